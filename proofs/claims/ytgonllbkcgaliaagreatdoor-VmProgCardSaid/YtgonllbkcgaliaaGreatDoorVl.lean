/- Contracts of functions, proved by walking their code. -/
import Derived.Test.YtgonllbkcgaliaaGreatDoorVk
import Derived.KernelRfl
set_option maxRecDepth 100000
set_option linter.unusedVariables false
set_option linter.unusedSimpArgs false
namespace Go.Proofs.YtgonllbkcgaliaaGreatDoor
open Go Go.RowKit Wx Go.Proofs.Tryz
attribute [local irreducible] Wx.lsH Wx.rsH Wx.stars
theorem Rv {f:Fnd}{N M:Nat}(h:f.le N)(hn:N≤M):f.le M:=by
 obtain ⟨h1,h2,h3,h4,h5,h6,h7,h8,h9,h10,h11,h12,h13⟩:=h
 exact ⟨by omega,by omega,by omega,by omega,by omega,by omega,by omega,by omega,by omega,by omega,by omega,by omega,h13⟩
theorem Rw {f:Fnd}{N:Nat}(h:f.le N)(w:Int):(f.fl w).le N:=by obtain ⟨x,hx⟩:=f.fl_eq w;rw [hx];exact h
theorem Fnd.fl_keep (f:Fnd)(w:Int):(f.fl w).locals=f.locals∧(f.fl w).stm=f.stm∧(f.fl w).names=f.names∧(f.fl w).ths=f.ths:=by obtain ⟨x,hx⟩:=f.fl_eq w;rw [hx];exact ⟨rfl,rfl,rfl,rfl⟩
theorem Kq {f:Fnd}{w:Int}(h:f.flaw=0):(f.fl w).flaw=w:=by unfold Fnd.fl;rw [if_pos h]
theorem Gv {f:Fnd}{N:Nat}(h:f.le N)(d:PDec):(f.decl1 d).1.le (N+1)∧(f.decl1 d).1.locals=f.locals∧(f.decl1 d).1.stm=f.stm∧(f.decl1 d).1.names=f.names:=by
 have hb:=(Rw (Rv h (Nat.le_succ N)) 134);have hk:=f.fl_keep 134
 obtain ⟨h1,h2,h3,h4,h5,h6,h7,h8,h9,h10,h11,h12,h13⟩:=h
 unfold Fnd.decl1
 split
 · split
   · exact ⟨hb,hk.1,hk.2.1,hk.2.2.1⟩
   exact ⟨⟨by simp;omega,by dsimp only;omega,by dsimp only;omega,by dsimp only;omega,by simp;omega,by dsimp only;omega,by dsimp only;omega,by dsimp only;omega,by dsimp only;omega,by dsimp only;omega,by dsimp only;omega,by dsimp only;omega,h13⟩,rfl,rfl,rfl⟩
 split
 · split
   · exact ⟨hb,hk.1,hk.2.1,hk.2.2.1⟩
   exact ⟨⟨by dsimp only;omega,by simp;omega,by dsimp only;omega,by dsimp only;omega,by dsimp only;omega,by simp;omega,by dsimp only;omega,by dsimp only;omega,by dsimp only;omega,by dsimp only;omega,by dsimp only;omega,by dsimp only;omega,by dsimp only;omega⟩,rfl,rfl,rfl⟩
 split
 · exact ⟨⟨by dsimp only;omega,by dsimp only;omega,by dsimp only;omega,by dsimp only;omega,by dsimp only;omega,by dsimp only;omega,by simp;omega,by dsimp only;omega,by dsimp only;omega,by dsimp only;omega,by dsimp only;omega,by dsimp only;omega,h13⟩,rfl,rfl,rfl⟩
 split
 · exact ⟨⟨by dsimp only;omega,by dsimp only;omega,by dsimp only;omega,by dsimp only;omega,by dsimp only;omega,by dsimp only;omega,by dsimp only;omega,by simp;omega,by dsimp only;omega,by dsimp only;omega,by dsimp only;omega,by dsimp only;omega,h13⟩,rfl,rfl,rfl⟩
 split
 · split
   · exact ⟨hb,hk.1,hk.2.1,hk.2.2.1⟩
   exact ⟨⟨by dsimp only;omega,by dsimp only;omega,by simp;omega,by dsimp only;omega,by dsimp only;omega,by dsimp only;omega,by dsimp only;omega,by dsimp only;omega,by simp;omega,by dsimp only;omega,by dsimp only;omega,by dsimp only;omega,h13⟩,rfl,rfl,rfl⟩
 split
 · exact ⟨⟨by dsimp only;omega,by dsimp only;omega,by dsimp only;omega,by simp;omega,by dsimp only;omega,by dsimp only;omega,by dsimp only;omega,by dsimp only;omega,by dsimp only;omega,by dsimp only;omega,by dsimp only;omega,by dsimp only;omega,h13⟩,rfl,rfl,rfl⟩
 exact ⟨⟨by dsimp only;omega,by dsimp only;omega,by dsimp only;omega,by dsimp only;omega,by dsimp only;omega,by dsimp only;omega,by dsimp only;omega,by dsimp only;omega,by dsimp only;omega,by dsimp only;omega,by dsimp only;omega,by dsimp only;omega,h13⟩,rfl,rfl,rfl⟩
theorem Em {f:Fnd}{d:PDec}(h:(f.decl1 d).2.2=true):(f.decl1 d).1.ths.length=f.ths.length+(if d.k=6 then 1 else 0)∧(f.decl1 d).1.flaw=f.flaw:=by
 unfold Fnd.decl1 at h⊢
 split at h
 · rename_i hk
   split at h
   · cases h
   rename_i h2;rw [if_pos hk,if_neg h2,if_neg (by omega)];exact ⟨rfl,rfl⟩
 rename_i k1;rw [if_neg k1]
 split at h
 · rename_i hk
   split at h
   · cases h
   rename_i h2;rw [if_pos hk,if_neg h2,if_neg (by omega)];exact ⟨rfl,rfl⟩
 rename_i k2;rw [if_neg k2]
 split at h
 · rename_i hk;rw [if_pos hk,if_neg (by omega)];exact ⟨rfl,rfl⟩
 rename_i k3;rw [if_neg k3]
 split at h
 · rename_i hk;rw [if_pos hk,if_neg (by omega)];exact ⟨rfl,rfl⟩
 rename_i k4;rw [if_neg k4]
 split at h
 · rename_i hk
   split at h
   · cases h
   rename_i h2;rw [if_pos hk,if_neg h2,if_neg (by omega)];exact ⟨rfl,rfl⟩
 rename_i k5;rw [if_neg k5]
 split at h
 · rename_i hk;rw [if_pos hk,if_pos hk];exact ⟨by simp,rfl⟩
 rename_i k6;rw [if_neg k6,if_neg k6];exact ⟨rfl,rfl⟩
theorem Nf {f:Fnd}{d:PDec}(h:(f.decl1 d).2.2=false):(f.decl1 d).1=f.fl 134:=by
 unfold Fnd.decl1 at h⊢
 (repeat' split at h)<;>first|(cases h;done)|(split<;>(try split)<;>(try split)<;>(try split)<;>(try split)<;>(try split)<;>(try split)<;>first|rfl|omega|(exfalso;omega))
theorem R7 {f:Fnd}{N:Nat}(h:f.le N)(d:PDec):(f.decl d).le (N+1)∧(f.decl d).locals=f.locals∧(f.decl d).stm=f.stm:=by
 have hu:=Rv h (Nat.le_succ N)
 obtain ⟨a1,a2,a3,a4⟩:=Gv h d
 unfold Fnd.decl
 split
 · exact ⟨Rw hu _,(f.fl_keep _).1,(f.fl_keep _).2.1⟩
 split
 · exact ⟨a1,a2,a3⟩
 split
 · exact ⟨Rw a1 _,((Fnd.fl_keep _ _).1).trans a2,((Fnd.fl_keep _ _).2.1).trans a3⟩
 obtain ⟨h1,h2,h3,h4,h5,h6,h7,h8,h9,h10,h11,h12,h13⟩:=a1
 have h10':=h.2.2.2.2.2.2.2.2.2.1
 exact ⟨⟨h1,h2,h3,h4,h5,h6,h7,h8,h9,by dsimp only;rw [a4];simp;omega,h11,h12,h13⟩,a2,a3⟩
theorem Tu {f:Fnd}{d:PDec}(hf:f.flaw=0)(h:(f.decl d).flaw=0):(f.decl d).ths.length=f.ths.length+(if d.k=6 then 1 else 0):=by
 unfold Fnd.decl at h⊢
 split at h
 · rw [Kq hf] at h;cases h
 rename_i k1;rw [if_neg k1]
 split at h
 · rename_i k2;rw [Nf k2,Kq hf] at h;cases h
 rename_i k2;rw [if_neg k2]
 have k3:=Em (f:=f) (d:=d) (by revert k2;cases (f.decl1 d).2.2<;>simp)
 split at h
 · rw [Kq (k3.2.trans hf)] at h;cases h
 rename_i k4;rw [if_neg k4]
 exact k3.1
mutual
theorem Oy: ∀ (x:Stm),x.sz≤x.er.nd
 | .mk k ln cl nm wt e ix body els ba bc ea ec id slot other loc=>by
  have h1:=Hy body;have h2:=Hy els
  simp only [Stm.sz,Stm.er,Hn];omega
theorem Hy: ∀ (l:List Stm),Z2 l≤Z3 (Zk l)
 | []=>Nat.zero_le _
 |x::r=>by
  have h1:=Oy x;have h2:=Hy r
  simp only [Z2,Zk,Z3];omega
end
theorem bad_no {d:PDec}(h:d.bad=false):(1≤d.k∧d.k≤6)∧(-2147483647≤d.n∧d.n≤2147483647)∧Vj d.body:=by
 unfold PDec.bad I0 at h
 simp only [Bool.or_eq_false_iff,decide_eq_false_iff_not,Bool.not_eq_false'] at h
 obtain ⟨⟨⟨⟨⟨⟨⟨⟨h1,h2⟩,_⟩,_⟩,h5⟩,h6⟩,_⟩,_⟩,h9⟩:=h
 exact ⟨by omega,by omega,Qz h9⟩
theorem parse_nd {l:Bs}{ds:List PDec}(h:Qf l=some ds):(ds.map fun d=>Z3 d.body+1).sum≤65536:=by
 unfold Qf at h
 split at h
 · cases h
 rename_i h0
 split at h
 · cases h
 rename_i ts h1
 split at h
 · cases h
 rename_i us h2
 split at h
 · cases h
 cases h
 have h3:=(Hk h1).1
 have h4:=(N8 (Nat.le_refl _) h2).1
 omega
theorem By {α:Type}{f:α→Nat}{x:α}: ∀ {l:List α},x∈l→f x≤(l.map f).sum
 |y::r,h=>by
  rcases List.mem_cons.1 h with rfl|h
  · simp
  have:=By (f:=f) h;simp only [List.map_cons,List.sum_cons];omega
theorem Ly {α:Type}{f:α→Nat}: ∀ {l:List α},l.length≤(l.map fun d=>f d+1).sum
 | []=>Nat.zero_le _
 |y::r=>by have:=Ly (f:=f) (l:=r);simp only [List.map_cons,List.sum_cons,List.length_cons];omega
def thB (l:List Dec):List (Sv Stm):=(l.filter fun d=>d.k==6).map fun d=>⟨d.body,d.ba,d.bc⟩
theorem thB_snoc {l:List Dec}{k:Nat}(h:k<l.length):thB (l.take (k+1))=thB (l.take k)++(if l[k].k=6 then [⟨l[k].body,l[k].ba,l[k].bc⟩] else []):=by
 rw [List.take_succ_eq_append_getElem h];unfold thB;rw [List.filter_append,List.map_append]
 congr 1
 by_cases hk:l[k].k=6
 · rw [if_pos hk];simp [hk]
 rw [if_neg hk];simp [hk]
theorem thB_len {l:List Dec}:(thB l).length≤l.length:=by unfold thB;rw [List.length_map];exact List.length_filter_le _ _
theorem thB_er (l:List Dec):((l.map Dec.er).filter fun d=>d.k==6).map (·.body)=(thB l).map fun x=>Zk x.l:=by
 unfold thB
 induction l with
 |nil=>rfl
 |cons d r ih=>
  rw [List.map_cons,List.filter_cons,List.filter_cons]
  have hd:(Dec.er d).k=d.k:=rfl
  rw [hd]
  split
  · rw [List.map_cons,List.map_cons,List.map_cons,ih];rfl
  exact ih
theorem thB_mem {l:List Dec}{x:Sv Stm}(h:x∈thB l): ∃ d∈l,x=⟨d.body,d.ba,d.bc⟩:=by
 unfold thB at h;obtain ⟨d,hd,rfl⟩:=List.mem_map.1 h;exact ⟨d,(List.mem_filter.1 hd).1,rfl⟩
def FC.z:FC:=⟨.z,.z,0,0,.z,.z,0,0,.z,.z,.z,.z,.z,.z,0,0,0,0,0,0⟩
def pgC (f:FC):List Value:= [f.vars.v,f.arrs.v,.int .i64 f.mu,.int .i64 f.co,f.chs.v,f.ths.v,.int .i64 f.main,.int .i64 f.stm,f.nv.v,f.na.v,f.nm.v,f.nc.v,f.nh.v]
theorem Td (M:Hp):FC.z.At M:=⟨Bq M,Bq M,Bq M,Bq M,(fun x hx=>(by cases hx)),Bq M,Bq M,Bq M,Bq M,Bq M,Bq M⟩
theorem FC.z_le:FC.z.er.le 0:=by simp [Fnd.le,FC.er,FC.z,Sv.z]
theorem FC.At.mo {M:Hp}{f:FC}{n:Int}(h:f.At M):({ f with most:=n } :FC).At M:=⟨h.vars,h.arrs,h.chs,h.ths,h.bod,h.nv,h.na,h.nm,h.nc,h.nh,h.names⟩
theorem FC.At.mn {M:Hp}{f:FC}{n:Int}(h:f.At M):({ f with main:=n } :FC).At M:=⟨h.vars,h.arrs,h.chs,h.ths,h.bod,h.nv,h.na,h.nm,h.nc,h.nh,h.names⟩
theorem Gk {f:Fnd}(h: ¬f.flaw=0): ∀ l,Fnd.decls f l=f
 | []=>rfl
 |d::r=>by unfold Fnd.decls;rw [if_neg h]
theorem Kg {f:Fnd}(h: ¬f.flaw=0)(i:Nat): ∀ l,Fnd.bodies f i l=f
 | []=>rfl
 |d::r=>by unfold Fnd.bodies;rw [if_neg h]
theorem Gn:(prog.info? 103).map (fun i=>(i.zero,i.size,i.bytes))=some (some (.slice none 0 0),1,24):=by kernel_rfl
section
variable {G:World}{q:List HP}{m:List Dec}{a:Option Addr}{c:Nat}
set_option maxHeartbeats 8000000 in
theorem find_ok (h:Kn q fun M=>DcsAt M a c m)(hs:((m.map Dec.er).map fun d=>Z3 d.body+1).sum≤65536):CallF prog G 59 [.slice a m.length c] (q) (Ret fun v q'=> ∃ (g:FC) (y z e:Int),v= .tuple [.agg (pgC g).toArray,.agg [Value.int .i64 y,.int .i64 z].toArray,.int .i64 e].toArray∧q'=fcM g::q∧(match Es (m.map Dec.er) with|none=>e≠0|some F=>e=0∧g.er=F)):=by
 refine CallF.of func59 ntmps59 rfl (fun F cs=> ?_)
 have hA:=P1 h;have hlen:=Zm (f:=dcC) (sz:=6) (fun _=>rfl) m;refine X.fact (fun w s=>Kn.dsL (h.le leA) s) (fun hal=> ?_)
 have hml:m.length≤65536:=by have:=Ly (f:=fun d=>Z3 d.body) (l:=m.map Dec.er);rw [List.length_map] at this;omega
 have hbz: ∀ d∈m,Z2 d.body≤65536:=fun d hd=>by have h1:=By (f:=fun d=>Z3 d.body+1) (List.mem_map_of_mem (f:=Dec.er) hd);have h2:=Hy d.body;have h3:(Dec.er d).body=Zk d.body:=rfl;rw [h3] at h1;omega
 obtain ⟨R,hR⟩: ∃ R,Es (m.map Dec.er)=R:=⟨_,rfl⟩;rw [hR];unfold Es at hR
 refine xo 2 ?_;refine Zy zeroValue59 fun n1=> ?_
 refine Zy zeroValue87 fun n2=> ?_
 refine oo 6 ?_;refine XO.cR call98 (mayD_ok (h.le leA)) ?_;refine ox 2 ?_;refine X.part 15 rfl (fun h0=> ?_) (fun h0=> ?_)
 · have hbad:(m.map Dec.er).any PDec.bad=true:=(by cases hx:(m.map Dec.er).any PDec.bad;rw [hx] at h0;exact absurd h0 (by decide);rfl);rw [if_pos hbad] at hR
   refine xo 5 ?_;refine stA ?_;refine stA ?_;refine ox 2 ?_;refine X.le (q':=fcM FC.z::_) (Kn.add (fun _ _ _=>Td _)) ?_
   refine Zq (fcM FC.z::q) func59 (M9 results59) ⟨_,rfl,FC.z,0,0,2,rfl,rfl,by rw [←hR];decide⟩
 have hbad:(m.map Dec.er).any PDec.bad=false:=(by cases hx:(m.map Dec.er).any PDec.bad;rfl;rw [hx] at h0;exact absurd h0 (by decide));rw [if_neg (by rw [hbad];decide)] at hR
 have hgood: ∀ d∈m,(1≤d.k∧d.k≤6)∧(-2147483647≤d.n∧d.n≤2147483647)∧Vj (Zk d.body):=fun d hd=>bad_no (d:=d.er) (by rw [List.any_eq_false] at hbad;simpa using hbad _ (List.mem_map_of_mem (f:=Dec.er) hd))
 refine xo 5 ?_;refine Zy zeroValue199 fun n3=> ?_
 refine stA ?_;refine ox 11 ?_;refine X.at (X.loop (fun (s:(Nat×FC)×(Option Addr×Nat×List (Sv Stm))×Option Addr)=>s.1.1≤m.length∧s.2.2=a∧s.2.1.2.2=thB (m.take s.1.1)∧Fnd.decls .z (m.map Dec.er)=Fnd.decls s.1.2.er ((m.drop s.1.1).map Dec.er)∧s.1.2.er.le s.1.1∧(s.1.2.locals=0∧s.1.2.stm=0)∧(s.1.2.flaw=0→s.2.1.2.2.length=s.1.2.ths.l.length)) (fun s=> [(0,.slice s.2.2 m.length c),(2,.pointer (some ⟨n1,0,none⟩)),(3,.pointer (some ⟨n2,0,none⟩)),(4,.int .i64 0),(5,.pointer (some ⟨n3,0,none⟩)),(6,.slice s.2.1.1 s.2.1.2.2.length s.2.1.2.1),(7,.int .i64 (s.1.1:Int))]) (fun s=>lsH (@Sv.v Stm) 103 s.2.1.1 s.2.1.2.1 s.2.1.2.2::fcM s.1.2::pto n3 (.cells (fcC s.1.2).toArray 199 (0,0))::pto n1 (.cells [.slice none 0 0,.slice none 0 0,.int .i64 0,.int .i64 0,.slice none 0 0,.slice none 0 0,.int .i64 0,.int .i64 0,.slice none 0 0,.slice none 0 0,.slice none 0 0,.slice none 0 0,.slice none 0 0].toArray 59 (0,0))::pto n2 (.cells [.int .i64 0,.int .i64 0].toArray 87 (0,0))::(q++F)) (fun s=>m.length - s.1.1) (fun s hi_ ih=> ?_) ((0,FC.z),(none,0, []),a) ⟨Nat.zero_le _,rfl,rfl,rfl,FC.z_le,⟨rfl,rfl⟩,fun _=>rfl⟩) Zt (Le.trans leA (Le.trans (Yw (@Sv.v Stm) 103 _) (Le.trans (Kn.add (φ:=fun M=>FC.z.At M) (mn:=fun e h=>FC.At.mono e h) (fun _ _ _=>Td _)) leA)))
 try dsimp only at hi_ ih⊢
 obtain ⟨hi1,hi2,hi3,hi4,hi5,⟨hi6,hi7⟩,hi8⟩:=hi_
 obtain ⟨⟨k,g⟩,⟨ab,cb,B⟩,a2⟩:=s;dsimp only at*;subst hi2;have hBl:B.length≤65536:=(by rw [hi3];exact Nat.le_trans thB_len (by rw [List.length_take];omega))
 refine xo 8 ?_;refine Zf [23,0,2,3,4,5,6,7] ?_
 apply Zg 4 27 23 rfl
 · intro g1 M1;have h1:=sp g1
   refine oo 1 ?_;refine ld ?_;refine oo 2 ?_;exact Zz M1 ⟨Yd g1,Zv⟩
 · intro g1 M1;have h1:=sp g1
   refine oo 4 ?_;exact Zz M1 ⟨Yc g1,Zv⟩
 refine ox 1 ?_;refine X.part 27 rfl (fun h0=> ?_) (fun h0=> ?_)
 · obtain ⟨hlt,h9⟩:k<m.length∧g.flaw=0:=(by rw [Bool.and_eq_true] at h0;exact ⟨by simpa using h0.1,by simpa using h0.2⟩)
   have hgd:=hgood _ (List.getElem_mem hlt);have hsn:=thB_snoc hlt
   refine xx 5 ?_;refine drw ?_;refine Z4 0 ?_;refine dd [1,2] ?_;refine Yp hA (by rw [hlen];omega) (fun b1 o1 e1=> ?_);subst e1
   have hrw: ∀ (Q:List HP),Le Q q→ ∀ (j:Nat) (v:Value),nth (dcC m[k]) j=some v→Cl Q ⟨b1,o1+(k:Int).toNat*6+j,none⟩ v:=fun Q hQ j v hv=>Yi hA hQ (fun _=>rfl) hlt rfl j v (by rw [←Vn];exact hv)
   refine dd [3] ?_;refine XD.rdCs 4 (us:=dcC m[k]) rfl rfl isAgg188 sizeOf188 rfl (fun k v hk=>hrw _ leA k v (by rw [Vn];exact hk)) ?_
   refine Yf 5 call99 (Le.refl _) (Pv (f:=g) (d:=m[k]) knA (Rv hi5 (by omega)) hgd.1 hgd.2.1) ?_
   rintro _ _ ⟨g2,rfl,rfl,hg2⟩
   refine ⟨trivial,?_⟩
   refine Z9 6 ?_;refine XD.nil ?_;refine xo 4 ?_
   skip
   refine oo 2 ?_;refine ld ?_;refine ox 2 ?_;refine X.part 41 rfl (fun h1=> ?_) (fun h1=> ?_)
   · replace h1:=sp h1
     refine xo 7 ?_;refine ld ?_;refine XO.ef (Yj (@Sv.v Stm) [⟨m[k].body,m[k].ba,m[k].bc⟩] underlying200 Gn rfl rfl rfl rfl rfl rfl (fun _=>rfl)) ?_
     rintro _ _ ⟨gl,rfl,rfl⟩
     refine XO.ef (Yt (f:= @Sv.v Stm) (l:=B) (m:= [⟨m[k].body,m[k].ba,m[k].bc⟩]) underlying200 Gn rfl rfl rfl Zw ((Sees.lsH _).le Zw) (fun _=>rfl) (by simp;omega) (by simp;omega)) ?_
     rintro _ _ ⟨a3,c3,rfl,rfl⟩
     refine ox 8 ?_
     have hdl:=R7 hi5 m[k].er;rw [←hg2] at hdl;obtain ⟨hd1,hd2,hd3⟩:=hdl
     have hds:Fnd.decls g.er ((m.drop k).map Dec.er)=Fnd.decls g2.er ((m.drop (k+1)).map Dec.er):=by rw [List.drop_eq_getElem_cons hlt,List.map_cons,Fnd.decls,if_pos (show g.er.flaw=0 from h9),hg2]
     have hth:g2.flaw=0→g2.ths.l.length=g.ths.l.length+1:=fun hx=>by have:=Tu (f:=g.er) (d:=m[k].er) h9 (by rw [←hg2];exact hx);rw [←hg2,if_pos (show m[k].er.k=6 from (by simpa using h1:m[k].k=6))] at this;simpa [FC.er] using this
     refine X.at (ih ((k+1,g2),(a3,c3,B++ [⟨m[k].body,m[k].ba,m[k].bc⟩]),_) ⟨by dsimp only;omega,rfl,by dsimp only;rw [hsn,if_pos (show m[k].k=6 by simpa using h1),←hi3],hi4.trans hds,hd1,⟨hd2.trans hi6,hd3.trans hi7⟩,fun hx=>by have h1:=hth hx;have h2:=hi8 h9;simp;omega⟩ (by dsimp only;omega)) Zt leA
   replace h1:=sp h1
   refine xx 8 ?_
   have hdl:=R7 hi5 m[k].er;rw [←hg2] at hdl;obtain ⟨hd1,hd2,hd3⟩:=hdl
   have hds:Fnd.decls g.er ((m.drop k).map Dec.er)=Fnd.decls g2.er ((m.drop (k+1)).map Dec.er):=by rw [List.drop_eq_getElem_cons hlt,List.map_cons,Fnd.decls,if_pos (show g.er.flaw=0 from h9),hg2]
   have hth:g2.flaw=0→g2.ths.l.length=g.ths.l.length+0:=fun hx=>by have:=Tu (f:=g.er) (d:=m[k].er) h9 (by rw [←hg2];exact hx);rw [←hg2,if_neg (show ¬m[k].er.k=6 from (by simpa using h1: ¬m[k].k=6))] at this;simpa [FC.er] using this
   refine X.at (ih ((k+1,g2),(ab,cb,B),_) ⟨by dsimp only;omega,rfl,by dsimp only;rw [hsn,if_neg (show ¬m[k].k=6 by simpa using h1),←hi3];simp,hi4.trans hds,hd1,⟨hd2.trans hi6,hd3.trans hi7⟩,fun hx=>by have h1:=hth hx;have h2:=hi8 h9;simp;omega⟩ (by dsimp only;omega)) Zt leA
 have hD:Fnd.decls .z (m.map Dec.er)=g.er:=by
  rcases Nat.lt_or_ge k m.length with hlt|hlt
  · rw [hi4];exact Gk (fun hg=>by revert h0;rw [decide_eq_true (show (k:Int)<m.length by omega),show g.flaw=0 from hg];decide) _
  rw [hi4,List.drop_eq_nil_of_le hlt];rfl
 have hB:g.flaw=0→B=thB m:=fun hg=>by rw [hi3,List.take_of_length_le];rcases Nat.lt_or_ge k m.length with hlt|hlt;(revert h0;rw [decide_eq_true (show (k:Int)<m.length by omega),show g.flaw=0 from hg];intro hx;exact absurd hx (by decide));exact hlt
 rw [hD,thB_er] at hR;clear ih hi4
 refine xo 4 ?_;refine ldA ?_;refine XO.cR call100 (Sp (f:=g) (s:=Kl) knA) ?_
 refine ox 3 ?_;obtain ⟨A,hA2⟩: ∃ A,g.er.at Kl=A:=⟨_,rfl⟩;rw [hA2] at hR⊢
 obtain ⟨f1,hf1⟩: ∃ f1,(if g.er.flaw=0∧(A=0∨((g.er.names.map (·.k)).getD (A - 1) 0)≠6) then g.er.fl 133 else g.er)=f1:=⟨_,rfl⟩;rw [hf1] at hR
 refine X.join (fun (x:FC)=> [(2,.pointer (some ⟨n1,0,none⟩)),(3,.pointer (some ⟨n2,0,none⟩)),(4,.int .i64 0),(5,.pointer (some ⟨n3,0,none⟩)),(6,.slice ab B.length cb),(8,.int .i64 ((A:Int) - 1))]) (fun x=>lsH (@Sv.v Stm) 103 ab cb B::fcM x::pto n3 (.cells (fcC x).toArray 199 (0,0))::pto n1 (.cells [.slice none 0 0,.slice none 0 0,.int .i64 0,.int .i64 0,.slice none 0 0,.slice none 0 0,.int .i64 0,.int .i64 0,.slice none 0 0,.slice none 0 0,.slice none 0 0,.slice none 0 0,.slice none 0 0].toArray 59 (0,0))::pto n2 (.cells [.int .i64 0,.int .i64 0].toArray 87 (0,0))::(q++F)) (fun x=>x.er=f1) (fun x hx_=> ?_) (fun K=> ?_)
 · have hk:f1.locals=0∧f1.stm=0∧f1.names=g.er.names∧f1.ths=g.er.ths:=by rw [←hf1];split;exact ⟨(Fnd.fl_keep _ _).1.trans hi6,(Fnd.fl_keep _ _).2.1.trans hi7,(Fnd.fl_keep _ _).2.2.1,(Fnd.fl_keep _ _).2.2.2⟩;exact ⟨hi6,hi7,rfl,rfl⟩
   have hfl:f1.flaw=0→g.flaw=0∧A≠0:=(by rw [←hf1];split;(rename_i hx;intro hy;rw [Kq hx.1] at hy;cases hy);(rename_i hx;intro hy;exact ⟨hy,fun hz=>hx ⟨hy,.inl hz⟩⟩))
   have hbo:Fnd.bodies f1 0 ((thB m).map fun x=>Zk x.l)=Fnd.bodies f1 0 (B.map fun x=>Zk x.l):=(by by_cases hx:f1.flaw=0;rw [hB (hfl hx).1];rw [Kg hx,Kg hx])
   have hth:f1.flaw=0→B.length≤f1.ths.length:=fun hx=>(by rw [hk.2.2.2];have:=hi8 (hfl hx).1;simp only [FC.er,List.length_map];omega);have hBm:f1.flaw=0→B=thB m:=fun hx=>hB (hfl hx).1;have hAn:A≤f1.names.length:=(by rw [←hA2,hk.2.2.1];exact Ka);have hthu:f1.ths.length≤65536:=(by rw [hk.2.2.2];have:=hi5.2.2.2.1;omega);have hnl:f1.names.length≤65536:=(by rw [hk.2.2.1];have:=hi5.2.2.2.2.2.2.2.2.2.1;omega)
   rw [hbo] at hR;obtain ⟨hk1,hk2,hk3,hk4⟩:=hk;have hA0:f1.flaw=0→A≠0:=fun hx=>(hfl hx).2;clear hf1 hD hB hfl hi5 hi6 hi7 hi8 hi3 hbo hk3 hk4 h0 hA2
   refine xx 6 ?_;refine X.at (X.loop (fun (s:Nat×FC)=>s.1≤B.length∧Fnd.bodies f1 0 (B.map fun x=>Zk x.l)=Fnd.bodies s.2.er s.1 ((B.drop s.1).map fun x=>Zk x.l)∧s.2.er.names=f1.names∧(s.2.er.locals=0∧0≤s.2.er.stm)∧(s.2.er.flaw=0→f1.flaw=0)∧s.2.er.ths.length=f1.ths.length) (fun s=> [(2,.pointer (some ⟨n1,0,none⟩)),(3,.pointer (some ⟨n2,0,none⟩)),(4,.int .i64 0),(5,.pointer (some ⟨n3,0,none⟩)),(6,.slice ab B.length cb),(8,.int .i64 ((A:Int) - 1)),(9,.int .i64 (s.1:Int))]) (fun s=>lsH (@Sv.v Stm) 103 ab cb B::fcM s.2::pto n3 (.cells (fcC s.2).toArray 199 (0,0))::pto n1 (.cells [.slice none 0 0,.slice none 0 0,.int .i64 0,.int .i64 0,.slice none 0 0,.slice none 0 0,.int .i64 0,.int .i64 0,.slice none 0 0,.slice none 0 0,.slice none 0 0,.slice none 0 0,.slice none 0 0].toArray 59 (0,0))::pto n2 (.cells [.int .i64 0,.int .i64 0].toArray 87 (0,0))::(q++F)) (fun s=>B.length - s.1) (fun s hi_ ih=> ?_) (0,x) ⟨Nat.zero_le _,by dsimp only;rw [hx_];rfl,by dsimp only;rw [hx_],by dsimp only;rw [hx_,hk1,hk2];decide,by dsimp only;rw [hx_];exact id,by dsimp only;rw [hx_]⟩) Zt leA
   try dsimp only at hi_ ih⊢
   obtain ⟨hj1,hj2,hj3,⟨hj4,hj5⟩,hj6,hj7⟩:=hi_
   obtain ⟨i,g⟩:=s;dsimp only at*
   refine xo 8 ?_;refine Zf [75,2,3,4,5,6,8,9] ?_
   apply Zg 4 79 75 rfl
   · intro g1 M1;have h1:=sp g1
     refine oo 1 ?_;refine ld ?_;refine oo 2 ?_;exact Zz M1 ⟨Yd g1,Zv⟩
   · intro g1 M1;have h1:=sp g1
     refine oo 4 ?_;exact Zz M1 ⟨Yc g1,Zv⟩
   refine ox 1 ?_;refine X.part 79 rfl (fun h0=> ?_) (fun h0=> ?_)
   · obtain ⟨hlt,h9⟩:i<B.length∧g.flaw=0:=(by rw [Bool.and_eq_true] at h0;exact ⟨by simpa using h0.1,by simpa using h0.2⟩)
     have hz1:=hj6 h9;have hz2:=hth hz1;have hmem: ∀ x∈B,∃ d∈m,x=⟨d.body,d.ba,d.bc⟩:=fun x hx=>thB_mem (by rw [←hBm hz1];exact hx);obtain ⟨d,hd,hbd⟩:=hmem _ (List.getElem_mem hlt)
     obtain ⟨x2,hx2⟩: ∃ y,B[i]=y:=⟨_,rfl⟩;rw [hx2] at hbd;have hbk:Kn q fun M=>BlkAt M x2.a x2.c x2.l:=(by rw [hbd];exact h.imp fun M h=>h.2 _ hd);have hth2:Vj (Zk x2.l):=(by rw [hbd];exact (hgood d hd).2.2);have hsz2:Z2 x2.l≤65536:=(by rw [hbd];exact hbz d hd)
     have hgt:g.ths.l.length=g.er.ths.length:=(List.length_map _).symm;have hgn:g.names.l.length≤65536:=(by rw [show g.names.l=f1.names from hj3];exact hnl);replace hj4:g.locals=0:=hj4;replace hj5:0≤g.stm:=hj5
     refine Qd (fl:= @Sv.v Stm) (l:=B) (a:=ab) (by omega) (fun gb e_=> ?_);subst e_
     refine xo 7 ?_;refine st ?_;refine ox 2 ?_;refine drw ?_;refine Z4 0 ?_;refine dd [1,2,3] ?_;refine ldD 4 ?_ (hc:=(Cl.e1 (n:=i) (Sees.lsH _) Zw hlt rfl))
     refine XD.know 88 (.slice x2.a x2.l.length x2.c) rfl (by rw [hx2];rfl) ?_
     refine Yy (fl:= [⟨9,10,fun g=> .pointer (some ⟨g,0,none⟩),fun g=>pto g (.cells [.slice none 0 0,.slice none 0 0,.int .i64 0,.int .i64 0,.slice none 0 0,.slice none 0 0,.int .i64 0,.int .i64 0,.slice none 0 0,.slice none 0 0,.slice none 0 0,.slice none 0 0,.slice none 0 0,.slice none 0 0,.int .i64 0,.int .i64 0,.int .i64 0,.int .i64 0,.int .i64 0,.int .i64 0].toArray 199 (0,0))⟩]) ?_
     refine Jd 5 ⟨⟨_,rfl,rfl,rfl,rfl,rfl,rfl,fun q=>Ef.alloc zeroValue199⟩,trivial⟩ call102 (Le.refl _) ((I5 _).2 x2.l x2.a x2.c (Nat.le_refl _) hth2 (f:=({ g with most:=0 } :FC)) (Kn.imp (φ:=fun M=>g.At M) knA fun M h=>FC.At.mo h) (Kn.le hbk) ⟨by dsimp only;omega,⟨by dsimp only;omega,by dsimp only;omega⟩,hj5⟩) ?_ (hL:=hlR)
     rintro _ _ ⟨g2,b2,d2,m2,rfl,rfl,hge⟩
     refine ⟨trivial,?_⟩
     refine Mq 6 ⟨⟨_,rfl,rfl,rfl,rfl,rfl,rfl,fun q=>Ef.alloc zeroValue199⟩,trivial⟩ (Pu.move rfl) ?_
     refine Mq 7 ⟨⟨_,rfl,rfl,rfl,rfl,rfl,rfl,fun q=>Ef.alloc zeroValue199⟩,trivial⟩ (Pu.extract rfl rfl) ?_
     refine Mq 8 ⟨⟨_,rfl,rfl,rfl,rfl,rfl,rfl,fun q=>Ef.alloc zeroValue199⟩,trivial⟩ (Pu.extract rfl rfl) ?_
     refine Wv (e0:=⟨9,10,fun g=> .pointer (some ⟨g,0,none⟩),fun g=>pto g (.cells [.slice none 0 0,.slice none 0 0,.int .i64 0,.int .i64 0,.slice none 0 0,.slice none 0 0,.int .i64 0,.int .i64 0,.slice none 0 0,.slice none 0 0,.slice none 0 0,.slice none 0 0,.slice none 0 0,.slice none 0 0,.int .i64 0,.int .i64 0,.int .i64 0,.int .i64 0,.int .i64 0,.int .i64 0].toArray 199 (0,0))⟩) (hnd:=by simp) 9 ⟨⟨_,rfl,rfl,rfl,rfl,rfl,rfl,fun q=>Ef.alloc zeroValue199⟩,trivial⟩ (fun ga=> ?_)
     change XF _ _ _ _ _ _ _ [] _ _ _ ((10,.pointer (some ⟨ga,0,none⟩))::_) _ _ (pto ga (.cells [.slice none 0 0,.slice none 0 0,.int .i64 0,.int .i64 0,.slice none 0 0,.slice none 0 0,.int .i64 0,.int .i64 0,.slice none 0 0,.slice none 0 0,.slice none 0 0,.slice none 0 0,.slice none 0 0,.slice none 0 0,.int .i64 0,.int .i64 0,.int .i64 0,.int .i64 0,.int .i64 0,.int .i64 0].toArray 199 (0,0))::_)
     refine XF.back ?_;refine Z9 10 ?_;refine dd [11] ?_;refine XD.nil ?_;refine xo 2 ?_;refine ldA ?_;refine stA ?_;refine oo 5 ?_;refine ld ?_
     have hg2:g2.ths.l.length=f1.ths.length:=(by rw [←hj7];have:=congrArg List.length (show g2.er.ths=g.er.ths from (congrArg (fun x=>x.1.ths) hge).trans (Fnd.To.blk (Zk x2.l) _).e.2.2.2.2.2.1);rw [show g2.er.ths.length=g2.ths.l.length from List.length_map _] at this;exact this)
     refine XO.le (q':=rsH thC 3 105 none 0 []::_) (Wq thC 3 105 _) ?_
     refine XO.ef (Z5 (f:=thC) (l:= []) (m:=g2.ths.l) underlying54 Hs rfl rfl (fun _=>rfl) rfl rfl Zw (Sv.sees (Kn.imp (φ:=fun M=>g2.At M) knA fun M h=>h.ths)) (fun _=>rfl) (by simp;omega) (by simp;omega)) ?_
     rintro _ _ ⟨at2,ct2,rfl,rfl⟩
     rw [List.nil_append]
     refine ox 3 ?_;refine drw ?_;refine dd [0,1,2,3,4,5] ?_;refine ldD 6 ?_
     have hit:i<g2.ths.l.length:=(by omega);obtain ⟨y,hy⟩: ∃ y,g2.ths.l[i]=y:=⟨_,rfl⟩
     refine XD.rsadr (fl:=thC) (sz:=3) (l:=g2.ths.l) (a:=at2) (by omega) (fun gt e_=> ?_);subst e_
     refine dd [7,8] ?_;refine XD.ef0 9 rfl (S0 (f:=thC) (l:=g2.ths.l) (u:=⟨y.nm,y.loc,m2,b2,d2⟩) (n:=i) (k:=2) rfl rfl sizeOf103 (fun _=>rfl) rfl hit rfl (by rw [hy];rfl) rfl rfl Zw) ?_
     rintro _ _ ⟨rfl,rfl⟩
     refine ⟨hlR,?_⟩
     refine dd [10,11] ?_;refine XD.ef0 12 rfl (S0 (f:=thC) (l:=g2.ths.l.set i ⟨y.nm,y.loc,m2,b2,d2⟩) (u:=⟨y.nm,g2.most,m2,b2,d2⟩) (n:=i) (k:=1) rfl rfl sizeOf3 (fun _=>rfl) rfl (by rw [List.length_set];exact hit) rfl (by rw [List.getElem_set_self];rfl) rfl rfl Zw) ?_
     rintro _ _ ⟨rfl,rfl⟩
     refine ⟨trivial,?_⟩
     refine XD.know 12 (.slice (some ⟨gt,0,none⟩) ((g2.ths.l.set i ⟨y.nm,y.loc,m2,b2,d2⟩).set i ⟨y.nm,g2.most,m2,b2,d2⟩).length ct2) rfl (by rw [List.length_set,List.length_set]) ?_
     refine XD.nil ?_;refine xo 4 ?_;refine st ?_;refine ox 7 ?_;refine E2 ?_;refine X.le (q':=fcM ({ g2 with ths:=⟨(g2.ths.l.set i ⟨y.nm,y.loc,m2,b2,d2⟩).set i ⟨y.nm,g2.most,m2,b2,d2⟩,some ⟨gt,0,none⟩,ct2⟩ } :FC)::_) (Kn.add ((Kn.and (φ:=fun M=>g2.At M) knA (Kn.and (svK (x:=⟨(g2.ths.l.set i ⟨y.nm,y.loc,m2,b2,d2⟩).set i ⟨y.nm,g2.most,m2,b2,d2⟩,some ⟨gt,0,none⟩,ct2⟩) (f:=thC)) (show Kn _ fun M=>BlkAt M b2 d2 m2 from knA))).imp fun M h=>FC.At.t h.1 h.2.1 (fun z hz=>by rcases List.mem_or_eq_of_mem_set hz with hz|hz;rcases List.mem_or_eq_of_mem_set hz with hz|hz;exact h.1.bod z hz;rw [hz];exact h.2.2;rw [hz];exact h.2.2))) ?_
     have hLL:((g2.ths.l.set i ⟨y.nm,y.loc,m2,b2,d2⟩).set i ⟨y.nm,g2.most,m2,b2,d2⟩).map Th.er=(g2.ths.l.map Th.er).set i ⟨y.nm,g2.most,Zk m2⟩:=by rw [List.set_set,List.map_set];rfl
     have hnm:((g2.ths.l.map Th.er).getD i ⟨em,0, []⟩).nm=y.nm:=by rw [gD (by simpa using hit)];simp [hy,Th.er]
     have hst:Fnd.bodies f1 0 (B.map fun x=>Zk x.l)=Fnd.bodies ({ g2 with ths:=⟨(g2.ths.l.set i ⟨y.nm,y.loc,m2,b2,d2⟩).set i ⟨y.nm,g2.most,m2,b2,d2⟩,some ⟨gt,0,none⟩,ct2⟩ } :FC).er (i+1) ((B.drop (i+1)).map fun x=>Zk x.l):=by
      rw [hj2,List.drop_eq_getElem_cons hlt,List.map_cons,Fnd.bodies,if_pos (show g.er.flaw=0 from h9),hx2];dsimp only;rw [show Fnd.block { g.er with most:=0 } (Zk x2.l)=(g2.er,Zk m2) from hge.symm];congr 1;simp only [FC.er,hLL];rw [hnm]
     refine X.at (ih (i+1,({ g2 with ths:=⟨(g2.ths.l.set i ⟨y.nm,y.loc,m2,b2,d2⟩).set i ⟨y.nm,g2.most,m2,b2,d2⟩,some ⟨gt,0,none⟩,ct2⟩ } :FC)) ⟨by dsimp only;omega,hst,(congrArg (fun x=>x.1.names) hge).trans hj3,⟨(congrArg (fun x=>x.1.locals) hge).trans hj4,by have h1:=(Fnd.To.blk (Zk x2.l) ({ g with most:=0 } :FC).er).s;have h2:g2.er.stm=_:=congrArg (fun x=>x.1.stm) hge;show 0≤g2.er.stm;rw [h2];exact Int.le_trans hj5 h1⟩,fun _=>hz1,by show (((g2.ths.l.set i ⟨y.nm,y.loc,m2,b2,d2⟩).set i ⟨y.nm,g2.most,m2,b2,d2⟩).map Th.er).length=_;rw [List.length_map,List.length_set,List.length_set];exact hg2⟩ (by dsimp only;omega)) Zt leA
   have hE:Fnd.bodies f1 0 (B.map fun x=>Zk x.l)=g.er:=by
    rcases Nat.lt_or_ge i B.length with hlt|hlt
    · rw [hj2];exact Kg (fun hg=>by revert h0;rw [decide_eq_true (show (i:Int)<B.length by omega),show g.flaw=0 from hg];decide) _ _
    rw [hj2,List.drop_eq_nil_of_le hlt];rfl
   rw [hE] at hR;clear ih hj2
   refine xo 6 ?_;refine ld ?_;refine ox 2 ?_;refine X.part 113 rfl (fun h1=> ?_) (fun h1=> ?_)
   · replace h1:=sp h1;rw [if_pos (show g.er.flaw≠0 from h1)] at hR
     refine xx 2 ?_;refine drw ?_;refine dd [0,1] ?_;refine Z4 2 ?_;refine dd [3] ?_;refine ldD 4 ?_;refine Z9 5 ?_;refine Z9 6 ?_;refine dd [7] ?_;refine XD.nil ?_;refine X.le (q':=fcM FC.z::_) (Kn.add (fun _ _ _=>Td _)) ?_
     refine Zq (fcM FC.z::q) func59 (M9 results59) ⟨_,rfl,FC.z,g.pl,g.pc,g.flaw,rfl,rfl,by rw [←hR];exact h1⟩
   replace h1:=sp h1;rw [if_neg (show ¬g.er.flaw≠0 from fun hx=>hx h1)] at hR;have hz1:=hj6 h1;have hz2:=hA0 hz1
   have hN:Kn (fcM g::q) fun M=>g.names.At M nmC:=Kn.imp (φ:=fun M=>g.At M) knA fun M h=>h.names;have hA3:=Sv.sees hN;have hlen3:=Zm (f:=nmC) (sz:=3) (fun _=>rfl) g.names.l
   obtain ⟨⟨nl,na,nc⟩,hf⟩: ∃ x,g.names=x:=⟨_,rfl⟩;rw [hf] at hA3 hlen3;dsimp only at hA3 hlen3;have hgn:g.er.names=nl:=(by simp only [FC.er,hf])
   obtain ⟨j,hj⟩: ∃ j,A=j+1:=⟨A - 1,by omega⟩;have hlt:j<nl.length:=(by rw [←hgn,hj3];omega)
   refine xo 5 ?_;refine ld ?_;refine XO.know 120 (.slice na nl.length nc) rfl (by show g.names.v=_;rw [hf];rfl) ?_
   refine oo 1 ?_;refine XO.know 121 (.int .i64 (j:Int)) rfl (congrArg (Value.int .i64) (by omega)) ?_
   refine Yz hA3 (by rw [hlen3];omega) (fun b3 o3 e3=> ?_);subst e3
   refine oo 2 ?_;refine ld ?_ (hc:=(Yi (n:=j) hA3 leA (fun _=>rfl) hlt rfl 2 _ rfl))
   refine oo 2 ?_;refine st ?_;refine oo 4 ?_;refine ldA ?_;refine oo 1 ?_;refine stA ?_;refine stA ?_;refine ox 2 ?_;refine X.le (q':=fcM ({ g with main:=nl[j].s } :FC)::_) (Kn.add (Kn.imp (φ:=fun M=>g.At M) knA fun M h=>FC.At.mn h)) ?_
   refine Zq (fcM ({ g with main:=nl[j].s } :FC)::q) func59 (M9 results59) ⟨_,rfl,({ g with main:=nl[j].s } :FC),0,0,0,rfl,rfl,by rw [←hR,hgn,hj,Nat.add_sub_cancel,gD (by simpa using hlt)];refine ⟨rfl,?_⟩;simp [FC.er,hf]⟩
 have hN:Kn (fcM g::q) fun M=>g.names.At M nmC:=Kn.imp (φ:=fun M=>g.At M) knA fun M h=>h.names;have hA3:=Sv.sees hN;have hlen3:=Zm (f:=nmC) (sz:=3) (fun _=>rfl) g.names.l
 obtain ⟨⟨nl,na,nc⟩,hf⟩: ∃ x,g.names=x:=⟨_,rfl⟩;rw [hf] at hA3 hlen3;dsimp only at hA3 hlen3;have hgn:g.er.names=nl:=by simp only [FC.er,hf]
 have hAl:A≤nl.length:=by rw [←hA2,←hgn];exact Ka
 refine xo 3 ?_;refine ld ?_;refine oo 2 ?_;refine XO.part 55 rfl (fun h1=> ?_) (fun h1=> ?_)
 · replace h1:=sp h1
   refine oo 3 ?_;refine XO.part 58 rfl (fun h2=> ?_) (fun h2=> ?_)
   · replace h2:=sp h2
     refine oo 12 ?_;refine ldA ?_;refine oo 1 ?_;refine Zh call101 (Le.refl _) (Um (f:=g) knA) ?_
     rintro _ _ ⟨g2,rfl,rfl,hg2⟩
     refine stA ?_;refine ox 1 ?_
     -- ['guard T', 'guard T']
     exact X.at (K g2 (by rw [←hf1,if_pos (by exact ⟨h1,.inl (by omega)⟩)];exact hg2)) Zt leA
   replace h2:=sp h2
   refine oo 1 ?_;refine ld ?_;refine XO.know 60 (.slice na nl.length nc) rfl (by show g.names.v=_;rw [hf];rfl) ?_
   obtain ⟨i,hi⟩: ∃ i,A=i+1:=⟨A - 1,by omega⟩;have hlt:i<nl.length:=by omega
   refine oo 1 ?_;refine XO.know 61 (.int .i64 (i:Int)) rfl (congrArg (Value.int .i64) (by omega)) ?_
   refine Yz hA3 (by rw [hlen3];omega) (fun b3 o3 e3=> ?_);subst e3
   refine oo 2 ?_;refine ld ?_ (hc:=(Yi (n:=i) hA3 leA (fun _=>rfl) hlt rfl 1 _ rfl))
   refine ox 4 ?_;refine X.part 67 rfl (fun h3=> ?_) (fun h3=> ?_)
   · replace h3:=sp h3
     refine xo 2 ?_;refine ldA ?_;refine oo 1 ?_;refine Zh call101 (Le.refl _) (Um (f:=g) knA) ?_
     rintro _ _ ⟨g2,rfl,rfl,hg2⟩
     refine stA ?_;refine ox 1 ?_
     -- ['guard T', 'guard F', 'adr3', 'cond T']
     exact X.at (K g2 (by rw [←hf1,if_pos (by refine ⟨h1,.inr ?_⟩;rw [hgn,hi,Nat.add_sub_cancel,gD (by simpa using hlt)];simpa using h3)];exact hg2)) Zt leA
   replace h3:=sp h3
   refine xx 2 ?_
   -- ['guard T', 'guard F', 'adr3', 'cond F']
   exact X.at (K g (by rw [←hf1,if_neg (by rintro ⟨_,hx|hx⟩;omega;revert hx;rw [hgn,hi,Nat.add_sub_cancel,gD (by simpa using hlt)];simpa using h3)])) Zt leA
 replace h1:=sp h1
 refine ox 15 ?_
 -- ['guard F']
 exact X.at (K g (by rw [←hf1,if_neg (by exact fun hx=>h1 hx.1)])) Zt leA
variable {s:ByteArray}
set_option maxHeartbeats 1000000 in
theorem text_ok:CallF prog G 31 [.string s] (q) (Ret fun v q'=> ∃ (g:FC) (y z e:Int),v= .tuple [.agg (pgC g).toArray,.agg [Value.int .i64 y,.int .i64 z].toArray,.int .i64 e].toArray∧q'=fcM g::q∧(match M8 (bs s) with|none=>e≠0|some F=>e=0∧g.er=F)):=by
 refine CallF.of func31 ntmps31 rfl (fun F cs=> ?_)
 obtain ⟨R,hR⟩: ∃ R,M8 (bs s)=R:=⟨_,rfl⟩;rw [hR];unfold M8 at hR
 refine xo 2 ?_;refine Zy zeroValue59 fun n1=> ?_
 refine Zy zeroValue87 fun n2=> ?_
 refine oo 5 ?_;refine Zh call58 (Le.refl _) (Parse_ok) ?_;rintro _ _ (⟨ds_,a,c,hP,rfl,rfl⟩|⟨hP,y,z,e,he,rfl,rfl⟩)
 · rw [hP] at hR;dsimp only at hR
   refine oo 4 ?_;refine Zy zeroValue87 fun n3=> ?_
   refine oo 1 ?_;refine stA ?_;refine ox 8 ?_;refine Zj 15 ?_;refine xo 5 ?_;refine Zh call59 (Le.refl _) (find_ok (m:=ds_) knA (parse_nd hP)) ?_
   rintro _ _ ⟨g,y,z,e,rfl,rfl,hF⟩
   refine oo 3 ?_;refine stA ?_;refine stA ?_;refine ox 2 ?_;refine Zq (fcM g::q) func31 (M9 results31) ⟨_,rfl,g,y,z,e,rfl,rfl,by rw [←hR];exact hF⟩
 rw [hP] at hR;dsimp only at hR
 refine oo 4 ?_;refine Zy zeroValue87 fun n4=> ?_
 refine oo 1 ?_;refine stA ?_;refine ox 8 ?_;refine X.know 15 (.bool true) rfl (congrArg Value.bool (by rw [bne_iff_ne];exact he)) ?_
 refine xx 2 ?_;refine drw ?_;refine dd [0] ?_;refine Z4 1 ?_;refine dd [2] ?_;refine Z9 3 ?_;refine Z9 4 ?_;refine dd [5] ?_;refine XD.nil ?_;refine X.le (q':=fcM FC.z::_) (Kn.add (fun _ _ _=>Td _)) ?_
 refine Zq (fcM FC.z::q) func31 (M9 results31) ⟨_,rfl,FC.z,y,z,e,rfl,rfl,by rw [←hR];exact he⟩
end
section
variable {α:Type}{P:Program}{G:World}{p:PE}{q:List HP}{sz ty:Nat}{d:Option Tmp}{ty':TypeId}{pos:String}{af:Array Edge}{gd:Option (Nat×Bool)}{t:TypeId}{z:Value}{bytes n:Nat}{ps:List (Nat×Operand)}
theorem Eo {f:α→List Value}(hf: ∀ x,(f x).length=sz): ∀ (l:List α) (k:Nat) (pre post:List Value),pre.length=k*sz→l.length*sz≤post.length→Instr.fill (fun i=>some (i*sz,sz)) (pre++post).toArray ((List.range' k l.length).zip (l.map fun u=>Value.agg (f u).toArray))=some (pre++l.flatMap f++post.drop (l.length*sz)).toArray
 | [],k,pre,post,_,_=>by simp [Instr.fill]
 |u::r,k,pre,post,h1,h2=>by
  rw [List.length_cons,Nat.add_mul,Nat.one_mul] at h2
  have hc:(Value.agg (f u).toArray).cells=(f u).toArray:=rfl
  have e1: ∀ (off:Nat) (us:List Value) (A:Array Value),(us.toArray.zipIdx).foldl (fun cs (c,i)=>cs.setIfInBounds (off+i) c) A=(us.zipIdx 0).foldl (fun cs (c,i)=>cs.setIfInBounds (off+i) c) A:=by intro off us A;simp
  have k1:=(e1 (k*sz) (f u) _).trans (Dw (k*sz) (f u) 0 pre post (by simpa using h1) (by rw [hf];omega))
  have ih:=Eo hf r (k+1) (pre++f u) (post.drop (f u).length) (by rw [List.length_append,h1,hf,Nat.add_mul,Nat.one_mul]) (by rw [List.length_drop,hf];omega)
  rw [List.length_cons,List.range'_succ,List.map_cons,List.zip_cons_cons]
  simp only [Instr.fill,hc]
  rw [if_neg (by simp [hf];omega),k1,ih]
  simp only [List.flatMap_cons,List.append_assoc,List.drop_drop,hf]
  congr 4
  rw [Nat.add_mul,Nat.one_mul,Nat.add_comm]
theorem Yq (f:α→List Value)(l:List α)(ht:P.underlying t=some (.slice ty))(hi:(P.info? ty).map (fun i=>(i.zero,i.size,i.bytes))=some (some z,sz,bytes))(h1:Nat.ble (n*sz) 16777216=true)(h0:Nat.blt 0 sz=true)
 (hf: ∀ x,(f x).length=sz) (hv:evl p (ps.map (·.2))=some (l.map fun u=>Value.agg (f u).toArray)) (hx:ps.map (·.1)=List.range' 0 n) (hn:l.length=n) (h2:Nat.blt 0 n=true):
 Ef P G p q ⟨d,.buildSlice t n ps.toArray,ty',pos,af,gd⟩ fun v q'=> ∃ g,v= .slice (some ⟨g,0,none⟩) n n∧q'=Wx.rsH f sz ty (some ⟨g,0,none⟩) n l::q:=by
 subst hn
 have h0':0<sz:=by simpa [Nat.blt_eq] using h0
 have h2':0<l.length:=by simpa [Nat.blt_eq] using h2
 have hfill:Instr.fill (fun i=>some (i*sz,sz)) ((Array.range (l.length*sz)).map (z.cells[· % z.cells.size]!)) ((ps.map (·.1)).zip (l.map fun u=>Value.agg (f u).toArray))=some (l.flatMap f).toArray:=by
  rw [hx]
  have:=Eo hf l 0 [] ((Array.range (l.length*sz)).map (z.cells[· % z.cells.size]!)).toList (by simp) (by simp)
  rw [List.nil_append,List.nil_append,Array.toArray_toList,List.drop_eq_nil_of_le (by simp),List.append_nil] at this
  exact this
 have:=Ef.buildSlice (P:=P) (G:=G) (p:=p) (q:=q) (d:=d) (ty:=ty') (pos:=pos) (af:=af) (gd:=gd) (ps:=ps) (len:=l.length) ht hi hv (by simpa using h1) (by rw [Nat.blt_eq];exact Nat.mul_pos h2' h0') hfill (Zm hf l)
 simpa [Wx.rsH] using this
end
mutual
def PEx.sz:PEx→Nat
 | .mk _ _ _ _ _ _ args=>Vx args+1
def Vx:List PEx→Nat
 | []=>0
 |e::r=>e.sz+Vx r
end
mutual
theorem Vg: ∀ (e:Ex),e.er.sz=e.sz
 | .mk _ _ _ _ _ _ args _ _=>by simp only [Ex.er,PEx.sz,Ex.sz,D7 args]
theorem D7: ∀ (l:List Ex),Vx (Za l)=Vt l
 | []=>rfl
 |e::r=>by simp only [Za,Vx,Vt,Vg e,D7 r]
end
mutual
/-- What an expression that may be is like. -/
def PEx.fit:PEx→Prop
 | .mk k n _ _ _ op args=>(1≤k∧k≤6)∧args.length=Nq k∧(k=1→0≤n∧n≤2147483647)∧(k=6→1≤op∧op≤11)∧PEx.fits args
def PEx.fits:List PEx→Prop
 | []=>True
 |e::r=>e.fit∧PEx.fits r
end
theorem Qk {x:PEx}: ∀ {l:List PEx},PEx.fits l→x∈l→x.fit
 |y::r,⟨h1,h2⟩,h=>by
  rcases List.mem_cons.1 h with rfl|h
  · exact h1
  exact Qk h2 h
mutual
theorem Kf: ∀ {e:PEx} {d:Nat},e.right d=true→e.fit
 | .mk k n nm _ _ op args,d,h=>by
  simp only [PEx.right] at h
  split at h
  · cases h
  split at h
  · rename_i hk
    rw [Bool.and_eq_true,Bool.and_eq_true,decide_eq_true_eq] at h
    obtain ⟨⟨h1,h2⟩,h3⟩:=h
    refine ⟨hk,h2,fun h=> ?_,fun h=> ?_,Mv h3⟩
    · subst h;unfold Lp at h1;rw [if_pos rfl,Bool.and_eq_true] at h1;simpa using h1
    subst h;unfold Lp at h1;rw [if_neg (by decide),if_neg (by decide),if_pos rfl,Bool.and_eq_true] at h1;simpa using h1
  cases h
theorem Mv: ∀ {l:List PEx} {d:Nat},Wd l d=true→PEx.fits l
 | [],_,_=>trivial
 |e::r,d,h=>by
  simp only [Wd,Bool.and_eq_true] at h
  exact ⟨Kf h.1,Mv h.2⟩
end
mutual
def PEx.plain:PEx→Bool
 | .mk k _ _ _ _ _ args=>if k=2∨k=3 then false else Vu args
def Vu:List PEx→Bool
 | []=>true
 |e::r=>e.plain && Vu r
end
mutual
/-- What an expression without names is worth, and its trap. -/
def PEx.ev:PEx→Int×Int
 | .mk k n _ _ _ op args=>
  if k=1 then (n,0)
  else if ((Wi args).getD 0 (0,0)).2≠0 then (Wi args).getD 0 (0,0)
  else if k=4 then Yg 8 0 ((Wi args).getD 0 (0,0)).1
  else if k=5 then (W5 (((Wi args).getD 0 (0,0)).1==0),0)
  else if (op=1∧((Wi args).getD 0 (0,0)).1≠0)∨(op=2∧((Wi args).getD 0 (0,0)).1=0) then (W5 (op==1),0)
  else if ((Wi args).getD 1 (0,0)).2≠0 then (Wi args).getD 1 (0,0)
  else if op≤2 then (W5 (((Wi args).getD 1 (0,0)).1 !=0),((Wi args).getD 1 (0,0)).2)
  else Yg op ((Wi args).getD 0 (0,0)).1 ((Wi args).getD 1 (0,0)).1
def Wi:List PEx→List (Int×Int)
 | []=> []
 |e::r=>e.ev::Wi r
end
theorem Uu (b:Bool):val (W5 b):=by cases b<;>decide
theorem Gg (op a b:Int):val (Yg op a b).1:=by
 unfold Yg
 split;exact Uu _
 split;exact Uu _
 split;exact Uu _
 split;exact Uu _
 split;decide
 have h: ∀ n:Int,val (if val n then ((n,0):Int×Int) else (0,2)).1:=fun n=>by by_cases h:val n;rw [if_pos h];exact h;rw [if_neg h];decide
 exact h _
mutual
theorem Vd: ∀ {e:PEx},e.fit→val e.ev.1
 | .mk k n nm _ _ op args,⟨hk,h1,h2,h3,h4⟩=>by
  have h0:=R3 h4
  have ha: ∀ i,val ((Wi args).getD i (0,0)).1:=fun i=>by
   rcases Nat.lt_or_ge i (Wi args).length with h|h
   · rw [gD h];exact h0 _ (List.getElem_mem h)
   rw [List.getD_eq_getElem?_getD,List.getElem?_eq_none h];decide
  simp only [PEx.ev]
  split
  · rename_i h;have:=h2 h;unfold val;dsimp only;omega
  split;exact ha 0
  split;exact Gg _ _ _
  split;exact Uu _
  split;exact Uu _
  split;exact ha 1
  split;exact Uu _
  exact Gg _ _ _
theorem R3: ∀ {l:List PEx},PEx.fits l→ ∀ x∈Wi l,val x.1
 | [],_,x,h=>by cases h
 |e::r,⟨h1,h2⟩,x,h=>by
  rcases List.mem_cons.1 h with rfl|h
  · exact Vd h1
  exact R3 h2 x h
end
def PEx.one (e:PEx):Bool:=e.plain && e.ev.2==0
mutual
def PEx.code:PEx→Int→List Ins
 | .mk k n nm slot loc op args,at_=>
  if (PEx.one (.mk k n nm slot loc op args))=true then [⟨1,0,0,(PEx.ev (.mk k n nm slot loc op args)).1⟩]
  else if k=2 then [⟨if loc=true then 3 else 2,slot,0,0⟩]
  else if k=1 then [⟨1,0,0,n⟩]
  else
   let a:=(PEx.codes args).getD 0 (fun _=> []) at_
   if k=6∧op≤2 then
    let b:=(PEx.codes args).getD 1 (fun _=> []) (at_+a.length+1)
    a++ [⟨if op=2 then 20 else 21,at_+a.length+1+b.length+2,0,0⟩]++b++ [⟨22,0,0,0⟩,⟨19,at_+a.length+1+b.length+2+1,0,0⟩,⟨1,0,0,2 - op⟩]
   else if k=3 then a++ [⟨4,slot,0,0⟩]
   else if k=4 then a++ [⟨8,0,0,0⟩]
   else if k=5 then a++ [⟨9,0,0,0⟩]
   else a++(PEx.codes args).getD 1 (fun _=> []) (at_+a.length)++ [⟨op+7,0,0,0⟩]
def PEx.codes:List PEx→List (Int→List Ins)
 | []=> []
 |e::r=>e.code::PEx.codes r
end
theorem Rz {l:List PEx}{i:Nat}(h:i<l.length):(l[i]).sz≤Vx l:=by
 induction l generalizing i with
 |nil=>simp at h
 |cons e r ih=>
  cases i with
  |zero=>simp only [List.getElem_cons_zero,Vx];omega
  |succ i=>have:=ih (i:=i) (by simpa using h);simp only [List.getElem_cons_succ,Vx];omega
mutual
theorem Yk: ∀ (e:PEx) (a:Int),(e.code a).length≤4*e.sz
 | .mk k n nm slot loc op args,a=>by
  have h2: ∀ a b,((PEx.codes args).getD 0 (fun _=> []) a).length+((PEx.codes args).getD 1 (fun _=> []) b).length≤4*Vx args:=Eg args
  have h1: ∀ a,((PEx.codes args).getD 0 (fun _=> []) a).length≤4*Vx args:=fun a=>by have:=h2 a 0;omega
  simp only [PEx.code,PEx.sz]
  split;(simp only [List.length_cons,List.length_nil];omega)
  split;(simp only [List.length_cons,List.length_nil];omega)
  split;(simp only [List.length_cons,List.length_nil];omega)
  have k1:=h1 a
  split
  · have:=h2 a (a+(((PEx.codes args).getD 0 (fun _=> []) a).length:Int)+1);simp only [List.length_append,List.length_cons,List.length_nil];omega
  split;(simp only [List.length_append,List.length_cons,List.length_nil];omega)
  split;(simp only [List.length_append,List.length_cons,List.length_nil];omega)
  split;(simp only [List.length_append,List.length_cons,List.length_nil];omega)
  have:=h2 a (a+(((PEx.codes args).getD 0 (fun _=> []) a).length:Int));simp only [List.length_append,List.length_cons,List.length_nil];omega
theorem Eg: ∀ (l:List PEx) (a b:Int),((PEx.codes l).getD 0 (fun _=> []) a).length+((PEx.codes l).getD 1 (fun _=> []) b).length≤4*Vx l
 | [],a,b=>by simp [PEx.codes]
 | [e],a,b=>by have:=Yk e a;simp [PEx.codes,Vx];omega
 |e::x::r,a,b=>by have h1:=Yk e a;have h2:=Yk x b;simp [PEx.codes,Vx];omega
end
theorem Mb:(prog.info? 45).map (fun i=>(i.zero,i.size,i.bytes))=some (some (.agg #[.int .i64 0,.bool false,.int .i64 0]),3,24):=by kernel_rfl
theorem Zo:(prog.info? 48).map (fun i=>(i.zero,i.size,i.bytes))=some (some (.agg #[.int .i64 0,.int .i64 0,.int .i64 0,.int .i64 0]),4,32):=by kernel_rfl
section
variable {G:World}{q:List HP}{e:Ex}{ci ai bi ni:Int}
theorem Yr:CallF prog G 64 [.int .i64 ci,.int .i64 ai,.int .i64 bi,.int .i64 ni] (q) (Ret fun v q'=>v= .agg (Zr ⟨ci,ai,bi,ni⟩).toArray∧q'=q):=by
 refine CallF.of func64 ntmps64 rfl (fun F cs=> ?_)
 refine xo 2 ?_;refine Zy zeroValue48 fun n1=> ?_
 refine oo 8 ?_;refine stA ?_;refine ox 1 ?_;refine Zq (q) func64 (rA_ results64) ⟨_,rfl,rfl,rfl⟩
set_option maxHeartbeats 1000000 in
theorem Aa (IH: ∀ (x:Ex),x.sz<e.sz→ ∀ {q:List HP},(Kn q fun M=>x.At M)→CallF prog G 203 [.agg (exC x).toArray] q (Ret fun v q'=>v= .bool x.er.plain∧q'=q))(h:Kn q fun M=>e.At M):CallF prog G 203 [.agg (exC e).toArray] (q) (Ret fun v q'=>v= .bool e.er.plain∧q'=q):=by
 refine CallF.of func203 ntmps203 rfl (fun F cs=> ?_)
 obtain ⟨k,z,nm,sl,lo,op,args,aa,ac⟩:=e;have hA:=Rk h;have hlen:=Zm (f:=exC) (sz:=7) Zl args;refine X.fact (fun w s=>P0 (h.le leA) s) (fun hal=> ?_)
 obtain ⟨R,hR⟩: ∃ R,(Ex.er (.mk k z nm sl lo op args aa ac)).plain=R:=⟨_,rfl⟩;rw [hR];simp only [Ex.er,PEx.plain] at hR
 refine xo 2 ?_;refine Zb fun n1=> ?_
 refine oo 6 ?_;refine ld ?_;refine oo 2 ?_;refine Zf [7,2,1] ?_
 apply Zx 4 11 7 rfl
 · intro g1 M1;have h1:=sp g1
   refine oo 1 ?_;refine ld ?_;refine oo 2 ?_;exact Zz M1 ⟨orF g1,Zv⟩
 · intro g1 M1;have h1:=sp g1
   refine oo 4 ?_;exact Zz M1 ⟨orT g1,Zv⟩
 refine ox 1 ?_;refine X.part 11 rfl (fun h1=> ?_) (fun h1=> ?_)
 · have hk:k=2∨k=3:=(by simpa using h1);rw [if_pos hk] at hR
   refine xx 5 ?_;refine Zq (q) func203 (Zp results203 rfl) ⟨_,rfl,by rw [←hR],rfl⟩
 have hk: ¬ (k=2∨k=3):=(by simpa using h1);rw [if_neg hk] at hR
 refine xx 8 ?_;refine X.at (X.loop (fun (s:Nat×Option Addr)=>s.1≤args.length∧s.2=aa∧R=Vu (Za (args.drop s.1))) (fun s=> [(3,.int .i64 (s.1:Int)),(1,.pointer (some ⟨n1,0,none⟩)),(2,.bool false)]) (fun s=>pto n1 (.cells (exC (.mk k z nm sl lo op args s.2 ac)).toArray 215 (0,0))::(q++F)) (fun s=>args.length - s.1) (fun s hi_ ih=> ?_) (0,aa) ⟨Nat.zero_le _,rfl,hR.symm⟩) Zt leA
 try dsimp only at hi_ ih⊢
 obtain ⟨hs,ha,hD⟩:=hi_
 obtain ⟨s,a2⟩:=s;dsimp only at*;subst ha;clear hR
 refine xo 5 ?_;refine ld ?_;refine ox 3 ?_;refine X.part 16 rfl (fun h0=> ?_) (fun h0=> ?_)
 · replace h0:=sp h0;have hlt:s<args.length:=by omega
   have hds:Vu (Za (args.drop s))=(args[s].er.plain && Vu (Za (args.drop (s+1)))):=by rw [List.drop_eq_getElem_cons hlt];rfl
   refine xo 7 ?_;refine ld ?_;refine oo 1 ?_;refine Yz hA (by rw [hlen];omega) (fun b1 o1 e1=> ?_);subst e1
   refine oo 1 ?_;refine Wn (n:=s) isAgg215 sizeOf215 hA hlt ?_ (hf:=Zl)
   refine XO.cR call203 (IH args[s] (by have:=K5 (List.getElem_mem hlt);simp only [Ex.sz];omega) (Vc (h.le leA) hlt)) ?_
   refine Zn (Pu.not rfl) ?_;refine ox 1 ?_;refine X.part 25 rfl (fun h1=> ?_) (fun h1=> ?_)
   · replace h1:=sp h1
     refine xx 5 ?_;refine Zq (q) func203 (Zp results203 rfl) ⟨_,rfl,by rw [hD,hds,h1];rfl,rfl⟩
   replace h1:=sp h1
   refine xx 8 ?_;refine X.at (ih (s+1,_) ⟨by dsimp only;omega,rfl,by rw [hD,hds,h1];rfl⟩ (by dsimp only;omega)) Zt leA
 replace h0:=sp h0;obtain rfl:s=args.length:=by omega
 refine xx 6 ?_;refine Zq (q) func203 (Zp results203 rfl) ⟨_,rfl,by rw [hD,List.drop_length];rfl,rfl⟩
theorem Ec: ∀ (N:Nat) (x:Ex),x.sz≤N→ ∀ {q:List HP},(Kn q fun M=>x.At M)→CallF prog G 203 [.agg (exC x).toArray] q (Ret fun v q'=>v= .bool x.er.plain∧q'=q)
 |N,x,hN,_,h=>Aa (fun y hy _ h2=>by
  cases N with
  |zero=>omega
  |succ N=>exact Ec N y (by omega) h2) h
set_option maxHeartbeats 8000000 in
theorem ev_step (IH: ∀ (x:Ex),x.sz<e.sz→ ∀ {q:List HP},(Kn q fun M=>x.At M)→x.er.plain=true→x.er.fit→CallF prog G 108 [.agg #[.slice none 0 0,.slice none 0 0,.int .i64 0,.int .i64 0,.slice none 0 0,.slice none 0 0,.int .i64 0,.int .i64 0,.slice none 0 0,.slice none 0 0,.slice none 0 0,.slice none 0 0,.slice none 0 0,.slice none 0 0,.slice none 0 0,.slice none 0 0,.slice none 0 0,.slice none 0 0,.slice none 0 0,.int .i64 0,.int .i64 0,.int .i64 0,.int .i64 0],.agg (exC x).toArray,.slice none 0 0] q (Ret fun v q'=> ∃ (ra:Option Addr) (rc:Nat),v= .agg [.int .i64 x.er.ev.1,.int .i64 x.er.ev.2,.slice ra 0 rc].toArray∧q'=q))(h:Kn q fun M=>e.At M)(hp:e.er.plain=true)(hf:e.er.fit):CallF prog G 108 [.agg #[.slice none 0 0,.slice none 0 0,.int .i64 0,.int .i64 0,.slice none 0 0,.slice none 0 0,.int .i64 0,.int .i64 0,.slice none 0 0,.slice none 0 0,.slice none 0 0,.slice none 0 0,.slice none 0 0,.slice none 0 0,.slice none 0 0,.slice none 0 0,.slice none 0 0,.slice none 0 0,.slice none 0 0,.int .i64 0,.int .i64 0,.int .i64 0,.int .i64 0],.agg (exC e).toArray,.slice none 0 0] (q) (Ret fun v q'=> ∃ (ra:Option Addr) (rc:Nat),v= .agg [.int .i64 e.er.ev.1,.int .i64 e.er.ev.2,.slice ra 0 rc].toArray∧q'=q):=by
 refine CallF.of func108 ntmps108 rfl (fun F cs=> ?_)
 obtain ⟨k,z,nm,sl,lo,op,args,aa,ac⟩:=e;have hA:=Rk h;simp only [Ex.er,PEx.plain] at hp;simp only [Ex.er,PEx.fit,Ja] at hf;obtain ⟨hf1,hf2,hf3,hf4,hf5⟩:=hf
 have hk: ¬ (k=2∨k=3):=(fun hx=>by rw [if_pos hx] at hp;cases hp);rw [if_neg hk] at hp
 obtain ⟨R,hR⟩: ∃ R,(Ex.er (.mk k z nm sl lo op args aa ac)).ev=R:=⟨_,rfl⟩;rw [hR];simp only [Ex.er,PEx.ev] at hR
 have hcl:k=1∨k=4∨k=5∨(k=6∧op=1)∨(k=6∧op=2)∨(k=6∧3≤op):=by omega
 rcases hcl with rfl|rfl|rfl|⟨rfl,rfl⟩|⟨rfl,rfl⟩|⟨rfl,hop⟩
 · rw [if_pos rfl] at hR
   refine xo 2 ?_;refine Zb fun n1=> ?_
   refine Zb fun n2=> ?_
   refine Zy zeroValue220 fun n3=> ?_
   refine oo 5 ?_;refine ld ?_;refine ox 7 ?_;refine X.kt 17 ?_;refine xo 4 ?_;refine ld ?_;refine oo 1 ?_;refine stA ?_;refine ox 1 ?_;refine Zq (q) func108 (rA_ results108) ⟨_,rfl,none,0,by rw [←hR];rfl,rfl⟩
 · obtain ⟨x,rfl⟩: ∃ x,args= [x]:=(by match args,hf2 with| [x],_=>exact ⟨x,rfl⟩);obtain ⟨k1,z1,s1,l1,o1,p1,y1,u1,w1⟩:=x
   simp only [Za,Vu,Bool.and_eq_true] at hp;simp only [Za,PEx.fits] at hf5;simp only [Za,Wi,List.getD_cons_zero,List.getD_cons_succ] at hR
   obtain ⟨A,hA1⟩: ∃ A,(Ex.er (.mk k1 z1 s1 l1 o1 p1 y1 u1 w1)).ev=A:=⟨_,rfl⟩;have hAv:val A.1:=(by rw [←hA1];exact Vd hf5.1);have hs1:Ex.sz (.mk k1 z1 s1 l1 o1 p1 y1 u1 w1)<Ex.sz (.mk 4 z nm sl lo op [(.mk k1 z1 s1 l1 o1 p1 y1 u1 w1)] aa ac):=(by simp only [Ex.sz,Vt];omega);have hK1:Kn q fun M=>Ex.At M (.mk k1 z1 s1 l1 o1 p1 y1 u1 w1):=Vc (args:= [(.mk k1 z1 s1 l1 o1 p1 y1 u1 w1)]) h (i:=0) (by simp);rw [hA1] at hR;simp only [Int.reduceEq,if_false,if_true,reduceIte,true_and,false_and,or_false,false_or] at hR
   have hI1: ∀ {q:List HP},(Kn q fun M=>Ex.At M (.mk k1 z1 s1 l1 o1 p1 y1 u1 w1))→CallF prog G 108 [.agg #[.slice none 0 0,.slice none 0 0,.int .i64 0,.int .i64 0,.slice none 0 0,.slice none 0 0,.int .i64 0,.int .i64 0,.slice none 0 0,.slice none 0 0,.slice none 0 0,.slice none 0 0,.slice none 0 0,.slice none 0 0,.slice none 0 0,.slice none 0 0,.slice none 0 0,.slice none 0 0,.slice none 0 0,.int .i64 0,.int .i64 0,.int .i64 0,.int .i64 0],.agg (exC (.mk k1 z1 s1 l1 o1 p1 y1 u1 w1)).toArray,.slice none 0 0] q (Ret fun v q'=> ∃ (ra:Option Addr) (rc:Nat),v= .agg [.int .i64 A.1,.int .i64 A.2,.slice ra 0 rc].toArray∧q'=q):=(by intro q h;rw [←hA1];exact IH (.mk k1 z1 s1 l1 o1 p1 y1 u1 w1) hs1 h hp.1 hf5.1)
   have hl0:0<([(.mk k1 z1 s1 l1 o1 p1 y1 u1 w1)]:List Ex).length:=by simp
   refine xo 2 ?_;refine Zb fun n4=> ?_
   refine Zb fun n5=> ?_
   refine Zy zeroValue220 fun n6=> ?_
   refine oo 5 ?_;refine ld ?_;refine ox 7 ?_;refine Zj 17 ?_;refine xx 6 ?_;refine Zj 22 ?_;refine xx 4 ?_;refine drw ?_;refine Z4 0 ?_;refine dd [1] ?_;refine ldD 2 ?_;refine Yp hA (by simp [Zl]) (fun b9 o9 e9=> ?_);subst e9
   have hx0: ∀ (Q:List HP),Le Q q→ ∀ (j:Nat) (v:Value),(exC (.mk k1 z1 s1 l1 o1 p1 y1 u1 w1))[j]? =some v→Cl Q ⟨b9,o9+(0:Int).toNat*7+j,none⟩ v:=fun Q hQ j v hk=>Yi (j:=0) (n:=0) (sz:=7) hA hQ Zl hl0 rfl j v hk;have hr0: ∀ (Q:List HP) (i:Nat),Le Q q→HL Q (rdA i b9 (o9+(0:Int).toNat*7) (exC (.mk k1 z1 s1 l1 o1 p1 y1 u1 w1))):=fun Q i hQ=>HL.rdA fun j v hk=>hx0 Q hQ j v hk
   refine dd [3] ?_;refine Vp 4 (m:=0) isAgg215 sizeOf215 hA hl0 ?_ (hf:=Zl)
   refine dd [5] ?_;refine Yy (fl:= [⟨7,7,fun g=> .pointer (some ⟨g,0,none⟩),fun g=>pto g (.cells [.int .i64 0,.int .i64 0,.slice none 0 0].toArray 220 (0,0))⟩]) ?_
   refine Jd 6 ⟨⟨_,rfl,rfl,rfl,rfl,rfl,rfl,fun q=>Ef.alloc zeroValue220⟩,trivial⟩ call108 (Le.refl _) (hI1 (Kn.le hK1)) ?_ (hL:=(hlA (h:=by repeat first|exact trivial|refine ⟨clA,?_⟩|refine HL.app (hr0 _ _ leA) ?_|refine ⟨hx0 _ leA 0 _ rfl,?_⟩|refine ⟨hx0 _ leA _ _ rfl,?_⟩)))
   rintro _ _ ⟨ra1,rc1,rfl,rfl⟩
   refine ⟨(hlA (h:=by repeat first|exact trivial|refine ⟨clA,?_⟩|refine HL.app (hr0 _ _ leA) ?_|refine ⟨hx0 _ leA 0 _ rfl,?_⟩|refine ⟨hx0 _ leA _ _ rfl,?_⟩)),?_⟩
   refine Wv (e0:=⟨7,7,fun g=> .pointer (some ⟨g,0,none⟩),fun g=>pto g (.cells [.int .i64 0,.int .i64 0,.slice none 0 0].toArray 220 (0,0))⟩) (hnd:=by simp) 7 ⟨⟨_,rfl,rfl,rfl,rfl,rfl,rfl,fun q=>Ef.alloc zeroValue220⟩,trivial⟩ (fun nm1=> ?_) (hL:=(hlA (h:=by repeat first|exact trivial|refine ⟨clA,?_⟩|refine HL.app (hr0 _ _ leA) ?_|refine ⟨hx0 _ leA 0 _ rfl,?_⟩|refine ⟨hx0 _ leA _ _ rfl,?_⟩)))
   change XF _ _ _ _ _ _ _ [] _ _ _ ((7,.pointer (some ⟨nm1,0,none⟩))::_) _ _ (pto nm1 (.cells [.int .i64 0,.int .i64 0,.slice none 0 0].toArray 220 (0,0))::_)
   refine XF.back ?_ (hL:=(hlA (h:=by repeat first|exact trivial|refine ⟨clA,?_⟩|refine HL.app (hr0 _ _ leA) ?_|refine ⟨hx0 _ leA 0 _ rfl,?_⟩|refine ⟨hx0 _ leA _ _ rfl,?_⟩)))
   refine Z9 8 ?_;refine XD.nil ?_;refine xo 4 ?_;refine ld ?_;refine ox 2 ?_;refine X.part 58 rfl (fun h1=> ?_) (fun h1=> ?_)
   focus
    replace h1:=sp h1
    refine xo 3 ?_;refine ldA ?_
   rotate_left
   focus
    replace h1:=sp h1
    refine xo 6 ?_;refine ld ?_;refine ox 7 ?_;refine Zj 62 ?_;refine xx 6 ?_;refine X.kt 92 ?_;refine xo 4 ?_;refine ld ?_;refine XO.cR call161 (Bt (op:=8) (u:=0) (z:=A.1) (by omega) (by decide) hAv) ?_
    refine oo 11 ?_;refine ld ?_;refine oo 1 ?_
   all_goals
    refine stA ?_;refine ox 1 ?_
    repeat (first|rw [if_pos (by omega)] at hR|rw [if_neg (by omega)] at hR)
    refine Zq (q) func108 (rA_ results108) ⟨_,rfl,ra1,rc1,by rw [←hR];rfl,rfl⟩
 · obtain ⟨x,rfl⟩: ∃ x,args= [x]:=(by match args,hf2 with| [x],_=>exact ⟨x,rfl⟩);obtain ⟨k1,z1,s1,l1,o1,p1,y1,u1,w1⟩:=x
   simp only [Za,Vu,Bool.and_eq_true] at hp;simp only [Za,PEx.fits] at hf5;simp only [Za,Wi,List.getD_cons_zero,List.getD_cons_succ] at hR
   obtain ⟨A,hA1⟩: ∃ A,(Ex.er (.mk k1 z1 s1 l1 o1 p1 y1 u1 w1)).ev=A:=⟨_,rfl⟩;have hAv:val A.1:=(by rw [←hA1];exact Vd hf5.1);have hs1:Ex.sz (.mk k1 z1 s1 l1 o1 p1 y1 u1 w1)<Ex.sz (.mk 5 z nm sl lo op [(.mk k1 z1 s1 l1 o1 p1 y1 u1 w1)] aa ac):=(by simp only [Ex.sz,Vt];omega);have hK1:Kn q fun M=>Ex.At M (.mk k1 z1 s1 l1 o1 p1 y1 u1 w1):=Vc (args:= [(.mk k1 z1 s1 l1 o1 p1 y1 u1 w1)]) h (i:=0) (by simp);rw [hA1] at hR;simp only [Int.reduceEq,if_false,if_true,reduceIte,true_and,false_and,or_false,false_or] at hR
   have hI1: ∀ {q:List HP},(Kn q fun M=>Ex.At M (.mk k1 z1 s1 l1 o1 p1 y1 u1 w1))→CallF prog G 108 [.agg #[.slice none 0 0,.slice none 0 0,.int .i64 0,.int .i64 0,.slice none 0 0,.slice none 0 0,.int .i64 0,.int .i64 0,.slice none 0 0,.slice none 0 0,.slice none 0 0,.slice none 0 0,.slice none 0 0,.slice none 0 0,.slice none 0 0,.slice none 0 0,.slice none 0 0,.slice none 0 0,.slice none 0 0,.int .i64 0,.int .i64 0,.int .i64 0,.int .i64 0],.agg (exC (.mk k1 z1 s1 l1 o1 p1 y1 u1 w1)).toArray,.slice none 0 0] q (Ret fun v q'=> ∃ (ra:Option Addr) (rc:Nat),v= .agg [.int .i64 A.1,.int .i64 A.2,.slice ra 0 rc].toArray∧q'=q):=(by intro q h;rw [←hA1];exact IH (.mk k1 z1 s1 l1 o1 p1 y1 u1 w1) hs1 h hp.1 hf5.1)
   have hl0:0<([(.mk k1 z1 s1 l1 o1 p1 y1 u1 w1)]:List Ex).length:=by simp
   refine xo 2 ?_;refine Zb fun n7=> ?_
   refine Zb fun n8=> ?_
   refine Zy zeroValue220 fun n9=> ?_
   refine oo 5 ?_;refine ld ?_;refine ox 7 ?_;refine Zj 17 ?_;refine xx 6 ?_;refine Zj 22 ?_;refine xx 4 ?_;refine drw ?_;refine Z4 0 ?_;refine dd [1] ?_;refine ldD 2 ?_;refine Yp hA (by simp [Zl]) (fun b9 o9 e9=> ?_);subst e9
   have hx0: ∀ (Q:List HP),Le Q q→ ∀ (j:Nat) (v:Value),(exC (.mk k1 z1 s1 l1 o1 p1 y1 u1 w1))[j]? =some v→Cl Q ⟨b9,o9+(0:Int).toNat*7+j,none⟩ v:=fun Q hQ j v hk=>Yi (j:=0) (n:=0) (sz:=7) hA hQ Zl hl0 rfl j v hk;have hr0: ∀ (Q:List HP) (i:Nat),Le Q q→HL Q (rdA i b9 (o9+(0:Int).toNat*7) (exC (.mk k1 z1 s1 l1 o1 p1 y1 u1 w1))):=fun Q i hQ=>HL.rdA fun j v hk=>hx0 Q hQ j v hk
   refine dd [3] ?_;refine Vp 4 (m:=0) isAgg215 sizeOf215 hA hl0 ?_ (hf:=Zl)
   refine dd [5] ?_;refine Yy (fl:= [⟨7,7,fun g=> .pointer (some ⟨g,0,none⟩),fun g=>pto g (.cells [.int .i64 0,.int .i64 0,.slice none 0 0].toArray 220 (0,0))⟩]) ?_
   refine Jd 6 ⟨⟨_,rfl,rfl,rfl,rfl,rfl,rfl,fun q=>Ef.alloc zeroValue220⟩,trivial⟩ call108 (Le.refl _) (hI1 (Kn.le hK1)) ?_ (hL:=(hlA (h:=by repeat first|exact trivial|refine ⟨clA,?_⟩|refine HL.app (hr0 _ _ leA) ?_|refine ⟨hx0 _ leA 0 _ rfl,?_⟩|refine ⟨hx0 _ leA _ _ rfl,?_⟩)))
   rintro _ _ ⟨ra1,rc1,rfl,rfl⟩
   refine ⟨(hlA (h:=by repeat first|exact trivial|refine ⟨clA,?_⟩|refine HL.app (hr0 _ _ leA) ?_|refine ⟨hx0 _ leA 0 _ rfl,?_⟩|refine ⟨hx0 _ leA _ _ rfl,?_⟩)),?_⟩
   refine Wv (e0:=⟨7,7,fun g=> .pointer (some ⟨g,0,none⟩),fun g=>pto g (.cells [.int .i64 0,.int .i64 0,.slice none 0 0].toArray 220 (0,0))⟩) (hnd:=by simp) 7 ⟨⟨_,rfl,rfl,rfl,rfl,rfl,rfl,fun q=>Ef.alloc zeroValue220⟩,trivial⟩ (fun nm1=> ?_) (hL:=(hlA (h:=by repeat first|exact trivial|refine ⟨clA,?_⟩|refine HL.app (hr0 _ _ leA) ?_|refine ⟨hx0 _ leA 0 _ rfl,?_⟩|refine ⟨hx0 _ leA _ _ rfl,?_⟩)))
   change XF _ _ _ _ _ _ _ [] _ _ _ ((7,.pointer (some ⟨nm1,0,none⟩))::_) _ _ (pto nm1 (.cells [.int .i64 0,.int .i64 0,.slice none 0 0].toArray 220 (0,0))::_)
   refine XF.back ?_ (hL:=(hlA (h:=by repeat first|exact trivial|refine ⟨clA,?_⟩|refine HL.app (hr0 _ _ leA) ?_|refine ⟨hx0 _ leA 0 _ rfl,?_⟩|refine ⟨hx0 _ leA _ _ rfl,?_⟩)))
   refine Z9 8 ?_;refine XD.nil ?_;refine xo 4 ?_;refine ld ?_;refine ox 2 ?_;refine X.part 58 rfl (fun h1=> ?_) (fun h1=> ?_)
   focus
    replace h1:=sp h1
    refine xo 3 ?_;refine ldA ?_;refine stA ?_;refine ox 1 ?_
   rotate_left
   focus
    replace h1:=sp h1
    refine xo 6 ?_;refine ld ?_;refine ox 7 ?_;refine Zj 62 ?_;refine xx 6 ?_;refine Zj 92 ?_;refine xx 6 ?_;refine X.kt 105 ?_;refine xx 2 ?_;refine drw ?_;refine dd [0] ?_;refine ldD 1 ?_;refine dd [2,4] ?_;refine ldD 5 ?_;refine Z7 3 call162 (V0) ?_ (hL:=(hlA (h:=by repeat first|exact trivial|refine ⟨clA,?_⟩|refine HL.app (hr0 _ _ leA) ?_|refine ⟨hx0 _ leA 0 _ rfl,?_⟩|refine ⟨hx0 _ leA _ _ rfl,?_⟩)))
    refine dd [6] ?_;refine Z9 7 ?_;refine XD.nil ?_
   all_goals
    repeat (first|rw [if_pos (by omega)] at hR|rw [if_neg (by omega)] at hR)
    refine Zq (q) func108 (rA_ results108) ⟨_,rfl,ra1,rc1,by rw [←hR];rfl,rfl⟩
 focus
  obtain ⟨x,x2,rfl⟩: ∃ x y,args= [x,y]:=(by match args,hf2 with| [x,y],_=>exact ⟨x,y,rfl⟩);obtain ⟨k1,z1,s1,l1,o1,p1,y1,u1,w1⟩:=x;obtain ⟨k2,z2,s2,l2,o2,p2,y2,u2,w2⟩:=x2
  simp only [Za,Vu,Bool.and_eq_true] at hp;simp only [Za,PEx.fits] at hf5;simp only [Za,Wi,List.getD_cons_zero,List.getD_cons_succ] at hR
  obtain ⟨A,hA1⟩: ∃ A,(Ex.er (.mk k1 z1 s1 l1 o1 p1 y1 u1 w1)).ev=A:=⟨_,rfl⟩;have hAv:val A.1:=(by rw [←hA1];exact Vd hf5.1);have hs1:Ex.sz (.mk k1 z1 s1 l1 o1 p1 y1 u1 w1)<Ex.sz (.mk 6 z nm sl lo 1 [(.mk k1 z1 s1 l1 o1 p1 y1 u1 w1),(.mk k2 z2 s2 l2 o2 p2 y2 u2 w2)] aa ac):=(by simp only [Ex.sz,Vt];omega);have hK1:Kn q fun M=>Ex.At M (.mk k1 z1 s1 l1 o1 p1 y1 u1 w1):=Vc (args:= [(.mk k1 z1 s1 l1 o1 p1 y1 u1 w1),(.mk k2 z2 s2 l2 o2 p2 y2 u2 w2)]) h (i:=0) (by simp);rw [hA1] at hR;simp only [Int.reduceEq,if_false,if_true,reduceIte,true_and,false_and,or_false,false_or] at hR
  obtain ⟨B,hB1⟩: ∃ B,(Ex.er (.mk k2 z2 s2 l2 o2 p2 y2 u2 w2)).ev=B:=⟨_,rfl⟩;have hBv:val B.1:=(by rw [←hB1];exact Vd hf5.2.1);have hs2:Ex.sz (.mk k2 z2 s2 l2 o2 p2 y2 u2 w2)<Ex.sz (.mk 6 z nm sl lo 1 [(.mk k1 z1 s1 l1 o1 p1 y1 u1 w1),(.mk k2 z2 s2 l2 o2 p2 y2 u2 w2)] aa ac):=(by simp only [Ex.sz,Vt];omega);have hK2:Kn q fun M=>Ex.At M (.mk k2 z2 s2 l2 o2 p2 y2 u2 w2):=Vc (args:= [(.mk k1 z1 s1 l1 o1 p1 y1 u1 w1),(.mk k2 z2 s2 l2 o2 p2 y2 u2 w2)]) h (i:=1) (by simp);rw [hB1] at hR
  have hI1: ∀ {q:List HP},(Kn q fun M=>Ex.At M (.mk k1 z1 s1 l1 o1 p1 y1 u1 w1))→CallF prog G 108 [.agg #[.slice none 0 0,.slice none 0 0,.int .i64 0,.int .i64 0,.slice none 0 0,.slice none 0 0,.int .i64 0,.int .i64 0,.slice none 0 0,.slice none 0 0,.slice none 0 0,.slice none 0 0,.slice none 0 0,.slice none 0 0,.slice none 0 0,.slice none 0 0,.slice none 0 0,.slice none 0 0,.slice none 0 0,.int .i64 0,.int .i64 0,.int .i64 0,.int .i64 0],.agg (exC (.mk k1 z1 s1 l1 o1 p1 y1 u1 w1)).toArray,.slice none 0 0] q (Ret fun v q'=> ∃ (ra:Option Addr) (rc:Nat),v= .agg [.int .i64 A.1,.int .i64 A.2,.slice ra 0 rc].toArray∧q'=q):=(by intro q h;rw [←hA1];exact IH (.mk k1 z1 s1 l1 o1 p1 y1 u1 w1) hs1 h hp.1 hf5.1)
  have hI2: ∀ {q:List HP},(Kn q fun M=>Ex.At M (.mk k2 z2 s2 l2 o2 p2 y2 u2 w2))→CallF prog G 108 [.agg #[.slice none 0 0,.slice none 0 0,.int .i64 0,.int .i64 0,.slice none 0 0,.slice none 0 0,.int .i64 0,.int .i64 0,.slice none 0 0,.slice none 0 0,.slice none 0 0,.slice none 0 0,.slice none 0 0,.slice none 0 0,.slice none 0 0,.slice none 0 0,.slice none 0 0,.slice none 0 0,.slice none 0 0,.int .i64 0,.int .i64 0,.int .i64 0,.int .i64 0],.agg (exC (.mk k2 z2 s2 l2 o2 p2 y2 u2 w2)).toArray,.slice none 0 0] q (Ret fun v q'=> ∃ (ra:Option Addr) (rc:Nat),v= .agg [.int .i64 B.1,.int .i64 B.2,.slice ra 0 rc].toArray∧q'=q):=(by intro q h;rw [←hB1];exact IH (.mk k2 z2 s2 l2 o2 p2 y2 u2 w2) hs2 h hp.2.1 hf5.2.1)
  have hl0:0<([(.mk k1 z1 s1 l1 o1 p1 y1 u1 w1),(.mk k2 z2 s2 l2 o2 p2 y2 u2 w2)]:List Ex).length:=by simp
  have hl1:1<([(.mk k1 z1 s1 l1 o1 p1 y1 u1 w1),(.mk k2 z2 s2 l2 o2 p2 y2 u2 w2)]:List Ex).length:=by simp
  refine xo 2 ?_;refine Zb fun n10=> ?_
  refine Zb fun n11=> ?_
  refine Zy zeroValue220 fun n12=> ?_
  refine oo 5 ?_;refine ld ?_;refine ox 7 ?_;refine Zj 17 ?_;refine xx 6 ?_;refine Zj 22 ?_;refine xx 4 ?_;refine drw ?_;refine Z4 0 ?_;refine dd [1] ?_;refine ldD 2 ?_;refine Yp hA (by simp [Zl]) (fun b9 o9 e9=> ?_);subst e9
  have hx0: ∀ (Q:List HP),Le Q q→ ∀ (j:Nat) (v:Value),(exC (.mk k1 z1 s1 l1 o1 p1 y1 u1 w1))[j]? =some v→Cl Q ⟨b9,o9+(0:Int).toNat*7+j,none⟩ v:=fun Q hQ j v hk=>Yi (j:=0) (n:=0) (sz:=7) hA hQ Zl hl0 rfl j v hk;have hr0: ∀ (Q:List HP) (i:Nat),Le Q q→HL Q (rdA i b9 (o9+(0:Int).toNat*7) (exC (.mk k1 z1 s1 l1 o1 p1 y1 u1 w1))):=fun Q i hQ=>HL.rdA fun j v hk=>hx0 Q hQ j v hk
  have hx1: ∀ (Q:List HP),Le Q q→ ∀ (j:Nat) (v:Value),(exC (.mk k2 z2 s2 l2 o2 p2 y2 u2 w2))[j]? =some v→Cl Q ⟨b9,o9+(1:Int).toNat*7+j,none⟩ v:=fun Q hQ j v hk=>Yi (j:=1) (n:=1) (sz:=7) hA hQ Zl hl1 rfl j v hk;have hr1: ∀ (Q:List HP) (i:Nat),Le Q q→HL Q (rdA i b9 (o9+(1:Int).toNat*7) (exC (.mk k2 z2 s2 l2 o2 p2 y2 u2 w2))):=fun Q i hQ=>HL.rdA fun j v hk=>hx1 Q hQ j v hk
  refine dd [3] ?_;refine Vp 4 (m:=0) isAgg215 sizeOf215 hA hl0 ?_ (hf:=Zl)
  refine dd [5] ?_;refine Yy (fl:= [⟨7,7,fun g=> .pointer (some ⟨g,0,none⟩),fun g=>pto g (.cells [.int .i64 0,.int .i64 0,.slice none 0 0].toArray 220 (0,0))⟩]) ?_
  refine Jd 6 ⟨⟨_,rfl,rfl,rfl,rfl,rfl,rfl,fun q=>Ef.alloc zeroValue220⟩,trivial⟩ call108 (Le.refl _) (hI1 (Kn.le hK1)) ?_ (hL:=(hlA (h:=by repeat first|exact trivial|refine ⟨clA,?_⟩|refine HL.app (hr0 _ _ leA) ?_|refine ⟨hx0 _ leA 0 _ rfl,?_⟩|refine ⟨hx0 _ leA _ _ rfl,?_⟩|refine HL.app (hr1 _ _ leA) ?_|refine ⟨hx1 _ leA 0 _ rfl,?_⟩|refine ⟨hx1 _ leA _ _ rfl,?_⟩)))
  rintro _ _ ⟨ra1,rc1,rfl,rfl⟩
  refine ⟨(hlA (h:=by repeat first|exact trivial|refine ⟨clA,?_⟩|refine HL.app (hr0 _ _ leA) ?_|refine ⟨hx0 _ leA 0 _ rfl,?_⟩|refine ⟨hx0 _ leA _ _ rfl,?_⟩|refine HL.app (hr1 _ _ leA) ?_|refine ⟨hx1 _ leA 0 _ rfl,?_⟩|refine ⟨hx1 _ leA _ _ rfl,?_⟩)),?_⟩
  refine Wv (e0:=⟨7,7,fun g=> .pointer (some ⟨g,0,none⟩),fun g=>pto g (.cells [.int .i64 0,.int .i64 0,.slice none 0 0].toArray 220 (0,0))⟩) (hnd:=by simp) 7 ⟨⟨_,rfl,rfl,rfl,rfl,rfl,rfl,fun q=>Ef.alloc zeroValue220⟩,trivial⟩ (fun nm1=> ?_) (hL:=(hlA (h:=by repeat first|exact trivial|refine ⟨clA,?_⟩|refine HL.app (hr0 _ _ leA) ?_|refine ⟨hx0 _ leA 0 _ rfl,?_⟩|refine ⟨hx0 _ leA _ _ rfl,?_⟩|refine HL.app (hr1 _ _ leA) ?_|refine ⟨hx1 _ leA 0 _ rfl,?_⟩|refine ⟨hx1 _ leA _ _ rfl,?_⟩)))
  change XF _ _ _ _ _ _ _ [] _ _ _ ((7,.pointer (some ⟨nm1,0,none⟩))::_) _ _ (pto nm1 (.cells [.int .i64 0,.int .i64 0,.slice none 0 0].toArray 220 (0,0))::_)
  refine XF.back ?_ (hL:=(hlA (h:=by repeat first|exact trivial|refine ⟨clA,?_⟩|refine HL.app (hr0 _ _ leA) ?_|refine ⟨hx0 _ leA 0 _ rfl,?_⟩|refine ⟨hx0 _ leA _ _ rfl,?_⟩|refine HL.app (hr1 _ _ leA) ?_|refine ⟨hx1 _ leA 0 _ rfl,?_⟩|refine ⟨hx1 _ leA _ _ rfl,?_⟩)))
  refine Z9 8 ?_;refine XD.nil ?_;refine xo 4 ?_;refine ld ?_;refine ox 2 ?_;refine X.part 58 rfl (fun h1=> ?_) (fun h1=> ?_)
  · replace h1:=sp h1
    refine xo 3 ?_;refine ldA ?_;refine stA ?_;refine ox 1 ?_
    repeat (first|rw [if_pos (by omega)] at hR|rw [if_neg (by omega)] at hR)
    refine Zq (q) func108 (rA_ results108) ⟨_,rfl,ra1,rc1,by rw [←hR];rfl,rfl⟩
  replace h1:=sp h1
  refine xo 6 ?_;refine ld ?_;refine ox 7 ?_;refine Zj 62 ?_;refine xx 6 ?_;refine Zj 92 ?_;refine xx 6 ?_;refine Zj 105 ?_;refine xo 6 ?_;refine ld ?_;refine oo 8 ?_;refine XO.kt 118 ?_;refine oo 1 ?_;refine ld ?_;refine oo 3 ?_;refine XO.part 123 rfl (fun h2=> ?_) (fun h2=> ?_)
  · replace h2:=sp h2
    refine ox 11 ?_;refine drw ?_;refine dd [0,1,3] ?_;refine ldD 4 ?_;refine Z7 2 call162 (V0) ?_ (hL:=(hlA (h:=by repeat first|exact trivial|refine ⟨clA,?_⟩|refine HL.app (hr0 _ _ leA) ?_|refine ⟨hx0 _ leA 0 _ rfl,?_⟩|refine ⟨hx0 _ leA _ _ rfl,?_⟩|refine HL.app (hr1 _ _ leA) ?_|refine ⟨hx1 _ leA 0 _ rfl,?_⟩|refine ⟨hx1 _ leA _ _ rfl,?_⟩)))
    refine dd [5] ?_;refine Z9 6 ?_;refine XD.nil ?_
    repeat (first|rw [if_pos (by omega)] at hR|rw [if_neg (by omega)] at hR)
    refine Zq (q) func108 (rA_ results108) ⟨_,rfl,ra1,rc1,by rw [←hR];rfl,rfl⟩
  replace h2:=sp h2
  refine oo 3 ?_;refine Wh 126 ?_;refine ox 9 ?_;refine drw ?_;refine Z4 0 ?_;refine dd [1] ?_;refine ldD 2 ?_;refine dd [3] ?_;refine Vp 4 (m:=1) isAgg215 sizeOf215 hA hl1 ?_ (hf:=Zl)
  refine dd [5] ?_;refine Yy (fl:= [⟨7,12,fun g=> .pointer (some ⟨g,0,none⟩),fun g=>pto g (.cells [.int .i64 0,.int .i64 0,.slice none 0 0].toArray 220 (0,0))⟩]) ?_
  refine Jd 6 ⟨⟨_,rfl,rfl,rfl,rfl,rfl,rfl,fun q=>Ef.alloc zeroValue220⟩,trivial⟩ call108 (Le.refl _) (hI2 (Kn.le hK2)) ?_ (hL:=(hlA (h:=by repeat first|exact trivial|refine ⟨clA,?_⟩|refine HL.app (hr0 _ _ leA) ?_|refine ⟨hx0 _ leA 0 _ rfl,?_⟩|refine ⟨hx0 _ leA _ _ rfl,?_⟩|refine HL.app (hr1 _ _ leA) ?_|refine ⟨hx1 _ leA 0 _ rfl,?_⟩|refine ⟨hx1 _ leA _ _ rfl,?_⟩)))
  rintro _ _ ⟨ra2,rc2,rfl,rfl⟩
  refine ⟨(hlA (h:=by repeat first|exact trivial|refine ⟨clA,?_⟩|refine HL.app (hr0 _ _ leA) ?_|refine ⟨hx0 _ leA 0 _ rfl,?_⟩|refine ⟨hx0 _ leA _ _ rfl,?_⟩|refine HL.app (hr1 _ _ leA) ?_|refine ⟨hx1 _ leA 0 _ rfl,?_⟩|refine ⟨hx1 _ leA _ _ rfl,?_⟩)),?_⟩
  refine Wv (e0:=⟨7,12,fun g=> .pointer (some ⟨g,0,none⟩),fun g=>pto g (.cells [.int .i64 0,.int .i64 0,.slice none 0 0].toArray 220 (0,0))⟩) (hnd:=by simp) 7 ⟨⟨_,rfl,rfl,rfl,rfl,rfl,rfl,fun q=>Ef.alloc zeroValue220⟩,trivial⟩ (fun nm2=> ?_) (hL:=(hlA (h:=by repeat first|exact trivial|refine ⟨clA,?_⟩|refine HL.app (hr0 _ _ leA) ?_|refine ⟨hx0 _ leA 0 _ rfl,?_⟩|refine ⟨hx0 _ leA _ _ rfl,?_⟩|refine HL.app (hr1 _ _ leA) ?_|refine ⟨hx1 _ leA 0 _ rfl,?_⟩|refine ⟨hx1 _ leA _ _ rfl,?_⟩)))
  change XF _ _ _ _ _ _ _ [] _ _ _ ((12,.pointer (some ⟨nm2,0,none⟩))::_) _ _ (pto nm2 (.cells [.int .i64 0,.int .i64 0,.slice none 0 0].toArray 220 (0,0))::_)
  refine XF.back ?_ (hL:=(hlA (h:=by repeat first|exact trivial|refine ⟨clA,?_⟩|refine HL.app (hr0 _ _ leA) ?_|refine ⟨hx0 _ leA 0 _ rfl,?_⟩|refine ⟨hx0 _ leA _ _ rfl,?_⟩|refine HL.app (hr1 _ _ leA) ?_|refine ⟨hx1 _ leA 0 _ rfl,?_⟩|refine ⟨hx1 _ leA _ _ rfl,?_⟩)))
  refine Z9 8 ?_;refine XD.nil ?_;refine xx 1 ?_;refine drw ?_;refine dd [0] ?_;refine ldD 1 ?_;refine dd [3] ?_;refine ldD 4 ?_;refine XD.le (q':=rsH Bv 3 45 none 0 []::_) (Wq _ _ _ _) ?_
  refine XD.ef 2 rfl (Z5 (f:=Bv) (l:= []) (m:= []) underlying218 Mb rfl rfl (fun _=>rfl) rfl rfl Zw (Sees.nil _ _) (fun _=>rfl) (by simp) (by simp)) ?_
  rintro _ _ ⟨a2,c2,rfl,rfl⟩
  refine ⟨(hlA (h:=by repeat first|exact trivial|refine ⟨clA,?_⟩|refine HL.app (hr0 _ _ leA) ?_|refine ⟨hx0 _ leA 0 _ rfl,?_⟩|refine ⟨hx0 _ leA _ _ rfl,?_⟩|refine HL.app (hr1 _ _ leA) ?_|refine ⟨hx1 _ leA 0 _ rfl,?_⟩|refine ⟨hx1 _ leA _ _ rfl,?_⟩)),?_⟩
  refine XD.ef 5 rfl (Z5 (f:=Bv) (l:= []) (m:= []) underlying218 Mb rfl rfl (fun _=>rfl) rfl rfl Zw (Sees.nil _ _) (fun _=>rfl) (by simp) (by simp)) ?_
  rintro _ _ ⟨a3,c3,rfl,rfl⟩
  refine ⟨trivial,?_⟩
  refine dd [6] ?_;refine stD 7 ?_;refine XD.nil ?_;refine xo 4 ?_;refine ld ?_;refine ox 2 ?_;refine X.part 154 rfl (fun h3=> ?_) (fun h3=> ?_)
  focus
   replace h3:=sp h3
   refine xo 3 ?_
  rotate_left
  focus
   replace h3:=sp h3
   refine xx 8 ?_;refine X.kt 157 ?_;refine xo 4 ?_;refine ld ?_;refine oo 1 ?_;refine XO.cR call162 (V0) ?_;refine oo 1 ?_;refine st ?_;refine oo 3 ?_
  all_goals
   refine ldA ?_
 rotate_left 2
 focus
  obtain ⟨x,x2,rfl⟩: ∃ x y,args= [x,y]:=(by match args,hf2 with| [x,y],_=>exact ⟨x,y,rfl⟩);obtain ⟨k1,z1,s1,l1,o1,p1,y1,u1,w1⟩:=x;obtain ⟨k2,z2,s2,l2,o2,p2,y2,u2,w2⟩:=x2
  simp only [Za,Vu,Bool.and_eq_true] at hp;simp only [Za,PEx.fits] at hf5;simp only [Za,Wi,List.getD_cons_zero,List.getD_cons_succ] at hR
  obtain ⟨A,hA1⟩: ∃ A,(Ex.er (.mk k1 z1 s1 l1 o1 p1 y1 u1 w1)).ev=A:=⟨_,rfl⟩;have hAv:val A.1:=(by rw [←hA1];exact Vd hf5.1);have hs1:Ex.sz (.mk k1 z1 s1 l1 o1 p1 y1 u1 w1)<Ex.sz (.mk 6 z nm sl lo 2 [(.mk k1 z1 s1 l1 o1 p1 y1 u1 w1),(.mk k2 z2 s2 l2 o2 p2 y2 u2 w2)] aa ac):=(by simp only [Ex.sz,Vt];omega);have hK1:Kn q fun M=>Ex.At M (.mk k1 z1 s1 l1 o1 p1 y1 u1 w1):=Vc (args:= [(.mk k1 z1 s1 l1 o1 p1 y1 u1 w1),(.mk k2 z2 s2 l2 o2 p2 y2 u2 w2)]) h (i:=0) (by simp);rw [hA1] at hR;simp only [Int.reduceEq,if_false,if_true,reduceIte,true_and,false_and,or_false,false_or] at hR
  obtain ⟨B,hB1⟩: ∃ B,(Ex.er (.mk k2 z2 s2 l2 o2 p2 y2 u2 w2)).ev=B:=⟨_,rfl⟩;have hBv:val B.1:=(by rw [←hB1];exact Vd hf5.2.1);have hs2:Ex.sz (.mk k2 z2 s2 l2 o2 p2 y2 u2 w2)<Ex.sz (.mk 6 z nm sl lo 2 [(.mk k1 z1 s1 l1 o1 p1 y1 u1 w1),(.mk k2 z2 s2 l2 o2 p2 y2 u2 w2)] aa ac):=(by simp only [Ex.sz,Vt];omega);have hK2:Kn q fun M=>Ex.At M (.mk k2 z2 s2 l2 o2 p2 y2 u2 w2):=Vc (args:= [(.mk k1 z1 s1 l1 o1 p1 y1 u1 w1),(.mk k2 z2 s2 l2 o2 p2 y2 u2 w2)]) h (i:=1) (by simp);rw [hB1] at hR
  have hI1: ∀ {q:List HP},(Kn q fun M=>Ex.At M (.mk k1 z1 s1 l1 o1 p1 y1 u1 w1))→CallF prog G 108 [.agg #[.slice none 0 0,.slice none 0 0,.int .i64 0,.int .i64 0,.slice none 0 0,.slice none 0 0,.int .i64 0,.int .i64 0,.slice none 0 0,.slice none 0 0,.slice none 0 0,.slice none 0 0,.slice none 0 0,.slice none 0 0,.slice none 0 0,.slice none 0 0,.slice none 0 0,.slice none 0 0,.slice none 0 0,.int .i64 0,.int .i64 0,.int .i64 0,.int .i64 0],.agg (exC (.mk k1 z1 s1 l1 o1 p1 y1 u1 w1)).toArray,.slice none 0 0] q (Ret fun v q'=> ∃ (ra:Option Addr) (rc:Nat),v= .agg [.int .i64 A.1,.int .i64 A.2,.slice ra 0 rc].toArray∧q'=q):=(by intro q h;rw [←hA1];exact IH (.mk k1 z1 s1 l1 o1 p1 y1 u1 w1) hs1 h hp.1 hf5.1)
  have hI2: ∀ {q:List HP},(Kn q fun M=>Ex.At M (.mk k2 z2 s2 l2 o2 p2 y2 u2 w2))→CallF prog G 108 [.agg #[.slice none 0 0,.slice none 0 0,.int .i64 0,.int .i64 0,.slice none 0 0,.slice none 0 0,.int .i64 0,.int .i64 0,.slice none 0 0,.slice none 0 0,.slice none 0 0,.slice none 0 0,.slice none 0 0,.slice none 0 0,.slice none 0 0,.slice none 0 0,.slice none 0 0,.slice none 0 0,.slice none 0 0,.int .i64 0,.int .i64 0,.int .i64 0,.int .i64 0],.agg (exC (.mk k2 z2 s2 l2 o2 p2 y2 u2 w2)).toArray,.slice none 0 0] q (Ret fun v q'=> ∃ (ra:Option Addr) (rc:Nat),v= .agg [.int .i64 B.1,.int .i64 B.2,.slice ra 0 rc].toArray∧q'=q):=(by intro q h;rw [←hB1];exact IH (.mk k2 z2 s2 l2 o2 p2 y2 u2 w2) hs2 h hp.2.1 hf5.2.1)
  have hl0:0<([(.mk k1 z1 s1 l1 o1 p1 y1 u1 w1),(.mk k2 z2 s2 l2 o2 p2 y2 u2 w2)]:List Ex).length:=by simp
  have hl1:1<([(.mk k1 z1 s1 l1 o1 p1 y1 u1 w1),(.mk k2 z2 s2 l2 o2 p2 y2 u2 w2)]:List Ex).length:=by simp
  refine xo 2 ?_;refine Zb fun n13=> ?_
  refine Zb fun n14=> ?_
  refine Zy zeroValue220 fun n15=> ?_
  refine oo 5 ?_;refine ld ?_;refine ox 7 ?_;refine Zj 17 ?_;refine xx 6 ?_;refine Zj 22 ?_;refine xx 4 ?_;refine drw ?_;refine Z4 0 ?_;refine dd [1] ?_;refine ldD 2 ?_;refine Yp hA (by simp [Zl]) (fun b9 o9 e9=> ?_);subst e9
  have hx0: ∀ (Q:List HP),Le Q q→ ∀ (j:Nat) (v:Value),(exC (.mk k1 z1 s1 l1 o1 p1 y1 u1 w1))[j]? =some v→Cl Q ⟨b9,o9+(0:Int).toNat*7+j,none⟩ v:=fun Q hQ j v hk=>Yi (j:=0) (n:=0) (sz:=7) hA hQ Zl hl0 rfl j v hk;have hr0: ∀ (Q:List HP) (i:Nat),Le Q q→HL Q (rdA i b9 (o9+(0:Int).toNat*7) (exC (.mk k1 z1 s1 l1 o1 p1 y1 u1 w1))):=fun Q i hQ=>HL.rdA fun j v hk=>hx0 Q hQ j v hk
  have hx1: ∀ (Q:List HP),Le Q q→ ∀ (j:Nat) (v:Value),(exC (.mk k2 z2 s2 l2 o2 p2 y2 u2 w2))[j]? =some v→Cl Q ⟨b9,o9+(1:Int).toNat*7+j,none⟩ v:=fun Q hQ j v hk=>Yi (j:=1) (n:=1) (sz:=7) hA hQ Zl hl1 rfl j v hk;have hr1: ∀ (Q:List HP) (i:Nat),Le Q q→HL Q (rdA i b9 (o9+(1:Int).toNat*7) (exC (.mk k2 z2 s2 l2 o2 p2 y2 u2 w2))):=fun Q i hQ=>HL.rdA fun j v hk=>hx1 Q hQ j v hk
  refine dd [3] ?_;refine Vp 4 (m:=0) isAgg215 sizeOf215 hA hl0 ?_ (hf:=Zl)
  refine dd [5] ?_;refine Yy (fl:= [⟨7,7,fun g=> .pointer (some ⟨g,0,none⟩),fun g=>pto g (.cells [.int .i64 0,.int .i64 0,.slice none 0 0].toArray 220 (0,0))⟩]) ?_
  refine Jd 6 ⟨⟨_,rfl,rfl,rfl,rfl,rfl,rfl,fun q=>Ef.alloc zeroValue220⟩,trivial⟩ call108 (Le.refl _) (hI1 (Kn.le hK1)) ?_ (hL:=(hlA (h:=by repeat first|exact trivial|refine ⟨clA,?_⟩|refine HL.app (hr0 _ _ leA) ?_|refine ⟨hx0 _ leA 0 _ rfl,?_⟩|refine ⟨hx0 _ leA _ _ rfl,?_⟩|refine HL.app (hr1 _ _ leA) ?_|refine ⟨hx1 _ leA 0 _ rfl,?_⟩|refine ⟨hx1 _ leA _ _ rfl,?_⟩)))
  rintro _ _ ⟨ra1,rc1,rfl,rfl⟩
  refine ⟨(hlA (h:=by repeat first|exact trivial|refine ⟨clA,?_⟩|refine HL.app (hr0 _ _ leA) ?_|refine ⟨hx0 _ leA 0 _ rfl,?_⟩|refine ⟨hx0 _ leA _ _ rfl,?_⟩|refine HL.app (hr1 _ _ leA) ?_|refine ⟨hx1 _ leA 0 _ rfl,?_⟩|refine ⟨hx1 _ leA _ _ rfl,?_⟩)),?_⟩
  refine Wv (e0:=⟨7,7,fun g=> .pointer (some ⟨g,0,none⟩),fun g=>pto g (.cells [.int .i64 0,.int .i64 0,.slice none 0 0].toArray 220 (0,0))⟩) (hnd:=by simp) 7 ⟨⟨_,rfl,rfl,rfl,rfl,rfl,rfl,fun q=>Ef.alloc zeroValue220⟩,trivial⟩ (fun nm1=> ?_) (hL:=(hlA (h:=by repeat first|exact trivial|refine ⟨clA,?_⟩|refine HL.app (hr0 _ _ leA) ?_|refine ⟨hx0 _ leA 0 _ rfl,?_⟩|refine ⟨hx0 _ leA _ _ rfl,?_⟩|refine HL.app (hr1 _ _ leA) ?_|refine ⟨hx1 _ leA 0 _ rfl,?_⟩|refine ⟨hx1 _ leA _ _ rfl,?_⟩)))
  change XF _ _ _ _ _ _ _ [] _ _ _ ((7,.pointer (some ⟨nm1,0,none⟩))::_) _ _ (pto nm1 (.cells [.int .i64 0,.int .i64 0,.slice none 0 0].toArray 220 (0,0))::_)
  refine XF.back ?_ (hL:=(hlA (h:=by repeat first|exact trivial|refine ⟨clA,?_⟩|refine HL.app (hr0 _ _ leA) ?_|refine ⟨hx0 _ leA 0 _ rfl,?_⟩|refine ⟨hx0 _ leA _ _ rfl,?_⟩|refine HL.app (hr1 _ _ leA) ?_|refine ⟨hx1 _ leA 0 _ rfl,?_⟩|refine ⟨hx1 _ leA _ _ rfl,?_⟩)))
  refine Z9 8 ?_;refine XD.nil ?_;refine xo 4 ?_;refine ld ?_;refine ox 2 ?_;refine X.part 58 rfl (fun h1=> ?_) (fun h1=> ?_)
  · replace h1:=sp h1
    refine xo 3 ?_;refine ldA ?_;refine stA ?_;refine ox 1 ?_
    repeat (first|rw [if_pos (by omega)] at hR|rw [if_neg (by omega)] at hR)
    refine Zq (q) func108 (rA_ results108) ⟨_,rfl,ra1,rc1,by rw [←hR];rfl,rfl⟩
  replace h1:=sp h1
  refine xo 6 ?_;refine ld ?_;refine ox 7 ?_;refine Zj 62 ?_;refine xx 6 ?_;refine Zj 92 ?_;refine xx 6 ?_;refine Zj 105 ?_;refine xo 6 ?_;refine ld ?_;refine oo 8 ?_;refine Wh 118 ?_;refine oo 8 ?_;refine XO.kt 126 ?_;refine oo 1 ?_;refine ld ?_;refine ox 4 ?_;refine X.part 131 rfl (fun h2=> ?_) (fun h2=> ?_)
  · replace h2:=sp h2
    refine xx 2 ?_;refine drw ?_;refine dd [0,1,3] ?_;refine ldD 4 ?_;refine Z7 2 call162 (V0) ?_ (hL:=(hlA (h:=by repeat first|exact trivial|refine ⟨clA,?_⟩|refine HL.app (hr0 _ _ leA) ?_|refine ⟨hx0 _ leA 0 _ rfl,?_⟩|refine ⟨hx0 _ leA _ _ rfl,?_⟩|refine HL.app (hr1 _ _ leA) ?_|refine ⟨hx1 _ leA 0 _ rfl,?_⟩|refine ⟨hx1 _ leA _ _ rfl,?_⟩)))
    refine dd [5] ?_;refine Z9 6 ?_;refine XD.nil ?_
    repeat (first|rw [if_pos (by omega)] at hR|rw [if_neg (by omega)] at hR)
    refine Zq (q) func108 (rA_ results108) ⟨_,rfl,ra1,rc1,by rw [←hR];rfl,rfl⟩
  replace h2:=sp h2
  refine xx 3 ?_;refine drw ?_;refine Z4 0 ?_;refine dd [1] ?_;refine ldD 2 ?_;refine dd [3] ?_;refine Vp 4 (m:=1) isAgg215 sizeOf215 hA hl1 ?_ (hf:=Zl)
  refine dd [5] ?_;refine Yy (fl:= [⟨7,12,fun g=> .pointer (some ⟨g,0,none⟩),fun g=>pto g (.cells [.int .i64 0,.int .i64 0,.slice none 0 0].toArray 220 (0,0))⟩]) ?_
  refine Jd 6 ⟨⟨_,rfl,rfl,rfl,rfl,rfl,rfl,fun q=>Ef.alloc zeroValue220⟩,trivial⟩ call108 (Le.refl _) (hI2 (Kn.le hK2)) ?_ (hL:=(hlA (h:=by repeat first|exact trivial|refine ⟨clA,?_⟩|refine HL.app (hr0 _ _ leA) ?_|refine ⟨hx0 _ leA 0 _ rfl,?_⟩|refine ⟨hx0 _ leA _ _ rfl,?_⟩|refine HL.app (hr1 _ _ leA) ?_|refine ⟨hx1 _ leA 0 _ rfl,?_⟩|refine ⟨hx1 _ leA _ _ rfl,?_⟩)))
  rintro _ _ ⟨ra2,rc2,rfl,rfl⟩
  refine ⟨(hlA (h:=by repeat first|exact trivial|refine ⟨clA,?_⟩|refine HL.app (hr0 _ _ leA) ?_|refine ⟨hx0 _ leA 0 _ rfl,?_⟩|refine ⟨hx0 _ leA _ _ rfl,?_⟩|refine HL.app (hr1 _ _ leA) ?_|refine ⟨hx1 _ leA 0 _ rfl,?_⟩|refine ⟨hx1 _ leA _ _ rfl,?_⟩)),?_⟩
  refine Wv (e0:=⟨7,12,fun g=> .pointer (some ⟨g,0,none⟩),fun g=>pto g (.cells [.int .i64 0,.int .i64 0,.slice none 0 0].toArray 220 (0,0))⟩) (hnd:=by simp) 7 ⟨⟨_,rfl,rfl,rfl,rfl,rfl,rfl,fun q=>Ef.alloc zeroValue220⟩,trivial⟩ (fun nm2=> ?_) (hL:=(hlA (h:=by repeat first|exact trivial|refine ⟨clA,?_⟩|refine HL.app (hr0 _ _ leA) ?_|refine ⟨hx0 _ leA 0 _ rfl,?_⟩|refine ⟨hx0 _ leA _ _ rfl,?_⟩|refine HL.app (hr1 _ _ leA) ?_|refine ⟨hx1 _ leA 0 _ rfl,?_⟩|refine ⟨hx1 _ leA _ _ rfl,?_⟩)))
  change XF _ _ _ _ _ _ _ [] _ _ _ ((12,.pointer (some ⟨nm2,0,none⟩))::_) _ _ (pto nm2 (.cells [.int .i64 0,.int .i64 0,.slice none 0 0].toArray 220 (0,0))::_)
  refine XF.back ?_ (hL:=(hlA (h:=by repeat first|exact trivial|refine ⟨clA,?_⟩|refine HL.app (hr0 _ _ leA) ?_|refine ⟨hx0 _ leA 0 _ rfl,?_⟩|refine ⟨hx0 _ leA _ _ rfl,?_⟩|refine HL.app (hr1 _ _ leA) ?_|refine ⟨hx1 _ leA 0 _ rfl,?_⟩|refine ⟨hx1 _ leA _ _ rfl,?_⟩)))
  refine Z9 8 ?_;refine XD.nil ?_;refine xx 1 ?_;refine drw ?_;refine dd [0] ?_;refine ldD 1 ?_;refine dd [3] ?_;refine ldD 4 ?_;refine XD.le (q':=rsH Bv 3 45 none 0 []::_) (Wq _ _ _ _) ?_
  refine XD.ef 2 rfl (Z5 (f:=Bv) (l:= []) (m:= []) underlying218 Mb rfl rfl (fun _=>rfl) rfl rfl Zw (Sees.nil _ _) (fun _=>rfl) (by simp) (by simp)) ?_
  rintro _ _ ⟨a2,c2,rfl,rfl⟩
  refine ⟨(hlA (h:=by repeat first|exact trivial|refine ⟨clA,?_⟩|refine HL.app (hr0 _ _ leA) ?_|refine ⟨hx0 _ leA 0 _ rfl,?_⟩|refine ⟨hx0 _ leA _ _ rfl,?_⟩|refine HL.app (hr1 _ _ leA) ?_|refine ⟨hx1 _ leA 0 _ rfl,?_⟩|refine ⟨hx1 _ leA _ _ rfl,?_⟩)),?_⟩
  refine XD.ef 5 rfl (Z5 (f:=Bv) (l:= []) (m:= []) underlying218 Mb rfl rfl (fun _=>rfl) rfl rfl Zw (Sees.nil _ _) (fun _=>rfl) (by simp) (by simp)) ?_
  rintro _ _ ⟨a3,c3,rfl,rfl⟩
  refine ⟨trivial,?_⟩
  refine dd [6] ?_;refine stD 7 ?_;refine XD.nil ?_;refine xo 4 ?_;refine ld ?_;refine ox 2 ?_;refine X.part 154 rfl (fun h3=> ?_) (fun h3=> ?_)
  focus
   replace h3:=sp h3
   refine xo 3 ?_
  rotate_left
  focus
   replace h3:=sp h3
   refine xx 8 ?_;refine X.kt 157 ?_;refine xo 4 ?_;refine ld ?_;refine oo 1 ?_;refine XO.cR call162 (V0) ?_;refine oo 1 ?_;refine st ?_;refine oo 3 ?_
  all_goals
   refine ldA ?_
 rotate_left 2
 focus
  obtain ⟨x,x2,rfl⟩: ∃ x y,args= [x,y]:=(by match args,hf2 with| [x,y],_=>exact ⟨x,y,rfl⟩);obtain ⟨k1,z1,s1,l1,o1,p1,y1,u1,w1⟩:=x;obtain ⟨k2,z2,s2,l2,o2,p2,y2,u2,w2⟩:=x2
  simp only [Za,Vu,Bool.and_eq_true] at hp;simp only [Za,PEx.fits] at hf5;simp only [Za,Wi,List.getD_cons_zero,List.getD_cons_succ] at hR
  obtain ⟨A,hA1⟩: ∃ A,(Ex.er (.mk k1 z1 s1 l1 o1 p1 y1 u1 w1)).ev=A:=⟨_,rfl⟩;have hAv:val A.1:=(by rw [←hA1];exact Vd hf5.1);have hs1:Ex.sz (.mk k1 z1 s1 l1 o1 p1 y1 u1 w1)<Ex.sz (.mk 6 z nm sl lo op [(.mk k1 z1 s1 l1 o1 p1 y1 u1 w1),(.mk k2 z2 s2 l2 o2 p2 y2 u2 w2)] aa ac):=(by simp only [Ex.sz,Vt];omega);have hK1:Kn q fun M=>Ex.At M (.mk k1 z1 s1 l1 o1 p1 y1 u1 w1):=Vc (args:= [(.mk k1 z1 s1 l1 o1 p1 y1 u1 w1),(.mk k2 z2 s2 l2 o2 p2 y2 u2 w2)]) h (i:=0) (by simp);rw [hA1] at hR;simp only [Int.reduceEq,if_false,if_true,reduceIte,true_and,false_and,or_false,false_or] at hR
  obtain ⟨B,hB1⟩: ∃ B,(Ex.er (.mk k2 z2 s2 l2 o2 p2 y2 u2 w2)).ev=B:=⟨_,rfl⟩;have hBv:val B.1:=(by rw [←hB1];exact Vd hf5.2.1);have hs2:Ex.sz (.mk k2 z2 s2 l2 o2 p2 y2 u2 w2)<Ex.sz (.mk 6 z nm sl lo op [(.mk k1 z1 s1 l1 o1 p1 y1 u1 w1),(.mk k2 z2 s2 l2 o2 p2 y2 u2 w2)] aa ac):=(by simp only [Ex.sz,Vt];omega);have hK2:Kn q fun M=>Ex.At M (.mk k2 z2 s2 l2 o2 p2 y2 u2 w2):=Vc (args:= [(.mk k1 z1 s1 l1 o1 p1 y1 u1 w1),(.mk k2 z2 s2 l2 o2 p2 y2 u2 w2)]) h (i:=1) (by simp);rw [hB1] at hR
  have hI1: ∀ {q:List HP},(Kn q fun M=>Ex.At M (.mk k1 z1 s1 l1 o1 p1 y1 u1 w1))→CallF prog G 108 [.agg #[.slice none 0 0,.slice none 0 0,.int .i64 0,.int .i64 0,.slice none 0 0,.slice none 0 0,.int .i64 0,.int .i64 0,.slice none 0 0,.slice none 0 0,.slice none 0 0,.slice none 0 0,.slice none 0 0,.slice none 0 0,.slice none 0 0,.slice none 0 0,.slice none 0 0,.slice none 0 0,.slice none 0 0,.int .i64 0,.int .i64 0,.int .i64 0,.int .i64 0],.agg (exC (.mk k1 z1 s1 l1 o1 p1 y1 u1 w1)).toArray,.slice none 0 0] q (Ret fun v q'=> ∃ (ra:Option Addr) (rc:Nat),v= .agg [.int .i64 A.1,.int .i64 A.2,.slice ra 0 rc].toArray∧q'=q):=(by intro q h;rw [←hA1];exact IH (.mk k1 z1 s1 l1 o1 p1 y1 u1 w1) hs1 h hp.1 hf5.1)
  have hI2: ∀ {q:List HP},(Kn q fun M=>Ex.At M (.mk k2 z2 s2 l2 o2 p2 y2 u2 w2))→CallF prog G 108 [.agg #[.slice none 0 0,.slice none 0 0,.int .i64 0,.int .i64 0,.slice none 0 0,.slice none 0 0,.int .i64 0,.int .i64 0,.slice none 0 0,.slice none 0 0,.slice none 0 0,.slice none 0 0,.slice none 0 0,.slice none 0 0,.slice none 0 0,.slice none 0 0,.slice none 0 0,.slice none 0 0,.slice none 0 0,.int .i64 0,.int .i64 0,.int .i64 0,.int .i64 0],.agg (exC (.mk k2 z2 s2 l2 o2 p2 y2 u2 w2)).toArray,.slice none 0 0] q (Ret fun v q'=> ∃ (ra:Option Addr) (rc:Nat),v= .agg [.int .i64 B.1,.int .i64 B.2,.slice ra 0 rc].toArray∧q'=q):=(by intro q h;rw [←hB1];exact IH (.mk k2 z2 s2 l2 o2 p2 y2 u2 w2) hs2 h hp.2.1 hf5.2.1)
  have hl0:0<([(.mk k1 z1 s1 l1 o1 p1 y1 u1 w1),(.mk k2 z2 s2 l2 o2 p2 y2 u2 w2)]:List Ex).length:=by simp
  have hl1:1<([(.mk k1 z1 s1 l1 o1 p1 y1 u1 w1),(.mk k2 z2 s2 l2 o2 p2 y2 u2 w2)]:List Ex).length:=by simp
  refine xo 2 ?_;refine Zb fun n16=> ?_
  refine Zb fun n17=> ?_
  refine Zy zeroValue220 fun n18=> ?_
  refine oo 5 ?_;refine ld ?_;refine ox 7 ?_;refine Zj 17 ?_;refine xx 6 ?_;refine Zj 22 ?_;refine xx 4 ?_;refine drw ?_;refine Z4 0 ?_;refine dd [1] ?_;refine ldD 2 ?_;refine Yp hA (by simp [Zl]) (fun b9 o9 e9=> ?_);subst e9
  have hx0: ∀ (Q:List HP),Le Q q→ ∀ (j:Nat) (v:Value),(exC (.mk k1 z1 s1 l1 o1 p1 y1 u1 w1))[j]? =some v→Cl Q ⟨b9,o9+(0:Int).toNat*7+j,none⟩ v:=fun Q hQ j v hk=>Yi (j:=0) (n:=0) (sz:=7) hA hQ Zl hl0 rfl j v hk;have hr0: ∀ (Q:List HP) (i:Nat),Le Q q→HL Q (rdA i b9 (o9+(0:Int).toNat*7) (exC (.mk k1 z1 s1 l1 o1 p1 y1 u1 w1))):=fun Q i hQ=>HL.rdA fun j v hk=>hx0 Q hQ j v hk
  have hx1: ∀ (Q:List HP),Le Q q→ ∀ (j:Nat) (v:Value),(exC (.mk k2 z2 s2 l2 o2 p2 y2 u2 w2))[j]? =some v→Cl Q ⟨b9,o9+(1:Int).toNat*7+j,none⟩ v:=fun Q hQ j v hk=>Yi (j:=1) (n:=1) (sz:=7) hA hQ Zl hl1 rfl j v hk;have hr1: ∀ (Q:List HP) (i:Nat),Le Q q→HL Q (rdA i b9 (o9+(1:Int).toNat*7) (exC (.mk k2 z2 s2 l2 o2 p2 y2 u2 w2))):=fun Q i hQ=>HL.rdA fun j v hk=>hx1 Q hQ j v hk
  refine dd [3] ?_;refine Vp 4 (m:=0) isAgg215 sizeOf215 hA hl0 ?_ (hf:=Zl)
  refine dd [5] ?_;refine Yy (fl:= [⟨7,7,fun g=> .pointer (some ⟨g,0,none⟩),fun g=>pto g (.cells [.int .i64 0,.int .i64 0,.slice none 0 0].toArray 220 (0,0))⟩]) ?_
  refine Jd 6 ⟨⟨_,rfl,rfl,rfl,rfl,rfl,rfl,fun q=>Ef.alloc zeroValue220⟩,trivial⟩ call108 (Le.refl _) (hI1 (Kn.le hK1)) ?_ (hL:=(hlA (h:=by repeat first|exact trivial|refine ⟨clA,?_⟩|refine HL.app (hr0 _ _ leA) ?_|refine ⟨hx0 _ leA 0 _ rfl,?_⟩|refine ⟨hx0 _ leA _ _ rfl,?_⟩|refine HL.app (hr1 _ _ leA) ?_|refine ⟨hx1 _ leA 0 _ rfl,?_⟩|refine ⟨hx1 _ leA _ _ rfl,?_⟩)))
  rintro _ _ ⟨ra1,rc1,rfl,rfl⟩
  refine ⟨(hlA (h:=by repeat first|exact trivial|refine ⟨clA,?_⟩|refine HL.app (hr0 _ _ leA) ?_|refine ⟨hx0 _ leA 0 _ rfl,?_⟩|refine ⟨hx0 _ leA _ _ rfl,?_⟩|refine HL.app (hr1 _ _ leA) ?_|refine ⟨hx1 _ leA 0 _ rfl,?_⟩|refine ⟨hx1 _ leA _ _ rfl,?_⟩)),?_⟩
  refine Wv (e0:=⟨7,7,fun g=> .pointer (some ⟨g,0,none⟩),fun g=>pto g (.cells [.int .i64 0,.int .i64 0,.slice none 0 0].toArray 220 (0,0))⟩) (hnd:=by simp) 7 ⟨⟨_,rfl,rfl,rfl,rfl,rfl,rfl,fun q=>Ef.alloc zeroValue220⟩,trivial⟩ (fun nm1=> ?_) (hL:=(hlA (h:=by repeat first|exact trivial|refine ⟨clA,?_⟩|refine HL.app (hr0 _ _ leA) ?_|refine ⟨hx0 _ leA 0 _ rfl,?_⟩|refine ⟨hx0 _ leA _ _ rfl,?_⟩|refine HL.app (hr1 _ _ leA) ?_|refine ⟨hx1 _ leA 0 _ rfl,?_⟩|refine ⟨hx1 _ leA _ _ rfl,?_⟩)))
  change XF _ _ _ _ _ _ _ [] _ _ _ ((7,.pointer (some ⟨nm1,0,none⟩))::_) _ _ (pto nm1 (.cells [.int .i64 0,.int .i64 0,.slice none 0 0].toArray 220 (0,0))::_)
  refine XF.back ?_ (hL:=(hlA (h:=by repeat first|exact trivial|refine ⟨clA,?_⟩|refine HL.app (hr0 _ _ leA) ?_|refine ⟨hx0 _ leA 0 _ rfl,?_⟩|refine ⟨hx0 _ leA _ _ rfl,?_⟩|refine HL.app (hr1 _ _ leA) ?_|refine ⟨hx1 _ leA 0 _ rfl,?_⟩|refine ⟨hx1 _ leA _ _ rfl,?_⟩)))
  refine Z9 8 ?_;refine XD.nil ?_;refine xo 4 ?_;refine ld ?_;refine ox 2 ?_;refine X.part 58 rfl (fun h1=> ?_) (fun h1=> ?_)
  · replace h1:=sp h1
    refine xo 3 ?_;refine ldA ?_;refine stA ?_;refine ox 1 ?_
    repeat (first|rw [if_pos (by omega)] at hR|rw [if_neg (by omega)] at hR)
    refine Zq (q) func108 (rA_ results108) ⟨_,rfl,ra1,rc1,by rw [←hR];rfl,rfl⟩
  replace h1:=sp h1
  refine xo 6 ?_;refine ld ?_;refine ox 7 ?_;refine Zj 62 ?_;refine xx 6 ?_;refine Zj 92 ?_;refine xx 6 ?_;refine Zj 105 ?_;refine xo 6 ?_;refine ld ?_;refine oo 8 ?_;refine Wh 118 ?_;refine oo 8 ?_;refine Wh 126 ?_;refine ox 9 ?_;refine drw ?_;refine Z4 0 ?_;refine dd [1] ?_;refine ldD 2 ?_;refine dd [3] ?_;refine Vp 4 (m:=1) isAgg215 sizeOf215 hA hl1 ?_ (hf:=Zl)
  refine dd [5] ?_;refine Yy (fl:= [⟨7,12,fun g=> .pointer (some ⟨g,0,none⟩),fun g=>pto g (.cells [.int .i64 0,.int .i64 0,.slice none 0 0].toArray 220 (0,0))⟩]) ?_
  refine Jd 6 ⟨⟨_,rfl,rfl,rfl,rfl,rfl,rfl,fun q=>Ef.alloc zeroValue220⟩,trivial⟩ call108 (Le.refl _) (hI2 (Kn.le hK2)) ?_ (hL:=(hlA (h:=by repeat first|exact trivial|refine ⟨clA,?_⟩|refine HL.app (hr0 _ _ leA) ?_|refine ⟨hx0 _ leA 0 _ rfl,?_⟩|refine ⟨hx0 _ leA _ _ rfl,?_⟩|refine HL.app (hr1 _ _ leA) ?_|refine ⟨hx1 _ leA 0 _ rfl,?_⟩|refine ⟨hx1 _ leA _ _ rfl,?_⟩)))
  rintro _ _ ⟨ra2,rc2,rfl,rfl⟩
  refine ⟨(hlA (h:=by repeat first|exact trivial|refine ⟨clA,?_⟩|refine HL.app (hr0 _ _ leA) ?_|refine ⟨hx0 _ leA 0 _ rfl,?_⟩|refine ⟨hx0 _ leA _ _ rfl,?_⟩|refine HL.app (hr1 _ _ leA) ?_|refine ⟨hx1 _ leA 0 _ rfl,?_⟩|refine ⟨hx1 _ leA _ _ rfl,?_⟩)),?_⟩
  refine Wv (e0:=⟨7,12,fun g=> .pointer (some ⟨g,0,none⟩),fun g=>pto g (.cells [.int .i64 0,.int .i64 0,.slice none 0 0].toArray 220 (0,0))⟩) (hnd:=by simp) 7 ⟨⟨_,rfl,rfl,rfl,rfl,rfl,rfl,fun q=>Ef.alloc zeroValue220⟩,trivial⟩ (fun nm2=> ?_) (hL:=(hlA (h:=by repeat first|exact trivial|refine ⟨clA,?_⟩|refine HL.app (hr0 _ _ leA) ?_|refine ⟨hx0 _ leA 0 _ rfl,?_⟩|refine ⟨hx0 _ leA _ _ rfl,?_⟩|refine HL.app (hr1 _ _ leA) ?_|refine ⟨hx1 _ leA 0 _ rfl,?_⟩|refine ⟨hx1 _ leA _ _ rfl,?_⟩)))
  change XF _ _ _ _ _ _ _ [] _ _ _ ((12,.pointer (some ⟨nm2,0,none⟩))::_) _ _ (pto nm2 (.cells [.int .i64 0,.int .i64 0,.slice none 0 0].toArray 220 (0,0))::_)
  refine XF.back ?_ (hL:=(hlA (h:=by repeat first|exact trivial|refine ⟨clA,?_⟩|refine HL.app (hr0 _ _ leA) ?_|refine ⟨hx0 _ leA 0 _ rfl,?_⟩|refine ⟨hx0 _ leA _ _ rfl,?_⟩|refine HL.app (hr1 _ _ leA) ?_|refine ⟨hx1 _ leA 0 _ rfl,?_⟩|refine ⟨hx1 _ leA _ _ rfl,?_⟩)))
  refine Z9 8 ?_;refine XD.nil ?_;refine xx 1 ?_;refine drw ?_;refine dd [0] ?_;refine ldD 1 ?_;refine dd [3] ?_;refine ldD 4 ?_;refine XD.le (q':=rsH Bv 3 45 none 0 []::_) (Wq _ _ _ _) ?_
  refine XD.ef 2 rfl (Z5 (f:=Bv) (l:= []) (m:= []) underlying218 Mb rfl rfl (fun _=>rfl) rfl rfl Zw (Sees.nil _ _) (fun _=>rfl) (by simp) (by simp)) ?_
  rintro _ _ ⟨a2,c2,rfl,rfl⟩
  refine ⟨(hlA (h:=by repeat first|exact trivial|refine ⟨clA,?_⟩|refine HL.app (hr0 _ _ leA) ?_|refine ⟨hx0 _ leA 0 _ rfl,?_⟩|refine ⟨hx0 _ leA _ _ rfl,?_⟩|refine HL.app (hr1 _ _ leA) ?_|refine ⟨hx1 _ leA 0 _ rfl,?_⟩|refine ⟨hx1 _ leA _ _ rfl,?_⟩)),?_⟩
  refine XD.ef 5 rfl (Z5 (f:=Bv) (l:= []) (m:= []) underlying218 Mb rfl rfl (fun _=>rfl) rfl rfl Zw (Sees.nil _ _) (fun _=>rfl) (by simp) (by simp)) ?_
  rintro _ _ ⟨a3,c3,rfl,rfl⟩
  refine ⟨trivial,?_⟩
  refine dd [6] ?_;refine stD 7 ?_;refine XD.nil ?_;refine xo 4 ?_;refine ld ?_;refine ox 2 ?_;refine X.part 154 rfl (fun h2=> ?_) (fun h2=> ?_)
  focus
   replace h2:=sp h2
   refine xo 3 ?_;refine ldA ?_
  rotate_left
  focus
   replace h2:=sp h2
   refine xx 8 ?_;refine Zj 157 ?_;refine xo 6 ?_;refine ld ?_;refine oo 1 ?_;refine ld ?_;refine XO.cR call161 (Bt (op:=op) (u:=A.1) (z:=B.1) (by omega) hAv hBv) ?_
   refine oo 11 ?_;refine ld ?_;refine oo 1 ?_
 all_goals
  refine stA ?_;refine ox 1 ?_
  repeat (first|rw [if_pos (by omega)] at hR|rw [if_neg (by omega)] at hR)
  refine Zq (q) func108 (rA_ results108) ⟨_,rfl,a3,c3,by rw [←hR];rfl,rfl⟩
theorem ev_ok: ∀ (N:Nat) (x:Ex),x.sz≤N→ ∀ {q:List HP},(Kn q fun M=>x.At M)→x.er.plain=true→x.er.fit→CallF prog G 108 [.agg #[.slice none 0 0,.slice none 0 0,.int .i64 0,.int .i64 0,.slice none 0 0,.slice none 0 0,.int .i64 0,.int .i64 0,.slice none 0 0,.slice none 0 0,.slice none 0 0,.slice none 0 0,.slice none 0 0,.slice none 0 0,.slice none 0 0,.slice none 0 0,.slice none 0 0,.slice none 0 0,.slice none 0 0,.int .i64 0,.int .i64 0,.int .i64 0,.int .i64 0],.agg (exC x).toArray,.slice none 0 0] q (Ret fun v q'=> ∃ (ra:Option Addr) (rc:Nat),v= .agg [.int .i64 x.er.ev.1,.int .i64 x.er.ev.2,.slice ra 0 rc].toArray∧q'=q)
 |N,x,hN,_,h,hp,hf=>ev_step (fun y hy _ h2 hp2 hf2=>by
  cases N with
  |zero=>omega
  |succ N=>exact ev_ok N y (by omega) h2 hp2 hf2) h hp hf
set_option maxHeartbeats 1000000 in
theorem const_ok (h:Kn q fun M=>e.At M)(hf:e.er.fit):CallF prog G 194 [.agg (exC e).toArray] (q) (Ret fun v q'=> ∃ n:Int,v= .tuple [.int .i64 n,.bool e.er.one].toArray∧(e.er.one=true→n=e.er.ev.1)∧q'=q):=by
 refine CallF.of func194 ntmps194 rfl (fun F cs=> ?_)
 obtain ⟨k,z,nm,sl,lo,op,args,aa,ac⟩:=e
 obtain ⟨A,hA1⟩: ∃ A,(Ex.er (.mk k z nm sl lo op args aa ac)).ev=A:=⟨_,rfl⟩;obtain ⟨B,hB⟩: ∃ B,(Ex.er (.mk k z nm sl lo op args aa ac)).plain=B:=⟨_,rfl⟩;have hone:(Ex.er (.mk k z nm sl lo op args aa ac)).one=(B && A.2==0):=(by unfold PEx.one;rw [hA1,hB]);rw [hone,hA1]
 have hI: ∀ {q:List HP},(Kn q fun M=>Ex.At M (.mk k z nm sl lo op args aa ac))→B=true→CallF prog G 108 [.agg #[.slice none 0 0,.slice none 0 0,.int .i64 0,.int .i64 0,.slice none 0 0,.slice none 0 0,.int .i64 0,.int .i64 0,.slice none 0 0,.slice none 0 0,.slice none 0 0,.slice none 0 0,.slice none 0 0,.slice none 0 0,.slice none 0 0,.slice none 0 0,.slice none 0 0,.slice none 0 0,.slice none 0 0,.int .i64 0,.int .i64 0,.int .i64 0,.int .i64 0],.agg (exC (.mk k z nm sl lo op args aa ac)).toArray,.slice none 0 0] q (Ret fun v q'=> ∃ (ra:Option Addr) (rc:Nat),v= .agg [.int .i64 A.1,.int .i64 A.2,.slice ra 0 rc].toArray∧q'=q):=(by intro q h hb;rw [←hA1];exact ev_ok _ (.mk k z nm sl lo op args aa ac) (Nat.le_refl _) h (hB.trans hb) hf)
 have hP: ∀ {q:List HP},(Kn q fun M=>Ex.At M (.mk k z nm sl lo op args aa ac))→CallF prog G 203 [.agg (exC (.mk k z nm sl lo op args aa ac)).toArray] q (Ret fun v q'=>v= .bool B∧q'=q):=(by intro q h;rw [←hB];exact Ec _ (.mk k z nm sl lo op args aa ac) (Nat.le_refl _) h)
 refine xo 2 ?_;refine Zb fun n1=> ?_
 refine oo 6 ?_;refine ldA ?_;refine XO.cR call203 (hP (h.le leA)) ?_;refine Zn (Pu.not rfl) ?_;refine ox 1 ?_;refine X.part 7 rfl (fun h1=> ?_) (fun h1=> ?_)
 · replace h1:=sp h1
   refine xx 6 ?_
   have hb:B=false:=(by simpa using h1);subst hb
   refine Zq (q) func194 (V9 results194 rfl rfl) ⟨_,rfl,0,rfl,fun hx=>(by cases hx),rfl⟩
 replace h1:=sp h1
 refine xo 5 ?_;refine ldA ?_;refine Zh call108 (Le.refl _) (hI (Kn.le h) (by simpa using h1)) ?_
 rintro _ _ ⟨ra,rc,rfl,rfl⟩
 refine Zy zeroValue220 fun n2=> ?_
 refine stA ?_;refine ox 2 ?_;refine drw ?_;refine dd [0] ?_;refine ldD 1 ?_;refine dd [2] ?_;refine ldD 3 ?_;refine dd [4,5,6] ?_;refine XD.nil ?_
 have hb:B=true:=(by simpa using h1);subst hb
 refine Zq (q) func194 (V9 results194 rfl rfl) ⟨_,rfl,A.1,rfl,fun _=>rfl,rfl⟩
end
section
variable {G:World}{q:List HP}{e:Ex}{t:Int}
set_option maxHeartbeats 8000000 in
theorem Oj (IH: ∀ (x:Ex),x.sz<e.sz→ ∀ {q:List HP} {t:Int},(Kn q fun M=>x.At M)→x.er.fit→(0≤t∧t+4*x.sz≤1000000000)→CallF prog G 157 [.agg (exC x).toArray,.int .i64 t] q (Ret fun v q'=> ∃ (ca:Option Addr) (cc:Nat),v= .slice ca (x.er.code t).length cc∧q'=rsH Zr 4 48 ca cc (x.er.code t)::q))(h:Kn q fun M=>e.At M)(hf:e.er.fit)(ht:0≤t∧t+4*e.sz≤1000000000):CallF prog G 157 [.agg (exC e).toArray,.int .i64 t] (q) (Ret fun v q'=> ∃ (ca:Option Addr) (cc:Nat),v= .slice ca (e.er.code t).length cc∧q'=rsH Zr 4 48 ca cc (e.er.code t)::q):=by
 refine CallF.of func157 ntmps157 rfl (fun F cs=> ?_)
 obtain ⟨k,z,nm,sl,lo,op,args,aa,ac⟩:=e;have hA:=Rk h;have hff:=hf;simp only [Ex.er,PEx.fit,Ja] at hf;obtain ⟨hf1,hf2,hf3,hf4,hf5⟩:=hf
 obtain ⟨R,hR⟩: ∃ R,(Ex.er (.mk k z nm sl lo op args aa ac)).code t=R:=⟨_,rfl⟩;rw [hR]
 refine xo 2 ?_;refine Zb fun n1=> ?_
 refine oo 4 ?_;refine ldA ?_;refine Zh call194 (Le.refl _) (const_ok (e:=(.mk k z nm sl lo op args aa ac)) (Kn.le h) hff) ?_
 rintro _ _ ⟨n,rfl,hn,rfl⟩
 obtain ⟨ev,hev⟩: ∃ x,(Ex.er (.mk k z nm sl lo op args aa ac)).ev=x:=⟨_,rfl⟩;obtain ⟨one,hone⟩: ∃ x,(Ex.er (.mk k z nm sl lo op args aa ac)).one=x:=⟨_,rfl⟩;rw [hev,hone] at hn;rw [hone]
 simp only [Ex.er,PEx.code] at hR hev hone;rw [hone,hev] at hR
 refine ox 11 ?_;refine X.part 18 rfl (fun h1=> ?_) (fun h1=> ?_)
 · have ho:one=true:=(by simpa using h1);subst ho;rw [if_pos rfl] at hR;have hn:=hn rfl;subst hn
   refine xo 4 ?_;refine XO.cR call64 (Yr) ?_;refine XO.ef (Yq Zr [⟨1,0,0,ev.1⟩] underlying32 Zo rfl rfl (fun _=>rfl) rfl rfl rfl rfl) ?_
   rintro _ _ ⟨gi,rfl,rfl⟩
   refine ox 2 ?_;refine Zq (rsH Zr 4 48 (some ⟨gi,0,none⟩) 1 ([⟨1,0,0,ev.1⟩])::q) func157 (Zp results157 rfl) ⟨_,rfl,some ⟨gi,0,none⟩,1,by rw [←hR];rfl,by rw [←hR]⟩
 have ho:one=false:=(by simpa using h1);subst ho;rw [if_neg (by decide)] at hR;clear hn hev
 have hcl:k=2∨k=1∨k=3∨k=4∨k=5∨(k=6∧op=1)∨(k=6∧op=2)∨(k=6∧3≤op):=by omega
 rcases hcl with rfl|rfl|rfl|rfl|rfl|⟨rfl,rfl⟩|⟨rfl,rfl⟩|⟨rfl,hop⟩
 · refine xx 3 ?_;refine drw ?_;refine dd [0] ?_;refine ldD 1 ?_;refine dd [2] ?_;refine ldD 3 ?_;refine dd [4,5] ?_;refine XD.nil ?_;refine xo 6 ?_;refine XO.kt 28 ?_;refine oo 1 ?_;refine ld ?_;refine ox 2 ?_;refine X.part 31 rfl (fun h2=> ?_) (fun h2=> ?_)
   · replace h2:=sp h2
     refine xo 4 ?_;refine ld ?_;refine XO.cR call64 (Yr) ?_;refine XO.ef (Yq Zr [⟨3,sl,0,0⟩] underlying32 Zo rfl rfl (fun _=>rfl) rfl rfl rfl rfl) ?_
     rintro _ _ ⟨g0,rfl,rfl⟩
     refine ox 2 ?_
     have hlo:lo=true:=(by simpa using h2);subst hlo
     refine Zq (rsH Zr 4 48 (some ⟨g0,0,none⟩) 1 ([⟨3,sl,0,0⟩])::q) func157 (Zp results157 rfl) ⟨_,rfl,some ⟨g0,0,none⟩,1,by rw [←hR];rfl,by rw [←hR];rfl⟩
   replace h2:=sp h2
   refine xx 8 ?_;refine X.kt 37 ?_;refine xo 4 ?_;refine ld ?_;refine XO.cR call64 (Yr) ?_;refine XO.ef (Yq Zr [⟨2,sl,0,0⟩] underlying32 Zo rfl rfl (fun _=>rfl) rfl rfl rfl rfl) ?_
   rintro _ _ ⟨g0,rfl,rfl⟩
   refine ox 2 ?_
   have hlo:lo=false:=(by simpa using h2);subst hlo
   refine Zq (rsH Zr 4 48 (some ⟨g0,0,none⟩) 1 ([⟨2,sl,0,0⟩])::q) func157 (Zp results157 rfl) ⟨_,rfl,some ⟨g0,0,none⟩,1,by rw [←hR];rfl,by rw [←hR];rfl⟩
 · refine xx 3 ?_;refine drw ?_;refine dd [0] ?_;refine ldD 1 ?_;refine dd [2] ?_;refine ldD 3 ?_;refine dd [4,5] ?_;refine XD.nil ?_;refine xo 6 ?_;refine Wh 28 ?_;refine ox 12 ?_;refine Zj 37 ?_;refine xx 8 ?_;refine X.kt 43 ?_;refine xo 4 ?_;refine ld ?_;refine XO.cR call64 (Yr) ?_;refine XO.ef (Yq Zr [⟨1,0,0,z⟩] underlying32 Zo rfl rfl (fun _=>rfl) rfl rfl rfl rfl) ?_
   rintro _ _ ⟨g0,rfl,rfl⟩
   refine ox 2 ?_;refine Zq (rsH Zr 4 48 (some ⟨g0,0,none⟩) 1 ([⟨1,0,0,z⟩])::q) func157 (Zp results157 rfl) ⟨_,rfl,some ⟨g0,0,none⟩,1,by rw [←hR];rfl,by rw [←hR];rfl⟩
 · obtain ⟨x,rfl⟩: ∃ x,args= [x]:=(by match args,hf2 with| [x],_=>exact ⟨x,rfl⟩)
   simp only [Za,PEx.fits] at hf5;simp only [Za,PEx.codes,List.getD_cons_zero,List.getD_cons_succ,Int.reduceEq,if_false,if_true,reduceIte,true_and,false_and] at hR;simp only [Ex.sz,Vt] at ht IH
   have hK1:Kn q fun M=>Ex.At M x:=Vc (args:= [x]) h (i:=0) (by simp);have hx1:=Yk x.er t;rw [Vg] at hx1
   obtain ⟨A,hA1⟩: ∃ A,x.er.code t=A:=⟨_,rfl⟩;rw [hA1] at hR hx1
   refine xx 3 ?_;refine drw ?_;refine dd [0] ?_;refine ldD 1 ?_;refine dd [2] ?_;refine ldD 3 ?_;refine dd [4,5] ?_;refine XD.nil ?_;refine xo 6 ?_;refine Wh 28 ?_;refine ox 12 ?_;refine Zj 37 ?_;refine xx 8 ?_;refine Zj 43 ?_;refine xo 5 ?_;refine ld ?_;refine Yz hA (by simp [Zl]) (fun b9 o9 e9=> ?_);subst e9
   refine oo 1 ?_;refine Wn (n:=0) isAgg215 sizeOf215 hA (by simp) ?_ (hf:=Zl)
   refine oo 1 ?_;refine Zh call157 (Le.refl _) (IH x (by omega) (t:=t) (Kn.le hK1) hf5.1 (by omega)) ?_
   rintro _ _ ⟨xa,xc,rfl,rfl⟩
   rw [hA1]
   refine oo 8 ?_;refine Wh 56 ?_;refine ox 17 ?_;refine X.kt 101 ?_;refine xo 5 ?_;refine ld ?_;refine XO.cR call64 (Yr) ?_;refine XO.ef (Yq Zr [⟨4,sl,0,0⟩] underlying32 Zo rfl rfl (fun _=>rfl) rfl rfl rfl rfl) ?_
   rintro _ _ ⟨g0,rfl,rfl⟩
   refine XO.ef (Z5 (f:=Zr) (l:=A) (m:= [⟨4,sl,0,0⟩]) underlying32 Zo rfl rfl (fun _=>rfl) rfl rfl Zw ((Sees.rsH _).le Zw) (fun _=>rfl) (by (try simp only [List.length_append,List.length_cons,List.length_nil]);omega) (by (try simp only [List.length_append,List.length_cons,List.length_nil]);omega)) ?_
   rintro _ _ ⟨ap0,cp0,rfl,rfl⟩
   refine ox 2 ?_
   have hRc:R=A++ [⟨4,sl,0,0⟩]:=hR.symm.trans (by first|rfl|(rw [if_neg (by omega)])|simp)
   refine Zq (rsH Zr 4 48 ap0 cp0 (A++ [⟨4,sl,0,0⟩])::q) func157 (Zp results157 rfl) ⟨_,rfl,ap0,cp0,by rw [hRc],by rw [hRc]⟩
 · obtain ⟨x,rfl⟩: ∃ x,args= [x]:=(by match args,hf2 with| [x],_=>exact ⟨x,rfl⟩)
   simp only [Za,PEx.fits] at hf5;simp only [Za,PEx.codes,List.getD_cons_zero,List.getD_cons_succ,Int.reduceEq,if_false,if_true,reduceIte,true_and,false_and] at hR;simp only [Ex.sz,Vt] at ht IH
   have hK1:Kn q fun M=>Ex.At M x:=Vc (args:= [x]) h (i:=0) (by simp);have hx1:=Yk x.er t;rw [Vg] at hx1
   obtain ⟨A,hA1⟩: ∃ A,x.er.code t=A:=⟨_,rfl⟩;rw [hA1] at hR hx1
   refine xx 3 ?_;refine drw ?_;refine dd [0] ?_;refine ldD 1 ?_;refine dd [2] ?_;refine ldD 3 ?_;refine dd [4,5] ?_;refine XD.nil ?_;refine xo 6 ?_;refine Wh 28 ?_;refine ox 12 ?_;refine Zj 37 ?_;refine xx 8 ?_;refine Zj 43 ?_;refine xo 5 ?_;refine ld ?_;refine Yz hA (by simp [Zl]) (fun b9 o9 e9=> ?_);subst e9
   refine oo 1 ?_;refine Wn (n:=0) isAgg215 sizeOf215 hA (by simp) ?_ (hf:=Zl)
   refine oo 1 ?_;refine Zh call157 (Le.refl _) (IH x (by omega) (t:=t) (Kn.le hK1) hf5.1 (by omega)) ?_
   rintro _ _ ⟨xa,xc,rfl,rfl⟩
   rw [hA1]
   refine oo 8 ?_;refine Wh 56 ?_;refine ox 17 ?_;refine Zj 101 ?_;refine xx 6 ?_;refine X.kt 109 ?_;refine xo 4 ?_;refine XO.cR call64 (Yr) ?_;refine XO.ef (Yq Zr [⟨8,0,0,0⟩] underlying32 Zo rfl rfl (fun _=>rfl) rfl rfl rfl rfl) ?_
   rintro _ _ ⟨g0,rfl,rfl⟩
   refine XO.ef (Z5 (f:=Zr) (l:=A) (m:= [⟨8,0,0,0⟩]) underlying32 Zo rfl rfl (fun _=>rfl) rfl rfl Zw ((Sees.rsH _).le Zw) (fun _=>rfl) (by (try simp only [List.length_append,List.length_cons,List.length_nil]);omega) (by (try simp only [List.length_append,List.length_cons,List.length_nil]);omega)) ?_
   rintro _ _ ⟨ap0,cp0,rfl,rfl⟩
   refine ox 2 ?_
   have hRc:R=A++ [⟨8,0,0,0⟩]:=hR.symm.trans (by first|rfl|(rw [if_neg (by omega)])|simp)
   refine Zq (rsH Zr 4 48 ap0 cp0 (A++ [⟨8,0,0,0⟩])::q) func157 (Zp results157 rfl) ⟨_,rfl,ap0,cp0,by rw [hRc],by rw [hRc]⟩
 · obtain ⟨x,rfl⟩: ∃ x,args= [x]:=(by match args,hf2 with| [x],_=>exact ⟨x,rfl⟩)
   simp only [Za,PEx.fits] at hf5;simp only [Za,PEx.codes,List.getD_cons_zero,List.getD_cons_succ,Int.reduceEq,if_false,if_true,reduceIte,true_and,false_and] at hR;simp only [Ex.sz,Vt] at ht IH
   have hK1:Kn q fun M=>Ex.At M x:=Vc (args:= [x]) h (i:=0) (by simp);have hx1:=Yk x.er t;rw [Vg] at hx1
   obtain ⟨A,hA1⟩: ∃ A,x.er.code t=A:=⟨_,rfl⟩;rw [hA1] at hR hx1
   refine xx 3 ?_;refine drw ?_;refine dd [0] ?_;refine ldD 1 ?_;refine dd [2] ?_;refine ldD 3 ?_;refine dd [4,5] ?_;refine XD.nil ?_;refine xo 6 ?_;refine Wh 28 ?_;refine ox 12 ?_;refine Zj 37 ?_;refine xx 8 ?_;refine Zj 43 ?_;refine xo 5 ?_;refine ld ?_;refine Yz hA (by simp [Zl]) (fun b9 o9 e9=> ?_);subst e9
   refine oo 1 ?_;refine Wn (n:=0) isAgg215 sizeOf215 hA (by simp) ?_ (hf:=Zl)
   refine oo 1 ?_;refine Zh call157 (Le.refl _) (IH x (by omega) (t:=t) (Kn.le hK1) hf5.1 (by omega)) ?_
   rintro _ _ ⟨xa,xc,rfl,rfl⟩
   rw [hA1]
   refine oo 8 ?_;refine Wh 56 ?_;refine ox 17 ?_;refine Zj 101 ?_;refine xx 6 ?_;refine Zj 109 ?_;refine xx 6 ?_;refine X.kt 115 ?_;refine xo 4 ?_;refine XO.cR call64 (Yr) ?_;refine XO.ef (Yq Zr [⟨9,0,0,0⟩] underlying32 Zo rfl rfl (fun _=>rfl) rfl rfl rfl rfl) ?_
   rintro _ _ ⟨g0,rfl,rfl⟩
   refine XO.ef (Z5 (f:=Zr) (l:=A) (m:= [⟨9,0,0,0⟩]) underlying32 Zo rfl rfl (fun _=>rfl) rfl rfl Zw ((Sees.rsH _).le Zw) (fun _=>rfl) (by (try simp only [List.length_append,List.length_cons,List.length_nil]);omega) (by (try simp only [List.length_append,List.length_cons,List.length_nil]);omega)) ?_
   rintro _ _ ⟨ap0,cp0,rfl,rfl⟩
   refine ox 2 ?_
   have hRc:R=A++ [⟨9,0,0,0⟩]:=hR.symm.trans (by first|rfl|(rw [if_neg (by omega)])|simp)
   refine Zq (rsH Zr 4 48 ap0 cp0 (A++ [⟨9,0,0,0⟩])::q) func157 (Zp results157 rfl) ⟨_,rfl,ap0,cp0,by rw [hRc],by rw [hRc]⟩
 · obtain ⟨x,y,rfl⟩: ∃ x y,args= [x,y]:=(by match args,hf2 with| [x,y],_=>exact ⟨x,y,rfl⟩)
   simp only [Za,PEx.fits] at hf5;simp only [Za,PEx.codes,List.getD_cons_zero,List.getD_cons_succ,Int.reduceEq,if_false,if_true,reduceIte,true_and,false_and] at hR;simp only [Ex.sz,Vt] at ht IH
   have hK1:Kn q fun M=>Ex.At M x:=Vc (args:= [x,y]) h (i:=0) (by simp);have hx1:=Yk x.er t;rw [Vg] at hx1
   have hK2:Kn q fun M=>Ex.At M y:=Vc (args:= [x,y]) h (i:=1) (by simp)
   obtain ⟨A,hA1⟩: ∃ A,x.er.code t=A:=⟨_,rfl⟩;rw [hA1] at hR hx1
   refine xx 3 ?_;refine drw ?_;refine dd [0] ?_;refine ldD 1 ?_;refine dd [2] ?_;refine ldD 3 ?_;refine dd [4,5] ?_;refine XD.nil ?_;refine xo 6 ?_;refine Wh 28 ?_;refine ox 12 ?_;refine Zj 37 ?_;refine xx 8 ?_;refine Zj 43 ?_;refine xo 5 ?_;refine ld ?_;refine Yz hA (by simp [Zl]) (fun b9 o9 e9=> ?_);subst e9
   refine oo 1 ?_;refine Wn (n:=0) isAgg215 sizeOf215 hA (by simp) ?_ (hf:=Zl)
   refine oo 1 ?_;refine Zh call157 (Le.refl _) (IH x (by omega) (t:=t) (Kn.le hK1) hf5.1 (by omega)) ?_
   rintro _ _ ⟨xa,xc,rfl,rfl⟩
   rw [hA1]
   refine oo 8 ?_;refine XO.kt 56 ?_;refine ox 4 ?_;refine X.kt 59 ?_;refine xo 4 ?_;refine ld ?_;refine oo 1 ?_;refine Wn (n:=1) isAgg215 sizeOf215 hA (by simp) ?_ (hf:=Zl)
   refine oo 5 ?_;obtain ⟨B,hB1⟩: ∃ B,y.er.code (t+A.length+1)=B:=⟨_,rfl⟩;have hy1:=Yk y.er (t+A.length+1);rw [Vg,hB1] at hy1;rw [hB1] at hR
   refine Zh call157 (Le.refl _) (IH y (by omega) (t:=(t+A.length+1)) (Kn.le hK2) hf5.2.1 (by omega)) ?_
   rintro _ _ ⟨ya,yc,rfl,rfl⟩
   rw [hB1]
   refine ox 25 ?_;refine Zj 80 ?_;refine xo 7 ?_;refine XO.cR call64 (Yr) ?_;refine XO.ef (Yq Zr [⟨21,(t+A.length+1+B.length+2),0,0⟩] underlying32 Zo rfl rfl (fun _=>rfl) rfl rfl rfl rfl) ?_
   rintro _ _ ⟨g0,rfl,rfl⟩
   refine XO.ef (Z5 (f:=Zr) (l:=A) (m:= [⟨21,(t+A.length+1+B.length+2),0,0⟩]) underlying32 Zo rfl rfl (fun _=>rfl) rfl rfl Zw ((Sees.rsH _).le Zw) (fun _=>rfl) (by (try simp only [List.length_append,List.length_cons,List.length_nil]);omega) (by (try simp only [List.length_append,List.length_cons,List.length_nil]);omega)) ?_
   rintro _ _ ⟨ap0,cp0,rfl,rfl⟩
   refine oo 6 ?_;refine XO.ef (Z5 (f:=Zr) (l:=A++ [⟨21,(t+A.length+1+B.length+2),0,0⟩]) (m:=B) underlying32 Zo rfl rfl (fun _=>rfl) rfl rfl Zw ((Sees.rsH _).le Zw) (fun _=>rfl) (by (try simp only [List.length_append,List.length_cons,List.length_nil]);omega) (by (try simp only [List.length_append,List.length_cons,List.length_nil]);omega)) ?_
   rintro _ _ ⟨ap1,cp1,rfl,rfl⟩
   refine oo 5 ?_;refine XO.cR call64 (Yr) ?_;refine oo 2 ?_;refine XO.cR call64 (Yr) ?_;refine oo 2 ?_;refine XO.cR call64 (Yr) ?_;refine XO.ef (Yq Zr [⟨22,0,0,0⟩,⟨19,((t+A.length+1+B.length+2)+1),0,0⟩,⟨1,0,0,1⟩] underlying32 Zo rfl rfl (fun _=>rfl) rfl rfl rfl rfl) ?_
   rintro _ _ ⟨g1,rfl,rfl⟩
   refine XO.ef (Z5 (f:=Zr) (l:=A++ [⟨21,(t+A.length+1+B.length+2),0,0⟩]++B) (m:= [⟨22,0,0,0⟩,⟨19,((t+A.length+1+B.length+2)+1),0,0⟩,⟨1,0,0,1⟩]) underlying32 Zo rfl rfl (fun _=>rfl) rfl rfl Zw ((Sees.rsH _).le Zw) (fun _=>rfl) (by (try simp only [List.length_append,List.length_cons,List.length_nil]);omega) (by (try simp only [List.length_append,List.length_cons,List.length_nil]);omega)) ?_
   rintro _ _ ⟨ap2,cp2,rfl,rfl⟩
   refine ox 2 ?_
   have hRc:R=A++ [⟨21,(t+A.length+1+B.length+2),0,0⟩]++B++ [⟨22,0,0,0⟩,⟨19,(t+A.length+1+B.length+2+1),0,0⟩,⟨1,0,0,1⟩]:=hR.symm.trans (by first|rfl|(rw [if_neg (by omega)])|simp)
   refine Zq (rsH Zr 4 48 ap2 cp2 (A++ [⟨21,(t+A.length+1+B.length+2),0,0⟩]++B++ [⟨22,0,0,0⟩,⟨19,(t+A.length+1+B.length+2+1),0,0⟩,⟨1,0,0,1⟩])::q) func157 (Zp results157 rfl) ⟨_,rfl,ap2,cp2,by rw [hRc],by rw [hRc]⟩
 · obtain ⟨x,y,rfl⟩: ∃ x y,args= [x,y]:=(by match args,hf2 with| [x,y],_=>exact ⟨x,y,rfl⟩)
   simp only [Za,PEx.fits] at hf5;simp only [Za,PEx.codes,List.getD_cons_zero,List.getD_cons_succ,Int.reduceEq,if_false,if_true,reduceIte,true_and,false_and] at hR;simp only [Ex.sz,Vt] at ht IH
   have hK1:Kn q fun M=>Ex.At M x:=Vc (args:= [x,y]) h (i:=0) (by simp);have hx1:=Yk x.er t;rw [Vg] at hx1
   have hK2:Kn q fun M=>Ex.At M y:=Vc (args:= [x,y]) h (i:=1) (by simp)
   obtain ⟨A,hA1⟩: ∃ A,x.er.code t=A:=⟨_,rfl⟩;rw [hA1] at hR hx1
   refine xx 3 ?_;refine drw ?_;refine dd [0] ?_;refine ldD 1 ?_;refine dd [2] ?_;refine ldD 3 ?_;refine dd [4,5] ?_;refine XD.nil ?_;refine xo 6 ?_;refine Wh 28 ?_;refine ox 12 ?_;refine Zj 37 ?_;refine xx 8 ?_;refine Zj 43 ?_;refine xo 5 ?_;refine ld ?_;refine Yz hA (by simp [Zl]) (fun b9 o9 e9=> ?_);subst e9
   refine oo 1 ?_;refine Wn (n:=0) isAgg215 sizeOf215 hA (by simp) ?_ (hf:=Zl)
   refine oo 1 ?_;refine Zh call157 (Le.refl _) (IH x (by omega) (t:=t) (Kn.le hK1) hf5.1 (by omega)) ?_
   rintro _ _ ⟨xa,xc,rfl,rfl⟩
   rw [hA1]
   refine oo 8 ?_;refine XO.kt 56 ?_;refine ox 4 ?_;refine X.kt 59 ?_;refine xo 4 ?_;refine ld ?_;refine oo 1 ?_;refine Wn (n:=1) isAgg215 sizeOf215 hA (by simp) ?_ (hf:=Zl)
   refine oo 5 ?_;obtain ⟨B,hB1⟩: ∃ B,y.er.code (t+A.length+1)=B:=⟨_,rfl⟩;have hy1:=Yk y.er (t+A.length+1);rw [Vg,hB1] at hy1;rw [hB1] at hR
   refine Zh call157 (Le.refl _) (IH y (by omega) (t:=(t+A.length+1)) (Kn.le hK2) hf5.2.1 (by omega)) ?_
   rintro _ _ ⟨ya,yc,rfl,rfl⟩
   rw [hB1]
   refine ox 25 ?_;refine X.kt 80 ?_;refine xo 9 ?_;refine XO.cR call64 (Yr) ?_;refine XO.ef (Yq Zr [⟨20,(t+A.length+1+B.length+2),0,0⟩] underlying32 Zo rfl rfl (fun _=>rfl) rfl rfl rfl rfl) ?_
   rintro _ _ ⟨g0,rfl,rfl⟩
   refine XO.ef (Z5 (f:=Zr) (l:=A) (m:= [⟨20,(t+A.length+1+B.length+2),0,0⟩]) underlying32 Zo rfl rfl (fun _=>rfl) rfl rfl Zw ((Sees.rsH _).le Zw) (fun _=>rfl) (by (try simp only [List.length_append,List.length_cons,List.length_nil]);omega) (by (try simp only [List.length_append,List.length_cons,List.length_nil]);omega)) ?_
   rintro _ _ ⟨ap0,cp0,rfl,rfl⟩
   refine oo 6 ?_;refine XO.ef (Z5 (f:=Zr) (l:=A++ [⟨20,(t+A.length+1+B.length+2),0,0⟩]) (m:=B) underlying32 Zo rfl rfl (fun _=>rfl) rfl rfl Zw ((Sees.rsH _).le Zw) (fun _=>rfl) (by (try simp only [List.length_append,List.length_cons,List.length_nil]);omega) (by (try simp only [List.length_append,List.length_cons,List.length_nil]);omega)) ?_
   rintro _ _ ⟨ap1,cp1,rfl,rfl⟩
   refine oo 5 ?_;refine XO.cR call64 (Yr) ?_;refine oo 2 ?_;refine XO.cR call64 (Yr) ?_;refine oo 2 ?_;refine XO.cR call64 (Yr) ?_;refine XO.ef (Yq Zr [⟨22,0,0,0⟩,⟨19,((t+A.length+1+B.length+2)+1),0,0⟩,⟨1,0,0,0⟩] underlying32 Zo rfl rfl (fun _=>rfl) rfl rfl rfl rfl) ?_
   rintro _ _ ⟨g1,rfl,rfl⟩
   refine XO.ef (Z5 (f:=Zr) (l:=A++ [⟨20,(t+A.length+1+B.length+2),0,0⟩]++B) (m:= [⟨22,0,0,0⟩,⟨19,((t+A.length+1+B.length+2)+1),0,0⟩,⟨1,0,0,0⟩]) underlying32 Zo rfl rfl (fun _=>rfl) rfl rfl Zw ((Sees.rsH _).le Zw) (fun _=>rfl) (by (try simp only [List.length_append,List.length_cons,List.length_nil]);omega) (by (try simp only [List.length_append,List.length_cons,List.length_nil]);omega)) ?_
   rintro _ _ ⟨ap2,cp2,rfl,rfl⟩
   refine ox 2 ?_
   have hRc:R=A++ [⟨20,(t+A.length+1+B.length+2),0,0⟩]++B++ [⟨22,0,0,0⟩,⟨19,(t+A.length+1+B.length+2+1),0,0⟩,⟨1,0,0,0⟩]:=hR.symm.trans (by first|rfl|(rw [if_neg (by omega)])|simp)
   refine Zq (rsH Zr 4 48 ap2 cp2 (A++ [⟨20,(t+A.length+1+B.length+2),0,0⟩]++B++ [⟨22,0,0,0⟩,⟨19,(t+A.length+1+B.length+2+1),0,0⟩,⟨1,0,0,0⟩])::q) func157 (Zp results157 rfl) ⟨_,rfl,ap2,cp2,by rw [hRc],by rw [hRc]⟩
 obtain ⟨x,y,rfl⟩: ∃ x y,args= [x,y]:=(by match args,hf2 with| [x,y],_=>exact ⟨x,y,rfl⟩)
 simp only [Za,PEx.fits] at hf5;simp only [Za,PEx.codes,List.getD_cons_zero,List.getD_cons_succ,Int.reduceEq,if_false,if_true,reduceIte,true_and,false_and] at hR;simp only [Ex.sz,Vt] at ht IH
 have hK1:Kn q fun M=>Ex.At M x:=Vc (args:= [x,y]) h (i:=0) (by simp);have hx1:=Yk x.er t;rw [Vg] at hx1
 have hK2:Kn q fun M=>Ex.At M y:=Vc (args:= [x,y]) h (i:=1) (by simp)
 obtain ⟨A,hA1⟩: ∃ A,x.er.code t=A:=⟨_,rfl⟩;rw [hA1] at hR hx1
 refine xx 3 ?_;refine drw ?_;refine dd [0] ?_;refine ldD 1 ?_;refine dd [2] ?_;refine ldD 3 ?_;refine dd [4,5] ?_;refine XD.nil ?_;refine xo 6 ?_;refine Wh 28 ?_;refine ox 12 ?_;refine Zj 37 ?_;refine xx 8 ?_;refine Zj 43 ?_;refine xo 5 ?_;refine ld ?_;refine Yz hA (by simp [Zl]) (fun b9 o9 e9=> ?_);subst e9
 refine oo 1 ?_;refine Wn (n:=0) isAgg215 sizeOf215 hA (by simp) ?_ (hf:=Zl)
 refine oo 1 ?_;refine Zh call157 (Le.refl _) (IH x (by omega) (t:=t) (Kn.le hK1) hf5.1 (by omega)) ?_
 rintro _ _ ⟨xa,xc,rfl,rfl⟩
 rw [hA1]
 refine oo 8 ?_;refine XO.kt 56 ?_;refine ox 4 ?_;refine Zj 59 ?_;refine xx 13 ?_;refine Zj 101 ?_;refine xx 6 ?_;refine Zj 109 ?_;refine xx 6 ?_;refine Zj 115 ?_;refine xo 7 ?_;refine ld ?_;refine oo 1 ?_;refine Wn (n:=1) isAgg215 sizeOf215 hA (by simp) ?_ (hf:=Zl)
 refine oo 4 ?_;obtain ⟨B,hB1⟩: ∃ B,y.er.code (t+A.length)=B:=⟨_,rfl⟩;have hy1:=Yk y.er (t+A.length);rw [Vg,hB1] at hy1;rw [hB1] at hR
 refine Zh call157 (Le.refl _) (IH y (by omega) (t:=(t+A.length)) (Kn.le hK2) hf5.2.1 (by omega)) ?_
 rintro _ _ ⟨ya,yc,rfl,rfl⟩
 rw [hB1]
 refine XO.ef (Z5 (f:=Zr) (l:=A) (m:=B) underlying32 Zo rfl rfl (fun _=>rfl) rfl rfl Zw ((Sees.rsH _).le Zw) (fun _=>rfl) (by (try simp only [List.length_append,List.length_cons,List.length_nil]);omega) (by (try simp only [List.length_append,List.length_cons,List.length_nil]);omega)) ?_
 rintro _ _ ⟨ap0,cp0,rfl,rfl⟩
 refine oo 7 ?_;refine XO.cR call64 (Yr) ?_;refine XO.ef (Yq Zr [⟨(op+7),0,0,0⟩] underlying32 Zo rfl rfl (fun _=>rfl) rfl rfl rfl rfl) ?_
 rintro _ _ ⟨g0,rfl,rfl⟩
 refine XO.ef (Z5 (f:=Zr) (l:=A++B) (m:= [⟨(op+7),0,0,0⟩]) underlying32 Zo rfl rfl (fun _=>rfl) rfl rfl Zw ((Sees.rsH _).le Zw) (fun _=>rfl) (by (try simp only [List.length_append,List.length_cons,List.length_nil]);omega) (by (try simp only [List.length_append,List.length_cons,List.length_nil]);omega)) ?_
 rintro _ _ ⟨ap1,cp1,rfl,rfl⟩
 refine ox 2 ?_
 have hRc:R=A++B++ [⟨(op+7),0,0,0⟩]:=hR.symm.trans (by first|rfl|(rw [if_neg (by omega)])|simp)
 refine Zq (rsH Zr 4 48 ap1 cp1 (A++B++ [⟨(op+7),0,0,0⟩])::q) func157 (Zp results157 rfl) ⟨_,rfl,ap1,cp1,by rw [hRc],by rw [hRc]⟩
theorem Tq: ∀ (N:Nat) (x:Ex),x.sz≤N→ ∀ {q:List HP} {t:Int},(Kn q fun M=>x.At M)→x.er.fit→(0≤t∧t+4*x.sz≤1000000000)→CallF prog G 157 [.agg (exC x).toArray,.int .i64 t] q (Ret fun v q'=> ∃ (ca:Option Addr) (cc:Nat),v= .slice ca (x.er.code t).length cc∧q'=rsH Zr 4 48 ca cc (x.er.code t)::q)
 |N,x,hN,_,_,h,hf,ht=>Oj (fun y hy _ _ h2 hf2 ht2=>by
  cases N with
  |zero=>omega
  |succ N=>exact Tq N y (by omega) h2 hf2 ht2) h hf ht
end
end Go.Proofs.YtgonllbkcgaliaaGreatDoor
