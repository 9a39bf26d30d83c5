/- Contracts of functions, proved by walking their code. -/
import Derived.Test.YtgonllbkcgaliaaGreatDoorHm
import Derived.KernelRfl
set_option maxRecDepth 100000
set_option linter.unusedVariables false
set_option linter.unusedSimpArgs false
namespace Go.Proofs.YtgonllbkcgaliaaGreatDoor
open Go Go.RowKit Wx Go.Proofs.Tryz
attribute [local irreducible] Wx.lsH Wx.rsH Wx.stars
def Xh (m:Mdl)(f:Frm)(z:Int):Prop:=Ji m { f with stk:=f.stk++ [z] } 0∧f.pc≠0∧((Up m f.code).ins.getD (f.pc.toNat - 1) Gk).c=30
theorem Zq8 {m:Mdl}{f:Frm}{z:Int}:Ji m { f with stk:=f.stk++ [z] } 0↔Ji m f 1∧val z:=by
 unfold Ji Uj
 simp only [List.length_append,List.length_singleton,List.mem_append,List.mem_singleton]
 constructor
 · rintro ⟨h1,h2,h3,h4,h5,h6,h7,h8,h9,h10⟩
   exact ⟨⟨h1,h2,h3,h4,h5,h6,h7,fun n hn=>h8 n (.inl hn),h9,by omega⟩,h8 z (.inr rfl)⟩
 rintro ⟨⟨h1,h2,h3,h4,h5,h6,h7,h8,h9,h10⟩,hz⟩
 exact ⟨h1,h2,h3,h4,h5,h6,h7,fun n hn=>by rcases hn with hn|rfl;exact h8 n hn;exact hz,h9,by omega⟩
section
variable {G:World}{q pre:List HP}{a b A:Option Addr}{c d C p p0 p1 p2 i:Nat}{lo hi n cd dep:Int}{fv:Value}{x y:Ins}{t:Cod}{m:Mdl}{at_:Int}
variable {l cells loc:List Int}{idx arr z k u pc code:Int}{x1 x2 x3 x4 x5 x6 old:Value}{pm cc lc n1 n2:Nat}{la cda:Option Addr}
variable {f f2:Frm}{th:Int}{l2:List Int}
set_option maxHeartbeats 8000000 in
theorem Give_ok (gc:GC q)(g:GE q)(hq:MdlQ q m)(hf:FrmQ q f)(hb:f.loc.length≤1000∧f.stk.length≤1000):CallF prog G 26 [.agg (Wo m).toArray,.agg (Nb f).toArray,.int .i64 z] (q) (Ret fun v q'=>(Xh m f z∧ ∃ la lc sa sc,v= .tuple [.agg (Nb ⟨f.code,f.pc,f.loc,f.stk++ [z],la,lc,sa,sc⟩).toArray,.int .i64 0].toArray∧q'=lsH I64 2 sa sc (f.stk++ [z])::lsH I64 2 la lc (f.loc)::q)∨(¬Xh m f z∧v= .tuple [.agg (Nb zFrm).toArray,.int .i64 2].toArray∧q'=q)):=by
 refine CallF.of func26 ntmps26 rfl (fun F cs=> ?_)
 have hlen:=Zb (f:=Y2) (sz:=4) (fun _=>rfl) m.threads;have hnt:=hq.nt
 refine xo 2 ?_;refine Zl fun n1=> ?_
 refine Zl fun n2=> ?_
 refine Zm zeroValue67 fun n3=> ?_
 refine oo 4 ?_;refine ldA ?_;refine Zh call51 (Le.refl _) (Bp (hf.le leA) (by omega) (by omega)) ?_
 rintro _ _ ⟨la,lc,sa,sc,rfl,rfl⟩
 refine Zm zeroValue67 fun n4=> ?_
 refine stA ?_;refine ol 4 ?_;refine oo 1 ?_;refine XO.ef (Yh I64 [z] underlying22 Tryz.info2 rfl rfl rfl rfl rfl rfl (fun _=>rfl)) ?_
 rintro _ _ ⟨gz,rfl,rfl⟩
 refine XO.ef (Ye (f:=I64) (l:=f.stk) (m:= [z]) underlying22 Tryz.info2 rfl rfl rfl Zj ((Sees.lsH _).le Zj) (fun _=>rfl) (by simp;omega) (by simp;omega)) ?_
 rintro _ _ ⟨a2,c2,rfl,rfl⟩
 refine oo 1 ?_;refine st ?_;refine ox 3 ?_;refine drw ?_;refine Yw 0 ?_;refine Yw 1 ?_;refine Yj 2 call27 (Le.refl _) (Oj (f:=⟨f.code,f.pc,f.loc,f.stk++ [z],la,lc,a2,c2⟩) (gc.le leA) (g.le leA) (hq.le leA) ⟨(Sees.lsH _).le Zj,(Sees.lsH _).le Zj,(by show f.loc.length≤_;omega),(by simp;omega)⟩) ?_
 rintro _ _ ⟨⟨bb,rfl,hbb⟩,rfl⟩
 refine ⟨trivial,?_⟩
 replace hbb:bb=true↔Ji m { f with stk:=f.stk++ [z] } 0:=hbb
 refine Vb 3 rfl (Pu.not rfl) ?_;refine dd [4] ?_;refine XD.part 21 rfl (fun h1=> ?_) (fun h1=> ?_)
 · replace h1:=sp h1
   refine dd [5,6,7,8,9,10,11,12,13,14,15,16,17,18,19,20,21,22,23,24] ?_;refine XD.nil ?_;refine xo 4 ?_;refine stA ?_;refine ox 2 ?_;refine Zq (q) func26 (Hd results26) ⟨_,rfl,.inr ⟨fun k=>by first|exact Ng hbb (by simpa using h1) k.1|exact absurd (by omega) k.2.1,rfl,rfl⟩⟩
 replace h1:=sp h1
 refine dl [5] 6 ?_;refine dd [7,8,9] ?_;refine XD.part 26 rfl (fun h2=> ?_) (fun h2=> ?_)
 · replace h2:=sp h2
   refine dd [10,11,12,13,14,15,16,17,18,19,20,21,22,23,24] ?_;refine XD.nil ?_;refine xo 4 ?_;refine stA ?_;refine ox 2 ?_;refine Zq (q) func26 (Hd results26) ⟨_,rfl,.inr ⟨fun k=>by first|exact Ng hbb (by simpa using h1) k.1|exact absurd (by omega) k.2.1,rfl,rfl⟩⟩
 replace h2:=sp h2
 refine dl [10] 11 ?_;refine dl [12] 13 ?_
 have hm:=hbb.1 (by simpa using h1);obtain ⟨hm1,hm2,hth,hm3,hm4,hm5⟩:=id hm;dsimp only at hm2 hth hm3 hm4
 have hpc:(f.pc - 1).toNat<m.threads[f.code.toNat].ins.length:=by omega
 have hql:=hq.x _ (List.getElem_mem hth);have hni:=hql.ni;have hsi:=hql.i;have hlen2:=Zb (f:=Zx) (sz:=4) (fun _=>rfl) m.threads[f.code.toNat].ins
 have hp65:=(vOk hm1 hth).2.1
 have hxe:(Up m f.code).ins.getD (f.pc.toNat - 1) Gk=m.threads[f.code.toNat].ins[(f.pc - 1).toNat]:=by rw [show Up m f.code=m.threads[f.code.toNat] from Wv hth,show f.pc.toNat - 1=(f.pc - 1).toNat by omega];exact Wv hpc
 refine Wp hq.t (by rw [hlen];omega) (fun b1 o1 e1=> ?_)
 have hs1:=hq.t;rw [e1] at hs1
 refine XD.know 28 (.slice (some ⟨b1,o1,none⟩) m.threads.length m.tc) rfl (by rw [e1]) ?_
 refine dd [14,15] ?_;refine ldD 16 ?_ (hc:=(Wk (j:=f.code) hs1 leA (fun _=>rfl) hth (by omega) 2 _ rfl))
 refine dl [17] 18 ?_;refine dd [19] ?_;refine Wp hsi (by rw [hlen2];omega) (fun b2 o2 e2=> ?_)
 have hs2:=hsi;rw [e2] at hs2
 refine XD.know 33 (.slice (some ⟨b2,o2,none⟩) m.threads[f.code.toNat].ins.length m.threads[f.code.toNat].ic) rfl (by rw [e2]) ?_
 refine dd [20,21] ?_;refine ldD 22 ?_ (hc:=(Wk (j:=f.pc - 1) (sz:=4) hs2 leA (fun _=>rfl) hpc (by omega) 0 _ rfl))
 refine dd [23,24] ?_;refine XD.nil ?_;refine X.part 41 rfl (fun h3=> ?_) (fun h3=> ?_)
 · replace h3:=sp h3
   refine xo 4 ?_;refine stA ?_;refine ox 2 ?_;refine Zq (q) func26 (Hd results26) ⟨_,rfl,.inr ⟨fun k=>absurd k.2.2 (by rw [hxe];first|assumption|omega),rfl,rfl⟩⟩
 replace h3:=sp h3
 refine xo 4 ?_;refine ldA ?_;refine stA ?_;refine ox 2 ?_;refine Zq (lsH I64 2 a2 c2 (f.stk++ [z])::lsH I64 2 la lc (f.loc)::q) func26 (Hd results26) ⟨_,rfl,.inl ⟨⟨hm,by omega,by rw [hxe];first|assumption|omega⟩,la,lc,a2,c2,rfl,rfl⟩⟩
end
theorem J5 (b:Bool):val (Qj b):=by cases b<;>simp [Qj,val]
theorem twoS_vR {op a b:Int}(h:(Yp op a b).2=0):val (Yp op a b).1:=by
 unfold Yp at h⊢
 split; · exact J5 _
 split; · exact J5 _
 split; · exact J5 _
 split; · exact J5 _
 split
 · rename_i h1 h2 h3 h4 h5
   rw [if_neg h1,if_neg h2,if_neg h3,if_neg h4,if_pos h5] at h
   exact absurd h (by decide)
 rename_i h1 h2 h3 h4 h5
 rw [if_neg h1,if_neg h2,if_neg h3,if_neg h4,if_neg h5] at h
 dsimp only at h⊢
 generalize (if op=7 then a+b else if op=8 then a - b else if op=9 then a*b else if op=10 then a.tdiv b else a.tmod b)=n at h⊢
 rcases Classical.em (val n) with k|k
 · rw [if_pos k];exact k
 rw [if_neg k] at h;exact absurd h (by decide)
theorem mkS_val {c a b:Int}(h:(mkS c a b).2=0):val (mkS c a b).1:=by
 unfold mkS at h⊢
 split
 · split
   · assumption
   rename_i h1 h2;rw [if_pos h1,if_neg h2] at h;exact absurd h (by decide)
 split; · exact J5 _
 split; · exact J5 _
 rename_i h1 h2 h3
 rw [if_neg h1,if_neg h2,if_neg h3] at h
 exact twoS_vR h
theorem Qc {l:List Int}(h:Uj l)(n:Nat):Uj (l.take n):=fun x hx=>h x (List.mem_of_mem_take hx)
theorem Hg {l:List Int}(h:Uj l){x:Int}(hx:val x):Uj (l++ [x]):=fun y hy=>by
 rcases List.mem_append.1 hy with k|k
 · exact h y k
 rw [List.mem_singleton.1 k];exact hx
theorem Eh {l:List Int}(h:Uj l){x:Int}(hx:val x)(n:Nat):Uj (l.set n x):=fun y hy=>by
 rcases List.mem_or_eq_of_mem_set hy with k|k
 · exact h y k
 rw [k];exact hx
theorem Hz {x:Ins}{p:Int}(h: ¬ (x.c=19∨x.c=20∨x.c=21∨x.c=34)):p+1∈nxt x p:=by
 unfold nxt;rw [if_neg (by omega),if_neg (by omega),if_neg (by omega)];exact List.mem_singleton.2 rfl
theorem Co {x:Ins}{p:Int}(h:x.c=20∨x.c=21):x.a∈nxt x p∧p+1∈nxt x p:=by
 unfold nxt;rw [if_neg (by omega),if_neg (by omega),if_pos h]
 split
 · rename_i e;rw [e];simp
 simp
structure OnS (x:Ins) (pc:Int) (loc l cells:List Int) (r:(Int×List Int×List Int)×Did):Prop where
 nx:r.1.1∈nxt x pc
 ll:r.1.2.1.length=loc.length
 lv:Uj r.1.2.1
 sv:Uj r.1.2.2
 sl:(r.1.2.2.length:Int)=l.length - (Z5 x.c).1+(Z5 x.c).2 - (if x.c=30 then 1 else 0)
 rc:(r.2.kind=5∧r.2.ins.c=30)↔x.c=30
 on:x.c=30→r.1.1=pc+1
 wr:r.2.kind=2→r.2.write=true→0≤r.2.cell∧r.2.cell<cells.length∧val r.2.av
 kd:r.2.kind≠4∧r.2.kind≠7
theorem doS_goes {m:Mdl}{x:Ins}{pc:Int}{loc l cells:List Int}(hS:StepQ m x loc l cells)(hlo:Uj loc)(hc:Uj cells):
 (doS m x pc loc l cells).2.kind=4∨(doS m x pc loc l cells).2.kind=7∨OnS x pc loc l cells (doS m x pc loc l cells):=by
 obtain ⟨hok,hin,hd,hv,ha,hl,hvl,hL,hcn⟩:=hS
 have hx:=hin.1
 have hlast:val (Z9 l):=Vx hvl _
 unfold doS
 split
 · exact .inl rfl
 rename_i n34
 split
 · rename_i hk
   dsimp only
   generalize (if Rf x.c then (0:Int) else Vr l)=aa
   split
   · exact .inr (.inl rfl)
   rename_i h0
   have hv0:=mkS_val (Decidable.not_not.1 h0)
   refine .inr (.inr ⟨Hz (by unfold Dc at hk;omega),rfl,hlo,Hg (Qc hvl _) hv0,?_,?_,?_,?_,?_⟩)
   · unfold Dc at hk
     have e: ∃ k:Nat,(if Rf x.c then 1 else 2)=k∧(Z5 x.c)=((k:Int),1):=by
      rcases Classical.em (Rf x.c) with u|u
      · refine ⟨1,if_pos u,?_⟩;unfold Rf at u;unfold Z5;rw [if_neg (by omega),if_pos (by omega)];rfl
      refine ⟨2,if_neg u,?_⟩;unfold Rf at u;unfold Z5;rw [if_neg (by omega),if_neg (by omega),if_pos (by omega)];rfl
     obtain ⟨k,e1,e2⟩:=e
     rw [e2] at hd;dsimp only at hd
     rw [e1,e2,if_neg (by omega)]
     simp only [List.length_append,List.length_take,List.length_cons,List.length_nil]
     omega
   · constructor
     · rintro ⟨h1,_⟩;simp [Y5,Kw,Jo,V2,Uf] at h1
     intro h1;unfold Dc at hk;omega
   · intro h1;unfold Dc at hk;omega
   · intro h1;simp [Y5,Kw,Jo,V2,Uf] at h1
   constructor<;>simp [Y5,Kw,Jo,V2,Uf]
 rename_i nmk
 unfold Dc at nmk
 split
 · rename_i hk
   have key: ∀ y l',T4 m x l cells=some (y,l')→Uj l'∧(l'.length:Int)=l.length - (Z5 x.c).1+(Z5 x.c).2∧(y.2.1=true→0≤y.1∧y.1<cells.length∧val y.2.2):=by
    intro y l' h
    unfold T4 at h
    split at h
    · rename_i e
      cases h
      refine ⟨Hg hvl (Vx hc _),?_,fun k=>by cases k⟩
      rw [e];simp only [List.length_append,List.length_cons,List.length_nil];simp [Z5]
    split at h
    · rename_i e
      cases h
      rw [e] at hd;replace hd:(1:Int)≤l.length:=hd
      have:=hv (.inr e)
      refine ⟨Qc hvl _,?_,fun _=>⟨this.1,?_,hlast⟩⟩
      · rw [e];simp only [List.length_take];show _=(l.length:Int) - 1+0;omega
      dsimp only;unfold Kt at hcn;have hs:=Wf hok m.arrays.length;rw [List.take_length] at hs;omega
    split at h
    · rename_i e
      rw [e] at hd;replace hd:(1:Int)≤l.length:=hd
      split at h
      · cases h
      cases h
      refine ⟨Hg (Qc hvl _) (Vx hc _),?_,fun k=>by cases k⟩
      rw [e];simp only [List.length_append,List.length_take,List.length_cons,List.length_nil];show _=(l.length:Int) - 1+1;omega
    have e:x.c=7:=by omega
    rw [e] at hd;replace hd:(2:Int)≤l.length:=hd
    have hr:=Bd hok (i:=Vr l) (ha (.inr e))
    split at h
    · cases h
    rename_i hn
    cases h
    refine ⟨Qc hvl _,?_,fun _=>⟨by dsimp only;omega,by dsimp only;omega,hlast⟩⟩
    rw [e];simp only [List.length_take];show _=(l.length:Int) - 2+0;omega
   split
   · exact .inr (.inl rfl)
   rename_i y l' h
   obtain ⟨k1,k2,k3⟩:=key _ _ h
   refine .inr (.inr ⟨Hz (by omega),rfl,hlo,k1,by rw [if_neg (by omega)];dsimp only;omega,⟨fun h1=>by have:=h1.1;simp [Y5,Kw,Jo,V2,Uf] at this,fun h1=>by omega⟩,fun h1=>by omega,fun _ h1=>k3 h1,by constructor<;>simp [Y5,Kw,Jo,V2,Uf]⟩)
 rename_i nacc
 split
 · rename_i e
   refine .inr (.inr ⟨Hz (by omega),rfl,hlo,hvl,?_,⟨fun h1=>by have:=h1.1;simp [Y5,Kw,Jo,V2,Uf] at this,fun h1=>by omega⟩,fun h1=>by omega,fun h1=>by simp [Y5,Kw,Jo,V2,Uf] at h1,by constructor<;>simp [Y5,Kw,Jo,V2,Uf]⟩)
   rw [e];show (l.length:Int)=(l.length:Int) - 0+0 - 0;omega
 split
 · rename_i e
   rw [e] at hd;replace hd:(1:Int)≤l.length:=hd
   refine .inr (.inr ⟨Hz (by omega),rfl,hlo,Qc hvl _,?_,⟨fun h1=>by have:=h1.1;simp [Y5,Kw,Jo,V2,Uf] at this,fun h1=>by omega⟩,fun h1=>by omega,fun h1=>by simp [Y5,Kw,Jo,V2,Uf] at h1,by constructor<;>simp [Y5,Kw,Jo,V2,Uf]⟩)
   rw [e];simp only [List.length_take];show _=(l.length:Int) - 1+0 - 0;omega
 split
 · rename_i e
   rw [e] at hd;replace hd:(1:Int)≤l.length:=hd
   refine .inr (.inr ⟨Hz (by omega),rfl,hlo,Qc hvl _,?_,⟨fun h1=>by have:=h1.2;dsimp only at this;omega,fun h1=>by omega⟩,fun h1=>by omega,fun h1=>by simp [Y5,Kw,Jo,V2,Uf] at h1,by constructor<;>simp [Y5,Kw,Jo,V2,Uf]⟩)
   rw [e];simp only [List.length_take];show _=(l.length:Int) - 1+0 - 0;omega
 split
 · rename_i n29 e
   refine .inr (.inr ⟨Hz (by omega),rfl,hlo,hvl,?_,⟨fun h1=>h1.2,fun h1=>⟨rfl,h1⟩⟩,fun _=>rfl,fun h1=>by simp [Y5,Kw,Jo,V2,Uf] at h1,by constructor<;>simp [Y5,Kw,Jo,V2,Uf]⟩)
   rcases Classical.em (x.c=30) with h|h
   · rw [h];show _=(l.length:Int) - 0+1 - 1;dsimp only;omega
   have e2:Z5 x.c=(0,0):=by
    unfold Z5;rw [if_neg (by omega),if_neg (by omega),if_neg (by omega),if_neg (by omega),if_neg (by omega)]
   rw [e2,if_neg h];dsimp only;omega
 rename_i n23 n33 n29 n24
 have hcase:x.c=1∨x.c=3∨x.c=6∨x.c=19∨x.c=20∨x.c=21:=by omega
 have hrest: ∀ r:Int×List Int×List Int,r.1∈nxt x pc→r.2.1.length=loc.length→Uj r.2.1→Uj r.2.2→((r.2.2.length:Int)=l.length - (Z5 x.c).1+(Z5 x.c).2)→OnS x pc loc l cells (r,Y5):=fun r h1 h2 h3 h4 h5=>
  ⟨h1,h2,h3,h4,by rw [if_neg (by omega)];dsimp only;omega,⟨fun h1=>by have:=h1.1;simp [Y5,Kw,Jo,V2,Uf] at this,fun h1=>by omega⟩,fun h1=>by omega,fun h1=>by simp [Y5,Kw,Jo,V2,Uf] at h1,by constructor<;>simp [Y5,Kw,Jo,V2,Uf]⟩
 refine .inr (.inr (hrest _ ?_ ?_ ?_ ?_ ?_))
 all_goals unfold Yz
 · rcases hcase with e|e|e|e|e|e
   · rw [if_pos e];exact Hz (by omega)
   · rw [if_neg (by omega),if_pos e];exact Hz (by omega)
   · rw [if_neg (by omega),if_neg (by omega),if_pos e];exact Hz (by omega)
   · rw [if_neg (by omega),if_neg (by omega),if_neg (by omega),if_pos e];unfold nxt;rw [if_neg (by omega),if_pos e];exact List.mem_singleton.2 rfl
   · rw [if_neg (by omega),if_neg (by omega),if_neg (by omega),if_neg (by omega),if_pos e];have:=Co (p:=pc) (.inl e);dsimp only;split;exact this.1;exact this.2
   rw [if_neg (by omega),if_neg (by omega),if_neg (by omega),if_neg (by omega),if_neg (by omega),if_pos e];have:=Co (p:=pc) (.inr e);dsimp only;split;exact this.1;exact this.2
 · (repeat' split)<;>first|rfl|exact List.length_set
 · (repeat' split)<;>first|exact hlo|exact Eh hlo hlast _
 · have hn:x.c=1→val x.n:=fun e=>by have:=hin.2.2.2;rw [if_pos e] at this;exact this
   split; · rename_i e;exact Hg hvl (hn e)
   split; · exact Hg hvl (Vx hlo _)
   (repeat' split)<;>first|exact hvl|exact Qc hvl _
 rcases hcase with e|e|e|e|e|e<;>(rw [e] at hd⊢)<;>simp only [Z5] at hd⊢ <;>simp at hd⊢ <;>omega
theorem may_goes {m:Mdl}{f:Frm}{cells:List Int}(h:Ji m f 0)(hc:(cells.length:Int)=Kt m)(hv:Uj cells):
 (H0 m f cells).2.kind=4∨(H0 m f cells).2.kind=7∨(OnS (Wj m f) f.pc f.loc f.stk cells (H0 m f cells)∧
  ∀ la lc sa sc,Ji m ⟨f.code,(H0 m f cells).1.1,(H0 m f cells).1.2.1,(H0 m f cells).1.2.2,la,lc,sa,sc⟩ (if (Wj m f).c=30 then 1 else 0)):=by
 obtain ⟨hS,_,_⟩:=E9 h hc
 obtain ⟨h1,h2,hth,h3,h4,h5,h6,h7,h8,h9⟩:=h
 rcases doS_goes (pc:=f.pc) hS h6 hv with k|k|k
 · exact .inl k
 · exact .inr (.inl k)
 refine .inr (.inr ⟨k,fun la lc sa sc=> ?_⟩)
 obtain ⟨hin,hL,hd0,_⟩:=vOk h1 hth
 have hpc:f.pc.toNat<m.threads[f.code.toNat].ins.length:=by omega
 have e1:Up m f.code=m.threads[f.code.toNat]:=Wv hth
 have e2:Wj m f=m.threads[f.code.toNat].ins[f.pc.toNat]:=by unfold Wj;rw [e1];exact Wv hpc
 obtain ⟨_,_,_,hG⟩:=Rn hin hd0
 obtain ⟨_,_,_,g4⟩:=hG _ hpc h8
 have hp':(H0 m f cells).1.1∈nxt m.threads[f.code.toNat].ins[f.pc.toNat] ((f.pc.toNat:Nat):Int):=by rw [show ((f.pc.toNat:Nat):Int)=f.pc by omega,←e2];exact k.nx
 obtain ⟨y1,y2,y3⟩:=g4 _ hp'
 have e3:Z5 (Wj m f).c=Z5 m.threads[f.code.toNat].ins[f.pc.toNat].c:=by rw [e2]
 have hsl:((H0 m f cells).1.2.2.length:Int)=_:=k.sl
 rw [e3] at hsl
 have hnn:=Tq m.threads[f.code.toNat].ins[f.pc.toNat].c
 refine ⟨h1,h2,hth,y1,by dsimp only;omega,by dsimp only;rw [k.ll];exact h5,k.lv,k.sv,?_,?_⟩
 · dsimp only;rw [y3];have:=(hG _ hpc h8).1;omega
 dsimp only;rw [y3,hsl];omega
theorem may_new {m:Mdl}{th:Int}(h1:V0 m=0)(h2:0≤th)(h:th.toNat<m.threads.length)(la sa:Option Addr)(lc sc:Nat):Ji m ⟨th,0,List.replicate (m.threads[th.toNat]'h).locals.toNat 0, [],la,lc,sa,sc⟩ 0:=by
 obtain ⟨hin,hL,hd0,_⟩:=vOk h1 h
 obtain ⟨g0,g1,g2,_⟩:=Rn hin hd0
 have hlo:=((Ut h1).2.2.2.2.2.2 _ (List.getElem_mem h)).2.1
 unfold Yn at hlo
 refine ⟨h1,h2,h,Int.le_refl _,by dsimp only;omega,by dsimp only;rw [List.length_replicate];omega,fun n hn=> ?_,fun n hn=>(by cases hn),?_,?_⟩
 · rw [(List.mem_replicate.1 hn).2];unfold val;omega
 · show 0≤dAt _ 0;rw [g2];exact Int.le_refl _
 show dAt _ 0=_;rw [g2];rfl
theorem cells0 {m:Mdl}(h:V0 m=0):((m.vars++List.replicate (Vs m.arrays).toNat 0).length:Int)=Kt m∧Uj (m.vars++List.replicate (Vs m.arrays).toNat 0):=by
 have hok:=Ut h
 have hs:=Wf hok m.arrays.length;rw [List.take_length] at hs
 refine ⟨?_,fun n hn=> ?_⟩
 · rw [List.length_append,List.length_replicate];unfold Kt;omega
 rcases List.mem_append.1 hn with k|k
 · have:=hok.2.2.1.2 n k;unfold Yn at this;exact this
 rw [(List.mem_replicate.1 k).2];unfold val;omega
theorem may_len1 {m:Mdl}{f:Frm}{b:Prop}[Decidable b](h:Ji m f (if b then 1 else 0)):f.loc.length≤32∧f.stk.length≤27:=by
 obtain ⟨h1,h2,hth,h3,h4,h5,h6,h7,h8,h9⟩:=h
 have hpc:f.pc.toNat<m.threads[f.code.toNat].ins.length:=by omega
 obtain ⟨hin,hL,hd0,_⟩:=vOk h1 hth
 obtain ⟨_,_,_,hG⟩:=Rn hin hd0
 have hlo:=((Ut h1).2.2.2.2.2.2 _ (List.getElem_mem hth)).2.1
 unfold Yn at hlo
 obtain ⟨g1,g2,_,_⟩:=hG _ hpc h8
 have hnn:=Tq m.threads[f.code.toNat].ins[f.pc.toNat].c
 have hle:=Aj m.threads[f.code.toNat].ins[f.pc.toNat].c
 refine ⟨by omega,?_⟩
 split at h9<;>omega
theorem give_of {m:Mdl}{f f2:Frm}{z:Int}(h:Ji m f 0)(h2:Ji m f2 (if (Wj m f).c=30 then 1 else 0))(hp:(Wj m f).c=30→f2.pc=f.pc+1)(hx:(Wj m f).c=30)(hz:val z)(hcd:f2.code=f.code:=by rfl):Xh m f2 z:=by
 rw [if_pos hx] at h2
 obtain ⟨_,h2_,hth,h3,h4,_⟩:=h
 have hpc:=hp hx
 refine ⟨Zq8.2 ⟨h2,hz⟩,by omega,?_⟩
 rw [hcd,hpc,show (f.pc+1).toNat - 1=f.pc.toNat by omega]
 exact hx
def gvS (g:List Int)(n:Nat):Int:=if g.length=0 then 0 else g.getD (n % g.length) 0
def U3 (m:Mdl)(cd:Int)(gv:List Int):Nat→Int→List Int→List Int→List Int→List Did→List Did×List Int
 |0,_,loc,_,_,out=>(out,loc)
 |k+1,pc,loc,stk,cells,out=>
  if 30≤out.length then (out,loc) else
  let x:=Wj m ⟨cd,pc,loc,stk,none,0,none,0⟩
  let r:=doS m x pc loc stk cells
  let stk':=if x.c=30 then r.1.2.2++ [gvS gv out.length] else r.1.2.2
  if x.c=19 then U3 m cd gv k r.1.1 r.1.2.1 stk' cells out
  else
   let cells':=if r.2.kind=2∧r.2.write=true then cells.set r.2.cell.toNat r.2.av else cells
   if r.2.kind=4∨r.2.kind=7 then (out++ [r.2],r.1.2.1)
   else U3 m cd gv k r.1.1 r.1.2.1 stk' cells' (out++ [r.2])
theorem Bm {m:Mdl}{cd:Int}{gv:List Int}{k:Nat}{pc:Int}{loc stk cells:List Int}{out:List Did}(h:30≤out.length):U3 m cd gv k pc loc stk cells out=(out,loc):=by
 cases k with
 |zero=>rfl
 |succ k=>unfold U3;rw [if_pos h]
theorem doS_19 {m:Mdl}{x:Ins}{pc:Int}{loc l cells:List Int}(h:x.c=19):doS m x pc loc l cells=((x.a,loc,l),Y5):=by
 unfold doS
 rw [if_neg (by omega),if_neg (by unfold Dc;omega),if_neg (by omega),if_neg (by omega),if_neg (by omega),if_neg (by omega),if_neg (by omega)]
 unfold Yz
 rw [if_neg (by omega),if_neg (by omega),if_neg (by omega),if_pos h]
theorem Il {m m':Mdl}(hv:m'.vars=m.vars)(ha:m'.arrays=m.arrays)(a i:Int):Vt m' a i=Vt m a i:=by unfold Vt;rw [hv,ha]
theorem Zzl {m m':Mdl}(hv:m'.vars=m.vars)(ha:m'.arrays=m.arrays)(x:Ins)(l cells:List Int):T4 m' x l cells=T4 m x l cells:=by
 unfold T4;simp only [Il hv ha]
theorem Ge {x:Ins}(h:x.c=20)(pc:Int)(loc l:List Int):Yz x pc loc l=(if Z9 l=0 then x.a else pc,loc,l.take (l.length - 1)):=by
 unfold Yz;rw [if_neg (by omega),if_neg (by omega),if_neg (by omega),if_neg (by omega),if_pos h]
theorem Gs {x:Ins}(h:x.c=21)(pc:Int)(loc l:List Int):Yz x pc loc l=(if Z9 l≠0 then x.a else pc,loc,l.take (l.length - 1)):=by
 unfold Yz;rw [if_neg (by omega),if_neg (by omega),if_neg (by omega),if_neg (by omega),if_neg (by omega),if_pos h]
theorem Zqo {x:Ins}(h: ¬ (x.c=19∨x.c=20∨x.c=21))(loc l:List Int): ∃ u v,∀ pc,Yz x pc loc l=(pc,u,v):=by
 rcases Classical.em (x.c=1) with e|e
 · exact ⟨_,_,fun pc=>by unfold Yz;rw [if_pos e]⟩
 rcases Classical.em (x.c=3) with e3|e3
 · exact ⟨_,_,fun pc=>by unfold Yz;rw [if_neg e,if_pos e3]⟩
 rcases Classical.em (x.c=6) with e6|e6
 · exact ⟨_,_,fun pc=>by unfold Yz;rw [if_neg e,if_neg e3,if_pos e6]⟩
 exact ⟨_,_,fun pc=>by unfold Yz;rw [if_neg e,if_neg e3,if_neg e6,if_neg (by omega),if_neg (by omega),if_neg (by omega)]⟩
theorem mv_mv (f g:Nat→Nat)(i:Ins):(i.mv f).mv g=i.mv (fun a=>g (f a)):=by
 unfold Ins.mv
 by_cases hj:jm i=true
 · rw [if_pos hj,if_pos hj,if_pos (by simpa [jm] using hj)];simp
 rw [if_neg hj,if_neg hj,if_neg hj]
theorem doS_mv {m m':Mdl}(hv:m'.vars=m.vars)(ha:m'.arrays=m.arrays){x x':Ins}{f:Nat→Nat}(hx:x'=x.mv f)(pc pc':Int)(loc l cells:List Int)(hn:x.c≠19):
 (doS m' x' pc' loc l cells).2=(doS m x pc loc l cells).2∧(doS m x pc loc l cells).2.kind=4∧(doS m' x' pc' loc l cells).1.2=(doS m x pc loc l cells).1.2∨
 (doS m' x' pc' loc l cells).2=(doS m x pc loc l cells).2∧(doS m x pc loc l cells).2.kind=7∧(doS m' x' pc' loc l cells).1.2=(doS m x pc loc l cells).1.2∨
 ∃ r:List Int×List Int,∃ d:Did,(doS m x pc loc l cells=((pc+1,r),d)∧doS m' x' pc' loc l cells=((pc'+1,r),d)∧pc+1∈nxt x pc)∨
  (jm x=true∧doS m x pc loc l cells=((x.a,r),d)∧doS m' x' pc' loc l cells=((x'.a,r),d)∧x.a∈nxt x pc):=by
 by_cases hj:jm x=true
 · have hc:x.c=20∨x.c=21:=by unfold jm at hj;rw [decide_eq_true_eq] at hj;omega
   have hc':x'.c=x.c:=by rw [hx,Rw]
   have e: ∀ (M:Mdl) (y:Ins) (p:Int),y.c=x.c→doS M y p loc l cells=(Yz y (p+1) loc l,Y5):=fun M y p hy=>by
    unfold doS
    rw [if_neg (by omega),if_neg (by unfold Dc;omega),if_neg (by omega),if_neg (by omega),if_neg (by omega),if_neg (by omega),if_neg (by omega)]
   have hb:=Co (p:=pc) hc
   rw [e m x pc rfl,e m' x' pc' hc']
   refine .inr (.inr ⟨(loc,l.take (l.length - 1)),Y5,?_⟩)
   rcases hc with h|h
   · rw [Ge h,Ge (hc'.trans h)]
     by_cases h0:Z9 l=0
     · rw [if_pos h0,if_pos h0];exact .inr ⟨hj,rfl,rfl,hb.1⟩
     rw [if_neg h0,if_neg h0];exact .inl ⟨rfl,rfl,hb.2⟩
   rw [Gs h,Gs (hc'.trans h)]
   by_cases h0:Z9 l≠0
   · rw [if_pos h0,if_pos h0];exact .inr ⟨hj,rfl,rfl,hb.1⟩
   rw [if_neg h0,if_neg h0];exact .inl ⟨rfl,rfl,hb.2⟩
 have hxx:x'=x:=by rw [hx];unfold Ins.mv;rw [if_neg hj]
 subst hxx
 have hc: ¬ (x'.c=19∨x'.c=20∨x'.c=21):=by unfold jm at hj;rw [decide_eq_true_eq] at hj;omega
 have hon:x'.c≠34→pc+1∈nxt x' pc:=fun h=>Hz (by omega)
 by_cases n34:x'.c=34
 · exact .inl ⟨by unfold doS;rw [if_pos n34,if_pos n34],by unfold doS;rw [if_pos n34],by unfold doS;rw [if_pos n34,if_pos n34]⟩
 replace hon:=hon n34
 unfold doS
 rw [if_neg n34,if_neg n34]
 by_cases hk:Dc x'.c
 · rw [if_pos hk,if_pos hk]
   dsimp only
   generalize (mkS x'.c (if Rf x'.c then 0 else Vr l) (Z9 l))=z
   by_cases hz:z.2≠0
   · rw [if_pos hz,if_pos hz];exact .inr (.inl ⟨rfl,rfl,rfl⟩)
   rw [if_neg hz,if_neg hz];exact .inr (.inr ⟨_,_,.inl ⟨rfl,rfl,hon⟩⟩)
 rw [if_neg hk,if_neg hk]
 by_cases h4:x'.c=2∨x'.c=5∨x'.c=4∨x'.c=7
 · rw [if_pos h4,if_pos h4,Zzl hv ha]
   cases T4 m x' l cells with
   |none=>exact .inr (.inl ⟨rfl,rfl,rfl⟩)
   |some y=>exact .inr (.inr ⟨_,_,.inl ⟨rfl,rfl,hon⟩⟩)
 rw [if_neg h4,if_neg h4]
 by_cases h23:x'.c=23
 · rw [if_pos h23,if_pos h23];exact .inr (.inr ⟨_,_,.inl ⟨rfl,rfl,hon⟩⟩)
 rw [if_neg h23,if_neg h23]
 by_cases h33:x'.c=33
 · rw [if_pos h33,if_pos h33];exact .inr (.inr ⟨_,_,.inl ⟨rfl,rfl,hon⟩⟩)
 rw [if_neg h33,if_neg h33]
 by_cases h29:x'.c=29
 · rw [if_pos h29,if_pos h29];exact .inr (.inr ⟨_,_,.inl ⟨rfl,rfl,hon⟩⟩)
 rw [if_neg h29,if_neg h29]
 by_cases h24:24≤x'.c∧x'.c≤32
 · rw [if_pos h24,if_pos h24];exact .inr (.inr ⟨_,_,.inl ⟨rfl,rfl,hon⟩⟩)
 rw [if_neg h24,if_neg h24]
 obtain ⟨u,v,hp⟩:=Zqo hc loc l
 rw [hp,hp]
 exact .inr (.inr ⟨_,_,.inl ⟨rfl,rfl,hon⟩⟩)
theorem P9 {m:Mdl}{cd:Int}{l:List Ins}(h:(Up m cd).ins=l)(p:Nat)(loc stk:List Int):Wj m ⟨cd,(p:Int),loc,stk,none,0,none,0⟩=l.getD p Zt:=by
 unfold Wj;rw [h,Int.toNat_natCast];rfl
theorem Bh {m:Mdl}{cd:Int}{gv:List Int}{l:List Ins}(h:(Up m cd).ins=l)(hb: ∀ i∈l,jm i=true→0≤i.a){e:Nat}{loc stk cells:List Int}{out:List Did}(ho:out.length<30):
 ∀ (j p K:Nat),led l (j+1) p=some e→j≤K→ ∃ i,i≤j∧U3 m cd gv K (p:Int) loc stk cells out=U3 m cd gv (K - i) (e:Int) loc stk cells out
 |0,p,K,hl,_=>by
  unfold led at hl
  split at hl
  · simp [led] at hl
  cases hl;exact ⟨0,Nat.le_refl _,rfl⟩
 |j+1,p,K,hl,hK=>by
  rcases Classical.em ((l.getD p Zt).c=19) with hc|hc
  · rw [V8 hc] at hl
    obtain ⟨K,rfl⟩: ∃ K',K=K'+1:=⟨K - 1,by omega⟩
    obtain ⟨i,h1,h2⟩:=Bh h hb ho j _ K hl (by omega)
    refine ⟨i+1,by omega,?_⟩
    have hpl:p<l.length:=by
     rcases Nat.lt_or_ge p l.length with g|g
     · exact g
     rw [List.getD_eq_getElem?_getD,List.getElem?_eq_none g] at hc;exact absurd hc (by decide)
    have ha:0≤(l.getD p Zt).a:=hb _ (by rw [Zr hpl];exact List.getElem_mem hpl) (by unfold jm;rw [hc];decide)
    have e1:U3 m cd gv (K+1) (p:Int) loc stk cells out=U3 m cd gv K ((l.getD p Zt).a.toNat:Int) loc stk cells out:=by
     conv=>lhs;unfold U3
     rw [if_neg (by omega)]
     simp only [P9 h,doS_19 hc]
     rw [if_pos hc,if_neg (by omega),Int.toNat_of_nonneg ha]
    rw [e1,h2,show K+1 - (i+1)=K - i by omega]
  unfold led at hl
  rw [if_neg hc] at hl
  cases hl;exact ⟨0,Nat.zero_le _,rfl⟩
theorem Ki (l:List Ins){D:Nat→Int}(h:Snd (Zy l) D)(hb: ∀ i∈Zy l,0≤i.a){p e:Nat}(hr:Rch (Zy l) p)(he:led l (l.length+1) p=some e):
 Rch (Zy l) e∧tiR l e=false∧(l.getD e Zt).c≠19∧led (tiI l) ((tiI l).length+1) (kb (tiR l) p)=some (kb (tiR l) e):=by
 have hp:=hr.lt
 rw [Yq] at hp
 have hsp:=V7 l hp
 have hkept: ∀ q,Rch (Zy l) q→(l.getD q Zt).c≠19→tiR l q=false:=fun q hq hc=>by
  cases hR:tiR l q with
  |false=>rfl
  |true=>
   have hql:=hq.lt;rw [Yq] at hql
   have:=(Rq l h hb hq hR).1
   rw [V7 l hql,Rw] at this
   exact absurd this hc
 have htc: ∀ q,q<l.length→tiR l q=false→((tiI l).getD (kb (tiR l) q) Zt).c=(l.getD q Zt).c:=fun q hq hR=>by
  rw [Mo hq hR,Rw,V7 l hq,Rw]
 rcases Classical.em ((l.getD p Zt).c=19) with hc|hc
 · have he':=he
   rw [V8 hc] at he'
   have hle:leadS l (l.getD p Zt).a.toNat=e:=by unfold Go.Proofs.YtgonllbkcgaliaaGreatDoor.leadS;rw [Ha he' (Nat.le_succ _)];rfl
   have hjm:jm (l.getD p Zt)=true:=by unfold jm;rw [hc];decide
   have hsa:((Zy l).getD p Zt).a=(e:Int):=by rw [hsp];unfold Ins.mv;rw [if_pos hjm];dsimp only;rw [hle]
   have hs19:((Zy l).getD p Zt).c=19:=by rw [hsp,Rw];exact hc
   have hin:=h.in hr ((Zy l).getD p Zt).a (by rw [B8 hs19];exact List.mem_singleton_self _)
   have hre:Rch (Zy l) e:=by
    have:=Rch.step hr (y:=((Zy l).getD p Zt).a) (by rw [B8 hs19];exact List.mem_singleton_self _) hin.1 (by have:=hin.2;omega)
    rwa [hsa,Int.toNat_natCast] at this
   have hel:=hre.lt;rw [Yq] at hel
   have hec:(l.getD e Zt).c≠19:=Do he
   have hRe:=hkept e hre hec
   have hte:=htc e hel hRe
   refine ⟨hre,hRe,hec,?_⟩
   cases hR:tiR l p with
   |true=>
    have hk:=(Rq l h hb hr hR).2.2.2.2
    rw [hsa,Int.toNat_natCast] at hk
    rw [←hk];unfold led;rw [if_neg (by rw [hte];exact hec)]
   |false=>
    have ht:=Mo hp hR
    have htp:((tiI l).getD (kb (tiR l) p) Zt).c=19:=by rw [ht,Rw];exact hs19
    have hta:((tiI l).getD (kb (tiR l) p) Zt).a=(kb (tiR l) e:Int):=by rw [ht];unfold Ins.mv;rw [if_pos (by unfold jm;rw [hs19];decide),hsa,Int.toNat_natCast]
    rw [V8 htp,hta,Int.toNat_natCast]
    have hl0:0<(tiI l).length:=by rw [Q1];have:=Tm hR (a:=p) (b:=l.length) hp;omega
    obtain ⟨n,hn⟩: ∃ n,(tiI l).length=n+1:=⟨(tiI l).length - 1,by omega⟩
    rw [hn];unfold led;rw [if_neg (by rw [hte];exact hec)]
 have:p=e:=by unfold led at he;rw [if_neg hc] at he;exact Option.some.inj he
 subst this
 have hRp:=hkept p hr hc
 refine ⟨hr,hRp,hc,?_⟩
 unfold led;rw [if_neg (by rw [htc p hp hRp];exact hc)]
theorem Jv {m:Mdl}{cd:Int}{gv l:List Int}{L:List Ins}(hM:(Up m cd).ins=L){q k:Nat}{loc stk cells:List Int}{out:List Did}(ho:out.length<30)(hq:(L.getD q Zt).c≠19){a:Int}{r:List Int×List Int}{d:Did}(hd:doS m (L.getD q Zt) q loc stk cells=((a,r),d)):
 U3 m cd gv (k+1) (q:Int) loc stk cells out=(if d.kind=4∨d.kind=7 then (out++ [d],r.1)
  else U3 m cd gv k a r.1 (if (L.getD q Zt).c=30 then r.2++ [gvS gv out.length] else r.2) (if d.kind=2∧d.write=true then cells.set d.cell.toNat d.av else cells) (out++ [d])):=by
 conv=>lhs;unfold U3
 rw [if_neg (by omega)]
 simp only [P9 hM]
 rw [if_neg hq,hd]
theorem Ic {m m':Mdl}{cd:Int}{gv:List Int}{l:List Ins}{D:Nat→Int}(hv:m'.vars=m.vars)(hA:m'.arrays=m.arrays)(h1:(Up m cd).ins=l)(h2:(Up m' cd).ins=tiI l)
 (hl:Snd l D) (h:Snd (Zy l) D) (hb0: ∀ i∈l,jm i=true→0≤i.a) (hb: ∀ i∈Zy l,0≤i.a) (hL:l.length≤80) (hN: ∀ p,p<l.length→ ∃ e,led l (l.length+1) p=some e):
 ∀ (n p e p' K K':Nat) (loc stk cells:List Int) (out:List Did),out.length+n=30→led l (l.length+1) p=some e→Rch (Zy l) e→led (tiI l) ((tiI l).length+1) p'=some (kb (tiR l) e)→81*n≤K→81*n≤K'→
  U3 m cd gv K (p:Int) loc stk cells out=U3 m' cd gv K' (p':Int) loc stk cells out:=by
 have hb2: ∀ i∈tiI l,jm i=true→0≤i.a:=fun i hi hj=>(Cf h hb i hi hj).1
 have hL2:(tiI l).length≤80:=by rw [Q1];have:=P7 (tiR l) l.length;omega
 intro n
 induction n with
 |zero=>intro p e p' K K' loc stk cells out ho _ _ _ _ _;rw [Bm (by omega),Bm (by omega)]
 |succ n ih=>
  intro p e p' K K' loc stk cells out ho he hre hp' hK hK'
  have hec:(l.getD e Zt).c≠19:=Do he
  have hself: ∀ q,(l.getD q Zt).c≠19→led l (l.length+1) q=some q:=fun q hq=>by unfold led;rw [if_neg hq]
  obtain ⟨_,hRe,_,_⟩:=Ki l h hb hre (hself e hec)
  obtain ⟨i,hi,e1⟩:=Bh (gv:=gv) (cells:=cells) (stk:=stk) (loc:=loc) h1 hb0 (by omega:out.length<30) _ _ K he (by omega)
  obtain ⟨i',hi',e2⟩:=Bh (gv:=gv) (cells:=cells) (stk:=stk) (loc:=loc) h2 hb2 (by omega:out.length<30) _ _ K' hp' (by omega)
  rw [e1,e2]
  obtain ⟨k,hk⟩: ∃ k,K - i=k+1:=⟨K - i - 1,by omega⟩
  obtain ⟨k',hk'⟩: ∃ k',K' - i'=k'+1:=⟨K' - i' - 1,by omega⟩
  rw [hk,hk']
  have hel:=hre.lt;rw [Yq] at hel
  have hmv:(tiI l).getD (kb (tiR l) e) Zt=(l.getD e Zt).mv (fun a=>kb (tiR l) (leadS l a)):=by
   rw [Mo hel hRe,V7 l hel,mv_mv]
  have hc2:((tiI l).getD (kb (tiR l) e) Zt).c=(l.getD e Zt).c:=by rw [hmv,Rw]
  have hec2:((tiI l).getD (kb (tiR l) e) Zt).c≠19:=by rw [hc2];exact hec
  have hDe:0≤D e:=h.rch hre
  have hgo:=(hl.go e hel hDe).2.2.2
  obtain ⟨⟨⟨a1,r1⟩,w1⟩,hz1⟩: ∃ z,doS m (l.getD e Zt) e loc stk cells=z:=⟨_,rfl⟩
  obtain ⟨⟨⟨a2,r2⟩,w2⟩,hz2⟩: ∃ z,doS m' ((tiI l).getD (kb (tiR l) e) Zt) (kb (tiR l) e:Int) loc stk cells=z:=⟨_,rfl⟩
  rcases doS_mv hv hA hmv (e:Int) (kb (tiR l) e:Int) loc stk cells hec with ⟨d1,d2,d3⟩|⟨d1,d2,d3⟩|⟨r,d,⟨g1,g2,g3⟩|⟨g0,g1,g2,g3⟩⟩
  · rw [hz1] at d1 d2 d3;rw [hz2] at d1 d3;dsimp only at d1 d2 d3;subst d1;subst d3
    rw [Jv (l:= []) h1 (by omega) hec hz1,Jv (l:= []) h2 (by omega) hec2 hz2,if_pos (.inl d2),if_pos (.inl d2)]
  · rw [hz1] at d1 d2 d3;rw [hz2] at d1 d3;dsimp only at d1 d2 d3;subst d1;subst d3
    rw [Jv (l:= []) h1 (by omega) hec hz1,Jv (l:= []) h2 (by omega) hec2 hz2,if_pos (.inr d2),if_pos (.inr d2)]
  · rw [Jv (l:= []) h1 (by omega) hec g1,Jv (l:= []) h2 (by omega) hec2 g2,hc2]
    by_cases h47:d.kind=4∨d.kind=7
    · rw [if_pos h47,if_pos h47]
    rw [if_neg h47,if_neg h47]
    have hy:=hgo _ g3
    have hs3:(e:Int)+1∈nxt ((Zy l).getD e Zt) e:=by
     rw [V7 l hel]
     unfold nxt at g3⊢
     rw [Rw]
     by_cases hc34:(l.getD e Zt).c=34
     · rw [if_pos hc34] at g3;cases g3
     rw [if_neg hc34,if_neg hec] at g3⊢
     split
     · split
       · rename_i ha;rw [ha];simp
       simp
     simp
    have hr2:Rch (Zy l) (e+1):=by
     have:=Rch.step hre (y:=(e:Int)+1) hs3 (by omega) (by have:=hy.2.1;rw [Yq];omega)
     rwa [show ((e:Int)+1).toNat=e+1 by omega] at this
    have hkb:kb (tiR l) (e+1)=kb (tiR l) e+1:=by simp only [kb];rw [hRe];simp
    have hl1:=hr2.lt;rw [Yq] at hl1
    obtain ⟨e2,he2⟩:=hN _ hl1
    obtain ⟨t1,_,_,t4⟩:=Ki l h hb hr2 he2
    rw [show (e:Int)+1=((e+1:Nat):Int) by omega,show (kb (tiR l) e:Int)+1=((kb (tiR l) (e+1):Nat):Int) by rw [hkb];omega]
    exact ih (e+1) e2 _ k k' _ _ _ _ (by simp;omega) he2 t1 t4 (by omega) (by omega)
  rw [Jv (l:= []) h1 (by omega) hec g1,Jv (l:= []) h2 (by omega) hec2 g2,hc2]
  by_cases h47:d.kind=4∨d.kind=7
  · rw [if_pos h47,if_pos h47]
  rw [if_neg h47,if_neg h47]
  have hy:=hgo _ g3
  have ha0:0≤(l.getD e Zt).a:=hy.1
  obtain ⟨e2,he2⟩:=hN (l.getD e Zt).a.toNat hy.2.1
  have hle:leadS l (l.getD e Zt).a.toNat=e2:=by unfold Go.Proofs.YtgonllbkcgaliaaGreatDoor.leadS;rw [he2];rfl
  have hsa:((Zy l).getD e Zt).a=(e2:Int):=by rw [V7 l hel];unfold Ins.mv;rw [if_pos g0];dsimp only;rw [hle]
  have hs3:((Zy l).getD e Zt).a∈nxt ((Zy l).getD e Zt) e:=by
   have hc20:((Zy l).getD e Zt).c=20∨((Zy l).getD e Zt).c=21:=by rw [V7 l hel,Rw];unfold jm at g0;rw [decide_eq_true_eq] at g0;omega
   exact (Co hc20).1
  have hin:=h.in hre _ hs3
  have hr2:Rch (Zy l) e2:=by
   have:=Rch.step hre hs3 hin.1 (by have:=hin.2;omega)
   rwa [hsa,Int.toNat_natCast] at this
  have hta:((tiI l).getD (kb (tiR l) e) Zt).a=(kb (tiR l) e2:Int):=by rw [hmv];unfold Ins.mv;rw [if_pos g0];dsimp only;rw [hle]
  obtain ⟨_,_,_,t4⟩:=Ki l h hb hr2 (hself e2 (Do he2))
  rw [hta,show (l.getD e Zt).a=((l.getD e Zt).a.toNat:Int) by omega]
  exact ih _ e2 _ k k' _ _ _ _ (by simp;omega) he2 hr2 t4 (by omega) (by omega)
def Bk (C:List Ins)(s:Int):Prop:= ∀ i (h:i<C.length),C[i].c=19→s+i<C[i].a∨ ∃ j,∃ hj:j<C.length,C[i].a=s+j∧C[j].c=23
theorem Bk.app {A B:List Ins}{s:Int}(hA:Bk A s)(hB:Bk B (s+A.length)):Bk (A++B) s:=by
 intro i h hc
 rcases Nat.lt_or_ge i A.length with g|g
 · rw [List.getElem_append_left g] at hc⊢
   rcases hA i g hc with k|⟨j,hj,k1,k2⟩
   · exact .inl k
   exact .inr ⟨j,by rw [List.length_append];omega,k1,by rw [List.getElem_append_left hj];exact k2⟩
 have g2:i - A.length<B.length:=by rw [List.length_append] at h;omega
 rw [List.getElem_append_right g] at hc⊢
 rcases hB _ g2 hc with k|⟨j,hj,k1,k2⟩
 · exact .inl (by omega)
 refine .inr ⟨A.length+j,by rw [List.length_append];omega,by rw [k1];omega,?_⟩
 rw [List.getElem_append_right (by omega)];simp only [Nat.add_sub_cancel_left];exact k2
theorem Bk.no {C:List Ins}{s:Int}(h: ∀ x∈C,x.c≠19):Bk C s:=fun i hi hc=>absurd hc (h _ (List.getElem_mem hi))
theorem Bk.at {C:List Ins}{s t:Int}(h:Bk C s)(e:s=t):Bk C t:=e ▸ h
theorem Bk.fwd {a s:Int}(h:s<a):Bk [⟨19,a,0,0⟩] s:=by
 intro i hi _
 have:i=0:=by simpa using hi
 subst this
 exact .inl (by simpa using h)
theorem Bk.back {A:List Ins}{s:Int}(hA:Bk A s){x:Ins}(h0:A[0]? =some x)(hx:x.c=23):Bk (A++ [⟨19,s,0,0⟩]) s:=by
 obtain ⟨hl,h1⟩:=List.getElem?_eq_some_iff.1 h0
 intro i h hc
 rcases Nat.lt_or_ge i A.length with g|g
 · rw [List.getElem_append_left g] at hc⊢
   rcases hA i g hc with k|⟨j,hj,k1,k2⟩
   · exact .inl k
   exact .inr ⟨j,by rw [List.length_append];omega,k1,by rw [List.getElem_append_left hj];exact k2⟩
 refine .inr ⟨0,by rw [List.length_append];omega,?_,by rw [List.getElem_append_left hl,h1];exact hx⟩
 rw [List.getElem_append_right g]
 simp
theorem Jg: ∀ (N:Nat) (e:PEx),e.sz≤N→e.fit→ ∀ (s:Int),Bk (e.code s) s
 |0,e,hN,_,_=>by have:=e.sz_pos;omega
 |N+1,.mk k n nm slot loc op args,hN,hfit,s=>by
  obtain ⟨hk,hm,hn1,hop,hfa⟩:=hfit
  have hx: ∀ x∈args,x.fit∧x.sz≤N:=fun x hx=>by
   obtain ⟨i,hi,rfl⟩:=List.getElem_of_mem hx
   have:=Tx hi
   simp only [PEx.sz] at hN
   exact ⟨Ub hfa hx,by omega⟩
  have one: ∀ {x:Ins} {s:Int},x.c≠19→Bk [x] s:=fun h=>Bk.no (Yy h)
  simp only [PEx.code]
  split
  · exact one (by dsimp only;omega)
  rename_i h1
  split
  · exact one (by dsimp only;split<;>omega)
  rename_i h2
  split
  · exact one (by dsimp only;omega)
  rename_i h3
  (try dsimp only)
  by_cases h6:k=6
  · obtain ⟨x,y,rfl⟩: ∃ x y,args= [x,y]:=by
     match args,hm with
     | [x,y],_=>exact ⟨x,y,rfl⟩
     | [],hm=>rw [h6] at hm;cases hm
     | [_],hm=>rw [h6] at hm;cases hm
     |_::_::_::_,hm=>rw [h6] at hm;simp [Mu] at hm
    obtain ⟨fx,sx⟩:=hx x (by simp);obtain ⟨fy,sy⟩:=hx y (by simp)
    have ix:=Jg N x sx fx s
    have iy:=Jg N y sy fy
    simp only [PEx.codes,List.getD_cons_zero,List.getD_cons_succ]
    subst h6
    have ho7:=hop rfl
    by_cases ho:op≤2
    · simp (decide:=true) only [ho,and_true,true_and,and_false,false_and,if_true,if_false,reduceIte]
      have iy:=iy (s+((x.code s).length:Int)+1)
      generalize y.code (s+((x.code s).length:Int)+1)=Y at iy⊢
      generalize x.code s=X at ix iy⊢
      have e3:([⟨22,0,0,0⟩,⟨19,s+(X.length:Int)+1+(Y.length:Int)+2+1,0,0⟩,⟨1,0,0,2 - op⟩]:List Ins)= [⟨22,0,0,0⟩]++ [⟨19,s+(X.length:Int)+1+(Y.length:Int)+2+1,0,0⟩]++ [⟨1,0,0,2 - op⟩]:=rfl
      rw [e3]
      refine ((ix.app (one ?_)).app ?_).app (((one (by decide)).app (Bk.fwd ?_)).app (one (by dsimp only;omega)))
      · dsimp only;split<;>omega
      · simpa [Int.add_assoc] using iy
      simp only [List.length_append,List.length_cons,List.length_nil];omega
    simp (decide:=true) only [ho,and_true,true_and,and_false,false_and,if_true,if_false,reduceIte]
    have iy:=iy (s+((x.code s).length:Int))
    exact (ix.app iy).app (one (by dsimp only;omega))
  obtain ⟨x,rfl⟩: ∃ x,args= [x]:=by
   have h1:args.length=1:=by rw [hm];unfold Mu;rw [if_pos (by omega)]
   match args,h1 with
   | [x],_=>exact ⟨x,rfl⟩
  obtain ⟨fx,sx⟩:=hx x (by simp)
  have ix:=Jg N x sx fx s
  simp only [PEx.codes,List.getD_cons_zero]
  have hc:k=3∨k=4∨k=5:=by omega
  rcases hc with rfl|rfl|rfl<;>simp (decide:=true) only [false_and,if_true,if_false,reduceIte]<;>exact ix.app (one (by dsimp only;omega))
theorem preS_bk {k id t:Int}{e ix:PEx}(h:k≤5∨k=11∨k=15→e.fit)(h2:k=3→ix.fit):Bk (Qw k e ix id t) t∧(Qw k e ix id t)[0]? =some ⟨23,id,0,0⟩:=by
 have mk: ∀ s,Bk [⟨23,id,0,0⟩] s:=fun s=>Bk.no (Yy (by dsimp only;omega))
 unfold Qw
 dsimp only
 have c1:Bk (if k=3 then [⟨23,id,0,0⟩]++ix.code (t+1) else [⟨23,id,0,0⟩]) t∧(if k=3 then [⟨23,id,0,0⟩]++ix.code (t+1) else [⟨23,id,0,0⟩]:List Ins)[0]? =some ⟨23,id,0,0⟩:=by
  split
  · rename_i h3;exact ⟨(mk t).app (Jg _ ix (Nat.le_refl _) (h2 h3) _),rfl⟩
  exact ⟨mk t,rfl⟩
 generalize (if k=3 then [⟨23,id,0,0⟩]++ix.code (t+1) else [⟨23,id,0,0⟩]:List Ins)=C at c1⊢
 split
 · rename_i hk
   refine ⟨c1.1.app (Jg _ e (Nat.le_refl _) (h hk) _),?_⟩
   obtain ⟨hl,h1⟩:=List.getElem?_eq_some_iff.1 c1.2
   rw [List.getElem?_append_left hl];exact c1.2
 exact c1
theorem tailS_no (m k s o:Int)(l:Bool): ∀ x∈Hu m k s o l,x.c≠19:=by
 intro x hx
 unfold Hu Qf at hx
 (repeat' split at hx)<;>simp only [List.mem_cons,List.not_mem_nil,or_false] at hx<;>first|(subst hx;dsimp only;(try split)<;>omega)|(rcases hx with rfl|rfl<;>dsimp only<;>(try split)<;>omega)
mutual
theorem Aa {c:Cn}{lo:Int}(m:Int): ∀ {s:PStm},s.wl c lo→ ∀ (t:Int),Bk ((s.code m t).map Prod.fst) t
 | .mk k ln _ _ _ e ix body els id slot other loc,⟨h1,h2,h3,h4',h5',h6,h7⟩,t=>by
  simp only [PStm.code]
  obtain ⟨pre,pre0⟩:=preS_bk (k:=k) (id:=id) (t:=t) (e:=e) (ix:=ix) (fun h=>(h2 h).1) (fun h=>(h3 h).1)
  generalize Qw k e ix id t=C at pre pre0⊢
  have cb:=Q6 (c:=c) (lo:=lo) m h6 (t+(C.length:Int)+1)
  generalize PStm.codes m body (t+(C.length:Int)+1)=B at cb⊢
  have one: ∀ {x:Ins} {s:Int},x.c≠19→Bk [x] s:=fun h=>Bk.no (Yy h)
  have c0: ∀ Z:List Ins,(C++Z)[0]? =some ⟨23,id,0,0⟩:=fun Z=>by
   obtain ⟨hl,h1⟩:=List.getElem?_eq_some_iff.1 pre0
   rw [List.getElem?_append_left hl];exact pre0
  by_cases h4:k=4
  · simp only [if_pos h4]
    by_cases hn:els= []
    · simp only [if_pos hn,List.map_append,Wg]
      refine (pre.app (one (by dsimp only;omega))).app ?_
      simpa [Int.add_assoc] using cb
    simp only [if_neg hn,List.map_append,Wg]
    have co:=Q6 (c:=c) (lo:=lo) m h7 (t+(C.length:Int)+1+(B.length:Int)+1)
    generalize PStm.codes m els (t+(C.length:Int)+1+(B.length:Int)+1)=O at co⊢
    refine (((pre.app (one (by dsimp only;omega))).app ?_).app (Bk.fwd ?_)).app ?_
    · simpa [Int.add_assoc] using cb
    · simp only [List.length_append,List.length_cons,List.length_nil,List.length_map];omega
    exact co.at (by simp only [List.length_append,List.length_cons,List.length_nil,List.length_map];omega)
  simp only [if_neg h4]
  by_cases h5:k=5
  · simp only [if_pos h5,List.map_append,Wg]
    refine Bk.back (x:=⟨23,id,0,0⟩) ((pre.app (one (by dsimp only;omega))).app ?_) ?_ rfl
    · simpa [Int.add_assoc] using cb
    rw [List.append_assoc];exact c0 _
  simp only [if_neg h5,Wg]
  exact pre.app (Bk.no (tailS_no _ _ _ _ _))
theorem Q6 {c:Cn}{lo:Int}(m:Int): ∀ {l:List PStm},Vf c lo l→ ∀ (t:Int),Bk ((PStm.codes m l t).map Prod.fst) t
 | [],_,_=>by simp only [PStm.codes];exact fun i hi=>absurd hi (by simp)
 |s::r,⟨h1,h2⟩,t=>by
  simp only [PStm.codes,List.map_append]
  have:=Q6 (c:=c) (lo:=lo) m h2 (t+((s.code m t).length:Int))
  exact (Aa (c:=c) (lo:=lo) m h1 t).app (by simpa using this)
end
theorem Bk.led {l:List Ins}(h:Bk l 0)(p:Nat)(hp:p<l.length): ∃ e,led l (l.length+1) p=some e:=by
 cases he:Go.Proofs.YtgonllbkcgaliaaGreatDoor.led l (l.length+1) p with
 |some e=>exact ⟨e,rfl⟩
 |none=>
  exfalso
  have key: ∀ d p,l.length - p≤d→ ¬Hk l p:=by
   intro d
   induction d with
   |zero=>
    intro p h1 hl
    have hc:=Fz hl
    rw [List.getD_eq_getElem?_getD,List.getElem?_eq_none (by omega)] at hc
    exact absurd hc (by decide)
   |succ d ih=>
    intro p h1 hl
    have hc:=Fz hl
    rcases Nat.lt_or_ge p l.length with hp|hp
    · have hj:=(Qi hc).1 hl
      rw [Zr hp] at hc hj
      rcases h p hp hc with k|⟨j,hj2,k1,k2⟩
      · exact ih _ (by omega) hj
      rw [k1,show (0+(j:Int)).toNat=j by omega] at hj
      have:=Fz hj
      rw [Zr hj2,k2] at this
      exact absurd this (by decide)
    rw [List.getD_eq_getElem?_getD,List.getElem?_eq_none hp] at hc
    exact absurd hc (by decide)
  exact key _ p (Nat.le_refl _) (P4 he)
theorem modOf_bk {F:Fnd}{m:Mdl}{P:List PStm→Prop}(hF:PrgOk P F)(hm:ModOf F m): ∀ x∈m.threads,Bk x.ins 0:=fun x hx=>by
 have hmn:F.main.toNat<F.ths.length:=by have:=hF.m;omega
 have h1:(fun x:Cod=>(x.name,x.locals,x.ins,x.lines)) x∈(Nk F).map (thP F.main):=by rw [←hm.t];exact List.mem_map_of_mem hx
 obtain ⟨t,ht,e⟩:=List.mem_map.1 h1
 unfold thP at e
 simp only [Prod.mk.injEq] at e
 have htF:t∈F.ths:=by
  unfold Nk at ht
  rcases List.mem_cons.1 ht with ht|ht
  · rw [ht,List.getD_eq_getElem?_getD,List.getElem?_eq_getElem hmn];exact List.getElem_mem hmn
  exact Jz _ _ _ ht
 obtain ⟨w1,w2,w3,w4⟩:=hF.t t htF
 rw [←e.2.2.1]
 unfold Vn
 rw [List.map_append,Wg]
 exact (Q6 (c:=F.cn) (lo:=t.loc) F.main w3 0).app (Bk.no (Yy (by decide)))
theorem TigM.at {m m':Mdl}(h:TigM m m'){i:Nat}(hi:i<m.threads.length): ∃ h2:i<m'.threads.length,m'.threads[i].ins=tiI m.threads[i].ins∧m'.threads[i].locals=m.threads[i].locals:=by
 have tl:m'.threads.length=m.threads.length:=by have:=congrArg List.length h.t;simpa using this
 have h2:i<m'.threads.length:=by omega
 have h3:=congrArg (fun l=>l[i]?) h.t
 simp only [List.getElem?_map,List.getElem?_eq_getElem hi,List.getElem?_eq_getElem h2,Option.map_some,Option.some.injEq,Gw,Cod.pl,Prod.mk.injEq] at h3
 exact ⟨h2,h3.2.2.1,h3.2.1⟩
theorem Zqu {m m':Mdl}(h:TigM m m')(h0:V0 m=0)(hbk: ∀ x∈m.threads,Bk x.ins 0){cd:Int}(h1:cd.toNat<m.threads.length)(hL:m.threads[cd.toNat].ins.length≤80)(gv loc cells:List Int):
 U3 m cd gv 2600 0 loc [] cells []=U3 m' cd gv 2600 0 loc [] cells []:=by
 obtain ⟨h2,e1,_⟩:=h.at h1
 obtain ⟨ta,tb,_,_,D,hD⟩:=ThOk.of h0 (List.getElem_mem h1)
 have hS:=hD.stra (fun i hi hj=>(ta i hi hj).1)
 have hsb:=S4 tb
 have hN:=fun p hp=>Bk.led (hbk _ (List.getElem_mem h1)) p hp
 obtain ⟨e,he⟩:=hN 0 hD.pos
 have hr0:Rch (Zy m.threads[cd.toNat].ins) 0:= .zero (by rw [Yq];exact hD.pos)
 obtain ⟨t1,_,_,t4⟩:=Ki _ hS hsb hr0 he
 exact Ic h.v h.a (show (Up m cd).ins=_ by rw [show Up m cd=m.threads[cd.toNat] from Wv h1]) (show (Up m' cd).ins=_ by rw [show Up m' cd=m'.threads[cd.toNat] from Wv h2,e1])
  hD hS (fun i hi hj=>(ta i hi hj).1) hsb hL hN 30 0 e 0 2600 2600 loc [] cells [] rfl he t1 t4 (by omega) (by omega)
theorem effR_go {m:Mdl}{cd:Int}{gv:List Int}{k:Nat}{pc:Int}{loc stk cells:List Int}{out:List Did}{f:Frm}(hf:f.code=cd∧f.pc=pc)(ho:out.length<30){a:Int}{r1 r2:List Int}{d:Did}(hR:doS m (Wj m f) pc loc stk cells=((a,r1,r2),d)):
 U3 m cd gv (k+1) pc loc stk cells out=if (Wj m f).c=19 then U3 m cd gv k a r1 (if (Wj m f).c=30 then r2++ [gvS gv out.length] else r2) cells out
  else if d.kind=4∨d.kind=7 then (out++ [d],r1) else U3 m cd gv k a r1 (if (Wj m f).c=30 then r2++ [gvS gv out.length] else r2) (if d.kind=2∧d.write=true then cells.set d.cell.toNat d.av else cells) (out++ [d]):=by
 obtain ⟨f1,f2⟩:=hf
 have hi:Wj m ⟨cd,pc,loc,stk,none,0,none,0⟩=Wj m f:=by unfold Wj;rw [f1,f2]
 conv=>lhs;unfold U3
 rw [if_neg (by omega)]
 simp only [hi,hR]
theorem doS_30 {m:Mdl}{x:Ins}{pc:Int}{loc l cells:List Int}(h:x.c=30):doS m x pc loc l cells=((pc+1,loc,l),V2 x 0):=by
 unfold doS
 rw [if_neg (by omega),if_neg (by unfold Dc;omega),if_neg (by omega),if_neg (by omega),if_neg (by omega),if_neg (by omega),if_pos (by omega)]
theorem gvS_at {g:List Int}{n:Nat}(h:n % g.length<g.length):gvS g n=g[n % g.length]:=by
 unfold gvS;rw [if_neg (by omega)];exact Wv h
theorem gvS_val {g:List Int}(h:Uj g)(n:Nat):val (gvS g n):=by
 unfold gvS;split
 · unfold val;omega
 exact Vx h _
theorem Zzf {m:Mdl}{cd:Int}{gv:List Int}{n:Nat}{pc:Int}{loc stk cells:List Int}{out:List Did}(h:2600≤(n:Int)∨30≤(out.length:Int)):U3 m cd gv (2600 - n) pc loc stk cells out=(out,loc):=by
 rcases h with h|h
 · rw [show 2600 - n=0 by omega];rfl
 exact Bm (by omega)
structure RnS where
 n:Nat
 pc:Int
 loc:List Int
 stk:List Int
 cells:List Int
 out:List Did
 la:Option Addr
 lc:Nat
 sa:Option Addr
 sc:Nat
 oa:Option Addr
 oc:Nat
theorem Fm {m:Mdl}{cd:Int}{gv:List Int}: ∀ (k:Nat) (pc:Int) (loc stk cells:List Int) (out:List Did),out.length≤30→(U3 m cd gv k pc loc stk cells out).1.length≤30
 |0,_,_,_,_,_,h=>h
 |k+1,pc,loc,stk,cells,out,h=>by
  unfold U3
  split
  · exact h
  rename_i h2
  dsimp only
  split
  · exact Fm k _ _ _ _ _ h
  split
  · dsimp only;rw [List.length_append];simp only [List.length_cons,List.length_nil];omega
  exact Fm k _ _ _ _ _ (by rw [List.length_append];simp only [List.length_cons,List.length_nil];omega)
theorem N1:(prog.info? 51).map (fun i=>(i.zero,i.size,i.bytes))=some (some (.agg #[.int .i64 0,.int .i64 0,.bool false,.int .i64 0,.int .i64 0,.int .i64 0,.int .i64 0,.int .i64 0,.int .i64 0,.int .i64 0]),10,80):=by kernel_rfl
theorem tmodG (a b:Nat):(a:Int).tmod (b:Int)=((a % b:Nat):Int):=rfl
section
variable {G:World}{q:List HP}{a b A:Option Addr}{c d:Nat}{cd:Int}{l:List Ins}{ln:List Int}{o:List Bool}
variable {nt:Nat}{nm:ByteArray}{lo:Int}{ia la wa:Option Addr}{ic lc wc:Nat}{I:List Ins}{L W:List Int}
variable {m m2:Mdl}{x y:Cod}{j k:List Int}
variable {s:ByteArray}{gv:List Int}{a2:Option Addr}{c2:Nat}{cells loc:List Int}{th:Int}
set_option maxHeartbeats 4000000 in
theorem made2_ok:CallF prog G 9 [.string s] (q) (Ret fun v q'=>(v= .tuple [.agg (Wo mdZ).toArray,.bool false].toArray∧q'=q)∨ ∃ (m':Mdl) (bb:Bool) (F:Fnd),MdB m'∧Me (bs s)=some F∧s.size≤3000∧ModOf F m'∧v= .tuple [.agg (Wo m').toArray,.bool bb].toArray∧q'=mdM m'::q):=by
 refine CallF.of func9 ntmps9 rfl (fun F cs=> ?_)
 refine xo 2 ?_;refine Zm zeroValue26 fun n1=> ?_
 refine ox 9 ?_;refine X.part 10 rfl (fun h0=> ?_) (fun h0=> ?_)
 · replace h0:=sp h0
   refine xo 4 ?_;refine stA ?_;refine ox 2 ?_;refine Zq (q) func9 (Hd results9) ⟨_,rfl,.inl ⟨rfl,rfl⟩⟩
 replace h0:=sp h0
 refine xo 5 ?_;refine Zh call31 (Le.refl _) (text_ok (s:=s)) ?_
 rintro _ _ ⟨g,y,z,e,rfl,rfl,hF⟩
 refine oo 4 ?_;refine Zm zeroValue59 fun n2=> ?_
 refine Zm zeroValue87 fun n3=> ?_
 refine stA ?_;refine stA ?_;refine ox 8 ?_;refine X.part 19 rfl (fun h1=> ?_) (fun h1=> ?_)
 · replace h1:=sp h1
   refine xo 4 ?_;refine stA ?_;refine ox 2 ?_;refine Zq (q) func9 (Hd results9) ⟨_,rfl,.inl ⟨rfl,rfl⟩⟩
 replace h1:=sp h1
 refine xo 4 ?_;refine ldA ?_
 have he:e=0:=(by omega)
 obtain ⟨hTx,hk,⟨mn,hm1,hm2⟩⟩:Me (bs s)=some g.er∧FCok g∧ ∃ mn:Nat,g.main=(mn:Int)∧mn<g.ths.l.length:=(by cases hx:Me (bs s) with|none=>(rw [hx] at hF;exact absurd he hF)|some F=>(rw [hx] at hF;have ho:=FC.ok (g:=g) (l:=bs s) (by rw [hF.2];exact hx);exact ⟨by rw [hF.2],ho,ho.m⟩))
 refine Zh call18 (Le.refl _) (Zq7 (g:=g) (mn:=mn) knA hm1 hm2 hk.f hk.w hk.n hk.l) ?_
 rintro _ _ ⟨m',rfl,rfl,hM,hB⟩
 refine Zm zeroValue26 fun n4=> ?_
 refine stA ?_;refine ox 2 ?_;refine drw ?_;refine Yw 0 ?_;refine dl [1] 2 ?_;refine dd [3,4] ?_;refine Yr 5 ?_;refine dd [6] ?_;refine XD.nil ?_;refine Zq (mdM m'::q) func9 (Hd results9) ⟨_,rfl,.inr ⟨m',_,g.er,hB,hTx,by omega,hM,rfl,rfl⟩⟩
set_option maxHeartbeats 32000000 in
theorem Fh (gc:GC q)(g:GE q)(hq:MdlQ q m)(hk:V0 m=0)(hth:0≤th∧th.toNat<m.threads.length)(hs:Sees q a2 (gv.map I64))(hgl:gv.length≤5)(hgv:Uj gv):CallF prog G 12 [.agg (Wo m).toArray,.int .i64 th,.slice a2 gv.length c2] (q) (Ret fun v q'=> ∃ oa oc la lc,v= .tuple [.slice oa (U3 m th gv 2600 0 (List.replicate (m.threads[th.toNat]'hth.2).locals.toNat 0) [] (m.vars++List.replicate (Vs m.arrays).toNat 0) []).1.length oc,.slice la (U3 m th gv 2600 0 (List.replicate (m.threads[th.toNat]'hth.2).locals.toNat 0) [] (m.vars++List.replicate (Vs m.arrays).toNat 0) []).2.length lc,.bool true].toArray∧q'=rsH Um 10 51 oa oc ((U3 m th gv 2600 0 (List.replicate (m.threads[th.toNat]'hth.2).locals.toNat 0) [] (m.vars++List.replicate (Vs m.arrays).toNat 0) []).1)::lsH I64 2 la lc ((U3 m th gv 2600 0 (List.replicate (m.threads[th.toNat]'hth.2).locals.toNat 0) [] (m.vars++List.replicate (Vs m.arrays).toNat 0) []).2)::q):=by
 refine CallF.of func12 ntmps12 rfl (fun F cs=> ?_)
 obtain ⟨E,hEq⟩: ∃ E,U3 m th gv 2600 0 (List.replicate (m.threads[th.toNat]'hth.2).locals.toNat 0) [] (m.vars++List.replicate (Vs m.arrays).toNat 0) []=E:=⟨_,rfl⟩;rw [hEq]
 have hmo:=Ut hk;have hv1:=hmo.2.2.1.1;have hsu:=Wf hmo m.arrays.length;rw [List.take_length] at hsu
 refine xo 2 ?_;refine Zl fun n1=> ?_
 refine oo 6 ?_;refine ldA ?_;refine oo 1 ?_;refine Zh call23 (Le.refl _) (New_ok (th:=th) (m:=m) (gc.le leA) (g.le leA) (hq.le leA)) ?_
 rintro _ _ (⟨hh,la,lc,rfl,rfl⟩|⟨hno,rfl,rfl⟩)
 rotate_left; · exact absurd ⟨hk,hth.1,hth.2⟩ hno
 have hm0:=may_new hk hth.1 hth.2 la none lc 0;obtain ⟨loc0,hloc⟩: ∃ loc0,List.replicate (α:=Int) (m.threads[th.toNat]'hth.2).locals.toNat 0=loc0:=⟨_,rfl⟩;rw [hloc] at hm0 hEq;rw [hloc]
 refine oo 3 ?_;refine Zm zeroValue67 fun n2=> ?_
 refine stA ?_;refine oo 4 ?_;refine ldA ?_;refine Zh call22 (Le.refl _) (Cells_ok (m:=m) (gc.le leA) (g.le leA) (hq.le leA)) ?_
 rintro _ _ (⟨_,ca,cc,rfl,rfl⟩|⟨hbad,rfl,rfl⟩)
 rotate_left; · exact absurd hk hbad
 obtain ⟨hc0,hc1⟩:=cells0 hk;obtain ⟨cs0,hcs0⟩: ∃ cs0,m.vars++List.replicate (Vs m.arrays).toNat 0=cs0:=⟨_,rfl⟩;rw [hcs0] at hc0 hc1 hEq;rw [hcs0,show (Kt m).toNat=cs0.length by omega];have hcb:cs0.length≤16448:=(by unfold Kt at hc0;omega)
 refine oo 10 ?_;refine XO.cR call13 (Mj (cd:=0)) ?_
 refine oo 1 ?_;refine XO.cR call13 (Mj (cd:=0)) ?_
 refine ox 3 ?_;refine kx 37 12 ?_;refine X.le (q':=lsH I64 2 none 0 ([])::rsH Um 10 51 none 0 ([])::_) (Le.trans (Yx Um 10 51 _) (Yc _ _ _)) ?_
 refine X.at (X.loop (fun (r:RnS)=>r.n≤2600∧Ji m ⟨th,r.pc,r.loc,r.stk,r.la,r.lc,r.sa,r.sc⟩ 0∧(r.cells.length:Int)=Kt m∧Uj r.cells∧U3 m th gv (2600 - r.n) r.pc r.loc r.stk r.cells r.out=E) (fun r=> [(14,.int .i64 (r.n:Int)),(13,.slice r.oa r.out.length r.oc),(11,.slice ca r.cells.length cc),(2,.slice a2 gv.length c2),(3,.pointer (some ⟨n1,0,none⟩)),(6,.slice none 0 0),(7,.slice none 0 0),(8,.bool false),(9,.pointer (some ⟨n2,0,none⟩))]) (fun r=>pto n2 (.cells [.int .i64 th,.int .i64 (r.pc),.slice r.la (r.loc).length r.lc,.slice r.sa (r.stk).length r.sc].toArray 67 (0,0))::lsH I64 2 r.la r.lc (r.loc)::lsH I64 2 r.sa r.sc (r.stk)::rsH Um 10 51 r.oa r.oc (r.out)::lsH I64 2 ca cc (r.cells)::pto n1 (.cells (Wo m).toArray 26 (0,0))::(q++F)) (fun r=>2600 - r.n) (fun r hi_ ihr=> ?_) ⟨0,0,loc0, [],cs0, [],la,lc,none,0,none,0⟩ ⟨Nat.zero_le _,hm0,hc0,hc1,hEq⟩) Zp leA
 try dsimp only at hi_ ihr⊢
 obtain ⟨hi1,hm,hcn,hcv,hE⟩:=hi_
 clear hm0 hc0 hc1 hloc hcs0 hcb hEq;obtain ⟨n,pc,loc,stk,cells,out,la,lc,sa,sc,oa,oc⟩:=r;dsimp only at*
 refine xo 6 ?_;refine Zg [40,14,13,11,2,3,6,7,8,9] ?_
 apply Zf 4 44 40 rfl
 · intro g1 M1;have h1:=sp g1
   refine oo 4 ?_;exact Zz M1 ⟨Yi g1,Zv⟩
 · intro g1 M1;have h1:=sp g1
   refine oo 4 ?_;exact Zz M1 ⟨Yl g1,Zv⟩
 refine ox 1 ?_;refine X.part 44 rfl (fun h2=> ?_) (fun h2=> ?_)
 · replace h2:=sp h2;obtain ⟨_,hb1,hb2⟩:=E9 hm hcn;dsimp only at hb1 hb2;have hcb:cells.length≤16448:=(by unfold Kt at hcn;omega)
   have hgo:=may_goes hm hcn hcv
   refine xo 6 ?_;refine ldA ?_;refine ldA ?_;refine XO.know 49 (.agg (Nb ⟨th,pc,loc,stk,la,lc,sa,sc⟩).toArray) rfl (rfl) ?_
   refine Zh call38 (Le.refl _) (VNext_ok (m:=m) (f:=⟨th,pc,loc,stk,la,lc,sa,sc⟩) (gc.le leA) (g.le leA) (hq.le leA) ⟨(Sees.lsH _).le Zj,(Sees.lsH _).le Zj,(by dsimp only;omega),(by dsimp only;omega)⟩) ?_
   rintro _ _ (⟨hy,rfl,rfl⟩|⟨hy,rfl,rfl⟩)
   rotate_left; · exact absurd hm hy
   refine oo 3 ?_;refine XO.know 51 (.agg (Zx (Wj m ⟨th,pc,loc,stk,la,lc,sa,sc⟩)).toArray) rfl (by unfold Wj;rw [show Up m th=m.threads[th.toNat] from Wv hth.2]) ?_
   refine Zm zeroValue48 fun n3=> ?_
   refine stA ?_;refine oo 4 ?_;refine ldA ?_;refine ldA ?_;refine oo 1 ?_;refine XO.know 55 (.agg (Nb ⟨th,pc,loc,stk,la,lc,sa,sc⟩).toArray) rfl (rfl) ?_
   refine Zh call25 (Le.refl _) (VDo_ok (m:=m) (f:=⟨th,pc,loc,stk,la,lc,sa,sc⟩) (cells:=cells) (cda:=ca) (cc:=cc) (gc.le leA) (g.le leA) (hq.le leA) ⟨(Sees.lsH _).le Zj,(Sees.lsH _).le Zj,(by dsimp only;omega),(by dsimp only;omega)⟩ ((Sees.lsH _).le Zj) (by omega)) ?_
   rintro _ _ (⟨hok,la2,lc2,sa2,sc2,rfl,rfl⟩|⟨hno,rfl,rfl⟩)
   rotate_left; · exact absurd ⟨hm,hcn,hcv⟩ hno
   obtain ⟨R,hR⟩: ∃ R,H0 m ⟨th,pc,loc,stk,la,lc,sa,sc⟩ cells=R:=⟨_,rfl⟩;rw [hR] at hgo;rw [hR];obtain ⟨⟨pc2,loc2,stk2⟩,dz⟩:=R;dsimp only at hgo⊢;dsimp only [H0] at hR
   refine XO.le (q':=lsH I64 2 la2 lc2 (loc2)::lsH I64 2 sa2 sc2 (stk2)::rsH Um 10 51 oa oc (out)::lsH I64 2 ca cc (cells)::pto n3 (.cells (Zx (Wj m ⟨th,pc,loc,stk,la,lc,sa,sc⟩)).toArray 48 (0,0))::pto n2 (.cells [.int .i64 th,.int .i64 (pc),.slice la (loc).length lc,.slice sa (stk).length sc].toArray 67 (0,0))::pto n1 (.cells (Wo m).toArray 26 (0,0))::(q++F)) leA ?_
   obtain ⟨k,hkn⟩: ∃ k,2600 - n=k+1:=⟨2600 - n - 1,by omega⟩;rw [hkn,effR_go (f:=⟨th,pc,loc,stk,la,lc,sa,sc⟩) ⟨rfl,rfl⟩ (by omega) hR] at hE
   rcases hgo with hgo|hgo|⟨hon,hmay⟩
   iterate 2
    focus
     have hx30: ¬ (Wj m ⟨th,pc,loc,stk,la,lc,sa,sc⟩).c=30:=(fun e=>by rw [doS_30 e] at hR;cases hR;simp [V2] at hgo);have hx19: ¬ (Wj m ⟨th,pc,loc,stk,la,lc,sa,sc⟩).c=19:=(fun e=>by rw [doS_19 e] at hR;cases hR;simp [Y5] at hgo)
     rw [if_neg hx19,if_pos (by omega)] at hE;subst hE
     refine oo 4 ?_;refine Zm zeroValue67 fun n4=> ?_
     refine Zm zeroValue51 fun n5=> ?_
     refine stA ?_;refine stA ?_;refine oo 6 ?_;refine XO.cR call13 (Mj (cd:=0)) ?_
     refine oo 1 ?_;refine XO.cR call13 (Mj (cd:=0)) ?_
     refine ox 3 ?_;refine W0 66 ?_;refine xo 4 ?_;refine ldA ?_;refine stA ?_;refine ol 5 ?_;refine ox 2 ?_;refine W0 70 ?_;refine xl 6 ?_;refine ox 2 ?_;refine W0 94 ?_;refine xo 5 ?_;refine ldA ?_;refine XO.know 96 (.agg (Um dz).toArray) rfl (rfl) ?_;refine XO.ef (Yd (u:=dz) Um underlying38 N1 rfl rfl (fun _=>rfl) rfl) ?_
     rintro _ _ ⟨gd,rfl,rfl⟩
     refine XO.ef (Zo (f:=Um) (l:=out) (m:= [dz]) underlying38 N1 rfl rfl (fun _=>rfl) rfl rfl Zj ((Sees.rsH _).le Zj) (fun _=>rfl) (by simp;omega) (by simp;omega)) ?_
     rintro _ _ ⟨oa2,oc2,rfl,rfl⟩
     refine ol 6 ?_;refine oo 2 ?_;refine Y4 102 ?_;refine ol 24 ?_;refine oo 2 ?_
    rotate_left
   · obtain ⟨hn4,hn7⟩:=hon.kd;dsimp only at hn4 hn7;have hmz:=hmay la2 lc2 sa2 sc2;have hwr:=hon.wr;have hpo:=hon.on;dsimp only at hwr hpo;have h47: ¬ (dz.kind=4∨dz.kind=7):=(by omega)
     refine oo 4 ?_;refine Zm zeroValue67 fun n4=> ?_
     refine Zm zeroValue51 fun n5=> ?_
     refine stA ?_;refine stA ?_;refine oo 6 ?_;refine XO.cR call13 (Mj (cd:=0)) ?_
     refine oo 1 ?_;refine XO.cR call13 (Mj (cd:=0)) ?_
     refine ox 3 ?_;refine W0 66 ?_;refine xo 4 ?_;refine ldA ?_;refine stA ?_;refine ol 5 ?_;refine ox 2 ?_;refine X.part 70 rfl (fun h5=> ?_) (fun h5=> ?_)
     · replace h5:=sp h5
       have hx30:(Wj m ⟨th,pc,loc,stk,la,lc,sa,sc⟩).c=30:=h5
       refine xx 12 ?_;refine X.part 73 rfl (fun h6=> ?_) (fun h6=> ?_)
       focus
        replace h6:=sp h6
        refine xo 8 ?_;refine XO.know 79 (.int .i64 ((out.length % gv.length:Nat):Int)) rfl (congrArg (Value.int .i64) (tmodG _ _)) ?_
        have hkm:out.length % gv.length<gv.length:=Nat.mod_lt _ (by omega)
        refine Y6 hs (by simp;omega) (fun b2 o2 e2=> ?_)
        have hs2:=hs;rw [e2] at hs2
        refine XO.know 74 (.slice (some ⟨b2,o2,none⟩) gv.length c2) rfl (by rw [e2]) ?_
        refine oo 1 ?_;refine ld ?_ (hc:=(Cl.e1 hs2 leA hkm rfl))
        refine oo 4 ?_;refine ldA ?_;refine ldA ?_;refine oo 1 ?_;refine XO.know 84 (.agg (Nb ⟨th,pc2,loc2,stk2,la2,lc2,sa2,sc2⟩).toArray) rfl (rfl) ?_
        refine XO.know 85 (.int .i64 (gvS gv out.length)) rfl (by rw [gvS_at hkm]) ?_
       rotate_left
       focus
        replace h6:=sp h6
        refine xo 4 ?_;refine ldA ?_;refine ldA ?_;refine oo 1 ?_;refine XO.know 84 (.agg (Nb ⟨th,pc2,loc2,stk2,la2,lc2,sa2,sc2⟩).toArray) rfl (rfl) ?_
        refine XO.know 85 (.int .i64 (gvS gv out.length)) rfl (congrArg (Value.int .i64) (by unfold gvS;rw [if_pos (by omega)])) ?_
       all_goals
        have hgiv:Xh m ⟨th,pc2,loc2,stk2,la2,lc2,sa2,sc2⟩ (gvS gv out.length):=give_of hm hmz hpo hx30 (gvS_val hgv _)
        obtain ⟨hs1b,hs2b⟩:=may_len1 hmz;dsimp only at hs1b hs2b
        refine Zh call26 (Le.refl _) (Give_ok (m:=m) (f:=⟨th,pc2,loc2,stk2,la2,lc2,sa2,sc2⟩) (z:=(gvS gv out.length)) (gc.le leA) (g.le leA) (hq.le leA) ⟨(Sees.lsH _).le Zj,(Sees.lsH _).le Zj,(by dsimp only;omega),(by dsimp only;omega)⟩ (by dsimp only;omega)) ?_
        rintro _ _ (⟨hgv2,la3,lc3,sa3,sc3,rfl,rfl⟩|⟨hno,rfl,rfl⟩)
        rotate_left; · exact absurd hgiv hno
        refine oo 3 ?_;refine stA ?_;refine oo 5 ?_;refine XO.cR call13 (Mj (cd:=0)) ?_
        refine ox 2 ?_;refine W0 91 ?_;refine xl 6 ?_;refine ox 2 ?_;refine W0 94 ?_;refine xo 5 ?_;refine ldA ?_;refine XO.know 96 (.agg (Um dz).toArray) rfl (rfl) ?_;refine XO.ef (Yd (u:=dz) Um underlying38 N1 rfl rfl (fun _=>rfl) rfl) ?_
        rintro _ _ ⟨gd,rfl,rfl⟩
        refine XO.ef (Zo (f:=Um) (l:=out) (m:= [dz]) underlying38 N1 rfl rfl (fun _=>rfl) rfl rfl Zj ((Sees.rsH _).le Zj) (fun _=>rfl) (by simp;omega) (by simp;omega)) ?_
        rintro _ _ ⟨oa2,oc2,rfl,rfl⟩
        refine ol 6 ?_;refine oo 2 ?_;refine Zg [102,13,18,14,11,2,3,6,7,8,9] ?_
        apply Zf 4 106 102 rfl
        · intro g7 M7;have h7:=sp g7
          refine ol 2 ?_;refine oo 1 ?_;exact Zz M7 ⟨Yi g7,Zv⟩
        · intro g7 M7;have h7:=sp g7
          refine oo 4 ?_;exact Zz M7 ⟨Yl g7,Zv⟩
        refine oo 1 ?_;refine Zg [107,13,18,14,11,2,3,6,7,8,9] ?_
        apply Zf 5 112 107 rfl
        · intro g7 M7;have h7:=sp g7
          refine ol 2 ?_;refine oo 2 ?_;exact Zz M7 ⟨Yi g7,Zv⟩
        · intro g7 M7;have h7:=sp g7
          refine oo 5 ?_;exact Zz M7 ⟨Yl g7,Zv⟩
        refine oo 1 ?_;refine Zg [113,13,18,14,11,2,3,6,7,8,9] ?_
        apply Zf 7 120 113 rfl
        · intro g7 M7;have h7:=sp g7
          refine ol 2 ?_;refine oo 4 ?_;exact Zz M7 ⟨Yi g7,Zv⟩
        · intro g7 M7;have h7:=sp g7
          refine oo 7 ?_;exact Zz M7 ⟨Yl g7,Zv⟩
        refine ox 1 ?_;refine X.part 120 rfl (fun hw=> ?_) (fun hw=> ?_)
        · replace hw:=sp hw;have hkw:dz.kind=2∧dz.write=true:=(by simp_all)
          refine xl 5 ?_;refine ol 2 ?_
          have hwb:=hwr hkw.1 hkw.2;have hwn:dz.cell.toNat<cells.length:=(by omega)
          refine Lo (fl:=I64) (l:=cells) (by omega) (fun gca e_=> ?_);subst e_
          refine oo 1 ?_;refine XO.ef0 (Wq (f:=I64) (l:=cells) (n:=dz.cell.toNat) (u:=dz.av) rfl rfl sizeOf2 (by omega) hwn rfl rfl Zj) ?_
          rintro _ _ ⟨rfl,rfl⟩
          refine ol 4 ?_;refine oo 2 ?_;refine Y4 132 ?_;refine ol 1 ?_;refine ox 3 ?_;refine kx 136 8 ?_;refine X.know 11 (.slice (some ⟨gca,0,none⟩) (cells.set dz.cell.toNat dz.av).length cc) rfl (by rw [List.length_set]) ?_
          have hx19: ¬ (Wj m ⟨th,pc,loc,stk,la,lc,sa,sc⟩).c=19:=(by omega)
          rw [if_neg hx19,if_neg h47,if_pos hx30,if_pos hkw] at hE
          have hmy:Ji m ⟨th,pc2,loc2,stk2++ [(gvS gv out.length)],la3,lc3,sa3,sc3⟩ 0:=hgiv.1
          refine X.at (ihr ⟨n+1,pc2,loc2,stk2++ [(gvS gv out.length)],cells.set dz.cell.toNat dz.av,out++ [dz],la3,lc3,sa3,sc3,oa2,oc2⟩ ⟨(by dsimp only;omega),hmy,(by dsimp only;rw [List.length_set];exact hcn),Eh hcv hwb.2.2 _,(by dsimp only;rw [show 2600 - (n+1)=k by omega];exact hE)⟩ (by dsimp only;omega)) Zp leA
        replace hw:=sp hw;have hnw: ¬ (dz.kind=2∧dz.write=true):=(fun hh=>by have h1:=hwr hh.1 hh.2;rw [hh.1,hh.2] at hw;simp at hw;omega)
        refine xl 5 ?_;refine oo 2 ?_;refine Y4 132 ?_;refine ol 1 ?_;refine ox 3 ?_;refine kx 136 8 ?_
        have hx19: ¬ (Wj m ⟨th,pc,loc,stk,la,lc,sa,sc⟩).c=19:=(by omega)
        rw [if_neg hx19,if_neg h47,if_pos hx30,if_neg hnw] at hE
        have hmy:Ji m ⟨th,pc2,loc2,stk2++ [(gvS gv out.length)],la3,lc3,sa3,sc3⟩ 0:=hgiv.1
        refine X.at (ihr ⟨n+1,pc2,loc2,stk2++ [(gvS gv out.length)],cells,out++ [dz],la3,lc3,sa3,sc3,oa2,oc2⟩ ⟨(by dsimp only;omega),hmy,hcn,hcv,(by dsimp only;rw [show 2600 - (n+1)=k by omega];exact hE)⟩ (by dsimp only;omega)) Zp leA
     replace h5:=sp h5
     have hx30: ¬ (Wj m ⟨th,pc,loc,stk,la,lc,sa,sc⟩).c=30:=h5
     refine xl 6 ?_;refine ox 2 ?_;refine X.part 94 rfl (fun h8=> ?_) (fun h8=> ?_)
     · replace h8:=sp h8
       have hx19:(Wj m ⟨th,pc,loc,stk,la,lc,sa,sc⟩).c=19:=h8
       refine xx 7 ?_
       have hx30b: ¬ (Wj m ⟨th,pc,loc,stk,la,lc,sa,sc⟩).c=30:=(by omega);rw [if_pos hx19,if_neg hx30b] at hE
       have hmy:Ji m ⟨th,pc2,loc2,stk2,la2,lc2,sa2,sc2⟩ 0:=by rw [if_neg hx30] at hmz;exact hmz
       refine X.at (ihr ⟨n+1,pc2,loc2,stk2,cells,out,la2,lc2,sa2,sc2,oa,oc⟩ ⟨(by dsimp only;omega),hmy,hcn,hcv,(by dsimp only;rw [show 2600 - (n+1)=k by omega];exact hE)⟩ (by dsimp only;omega)) Zp leA
     replace h8:=sp h8
     have hx19: ¬ (Wj m ⟨th,pc,loc,stk,la,lc,sa,sc⟩).c=19:=h8
     refine xo 5 ?_;refine ldA ?_;refine XO.know 96 (.agg (Um dz).toArray) rfl (rfl) ?_;refine XO.ef (Yd (u:=dz) Um underlying38 N1 rfl rfl (fun _=>rfl) rfl) ?_
     rintro _ _ ⟨gd,rfl,rfl⟩
     refine XO.ef (Zo (f:=Um) (l:=out) (m:= [dz]) underlying38 N1 rfl rfl (fun _=>rfl) rfl rfl Zj ((Sees.rsH _).le Zj) (fun _=>rfl) (by simp;omega) (by simp;omega)) ?_
     rintro _ _ ⟨oa2,oc2,rfl,rfl⟩
     refine ol 6 ?_;refine oo 2 ?_;refine Zg [102,13,18,14,11,2,3,6,7,8,9] ?_
     apply Zf 4 106 102 rfl
     · intro g9 M9;have h9:=sp g9
       refine ol 2 ?_;refine oo 1 ?_;exact Zz M9 ⟨Yi g9,Zv⟩
     · intro g9 M9;have h9:=sp g9
       refine oo 4 ?_;exact Zz M9 ⟨Yl g9,Zv⟩
     refine oo 1 ?_;refine Zg [107,13,18,14,11,2,3,6,7,8,9] ?_
     apply Zf 5 112 107 rfl
     · intro g9 M9;have h9:=sp g9
       refine ol 2 ?_;refine oo 2 ?_;exact Zz M9 ⟨Yi g9,Zv⟩
     · intro g9 M9;have h9:=sp g9
       refine oo 5 ?_;exact Zz M9 ⟨Yl g9,Zv⟩
     refine oo 1 ?_;refine Zg [113,13,18,14,11,2,3,6,7,8,9] ?_
     apply Zf 7 120 113 rfl
     · intro g9 M9;have h9:=sp g9
       refine ol 2 ?_;refine oo 4 ?_;exact Zz M9 ⟨Yi g9,Zv⟩
     · intro g9 M9;have h9:=sp g9
       refine oo 7 ?_;exact Zz M9 ⟨Yl g9,Zv⟩
     refine ox 1 ?_;refine X.part 120 rfl (fun hw=> ?_) (fun hw=> ?_)
     · replace hw:=sp hw;have hkw:dz.kind=2∧dz.write=true:=(by simp_all)
       refine xl 5 ?_;refine ol 2 ?_
       have hwb:=hwr hkw.1 hkw.2;have hwn:dz.cell.toNat<cells.length:=(by omega)
       refine Lo (fl:=I64) (l:=cells) (by omega) (fun gca e_=> ?_);subst e_
       refine oo 1 ?_;refine XO.ef0 (Wq (f:=I64) (l:=cells) (n:=dz.cell.toNat) (u:=dz.av) rfl rfl sizeOf2 (by omega) hwn rfl rfl Zj) ?_
       rintro _ _ ⟨rfl,rfl⟩
       refine ol 4 ?_;refine oo 2 ?_;refine Y4 132 ?_;refine ol 1 ?_;refine ox 3 ?_;refine kx 136 8 ?_;refine X.know 11 (.slice (some ⟨gca,0,none⟩) (cells.set dz.cell.toNat dz.av).length cc) rfl (by rw [List.length_set]) ?_
       rw [if_neg hx19,if_neg h47,if_neg hx30,if_pos hkw] at hE
       have hmy:Ji m ⟨th,pc2,loc2,stk2,la2,lc2,sa2,sc2⟩ 0:=by rw [if_neg hx30] at hmz;exact hmz
       refine X.at (ihr ⟨n+1,pc2,loc2,stk2,cells.set dz.cell.toNat dz.av,out++ [dz],la2,lc2,sa2,sc2,oa2,oc2⟩ ⟨(by dsimp only;omega),hmy,(by dsimp only;rw [List.length_set];exact hcn),Eh hcv hwb.2.2 _,(by dsimp only;rw [show 2600 - (n+1)=k by omega];exact hE)⟩ (by dsimp only;omega)) Zp leA
     replace hw:=sp hw;have hnw: ¬ (dz.kind=2∧dz.write=true):=(fun hh=>by have h1:=hwr hh.1 hh.2;rw [hh.1,hh.2] at hw;simp at hw;omega)
     refine xl 5 ?_;refine oo 2 ?_;refine Y4 132 ?_;refine ol 1 ?_;refine ox 3 ?_;refine kx 136 8 ?_
     rw [if_neg hx19,if_neg h47,if_neg hx30,if_neg hnw] at hE
     have hmy:Ji m ⟨th,pc2,loc2,stk2,la2,lc2,sa2,sc2⟩ 0:=by rw [if_neg hx30] at hmz;exact hmz
     refine X.at (ihr ⟨n+1,pc2,loc2,stk2,cells,out++ [dz],la2,lc2,sa2,sc2,oa2,oc2⟩ ⟨(by dsimp only;omega),hmy,hcn,hcv,(by dsimp only;rw [show 2600 - (n+1)=k by omega];exact hE)⟩ (by dsimp only;omega)) Zp leA
   focus
    refine XO.kt 132 ?_;refine ox 8 ?_
   rotate_left
   focus
    refine Y4 132 ?_;refine ol 1 ?_;refine ox 3 ?_;refine X.kt 136 ?_;refine xx 3 ?_
   all_goals
    refine drw ?_;refine dl [0,1] 2 ?_;refine dd [3,4,5] ?_;refine XD.nil ?_;refine Zq (rsH Um 10 51 oa2 oc2 (out++ [dz])::lsH I64 2 la2 lc2 (loc2)::q) func12 (res3 results12 rfl rfl rfl) ⟨_,rfl,oa2,oc2,la2,lc2,rfl,rfl⟩
 replace h2:=sp h2
 refine xx 3 ?_;refine drw ?_;refine dl [0,1] 2 ?_;refine dd [3,4,5] ?_;refine XD.nil ?_
 rw [Zzf (by omega)] at hE;subst hE
 refine Zq (rsH Um 10 51 oa oc (out)::lsH I64 2 la lc (loc)::q) func12 (res3 results12 rfl rfl rfl) ⟨_,rfl,oa,oc,la,lc,rfl,rfl⟩
end
section
variable {G:World}{q:List HP}{a b A:Option Addr}{c d:Nat}{cd:Int}{l:List Ins}{ln:List Int}{o:List Bool}
variable {nt:Nat}{nm:ByteArray}{lo:Int}{ia la wa:Option Addr}{ic lc wc:Nat}{I:List Ins}{L W:List Int}
variable {m m2:Mdl}{x y:Cod}{j k:List Int}
variable {s:ByteArray}{gv l l2:List Int}{a2:Option Addr}{c2:Nat}{th:Int}
theorem RV3_ok (hs:Sees q a (l.map I64))(hs2:Sees q b (l2.map I64))(hL:l.length≤9223372036854775807)(hL2:l2.length≤9223372036854775807):CallF prog G 14 [.slice a l.length c,.slice b l2.length d] (q) (Ret fun v q'=>v= .bool (decide (l=l2))∧q'=q):=by
 refine CallF.of func14 ntmps14 rfl (fun F cs=> ?_)
 refine xx 13 ?_;refine X.part 10 rfl (fun h0=> ?_) (fun h0=> ?_)
 · replace h0:=sp h0
   refine xx 5 ?_;refine Zq (q) func14 (Zu results14 rfl) ⟨_,rfl,congrArg Value.bool (by symm;rw [decide_eq_false_iff_not];intro e;rw [e] at h0;exact h0 rfl),rfl⟩
 replace h0:=sp h0;have hll:l.length=l2.length:=by omega
 refine xx 8 ?_;refine X.at (X.loop (fun (s:Nat×Option Addr×Option Addr)=>s.1≤l.length∧s.2.1=a∧s.2.2=b∧ ∀ j (h:j<l.length) (h2:j<l2.length),j<s.1→l[j]=l2[j]) (fun s=> [(5,.int .i64 (s.1:Int)),(0,.slice s.2.1 l.length c),(1,.slice s.2.2 l2.length d),(4,.bool false)]) (fun s=>(q++F)) (fun s=>l.length - s.1) (fun s hi_ ih=> ?_) (0,a,b) ⟨Nat.zero_le _,rfl,rfl,fun j _ _ k=>absurd k (Nat.not_lt_zero j)⟩) Zp leA
 try dsimp only at hi_ ih⊢
 obtain ⟨hk,ha,hb,hP⟩:=hi_
 obtain ⟨k,a2,b2⟩:=s;dsimp only at*;subst ha;subst hb
 refine xx 8 ?_;refine X.part 14 rfl (fun h0=> ?_) (fun h0=> ?_)
 · replace h0:=sp h0
   have hk1:k<l.length:=by omega
   have hk2:k<l2.length:=by omega
   refine Jw hs (by simp;omega) (fun ba oa e1=> ?_);subst e1
   refine Jw hs2 (by simp;omega) (fun bb ob e2=> ?_);subst e2
   refine xx 5 ?_;refine drw ?_;refine dd [0,1,2] ?_;refine ldD 3 ?_ (hc:=(Cl.e1 hs leA hk1 rfl))
   refine dd [4,5,6] ?_;refine ldD 7 ?_ (hc:=(Cl.e1 hs2 leA hk2 rfl))
   refine dd [8] ?_;refine XD.nil ?_;refine X.part 25 rfl (fun h1=> ?_) (fun h1=> ?_)
   · replace h1:=sp h1
     refine xx 5 ?_;refine Zq (q) func14 (Zu results14 rfl) ⟨_,rfl,congrArg Value.bool (by symm;rw [decide_eq_false_iff_not];rintro rfl;exact absurd rfl h1),rfl⟩
   replace h1:=sp h1
   refine xx 8 ?_;refine X.at (ih (k+1,some ⟨ba,oa,none⟩,some ⟨bb,ob,none⟩) ⟨by dsimp only;omega,rfl,rfl,fun j g1 g2 g3=>by dsimp only at g3;rcases Nat.lt_or_ge j k with e|e;exact hP j g1 g2 e;obtain rfl:j=k:=(by omega);exact h1⟩ (by dsimp only;omega)) Zp leA
 replace h0:=sp h0
 refine xx 6 ?_;refine Zq (q) func14 (Zu results14 rfl) ⟨_,rfl,congrArg Value.bool (by symm;rw [decide_eq_true_iff];exact List.ext_getElem hll (fun j g1 g2=>hP j g1 g2 (by omega))),rfl⟩
set_option maxHeartbeats 16000000 in
theorem Cg (gc:GC q)(g:GE q)(hs:Sees q a2 (gv.map I64))(hL:gv.length≤9223372036854775807):CallF prog G 4 [.string s,.int .i64 th,.slice a2 gv.length c2] (q) (Ret fun v q'=>v= .bool true∧q'=q):=by
 refine CallF.of func4 ntmps4 rfl (fun F cs=> ?_)
 refine xo 7 ?_;refine Zh call9 (Le.refl _) (made2_ok (s:=s)) ?_
 rintro _ _ (⟨rfl,rfl⟩|⟨m',_|_,F8,hB,hT,hsz,hM,rfl,rfl⟩)
 iterate 2
  focus
   refine oo 3 ?_;refine Zm zeroValue26 fun n1=> ?_
   refine stA ?_;refine oo 6 ?_;refine Zc (Pu.not rfl) ?_;refine oo 1 ?_;refine XO.kt 26 ?_;refine oo 29 ?_;refine Zh call10 (Le.refl _) (T1 (gc.le leA) (g.le leA)) ?_;rintro _ _ ⟨rfl,rfl⟩
   refine ox 2 ?_
  rotate_left
 · have hqm:MdlQ [mdM m'] m':=Ox knA hB;have hlen2:=Zb (f:=Y2) (sz:=4) (fun _=>rfl) m'.threads;have hpr:=Zqy hT;have hk:V0 m'=0:=modOf_ok hpr.1 (by rw [K0];omega) hM;have hbk:=modOf_bk hpr.1 hM;have htl:=(Ut hk).2.2.2.2.2.1
   refine oo 3 ?_;refine Zm zeroValue26 fun n1=> ?_
   refine stA ?_;refine oo 6 ?_;refine Zc (Pu.not rfl) ?_;refine oo 1 ?_;refine Y4 26 ?_;refine oo 4 ?_;refine Zg [30,7,6,1,2] ?_
   apply Zw 6 36 30 rfl
   · intro g2 M2;have h2:=sp g2
     refine ol 2 ?_;refine oo 3 ?_;exact Zz M2 ⟨orF g2,Zv⟩
   · intro g2 M2;have h2:=sp g2
     refine oo 6 ?_;exact Zz M2 ⟨orT g2,Zv⟩
   refine oo 1 ?_;refine Zg [37,7,6,1,2] ?_
   apply Zw 9 46 37 rfl
   · intro g2 M2;have h2:=sp g2
     refine ol 1 ?_;refine oo 1 ?_
     have hth:th.toNat<m'.threads.length:=(by omega)
     refine Y6 hqm.t (by rw [hlen2];omega) (fun bT oT eT=> ?_)
     have hsT:=hqm.t;rw [eT] at hsT
     refine XO.know 39 (.slice (some ⟨bT,oT,none⟩) m'.threads.length m'.tc) rfl (by rw [eT]) ?_
     refine oo 2 ?_;refine ld ?_ (hc:=(Wk (j:=th) hsT leA (fun _=>rfl) hth (by omega) 2 _ rfl))
     refine oo 1 ?_;refine XO.know 44 (.int .i64 ((Up m' th).ins.length:Int)) rfl (by rw [show Up m' th=m'.threads[th.toNat] from Wv hth]) ?_
     refine oo 2 ?_;exact Zz M2 ⟨orF g2,Zv⟩
   · intro g2 M2;have h2:=sp g2
     refine oo 9 ?_;exact Zz M2 ⟨orT g2,Zv⟩
   refine oo 1 ?_;refine Zg [47,7,6,1,2] ?_
   apply Zw 4 51 47 rfl
   · intro g2 M2;have h2:=sp g2
     refine oo 4 ?_;exact Zz M2 ⟨orF g2,Zv⟩
   · intro g2 M2;have h2:=sp g2
     refine oo 4 ?_;exact Zz M2 ⟨orT g2,Zv⟩
   refine ox 1 ?_;refine X.part 51 rfl (fun h2=> ?_) (fun h2=> ?_)
   focus
    replace h2:=sp h2
    refine xo 3 ?_
   rotate_left
   focus
    replace h2:=sp h2
    refine xx 8 ?_;obtain ⟨hth0,hth1,hL80,hg5⟩:0≤th∧th.toNat<m'.threads.length∧(Up m' th).ins.length≤80∧gv.length≤5:=(by omega)
    have hth:0≤th∧th.toNat<m'.threads.length:=⟨hth0,hth1⟩;rw [show Up m' th=m'.threads[th.toNat] from Wv hth1] at hL80
    refine X.at (X.loop (fun (i:Nat)=>i≤gv.length∧ ∀ j (h:j<gv.length),j<i→val gv[j]) (fun i=> [(9,.int .i64 (i:Int)),(1,.int .i64 th),(2,.slice a2 gv.length c2),(6,.bool false),(7,.pointer (some ⟨n1,0,none⟩))]) (fun i=>mdM m'::pto n1 (.cells (Wo m').toArray 26 (0,0))::(q++F)) (fun i=>gv.length - i) (fun i hi_ ihi=> ?_) 0 ⟨Nat.zero_le _,fun j _ k=>absurd k (Nat.not_lt_zero j)⟩) Zp leA
    try dsimp only at hi_ ihi⊢
    obtain ⟨hi0,hiv⟩:=hi_
    refine xx 8 ?_;refine X.part 56 rfl (fun h1=> ?_) (fun h1=> ?_)
    · replace h1:=sp h1;have hlt:i<gv.length:=(by omega)
      refine xo 8 ?_;refine Y6 hs (by simp;omega) (fun b2 o2 e2=> ?_)
      have hs2:=hs;rw [e2] at hs2
      refine XO.know 59 (.slice (some ⟨b2,o2,none⟩) gv.length c2) rfl (by rw [e2]) ?_
      refine oo 1 ?_;refine ld ?_ (hc:=(Cl.e1 hs2 leA hlt rfl))
      refine oo 2 ?_;refine Zg [64,9,1,2,6,7] ?_
      apply Zw 6 70 64 rfl
      · intro g2 M2;have h2:=sp g2
        refine oo 2 ?_;refine XO.know 65 (.slice (some ⟨b2,o2,none⟩) gv.length c2) rfl (by rw [e2]) ?_
        refine oo 1 ?_;refine ld ?_ (hc:=(Cl.e1 hs2 leA hlt rfl))
        refine oo 2 ?_;exact Zz M2 ⟨orF g2,Zv⟩
      · intro g2 M2;have h2:=sp g2
        refine oo 6 ?_;exact Zz M2 ⟨orT g2,Zv⟩
      refine ox 1 ?_;refine X.part 70 rfl (fun h2=> ?_) (fun h2=> ?_)
      · replace h2:=sp h2
        refine xo 3 ?_;refine Zh call10 (Le.refl _) (T1 (gc.le leA) (g.le leA)) ?_;rintro _ _ ⟨rfl,rfl⟩
        refine ox 2 ?_;refine Zq (q) func4 (Zu results4 rfl) ⟨_,rfl,rfl,rfl⟩
      replace h2:=sp h2
      refine xx 8 ?_;refine X.at (ihi (i+1) ⟨by omega,fun j g1 g2=>by rcases Nat.lt_or_ge j i with e|e;exact hiv j g1 e;obtain rfl:j=i:=(by omega);unfold val;omega⟩ (by omega)) Zp leA
    replace h1:=sp h1;clear ihi
    have hgv:Uj gv:=fun x hx=>by obtain ⟨j,hj,rfl⟩:=List.getElem_of_mem hx;exact hiv j hj (by omega)
    refine xo 4 ?_;refine ldA ?_;refine Zh call11 (Le.refl _) (Ck (m:=m') (gc.le leA) (g.le leA) (hqm.le leA)) ?_
    rintro _ _ (⟨hbad,rfl,rfl⟩|⟨_,mt,hTg,hBt,rfl,rfl⟩)
    · exact absurd hk hbad
    have hkt:V0 mt=0:=hTg.ok0 hk;obtain ⟨hth2,_,hloc⟩:=hTg.at hth1;have hqt:MdlQ [mdM mt] mt:=Ox knA hBt
    obtain ⟨E,hE⟩: ∃ E,U3 m' th gv 2600 0 (List.replicate (m'.threads[th.toNat]'hth.2).locals.toNat 0) [] (m'.vars++List.replicate (Vs m'.arrays).toNat 0) []=E:=⟨_,rfl⟩;have hE2:U3 mt th gv 2600 0 (List.replicate (mt.threads[th.toNat]'hth2).locals.toNat 0) [] (mt.vars++List.replicate (Vs mt.arrays).toNat 0) []=E:=(by rw [←Zqu hTg hk hbk hth1 hL80,hloc,hTg.v,hTg.a];exact hE)
    refine oo 3 ?_;refine Zm zeroValue26 fun n2=> ?_
    refine stA ?_;refine oo 4 ?_;refine ldA ?_;refine oo 2 ?_;refine Zh call12 (Le.refl _) (Fh (m:=m') (th:=th) (gv:=gv) (gc.le leA) (g.le leA) (hqm.le leA) hk hth (hs.le leA) hg5 hgv) ?_
    rintro _ _ ⟨oa1,oc1,la1,lc1,rfl,rfl⟩
    rw [hE]
    refine oo 10 ?_;refine ldA ?_;refine oo 2 ?_;refine Zh call12 (Le.refl _) (Fh (m:=mt) (th:=th) (gv:=gv) (gc.le leA) (g.le leA) (hqt.le leA) hkt ⟨hth0,hth2⟩ (hs.le leA) hg5 hgv) ?_
    rintro _ _ ⟨oa2,oc2,la2,lc2,rfl,rfl⟩
    rw [hE2]
    refine oo 12 ?_;refine XO.cR call13 (Mj (cd:=0)) ?_
    refine oo 2 ?_;refine Y4 96 ?_;refine oo 1 ?_;refine Zc (Pu.not rfl) ?_;refine oo 2 ?_;refine Y4 100 ?_;refine oo 1 ?_;refine Zc (Pu.not rfl) ?_;refine oo 2 ?_;refine Y4 104 ?_;refine oo 7 ?_;refine Y4 111 ?_;refine oo 2 ?_;refine XO.lsmax (fl:=I64) (l:=E.2) (fun hbl=> ?_)
    refine XO.cR call14 (RV3_ok (a:=la1) (b:=la2) (l:=E.2) (l2:=E.2) ((Sees.lsH _).le Zj) ((Sees.lsH _).le Zj) hbl hbl) ?_
    refine Zc (Pu.not rfl) ?_;refine ox 2 ?_;refine kx 116 8 ?_
    have hlenE:=Zb (f:=Um) (sz:=10) (fun _=>rfl) E.1;have hsa:Sees [rsH Um 10 51 oa1 oc1 (E.1)] oa1 (E.1.flatMap Um):=Sees.rsH _;have hsb:Sees [rsH Um 10 51 oa2 oc2 (E.1)] oa2 (E.1.flatMap Um):=Sees.rsH _;have hE30:E.1.length≤30:=(by rw [←hE];exact Fm _ _ _ _ _ _ (Nat.zero_le _))
    refine X.at (X.loop (fun (i:Nat)=>i≤E.1.length) (fun i=> [(18,.int .i64 (i:Int)),(12,.slice oa1 E.1.length oc1),(15,.slice oa2 E.1.length oc2),(6,.bool false)]) (fun i=>rsH Um 10 51 oa1 oc1 (E.1)::rsH Um 10 51 oa2 oc2 (E.1)::(q++F)) (fun i=>E.1.length - i) (fun i hi_ ihj=> ?_) 0 (Nat.zero_le _)) Zp leA
    try dsimp only at hi_ ihj⊢
    obtain hi_0:=hi_
    refine xx 8 ?_;refine X.part 120 rfl (fun h3=> ?_) (fun h3=> ?_)
    · replace h3:=sp h3;have hlt:i<E.1.length:=(by omega)
      refine Jw hsa (by rw [hlenE];omega) (fun b1 o1 e1=> ?_);subst e1
      refine Jw hsb (by rw [hlenE];omega) (fun b2 o2 e2=> ?_);subst e2
      refine xx 5 ?_;refine drw ?_;refine dd [0,1,2] ?_;refine V9 3 (m:=i) isAgg51 sizeOf51 hsa hlt ?_
      refine dd [4,5,6] ?_;refine V9 7 (m:=i) isAgg51 sizeOf51 hsb hlt ?_
      refine Vb 8 rfl (X2 rfl rfl (by kernel_rfl) (Sc underlying51 (by kernel_rfl) (by kernel_rfl) ⟨_,_,_,_,(PartV.one rfl isAgg43),(PartV.one rfl isAgg43),(EqV.int underlying43 _ _),⟨_,_,_,_,(PartV.sub isAgg45 sizeOf45),(PartV.sub isAgg45 sizeOf45),(EqV.struct underlying45 (by kernel_rfl) (by kernel_rfl) ⟨_,_,_,_,rfl,rfl,isAgg3,(EqV.int underlying3 _ _),⟨_,_,_,_,rfl,rfl,isAgg4,(EqV.bool underlying4 _ _),⟨_,_,_,_,rfl,rfl,isAgg2,(EqV.int underlying2 _ _),rfl,rfl⟩,rfl⟩,rfl⟩),⟨_,_,_,_,(PartV.sub isAgg48 sizeOf48),(PartV.sub isAgg48 sizeOf48),(EqV.struct underlying48 (by kernel_rfl) (by kernel_rfl) ⟨_,_,_,_,rfl,rfl,isAgg46,(EqV.int underlying46 _ _),⟨_,_,_,_,rfl,rfl,isAgg3,(EqV.int underlying3 _ _),⟨_,_,_,_,rfl,rfl,isAgg3,(EqV.int underlying3 _ _),⟨_,_,_,_,rfl,rfl,isAgg2,(EqV.int underlying2 _ _),rfl,rfl⟩,rfl⟩,rfl⟩,rfl⟩),⟨_,_,_,_,(PartV.one rfl isAgg2),(PartV.one rfl isAgg2),(EqV.int underlying2 _ _),⟨_,_,_,_,(PartV.one rfl isAgg49),(PartV.one rfl isAgg49),(EqV.int underlying49 _ _),rfl,rfl⟩,rfl⟩,rfl⟩,rfl⟩,rfl⟩)) ?_
      refine XD.nil ?_;refine X.know 131 (.bool false) rfl (congrArg Value.bool (by simp)) ?_
      refine xx 8 ?_;refine X.at (ihj (i+1) (by omega) (by omega)) Zp leA
    replace h3:=sp h3
    refine xo 4 ?_
   all_goals
    refine Zh call10 (Le.refl _) (T1 (gc.le leA) (g.le leA)) ?_;rintro _ _ ⟨rfl,rfl⟩
    refine ox 2 ?_;refine Zq (q) func4 (Zu results4 rfl) ⟨_,rfl,rfl,rfl⟩
 · refine Zq (q) func4 (Zu results4 rfl) ⟨_,rfl,rfl,rfl⟩
 refine Zq (q) func4 (Zu results4 rfl) ⟨_,rfl,rfl,rfl⟩
end
end Go.Proofs.YtgonllbkcgaliaaGreatDoor
