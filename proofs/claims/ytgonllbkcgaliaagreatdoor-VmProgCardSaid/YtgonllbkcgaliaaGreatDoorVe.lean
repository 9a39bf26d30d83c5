/- Contracts of functions, proved by walking their code. -/
import Derived.Test.YtgonllbkcgaliaaGreatDoorVd
import Derived.KernelRfl
import Derived.Test.YtgonllbkcgaliaaGreatDoorRows
import Derived.OpenShut
import Derived.LaidMore
import Derived.ProofKit
set_option maxRecDepth 100000
set_option linter.unusedVariables false
set_option linter.unusedSimpArgs false
namespace Go.Proofs.YtgonllbkcgaliaaGreatDoor
open Go Go.RowKit Wx Go.Proofs.Tryz
attribute [local irreducible] Wx.lsH Wx.rsH Wx.stars
def Yu (m:Mdl)(t:Cod)(c:Int):Option Int:=
 if c=2∨c=5 then some m.vars.length else if c=3∨c=6 then some t.locals else if c=4∨c=7 then some m.arrays.length else if c=19∨c=20∨c=21 then some t.ins.length
 else if c=24∨c=25 then some m.mutexes else if c=26∨c=27∨c=28 then some m.conds else if c=29∨c=30 then some m.chans.length else if c=31 then some m.threads.length else none
def Vh (m:Mdl)(t:Cod)(i:Ins):Prop:=(∀ n,Yu m t i.c=some n→i.a<n)∧(i.c=26→i.b<m.mutexes)
instance (m:Mdl) (t:Cod) (i:Ins):Decidable (Vh m t i):=by
 unfold Vh
 have:Decidable (∀ n,Yu m t i.c=some n→i.a<n):=match Yu m t i.c with
  |none=> .isTrue (fun n h=>by cases h)
  |some k=>if h:i.a<k then .isTrue (fun n e=>by cases e;exact h) else .isFalse (fun e=>h (e k rfl))
 infer_instance
def cntL:List (Int×Value×Nat):= [(2,.func (.func 171) #[] #[],0),(5,.func (.func 171) #[] #[],1),(3,.func (.func 172) #[] #[],2),(6,.func (.func 172) #[] #[],3),(4,.func (.func 173) #[] #[],4),(7,.func (.func 173) #[] #[],5),(19,.func (.func 174) #[] #[],6),(20,.func (.func 174) #[] #[],7),(21,.func (.func 174) #[] #[],8),(24,.func (.func 175) #[] #[],9),(25,.func (.func 175) #[] #[],10),(26,.func (.func 176) #[] #[],11),(27,.func (.func 176) #[] #[],12),(28,.func (.func 176) #[] #[],13),(29,.func (.func 177) #[] #[],14),(30,.func (.func 177) #[] #[],15),(31,.func (.func 178) #[] #[],16)]
def Ko (e:Int×Value×Nat):MapEntry:= { key:= .int .i64 e.1,val:=e.2.1,born:=e.2.2 }
theorem cnt_none {m:Mdl}{t:Cod}{c:Int}(h: ∀ e∈cntL,e.1≠c):Yu m t c=none:=by
 simp only [cntL,List.mem_cons,forall_eq_or_imp,List.not_mem_nil,false_imp_iff,implies_true,and_true] at h
 unfold Yu
 (repeat' split)<;>first|rfl|omega
section
variable {G:World}{q pre:List HP}{a b A:Option Addr}{c d C p p0 p1 p2 i:Nat}{lo hi n cd dep:Int}{fv:Value}{x y:Ins}{t:Cod}{m:Mdl}{at_:Int}
variable {pm om pt ot:Nat}
theorem Sg (hm:CellsAt q pm om (Wp m))(ht:CellsAt q pt ot (Wk t)):CallF prog G 171 [.pointer (some ⟨pm,om,none⟩),.pointer (some ⟨pt,ot,none⟩)] (q) (Ret fun v q'=>v= .int .i64 (m.vars.length:Int)∧q'=q):=by
 refine CallF.of func171 ntmps171 rfl (fun F cs=> ?_)
 refine xo 9 ?_;refine ld ?_ (hc:=((hm 0 _ rfl).le leA))
 refine ox 3 ?_;refine Zq (q) func171 (Zp results171 rfl) ⟨_,rfl,rfl,rfl⟩
theorem Sf (hm:CellsAt q pm om (Wp m))(ht:CellsAt q pt ot (Wk t)):CallF prog G 172 [.pointer (some ⟨pm,om,none⟩),.pointer (some ⟨pt,ot,none⟩)] (q) (Ret fun v q'=>v= .int .i64 t.locals∧q'=q):=by
 refine CallF.of func172 ntmps172 rfl (fun F cs=> ?_)
 refine xo 9 ?_;refine ld ?_ (hc:=((ht 1 _ rfl).le leA))
 refine ox 2 ?_;refine Zq (q) func172 (Zp results172 rfl) ⟨_,rfl,rfl,rfl⟩
theorem Sb (hm:CellsAt q pm om (Wp m))(ht:CellsAt q pt ot (Wk t)):CallF prog G 173 [.pointer (some ⟨pm,om,none⟩),.pointer (some ⟨pt,ot,none⟩)] (q) (Ret fun v q'=>v= .int .i64 (m.arrays.length:Int)∧q'=q):=by
 refine CallF.of func173 ntmps173 rfl (fun F cs=> ?_)
 refine xo 9 ?_;refine ld ?_ (hc:=((hm 1 _ rfl).le leA))
 refine ox 3 ?_;refine Zq (q) func173 (Zp results173 rfl) ⟨_,rfl,rfl,rfl⟩
theorem Fd (hm:CellsAt q pm om (Wp m))(ht:CellsAt q pt ot (Wk t)):CallF prog G 174 [.pointer (some ⟨pm,om,none⟩),.pointer (some ⟨pt,ot,none⟩)] (q) (Ret fun v q'=>v= .int .i64 (t.ins.length:Int)∧q'=q):=by
 refine CallF.of func174 ntmps174 rfl (fun F cs=> ?_)
 refine xo 9 ?_;refine ld ?_ (hc:=((ht 2 _ rfl).le leA))
 refine ox 3 ?_;refine Zq (q) func174 (Zp results174 rfl) ⟨_,rfl,rfl,rfl⟩
theorem Sy (hm:CellsAt q pm om (Wp m))(ht:CellsAt q pt ot (Wk t)):CallF prog G 175 [.pointer (some ⟨pm,om,none⟩),.pointer (some ⟨pt,ot,none⟩)] (q) (Ret fun v q'=>v= .int .i64 m.mutexes∧q'=q):=by
 refine CallF.of func175 ntmps175 rfl (fun F cs=> ?_)
 refine xo 9 ?_;refine ld ?_ (hc:=((hm 3 _ rfl).le leA))
 refine ox 2 ?_;refine Zq (q) func175 (Zp results175 rfl) ⟨_,rfl,rfl,rfl⟩
theorem Fu (hm:CellsAt q pm om (Wp m))(ht:CellsAt q pt ot (Wk t)):CallF prog G 176 [.pointer (some ⟨pm,om,none⟩),.pointer (some ⟨pt,ot,none⟩)] (q) (Ret fun v q'=>v= .int .i64 m.conds∧q'=q):=by
 refine CallF.of func176 ntmps176 rfl (fun F cs=> ?_)
 refine xo 9 ?_;refine ld ?_ (hc:=((hm 4 _ rfl).le leA))
 refine ox 2 ?_;refine Zq (q) func176 (Zp results176 rfl) ⟨_,rfl,rfl,rfl⟩
theorem Sx (hm:CellsAt q pm om (Wp m))(ht:CellsAt q pt ot (Wk t)):CallF prog G 177 [.pointer (some ⟨pm,om,none⟩),.pointer (some ⟨pt,ot,none⟩)] (q) (Ret fun v q'=>v= .int .i64 (m.chans.length:Int)∧q'=q):=by
 refine CallF.of func177 ntmps177 rfl (fun F cs=> ?_)
 refine xo 9 ?_;refine ld ?_ (hc:=((hm 2 _ rfl).le leA))
 refine ox 3 ?_;refine Zq (q) func177 (Zp results177 rfl) ⟨_,rfl,rfl,rfl⟩
theorem cnt8_ok (hm:CellsAt q pm om (Wp m))(ht:CellsAt q pt ot (Wk t)):CallF prog G 178 [.pointer (some ⟨pm,om,none⟩),.pointer (some ⟨pt,ot,none⟩)] (q) (Ret fun v q'=>v= .int .i64 (m.threads.length:Int)∧q'=q):=by
 refine CallF.of func178 ntmps178 rfl (fun F cs=> ?_)
 refine xo 9 ?_;refine ld ?_ (hc:=((hm 5 _ rfl).le leA))
 refine ox 3 ?_;refine Zq (q) func178 (Zp results178 rfl) ⟨_,rfl,rfl,rfl⟩
theorem Sw {e:Int×Value×Nat}(h:e∈cntL): ∃ (f:Nat) (n:Int),e.2.1= .func (.func f) #[] #[]∧Yu m t e.1=some n∧(CellsAt q pm om (Wp m)→CellsAt q pt ot (Wk t)→CallV prog G (.func (.func f) #[] #[]) [.pointer (some ⟨pm,om,none⟩),.pointer (some ⟨pt,ot,none⟩)] q (Ret fun v q'=>v= .int .i64 n∧q'=q)):=by
 simp only [cntL,List.mem_cons,List.not_mem_nil,or_false] at h
 rcases h with rfl|rfl|rfl|rfl|rfl|rfl|rfl|rfl|rfl|rfl|rfl|rfl|rfl|rfl|rfl|rfl|rfl
 · exact ⟨171,(m.vars.length:Int),rfl,by simp [Yu],fun h1 h2=>Z6 call171 (Sg h1 h2)⟩
 · exact ⟨171,(m.vars.length:Int),rfl,by simp [Yu],fun h1 h2=>Z6 call171 (Sg h1 h2)⟩
 · exact ⟨172,t.locals,rfl,by simp [Yu],fun h1 h2=>Z6 call172 (Sf h1 h2)⟩
 · exact ⟨172,t.locals,rfl,by simp [Yu],fun h1 h2=>Z6 call172 (Sf h1 h2)⟩
 · exact ⟨173,(m.arrays.length:Int),rfl,by simp [Yu],fun h1 h2=>Z6 call173 (Sb h1 h2)⟩
 · exact ⟨173,(m.arrays.length:Int),rfl,by simp [Yu],fun h1 h2=>Z6 call173 (Sb h1 h2)⟩
 · exact ⟨174,(t.ins.length:Int),rfl,by simp [Yu],fun h1 h2=>Z6 call174 (Fd h1 h2)⟩
 · exact ⟨174,(t.ins.length:Int),rfl,by simp [Yu],fun h1 h2=>Z6 call174 (Fd h1 h2)⟩
 · exact ⟨174,(t.ins.length:Int),rfl,by simp [Yu],fun h1 h2=>Z6 call174 (Fd h1 h2)⟩
 · exact ⟨175,m.mutexes,rfl,by simp [Yu],fun h1 h2=>Z6 call175 (Sy h1 h2)⟩
 · exact ⟨175,m.mutexes,rfl,by simp [Yu],fun h1 h2=>Z6 call175 (Sy h1 h2)⟩
 · exact ⟨176,m.conds,rfl,by simp [Yu],fun h1 h2=>Z6 call176 (Fu h1 h2)⟩
 · exact ⟨176,m.conds,rfl,by simp [Yu],fun h1 h2=>Z6 call176 (Fu h1 h2)⟩
 · exact ⟨176,m.conds,rfl,by simp [Yu],fun h1 h2=>Z6 call176 (Fu h1 h2)⟩
 · exact ⟨177,(m.chans.length:Int),rfl,by simp [Yu],fun h1 h2=>Z6 call177 (Sx h1 h2)⟩
 · exact ⟨177,(m.chans.length:Int),rfl,by simp [Yu],fun h1 h2=>Z6 call177 (Sx h1 h2)⟩
 exact ⟨178,(m.threads.length:Int),rfl,by simp [Yu],fun h1 h2=>Z6 call178 (cnt8_ok h1 h2)⟩
set_option maxHeartbeats 1000000 in
theorem Oq:CallF prog G 136 [] ([]) (Ret fun v q'=> ∃ n,v= .map (some n)∧q'= [pto n (.map (cntL.map Ko).toArray 17)]):=by
 refine CallF.of func136 ntmps136 rfl (fun F cs=> ?_)
 refine xo 38 ?_;refine XO.ef (Ef.makeMap) ?_;rintro _ _ ⟨n1,rfl,rfl⟩
 refine oo 1 ?_;refine XO.ef0 (Ef.insert (es:= []) underlying239 underlying46 rfl rfl rfl Zw (by rfl)) ?_
 rintro _ _ ⟨rfl,rfl⟩
 refine oo 1 ?_;refine XO.ef0 (Ef.insert (es:=((cntL.take 1).map Ko)) underlying239 underlying46 rfl rfl rfl Zw (by rfl)) ?_
 rintro _ _ ⟨rfl,rfl⟩
 refine oo 1 ?_;refine XO.ef0 (Ef.insert (es:=((cntL.take 2).map Ko)) underlying239 underlying46 rfl rfl rfl Zw (by rfl)) ?_
 rintro _ _ ⟨rfl,rfl⟩
 refine oo 1 ?_;refine XO.ef0 (Ef.insert (es:=((cntL.take 3).map Ko)) underlying239 underlying46 rfl rfl rfl Zw (by rfl)) ?_
 rintro _ _ ⟨rfl,rfl⟩
 refine oo 1 ?_;refine XO.ef0 (Ef.insert (es:=((cntL.take 4).map Ko)) underlying239 underlying46 rfl rfl rfl Zw (by rfl)) ?_
 rintro _ _ ⟨rfl,rfl⟩
 refine oo 1 ?_;refine XO.ef0 (Ef.insert (es:=((cntL.take 5).map Ko)) underlying239 underlying46 rfl rfl rfl Zw (by rfl)) ?_
 rintro _ _ ⟨rfl,rfl⟩
 refine oo 1 ?_;refine XO.ef0 (Ef.insert (es:=((cntL.take 6).map Ko)) underlying239 underlying46 rfl rfl rfl Zw (by rfl)) ?_
 rintro _ _ ⟨rfl,rfl⟩
 refine oo 1 ?_;refine XO.ef0 (Ef.insert (es:=((cntL.take 7).map Ko)) underlying239 underlying46 rfl rfl rfl Zw (by rfl)) ?_
 rintro _ _ ⟨rfl,rfl⟩
 refine oo 1 ?_;refine XO.ef0 (Ef.insert (es:=((cntL.take 8).map Ko)) underlying239 underlying46 rfl rfl rfl Zw (by rfl)) ?_
 rintro _ _ ⟨rfl,rfl⟩
 refine oo 1 ?_;refine XO.ef0 (Ef.insert (es:=((cntL.take 9).map Ko)) underlying239 underlying46 rfl rfl rfl Zw (by rfl)) ?_
 rintro _ _ ⟨rfl,rfl⟩
 refine oo 1 ?_;refine XO.ef0 (Ef.insert (es:=((cntL.take 10).map Ko)) underlying239 underlying46 rfl rfl rfl Zw (by rfl)) ?_
 rintro _ _ ⟨rfl,rfl⟩
 refine oo 1 ?_;refine XO.ef0 (Ef.insert (es:=((cntL.take 11).map Ko)) underlying239 underlying46 rfl rfl rfl Zw (by rfl)) ?_
 rintro _ _ ⟨rfl,rfl⟩
 refine oo 1 ?_;refine XO.ef0 (Ef.insert (es:=((cntL.take 12).map Ko)) underlying239 underlying46 rfl rfl rfl Zw (by rfl)) ?_
 rintro _ _ ⟨rfl,rfl⟩
 refine oo 1 ?_;refine XO.ef0 (Ef.insert (es:=((cntL.take 13).map Ko)) underlying239 underlying46 rfl rfl rfl Zw (by rfl)) ?_
 rintro _ _ ⟨rfl,rfl⟩
 refine oo 1 ?_;refine XO.ef0 (Ef.insert (es:=((cntL.take 14).map Ko)) underlying239 underlying46 rfl rfl rfl Zw (by rfl)) ?_
 rintro _ _ ⟨rfl,rfl⟩
 refine oo 1 ?_;refine XO.ef0 (Ef.insert (es:=((cntL.take 15).map Ko)) underlying239 underlying46 rfl rfl rfl Zw (by rfl)) ?_
 rintro _ _ ⟨rfl,rfl⟩
 refine oo 1 ?_;refine XO.ef0 (Ef.insert (es:=((cntL.take 16).map Ko)) underlying239 underlying46 rfl rfl rfl Zw (by rfl)) ?_
 rintro _ _ ⟨rfl,rfl⟩
 refine ox 3 ?_;refine Zq [pto n1 (.map (cntL.map Ko).toArray 17)] func136 (Zp results136 rfl) ⟨_,rfl,n1,rfl,rfl⟩
theorem cnt_call {e:Int×Value×Nat}{f:Nat}{n:Int}(h:e∈cntL)(h1:e.2.1= .func (.func f) #[] #[])(h2:Yu m t e.1=some n)(h3:CellsAt q pm om (Wp m))(h4:CellsAt q pt ot (Wk t)):CallV prog G (.func (.func f) #[] #[]) [.pointer (some ⟨pm,om,none⟩),.pointer (some ⟨pt,ot,none⟩)] q (Ret fun v q'=>v= .int .i64 n∧q'=q):=by
 obtain ⟨f',n',k1,k2,k3⟩:=Sw (G:=G) (q:=q) (m:=m) (t:=t) (pm:=pm) (om:=om) (pt:=pt) (ot:=ot) h
 rw [h2] at k2;obtain rfl:=Option.some.inj k2
 have e1:=h1.symm.trans k1
 cases e1;exact k3 h3 h4
set_option maxHeartbeats 2000000 in
theorem G5 (hm:CellsAt q pm om (Wp m))(ht:CellsAt q pt ot (Wk t))(hq:CodQ q t):CallF prog G 88 [.pointer (some ⟨pm,om,none⟩),.pointer (some ⟨pt,ot,none⟩)] (q) (Ret fun v q'=>v= .bool (decide (∀ x∈t.ins,Vh m t x))∧q'=q):=by
 refine CallF.of func88 ntmps88 rfl (fun F cs=> ?_)
 have hs:=hq.i;have hni:=hq.ni;have hlen:=Zm (f:=Zr) (sz:=4) (fun _=>rfl) t.ins
 refine xo 6 ?_;refine V8 call136 (Oq) ?_;rintro _ _ ⟨nm,rfl,rfl⟩ _ e_;simp only [ca,na] at e_;subst e_
 refine oo 8 ?_;refine ld ?_ (hc:=((ht 2 _ rfl).le leA))
 refine ox 4 ?_;refine X.at (X.loop (fun (s:Nat×Option Addr)=>s.1≤t.ins.length∧s.2=t.ia∧ ∀ i (h:i<t.ins.length),i<s.1→Vh m t t.ins[i]) (fun s=> [(15,.int .i64 (s.1:Int)),(13,.slice s.2 t.ins.length t.ic),(14,.int .i64 (t.ins.length:Int)),(0,.pointer (some ⟨pm,om,none⟩)),(1,.pointer (some ⟨pt,ot,none⟩)),(5,.map (some nm))]) (fun s=>pto nm (.map (cntL.map Ko).toArray 17)::(q++F)) (fun s=>t.ins.length - s.1) (fun s hi_ ih=> ?_) (0,t.ia) ⟨by dsimp only;omega,rfl,fun i _ k=>by dsimp only at k;omega⟩) Zt leA
 try dsimp only at hi_ ih⊢
 obtain ⟨hi1,hia,hi2⟩:=hi_
 obtain ⟨s,ia⟩:=s;dsimp only at*
 refine xx 5 ?_;refine X.part 16 rfl (fun h0=> ?_) (fun h0=> ?_)
 · replace h0:=sp h0;have hi0:s<t.ins.length:=(by omega)
   refine Hr hs (by rw [hlen];omega) (fun b1 o1 eA=> ?_)
   have hsA:=hs;rw [eA] at hsA;obtain rfl:ia=some ⟨b1,o1,none⟩:=hia.trans eA
   refine xo 7 ?_;refine Wn (n:=s) isAgg48 sizeOf48 hsA hi0 ?_
   refine Zy zeroValue48 fun n1=> ?_
   refine stA ?_;refine oo 6 ?_;refine ld ?_;obtain ⟨aF,hF,hA⟩:=Ra (kd:= .i64) (c:=t.ins[s].c) cntL 0
   refine XO.rd (Rd.lookup (es:=cntL.map Ko) (clock:=17) underlying239 underlying46 rfl rfl Zw zeroValue241 hF) ?_
   rcases hA with ⟨rfl,hno⟩|⟨jF,eF,rfl,hmem,hec⟩
   focus
    have hcn:=cnt_none (m:=m) (t:=t) hno
    refine XO.know 22 (.nilFunc) rfl (rfl) ?_;refine ox 3 ?_;refine drw ?_;refine dd [0] ?_;refine Wm 1 rfl (Yb rfl underlying241) ?_;refine dd [2,3,4,5,6,7,8,9,10] ?_;refine XD.nil ?_;refine xx 3 ?_;refine drw ?_;refine dd [0] ?_;refine ldD 1 ?_;refine dd [2,3] ?_;refine XD.part 37 rfl (fun h1=> ?_) (fun h1=> ?_)
    focus
     replace h1:=sp h1
     refine dd [4] ?_;refine ldD 5 ?_;refine dd [6,7,8] ?_;refine ldD 9 ?_ (hc:=((hm 3 _ rfl).le leA))
     refine dd [10,11] ?_;refine XD.nil ?_;refine X.part 45 rfl (fun h2=> ?_) (fun h2=> ?_)
     · replace h2:=sp h2
       refine xx 5 ?_;refine Zq (q) func88 (Zp results88 rfl) ⟨_,rfl,congrArg Value.bool (by symm;rw [decide_eq_false_iff_not];intro ka;have kk:=ka _ (List.getElem_mem hi0);first|(have:=kk.2 (by omega);omega)|(have:=kk.1 _ hf2;omega)),rfl⟩
     replace h2:=sp h2
    rotate_left
    focus
     replace h1:=sp h1
     refine dd [4,5,6,7,8,9,10,11] ?_;refine XD.nil ?_
    all_goals
     refine xx 7 ?_
     have hsl:Vh m t t.ins[s]:=⟨(fun n e=>by rw [hcn] at e;cases e),fun e=>by omega⟩
   rotate_left 2
   focus
    obtain ⟨fF,nF,hf1,hf2,hf3⟩:=Sw (G:=G) (m:=m) (t:=t) (q:=q) (pm:=pm) (om:=om) (pt:=pt) (ot:=ot) hmem;rw [hec] at hf2
    refine XO.know 22 (.func (.func fF) #[] #[]) rfl (by exact hf1) ?_
    refine ox 3 ?_;refine drw ?_;refine dd [0] ?_;refine Wm 1 rfl (Jt rfl underlying241) ?_;refine dd [2,3] ?_;refine ldD 4 ?_;refine dd [5,6,7] ?_;refine Dc 8 ((cnt_call hmem hf1 (hec ▸ hf2)) (hm.le leA) (ht.le leA)) ?_;refine dd [9,10] ?_;refine XD.nil ?_;refine X.part 33 rfl (fun h1=> ?_) (fun h1=> ?_)
    · replace h1:=sp h1
      refine xx 5 ?_;refine Zq (q) func88 (Zp results88 rfl) ⟨_,rfl,congrArg Value.bool (by symm;rw [decide_eq_false_iff_not];intro ka;have kk:=ka _ (List.getElem_mem hi0);first|(have:=kk.2 (by omega);omega)|(have:=kk.1 _ hf2;omega)),rfl⟩
    replace h1:=sp h1
    refine xx 3 ?_;refine drw ?_;refine dd [0] ?_;refine ldD 1 ?_;refine dd [2,3] ?_;refine XD.part 37 rfl (fun h2=> ?_) (fun h2=> ?_)
    focus
     replace h2:=sp h2
     refine dd [4] ?_;refine ldD 5 ?_;refine dd [6,7,8] ?_;refine ldD 9 ?_ (hc:=((hm 3 _ rfl).le leA))
     refine dd [10,11] ?_;refine XD.nil ?_;refine X.part 45 rfl (fun h3=> ?_) (fun h3=> ?_)
     · replace h3:=sp h3
       refine xx 5 ?_;refine Zq (q) func88 (Zp results88 rfl) ⟨_,rfl,congrArg Value.bool (by symm;rw [decide_eq_false_iff_not];intro ka;have kk:=ka _ (List.getElem_mem hi0);first|(have:=kk.2 (by omega);omega)|(have:=kk.1 _ hf2;omega)),rfl⟩
     replace h3:=sp h3
    rotate_left
    focus
     replace h2:=sp h2
     refine dd [4,5,6,7,8,9,10,11] ?_;refine XD.nil ?_
    all_goals
     refine xx 7 ?_
     have hsl:Vh m t t.ins[s]:=⟨(fun n e=>by rw [hf2] at e;cases e;omega),fun e=>by omega⟩
   all_goals
    refine X.at (ih (s+1,some ⟨b1,o1,none⟩) ⟨by dsimp only;omega,eA.symm,fun i hh k=>by rcases Nat.lt_or_ge i s with e|e;exact hi2 i hh e;obtain rfl:i=s:=(by dsimp only at k;omega);exact hsl⟩ (by dsimp only;omega)) Zt leA
 replace h0:=sp h0
 refine xx 6 ?_;refine Zq (q) func88 (Zp results88 rfl) ⟨_,rfl,congrArg Value.bool (by symm;rw [decide_eq_true_iff];intro x hx;obtain ⟨k,hk,rfl⟩:=List.getElem_of_mem hx;exact hi2 k hk (by omega)),rfl⟩
end
section
variable {G:World}{q pre:List HP}{a b A:Option Addr}{c d C p p0 p1 p2 i:Nat}{lo hi n cd dep:Int}{fv:Value}{x y:Ins}{t:Cod}{m:Mdl}{at_:Int}
variable {pm om pt ot n:Nat}
theorem Bg (c:Int):(Yh c).1≤2∧(Yh c).2≤1:=by
 unfold Yh
 (repeat' split)<;>decide
def Vs (t:Cod):List Tp:=t.ins.map Ins.t
theorem Vl {t:Cod}{n:Nat}(h:n<t.ins.length):(Vs t).getD n zI=(t.ins[n]).t:=by
 unfold Vs;rw [List.getD_eq_getElem?_getD,List.getElem?_map,List.getElem?_eq_getElem h];rfl
theorem W8 (t:Cod):(Vs t).length=t.ins.length:=by simp [Vs]
set_option maxHeartbeats 2000000 in
theorem look_ok (g:GE q)(ht:CellsAt q pt ot (Wk t))(hq:CodQ q t)(hc: ∀ x∈t.ins,1≤x.c∧x.c≤34)(hL:t.ins.length≤65536)(hn:n<t.ins.length)(hd:0≤dep∧dep≤1000000):CallF prog G 91 [.pointer (some ⟨pt,ot,none⟩),.int .i64 (n:Int),.int .i64 dep] (q) (Ret fun v q'=>v= .tuple [.int .i64 (Wo (Vs t) n dep).1,.int .i64 (Wo (Vs t) n dep).2].toArray∧q'=q):=by
 refine CallF.of func91 ntmps91 rfl (fun F cs=> ?_)
 have hs:=hq.i;have hlen:=Zm (f:=Zr) (sz:=4) (fun _=>rfl) t.ins
 have hcx:=hc _ (List.getElem_mem hn);have hnn:=Mr t.ins[n].c
 have hk:t.ins[n].c.toNat<effL.length:=by show _<35;omega
 have hef:effL[t.ins[n].c.toNat]=Yh t.ins[n].c:=by
  have e:=effL_at ⟨t.ins[n].c.toNat,hk⟩ (by show 1≤t.ins[n].c.toNat;omega)
  have e1:((t.ins[n].c.toNat:Nat):Int)=t.ins[n].c:=by omega
  dsimp only at e;rw [e1] at e;exact e
 have hle:(Yh t.ins[n].c).1≤2∧(Yh t.ins[n].c).2≤1:=Bg _
 refine xo 2 ?_;refine Zb fun n1=> ?_
 refine Zy zeroValue3 fun n2=> ?_
 refine Zy zeroValue35 fun n3=> ?_
 refine oo 3 ?_;refine ld ?_;refine oo 2 ?_;refine ld ?_ (hc:=((ht 2 _ rfl).le leA))
 refine oo 1 ?_;refine Yz hs (by rw [hlen];omega) (fun b1 o1 e1=> ?_)
 have hs1:=hs;rw [e1] at hs1
 refine XO.know 15 (.slice (some ⟨b1,o1,none⟩) t.ins.length t.ic) rfl (by rw [e1]) ?_
 refine oo 1 ?_;refine Wn (n:=n) isAgg48 sizeOf48 hs1 hn ?_
 refine Zy zeroValue48 fun n4=> ?_
 refine stA ?_;refine oo 4 ?_;refine ld ?_;refine Zn (V5 rfl rfl underlying249 sizeOf248 (by omega) (by omega)) ?_
 refine Wn (n:=t.ins[n].c.toNat) isAgg248 sizeOf248 g hk ?_
 refine XO.know 22 (.agg (efC (Yh t.ins[n].c)).toArray) rfl (by rw [hef]) ?_
 refine Zy zeroValue248 fun n5=> ?_
 refine stA ?_;refine oo 5 ?_;refine ld ?_;refine oo 2 ?_;refine ld ?_;refine oo 8 ?_;refine ld ?_;refine oo 2 ?_;refine Zf [34,10,8,7,6,3,1,2] ?_
 apply Zx 3 37 34 rfl
 · intro g1 M1;have h1:=sp g1
   refine oo 3 ?_;exact Zz M1 ⟨orF g1,Zv⟩
 · intro g1 M1;have h1:=sp g1
   refine oo 3 ?_;exact Zz M1 ⟨orT g1,Zv⟩
 refine ox 1 ?_;refine X.part 37 rfl (fun h1=> ?_) (fun h1=> ?_)
 · replace h1:=sp h1
   refine xo 3 ?_;refine st ?_;refine st ?_;refine ox 1 ?_
   have hO:Wo (Vs t) n dep=(0,173):=by unfold Wo;rw [Vl hn];dsimp only [Ins.t];rw [if_pos (by omega)]
   refine Zq (q) func91 (Gr results91 (ResOk.cell rfl (LV.cell isAgg3 clA) (ResOk.cell rfl (LV.cell isAgg35 clA) ResOk.nil))) ⟨_,rfl,by rw [hO],rfl⟩
 replace h1:=sp h1
 refine xo 6 ?_;refine ld ?_;refine oo 2 ?_;refine Zf [41,10,8,7,6,3,1,2] ?_
 apply Zx 4 45 41 rfl
 · intro g2 M2;have h2:=sp g2
   refine oo 1 ?_;refine ld ?_;refine oo 2 ?_;exact Zz M2 ⟨orF g2,Zv⟩
 · intro g2 M2;have h2:=sp g2
   refine oo 4 ?_;exact Zz M2 ⟨orT g2,Zv⟩
 refine oo 1 ?_;refine Zf [46,10,8,7,6,3,1,2] ?_
 apply Zg 3 49 46 rfl
 · intro g2 M2;have h2:=sp g2
   refine oo 3 ?_;exact Zz M2 ⟨Yd g2,Zv⟩
 · intro g2 M2;have h2:=sp g2
   refine oo 3 ?_;exact Zz M2 ⟨Yc g2,Zv⟩
 refine ox 1 ?_;refine X.part 49 rfl (fun h2=> ?_) (fun h2=> ?_)
 · replace h2:=sp h2
   refine xo 3 ?_;refine st ?_;refine st ?_;refine ox 1 ?_
   have hO:Wo (Vs t) n dep=(0,175):=by unfold Wo;rw [Vl hn];dsimp only [Ins.t];rw [if_neg (by omega),if_pos (by omega)]
   refine Zq (q) func91 (Gr results91 (ResOk.cell rfl (LV.cell isAgg3 clA) (ResOk.cell rfl (LV.cell isAgg35 clA) ResOk.nil))) ⟨_,rfl,by rw [hO],rfl⟩
 replace h2:=sp h2
 refine xo 5 ?_;refine ldA ?_;refine oo 1 ?_;refine V8 call92 (E0) ?_;rintro _ _ ⟨p1,p2,rfl,rfl⟩ _ e_;simp only [ca,na] at e_;subst e_
 refine ox 2 ?_;refine X.le (q':=pto p1 (.cells (Zr t.ins[n]).toArray 48 (0,0))::_) Zw (X.freeze ?_)
 refine X.le (q':=pto p2 (.cells [.int .i64 (n:Int)].toArray 3 (0,0))::_) Zw (X.freeze ?_)
 refine X.range [im p1 (.cells (Zr t.ins[n]).toArray 48 (0,0)),im p2 (.cells [.int .i64 (n:Int)].toArray 3 (0,0))] (fun k=>Wx.pure (∀ j (h:j<(nxt t.ins[n] (n:Int)).length),j<k→(nxt t.ins[n] (n:Int))[j]<t.ins.length)::pto n1 (.cells [.pointer (some ⟨pt,ot,none⟩)].toArray 127 (0,0))::pto n2 (.cells [.int .i64 (0)].toArray 3 (0,0))::pto n3 (.cells [.int .i64 (0)].toArray 35 (0,0))::pto n4 (.cells (Zr t.ins[n]).toArray 48 (0,0))::pto n5 (.cells (efC (Yh t.ins[n].c)).toArray 248 (0,0))::q) (fun e qs=>e= .ret∧qs=Wx.pure (∃ x∈nxt t.ins[n] (n:Int),(t.ins.length:Int)≤x)::pto n1 (.cells [.pointer (some ⟨pt,ot,none⟩)].toArray 127 (0,0))::pto n2 (.cells [.int .i64 (0)].toArray 3 (0,0))::pto n3 (.cells [.int .i64 (172)].toArray 35 (0,0))::pto n4 (.cells (Zr t.ins[n]).toArray 48 (0,0))::pto n5 (.cells (efC (Yh t.ins[n].c)).toArray 248 (0,0))::q) (F:=F) (R0 (x:=t.ins[n]) ⟨by omega,by omega⟩) rfl ?_ (by intro x hx;obtain ⟨y,_,rfl⟩:=List.mem_map.1 hx;rfl) rfl (by rw [func91];rfl) rfl (fun i hi l2 rec F0 cs0=> ?_) (fun r=> ?_) (fun r c2 qs2 hJ=> ?_)
 · refine Le.trans (b:= [im p1 (.cells (Zr t.ins[n]).toArray 48 (0,0)),im p2 (.cells [.int .i64 (n:Int)].toArray 3 (0,0))]++((Wx.pure (∀ j (h:j<(nxt t.ins[n] (n:Int)).length),j<0→(nxt t.ins[n] (n:Int))[j]<t.ins.length)::pto n1 (.cells [.pointer (some ⟨pt,ot,none⟩)].toArray 127 (0,0))::pto n2 (.cells [.int .i64 (0)].toArray 3 (0,0))::pto n3 (.cells [.int .i64 (0)].toArray 35 (0,0))::pto n4 (.cells (Zr t.ins[n]).toArray 48 (0,0))::pto n5 (.cells (efC (Yh t.ins[n].c)).toArray 248 (0,0))::q)++F)) ?_ (Ds _ _ _)
   simp only [ca,na];refine Le.pick Zw (Le.pick Zw (Le.trans ?_ (Q3 (fun j h k=>absurd k (Nat.not_lt_zero j)) _)));exact leB
 · have hi':i<(nxt t.ins[n] (n:Int)).length:=by simpa using hi
   rw [List.getElem_map]
   simp only [Gw,ivs]
   simp only [ca,na]
   refine X.le (q':=Wx.pure (∀ j (h:j<(nxt t.ins[n] (n:Int)).length),j<i→(nxt t.ins[n] (n:Int))[j]<t.ins.length)::_) Zw (X.pure (fun hP=> ?_))
   refine xx 3 ?_;refine X.beginRound rfl leA ?_;refine xo 4 ?_;refine ld ?_;refine oo 2 ?_;refine ld ?_ (hc:=((ht 2 _ rfl).le leA))
   refine ox 3 ?_;refine X.part 60 rfl (fun k1=> ?_) (fun k1=> ?_)
   · replace k1:=sp k1
     refine xo 3 ?_;refine st ?_;refine st ?_;refine ox 1 ?_;refine X.ret ⟨rfl,rfl,_,⟨rfl,rfl⟩,?_⟩
     simp only [ca,na]
     refine Le.pick Zw (Le.trans ?_ (Q3 (show ∃ x∈nxt t.ins[n] (n:Int),(t.ins.length:Int)≤x from ⟨_,List.getElem_mem hi',by omega⟩) _));exact leA
   replace k1:=sp k1
   refine xx 3 ?_;refine X.fall ⟨rfl,rfl,?_⟩
   simp only [ca,na]
   refine Le.pick Zw (Le.trans ?_ (Q3 (show (∀ j (h:j<(nxt t.ins[n] (n:Int)).length),j<i+1→(nxt t.ins[n] (n:Int))[j]<t.ins.length) from fun j h k=>by rcases Nat.lt_or_ge j i with e|e;exact hP j h e;obtain rfl:j=i:=(by omega);omega) _));exact leA
 focus
  simp only [ca,na]
  rw [List.length_map]
  refine X.le (q':=Wx.pure (∀ j (h:j<(nxt t.ins[n] (n:Int)).length),j<(nxt t.ins[n] (n:Int)).length→(nxt t.ins[n] (n:Int))[j]<t.ins.length)::_) Zw (X.pure (fun hP=> ?_))
  refine xo 4 ?_;refine st ?_;refine st ?_;refine ox 1 ?_
  have hO:Wo (Vs t) n dep=(dep - (Yh t.ins[n].c).1+(Yh t.ins[n].c).2,0):=by
   have hF: ¬∃ x∈Qw t.ins[n].t n,((Vs t).length:Int)≤x:=by
    rintro ⟨x,hx,hx2⟩;rw [W8] at hx2;rw [←Nn] at hx;obtain ⟨j,hj,rfl⟩:=List.getElem_of_mem hx;have:=hP j hj hj;omega
   unfold Wo;rw [Vl hn];dsimp only [Ins.t];rw [if_neg (by omega),if_neg (by omega)];exact if_neg hF
 rotate_left
 focus
  obtain ⟨rfl,rfl⟩:=hJ
  simp only [ca,na]
  refine X.le (q':=Wx.pure (∃ x∈nxt t.ins[n] (n:Int),(t.ins.length:Int)≤x)::_) Zw (X.pure (fun hP=> ?_))
  have hO:Wo (Vs t) n dep=(0,172):=by
   have hF: ∃ x∈Qw t.ins[n].t n,((Vs t).length:Int)≤x:=by rw [W8,←Nn];exact hP
   unfold Wo;rw [Vl hn];dsimp only [Ins.t];rw [if_neg (by omega),if_neg (by omega)];exact if_pos hF
 all_goals
  refine X.ret ⟨rfl,C5 ?_⟩
  exact Lv.ret (q':=q) func91 (Gr results91 (ResOk.cell rfl (LV.cell isAgg3 clA) (ResOk.cell rfl (LV.cell isAgg35 clA) ResOk.nil))) ⟨_,rfl,by rw [hO],rfl⟩ leB
end
def par (k:Nat):Nat:=(k - 1) / 2
def hAt (l:List Int)(i:Nat):Int:=l.getD i 0
def sw (l:List Int)(i j:Nat):List Int:=(l.set i (hAt l j)).set j (hAt l i)
theorem Tt (l:List Int)(i j:Nat):(sw l i j).length=l.length:=by simp [sw]
theorem Q5 {l:List Int}{i:Nat}(h:i<l.length):hAt l i=l[i]:=by simp [hAt,List.getD,h]
theorem T4 {l:List Int}{i j k:Nat}(hi:i<l.length)(hj:j<l.length):hAt (sw l i j) k=if k=j then hAt l i else if k=i then hAt l j else hAt l k:=by
 unfold sw hAt
 simp only [List.getD_eq_getElem?_getD,List.getElem?_set,List.length_set]
 by_cases h1:k=j
 · subst h1;simp [hj]
 have h1': ¬j=k:=fun e=>h1 e.symm
 by_cases h2:k=i
 · subst h2;simp [h1,h1',hi]
 have h2': ¬i=k:=fun e=>h2 e.symm
 simp [h1,h1',h2,h2']
theorem Bx {l:List Int}{i j:Nat}(hi:i<l.length)(hj:j<l.length):(sw l i j).Perm l:=by
 have h:=Array.swap_perm (xs:=l.toArray) (i:=i) (j:=j) (by simpa using hi) (by simpa using hj)
 have h2:=h.toList
 rw [Array.toList_swap] at h2
 unfold sw
 rw [Q5 hi,Q5 hj]
 simpa using h2
def HeapP (l:List Int)(n:Nat):Prop:= ∀ k,0<k→k<n→hAt l (par k)≤hAt l k
theorem HeapP.least {l:List Int}{n:Nat}(h:HeapP l n): ∀ k,k<n→hAt l 0≤hAt l k:=by
 intro k
 induction k using Nat.strongRecOn with
 |_ k ih=>
  intro hk
  rcases Nat.eq_zero_or_pos k with rfl|hp
  · exact Int.le_refl _
  have h1:par k<k:=by unfold par;omega
  exact Int.le_trans (ih _ h1 (by omega)) (h k hp hk)
def HeapUp (l:List Int)(n j:Nat):Prop:=(∀ k,0<k→k<n→k≠j→hAt l (par k)≤hAt l k)∧ ∀ k,0<k→k<n→par k=j→0<j→hAt l (par j)≤hAt l k
theorem Aj {l:List Int}{n:Nat}(h:HeapP l n):HeapUp l (n+1) n:=
 ⟨fun k h1 h2 h3=>h k h1 (by omega),fun k h1 h2 h3 h4=>by unfold par at h3;omega⟩
theorem HeapUp.done {l:List Int}{n j:Nat}(h:HeapUp l n j)(hj:j=0∨hAt l (par j)≤hAt l j):HeapP l n:=fun k h1 h2=>by
 by_cases e:k=j
 · subst e;rcases hj with h3|h3
   · omega
   exact h3
 exact h.1 k h1 h2 e
theorem HeapUp.step {l:List Int}{n j:Nat}(h:HeapUp l n j)(hn:n=l.length)(hj:j<n)(h0:0<j)(hlt:hAt l j<hAt l (par j)):HeapUp (sw l (par j) j) n (par j):=by
 have hp:par j<j:=by unfold par;omega
 have e:=fun k=>T4 (l:=l) (i:=par j) (j:=j) (k:=k) (by omega) (by omega)
 refine ⟨fun k h1 h2 h3=> ?_,fun k h1 h2 h3 h4=> ?_⟩
 · rw [e,e]
   by_cases k1:k=j
   · subst k1
     rw [if_neg (by omega),if_pos rfl,if_pos rfl];omega
   by_cases k2:par k=j
   · have:=h.2 k h1 h2 k2 h0
     rw [if_pos k2,if_neg k1,if_neg h3];exact this
   by_cases k3:par k=par j
   · have:=h.1 k h1 h2 k1
     rw [if_neg k2,if_pos k3,if_neg k1,if_neg h3]
     rw [k3] at this;omega
   have:=h.1 k h1 h2 k1
   rw [if_neg k2,if_neg k3,if_neg k1,if_neg h3];exact this
 have hpp:par (par j)<par j:=by unfold par at h4⊢;omega
 have hpj:=h.1 (par j) h4 (by omega) (by omega)
 rw [e,e,if_neg (show par (par j)≠j by omega),if_neg (show par (par j)≠par j by omega)]
 by_cases k1:k=j
 · subst k1;rw [if_pos rfl];exact hpj
 have hk:k≠par j:=by rintro rfl;omega
 rw [if_neg k1,if_neg hk]
 have:=h.1 k h1 h2 k1
 rw [h3] at this;omega
def HeapDn (l:List Int)(n i:Nat):Prop:=(∀ k,0<k→k<n→par k≠i→hAt l (par k)≤hAt l k)∧ ∀ k,0<k→k<n→par k=i→0<i→hAt l (par i)≤hAt l k
theorem HeapDn.done {l:List Int}{n i:Nat}(h:HeapDn l n i)(hi: ∀ k,0<k→k<n→par k=i→hAt l i≤hAt l k):HeapP l n:=fun k h1 h2=>by
 by_cases e:par k=i
 · rw [e];exact hi k h1 h2 e
 exact h.1 k h1 h2 e
theorem HeapDn.step {l:List Int}{n i j:Nat}(h:HeapDn l n i)(hn:n≤l.length)(hj:j<n)(hj0:0<j)(hp:par j=i)(hlt:hAt l j<hAt l i)(hmin: ∀ k,0<k→k<n→par k=i→hAt l j≤hAt l k):HeapDn (sw l i j) n j:=by
 have hij:i<j:=by rw [←hp];unfold par;omega
 have e:=fun k=>T4 (l:=l) (i:=i) (j:=j) (k:=k) (by omega) (by omega)
 refine ⟨fun k h1 h2 h3=> ?_,fun k h1 h2 h3 h4=> ?_⟩
 · rw [e,e,if_neg h3]
   by_cases k1:par k=i
   · rw [if_pos k1]
     by_cases k2:k=j
     · subst k2;rw [if_pos rfl];omega
     have hki:k≠i:=by rintro rfl;unfold par at k1;omega
     rw [if_neg k2,if_neg hki];exact hmin k h1 h2 k1
   rw [if_neg k1]
   by_cases k2:k=j
   · subst k2;exact absurd hp k1
   rw [if_neg k2]
   by_cases k3:k=i
   · subst k3;rw [if_pos rfl];exact h.2 j hj0 hj hp h1
   rw [if_neg k3];exact h.1 k h1 h2 k1
 have hkj:k≠j:=by rintro rfl;unfold par at h3;omega
 have hki:k≠i:=by rintro rfl;unfold par at h3;omega
 rw [e,e,hp,if_neg (show i≠j by omega),if_pos rfl,if_neg hkj,if_neg hki]
 have:=h.1 k h1 h2 (by rw [h3];omega)
 rw [h3] at this;exact this
theorem Ak {l:List Int}{n:Nat}(h:HeapP l (n+1))(hn:n+1≤l.length):HeapDn (sw l 0 n) n 0:=by
 have e:=fun k=>T4 (l:=l) (i:=0) (j:=n) (k:=k) (by omega) (by omega)
 refine ⟨fun k h1 h2 h3=> ?_,fun k h1 h2 h3 h4=>by omega⟩
 rw [e,e,if_neg (show par k≠n by unfold par;omega),if_neg h3,if_neg (show k≠n by omega),if_neg (show k≠0 by omega)]
 exact h k h1 (by omega)
section
variable {G:World}{q pre:List HP}{a b A:Option Addr}{c d C p p0 p1 p2 i:Nat}{lo hi n cd dep:Int}{fv:Value}{x y:Ins}{t:Cod}{m:Mdl}{at_:Int}
variable {l:List Int}{b i j:Nat}{z:Int}
abbrev plP (b:Nat)(a:Option Addr)(c:Nat)(l:List Int):List HP:= [pto b (.cells [.slice a l.length c].toArray 172 (0,0)),lsH I64 3 a c l]
abbrev plB (b:Nat)(l:List Int):HP:=bxH I64 172 3 b l
abbrev plI (b:Nat):Value:= .iface 171 (.pointer (some ⟨b,0,none⟩))
theorem Gs:CallF prog G 89 [.slice a l.length c] (plP b a c l) (Ret fun v q'=>v= .int .i64 (l.length:Int)∧q'=plP b a c l):=by
 refine CallF.of func89 ntmps89 rfl (fun F cs=> ?_)
 refine xx 10 ?_;refine Zq (plP b a c l) func89 (Zp results89 rfl) ⟨_,rfl,rfl,rfl⟩
theorem It (hi:i<l.length)(hj:j<l.length)(hL:l.length≤1000000):CallF prog G 226 [.slice a l.length c,.int .i64 (i:Int),.int .i64 (j:Int)] (plP b a c l) (Ret fun v q'=>v= .bool (decide (hAt l i<hAt l j))∧q'=plP b a c l):=by
 refine CallF.of func226 ntmps226 rfl (fun F cs=> ?_)
 refine Qd (l:=l) (by omega) (fun g e_=> ?_);subst e_
 refine xx 5 ?_;refine drw ?_;refine dd [0,1,2] ?_;refine ldD 3 ?_ (hc:=(Cl.e1 (Sees.lsH _) Zw hi rfl))
 refine dd [4,5,6] ?_;refine ldD 7 ?_ (hc:=(Cl.e1 (Sees.lsH _) Zw hj rfl))
 refine dd [8,9] ?_;refine XD.nil ?_;refine Zq (plP b (some ⟨g,0,none⟩) c l) func226 (Zp results226 rfl) ⟨_,rfl,by rw [Q5 hi,Q5 hj],rfl⟩
theorem Id (hi:i<l.length)(hj:j<l.length)(hL:l.length≤1000000):CallF prog G 229 [.slice a l.length c,.int .i64 (i:Int),.int .i64 (j:Int)] (plP b a c l) (Ret fun v q'=>q'=plP b a c (sw l i j)):=by
 refine CallF.of func229 ntmps229 rfl (fun F cs=> ?_)
 refine Qd (l:=l) (by omega) (fun g e_=> ?_);subst e_
 refine drw ?_;refine dd [0,1,2,3,4,5,6] ?_;refine ldD 7 ?_ (hc:=(Cl.e1 (Sees.lsH _) Zw hj rfl))
 refine dd [8,9,10] ?_;refine ldD 11 ?_ (hc:=(Cl.e1 (Sees.lsH _) Zw hi rfl))
 refine dd [12] ?_;refine XD.ef0 13 rfl (Up (l:=l) (n:=i) (u:=l[j]) rfl rfl sizeOf3 rfl hi rfl rfl Zw) ?_
 rintro _ _ ⟨rfl,rfl⟩
 refine ⟨trivial,?_⟩
 refine dd [14] ?_;refine XD.ef0 15 rfl (Up (l:=l.set i l[j]) (n:=j) (u:=l[i]) rfl rfl sizeOf3 rfl (by rw [List.length_set];exact hj) rfl rfl Zw) ?_
 rintro _ _ ⟨rfl,rfl⟩
 refine ⟨trivial,?_⟩
 refine XD.nil ?_
 have e1:(l.set i l[j]).set j l[i]=sw l i j:=by unfold sw;rw [Q5 hi,Q5 hj]
 rw [e1]
 refine Wr (plP b (some ⟨g,0,none⟩) c (sw l i j)) func229 (U1 results229) ⟨_,rfl,rfl⟩ (by unfold plP;rw [Tt];exact leA)
theorem plPop_ok (h0:0<l.length)(hL:l.length≤1000000):CallF prog G 227 [.pointer (some ⟨b,0,none⟩)] (plP b a c l) (Ret fun v q'=> ∃ x,v= .iface 3 (.int .i64 x)∧l[l.length - 1]? =some x∧q'=plP b a c (l.take (l.length - 1))):=by
 refine CallF.of func227 ntmps227 rfl (fun F cs=> ?_)
 refine Qd (l:=l) (by omega) (fun g e_=> ?_);subst e_
 refine Su (l:=l) (fun hcap=> ?_)
 refine xx 5 ?_;refine drw ?_;refine dd [0,1] ?_;refine ldD 2 ?_;refine dd [3,4] ?_;refine ldD 5 ?_;refine dd [6,7,8] ?_;refine ldD 9 ?_ (hc:=(P9 (Sees.lsH _) Zw h0))
 refine dd [10] ?_;refine XD.nil ?_;refine xx 1 ?_;refine drw ?_;refine dd [0,1,2] ?_;refine ldD 3 ?_;refine dd [4,5] ?_;refine ldD 6 ?_;refine dd [7,8,9,10] ?_;refine XD.know 23 (.slice (some ⟨g,0,none⟩) (l.take (l.length - 1)).length c) rfl (by rw [List.length_take];congr 1;omega) ?_
 refine stD 11 ?_;refine XD.nil ?_;refine xx 6 ?_;refine Zq (plP b (some ⟨g,0,none⟩) c (l.take (l.length - 1))) func227 (Zp results227 rfl) ⟨_,rfl,_,rfl,List.getElem?_eq_getElem (by omega),rfl⟩ (Le.pick Zw ((leA).trans (R4 _ _ _ _ _ _ _)))
theorem Ic (hL:l.length≤1000000):CallF prog G 228 [.pointer (some ⟨b,0,none⟩),.iface 3 (.int .i64 z)] (plP b a c l) (Ret fun v q'=> ∃ a' c',q'=plP b a' c' (l++ [z])):=by
 refine CallF.of func228 ntmps228 rfl (fun F cs=> ?_)
 refine drw ?_;refine dd [0,1,2] ?_;refine ldD 3 ?_;refine dd [4] ?_;refine Wm 5 rfl (Dt rfl underlying3 rfl) ?_;refine XD.ef 6 rfl (Yj I64 [z] underlying172 Tryz.info3 rfl rfl rfl rfl rfl rfl (fun _=>rfl)) ?_
 rintro _ _ ⟨g1,rfl,rfl⟩
 refine ⟨hlA,?_⟩
 refine XD.ef 7 rfl (Yt (l:=l) (m:= [z]) underlying172 Tryz.info3 rfl rfl rfl Zw ((Sees.lsH _).le Zw) (fun _=>rfl) (by simp;omega) (by simp;omega)) ?_
 rintro _ _ ⟨a1,c1,rfl,rfl⟩
 refine ⟨trivial,?_⟩
 refine dd [8] ?_;refine stD 9 ?_;refine XD.nil ?_;refine Wr (plP b a1 c1 (l++ [z])) func228 (U1 results228) ⟨_,rfl,a1,c1,rfl⟩
theorem mLen: CallM prog G (plI b) "Len" [] [plB b l] (Ret fun v q' => ∃ l', (fun v l' => v = .int .i64 (l.length : Int) ∧ l' = l) v l' ∧ q' = [plB b l']) :=
 My (φ := fun v l' => v = .int .i64 (l.length : Int) ∧ l' = l) fun a c => CallM.of call89 (fun F w s => Nu (m := ⟨"Len", 173, #[], some (89, false)⟩) s clA Tryz.typeInfo171 underlying171 isAgg172 (by kernel_rfl) rfl rfl) (CallF.mono (Gs) (fun e q h => by obtain ⟨v, rfl, h⟩ := h; exact ⟨v, rfl, ⟨l, a, c, ⟨h.1, rfl⟩, h.2⟩⟩))
theorem Lo (hi:i<l.length)(hj:j<l.length)(hL:l.length≤1000000): CallM prog G (plI b) "Less" [.int .i64 (i : Int), .int .i64 (j : Int)] [plB b l] (Ret fun v q' => ∃ l', (fun v l' => v = .bool (decide (hAt l i < hAt l j)) ∧ l' = l) v l' ∧ q' = [plB b l']) :=
 My (φ := fun v l' => v = .bool (decide (hAt l i < hAt l j)) ∧ l' = l) fun a c => CallM.of call226 (fun F w s => Nu (m := ⟨"Less", 282, #[], some (226, false)⟩) s clA Tryz.typeInfo171 underlying171 isAgg172 (by kernel_rfl) rfl rfl) (CallF.mono (It hi hj hL) (fun e q h => by obtain ⟨v, rfl, h⟩ := h; exact ⟨v, rfl, ⟨l, a, c, ⟨h.1, rfl⟩, h.2⟩⟩))
theorem Ls (hi:i<l.length)(hj:j<l.length)(hL:l.length≤1000000): CallM prog G (plI b) "Swap" [.int .i64 (i : Int), .int .i64 (j : Int)] [plB b l] (Ret fun v q' => ∃ l', (fun v l' => l' = sw l i j) v l' ∧ q' = [plB b l']) :=
 My (φ := fun v l' => l' = sw l i j) fun a c => CallM.of call229 (fun F w s => Nu (m := ⟨"Swap", 244, #[], some (229, false)⟩) s clA Tryz.typeInfo171 underlying171 isAgg172 (by kernel_rfl) rfl rfl) (CallF.mono (Id hi hj hL) (fun e q h => by obtain ⟨v, rfl, h⟩ := h; exact ⟨v, rfl, ⟨_, a, c, rfl, h⟩⟩))
theorem mPop (h0:0<l.length)(hL:l.length≤1000000): CallM prog G (plI b) "Pop" [] [plB b l] (Ret fun v q' => ∃ l', (fun v l' => ∃ x, v = .iface 3 (.int .i64 x) ∧ l[l.length - 1]? = some x ∧ l' = l.take (l.length - 1)) v l' ∧ q' = [plB b l']) :=
 My (φ := fun v l' => ∃ x, v = .iface 3 (.int .i64 x) ∧ l[l.length - 1]? = some x ∧ l' = l.take (l.length - 1)) fun a c => CallM.of call227 (fun F w s => B9 (m := ⟨"Pop", 246, #[], some (227, true)⟩) Tryz.typeInfo171 underlying171 (by kernel_rfl) rfl rfl) (CallF.mono (plPop_ok h0 hL) (fun e q h => by obtain ⟨v, rfl, h⟩ := h; exact ⟨v, rfl, (by obtain ⟨x, h1, h2, h3⟩ := h; exact ⟨_, a, c, ⟨x, h1, h2, rfl⟩, h3⟩)⟩))
theorem mPush (hL:l.length≤1000000): CallM prog G (plI b) "Push" [.iface 3 (.int .i64 z)] [plB b l] (Ret fun v q' => ∃ l', (fun v l' => l' = l ++ [z]) v l' ∧ q' = [plB b l']) :=
 My (φ := fun v l' => l' = l ++ [z]) fun a c => CallM.of call228 (fun F w s => B9 (m := ⟨"Push", 250, #[], some (228, true)⟩) Tryz.typeInfo171 underlying171 (by kernel_rfl) rfl rfl) (CallF.mono (Ic hL) (fun e q h => by obtain ⟨v, rfl, h⟩ := h; exact ⟨v, rfl, (by obtain ⟨a2, c2, h⟩ := h; exact ⟨_, a2, c2, rfl, h⟩)⟩))
end
theorem L8 {l:List Int}{z:Int}{k:Nat}(h:k<l.length):hAt (l++ [z]) k=hAt l k:=by
 rw [Q5 (by simp;omega),Q5 h,List.getElem_append_left h]
theorem HeapP.app {l:List Int}{z:Int}(h:HeapP l l.length):HeapUp (l++ [z]) (l++ [z]).length l.length:=by
 rw [List.length_append]
 refine Aj (fun k h1 h2=> ?_)
 rw [L8 h2,L8 (by unfold par;omega)];exact h k h1 h2
theorem HeapDn.least {l:List Int}{n:Nat}(h:HeapP l n)(hn:n≤l.length)(h0:0<n): ∀ x∈l.take n,hAt l 0≤x:=by
 intro x hx
 obtain ⟨k,hk,rfl⟩:=List.getElem_of_mem hx
 have hk':k<n:=by simp at hk;omega
 have:=h.least k hk'
 rw [Q5 (i:=k) (by omega)] at this;rw [List.getElem_take];exact this
theorem HeapP.take {l:List Int}{n:Nat}(h:HeapP l n)(hn:n≤l.length):HeapP (l.take n) (l.take n).length:=by
 have e: ∀ k,k<n→hAt (l.take n) k=hAt l k:=fun k hk=>by rw [Q5 (by simp;omega),Q5 (by omega),List.getElem_take]
 intro k h1 h2
 have h3:k<n:=by simp at h2;omega
 rw [e k h3,e _ (by unfold par;omega)];exact h k h1 h3
theorem par_lt {k:Nat}(h:0<k):par k<k:=by unfold par;omega
theorem par_cast (j:Nat):Int.tdiv ((j:Int) - 1) 2=(par j:Int):=by
 unfold par
 rcases Nat.eq_zero_or_pos j with rfl|h
 · decide
 rw [Int.tdiv_eq_ediv_of_nonneg (by omega)];omega
theorem Ip {l m:List Int}{x:Int}(h:HeapP l l.length)(h0:0<l.length)(hp:m.Perm (sw l 0 (l.length - 1)))(hk: ∀ k,l.length - 1≤k→hAt m k=hAt (sw l 0 (l.length - 1)) k)(hx:m[m.length - 1]? =some x):
 (x::m.take (m.length - 1)).Perm l∧ ∀ y∈m.take (m.length - 1),x≤y:=by
 have hpl:m.Perm l:=hp.trans (Bx h0 (by omega))
 have hml:=hpl.length_eq
 have hx1:x=hAt l 0:=by
  have h1:=hk (l.length - 1) (Nat.le_refl _)
  rw [T4 h0 (by omega),if_pos rfl] at h1
  rw [←h1,Q5 (by omega)]
  rw [List.getElem?_eq_getElem (by omega)] at hx
  have:=Option.some.inj hx
  rw [←this];congr 1;omega
 have hsplit:m=m.take (m.length - 1)++ [x]:=by
  have h1:m.length - 1<m.length:=by omega
  rw [List.getElem?_eq_getElem h1] at hx
  have h2:=List.take_append_getElem h1
  rw [Option.some.inj hx] at h2
  rw [h2,show m.length - 1+1=m.length by omega,List.take_length]
 refine ⟨?_,fun y hy=> ?_⟩
 · refine List.Perm.trans ?_ hpl
   conv=>rhs;rw [hsplit]
   exact (List.perm_append_comm (l₁:=m.take (m.length - 1)) (l₂:= [x])).symm
 have hy2:y∈l:=hpl.mem_iff.1 (List.mem_of_mem_take hy)
 rw [hx1]
 have:=HeapDn.least (n:=l.length) h (Nat.le_refl _) h0 y (by rw [List.take_length];exact hy2)
 exact this
section
variable {G:World}{q pre:List HP}{a b A:Option Addr}{c d C p p0 p1 p2 i:Nat}{lo hi n cd dep:Int}{fv:Value}{x y:Ins}{t:Cod}{m:Mdl}{at_:Int}
variable {l:List Int}{b i j n:Nat}{z:Int}
set_option maxHeartbeats 1000000 in
theorem up_ok (h:HeapUp l l.length j)(hj:j<l.length)(hL:l.length≤1000000):CallF prog G 139 [plI b,.int .i64 (j:Int)] ([plB b l]) (Ret fun v q'=> ∃ l',HeapP l' l'.length∧l'.Perm l∧q'= [plB b l']):=by
 refine CallF.of func139 ntmps139 rfl (fun F cs=> ?_)
 refine xx 1 ?_;refine X.at (X.loop (fun (s:List Int×Nat)=>HeapUp s.1 s.1.length s.2∧s.1.Perm l∧s.2<s.1.length) (fun s=> [(0,plI b),(1,.int .i64 (s.2:Int))]) (fun s=>(plB b s.1::F)) (fun s=>s.2) (fun s hi_ ih=> ?_) (l,j) ⟨h,List.Perm.refl _,hj⟩) Zt leA
 try dsimp only at hi_ ih⊢
 obtain ⟨hu,hp,hs⟩:=hi_
 obtain ⟨m,j⟩:=s;dsimp only at*;have hmL:=hp.length_eq
 refine xo 6 ?_
 have hpl:par j≤j:=by unfold par;omega
 refine XO.know 7 (.int .i64 (par j:Int)) rfl (congrArg (Value.int .i64) (by rw [par_cast j];exact V4 (by omega) (by omega))) ?_
 refine oo 9 ?_;refine XO.part 11 rfl (fun h1=> ?_) (fun h1=> ?_)
 · replace h1:=sp h1
   have hj0:j=0:=by rcases Nat.eq_zero_or_pos j with e|e;exact e;have:=par_lt e;omega
   refine ox 9 ?_;refine Wr ([plB b m]) func139 (U1 results139) ⟨_,rfl,m,hu.done (.inl hj0),hp,rfl⟩
 replace h1:=sp h1
 have hpj:par j<m.length:=by unfold par;omega
 have hj0:0<j:=by rcases Nat.eq_zero_or_pos j with e|e;subst e;exact absurd rfl h1;exact e
 refine oo 3 ?_;refine Ht (Lo (l:=m) (i:=j) (j:=par j) hs hpj (by omega)) ?_
 rintro _ _ ⟨l9,⟨rfl,e9⟩,rfl⟩ _ e_;simp only [ca,na] at e_;subst e_
 obtain rfl:=e9.symm
 refine Zn (Pu.not rfl) ?_;refine ox 2 ?_;refine X.part 17 rfl (fun h2=> ?_) (fun h2=> ?_)
 · replace h2:=sp h2
   refine xx 2 ?_;refine Wr ([plB b m]) func139 (U1 results139) ⟨_,rfl,m,hu.done (.inr (by omega)),hp,rfl⟩
 replace h2:=sp h2
 refine xo 7 ?_;refine Ht (Ls (l:=m) (i:=par j) (j:=j) hpj hs (by omega)) ?_
 rintro _ _ ⟨_,rfl,rfl⟩ _ e_;simp only [ca,na] at e_;subst e_
 refine ox 6 ?_;refine X.at (ih (sw m (par j) j,par j) ⟨by rw [Tt];exact hu.step rfl hs hj0 (by omega),(Bx hpj hs).trans hp,by dsimp only;rw [Tt];exact hpj⟩ (par_lt hj0)) Zt leA
set_option maxHeartbeats 2000000 in
theorem down_ok (h:HeapDn l n 0)(hn:n≤l.length)(hL:l.length≤1000000):CallF prog G 137 [plI b,.int .i64 0,.int .i64 (n:Int)] ([plB b l]) (Ret fun v q'=> ∃ l',HeapP l' n∧l'.Perm l∧(∀ k,n≤k→hAt l' k=hAt l k)∧q'= [plB b l']):=by
 refine CallF.of func137 ntmps137 rfl (fun F cs=> ?_)
 refine xx 11 ?_;refine X.at (X.loop (fun (s:List Int×Nat)=>HeapDn s.1 n s.2∧s.1.Perm l∧(s.2<n∨s.2=0)∧ ∀ k,n≤k→hAt s.1 k=hAt l k) (fun s=> [(0,plI b),(1,.int .i64 0),(2,.int .i64 (n:Int)),(7,.int .i64 (s.2:Int))]) (fun s=>(plB b s.1::F)) (fun s=>(n - s.2)) (fun s hi_ ih=> ?_) (l,0) ⟨h,List.Perm.refl _,.inr rfl,fun _ _=>rfl⟩) Zt leA
 try dsimp only at hi_ ih⊢
 obtain ⟨hu,hp,hs,hk⟩:=hi_
 obtain ⟨m,i⟩:=s;dsimp only at*;have hmL:=hp.length_eq
 refine xo 15 ?_;refine XO.part 18 rfl (fun g1=> ?_) (fun g1=> ?_)
 · replace g1:=sp g1
   refine ox 13 ?_;refine Zq ([plB b m]) func137 (Zp results137 rfl) ⟨_,rfl,m,hu.done (fun k k1 k2 k3=>absurd k3 (by unfold par;omega)),hp,hk,rfl⟩
 replace g1:=sp g1
 refine ox 4 ?_;refine X.part 21 rfl (fun h1=> ?_) (fun h1=> ?_)
 · replace h1:=sp h1
   refine xx 9 ?_;refine Zq ([plB b m]) func137 (Zp results137 rfl) ⟨_,rfl,m,hu.done (fun k k1 k2 k3=>absurd k3 (by unfold par;omega)),hp,hk,rfl⟩
 replace h1:=sp h1
 refine xo 20 ?_;refine XO.part 28 rfl (fun h2=> ?_) (fun h2=> ?_)
 focus
  replace h2:=sp h2
  refine oo 3 ?_;refine XO.know 30 (.int .i64 ((2*i+2:Nat):Int)) rfl (congrArg (Value.int .i64) (by omega)) ?_
  refine XO.know 31 (.int .i64 ((2*i+1:Nat):Int)) rfl (congrArg (Value.int .i64) (by omega)) ?_
  refine XO.know 10 (.int .i64 ((2*i+2:Nat):Int)) rfl (congrArg (Value.int .i64) (by omega)) ?_
  refine XO.know 9 (.int .i64 ((2*i+1:Nat):Int)) rfl (congrArg (Value.int .i64) (by omega)) ?_
  refine XO.know 8 (.int .i64 ((2*i+1:Nat):Int)) rfl (congrArg (Value.int .i64) (by omega)) ?_
  refine Ht (Lo (l:=m) (i:=2*i+2) (j:=2*i+1) (by omega) (by omega) (by omega)) ?_
  rintro _ _ ⟨l9,⟨rfl,e9⟩,rfl⟩ _ e_;simp only [ca,na] at e_;subst e_
  obtain rfl:=e9.symm
  refine ox 2 ?_;refine X.part 33 rfl (fun h3=> ?_) (fun h3=> ?_)
  · replace h3:=sp h3
    have hM:=(show ∀ k,0<k→k<n→par k=i→hAt m (2*i+2)≤hAt m k from fun k k1 k2 k3=>by have:k=2*i+1∨k=2*i+2:=(by unfold par at k3;omega);rcases this with rfl|rfl<;>omega)
    refine xo 11 ?_;refine Ht (Lo (l:=m) (i:=2*i+2) (j:=i) (by omega) (by omega) (by omega)) ?_
    rintro _ _ ⟨l9,⟨rfl,e9⟩,rfl⟩ _ e_;simp only [ca,na] at e_;subst e_
    obtain rfl:=e9.symm
    refine Zn (Pu.not rfl) ?_;refine ox 1 ?_;refine X.part 39 rfl (fun h4=> ?_) (fun h4=> ?_)
    · replace h4:=sp h4
      refine xx 9 ?_;refine Zq ([plB b m]) func137 (Zp results137 rfl) ⟨_,rfl,m,hu.done (fun k k1 k2 k3=>by have:=hM k k1 k2 k3;omega),hp,hk,rfl⟩
    replace h4:=sp h4
    refine xo 7 ?_;refine Ht (Ls (l:=m) (i:=i) (j:=2*i+2) (by omega) (by omega) (by omega)) ?_
    rintro _ _ ⟨_,rfl,rfl⟩ _ e_;simp only [ca,na] at e_;subst e_
    refine ox 6 ?_;refine X.at (ih (sw m i (2*i+2),2*i+2) ⟨hu.step (by omega) (by omega) (by omega) (by unfold par;omega) (by omega) hM,(Bx (by omega) (by omega)).trans hp,.inl (by dsimp only;omega),fun k k1=>by dsimp only;rw [T4 (by omega) (by omega),if_neg (by omega),if_neg (by omega)];exact hk k k1⟩ (by dsimp only;omega)) Zt leA
  replace h3:=sp h3
  have hM:=(show ∀ k,0<k→k<n→par k=i→hAt m (2*i+1)≤hAt m k from fun k k1 k2 k3=>by have:k=2*i+1∨k=2*i+2:=(by unfold par at k3;omega);rcases this with rfl|rfl<;>omega)
  refine xo 8 ?_
 rotate_left
 focus
  replace h2:=sp h2
  refine oo 14 ?_
  have hM:=(show ∀ k,0<k→k<n→par k=i→hAt m (2*i+1)≤hAt m k from fun k k1 k2 k3=>by have:k=2*i+1:=(by unfold par at k3;omega);subst this;omega)
 all_goals
  refine Ht (Lo (l:=m) (i:=2*i+1) (j:=i) (by omega) (by omega) (by omega)) ?_
  rintro _ _ ⟨l9,⟨rfl,e9⟩,rfl⟩ _ e_;simp only [ca,na] at e_;subst e_
  obtain rfl:=e9.symm
  refine Zn (Pu.not rfl) ?_;refine ox 1 ?_;refine X.part 39 rfl (fun h4=> ?_) (fun h4=> ?_)
  · replace h4:=sp h4
    refine xx 9 ?_;refine Zq ([plB b m]) func137 (Zp results137 rfl) ⟨_,rfl,m,hu.done (fun k k1 k2 k3=>by have:=hM k k1 k2 k3;omega),hp,hk,rfl⟩
  replace h4:=sp h4
  refine xo 7 ?_;refine Ht (Ls (l:=m) (i:=i) (j:=2*i+1) (by omega) (by omega) (by omega)) ?_
  rintro _ _ ⟨_,rfl,rfl⟩ _ e_;simp only [ca,na] at e_;subst e_
  refine ox 6 ?_;refine X.at (ih (sw m i (2*i+1),2*i+1) ⟨hu.step (by omega) (by omega) (by omega) (by unfold par;omega) (by omega) hM,(Bx (by omega) (by omega)).trans hp,.inl (by dsimp only;omega),fun k k1=>by dsimp only;rw [T4 (by omega) (by omega),if_neg (by omega),if_neg (by omega)];exact hk k k1⟩ (by dsimp only;omega)) Zt leA
theorem hPush_ok (h:HeapP l l.length)(hL:l.length<1000000):CallF prog G 93 [plI b,.iface 3 (.int .i64 z)] ([plB b l]) (Ret fun v q'=> ∃ l',HeapP l' l'.length∧l'.Perm (z::l)∧q'= [plB b l']):=by
 refine CallF.of func93 ntmps93 rfl (fun F cs=> ?_)
 refine xo 4 ?_;refine Ht (mPush (l:=l) (z:=z) (by omega)) ?_
 rintro _ _ ⟨_,rfl,rfl⟩ _ e_;simp only [ca,na] at e_;subst e_
 refine oo 4 ?_;refine Ht (mLen (l:=l++ [z])) ?_
 rintro _ _ ⟨l9,⟨rfl,e9⟩,rfl⟩ _ e_;simp only [ca,na] at e_;subst e_
 subst e9
 have hll:(l++ [z]).length=l.length+1:=by simp
 refine oo 1 ?_;refine XO.know 10 (.int .i64 (l.length:Int)) rfl (congrArg (Value.int .i64) (by rw [hll];omega)) ?_
 refine V8 call139 (up_ok (l:=l++ [z]) (j:=l.length) h.app (by omega) (by omega)) ?_
 rintro _ _ ⟨l8,hh,hp,rfl⟩ _ e_;simp only [ca,na] at e_;subst e_
 refine ox 1 ?_;refine Wr ([plB b l8]) func93 (U1 results93) ⟨_,rfl,l8,hh,hp.trans (List.perm_append_comm (l₁:=l) (l₂:= [z])),rfl⟩
theorem hPop_ok (h:HeapP l l.length)(h0:0<l.length)(hL:l.length≤1000000):CallF prog G 90 [plI b] ([plB b l]) (Ret fun v q'=> ∃ x l',v= .iface 3 (.int .i64 x)∧(x::l').Perm l∧(∀ y∈l',x≤y)∧HeapP l' l'.length∧q'= [plB b l']):=by
 refine CallF.of func90 ntmps90 rfl (fun F cs=> ?_)
 refine xo 7 ?_;refine Ht (mLen (l:=l)) ?_
 rintro _ _ ⟨l9,⟨rfl,e9⟩,rfl⟩ _ e_;simp only [ca,na] at e_;subst e_
 subst e9
 refine oo 7 ?_;refine XO.know 8 (.int .i64 ((l9.length - 1:Nat):Int)) rfl (congrArg (Value.int .i64) (by omega)) ?_
 refine XO.know 3 (.int .i64 ((l9.length - 1:Nat):Int)) rfl (congrArg (Value.int .i64) (by omega)) ?_
 refine Ht (Ls (l:=l9) (i:=0) (j:=l9.length - 1) (by omega) (by omega) (by omega)) ?_
 rintro _ _ ⟨_,rfl,rfl⟩ _ e_;simp only [ca,na] at e_;subst e_
 have h0n:HeapDn (sw l9 0 (l9.length - 1)) (l9.length - 1) 0:=Ak (n:=l9.length - 1) (by rw [show l9.length - 1+1=l9.length by omega];exact h) (by omega)
 refine oo 5 ?_;refine V8 call137 (down_ok (l:=sw l9 0 (l9.length - 1)) (n:=l9.length - 1) h0n (by rw [Tt];omega) (by rw [Tt];omega)) ?_
 rintro _ _ ⟨m,hm,hp,hk,rfl⟩ _ e_;simp only [ca,na] at e_;subst e_
 have hml:=hp.length_eq;rw [Tt] at hml
 refine oo 4 ?_;refine Ht (mPop (l:=m) (by omega) (by omega)) ?_
 rintro _ _ ⟨_,⟨x,rfl,hx,rfl⟩,rfl⟩ _ e_;simp only [ca,na] at e_;subst e_
 obtain ⟨k1,k2⟩:=Ip h h0 hp hk hx
 refine ox 2 ?_;refine Zq ([plB b (m.take (m.length - 1))]) func90 (Zp results90 rfl) ⟨_,rfl,x,_,rfl,k1,k2,HeapP.take (n:=m.length - 1) (by rw [hml];exact hm) (by omega),rfl⟩
end
structure HI (D:List Int) (dn:List Bool) (l:List Int):Prop where
 len:dn.length=D.length
 mem: ∀ x:Int,x∈l↔0≤x∧Qh D dn x.toNat
 nd:l.Nodup
 hp:HeapP l l.length
 rng: ∀ i,dAt D i= -1∨(0≤dAt D i∧dAt D i≤25)
 dnp: ∀ i,dn.getD i false=true→0≤dAt D i
 cnt:l.length+D.count (-1)≤D.length
theorem dAt_ge {D:List Int}{i:Nat}(h:D.length≤i):dAt D i= -1:=by simp [dAt,List.getD_eq_getElem?_getD,List.getElem?_eq_none h]
theorem dAt_lt {D:List Int}{i:Nat}(h:0≤dAt D i):i<D.length:=by
 rcases Nat.lt_or_ge i D.length with e|e
 · exact e
 rw [dAt_ge e] at h;omega
theorem Un {D:List Int}{i:Nat}(h:i<D.length):dAt D i=D[i]:=by simp [dAt,List.getD_eq_getElem?_getD,h]
theorem A9 {dn:List Bool}{i j:Nat}{b:Bool}(hi:i<dn.length):(dn.set i b).getD j false=if j=i then b else dn.getD j false:=by
 simp only [List.getD_eq_getElem?_getD,List.getElem?_set]
 by_cases h:j=i
 · subst h;simp [hi]
 have h': ¬i=j:=fun e=>h e.symm
 simp [h,h']
theorem HI.nil {D:List Int}{dn:List Bool}(h:HI D dn []):Ur D dn=none:=
 H7 fun j _ ho=>by
  have:=(h.mem (j:Int)).2 ⟨by omega,by simpa using ho⟩
  simp at this
theorem HI.pop {D:List Int}{dn:List Bool}{l l':List Int}{x:Int}(h:HI D dn l)(hp:(x::l').Perm l)(hy: ∀ y∈l',x≤y)(hh:HeapP l' l'.length):
 0≤x∧x.toNat<D.length∧Ur D dn=some x.toNat∧Qh D dn x.toNat∧HI D (dn.set x.toNat true) l':=by
 have hx:x∈l:=hp.mem_iff.1 (List.mem_cons_self ..)
 obtain ⟨h0,ho⟩:=(h.mem x).1 hx
 have hlt:=dAt_lt ho.1
 have hnd:=(hp.nodup_iff).2 h.nd
 obtain ⟨hn1,hn2⟩:=List.nodup_cons.1 hnd
 refine ⟨h0,hlt,El hlt ho (fun j hj hjo=> ?_),ho,?_⟩
 · have hjl:(j:Int)∈l:=(h.mem j).2 ⟨by omega,by simpa using hjo⟩
   rcases List.mem_cons.1 (hp.mem_iff.2 hjl) with e|e
   · omega
   have:=hy _ e;omega
 have e:=fun j=>A9 (dn:=dn) (i:=x.toNat) (j:=j) (b:=true) (by rw [h.len];exact hlt)
 refine ⟨by rw [List.length_set];exact h.len,fun y=> ?_,hn2,hh,h.rng,fun i hi=> ?_,?_⟩
 · constructor
   · intro hm
     obtain ⟨k1,k2,k3⟩:=(h.mem y).1 (hp.mem_iff.1 (List.mem_cons_of_mem _ hm))
     refine ⟨k1,k2,?_⟩
     rw [e,if_neg (fun c=>hn1 (by rw [show x=y by omega];exact hm))];exact k3
   rintro ⟨k1,k2,k3⟩
   rw [e] at k3
   split at k3
   · cases k3
   rename_i c
   have:=(h.mem y).2 ⟨k1,k2,k3⟩
   rcases List.mem_cons.1 (hp.mem_iff.2 this) with e|e
   · exact absurd (by rw [e]) c
   exact e
 · rw [e] at hi
   split at hi
   · rename_i c;rw [c];exact ho.1
   exact h.dnp i hi
 have h7:=hp.length_eq;have h8:=h.cnt;rw [List.length_cons] at h7;omega
theorem HI.push {D:List Int}{dn:List Bool}{l l':List Int}{i:Nat}{b:Int}(h:HI D dn l)(hi:i<D.length)(hd:dAt D i= -1)(hb:0≤b∧b≤25)(hp:l'.Perm ((i:Int)::l))(hh:HeapP l' l'.length):HI (D.set i b) dn l':=by
 have e:=fun j=>Hx (D:=D) (i:=i) (j:=j) (b:=b) hi
 have hdn:dn.getD i false=false:=by
  cases hc:dn.getD i false with
  |false=>rfl
  |true=>have:=h.dnp i hc;omega
 have hni:(i:Int)∉l:=fun hm=>by have:=((h.mem _).1 hm).2.1;simp only [Int.toNat_natCast] at this;omega
 refine ⟨by rw [List.length_set];exact h.len,fun y=> ?_,(hp.nodup_iff).2 (List.nodup_cons.2 ⟨hni,h.nd⟩),hh,fun j=> ?_,fun j hj=> ?_,?_⟩
 · rw [hp.mem_iff,List.mem_cons]
   constructor
   · rintro (rfl|hm)
     · refine ⟨by omega,?_,by simpa using hdn⟩
       rw [e];simp [hb.1]
     obtain ⟨k1,k2,k3⟩:=(h.mem y).1 hm
     refine ⟨k1,?_,k3⟩
     rw [e];split
     · exact hb.1
     exact k2
   rintro ⟨k1,k2,k3⟩
   rw [e] at k2
   split at k2
   · left;omega
   exact .inr ((h.mem y).2 ⟨k1,k2,k3⟩)
 · rw [e];split
   · exact .inr hb
   exact h.rng j
 · rw [e];split
   · exact hb.1
   exact h.dnp j hj
 have h1:=List.count_set (a:=b) (b:=(-1:Int)) hi
 rw [h1,List.length_set,hp.length_eq,List.length_cons]
 rw [Un hi] at hd
 have h2:0<D.count (-1):=List.count_pos_iff.2 (hd ▸ List.getElem_mem hi)
 have h3:=h.cnt
 have e1:(D[i]==(-1:Int))=true:=by rw [hd];rfl
 have e2:(b==(-1:Int))=false:=beq_eq_false_iff_ne.2 (by omega)
 rw [e1,e2];simp;omega
theorem Se {n:Nat}(hn:0<n):HI ((List.replicate n (-1)).set 0 0) (List.replicate n false) [0]:=by
 have e:=fun j=>Hx (D:=List.replicate n (-1)) (i:=0) (j:=j) (b:=0) (by simpa using hn)
 have e0: ∀ j,dAt (List.replicate n (-1)) j= -1:=fun j=>by
  unfold dAt;rw [List.getD_eq_getElem?_getD,List.getElem?_replicate];split<;>rfl
 have ef: ∀ j,(List.replicate n false).getD j false=false:=fun j=>by
  rw [List.getD_eq_getElem?_getD,List.getElem?_replicate];split<;>rfl
 refine ⟨by simp,fun x=> ?_,by simp,fun k h1 h2=>by simp at h2;omega,fun i=> ?_,fun i hi=>(by rw [ef] at hi;cases hi),?_⟩
 · rw [List.mem_singleton]
   constructor
   · rintro rfl;exact ⟨by omega,by rw [e];simp,ef _⟩
   rintro ⟨k1,k2,k3⟩
   rw [e,e0] at k2
   split at k2<;>omega
 · rw [e,e0];split<;>simp
 rw [List.count_set (by simpa using hn)];simp
 omega
theorem noFalse {dn:List Bool}{a:Nat}(h:(dn.filter (· ==false)).length=0)(ha:a<dn.length):dn.getD a false=true:=by
 have h1:=List.eq_nil_of_length_eq_zero h
 rw [List.filter_eq_nil_iff] at h1
 have:=h1 dn[a] (List.getElem_mem ha)
 simp [List.getD,ha]
 simpa using this
theorem Sq: ∀ (dn:List Bool) (a:Nat),a<dn.length→dn.getD a false=false→((dn.set a true).filter (· ==false)).length+1=(dn.filter (· ==false)).length:=by
 intro dn
 induction dn with
 |nil=>intro a h;simp at h
 |cons x r ih=>
  intro a ha h
  cases a with
  |zero=>simp at h;subst h;simp
  |succ a=>
   have:=ih a (by simpa using ha) (by simpa using h)
   cases x
   · simp only [List.set_cons_succ,List.filter_cons,beq_self_eq_true,if_true,List.length_cons];omega
   simpa using this
def dOf (m:Mdl)(t:Cod):List Int×Int:=
 if t.ins.length=0 then ([],170) else if ¬ (∀ x∈t.ins,Vh m t x) then ([],171) else Je (Vs t) t.ins.length ((List.replicate t.ins.length (-1)).set 0 0) (List.replicate t.ins.length false)
theorem thrS_end {ins:List Tp}{D:List Int}{dn:List Bool}(k:Nat)(h:HI D dn []):Je ins k D dn=(D,0):=by
 cases k with
 |zero=>rfl
 |succ k=>unfold Je;rw [h.nil]
theorem Sz {dn:List Bool}{a:Nat}(ha:a<dn.length)(h:dn.getD a false=false):0<(dn.filter (· ==false)).length:=by
 rcases Nat.eq_zero_or_pos (dn.filter (· ==false)).length with e|e
 · have:=noFalse e ha;rw [h] at this;cases this
 exact e
theorem L9 {D:List Int}{N:Nat}(h:D.length=N)(h2: ∀ i (hi:i<D.length),i<N→D[i]= -1):D=List.replicate N (-1):=by
 refine List.ext_getElem (by simp [h]) (fun i h1 h3=> ?_)
 rw [List.getElem_replicate];exact h2 i h1 (by omega)
theorem Eu {ins:List Tp}{k a:Nat}{D:List Int}{dn:List Bool}(h:Ur D dn=some a):Je ins (k+1) D dn=if (Wo ins a (dAt D a)).2≠0 then ([],(Wo ins a (dAt D a)).2) else match Vy (Wo ins a (dAt D a)).1 D (Qw (ins.getD a zI) a) with
 |none=>([],174)
 |some D'=>Je ins k D' (dn.set a true):=by
 conv=>lhs;unfold Je
 rw [h];rfl
theorem Lu {ins:List Tp}{a:Nat}{d:Int}(h:(Wo ins a d).2=0):(Wo ins a d).1≤25:=by
 unfold Wo at h⊢
 simp only at h⊢
 split at h
 · cases h
 rename_i h1
 split at h
 · cases h
 rename_i h2
 split at h
 · cases h
 rename_i h3
 rw [if_neg h1,if_neg h2,if_neg h3];dsimp only;omega
structure VI (D0:List Int) (dn:List Bool) (b:Int) (xs:List Int) (k:Nat) (s:List Int×List Int):Prop where
 hi:HI s.1 dn s.2
 len:s.1.length=D0.length
 go:Vy b D0 xs=Vy b s.1 (xs.drop k)
def viH (D:List Int)(dn:List Bool)(b:Int)(xs:List Int)(g N nb k:Nat):HP:=ex fun s:List Int×List Int=>stars [Wx.pure (VI D dn b xs k s),lsH I64 3 (some ⟨g,0,none⟩) N s.1,plB nb s.2]
theorem Am {D:List Int}{dn:List Bool}{b:Int}{xs:List Int}{g N nb k:Nat}{q r:List HP}(s:List Int×List Int)(h:VI D dn b xs k s)(hle:Le q (lsH I64 3 (some ⟨g,0,none⟩) N s.1::plB nb s.2::r)):Le q (viH D dn b xs g N nb k::r):=
 C6 s (hle.trans ((Q3 h _).trans (by exact W6 [_,_,_] r)))
theorem X.viH {P:Program}{G:World}{f:Fc}{Q:Y9}{todo:List Item}{p:PE}{ds:List Deferred}{cs:List Frame}{D:List Int}{dn:List Bool}{b:Int}{xs:List Int}{g N nb k:Nat}{q:List HP}
 (x: ∀ D' l',VI D dn b xs k (D',l')→X P G f Q todo p ds cs (lsH I64 3 (some ⟨g,0,none⟩) N D'::plB nb l'::q)):X P G f Q todo p ds cs (Go.Proofs.YtgonllbkcgaliaaGreatDoor.viH D dn b xs g N nb k::q):=
 X.ex (fun s=>X.le (Wf _ _) (X.pure (fun h=>x s.1 s.2 h)))
theorem Ld {x:Ins}(h:U7 x)(a:Nat): ∀ y∈nxt x (a:Int),0≤y:=by
 intro y hy
 have h1:=h.2.1
 unfold nxt at hy
 have hA:(x.c=19∨x.c=20∨x.c=21)→0≤x.a:=fun hc=>by
  rw [if_pos (by unfold nmA;exact decide_eq_true (by omega))] at h1;exact h1.1
 (repeat' split at hy)<;>simp at hy<;>first|(have:=hA (by omega);omega)|omega
theorem VI.step {D0:List Int}{dn:List Bool}{b:Int}{xs:List Int}{k y:Nat}{D l:List Int}(h:VI D0 dn b xs k (D,l))(hk:k<xs.length)(hy:xs[k]=(y:Int))(hyl:y<D.length):Vy b D0 xs=if 0≤D[y]∧D[y]≠b then none else Vy b (D.set y b) (xs.drop (k+1)):=by
 rw [h.go,List.drop_eq_getElem_cons hk,hy]
 conv=>lhs;unfold Vy
 simp only [Int.toNat_natCast,Un hyl]
section
variable {G:World}{q pre:List HP}{a b A:Option Addr}{c d C p p0 p1 p2 i:Nat}{lo hi n cd dep:Int}{fv:Value}{x y:Ins}{t:Cod}{m:Mdl}{at_:Int}
variable {pm om pt ot n:Nat}
set_option maxHeartbeats 4000000 in
theorem Re (g:GE q)(hm:CellsAt q pm om (Wp m))(ht:CellsAt q pt ot (Wk t))(hq:CodQ q t)(hin: ∀ x∈t.ins,U7 x)(hL:t.ins.length≤65536):CallF prog G 55 [.pointer (some ⟨pm,om,none⟩),.pointer (some ⟨pt,ot,none⟩)] (q) (Ret fun v q'=>((dOf m t).2≠0∧v= .tuple [.slice none 0 0,.int .i64 (dOf m t).2].toArray∧q'=q)∨((dOf m t).2=0∧ ∃ a' c',v= .tuple [.slice a' (dOf m t).1.length c',.int .i64 0].toArray∧q'=lsH I64 3 a' c' (dOf m t).1::q)):=by
 refine CallF.of func55 ntmps55 rfl (fun F cs=> ?_)
 have hs:=hq.i;have hlen:=Zm (f:=Zr) (sz:=4) (fun _=>rfl) t.ins
 have hc: ∀ x∈t.ins,1≤x.c∧x.c≤34:=fun x hx=>(hin x hx).1
 refine xo 12 ?_;refine ld ?_ (hc:=((ht 2 _ rfl).le leA))
 refine ox 3 ?_;refine X.part 19 rfl (fun h0=> ?_) (fun h0=> ?_)
 · replace h0:=sp h0
   refine xx 6 ?_
   have hD:dOf m t=([],170):=by unfold dOf;rw [if_pos (by omega)]
   refine Zq (q) func55 (V9 results55 rfl rfl) ⟨_,rfl,.inl ⟨by rw [hD];decide,by rw [hD],rfl⟩⟩
 replace h0:=sp h0;have hN:0<t.ins.length:=by omega
 refine xo 7 ?_;refine XO.cR call88 (G5 (hm.le leA) (ht.le leA) (hq.le leA)) ?_;refine Zn (Pu.not rfl) ?_;refine ox 1 ?_;refine X.part 23 rfl (fun h1=> ?_) (fun h1=> ?_)
 · replace h1:=sp h1
   refine xx 6 ?_
   have hD:dOf m t=([],171):=by unfold dOf;rw [if_neg (by omega),if_pos (by simpa using h1)]
   refine Zq (q) func55 (V9 results55 rfl rfl) ⟨_,rfl,.inl ⟨by rw [hD];decide,by rw [hD],rfl⟩⟩
 replace h1:=sp h1
 have hT:dOf m t=Je (Vs t) t.ins.length ((List.replicate t.ins.length (-1)).set 0 0) (List.replicate t.ins.length false):=by unfold dOf;rw [if_neg (by omega),if_neg (by simpa using h1)]
 generalize dOf m t=T at hT⊢
 refine xo 7 ?_;refine ld ?_ (hc:=((ht 2 _ rfl).le leA))
 refine oo 1 ?_;refine XO.ef (Hh (n:=t.ins.length) rfl rfl underlying23 Tryz.info3 rfl rfl (by omega) (by omega)) ?_
 rintro _ _ ⟨g0,rfl,rfl⟩
 refine XO.le (q':=lsH I64 3 (some ⟨g0,0,none⟩) t.ins.length (List.replicate t.ins.length 0)::_) (Le.trans Zw (by rw [show lsH I64 3 (some ⟨g0,0,none⟩) t.ins.length (List.replicate t.ins.length 0)=slH (some ⟨g0,0,none⟩) t.ins.length 3 1 t.ins.length ((List.replicate t.ins.length (Value.cells (.int .i64 0)).toList).flatten) from by unfold lsH;rw [List.length_replicate];congr 1;induction t.ins.length with|zero=>rfl|succ n ih=>simp [List.replicate_succ,Value.cells] at*];exact Le.refl _)) ?_
 refine Zy zeroValue23 fun n1=> ?_
 refine st ?_;refine oo 4 ?_;refine ld ?_;refine ox 4 ?_;refine X.at (X.loop (fun (s:List Int×Nat)=>s.1.length=t.ins.length∧s.2≤t.ins.length∧ ∀ i (h:i<s.1.length),i<s.2→s.1[i]= -1) (fun s=> [(32,.int .i64 (s.2:Int)),(31,.int .i64 (t.ins.length:Int)),(6,.pointer (some ⟨n1,0,none⟩)),(5,.int .i64 0),(4,.slice none 0 0),(0,.pointer (some ⟨pm,om,none⟩)),(1,.pointer (some ⟨pt,ot,none⟩))]) (fun s=>pto n1 (.cells [.slice (some ⟨g0,0,none⟩) t.ins.length t.ins.length].toArray 23 (0,0))::lsH I64 3 (some ⟨g0,0,none⟩) t.ins.length s.1::(q++F)) (fun s=>t.ins.length - s.2) (fun s hi_ ih=> ?_) (List.replicate t.ins.length 0,0) ⟨by simp,by omega,fun i _ h=>absurd h (Nat.not_lt_zero _)⟩) Zt leA
 try dsimp only at hi_ ih⊢
 obtain ⟨hl1,hl2,hl3⟩:=hi_
 obtain ⟨D,k⟩:=s;dsimp only at*
 refine xx 5 ?_;refine X.part 33 rfl (fun h2=> ?_) (fun h2=> ?_)
 · replace h2:=sp h2
   refine xo 10 ?_;refine ld ?_;refine oo 2 ?_;refine XO.ef0 (Up (l:=D) (n:=k) (u:= -1) rfl rfl sizeOf3 rfl (by omega) rfl rfl Zw) ?_
   rintro _ _ ⟨rfl,rfl⟩
   refine ox 6 ?_;refine X.at (ih (D.set k (-1),k+1) ⟨by rw [List.length_set];exact hl1,by dsimp only;omega,fun i hh hk=>by dsimp only at hk hh⊢;rw [List.getElem_set];split;rfl;exact hl3 i (by rw [List.length_set] at hh;exact hh) (by omega)⟩ (by dsimp only;omega)) Zt leA
 replace h2:=sp h2
 have hrep:D=List.replicate t.ins.length (-1):=L9 hl1 (fun i h1 h3=>hl3 i h1 (by omega))
 clear hl3
 refine xo 4 ?_;refine ld ?_;refine oo 1 ?_;refine XO.ef0 (Up (l:=D) (n:=0) (u:=0) rfl rfl sizeOf3 rfl (by omega) rfl rfl Zw) ?_
 rintro _ _ ⟨rfl,rfl⟩
 refine oo 3 ?_;refine XO.ef (Yj I64 [0] underlying172 Tryz.info3 rfl rfl rfl rfl rfl rfl (fun _=>rfl)) ?_
 rintro _ _ ⟨g1,rfl,rfl⟩
 refine Zb fun n2=> ?_
 refine Zy zeroValue171 fun n3=> ?_
 refine st ?_;refine oo 3 ?_;refine Zy zeroValue35 fun n4=> ?_
 refine st ?_;refine ox 5 ?_
 subst hrep
 refine X.at (X.loopD (fun (s:List Int×List Bool×List Int×Nat×List Nat)=>HI s.1 s.2.1 s.2.2.1∧s.1.length=t.ins.length∧(s.2.1.filter (· ==false)).length≤s.2.2.2.1∧Je (Vs t) s.2.2.2.1 s.1 s.2.1=T) (fun s=> [(8,.pointer (some ⟨n3,0,none⟩)),(9,.pointer (some ⟨n4,0,none⟩)),(6,.pointer (some ⟨n1,0,none⟩)),(5,.int .i64 0),(4,.slice none 0 0),(0,.pointer (some ⟨pm,om,none⟩)),(1,.pointer (some ⟨pt,ot,none⟩))]) (fun s=>s.2.2.2.2.map markD++ []) (fun s=>mks s.2.2.2.2::pto n1 (.cells [.slice (some ⟨g0,0,none⟩) t.ins.length t.ins.length].toArray 23 (0,0))::lsH I64 3 (some ⟨g0,0,none⟩) t.ins.length s.1::plB n2 s.2.2.1::pto n3 (.cells [.pointer (some ⟨n2,0,none⟩)].toArray 171 (0,0))::pto n4 (.cells [.int .i64 0].toArray 35 (0,0))::(q++F)) (fun s=>s.2.2.2.1) (fun s hi_ ih=> ?_) ((List.replicate t.ins.length (-1)).set 0 0,List.replicate t.ins.length false, [0],t.ins.length, []) ⟨Se hN,by simp,Nat.le_trans (List.length_filter_le _ _) (by simp),hT.symm⟩) Zt (by refine Le.trans ?_ (Po _);refine Le.pick Zw (Le.pick Zw (Le.bx (a:=some ⟨g1,0,none⟩) (c:=1) ?_));exact leA)
 try dsimp only at hi_ ih⊢
 obtain ⟨hI,hDN,hfu,hT⟩:=hi_
 skip
 obtain ⟨D,dn,l,fu,rs⟩:=s;dsimp only at hI hDN hfu hT ih⊢
 have hlN:l.length≤65536:=by have:=hI.cnt;omega
 refine X.le (q':=plB n2 l::_) Zw (X.bx (fun a1 c1=> ?_))
 refine xo 3 ?_;refine ld ?_;refine oo 1 ?_;refine ld ?_;refine V8 call89 (Gs (b:=n2)) ?_
 rintro _ _ ⟨rfl,rfl⟩ _ e_;simp only [ca,na] at e_;subst e_
 refine ox 2 ?_;refine X.le (q':=plB n2 l::_) (Le.bx (a:=a1) (c:=c1) (Le.pick Zw Zw)) ?_
 refine X.part 47 rfl (fun h3=> ?_) (fun h3=> ?_)
 · replace h3:=sp h3
   refine xo 5 ?_;refine ld ?_;refine oo 1 ?_;refine V8 call90 (hPop_ok (b:=n2) hI.hp (by omega) (by omega)) ?_
   rintro _ _ ⟨x,l',rfl,hp1,hp2,hp3,rfl⟩ _ e_;simp only [ca,na] at e_;subst e_
   obtain ⟨hx0,hxl,hle,hop,hI'⟩:=hI.pop hp1 hp2 hp3
   obtain ⟨a,rfl⟩: ∃ a:Nat,x=a:=⟨x.toNat,by omega⟩
   simp only [Int.toNat_natCast] at hxl hle hop hI'
   have hfp:=Sz (a:=a) (dn:=dn) (by rw [hI.len];exact hxl) hop.2
   have hfs:=Sq dn a (by rw [hI.len];exact hxl) hop.2
   obtain ⟨fv,rfl⟩: ∃ f,fu=f+1:=⟨fu - 1,by omega⟩
   rw [Eu hle,Un hxl] at hT;have hrg:=hI.rng a;have hop1:=hop.1;rw [Un hxl] at hrg hop1
   have haN:a<t.ins.length:=by omega
   refine Zn (Dt rfl underlying3 rfl) ?_;refine oo 6 ?_;refine ld ?_;refine oo 2 ?_;refine ld ?_ (hc:=(Cl.e1 (Sees.lsH _) Zw hxl rfl))
   refine XO.cR call91 (look_ok (n:=a) (dep:=D[a]) (g.le leA) (ht.le leA) (hq.le leA) hc hL haN (by omega)) ?_
   have hO1:(Wo (Vs t) a D[a]).2=0→(∀ x∈Qw ((Vs t).getD a zI) a,x<((Vs t).length:Int))∧0≤(Wo (Vs t) a D[a]).1∧(Wo (Vs t) a D[a]).1≤25:=fun h=>⟨(Qg h).1,(Qg h).2.1 hop1,Lu h⟩
   generalize Wo (Vs t) a D[a]=O at hT hO1⊢
   refine oo 3 ?_;refine Zy zeroValue3 fun n5=> ?_
   refine st ?_;refine ox 8 ?_;refine X.part 63 rfl (fun h4=> ?_) (fun h4=> ?_)
   · have hne:O.2≠0:=by simpa using h4
     refine xo 4 ?_;refine st ?_;refine oo 5 ?_;refine ld ?_;refine ox 2 ?_;refine X.know 96 (.bool true) rfl (congrArg Value.bool (by rw [bne_iff_ne];exact hne)) ?_
     refine xx 2 ?_;refine drw ?_;refine ldD 0 ?_;refine dd [1,2] ?_;refine XD.nil ?_
     have hTT:T=([],O.2):=by rw [if_pos hne] at hT;exact hT.symm
     refine X.ret ⟨rfl,?_⟩
     refine Lv.mks ?_;exact Lv.ret (q':=q) func55 (V9 results55 rfl rfl) ⟨_,rfl,.inl ⟨by rw [hTT];exact hne,by rw [hTT],rfl⟩⟩ leB
   replace h4:=sp h4
   rw [if_neg (by omega),Vl haN] at hT;obtain ⟨hO1,hO2,hO3⟩:=hO1 (by omega);rw [Vl haN,W8] at hO1;rw [←Nn] at hO1 hT
   refine xo 7 ?_;refine ld ?_ (hc:=((ht 2 _ rfl).le leA))
   refine oo 1 ?_;refine Yz hs (by rw [hlen];omega) (fun b1 o1 e1=> ?_)
   have hs1:=hs;rw [e1] at hs1
   refine XO.know 68 (.slice (some ⟨b1,o1,none⟩) t.ins.length t.ic) rfl (by rw [e1]) ?_
   refine oo 1 ?_;refine Wn (n:=a) isAgg48 sizeOf48 hs1 haN ?_
   refine oo 1 ?_;refine V8 call92 (E0 (x:=t.ins[a])) ?_
   rintro _ _ ⟨p1,p2,rfl,rfl⟩ _ e_;simp only [ca,na] at e_;subst e_
   refine ox 2 ?_;refine X.le (q':=pto p1 (.cells (Zr t.ins[a]).toArray 48 (0,0))::_) Zw (X.freeze ?_)
   refine X.le (q':=pto p2 (.cells [.int .i64 (a:Int)].toArray 3 (0,0))::_) Zw (X.freeze ?_)
   have hxs: ∀ y∈nxt t.ins[a] (a:Int),0≤y∧y<t.ins.length:=fun y hy=>⟨Ld (hin _ (List.getElem_mem haN)) a y hy,hO1 y hy⟩
   refine X.range [im p1 (.cells (Zr t.ins[a]).toArray 48 (0,0)),im p2 (.cells [.int .i64 (a:Int)].toArray 3 (0,0))] (fun k=>viH D (dn.set a true) O.1 (nxt t.ins[a] (a:Int)) g0 t.ins.length n2 k::pto n1 (.cells [.slice (some ⟨g0,0,none⟩) t.ins.length t.ins.length].toArray 23 (0,0))::pto n3 (.cells [.pointer (some ⟨n2,0,none⟩)].toArray 171 (0,0))::pto n4 (.cells [.int .i64 0].toArray 35 (0,0))::pto n5 (.cells [.int .i64 O.1].toArray 3 (0,0)):: []) (fun e qs=>e= .exit 2∧qs=Wx.pure (Vy O.1 D (nxt t.ins[a] (a:Int))=none)::pto n4 (.cells [.int .i64 174].toArray 35 (0,0)):: []) (F:=mks rs::(q++F)) (R0 (x:=t.ins[a]) ⟨by omega,by omega⟩) rfl ?_ (by intro x hx;obtain ⟨y,_,rfl⟩:=List.mem_map.1 hx;rfl) rfl (by rw [func55];rfl) rfl (fun i hi l2 rec F0 cs0=> ?_) (fun r=> ?_) (fun r c2 qs2 hJ=> ?_)
   · simp only [ca,na];refine Am (D,l') ⟨hI',rfl,by simp⟩ ?_;exact leA
   · have hi':i<(nxt t.ins[a] (a:Int)).length:=by simpa using hi
     rw [List.getElem_map]
     simp only [Gw,ivs]
     have hyb:=hxs _ (List.getElem_mem hi')
     obtain ⟨y,hy⟩: ∃ y:Nat,(nxt t.ins[a] (a:Int))[i]=(y:Int):=⟨((nxt t.ins[a] (a:Int))[i]).toNat,by omega⟩
     rw [hy] at hyb⊢
     simp only [ca,na]
     refine X.le (q':=viH D (dn.set a true) O.1 (nxt t.ins[a] (a:Int)) g0 t.ins.length n2 i::_) Zw (X.viH (fun D1 l1 hV=> ?_))
     have hV1:=hV.len;dsimp only at hV1;have hyl:y<D1.length:=by omega
     have hst:=hV.step hi' hy hyl;have hrg1:=hV.hi.rng y;dsimp only at hrg1;rw [Un hyl] at hrg1;have hc1:=hV.hi.cnt;dsimp only at hc1
     refine xx 3 ?_;refine X.beginRound rfl leA ?_;refine xo 3 ?_;refine ld ?_;refine oo 2 ?_;refine ld ?_ (hc:=(Cl.e1 (Sees.lsH _) Zw hyl rfl))
     refine ox 2 ?_;refine X.part 79 rfl (fun k1=> ?_) (fun k1=> ?_)
     · replace k1:=sp k1
       refine xo 3 ?_;refine ld ?_;refine oo 1 ?_;refine ld ?_;refine oo 1 ?_;refine XO.ef0 (Up (l:=D1) (n:=y) (u:=O.1) rfl rfl sizeOf3 rfl hyl rfl rfl Zw) ?_
       rintro _ _ ⟨rfl,rfl⟩
       refine oo 2 ?_;refine ld ?_;refine oo 3 ?_;refine V8 call93 (hPush_ok (b:=n2) (l:=l1) (z:=(y:Int)) hV.hi.hp (by omega)) ?_
       rintro _ _ ⟨l2',hq1,hq2,rfl⟩ _ e_;simp only [ca,na] at e_;subst e_
       refine ox 2 ?_;refine X.fall ⟨rfl,rfl,?_⟩
       simp only [ca,na]
       refine Le.pick Zw (Am (D1.set y O.1,l2') ⟨hV.hi.push hyl (by rw [Un hyl];exact k1) ⟨hO2,hO3⟩ hq2 hq1,by rw [List.length_set];exact hV1,by rw [hst,if_neg (by omega)]⟩ ?_)
       exact leA
     replace k1:=sp k1
     refine xx 2 ?_;refine drw ?_;refine ldD 0 ?_;refine dd [1,2] ?_;refine ldD 3 ?_ (hc:=(Cl.e1 (Sees.lsH _) Zw hyl rfl))
     refine ldD 4 ?_;refine dd [5] ?_;refine XD.nil ?_;refine X.part 94 rfl (fun k2=> ?_) (fun k2=> ?_)
     · replace k2:=sp k2
       refine xo 3 ?_;refine st ?_;refine ox 1 ?_;refine X.out rfl ⟨rfl,rfl,_,⟨rfl,rfl⟩,?_⟩
       simp only [ca,na]
       refine Le.pick Zw (Le.trans ?_ (Q3 (show Vy O.1 D (nxt t.ins[a] (a:Int))=none by rw [hst,if_pos ⟨by omega,by omega⟩]) _))
       exact leA
     replace k2:=sp k2
     refine xx 3 ?_
     have hse:D1.set y O.1=D1:=by rw [←k2];exact List.set_getElem_self hyl
     refine X.fall ⟨rfl,rfl,?_⟩
     simp only [ca,na]
     refine Le.pick Zw (Am (D1,l1) ⟨hV.hi,hV1,by rw [hst,if_neg (by omega),hse]⟩ ?_)
     exact leA
   · simp only [ca,na]
     rw [List.length_map]
     refine X.le (q':=viH D (dn.set a true) O.1 (nxt t.ins[a] (a:Int)) g0 t.ins.length n2 (nxt t.ins[a] (a:Int)).length::_) Zw (X.viH (fun D1 l1 hV=> ?_))
     have hV1:=hV.len;have hV2:=hV.hi;have hV3:=hV.go;dsimp only at hV1 hV2 hV3;rw [List.drop_length] at hV3;rw [hV3] at hT;simp only [Vy] at hT
     refine xx 2 ?_;refine X.at (ih (D1,dn.set a true,l1,fv,r::rs) ⟨hV2,by dsimp only;omega,by dsimp only;omega,hT⟩ (by dsimp only;omega)) Zt (by refine Le.trans ?_ (Aq _ _ _);exact leB)
   obtain ⟨rfl,rfl⟩:=hJ
   simp only [ca,na]
   refine X.le (q':=Wx.pure (Vy O.1 D (nxt t.ins[a] (a:Int))=none)::_) Zw (X.pure (fun hP=> ?_))
   rw [hP] at hT;dsimp only at hT
   refine xo 4 ?_;refine ld ?_;refine ox 2 ?_;refine X.know 96 (.bool true) rfl (congrArg Value.bool (by rw [bne_iff_ne];decide)) ?_
   refine xx 2 ?_;refine drw ?_;refine ldD 0 ?_;refine dd [1,2] ?_;refine XD.nil ?_
   have hTT:T=([],174):=hT.symm
   refine X.ret ⟨rfl,?_⟩
   refine C5 ?_;refine Lv.mks ?_;exact Lv.ret (q':=q) func55 (V9 results55 rfl rfl) ⟨_,rfl,.inl ⟨by rw [hTT];decide,by rw [hTT],rfl⟩⟩ leB
 replace h3:=sp h3
 have hl0:l= []:=List.eq_nil_of_length_eq_zero (by omega)
 rw [hl0] at hI;rw [thrS_end fu hI] at hT
 refine xo 5 ?_;refine ld ?_;refine ox 2 ?_;refine Zj 96 ?_;refine xo 4 ?_;refine ld ?_;refine ox 3 ?_;refine X.ret ⟨rfl,?_⟩
 refine Lv.mks ?_;exact Lv.ret (q':=(lsH I64 3 (some ⟨g0,0,none⟩) t.ins.length D::q)) func55 (V9 results55 rfl rfl) ⟨_,rfl,.inr ⟨by rw [←hT],_,_,by rw [←hT,hDN],by rw [←hT]⟩⟩ leB
end
def T6 (m:Mdl)(th:Int):List Int×Int:=if Q9 m≠0 then ([],Q9 m) else if h:0≤th∧th.toNat<m.threads.length then dOf m m.threads[th.toNat] else ([],2)
def Tc (m:Mdl):List Cod→Int
 | []=>0
 |t::r=>if (dOf m t).2≠0 then (dOf m t).2 else Tc m r
def Qb (m:Mdl):Int:=if Q9 m≠0 then Q9 m else Tc m m.threads
theorem Mp {m:Mdl}(h:Q9 m=0){t:Cod}(ht:t∈m.threads):(∀ x∈t.ins,U7 x)∧t.ins.length≤65536:=by
 have h1:=Dq.1 h
 have h2:=h1.2.2.2.2.2.2 t ht
 exact ⟨h2.2.2.2.1.2,by have:=h2.2.2.2.1.1;omega⟩
theorem Lc (x:Ins)(a:Int):(nxt x a).length≤1000000:=by
 unfold nxt
 (repeat' split)<;>simp
section
variable {G:World}{q pre:List HP}{a b A:Option Addr}{c d C p p0 p1 p2 i:Nat}{lo hi n cd dep:Int}{fv:Value}{x y:Ins}{t:Cod}{m:Mdl}{at_:Int}
variable {pm om pt ot n:Nat}{th:Int}
set_option maxHeartbeats 2000000 in
theorem Od (gc:GC q)(g:GE q)(hq:MdlQ q m):CallF prog G 53 [.agg (Wp m).toArray,.int .i64 th] (q) (Ret fun v q'=>((T6 m th).2≠0∧v= .tuple [.slice none 0 0,.int .i64 (T6 m th).2].toArray∧q'=q)∨((T6 m th).2=0∧ ∃ a' c',v= .tuple [.slice a' (T6 m th).1.length c',.int .i64 0].toArray∧q'=lsH I64 3 a' c' (T6 m th).1::q)):=by
 refine CallF.of func53 ntmps53 rfl (fun F cs=> ?_)
 have hlen:=Zm (f:=Wk) (sz:=4) (fun _=>rfl) m.threads;have hnt:=hq.nt
 refine xo 2 ?_;refine Zb fun n1=> ?_
 refine oo 6 ?_;refine ldA ?_;refine XO.cR call54 (Ab (gc.le leA) (hq.le leA)) ?_;refine ox 7 ?_;refine X.part 10 rfl (fun h1=> ?_) (fun h1=> ?_)
 · replace h1:=sp h1
   refine xx 7 ?_
   have hk1:Q9 m≠0:=by omega
   have hdp:T6 m th=([],Q9 m):=by unfold T6;rw [if_pos hk1]
   refine Zq (q) func53 (V9 results53 rfl rfl) ⟨_,rfl,.inl ⟨by rw [hdp];exact hk1,by rw [hdp],rfl⟩⟩
 replace h1:=sp h1
 refine xo 8 ?_;refine Zf [14,5,4,2,1] ?_
 apply Zx 6 20 14 rfl
 · intro g2 M2;have h2:=sp g2
   refine oo 2 ?_;refine ld ?_;refine oo 3 ?_;exact Zz M2 ⟨orF g2,Zv⟩
 · intro g2 M2;have h2:=sp g2
   refine oo 6 ?_;exact Zz M2 ⟨orT g2,Zv⟩
 refine ox 1 ?_;refine X.part 20 rfl (fun h2=> ?_) (fun h2=> ?_)
 · replace h2:=sp h2
   refine xx 6 ?_
   have hk0:Q9 m=0:=by omega
   have hdp:T6 m th=([],2):=by unfold T6;rw [if_neg (by omega),dif_neg (by omega)]
   refine Zq (q) func53 (V9 results53 rfl rfl) ⟨_,rfl,.inl ⟨by rw [hdp];decide,by rw [hdp],rfl⟩⟩
 replace h2:=sp h2
 refine xo 5 ?_;refine ld ?_;refine oo 1 ?_;refine Yz hq.t (by rw [hlen];omega) (fun b1 o1 e1=> ?_)
 have hs1:=hq.t;rw [e1] at hs1
 refine XO.know 22 (.slice (some ⟨b1,o1,none⟩) m.threads.length m.tc) rfl (by rw [e1]) ?_
 refine oo 1 ?_
 have hk0:Q9 m=0:=by omega
 have hth:th.toNat<m.threads.length:=by omega
 obtain ⟨hin,hL⟩:=Mp hk0 (List.getElem_mem hth)
 have hdp:T6 m th=dOf m m.threads[th.toNat]:=by unfold T6;rw [if_neg (by omega),dif_pos ⟨by omega,hth⟩]
 refine Zh call55 (Le.refl _) (Re (m:=m) (t:=m.threads[th.toNat]) (g.le leA) (CellsAt.of Vr) (R8 (j:=th) hs1 leA (fun _=>rfl) hth (by omega)) ((hq.x _ (List.getElem_mem hth)).le leA) hin hL) ?_
 rintro _ _ (⟨hz,rfl,rfl⟩|⟨hz,a1,c1,rfl,rfl⟩)
 · refine ox 5 ?_;refine Zq (q) func53 (V9 results53 rfl rfl) ⟨_,rfl,.inl ⟨by rw [hdp];exact hz,by rw [hdp],rfl⟩⟩
 refine ox 5 ?_;refine Zq (lsH I64 3 a1 c1 (dOf m m.threads[th.toNat]).1::q) func53 (V9 results53 rfl rfl) ⟨_,rfl,.inr ⟨by rw [hdp];exact hz,_,_,by rw [hdp],by rw [hdp]⟩⟩
set_option maxHeartbeats 2000000 in
theorem Ox (gc:GC q)(g:GE q)(hq:MdlQ q m):CallF prog G 28 [.agg (Wp m).toArray] (q) (Ret fun v q'=>v= .int .i64 (Qb m)∧q'=q):=by
 refine CallF.of func28 ntmps28 rfl (fun F cs=> ?_)
 have hlen:=Zm (f:=Wk) (sz:=4) (fun _=>rfl) m.threads;have hnt:=hq.nt
 refine xo 2 ?_;refine Zb fun n1=> ?_
 refine oo 5 ?_;refine ldA ?_;refine XO.cR call54 (Ab (gc.le leA) (hq.le leA)) ?_;refine ox 7 ?_;refine X.part 10 rfl (fun h0=> ?_) (fun h0=> ?_)
 · replace h0:=sp h0
   refine xx 6 ?_;refine Zq (q) func28 (Zp results28 rfl) ⟨_,rfl,by unfold Qb;rw [if_pos (by omega)],rfl⟩
 replace h0:=sp h0;have hk0:Q9 m=0:=by omega
 refine xo 6 ?_;refine ld ?_;refine ox 4 ?_;refine X.at (X.loop (fun (s:Nat)=>s≤m.threads.length∧Tc m m.threads=Tc m (m.threads.drop s)) (fun s=> [(15,.int .i64 (s:Int)),(14,.int .i64 (m.threads.length:Int)),(1,.pointer (some ⟨n1,0,none⟩)),(2,.int .i64 0)]) (fun s=>pto n1 (.cells (Wp m).toArray 26 (0,0))::(q++F)) (fun s=>m.threads.length - s) (fun s hi_ ih=> ?_) 0 ⟨Nat.zero_le _,rfl⟩) Zt leA
 try dsimp only at hi_ ih⊢
 obtain ⟨hs0,hv⟩:=hi_
 refine xx 5 ?_;refine X.part 16 rfl (fun h0=> ?_) (fun h0=> ?_)
 · replace h0:=sp h0
   have hth:s<m.threads.length:=by omega
   obtain ⟨hin,hL⟩:=Mp hk0 (List.getElem_mem hth)
   have hvd:Tc m (m.threads.drop s)=if (dOf m m.threads[s]).2≠0 then (dOf m m.threads[s]).2 else Tc m (m.threads.drop (s+1)):=by rw [List.drop_eq_getElem_cons hth];rfl
   refine xo 12 ?_;refine ld ?_;refine oo 1 ?_;refine Yz hq.t (by rw [hlen];omega) (fun b1 o1 e1=> ?_)
   have hs1:=hq.t;rw [e1] at hs1
   refine XO.know 20 (.slice (some ⟨b1,o1,none⟩) m.threads.length m.tc) rfl (by rw [e1]) ?_
   refine oo 1 ?_;refine Zh call55 (Le.refl _) (Re (m:=m) (t:=m.threads[s]) (g.le leA) (CellsAt.of Vr) (R8 (j:=(s:Int)) hs1 leA (fun _=>rfl) hth (by omega)) ((hq.x _ (List.getElem_mem hth)).le leA) hin hL) ?_
   rintro _ _ (⟨hz,rfl,rfl⟩|⟨hz,a1,c1,rfl,rfl⟩)
   · refine ox 11 ?_;refine X.know 27 (.bool true) rfl (congrArg Value.bool (by rw [bne_iff_ne];exact hz)) ?_
     refine xx 6 ?_;refine Zq (q) func28 (Zp results28 rfl) ⟨_,rfl,by unfold Qb;rw [if_neg (by omega),hv,hvd,if_pos hz],rfl⟩
   refine ox 11 ?_;refine Zj 27 ?_;refine xx 7 ?_;refine X.at (ih (s+1) ⟨by omega,by rw [hv,hvd,if_neg (by omega)]⟩ (by omega)) Zt leA
 replace h0:=sp h0
 refine xx 6 ?_;refine Zq (q) func28 (Zp results28 rfl) ⟨_,rfl,by unfold Qb;rw [if_neg (by omega),hv,List.drop_eq_nil_of_le (by omega)];rfl,rfl⟩
end
theorem Q7 {m:Mdl}{t:Cod}{x:Ins}{n:Int}(h:Yu m t x.c=some n)(h2:x.c≠26):decide (x.a<n)=decide (Vh m t x):=by
 apply decide_eq_decide.2;unfold Vh;rw [h]
 exact ⟨fun k=>⟨fun j e=>by cases e;exact k,fun e=>absurd e h2⟩,fun k=>k.1 n rfl⟩
theorem slot0 {m:Mdl}{t:Cod}{x:Ins}(h:Yu m t x.c=none)(h2:x.c≠26):true=decide (Vh m t x):=by
 symm;rw [decide_eq_true_iff];unfold Vh;rw [h]
 exact ⟨fun j e=>(by cases e),fun e=>absurd e h2⟩
theorem cnt26 {m:Mdl}{t:Cod}{x:Ins}(h:x.c=26):Yu m t x.c=some m.conds:=by
 unfold Yu
 rw [if_neg (by omega),if_neg (by omega),if_neg (by omega),if_neg (by omega),if_neg (by omega),if_pos (by omega)]
theorem slot26T {m:Mdl}{t:Cod}{x:Ins}(h:x.c=26)(ha:x.a<m.conds):decide (x.b<m.mutexes)=decide (Vh m t x):=by
 apply decide_eq_decide.2;unfold Vh;rw [cnt26 h]
 exact ⟨fun k=>⟨fun j e=>by cases e;exact ha,fun _=>k⟩,fun k=>k.2 h⟩
theorem slot26F {m:Mdl}{t:Cod}{x:Ins}(h:x.c=26)(ha: ¬x.a<m.conds):false=decide (Vh m t x):=by
 symm;rw [decide_eq_false_iff_not];unfold Vh;rw [cnt26 h]
 exact fun k=>ha (k.1 _ rfl)
section
variable {G:World}{q pre:List HP}{a b A:Option Addr}{c d C p p0 p1 p2 i:Nat}{lo hi n cd dep:Int}{fv:Value}{x y:Ins}{t:Cod}{m:Mdl}{at_:Int}
variable {n:Nat}
set_option maxHeartbeats 4000000 in
theorem slots_ok:CallF prog G 42 [.agg (Wp m).toArray,.agg (Wk t).toArray,.agg (Zr x).toArray] (q) (Ret fun v q'=>v= .bool (decide (Vh m t x))∧q'=q):=by
 refine CallF.of func42 ntmps42 rfl (fun F cs=> ?_)
 refine xo 2 ?_;refine Zb fun n1=> ?_
 refine Zb fun n2=> ?_
 refine Zb fun n3=> ?_
 refine oo 6 ?_;refine ld ?_;refine ox 8 ?_;refine X.part 9 rfl (fun h1=> ?_) (fun h1=> ?_)
 · replace h1:=sp h1
   refine xo 6 ?_;refine ld ?_;refine oo 1 ?_;refine ld ?_;refine ox 4 ?_;refine Zq (q) func42 (Zp results42 rfl) ⟨_,rfl,congrArg Value.bool (Q7 (by unfold Yu;(repeat' split)<;>first|rfl|omega) (by omega)),rfl⟩
 replace h1:=sp h1
 refine xx 5 ?_;refine X.part 9 rfl (fun h2=> ?_) (fun h2=> ?_)
 · replace h2:=sp h2
   refine xo 4 ?_;refine ld ?_;refine oo 1 ?_;refine ld ?_;refine ox 4 ?_;refine Zq (q) func42 (Zp results42 rfl) ⟨_,rfl,congrArg Value.bool (Q7 (by unfold Yu;(repeat' split)<;>first|rfl|omega) (by omega)),rfl⟩
 replace h2:=sp h2
 refine xx 7 ?_;refine X.part 18 rfl (fun h3=> ?_) (fun h3=> ?_)
 · replace h3:=sp h3
   refine xo 6 ?_;refine ld ?_;refine oo 1 ?_;refine ld ?_;refine ox 3 ?_;refine Zq (q) func42 (Zp results42 rfl) ⟨_,rfl,congrArg Value.bool (Q7 (by unfold Yu;(repeat' split)<;>first|rfl|omega) (by omega)),rfl⟩
 replace h3:=sp h3
 refine xx 5 ?_;refine X.part 18 rfl (fun h4=> ?_) (fun h4=> ?_)
 · replace h4:=sp h4
   refine xo 4 ?_;refine ld ?_;refine oo 1 ?_;refine ld ?_;refine ox 3 ?_;refine Zq (q) func42 (Zp results42 rfl) ⟨_,rfl,congrArg Value.bool (Q7 (by unfold Yu;(repeat' split)<;>first|rfl|omega) (by omega)),rfl⟩
 replace h4:=sp h4
 refine xx 7 ?_;refine X.part 26 rfl (fun h5=> ?_) (fun h5=> ?_)
 · replace h5:=sp h5
   refine xo 6 ?_;refine ld ?_;refine oo 1 ?_;refine ld ?_;refine ox 4 ?_;refine Zq (q) func42 (Zp results42 rfl) ⟨_,rfl,congrArg Value.bool (Q7 (by unfold Yu;(repeat' split)<;>first|rfl|omega) (by omega)),rfl⟩
 replace h5:=sp h5
 refine xx 5 ?_;refine X.part 26 rfl (fun h6=> ?_) (fun h6=> ?_)
 · replace h6:=sp h6
   refine xo 4 ?_;refine ld ?_;refine oo 1 ?_;refine ld ?_;refine ox 4 ?_;refine Zq (q) func42 (Zp results42 rfl) ⟨_,rfl,congrArg Value.bool (Q7 (by unfold Yu;(repeat' split)<;>first|rfl|omega) (by omega)),rfl⟩
 replace h6:=sp h6
 refine xx 7 ?_;refine X.part 35 rfl (fun h7=> ?_) (fun h7=> ?_)
 · replace h7:=sp h7
   refine xo 6 ?_;refine ld ?_;refine oo 1 ?_;refine ld ?_;refine ox 4 ?_;refine Zq (q) func42 (Zp results42 rfl) ⟨_,rfl,congrArg Value.bool (Q7 (by unfold Yu;(repeat' split)<;>first|rfl|omega) (by omega)),rfl⟩
 replace h7:=sp h7
 refine xx 6 ?_;refine X.part 35 rfl (fun h8=> ?_) (fun h8=> ?_)
 · replace h8:=sp h8
   refine xo 6 ?_;refine ld ?_;refine oo 1 ?_;refine ld ?_;refine ox 4 ?_;refine Zq (q) func42 (Zp results42 rfl) ⟨_,rfl,congrArg Value.bool (Q7 (by unfold Yu;(repeat' split)<;>first|rfl|omega) (by omega)),rfl⟩
 replace h8:=sp h8
 refine xx 5 ?_;refine X.part 35 rfl (fun h9=> ?_) (fun h9=> ?_)
 · replace h9:=sp h9
   refine xo 4 ?_;refine ld ?_;refine oo 1 ?_;refine ld ?_;refine ox 4 ?_;refine Zq (q) func42 (Zp results42 rfl) ⟨_,rfl,congrArg Value.bool (Q7 (by unfold Yu;(repeat' split)<;>first|rfl|omega) (by omega)),rfl⟩
 replace h9:=sp h9
 refine xx 7 ?_;refine X.part 45 rfl (fun h10=> ?_) (fun h10=> ?_)
 · replace h10:=sp h10
   refine xo 6 ?_;refine ld ?_;refine oo 1 ?_;refine ld ?_;refine ox 3 ?_;refine Zq (q) func42 (Zp results42 rfl) ⟨_,rfl,congrArg Value.bool (Q7 (by unfold Yu;(repeat' split)<;>first|rfl|omega) (by omega)),rfl⟩
 replace h10:=sp h10
 refine xx 5 ?_;refine X.part 45 rfl (fun h11=> ?_) (fun h11=> ?_)
 · replace h11:=sp h11
   refine xo 4 ?_;refine ld ?_;refine oo 1 ?_;refine ld ?_;refine ox 3 ?_;refine Zq (q) func42 (Zp results42 rfl) ⟨_,rfl,congrArg Value.bool (Q7 (by unfold Yu;(repeat' split)<;>first|rfl|omega) (by omega)),rfl⟩
 replace h11:=sp h11
 refine xx 6 ?_;refine X.part 53 rfl (fun h12=> ?_) (fun h12=> ?_)
 · replace h12:=sp h12
   refine xo 4 ?_;refine ld ?_;refine oo 1 ?_;refine ld ?_;refine oo 2 ?_;refine XO.part 60 rfl (fun h13=> ?_) (fun h13=> ?_)
   · replace h13:=sp h13
     refine oo 1 ?_;refine ld ?_;refine oo 1 ?_;refine ld ?_;refine ox 4 ?_;refine Zq (q) func42 (Zp results42 rfl) ⟨_,rfl,congrArg Value.bool (slot26T (by omega) (by omega)),rfl⟩
   replace h13:=sp h13
   refine ox 8 ?_;refine Zq (q) func42 (Zp results42 rfl) ⟨_,rfl,congrArg Value.bool (slot26F (by omega) (by omega)),rfl⟩
 replace h12:=sp h12
 refine xx 7 ?_;refine X.part 67 rfl (fun h13=> ?_) (fun h13=> ?_)
 · replace h13:=sp h13
   refine xo 6 ?_;refine ld ?_;refine oo 1 ?_;refine ld ?_;refine ox 3 ?_;refine Zq (q) func42 (Zp results42 rfl) ⟨_,rfl,congrArg Value.bool (Q7 (by unfold Yu;(repeat' split)<;>first|rfl|omega) (by omega)),rfl⟩
 replace h13:=sp h13
 refine xx 5 ?_;refine X.part 67 rfl (fun h14=> ?_) (fun h14=> ?_)
 · replace h14:=sp h14
   refine xo 4 ?_;refine ld ?_;refine oo 1 ?_;refine ld ?_;refine ox 3 ?_;refine Zq (q) func42 (Zp results42 rfl) ⟨_,rfl,congrArg Value.bool (Q7 (by unfold Yu;(repeat' split)<;>first|rfl|omega) (by omega)),rfl⟩
 replace h14:=sp h14
 refine xx 7 ?_;refine X.part 75 rfl (fun h15=> ?_) (fun h15=> ?_)
 · replace h15:=sp h15
   refine xo 6 ?_;refine ld ?_;refine oo 1 ?_;refine ld ?_;refine ox 4 ?_;refine Zq (q) func42 (Zp results42 rfl) ⟨_,rfl,congrArg Value.bool (Q7 (by unfold Yu;(repeat' split)<;>first|rfl|omega) (by omega)),rfl⟩
 replace h15:=sp h15
 refine xx 5 ?_;refine X.part 75 rfl (fun h16=> ?_) (fun h16=> ?_)
 · replace h16:=sp h16
   refine xo 4 ?_;refine ld ?_;refine oo 1 ?_;refine ld ?_;refine ox 4 ?_;refine Zq (q) func42 (Zp results42 rfl) ⟨_,rfl,congrArg Value.bool (Q7 (by unfold Yu;(repeat' split)<;>first|rfl|omega) (by omega)),rfl⟩
 replace h16:=sp h16
 refine xx 6 ?_;refine X.part 84 rfl (fun h17=> ?_) (fun h17=> ?_)
 · replace h17:=sp h17
   refine xo 4 ?_;refine ld ?_;refine oo 1 ?_;refine ld ?_;refine ox 4 ?_;refine Zq (q) func42 (Zp results42 rfl) ⟨_,rfl,congrArg Value.bool (Q7 (by unfold Yu;(repeat' split)<;>first|rfl|omega) (by omega)),rfl⟩
 replace h17:=sp h17
 refine xx 7 ?_;refine Zq (q) func42 (Zp results42 rfl) ⟨_,rfl,congrArg Value.bool (slot0 (by unfold Yu;(repeat' split)<;>first|rfl|omega) (by omega)),rfl⟩
set_option maxHeartbeats 4000000 in
theorem one_ok (hq:CodQ q t)(hc: ∀ x∈t.ins,1≤x.c∧x.c≤34)(hL:t.ins.length≤65536)(hn:n<t.ins.length)(hd:0≤dep∧dep≤1000000):CallF prog G 43 [.agg (Wk t).toArray,.int .i64 (n:Int),.int .i64 dep] (q) (Ret fun v q'=>v= .tuple [.int .i64 (Wo (Vs t) n dep).1,.int .i64 (Wo (Vs t) n dep).2].toArray∧q'=q):=by
 refine CallF.of func43 ntmps43 rfl (fun F cs=> ?_)
 have hs:=hq.i;have hlen:=Zm (f:=Zr) (sz:=4) (fun _=>rfl) t.ins
 have hcx:=hc _ (List.getElem_mem hn);have hnn:=Mr t.ins[n].c;have hle:=Bg t.ins[n].c
 refine xo 2 ?_;refine Zb fun n1=> ?_
 refine oo 6 ?_;refine ld ?_;refine oo 1 ?_;refine Yz hs (by rw [hlen];omega) (fun b1 o1 e1=> ?_)
 have hs1:=hs;rw [e1] at hs1
 refine XO.know 15 (.slice (some ⟨b1,o1,none⟩) t.ins.length t.ic) rfl (by rw [e1]) ?_
 refine oo 1 ?_;refine Wn (n:=n) isAgg48 sizeOf48 hs1 hn ?_
 refine Zy zeroValue48 fun n2=> ?_
 refine stA ?_;refine oo 4 ?_;refine ld ?_;refine XO.cR call65 (Pp (cd:=t.ins[n].c)) ?_
 refine XO.know 22 (.tuple [.int .i64 (Yh t.ins[n].c).1,.int .i64 (Yh t.ins[n].c).2,.bool true].toArray) rfl (if_pos hcx) ?_;refine oo 15 ?_;refine Zf [29,10,9,8,7,6,3,1,2] ?_
 apply Zx 7 36 29 rfl
 · intro g1 M1;have h1:=sp g1
   refine oo 7 ?_;exact Zz M1 ⟨orF g1,Zv⟩
 · intro g1 M1;have h1:=sp g1
   refine oo 7 ?_;exact Zz M1 ⟨orT g1,Zv⟩
 refine ox 1 ?_;refine X.part 36 rfl (fun h1=> ?_) (fun h1=> ?_)
 · replace h1:=sp h1
   refine xx 6 ?_
   have hO:Wo (Vs t) n dep=(0,173):=by unfold Wo;rw [Vl hn];dsimp only [Ins.t];rw [if_pos (by omega)]
   refine Zq (q) func43 (V9 results43 rfl rfl) ⟨_,rfl,by rw [hO],rfl⟩
 replace h1:=sp h1
 refine xo 6 ?_;refine ld ?_;refine oo 2 ?_;refine Zf [40,10,9,8,7,6,3,1,2] ?_
 apply Zx 4 44 40 rfl
 · intro g2 M2;have h2:=sp g2
   refine oo 1 ?_;refine ld ?_;refine oo 2 ?_;exact Zz M2 ⟨orF g2,Zv⟩
 · intro g2 M2;have h2:=sp g2
   refine oo 4 ?_;exact Zz M2 ⟨orT g2,Zv⟩
 refine oo 1 ?_;refine Zf [45,10,9,8,7,6,3,1,2] ?_
 apply Zg 3 48 45 rfl
 · intro g2 M2;have h2:=sp g2
   refine oo 3 ?_;exact Zz M2 ⟨Yd g2,Zv⟩
 · intro g2 M2;have h2:=sp g2
   refine oo 3 ?_;exact Zz M2 ⟨Yc g2,Zv⟩
 refine ox 1 ?_;refine X.part 48 rfl (fun h2=> ?_) (fun h2=> ?_)
 · replace h2:=sp h2
   refine xx 6 ?_
   have hO:Wo (Vs t) n dep=(0,175):=by unfold Wo;rw [Vl hn];dsimp only [Ins.t];rw [if_neg (by omega),if_pos (by omega)]
   refine Zq (q) func43 (V9 results43 rfl rfl) ⟨_,rfl,by rw [hO],rfl⟩
 replace h2:=sp h2
 refine xo 4 ?_;refine ldA ?_;refine oo 1 ?_;refine V8 call44 (Ci (x:=t.ins[n]) (at_:=(n:Int)) (q:= []) ⟨by omega,by omega⟩) ?_
 rintro _ _ ⟨a1,c1,rfl,rfl⟩ _ e_;simp only [ca,na] at e_;subst e_
 refine ox 8 ?_
 have hnl:=Lc t.ins[n] (n:Int)
 refine X.at (X.loop (fun (s:Nat)=>s≤(nxt t.ins[n] (n:Int)).length∧ ∀ j (h:j<(nxt t.ins[n] (n:Int)).length),j<s→(nxt t.ins[n] (n:Int))[j]<t.ins.length) (fun s=> [(13,.int .i64 (s:Int)),(12,.slice a1 (nxt t.ins[n] (n:Int)).length c1),(9,.int .i64 (Yh t.ins[n].c).1),(10,.int .i64 (Yh t.ins[n].c).2),(3,.pointer (some ⟨n1,0,none⟩)),(2,.int .i64 dep),(6,.int .i64 0),(7,.int .i64 0)]) (fun s=>pto n1 (.cells (Wk t).toArray 34 (0,0))::lsH I64 3 a1 c1 (nxt t.ins[n] (n:Int))::(q++F)) (fun s=>(nxt t.ins[n] (n:Int)).length - s) (fun s hi_ ih=> ?_) 0 ⟨Nat.zero_le _,fun j h k=>absurd k (Nat.not_lt_zero j)⟩) Zt leA
 try dsimp only at hi_ ih⊢
 obtain ⟨hs0,hP⟩:=hi_
 refine xx 8 ?_;refine X.part 55 rfl (fun h0=> ?_) (fun h0=> ?_)
 · replace h0:=sp h0
   have hk:s<(nxt t.ins[n] (n:Int)).length:=by omega
   refine Qd (l:=nxt t.ins[n] (n:Int)) (by omega) (fun g e_=> ?_);subst e_
   refine xx 5 ?_;refine drw ?_;refine dd [0,1,2] ?_;refine ldD 3 ?_ (hc:=(Cl.e1 (Sees.lsH _) Zw hk rfl))
   refine dd [4] ?_;refine ldD 5 ?_;refine dd [6,7] ?_;refine XD.nil ?_;refine X.part 65 rfl (fun h1=> ?_) (fun h1=> ?_)
   · replace h1:=sp h1
     refine xx 6 ?_
     have hO:Wo (Vs t) n dep=(0,172):=by
      have hF: ∃ x∈Qw t.ins[n].t n,((Vs t).length:Int)≤x:=by rw [W8,←Nn];exact ⟨_,List.getElem_mem hk,by omega⟩
      unfold Wo;rw [Vl hn];dsimp only [Ins.t];rw [if_neg (by omega),if_neg (by omega)];exact if_pos hF
     refine Zq (q) func43 (V9 results43 rfl rfl) ⟨_,rfl,by rw [hO],rfl⟩
   replace h1:=sp h1
   refine xx 8 ?_;refine X.at (ih (s+1) ⟨by omega,fun j hj k=>by rcases Nat.lt_or_ge j s with e|e;exact hP j hj e;obtain rfl:j=s:=(by omega);omega⟩ (by omega)) Zt leA
 replace h0:=sp h0
 refine xx 12 ?_
 have hO:Wo (Vs t) n dep=(dep - (Yh t.ins[n].c).1+(Yh t.ins[n].c).2,0):=by
  have hF: ¬∃ x∈Qw t.ins[n].t n,((Vs t).length:Int)≤x:=by
   rintro ⟨x,hx,hx2⟩;rw [W8] at hx2;rw [←Nn] at hx;obtain ⟨j,hj,rfl⟩:=List.getElem_of_mem hx;have:=hP j hj (by omega);omega
  unfold Wo;rw [Vl hn];dsimp only [Ins.t];rw [if_neg (by omega),if_neg (by omega)];exact if_neg hF
 refine Zq (q) func43 (V9 results43 rfl rfl) ⟨_,rfl,by rw [hO],rfl⟩
end
theorem Tryz.info4:(prog.info? 4).map (fun i=>(i.zero,i.size,i.bytes))=some (some (.bool false),1,1):=by kernel_rfl
theorem Mu {α:Type}{f:α→Value}{u:α}{ty:TypeId}{a:Option Addr}{c:Nat}(h:(f u).cells= #[f u])(n:Nat):slH a c ty 1 n ((List.replicate n (f u).cells.toList).flatten)=lsH f ty a c (List.replicate n u):=by
 unfold lsH;rw [List.length_replicate,h];congr 1
 induction n with
 |zero=>rfl
 |succ n ih=>simp [List.replicate_succ] at*
structure TI_ (D:List Int) (dn:List Bool) (N:Nat):Prop where
 a:D.length=N
 b:dn.length=N
 rng: ∀ i,dAt D i= -1∨(0≤dAt D i∧dAt D i≤25)
theorem TI_.set {D:List Int}{dn:List Bool}{N y:Nat}{b:Int}(h:TI_ D dn N)(hy:y<D.length)(hb:0≤b∧b≤25):TI_ (D.set y b) dn N:=
 ⟨by rw [List.length_set];exact h.a,h.b,fun i=>by rw [Hx hy];split;exact .inr hb;exact h.rng i⟩
theorem open_iff {D:List Int}{dn:List Bool}{k:Nat}(h1:k<D.length)(h2:k<dn.length):Qh D dn k↔0≤D[k]∧dn[k]=false:=by
 unfold Qh;rw [Un h1];simp [List.getD_eq_getElem?_getD,h2]
theorem Iq {ins:List Tp}{D:List Int}{dn:List Bool}(k:Nat)(h:Ur D dn=none):Je ins k D dn=(D,0):=by
 cases k with
 |zero=>rfl
 |succ k=>unfold Je;rw [h]
section
variable {G:World}{q pre:List HP}{a b A:Option Addr}{c d C p p0 p1 p2 i:Nat}{lo hi n cd dep:Int}{fv:Value}{x y:Ins}{t:Cod}{m:Mdl}{at_:Int}
variable {n:Nat}
set_option maxHeartbeats 8000000 in
theorem Nr (hq:CodQ q t)(hin: ∀ x∈t.ins,U7 x)(hL:t.ins.length≤65536):CallF prog G 20 [.agg (Wp m).toArray,.agg (Wk t).toArray] (q) (Ret fun v q'=>((dOf m t).2≠0∧v= .tuple [.slice none 0 0,.int .i64 (dOf m t).2].toArray∧q'=q)∨((dOf m t).2=0∧ ∃ a' c',v= .tuple [.slice a' (dOf m t).1.length c',.int .i64 0].toArray∧q'=lsH I64 3 a' c' (dOf m t).1::q)):=by
 refine CallF.of func20 ntmps20 rfl (fun F cs=> ?_)
 have hs:=hq.i;have hlen:=Zm (f:=Zr) (sz:=4) (fun _=>rfl) t.ins
 have hc: ∀ x∈t.ins,1≤x.c∧x.c≤34:=fun x hx=>(hin x hx).1
 refine xo 2 ?_;refine Zb fun n1=> ?_
 refine Zb fun n2=> ?_
 refine oo 7 ?_;refine ld ?_;refine ox 3 ?_;refine X.part 18 rfl (fun h0=> ?_) (fun h0=> ?_)
 · replace h0:=sp h0
   refine xx 6 ?_
   have hD:dOf m t=([],170):=by unfold dOf;rw [if_pos (by omega)]
   refine Zq (q) func20 (V9 results20 rfl rfl) ⟨_,rfl,.inl ⟨by rw [hD];decide,by rw [hD],rfl⟩⟩
 replace h0:=sp h0;have hN:0<t.ins.length:=by omega
 refine xo 5 ?_;refine ld ?_;refine oo 1 ?_;refine XO.ef (Hh (n:=t.ins.length) rfl rfl underlying23 Tryz.info3 rfl rfl (by omega) (by omega)) ?_
 rintro _ _ ⟨g0,rfl,rfl⟩
 refine XO.le (q':=lsH I64 3 (some ⟨g0,0,none⟩) t.ins.length (List.replicate t.ins.length 0)::_) (Le.trans Zw (by rw [←Mu (f:=I64) (u:=0) rfl];exact Le.refl _)) ?_
 refine oo 5 ?_;refine ld ?_;refine oo 1 ?_;refine XO.ef (Hh (n:=t.ins.length) rfl rfl underlying106 Tryz.info4 rfl rfl (by omega) (by omega)) ?_
 rintro _ _ ⟨g2,rfl,rfl⟩
 refine XO.le (q':=lsH Value.bool 4 (some ⟨g2,0,none⟩) t.ins.length (List.replicate t.ins.length false)::_) (Le.trans Zw (by rw [←Mu (f:=Value.bool) (u:=false) rfl];exact Le.refl _)) ?_
 refine ox 8 ?_;refine X.at (X.loop (fun (s:List Int×Nat)=>s.1.length=t.ins.length∧s.2≤t.ins.length∧(∀ i (h:i<s.1.length),i<s.2→s.1[i]= -1)∧ ∀ i (h:i<t.ins.length),i<s.2→Vh m t t.ins[i]) (fun s=> [(8,.int .i64 (s.2:Int)),(6,.slice (some ⟨g0,0,none⟩) t.ins.length t.ins.length),(7,.slice (some ⟨g2,0,none⟩) t.ins.length t.ins.length),(2,.pointer (some ⟨n1,0,none⟩)),(3,.pointer (some ⟨n2,0,none⟩)),(4,.slice none 0 0),(5,.int .i64 0)]) (fun s=>lsH Value.bool 4 (some ⟨g2,0,none⟩) t.ins.length (List.replicate t.ins.length false)::lsH I64 3 (some ⟨g0,0,none⟩) t.ins.length (s.1)::pto n1 (.cells (Wp m).toArray 26 (0,0))::pto n2 (.cells (Wk t).toArray 34 (0,0))::(q++F)) (fun s=>t.ins.length - s.2) (fun s hi_ ih=> ?_) (List.replicate t.ins.length 0,0) ⟨by simp,by omega,fun i _ h=>absurd h (Nat.not_lt_zero _),fun i _ h=>absurd h (Nat.not_lt_zero _)⟩) Zt leA
 try dsimp only at hi_ ih⊢
 obtain ⟨hl1,hl2,hl3,hl4⟩:=hi_
 obtain ⟨D,k⟩:=s;dsimp only at*
 refine xo 5 ?_;refine ld ?_;refine ox 3 ?_;refine X.part 31 rfl (fun h2=> ?_) (fun h2=> ?_)
 · replace h2:=sp h2;have hkN:k<t.ins.length:=by omega
   refine xo 9 ?_;refine XO.ef0 (Up (l:=D) (n:=k) (u:= -1) rfl rfl sizeOf3 rfl (by omega) rfl rfl Zw) ?_
   rintro _ _ ⟨rfl,rfl⟩
   refine ox 2 ?_;refine drw ?_;refine Z4 0 ?_;refine Z4 1 ?_;refine dd [2] ?_;refine ldD 3 ?_;refine dd [4] ?_;refine Yp hs (by rw [hlen];omega) (fun b1 o1 e1=> ?_)
   have hs1:=hs;rw [e1] at hs1
   refine XD.know 40 (.slice (some ⟨b1,o1,none⟩) t.ins.length t.ic) rfl (by rw [e1]) ?_
   refine dd [5] ?_;refine Vp 6 (m:=k) isAgg48 sizeOf48 hs1 hkN ?_
   refine Z7 7 call42 (slots_ok (x:=t.ins[k])) ?_
   refine Wm 8 rfl (Pu.not rfl) ?_;refine XD.nil ?_;refine X.part 45 rfl (fun h1=> ?_) (fun h1=> ?_)
   · replace h1:=sp h1
     refine xx 6 ?_
     have hD:dOf m t=([],171):=by unfold dOf;rw [if_neg (by omega),if_pos (fun ka=>absurd (ka _ (List.getElem_mem hkN)) (by simpa using h1))]
     refine Zq (q) func20 (V9 results20 rfl rfl) ⟨_,rfl,.inl ⟨by rw [hD];decide,by rw [hD],rfl⟩⟩
   replace h1:=sp h1
   refine xx 8 ?_
   have hsk:Vh m t t.ins[k]:=by simpa using h1
   refine X.at (ih (D.set k (-1),k+1) ⟨by rw [List.length_set];exact hl1,by dsimp only;omega,fun i hh hk=>by dsimp only at hk hh⊢;rw [List.getElem_set];split;rfl;exact hl3 i (by rw [List.length_set] at hh;exact hh) (by omega),fun i hh hk=>by dsimp only at hk;rcases Nat.lt_or_ge i k with e|e;exact hl4 i hh e;obtain rfl:i=k:=(by omega);exact hsk⟩ (by dsimp only;omega)) Zt leA
 replace h2:=sp h2
 have hrep:D=List.replicate t.ins.length (-1):=L9 hl1 (fun i h1 h3=>hl3 i h1 (by omega))
 have hall: ∀ x∈t.ins,Vh m t x:=fun x hx=>by obtain ⟨i,hi,rfl⟩:=List.getElem_of_mem hx;exact hl4 i hi (by omega)
 clear hl3 hl4
 have hT:dOf m t=Je (Vs t) t.ins.length ((List.replicate t.ins.length (-1)).set 0 0) (List.replicate t.ins.length false):=by unfold dOf;rw [if_neg (by omega),if_neg (by simpa using hall)]
 generalize dOf m t=T at hT⊢
 refine xo 6 ?_;refine XO.ef0 (Up (l:=D) (n:=0) (u:=0) rfl rfl sizeOf3 rfl (by omega) rfl rfl Zw) ?_
 rintro _ _ ⟨rfl,rfl⟩
 refine ox 2 ?_
 subst hrep
 refine X.at (X.loop (fun (s:List Int×List Bool×Nat)=>TI_ s.1 s.2.1 t.ins.length∧(s.2.1.filter (· ==false)).length≤s.2.2∧Je (Vs t) s.2.2 s.1 s.2.1=T) (fun s=> [(6,.slice (some ⟨g0,0,none⟩) t.ins.length t.ins.length),(7,.slice (some ⟨g2,0,none⟩) t.ins.length t.ins.length),(3,.pointer (some ⟨n2,0,none⟩)),(4,.slice none 0 0),(5,.int .i64 0)]) (fun s=>lsH Value.bool 4 (some ⟨g2,0,none⟩) t.ins.length (s.2.1)::lsH I64 3 (some ⟨g0,0,none⟩) t.ins.length (s.1)::pto n1 (.cells (Wp m).toArray 26 (0,0))::pto n2 (.cells (Wk t).toArray 34 (0,0))::(q++F)) (fun s=>s.2.2) (fun s hi_ ih=> ?_) ((List.replicate t.ins.length (-1)).set 0 0,List.replicate t.ins.length false,t.ins.length) ⟨⟨by simp,by simp,(Se hN).rng⟩,Nat.le_trans (List.length_filter_le _ _) (by simp),hT.symm⟩) Zt leA
 try dsimp only at hi_ ih⊢
 obtain ⟨hI,hfu,hT⟩:=hi_
 obtain ⟨D,dn,fu⟩:=s;dsimp only at hI hfu hT ih⊢
 have hDN:=hI.a;have hBN:=hI.b
 refine xx 11 ?_;refine X.at (X.loop (fun (s:Int×Nat)=>s.2≤t.ins.length∧((s.1= -1∧ ∀ j,j<s.2→ ¬Qh D dn j)∨ ∃ a:Nat,s.1=(a:Int)∧Ur D dn=some a)) (fun s=> [(9,.int .i64 s.1),(10,.int .i64 (s.2:Int)),(6,.slice (some ⟨g0,0,none⟩) t.ins.length t.ins.length),(7,.slice (some ⟨g2,0,none⟩) t.ins.length t.ins.length),(3,.pointer (some ⟨n2,0,none⟩)),(4,.slice none 0 0),(5,.int .i64 0)]) (fun s=>lsH Value.bool 4 (some ⟨g2,0,none⟩) t.ins.length (dn)::lsH I64 3 (some ⟨g0,0,none⟩) t.ins.length (D)::pto n1 (.cells (Wp m).toArray 26 (0,0))::pto n2 (.cells (Wk t).toArray 34 (0,0))::(q++F)) (fun s=>t.ins.length - s.2) (fun s hi_ ih2=> ?_) (-1,0) ⟨Nat.zero_le _,.inl ⟨rfl,fun j k=>absurd k (Nat.not_lt_zero j)⟩⟩) Zt leA
 try dsimp only at hi_ ih2⊢
 obtain ⟨hk,hlst⟩:=hi_
 obtain ⟨L,k⟩:=s;dsimp only at hk hlst ih2⊢
 refine xo 8 ?_;refine Zf [52,9,10,6,7,3,4,5] ?_
 apply Zg 3 55 52 rfl
 · intro g1 M1;have h1:=sp g1
   refine oo 3 ?_;exact Zz M1 ⟨Yd g1,Zv⟩
 · intro g1 M1;have h1:=sp g1
   refine oo 3 ?_;exact Zz M1 ⟨Yc g1,Zv⟩
 refine ox 1 ?_;refine X.part 55 rfl (fun h3=> ?_) (fun h3=> ?_)
 · replace h3:=sp h3
   have hkN:k<t.ins.length:=by omega
   have hkD:k<D.length:=by omega
   have hkB:k<dn.length:=by omega
   have hno:L= -1∧ ∀ j,j<k→ ¬Qh D dn j:=by rcases hlst with e|⟨a,e,_⟩;exact e;omega
   have hO:=open_iff hkD hkB
   refine xo 9 ?_;refine ld ?_ (hc:=(Cl.e1 (Sees.lsH _) Zw hkD rfl))
   refine oo 2 ?_;refine XO.part 63 rfl (fun h1=> ?_) (fun h1=> ?_)
   focus
    replace h1:=sp h1
    refine oo 3 ?_;refine ld ?_ (hc:=(Cl.e1 (Sees.lsH _) Zw hkB rfl))
    refine Zn (Pu.not rfl) ?_;refine ox 2 ?_;refine X.part 69 rfl (fun h2=> ?_) (fun h2=> ?_)
    · replace h2:=sp h2
      refine xx 11 ?_;refine X.at (ih2 ((k:Int),k+1) ⟨by dsimp only;omega,.inr ⟨k,rfl,El hkD (hO.2 ⟨by omega,by simpa using h2⟩) (fun j _ hj=>by rcases Nat.lt_or_ge j k with e|e;exact absurd hj (hno.2 j e);exact e)⟩⟩ (by dsimp only;omega)) Zt leA
    replace h2:=sp h2
    refine xx 8 ?_
   rotate_left
   focus
    replace h1:=sp h1
    refine ox 15 ?_
   all_goals
    refine X.at (ih2 (L,k+1) ⟨by dsimp only;omega,.inl ⟨hno.1,fun j hj=>by dsimp only at hj;rcases Nat.lt_or_ge j k with e|e;exact hno.2 j e;obtain rfl:j=k:=(by omega);rw [hO];rintro ⟨k1,k2⟩;first|omega|(rw [k2] at h2;simp at h2)⟩⟩ (by dsimp only;omega)) Zt leA
 replace h3:=sp h3
 refine xx 8 ?_;refine X.part 72 rfl (fun h4=> ?_) (fun h4=> ?_)
 · replace h4:=sp h4
   have hno:Ur D dn=none:=H7 (fun j hj=>by rcases hlst with ⟨_,e⟩|⟨a,e,_⟩;exact e j (by omega);omega)
   rw [Iq fu hno] at hT
   refine xx 7 ?_;refine Zq (lsH I64 3 (some ⟨g0,0,none⟩) t.ins.length (D)::q) func20 (V9 results20 rfl rfl) ⟨_,rfl,.inr ⟨by rw [←hT],_,_,by rw [←hT,hDN],by rw [←hT]⟩⟩
 replace h4:=sp h4
 obtain ⟨a,rfl,hle⟩: ∃ a:Nat,L=(a:Int)∧Ur D dn=some a:=by rcases hlst with ⟨e,_⟩|e;omega;exact e
 obtain ⟨hxl,hop,_⟩:=Qo hle
 clear hlst ih2
 have hfp:=Sz (a:=a) (dn:=dn) (by omega) hop.2
 have hfs:=Sq dn a (by omega) hop.2
 obtain ⟨fv,rfl⟩: ∃ f,fu=f+1:=⟨fu - 1,by omega⟩
 rw [Eu hle,Un hxl] at hT;have hrg:=hI.rng a;have hop1:=hop.1;rw [Un hxl] at hrg hop1
 have haN:a<t.ins.length:=by omega
 have haB:a<dn.length:=by omega
 refine xo 7 ?_;refine XO.ef0 (Up (f:=Value.bool) (l:=dn) (n:=a) (u:=true) rfl rfl sizeOf4 rfl haB rfl rfl Zw) ?_
 rintro _ _ ⟨rfl,rfl⟩
 refine ox 2 ?_;refine drw ?_;refine Z4 0 ?_;refine dd [1,2,3,4] ?_;refine ldD 5 ?_ (hc:=(Cl.e1 (Sees.lsH _) Zw hxl rfl))
 refine Z7 6 call43 (one_ok (n:=a) (dep:=D[a]) (hq.le leA) hc hL haN (by omega)) ?_
 refine dd [7,8,9,10,11] ?_;refine XD.nil ?_;refine xx 6 ?_
 have hO1:(Wo (Vs t) a D[a]).2=0→(∀ x∈Qw ((Vs t).getD a zI) a,x<((Vs t).length:Int))∧0≤(Wo (Vs t) a D[a]).1∧(Wo (Vs t) a D[a]).1≤25:=fun h=>⟨(Qg h).1,(Qg h).2.1 hop1,Lu h⟩
 generalize Wo (Vs t) a D[a]=O at hT hO1⊢
 refine X.part 88 rfl (fun h5=> ?_) (fun h5=> ?_)
 · have hne:O.2≠0:=by simpa using h5
   refine xx 7 ?_
   have hTT:T=([],O.2):=by rw [if_pos hne] at hT;exact hT.symm
   refine Zq (q) func20 (V9 results20 rfl rfl) ⟨_,rfl,.inl ⟨by rw [hTT];exact hne,by rw [hTT],rfl⟩⟩
 replace h5:=sp h5
 rw [if_neg (by omega),Vl haN] at hT;obtain ⟨hO1,hO2,hO3⟩:=hO1 (by omega);rw [Vl haN,W8] at hO1;rw [←Nn] at hO1 hT
 refine xo 5 ?_;refine ld ?_;refine oo 1 ?_;refine Yz hs (by rw [hlen];omega) (fun b1 o1 e1=> ?_)
 have hs1:=hs;rw [e1] at hs1
 refine XO.know 91 (.slice (some ⟨b1,o1,none⟩) t.ins.length t.ic) rfl (by rw [e1]) ?_
 refine oo 1 ?_;refine Wn (n:=a) isAgg48 sizeOf48 hs1 haN ?_
 refine oo 1 ?_;refine V8 call44 (Ci (x:=t.ins[a]) (at_:=(a:Int)) (q:= []) ⟨by omega,by omega⟩) ?_
 rintro _ _ ⟨a1,c1,rfl,rfl⟩ _ e_;simp only [ca,na] at e_;subst e_
 refine ox 7 ?_
 have hxs: ∀ y∈nxt t.ins[a] (a:Int),0≤y∧y<t.ins.length:=fun y hy=>⟨Ld (hin _ (List.getElem_mem haN)) a y hy,hO1 y hy⟩
 have hnl:=Lc t.ins[a] (a:Int)
 refine X.at (X.loop (fun (s:List Int×Nat)=>s.2≤(nxt t.ins[a] (a:Int)).length∧TI_ s.1 (dn.set a true) t.ins.length∧Vy O.1 D (nxt t.ins[a] (a:Int))=Vy O.1 s.1 ((nxt t.ins[a] (a:Int)).drop s.2)) (fun s=> [(14,.int .i64 (s.2:Int)),(13,.slice a1 (nxt t.ins[a] (a:Int)).length c1),(11,.int .i64 O.1),(6,.slice (some ⟨g0,0,none⟩) t.ins.length t.ins.length),(7,.slice (some ⟨g2,0,none⟩) t.ins.length t.ins.length),(3,.pointer (some ⟨n2,0,none⟩)),(4,.slice none 0 0),(5,.int .i64 0)]) (fun s=>lsH I64 3 a1 c1 (nxt t.ins[a] (a:Int))::lsH Value.bool 4 (some ⟨g2,0,none⟩) t.ins.length (dn.set a true)::lsH I64 3 (some ⟨g0,0,none⟩) t.ins.length (s.1)::pto n1 (.cells (Wp m).toArray 26 (0,0))::pto n2 (.cells (Wk t).toArray 34 (0,0))::(q++F)) (fun s=>(nxt t.ins[a] (a:Int)).length - s.2) (fun s hi_ ih3=> ?_) (D,0) ⟨Nat.zero_le _,⟨hI.a,by rw [List.length_set];exact hI.b,hI.rng⟩,rfl⟩) Zt leA
 try dsimp only at hi_ ih3⊢
 obtain ⟨hk2,hV,hgo⟩:=hi_
 obtain ⟨D1,k2⟩:=s;dsimp only at hk2 hV hgo ih3⊢
 have hV1:=hV.a
 refine xx 8 ?_;refine X.part 100 rfl (fun h6=> ?_) (fun h6=> ?_)
 · replace h6:=sp h6
   have hi':k2<(nxt t.ins[a] (a:Int)).length:=by omega
   have hyb:=hxs _ (List.getElem_mem hi')
   obtain ⟨y,hy⟩: ∃ y:Nat,(nxt t.ins[a] (a:Int))[k2]=(y:Int):=⟨((nxt t.ins[a] (a:Int))[k2]).toNat,by omega⟩
   have hyl:y<D1.length:=by omega
   have hst:Vy O.1 D (nxt t.ins[a] (a:Int))=if 0≤D1[y]∧D1[y]≠O.1 then none else Vy O.1 (D1.set y O.1) ((nxt t.ins[a] (a:Int)).drop (k2+1)):=by
    rw [hgo,List.drop_eq_getElem_cons hi',hy]
    conv=>lhs;unfold Vy
    simp only [Int.toNat_natCast,Un hyl]
   refine Qd (l:=nxt t.ins[a] (a:Int)) (by omega) (fun g e_=> ?_);subst e_
   refine xo 11 ?_;refine ld ?_ (hc:=(Cl.e1 (Sees.lsH _) Zw hi' rfl))
   refine oo 1 ?_;refine ld ?_ (hc:=(Cl.e1 (Sees.lsH _) Zw hyl hy))
   refine oo 2 ?_;refine XO.part 111 rfl (fun h1=> ?_) (fun h1=> ?_)
   focus
    replace h1:=sp h1
    refine oo 4 ?_;refine ld ?_ (hc:=(Cl.e1 (Sees.lsH _) Zw hi' rfl))
    refine oo 1 ?_;refine ld ?_ (hc:=(Cl.e1 (Sees.lsH _) Zw hyl hy))
    refine ox 4 ?_;refine X.part 121 rfl (fun h2=> ?_) (fun h2=> ?_)
    · replace h2:=sp h2
      refine xx 6 ?_
      rw [hst,if_pos ⟨by omega,by omega⟩] at hT;dsimp only at hT
      refine Zq (q) func20 (V9 results20 rfl rfl) ⟨_,rfl,.inl ⟨by rw [←hT];decide,by rw [←hT],rfl⟩⟩
    replace h2:=sp h2
    refine xo 7 ?_
   rotate_left
   focus
    replace h1:=sp h1
    refine oo 18 ?_
   all_goals
    refine ld ?_ (hc:=(Cl.e1 (Sees.lsH _) Zw hi' rfl))
    refine oo 2 ?_;refine XO.ef0 (Up (l:=D1) (n:=y) (u:=O.1) rfl rfl sizeOf3 hy hyl rfl rfl Zw) ?_
    rintro _ _ ⟨rfl,rfl⟩
    refine ox 7 ?_;refine X.at (ih3 (D1.set y O.1,k2+1) ⟨by dsimp only;omega,hV.set hyl ⟨hO2,hO3⟩,by rw [hst,if_neg (by omega)]⟩ (by dsimp only;omega)) Zt leA
 replace h6:=sp h6
 have hek:k2=(nxt t.ins[a] (a:Int)).length:=by omega
 rw [hek,List.drop_length] at hgo;rw [hgo] at hT;simp only [Vy] at hT
 refine xx 3 ?_;refine X.at (ih (D1,dn.set a true,fv) ⟨hV,by dsimp only;omega,hT⟩ (by dsimp only;omega)) Zt leA
set_option maxHeartbeats 2000000 in
theorem Pd (hq:MdlQ q m):CallF prog G 49 [.agg (Wp m).toArray] (q) (Ret fun v q'=>v= .int .i64 (Qb m)∧q'=q):=by
 refine CallF.of func49 ntmps49 rfl (fun F cs=> ?_)
 have hlen:=Zm (f:=Wk) (sz:=4) (fun _=>rfl) m.threads;have hnt:=hq.nt
 refine xo 2 ?_;refine Zb fun n1=> ?_
 refine oo 5 ?_;refine ldA ?_;refine XO.cR call73 (Ob (hq.le leA)) ?_;refine ox 2 ?_;refine X.part 8 rfl (fun h0=> ?_) (fun h0=> ?_)
 · replace h0:=sp h0
   refine xx 5 ?_;refine Zq (q) func49 (Zp results49 rfl) ⟨_,rfl,by unfold Qb;rw [if_pos (by omega)];congr 1;unfold Q9 at h0⊢;split<;>simp_all,rfl⟩
 replace h0:=sp h0;have hk0:Q9 m=0:=by omega
 refine xx 8 ?_;refine X.at (X.loop (fun (s:Nat)=>s≤m.threads.length∧Tc m m.threads=Tc m (m.threads.drop s)) (fun s=> [(3,.int .i64 (s:Int)),(1,.pointer (some ⟨n1,0,none⟩)),(2,.int .i64 0)]) (fun s=>pto n1 (.cells (Wp m).toArray 26 (0,0))::(q++F)) (fun s=>m.threads.length - s) (fun s hi_ ih=> ?_) 0 ⟨Nat.zero_le _,rfl⟩) Zt leA
 try dsimp only at hi_ ih⊢
 obtain ⟨hs0,hv⟩:=hi_
 refine xo 5 ?_;refine ld ?_;refine ox 3 ?_;refine X.part 13 rfl (fun h0=> ?_) (fun h0=> ?_)
 · replace h0:=sp h0
   have hth:s<m.threads.length:=by omega
   obtain ⟨hin,hL⟩:=Mp hk0 (List.getElem_mem hth)
   have hvd:Tc m (m.threads.drop s)=if (dOf m m.threads[s]).2≠0 then (dOf m m.threads[s]).2 else Tc m (m.threads.drop (s+1)):=by rw [List.drop_eq_getElem_cons hth];rfl
   refine xx 5 ?_;refine drw ?_;refine Z4 0 ?_;refine dd [1] ?_;refine ldD 2 ?_;refine dd [3] ?_;refine Yp hq.t (by rw [hlen];omega) (fun b1 o1 e1=> ?_)
   have hs1:=hq.t;rw [e1] at hs1
   refine XD.know 19 (.slice (some ⟨b1,o1,none⟩) m.threads.length m.tc) rfl (by rw [e1]) ?_
   refine dd [4] ?_;refine Vp 5 (m:=s) isAgg34 sizeOf34 hs1 hth ?_
   refine Yf 6 call20 (Le.refl _) (Nr (m:=m) (t:=m.threads[s]) ((hq.x _ (List.getElem_mem hth)).le leA) hin hL) ?_
   rintro _ _ (⟨hz,rfl,rfl⟩|⟨hz,a2,c2,rfl,rfl⟩)<;>refine ⟨hlR,?_⟩
   · refine dd [7,8,9,10,11] ?_;refine XD.nil ?_;refine xx 5 ?_;refine X.know 27 (.bool true) rfl (congrArg Value.bool (by rw [bne_iff_ne];exact hz)) ?_
     refine xx 6 ?_;refine Zq (q) func49 (Zp results49 rfl) ⟨_,rfl,by unfold Qb;rw [if_neg (by omega),hv,hvd,if_pos hz],rfl⟩
   refine dd [7,8,9,10,11] ?_;refine XD.nil ?_;refine xx 5 ?_;refine Zj 27 ?_;refine xx 8 ?_;refine X.at (ih (s+1) ⟨by omega,by rw [hv,hvd,if_neg (by omega)]⟩ (by omega)) Zt leA
 replace h0:=sp h0
 refine xx 6 ?_;refine Zq (q) func49 (Zp results49 rfl) ⟨_,rfl,by unfold Qb;rw [if_neg (by omega),hv,List.drop_eq_nil_of_le (by omega)];rfl,rfl⟩
end
end Go.Proofs.YtgonllbkcgaliaaGreatDoor
namespace Go.Proofs.YtgonllbkcgaliaaGreatDoor
open Go Go.RowKit Wx Go.Proofs.Tryz
open Go.ChangeShapes Go.WideShapes Go.ChangeAt
theorem gEff: prog.globalNamed "warp/verify.effects" = some 0 := by kernel_rfl
theorem gCod: prog.globalNamed "warp/ops.codes" = some 1 := by kernel_rfl
theorem tEff:(prog.globals[0]?).map (·.type)=some 249:=by kernel_rfl
theorem tCod:(prog.globals[1]?).map (·.type)=some 306:=by kernel_rfl
section
variable {H:Type}{enc:TypeId×Value→H}{W:World}{base fuel:Nat}{sp:Nat→Bool}{hd:Bool}{cs:List Value}{pl:List MemPlace}
def FD:DataW H→List Value
 | .agg [.lit (.int .i64 a),.lit (.int .i64 b)]=> [.int .i64 a,.int .i64 b]
 | .agg [.lit (.string s),.lit (.int .i64 b)]=> [.string ⟨s.toArray⟩,.int .i64 b]
 |_=> []
theorem tab_ef (h:DataW.trod enc prog W base sp hd fuel 249 cs=some (Rows.laid_warp_verify_effects,pl)):cs=effL.flatMap efC:=by
 obtain ⟨xs,m,rfl,hx,hl,hn,hel⟩:=DataW.trod_array underlying249 h
 have c1:prog.cellsOf 248=2:=by kernel_rfl
 have c2:prog.cellsOf 249=70:=by kernel_rfl
 have c3:prog.cellsOf 3=1:=by kernel_rfl
 have hcs:=T7 (fun y:DataW H×List MemPlace=>FD y.1) 2 xs cs (by rw [hl,hn,c2]) (fun i hi=>by
  have h1:=hel i (by omega)
  rw [c1,List.getElem?_eq_getElem hi] at h1
  obtain ⟨y0,y1,n,e,hl2,k0,k1⟩:=trod_struct2 underlying248 h1
  dsimp only at k0 k1
  rw [c3] at k0 k1
  obtain ⟨n0,e0,rfl,_⟩:=DataW.trod_int underlying3 k0
  obtain ⟨n1,e1,rfl,_⟩:=DataW.trod_int underlying3 k1
  rw [e]
  generalize (cs.drop (i*2)).take 2=c at hl2 e0 e1⊢
  rw [c1] at hl2
  match c,hl2,e0,e1 with
  | [u,v],_,e0,e1=>simp at e0 e1;subst e0;subst e1;rfl)
 rw [hcs]
 have hx1:xs.map (·.1)=match (Rows.laid_warp_verify_effects:DataW H) with| .agg l=>l|_=> []:=by
  have:=congrArg Prod.fst hx
  simp only at this
  rw [this]
 have:xs.flatMap (fun y=>FD y.1)=(xs.map (·.1)).flatMap FD:=by rw [List.flatMap_map]
 rw [this,hx1]
 rfl
def toP:DataW H→ByteArray×Int
 | .agg [.lit (.string s),.lit (.int .i64 b)]=>(⟨s.toArray⟩,b)
 |_=>(⟨#[]⟩,0)
def codL:List (ByteArray×Int):=match (Rows.laid_warp_ops_codes:DataW Unit) with| .agg l=>l.map toP|_=> []
theorem Ok:codL.map (·.2)=Rx:=by rfl
theorem tab_cd (h:DataW.trod enc prog W base sp hd fuel 306 cs=some (Rows.laid_warp_ops_codes,pl)):cs=codL.flatMap cdC:=by
 obtain ⟨xs,m,rfl,hx,hl,hn,hel⟩:=DataW.trod_array underlying306 h
 have c1:prog.cellsOf 305=2:=by kernel_rfl
 have c2:prog.cellsOf 306=70:=by kernel_rfl
 have c3:prog.cellsOf 9=1:=by kernel_rfl
 have c4:prog.cellsOf 3=1:=by kernel_rfl
 have hcs:=T7 (fun y:DataW H×List MemPlace=>FD y.1) 2 xs cs (by rw [hl,hn,c2]) (fun i hi=>by
  have h1:=hel i (by omega)
  rw [c1,List.getElem?_eq_getElem hi] at h1
  obtain ⟨y0,y1,n,e,hl2,k0,k1⟩:=trod_struct2 underlying305 h1
  dsimp only at k0 k1
  rw [c3] at k0;rw [c4] at k1
  obtain ⟨n0,e0,rfl,_⟩:=DataW.trod_string underlying9 k0
  obtain ⟨n1,e1,rfl,_⟩:=DataW.trod_int underlying3 k1
  rw [e]
  generalize (cs.drop (i*2)).take 2=c at hl2 e0 e1⊢
  rw [c1] at hl2
  match c,hl2,e0,e1 with
  | [u,v],_,e0,e1=>simp at e0 e1;subst e0;subst e1;rfl)
 rw [hcs]
 have hx1:xs.map (·.1)=match (Rows.laid_warp_ops_codes:DataW H) with| .agg l=>l|_=> []:=by
  have:=congrArg Prod.fst hx
  simp only at this
  rw [this]
 have:xs.flatMap (fun y=>FD y.1)=(xs.map (·.1)).flatMap FD:=by rw [List.flatMap_map]
 rw [this,hx1]
 rfl
end
def Ea: List (String × DataW Unit) := [("warp/ops.codes", Rows.laid_warp_ops_codes), ("warp/verify.effects", Rows.laid_warp_verify_effects)]
theorem of_laid {W:World}(h:laidMetH prog Ea W):GC [old W]∧GE [old W]:=by
 rw [MakeChecks.laidMetH_plain _ _ _ (by kernel_rfl)] at h
 obtain ⟨ps,⟨g0,t0,cs0,f0,p0,q0,hg0,ht0,hv0,hd0,⟨g1,t1,cs1,f1,p1,q1,hg1,ht1,hv1,hd1,_,_⟩,_⟩,_,_⟩:=h
 obtain rfl:=Option.some.inj (gCod.symm.trans hg0)
 obtain rfl:=Option.some.inj (gEff.symm.trans hg1)
 obtain rfl:=Option.some.inj (tCod.symm.trans ht0)
 obtain rfl:=Option.some.inj (tEff.symm.trans ht1)
 have e0:=tab_cd hd0
 have e1:=tab_ef hd1
 refine ⟨⟨codL,Ok,SeesW.sees (fun i u hu=>⟨_,_,rfl,?_⟩) []⟩,SeesW.sees (fun i u hu=>⟨_,_,rfl,?_⟩) []⟩
 · rw [Nat.zero_add,World.var?_cell hg0 hv0 i,←hu,←e0];simp
 rw [Nat.zero_add,World.var?_cell hg1 hv1 i,←hu,←e1];simp
theorem door_met (os:Os)(args:Array Value):laidMetH prog Ea ((World.doorLaid prog 400 os).forCall (fun _ _=>0) ⟨#[],args, []⟩).memory:=
 laidMetH_of_parts3 (fuel:=8) (laidMet_of_run' 8 (by kernel_rfl) (by kernel_rfl)) (by kernel_rfl) (by kernel_rfl)
end Go.Proofs.YtgonllbkcgaliaaGreatDoor
namespace Go.Proofs.YtgonllbkcgaliaaGreatDoor
open Go Go.RowKit Wx Go.Proofs.Tryz
theorem ints_okQ {q:List HP}{x:SlV (Sh.T (.int .i64))}(h:(Sh.slice (.int .i64)).okQ q x):Sees q x.a (x.l.map I64)∧x.l.length≤9223372036854775807:=by
 have e:x.l.map I64=x.l.flatMap (Sh.cells (.int .i64)):=(A7 .i64 x.l).symm
 exact ⟨by rw [e];exact h.2.2.2.1,Nat.le_trans h.1 (Nat.le_trans h.2.1 (by decide))⟩
end Go.Proofs.YtgonllbkcgaliaaGreatDoor
