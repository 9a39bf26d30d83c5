/- Contracts of functions, proved by walking their code. -/
import Derived.Test.YtgonllbkcgaliaaGreatDoorVe
import Derived.KernelRfl
set_option maxRecDepth 100000
set_option linter.unusedVariables false
set_option linter.unusedSimpArgs false
namespace Go.Proofs.YtgonllbkcgaliaaGreatDoor
open Go Go.RowKit Wx Go.WideShapes Go.Proofs.Tryz
structure SlP where
 a:Option Addr
 c:Nat
 l:List (Int×Int)
def prC (k:IntKind)(x:Int×Int):List Value:= [.int k x.1,.int k x.2]
def SlP.ok (k:IntKind)(w:World)(x:SlP):Prop:=x.l.length≤x.c∧x.c≤maxLen∧SeesW w x.a (x.l.flatMap (prC k))
theorem Ge {cs:List Value}{i:Nat}{u:Value}(h:(cs.drop i).take 1= [u]):cs[i]? =some u:=by
 have h1:=congrArg (fun l=>l[0]?) h
 simpa [List.getElem?_take,List.getElem?_drop] using h1
theorem two_of {cs:List Value}{u v:Value}(hl:cs.length=2)(e0:cs[0]? =some u)(e1:cs[1]? =some v):cs= [u,v]:=by
 apply List.ext_getElem?
 intro i
 match i with
 |0=>rw [e0];rfl
 |1=>rw [e1];rfl
 |i+2=>rw [List.getElem?_eq_none (by omega),List.getElem?_eq_none (by simp)]
theorem Ii {H:Type}{enc:TypeId×Value→H}{P:Program}{w:World}{base:Nat}{spare:Nat→Bool}{held:Bool}{e e2:TypeId}{k:IntKind}(he:P.underlying e=some (.array 2 e2))(h2:P.underlying e2=some (.int k))(c1:P.cellsOf e=2)(c2:P.cellsOf e2=1)
 {fuel:Nat} {cs:List Value} {x:DataW H×List MemPlace} (h:DataW.trod enc P w base spare held fuel e cs=some x): ∃ y,cs=prC k y:=by
 obtain ⟨xs,m,_,_,hl,hxl,hx⟩:=DataW.trod_array he h
 rw [c1] at hl
 have g: ∀ i,i<2→ ∃ n,cs[i]? =some (.int k n):=fun i hi=>by
  have h3:=hx i hi
  rw [List.getElem?_eq_getElem (by omega),c2,Nat.mul_one] at h3
  obtain ⟨n,hn,_⟩:=DataW.trod_int h2 h3
  exact ⟨n,Ge hn⟩
 obtain ⟨n0,e0⟩:=g 0 (by omega)
 obtain ⟨n1,e1⟩:=g 1 (by omega)
 exact ⟨(n0,n1),two_of hl e0 e1⟩
theorem A0 {H:Type}{enc:TypeId×Value→H}{P:Program}{w w2:World}{base base2:Nat}{r:Reach}{spare:Nat→Bool}{held:Bool}{t e e2:TypeId}{k:IntKind}{v:Value}{d:DataW H}{p:List MemPlace}(ht:P.underlying t=some (.slice e))(he:P.underlying e=some (.array 2 e2))(h2:P.underlying e2=some (.int k))
 (c1:P.cellsOf e=2) (c2:P.cellsOf e2=1) (hok:Value.okWide P w2 r base2 t v) (h:DataW.Trod enc P w base spare held t v d p): ∃ x:SlP,v= .slice x.a x.l.length x.c∧SlP.ok k w x:=by
 obtain ⟨a,len,cap,rfl⟩:=okWide_slice ht hok
 obtain ⟨fuel,h⟩:=h
 rcases DataW.trod_slice ht h with ⟨hcs,_⟩|⟨a,len,cap,elems,rest,n,rfl,hcs,_,_,hlc,hcm,hel,hget,_,_⟩
 · refine ⟨⟨none,0, []⟩,?_,by simp,by simp,by intro i u hu;simp at hu⟩
   simpa [Value.cells] using hcs
 have key: ∀ i,i<len→ ∃ y:Int×Int,w.cells? base (a.add (i*2)) 2=some (prC k y):=by
  intro i hi
  have hg:=hget i hi
  rw [c1] at hg
  rw [List.getElem?_eq_getElem (by omega),Option.bind_eq_some_iff] at hg
  obtain ⟨cs,h3,h4⟩:=hg
  obtain ⟨y,rfl⟩:=Ii he h2 c1 c2 h4
  exact ⟨y,h3⟩
 obtain ⟨l,hl,hq⟩:=Ro key
 refine ⟨⟨some a,cap,l⟩,?_,by simp [hl,hlc],by simpa using hcm,?_⟩
 · dsimp only;rw [hl];simpa [Value.cells] using hcs
 intro i u hu
 obtain ⟨j,k',y,rfl,hk,hy,hc⟩:=Rl (f:=prC k) (sz:=2) (fun _=>rfl) l i u hu
 have h1:=hq j y hy
 obtain ⟨_,_,h2'⟩:=World.cells?_some h1
 have h3:=h2' k' hk
 rw [hc] at h3
 have hspot:a.spot=none:=by
  have hl0:0<l.length:=by
   have:=(List.getElem?_eq_some_iff.1 hy).1;omega
  have hy0:l[0]? =some l[0]:=by simp
  obtain ⟨_,_,h4⟩:=World.cells?_some (hq 0 _ hy0)
  have h5:=h4 0 (by omega)
  have h6:(prC k l[0])[0]? =some (.int k l[0].1):=rfl
  rw [h6] at h5
  simpa [Addr.add] using World.cell?_spot h5
 obtain ⟨b,o,spot⟩:=a
 simp only at hspot
 subst hspot
 exact ⟨b,o,rfl,by rw [Vz,Vz] at h3;rw [←Nat.add_assoc];exact h3⟩
theorem SlP.see {k:IntKind}{w:World}{x:SlP}(h:x.ok k w)(q:List HP):Sees (Wx.old w::q) x.a (x.l.flatMap (prC k))∧x.l.length≤9223372036854775807:=
 ⟨h.2.2.sees q,Nat.le_trans h.1 (Nat.le_trans h.2.1 (by decide))⟩
end Go.Proofs.YtgonllbkcgaliaaGreatDoor
namespace Go.Proofs.YtgonllbkcgaliaaGreatDoor
open Go Go.RowKit Wx Go.Proofs.Tryz
attribute [local irreducible] Wx.lsH Wx.rsH Wx.stars
structure Frm where
 code:Int
 pc:Int
 loc:List Int
 stk:List Int
 la:Option Addr
 lc:Nat
 sa:Option Addr
 sc:Nat
def U2 (f:Frm):List Value:= [.int .i64 f.code,.int .i64 f.pc,.slice f.la f.loc.length f.lc,.slice f.sa f.stk.length f.sc]
structure FrmQ (q:List HP) (f:Frm):Prop where
 l:Sees q f.la (f.loc.map I64)
 s:Sees q f.sa (f.stk.map I64)
 nl:f.loc.length≤9223372036854775807
 ns:f.stk.length≤9223372036854775807
theorem FrmQ.le {q q':List HP}{f:Frm}(h:FrmQ q' f)(k:Le q q'):FrmQ q f:=⟨h.l.le k,h.s.le k,h.nl,h.ns⟩
def val (n:Int):Prop:= -2147483648≤n∧n≤2147483647
instance (n:Int):Decidable (val n):=by unfold val;infer_instance
def Jo (l:List Int):Prop:= ∀ n∈l,val n
instance (l:List Int):Decidable (Jo l):=by unfold Jo;infer_instance
structure Did where
 kind:Int
 cell:Int
 write:Bool
 av:Int
 ins:Ins
 value:Int
 trap:Int
def Nd (d:Did):List Value:= [.int .i64 d.kind,.int .i64 d.cell,.bool d.write,.int .i64 d.av,.int .i64 d.ins.c,.int .i64 d.ins.a,.int .i64 d.ins.b,.int .i64 d.ins.n,.int .i64 d.value,.int .i64 d.trap]
abbrev Gx:Ins:=⟨0,0,0,0⟩
abbrev S7:Did:=⟨0,0,false,0,Gx,0,0⟩
abbrev Vo:Did:=⟨1,0,false,0,Gx,0,0⟩
abbrev N9 (t:Int):Did:=⟨7,0,false,0,Gx,0,t⟩
abbrev Fm (c:Int)(w:Bool)(v:Int):Did:=⟨2,c,w,v,Gx,0,0⟩
abbrev Ey (k v:Int):Did:=⟨k,0,false,0,Gx,v,0⟩
abbrev Ks (i:Ins)(v:Int):Did:=⟨5,0,false,0,i,v,0⟩
abbrev Gy:Frm:=⟨0,0, [], [],none,0,none,0⟩
def M0 (m:Mdl)(f:Frm)(less:Int):Prop:=Qb m=0∧0≤f.code∧ ∃ h:f.code.toNat<m.threads.length,0≤f.pc∧f.pc<(m.threads[f.code.toNat].ins.length:Int)∧(f.loc.length:Int)=m.threads[f.code.toNat].locals∧Jo f.loc∧Jo f.stk∧
 0≤dAt (dOf m m.threads[f.code.toNat]).1 f.pc.toNat∧dAt (dOf m m.threads[f.code.toNat]).1 f.pc.toNat=(f.stk.length:Int)+less
def W5 (b:Bool):Int:=if b then 1 else 0
def Yg (op a b:Int):Int×Int:=
 if op=3 then (W5 (decide (a=b)),0) else if op=4 then (W5 (decide (a≠b)),0) else if op=5 then (W5 (decide (a<b)),0) else if op=6 then (W5 (decide (a≤b)),0)
 else if (op=10∨op=11)∧b=0 then (0,1)
 else let n:=if op=7 then a+b else if op=8 then a - b else if op=9 then a*b else if op=10 then a.tdiv b else a.tmod b
  if val n then (n,0) else (0,2)
def Uj (l:List Int):Int:=l.foldr (· + ·) 0
def Ww (m:Mdl)(a i:Int):Int:=if 0≤i∧i<m.arrays.getD a.toNat 0 then m.vars.length+Uj (m.arrays.take a.toNat)+i else -1
def Jn (m:Mdl):Int:=m.vars.length+Uj m.arrays
theorem Bh {m:Mdl}{t:Cod}(hin: ∀ x∈t.ins,U7 x)(h:(dOf m t).2=0):0<t.ins.length∧(dOf m t).1.length=t.ins.length∧dAt (dOf m t).1 0=0∧ ∀ a (ha:a<t.ins.length),0≤dAt (dOf m t).1 a→
 ¬dAt (dOf m t).1 a<(Yh t.ins[a].c).1∧dAt (dOf m t).1 a - (Yh t.ins[a].c).1+(Yh t.ins[a].c).2≤25∧((t.ins[a].c=23∨t.ins[a].c=34)→dAt (dOf m t).1 a=0)∧
 ∀ y∈nxt t.ins[a] a,0≤y∧y.toNat<t.ins.length∧dAt (dOf m t).1 y.toNat=dAt (dOf m t).1 a - (Yh t.ins[a].c).1+(Yh t.ins[a].c).2:=by
 unfold dOf at h⊢
 split at h
 · exact absurd h (by decide)
 rename_i h0
 split at h
 · exact absurd h (by decide)
 rename_i h1
 rw [if_neg h0,if_neg h1]
 have hA: ∀ i∈Vs t,(i.1=19∨i.1=20∨i.1=21)→0≤i.2.1:=by
  intro i hi hc
  obtain ⟨x,hx,rfl⟩:=List.mem_map.1 hi
  have:=(hin x hx).2.1
  have hn:nmA x.c=true:=by unfold nmA;simp only [decide_eq_true_eq];have:(Ins.t x).1=x.c:=rfl;omega
  rw [if_pos hn] at this
  exact this.1
 have e:=fun j=>Hx (D:=List.replicate t.ins.length (-1)) (i:=0) (j:=j) (b:=0) (by simp;omega)
 obtain ⟨r1,r2,r3⟩:=Iz hA t.ins.length ((List.replicate t.ins.length (-1)).set 0 0) (List.replicate t.ins.length false) (by simp [W8]) (by simp [W8]) (by simp)
  (fun a ha hd=>by rw [List.getD_eq_getElem?_getD,List.getElem?_replicate] at hd;split at hd<;>simp at hd) h
 have e0:dAt ((List.replicate t.ins.length (-1)).set 0 0) 0=0:=by rw [e];simp
 refine ⟨by omega,by rw [r1,W8],by rw [r2 0 (by rw [e0];omega),e0],fun a ha hd=> ?_⟩
 obtain ⟨g1,g2⟩:=r3 a (by rw [W8];exact ha) hd
 obtain ⟨n1,n2,n3⟩:=Qg g1
 generalize (Je (Vs t) t.ins.length ((List.replicate t.ins.length (-1)).set 0 0) (List.replicate t.ins.length false)).1=D at g1 g2 n1 n2 n3⊢
 have o1:Wo (Vs t) a (dAt D a)=(dAt D a - (Yh t.ins[a].c).1+(Yh t.ins[a].c).2,0)∧dAt D a - (Yh t.ins[a].c).1+(Yh t.ins[a].c).2≤25∧((t.ins[a].c=23∨t.ins[a].c=34)→dAt D a=0):=by
  generalize dAt D a=d at g1⊢
  unfold Wo at g1⊢
  rw [Vl ha] at g1⊢
  dsimp only [Ins.t] at g1⊢
  split at g1
  · exact absurd g1 (by decide)
  rename_i k1
  split at g1
  · exact absurd g1 (by decide)
  rename_i k2
  split at g1
  · exact absurd g1 (by decide)
  rename_i k3
  rw [if_neg k1,if_neg k2,if_neg k3]
  exact ⟨rfl,by omega,fun hc=>Decidable.byContradiction fun hd=>k2 ⟨hc,hd⟩⟩
 rw [Vl ha] at n1 n3 g2
 refine ⟨n3,o1.2.1,o1.2.2,fun y hy=> ?_⟩
 rw [Nn] at hy
 have h2:=g2 y hy
 rw [o1.1] at h2
 have h3:=n1 y hy
 rw [W8] at h3
 have h4:0≤y:=by
  unfold Qw at hy
  have hAi:=hA (t.ins[a].t) (List.mem_map.2 ⟨_,List.getElem_mem ha,rfl⟩)
  split at hy
  · simp at hy
  split at hy
  · rename_i e;rw [List.mem_singleton.1 hy];exact hAi (.inl e)
  split at hy
  · rename_i e
    have h7:=hAi (by omega)
    split at hy
    · rw [List.mem_singleton.1 hy];exact h7
    rcases List.mem_cons.1 hy with rfl|hy
    · exact h7
    rw [List.mem_singleton.1 hy];omega
  simp at hy;omega
 exact ⟨h4,by omega,h2⟩
theorem En {m:Mdl}(h:Qb m=0):Q9 m=0∧ ∀ t∈m.threads,(dOf m t).2=0:=by
 unfold Qb at h
 split at h
 · contradiction
 rename_i h0
 refine ⟨by omega,?_⟩
 generalize m.threads=l at h⊢
 induction l with
 |nil=>intro t ht;cases ht
 |cons x r ih=>
  unfold Tc at h
  split at h
  · contradiction
  rename_i h1
  intro t ht
  rcases List.mem_cons.1 ht with rfl|ht
  · omega
  exact ih h t ht
theorem vOk {m:Mdl}(h:Qb m=0){i:Nat}(hi:i<m.threads.length):(∀ x∈m.threads[i].ins,U7 x)∧m.threads[i].ins.length≤65536∧(dOf m m.threads[i]).2=0∧(T6 m i)=dOf m m.threads[i]:=by
 obtain ⟨h0,h1⟩:=En h
 obtain ⟨h2,h3⟩:=Mp h0 (List.getElem_mem hi)
 refine ⟨h2,h3,h1 _ (List.getElem_mem hi),?_⟩
 unfold T6;rw [if_neg (by omega),dif_pos ⟨by omega,by simpa using hi⟩];simp
theorem Ki {m:Mdl}(h:Qb m=0):Hd m:=Dq.1 (En h).1
theorem Lb {l:List Int}{b:Int}(hb:0≤b)(h: ∀ x∈l,0≤x∧x≤b):0≤Uj l∧Uj l≤b*l.length:=by
 induction l with
 |nil=>simp [Uj]
 |cons x r ih=>
  have h1:=h x (List.mem_cons_self ..)
  have h2:=ih fun y hy=>h y (List.mem_cons_of_mem _ hy)
  unfold Uj at h2⊢
  simp only [List.foldr_cons,List.length_cons]
  have e:b*((r.length+1:Nat):Int)=b*(r.length:Int)+b:=by rw [Int.natCast_add,Int.mul_add];simp
  omega
theorem Kc {l:List Int}{n:Nat}(h:n<l.length):Uj (l.take (n+1))=Uj (l.take n)+l[n]:=by
 rw [List.take_succ_eq_append_getElem h]
 unfold Uj
 generalize l.take n=r
 induction r with
 |nil=>simp
 |cons x r ih=>simp only [List.cons_append,List.foldr_cons];rw [ih];omega
theorem Y8 {m:Mdl}(h:Hd m)(n:Nat):0≤Uj (m.arrays.take n)∧Uj (m.arrays.take n)≤16384:=by
 have h1:=h.2.2.2.1
 have h2:=Lb (l:=m.arrays.take n) (b:=256) (by omega) (fun x hx=>h1.2 x (List.mem_of_mem_take hx))
 have h3:((m.arrays.take n).length:Int)≤64:=by rw [List.length_take];omega
 refine ⟨h2.1,?_⟩
 have:(256:Int)*((m.arrays.take n).length:Int)≤256*64:=by omega
 omega
theorem vals_any {l:List Int}:(! l.any fun x=>decide (x< -2147483648∨x>2147483647))=decide (Jo l):=by
 rw [Bool.eq_iff_iff,decide_eq_true_iff]
 unfold Jo val
 simp only [Bool.not_eq_true',List.any_eq_false,decide_eq_true_eq]
 constructor
 · intro h n hn;have:=h n hn;omega
 intro h n hn;have:=h n hn;omega
theorem mayS_at {m:Mdl}{f:Frm}(h1:Qb m=0∧0≤f.code∧f.code<(m.threads.length:Int))(hth:f.code.toNat<m.threads.length)(h2:0≤f.pc∧f.pc<(m.threads[f.code.toNat].ins.length:Int)):
 M0 m f 0↔(f.loc.length:Int)=m.threads[f.code.toNat].locals∧Jo f.loc∧(f.stk.length:Int)=dAt (dOf m m.threads[f.code.toNat]).1 f.pc.toNat∧Jo f.stk:=by
 constructor
 · rintro ⟨_,_,_,_,_,k1,k2,k3,k4,k5⟩;exact ⟨k1,k2,by omega,k3⟩
 rintro ⟨k1,k2,k3,k4⟩;exact ⟨h1.1,h1.2.1,hth,h2.1,h2.2,k1,k2,k4,by omega,by omega⟩
theorem Tryz.info2:(prog.info? 2).map (fun i=>(i.zero,i.size,i.bytes))=some (some (.int .i64 0),1,8):=by kernel_rfl
section
variable {G:World}{q pre:List HP}{a b A:Option Addr}{c d C p p0 p1 p2 i:Nat}{lo hi n cd dep:Int}{fv:Value}{x y:Ins}{t:Cod}{m:Mdl}{at_:Int}
variable {l l2:List Int}{f:Frm}{th:Int}
theorem An:CallF prog G 75 [.int .i64 n] (q) (Ret fun v q'=>v= .bool (decide (n< -2147483648∨n>2147483647))∧q'=q):=by
 refine CallF.of func75 ntmps75 rfl (fun F cs=> ?_)
 refine xo 9 ?_;refine Zf [5,2,0] ?_
 apply Zx 3 8 5 rfl
 · intro g1 M1;have h1:=sp g1
   refine oo 3 ?_;exact Zz M1 ⟨orF g1,Zv⟩
 · intro g1 M1;have h1:=sp g1
   refine oo 3 ?_;exact Zz M1 ⟨orT g1,Zv⟩
 refine ox 2 ?_;refine Zq (q) func75 (Zp results75 rfl) ⟨_,rfl,congrArg Value.bool (by rw [Bool.eq_iff_iff,decide_eq_true_iff];simp),rfl⟩
theorem Gf {l:List Int}:Rdr prog G (.func (.func 75) #[] #[]) I64 (fun x=> .bool (decide (x< -2147483648∨x>2147483647))) q l:=
 fun q1 h x _=>Mo call75 An
theorem K6 (hs:Sees q a (l.map I64))(hL:l.length≤9223372036854775807):CallF prog G 50 [.slice a l.length c] (q) (Ret fun v q'=>v= .bool (decide (Jo l))∧q'=q):=by
 refine CallF.of func50 ntmps50 rfl (fun F cs=> ?_)
 refine xo 7 ?_;refine XO.cR call74 (Nz (u:=fun x=>decide (x< -2147483648∨x>2147483647)) (hs.le leA) hL Gf) ?_
 refine Zn (Pu.not rfl) ?_;refine ox 2 ?_;refine Zq (q) func50 (Zp results50 rfl) ⟨_,rfl,congrArg Value.bool vals_any,rfl⟩
theorem Gp (gc:GC q)(g:GE q)(hq:MdlQ q m):CallF prog G 48 [.pointer (some ⟨p,0,none⟩),.int .i64 th] (pto p (.cells (Wp m).toArray 26 (0,0))::q) (Ret fun v q'=>v= .bool (decide (Qb m=0∧0≤th∧th<(m.threads.length:Int)))∧q'=pto p (.cells (Wp m).toArray 26 (0,0))::q):=by
 refine CallF.of func48 ntmps48 rfl (fun F cs=> ?_)
 refine xo 8 ?_;refine ldA ?_;refine XO.cR call28 (Ox (gc.le leA) (g.le leA) (hq.le leA)) ?_;refine oo 2 ?_;refine Zf [10,4,0,1] ?_
 apply Zg 3 13 10 rfl
 · intro g1 M1;have h1:=sp g1
   refine oo 3 ?_;exact Zz M1 ⟨Yd g1,Zv⟩
 · intro g1 M1;have h1:=sp g1
   refine oo 3 ?_;exact Zz M1 ⟨Yc g1,Zv⟩
 refine oo 1 ?_;refine Zf [14,4,0,1] ?_
 apply Zg 8 22 14 rfl
 · intro g1 M1;have h1:=sp g1
   refine oo 4 ?_;refine ld ?_;refine oo 3 ?_;exact Zz M1 ⟨Yd g1,Zv⟩
 · intro g1 M1;have h1:=sp g1
   refine oo 8 ?_;exact Zz M1 ⟨Yc g1,Zv⟩
 refine ox 2 ?_;refine Zq (pto p (.cells (Wp m).toArray 26 (0,0))::q) func48 (Zp results48 rfl) ⟨_,rfl,congrArg Value.bool (by rw [Bool.eq_iff_iff,decide_eq_true_iff];simp;try omega),rfl⟩
set_option maxHeartbeats 2000000 in
theorem Rj (gc:GC q)(g:GE q)(hq:MdlQ q m)(hf:FrmQ q f):CallF prog G 27 [.agg (Wp m).toArray,.agg (U2 f).toArray] (q) (Ret fun v q'=>(∃ bb,v= .bool bb∧(bb=true↔M0 m f 0))∧q'=q):=by
 refine CallF.of func27 ntmps27 rfl (fun F cs=> ?_)
 have hlen:=Zm (f:=Wk) (sz:=4) (fun _=>rfl) m.threads;have hnt:=hq.nt;have hnl:=hf.nl;have hns:=hf.ns
 refine xo 2 ?_;refine Zb fun n1=> ?_
 refine Zb fun n2=> ?_
 refine oo 6 ?_;refine ld ?_;refine Zh call48 Zw (Gp (gc.le leA) (g.le leA) (hq.le leA)) ?_;rintro _ _ ⟨rfl,rfl⟩
 refine Zn (Pu.not rfl) ?_;refine ox 1 ?_;refine X.part 10 rfl (fun h1=> ?_) (fun h1=> ?_)
 · replace h1:=sp h1
   refine xx 5 ?_;refine Zq (q) func27 (Zp results27 rfl) ⟨_,rfl,⟨false,rfl,by simp only [Bool.false_eq_true,false_iff];rintro ⟨k1,k2,k3,_⟩;exact h1 ⟨k1,k2,by omega⟩⟩,rfl⟩
 replace h1:=sp h1
 refine xo 4 ?_;refine ldA ?_;refine oo 1 ?_;refine ld ?_
 have hth:f.code.toNat<m.threads.length:=by omega
 obtain ⟨hin,hL,hd0,hdp⟩:=vOk h1.1 hth;obtain ⟨hp0,hDl,_,_⟩:=Bh hin hd0
 rw [show ((f.code.toNat:Nat):Int)=f.code by omega] at hdp
 refine Zh call53 (Le.refl _) (Od (th:=f.code) (gc.le leA) (g.le leA) (hq.le leA)) ?_
 rintro _ _ (⟨hz,rfl,rfl⟩|⟨hz,a1,c1,rfl,rfl⟩)<;>rw [hdp] at hz
 · exact absurd hd0 hz
 rw [hdp]
 refine oo 12 ?_;refine Wh 20 ?_;refine oo 1 ?_;refine ld ?_;refine oo 3 ?_;refine Zf [25,5,4,3,2] ?_
 apply Zx 6 31 25 rfl
 · intro g2 M2;have h2:=sp g2
   refine oo 1 ?_;refine ld ?_;refine oo 4 ?_;exact Zz M2 ⟨orF g2,Zv⟩
 · intro g2 M2;have h2:=sp g2
   refine oo 6 ?_;exact Zz M2 ⟨orT g2,Zv⟩
 refine ox 1 ?_;refine X.part 31 rfl (fun h2=> ?_) (fun h2=> ?_)
 · replace h2:=sp h2
   refine xx 5 ?_;refine Zq (q) func27 (Zp results27 rfl) ⟨_,rfl,⟨false,rfl,by simp only [Bool.false_eq_true,false_iff];rintro ⟨k1,k2,k3,k4,k5,_⟩;omega⟩,rfl⟩
 replace h2:=sp h2
 refine xx 3 ?_;refine drw ?_;refine dd [0] ?_;refine ldD 1 ?_;refine dd [2,3] ?_;refine ldD 4 ?_;refine dd [5] ?_;refine ldD 6 ?_;refine Yp hq.t (by rw [hlen];omega) (fun b1 o1 e1=> ?_)
 have hs1:=hq.t;rw [e1] at hs1
 refine XD.know 36 (.slice (some ⟨b1,o1,none⟩) m.threads.length m.tc) rfl (by rw [e1]) ?_
 refine dd [7,8] ?_;refine ldD 9 ?_ (hc:=(Yi (j:=f.code) hs1 leA (fun _=>rfl) hth (by omega) 1 _ rfl))
 refine dd [10,11] ?_;refine XD.part 43 rfl (fun h3=> ?_) (fun h3=> ?_)
 focus
  replace h3:=sp h3
  refine dd [12] ?_;refine ldD 13 ?_;refine Z7 14 call50 (K6 (hf.l.le leA) hf.nl) ?_ (hL:=hlR)
  refine dd [15,16] ?_;refine XD.part 48 rfl (fun h4=> ?_) (fun h4=> ?_)
  focus
   replace h4:=sp h4
   refine dd [17] ?_;refine ldD 18 ?_;refine dd [19,20,21] ?_;refine ldD 22 ?_
   have hpc:f.pc.toNat<(dOf m m.threads[f.code.toNat]).1.length:=by omega
   refine XD.lsadr (l:=(dOf m m.threads[f.code.toNat]).1) (by omega) (fun g1 e_=> ?_);subst e_
   refine dd [23] ?_;refine ldD 24 ?_ (hc:=(Cl.e1 (Sees.lsH _) Zw hpc (by omega)))
   refine dd [25,26,27] ?_;refine XD.sb [59,4,3] ?_
   apply E1 1 [0,1,2,3,4,5,6,7,8,9,10,11,12,13,14,15,16,17,18,19,20,21,22,23,24,25,26,27,28,29,30,31] 63 59 rfl
   · intro g5 M5;have h5:=sp g5
     refine dd [28] ?_;refine ldD 29 ?_;refine Z7 30 call50 (K6 (hf.s.le leA) hf.ns) ?_ (hL:=hlR)
     refine dd [31] ?_;exact Fl M5 ⟨Yd g5,Zv⟩
   · intro g5 M5;have h5:=sp g5
     refine dd [28,29,30,31] ?_;exact Fl M5 ⟨Yc g5,Zv⟩
   intro L_
   refine dd [32] ?_
  rotate_left
  focus
   replace h4:=sp h4
   refine dd [17,18,19,20,21,22,23,24,25,26,27,28,29,30,31,32] ?_
 rotate_left 2
 focus
  replace h3:=sp h3
  refine dd [12,13,14,15,16,17,18,19,20,21,22,23,24,25,26,27,28,29,30,31,32] ?_
 all_goals
  refine XD.nil ?_;refine Zq (q) func27 (Zp results27 rfl) ⟨_,rfl,⟨_,rfl,by rw [mayS_at h1 hth ⟨h2.1,by omega⟩];first|(rw [Un hpc];simp [h3,h4];done)|(simp [h3,h4];done)|(simp [h3];done)⟩,rfl⟩
end
theorem Z1 {α:Type}{l:List α}{n:Nat}{d:α}(h:n<l.length):l.getD n d=l[n]:=by simp [List.getD,h]
section
variable {G:World}{q pre:List HP}{a b A:Option Addr}{c d C p p0 p1 p2 i:Nat}{lo hi n cd dep:Int}{fv:Value}{x y:Ins}{t:Cod}{m:Mdl}{at_:Int}
variable {l l2:List Int}{f:Frm}{th k:Int}
theorem Ay (hs:Sees q a (l.map I64))(hL:l.length≤1000000000):CallF prog G 35 [.slice a l.length c] (q) (Ret fun v q'=> ∃ a' c',v= .slice a' l.length c'∧q'=lsH I64 2 a' c' (l)::q):=by
 refine CallF.of func35 ntmps35 rfl (fun F cs=> ?_)
 rcases Nat.eq_zero_or_pos l.length with hl0|hl0
 · obtain rfl:=List.eq_nil_of_length_eq_zero hl0
   refine xx 10 ?_;refine X.part 4 rfl (fun h1=> ?_) (fun h1=> ?_)
   · refine xx 5 ?_;refine Zq (lsH I64 2 none 0 []::q) func35 (Zp results35 rfl) ⟨_,rfl,none,0,rfl,rfl⟩ ((leA).trans (Yw _ _ _))
   refine xo 4 ?_;refine XO.ef (S4 I64 underlying22 Tryz.info2) ?_;rintro _ _ ⟨g,rfl,rfl⟩
   refine oo 1 ?_;refine XO.ef (Yt (f:=I64) (l:= []) (m:= []) underlying22 Tryz.info2 rfl rfl rfl Zw (hs.le leA) (fun _=>rfl) (by simp;try omega) (by simp;try omega)) ?_
   rintro _ _ ⟨a2,c2,rfl,rfl⟩
   refine ox 2 ?_;refine Zq (lsH I64 2 a2 c2 []::q) func35 (Zp results35 rfl) ⟨_,rfl,a2,c2,by simp,rfl⟩
 refine Hr hs (by simp;omega) (fun b1 o1 e_=> ?_);subst e_
 refine xx 10 ?_;refine Zj 4 ?_;refine xo 4 ?_;refine XO.ef (S4 I64 underlying22 Tryz.info2) ?_;rintro _ _ ⟨g,rfl,rfl⟩
 refine oo 1 ?_;refine XO.ef (Yt (f:=I64) (l:= []) (m:=l) underlying22 Tryz.info2 rfl rfl rfl Zw (hs.le leA) (fun _=>rfl) (by simp;try omega) (by simp;try omega)) ?_
 rintro _ _ ⟨a2,c2,rfl,rfl⟩
 refine ox 2 ?_;refine Zq (lsH I64 2 a2 c2 l::q) func35 (Zp results35 rfl) ⟨_,rfl,a2,c2,by simp,rfl⟩
theorem Ee (hf:FrmQ q f)(hl:f.loc.length≤1000000000)(hs:f.stk.length≤1000000000):CallF prog G 51 [.agg (U2 f).toArray] (q) (Ret fun v q'=> ∃ la lc sa sc,v= .agg (U2 ⟨f.code,f.pc,f.loc,f.stk,la,lc,sa,sc⟩).toArray∧q'=lsH I64 2 sa sc (f.stk)::lsH I64 2 la lc (f.loc)::q):=by
 refine CallF.of func51 ntmps51 rfl (fun F cs=> ?_)
 refine xo 2 ?_;refine Zb fun n1=> ?_
 refine Zy zeroValue67 fun n2=> ?_
 refine ox 2 ?_;refine drw ?_;refine dd [0] ?_;refine ldD 1 ?_;refine dd [3] ?_;refine ldD 4 ?_;refine Yf 2 call35 (Le.refl _) (Ay (l:=f.loc) (hf.l.le leA) hl) ?_
 rintro _ _ ⟨la,lc,rfl,rfl⟩
 refine ⟨hlA,?_⟩
 refine dd [6] ?_;refine Yf 5 call35 (Le.refl _) (Ay (l:=f.stk) (hf.s.le leA) hs) ?_
 rintro _ _ ⟨sa,sc,rfl,rfl⟩
 refine ⟨trivial,?_⟩
 refine stD 7 ?_;refine dd [8] ?_;refine stD 9 ?_;refine XD.nil ?_;refine xo 2 ?_;refine ldA ?_;refine stA ?_;refine ox 1 ?_;refine Zq (lsH I64 2 sa sc (f.stk)::lsH I64 2 la lc (f.loc)::q) func51 (rA_ results51) ⟨_,rfl,la,lc,sa,sc,rfl,rfl⟩
set_option maxHeartbeats 1000000 in
theorem New_ok (gc:GC q)(g:GE q)(hq:MdlQ q m):CallF prog G 23 [.agg (Wp m).toArray,.int .i64 th] (q) (Ret fun v q'=>(∃ h:Qb m=0∧0≤th∧th.toNat<m.threads.length,∃ la lc,v= .tuple [.agg (U2 ⟨th,0,List.replicate (m.threads[th.toNat]'h.2.2).locals.toNat 0, [],la,lc,none,0⟩).toArray,.int .i64 0].toArray∧q'=lsH I64 2 la lc (List.replicate (m.threads[th.toNat]'h.2.2).locals.toNat 0)::q)∨(¬ (Qb m=0∧0≤th∧th.toNat<m.threads.length)∧v= .tuple [.agg (U2 Gy).toArray,.int .i64 2].toArray∧q'=q)):=by
 refine CallF.of func23 ntmps23 rfl (fun F cs=> ?_)
 have hlen:=Zm (f:=Wk) (sz:=4) (fun _=>rfl) m.threads;have hnt:=hq.nt
 refine xo 2 ?_;refine Zb fun n1=> ?_
 refine Zy zeroValue67 fun n2=> ?_
 refine oo 6 ?_;refine Zh call48 Zw (Gp (gc.le leA) (g.le leA) (hq.le leA)) ?_;rintro _ _ ⟨rfl,rfl⟩
 refine Zn (Pu.not rfl) ?_;refine ox 1 ?_;refine X.part 8 rfl (fun h1=> ?_) (fun h1=> ?_)
 · replace h1:=sp h1
   refine xo 4 ?_;refine stA ?_;refine ox 2 ?_;refine Zq (q) func23 (Te results23) ⟨_,rfl,.inr ⟨by omega,rfl,rfl⟩⟩
 replace h1:=sp h1
 refine xo 6 ?_;refine ld ?_;refine oo 1 ?_
 have hth:th.toNat<m.threads.length:=by omega
 have hco:=(Ki h1.1).2.2.2.2.2.2 _ (List.getElem_mem hth);have hloc:=hco.2.1;unfold Z8 at hloc
 obtain ⟨nl,hnl⟩: ∃ nl:Nat,m.threads[th.toNat].locals=(nl:Int):=⟨m.threads[th.toNat].locals.toNat,by omega⟩
 refine Yz hq.t (by rw [hlen];omega) (fun b1 o1 e1=> ?_)
 have hs1:=hq.t;rw [e1] at hs1
 refine XO.know 12 (.slice (some ⟨b1,o1,none⟩) m.threads.length m.tc) rfl (by rw [e1]) ?_
 refine oo 2 ?_;refine ld ?_ (hc:=(Yi (j:=th) hs1 leA (fun _=>rfl) hth (by omega) 1 _ rfl))
 refine XO.know 16 (.int .i64 (nl:Int)) rfl (congrArg (Value.int .i64) hnl) ?_;refine XO.ef (Hh (n:=nl) rfl rfl underlying22 Tryz.info2 rfl rfl (by omega) (by omega)) ?_
 rintro _ _ ⟨g3,rfl,rfl⟩
 refine XO.le (q':=lsH I64 2 (some ⟨g3,0,none⟩) nl (List.replicate nl 0)::_) (Le.trans Zw (by rw [←Mu (f:=I64) (u:=0) rfl];exact Le.refl _)) ?_
 refine oo 1 ?_;refine stA ?_;refine ox 2 ?_;refine Zq (lsH I64 2 (some ⟨g3,0,none⟩) nl (List.replicate nl 0)::q) func23 (Te results23) ⟨_,rfl,.inl ⟨⟨h1.1,h1.2.1,hth⟩,some ⟨g3,0,none⟩,nl,by rw [hnl];simp [U2];rfl,by rw [hnl];rfl⟩⟩
set_option maxHeartbeats 1000000 in
theorem count_ok (hq:MdlQ q m)(hk:Qb m=0):CallF prog G 47 [.pointer (some ⟨p,0,none⟩)] (pto p (.cells (Wp m).toArray 26 (0,0))::q) (Ret fun v q'=>v= .int .i64 (Jn m)∧q'=pto p (.cells (Wp m).toArray 26 (0,0))::q):=by
 refine CallF.of func47 ntmps47 rfl (fun F cs=> ?_)
 have hmo:=Ki hk;have hv1:=hmo.2.2.1.1;have ha1:=hmo.2.2.2.1
 refine xo 9 ?_;refine ld ?_;refine oo 9 ?_;refine ld ?_;refine ox 4 ?_;refine X.know 3 (.int .i64 ((m.vars.length:Int)+Uj (m.arrays.take 0))) rfl (congrArg (Value.int .i64) (by simp [Uj])) ?_
 refine X.at (X.loop (fun (s:Nat)=>s≤m.arrays.length) (fun s=> [(16,.int .i64 (s:Int)),(15,.int .i64 (m.arrays.length:Int)),(14,.slice m.aa m.arrays.length m.ac),(3,.int .i64 ((m.vars.length:Int)+Uj (m.arrays.take s))),(2,.int .i64 0)]) (fun s=>pto p (.cells (Wp m).toArray 26 (0,0))::(q++F)) (fun s=>m.arrays.length - s) (fun s hi_ ih=> ?_) 0 (Nat.zero_le _)) Zt leA
 try dsimp only at hi_ ih⊢
 obtain hs0:=hi_
 refine xx 5 ?_;refine X.part 17 rfl (fun h0=> ?_) (fun h0=> ?_)
 · replace h0:=sp h0
   have hk1:s<m.arrays.length:=by omega
   have hsu:=Y8 hmo s;have hx:=ha1.2 _ (List.getElem_mem hk1);unfold Z8 at hx
   refine xo 6 ?_;refine Yz hq.a (by simp;omega) (fun b1 o1 e1=> ?_)
   have hs1:=hq.a;rw [e1] at hs1
   refine XO.know 14 (.slice (some ⟨b1,o1,none⟩) m.arrays.length m.ac) rfl (by rw [e1]) ?_
   refine oo 1 ?_;refine ld ?_ (hc:=(Cl.e1 hs1 leA hk1 rfl))
   refine ox 13 ?_;refine X.know 3 (.int .i64 ((m.vars.length:Int)+Uj (m.arrays.take (s+1)))) rfl (congrArg (Value.int .i64) (by rw [Kc hk1];omega)) ?_
   refine X.know 14 (.slice m.aa m.arrays.length m.ac) rfl (by rw [e1]) ?_
   refine X.at (ih (s+1) (by omega) (by omega)) Zt leA
 replace h0:=sp h0
 refine xx 7 ?_;refine Zq (pto p (.cells (Wp m).toArray 26 (0,0))::q) func47 (Zp results47 rfl) ⟨_,rfl,by unfold Jn;rw [List.take_of_length_le (by omega)],rfl⟩
set_option maxHeartbeats 1000000 in
theorem Tw (gc:GC q)(g:GE q)(hq:MdlQ q m)(hf:FrmQ q f):CallF prog G 38 [.agg (Wp m).toArray,.agg (U2 f).toArray] (q) (Ret fun v q'=>(∃ h:M0 m f 0,v= .tuple [.agg (Zr ((m.threads[f.code.toNat]'h.2.2.1).ins.getD f.pc.toNat Gx)).toArray,.int .i64 0].toArray∧q'=q)∨(¬M0 m f 0∧v= .tuple [.agg (Zr Gx).toArray,.int .i64 2].toArray∧q'=q)):=by
 refine CallF.of func38 ntmps38 rfl (fun F cs=> ?_)
 have hlen:=Zm (f:=Wk) (sz:=4) (fun _=>rfl) m.threads;have hnt:=hq.nt
 refine xo 2 ?_;refine Zb fun n1=> ?_
 refine Zb fun n2=> ?_
 refine Zy zeroValue48 fun n3=> ?_
 refine oo 5 ?_;refine ldA ?_;refine ldA ?_;refine Zh call27 (Le.refl _) (Rj (gc.le leA) (g.le leA) (hq.le leA) (hf.le leA)) ?_;rintro _ _ ⟨⟨bb,rfl,hbb⟩,rfl⟩
 refine Zn (Pu.not rfl) ?_;refine ox 1 ?_;refine X.part 9 rfl (fun h1=> ?_) (fun h1=> ?_)
 · replace h1:=sp h1
   refine xo 4 ?_;refine stA ?_;refine ox 2 ?_;refine Zq (q) func38 (Te results38) ⟨_,rfl,.inr ⟨fun k=>by have:=hbb.2 k;simp [this] at h1,rfl,rfl⟩⟩
 replace h1:=sp h1
 refine xx 3 ?_;refine drw ?_;refine dd [0] ?_;refine ldD 1 ?_;refine dd [2] ?_;refine ldD 3 ?_
 have hm:=hbb.1 (by simpa using h1);obtain ⟨hm1,hm2,hth,hm3,hm4,hm5⟩:=hm
 have hpc:f.pc.toNat<m.threads[f.code.toNat].ins.length:=by omega
 have hql:=hq.x _ (List.getElem_mem hth);have hni:=hql.ni;have hsi:=hql.i;have hlen2:=Zm (f:=Zr) (sz:=4) (fun _=>rfl) m.threads[f.code.toNat].ins
 refine Yp hq.t (by rw [hlen];omega) (fun b1 o1 e1=> ?_)
 have hs1:=hq.t;rw [e1] at hs1
 refine XD.know 12 (.slice (some ⟨b1,o1,none⟩) m.threads.length m.tc) rfl (by rw [e1]) ?_
 refine dd [4,5] ?_;refine ldD 6 ?_ (hc:=(Yi (j:=f.code) hs1 leA (fun _=>rfl) hth (by omega) 2 _ rfl))
 refine dd [7] ?_;refine ldD 8 ?_;refine Yp hsi (by rw [hlen2];omega) (fun b2 o2 e2=> ?_)
 have hs2:=hsi;rw [e2] at hs2
 refine XD.know 17 (.slice (some ⟨b2,o2,none⟩) m.threads[f.code.toNat].ins.length m.threads[f.code.toNat].ic) rfl (by rw [e2]) ?_
 refine dd [9] ?_;refine Vp 10 (m:=f.pc.toNat) isAgg48 sizeOf48 hs2 hpc ?_
 refine Z9 11 ?_;refine dd [12] ?_;refine XD.nil ?_;refine Zq (q) func38 (Te results38) ⟨_,rfl,.inl ⟨⟨hm1,hm2,hth,hm3,hm4,hm5⟩,by rw [Z1 hpc];rfl,rfl⟩⟩
end
def Ui (k:Int):PanicEntry:= { v:= .iface 155 (.agg [.int .i64 k].toArray),recovered:=false }
def mkS (c a b:Int):Int×Int:=if c=8 then (if val (-b) then (-b,0) else (0,2)) else if c=9 then (W5 (decide (b=0)),0) else if c=22 then (W5 (decide (b≠0)),0) else Yg (c - 7) a b
section
variable {G:World}{q pre:List HP}{a b A:Option Addr}{c d C p p0 p1 p2 i:Nat}{lo hi n cd dep:Int}{fv:Value}{x y:Ins}{t:Cod}{m:Mdl}{at_:Int}
variable {l cells:List Int}{idx arr z k u:Int}{x1 x2 x3 x4 x5 x6:Value}{pm:Nat}{bb:Bool}
theorem U5 (h0:0<l.length):CallF prog G 78 [.pointer (some ⟨p,0,none⟩)] ([pto p (.cells [.slice a (l).length c,x1,x2,x3,x4,x5,x6].toArray 122 (0,0)),lsH I64 2 a c (l)]) (Ret fun v q'=>v= .int .i64 (l.getD (l.length - 1) 0)∧q'= [pto p (.cells [.slice a (l.take (l.length - 1)).length c,x1,x2,x3,x4,x5,x6].toArray 122 (0,0)),lsH I64 2 a c (l.take (l.length - 1))]):=by
 refine CallF.of func78 ntmps78 rfl (fun F cs=> ?_)
 refine Qd (l:=l) h0 (fun g e_=> ?_);subst e_
 refine Su (l:=l) (fun hcap=> ?_)
 refine X.lsmax (l:=l) (fun hmx=> ?_)
 refine xx 5 ?_;refine drw ?_;refine dd [0,1,2] ?_;refine ldD 3 ?_;refine dd [4,5,6] ?_;refine ldD 7 ?_;refine dd [8,9,10] ?_;refine ldD 11 ?_ (hc:=(P9 (Sees.lsH _) Zw h0))
 refine dd [12] ?_;refine XD.nil ?_;refine xx 1 ?_;refine drw ?_;refine dd [0,1,2,3] ?_;refine ldD 4 ?_;refine dd [5,6,7] ?_;refine ldD 8 ?_;refine dd [9,10,11,12,13] ?_;refine XD.know 27 (.slice (some ⟨g,0,none⟩) (l.take (l.length - 1)).length c) rfl (by rw [List.length_take];congr 1;omega) ?_
 refine stD 14 ?_;refine XD.nil ?_;refine xx 5 ?_;refine Zq [pto p (.cells [.slice (some ⟨g,0,none⟩) (l.take (l.length - 1)).length c,x1,x2,x3,x4,x5,x6].toArray 122 (0,0)),lsH I64 2 (some ⟨g,0,none⟩) c (l.take (l.length - 1))] func78 (Zp results78 rfl) ⟨_,rfl,by rw [Z1 (by omega)],rfl⟩ (Le.pick Zw ((leA).trans (R4 _ _ _ _ _ _ _)))
theorem J3 (hL:l.length≤1000000):CallF prog G 79 [.pointer (some ⟨p,0,none⟩),.int .i64 z] ([pto p (.cells [.slice a (l).length c,x1,x2,x3,x4,x5,x6].toArray 122 (0,0)),lsH I64 2 a c (l)]) (Ret fun v q'=> ∃ a' c',q'= [pto p (.cells [.slice a' (l++ [z]).length c',x1,x2,x3,x4,x5,x6].toArray 122 (0,0)),lsH I64 2 a' c' (l++ [z])]):=by
 refine CallF.of func79 ntmps79 rfl (fun F cs=> ?_)
 refine xo 5 ?_;refine ld ?_;refine oo 1 ?_;refine XO.ef (Yj I64 [z] underlying22 Tryz.info2 rfl rfl rfl rfl rfl rfl (fun _=>rfl)) ?_
 rintro _ _ ⟨g1,rfl,rfl⟩
 refine XO.ef (Yt (l:=l) (m:= [z]) underlying22 Tryz.info2 rfl rfl rfl Zw ((Sees.lsH _).le Zw) (fun _=>rfl) (by simp;omega) (by simp;omega)) ?_
 rintro _ _ ⟨a1,c1,rfl,rfl⟩
 refine oo 2 ?_;refine st ?_;refine ox 1 ?_;refine Wr [pto p (.cells [.slice a1 (l++ [z]).length c1,x1,x2,x3,x4,x5,x6].toArray 122 (0,0)),lsH I64 2 a1 c1 (l++ [z])] func79 (U1 results79) ⟨_,rfl,a1,c1,rfl⟩
theorem Fg:CallF prog G 164 [.int .i64 k] (q) (RP (fun _ _=>False) (fun ch q'=>ch= [Ui k]∧q'=q)):=by
 refine CallF.of func164 ntmps164 rfl (fun F cs=> ?_)
 refine xo 4 ?_;exact XO.pn (Pn.panic rfl) (FQ.panic func164 (RP.thr ⟨rfl,rfl⟩))
theorem Kh:CallF prog G 113 [.int .i64 z] (q) (RP (fun v q'=>val z∧v= .int .i64 z∧q'=q) (fun ch q'=> ¬val z∧ch= [Ui 2]∧q'=q)):=by
 refine CallF.of func113 ntmps113 rfl (fun F cs=> ?_)
 refine xo 10 ?_;refine Zf [5,2,0] ?_
 apply Zx 3 8 5 rfl
 · intro g1 M1;have h1:=sp g1
   refine oo 3 ?_;exact Zz M1 ⟨orF g1,Zv⟩
 · intro g1 M1;have h1:=sp g1
   refine oo 3 ?_;exact Zz M1 ⟨orT g1,Zv⟩
 refine ox 1 ?_;refine X.part 8 rfl (fun h1=> ?_) (fun h1=> ?_)
 · replace h1:=sp h1
   refine xo 2 ?_;refine Ju call164 (Le.refl _) (Fg) ?_ ?_
   · rintro _ _ ⟨rfl,rfl⟩
     exact FQ.panic func113 (RP.thr ⟨(by unfold val;omega),rfl,rfl⟩)
   rintro _ _ ⟨⟩
 replace h1:=sp h1
 refine xx 7 ?_;refine Zq (q) func113 (Zp results113 rfl) (RP.ret ⟨(by unfold val;omega),rfl,rfl⟩)
theorem Dh:CallF prog G 125 [.int .i64 z] (q) (RP (fun v q'=>z≠0∧v= .int .i64 z∧q'=q) (fun ch q'=>z=0∧ch= [Ui 1]∧q'=q)):=by
 refine CallF.of func125 ntmps125 rfl (fun F cs=> ?_)
 refine xx 10 ?_;refine X.part 4 rfl (fun h1=> ?_) (fun h1=> ?_)
 · replace h1:=sp h1
   refine xo 2 ?_;refine Ju call164 (Le.refl _) (Fg) ?_ ?_
   · rintro _ _ ⟨rfl,rfl⟩
     exact FQ.panic func125 (RP.thr ⟨(by omega),rfl,rfl⟩)
   rintro _ _ ⟨⟩
 replace h1:=sp h1
 refine xx 7 ?_;refine Zq (q) func125 (Zp results125 rfl) (RP.ret ⟨(by omega),rfl,rfl⟩)
theorem Km:CallF prog G 115 [.bool bb] (q) (Ret fun v q'=>v= .int .i64 (W5 bb)∧q'=q):=by
 refine CallF.of func115 ntmps115 rfl (fun F cs=> ?_)
 refine xx 9 ?_;refine X.part 3 rfl (fun h0=> ?_) (fun h0=> ?_)
 · refine xx 5 ?_;refine Zq (q) func115 (Zp results115 rfl) ⟨_,rfl,by rw [show bb=true by simpa using h0];rfl,rfl⟩
 refine xx 6 ?_;refine Zq (q) func115 (Zp results115 rfl) ⟨_,rfl,by rw [show bb=false by simpa using h0];rfl,rfl⟩
theorem Lq {a b:Int}(ha:val a)(hb:val b): -4611686018427387904≤a*b∧a*b≤4611686018427387904:=by
 unfold val at ha hb
 have h1:a*b≤a.natAbs*b.natAbs:=by rw [←Int.natCast_mul,←Int.natAbs_mul];omega
 have h2: -(a.natAbs*b.natAbs:Int)≤a*b:=by rw [←Int.natCast_mul,←Int.natAbs_mul];omega
 have h3:(a.natAbs:Int)*b.natAbs≤2147483648*2147483648:=by
  rw [←Int.natCast_mul]
  have:a.natAbs*b.natAbs≤2147483648*2147483648:=Nat.mul_le_mul (by omega) (by omega)
  omega
 omega
theorem Lj {a b:Int}(ha:val a): -2147483648≤a.tdiv b∧a.tdiv b≤2147483648:=by
 unfold val at ha
 have h:=Int.natAbs_tdiv_le_natAbs a b
 omega
theorem Lz {a b:Int}(ha:val a): -2147483648≤a.tmod b∧a.tmod b≤2147483648:=by
 unfold val at ha
 have h:(a.tmod b).natAbs≤a.natAbs:=by rw [Int.natAbs_tmod];exact Nat.mod_le _ _
 omega
theorem maker8 (hu:val u)(hz:val z):CallF prog G 112 [.int .i64 u,.int .i64 z] (q) (RP (fun v q'=>(mkS 8 u z).2=0∧v= .int .i64 (mkS 8 u z).1∧q'=q) (fun ch q'=>(mkS 8 u z).2≠0∧ch= [Ui (mkS 8 u z).2]∧q'=q)):=by
 refine CallF.of func112 ntmps112 rfl (fun F cs=> ?_)
 have hu2:=hu;have hz2:=hz;unfold val at hu2 hz2
 refine xo 7 ?_;refine Zn (Bp rfl) ?_;refine XO.know 6 (.int .i64 (-z)) rfl (congrArg (Value.int .i64) ((V4 (by omega) (by omega)).trans (by omega):IntKind.i64.wrap (0 - z)= -z)) ?_
 refine Ju call113 (Le.refl _) (Kh (z:=(-z)) (q:=q++F)) ?_ ?_
 · rintro _ _ ⟨h0,rfl,rfl⟩
   exact FQ.panic func112 (RP.thr ⟨by simp [mkS,Yg,h0],by simp [mkS,Yg,h0],rfl⟩)
 rintro _ _ ⟨hv,rfl,rfl⟩
 refine ox 2 ?_;refine Zq (q) func112 (Zp results112 rfl) (RP.ret ⟨by simp [mkS,Yg,hv],by simp [mkS,Yg,hv],rfl⟩)
theorem maker9 (hu:val u)(hz:val z):CallF prog G 114 [.int .i64 u,.int .i64 z] (q) (RP (fun v q'=>(mkS 9 u z).2=0∧v= .int .i64 (mkS 9 u z).1∧q'=q) (fun ch q'=>(mkS 9 u z).2≠0∧ch= [Ui (mkS 9 u z).2]∧q'=q)):=by
 refine CallF.of func114 ntmps114 rfl (fun F cs=> ?_)
 have hu2:=hu;have hz2:=hz;unfold val at hu2 hz2
 refine xo 8 ?_;refine XO.cR call115 (Km) ?_;refine ox 2 ?_;refine Zq (q) func114 (Zp results114 rfl) (RP.ret ⟨by simp [mkS,Yg],by simp [mkS,Yg]<;>first|rfl|(congr 1;rw [Bool.eq_iff_iff];simp),rfl⟩)
theorem maker22 (hu:val u)(hz:val z):CallF prog G 116 [.int .i64 u,.int .i64 z] (q) (RP (fun v q'=>(mkS 22 u z).2=0∧v= .int .i64 (mkS 22 u z).1∧q'=q) (fun ch q'=>(mkS 22 u z).2≠0∧ch= [Ui (mkS 22 u z).2]∧q'=q)):=by
 refine CallF.of func116 ntmps116 rfl (fun F cs=> ?_)
 have hu2:=hu;have hz2:=hz;unfold val at hu2 hz2
 refine xo 8 ?_;refine XO.cR call115 (Km) ?_;refine ox 2 ?_;refine Zq (q) func116 (Zp results116 rfl) (RP.ret ⟨by simp [mkS,Yg],by simp [mkS,Yg]<;>first|rfl|(congr 1;rw [Bool.eq_iff_iff];simp),rfl⟩)
theorem maker10 (hu:val u)(hz:val z):CallF prog G 117 [.int .i64 u,.int .i64 z] (q) (RP (fun v q'=>(mkS 10 u z).2=0∧v= .int .i64 (mkS 10 u z).1∧q'=q) (fun ch q'=>(mkS 10 u z).2≠0∧ch= [Ui (mkS 10 u z).2]∧q'=q)):=by
 refine CallF.of func117 ntmps117 rfl (fun F cs=> ?_)
 have hu2:=hu;have hz2:=hz;unfold val at hu2 hz2
 refine xo 9 ?_;refine XO.cR call115 (Km) ?_;refine ox 2 ?_;refine Zq (q) func117 (Zp results117 rfl) (RP.ret ⟨by simp [mkS,Yg],by simp [mkS,Yg]<;>first|rfl|(congr 1;rw [Bool.eq_iff_iff];simp),rfl⟩)
theorem maker11 (hu:val u)(hz:val z):CallF prog G 118 [.int .i64 u,.int .i64 z] (q) (RP (fun v q'=>(mkS 11 u z).2=0∧v= .int .i64 (mkS 11 u z).1∧q'=q) (fun ch q'=>(mkS 11 u z).2≠0∧ch= [Ui (mkS 11 u z).2]∧q'=q)):=by
 refine CallF.of func118 ntmps118 rfl (fun F cs=> ?_)
 have hu2:=hu;have hz2:=hz;unfold val at hu2 hz2
 refine xo 9 ?_;refine XO.cR call115 (Km) ?_;refine ox 2 ?_;refine Zq (q) func118 (Zp results118 rfl) (RP.ret ⟨by simp [mkS,Yg],by simp [mkS,Yg]<;>first|rfl|(congr 1;rw [Bool.eq_iff_iff];simp),rfl⟩)
theorem maker12 (hu:val u)(hz:val z):CallF prog G 119 [.int .i64 u,.int .i64 z] (q) (RP (fun v q'=>(mkS 12 u z).2=0∧v= .int .i64 (mkS 12 u z).1∧q'=q) (fun ch q'=>(mkS 12 u z).2≠0∧ch= [Ui (mkS 12 u z).2]∧q'=q)):=by
 refine CallF.of func119 ntmps119 rfl (fun F cs=> ?_)
 have hu2:=hu;have hz2:=hz;unfold val at hu2 hz2
 refine xo 9 ?_;refine XO.cR call115 (Km) ?_;refine ox 2 ?_;refine Zq (q) func119 (Zp results119 rfl) (RP.ret ⟨by simp [mkS,Yg],by simp [mkS,Yg]<;>first|rfl|(congr 1;rw [Bool.eq_iff_iff];simp),rfl⟩)
theorem maker13 (hu:val u)(hz:val z):CallF prog G 120 [.int .i64 u,.int .i64 z] (q) (RP (fun v q'=>(mkS 13 u z).2=0∧v= .int .i64 (mkS 13 u z).1∧q'=q) (fun ch q'=>(mkS 13 u z).2≠0∧ch= [Ui (mkS 13 u z).2]∧q'=q)):=by
 refine CallF.of func120 ntmps120 rfl (fun F cs=> ?_)
 have hu2:=hu;have hz2:=hz;unfold val at hu2 hz2
 refine xo 9 ?_;refine XO.cR call115 (Km) ?_;refine ox 2 ?_;refine Zq (q) func120 (Zp results120 rfl) (RP.ret ⟨by simp [mkS,Yg],by simp [mkS,Yg]<;>first|rfl|(congr 1;rw [Bool.eq_iff_iff];simp),rfl⟩)
theorem maker14 (hu:val u)(hz:val z):CallF prog G 121 [.int .i64 u,.int .i64 z] (q) (RP (fun v q'=>(mkS 14 u z).2=0∧v= .int .i64 (mkS 14 u z).1∧q'=q) (fun ch q'=>(mkS 14 u z).2≠0∧ch= [Ui (mkS 14 u z).2]∧q'=q)):=by
 refine CallF.of func121 ntmps121 rfl (fun F cs=> ?_)
 have hu2:=hu;have hz2:=hz;unfold val at hu2 hz2
 refine xo 9 ?_;refine Ju call113 (Le.refl _) (Kh (z:=(u+z)) (q:=q++F)) ?_ ?_
 · rintro _ _ ⟨h0,rfl,rfl⟩
   exact FQ.panic func121 (RP.thr ⟨by simp [mkS,Yg,h0],by simp [mkS,Yg,h0],rfl⟩)
 rintro _ _ ⟨hv,rfl,rfl⟩
 refine ox 2 ?_;refine Zq (q) func121 (Zp results121 rfl) (RP.ret ⟨by simp [mkS,Yg,hv],by simp [mkS,Yg,hv],rfl⟩)
theorem maker15 (hu:val u)(hz:val z):CallF prog G 122 [.int .i64 u,.int .i64 z] (q) (RP (fun v q'=>(mkS 15 u z).2=0∧v= .int .i64 (mkS 15 u z).1∧q'=q) (fun ch q'=>(mkS 15 u z).2≠0∧ch= [Ui (mkS 15 u z).2]∧q'=q)):=by
 refine CallF.of func122 ntmps122 rfl (fun F cs=> ?_)
 have hu2:=hu;have hz2:=hz;unfold val at hu2 hz2
 refine xo 9 ?_;refine Ju call113 (Le.refl _) (Kh (z:=(u - z)) (q:=q++F)) ?_ ?_
 · rintro _ _ ⟨h0,rfl,rfl⟩
   exact FQ.panic func122 (RP.thr ⟨by simp [mkS,Yg,h0],by simp [mkS,Yg,h0],rfl⟩)
 rintro _ _ ⟨hv,rfl,rfl⟩
 refine ox 2 ?_;refine Zq (q) func122 (Zp results122 rfl) (RP.ret ⟨by simp [mkS,Yg,hv],by simp [mkS,Yg,hv],rfl⟩)
theorem maker16 (hu:val u)(hz:val z):CallF prog G 123 [.int .i64 u,.int .i64 z] (q) (RP (fun v q'=>(mkS 16 u z).2=0∧v= .int .i64 (mkS 16 u z).1∧q'=q) (fun ch q'=>(mkS 16 u z).2≠0∧ch= [Ui (mkS 16 u z).2]∧q'=q)):=by
 refine CallF.of func123 ntmps123 rfl (fun F cs=> ?_)
 have hu2:=hu;have hz2:=hz;unfold val at hu2 hz2
 have hm:=Lq hu hz
 refine xo 8 ?_;refine Zn (Pu.mul rfl rfl (by omega) (by omega)) ?_
 refine Ju call113 (Le.refl _) (Kh (z:=(u*z)) (q:=q++F)) ?_ ?_
 · rintro _ _ ⟨h0,rfl,rfl⟩
   exact FQ.panic func123 (RP.thr ⟨by simp [mkS,Yg,h0],by simp [mkS,Yg,h0],rfl⟩)
 rintro _ _ ⟨hv,rfl,rfl⟩
 refine ox 2 ?_;refine Zq (q) func123 (Zp results123 rfl) (RP.ret ⟨by simp [mkS,Yg,hv],by simp [mkS,Yg,hv],rfl⟩)
theorem maker17 (hu:val u)(hz:val z):CallF prog G 124 [.int .i64 u,.int .i64 z] (q) (RP (fun v q'=>(mkS 17 u z).2=0∧v= .int .i64 (mkS 17 u z).1∧q'=q) (fun ch q'=>(mkS 17 u z).2≠0∧ch= [Ui (mkS 17 u z).2]∧q'=q)):=by
 refine CallF.of func124 ntmps124 rfl (fun F cs=> ?_)
 have hu2:=hu;have hz2:=hz;unfold val at hu2 hz2
 have hm:=Lj (b:=z) hu
 refine xo 8 ?_;refine Ju call125 (Le.refl _) (Dh (q:=q++F)) ?_ ?_
 · rintro _ _ ⟨h0,rfl,rfl⟩
   exact FQ.panic func124 (RP.thr ⟨by simp [mkS,Yg,h0],by simp [mkS,Yg,h0],rfl⟩)
 rintro _ _ ⟨hd,rfl,rfl⟩
 refine Zn (Fe rfl rfl (by omega)) ?_
 refine XO.know 8 (.int .i64 (u.tdiv z)) rfl (congrArg (Value.int .i64) (show IntKind.i64.wrap (u.tdiv z)=u.tdiv z from V4 (by omega) (by omega))) ?_
 refine Ju call113 (Le.refl _) (Kh (z:=(u.tdiv z)) (q:=q++F)) ?_ ?_
 · rintro _ _ ⟨h0,rfl,rfl⟩
   exact FQ.panic func124 (RP.thr ⟨by simp [mkS,Yg,h0,hd],by simp [mkS,Yg,h0,hd],rfl⟩)
 rintro _ _ ⟨hv,rfl,rfl⟩
 refine ox 2 ?_;refine Zq (q) func124 (Zp results124 rfl) (RP.ret ⟨by simp [mkS,Yg,hv,hd],by simp [mkS,Yg,hv,hd],rfl⟩)
theorem maker18 (hu:val u)(hz:val z):CallF prog G 126 [.int .i64 u,.int .i64 z] (q) (RP (fun v q'=>(mkS 18 u z).2=0∧v= .int .i64 (mkS 18 u z).1∧q'=q) (fun ch q'=>(mkS 18 u z).2≠0∧ch= [Ui (mkS 18 u z).2]∧q'=q)):=by
 refine CallF.of func126 ntmps126 rfl (fun F cs=> ?_)
 have hu2:=hu;have hz2:=hz;unfold val at hu2 hz2
 have hm:=Lz (b:=z) hu
 refine xo 8 ?_;refine Ju call125 (Le.refl _) (Dh (q:=q++F)) ?_ ?_
 · rintro _ _ ⟨h0,rfl,rfl⟩
   exact FQ.panic func126 (RP.thr ⟨by simp [mkS,Yg,h0],by simp [mkS,Yg,h0],rfl⟩)
 rintro _ _ ⟨hd,rfl,rfl⟩
 refine Zn (Pu.rem rfl rfl (by omega)) ?_
 refine Ju call113 (Le.refl _) (Kh (z:=(u.tmod z)) (q:=q++F)) ?_ ?_
 · rintro _ _ ⟨h0,rfl,rfl⟩
   exact FQ.panic func126 (RP.thr ⟨by simp [mkS,Yg,h0,hd],by simp [mkS,Yg,h0,hd],rfl⟩)
 rintro _ _ ⟨hv,rfl,rfl⟩
 refine ox 2 ?_;refine Zq (q) func126 (Zp results126 rfl) (RP.ret ⟨by simp [mkS,Yg,hv,hd],by simp [mkS,Yg,hv,hd],rfl⟩)
end
abbrev isMk (c:Int):Prop:=c=8∨c=9∨c=22∨(10≤c∧c≤18)
abbrev Zc (l:List Int):Int:=l.getD (l.length - 1) 0
abbrev Yx (l:List Int):Int:=l.getD (l.length - 2) 0
abbrev N7 (c:Int):Prop:=c=8∨c=9∨c=22
def Kb (m:Mdl)(x:Ins)(l cells:List Int):Option ((Int×Bool×Int)×List Int):=
 if x.c=2 then some ((x.a,false,cells.getD x.a.toNat 0),l++ [cells.getD x.a.toNat 0])
 else if x.c=5 then some ((x.a,true,Zc l),l.take (l.length - 1))
 else if x.c=4 then if Ww m x.a (Zc l)<0 then none else some ((Ww m x.a (Zc l),false,cells.getD (Ww m x.a (Zc l)).toNat 0),l.take (l.length - 1)++ [cells.getD (Ww m x.a (Zc l)).toNat 0])
 else if Ww m x.a (Yx l)<0 then none else some ((Ww m x.a (Yx l),true,Zc l),l.take (l.length - 2))
def Ym (x:Ins)(pc:Int)(loc l:List Int):Int×List Int×List Int:=
 if x.c=1 then (pc,loc,l++ [x.n])
 else if x.c=3 then (pc,loc,l++ [loc.getD x.a.toNat 0])
 else if x.c=6 then (pc,loc.set x.a.toNat (Zc l),l.take (l.length - 1))
 else if x.c=19 then (x.a,loc,l)
 else if x.c=20 then (if Zc l=0 then x.a else pc,loc,l.take (l.length - 1))
 else if x.c=21 then (if Zc l≠0 then x.a else pc,loc,l.take (l.length - 1))
 else (pc,loc,l)
def doS (m:Mdl)(x:Ins)(pc:Int)(loc l cells:List Int):(Int×List Int×List Int)×Did:=
 if x.c=34 then ((pc,loc,l),Ey 4 0)
 else if isMk x.c then
  let a:=if N7 x.c then 0 else Yx l
  let k:=if N7 x.c then 1 else 2
  if (mkS x.c a (Zc l)).2≠0 then ((pc,loc,l),N9 (mkS x.c a (Zc l)).2) else ((pc+1,loc,l.take (l.length - k)++ [(mkS x.c a (Zc l)).1]),Vo)
 else if x.c=2∨x.c=5∨x.c=4∨x.c=7 then match Kb m x l cells with
  |none=>((pc,loc,l),N9 3)
  |some (y,l')=>((pc+1,loc,l'),Fm y.1 y.2.1 y.2.2)
 else if x.c=23 then ((pc+1,loc,l),Ey 3 x.a)
 else if x.c=33 then ((pc+1,loc,l.take (l.length - 1)),Ey 6 (Zc l))
 else if x.c=29 then ((pc+1,loc,l.take (l.length - 1)),Ks x (Zc l))
 else if 24≤x.c∧x.c≤32 then ((pc+1,loc,l),Ks x 0)
 else (Ym x (pc+1) loc l,Vo)
theorem Ho {l:List Int}:(l.take (l.length - 1)).take ((l.take (l.length - 1)).length - 1)=l.take (l.length - 2):=by
 rw [List.take_take,List.length_take];congr 1;omega
theorem H8 {l:List Int}(h:2≤l.length):Zc (l.take (l.length - 1))=Yx l:=by
 unfold Zc Yx
 rw [List.length_take,show min (l.length - 1) l.length - 1=l.length - 2 by omega]
 simp only [List.getD_eq_getElem?_getD,List.getElem?_take]
 rw [if_pos (by omega)]
theorem Wz {l:List Int}(h:Jo l)(n:Nat):val (l.getD n 0):=by
 rcases Nat.lt_or_ge n l.length with e|e
 · rw [Z1 e];exact h _ (List.getElem_mem e)
 rw [List.getD_eq_getElem?_getD,List.getElem?_eq_none e];unfold val;simp
structure StepQ (m:Mdl) (x:Ins) (loc l cells:List Int):Prop where
 ok:Hd m
 ins:U7 x
 dep:(Yh x.c).1≤l.length
 var:x.c=2∨x.c=5→0≤x.a∧x.a<m.vars.length
 arr:x.c=4∨x.c=7→0≤x.a∧x.a<m.arrays.length
 loc:x.c=3∨x.c=6→0≤x.a∧x.a<loc.length
 vl:Jo l
 len:l.length≤1000
 cel:(cells.length:Int)=Jn m
theorem Au (l:List Int)(n:Nat):Uj l=Uj (l.take n)+Uj (l.drop n):=by
 conv=>lhs;rw [←List.take_append_drop n l]
 generalize l.take n=r
 unfold Uj
 induction r with
 |nil=>simp
 |cons x r ih=>simp only [List.cons_append,List.foldr_cons];omega
theorem Mi {m:Mdl}(h:Hd m){a i:Int}(ha:0≤a∧a<m.arrays.length): -1≤Ww m a i∧Ww m a i<Jn m:=by
 have hx:=h.2.2.2.1.2
 have h1:=Y8 h a.toNat
 have h2:=Au m.arrays (a.toNat+1)
 have h3:=Kc (l:=m.arrays) (n:=a.toNat) (by omega)
 have h4:=(Lb (l:=m.arrays.drop (a.toNat+1)) (b:=256) (by omega) (fun x hx'=>hx x (List.mem_of_mem_drop hx'))).1
 have h5:m.arrays.getD a.toNat 0=m.arrays[a.toNat]'(by omega):=Z1 (by omega)
 have h6:0≤Uj m.arrays:=by have:=Y8 h m.arrays.length;rw [List.take_length] at this;exact this.1
 unfold Ww Jn
 rw [h5]
 split<;>omega
section
variable {G:World}{q pre:List HP}{a b A:Option Addr}{c d C p p0 p1 p2 i:Nat}{lo hi n cd dep:Int}{fv:Value}{x y:Ins}{t:Cod}{m:Mdl}{at_:Int}
variable {l cells loc:List Int}{idx arr z k u pc code:Int}{x1 x2 x3 x4 x5 x6 old:Value}{pm cc lc:Nat}{la cda:Option Addr}
set_option maxHeartbeats 2000000 in
theorem Ga (hw:CellsAt q p 0 [x1,.pointer (some ⟨pm,0,none⟩),x2,x3,x4,x5,x6])(hm:CellsAt q pm 0 (Wp m))(hq:MdlQ q m)(hmo:Hd m)(har:0≤arr∧arr<m.arrays.length)(hix:val idx):CallF prog G 127 [.pointer (some ⟨p,0,none⟩),.int .i64 arr,.int .i64 idx] (q) (RP (fun v q'=>0≤Ww m arr idx∧v= .int .i64 (Ww m arr idx)∧q'=q) (fun ch q'=>Ww m arr idx<0∧ch= [Ui 3]∧q'=q)):=by
 refine CallF.of func127 ntmps127 rfl (fun F cs=> ?_)
 have hv1:=hmo.2.2.1.1;have ha1:=hmo.2.2.2.1;have hix2:=hix;unfold val at hix2;have hal:arr.toNat<m.arrays.length:=(by omega);have hka:=hq.ka;have hx:=ha1.2 _ (List.getElem_mem hal);unfold Z8 at hx
 have hsl:=Y8 hmo arr.toNat;have hgd:m.arrays.getD arr.toNat 0=m.arrays[arr.toNat]:=Z1 hal
 refine Hr hq.a (by simp;omega) (fun b1 o1 e1=> ?_)
 have hs1:=hq.a;rw [e1] at hs1
 refine xo 10 ?_;refine Zf [12,6,0,1,2] ?_
 apply Zx 13 25 12 rfl
 · intro g1 M1;have h1:=sp g1
   refine oo 4 ?_;refine ld ?_ (hc:=((hw.le leA) 1 _ rfl))
   refine oo 2 ?_;refine ld ?_ (hc:=((hm.le leA) 1 _ rfl))
   refine oo 1 ?_;refine XO.know 20 (.slice (some ⟨b1,o1,none⟩) m.arrays.length m.ac) rfl (by rw [e1]) ?_
   refine oo 1 ?_;refine ld ?_ (hc:=(Cl.e1 hs1 leA hal (by omega)))
   refine oo 2 ?_;exact Zz M1 ⟨orF g1,Zv⟩
 · intro g1 M1;have h1:=sp g1
   refine oo 13 ?_;exact Zz M1 ⟨orT g1,Zv⟩
 refine ox 1 ?_;refine X.part 25 rfl (fun h1=> ?_) (fun h1=> ?_)
 · replace h1:=sp h1
   refine xo 2 ?_;refine Ju call164 (Le.refl _) (Fg) ?_ ?_
   · rintro _ _ ⟨rfl,rfl⟩
     exact FQ.panic func127 (RP.thr ⟨by unfold Ww;rw [hgd,if_neg (by omega)];omega,rfl,rfl⟩)
   rintro _ _ ⟨⟩
 replace h1:=sp h1
 refine xo 7 ?_;refine ld ?_ (hc:=((hw.le leA) 1 _ rfl))
 refine oo 2 ?_;refine ld ?_ (hc:=((hm.le leA) 0 _ rfl))
 refine oo 11 ?_;refine ld ?_ (hc:=((hw.le leA) 1 _ rfl))
 refine oo 2 ?_;refine ld ?_ (hc:=((hm.le leA) 1 _ rfl))
 refine oo 1 ?_;refine XO.know 43 (.slice (some ⟨b1,o1,none⟩) m.arrays.length m.ac) rfl (by rw [e1]) ?_
 refine ox 5 ?_
 have hci:Ww m arr idx=(m.vars.length:Int)+Uj (m.arrays.take arr.toNat)+idx:=by unfold Ww;rw [hgd,if_pos (by omega)]
 refine X.know 7 (.int .i64 ((m.vars.length:Int)+idx+Uj (m.arrays.take 0))) rfl (congrArg (Value.int .i64) (by simp [Uj])) ?_
 refine X.at (X.loop (fun (s:Nat)=>s≤arr.toNat) (fun s=> [(47,.int .i64 (s:Int)),(46,.int .i64 (arr.toNat:Int)),(45,.slice (some ⟨b1,o1,none⟩) arr.toNat m.ac),(7,.int .i64 ((m.vars.length:Int)+idx+Uj (m.arrays.take s))),(6,.int .i64 0)]) (fun s=>(q++F)) (fun s=>arr.toNat - s) (fun s hi_ ih=> ?_) 0 (Nat.zero_le _)) Zt leA
 try dsimp only at hi_ ih⊢
 obtain hs0:=hi_
 refine xx 5 ?_;refine X.part 48 rfl (fun h0=> ?_) (fun h0=> ?_)
 · replace h0:=sp h0
   have hk1:s<m.arrays.length:=by omega
   have hsu:=Y8 hmo s;have hx2:=ha1.2 _ (List.getElem_mem hk1);unfold Z8 at hx2
   refine xo 7 ?_;refine ld ?_ (hc:=(Cl.e1 hs1 leA hk1 rfl))
   refine ox 13 ?_;refine X.know 7 (.int .i64 ((m.vars.length:Int)+idx+Uj (m.arrays.take (s+1)))) rfl (congrArg (Value.int .i64) (by rw [Kc hk1];omega)) ?_
   refine X.at (ih (s+1) (by omega) (by omega)) Zt leA
 replace h0:=sp h0
 refine xx 7 ?_;refine Zq (q) func127 (Zp results127 rfl) (RP.ret ⟨by omega,by rw [show s=arr.toNat by omega];congr 1;omega,rfl⟩)
set_option maxHeartbeats 4000000 in
theorem Ml (hm:CellsAt q pm 0 (Wp m))(hq:MdlQ q m)(hc:Sees q cda (cells.map I64))(hS:StepQ m x loc l cells)(hx:x.c=2∨x.c=5∨x.c=4∨x.c=7):CallF prog G 80 [.pointer (some ⟨p,0,none⟩),.agg (Zr x).toArray] (pto p (.cells [.slice a (l).length c,.pointer (some ⟨pm,0,none⟩),x2,x3,x4,x5,.slice cda cells.length cc].toArray 122 (0,0))::lsH I64 2 a c (l)::q) (RP (fun v q'=> ∃ y l',Kb m x l cells=some (y,l')∧v= .agg [.int .i64 y.1,.bool y.2.1,.int .i64 y.2.2].toArray∧ ∃ a' c',q'=pto p (.cells [.slice a' (l').length c',.pointer (some ⟨pm,0,none⟩),x2,x3,x4,x5,.slice cda cells.length cc].toArray 122 (0,0))::lsH I64 2 a' c' (l')::q) (fun ch q'=>Kb m x l cells=none∧ch= [Ui 3]∧q'=q)):=by
 refine CallF.of func80 ntmps80 rfl (fun F cs=> ?_)
 have hdep:=hS.dep;have hlen:=hS.len;have hcel:=hS.cel;have hsm:=Y8 hS.ok m.arrays.length;rw [List.take_length] at hsm;have hmv:=hS.ok.2.2.1.1
 rcases hx with hx|hx|hx|hx
 · have hdx:=hdep;rw [hx] at hdx;replace hdx:(0:Int)≤l.length:=hdx
   have hv:=hS.var (by omega);have hlt:x.a.toNat<cells.length:=by unfold Jn at hcel;omega
   refine xo 2 ?_;refine Zb fun n1=> ?_
   refine Zy zeroValue45 fun n2=> ?_
   refine oo 3 ?_;refine Zy zeroValue45 fun n3=> ?_
   refine oo 5 ?_;refine ld ?_;refine ox 7 ?_;refine X.know 10 (.bool true) rfl (congrArg Value.bool (by simp [hx])) ?_
   refine xx 1 ?_;refine drw ?_;refine dd [0] ?_;refine ldD 1 ?_;refine dd [2,3,4] ?_;refine ldD 5 ?_;refine dd [6] ?_;refine ldD 7 ?_;refine Yp hc (by simp;omega) (fun b2 o2 e2=> ?_)
   have hs2:=hc;rw [e2] at hs2
   refine XD.know 17 (.slice (some ⟨b2,o2,none⟩) cells.length cc) rfl (by rw [e2]) ?_
   refine dd [8] ?_;refine ldD 9 ?_ (hc:=(Cl.e1 hs2 leA hlt (by omega)))
   refine dd [10] ?_;refine Z9 11 ?_;refine XD.nil ?_;refine xo 5 ?_;refine ld ?_;refine Zn (Pu.not rfl) ?_;refine ox 1 ?_;refine X.kt 69 ?_;refine xx 1 ?_;refine drw ?_;refine dd [0,1,2,3] ?_;refine ldD 4 ?_;refine Qy 5 call79 (J3 (l:=l) (z:=cells[x.a.toNat]) (by first|omega|(rw [List.length_take];omega))) ?_
   rintro _ _ ⟨a2,c2,rfl⟩ _ e_;simp only [ca,na] at e_;subst e_
   refine ⟨trivial,?_⟩
   refine XD.nil ?_;refine xo 2 ?_;refine ldA ?_;refine stA ?_;refine ox 1 ?_;refine Zq (pto p (.cells [.slice a2 (l++ [cells[x.a.toNat]]).length c2,.pointer (some ⟨pm,0,none⟩),x2,x3,x4,x5,.slice cda cells.length cc].toArray 122 (0,0))::lsH I64 2 a2 c2 (l++ [cells[x.a.toNat]])::q) func80 (rA_ results80) (RP.ret ⟨(x.a,false,cells[x.a.toNat]),l++ [cells[x.a.toNat]],by unfold Kb;rw [if_pos hx,Z1 hlt],rfl,a2,c2,rfl⟩)
 · have hdx:=hdep;rw [hx] at hdx;replace hdx:(1:Int)≤l.length:=hdx
   have hv:=hS.var (by omega)
   refine xo 2 ?_;refine Zb fun n4=> ?_
   refine Zy zeroValue45 fun n5=> ?_
   refine oo 3 ?_;refine Zy zeroValue45 fun n6=> ?_
   refine oo 5 ?_;refine ld ?_;refine ox 7 ?_;refine X.know 10 (.bool false) rfl (congrArg Value.bool (by simp [hx])) ?_
   refine xx 6 ?_;refine X.know 23 (.bool true) rfl (congrArg Value.bool (by simp [hx])) ?_
   refine xx 1 ?_;refine drw ?_;refine dd [0] ?_;refine ldD 1 ?_;refine dd [2,3,4] ?_;refine Qy 5 call78 (U5 (l:=l) (by omega)) ?_
   rintro _ _ ⟨rfl,rfl⟩ _ e_;simp only [ca,na] at e_;subst e_
   refine ⟨hlA,?_⟩
   refine dd [6] ?_;refine Z9 7 ?_;refine XD.nil ?_;refine xo 5 ?_;refine ld ?_;refine Zn (Pu.not rfl) ?_;refine ox 1 ?_;refine Zj 69 ?_;refine xo 4 ?_;refine ldA ?_;refine stA ?_;refine ox 1 ?_;refine Zq (pto p (.cells [.slice a (l.take (l.length - 1)).length c,.pointer (some ⟨pm,0,none⟩),x2,x3,x4,x5,.slice cda cells.length cc].toArray 122 (0,0))::lsH I64 2 a c (l.take (l.length - 1))::q) func80 (rA_ results80) (RP.ret ⟨(x.a,true,Zc l),l.take (l.length - 1),by unfold Kb;rw [if_neg (by omega),if_pos hx],rfl,a,c,rfl⟩)
 · have hdx:=hdep;rw [hx] at hdx;replace hdx:(1:Int)≤l.length:=hdx
   have hv:=hS.arr (by omega)
   refine xo 2 ?_;refine Zb fun n7=> ?_
   refine Zy zeroValue45 fun n8=> ?_
   refine oo 3 ?_;refine Zy zeroValue45 fun n9=> ?_
   refine oo 5 ?_;refine ld ?_;refine ox 7 ?_;refine X.know 10 (.bool false) rfl (congrArg Value.bool (by simp [hx])) ?_
   refine xx 6 ?_;refine X.know 23 (.bool false) rfl (congrArg Value.bool (by simp [hx])) ?_
   refine xx 6 ?_;refine X.know 32 (.bool true) rfl (congrArg Value.bool (by simp [hx])) ?_
   refine xx 2 ?_;refine drw ?_;refine dd [0,1] ?_;refine ldD 2 ?_;refine dd [3,4,5] ?_;refine Qy 6 call78 (U5 (l:=l) (by omega)) ?_
   rintro _ _ ⟨rfl,rfl⟩ _ e_;simp only [ca,na] at e_;subst e_
   refine ⟨hlA,?_⟩
   refine XD.cP 7 call127 (Le.refl _) (Ga (arr:=x.a) (idx:=Zc l) (CellsAt.of Vr) (hm.le leA) (hq.le leA) hS.ok hv (Wz hS.vl _)) ?_ ?_ trivial
   · rintro _ _ ⟨h0,rfl,rfl⟩
     exact FQ.panic func80 (RP.thr ⟨by unfold Kb;rw [if_neg (by omega),if_neg (by omega)];rw [if_pos hx,if_pos h0],rfl,rfl⟩)
   rintro _ _ ⟨h0,rfl,rfl⟩
   refine ⟨trivial,?_⟩
   have hcr:=Mi hS.ok (a:=x.a) (i:=Zc l) hv;have hlt:(Ww m x.a (Zc l)).toNat<cells.length:=by omega
   refine dd [8] ?_;refine XD.nil ?_;refine xo 5 ?_;refine ld ?_;refine oo 1 ?_;refine Yz hc (by simp;omega) (fun b2 o2 e2=> ?_)
   have hs2:=hc;rw [e2] at hs2
   refine XO.know 46 (.slice (some ⟨b2,o2,none⟩) cells.length cc) rfl (by rw [e2]) ?_
   refine oo 1 ?_;refine ld ?_ (hc:=(Cl.e1 hs2 leA hlt (by omega)))
   refine oo 1 ?_;refine stA ?_;refine oo 6 ?_;refine ld ?_;refine Zn (Pu.not rfl) ?_;refine ox 1 ?_;refine X.kt 69 ?_;refine xx 1 ?_;refine drw ?_;refine dd [0,1,2,3] ?_;refine ldD 4 ?_;refine Qy 5 call79 (J3 (l:=l.take (l.length - 1)) (z:=cells[(Ww m x.a (Zc l)).toNat]) (by first|omega|(rw [List.length_take];omega))) ?_
   rintro _ _ ⟨a2,c2,rfl⟩ _ e_;simp only [ca,na] at e_;subst e_
   refine ⟨trivial,?_⟩
   refine XD.nil ?_;refine xo 2 ?_;refine ldA ?_;refine stA ?_;refine ox 1 ?_;refine Zq (pto p (.cells [.slice a2 (l.take (l.length - 1)++ [cells[(Ww m x.a (Zc l)).toNat]]).length c2,.pointer (some ⟨pm,0,none⟩),x2,x3,x4,x5,.slice cda cells.length cc].toArray 122 (0,0))::lsH I64 2 a2 c2 (l.take (l.length - 1)++ [cells[(Ww m x.a (Zc l)).toNat]])::q) func80 (rA_ results80) (RP.ret ⟨(Ww m x.a (Zc l),false,cells[(Ww m x.a (Zc l)).toNat]),l.take (l.length - 1)++ [cells[(Ww m x.a (Zc l)).toNat]],by unfold Kb;rw [if_neg (by omega),if_neg (by omega),if_pos hx,if_neg (by omega),Z1 hlt],rfl,a2,c2,rfl⟩)
 have hdx:=hdep;rw [hx] at hdx;replace hdx:(2:Int)≤l.length:=hdx
 have hv:=hS.arr (by omega)
 refine xo 2 ?_;refine Zb fun n10=> ?_
 refine Zy zeroValue45 fun n11=> ?_
 refine oo 3 ?_;refine Zy zeroValue45 fun n12=> ?_
 refine oo 5 ?_;refine ld ?_;refine ox 7 ?_;refine X.know 10 (.bool false) rfl (congrArg Value.bool (by simp [hx])) ?_
 refine xx 6 ?_;refine X.know 23 (.bool false) rfl (congrArg Value.bool (by simp [hx])) ?_
 refine xx 6 ?_;refine X.know 32 (.bool false) rfl (congrArg Value.bool (by simp [hx])) ?_
 refine xx 6 ?_;refine X.know 51 (.bool true) rfl (congrArg Value.bool (by simp [hx])) ?_
 refine xo 6 ?_;refine V8 call78 (U5 (l:=l) (by omega)) ?_
 rintro _ _ ⟨rfl,rfl⟩ _ e_;simp only [ca,na] at e_;subst e_
 refine ox 2 ?_;refine drw ?_;refine dd [0,1] ?_;refine ldD 2 ?_;refine dd [3,4,5,8] ?_;refine Qy 6 call78 (U5 (l:=l.take (l.length - 1)) (by rw [List.length_take];omega)) ?_
 rintro _ _ ⟨rfl,rfl⟩ _ e_;simp only [ca,na] at e_;subst e_
 refine ⟨hlA,?_⟩
 rw [Ho]
 refine XD.know 63 (.int .i64 (Yx l)) rfl (congrArg (Value.int .i64) (H8 (by omega))) ?_
 refine XD.cP 7 call127 (Le.refl _) (Ga (arr:=x.a) (idx:=Yx l) (CellsAt.of Vr) (hm.le leA) (hq.le leA) hS.ok hv (Wz hS.vl _)) ?_ ?_ trivial
 · rintro _ _ ⟨h0,rfl,rfl⟩
   exact FQ.panic func80 (RP.thr ⟨by unfold Kb;rw [if_neg (by omega),if_neg (by omega)];rw [if_neg (by omega),if_pos h0],rfl,rfl⟩)
 rintro _ _ ⟨h0,rfl,rfl⟩
 refine ⟨trivial,?_⟩
 have hcr:=Mi hS.ok (a:=x.a) (i:=Yx l) hv;have hlt:(Ww m x.a (Yx l)).toNat<cells.length:=by omega
 refine dd [9] ?_;refine Z9 10 ?_;refine XD.nil ?_;refine xo 5 ?_;refine ld ?_;refine Zn (Pu.not rfl) ?_;refine ox 1 ?_;refine Zj 69 ?_;refine xo 4 ?_;refine ldA ?_;refine stA ?_;refine ox 1 ?_;refine Zq (pto p (.cells [.slice a (l.take (l.length - 2)).length c,.pointer (some ⟨pm,0,none⟩),x2,x3,x4,x5,.slice cda cells.length cc].toArray 122 (0,0))::lsH I64 2 a c (l.take (l.length - 2))::q) func80 (rA_ results80) (RP.ret ⟨(Ww m x.a (Yx l),true,Zc l),l.take (l.length - 2),by unfold Kb;rw [if_neg (by omega),if_neg (by omega),if_neg (by omega),if_neg (by omega)],rfl,a,c,rfl⟩)
end
section
variable {G:World}{q pre:List HP}{a b A:Option Addr}{c d C p p0 p1 p2 i:Nat}{lo hi n cd dep:Int}{fv:Value}{x y:Ins}{t:Cod}{m:Mdl}{at_:Int}
variable {l cells loc:List Int}{idx arr z k u pc code:Int}{x1 x2 x3 x4 x5 x6 old:Value}{pm cc lc n1 n2:Nat}{la cda:Option Addr}
set_option maxHeartbeats 4000000 in
theorem plain_ok (hS:StepQ m x loc l cells)(hx:x.c=1∨x.c=3∨x.c=6∨x.c=19∨x.c=20∨x.c=21):CallF prog G 81 [.pointer (some ⟨p,0,none⟩),.agg (Zr x).toArray] (pto p (.cells [.slice a (l).length c,.pointer (some ⟨pm,0,none⟩),x2,.int .i64 (pc),.slice la (loc).length lc,x5,.slice cda cells.length cc].toArray 122 (0,0))::lsH I64 2 a c (l)::lsH I64 2 la lc (loc)::q) (Ret fun v q'=> ∃ a' c',q'=pto p (.cells [.slice a' ((Ym x pc loc l).2.2).length c',.pointer (some ⟨pm,0,none⟩),x2,.int .i64 ((Ym x pc loc l).1),.slice la ((Ym x pc loc l).2.1).length lc,x5,.slice cda cells.length cc].toArray 122 (0,0))::lsH I64 2 a' c' ((Ym x pc loc l).2.2)::lsH I64 2 la lc ((Ym x pc loc l).2.1)::q):=by
 refine CallF.of func81 ntmps81 rfl (fun F cs=> ?_)
 have hdep:=hS.dep;have hlen:=hS.len
 rcases hx with hx|hx|hx|hx|hx|hx
 · have hdx:=hdep;rw [hx] at hdx;replace hdx:(0:Int)≤l.length:=hdx
   refine xo 2 ?_;refine Zb fun n1=> ?_
   refine oo 4 ?_;refine ld ?_;refine ox 7 ?_;refine X.kt 6 ?_;refine xx 1 ?_;refine drw ?_;refine dd [0,1,2,3] ?_;refine ldD 4 ?_;refine Qy 5 call79 (J3 (l:=l) (z:=x.n) (by omega)) ?_
   rintro _ _ ⟨a2,c2,rfl⟩ _ e_;simp only [ca,na] at e_;subst e_
   refine ⟨trivial,?_⟩
   refine XD.nil ?_;refine xx 1 ?_
   have hPS:Ym x pc loc l=(pc,loc,l++ [x.n]):=by unfold Ym;rw [if_pos hx]
   refine Wr (pto p (.cells [.slice a2 (l++ [x.n]).length c2,.pointer (some ⟨pm,0,none⟩),x2,.int .i64 (pc),.slice la (loc).length lc,x5,.slice cda cells.length cc].toArray 122 (0,0))::lsH I64 2 a2 c2 (l++ [x.n])::lsH I64 2 la lc (loc)::q) func81 (U1 results81) ⟨_,rfl,a2,c2,by rw [hPS]⟩
 · have hdx:=hdep;rw [hx] at hdx;replace hdx:(0:Int)≤l.length:=hdx
   have hv:=hS.loc (by omega);have hlt:x.a.toNat<loc.length:=(by omega)
   refine Qd (l:=loc) (by omega) (fun gl e_=> ?_);subst e_
   refine xo 2 ?_;refine Zb fun n2=> ?_
   refine oo 4 ?_;refine ld ?_;refine ox 7 ?_;refine Zj 6 ?_;refine xx 6 ?_;refine X.kt 14 ?_;refine xx 1 ?_;refine drw ?_;refine dd [0,1,2,3,4,5,6] ?_;refine ldD 7 ?_;refine dd [8] ?_;refine ldD 9 ?_;refine dd [10] ?_;refine ldD 11 ?_ (hc:=(Cl.e1 (Sees.lsH _) Zw hlt (by omega)))
   refine Qy 12 call79 (J3 (l:=l) (z:=loc[x.a.toNat]) (by omega)) ?_
   rintro _ _ ⟨a2,c2,rfl⟩ _ e_;simp only [ca,na] at e_;subst e_
   refine ⟨hlR,?_⟩
   refine XD.nil ?_;refine xx 1 ?_
   have hPS:Ym x pc loc l=(pc,loc,l++ [loc[x.a.toNat]]):=by unfold Ym;rw [if_neg (by omega),if_pos hx,Z1 hlt]
   refine Wr (pto p (.cells [.slice a2 (l++ [loc[x.a.toNat]]).length c2,.pointer (some ⟨pm,0,none⟩),x2,.int .i64 (pc),.slice (some ⟨gl,0,none⟩) (loc).length lc,x5,.slice cda cells.length cc].toArray 122 (0,0))::lsH I64 2 a2 c2 (l++ [loc[x.a.toNat]])::lsH I64 2 (some ⟨gl,0,none⟩) lc (loc)::q) func81 (U1 results81) ⟨_,rfl,a2,c2,by rw [hPS]⟩
 · have hdx:=hdep;rw [hx] at hdx;replace hdx:(1:Int)≤l.length:=hdx
   have hv:=hS.loc (by omega);have hlt:x.a.toNat<loc.length:=(by omega)
   refine Qd (l:=loc) (by omega) (fun gl e_=> ?_);subst e_
   refine xo 2 ?_;refine Zb fun n3=> ?_
   refine oo 4 ?_;refine ld ?_;refine ox 7 ?_;refine Zj 6 ?_;refine xx 6 ?_;refine Zj 14 ?_;refine xx 6 ?_;refine X.kt 29 ?_;refine xx 1 ?_;refine drw ?_;refine dd [0,1,2,3] ?_;refine ldD 4 ?_;refine dd [5] ?_;refine ldD 6 ?_;refine dd [7,8,9] ?_;refine Qy 10 call78 (U5 (l:=l) (by omega)) ?_
   rintro _ _ ⟨rfl,rfl⟩ _ e_;simp only [ca,na] at e_;subst e_
   refine ⟨hlA,?_⟩
   refine dd [11] ?_;refine XD.ef0 12 rfl (Up (l:=loc) (n:=x.a.toNat) (u:=Zc l) rfl rfl sizeOf2 (by omega) hlt rfl rfl Zw) ?_
   rintro _ _ ⟨rfl,rfl⟩
   refine ⟨trivial,?_⟩
   refine XD.nil ?_;refine xx 1 ?_
   have hPS:Ym x pc loc l=(pc,loc.set x.a.toNat (Zc l),l.take (l.length - 1)):=by unfold Ym;rw [if_neg (by omega),if_neg (by omega),if_pos hx]
   refine Wr (pto p (.cells [.slice a (l.take (l.length - 1)).length c,.pointer (some ⟨pm,0,none⟩),x2,.int .i64 (pc),.slice (some ⟨gl,0,none⟩) loc.length lc,x5,.slice cda cells.length cc].toArray 122 (0,0))::lsH I64 2 a c (l.take (l.length - 1))::lsH I64 2 (some ⟨gl,0,none⟩) lc (loc.set x.a.toNat (Zc l))::q) func81 (U1 results81) ⟨_,rfl,a,c,by rw [hPS];simp only [List.length_set]⟩
 · have hdx:=hdep;rw [hx] at hdx;replace hdx:(0:Int)≤l.length:=hdx
   refine xo 2 ?_;refine Zb fun n4=> ?_
   refine oo 4 ?_;refine ld ?_;refine ox 7 ?_;refine Zj 6 ?_;refine xx 6 ?_;refine Zj 14 ?_;refine xx 6 ?_;refine Zj 29 ?_;refine xx 6 ?_;refine X.kt 43 ?_;refine xo 4 ?_;refine ld ?_;refine oo 3 ?_;refine st ?_;refine ox 2 ?_
   have hPS:Ym x pc loc l=(x.a,loc,l):=by unfold Ym;rw [if_neg (by omega),if_neg (by omega),if_neg (by omega),if_pos hx]
   refine Wr (pto p (.cells [.slice a (l).length c,.pointer (some ⟨pm,0,none⟩),x2,.int .i64 (x.a),.slice la (loc).length lc,x5,.slice cda cells.length cc].toArray 122 (0,0))::lsH I64 2 a c (l)::lsH I64 2 la lc (loc)::q) func81 (U1 results81) ⟨_,rfl,a,c,by rw [hPS]⟩
 focus
  have hdx:=hdep;rw [hx] at hdx;replace hdx:(1:Int)≤l.length:=hdx
  refine xo 2 ?_;refine Zb fun n5=> ?_
  refine oo 4 ?_;refine ld ?_;refine ox 7 ?_;refine Zj 6 ?_;refine xx 6 ?_;refine Zj 14 ?_;refine xx 6 ?_;refine Zj 29 ?_;refine xx 6 ?_;refine Zj 43 ?_;refine xx 6 ?_;refine X.kt 51 ?_;refine xo 6 ?_;refine V8 call78 (U5 (l:=l) (by omega)) ?_
  rintro _ _ ⟨rfl,rfl⟩ _ e_;simp only [ca,na] at e_;subst e_
  refine ox 2 ?_;refine X.part 57 rfl (fun h1=> ?_) (fun h1=> ?_)
  · replace h1:=sp h1
    refine xo 4 ?_;refine ld ?_;refine oo 3 ?_;refine st ?_;refine ox 2 ?_
    have hPS:Ym x pc loc l=(x.a,loc,l.take (l.length - 1)):=by unfold Ym;rw [if_neg (by omega),if_neg (by omega),if_neg (by omega),if_neg (by omega),if_pos hx];rw [if_pos h1]
    refine Wr (pto p (.cells [.slice a (l.take (l.length - 1)).length c,.pointer (some ⟨pm,0,none⟩),x2,.int .i64 (x.a),.slice la (loc).length lc,x5,.slice cda cells.length cc].toArray 122 (0,0))::lsH I64 2 a c (l.take (l.length - 1))::lsH I64 2 la lc (loc)::q) func81 (U1 results81) ⟨_,rfl,a,c,by rw [hPS]⟩
  replace h1:=sp h1
  refine xx 3 ?_
  have hPS:Ym x pc loc l=(pc,loc,l.take (l.length - 1)):=by unfold Ym;rw [if_neg (by omega),if_neg (by omega),if_neg (by omega),if_neg (by omega),if_pos hx];rw [if_neg h1]
 rotate_left
 focus
  have hdx:=hdep;rw [hx] at hdx;replace hdx:(1:Int)≤l.length:=hdx
  refine xo 2 ?_;refine Zb fun n6=> ?_
  refine oo 4 ?_;refine ld ?_;refine ox 7 ?_;refine Zj 6 ?_;refine xx 6 ?_;refine Zj 14 ?_;refine xx 6 ?_;refine Zj 29 ?_;refine xx 6 ?_;refine Zj 43 ?_;refine xx 6 ?_;refine Zj 51 ?_;refine xx 6 ?_;refine X.kt 64 ?_;refine xo 6 ?_;refine V8 call78 (U5 (l:=l) (by omega)) ?_
  rintro _ _ ⟨rfl,rfl⟩ _ e_;simp only [ca,na] at e_;subst e_
  refine ox 2 ?_;refine X.part 70 rfl (fun h1=> ?_) (fun h1=> ?_)
  · replace h1:=sp h1
    refine xo 4 ?_;refine ld ?_;refine oo 3 ?_;refine st ?_;refine ox 2 ?_
    have hPS:Ym x pc loc l=(x.a,loc,l.take (l.length - 1)):=by unfold Ym;rw [if_neg (by omega),if_neg (by omega),if_neg (by omega),if_neg (by omega),if_neg (by omega),if_pos hx];rw [if_pos h1]
    refine Wr (pto p (.cells [.slice a (l.take (l.length - 1)).length c,.pointer (some ⟨pm,0,none⟩),x2,.int .i64 (x.a),.slice la (loc).length lc,x5,.slice cda cells.length cc].toArray 122 (0,0))::lsH I64 2 a c (l.take (l.length - 1))::lsH I64 2 la lc (loc)::q) func81 (U1 results81) ⟨_,rfl,a,c,by rw [hPS]⟩
  replace h1:=sp h1
  refine xx 3 ?_
  have hPS:Ym x pc loc l=(pc,loc,l.take (l.length - 1)):=by unfold Ym;rw [if_neg (by omega),if_neg (by omega),if_neg (by omega),if_neg (by omega),if_neg (by omega),if_pos hx];rw [if_neg (fun k=>k h1)]
 all_goals
  refine Wr (pto p (.cells [.slice a (l.take (l.length - 1)).length c,.pointer (some ⟨pm,0,none⟩),x2,.int .i64 (pc),.slice la (loc).length lc,x5,.slice cda cells.length cc].toArray 122 (0,0))::lsH I64 2 a c (l.take (l.length - 1))::lsH I64 2 la lc (loc)::q) func81 (U1 results81) ⟨_,rfl,a,c,by rw [hPS]⟩
end
section
variable {G:World}{q pre:List HP}{a b A:Option Addr}{c d C p p0 p1 p2 i:Nat}{lo hi n cd dep:Int}{fv:Value}{x y:Ins}{t:Cod}{m:Mdl}{at_:Int}
variable {l cells loc:List Int}{idx arr z k u pc code:Int}{x1 x2 x3 x4 x5 x6 old:Value}{pm cc lc n1 n2:Nat}{la cda:Option Addr}
def mkL:List Value:= [.nilFunc,.nilFunc,.nilFunc,.nilFunc,.nilFunc,.nilFunc,.nilFunc,.nilFunc,.func (.func 112) #[] #[],.func (.func 114) #[] #[],.func (.func 117) #[] #[],.func (.func 118) #[] #[],.func (.func 119) #[] #[],.func (.func 120) #[] #[],.func (.func 121) #[] #[],.func (.func 122) #[] #[],.func (.func 123) #[] #[],.func (.func 124) #[] #[],.func (.func 126) #[] #[],.nilFunc,.nilFunc,.nilFunc,.func (.func 116) #[] #[],.nilFunc,.nilFunc,.nilFunc,.nilFunc,.nilFunc,.nilFunc,.nilFunc,.nilFunc,.nilFunc,.nilFunc,.nilFunc,.nilFunc]
theorem Wj {c:Int}(h:1≤c∧c≤34):(isMk c∧ ∃ n,nth mkL c.toNat=some (.func (.func n) #[] #[])∧ ∀ (q:List HP) (u z:Int),val u→val z→CallV prog G (.func (.func n) #[] #[]) [.int .i64 u,.int .i64 z] q (RP (fun v q'=>(mkS c u z).2=0∧v= .int .i64 (mkS c u z).1∧q'=q) (fun ch q'=>(mkS c u z).2≠0∧ch= [Ui (mkS c u z).2]∧q'=q)))∨(¬isMk c∧nth mkL c.toNat=some .nilFunc):=by
 have hc:c=1∨c=2∨c=3∨c=4∨c=5∨c=6∨c=7∨c=8∨c=9∨c=10∨c=11∨c=12∨c=13∨c=14∨c=15∨c=16∨c=17∨c=18∨c=19∨c=20∨c=21∨c=22∨c=23∨c=24∨c=25∨c=26∨c=27∨c=28∨c=29∨c=30∨c=31∨c=32∨c=33∨c=34:=by omega
 rcases hc with rfl|rfl|rfl|rfl|rfl|rfl|rfl|rfl|rfl|rfl|rfl|rfl|rfl|rfl|rfl|rfl|rfl|rfl|rfl|rfl|rfl|rfl|rfl|rfl|rfl|rfl|rfl|rfl|rfl|rfl|rfl|rfl|rfl|rfl
 · exact .inr ⟨by decide,rfl⟩
 · exact .inr ⟨by decide,rfl⟩
 · exact .inr ⟨by decide,rfl⟩
 · exact .inr ⟨by decide,rfl⟩
 · exact .inr ⟨by decide,rfl⟩
 · exact .inr ⟨by decide,rfl⟩
 · exact .inr ⟨by decide,rfl⟩
 · exact .inl ⟨by decide,112,rfl,fun q u z hu hz=>Z6 call112 (maker8 hu hz)⟩
 · exact .inl ⟨by decide,114,rfl,fun q u z hu hz=>Z6 call114 (maker9 hu hz)⟩
 · exact .inl ⟨by decide,117,rfl,fun q u z hu hz=>Z6 call117 (maker10 hu hz)⟩
 · exact .inl ⟨by decide,118,rfl,fun q u z hu hz=>Z6 call118 (maker11 hu hz)⟩
 · exact .inl ⟨by decide,119,rfl,fun q u z hu hz=>Z6 call119 (maker12 hu hz)⟩
 · exact .inl ⟨by decide,120,rfl,fun q u z hu hz=>Z6 call120 (maker13 hu hz)⟩
 · exact .inl ⟨by decide,121,rfl,fun q u z hu hz=>Z6 call121 (maker14 hu hz)⟩
 · exact .inl ⟨by decide,122,rfl,fun q u z hu hz=>Z6 call122 (maker15 hu hz)⟩
 · exact .inl ⟨by decide,123,rfl,fun q u z hu hz=>Z6 call123 (maker16 hu hz)⟩
 · exact .inl ⟨by decide,124,rfl,fun q u z hu hz=>Z6 call124 (maker17 hu hz)⟩
 · exact .inl ⟨by decide,126,rfl,fun q u z hu hz=>Z6 call126 (maker18 hu hz)⟩
 · exact .inr ⟨by decide,rfl⟩
 · exact .inr ⟨by decide,rfl⟩
 · exact .inr ⟨by decide,rfl⟩
 · exact .inl ⟨by decide,116,rfl,fun q u z hu hz=>Z6 call116 (maker22 hu hz)⟩
 · exact .inr ⟨by decide,rfl⟩
 · exact .inr ⟨by decide,rfl⟩
 · exact .inr ⟨by decide,rfl⟩
 · exact .inr ⟨by decide,rfl⟩
 · exact .inr ⟨by decide,rfl⟩
 · exact .inr ⟨by decide,rfl⟩
 · exact .inr ⟨by decide,rfl⟩
 · exact .inr ⟨by decide,rfl⟩
 · exact .inr ⟨by decide,rfl⟩
 · exact .inr ⟨by decide,rfl⟩
 · exact .inr ⟨by decide,rfl⟩
 exact .inr ⟨by decide,rfl⟩
theorem Ya:CallF prog G 77 [] (q) (Ret fun v q'=>v= .agg mkL.toArray∧q'=q):=by
 refine CallF.of func77 ntmps77 rfl (fun F cs=> ?_)
 refine xo 2 ?_;refine Zy zeroValue158 fun n1=> ?_
 refine oo 3 ?_;refine Zn (Om (cells:=mkL.toArray) zeroValue158 underlying158 sizeOf157 rfl (by kernel_rfl)) ?_
 refine stA ?_;refine ox 1 ?_;refine Zq (q) func77 (rA_ results77) ⟨_,rfl,rfl,rfl⟩
theorem Yn:Quiet prog G 76 [.pointer (some ⟨n2,0,none⟩)]:=by
 refine Quiet.of func76 ntmps76 rfl (fun F c₀ cs₀ hr=> ?_)
 refine xo 2 ?_;refine XO.rcv hr ?_;refine Zn (Ps rfl underlying155 rfl zeroValue155) ?_;refine oo 3 ?_;refine Zy zeroValue155 fun n11=> ?_
 refine stA ?_;refine ox 6 ?_;refine X.know 8 (.bool false) rfl rfl ?_;refine xx 2 ?_;exact X.fall ⟨rfl,rfl,.inl rfl,⟨_,U1 results76⟩,leA⟩
theorem Cx {y0 y1 y2 y3 y4 y5 y6 y7 y8 y9:Value}:Catches prog G 76 [.pointer (some ⟨n2,0,none⟩)] (Ui k) [pto n2 (.cells [y0,y1,y2,y3,y4,y5,y6,y7,y8,y9].toArray 51 (0,0))] [pto n2 (.cells (Nd (N9 k)).toArray 51 (0,0))]:=by
 refine Catches.of func76 ntmps76 rfl rfl (fun F c₀ cs₀ hr=> ?_)
 refine xo 2 ?_;refine XO.rcv hr ?_;refine Zn (Pa rfl underlying155 rfl) ?_;refine oo 3 ?_;refine Zy zeroValue155 fun n11=> ?_
 refine stA ?_;refine ox 6 ?_;refine X.know 8 (.bool true) rfl rfl ?_;refine xo 3 ?_;refine ld ?_;refine oo 1 ?_;refine stA ?_;refine ox 1 ?_;exact X.fall ⟨rfl,rfl,.inl rfl,⟨_,U1 results76⟩,leA⟩
end
section
variable {G:World}{q pre:List HP}{a b A:Option Addr}{c d C p p0 p1 p2 i:Nat}{lo hi n cd dep:Int}{fv:Value}{x y:Ins}{t:Cod}{m:Mdl}{at_:Int}
variable {l cells loc:List Int}{idx arr z k u pc code:Int}{x1 x2 x3 x4 x5 x6 old:Value}{pm cc lc n1 n2:Nat}{la cda:Option Addr}
set_option maxHeartbeats 16000000 in
theorem do_ok (hm:CellsAt q pm 0 (Wp m))(hq:MdlQ q m)(hc:Sees q cda (cells.map I64))(hS:StepQ m x loc l cells)(hpc:0≤pc∧pc≤65536):CallF prog G 52 [.pointer (some ⟨p,0,none⟩),.agg (Zr x).toArray] (pto p (.cells [.slice a (l).length c,.pointer (some ⟨pm,0,none⟩),x2,.int .i64 (pc),.slice la (loc).length lc,x5,.slice cda cells.length cc].toArray 122 (0,0))::lsH I64 2 a c (l)::lsH I64 2 la lc (loc)::q) (Ret fun v q'=>((doS m x pc loc l cells).2.kind=7∧v= .agg (Nd (doS m x pc loc l cells).2).toArray∧q'=q)∨((doS m x pc loc l cells).2.kind≠7∧v= .agg (Nd (doS m x pc loc l cells).2).toArray∧ ∃ a' c',q'=pto p (.cells [.slice a' ((doS m x pc loc l cells).1.2.2).length c',.pointer (some ⟨pm,0,none⟩),x2,.int .i64 ((doS m x pc loc l cells).1.1),.slice la ((doS m x pc loc l cells).1.2.1).length lc,x5,.slice cda cells.length cc].toArray 122 (0,0))::lsH I64 2 a' c' ((doS m x pc loc l cells).1.2.2)::lsH I64 2 la lc ((doS m x pc loc l cells).1.2.1)::q)):=by
 refine CallF.of func52 ntmps52 rfl (fun F cs=> ?_)
 have hdep:=hS.dep;have hlen:=hS.len;have hxc:=hS.ins.1
 refine xo 2 ?_;refine Zb fun n1=> ?_
 refine Zy zeroValue51 fun n2=> ?_
 refine oo 4 ?_;refine XO.dfr ?_
 have hpan: ∀ (p_:PE) (qq:List HP) (k:Int) (y0 y1 y2 y3 y4 y5 y6 y7 y8 y9:Value),lkp p_ 4=some (.pointer (some ⟨n2,0,none⟩))→doS m x pc loc l cells=((pc,loc,l),N9 k)→Le qq (pto n2 (.cells [y0,y1,y2,y3,y4,y5,y6,y7,y8,y9].toArray 51 (0,0))::(q++F))→FQ prog G 52 cs (Ret fun v q'=>((doS m x pc loc l cells).2.kind=7∧v= .agg (Nd (doS m x pc loc l cells).2).toArray∧q'=q)∨((doS m x pc loc l cells).2.kind≠7∧v= .agg (Nd (doS m x pc loc l cells).2).toArray∧ ∃ a' c',q'=pto p (.cells [.slice a' ((doS m x pc loc l cells).1.2.2).length c',.pointer (some ⟨pm,0,none⟩),x2,.int .i64 ((doS m x pc loc l cells).1.1),.slice la ((doS m x pc loc l cells).1.2.1).length lc,x5,.slice cda cells.length cc].toArray 122 (0,0))::lsH I64 2 a' c' ((doS m x pc loc l cells).1.2.2)::lsH I64 2 la lc ((doS m x pc loc l cells).1.2.1)::q)) F (.panic [Ui k]) p_ [Wx.dfr 76 [.pointer (some ⟨n2,0,none⟩)]] cs qq:=
  fun p_ qq k y0 y1 y2 y3 y4 y5 y6 y7 y8 y9 h4 hn hle=>⟨rfl,Lv.catches call76 func52 (Cx (n2:=n2) (k:=k) (y0:=y0) (y1:=y1) (y2:=y2) (y3:=y3) (y4:=y4) (y5:=y5) (y6:=y6) (y7:=y7) (y8:=y8) (y9:=y9)) hle rfl (Lv.ret (q':=q) func52 (resC1 results52 (ResOk.cell h4 (LV.agg isAgg51 sizeOf51 Vr rfl) ResOk.nil)) ⟨_,rfl,.inl ⟨by rw [hn],by rw [hn];rfl,rfl⟩⟩ leA)⟩
 have hcase:x.c=34∨x.c=8∨x.c=9∨x.c=22∨(10≤x.c∧x.c≤18)∨x.c=2∨x.c=5∨x.c=4∨x.c=7∨x.c=23∨x.c=33∨x.c=29∨x.c=24∨x.c=25∨x.c=26∨x.c=27∨x.c=28∨x.c=30∨x.c=31∨x.c=32∨(x.c=1∨x.c=3∨x.c=6∨x.c=19∨x.c=20∨x.c=21):=by omega
 rcases hcase with hx|hx|hx|hx|hx|hx|hx|hx|hx|hx|hx|hx|hx|hx|hx|hx|hx|hx|hx|hx|hx
 · refine oo 5 ?_;refine ld ?_;refine ox 2 ?_;refine X.kt 11 ?_;refine xo 4 ?_;refine stA ?_;refine ox 1 ?_
   have hD:doS m x pc loc l cells=((pc,loc,l),Ey 4 0):=by unfold doS;rw [if_pos hx]
   exact X.ret ⟨rfl,Y6 call76 func52 (Yn (n2:=n2)) (Lv.ret (q':=pto p (.cells [.slice a (l).length c,.pointer (some ⟨pm,0,none⟩),x2,.int .i64 (pc),.slice la (loc).length lc,x5,.slice cda cells.length cc].toArray 122 (0,0))::lsH I64 2 a c (l)::lsH I64 2 la lc (loc)::q) func52 (rA_ results52) ⟨_,rfl,.inr ⟨by rw [hD];exact (by decide:(4:Int)≠7),by rw [hD];rfl,a,c,by rw [hD]⟩⟩ leA)⟩
 · obtain ⟨hmk0,nf,hmk,hcall⟩:=(Wj (G:=G) hxc).resolve_right (fun h=>h.1 (by omega))
   have hun:N7 x.c:=by omega
   have hdx:(1:Int)≤l.length:=by have h:=hdep;rw [hx] at h;exact h
   refine oo 5 ?_;refine ld ?_;refine ox 2 ?_;refine Zj 11 ?_;refine xo 8 ?_;refine ld ?_;refine oo 4 ?_;refine st ?_;refine ox 3 ?_;refine X.draw [(4,.pointer (some ⟨n2,0,none⟩))] Tryz.mixed (by kernel_rfl) (by kernel_rfl) rfl ?_
   refine dd [1] ?_;refine ldD 2 ?_;refine Z7 0 call77 (Ya) ?_;refine Wm 3 rfl (Ys rfl rfl underlying158 sizeOf157 isAgg157 (by omega) (by omega) hmk) ?_
   refine dd [4] ?_;refine XD.nil ?_;refine xo 3 ?_;refine Zn (Jt rfl underlying157) ?_;refine oo 7 ?_;refine V8 call78 (U5 (l:=l) (by omega)) ?_
   rintro _ _ ⟨rfl,rfl⟩ _ e_;simp only [ca,na] at e_;subst e_
   refine oo 7 ?_;refine ld ?_;refine oo 2 ?_;refine Wh 35 ?_;refine ox 13 ?_;refine X.draw [(4,.pointer (some ⟨n2,0,none⟩))] Tryz.mixed (by kernel_rfl) (by kernel_rfl) rfl ?_
   refine dd [0,1,2,3,4,5] ?_;refine Fa 6 (Le.refl _) (hcall _ 0 (Zc l) (by unfold val;omega) (Wz hS.vl _)) ?_ ?_ ⟨rfl,trivial⟩
   · rintro _ _ ⟨h0,rfl,rfl⟩
     exact hpan _ _ _ _ _ _ _ _ _ _ _ _ _ rfl (by unfold doS;rw [if_neg (by omega),if_pos hmk0];simp only [if_pos hun];exact if_pos h0) leA
   rintro _ _ ⟨hv,rfl,rfl⟩
   refine ⟨trivial,?_⟩
   refine Qy 7 call79 (J3 (l:=l.take (l.length - 1)) (z:=(mkS x.c 0 (Zc l)).1) (by rw [List.length_take];omega)) ?_
   rintro _ _ ⟨a2,c2,rfl⟩ _ e_;simp only [ca,na] at e_;subst e_
   refine ⟨trivial,?_⟩
   refine XD.nil ?_;refine xo 3 ?_;refine stA ?_;refine ox 1 ?_
   have hD:doS m x pc loc l cells=(((pc+1),loc,l.take (l.length - 1)++ [(mkS x.c 0 (Zc l)).1]),Vo):=by unfold doS;rw [if_neg (by omega),if_pos hmk0];simp only [if_pos hun];exact if_neg (fun h=>h hv)
   exact X.ret ⟨rfl,Y6 call76 func52 (Yn (n2:=n2)) (Lv.ret (q':=pto p (.cells [.slice a2 (l.take (l.length - 1)++ [(mkS x.c 0 (Zc l)).1]).length c2,.pointer (some ⟨pm,0,none⟩),x2,.int .i64 ((pc+1)),.slice la (loc).length lc,x5,.slice cda cells.length cc].toArray 122 (0,0))::lsH I64 2 a2 c2 (l.take (l.length - 1)++ [(mkS x.c 0 (Zc l)).1])::lsH I64 2 la lc (loc)::q) func52 (rA_ results52) ⟨_,rfl,.inr ⟨by rw [hD];exact (by decide:(1:Int)≠7),by rw [hD];rfl,a2,c2,by rw [hD]⟩⟩ leA)⟩
 · obtain ⟨hmk0,nf,hmk,hcall⟩:=(Wj (G:=G) hxc).resolve_right (fun h=>h.1 (by omega))
   have hun:N7 x.c:=by omega
   have hdx:(1:Int)≤l.length:=by have h:=hdep;rw [hx] at h;exact h
   refine oo 5 ?_;refine ld ?_;refine ox 2 ?_;refine Zj 11 ?_;refine xo 8 ?_;refine ld ?_;refine oo 4 ?_;refine st ?_;refine ox 3 ?_;refine X.draw [(4,.pointer (some ⟨n2,0,none⟩))] Tryz.mixed (by kernel_rfl) (by kernel_rfl) rfl ?_
   refine dd [1] ?_;refine ldD 2 ?_;refine Z7 0 call77 (Ya) ?_;refine Wm 3 rfl (Ys rfl rfl underlying158 sizeOf157 isAgg157 (by omega) (by omega) hmk) ?_
   refine dd [4] ?_;refine XD.nil ?_;refine xo 3 ?_;refine Zn (Jt rfl underlying157) ?_;refine oo 7 ?_;refine V8 call78 (U5 (l:=l) (by omega)) ?_
   rintro _ _ ⟨rfl,rfl⟩ _ e_;simp only [ca,na] at e_;subst e_
   refine oo 7 ?_;refine ld ?_;refine oo 2 ?_;refine XO.kt 35 ?_;refine oo 1 ?_;refine ld ?_;refine oo 3 ?_;refine Wh 40 ?_;refine ox 8 ?_;refine X.draw [(4,.pointer (some ⟨n2,0,none⟩))] Tryz.mixed (by kernel_rfl) (by kernel_rfl) rfl ?_
   refine dd [0,1,2,3,4,5] ?_;refine Fa 6 (Le.refl _) (hcall _ 0 (Zc l) (by unfold val;omega) (Wz hS.vl _)) ?_ ?_ ⟨rfl,trivial⟩
   · rintro _ _ ⟨h0,rfl,rfl⟩
     exact hpan _ _ _ _ _ _ _ _ _ _ _ _ _ rfl (by unfold doS;rw [if_neg (by omega),if_pos hmk0];simp only [if_pos hun];exact if_pos h0) leA
   rintro _ _ ⟨hv,rfl,rfl⟩
   refine ⟨trivial,?_⟩
   refine Qy 7 call79 (J3 (l:=l.take (l.length - 1)) (z:=(mkS x.c 0 (Zc l)).1) (by rw [List.length_take];omega)) ?_
   rintro _ _ ⟨a2,c2,rfl⟩ _ e_;simp only [ca,na] at e_;subst e_
   refine ⟨trivial,?_⟩
   refine XD.nil ?_;refine xo 3 ?_;refine stA ?_;refine ox 1 ?_
   have hD:doS m x pc loc l cells=(((pc+1),loc,l.take (l.length - 1)++ [(mkS x.c 0 (Zc l)).1]),Vo):=by unfold doS;rw [if_neg (by omega),if_pos hmk0];simp only [if_pos hun];exact if_neg (fun h=>h hv)
   exact X.ret ⟨rfl,Y6 call76 func52 (Yn (n2:=n2)) (Lv.ret (q':=pto p (.cells [.slice a2 (l.take (l.length - 1)++ [(mkS x.c 0 (Zc l)).1]).length c2,.pointer (some ⟨pm,0,none⟩),x2,.int .i64 ((pc+1)),.slice la (loc).length lc,x5,.slice cda cells.length cc].toArray 122 (0,0))::lsH I64 2 a2 c2 (l.take (l.length - 1)++ [(mkS x.c 0 (Zc l)).1])::lsH I64 2 la lc (loc)::q) func52 (rA_ results52) ⟨_,rfl,.inr ⟨by rw [hD];exact (by decide:(1:Int)≠7),by rw [hD];rfl,a2,c2,by rw [hD]⟩⟩ leA)⟩
 · obtain ⟨hmk0,nf,hmk,hcall⟩:=(Wj (G:=G) hxc).resolve_right (fun h=>h.1 (by omega))
   have hun:N7 x.c:=by omega
   have hdx:(1:Int)≤l.length:=by have h:=hdep;rw [hx] at h;exact h
   refine oo 5 ?_;refine ld ?_;refine ox 2 ?_;refine Zj 11 ?_;refine xo 8 ?_;refine ld ?_;refine oo 4 ?_;refine st ?_;refine ox 3 ?_;refine X.draw [(4,.pointer (some ⟨n2,0,none⟩))] Tryz.mixed (by kernel_rfl) (by kernel_rfl) rfl ?_
   refine dd [1] ?_;refine ldD 2 ?_;refine Z7 0 call77 (Ya) ?_;refine Wm 3 rfl (Ys rfl rfl underlying158 sizeOf157 isAgg157 (by omega) (by omega) hmk) ?_
   refine dd [4] ?_;refine XD.nil ?_;refine xo 3 ?_;refine Zn (Jt rfl underlying157) ?_;refine oo 7 ?_;refine V8 call78 (U5 (l:=l) (by omega)) ?_
   rintro _ _ ⟨rfl,rfl⟩ _ e_;simp only [ca,na] at e_;subst e_
   refine oo 7 ?_;refine ld ?_;refine oo 2 ?_;refine XO.kt 35 ?_;refine oo 1 ?_;refine ld ?_;refine oo 3 ?_;refine XO.kt 40 ?_;refine oo 1 ?_;refine ld ?_;refine ox 3 ?_;refine Zj 44 ?_;refine xx 3 ?_;refine X.draw [(4,.pointer (some ⟨n2,0,none⟩))] Tryz.mixed (by kernel_rfl) (by kernel_rfl) rfl ?_
   refine dd [0,1,2,3,4,5] ?_;refine Fa 6 (Le.refl _) (hcall _ 0 (Zc l) (by unfold val;omega) (Wz hS.vl _)) ?_ ?_ ⟨rfl,trivial⟩
   · rintro _ _ ⟨h0,rfl,rfl⟩
     exact hpan _ _ _ _ _ _ _ _ _ _ _ _ _ rfl (by unfold doS;rw [if_neg (by omega),if_pos hmk0];simp only [if_pos hun];exact if_pos h0) leA
   rintro _ _ ⟨hv,rfl,rfl⟩
   refine ⟨trivial,?_⟩
   refine Qy 7 call79 (J3 (l:=l.take (l.length - 1)) (z:=(mkS x.c 0 (Zc l)).1) (by rw [List.length_take];omega)) ?_
   rintro _ _ ⟨a2,c2,rfl⟩ _ e_;simp only [ca,na] at e_;subst e_
   refine ⟨trivial,?_⟩
   refine XD.nil ?_;refine xo 3 ?_;refine stA ?_;refine ox 1 ?_
   have hD:doS m x pc loc l cells=(((pc+1),loc,l.take (l.length - 1)++ [(mkS x.c 0 (Zc l)).1]),Vo):=by unfold doS;rw [if_neg (by omega),if_pos hmk0];simp only [if_pos hun];exact if_neg (fun h=>h hv)
   exact X.ret ⟨rfl,Y6 call76 func52 (Yn (n2:=n2)) (Lv.ret (q':=pto p (.cells [.slice a2 (l.take (l.length - 1)++ [(mkS x.c 0 (Zc l)).1]).length c2,.pointer (some ⟨pm,0,none⟩),x2,.int .i64 ((pc+1)),.slice la (loc).length lc,x5,.slice cda cells.length cc].toArray 122 (0,0))::lsH I64 2 a2 c2 (l.take (l.length - 1)++ [(mkS x.c 0 (Zc l)).1])::lsH I64 2 la lc (loc)::q) func52 (rA_ results52) ⟨_,rfl,.inr ⟨by rw [hD];exact (by decide:(1:Int)≠7),by rw [hD];rfl,a2,c2,by rw [hD]⟩⟩ leA)⟩
 · obtain ⟨hmk0,nf,hmk,hcall⟩:=(Wj (G:=G) hxc).resolve_right (fun h=>h.1 (by omega))
   have hun: ¬N7 x.c:=by omega
   have hdx:(2:Int)≤l.length:=by have h:=hdep;unfold Yh at h;rw [if_neg (by omega),if_neg (by omega),if_pos (by omega)] at h;exact h
   refine oo 5 ?_;refine ld ?_;refine ox 2 ?_;refine Zj 11 ?_;refine xo 8 ?_;refine ld ?_;refine oo 4 ?_;refine st ?_;refine ox 3 ?_;refine X.draw [(4,.pointer (some ⟨n2,0,none⟩))] Tryz.mixed (by kernel_rfl) (by kernel_rfl) rfl ?_
   refine dd [1] ?_;refine ldD 2 ?_;refine Z7 0 call77 (Ya) ?_;refine Wm 3 rfl (Ys rfl rfl underlying158 sizeOf157 isAgg157 (by omega) (by omega) hmk) ?_
   refine dd [4] ?_;refine XD.nil ?_;refine xo 3 ?_;refine Zn (Jt rfl underlying157) ?_;refine oo 7 ?_;refine V8 call78 (U5 (l:=l) (by omega)) ?_
   rintro _ _ ⟨rfl,rfl⟩ _ e_;simp only [ca,na] at e_;subst e_
   refine oo 7 ?_;refine ld ?_;refine oo 2 ?_;refine XO.kt 35 ?_;refine oo 1 ?_;refine ld ?_;refine oo 3 ?_;refine XO.kt 40 ?_;refine oo 1 ?_;refine ld ?_;refine ox 3 ?_;refine X.kt 44 ?_;refine xo 5 ?_;refine V8 call78 (U5 (l:=l.take (l.length - 1)) (by rw [List.length_take];omega)) ?_
   rintro _ _ ⟨rfl,rfl⟩ _ e_;simp only [ca,na] at e_;subst e_
   rw [Ho]
   refine XO.know 48 (.int .i64 (Yx l)) rfl (congrArg (Value.int .i64) (H8 (by omega))) ?_
   refine ox 3 ?_;refine X.draw [(4,.pointer (some ⟨n2,0,none⟩))] Tryz.mixed (by kernel_rfl) (by kernel_rfl) rfl ?_
   refine dd [0,1,2,3,4,5] ?_;refine Fa 6 (Le.refl _) (hcall _ (Yx l) (Zc l) (Wz hS.vl _) (Wz hS.vl _)) ?_ ?_ ⟨rfl,trivial⟩
   · rintro _ _ ⟨h0,rfl,rfl⟩
     exact hpan _ _ _ _ _ _ _ _ _ _ _ _ _ rfl (by unfold doS;rw [if_neg (by omega),if_pos hmk0];simp only [if_neg hun];exact if_pos h0) leA
   rintro _ _ ⟨hv,rfl,rfl⟩
   refine ⟨trivial,?_⟩
   refine Qy 7 call79 (J3 (l:=l.take (l.length - 2)) (z:=(mkS x.c (Yx l) (Zc l)).1) (by rw [List.length_take];omega)) ?_
   rintro _ _ ⟨a2,c2,rfl⟩ _ e_;simp only [ca,na] at e_;subst e_
   refine ⟨trivial,?_⟩
   refine XD.nil ?_;refine xo 3 ?_;refine stA ?_;refine ox 1 ?_
   have hD:doS m x pc loc l cells=(((pc+1),loc,l.take (l.length - 2)++ [(mkS x.c (Yx l) (Zc l)).1]),Vo):=by unfold doS;rw [if_neg (by omega),if_pos hmk0];simp only [if_neg hun];exact if_neg (fun h=>h hv)
   exact X.ret ⟨rfl,Y6 call76 func52 (Yn (n2:=n2)) (Lv.ret (q':=pto p (.cells [.slice a2 (l.take (l.length - 2)++ [(mkS x.c (Yx l) (Zc l)).1]).length c2,.pointer (some ⟨pm,0,none⟩),x2,.int .i64 ((pc+1)),.slice la (loc).length lc,x5,.slice cda cells.length cc].toArray 122 (0,0))::lsH I64 2 a2 c2 (l.take (l.length - 2)++ [(mkS x.c (Yx l) (Zc l)).1])::lsH I64 2 la lc (loc)::q) func52 (rA_ results52) ⟨_,rfl,.inr ⟨by rw [hD];exact (by decide:(1:Int)≠7),by rw [hD];rfl,a2,c2,by rw [hD]⟩⟩ leA)⟩
 · have hmk:=((Wj (G:=G) hxc).resolve_left (fun h=>absurd h.1 (by omega))).2
   have hcls:x.c=2∨x.c=5∨x.c=4∨x.c=7:=by omega
   refine oo 5 ?_;refine ld ?_;refine ox 2 ?_;refine Zj 11 ?_;refine xo 8 ?_;refine ld ?_;refine oo 4 ?_;refine st ?_;refine ox 3 ?_;refine X.draw [(4,.pointer (some ⟨n2,0,none⟩))] Tryz.mixed (by kernel_rfl) (by kernel_rfl) rfl ?_
   refine dd [1] ?_;refine ldD 2 ?_;refine Z7 0 call77 (Ya) ?_;refine Wm 3 rfl (Ys rfl rfl underlying158 sizeOf157 isAgg157 (by omega) (by omega) hmk) ?_
   refine dd [4] ?_;refine XD.nil ?_;refine xo 3 ?_;refine Zn (Yb rfl underlying157) ?_;refine oo 7 ?_;refine ld ?_;refine ox 8 ?_;refine X.kt 60 ?_;refine xo 6 ?_;refine ldA ?_;refine Ju call80 (Le.pick Zw Zw) (Ml (m:=m) (x:=x) (loc:=loc) (l:=l) (cells:=cells) (hm.le leA) (hq.le leA) (hc.le leA) hS hcls) ?_ ?_
   · rintro _ _ ⟨h0,rfl,rfl⟩
     exact hpan _ _ _ _ _ _ _ _ _ _ _ _ _ rfl (by unfold doS;rw [if_neg (by omega),if_neg (by omega),if_pos hcls,h0]) leA
   rintro _ _ ⟨y,l2,hac,rfl,a2,c2,rfl⟩
   refine oo 1 ?_;refine stA ?_;refine ox 1 ?_
   have hD:doS m x pc loc l cells=(((pc+1),loc,l2),Fm y.1 y.2.1 y.2.2):=by unfold doS;rw [if_neg (by omega),if_neg (by omega),if_pos hcls,hac]
   exact X.ret ⟨rfl,Y6 call76 func52 (Yn (n2:=n2)) (Lv.ret (q':=pto p (.cells [.slice a2 (l2).length c2,.pointer (some ⟨pm,0,none⟩),x2,.int .i64 ((pc+1)),.slice la (loc).length lc,x5,.slice cda cells.length cc].toArray 122 (0,0))::lsH I64 2 a2 c2 (l2)::lsH I64 2 la lc (loc)::q) func52 (rA_ results52) ⟨_,rfl,.inr ⟨by rw [hD];exact (by decide:(2:Int)≠7),by rw [hD];rfl,a2,c2,by rw [hD]⟩⟩ leA)⟩
 · have hmk:=((Wj (G:=G) hxc).resolve_left (fun h=>absurd h.1 (by omega))).2
   have hcls:x.c=2∨x.c=5∨x.c=4∨x.c=7:=by omega
   have hdx:(1:Int)≤l.length:=by have h:=hdep;rw [hx] at h;exact h
   refine oo 5 ?_;refine ld ?_;refine ox 2 ?_;refine Zj 11 ?_;refine xo 8 ?_;refine ld ?_;refine oo 4 ?_;refine st ?_;refine ox 3 ?_;refine X.draw [(4,.pointer (some ⟨n2,0,none⟩))] Tryz.mixed (by kernel_rfl) (by kernel_rfl) rfl ?_
   refine dd [1] ?_;refine ldD 2 ?_;refine Z7 0 call77 (Ya) ?_;refine Wm 3 rfl (Ys rfl rfl underlying158 sizeOf157 isAgg157 (by omega) (by omega) hmk) ?_
   refine dd [4] ?_;refine XD.nil ?_;refine xo 3 ?_;refine Zn (Yb rfl underlying157) ?_;refine oo 7 ?_;refine ld ?_;refine ox 8 ?_;refine Zj 60 ?_;refine xx 6 ?_;refine X.kt 60 ?_;refine xo 6 ?_;refine ldA ?_;refine Ju call80 (Le.pick Zw Zw) (Ml (m:=m) (x:=x) (loc:=loc) (l:=l) (cells:=cells) (hm.le leA) (hq.le leA) (hc.le leA) hS hcls) ?_ ?_
   · rintro _ _ ⟨h0,rfl,rfl⟩
     exact hpan _ _ _ _ _ _ _ _ _ _ _ _ _ rfl (by unfold doS;rw [if_neg (by omega),if_neg (by omega),if_pos hcls,h0]) leA
   rintro _ _ ⟨y,l2,hac,rfl,a2,c2,rfl⟩
   refine oo 1 ?_;refine stA ?_;refine ox 1 ?_
   have hD:doS m x pc loc l cells=(((pc+1),loc,l2),Fm y.1 y.2.1 y.2.2):=by unfold doS;rw [if_neg (by omega),if_neg (by omega),if_pos hcls,hac]
   exact X.ret ⟨rfl,Y6 call76 func52 (Yn (n2:=n2)) (Lv.ret (q':=pto p (.cells [.slice a2 (l2).length c2,.pointer (some ⟨pm,0,none⟩),x2,.int .i64 ((pc+1)),.slice la (loc).length lc,x5,.slice cda cells.length cc].toArray 122 (0,0))::lsH I64 2 a2 c2 (l2)::lsH I64 2 la lc (loc)::q) func52 (rA_ results52) ⟨_,rfl,.inr ⟨by rw [hD];exact (by decide:(2:Int)≠7),by rw [hD];rfl,a2,c2,by rw [hD]⟩⟩ leA)⟩
 · have hmk:=((Wj (G:=G) hxc).resolve_left (fun h=>absurd h.1 (by omega))).2
   have hcls:x.c=2∨x.c=5∨x.c=4∨x.c=7:=by omega
   have hdx:(1:Int)≤l.length:=by have h:=hdep;rw [hx] at h;exact h
   refine oo 5 ?_;refine ld ?_;refine ox 2 ?_;refine Zj 11 ?_;refine xo 8 ?_;refine ld ?_;refine oo 4 ?_;refine st ?_;refine ox 3 ?_;refine X.draw [(4,.pointer (some ⟨n2,0,none⟩))] Tryz.mixed (by kernel_rfl) (by kernel_rfl) rfl ?_
   refine dd [1] ?_;refine ldD 2 ?_;refine Z7 0 call77 (Ya) ?_;refine Wm 3 rfl (Ys rfl rfl underlying158 sizeOf157 isAgg157 (by omega) (by omega) hmk) ?_
   refine dd [4] ?_;refine XD.nil ?_;refine xo 3 ?_;refine Zn (Yb rfl underlying157) ?_;refine oo 7 ?_;refine ld ?_;refine ox 8 ?_;refine Zj 60 ?_;refine xx 6 ?_;refine Zj 60 ?_;refine xx 6 ?_;refine X.kt 60 ?_;refine xo 6 ?_;refine ldA ?_;refine Ju call80 (Le.pick Zw Zw) (Ml (m:=m) (x:=x) (loc:=loc) (l:=l) (cells:=cells) (hm.le leA) (hq.le leA) (hc.le leA) hS hcls) ?_ ?_
   · rintro _ _ ⟨h0,rfl,rfl⟩
     exact hpan _ _ _ _ _ _ _ _ _ _ _ _ _ rfl (by unfold doS;rw [if_neg (by omega),if_neg (by omega),if_pos hcls,h0]) leA
   rintro _ _ ⟨y,l2,hac,rfl,a2,c2,rfl⟩
   refine oo 1 ?_;refine stA ?_;refine ox 1 ?_
   have hD:doS m x pc loc l cells=(((pc+1),loc,l2),Fm y.1 y.2.1 y.2.2):=by unfold doS;rw [if_neg (by omega),if_neg (by omega),if_pos hcls,hac]
   exact X.ret ⟨rfl,Y6 call76 func52 (Yn (n2:=n2)) (Lv.ret (q':=pto p (.cells [.slice a2 (l2).length c2,.pointer (some ⟨pm,0,none⟩),x2,.int .i64 ((pc+1)),.slice la (loc).length lc,x5,.slice cda cells.length cc].toArray 122 (0,0))::lsH I64 2 a2 c2 (l2)::lsH I64 2 la lc (loc)::q) func52 (rA_ results52) ⟨_,rfl,.inr ⟨by rw [hD];exact (by decide:(2:Int)≠7),by rw [hD];rfl,a2,c2,by rw [hD]⟩⟩ leA)⟩
 · have hmk:=((Wj (G:=G) hxc).resolve_left (fun h=>absurd h.1 (by omega))).2
   have hcls:x.c=2∨x.c=5∨x.c=4∨x.c=7:=by omega
   have hdx:(2:Int)≤l.length:=by have h:=hdep;rw [hx] at h;exact h
   refine oo 5 ?_;refine ld ?_;refine ox 2 ?_;refine Zj 11 ?_;refine xo 8 ?_;refine ld ?_;refine oo 4 ?_;refine st ?_;refine ox 3 ?_;refine X.draw [(4,.pointer (some ⟨n2,0,none⟩))] Tryz.mixed (by kernel_rfl) (by kernel_rfl) rfl ?_
   refine dd [1] ?_;refine ldD 2 ?_;refine Z7 0 call77 (Ya) ?_;refine Wm 3 rfl (Ys rfl rfl underlying158 sizeOf157 isAgg157 (by omega) (by omega) hmk) ?_
   refine dd [4] ?_;refine XD.nil ?_;refine xo 3 ?_;refine Zn (Yb rfl underlying157) ?_;refine oo 7 ?_;refine ld ?_;refine ox 8 ?_;refine Zj 60 ?_;refine xx 6 ?_;refine Zj 60 ?_;refine xx 6 ?_;refine Zj 60 ?_;refine xx 5 ?_;refine X.kt 60 ?_;refine xo 4 ?_;refine ldA ?_;refine Ju call80 (Le.pick Zw Zw) (Ml (m:=m) (x:=x) (loc:=loc) (l:=l) (cells:=cells) (hm.le leA) (hq.le leA) (hc.le leA) hS hcls) ?_ ?_
   · rintro _ _ ⟨h0,rfl,rfl⟩
     exact hpan _ _ _ _ _ _ _ _ _ _ _ _ _ rfl (by unfold doS;rw [if_neg (by omega),if_neg (by omega),if_pos hcls,h0]) leA
   rintro _ _ ⟨y,l2,hac,rfl,a2,c2,rfl⟩
   refine oo 1 ?_;refine stA ?_;refine ox 1 ?_
   have hD:doS m x pc loc l cells=(((pc+1),loc,l2),Fm y.1 y.2.1 y.2.2):=by unfold doS;rw [if_neg (by omega),if_neg (by omega),if_pos hcls,hac]
   exact X.ret ⟨rfl,Y6 call76 func52 (Yn (n2:=n2)) (Lv.ret (q':=pto p (.cells [.slice a2 (l2).length c2,.pointer (some ⟨pm,0,none⟩),x2,.int .i64 ((pc+1)),.slice la (loc).length lc,x5,.slice cda cells.length cc].toArray 122 (0,0))::lsH I64 2 a2 c2 (l2)::lsH I64 2 la lc (loc)::q) func52 (rA_ results52) ⟨_,rfl,.inr ⟨by rw [hD];exact (by decide:(2:Int)≠7),by rw [hD];rfl,a2,c2,by rw [hD]⟩⟩ leA)⟩
 · have hmk:=((Wj (G:=G) hxc).resolve_left (fun h=>absurd h.1 (by omega))).2
   refine oo 5 ?_;refine ld ?_;refine ox 2 ?_;refine Zj 11 ?_;refine xo 8 ?_;refine ld ?_;refine oo 4 ?_;refine st ?_;refine ox 3 ?_;refine X.draw [(4,.pointer (some ⟨n2,0,none⟩))] Tryz.mixed (by kernel_rfl) (by kernel_rfl) rfl ?_
   refine dd [1] ?_;refine ldD 2 ?_;refine Z7 0 call77 (Ya) ?_;refine Wm 3 rfl (Ys rfl rfl underlying158 sizeOf157 isAgg157 (by omega) (by omega) hmk) ?_
   refine dd [4] ?_;refine XD.nil ?_;refine xo 3 ?_;refine Zn (Yb rfl underlying157) ?_;refine oo 7 ?_;refine ld ?_;refine ox 8 ?_;refine Zj 60 ?_;refine xx 6 ?_;refine Zj 60 ?_;refine xx 6 ?_;refine Zj 60 ?_;refine xx 5 ?_;refine Zj 60 ?_;refine xx 6 ?_;refine X.kt 69 ?_;refine xo 4 ?_;refine ld ?_;refine oo 1 ?_;refine stA ?_;refine ox 1 ?_
   have hD:doS m x pc loc l cells=(((pc+1),loc,l),Ey 3 x.a):=by unfold doS;rw [if_neg (by omega),if_neg (by omega),if_neg (by omega),if_pos hx]
   exact X.ret ⟨rfl,Y6 call76 func52 (Yn (n2:=n2)) (Lv.ret (q':=pto p (.cells [.slice a (l).length c,.pointer (some ⟨pm,0,none⟩),x2,.int .i64 ((pc+1)),.slice la (loc).length lc,x5,.slice cda cells.length cc].toArray 122 (0,0))::lsH I64 2 a c (l)::lsH I64 2 la lc (loc)::q) func52 (rA_ results52) ⟨_,rfl,.inr ⟨by rw [hD];exact (by decide:(3:Int)≠7),by rw [hD];rfl,a,c,by rw [hD]⟩⟩ leA)⟩
 · have hmk:=((Wj (G:=G) hxc).resolve_left (fun h=>absurd h.1 (by omega))).2
   have hdx:(1:Int)≤l.length:=by have h:=hdep;rw [hx] at h;exact h
   refine oo 5 ?_;refine ld ?_;refine ox 2 ?_;refine Zj 11 ?_;refine xo 8 ?_;refine ld ?_;refine oo 4 ?_;refine st ?_;refine ox 3 ?_;refine X.draw [(4,.pointer (some ⟨n2,0,none⟩))] Tryz.mixed (by kernel_rfl) (by kernel_rfl) rfl ?_
   refine dd [1] ?_;refine ldD 2 ?_;refine Z7 0 call77 (Ya) ?_;refine Wm 3 rfl (Ys rfl rfl underlying158 sizeOf157 isAgg157 (by omega) (by omega) hmk) ?_
   refine dd [4] ?_;refine XD.nil ?_;refine xo 3 ?_;refine Zn (Yb rfl underlying157) ?_;refine oo 7 ?_;refine ld ?_;refine ox 8 ?_;refine Zj 60 ?_;refine xx 6 ?_;refine Zj 60 ?_;refine xx 6 ?_;refine Zj 60 ?_;refine xx 5 ?_;refine Zj 60 ?_;refine xx 6 ?_;refine Zj 69 ?_;refine xx 6 ?_;refine X.kt 74 ?_;refine xo 6 ?_;refine V8 call78 (U5 (l:=l) (by omega)) ?_
   rintro _ _ ⟨rfl,rfl⟩ _ e_;simp only [ca,na] at e_;subst e_
   refine oo 1 ?_;refine stA ?_;refine ox 1 ?_
   have hD:doS m x pc loc l cells=(((pc+1),loc,l.take (l.length - 1)),Ey 6 (Zc l)):=by unfold doS;rw [if_neg (by omega),if_neg (by omega),if_neg (by omega),if_neg (by omega),if_pos hx]
   exact X.ret ⟨rfl,Y6 call76 func52 (Yn (n2:=n2)) (Lv.ret (q':=pto p (.cells [.slice a (l.take (l.length - 1)).length c,.pointer (some ⟨pm,0,none⟩),x2,.int .i64 ((pc+1)),.slice la (loc).length lc,x5,.slice cda cells.length cc].toArray 122 (0,0))::lsH I64 2 a c (l.take (l.length - 1))::lsH I64 2 la lc (loc)::q) func52 (rA_ results52) ⟨_,rfl,.inr ⟨by rw [hD];exact (by decide:(6:Int)≠7),by rw [hD];rfl,a,c,by rw [hD]⟩⟩ leA)⟩
 · have hmk:=((Wj (G:=G) hxc).resolve_left (fun h=>absurd h.1 (by omega))).2
   have hdx:(1:Int)≤l.length:=by have h:=hdep;rw [hx] at h;exact h
   refine oo 5 ?_;refine ld ?_;refine ox 2 ?_;refine Zj 11 ?_;refine xo 8 ?_;refine ld ?_;refine oo 4 ?_;refine st ?_;refine ox 3 ?_;refine X.draw [(4,.pointer (some ⟨n2,0,none⟩))] Tryz.mixed (by kernel_rfl) (by kernel_rfl) rfl ?_
   refine dd [1] ?_;refine ldD 2 ?_;refine Z7 0 call77 (Ya) ?_;refine Wm 3 rfl (Ys rfl rfl underlying158 sizeOf157 isAgg157 (by omega) (by omega) hmk) ?_
   refine dd [4] ?_;refine XD.nil ?_;refine xo 3 ?_;refine Zn (Yb rfl underlying157) ?_;refine oo 7 ?_;refine ld ?_;refine ox 8 ?_;refine Zj 60 ?_;refine xx 6 ?_;refine Zj 60 ?_;refine xx 6 ?_;refine Zj 60 ?_;refine xx 5 ?_;refine Zj 60 ?_;refine xx 6 ?_;refine Zj 69 ?_;refine xx 6 ?_;refine Zj 74 ?_;refine xx 6 ?_;refine X.kt 81 ?_;refine xx 2 ?_;refine X.draw [(4,.pointer (some ⟨n2,0,none⟩))] Tryz.mixed (by kernel_rfl) (by kernel_rfl) rfl ?_
   refine Z4 0 ?_;refine dd [1,2,3] ?_;refine Qy 4 call78 (U5 (l:=l) (by omega)) ?_
   rintro _ _ ⟨rfl,rfl⟩ _ e_;simp only [ca,na] at e_;subst e_
   refine ⟨hlA,?_⟩
   refine dd [5] ?_;refine Z9 6 ?_;refine XD.nil ?_
   have hD:doS m x pc loc l cells=(((pc+1),loc,l.take (l.length - 1)),Ks x (Zc l)):=by unfold doS;rw [if_neg (by omega),if_neg (by omega),if_neg (by omega),if_neg (by omega),if_neg (by omega),if_pos hx]
   exact X.ret ⟨rfl,Y6 call76 func52 (Yn (n2:=n2)) (Lv.ret (q':=pto p (.cells [.slice a (l.take (l.length - 1)).length c,.pointer (some ⟨pm,0,none⟩),x2,.int .i64 ((pc+1)),.slice la (loc).length lc,x5,.slice cda cells.length cc].toArray 122 (0,0))::lsH I64 2 a c (l.take (l.length - 1))::lsH I64 2 la lc (loc)::q) func52 (rA_ results52) ⟨_,rfl,.inr ⟨by rw [hD];exact (by decide:(5:Int)≠7),by rw [hD];rfl,a,c,by rw [hD]⟩⟩ leA)⟩
 · have hmk:=((Wj (G:=G) hxc).resolve_left (fun h=>absurd h.1 (by omega))).2
   refine oo 5 ?_;refine ld ?_;refine ox 2 ?_;refine Zj 11 ?_;refine xo 8 ?_;refine ld ?_;refine oo 4 ?_;refine st ?_;refine ox 3 ?_;refine X.draw [(4,.pointer (some ⟨n2,0,none⟩))] Tryz.mixed (by kernel_rfl) (by kernel_rfl) rfl ?_
   refine dd [1] ?_;refine ldD 2 ?_;refine Z7 0 call77 (Ya) ?_;refine Wm 3 rfl (Ys rfl rfl underlying158 sizeOf157 isAgg157 (by omega) (by omega) hmk) ?_
   refine dd [4] ?_;refine XD.nil ?_;refine xo 3 ?_;refine Zn (Yb rfl underlying157) ?_;refine oo 7 ?_;refine ld ?_;refine ox 8 ?_;refine Zj 60 ?_;refine xx 6 ?_;refine Zj 60 ?_;refine xx 6 ?_;refine Zj 60 ?_;refine xx 5 ?_;refine Zj 60 ?_;refine xx 6 ?_;refine Zj 69 ?_;refine xx 6 ?_;refine Zj 74 ?_;refine xx 6 ?_;refine Zj 81 ?_;refine xx 7 ?_;refine X.kt 89 ?_;refine xo 5 ?_;refine ldA ?_;refine oo 1 ?_;refine stA ?_;refine ox 1 ?_
   have hD:doS m x pc loc l cells=(((pc+1),loc,l),Ks x 0):=by unfold doS;rw [if_neg (by omega),if_neg (by omega),if_neg (by omega),if_neg (by omega),if_neg (by omega),if_neg (by omega),if_pos (by omega)]
   exact X.ret ⟨rfl,Y6 call76 func52 (Yn (n2:=n2)) (Lv.ret (q':=pto p (.cells [.slice a (l).length c,.pointer (some ⟨pm,0,none⟩),x2,.int .i64 ((pc+1)),.slice la (loc).length lc,x5,.slice cda cells.length cc].toArray 122 (0,0))::lsH I64 2 a c (l)::lsH I64 2 la lc (loc)::q) func52 (rA_ results52) ⟨_,rfl,.inr ⟨by rw [hD];exact (by decide:(5:Int)≠7),by rw [hD];rfl,a,c,by rw [hD]⟩⟩ leA)⟩
 · have hmk:=((Wj (G:=G) hxc).resolve_left (fun h=>absurd h.1 (by omega))).2
   refine oo 5 ?_;refine ld ?_;refine ox 2 ?_;refine Zj 11 ?_;refine xo 8 ?_;refine ld ?_;refine oo 4 ?_;refine st ?_;refine ox 3 ?_;refine X.draw [(4,.pointer (some ⟨n2,0,none⟩))] Tryz.mixed (by kernel_rfl) (by kernel_rfl) rfl ?_
   refine dd [1] ?_;refine ldD 2 ?_;refine Z7 0 call77 (Ya) ?_;refine Wm 3 rfl (Ys rfl rfl underlying158 sizeOf157 isAgg157 (by omega) (by omega) hmk) ?_
   refine dd [4] ?_;refine XD.nil ?_;refine xo 3 ?_;refine Zn (Yb rfl underlying157) ?_;refine oo 7 ?_;refine ld ?_;refine ox 8 ?_;refine Zj 60 ?_;refine xx 6 ?_;refine Zj 60 ?_;refine xx 6 ?_;refine Zj 60 ?_;refine xx 5 ?_;refine Zj 60 ?_;refine xx 6 ?_;refine Zj 69 ?_;refine xx 6 ?_;refine Zj 74 ?_;refine xx 6 ?_;refine Zj 81 ?_;refine xx 7 ?_;refine Zj 89 ?_;refine xx 6 ?_;refine X.kt 89 ?_;refine xo 5 ?_;refine ldA ?_;refine oo 1 ?_;refine stA ?_;refine ox 1 ?_
   have hD:doS m x pc loc l cells=(((pc+1),loc,l),Ks x 0):=by unfold doS;rw [if_neg (by omega),if_neg (by omega),if_neg (by omega),if_neg (by omega),if_neg (by omega),if_neg (by omega),if_pos (by omega)]
   exact X.ret ⟨rfl,Y6 call76 func52 (Yn (n2:=n2)) (Lv.ret (q':=pto p (.cells [.slice a (l).length c,.pointer (some ⟨pm,0,none⟩),x2,.int .i64 ((pc+1)),.slice la (loc).length lc,x5,.slice cda cells.length cc].toArray 122 (0,0))::lsH I64 2 a c (l)::lsH I64 2 la lc (loc)::q) func52 (rA_ results52) ⟨_,rfl,.inr ⟨by rw [hD];exact (by decide:(5:Int)≠7),by rw [hD];rfl,a,c,by rw [hD]⟩⟩ leA)⟩
 · have hmk:=((Wj (G:=G) hxc).resolve_left (fun h=>absurd h.1 (by omega))).2
   refine oo 5 ?_;refine ld ?_;refine ox 2 ?_;refine Zj 11 ?_;refine xo 8 ?_;refine ld ?_;refine oo 4 ?_;refine st ?_;refine ox 3 ?_;refine X.draw [(4,.pointer (some ⟨n2,0,none⟩))] Tryz.mixed (by kernel_rfl) (by kernel_rfl) rfl ?_
   refine dd [1] ?_;refine ldD 2 ?_;refine Z7 0 call77 (Ya) ?_;refine Wm 3 rfl (Ys rfl rfl underlying158 sizeOf157 isAgg157 (by omega) (by omega) hmk) ?_
   refine dd [4] ?_;refine XD.nil ?_;refine xo 3 ?_;refine Zn (Yb rfl underlying157) ?_;refine oo 7 ?_;refine ld ?_;refine ox 8 ?_;refine Zj 60 ?_;refine xx 6 ?_;refine Zj 60 ?_;refine xx 6 ?_;refine Zj 60 ?_;refine xx 5 ?_;refine Zj 60 ?_;refine xx 6 ?_;refine Zj 69 ?_;refine xx 6 ?_;refine Zj 74 ?_;refine xx 6 ?_;refine Zj 81 ?_;refine xx 7 ?_;refine Zj 89 ?_;refine xx 6 ?_;refine Zj 89 ?_;refine xx 6 ?_;refine X.kt 89 ?_;refine xo 5 ?_;refine ldA ?_;refine oo 1 ?_;refine stA ?_;refine ox 1 ?_
   have hD:doS m x pc loc l cells=(((pc+1),loc,l),Ks x 0):=by unfold doS;rw [if_neg (by omega),if_neg (by omega),if_neg (by omega),if_neg (by omega),if_neg (by omega),if_neg (by omega),if_pos (by omega)]
   exact X.ret ⟨rfl,Y6 call76 func52 (Yn (n2:=n2)) (Lv.ret (q':=pto p (.cells [.slice a (l).length c,.pointer (some ⟨pm,0,none⟩),x2,.int .i64 ((pc+1)),.slice la (loc).length lc,x5,.slice cda cells.length cc].toArray 122 (0,0))::lsH I64 2 a c (l)::lsH I64 2 la lc (loc)::q) func52 (rA_ results52) ⟨_,rfl,.inr ⟨by rw [hD];exact (by decide:(5:Int)≠7),by rw [hD];rfl,a,c,by rw [hD]⟩⟩ leA)⟩
 · have hmk:=((Wj (G:=G) hxc).resolve_left (fun h=>absurd h.1 (by omega))).2
   refine oo 5 ?_;refine ld ?_;refine ox 2 ?_;refine Zj 11 ?_;refine xo 8 ?_;refine ld ?_;refine oo 4 ?_;refine st ?_;refine ox 3 ?_;refine X.draw [(4,.pointer (some ⟨n2,0,none⟩))] Tryz.mixed (by kernel_rfl) (by kernel_rfl) rfl ?_
   refine dd [1] ?_;refine ldD 2 ?_;refine Z7 0 call77 (Ya) ?_;refine Wm 3 rfl (Ys rfl rfl underlying158 sizeOf157 isAgg157 (by omega) (by omega) hmk) ?_
   refine dd [4] ?_;refine XD.nil ?_;refine xo 3 ?_;refine Zn (Yb rfl underlying157) ?_;refine oo 7 ?_;refine ld ?_;refine ox 8 ?_;refine Zj 60 ?_;refine xx 6 ?_;refine Zj 60 ?_;refine xx 6 ?_;refine Zj 60 ?_;refine xx 5 ?_;refine Zj 60 ?_;refine xx 6 ?_;refine Zj 69 ?_;refine xx 6 ?_;refine Zj 74 ?_;refine xx 6 ?_;refine Zj 81 ?_;refine xx 7 ?_;refine Zj 89 ?_;refine xx 6 ?_;refine Zj 89 ?_;refine xx 6 ?_;refine Zj 89 ?_;refine xx 6 ?_;refine X.kt 89 ?_;refine xo 5 ?_;refine ldA ?_;refine oo 1 ?_;refine stA ?_;refine ox 1 ?_
   have hD:doS m x pc loc l cells=(((pc+1),loc,l),Ks x 0):=by unfold doS;rw [if_neg (by omega),if_neg (by omega),if_neg (by omega),if_neg (by omega),if_neg (by omega),if_neg (by omega),if_pos (by omega)]
   exact X.ret ⟨rfl,Y6 call76 func52 (Yn (n2:=n2)) (Lv.ret (q':=pto p (.cells [.slice a (l).length c,.pointer (some ⟨pm,0,none⟩),x2,.int .i64 ((pc+1)),.slice la (loc).length lc,x5,.slice cda cells.length cc].toArray 122 (0,0))::lsH I64 2 a c (l)::lsH I64 2 la lc (loc)::q) func52 (rA_ results52) ⟨_,rfl,.inr ⟨by rw [hD];exact (by decide:(5:Int)≠7),by rw [hD];rfl,a,c,by rw [hD]⟩⟩ leA)⟩
 · have hmk:=((Wj (G:=G) hxc).resolve_left (fun h=>absurd h.1 (by omega))).2
   refine oo 5 ?_;refine ld ?_;refine ox 2 ?_;refine Zj 11 ?_;refine xo 8 ?_;refine ld ?_;refine oo 4 ?_;refine st ?_;refine ox 3 ?_;refine X.draw [(4,.pointer (some ⟨n2,0,none⟩))] Tryz.mixed (by kernel_rfl) (by kernel_rfl) rfl ?_
   refine dd [1] ?_;refine ldD 2 ?_;refine Z7 0 call77 (Ya) ?_;refine Wm 3 rfl (Ys rfl rfl underlying158 sizeOf157 isAgg157 (by omega) (by omega) hmk) ?_
   refine dd [4] ?_;refine XD.nil ?_;refine xo 3 ?_;refine Zn (Yb rfl underlying157) ?_;refine oo 7 ?_;refine ld ?_;refine ox 8 ?_;refine Zj 60 ?_;refine xx 6 ?_;refine Zj 60 ?_;refine xx 6 ?_;refine Zj 60 ?_;refine xx 5 ?_;refine Zj 60 ?_;refine xx 6 ?_;refine Zj 69 ?_;refine xx 6 ?_;refine Zj 74 ?_;refine xx 6 ?_;refine Zj 81 ?_;refine xx 7 ?_;refine Zj 89 ?_;refine xx 6 ?_;refine Zj 89 ?_;refine xx 6 ?_;refine Zj 89 ?_;refine xx 6 ?_;refine Zj 89 ?_;refine xx 6 ?_;refine X.kt 89 ?_;refine xo 5 ?_;refine ldA ?_;refine oo 1 ?_;refine stA ?_;refine ox 1 ?_
   have hD:doS m x pc loc l cells=(((pc+1),loc,l),Ks x 0):=by unfold doS;rw [if_neg (by omega),if_neg (by omega),if_neg (by omega),if_neg (by omega),if_neg (by omega),if_neg (by omega),if_pos (by omega)]
   exact X.ret ⟨rfl,Y6 call76 func52 (Yn (n2:=n2)) (Lv.ret (q':=pto p (.cells [.slice a (l).length c,.pointer (some ⟨pm,0,none⟩),x2,.int .i64 ((pc+1)),.slice la (loc).length lc,x5,.slice cda cells.length cc].toArray 122 (0,0))::lsH I64 2 a c (l)::lsH I64 2 la lc (loc)::q) func52 (rA_ results52) ⟨_,rfl,.inr ⟨by rw [hD];exact (by decide:(5:Int)≠7),by rw [hD];rfl,a,c,by rw [hD]⟩⟩ leA)⟩
 · have hmk:=((Wj (G:=G) hxc).resolve_left (fun h=>absurd h.1 (by omega))).2
   refine oo 5 ?_;refine ld ?_;refine ox 2 ?_;refine Zj 11 ?_;refine xo 8 ?_;refine ld ?_;refine oo 4 ?_;refine st ?_;refine ox 3 ?_;refine X.draw [(4,.pointer (some ⟨n2,0,none⟩))] Tryz.mixed (by kernel_rfl) (by kernel_rfl) rfl ?_
   refine dd [1] ?_;refine ldD 2 ?_;refine Z7 0 call77 (Ya) ?_;refine Wm 3 rfl (Ys rfl rfl underlying158 sizeOf157 isAgg157 (by omega) (by omega) hmk) ?_
   refine dd [4] ?_;refine XD.nil ?_;refine xo 3 ?_;refine Zn (Yb rfl underlying157) ?_;refine oo 7 ?_;refine ld ?_;refine ox 8 ?_;refine Zj 60 ?_;refine xx 6 ?_;refine Zj 60 ?_;refine xx 6 ?_;refine Zj 60 ?_;refine xx 5 ?_;refine Zj 60 ?_;refine xx 6 ?_;refine Zj 69 ?_;refine xx 6 ?_;refine Zj 74 ?_;refine xx 6 ?_;refine Zj 81 ?_;refine xx 7 ?_;refine Zj 89 ?_;refine xx 6 ?_;refine Zj 89 ?_;refine xx 6 ?_;refine Zj 89 ?_;refine xx 6 ?_;refine Zj 89 ?_;refine xx 6 ?_;refine Zj 89 ?_;refine xx 6 ?_;refine X.kt 89 ?_;refine xo 5 ?_;refine ldA ?_;refine oo 1 ?_;refine stA ?_;refine ox 1 ?_
   have hD:doS m x pc loc l cells=(((pc+1),loc,l),Ks x 0):=by unfold doS;rw [if_neg (by omega),if_neg (by omega),if_neg (by omega),if_neg (by omega),if_neg (by omega),if_neg (by omega),if_pos (by omega)]
   exact X.ret ⟨rfl,Y6 call76 func52 (Yn (n2:=n2)) (Lv.ret (q':=pto p (.cells [.slice a (l).length c,.pointer (some ⟨pm,0,none⟩),x2,.int .i64 ((pc+1)),.slice la (loc).length lc,x5,.slice cda cells.length cc].toArray 122 (0,0))::lsH I64 2 a c (l)::lsH I64 2 la lc (loc)::q) func52 (rA_ results52) ⟨_,rfl,.inr ⟨by rw [hD];exact (by decide:(5:Int)≠7),by rw [hD];rfl,a,c,by rw [hD]⟩⟩ leA)⟩
 · have hmk:=((Wj (G:=G) hxc).resolve_left (fun h=>absurd h.1 (by omega))).2
   refine oo 5 ?_;refine ld ?_;refine ox 2 ?_;refine Zj 11 ?_;refine xo 8 ?_;refine ld ?_;refine oo 4 ?_;refine st ?_;refine ox 3 ?_;refine X.draw [(4,.pointer (some ⟨n2,0,none⟩))] Tryz.mixed (by kernel_rfl) (by kernel_rfl) rfl ?_
   refine dd [1] ?_;refine ldD 2 ?_;refine Z7 0 call77 (Ya) ?_;refine Wm 3 rfl (Ys rfl rfl underlying158 sizeOf157 isAgg157 (by omega) (by omega) hmk) ?_
   refine dd [4] ?_;refine XD.nil ?_;refine xo 3 ?_;refine Zn (Yb rfl underlying157) ?_;refine oo 7 ?_;refine ld ?_;refine ox 8 ?_;refine Zj 60 ?_;refine xx 6 ?_;refine Zj 60 ?_;refine xx 6 ?_;refine Zj 60 ?_;refine xx 5 ?_;refine Zj 60 ?_;refine xx 6 ?_;refine Zj 69 ?_;refine xx 6 ?_;refine Zj 74 ?_;refine xx 6 ?_;refine Zj 81 ?_;refine xx 7 ?_;refine Zj 89 ?_;refine xx 6 ?_;refine Zj 89 ?_;refine xx 6 ?_;refine Zj 89 ?_;refine xx 6 ?_;refine Zj 89 ?_;refine xx 6 ?_;refine Zj 89 ?_;refine xx 6 ?_;refine Zj 89 ?_;refine xx 6 ?_;refine X.kt 89 ?_;refine xo 5 ?_;refine ldA ?_;refine oo 1 ?_;refine stA ?_;refine ox 1 ?_
   have hD:doS m x pc loc l cells=(((pc+1),loc,l),Ks x 0):=by unfold doS;rw [if_neg (by omega),if_neg (by omega),if_neg (by omega),if_neg (by omega),if_neg (by omega),if_neg (by omega),if_pos (by omega)]
   exact X.ret ⟨rfl,Y6 call76 func52 (Yn (n2:=n2)) (Lv.ret (q':=pto p (.cells [.slice a (l).length c,.pointer (some ⟨pm,0,none⟩),x2,.int .i64 ((pc+1)),.slice la (loc).length lc,x5,.slice cda cells.length cc].toArray 122 (0,0))::lsH I64 2 a c (l)::lsH I64 2 la lc (loc)::q) func52 (rA_ results52) ⟨_,rfl,.inr ⟨by rw [hD];exact (by decide:(5:Int)≠7),by rw [hD];rfl,a,c,by rw [hD]⟩⟩ leA)⟩
 · have hmk:=((Wj (G:=G) hxc).resolve_left (fun h=>absurd h.1 (by omega))).2
   refine oo 5 ?_;refine ld ?_;refine ox 2 ?_;refine Zj 11 ?_;refine xo 8 ?_;refine ld ?_;refine oo 4 ?_;refine st ?_;refine ox 3 ?_;refine X.draw [(4,.pointer (some ⟨n2,0,none⟩))] Tryz.mixed (by kernel_rfl) (by kernel_rfl) rfl ?_
   refine dd [1] ?_;refine ldD 2 ?_;refine Z7 0 call77 (Ya) ?_;refine Wm 3 rfl (Ys rfl rfl underlying158 sizeOf157 isAgg157 (by omega) (by omega) hmk) ?_
   refine dd [4] ?_;refine XD.nil ?_;refine xo 3 ?_;refine Zn (Yb rfl underlying157) ?_;refine oo 7 ?_;refine ld ?_;refine ox 8 ?_;refine Zj 60 ?_;refine xx 6 ?_;refine Zj 60 ?_;refine xx 6 ?_;refine Zj 60 ?_;refine xx 5 ?_;refine Zj 60 ?_;refine xx 6 ?_;refine Zj 69 ?_;refine xx 6 ?_;refine Zj 74 ?_;refine xx 6 ?_;refine Zj 81 ?_;refine xx 7 ?_;refine Zj 89 ?_;refine xx 6 ?_;refine Zj 89 ?_;refine xx 6 ?_;refine Zj 89 ?_;refine xx 6 ?_;refine Zj 89 ?_;refine xx 6 ?_;refine Zj 89 ?_;refine xx 6 ?_;refine Zj 89 ?_;refine xx 6 ?_;refine Zj 89 ?_;refine xx 5 ?_;refine X.kt 89 ?_;refine xo 3 ?_;refine ldA ?_;refine oo 1 ?_;refine stA ?_;refine ox 1 ?_
   have hD:doS m x pc loc l cells=(((pc+1),loc,l),Ks x 0):=by unfold doS;rw [if_neg (by omega),if_neg (by omega),if_neg (by omega),if_neg (by omega),if_neg (by omega),if_neg (by omega),if_pos (by omega)]
   exact X.ret ⟨rfl,Y6 call76 func52 (Yn (n2:=n2)) (Lv.ret (q':=pto p (.cells [.slice a (l).length c,.pointer (some ⟨pm,0,none⟩),x2,.int .i64 ((pc+1)),.slice la (loc).length lc,x5,.slice cda cells.length cc].toArray 122 (0,0))::lsH I64 2 a c (l)::lsH I64 2 la lc (loc)::q) func52 (rA_ results52) ⟨_,rfl,.inr ⟨by rw [hD];exact (by decide:(5:Int)≠7),by rw [hD];rfl,a,c,by rw [hD]⟩⟩ leA)⟩
 have hmk:=((Wj (G:=G) hxc).resolve_left (fun h=>absurd h.1 (by omega))).2
 have hcls:=hx
 refine oo 5 ?_;refine ld ?_;refine ox 2 ?_;refine Zj 11 ?_;refine xo 8 ?_;refine ld ?_;refine oo 4 ?_;refine st ?_;refine ox 3 ?_;refine X.draw [(4,.pointer (some ⟨n2,0,none⟩))] Tryz.mixed (by kernel_rfl) (by kernel_rfl) rfl ?_
 refine dd [1] ?_;refine ldD 2 ?_;refine Z7 0 call77 (Ya) ?_;refine Wm 3 rfl (Ys rfl rfl underlying158 sizeOf157 isAgg157 (by omega) (by omega) hmk) ?_
 refine dd [4] ?_;refine XD.nil ?_;refine xo 3 ?_;refine Zn (Yb rfl underlying157) ?_;refine oo 7 ?_;refine ld ?_;refine ox 8 ?_;refine Zj 60 ?_;refine xx 6 ?_;refine Zj 60 ?_;refine xx 6 ?_;refine Zj 60 ?_;refine xx 5 ?_;refine Zj 60 ?_;refine xx 6 ?_;refine Zj 69 ?_;refine xx 6 ?_;refine Zj 74 ?_;refine xx 6 ?_;refine Zj 81 ?_;refine xx 7 ?_;refine Zj 89 ?_;refine xx 6 ?_;refine Zj 89 ?_;refine xx 6 ?_;refine Zj 89 ?_;refine xx 6 ?_;refine Zj 89 ?_;refine xx 6 ?_;refine Zj 89 ?_;refine xx 6 ?_;refine Zj 89 ?_;refine xx 6 ?_;refine Zj 89 ?_;refine xx 5 ?_;refine Zj 89 ?_;refine xo 6 ?_;refine ldA ?_;refine Zh call81 (Le.pick Zw (Le.pick Zw Zw)) (plain_ok (m:=m) (x:=x) (loc:=loc) (l:=l) (cells:=cells) hS hcls) ?_
 rintro _ _ ⟨a2,c2,rfl⟩
 refine oo 4 ?_;refine stA ?_;refine ox 1 ?_
 have hD:doS m x pc loc l cells=(((Ym x (pc+1) loc l).1,(Ym x (pc+1) loc l).2.1,(Ym x (pc+1) loc l).2.2),Vo):=by unfold doS;rw [if_neg (by omega),if_neg (by omega),if_neg (by omega),if_neg (by omega),if_neg (by omega),if_neg (by omega),if_neg (by omega)]
 exact X.ret ⟨rfl,Y6 call76 func52 (Yn (n2:=n2)) (Lv.ret (q':=pto p (.cells [.slice a2 ((Ym x (pc+1) loc l).2.2).length c2,.pointer (some ⟨pm,0,none⟩),x2,.int .i64 ((Ym x (pc+1) loc l).1),.slice la ((Ym x (pc+1) loc l).2.1).length lc,x5,.slice cda cells.length cc].toArray 122 (0,0))::lsH I64 2 a2 c2 ((Ym x (pc+1) loc l).2.2)::lsH I64 2 la lc ((Ym x (pc+1) loc l).2.1)::q) func52 (rA_ results52) ⟨_,rfl,.inr ⟨by rw [hD];exact (by decide:(1:Int)≠7),by rw [hD];rfl,a2,c2,by rw [hD]⟩⟩ leA)⟩
end
end Go.Proofs.YtgonllbkcgaliaaGreatDoor
