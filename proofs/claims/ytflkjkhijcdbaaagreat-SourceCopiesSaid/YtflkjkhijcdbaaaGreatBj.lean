/- Contracts of functions, proved by walking their code. -/
import Derived.Test.YtflkjkhijcdbaaaGreatBi
import Derived.KernelRfl
set_option maxRecDepth 100000
set_option linter.unusedVariables false
set_option linter.unusedSimpArgs false
namespace Go.Proofs.YtflkjkhijcdbaaaGreat
open Go Go.RowKit Wx Go.Proofs.Tryz
attribute [local irreducible] Wx.lsH Wx.rsH Wx.stars
mutual
def PStm.its:PStm→Int→List (Int×PStm)
 | .mk k ln cl nm wt e ix body els id slot other loc,d=>(d,.mk k ln cl nm wt e ix body els id slot other loc)::(Zi body (d+1)++Zi els (d+1))
def Zi:List PStm→Int→List (Int×PStm)
 | [],_=> []
 |s::r,d=>s.its d++Zi r d
end
theorem Q9: ∀ (l:List PStm) (d:Int),Zi l d=l.flatMap fun s=>s.its d
 | [],_=>rfl
 |s::r,d=>by simp only [Zi,List.flatMap_cons,Q9 r d]
mutual
theorem Jl: ∀ (s:PStm) (d:Int),(∃ r,s.its d=(d,s)::r∧ ∀ x∈r,d<x.1)
 | .mk k ln cl nm wt e ix body els id slot other loc,d=>⟨_,rfl,fun x hx=>by
  rcases List.mem_append.1 hx with hx|hx
  · have:=Jq body (d+1) x hx;omega
  have:=Jq els (d+1) x hx;omega⟩
theorem Jq: ∀ (l:List PStm) (d:Int),∀ x∈Zi l d,d≤x.1
 | [],_,x,hx=>by cases hx
 |s::r,d,x,hx=>by
  rcases List.mem_append.1 hx with hx|hx
  · obtain ⟨t,h1,h2⟩:=Jl s d
    rw [h1] at hx
    rcases List.mem_cons.1 hx with rfl|hx
    · exact Int.le_refl _
    exact Int.le_of_lt (h2 x hx)
  exact Jq r d x hx
end
def Mq (l:List (Int×PStm)):List PStm:=(l.filter fun x=>x.1==1).map (·.2)
theorem R9 (a b:List (Int×PStm)):Mq (a++b)=Mq a++Mq b:=by simp [Mq]
theorem Gm: ∀ l:List PStm,Mq (Zi l 1)=l
 | []=>rfl
 |s::r=>by
  obtain ⟨t,h1,h2⟩:=Jl s 1
  have h3:Mq t= []:=by
   unfold Mq
   rw [List.map_eq_nil_iff,List.filter_eq_nil_iff]
   intro x hx
   have:=h2 x hx
   simp only [beq_iff_eq];omega
  have h4:s.its 1= [(1,s)]++t:=h1
  simp only [Zi]
  rw [R9,h4,R9,h3,Gm r];rfl
theorem Ow {l:List (Int×PStm)}{i:Nat}(h:i<l.length):Mq (l.take (i+1))=Mq (l.take i)++(if l[i].1=1 then [l[i].2] else []):=by
 rw [List.take_succ_eq_append_getElem h,R9]
 congr 1
 unfold Mq
 by_cases hx:l[i].1=1<;>simp [hx]
def itK (l:List PStm)(d:Int)(i:Nat):Nat:=((l.take i).flatMap fun s=>s.its d).length
theorem itK_step {l:List PStm}{d:Int}{i:Nat}(h:i<l.length):itK l d (i+1)=itK l d i+(l[i].its d).length:=Nd _ h
theorem itK_all (l:List PStm)(d:Int):itK l d l.length=(Zi l d).length:=by unfold itK;rw [List.take_length,Q9]
theorem itK_at {l:List PStm}{d:Int}{i n:Nat}(h:i<l.length)(hn:n<(l[i].its d).length):(Zi l d)[itK l d i+n]? =some (l[i].its d)[n]:=by
 rw [Q9];exact Mp _ l i n h hn
def Seg {α:Type}(L:List α)(k:Nat)(m:List α):Prop:= ∀ i,i<m.length→L[k+i]? =m[i]?
theorem Seg.app {α:Type}{L m n:List α}{k:Nat}(h:Seg L k (m++n)):Seg L k m∧Seg L (k+m.length) n:=
 ⟨fun i hi=>by rw [h i (by rw [List.length_append];omega),List.getElem?_append_left hi],fun i hi=>by
  rw [Nat.add_assoc,h (m.length+i) (by rw [List.length_append];omega),List.getElem?_append_right (by omega)];congr 1;omega⟩
theorem Seg.item {L:List (Int×PStm)}{k:Nat}{l:List PStm}{d:Int}{i:Nat}(h:Seg L k (Zi l d))(hi:i<l.length):Seg L (k+itK l d i) (l[i].its d):=fun n hn=>by
 have h1:=itK_at (d:=d) hi hn
 have h2:=(List.getElem?_eq_some_iff.1 h1).1
 rw [Nat.add_assoc,h _ h2,h1,List.getElem?_eq_getElem hn]
theorem Seg.self {α:Type}(L:List α):Seg L 0 L:=fun i _=>by rw [Nat.zero_add]
def ItR (x:Int×PStm)(vs:List Value)(A:HP):Prop:= ∃ s:Stm,s.er=x.2∧vs= [.int .i64 x.1,.agg (stC s).toArray]∧A=stM s
section
variable {G:World}{q:List HP}{a:Option Addr}{c y n:Nat}{l:List Stm}{d:Int}
theorem Nn:CallF prog G 160 [] (q) (Ret fun v q'=> ∃ p m1 m2,v= .pointer (some ⟨p,0,none⟩)∧q'=pto m1 (.map (([]).map Wf).toArray 0)::pto m2 (.map (([]).map Wf).toArray 0)::pto p (.cells [.map (some m1),.map (some m2)].toArray 308 (0,0))::q):=by
 refine CallF.of func160 ntmps160 rfl (fun F cs=> ?_)
 refine xo 6 ?_;refine XO.ef (Ef.makeMap) ?_;rintro _ _ ⟨m1,rfl,rfl⟩
 refine XO.ef (Ef.makeMap) ?_;rintro _ _ ⟨m2,rfl,rfl⟩
 refine oo 1 ?_;refine Y8 fun n1=> ?_
 refine ox 2 ?_;refine Zq (pto m1 (.map (([]).map Wf).toArray 0)::pto m2 (.map (([]).map Wf).toArray 0)::pto n1 (.cells [.map (some m1),.map (some m2)].toArray 308 (0,0))::q) func160 (Zg results160 rfl) ⟨_,rfl,n1,m1,m2,rfl,rfl⟩
def Wlk (G:World)(q:List HP)(y B:Nat)(L:List (Int×PStm))(J:Nat→HP)(Jf:HP→Prop)(N:Nat):Prop:= ∀ {l:List Stm} {a:Option Addr} {c:Nat} {d:Int} {k:Nat},Zh l≤N→Wa B l→(0≤d∧d+N≤2000000)→(Kn q fun M=>BlkAt M a c l)→Seg L k (Zi (Zj l) d)→
 CallF prog G 163 [.slice a l.length c,.int .i64 d,.func (.yield y) #[] #[]] (J k::q) (Ret fun v q'=>(v= .bool true∧q'=J (k+(Zi (Zj l) d).length)::q)∨(v= .bool false∧ ∃ B,Jf B∧q'=B::q))
set_option maxHeartbeats 4000000 in
theorem Ih {B N k:Nat}{L:List (Int×PStm)}{J:Nat→HP}{Jf:HP→Prop}(hy:(∀ i (h:i<L.length) vs A,ItR L[i] vs A→CallV prog G (.func (.yield y) #[] #[]) vs (J i::A::q) (Ret fun v q'=>(v= .bool true∧q'=J (i+1)::q)∨(v= .bool false∧ ∃ B,Jf B∧q'=B::q))))(IH: ∀ n,n<N→Wlk G q y B L J Jf n)(hB:B≤1000000)(hN:N≤1000000)(hs:Zh l≤N)(hb:Wa B l)(hd:0≤d∧d+N≤2000000)(hK:Kn q fun M=>BlkAt M a c l)(hL:Seg L k (Zi (Zj l) d)):CallF prog G 163 [.slice a l.length c,.int .i64 d,.func (.yield y) #[] #[]] (J k::q) (Ret fun v q'=>(v= .bool true∧q'=J (k+(Zi (Zj l) d).length)::q)∨(v= .bool false∧ ∃ B,Jf B∧q'=B::q)):=by
 refine CallF.of func163 ntmps163 rfl (fun F cs=> ?_)
 have hS:=Kn.sees (hK.imp fun M h=>h.1.2.2);have hl:l.length≤N:=Nat.le_trans (Jp l) hs;have hlen:=Zv Z9 l;have hel:=Zn l
 refine xx 12 ?_;refine X.at (X.loop (fun (s:Nat)=>s≤l.length) (fun s=> [(0,.slice a l.length c),(1,.int .i64 d),(2,.func (.yield y) #[] #[]),(9,.int .i64 (l.length:Int)),(10,.int .i64 (s:Int))]) (fun s=>J (k+itK (Zj l) d s)::(q++F)) (fun s=>l.length - s) (fun s hi_ ih=> ?_) 0 (Nat.zero_le _)) Zd leA
 try dsimp only at hi_ ih⊢
 obtain hi:=hi_
 refine xx 5 ?_;refine X.part 11 rfl (fun h0=> ?_) (fun h0=> ?_)
 · replace h0:=sp h0;have hlt:s<l.length:=(by omega)
   have hse:s<(Zj l).length:=(by omega)
   have hxe:(Zj l)[s]=l[s].er:=by simp only [Yn,List.getElem_map]
   have hsg:=hL.item (i:=s) hse;rw [hxe] at hsg;have hst:=itK_step (d:=d) hse;rw [hxe] at hst
   obtain ⟨x,hx⟩: ∃ x,x=l[s]:=⟨_,rfl⟩;have hxs:x.sz≤Zh l:=hx ▸ Uz (List.getElem_mem hlt);have hxb:x.lm B:=hx ▸ Jn hb (List.getElem_mem hlt);rw [←hx] at hsg hst
   refine Yx (hS.le leA) (by rw [hlen];omega) (fun ab ao e_=> ?_);subst e_
   have hKx:Kn q fun M=>StAt M ⟨ab,ao+(s:Int).toNat*25,none⟩ x:=hK.imp fun M h=>by
    obtain ⟨b',o',e1,e2⟩:=SeesZ.row Z9 (by decide) h.1.2.2 hlt
    cases e1
    exact ⟨by rw [hx];exact e2,by rw [hx];exact Vb.1 h.2 _ (List.getElem_mem hlt)⟩
   refine xx 11 ?_;refine drw ?_;refine dd [0,1,3,4,5] ?_;refine Y5 2 call160 (Le.refl _) (Nn) ?_;rintro _ _ ⟨pc,m1,m2,rfl,rfl⟩
   refine ⟨trivial,?_⟩
   refine Y5 6 call187 (Le.pick Zk Zk) ((Fx (m1:=m1) (m2:=m2) hB N hN).1 (s:=x) (es:= []) (by omega) hxb (CellsAt.of Qt) ((hKx.le leA).imp fun M h=>⟨h,fun _ h=>by cases h⟩)) ?_
   rintro _ _ ⟨s2,j1,j2,hs2,rfl,rfl⟩
   refine ⟨trivial,?_⟩
   have hhd:L[k+itK (Zj l) d s]? =some (d,x.er):=by
    obtain ⟨r_,e1,_⟩:=Jl x.er d
    have:=hsg 0 (by rw [e1];exact Nat.succ_pos _)
    rw [e1] at this;exact this
   have hy2:=hy (k+itK (Zj l) d s) (List.getElem?_eq_some_iff.1 hhd).1 [.int .i64 d,.agg (stC s2).toArray] (stM s2) ⟨s2,by rw [(List.getElem?_eq_some_iff.1 hhd).2];exact hs2,by rw [(List.getElem?_eq_some_iff.1 hhd).2],rfl⟩
   refine XD.cV 7 hy2 ?_ (hq:=(Le.pick Zk (Le.pick Zk leA)))
   rintro _ _ (⟨rfl,rfl⟩|⟨rfl,B2,hB2,rfl⟩) _ e_1<;>simp only [ca,na] at e_1<;>subst e_1
   · refine ⟨trivial,?_⟩
     refine J7 8 rfl (Pu.not rfl) ?_;refine XD.nil ?_;refine Wy 21 ?_;obtain ⟨kk,ln,cl,nm,wt,⟨ek,en,enm,esl,elo,eop,el,ea,ec⟩,⟨xk,xn,xnm,xsl,xlo,xop,xl,xa,xc⟩,bd,es2,ba,bc,ea2,ec2,id,sl,ot,lo⟩:=x
     obtain ⟨hb1,hb2,hb3,hb4⟩:=hxb;have hCs:=Kn.stC hKx;have hz:Zh bd+Zh es2+1≤N:=(by simp only [Stm.sz] at hxs;omega)
     have hi1:PStm.its (Stm.er (.mk kk ln cl nm wt (Ex.mk ek en enm esl elo eop el ea ec) (Ex.mk xk xn xnm xsl xlo xop xl xa xc) bd es2 ba bc ea2 ec2 id sl ot lo)) d=(d,Stm.er (.mk kk ln cl nm wt (Ex.mk ek en enm esl elo eop el ea ec) (Ex.mk xk xn xnm xsl xlo xop xl xa xc) bd es2 ba bc ea2 ec2 id sl ot lo))::(Zi (Zj bd) (d+1)++Zi (Zj es2) (d+1)):=by simp only [Stm.er,PStm.its]
     rw [hi1] at hsg hst;rw [List.length_cons,List.length_append] at hst;have hsg2:=(Seg.app (m:= [_]) hsg).2;rw [List.length_singleton] at hsg2;obtain ⟨hsb,hse2⟩:=hsg2.app
     refine xo 8 ?_;refine ld ?_ (hc:=((hCs.le leA) 19 _ rfl))
     refine oo 3 ?_;refine Vz call163 (IH (Zh bd) (by omega) (k:=(k+itK (Zj l) d s+1)) (Nat.le_refl _) hb3 (by omega) (hKx.imp fun M h=>h.2.2.2.1) hsb) ?_
     rintro _ _ (⟨rfl,rfl⟩|⟨rfl,B2,hB2,rfl⟩) _ e_1<;>simp only [ca,na] at e_1<;>subst e_1
     · refine oo 6 ?_;refine ld ?_ (hc:=((hCs.le leA) 20 _ rfl))
       refine oo 3 ?_;refine Vz call163 (IH (Zh es2) (by omega) (k:=(k+itK (Zj l) d s+1+(Zi (Zj bd) (d+1)).length)) (Nat.le_refl _) hb4 (by omega) (hKx.imp fun M h=>⟨h.2.2.2.2.1,h.2.2.2.2.2⟩) hse2) ?_
       rintro _ _ (⟨rfl,rfl⟩|⟨rfl,B2,hB2,rfl⟩) _ e_1<;>simp only [ca,na] at e_1<;>subst e_1
       · refine ox 10 ?_
         rw [show k+itK (Zj l) d s+1+(Zi (Zj bd) (d+1)).length+(Zi (Zj es2) (d+1)).length=k+itK (Zj l) d (s+1) by omega]
         refine X.at (ih (s+1) (by omega) (by omega)) Zd leA
       refine ox 8 ?_;refine Zq (B2::q) func163 (Zg results163 rfl) ⟨_,rfl,.inr ⟨rfl,B2,hB2,rfl⟩⟩
     refine ox 19 ?_;refine Zq (B2::q) func163 (Zg results163 rfl) ⟨_,rfl,.inr ⟨rfl,B2,hB2,rfl⟩⟩
   refine ⟨trivial,?_⟩
   refine J7 8 rfl (Pu.not rfl) ?_;refine XD.nil ?_;refine X.kt 21 ?_;refine xx 5 ?_;refine Zq (B2::q) func163 (Zg results163 rfl) ⟨_,rfl,.inr ⟨rfl,B2,hB2,rfl⟩⟩
 replace h0:=sp h0;obtain rfl:s=l.length:=(by omega)
 rw [show itK (Zj l) d l.length=(Zi (Zj l) d).length by rw [←hel];exact itK_all _ _]
 refine xx 6 ?_;refine Zq (J (k+(Zi (Zj l) d).length)::q) func163 (Zg results163 rfl) ⟨_,rfl,.inl ⟨rfl,rfl⟩⟩
theorem walk_all {B:Nat}{L:List (Int×PStm)}{J:Nat→HP}{Jf:HP→Prop}(hy:(∀ i (h:i<L.length) vs A,ItR L[i] vs A→CallV prog G (.func (.yield y) #[] #[]) vs (J i::A::q) (Ret fun v q'=>(v= .bool true∧q'=J (i+1)::q)∨(v= .bool false∧ ∃ B,Jf B∧q'=B::q))))(hB:B≤1000000)(N:Nat)(hN:N≤1000000):Wlk G q y B L J Jf N:=by
 induction N using Nat.strongRecOn with
 |ind N IH=>exact fun hs hb hd hK hL=>Ih hy (fun n hn=>IH n hn (by omega)) hB hN hs hb hd hK hL
theorem Ir {B nb:Nat}{J:Nat→HP}{Jf:HP→Prop}(hB:B≤1000000)(hs:Zh l≤1000000)(hb:Wa B l)(hK:Kn q fun M=>BlkAt M a c l)(hc:CellsAt q nb 0 [.slice a l.length c])
 (hy: ∀ i (h:i<(Zi (Zj l) 1).length) vs A,ItR (Zi (Zj l) 1)[i] vs A→CallV prog G (.func (.yield y) #[] #[]) vs (J i::A::q) (Ret fun v q'=>(v= .bool true∧q'=J (i+1)::q)∨(v= .bool false∧ ∃ B,Jf B∧q'=B::q))):
 CallF prog G 162 [.func (.yield y) #[] #[],.pointer (some ⟨nb,0,none⟩)] (J 0::q) (Ret fun _ q'=>q'=J (Zi (Zj l) 1).length::q∨ ∃ A,Jf A∧q'=A::q):=by
 refine CallF.of func162 ntmps162 rfl (fun F cs=> ?_)
 refine xo 1 ?_;refine ld ?_ (hc:=((hc.le leA) 0 _ rfl))
 refine oo 1 ?_;refine Vz call163 (walk_all hy hB (Zh l) hs (k:=0) (Nat.le_refl _) hb (by omega) hK (Seg.self _)) ?_
 rintro _ _ h_ _ e_1;subst e_1
 rw [Nat.zero_add] at h_;rcases h_ with ⟨rfl,rfl⟩|⟨rfl,B2,hB2,rfl⟩
 · simp only [ca,na]
   refine ox 1 ?_;refine Z7 (J (Zi (Zj l) 1).length::q) func162 (Vg results162) ⟨_,rfl,.inl rfl⟩
 simp only [ca,na]
 refine ox 1 ?_;refine Z7 (B2::q) func162 (Vg results162) ⟨_,rfl,.inr ⟨B2,hB2,rfl⟩⟩
theorem Au {B nb:Nat}(hB:B≤1000000)(hs:Zh l≤1000000)(hb:Wa B l)(hK:Kn q fun M=>BlkAt M a c l)(hc:CellsAt q nb 0 [.slice a l.length c]):IterR prog G (.func (.func 162) [].toArray [.pointer (some ⟨nb,0,none⟩)].toArray) ItR (Zi (Zj l) 1) q:=
 fun y J Jf hy=>CallV.c11 call162 (Ir (G:=G) (J:=J) (Jf:=Jf) hB hs hb hK hc hy)
set_option maxHeartbeats 1000000 in
theorem Stmts_ok {x0 x1 x2 x4:Int}{x3:ByteArray}{B:Nat}(hB:B≤1000000)(hs:Zh l≤1000000)(hb:Wa B l)(hK:Kn q fun M=>BlkAt M a c l):CallF prog G 124 [.agg [.int .i64 x0,.int .i64 x1,.int .i64 x2,.string x3,.int .i64 x4,.slice a l.length c].toArray] (q) (Ret fun v q'=> ∃ (l':List Stm) (a':Option Addr) (c' nb:Nat),Zj l'=Zj l∧v= .func (.func 162) [].toArray [.pointer (some ⟨nb,0,none⟩)].toArray∧q'=pto nb (.cells [.slice a' l'.length c'].toArray 53 (0,0))::blM a' c' l'::q):=by
 refine CallF.of func124 ntmps124 rfl (fun F cs=> ?_)
 refine xo 2 ?_;refine Y8 fun n1=> ?_
 refine ox 3 ?_;refine drw ?_;refine dl [1] 2 ?_;refine Y3 (fl:= [⟨4,3,fun g=> .pointer (some ⟨g,0,none⟩),fun g=>pto g (.cells [.slice none 0 0].toArray 53 (0,0))⟩]) ?_
 refine B3 0 ⟨⟨_,rfl,rfl,rfl,rfl,rfl,rfl,fun q=>Ef.alloc zeroValue53⟩,trivial⟩ call160 (Le.refl _) (Nn) ?_
 rintro _ _ ⟨pc,m1,m2,rfl,rfl⟩
 refine ⟨hlA,?_⟩
 refine B3 3 ⟨⟨_,rfl,rfl,rfl,rfl,rfl,rfl,fun q=>Ef.alloc zeroValue53⟩,trivial⟩ call161 (Le.pick Zk Zk) ((Fx (m1:=m1) (m2:=m2) hB 1000000 (Nat.le_refl _)).2 (l:=l) (es:= []) hs hb (CellsAt.of Qt) ((hK.le leA).imp fun M h=>⟨h,fun _ h=>by cases h⟩)) ?_
 rintro _ _ ⟨l2,a2,c2,j1,j2,hl2,rfl,rfl⟩
 refine ⟨trivial,?_⟩
 refine Vj (e0:=⟨4,3,fun g=> .pointer (some ⟨g,0,none⟩),fun g=>pto g (.cells [.slice none 0 0].toArray 53 (0,0))⟩) (hnd:=by simp) 4 ⟨⟨_,rfl,rfl,rfl,rfl,rfl,rfl,fun q=>Ef.alloc zeroValue53⟩,trivial⟩ (fun nb=> ?_)
 change XF _ _ _ _ _ _ _ [] _ _ _ ((3,.pointer (some ⟨nb,0,none⟩))::_) _ _ (pto nb (.cells [.slice none 0 0].toArray 53 (0,0))::_)
 refine XF.back ?_;refine stD 5 ?_;refine XD.nil ?_;refine xx 5 ?_;refine Zq (pto nb (.cells [.slice a2 l2.length c2].toArray 53 (0,0))::blM a2 c2 l2::q) func124 (Zg results124 rfl) ⟨_,rfl,l2,a2,c2,nb,hl2,rfl,rfl⟩
end
theorem Nv:(prog.info? 55).map (fun i=>(i.zero,i.size,i.bytes))=some (some (.agg #[.string ⟨#[]⟩,.int .i64 0,.slice none 0 0]),3,48):=by kernel_rfl
theorem Ry:(prog.info? 9).map (fun i=>(i.zero,i.size,i.bytes))=some (some (.string ⟨#[]⟩),1,16):=by kernel_rfl
abbrev zEx:Ex:= .mk 0 0 ⟨#[]⟩ 0 false 0 [] none 0
abbrev zSm:Stm:= .mk 0 0 0 ⟨#[]⟩ ⟨#[]⟩ zEx zEx [] [] none 0 none 0 0 0 0 false
mutual
theorem Dm: ∀ {x y:Ex},x.er=y.er→x.sz=y.sz
 | .mk ..,.mk ..,h=>by
  simp only [Ex.er,PEx.mk.injEq] at h
  simp only [Ex.sz,Eu h.2.2.2.2.2.2]
theorem Eu: ∀ {l m:List Ex},Z3 l=Z3 m→Qn l=Qn m
 | [], [],_=>rfl
 | [],_::_,h=>by simp [Z3] at h
 |_::_, [],h=>by simp [Z3] at h
 |x::l,y::m,h=>by
  simp only [Z3,List.cons.injEq] at h
  simp only [Qn,Dm h.1,Eu h.2]
end
mutual
theorem Oo {B:Nat}: ∀ {x y:Stm},x.er=y.er→y.lm B→x.lm B
 | .mk ..,.mk ..,h,⟨h1,h2,h3,h4⟩=>by
  simp only [Stm.er,PStm.mk.injEq] at h
  obtain ⟨_,_,_,_,_,e1,e2,e3,e4,_⟩:=h
  exact ⟨Dm e1 ▸ h1,Dm e2 ▸ h2,Kt e3 h3,Kt e4 h4⟩
theorem Kt {B:Nat}: ∀ {l m:List Stm},Zj l=Zj m→Wa B m→Wa B l
 | [],_,_,_=>trivial
 |_::_, [],h,_=>by simp [Zj] at h
 |x::l,y::m,h,⟨h1,h2⟩=>by
  simp only [Zj,List.cons.injEq] at h
  exact ⟨Oo h.1 h1,Kt h.2 h2⟩
end
def cbI (B:List PStm)(k nb:Nat):HP:=ex fun x:List Stm×Option Addr×Nat=>stars [pure (Zj x.1=Mq ((Zi B 1).take k)),pto nb (.cells [.slice x.2.1 x.1.length x.2.2].toArray 53 (0,0)),rsH stC 25 126 x.2.1 x.2.2 x.1,stsM x.1]
theorem Pi {B:List PStm}{k nb:Nat}{q r:List HP}(x:List Stm×Option Addr×Nat)(h:Zj x.1=Mq ((Zi B 1).take k))(hle:Le q (pto nb (.cells [.slice x.2.1 x.1.length x.2.2].toArray 53 (0,0))::rsH stC 25 126 x.2.1 x.2.2 x.1::stsM x.1::r)):Le q (cbI B k nb::r):=
 Df x (hle.trans ((Qb h _).trans (by exact Z5 [_,_,_,_] r)))
theorem X.cbI {P:Program}{G:World}{f:Fc}{Q:Yr}{todo:List Item}{p:PE}{ds:List Deferred}{cs:List Frame}{B:List PStm}{k nb:Nat}{q:List HP}
 (x: ∀ (l:List Stm) (a:Option Addr) (c:Nat),Zj l=Mq ((Zi B 1).take k)→X P G f Q todo p ds cs (pto nb (.cells [.slice a l.length c].toArray 53 (0,0))::rsH stC 25 126 a c l::stsM l::q)):X P G f Q todo p ds cs (Go.Proofs.YtflkjkhijcdbaaaGreat.cbI B k nb::q):=
 X.ex (fun s=>X.le (Zs _ _) (X.pure (fun h=>x s.1 s.2.1 s.2.2 h)))
theorem ones_len (l:List (Int×PStm)):(Mq l).length≤l.length:=by unfold Mq;rw [List.length_map];exact List.length_filter_le _ _
mutual
theorem Ct: ∀ (s:Stm) (d:Int),(s.er.its d).length=s.sz
 | .mk _ _ _ _ _ _ _ body els _ _ _ _ _ _ _ _,d=>by simp only [Stm.er,PStm.its,List.length_cons,List.length_append,Stm.sz,Va body,Va els]
theorem Va: ∀ (l:List Stm) (d:Int),(Zi (Zj l) d).length=Zh l
 | [],_=>rfl
 |s::r,d=>by simp only [Zj,Zi,List.length_append,Zh,Ct s,Va r]
end
theorem P0 (a b:List Stm):Zj (a++b)=Zj a++Zj b:=by rw [Yn,Yn,Yn,List.map_append]
section
variable {G:World}{q:List HP}{a:Option Addr}{c:Nat}{l:List Stm}
set_option maxHeartbeats 4000000 in
theorem Ck {B:Nat}(hB:B≤1000000)(hs:Zh l≤1000000)(hb:Wa B l)(hK:Kn q fun M=>BlkAt M a c l):CallF prog G 82 [.slice a l.length c] (q) (Ret fun v q'=> ∃ (l':List Stm) (a':Option Addr) (c':Nat),Zj l'=Zj l∧v= .slice a' l'.length c'∧q'=blM a' c' l'::q):=by
 refine CallF.of func82 ntmps82 rfl (fun F cs=> ?_)
 refine xo 6 ?_;refine XO.al zeroValue53 fun n1=> ?_
 refine oo 6 ?_;refine Zf call124 (Le.refl _) (Stmts_ok (l:=l) hB hs hb (hK.le leA)) ?_
 rintro _ _ ⟨l2,a2,c2,nb,hl2,rfl,rfl⟩
 refine ox 2 ?_
 have hsz2:Zh l2=Zh l:=by rw [←Va l2 0,←Va l 0,hl2]
 refine X.le (q':=pto nb (.cells [.slice a2 l2.length c2].toArray 53 (0,0))::_) leA (X.freeze ?_)
 have hb2:=Kt hl2 hb
 refine X.rangeR (xs:=Zi (Zj l2) 1) [im nb (.cells [.slice a2 l2.length c2].toArray 53 (0,0)),blM a2 c2 l2] (fun k:Nat=> [cbI (Zj l2) k n1]) (fun _ _=>False) (F:=q++F) (Au (B:=B) (by omega) (by omega) hb2 (Kn.blM.there) (CellsAt.of (Has.im _ _ _))) rfl ?_ (by rintro _ _ _ ⟨_,_,rfl,_⟩;rfl) rfl (by rw [func82];rfl) rfl (fun i hi vs A hA l9 rec F0 cs0=> ?_) (fun r=> ?_) (fun _ _ _ hJ=>hJ.elim)
 · simp only [ca,na]
   refine Pi ([],none,0) (by simp [Zj,Mq]) ?_
   exact Le.trans leA (Le.trans (Zl stC 25 126 _) (Le.trans Ki leA))
 · obtain ⟨s2,hs2,rfl,rfl⟩:=hA;obtain ⟨x,hx⟩: ∃ x,x=(Zi (Zj l2) 1)[i]:=⟨_,rfl⟩;rw [←hx] at hs2⊢;have h1s:=Ow hi;rw [←hx] at h1s
   refine X.sub (p':= [(10,_),(9,_),(8,_),(3,_),(2,_)]) ⟨rfl,rfl,rfl,rfl,rfl,trivial⟩ ?_
   simp only [ca,na]
   refine X.le (q':=cbI (Zj l2) i n1::_) Zk (X.cbI (fun l1 a1 c1 h1=> ?_))
   have hl1:l1.length≤1000000:=by have e1:=congrArg List.length h1;rw [Zn] at e1;have e2:=ones_len ((Zi (Zj l2) 1).take i);rw [List.length_take,Va] at e2;omega
   obtain ⟨kk,ln,cl,nm,wt,⟨ek,en,enm,esl,elo,eop,el,ea,ec⟩,⟨xk,xn,xnm,xsl,xlo,xop,xl,xa,xc⟩,bd,es2,ba,bc,ea2,ec2,id,sl,ot,lo⟩:=s2
   refine xo 5 ?_;refine XO.al zeroValue126 fun n2=> ?_
   refine stA ?_;refine ox 1 ?_;refine X.beginRound rfl leA ?_;refine xx 6 ?_;refine X.part 12 rfl (fun h0=> ?_) (fun h0=> ?_)
   · replace h0:=sp h0
     refine xx 1 ?_;refine drw ?_;refine ldD 0 ?_;refine Ji 1 ?_;refine dd [2] ?_;refine XD.ef 3 rfl (Yj (u:=zSm) stC underlying53 V0 rfl rfl Z9 rfl) ?_
     rintro _ _ ⟨g,rfl,rfl⟩
     refine ⟨hlA,?_⟩
     refine XD.ef 4 rfl (Yq (f:=stC) (l:=l1) (m:= [zSm]) underlying53 V0 rfl rfl Z9 rfl rfl Zk ((Sees.rsH _).le Zk) Hl (by simp;omega) (by simp;omega)) ?_
     rintro _ _ ⟨a3,c3,rfl,rfl⟩
     refine ⟨trivial,?_⟩
     refine Cm (l:=l1++ [zSm]) (by simp) (fun g3 e3=> ?_);subst e3
     refine J7 5 rfl (Pu.indexAddr rfl rfl underlying53 sizeOf126 (by omega) (by simp;omega)) ?_
     refine Y3 (fl:= []) (XF.two 6 7 trivial (B7 6 (fun E=>Xq (fl:=stC) (l:=l1++ [zSm]) (u:=(Stm.mk kk ln cl nm wt (Ex.mk ek en enm esl elo eop el ea ec) (Ex.mk xk xn xnm xsl xlo xop xl xa xc) bd es2 ba bc ea2 ec2 id sl ot lo)) (n:=l1.length) (j:=(l1.length:Int)) (g:=g3) (c:=c3) (et:=126) rfl rfl sizeOf126 Z9 rfl (by simp) (Hl _) Zk E) ?_) (B7 7 (fun E=>Ef.stE (b:=n1) (o:=0) (l:= [.slice a1 l1.length c1]) (v:= .slice (some ⟨g3,0,none⟩) (l1++ [zSm]).length c3) (t':=53) sizeOf53 rfl rfl rfl rfl Zk rfl E) ?_))
     focus
      rintro _ _ ⟨rfl,rfl⟩
      refine ⟨trivial,XF.back ?_⟩
      refine stD 7 ?_
     rotate_left
     focus
      rintro _ _ ⟨rfl,rfl⟩
      refine ⟨trivial,XF.back ?_⟩
      refine XD.ef0 6 rfl (Av (a:=none) (fl:=stC) (l:=l1++ [zSm]) (u:=(Stm.mk kk ln cl nm wt (Ex.mk ek en enm esl elo eop el ea ec) (Ex.mk xk xn xnm xsl xlo xop xl xa xc) bd es2 ba bc ea2 ec2 id sl ot lo)) (n:=l1.length) rfl rfl sizeOf126 Z9 rfl (by simp) (Hl _) Zk) ?_
      rintro _ _ ⟨rfl,rfl⟩
      refine ⟨trivial,?_⟩
     all_goals
      refine XD.nil ?_;refine xx 1 ?_
      rw [show (l1++ [zSm]).set l1.length (Stm.mk kk ln cl nm wt (Ex.mk ek en enm esl elo eop el ea ec) (Ex.mk xk xn xnm xsl xlo xop xl xa xc) bd es2 ba bc ea2 ec2 id sl ot lo)=l1++ [(Stm.mk kk ln cl nm wt (Ex.mk ek en enm esl elo eop el ea ec) (Ex.mk xk xn xnm xsl xlo xop xl xa xc) bd es2 ba bc ea2 ec2 id sl ot lo)] by simp]
      refine X.le (q':=stsM (l1++ [(Stm.mk kk ln cl nm wt (Ex.mk ek en enm esl elo eop el ea ec) (Ex.mk xk xn xnm xsl xlo xop xl xa xc) bd es2 ba bc ea2 ec2 id sl ot lo)])::_) (Le.trans (Le.pick Zk Zk) Hc) ?_
      refine X.fall ⟨rfl,rfl,?_⟩
      simp only [ca,na]
      refine Le.pick Zk (Pi (l1++ [(Stm.mk kk ln cl nm wt (Ex.mk ek en enm esl elo eop el ea ec) (Ex.mk xk xn xnm xsl xlo xop xl xa xc) bd es2 ba bc ea2 ec2 id sl ot lo)],some ⟨g3,0,none⟩,c3) (by rw [P0,h1,h1s,if_pos h0,←hs2];rfl) ?_)
      rw [show (l1++ [zSm]).length=(l1++ [(Stm.mk kk ln cl nm wt (Ex.mk ek en enm esl elo eop el ea ec) (Ex.mk xk xn xnm xsl xlo xop xl xa xc) bd es2 ba bc ea2 ec2 id sl ot lo)]).length by simp];exact leA
   replace h0:=sp h0
   refine xx 3 ?_;refine X.fall ⟨rfl,rfl,?_⟩
   simp only [ca,na]
   refine Le.pick Zk (Pi (l1,a1,c1) (by rw [h1,h1s,if_neg h0,List.append_nil]) leA)
 simp only [ca,na]
 refine X.le (q':=cbI (Zj l2) (Zi (Zj l2) 1).length n1::_) Zk (X.cbI (fun l1 a1 c1 h1=> ?_))
 rw [List.take_length,Gm,hl2] at h1
 refine X.le (q':=rsH stC 25 126 a1 c1 l1::stsM l1::_) (Le.pick Zk Zk) ?_
 refine X.frzR (Kn.blk Kn.stsM) (mn:=BlkAt.mono) ?_ (hq:=Le.refl _)
 refine xj 3 ?_;refine ox 2 ?_;exact X.ret ⟨rfl,Db (q':=blM a1 c1 l1::(q++F)) (Lv.ret (q':=blM a1 c1 l1::q) func82 (Zg results82 rfl) ⟨_,rfl,l1,a1,c1,h1,rfl,rfl⟩ leA) (hq:=Le.pick Zk leA)⟩
theorem Qc (x:Th):(thC x).length=3:=rfl
theorem Sj (x:Th):(thC x).all (·.oneCell')=true:=rfl
theorem Kz {l:List ByteArray}(hs:Sees q a (l.map Value.string))(hL:l.length≤1000000000):CallF prog G 83 [.slice a l.length c] (q) (Ret fun v q'=> ∃ a' c',v= .slice a' l.length c'∧q'=lsH Value.string 9 a' c' l::q):=by
 refine CallF.of func83 ntmps83 rfl (fun F cs=> ?_)
 rcases Nat.eq_zero_or_pos l.length with hl0|hl0
 · obtain rfl:=List.eq_nil_of_length_eq_zero hl0
   refine xx 10 ?_;refine X.part 4 rfl (fun h1=> ?_) (fun h1=> ?_)
   · refine xx 5 ?_;refine Zq (lsH Value.string 9 none 0 []::q) func83 (Zg results83 rfl) ⟨_,rfl,none,0,rfl,rfl⟩ ((leA).trans (Ze _ _ _))
   refine xo 4 ?_;refine XO.ef (Jt Value.string underlying25 Ry) ?_;rintro _ _ ⟨g,rfl,rfl⟩
   refine oo 1 ?_;refine XO.ef (Yb (f:=Value.string) (l:= []) (m:= []) underlying25 Ry rfl rfl rfl Zk (hs.le leA) (fun _=>rfl) (by simp;try omega) (by simp;try omega)) ?_
   rintro _ _ ⟨a2,c2,rfl,rfl⟩
   refine ox 2 ?_;refine Zq (lsH Value.string 9 a2 c2 []::q) func83 (Zg results83 rfl) ⟨_,rfl,a2,c2,by simp,rfl⟩
 refine Yx hs (by simp;omega) (fun b1 o1 e_=> ?_);subst e_
 refine xx 10 ?_;refine Wy 4 ?_;refine xo 4 ?_;refine XO.ef (Jt Value.string underlying25 Ry) ?_;rintro _ _ ⟨g,rfl,rfl⟩
 refine oo 1 ?_;refine XO.ef (Yb (f:=Value.string) (l:= []) (m:=l) underlying25 Ry rfl rfl rfl Zk (hs.le leA) (fun _=>rfl) (by simp;try omega) (by simp;try omega)) ?_
 rintro _ _ ⟨a2,c2,rfl,rfl⟩
 refine ox 2 ?_;refine Zq (lsH Value.string 9 a2 c2 l::q) func83 (Zg results83 rfl) ⟨_,rfl,a2,c2,by simp,rfl⟩
theorem Xj {l:List Th}(hs:Sees q a (l.flatMap thC))(hL:l.length≤1000000000):CallF prog G 81 [.slice a l.length c] (q) (Ret fun v q'=> ∃ a' c',v= .slice a' l.length c'∧q'=rsH thC 3 55 a' c' l::q):=by
 refine CallF.of func81 ntmps81 rfl (fun F cs=> ?_)
 rcases Nat.eq_zero_or_pos l.length with hl0|hl0
 · obtain rfl:=List.eq_nil_of_length_eq_zero hl0
   refine xx 10 ?_;refine X.part 4 rfl (fun h1=> ?_) (fun h1=> ?_)
   · refine xx 5 ?_;refine Zq (rsH thC 3 55 none 0 []::q) func81 (Zg results81 rfl) ⟨_,rfl,none,0,rfl,rfl⟩ ((leA).trans (Zl _ _ _ _))
   refine xo 4 ?_;refine XO.ef (Qg thC underlying24 Nv) ?_;rintro _ _ ⟨g,rfl,rfl⟩
   refine oo 1 ?_;refine XO.ef (Yq (f:=thC) (l:= []) (m:= []) underlying24 Nv rfl rfl Qc rfl rfl Zk (hs.le leA) Sj (by simp;try omega) (by simp;try omega)) ?_
   rintro _ _ ⟨a2,c2,rfl,rfl⟩
   refine ox 2 ?_;refine Zq (rsH thC 3 55 a2 c2 []::q) func81 (Zg results81 rfl) ⟨_,rfl,a2,c2,by simp,rfl⟩
 refine Yx hs (by rw [Zv Qc];omega) (fun b1 o1 e_=> ?_);subst e_
 refine xx 10 ?_;refine Wy 4 ?_;refine xo 4 ?_;refine XO.ef (Qg thC underlying24 Nv) ?_;rintro _ _ ⟨g,rfl,rfl⟩
 refine oo 1 ?_;refine XO.ef (Yq (f:=thC) (l:= []) (m:=l) underlying24 Nv rfl rfl Qc rfl rfl Zk (hs.le leA) Sj (by simp;try omega) (by simp;try omega)) ?_
 rintro _ _ ⟨a2,c2,rfl,rfl⟩
 refine ox 2 ?_;refine Zq (rsH thC 3 55 a2 c2 l::q) func81 (Zg results81 rfl) ⟨_,rfl,a2,c2,by simp,rfl⟩
end
theorem thsK {M:Hp}{l:List Th}{x:Th}(h:Ths.At M l)(hx:BlkAt M x.a x.c x.body):Ths.At M (l++ [x]):=fun y hy=>by
 rcases List.mem_append.1 hy with hy|hy
 · exact h y hy
 rw [List.mem_singleton.1 hy];exact hx
theorem Ths.At.mono {l:List Th}{M M':Hp}(e:Hle M M')(h:Ths.At M l):Ths.At M' l:=fun x hx=>(h x hx).mono e
def thsM (l:List Th):HP:=lst (fun M=>Ths.At M l) fun e h=>Ths.At.mono e h
theorem Kn.thsM {q:List HP}{l:List Th}:Kn (thsM l::q) fun M=>Ths.At M l:=Kn.here
structure CpOk (B:Nat) (g:FC):Prop where
 l:g.vars.l.length≤1000000∧g.arrs.l.length≤1000000∧g.chs.l.length≤1000000∧g.ths.l.length≤1000000∧g.nv.l.length≤1000000∧g.na.l.length≤1000000∧g.nm.l.length≤1000000∧g.nc.l.length≤1000000∧g.nh.l.length≤1000000
 b:B≤1000000
 t: ∀ x∈g.ths.l,Zh x.body≤1000000∧Wa B x.body
section
variable {G:World}{q:List HP}{g:FC}
set_option maxHeartbeats 8000000 in
theorem pcopy_ok {B:Nat}(hK:Kn q fun M=>g.At M)(hB:CpOk B g):CallF prog G 45 [.agg (pgC g).toArray] (q) (Ret fun v q'=> ∃ g':FC,g'.er=g.er∧v= .agg (pgC g').toArray∧q'=fcM g'::q):=by
 refine CallF.of func45 ntmps45 rfl (fun F cs=> ?_)
 obtain ⟨b1,b2,b3,b4,b5,b6,b7,b8,b9⟩:=hB.l
 have hV:=(Sv.sees (hK.imp fun M h=>h.vars));have hA:=(Sv.sees (hK.imp fun M h=>h.arrs));have hC:=(Sv.sees (hK.imp fun M h=>h.chs));rw [U3] at hV hA hC
 have hT:=Sv.sees (hK.imp fun M h=>h.ths);have hlen:=Zv Qc g.ths.l
 have h_nv:=Sv.sees (hK.imp fun M h=>h.nv);rw [Vo] at h_nv
 have h_na:=Sv.sees (hK.imp fun M h=>h.na);rw [Vo] at h_na
 have h_nm:=Sv.sees (hK.imp fun M h=>h.nm);rw [Vo] at h_nm
 have h_nc:=Sv.sees (hK.imp fun M h=>h.nc);rw [Vo] at h_nc
 have h_nh:=Sv.sees (hK.imp fun M h=>h.nh);rw [Vo] at h_nh
 refine xo 2 ?_;refine Y8 fun n1=> ?_
 refine XO.al zeroValue29 fun n2=> ?_
 refine oo 3 ?_;refine ldA ?_;refine XO.al zeroValue29 fun n3=> ?_
 refine stA ?_;refine ox 2 ?_;refine drw ?_;refine dl [0] 1 ?_;refine dl [3] 4 ?_;refine dl [6] 7 ?_;refine Y5 2 call50 (Le.refl _) (Uj (l:=g.vars.l) (hV.le leA) (by omega)) ?_
 rintro _ _ ⟨a1,d1,rfl,rfl⟩
 refine ⟨hlA,?_⟩
 refine dd [9] ?_;refine Y5 5 call70 (Le.refl _) (Jw (l:=g.arrs.l) (hA.le leA) (by omega)) ?_
 rintro _ _ ⟨a2,d2,rfl,rfl⟩
 refine ⟨hlA,?_⟩
 refine Y5 8 call70 (Le.refl _) (Jw (l:=g.chs.l) (hC.le leA) (by omega)) ?_
 rintro _ _ ⟨a3,d3,rfl,rfl⟩
 refine ⟨trivial,?_⟩
 refine stD 10 ?_;refine dd [11] ?_;refine stD 12 ?_;refine dd [13] ?_;refine stD 14 ?_;refine XD.nil ?_;refine xj 3 ?_;refine Zf call81 (Le.refl _) (Xj (l:=g.ths.l) (hT.le leA) (by omega)) ?_
 rintro _ _ ⟨a4,d4,rfl,rfl⟩
 refine oo 1 ?_;refine st ?_;refine ol 5 ?_;refine ox 4 ?_;refine X.at (X.loop (fun (s:Nat×List Th)=>s.1≤g.ths.l.length∧s.2.length=s.1∧s.2.map Th.er=(g.ths.l.take s.1).map Th.er) (fun s=> [(2,.pointer (some ⟨n2,0,none⟩)),(3,.pointer (some ⟨n3,0,none⟩)),(1,.pointer (some ⟨n1,0,none⟩)),(25,.slice g.ths.a g.ths.l.length g.ths.c),(26,.int .i64 (g.ths.l.length:Int)),(27,.int .i64 (s.1:Int))]) (fun s=>pto n3 (.cells [.slice a1 g.vars.l.length d1,.slice a2 g.arrs.l.length d2,.int .i64 g.mu,.int .i64 g.co,.slice a3 g.chs.l.length d3,.slice a4 g.ths.l.length d4,.int .i64 g.main,.int .i64 g.stm,g.nv.v,g.na.v,g.nm.v,g.nc.v,g.nh.v].toArray 29 (0,0))::pto n2 (.cells [.slice none 0 0,.slice none 0 0,.int .i64 0,.int .i64 0,.slice none 0 0,.slice none 0 0,.int .i64 0,.int .i64 0,.slice none 0 0,.slice none 0 0,.slice none 0 0,.slice none 0 0,.slice none 0 0].toArray 29 (0,0))::pto n1 (.cells [g.vars.v,g.arrs.v,.int .i64 g.mu,.int .i64 g.co,g.chs.v,g.ths.v,.int .i64 g.main,.int .i64 g.stm,g.nv.v,g.na.v,g.nm.v,g.nc.v,g.nh.v].toArray 29 (0,0))::lsH I64 2 a1 d1 g.vars.l::lsH I64 3 a2 d2 g.arrs.l::lsH I64 3 a3 d3 g.chs.l::rsH thC 3 55 a4 d4 (s.2++g.ths.l.drop s.1)::thsM s.2::(q++F)) (fun s=>g.ths.l.length - s.1) (fun s hi_ ih=> ?_) (0, []) ⟨Nat.zero_le _,rfl,rfl⟩) Zd (Le.trans leA (Le.trans (Kn.add (φ:=fun M=>Ths.At M []) (mn:=fun e h=>Ths.At.mono e h) (fun _ _ _ _ h=>by cases h)) leA))
 try dsimp only at hi_ ih⊢
 obtain ⟨hi1,hi2,hi3⟩:=hi_
 obtain ⟨i,T1⟩:=s;dsimp only at*
 refine xx 5 ?_;refine X.part 28 rfl (fun h0=> ?_) (fun h0=> ?_)
 · replace h0:=sp h0;have hlt:i<g.ths.l.length:=(by omega)
   obtain ⟨y,hy⟩: ∃ y,y=g.ths.l[i]:=⟨_,rfl⟩;have hyb:=hB.t y (hy ▸ List.getElem_mem hlt)
   refine Yx (hT.le leA) (by rw [hlen];omega) (fun ab ao e_=> ?_);rw [e_] at hT;rw [e_]
   refine Yz (l:=T1++g.ths.l.drop i) (by rw [List.length_append,List.length_drop];omega) (fun g4 e4=> ?_);subst e4
   refine xo 8 ?_;refine Q8 (n:=i) isAgg55 sizeOf55 hT hlt ?_
   refine XO.al zeroValue55 fun n4=> ?_
   refine oo 1 ?_;refine stA ?_;refine ox 1 ?_;refine drw ?_;refine dl [0] 1 ?_;refine dl [2,3] 4 ?_;refine XD.know 36 (.slice y.a y.body.length y.c) rfl (by rw [hy]) ?_
   refine Y5 5 call82 (Le.refl _) (Ck (l:=y.body) (a:=y.a) (c:=y.c) hB.b hyb.1 hyb.2 ((hK.le leA).imp fun M h=>h.bod y (hy ▸ List.getElem_mem hlt))) ?_
   rintro _ _ ⟨l2,a2_,c2_,hl2,rfl,rfl⟩
   refine ⟨hlA,?_⟩
   refine dd [6,7] ?_;refine XD.ef0 8 rfl (Ye (g:=g4) (f:=thC) (l:=T1++g.ths.l.drop i) (u:= { y with body:=l2,a:=a2_,c:=c2_ }) (n:=i) (k:=2) (j:=(i:Int)) rfl rfl sizeOf53 Qc rfl (by rw [List.length_append,List.length_drop];omega) rfl (by rw [show (T1++g.ths.l.drop i)[i]'(by rw [List.length_append,List.length_drop];omega)=y by rw [List.getElem_append_right (by omega)];simp [hi2,hy]];rfl) rfl rfl Zk) ?_
   rintro _ _ ⟨rfl,rfl⟩
   refine ⟨trivial,?_⟩
   refine XD.nil ?_;refine xx 5 ?_
   rw [Rb T1 (g.ths.l.drop i) i _ hi2 (by rw [List.length_drop];omega),List.drop_drop]
   refine X.le (q':=thsM (T1++ [{ y with body:=l2,a:=a2_,c:=c2_ }])::_) (Le.trans (Le.pick Zk Zk) (Le.trans (Kn.add (φ:=fun M=>Ths.At M (T1++ [{ y with body:=l2,a:=a2_,c:=c2_ }])) (mn:=fun e h=>Ths.At.mono e h) ((Kn.thsM.and Kn.blM.there).imp fun M h=>thsK h.1 h.2)) (Le.cons _ ((Le.drop _ _).trans (Le.drop _ _))))) ?_
   rw [←e_]
   refine X.at (ih (i+1,T1++ [{ y with body:=l2,a:=a2_,c:=c2_ }]) ⟨by dsimp only;omega,by dsimp only;rw [List.length_append];simp [hi2],by dsimp only;rw [List.take_succ_eq_append_getElem hlt,List.map_append,List.map_append,hi3,←hy];simp only [List.map_cons,List.map_nil,Th.er,hl2]⟩ (by dsimp only;omega)) Zd leA
 replace h0:=sp h0;obtain rfl:i=g.ths.l.length:=(by omega);rw [List.take_length] at hi3;rw [List.drop_length,List.append_nil];clear ih
 refine xo 5 ?_;refine ldA ?_;refine XO.al zeroValue27 fun n4=> ?_
 refine stA ?_;refine ox 2 ?_;refine drw ?_;refine dl [0] 1 ?_;refine dl [3] 4 ?_;refine dl [6] 7 ?_;refine dl [9] 10 ?_;refine dl [12] 13 ?_;refine Y5 2 call83 (Le.refl _) (Kz (l:=g.nv.l) (h_nv.le leA) (by omega)) ?_
 rintro _ _ ⟨a_nv,d_nv,rfl,rfl⟩
 refine ⟨hlA,?_⟩
 refine Y5 5 call83 (Le.refl _) (Kz (l:=g.na.l) (h_na.le leA) (by omega)) ?_
 rintro _ _ ⟨a_na,d_na,rfl,rfl⟩
 refine ⟨hlA,?_⟩
 refine Y5 8 call83 (Le.refl _) (Kz (l:=g.nm.l) (h_nm.le leA) (by omega)) ?_
 rintro _ _ ⟨a_nm,d_nm,rfl,rfl⟩
 refine ⟨hlA,?_⟩
 refine Y5 11 call83 (Le.refl _) (Kz (l:=g.nc.l) (h_nc.le leA) (by omega)) ?_
 rintro _ _ ⟨a_nc,d_nc,rfl,rfl⟩
 refine ⟨hlA,?_⟩
 refine Y5 14 call83 (Le.refl _) (Kz (l:=g.nh.l) (h_nh.le leA) (by omega)) ?_
 rintro _ _ ⟨a_nh,d_nh,rfl,rfl⟩
 refine ⟨trivial,?_⟩
 refine dd [15,16] ?_;refine V1 17 ?_;refine XD.nil ?_;refine xo 2 ?_;refine ldA ?_;refine stA ?_;refine ox 1 ?_;refine Qd U3 (f':=iC) (l:=g.vars.l) (a:=a1) (c:=d1) (fe:=I64) (ty:=2) ?_
 refine Qd U3 (f':=iC) (l:=g.arrs.l) (a:=a2) (c:=d2) (fe:=I64) (ty:=3) ?_
 refine Qd U3 (f':=iC) (l:=g.chs.l) (a:=a3) (c:=d3) (fe:=I64) (ty:=3) ?_
 refine Qd Vo (f':=sC) (l:=g.nv.l) (a:=a_nv) (c:=d_nv) (fe:=Value.string) (ty:=9) ?_
 refine Qd Vo (f':=sC) (l:=g.na.l) (a:=a_na) (c:=d_na) (fe:=Value.string) (ty:=9) ?_
 refine Qd Vo (f':=sC) (l:=g.nm.l) (a:=a_nm) (c:=d_nm) (fe:=Value.string) (ty:=9) ?_
 refine Qd Vo (f':=sC) (l:=g.nc.l) (a:=a_nc) (c:=d_nc) (fe:=Value.string) (ty:=9) ?_
 refine Qd Vo (f':=sC) (l:=g.nh.l) (a:=a_nh) (c:=d_nh) (fe:=Value.string) (ty:=9) ?_
 refine Cp (f:=thC) (sz:=3) (ty:=55) (l:=T1) (a:=a4) (c:=d4) ?_
 obtain ⟨g2,hg2⟩: ∃ g2:FC,g2=(⟨⟨g.vars.l,a1,d1⟩,⟨g.arrs.l,a2,d2⟩,g.mu,g.co,⟨g.chs.l,a3,d3⟩,⟨T1,a4,d4⟩,g.main,g.stm,⟨g.nv.l,a_nv,d_nv⟩,⟨g.na.l,a_na,d_na⟩,⟨g.nm.l,a_nm,d_nm⟩,⟨g.nc.l,a_nc,d_nc⟩,⟨g.nh.l,a_nh,d_nh⟩,g.names,g.cells,g.locals,g.most,g.pl,g.pc,g.flaw⟩:FC):=⟨_,rfl⟩
 have hlen1:T1.length=g.ths.l.length:=by have:=congrArg List.length hi3;simpa using this
 refine X.le (q':=fcM g2::_) (Le.trans (b:=svM thC ⟨T1,a4,d4⟩::svM sC ⟨g.nh.l,a_nh,d_nh⟩::svM sC ⟨g.nc.l,a_nc,d_nc⟩::svM sC ⟨g.nm.l,a_nm,d_nm⟩::svM sC ⟨g.na.l,a_na,d_na⟩::svM sC ⟨g.nv.l,a_nv,d_nv⟩::svM iC ⟨g.chs.l,a3,d3⟩::svM iC ⟨g.arrs.l,a2,d2⟩::svM iC ⟨g.vars.l,a1,d1⟩::thsM T1::_) (Le.pick Zk (Le.pick Zk (Le.pick Zk (Le.pick Zk (Le.pick Zk (Le.pick Zk (Le.pick Zk (Le.pick Zk (Le.pick Zk Zk))))))))) (Kn.add (φ:=fun M=>g2.At M) (mn:=fun e h=>FC.At.mono e h) ?hk_)) ?_
 case hk_=>
  exact ((Kn.here.and (Kn.here.there.and (Kn.here.there.there.and (Kn.here.there.there.there.and (Kn.here.there.there.there.there.and (Kn.here.there.there.there.there.there.and (Kn.here.there.there.there.there.there.there.and (Kn.here.there.there.there.there.there.there.there.and (Kn.here.there.there.there.there.there.there.there.there.and (Kn.thsM.there.there.there.there.there.there.there.there.there.and ((hK.le leA)))))))))))).imp fun M ⟨k0,k1,k2,k3,k4,k5,k6,k7,k8,k9,k10⟩=>by
   rw [hg2];exact ⟨k8,k7,k6,k0,k9,k5,k4,k3,k2,k1,k10.names⟩)
 refine Zq (fcM g2::q) func45 (rA_ results45) ⟨_,rfl,g2,by rw [hg2];simp only [FC.er,hi3],by rw [hg2,←hlen1];rfl,rfl⟩
end
structure Cn where
 v:Int
 a:Int
 mu:Int
 co:Int
 ch:Int
 th:Int
def Fnd.cn (f:Fnd):Cn:=⟨f.vars.length,f.arrs.length,f.mu,f.co,f.chs.length,f.ths.length⟩
def inB (n c:Int):Bool:=decide (0≤n∧n<c)
def V3 (c:Cn)(lo slot:Int)(loc:Bool):Bool:=inB slot (if loc=true then lo else c.v)
def V4 (c:Cn)(lo k n slot:Int)(loc:Bool)(op:Int):Int:=
 if k=1 then (if val n then 0 else -1) else if k=2 then (if V3 c lo slot loc=true then 0 else -1) else if k=3 then (if inB slot c.a=true then 1 else -1)
 else if k=4∨k=5 then 1 else if k=6 then (if 1≤op∧op≤11 then 2 else -1) else -1
mutual
def PEx.ask (c:Cn)(lo:Int):PEx→Int→Bool
 | .mk k n _ slot loc op args,d=>decide (1≤d) && decide ((args.length:Int)=V4 c lo k n slot loc op) && Jj c lo args (d - 1)
def Jj (c:Cn)(lo:Int):List PEx→Int→Bool
 | [],_=>true
 |e::r,d=>e.ask c lo d && Jj c lo r d
end
def Nh (c:Cn)(lo k:Int)(e ix:PEx)(nb ne:Nat):Bool:=
 (decide (k=4∨k=5)|| !decide (0<(nb:Int))) && (k==4|| !decide (0<(ne:Int))) && (k !=3||ix.ask c lo 24) && (!decide ((1≤k∧k≤5)∨k=11∨k=15)||e.ask c lo 24)
def Nx (c:Cn)(lo k slot other:Int)(loc:Bool):Bool:=
 if k=1 then loc && V3 c lo slot loc else if k=2 then V3 c lo slot loc else if k=3 then inB slot c.a else if k=6∨k=7 then inB slot c.mu
 else if k=8 then inB slot c.co && inB other c.mu else if k=9∨k=10 then inB slot c.co else if k=11 then inB slot c.ch else if k=12 then inB slot c.ch && V3 c lo other loc
 else if k=13 then inB slot c.th else decide (k=4∨k=5∨k=14∨k=15)
mutual
/-- Statements by their numbers from n on: the number behind them; none: they may not be. -/
def PStm.ask (c:Cn)(lo:Int):PStm→Int→Int→Option Int
 | .mk k _ _ _ _ e ix body els id slot other loc,d,n=>
  if 24<d∨n=512∨id≠n then none
  else if (Nh c lo k e ix body.length els.length && Nx c lo k slot other loc)=true then
   match Z2 c lo body (d+1) (n+1) with
   |none=>none
   |some m=>Z2 c lo els (d+1) m
  else none
def Z2 (c:Cn)(lo:Int):List PStm→Int→Int→Option Int
 | [],_,n=>some n
 |s::r,d,n=>match s.ask c lo d n with
  |none=>none
  |some m=>Z2 c lo r d m
end
def W3 (c:Cn):List PTh→Int→Option Int
 | [],n=>some n
 |t::r,n=>if t.loc<0∨32<t.loc then none else match Z2 c t.loc t.body 1 n with
  |none=>none
  |some m=>W3 c r m
def E8 (f:Fnd):Bool:=
 decide ((0≤f.mu∧f.mu≤64)∧(0≤f.co∧f.co≤64)∧f.vars.length+f.arrs.length+f.mu+f.co+f.chs.length+f.ths.length≤64∧(∀ v∈f.vars,val v)∧(∀ n∈f.arrs,1≤n∧n≤256)∧(∀ n∈f.chs,1≤n∧n≤16)∧Wv f.arrs≤256)
def Bb (f:Fnd):Bool:=E8 f && inB f.main f.ths.length && (W3 f.cn f.ths 0==some f.stm)
theorem g_th (g:FC):(g.er.ths.length:Int)=g.ths.l.length:=by show ((g.ths.l.map Th.er).length:Int)=_;rw [List.length_map]
theorem Nr (g:FC):g.er.cn.v=g.vars.l.length:=rfl
theorem Ni (g:FC):g.er.cn.a=g.arrs.l.length:=rfl
theorem cn_ch (g:FC):g.er.cn.ch=g.chs.l.length:=rfl
theorem cn_mu (g:FC):g.er.cn.mu=g.mu:=rfl
theorem cn_co (g:FC):g.er.cn.co=g.co:=rfl
theorem cn_th (g:FC):g.er.cn.th=g.ths.l.length:=g_th g
theorem Nl {c:Cn}{lo d:Int}: ∀ {l:List PEx},Jj c lo l d=true↔ ∀ e∈l,e.ask c lo d=true
 | []=>by simp [Jj]
 |e::r=>by simp [Jj,Nl (l:=r)]
section
variable {G:World}{q:List HP}{n c lo d:Int}{bb:Bool}{pa pp b o:Nat}{x1:Value}{g:FC}
set_option maxHeartbeats 2000000 in
theorem Qw: ∀ (N:Nat) {e:Ex} {b o:Nat} {d:Int} {q:List HP},e.sz≤N→N≤1000000→(0≤d∧d≤24)→(Kn q fun M=>ExAt M ⟨b,o,none⟩ e)→CellsAt q pa 0 [.pointer (some ⟨pp,0,none⟩),x1,.int .i64 lo]→CellsAt q pp 0 (pgC g)→CallF prog G 158 [.pointer (some ⟨pa,0,none⟩),.pointer (some ⟨b,o,none⟩),.int .i64 d] (q) (Ret fun v q'=>v= .bool (e.er.ask g.er.cn lo d)∧q'=q):=fun N=>by
 induction N with
 |zero=>intro e b o d q hs;exact absurd hs (by cases e;simp only [Ex.sz];omega)
 |succ N IH=> 
 intro e b o d q hs hN hd hK ha hp
 obtain ⟨ek,en,enm,esl,elo,eop,el,ea,ec⟩:=e
 refine CallF.of func158 ntmps158 rfl (fun F cs=> ?_)
 have hp2:CellsAt q pp 0 [.slice g.vars.a g.vars.l.length g.vars.c,.slice g.arrs.a g.arrs.l.length g.arrs.c,.int .i64 g.mu,.int .i64 g.co,.slice g.chs.a g.chs.l.length g.chs.c,.slice g.ths.a g.ths.l.length g.ths.c,.int .i64 g.main,.int .i64 g.stm]:=fun k v hk=>hp k v (by revert hk;match k with|0|1|2|3|4|5|6|7=>exact fun h=>h|(k+8)=>intro h;cases h)
 have hCe:=Kn.exC hK;have hA:Kn q fun M=>SlAt M ea ec el.length (el.flatMap exC)∧Ex.Ats M el:=hK.imp fun M h=>h.2;have hS:=Kn.sees (hA.imp fun M h=>h.1.2.2)
 have hl:el.length+1≤N+1:=by have:=Nq el;simp only [Ex.sz] at hs;omega
 have hlen:=Zv Z4 el
 obtain ⟨R,hR⟩: ∃ R,R=(Ex.er (Ex.mk ek en enm esl elo eop el ea ec)).ask g.er.cn lo d:=⟨_,rfl⟩;rw [←hR];simp only [Ex.er,PEx.ask,W8] at hR
 refine xx 10 ?_;refine X.part 10 rfl (fun h0=> ?_) (fun h0=> ?_)
 · replace h0:=sp h0
   refine xx 5 ?_;refine Zq (q) func158 (Zg results158 rfl) ⟨_,rfl,congrArg Value.bool (by rw [hR,decide_eq_false (by omega)];rfl),rfl⟩
 replace h0:=sp h0;rw [decide_eq_true (by omega),Bool.true_and] at hR
 refine xo 12 ?_;refine ld ?_ (hc:=((hCe.le leA) 0 _ rfl))
 refine ox 1 ?_;refine X.join (fun (x:Int)=> [(0,.pointer (some ⟨pa,0,none⟩)),(1,.pointer (some ⟨b,o,none⟩)),(2,.int .i64 d),(7,.int .i64 x)]) (fun x=>q++F) (fun x=>V4 g.er.cn lo ek en esl elo eop=x∧(0≤x∧x≤2)) (fun x hx_=> ?_) (fun K=> ?_)
 · obtain ⟨hx1,hx2⟩:=hx_;rw [hx1] at hR
   refine xo 6 ?_;refine ld ?_ (hc:=((hCe.le leA) 6 _ rfl))
   refine ox 4 ?_;refine X.part 81 rfl (fun h1=> ?_) (fun h1=> ?_)
   · replace h1:=sp h1
     refine xx 5 ?_;refine Zq (q) func158 (Zg results158 rfl) ⟨_,rfl,congrArg Value.bool (by rw [hR,decide_eq_false (by omega)];rfl),rfl⟩
   replace h1:=sp h1;rw [decide_eq_true (by omega),Bool.true_and] at hR
   refine xo 8 ?_;refine ld ?_ (hc:=((hCe.le leA) 6 _ rfl))
   refine ox 4 ?_;refine X.at (X.loop (fun (s:Nat)=>s≤el.length∧ ∀ e∈el.take s,e.er.ask g.er.cn lo (d - 1)=true) (fun s=> [(0,.pointer (some ⟨pa,0,none⟩)),(1,.pointer (some ⟨b,o,none⟩)),(2,.int .i64 d),(86,.int .i64 (el.length:Int)),(87,.int .i64 (s:Int))]) (fun s=>q++F) (fun s=>el.length - s) (fun s hi_ ih=> ?_) 0 ⟨Nat.zero_le _,by simp⟩) Zd leA
   try dsimp only at hi_ ih⊢
   obtain ⟨hi1,hi2⟩:=hi_
   refine xx 5 ?_;refine X.part 88 rfl (fun h2=> ?_) (fun h2=> ?_)
   · replace h2:=sp h2;have hlt:s<el.length:=(by omega)
     refine Yx (hS.le leA) (by rw [hlen];omega) (fun ab ao e_=> ?_);subst e_
     have hKx:Kn q fun M=>ExAt M ⟨ab,ao+(s:Int).toNat*7,none⟩ el[s]:=hK.imp fun M h=>by
      obtain ⟨b',o',e1,e2⟩:=SeesZ.row Z4 (by decide) h.2.1.2.2 hlt
      cases e1
      exact ⟨e2,Y4.1 h.2.2 _ (List.getElem_mem hlt)⟩
     have hxs:el[s].sz≤N:=by have:=Vk (List.getElem_mem hlt);simp only [Ex.sz] at hs;omega
     refine xo 15 ?_;refine ld ?_ (hc:=((hCe.le leA) 6 _ rfl))
     refine oo 4 ?_;refine XO.cR call158 (IH (e:=el[s]) (d:=d - 1) hxs (by omega) (by omega) (hKx.le leA) (ha.le leA) (hp.le leA)) ?_
     refine Zt (Pu.not rfl) ?_;refine ox 1 ?_;refine X.part 100 rfl (fun h3=> ?_) (fun h3=> ?_)
     · replace h3:=sp h3
       refine xx 5 ?_;refine Zq (q) func158 (Zg results158 rfl) ⟨_,rfl,congrArg Value.bool (by rw [hR];symm;rw [Bool.eq_false_iff];intro k;exact absurd (Nl.1 k _ (by rw [Yg];exact List.mem_map_of_mem (List.getElem_mem hlt))) (by simpa using h3)),rfl⟩
     replace h3:=sp h3
     refine xx 7 ?_
     refine X.at (ih (s+1) ⟨by omega,fun e he=>by
      rw [List.take_succ_eq_append_getElem hlt] at he
      rcases List.mem_append.1 he with he|he
      · exact hi2 e he
      rw [List.mem_singleton.1 he];simpa using h3⟩ (by omega)) Zd leA
   replace h2:=sp h2;obtain rfl:s=el.length:=(by omega);rw [List.take_length] at hi2
   refine xx 6 ?_;refine Zq (q) func158 (Zg results158 rfl) ⟨_,rfl,congrArg Value.bool (by rw [hR];symm;rw [Nl,Yg];intro e he;obtain ⟨z,hz,rfl⟩:=List.mem_map.1 he;exact hi2 z hz),rfl⟩
 skip
 refine xx 6 ?_;refine X.part 15 rfl (fun g1=> ?_) (fun g1=> ?_)
 · replace g1:=sp g1
   refine xo 6 ?_;refine ld ?_ (hc:=((hCe.le leA) 1 _ rfl))
   refine oo 2 ?_;refine Zm [22,7,6,0,1,2] ?_
   apply Zb 6 28 22 rfl
   · intro g12 M12;have h12:=sp g12
     refine oo 3 ?_;refine ld ?_ (hc:=((hCe.le leA) 1 _ rfl))
     refine oo 2 ?_;exact Zz M12 ⟨orF g12,Zw⟩
   · intro g12 M12;have h12:=sp g12
     refine oo 6 ?_;exact Zz M12 ⟨orT g12,Zw⟩
   refine ox 1 ?_;refine X.part 28 rfl (fun g3=> ?_) (fun g3=> ?_)
   · replace g3:=sp g3
     refine xx 5 ?_;refine Zq (q) func158 (Zg results158 rfl) ⟨_,rfl,congrArg Value.bool (by rw [hR];symm;have hz:V4 g.er.cn lo ek en esl elo eop= -1:=(by unfold V4;unfold V3 inB;rw [Nr,Ni];unfold val;first|(simp_all;done)|(simp_all;omega)|((repeat' split)<;>first|rfl|omega|(exfalso;simp_all;done)|(exfalso;simp_all;omega)));rw [hz,decide_eq_false (by omega)];rfl),rfl⟩
   replace g3:=sp g3
   refine xx 3 ?_;exact X.at (K 0 ⟨by unfold V4;unfold V3 inB;rw [Nr,Ni];unfold val;first|(simp_all;done)|(simp_all;omega)|((repeat' split)<;>first|rfl|omega|(exfalso;simp_all;done)|(exfalso;simp_all;omega)),by omega⟩) Zd leA
 replace g1:=sp g1
 refine xx 6 ?_;refine X.part 29 rfl (fun g2=> ?_) (fun g2=> ?_)
 · replace g2:=sp g2
   refine xx 2 ?_;refine drw ?_;refine dd [0,1,2,3] ?_;refine ldD 4 ?_ (hc:=((hCe.le leA) 3 _ rfl))
   refine dd [5,6,7] ?_;refine ldD 8 ?_ (hc:=((hCe.le leA) 4 _ rfl))
   refine Ym 9 call159 (Ru (ha.le leA) (hp.le leA)) ?_;refine J7 10 rfl (Pu.not rfl) ?_;refine XD.nil ?_;refine X.part 41 rfl (fun g3=> ?_) (fun g3=> ?_)
   · replace g3:=sp g3
     refine xx 5 ?_;refine Zq (q) func158 (Zg results158 rfl) ⟨_,rfl,congrArg Value.bool (by rw [hR];symm;have hz:V4 g.er.cn lo ek en esl elo eop= -1:=(by unfold V4;unfold V3 inB;rw [Nr,Ni];unfold val;first|(simp_all;done)|(simp_all;omega)|((repeat' split)<;>first|rfl|omega|(exfalso;simp_all;done)|(exfalso;simp_all;omega)));rw [hz,decide_eq_false (by omega)];rfl),rfl⟩
   replace g3:=sp g3
   refine xx 3 ?_;exact X.at (K 0 ⟨by unfold V4;unfold V3 inB;rw [Nr,Ni];unfold val;first|(simp_all;done)|(simp_all;omega)|((repeat' split)<;>first|rfl|omega|(exfalso;simp_all;done)|(exfalso;simp_all;omega)),by omega⟩) Zd leA
 replace g2:=sp g2
 refine xx 6 ?_;refine X.part 42 rfl (fun g3=> ?_) (fun g3=> ?_)
 · replace g3:=sp g3
   refine xx 6 ?_;refine drw ?_;refine dd [0,1,2] ?_;refine ldD 3 ?_ (hc:=((hCe.le leA) 3 _ rfl))
   refine dd [4,5,6] ?_;refine ldD 7 ?_ (hc:=((ha.le leA) 0 _ rfl))
   refine dd [8,9] ?_;refine ldD 10 ?_ (hc:=((hp2.le leA) 1 _ rfl))
   refine dd [11] ?_;refine Ym 12 call79 (Jm) ?_ (hL:=(hlA (h:=by repeat first|exact trivial|refine ⟨clA,?_⟩|refine ⟨(ha.le leA) 0 _ rfl,?_⟩|refine ⟨(ha.le leA) 2 _ rfl,?_⟩|refine ⟨(hp2.le leA) 0 _ rfl,?_⟩|refine ⟨(hp2.le leA) 1 _ rfl,?_⟩|refine ⟨(hp2.le leA) 2 _ rfl,?_⟩|refine ⟨(hp2.le leA) 3 _ rfl,?_⟩|refine ⟨(hp2.le leA) 4 _ rfl,?_⟩|refine ⟨(hp2.le leA) 5 _ rfl,?_⟩|refine ⟨(hCe.le leA) 0 _ rfl,?_⟩|refine ⟨(hCe.le leA) 1 _ rfl,?_⟩|refine ⟨(hCe.le leA) 2 _ rfl,?_⟩|refine ⟨(hCe.le leA) 3 _ rfl,?_⟩|refine ⟨(hCe.le leA) 4 _ rfl,?_⟩|refine ⟨(hCe.le leA) 5 _ rfl,?_⟩|refine ⟨(hCe.le leA) 6 _ rfl,?_⟩)))
   refine J7 13 rfl (Pu.not rfl) ?_;refine XD.nil ?_;refine X.part 57 rfl (fun g4=> ?_) (fun g4=> ?_)
   · replace g4:=sp g4
     refine xx 5 ?_;refine Zq (q) func158 (Zg results158 rfl) ⟨_,rfl,congrArg Value.bool (by rw [hR];symm;have hz:V4 g.er.cn lo ek en esl elo eop= -1:=(by unfold V4;unfold V3 inB;rw [Nr,Ni];unfold val;first|(simp_all;done)|(simp_all;omega)|((repeat' split)<;>first|rfl|omega|(exfalso;simp_all;done)|(exfalso;simp_all;omega)));rw [hz,decide_eq_false (by omega)];rfl),rfl⟩
   replace g4:=sp g4
   refine xx 3 ?_;exact X.at (K 1 ⟨by unfold V4;unfold V3 inB;rw [Nr,Ni];unfold val;first|(simp_all;done)|(simp_all;omega)|((repeat' split)<;>first|rfl|omega|(exfalso;simp_all;done)|(exfalso;simp_all;omega)),by omega⟩) Zd leA
 replace g3:=sp g3
 refine xx 7 ?_;refine X.part 58 rfl (fun g4=> ?_) (fun g4=> ?_)
 · replace g4:=sp g4
   refine xx 7 ?_;exact X.at (K 1 ⟨by unfold V4;unfold V3 inB;rw [Nr,Ni];unfold val;first|(simp_all;done)|(simp_all;omega)|((repeat' split)<;>first|rfl|omega|(exfalso;simp_all;done)|(exfalso;simp_all;omega)),by omega⟩) Zd leA
 replace g4:=sp g4
 refine xx 5 ?_;refine X.part 58 rfl (fun g5=> ?_) (fun g5=> ?_)
 · replace g5:=sp g5
   refine xx 5 ?_;exact X.at (K 1 ⟨by unfold V4;unfold V3 inB;rw [Nr,Ni];unfold val;first|(simp_all;done)|(simp_all;omega)|((repeat' split)<;>first|rfl|omega|(exfalso;simp_all;done)|(exfalso;simp_all;omega)),by omega⟩) Zd leA
 replace g5:=sp g5
 refine xx 6 ?_;refine X.part 61 rfl (fun g6=> ?_) (fun g6=> ?_)
 · replace g6:=sp g6
   refine xo 10 ?_;refine ld ?_ (hc:=((hCe.le leA) 5 _ rfl))
   refine oo 2 ?_;refine Zm [68,7,6,0,1,2] ?_
   apply Zb 6 74 68 rfl
   · intro g17 M17;have h17:=sp g17
     refine oo 3 ?_;refine ld ?_ (hc:=((hCe.le leA) 5 _ rfl))
     refine oo 2 ?_;exact Zz M17 ⟨orF g17,Zw⟩
   · intro g17 M17;have h17:=sp g17
     refine oo 6 ?_;exact Zz M17 ⟨orT g17,Zw⟩
   refine ox 1 ?_;refine X.part 74 rfl (fun g8=> ?_) (fun g8=> ?_)
   · replace g8:=sp g8
     refine xx 5 ?_;refine Zq (q) func158 (Zg results158 rfl) ⟨_,rfl,congrArg Value.bool (by rw [hR];symm;have hz:V4 g.er.cn lo ek en esl elo eop= -1:=(by unfold V4;unfold V3 inB;rw [Nr,Ni];unfold val;first|(simp_all;done)|(simp_all;omega)|((repeat' split)<;>first|rfl|omega|(exfalso;simp_all;done)|(exfalso;simp_all;omega)));rw [hz,decide_eq_false (by omega)];rfl),rfl⟩
   replace g8:=sp g8
   refine xx 3 ?_;exact X.at (K 2 ⟨by unfold V4;unfold V3 inB;rw [Nr,Ni];unfold val;first|(simp_all;done)|(simp_all;omega)|((repeat' split)<;>first|rfl|omega|(exfalso;simp_all;done)|(exfalso;simp_all;omega)),by omega⟩) Zd leA
 replace g6:=sp g6
 refine xx 5 ?_;refine Zq (q) func158 (Zg results158 rfl) ⟨_,rfl,congrArg Value.bool (by rw [hR];symm;have hz:V4 g.er.cn lo ek en esl elo eop= -1:=(by unfold V4;unfold V3 inB;rw [Nr,Ni];unfold val;first|(simp_all;done)|(simp_all;omega)|((repeat' split)<;>first|rfl|omega|(exfalso;simp_all;done)|(exfalso;simp_all;omega)));rw [hz,decide_eq_false (by omega)];rfl),rfl⟩
set_option maxHeartbeats 4000000 in
theorem parts_ok {s:Stm}{B:Nat}(hB:B≤1000000)(hb:s.lm B)(hK:Kn q fun M=>StAt M ⟨b,o,none⟩ s)(ha:CellsAt q pa 0 [.pointer (some ⟨pp,0,none⟩),x1,.int .i64 lo])(hp:CellsAt q pp 0 (pgC g)):CallF prog G 122 [.pointer (some ⟨pa,0,none⟩),.pointer (some ⟨b,o,none⟩)] (q) (Ret fun v q'=>v= .bool (match s with| .mk kk _ _ _ _ e ix bd es2 _ _ _ _ _ sl ot lo_=>Nh g.er.cn lo kk e.er ix.er bd.length es2.length)∧q'=q):=by
 refine CallF.of func122 ntmps122 rfl (fun F cs=> ?_)
 have hp2:CellsAt q pp 0 [.slice g.vars.a g.vars.l.length g.vars.c,.slice g.arrs.a g.arrs.l.length g.arrs.c,.int .i64 g.mu,.int .i64 g.co,.slice g.chs.a g.chs.l.length g.chs.c,.slice g.ths.a g.ths.l.length g.ths.c,.int .i64 g.main,.int .i64 g.stm]:=fun k v hk=>hp k v (by revert hk;match k with|0|1|2|3|4|5|6|7=>exact fun h=>h|(k+8)=>intro h;cases h)
 obtain ⟨kk,ln,cl,nm,wt,⟨ek,en,enm,esl,elo,eop,el,ea,ec⟩,⟨xk,xn,xnm,xsl,xlo,xop,xl,xa,xc⟩,bd,es2,ba,bc,ea2,ec2,id,sl,ot,lo_⟩:=s
 obtain ⟨hb1,hb2,hb3,hb4⟩:=hb
 have hCs:=Kn.stC hK;dsimp only
 have hKe:Kn q fun M=>ExAt M ⟨b,o+5,none⟩ (Ex.mk ek en enm esl elo eop el ea ec):=hK.imp fun M h=>Yk (pre:= [.int .i64 kk,.int .i64 ln,.int .i64 cl,.string nm,.string wt]) h.1 rfl h.2.1 rfl
 have hKx:Kn q fun M=>ExAt M ⟨b,o+12,none⟩ (Ex.mk xk xn xnm xsl xlo xop xl xa xc):=hK.imp fun M h=>Yk (pre:= [.int .i64 kk,.int .i64 ln,.int .i64 cl,.string nm,.string wt]++exC (Ex.mk ek en enm esl elo eop el ea ec)) h.1 rfl h.2.2.1 rfl
 obtain ⟨R,hR⟩: ∃ R,R=Nh g.er.cn lo kk (Ex.er (Ex.mk ek en enm esl elo eop el ea ec)) (Ex.er (Ex.mk xk xn xnm xsl xlo xop xl xa xc)) bd.length es2.length:=⟨_,rfl⟩;rw [←hR]
 refine xo 17 ?_;refine ld ?_ (hc:=((hCs.le leA) 0 _ rfl))
 refine ox 8 ?_;refine X.part 13 rfl (fun h1=> ?_) (fun h1=> ?_)
 focus
  replace h1:=sp h1
  refine xo 16 ?_;refine ld ?_ (hc:=((hCs.le leA) 19 _ rfl))
  refine oo 4 ?_;refine Zm [34,6,8,5,4,0,1] ?_
  apply Zb 11 45 34 rfl
  · intro g2 M2;have h2:=sp g2
    refine oo 6 ?_;refine ld ?_ (hc:=((hCs.le leA) 20 _ rfl))
    refine oo 4 ?_;exact Zz M2 ⟨orF g2,Zw⟩
  · intro g2 M2;have h2:=sp g2
    refine oo 11 ?_;exact Zz M2 ⟨orT g2,Zw⟩
  refine ox 1 ?_;refine X.part 45 rfl (fun h2=> ?_) (fun h2=> ?_)
  focus
   replace h2:=sp h2
   refine xx 5 ?_
  rotate_left
  focus
   replace h2:=sp h2
   refine xo 21 ?_;refine XO.cR call158 (Qw B (d:=24) (e:=(Ex.mk ek en enm esl elo eop el ea ec)) hb1 hB (by omega) (hKe.le leA) (ha.le leA) (hp.le leA)) ?_
   refine ox 4 ?_
 rotate_left 2
 focus
  replace h1:=sp h1
  refine xx 6 ?_;refine X.part 13 rfl (fun h2=> ?_) (fun h2=> ?_)
  focus
   replace h2:=sp h2
   refine xo 16 ?_;refine ld ?_ (hc:=((hCs.le leA) 19 _ rfl))
   refine oo 4 ?_;refine Zm [34,6,8,5,4,0,1] ?_
   apply Zb 11 45 34 rfl
   · intro g3 M3;have h3:=sp g3
     refine oo 6 ?_;refine ld ?_ (hc:=((hCs.le leA) 20 _ rfl))
     refine oo 4 ?_;exact Zz M3 ⟨orF g3,Zw⟩
   · intro g3 M3;have h3:=sp g3
     refine oo 11 ?_;exact Zz M3 ⟨orT g3,Zw⟩
   refine ox 1 ?_;refine X.part 45 rfl (fun h3=> ?_) (fun h3=> ?_)
   focus
    replace h3:=sp h3
    refine xx 5 ?_
   rotate_left
   focus
    replace h3:=sp h3
    refine xo 21 ?_;refine XO.cR call158 (Qw B (d:=24) (e:=(Ex.mk ek en enm esl elo eop el ea ec)) hb1 hB (by omega) (hKe.le leA) (ha.le leA) (hp.le leA)) ?_
    refine ox 4 ?_
  rotate_left 2
  focus
   replace h2:=sp h2
   refine xx 6 ?_;refine X.part 13 rfl (fun h3=> ?_) (fun h3=> ?_)
   focus
    replace h3:=sp h3
    refine xo 16 ?_;refine ld ?_ (hc:=((hCs.le leA) 19 _ rfl))
    refine oo 4 ?_;refine Zm [34,6,8,5,4,0,1] ?_
    apply Zb 11 45 34 rfl
    · intro g4 M4;have h4:=sp g4
      refine oo 6 ?_;refine ld ?_ (hc:=((hCs.le leA) 20 _ rfl))
      refine oo 4 ?_;exact Zz M4 ⟨orF g4,Zw⟩
    · intro g4 M4;have h4:=sp g4
      refine oo 11 ?_;exact Zz M4 ⟨orT g4,Zw⟩
    refine ox 1 ?_;refine X.part 45 rfl (fun h4=> ?_) (fun h4=> ?_)
    focus
     replace h4:=sp h4
     refine xx 5 ?_
    rotate_left
    focus
     replace h4:=sp h4
     refine xo 21 ?_;refine XO.cR call158 (Qw B (d:=24) (e:=(Ex.mk ek en enm esl elo eop el ea ec)) hb1 hB (by omega) (hKe.le leA) (ha.le leA) (hp.le leA)) ?_
     refine ox 4 ?_
   rotate_left 2
   focus
    replace h3:=sp h3
    refine xx 5 ?_;refine X.part 13 rfl (fun h4=> ?_) (fun h4=> ?_)
    focus
     replace h4:=sp h4
     refine xo 14 ?_;refine ld ?_ (hc:=((hCs.le leA) 19 _ rfl))
     refine oo 4 ?_;refine Zm [34,6,8,5,4,0,1] ?_
     apply Zb 11 45 34 rfl
     · intro g5 M5;have h5:=sp g5
       refine oo 6 ?_;refine ld ?_ (hc:=((hCs.le leA) 20 _ rfl))
       refine oo 4 ?_;exact Zz M5 ⟨orF g5,Zw⟩
     · intro g5 M5;have h5:=sp g5
       refine oo 11 ?_;exact Zz M5 ⟨orT g5,Zw⟩
     refine ox 1 ?_;refine X.part 45 rfl (fun h5=> ?_) (fun h5=> ?_)
     focus
      replace h5:=sp h5
      refine xx 5 ?_
     rotate_left
     focus
      replace h5:=sp h5
      refine xo 21 ?_;refine XO.cR call158 (Qw B (d:=24) (e:=(Ex.mk ek en enm esl elo eop el ea ec)) hb1 hB (by omega) (hKe.le leA) (ha.le leA) (hp.le leA)) ?_
      refine ox 4 ?_
    rotate_left 2
    focus
     replace h4:=sp h4
     refine xx 6 ?_;refine X.part 18 rfl (fun h5=> ?_) (fun h5=> ?_)
     focus
      replace h5:=sp h5
      refine xo 15 ?_;refine ld ?_ (hc:=((hCs.le leA) 19 _ rfl))
      refine oo 4 ?_;refine Zm [34,6,5,8,4,0,1] ?_
      apply Zb 11 45 34 rfl
      · intro g6 M6;have h6:=sp g6
        refine oo 6 ?_;refine ld ?_ (hc:=((hCs.le leA) 20 _ rfl))
        refine oo 4 ?_;exact Zz M6 ⟨orF g6,Zw⟩
      · intro g6 M6;have h6:=sp g6
        refine oo 11 ?_;exact Zz M6 ⟨orT g6,Zw⟩
      refine ox 1 ?_;refine X.part 45 rfl (fun h6=> ?_) (fun h6=> ?_)
      focus
       replace h6:=sp h6
       refine xx 5 ?_
      rotate_left
      focus
       replace h6:=sp h6
       refine xo 11 ?_;refine XO.cR call158 (Qw B (d:=24) (e:=(Ex.mk xk xn xnm xsl xlo xop xl xa xc)) hb2 hB (by omega) (hKx.le leA) (ha.le leA) (hp.le leA)) ?_
       refine oo 2 ?_;refine Zm [55,6,4,0,1] ?_
       apply Zp 10 65 55 rfl
       · intro g7 M7;have h7:=sp g7
         refine oo 7 ?_;refine XO.cR call158 (Qw B (d:=24) (e:=(Ex.mk ek en enm esl elo eop el ea ec)) hb1 hB (by omega) (hKe.le leA) (ha.le leA) (hp.le leA)) ?_
         refine oo 2 ?_;exact Zz M7 ⟨Wz g7,Zw⟩
       · intro g7 M7;have h7:=sp g7
         refine oo 10 ?_;exact Zz M7 ⟨Wj g7,Zw⟩
       refine ox 2 ?_
     rotate_left 2
     focus
      replace h5:=sp h5
      refine xx 6 ?_;refine X.part 20 rfl (fun h6=> ?_) (fun h6=> ?_)
      focus
       replace h6:=sp h6
       refine xo 54 ?_;refine XO.cR call158 (Qw B (d:=24) (e:=(Ex.mk ek en enm esl elo eop el ea ec)) hb1 hB (by omega) (hKe.le leA) (ha.le leA) (hp.le leA)) ?_
       refine ox 4 ?_
      rotate_left
      focus
       replace h6:=sp h6
       refine xx 6 ?_;refine X.part 22 rfl (fun h7=> ?_) (fun h7=> ?_)
       focus
        replace h7:=sp h7
        refine xo 26 ?_;refine ld ?_ (hc:=((hCs.le leA) 20 _ rfl))
        refine ox 5 ?_;refine X.part 45 rfl (fun h8=> ?_) (fun h8=> ?_)
        focus
         replace h8:=sp h8
         refine xx 5 ?_
        rotate_left
        focus
         replace h8:=sp h8
         refine xo 21 ?_;refine XO.cR call158 (Qw B (d:=24) (e:=(Ex.mk ek en enm esl elo eop el ea ec)) hb1 hB (by omega) (hKe.le leA) (ha.le leA) (hp.le leA)) ?_
         refine ox 4 ?_
       rotate_left 2
       focus
        replace h7:=sp h7
        refine xo 12 ?_;refine ld ?_ (hc:=((hCs.le leA) 19 _ rfl))
        refine oo 4 ?_;refine Zm [34,8,6,5,4,0,1] ?_
        apply Zb 11 45 34 rfl
        · intro g8 M8;have h8:=sp g8
          refine oo 6 ?_;refine ld ?_ (hc:=((hCs.le leA) 20 _ rfl))
          refine oo 4 ?_;exact Zz M8 ⟨orF g8,Zw⟩
        · intro g8 M8;have h8:=sp g8
          refine oo 11 ?_;exact Zz M8 ⟨orT g8,Zw⟩
        refine ox 1 ?_;refine X.part 45 rfl (fun h8=> ?_) (fun h8=> ?_)
        focus
         replace h8:=sp h8
         refine xx 5 ?_
        rotate_left
        focus
         replace h8:=sp h8
         refine xx 26 ?_
 all_goals
  refine Zq (q) func122 (Zg results122 rfl) ⟨_,rfl,congrArg Value.bool (by rw [hR];unfold Nh;first|(simp_all;done)|(rcases Decidable.em (0<(bd.length:Int)) with z1|z1<;>rcases Decidable.em (0<(es2.length:Int)) with z2|z2<;>simp_all;done)|(rcases Decidable.em (0<(bd.length:Int)) with z1|z1<;>rcases Decidable.em (0<(es2.length:Int)) with z2|z2<;>simp_all<;>omega)),rfl⟩
set_option maxHeartbeats 4000000 in
theorem slots_ok {s:Stm}{B:Nat}(hB:B≤1000000)(hb:s.lm B)(hK:Kn q fun M=>StAt M ⟨b,o,none⟩ s)(ha:CellsAt q pa 0 [.pointer (some ⟨pp,0,none⟩),x1,.int .i64 lo])(hp:CellsAt q pp 0 (pgC g)):CallF prog G 123 [.pointer (some ⟨pa,0,none⟩),.pointer (some ⟨b,o,none⟩)] (q) (Ret fun v q'=>v= .bool (match s with| .mk kk _ _ _ _ e ix bd es2 _ _ _ _ _ sl ot lo_=>Nx g.er.cn lo kk sl ot lo_)∧q'=q):=by
 refine CallF.of func123 ntmps123 rfl (fun F cs=> ?_)
 have hp2:CellsAt q pp 0 [.slice g.vars.a g.vars.l.length g.vars.c,.slice g.arrs.a g.arrs.l.length g.arrs.c,.int .i64 g.mu,.int .i64 g.co,.slice g.chs.a g.chs.l.length g.chs.c,.slice g.ths.a g.ths.l.length g.ths.c,.int .i64 g.main,.int .i64 g.stm]:=fun k v hk=>hp k v (by revert hk;match k with|0|1|2|3|4|5|6|7=>exact fun h=>h|(k+8)=>intro h;cases h)
 obtain ⟨kk,ln,cl,nm,wt,⟨ek,en,enm,esl,elo,eop,el,ea,ec⟩,⟨xk,xn,xnm,xsl,xlo,xop,xl,xa,xc⟩,bd,es2,ba,bc,ea2,ec2,id,sl,ot,lo_⟩:=s
 obtain ⟨hb1,hb2,hb3,hb4⟩:=hb
 have hCs:=Kn.stC hK;dsimp only
 have hKe:Kn q fun M=>ExAt M ⟨b,o+5,none⟩ (Ex.mk ek en enm esl elo eop el ea ec):=hK.imp fun M h=>Yk (pre:= [.int .i64 kk,.int .i64 ln,.int .i64 cl,.string nm,.string wt]) h.1 rfl h.2.1 rfl
 have hKx:Kn q fun M=>ExAt M ⟨b,o+12,none⟩ (Ex.mk xk xn xnm xsl xlo xop xl xa xc):=hK.imp fun M h=>Yk (pre:= [.int .i64 kk,.int .i64 ln,.int .i64 cl,.string nm,.string wt]++exC (Ex.mk ek en enm esl elo eop el ea ec)) h.1 rfl h.2.2.1 rfl
 obtain ⟨R,hR⟩: ∃ R,R=Nx g.er.cn lo kk sl ot lo_:=⟨_,rfl⟩;rw [←hR]
 refine xo 9 ?_;refine ld ?_ (hc:=((ha.le leA) 0 _ rfl))
 refine oo 8 ?_;refine ld ?_ (hc:=((hCs.le leA) 0 _ rfl))
 refine ox 7 ?_;refine X.part 14 rfl (fun h1=> ?_) (fun h1=> ?_)
 focus
  replace h1:=sp h1
  refine xx 2 ?_;refine drw ?_;refine dd [0,1,2] ?_;refine ldD 3 ?_ (hc:=((hCs.le leA) 24 _ rfl))
  refine dd [4] ?_;refine B4 [20,4,0,1] ?_
  apply H2 1 [0,1,2,3,4,5,6,7,8,9,10,11,12,13,14,15] 31 20 rfl
  · intro g2 M2;have h2:=sp g2
    refine dd [5,6,7,8] ?_;refine ldD 9 ?_ (hc:=((hCs.le leA) 22 _ rfl))
    refine dd [10,11,12] ?_;refine ldD 13 ?_ (hc:=((hCs.le leA) 24 _ rfl))
    refine Ym 14 call159 (Ru (ha.le leA) (hp.le leA)) ?_ (hL:=(hlA (h:=by repeat first|exact trivial|refine ⟨clA,?_⟩|refine ⟨(ha.le leA) 0 _ rfl,?_⟩|refine ⟨(ha.le leA) 2 _ rfl,?_⟩|refine ⟨(hp2.le leA) 0 _ rfl,?_⟩|refine ⟨(hp2.le leA) 1 _ rfl,?_⟩|refine ⟨(hp2.le leA) 2 _ rfl,?_⟩|refine ⟨(hp2.le leA) 3 _ rfl,?_⟩|refine ⟨(hp2.le leA) 4 _ rfl,?_⟩|refine ⟨(hp2.le leA) 5 _ rfl,?_⟩|refine ⟨(hCs.le leA) 0 _ rfl,?_⟩|refine ⟨(hCs.le leA) 19 _ rfl,?_⟩|refine ⟨(hCs.le leA) 20 _ rfl,?_⟩|refine ⟨(hCs.le leA) 21 _ rfl,?_⟩|refine ⟨(hCs.le leA) 22 _ rfl,?_⟩|refine ⟨(hCs.le leA) 23 _ rfl,?_⟩|refine ⟨(hCs.le leA) 24 _ rfl,?_⟩)))
    refine dd [15] ?_;exact Uc M2 ⟨Wz g2,Zw⟩
  · intro g2 M2;have h2:=sp g2
    refine dd [5,6,7,8,9,10,11,12,13,14,15] ?_;exact Uc M2 ⟨Wj g2,Zw⟩
  intro L_
  refine dd [16] ?_;refine XD.nil ?_
 rotate_left
 focus
  replace h1:=sp h1
  refine xx 6 ?_;refine X.part 32 rfl (fun h2=> ?_) (fun h2=> ?_)
  focus
   replace h2:=sp h2
   refine xx 2 ?_;refine drw ?_;refine dd [0,1,2,3] ?_;refine ldD 4 ?_ (hc:=((hCs.le leA) 22 _ rfl))
   refine dd [5,6,7] ?_;refine ldD 8 ?_ (hc:=((hCs.le leA) 24 _ rfl))
   refine Ym 9 call159 (Ru (ha.le leA) (hp.le leA)) ?_;refine dd [10] ?_;refine XD.nil ?_
  rotate_left
  focus
   replace h2:=sp h2
   refine xx 6 ?_;refine X.part 44 rfl (fun h3=> ?_) (fun h3=> ?_)
   focus
    replace h3:=sp h3
    refine xx 2 ?_;refine drw ?_;refine dd [0,1,2] ?_;refine ldD 3 ?_ (hc:=((hCs.le leA) 22 _ rfl))
    refine dd [4,5,6] ?_;refine ldD 7 ?_ (hc:=((hp2.le leA) 1 _ rfl))
    refine dd [8] ?_;refine Ym 9 call79 (Jm) ?_ (hL:=(hlA (h:=by repeat first|exact trivial|refine ⟨clA,?_⟩|refine ⟨(ha.le leA) 0 _ rfl,?_⟩|refine ⟨(ha.le leA) 2 _ rfl,?_⟩|refine ⟨(hp2.le leA) 0 _ rfl,?_⟩|refine ⟨(hp2.le leA) 1 _ rfl,?_⟩|refine ⟨(hp2.le leA) 2 _ rfl,?_⟩|refine ⟨(hp2.le leA) 3 _ rfl,?_⟩|refine ⟨(hp2.le leA) 4 _ rfl,?_⟩|refine ⟨(hp2.le leA) 5 _ rfl,?_⟩|refine ⟨(hCs.le leA) 0 _ rfl,?_⟩|refine ⟨(hCs.le leA) 19 _ rfl,?_⟩|refine ⟨(hCs.le leA) 20 _ rfl,?_⟩|refine ⟨(hCs.le leA) 21 _ rfl,?_⟩|refine ⟨(hCs.le leA) 22 _ rfl,?_⟩|refine ⟨(hCs.le leA) 23 _ rfl,?_⟩|refine ⟨(hCs.le leA) 24 _ rfl,?_⟩)))
    refine dd [10] ?_;refine XD.nil ?_
   rotate_left
   focus
    replace h3:=sp h3
    refine xx 7 ?_;refine X.part 56 rfl (fun h4=> ?_) (fun h4=> ?_)
    focus
     replace h4:=sp h4
     refine xx 4 ?_;refine drw ?_;refine dd [0,1,2] ?_;refine ldD 3 ?_ (hc:=((hCs.le leA) 22 _ rfl))
     refine dd [4,5,6] ?_;refine ldD 7 ?_ (hc:=((hp2.le leA) 2 _ rfl))
     refine Ym 8 call79 (Jm) ?_;refine dd [9] ?_;refine XD.nil ?_
    rotate_left
    focus
     replace h4:=sp h4
     refine xx 5 ?_;refine X.part 56 rfl (fun h5=> ?_) (fun h5=> ?_)
     focus
      replace h5:=sp h5
      refine xx 2 ?_;refine drw ?_;refine dd [0,1,2] ?_;refine ldD 3 ?_ (hc:=((hCs.le leA) 22 _ rfl))
      refine dd [4,5,6] ?_;refine ldD 7 ?_ (hc:=((hp2.le leA) 2 _ rfl))
      refine Ym 8 call79 (Jm) ?_;refine dd [9] ?_;refine XD.nil ?_
     rotate_left
     focus
      replace h5:=sp h5
      refine xx 6 ?_;refine X.part 68 rfl (fun h6=> ?_) (fun h6=> ?_)
      focus
       replace h6:=sp h6
       refine xx 2 ?_;refine drw ?_;refine dd [0,1,2] ?_;refine ldD 3 ?_ (hc:=((hCs.le leA) 22 _ rfl))
       refine dd [4,5,6] ?_;refine ldD 7 ?_ (hc:=((hp2.le leA) 3 _ rfl))
       refine Ym 8 call79 (Jm) ?_;refine dd [9] ?_;refine B4 [79,5,4,1] ?_
       apply H2 1 [0,1,2,3,4,5,6,7,8,9,10,11,12,13,14,15,16,17,18,19] 89 79 rfl
       · intro g7 M7;have h7:=sp g7
         refine dd [10,11,12] ?_;refine ldD 13 ?_ (hc:=((hCs.le leA) 23 _ rfl))
         refine dd [14,15,16] ?_;refine ldD 17 ?_ (hc:=((hp2.le leA) 2 _ rfl))
         refine Ym 18 call79 (Jm) ?_;refine dd [19] ?_;exact Uc M7 ⟨Wz g7,Zw⟩
       · intro g7 M7;have h7:=sp g7
         refine dd [10,11,12,13,14,15,16,17,18,19] ?_;exact Uc M7 ⟨Wj g7,Zw⟩
       intro L_
       refine dd [20] ?_;refine XD.nil ?_
      rotate_left
      focus
       replace h6:=sp h6
       refine xx 7 ?_;refine X.part 90 rfl (fun h7=> ?_) (fun h7=> ?_)
       focus
        replace h7:=sp h7
        refine xx 4 ?_;refine drw ?_;refine dd [0,1,2] ?_;refine ldD 3 ?_ (hc:=((hCs.le leA) 22 _ rfl))
        refine dd [4,5,6] ?_;refine ldD 7 ?_ (hc:=((hp2.le leA) 3 _ rfl))
        refine Ym 8 call79 (Jm) ?_;refine dd [9] ?_;refine XD.nil ?_
       rotate_left
       focus
        replace h7:=sp h7
        refine xx 5 ?_;refine X.part 90 rfl (fun h8=> ?_) (fun h8=> ?_)
        focus
         replace h8:=sp h8
         refine xx 2 ?_;refine drw ?_;refine dd [0,1,2] ?_;refine ldD 3 ?_ (hc:=((hCs.le leA) 22 _ rfl))
         refine dd [4,5,6] ?_;refine ldD 7 ?_ (hc:=((hp2.le leA) 3 _ rfl))
         refine Ym 8 call79 (Jm) ?_;refine dd [9] ?_;refine XD.nil ?_
        rotate_left
        focus
         replace h8:=sp h8
         refine xx 6 ?_;refine X.part 102 rfl (fun h9=> ?_) (fun h9=> ?_)
         focus
          replace h9:=sp h9
          refine xx 2 ?_;refine drw ?_;refine dd [0,1,2] ?_;refine ldD 3 ?_ (hc:=((hCs.le leA) 22 _ rfl))
          refine dd [4,5,6] ?_;refine ldD 7 ?_ (hc:=((hp2.le leA) 4 _ rfl))
          refine dd [8] ?_;refine Ym 9 call79 (Jm) ?_ (hL:=(hlA (h:=by repeat first|exact trivial|refine ⟨clA,?_⟩|refine ⟨(ha.le leA) 0 _ rfl,?_⟩|refine ⟨(ha.le leA) 2 _ rfl,?_⟩|refine ⟨(hp2.le leA) 0 _ rfl,?_⟩|refine ⟨(hp2.le leA) 1 _ rfl,?_⟩|refine ⟨(hp2.le leA) 2 _ rfl,?_⟩|refine ⟨(hp2.le leA) 3 _ rfl,?_⟩|refine ⟨(hp2.le leA) 4 _ rfl,?_⟩|refine ⟨(hp2.le leA) 5 _ rfl,?_⟩|refine ⟨(hCs.le leA) 0 _ rfl,?_⟩|refine ⟨(hCs.le leA) 19 _ rfl,?_⟩|refine ⟨(hCs.le leA) 20 _ rfl,?_⟩|refine ⟨(hCs.le leA) 21 _ rfl,?_⟩|refine ⟨(hCs.le leA) 22 _ rfl,?_⟩|refine ⟨(hCs.le leA) 23 _ rfl,?_⟩|refine ⟨(hCs.le leA) 24 _ rfl,?_⟩)))
          refine dd [10] ?_;refine XD.nil ?_
         rotate_left
         focus
          replace h9:=sp h9
          refine xx 6 ?_;refine X.part 114 rfl (fun h10=> ?_) (fun h10=> ?_)
          focus
           replace h10:=sp h10
           refine xx 2 ?_;refine drw ?_;refine dd [0,1,2] ?_;refine ldD 3 ?_ (hc:=((hCs.le leA) 22 _ rfl))
           refine dd [4,5,6] ?_;refine ldD 7 ?_ (hc:=((hp2.le leA) 4 _ rfl))
           refine dd [8] ?_;refine Ym 9 call79 (Jm) ?_ (hL:=(hlA (h:=by repeat first|exact trivial|refine ⟨clA,?_⟩|refine ⟨(ha.le leA) 0 _ rfl,?_⟩|refine ⟨(ha.le leA) 2 _ rfl,?_⟩|refine ⟨(hp2.le leA) 0 _ rfl,?_⟩|refine ⟨(hp2.le leA) 1 _ rfl,?_⟩|refine ⟨(hp2.le leA) 2 _ rfl,?_⟩|refine ⟨(hp2.le leA) 3 _ rfl,?_⟩|refine ⟨(hp2.le leA) 4 _ rfl,?_⟩|refine ⟨(hp2.le leA) 5 _ rfl,?_⟩|refine ⟨(hCs.le leA) 0 _ rfl,?_⟩|refine ⟨(hCs.le leA) 19 _ rfl,?_⟩|refine ⟨(hCs.le leA) 20 _ rfl,?_⟩|refine ⟨(hCs.le leA) 21 _ rfl,?_⟩|refine ⟨(hCs.le leA) 22 _ rfl,?_⟩|refine ⟨(hCs.le leA) 23 _ rfl,?_⟩|refine ⟨(hCs.le leA) 24 _ rfl,?_⟩)))
           refine dd [10] ?_;refine B4 [126,4,0,1] ?_
           apply H2 1 [0,1,2,3,4,5,6,7,8,9,10,11,12,13,14,15,16,17,18,19,20,21] 137 126 rfl
           · intro g11 M11;have h11:=sp g11
             refine dd [11,12,13,14] ?_;refine ldD 15 ?_ (hc:=((hCs.le leA) 23 _ rfl))
             refine dd [16,17,18] ?_;refine ldD 19 ?_ (hc:=((hCs.le leA) 24 _ rfl))
             refine Ym 20 call159 (Ru (ha.le leA) (hp.le leA)) ?_ (hL:=(hlA (h:=by repeat first|exact trivial|refine ⟨clA,?_⟩|refine ⟨(ha.le leA) 0 _ rfl,?_⟩|refine ⟨(ha.le leA) 2 _ rfl,?_⟩|refine ⟨(hp2.le leA) 0 _ rfl,?_⟩|refine ⟨(hp2.le leA) 1 _ rfl,?_⟩|refine ⟨(hp2.le leA) 2 _ rfl,?_⟩|refine ⟨(hp2.le leA) 3 _ rfl,?_⟩|refine ⟨(hp2.le leA) 4 _ rfl,?_⟩|refine ⟨(hp2.le leA) 5 _ rfl,?_⟩|refine ⟨(hCs.le leA) 0 _ rfl,?_⟩|refine ⟨(hCs.le leA) 19 _ rfl,?_⟩|refine ⟨(hCs.le leA) 20 _ rfl,?_⟩|refine ⟨(hCs.le leA) 21 _ rfl,?_⟩|refine ⟨(hCs.le leA) 22 _ rfl,?_⟩|refine ⟨(hCs.le leA) 23 _ rfl,?_⟩|refine ⟨(hCs.le leA) 24 _ rfl,?_⟩)))
             refine dd [21] ?_;exact Uc M11 ⟨Wz g11,Zw⟩
           · intro g11 M11;have h11:=sp g11
             refine dd [11,12,13,14,15,16,17,18,19,20,21] ?_;exact Uc M11 ⟨Wj g11,Zw⟩
           intro L_
           refine dd [22] ?_;refine XD.nil ?_
          rotate_left
          focus
           replace h10:=sp h10
           refine xx 6 ?_;refine X.part 138 rfl (fun h11=> ?_) (fun h11=> ?_)
           focus
            replace h11:=sp h11
            refine xx 2 ?_;refine drw ?_;refine dd [0,1,2] ?_;refine ldD 3 ?_ (hc:=((hCs.le leA) 22 _ rfl))
            refine dd [4,5,6] ?_;refine ldD 7 ?_ (hc:=((hp2.le leA) 5 _ rfl))
            refine dd [8] ?_;refine Ym 9 call79 (Jm) ?_ (hL:=(hlA (h:=by repeat first|exact trivial|refine ⟨clA,?_⟩|refine ⟨(ha.le leA) 0 _ rfl,?_⟩|refine ⟨(ha.le leA) 2 _ rfl,?_⟩|refine ⟨(hp2.le leA) 0 _ rfl,?_⟩|refine ⟨(hp2.le leA) 1 _ rfl,?_⟩|refine ⟨(hp2.le leA) 2 _ rfl,?_⟩|refine ⟨(hp2.le leA) 3 _ rfl,?_⟩|refine ⟨(hp2.le leA) 4 _ rfl,?_⟩|refine ⟨(hp2.le leA) 5 _ rfl,?_⟩|refine ⟨(hCs.le leA) 0 _ rfl,?_⟩|refine ⟨(hCs.le leA) 19 _ rfl,?_⟩|refine ⟨(hCs.le leA) 20 _ rfl,?_⟩|refine ⟨(hCs.le leA) 21 _ rfl,?_⟩|refine ⟨(hCs.le leA) 22 _ rfl,?_⟩|refine ⟨(hCs.le leA) 23 _ rfl,?_⟩|refine ⟨(hCs.le leA) 24 _ rfl,?_⟩)))
            refine dd [10] ?_;refine XD.nil ?_
           rotate_left
           focus
            replace h11:=sp h11
            refine xx 7 ?_;refine X.part 150 rfl (fun h12=> ?_) (fun h12=> ?_)
            focus
             replace h12:=sp h12
             refine xx 7 ?_
            rotate_left
            focus
             replace h12:=sp h12
             refine xx 6 ?_;refine X.part 150 rfl (fun h13=> ?_) (fun h13=> ?_)
             focus
              replace h13:=sp h13
              refine xx 7 ?_
             rotate_left
             focus
              replace h13:=sp h13
              refine xx 6 ?_;refine X.part 150 rfl (fun h14=> ?_) (fun h14=> ?_)
              focus
               replace h14:=sp h14
               refine xx 7 ?_
              rotate_left
              focus
               replace h14:=sp h14
               refine xx 5 ?_;refine X.part 150 rfl (fun h15=> ?_) (fun h15=> ?_)
               focus
                replace h15:=sp h15
                refine xx 5 ?_
               rotate_left
               focus
                replace h15:=sp h15
                refine xx 7 ?_
 all_goals
  refine Zq (q) func123 (Zg results123 rfl) ⟨_,rfl,congrArg Value.bool (by rw [hR];unfold Nx;unfold V3 inB;rw [Nr,Ni,cn_ch,cn_mu,cn_co,cn_th];first|(simp_all;done)|(simp_all;omega)|(simp_all<;>omega)),rfl⟩
end
mutual
theorem C3 {c:Cn}{lo:Int}: ∀ {s:PStm} {d n m:Int},n≤512→s.ask c lo d n=some m→n≤m∧m≤512
 | .mk ..,d,n,m,hn,h=>by
  simp only [PStm.ask] at h
  split at h
  · cases h
  rename_i h0
  split at h
  · split at h
    · cases h
    rename_i k hk
    have h1:=Vs (by omega) hk
    have h2:=Vs h1.2 h
    omega
  cases h
theorem Vs {c:Cn}{lo:Int}: ∀ {l:List PStm} {d n m:Int},n≤512→Z2 c lo l d n=some m→n≤m∧m≤512
 | [],d,n,m,hn,h=>by simp only [Z2] at h;cases h;omega
 |s::r,d,n,m,hn,h=>by
  simp only [Z2] at h
  split at h
  · cases h
  rename_i k hk
  have h1:=C3 hn hk
  have h2:=Vs h1.2 h
  omega
end
theorem Dv {c:Cn}{lo:Int}(s:PStm)(r:List PStm)(d n:Int):Z2 c lo (s::r) d n=match s.ask c lo d n with|none=>none|some m=>Z2 c lo r d m:=by simp only [Z2]<;>rfl
theorem Ff {l:List Stm}{i:Nat}(h:i<l.length):Zj (l.drop i)=l[i].er::Zj (l.drop (i+1)):=by rw [List.drop_eq_getElem_cons h];rfl
section
variable {G:World}{q:List HP}{n lo d:Int}{pa pp b o N B:Nat}{g:FC}{a:Option Addr}{c:Nat}{l:List Stm}
def AskB (G:World)(B pa pp:Nat)(g:FC)(lo:Int)(N:Nat):Prop:= ∀ {l:List Stm} {a:Option Addr} {c:Nat} {d n:Int} {q:List HP},Zh l≤N→Wa B l→(1≤d∧d≤25)→(0≤n∧n≤512)→CellsAt q pp 0 (pgC g)→(Kn q fun M=>BlkAt M a c l)→
 CallF prog G 80 [.pointer (some ⟨pa,0,none⟩),.slice a l.length c,.int .i64 d] (pto pa (.cells [.pointer (some ⟨pp,0,none⟩),.int .i64 n,.int .i64 lo].toArray 168 (0,0))::q) (Ret fun v q'=> ∃ n',v= .bool (Z2 g.er.cn lo (Zj l) d n).isSome∧(∀ m,Z2 g.er.cn lo (Zj l) d n=some m→n'=m)∧q'=pto pa (.cells [.pointer (some ⟨pp,0,none⟩),.int .i64 n',.int .i64 lo].toArray 168 (0,0))::q)
set_option maxHeartbeats 4000000 in
theorem ask_step (IH: ∀ N_,N_<N→AskB G B pa pp g lo N_)(hB:B≤1000000)(hN:N≤1000000)(hs:Zh l≤N)(hb:Wa B l)(hd:1≤d∧d≤25)(hn:0≤n∧n≤512)(hp:CellsAt q pp 0 (pgC g))(hK:Kn q fun M=>BlkAt M a c l):CallF prog G 80 [.pointer (some ⟨pa,0,none⟩),.slice a l.length c,.int .i64 d] (pto pa (.cells [.pointer (some ⟨pp,0,none⟩),.int .i64 n,.int .i64 lo].toArray 168 (0,0))::q) (Ret fun v q'=> ∃ n',v= .bool (Z2 g.er.cn lo (Zj l) d n).isSome∧(∀ m,Z2 g.er.cn lo (Zj l) d n=some m→n'=m)∧q'=pto pa (.cells [.pointer (some ⟨pp,0,none⟩),.int .i64 n',.int .i64 lo].toArray 168 (0,0))::q):=by
 refine CallF.of func80 ntmps80 rfl (fun F cs=> ?_)
 have hS:=Kn.sees (hK.imp fun M h=>h.1.2.2);have hl:l.length≤N:=Nat.le_trans (Jp l) hs;have hlen:=Zv Z9 l
 obtain ⟨R,hR⟩: ∃ R,R=Z2 g.er.cn lo (Zj l) d n:=⟨_,rfl⟩;rw [←hR]
 refine xx 12 ?_;refine X.at (X.loop (fun (s:Nat×Int)=>s.1≤l.length∧R=Z2 g.er.cn lo (Zj (l.drop s.1)) d s.2∧0≤s.2∧s.2≤512) (fun s=> [(0,.pointer (some ⟨pa,0,none⟩)),(1,.slice a l.length c),(2,.int .i64 d),(10,.int .i64 (l.length:Int)),(11,.int .i64 (s.1:Int))]) (fun s=>pto pa (.cells [.pointer (some ⟨pp,0,none⟩),.int .i64 s.2,.int .i64 lo].toArray 168 (0,0))::(q++F)) (fun s=>l.length - s.1) (fun s hi_ ih=> ?_) (0,n) ⟨Nat.zero_le _,by rw [hR,List.drop_zero],hn⟩) Zd leA
 try dsimp only at hi_ ih⊢
 obtain ⟨hi1,hi2,hi3⟩:=hi_
 obtain ⟨i,n1⟩:=s;dsimp only at*
 refine xx 5 ?_;refine X.part 12 rfl (fun h0=> ?_) (fun h0=> ?_)
 · replace h0:=sp h0;have hlt:i<l.length:=(by omega)
   rw [Ff hlt,Dv] at hi2
   obtain ⟨x,hx⟩: ∃ x,x=l[i]:=⟨_,rfl⟩;have hxs:x.sz≤Zh l:=hx ▸ Uz (List.getElem_mem hlt);have hxb:x.lm B:=hx ▸ Jn hb (List.getElem_mem hlt);rw [←hx] at hi2
   refine Yx (hS.le leA) (by rw [hlen];omega) (fun ab ao e_=> ?_);rw [e_]
   have hKx:Kn q fun M=>StAt M ⟨ab,ao+(i:Int).toNat*25,none⟩ x:=hK.imp fun M h=>by
    obtain ⟨b',o',e1,e2⟩:=SeesZ.row Z9 (by decide) h.1.2.2 hlt
    rw [e_] at e1;cases e1
    exact ⟨by rw [hx];exact e2,by rw [hx];exact Vb.1 h.2 _ (List.getElem_mem hlt)⟩
   obtain ⟨kk,ln,cl,nm,wt,⟨ek,en,enm,esl,elo,eop,el,ea,ec⟩,⟨xk,xn,xnm,xsl,xlo,xop,xl,xa,xc⟩,bd,es2,ba,bc,ea2,ec2,id,sl,ot,lo_⟩:=x;have hxb0:=hxb;obtain ⟨hb1,hb2,hb3,hb4⟩:=hxb;have hCs:=Kn.stC hKx;have hz:Zh bd+Zh es2+1≤N:=(by simp only [Stm.sz] at hxs;omega)
   simp only [Stm.er,PStm.ask,Zn] at hi2
   refine xx 18 ?_;refine drw ?_;refine dd [0,1,2] ?_;refine B4 [19,8,0,1,2,10,11] ?_
   apply B5 11 [0,1,2,3,4,5,6,7,8] 25 19 rfl
   · intro g11 M11;have h11:=sp g11
     refine dl [3,4,5] 6 ?_;refine dd [7,8] ?_;exact Uc M11 ⟨orF g11,Zw⟩
   · intro g11 M11;have h11:=sp g11
     refine dd [3,4,5,6,7,8] ?_;exact Uc M11 ⟨orT g11,Zw⟩
   intro L_
   refine dd [9] ?_;refine B4 [26,8,0,1,2,10,11] ?_
   apply B5 0 [0,1,2,3,4,5,6,7,8,9,10,11,12,13,14,15,16,17,18,19] 36 26 rfl
   · intro g12 M12;have h12:=sp g12
     refine dd [10,11,12] ?_;refine ldD 13 ?_ (hc:=((hCs.le leA) 21 _ rfl))
     refine dl [14,15,16] 17 ?_;refine dd [18,19] ?_;exact Uc M12 ⟨orF g12,Zw⟩
   · intro g12 M12;have h12:=sp g12
     refine dd [10,11,12,13,14,15,16,17,18,19] ?_;exact Uc M12 ⟨orT g12,Zw⟩
   intro L_
   refine XD.nil ?_;refine X.part 36 rfl (fun g3=> ?_) (fun g3=> ?_)
   · replace g3:=sp g3
     have hc0:24<d∨n1=512∨id≠n1:=(by first|omega|(simp at g3;omega))
     rw [if_pos hc0] at hi2;dsimp only at hi2
     refine xx 5 ?_;refine Zq (pto pa (.cells [.pointer (some ⟨pp,0,none⟩),.int .i64 n1,.int .i64 lo].toArray 168 (0,0))::q) func80 (Zg results80 rfl) ⟨_,rfl,_,(by rw [hi2];rfl),(by rw [hi2];intro m h;cases h),rfl⟩
   replace g3:=sp g3
   have hc0: ¬ (24<d∨n1=512∨id≠n1):=(by first|omega|(simp at g3;omega))
   rw [if_neg hc0] at hi2;have hd9: ¬24<d∧ ¬n1=512:=⟨fun k=>hc0 (.inl k),fun k=>hc0 (.inr (.inl k))⟩
   refine xj 7 ?_;refine oo 3 ?_;refine st ?_;refine oo 6 ?_;refine XO.cR call122 (parts_ok hB hxb0 (hKx.le leA) (CellsAt.of Qt) (hp.le leA)) ?_;refine Zt (Pu.not rfl) ?_;refine oo 1 ?_;refine Zm [48,8,0,1,2,10,11] ?_
   apply Zb 5 53 48 rfl
   · intro g14 M14;have h14:=sp g14
     refine oo 2 ?_;refine XO.cR call123 (slots_ok hB hxb0 (hKx.le leA) (CellsAt.of Qt) (hp.le leA)) ?_;refine Zt (Pu.not rfl) ?_;refine oo 1 ?_;exact Zz M14 ⟨orF g14,Zw⟩
   · intro g14 M14;have h14:=sp g14
     refine oo 5 ?_;exact Zz M14 ⟨orT g14,Zw⟩
   refine ox 1 ?_;refine X.part 53 rfl (fun g5=> ?_) (fun g5=> ?_)
   · replace g5:=sp g5
     rw [if_neg (by intro k;rw [Bool.and_eq_true] at k;revert g5;simp [k.1,k.2])] at hi2;dsimp only at hi2
     refine xx 5 ?_;refine Zq (pto pa (.cells [.pointer (some ⟨pp,0,none⟩),.int .i64 (n1+1),.int .i64 lo].toArray 168 (0,0))::q) func80 (Zg results80 rfl) ⟨_,rfl,_,(by rw [hi2];rfl),(by rw [hi2];intro m h;cases h),rfl⟩
   replace g5:=sp g5
   rw [if_pos (by rw [Bool.and_eq_true];simpa using g5)] at hi2
   refine xo 8 ?_;refine ld ?_ (hc:=((hCs.le leA) 19 _ rfl))
   refine oo 2 ?_;refine Zf call80 Zk (IH (Zh bd) (by omega) (l:=bd) (d:=d+1) (n:=(n1+1)) (Nat.le_refl _) hb3 (by omega) (by omega) (hp.le leA) ((hKx.le leA).imp fun M h=>h.2.2.2.1)) ?_
   rintro _ _ ⟨n2,rfl,hn2,rfl⟩
   rcases hR2:Z2 g.er.cn lo (Zj bd) (d+1) (n1+1) with _|m1
   · refine XO.know 61 (.bool false) rfl (by rfl) ?_
     rw [hR2] at hi2
     dsimp only at hi2
     refine ox 18 ?_;refine Zq (pto pa (.cells [.pointer (some ⟨pp,0,none⟩),.int .i64 n2,.int .i64 lo].toArray 168 (0,0))::q) func80 (Zg results80 rfl) ⟨_,rfl,_,(by rw [hi2];rfl),(by rw [hi2];intro m h;cases h),rfl⟩
   refine XO.know 61 (.bool true) rfl (by rfl) ?_
   obtain rfl:=hn2 _ hR2;rw [hR2] at hi2;have hle2:=Vs (by omega) hR2;dsimp only at hi2
   refine oo 6 ?_;refine ld ?_ (hc:=((hCs.le leA) 20 _ rfl))
   refine oo 2 ?_;refine Zf call80 Zk (IH (Zh es2) (by omega) (l:=es2) (d:=d+1) (n:=n2) (Nat.le_refl _) hb4 (by omega) (by omega) (hp.le leA) ((hKx.le leA).imp fun M h=>⟨h.2.2.2.2.1,h.2.2.2.2.2⟩)) ?_
   rintro _ _ ⟨n3,rfl,hn3,rfl⟩
   rcases hR3:Z2 g.er.cn lo (Zj es2) (d+1) n2 with _|m2
   · refine XO.know 71 (.bool false) rfl (by rfl) ?_
     rw [hR3] at hi2
     dsimp only at hi2
     refine ox 8 ?_;refine Zq (pto pa (.cells [.pointer (some ⟨pp,0,none⟩),.int .i64 n3,.int .i64 lo].toArray 168 (0,0))::q) func80 (Zg results80 rfl) ⟨_,rfl,_,(by rw [hi2];rfl),(by rw [hi2];intro m h;cases h),rfl⟩
   refine XO.know 71 (.bool true) rfl (by rfl) ?_
   obtain rfl:=hn3 _ hR3;rw [hR3] at hi2;have hle3:=Vs (by omega) hR3;dsimp only at hi2
   refine ox 10 ?_
   rw [←e_]
   refine X.at (ih (i+1,n3) ⟨by dsimp only;omega,hi2,by dsimp only;omega,by dsimp only;omega⟩ (by dsimp only;omega)) Zd leA
 replace h0:=sp h0;obtain rfl:i=l.length:=(by omega);rw [List.drop_length] at hi2;simp only [Zj,Z2] at hi2
 refine xx 6 ?_;refine Zq (pto pa (.cells [.pointer (some ⟨pp,0,none⟩),.int .i64 n1,.int .i64 lo].toArray 168 (0,0))::q) func80 (Zg results80 rfl) ⟨_,rfl,n1,by rw [hi2];rfl,by rw [hi2];intro m h;cases h;rfl,rfl⟩
theorem ask_all (hB:B≤1000000)(N:Nat)(hN:N≤1000000):AskB G B pa pp g lo N:=by
 induction N using Nat.strongRecOn with
 |ind N IH=>exact fun hs hb hd hn hp hK=>ask_step (fun n hn=>IH n hn (by omega)) hB hN hs hb hd hn hp hK
end
theorem Nw (a b:List Int):Wv (a++b)=Wv a+Wv b:=by
 induction a with
 |nil=>simp [Wv]
 |cons x r ih=>simp only [Wv,List.cons_append,List.foldr_cons] at ih⊢;omega
theorem U8 {l:List Int}{k:Int}(h: ∀ x∈l,0≤x∧x≤k)(hk:0≤k):0≤Wv l∧Wv l≤k*l.length:=by
 induction l with
 |nil=>simp [Wv]
 |cons x r ih=>
  have h1:=h x (List.mem_cons_self ..)
  have h2:=ih fun y hy=>h y (List.mem_cons_of_mem _ hy)
  have e:Wv (x::r)=x+Wv r:=rfl
  rw [e,List.length_cons,Int.natCast_succ,Int.mul_add,Int.mul_one];omega
section
variable {G:World}{q:List HP}{pa pp:Nat}{g:FC}{lo:Int}
set_option maxHeartbeats 4000000 in
theorem Di (hp:CellsAt q pp 0 (pgC g))(hK:Kn q fun M=>g.At M)(hl:g.vars.l.length≤1000000∧g.arrs.l.length≤1000000∧g.chs.l.length≤1000000∧g.ths.l.length≤1000000):CallF prog G 78 [.pointer (some ⟨pp,0,none⟩)] (q) (Ret fun v q'=>v= .bool (E8 g.er)∧q'=q):=by
 refine CallF.of func78 ntmps78 rfl (fun F cs=> ?_)
 have hp2:CellsAt q pp 0 [.slice g.vars.a g.vars.l.length g.vars.c,.slice g.arrs.a g.arrs.l.length g.arrs.c,.int .i64 g.mu,.int .i64 g.co,.slice g.chs.a g.chs.l.length g.chs.c,.slice g.ths.a g.ths.l.length g.ths.c,.int .i64 g.main,.int .i64 g.stm]:=fun k v hk=>hp k v (by revert hk;match k with|0|1|2|3|4|5|6|7=>exact fun h=>h|(k+8)=>intro h;cases h)
 obtain ⟨R,hR⟩: ∃ R,R=E8 g.er:=⟨_,rfl⟩;rw [←hR];unfold E8 at hR
 simp only [FC.er,List.length_map] at hR
 obtain ⟨l_vars,l_arrs,l_chs,l_ths⟩:=hl
 have hV:=(Sv.sees (hK.imp fun M h=>h.vars));have hA:=(Sv.sees (hK.imp fun M h=>h.arrs));have hC:=(Sv.sees (hK.imp fun M h=>h.chs));rw [U3] at hV hA hC
 refine xo 10 ?_;refine ld ?_ (hc:=((hp2.le leA) 2 _ rfl))
 refine oo 2 ?_;refine Zm [15,2,0] ?_
 apply Zb 6 21 15 rfl
 · intro g10 M10;have c10:=sp g10
   refine oo 3 ?_;refine ld ?_ (hc:=((hp2.le leA) 2 _ rfl))
   refine oo 2 ?_;exact Zz M10 ⟨orF g10,Zw⟩
 · intro g10 M10;have c10:=sp g10
   refine oo 6 ?_;exact Zz M10 ⟨orT g10,Zw⟩
 refine oo 1 ?_;refine Zm [22,2,0] ?_
 apply Zb 6 28 22 rfl
 · intro g10 M10;have c10:=sp g10
   refine oo 3 ?_;refine ld ?_ (hc:=((hp2.le leA) 3 _ rfl))
   refine oo 2 ?_;exact Zz M10 ⟨orF g10,Zw⟩
 · intro g10 M10;have c10:=sp g10
   refine oo 6 ?_;exact Zz M10 ⟨orT g10,Zw⟩
 refine oo 1 ?_;refine Zm [29,2,0] ?_
 apply Zb 6 35 29 rfl
 · intro g10 M10;have c10:=sp g10
   refine oo 3 ?_;refine ld ?_ (hc:=((hp2.le leA) 3 _ rfl))
   refine oo 2 ?_;exact Zz M10 ⟨orF g10,Zw⟩
 · intro g10 M10;have c10:=sp g10
   refine oo 6 ?_;exact Zz M10 ⟨orT g10,Zw⟩
 refine ox 1 ?_;refine X.part 35 rfl (fun h1=> ?_) (fun h1=> ?_)
 · replace h1:=sp h1
   refine xx 5 ?_;refine Zq (q) func78 (Zg results78 rfl) ⟨_,rfl,congrArg Value.bool (by rw [hR];symm;rw [decide_eq_false_iff_not];intro k;have k1:=k.1;have k2:=k.2.1;(first|omega|(simp at h1;omega))),rfl⟩
 replace h1:=sp h1;have hm:(0≤g.mu∧g.mu≤64)∧(0≤g.co∧g.co≤64):=(by first|omega|(simp at h1;omega))
 refine xx 4 ?_;refine drw ?_;refine dd [0,1,2] ?_;refine ldD 3 ?_ (hc:=((hp2.le leA) 0 _ rfl))
 refine dd [4,5,6,7] ?_;refine ldD 8 ?_ (hc:=((hp2.le leA) 1 _ rfl))
 refine dd [9,10,11,12,13] ?_;refine ldD 14 ?_ (hc:=((hp2.le leA) 2 _ rfl))
 refine dd [15,16,17,18] ?_;refine ldD 19 ?_ (hc:=((hp2.le leA) 3 _ rfl))
 refine dd [20,21,22,23] ?_;refine ldD 24 ?_ (hc:=((hp2.le leA) 4 _ rfl))
 refine dd [25,26,27,28,29] ?_;refine ldD 30 ?_ (hc:=((hp2.le leA) 5 _ rfl))
 refine dd [31,32,33] ?_;refine XD.nil ?_;refine X.part 69 rfl (fun h2=> ?_) (fun h2=> ?_)
 · replace h2:=sp h2
   refine xx 5 ?_;refine Zq (q) func78 (Zg results78 rfl) ⟨_,rfl,congrArg Value.bool (by rw [hR];symm;rw [decide_eq_false_iff_not];intro k;have k1:=k.2.2.1;omega),rfl⟩
 replace h2:=sp h2
 refine xo 8 ?_;refine ld ?_ (hc:=((hp2.le leA) 0 _ rfl))
 refine ox 4 ?_;refine X.at (X.loop (fun (s:Nat)=>s≤g.vars.l.length∧(∀ x∈g.vars.l.take s,val x)) (fun s=> [(0,.pointer (some ⟨pp,0,none⟩)),(73,.slice g.vars.a g.vars.l.length g.vars.c),(74,.int .i64 (g.vars.l.length:Int)),(75,.int .i64 (s:Int))]) (fun s=>q++F) (fun s=>g.vars.l.length - s) (fun s hi_ ih=> ?_) 0 ⟨Nat.zero_le _,by simp⟩) Zd leA
 try dsimp only at hi_ ih⊢
 obtain ⟨hi1,hi2⟩:=hi_
 refine xx 5 ?_;refine X.part 76 rfl (fun h0=> ?_) (fun h0=> ?_)
 · replace h0:=sp h0;have hlt:s<g.vars.l.length:=(by omega)
   refine Yx (hV.le leA) (by simp;omega) (fun ab ao e_=> ?_);have hs_:=hV;rw [e_] at hs_⊢
   refine xo 7 ?_;refine ld ?_ (hc:=((hs_.le leA).at rfl hlt))
   obtain ⟨x,hx⟩: ∃ x,x=g.vars.l[s]:=⟨_,rfl⟩
   refine XO.know 78 (.int .i64 x) rfl (by rw [hx]) ?_
   have hsn:g.vars.l.take (s+1)=g.vars.l.take s++ [x]:=by rw [List.take_succ_eq_append_getElem hlt,hx]
   refine oo 7 ?_;refine Zm [81,4,0,73,74,75] ?_
   apply Zb 3 84 81 rfl
   · intro g10 M10;have c10:=sp g10
     refine oo 3 ?_;exact Zz M10 ⟨orF g10,Zw⟩
   · intro g10 M10;have c10:=sp g10
     refine oo 3 ?_;exact Zz M10 ⟨orT g10,Zw⟩
   refine ox 1 ?_;refine X.part 84 rfl (fun h4=> ?_) (fun h4=> ?_)
   · replace h4:=sp h4
     refine xx 5 ?_;refine Zq (q) func78 (Zg results78 rfl) ⟨_,rfl,congrArg Value.bool (by rw [hR];symm;rw [decide_eq_false_iff_not];intro k;have k1:=k.2.2.2.1 x (hx ▸ List.getElem_mem hlt);unfold val at k1;(first|omega|(simp at h4;omega))),rfl⟩
   replace h4:=sp h4;have hv:val x:=(by unfold val;first|omega|(simp at h4;omega))
   refine xx 7 ?_
   rw [←e_]
   refine X.at (ih (s+1) ⟨by (try dsimp only);omega,fun y hy=>by
    (try dsimp only at hy)
    rw [hsn] at hy
    rcases List.mem_append.1 hy with hy|hy
    · exact hi2 y hy
    rw [List.mem_singleton.1 hy];exact hv⟩ (by (try dsimp only);omega)) Zd leA
 replace h0:=sp h0;obtain rfl:s=g.vars.l.length:=(by omega);rw [List.take_length] at hi2;have ok_vars:=hi2;clear ih
 refine xo 12 ?_;refine ld ?_ (hc:=((hp2.le leA) 1 _ rfl))
 refine ox 4 ?_;refine X.at (X.loop (fun (s:Nat×Int)=>s.1≤g.arrs.l.length∧(∀ x∈g.arrs.l.take s.1,1≤x∧x≤256)∧s.2=Wv (g.arrs.l.take s.1)) (fun s=> [(0,.pointer (some ⟨pp,0,none⟩)),(89,.slice g.arrs.a g.arrs.l.length g.arrs.c),(90,.int .i64 (g.arrs.l.length:Int)),(91,.int .i64 (s.1:Int)),(5,.int .i64 s.2)]) (fun s=>q++F) (fun s=>g.arrs.l.length - s.1) (fun s hi_ ih=> ?_) (0,0) ⟨Nat.zero_le _,by simp,by simp [Wv]⟩) Zd leA
 try dsimp only at hi_ ih⊢
 obtain ⟨hi1,hi2,hi3⟩:=hi_
 obtain ⟨i,z⟩:=s;dsimp only at*
 refine xx 5 ?_;refine X.part 92 rfl (fun h0=> ?_) (fun h0=> ?_)
 · replace h0:=sp h0;have hlt:i<g.arrs.l.length:=(by omega)
   refine Yx (hA.le leA) (by simp;omega) (fun ab ao e_=> ?_);have hs_:=hA;rw [e_] at hs_⊢
   refine xo 7 ?_;refine ld ?_ (hc:=((hs_.le leA).at rfl hlt))
   obtain ⟨x,hx⟩: ∃ x,x=g.arrs.l[i]:=⟨_,rfl⟩
   refine XO.know 94 (.int .i64 x) rfl (by rw [hx]) ?_
   have hsn:g.arrs.l.take (i+1)=g.arrs.l.take i++ [x]:=by rw [List.take_succ_eq_append_getElem hlt,hx]
   have hsl:=U8 (l:=g.arrs.l.take i) (k:=256) (fun y hy=>by have:=hi2 y hy;omega) (by decide);rw [List.length_take] at hsl;have hi64:(i:Int)≤64:=(by omega);have hmn:((min i g.arrs.l.length:Nat):Int)=i:=(by omega);rw [hmn] at hsl
   refine oo 8 ?_;refine Zm [97,7,0,89,90,91,5] ?_
   apply Zb 3 100 97 rfl
   · intro g10 M10;have c10:=sp g10
     refine oo 3 ?_;exact Zz M10 ⟨orF g10,Zw⟩
   · intro g10 M10;have c10:=sp g10
     refine oo 3 ?_;exact Zz M10 ⟨orT g10,Zw⟩
   refine ox 1 ?_;refine X.part 100 rfl (fun h4=> ?_) (fun h4=> ?_)
   · replace h4:=sp h4
     refine xx 5 ?_;refine Zq (q) func78 (Zg results78 rfl) ⟨_,rfl,congrArg Value.bool (by rw [hR];symm;rw [decide_eq_false_iff_not];intro k;have k1:=k.2.2.2.2.1 x (hx ▸ List.getElem_mem hlt);(first|omega|(simp at h4;omega))),rfl⟩
   replace h4:=sp h4;have hv:1≤x∧x≤256:=(by first|omega|(simp at h4;omega))
   refine xx 13 ?_
   rw [←e_]
   refine X.at (ih (i+1,z+x) ⟨by (try dsimp only);omega,fun y hy=>by
    (try dsimp only at hy)
    rw [hsn] at hy
    rcases List.mem_append.1 hy with hy|hy
    · exact hi2 y hy
    rw [List.mem_singleton.1 hy];exact hv,by dsimp only;rw [hsn,Nw,hi3];simp [Wv]⟩ (by (try dsimp only);omega)) Zd leA
 replace h0:=sp h0;obtain rfl:i=g.arrs.l.length:=(by omega);rw [List.take_length] at hi2 hi3;have ok_arrs:=hi2;clear ih
 have sm:=hi3;subst hi3;have hsl:=U8 (l:=g.arrs.l) (k:=256) (fun y hy=>by have:=hi2 y hy;omega) (by decide)
 refine xo 8 ?_;refine ld ?_ (hc:=((hp2.le leA) 4 _ rfl))
 refine ox 4 ?_;refine X.at (X.loop (fun (s:Nat)=>s≤g.chs.l.length∧(∀ x∈g.chs.l.take s,1≤x∧x≤16)) (fun s=> [(5,.int .i64 (Wv g.arrs.l)),(108,.slice g.chs.a g.chs.l.length g.chs.c),(109,.int .i64 (g.chs.l.length:Int)),(110,.int .i64 (s:Int))]) (fun s=>q++F) (fun s=>g.chs.l.length - s) (fun s hi_ ih=> ?_) 0 ⟨Nat.zero_le _,by simp⟩) Zd leA
 try dsimp only at hi_ ih⊢
 obtain ⟨hi1,hi2⟩:=hi_
 refine xx 5 ?_;refine X.part 111 rfl (fun h0=> ?_) (fun h0=> ?_)
 · replace h0:=sp h0;have hlt:s<g.chs.l.length:=(by omega)
   refine Yx (hC.le leA) (by simp;omega) (fun ab ao e_=> ?_);have hs_:=hC;rw [e_] at hs_⊢
   refine xo 7 ?_;refine ld ?_ (hc:=((hs_.le leA).at rfl hlt))
   obtain ⟨x,hx⟩: ∃ x,x=g.chs.l[s]:=⟨_,rfl⟩
   refine XO.know 113 (.int .i64 x) rfl (by rw [hx]) ?_
   have hsn:g.chs.l.take (s+1)=g.chs.l.take s++ [x]:=by rw [List.take_succ_eq_append_getElem hlt,hx]
   refine oo 7 ?_;refine Zm [116,9,5,108,109,110] ?_
   apply Zb 3 119 116 rfl
   · intro g10 M10;have c10:=sp g10
     refine oo 3 ?_;exact Zz M10 ⟨orF g10,Zw⟩
   · intro g10 M10;have c10:=sp g10
     refine oo 3 ?_;exact Zz M10 ⟨orT g10,Zw⟩
   refine ox 1 ?_;refine X.part 119 rfl (fun h4=> ?_) (fun h4=> ?_)
   · replace h4:=sp h4
     refine xx 5 ?_;refine Zq (q) func78 (Zg results78 rfl) ⟨_,rfl,congrArg Value.bool (by rw [hR];symm;rw [decide_eq_false_iff_not];intro k;have k1:=k.2.2.2.2.2.1 x (hx ▸ List.getElem_mem hlt);(first|omega|(simp at h4;omega))),rfl⟩
   replace h4:=sp h4;have hv:1≤x∧x≤16:=(by first|omega|(simp at h4;omega))
   refine xx 7 ?_
   rw [←e_]
   refine X.at (ih (s+1) ⟨by omega,fun y hy=>by
    rw [hsn] at hy
    rcases List.mem_append.1 hy with hy|hy
    · exact hi2 y hy
    rw [List.mem_singleton.1 hy];exact hv⟩ (by omega)) Zd leA
 replace h0:=sp h0;obtain rfl:s=g.chs.l.length:=(by omega);rw [List.take_length] at hi2;clear ih
 refine xx 8 ?_;refine Zq (q) func78 (Zg results78 rfl) ⟨_,rfl,congrArg Value.bool (by rw [hR];rw [Bool.eq_iff_iff];simp only [decide_eq_true_eq];exact ⟨fun k=>⟨hm.1,hm.2,by omega,ok_vars,ok_arrs,hi2,k⟩,fun k=>k.2.2.2.2.2.2⟩),rfl⟩
set_option maxHeartbeats 4000000 in
theorem pmay_ok {B:Nat}(hp:CellsAt q pp 0 (pgC g))(hK:Kn q fun M=>g.At M)(hB:CpOk B g):CallF prog G 44 [.pointer (some ⟨pp,0,none⟩)] (q) (Ret fun v q'=>v= .bool (Bb g.er)∧q'=q):=by
 refine CallF.of func44 ntmps44 rfl (fun F cs=> ?_)
 have hp2:CellsAt q pp 0 [.slice g.vars.a g.vars.l.length g.vars.c,.slice g.arrs.a g.arrs.l.length g.arrs.c,.int .i64 g.mu,.int .i64 g.co,.slice g.chs.a g.chs.l.length g.chs.c,.slice g.ths.a g.ths.l.length g.ths.c,.int .i64 g.main,.int .i64 g.stm]:=fun k v hk=>hp k v (by revert hk;match k with|0|1|2|3|4|5|6|7=>exact fun h=>h|(k+8)=>intro h;cases h)
 obtain ⟨R,hR⟩: ∃ R,R=Bb g.er:=⟨_,rfl⟩;rw [←hR];unfold Bb at hR;rw [g_th,show g.er.main=g.main from rfl] at hR
 obtain ⟨l_vars,l_arrs,l_chs,l_ths,_⟩:=hB.l;have hT:=Sv.sees (hK.imp fun M h=>h.ths);have hlen:=Zv Qc g.ths.l
 refine xx 6 ?_;refine drw ?_;refine dd [0] ?_;refine Ym 1 call78 (Di (hp.le leA) (hK.le leA) ⟨l_vars,l_arrs,l_chs,l_ths⟩) ?_
 refine J7 2 rfl (Pu.not rfl) ?_;refine dd [3] ?_;refine B4 [9,2,0] ?_
 apply B5 0 [0,1,2,3,4,5,6,7,8,9,10,11,12,13,14,15] 21 9 rfl
 · intro g10 M10;have c10:=sp g10
   refine dd [4,5,6] ?_;refine ldD 7 ?_ (hc:=((hp2.le leA) 6 _ rfl))
   refine dd [8,9,10] ?_;refine ldD 11 ?_ (hc:=((hp2.le leA) 5 _ rfl))
   refine dd [12] ?_;refine Ym 13 call79 (Jm) ?_ (hL:=(hlA (h:=by repeat first|exact trivial|refine ⟨clA,?_⟩|refine ⟨(hp2.le leA) 0 _ rfl,?_⟩|refine ⟨(hp2.le leA) 1 _ rfl,?_⟩|refine ⟨(hp2.le leA) 2 _ rfl,?_⟩|refine ⟨(hp2.le leA) 3 _ rfl,?_⟩|refine ⟨(hp2.le leA) 4 _ rfl,?_⟩|refine ⟨(hp2.le leA) 5 _ rfl,?_⟩|refine ⟨(hp2.le leA) 6 _ rfl,?_⟩|refine ⟨(hp2.le leA) 7 _ rfl,?_⟩)))
   refine J7 14 rfl (Pu.not rfl) ?_;refine dd [15] ?_;exact Uc M10 ⟨orF g10,Zw⟩
 · intro g10 M10;have c10:=sp g10
   refine dd [4,5,6,7,8,9,10,11,12,13,14,15] ?_;exact Uc M10 ⟨orT g10,Zw⟩
 intro L_
 refine XD.nil ?_;refine X.part 21 rfl (fun h1=> ?_) (fun h1=> ?_)
 · replace h1:=sp h1
   refine xx 5 ?_;refine Zq (q) func44 (Zg results44 rfl) ⟨_,rfl,congrArg Value.bool (by rw [hR];unfold inB;(first|(simp_all;done)|(rcases hz1:E8 g.er<;>rcases Decidable.em (0≤g.main∧g.main<(g.ths.l.length:Int)) with z|z<;>simp_all<;>(intros;omega)))),rfl⟩
 replace h1:=sp h1;obtain ⟨hn1,hn2⟩:E8 g.er=true∧inB g.main g.ths.l.length=true:=(by unfold inB;(first|(simp_all;done)|(rcases hz1:E8 g.er<;>rcases Decidable.em (0≤g.main∧g.main<(g.ths.l.length:Int)) with z|z<;>simp_all<;>(intros;omega))))
 rw [hn1,Bool.true_and,hn2,Bool.true_and] at hR
 refine xo 6 ?_;refine Y8 fun n1=> ?_
 refine oo 8 ?_;refine ld ?_ (hc:=((hp2.le leA) 5 _ rfl))
 refine ox 4 ?_;refine X.at (X.loop (fun (s:Nat×Int×Int)=>s.1≤g.ths.l.length∧R=(W3 g.er.cn ((g.ths.l.drop s.1).map Th.er) s.2.1==some g.stm)∧0≤s.2.1∧s.2.1≤512) (fun s=> [(0,.pointer (some ⟨pp,0,none⟩)),(3,.pointer (some ⟨n1,0,none⟩)),(29,.int .i64 (g.ths.l.length:Int)),(30,.int .i64 (s.1:Int))]) (fun s=>pto n1 (.cells [.pointer (some ⟨pp,0,none⟩),.int .i64 s.2.1,.int .i64 s.2.2].toArray 168 (0,0))::(q++F)) (fun s=>g.ths.l.length - s.1) (fun s hi_ ih=> ?_) (0,0,0) ⟨Nat.zero_le _,by rw [hR,List.drop_zero];rfl,by decide⟩) Zd leA
 try dsimp only at hi_ ih⊢
 obtain ⟨hi1,hi2,hi3⟩:=hi_
 obtain ⟨i,n,lo⟩:=s;dsimp only at*
 refine xx 5 ?_;refine X.part 31 rfl (fun h0=> ?_) (fun h0=> ?_)
 · replace h0:=sp h0;have hlt:i<g.ths.l.length:=(by omega)
   obtain ⟨x,hx⟩: ∃ x,x=g.ths.l[i]:=⟨_,rfl⟩;have hxt:=hB.t x (hx ▸ List.getElem_mem hlt);rw [List.drop_eq_getElem_cons hlt,←hx,List.map_cons] at hi2;simp only [W3] at hi2;rw [show (Th.er x).loc=x.loc from rfl,show (Th.er x).body=Zj x.body from rfl] at hi2
   refine Yx (hT.le leA) (by rw [hlen];omega) (fun ab ao e_=> ?_);have hT2:=hT;have hp3:=hp2;rw [e_] at hT2 hp3
   have hCt:CellsAt q ab (ao+(i:Int).toNat*3) (thC x):=by rw [hx];exact CellsAt.row hT2 (Le.refl _) Qc hlt rfl
   have hKb:Kn q fun M=>BlkAt M x.a x.c x.body:=hK.imp fun M h=>h.bod x (hx ▸ List.getElem_mem hlt)
   refine xo 14 ?_;refine ld ?_ (hc:=((hp3.le leA) 5 _ rfl))
   refine oo 10 ?_;refine ld ?_ (hc:=((hCt.le leA) 1 _ rfl))
   refine oo 2 ?_;refine Zm [44,5,0,3,29,30] ?_
   apply Zb 6 50 44 rfl
   · intro g10 M10;have c10:=sp g10
     refine oo 3 ?_;refine ld ?_ (hc:=((hCt.le leA) 1 _ rfl))
     refine oo 2 ?_;exact Zz M10 ⟨orF g10,Zw⟩
   · intro g10 M10;have c10:=sp g10
     refine oo 6 ?_;exact Zz M10 ⟨orT g10,Zw⟩
   refine ox 1 ?_;refine X.part 50 rfl (fun h2=> ?_) (fun h2=> ?_)
   · replace h2:=sp h2
     refine xx 5 ?_;refine Zq (q) func44 (Zg results44 rfl) ⟨_,rfl,congrArg Value.bool (by rw [hi2];rw [if_pos (by first|omega|(simp at h2;omega))];rfl),rfl⟩
   replace h2:=sp h2;rw [if_neg (by first|omega|(simp at h2;omega))] at hi2
   refine xo 8 ?_;refine ld ?_ (hc:=((hCt.le leA) 1 _ rfl))
   refine oo 2 ?_;refine st ?_;refine oo 7 ?_;refine ld ?_ (hc:=((hCt.le leA) 2 _ rfl))
   refine Zf call80 Zk (ask_all hB.b (Zh x.body) hxt.1 (l:=x.body) (d:=1) (n:=n) (lo:=x.loc) (Nat.le_refl _) hxt.2 (by decide) hi3 (hp.le leA) (hKb.le leA)) ?_
   rintro _ _ ⟨n2,rfl,hn2,rfl⟩
   refine Zt (Pu.not rfl) ?_;refine ox 1 ?_
   rcases hR2:Z2 g.er.cn x.loc (Zj x.body) 1 n with _|m1
   · rw [hR2] at hi2;dsimp only at hi2
     refine X.kt 64 ?_;refine xx 5 ?_;refine Zq (q) func44 (Zg results44 rfl) ⟨_,rfl,congrArg Value.bool (by rw [hi2];rfl),rfl⟩
   rw [hR2] at hi2;dsimp only at hi2
   refine Wy 64 ?_;obtain rfl:=hn2 _ hR2;have hle:=Vs (by omega) hR2
   refine xx 7 ?_;refine X.at (ih (i+1,n2,x.loc) ⟨by dsimp only;omega,hi2,by dsimp only;omega,by dsimp only;omega⟩ (by dsimp only;omega)) Zd leA
 replace h0:=sp h0;obtain rfl:i=g.ths.l.length:=(by omega);rw [List.drop_length] at hi2;simp only [List.map_nil,W3] at hi2
 refine xx 3 ?_;refine drw ?_;refine dl [0,1,2] 3 ?_;refine dd [4,5,6] ?_;refine ldD 7 ?_ (hc:=((hp2.le leA) 7 _ rfl))
 refine dd [8,9] ?_;refine XD.nil ?_;refine Zq (q) func44 (Zg results44 rfl) ⟨_,rfl,congrArg Value.bool (by rw [hi2,Bool.eq_iff_iff];simp),rfl⟩
end
end Go.Proofs.YtflkjkhijcdbaaaGreat
