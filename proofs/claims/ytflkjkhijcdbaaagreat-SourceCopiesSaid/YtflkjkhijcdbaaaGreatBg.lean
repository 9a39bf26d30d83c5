/- Contracts of functions, proved by walking their code. -/
import Derived.Test.YtflkjkhijcdbaaaGreatBf
import Derived.KernelRfl
set_option maxRecDepth 100000
set_option linter.unusedVariables false
set_option linter.unusedSimpArgs false
namespace Go.Proofs.YtflkjkhijcdbaaaGreat
open Go Go.RowKit Wx Go.Proofs.Tryz
attribute [local irreducible] Wx.lsH Wx.rsH Wx.stars
mutual
def PEx.thin:PEx→Prop
 | .mk _ _ _ _ _ _ args=>args.length≤2∧Kq args
def Kq:List PEx→Prop
 | []=>True
 |e::r=>e.thin∧Kq r
end
theorem Mf {x:PEx}: ∀ {l:List PEx},Kq l→x∈l→x.thin
 |y::r,⟨h1,h2⟩,h=>by
  rcases List.mem_cons.1 h with rfl|h
  · exact h1
  exact Mf h2 h
mutual
theorem Jz: ∀ {e:PEx} {d:Nat},e.right d=true→e.thin
 | .mk k n nm _ _ op args,d,h=>by
  simp only [PEx.right] at h
  split at h
  · cases h
  split at h
  · rw [Bool.and_eq_true,Bool.and_eq_true,decide_eq_true_eq] at h
    refine ⟨?_,K6 h.2⟩
    have:=h.1.2;unfold Sa at this;split at this<;>(try split at this)<;>omega
  cases h
theorem K6: ∀ {l:List PEx} {d:Nat},Y9 l d=true→Kq l
 | [],_,_=>trivial
 |e::r,d,h=>by
  simp only [Y9,Bool.and_eq_true] at h
  exact ⟨Jz h.1,K6 h.2⟩
end
theorem N4: ∀ {e:PEx},e.nil=true→e.thin
 | .mk k n nm _ _ op args,h=>by
  simp only [PEx.nil,Bool.and_eq_true,decide_eq_true_eq] at h
  have h0:=List.eq_nil_of_length_eq_zero h.2;subst h0
  exact ⟨Nat.zero_le _,trivial⟩
theorem Lo {M:Hp}{l m:List Ex}(h:Ex.Ats M l)(k:Ex.Ats M m):Ex.Ats M (l++m):=Y4.2 fun x hx=>(List.mem_append.1 hx).elim (Y4.1 h x) (Y4.1 k x)
section
variable {P:Program}{G:World}{fr:Fc}{Q:Yr}{todo:List Item}{p:PE}{ds:List Deferred}{cs:List Frame}{q q0 q1 q2:List HP}{a:Option Addr}{c:Nat}{l:List Ex}{e:Ex}{kd n:Int}{nm:ByteArray}{slot:Int}{loc:Bool}{op:Int}
theorem X.exs (h1:Le q (exsM l::q1))(h2:Le q1 (exM e::q2))(K:X P G fr Q todo p ds cs (exsM (l++ [e])::q2)):X P G fr Q todo p ds cs q:=by
 have h3:Kn (exsM l::exM e::q2) fun M=>Ex.Ats M (l++ [e]):=((show Kn (exsM l::exM e::q2) fun M=>Ex.Ats M l from Kn.here).and (Kn.there (show Kn (exM e::q2) fun M=>e.At M from Kn.here))).imp fun M h=>Lo h.1 ⟨h.2,trivial⟩
 exact .le ((h1.trans (Le.cons _ h2)).trans ((Kn.add (mn:=fun e h=>Ex.Ats.mono e h) h3).trans (Le.cons _ ((Le.drop _ _).trans (Le.drop _ _))))) K
theorem X.fzEs (K:X P G fr Q todo p ds cs (exM (.mk kd n nm slot loc op l a c)::q0))(hq:Le q (rsH exC 7 124 a c l::q0):=by exact Zk)(h:Kn q0 fun M=>Ex.Ats M l:=by exact knA):X P G fr Q todo p ds cs q:= .frzR (Kn.here.and h.there) K hq
end
section
variable {G:World}{q:List HP}{f:FC}{e:Ex}{pl pc:Int}
set_option maxHeartbeats 4000000 in
theorem Pd (IH: ∀ (x:Ex),x.sz<e.sz→x.er.thin→ ∀ {f:FC} {pl pc:Int} {q:List HP},(Kn q fun M=>f.At M)→(Kn q fun M=>x.At M)→CallF prog G 184 [.agg (fcC f).toArray,.agg (exC x).toArray,.agg [.int .i64 pl,.int .i64 pc].toArray] q (Ret fun v q'=> ∃ (g:FC) (y:Ex),v= .tuple [.agg (fcC g).toArray,.agg (exC y).toArray].toArray∧q'=fcM g::exM y::q∧(g.er,y.er)=f.er.expr x.er))(hf:Kn q fun M=>f.At M)(h:Kn q fun M=>e.At M)(ht:e.er.thin):CallF prog G 184 [.agg (fcC f).toArray,.agg (exC e).toArray,.agg [.int .i64 pl,.int .i64 pc].toArray] (q) (Ret fun v q'=> ∃ (g:FC) (x:Ex),v= .tuple [.agg (fcC g).toArray,.agg (exC x).toArray].toArray∧q'=fcM g::exM x::q∧(g.er,x.er)=f.er.expr e.er):=by
 refine CallF.of func184 ntmps184 rfl (fun F cs=> ?_)
 obtain ⟨k,z,nm,sl,lo,op,args,aa,ac⟩:=e;have hA:=Ld h;have hlen:=Zv (f:=exC) (sz:=7) Z4 args
 have ht1:args.length≤2:=by have:=ht.1;rw [W8] at this;exact this
 have ht2:Kq (Z3 args):=ht.2
 obtain ⟨R,hR⟩: ∃ R,f.er.expr (Ex.er (.mk k z nm sl lo op args aa ac))=R:=⟨_,rfl⟩;rw [hR];simp only [Ex.er,Fnd.expr] at hR
 refine xo 2 ?_;refine Y8 fun n1=> ?_
 refine Y8 fun n2=> ?_
 refine Y8 fun n3=> ?_
 refine XO.al zeroValue240 fun n4=> ?_
 refine XO.al zeroValue124 fun n5=> ?_
 refine ol 5 ?_;refine ox 1 ?_;refine X.join (fun (x:FC×Int×Bool)=> [(3,.pointer (some ⟨n1,0,none⟩)),(4,.pointer (some ⟨n2,0,none⟩)),(5,.pointer (some ⟨n3,0,none⟩)),(6,.pointer (some ⟨n4,0,none⟩)),(7,.pointer (some ⟨n5,0,none⟩))]) (fun x=>fcM x.1::pto n1 (.cells (fcC x.1).toArray 240 (0,0))::pto n2 (.cells (exC (.mk k z nm x.2.1 x.2.2 op args aa ac)).toArray 124 (0,0))::pto n3 (.cells [.int .i64 pl,.int .i64 pc].toArray 107 (0,0))::pto n4 (.cells [.slice none 0 0,.slice none 0 0,.int .i64 0,.int .i64 0,.slice none 0 0,.slice none 0 0,.int .i64 0,.int .i64 0,.slice none 0 0,.slice none 0 0,.slice none 0 0,.slice none 0 0,.slice none 0 0,.slice none 0 0,.int .i64 0,.int .i64 0,.int .i64 0,.int .i64 0,.int .i64 0,.int .i64 0].toArray 240 (0,0))::pto n5 (.cells [.int .i64 0,.int .i64 0,.string ⟨#[]⟩,.int .i64 0,.bool false,.int .i64 0,.slice none 0 0].toArray 124 (0,0))::(q++F)) (fun x=>R=((Fnd.exprs x.1.er (Z3 args)).1,.mk k z nm x.2.1 x.2.2 op (Fnd.exprs x.1.er (Z3 args)).2)) (fun x hx_=> ?_) (fun K=> ?_)
 · obtain ⟨g,sl2,lo2⟩:=x;dsimp only at hx_⊢;clear hR
   refine xx 10 ?_;refine X.at (X.loop (fun (s:FC×(Option Addr×Nat×List Ex)×Option Addr)=>s.2.1.2.2.length≤args.length∧s.2.2=aa∧R=((Fnd.exprs s.1.er (Z3 (args.drop s.2.1.2.2.length))).1,.mk k z nm sl2 lo2 op (Z3 s.2.1.2.2++(Fnd.exprs s.1.er (Z3 (args.drop s.2.1.2.2.length))).2))) (fun s=> [(12,.slice s.2.1.1 s.2.1.2.2.length s.2.1.2.1),(13,.int .i64 (s.2.1.2.2.length:Int)),(3,.pointer (some ⟨n1,0,none⟩)),(4,.pointer (some ⟨n2,0,none⟩)),(5,.pointer (some ⟨n3,0,none⟩)),(6,.pointer (some ⟨n4,0,none⟩)),(7,.pointer (some ⟨n5,0,none⟩))]) (fun s=>rsH exC 7 124 s.2.1.1 s.2.1.2.1 s.2.1.2.2::exsM s.2.1.2.2::fcM s.1::pto n1 (.cells (fcC s.1).toArray 240 (0,0))::pto n2 (.cells (exC (.mk k z nm sl2 lo2 op args s.2.2 ac)).toArray 124 (0,0))::pto n3 (.cells [.int .i64 pl,.int .i64 pc].toArray 107 (0,0))::pto n4 (.cells [.slice none 0 0,.slice none 0 0,.int .i64 0,.int .i64 0,.slice none 0 0,.slice none 0 0,.int .i64 0,.int .i64 0,.slice none 0 0,.slice none 0 0,.slice none 0 0,.slice none 0 0,.slice none 0 0,.slice none 0 0,.int .i64 0,.int .i64 0,.int .i64 0,.int .i64 0,.int .i64 0,.int .i64 0].toArray 240 (0,0))::pto n5 (.cells [.int .i64 0,.int .i64 0,.string ⟨#[]⟩,.int .i64 0,.bool false,.int .i64 0,.slice none 0 0].toArray 124 (0,0))::(q++F)) (fun s=>args.length - s.2.1.2.2.length) (fun s hi_ ih=> ?_) (g,(none,0, []),aa) ⟨Nat.zero_le _,rfl,hx_⟩) Zd (Le.trans leA (Le.trans (Zl exC 7 124 _) (Le.trans (Kn.add (φ:=fun M=>Ex.Ats M []) (mn:=fun e h=>Ex.Ats.mono e h) (fun _ _ _=>trivial)) leA)))
   try dsimp only at hi_ ih⊢
   obtain ⟨hi1,hi2,hi3⟩:=hi_
   obtain ⟨g,⟨a,c,out⟩,aa2⟩:=s;dsimp only at*;subst hi2;clear hx_
   refine xj 5 ?_;refine ox 3 ?_;refine X.part 54 rfl (fun h0=> ?_) (fun h0=> ?_)
   · replace h0:=sp h0;have hlt:out.length<args.length:=by omega
     obtain ⟨y,hy⟩: ∃ y,args[out.length]=y:=⟨_,rfl⟩;obtain ⟨k3,z3,s3,l3,o3,p3,y3,u3,w3⟩:=y
     refine xx 5 ?_;refine drw ?_;refine Ji 0 ?_;refine dl [1] 2 ?_;refine dd [3] ?_;refine Km hA (by rw [hlen];omega) (fun b1 o1 e1=> ?_);subst e1
     have hrw: ∀ (Q:List HP),Le Q q→ ∀ (j:Nat) (v:Value),nth (exC (.mk k3 z3 s3 l3 o3 p3 y3 u3 w3)) j=some v→Cl Q ⟨b1,o1+(out.length:Int).toNat*7+j,none⟩ v:=fun Q hQ j v hv=>Cl.row hA hQ Z4 hlt rfl j v (by rw [hy,←Ve];exact hv)
     refine dd [4] ?_;refine XD.rdCs 5 (us:=exC (.mk k3 z3 s3 l3 o3 p3 y3 u3 w3)) rfl rfl isAgg124 sizeOf124 rfl (fun k v hk=>hrw _ leA k v (by rw [Ve];exact hk)) ?_
     refine Ji 6 ?_;refine Y3 (fl:= [⟨11,14,fun g=> .pointer (some ⟨g,0,none⟩),fun g=>pto g (.cells [.slice none 0 0,.slice none 0 0,.int .i64 0,.int .i64 0,.slice none 0 0,.slice none 0 0,.int .i64 0,.int .i64 0,.slice none 0 0,.slice none 0 0,.slice none 0 0,.slice none 0 0,.slice none 0 0,.slice none 0 0,.int .i64 0,.int .i64 0,.int .i64 0,.int .i64 0,.int .i64 0,.int .i64 0].toArray 240 (0,0))⟩,⟨12,15,fun g=> .pointer (some ⟨g,0,none⟩),fun g=>pto g (.cells [.int .i64 0,.int .i64 0,.string ⟨#[]⟩,.int .i64 0,.bool false,.int .i64 0,.slice none 0 0].toArray 124 (0,0))⟩]) ?_
     refine B3 7 ⟨⟨_,rfl,rfl,rfl,rfl,rfl,rfl,fun q=>Ef.alloc zeroValue240⟩,⟨_,rfl,rfl,rfl,rfl,rfl,rfl,fun q=>Ef.alloc zeroValue124⟩,trivial⟩ call184 (Le.refl _) (IH (.mk k3 z3 s3 l3 o3 p3 y3 u3 w3) (by have:=Vk (List.getElem_mem hlt);rw [hy] at this;simp only [Ex.sz] at this⊢;omega) (by have:=Mf ht2 (by rw [Yg];exact List.mem_map_of_mem (List.getElem_mem hlt));rw [hy] at this;exact this) (f:=g) knA (Kn.le (by have:=Lu h hlt;rw [hy] at this;exact this) leA)) ?_ (hL:=(hlA (h:=by repeat first|exact trivial|refine ⟨clA,?_⟩|refine ⟨hrw _ leA 0 _ rfl,?_⟩|refine ⟨hrw _ leA 1 _ rfl,?_⟩|refine ⟨hrw _ leA 2 _ rfl,?_⟩|refine ⟨hrw _ leA 3 _ rfl,?_⟩|refine ⟨hrw _ leA 4 _ rfl,?_⟩|refine ⟨hrw _ leA 5 _ rfl,?_⟩|refine ⟨hrw _ leA 6 _ rfl,?_⟩)))
     rintro _ _ ⟨g2,⟨k2,z2,s2,l2,o2,p2,y2,u2,w2⟩,rfl,rfl,hge⟩
     refine ⟨(hlA (h:=by repeat first|exact trivial|refine ⟨clA,?_⟩|refine ⟨hrw _ leA 0 _ rfl,?_⟩|refine ⟨hrw _ leA 1 _ rfl,?_⟩|refine ⟨hrw _ leA 2 _ rfl,?_⟩|refine ⟨hrw _ leA 3 _ rfl,?_⟩|refine ⟨hrw _ leA 4 _ rfl,?_⟩|refine ⟨hrw _ leA 5 _ rfl,?_⟩|refine ⟨hrw _ leA 6 _ rfl,?_⟩)),?_⟩
     refine Qu 8 ⟨⟨_,rfl,rfl,rfl,rfl,rfl,rfl,fun q=>Ef.alloc zeroValue240⟩,⟨_,rfl,rfl,rfl,rfl,rfl,rfl,fun q=>Ef.alloc zeroValue124⟩,trivial⟩ (Pu.move rfl) ?_ (hL:=(hlA (h:=by repeat first|exact trivial|refine ⟨clA,?_⟩|refine ⟨hrw _ leA 0 _ rfl,?_⟩|refine ⟨hrw _ leA 1 _ rfl,?_⟩|refine ⟨hrw _ leA 2 _ rfl,?_⟩|refine ⟨hrw _ leA 3 _ rfl,?_⟩|refine ⟨hrw _ leA 4 _ rfl,?_⟩|refine ⟨hrw _ leA 5 _ rfl,?_⟩|refine ⟨hrw _ leA 6 _ rfl,?_⟩)))
     refine Qu 9 ⟨⟨_,rfl,rfl,rfl,rfl,rfl,rfl,fun q=>Ef.alloc zeroValue240⟩,⟨_,rfl,rfl,rfl,rfl,rfl,rfl,fun q=>Ef.alloc zeroValue124⟩,trivial⟩ (Pu.extract rfl rfl) ?_ (hL:=(hlA (h:=by repeat first|exact trivial|refine ⟨clA,?_⟩|refine ⟨hrw _ leA 0 _ rfl,?_⟩|refine ⟨hrw _ leA 1 _ rfl,?_⟩|refine ⟨hrw _ leA 2 _ rfl,?_⟩|refine ⟨hrw _ leA 3 _ rfl,?_⟩|refine ⟨hrw _ leA 4 _ rfl,?_⟩|refine ⟨hrw _ leA 5 _ rfl,?_⟩|refine ⟨hrw _ leA 6 _ rfl,?_⟩)))
     refine Qu 10 ⟨⟨_,rfl,rfl,rfl,rfl,rfl,rfl,fun q=>Ef.alloc zeroValue240⟩,⟨_,rfl,rfl,rfl,rfl,rfl,rfl,fun q=>Ef.alloc zeroValue124⟩,trivial⟩ (Pu.extract rfl rfl) ?_ (hL:=(hlA (h:=by repeat first|exact trivial|refine ⟨clA,?_⟩|refine ⟨hrw _ leA 0 _ rfl,?_⟩|refine ⟨hrw _ leA 1 _ rfl,?_⟩|refine ⟨hrw _ leA 2 _ rfl,?_⟩|refine ⟨hrw _ leA 3 _ rfl,?_⟩|refine ⟨hrw _ leA 4 _ rfl,?_⟩|refine ⟨hrw _ leA 5 _ rfl,?_⟩|refine ⟨hrw _ leA 6 _ rfl,?_⟩)))
     refine Vj (e0:=⟨11,14,fun g=> .pointer (some ⟨g,0,none⟩),fun g=>pto g (.cells [.slice none 0 0,.slice none 0 0,.int .i64 0,.int .i64 0,.slice none 0 0,.slice none 0 0,.int .i64 0,.int .i64 0,.slice none 0 0,.slice none 0 0,.slice none 0 0,.slice none 0 0,.slice none 0 0,.slice none 0 0,.int .i64 0,.int .i64 0,.int .i64 0,.int .i64 0,.int .i64 0,.int .i64 0].toArray 240 (0,0))⟩) (hnd:=by simp) 11 ⟨⟨_,rfl,rfl,rfl,rfl,rfl,rfl,fun q=>Ef.alloc zeroValue240⟩,⟨_,rfl,rfl,rfl,rfl,rfl,rfl,fun q=>Ef.alloc zeroValue124⟩,trivial⟩ (fun ga=> ?_) (hL:=(hlA (h:=by repeat first|exact trivial|refine ⟨clA,?_⟩|refine ⟨hrw _ leA 0 _ rfl,?_⟩|refine ⟨hrw _ leA 1 _ rfl,?_⟩|refine ⟨hrw _ leA 2 _ rfl,?_⟩|refine ⟨hrw _ leA 3 _ rfl,?_⟩|refine ⟨hrw _ leA 4 _ rfl,?_⟩|refine ⟨hrw _ leA 5 _ rfl,?_⟩|refine ⟨hrw _ leA 6 _ rfl,?_⟩)))
     change XF _ _ _ _ _ _ _ [⟨12,15,fun g=> .pointer (some ⟨g,0,none⟩),fun g=>pto g (.cells [.int .i64 0,.int .i64 0,.string ⟨#[]⟩,.int .i64 0,.bool false,.int .i64 0,.slice none 0 0].toArray 124 (0,0))⟩] _ _ _ ((14,.pointer (some ⟨ga,0,none⟩))::_) _ _ (pto ga (.cells [.slice none 0 0,.slice none 0 0,.int .i64 0,.int .i64 0,.slice none 0 0,.slice none 0 0,.int .i64 0,.int .i64 0,.slice none 0 0,.slice none 0 0,.slice none 0 0,.slice none 0 0,.slice none 0 0,.slice none 0 0,.int .i64 0,.int .i64 0,.int .i64 0,.int .i64 0,.int .i64 0,.int .i64 0].toArray 240 (0,0))::_)
     refine Vj (e0:=⟨12,15,fun g=> .pointer (some ⟨g,0,none⟩),fun g=>pto g (.cells [.int .i64 0,.int .i64 0,.string ⟨#[]⟩,.int .i64 0,.bool false,.int .i64 0,.slice none 0 0].toArray 124 (0,0))⟩) (hnd:=by simp) 12 ⟨⟨_,rfl,rfl,rfl,rfl,rfl,rfl,fun q=>Ef.alloc zeroValue124⟩,trivial⟩ (fun gb=> ?_) (hL:=(hlA (h:=by repeat first|exact trivial|refine ⟨clA,?_⟩|refine ⟨hrw _ leA 0 _ rfl,?_⟩|refine ⟨hrw _ leA 1 _ rfl,?_⟩|refine ⟨hrw _ leA 2 _ rfl,?_⟩|refine ⟨hrw _ leA 3 _ rfl,?_⟩|refine ⟨hrw _ leA 4 _ rfl,?_⟩|refine ⟨hrw _ leA 5 _ rfl,?_⟩|refine ⟨hrw _ leA 6 _ rfl,?_⟩)))
     change XF _ _ _ _ _ _ _ [] _ _ _ ((15,.pointer (some ⟨gb,0,none⟩))::_) _ _ (pto gb (.cells [.int .i64 0,.int .i64 0,.string ⟨#[]⟩,.int .i64 0,.bool false,.int .i64 0,.slice none 0 0].toArray 124 (0,0))::_)
     refine XF.back ?_ (hL:=(hlA (h:=by repeat first|exact trivial|refine ⟨clA,?_⟩|refine ⟨hrw _ leA 0 _ rfl,?_⟩|refine ⟨hrw _ leA 1 _ rfl,?_⟩|refine ⟨hrw _ leA 2 _ rfl,?_⟩|refine ⟨hrw _ leA 3 _ rfl,?_⟩|refine ⟨hrw _ leA 4 _ rfl,?_⟩|refine ⟨hrw _ leA 5 _ rfl,?_⟩|refine ⟨hrw _ leA 6 _ rfl,?_⟩)))
     refine V1 13 ?_;refine V1 14 ?_;refine XD.nil ?_;refine xo 2 ?_;refine ldA ?_;refine stA ?_;refine oo 3 ?_;refine ldA ?_;refine XO.ef (Yj (u:=(.mk k2 z2 s2 l2 o2 p2 y2 u2 w2)) exC underlying122 Um rfl rfl Z4 rfl) ?_
     rintro _ _ ⟨gl,rfl,rfl⟩
     refine XO.ef (Yq (f:=exC) (l:=out) (m:= [(.mk k2 z2 s2 l2 o2 p2 y2 u2 w2)]) underlying122 Um rfl rfl Z4 rfl rfl Zk ((Sees.rsH _).le Zk) Fv (by simp;omega) (by simp;omega)) ?_
     rintro _ _ ⟨a3,c3,rfl,rfl⟩
     refine ox 8 ?_;refine X.exs (l:=out) (e:=(.mk k2 z2 s2 l2 o2 p2 y2 u2 w2)) Zk Zk ?_
     have hst:R=((Fnd.exprs g2.er (Z3 (args.drop (out.length+1)))).1,.mk k z nm sl2 lo2 op (Z3 (out++ [(.mk k2 z2 s2 l2 o2 p2 y2 u2 w2)])++(Fnd.exprs g2.er (Z3 (args.drop (out.length+1)))).2)):=by
      rw [hi3,List.drop_eq_getElem_cons hlt,hy,Dp];simp only [Z3,Fnd.exprs,←hge,List.append_assoc,List.singleton_append]
     refine X.at (ih (g2,(a3,c3,out++ [(.mk k2 z2 s2 l2 o2 p2 y2 u2 w2)]),_) ⟨by simp;omega,rfl,by rw [List.length_append];exact hst⟩ (by simp;omega)) Zd leA
   replace h0:=sp h0;have hl:out.length=args.length:=by omega
   refine xo 6 ?_;refine st ?_;refine ox 2 ?_;refine drw ?_;refine Ji 0 ?_;refine Ji 1 ?_;refine V1 2 ?_;refine V1 3 ?_;refine XD.nil ?_;refine X.fzEs (kd:=k) (n:=z) (nm:=nm) (slot:=sl2) (loc:=lo2) (op:=op) ?_
   refine Zq (fcM g::exM (.mk k z nm sl2 lo2 op out a c)::q) func184 (I6 results184) ⟨_,rfl,g,(.mk k z nm sl2 lo2 op out a c),rfl,rfl,by rw [hi3,hl,List.drop_length];simp only [Z3,Fnd.exprs,List.append_nil,Ex.er]⟩
 have hcl:k=2∨k=3∨ ¬ (k=2∨k=3):=by omega
 rcases hcl with rfl|rfl|hcl
 · rw [if_pos rfl] at hR
   refine xx 6 ?_;refine X.kt 18 ?_;refine xo 3 ?_;refine ldA ?_;refine ol 1 ?_;refine ldA ?_;refine Zf call186 (Le.refl _) (wants_ok (f:=f) (Kn.le hf)) ?_
   rintro _ _ ⟨g,x,rfl,rfl,hw⟩
   refine oo 3 ?_;refine XO.al zeroValue240 fun n6=> ?_
   refine XO.al zeroValue245 fun n7=> ?_
   refine stA ?_;refine stA ?_;refine oo 3 ?_;refine ldA ?_;refine stA ?_;refine ox 1 ?_;refine drw ?_;refine dl [0] 1 ?_;refine dl [2] 3 ?_;refine dd [4,5] ?_;refine stD 6 ?_;refine dd [7] ?_;refine stD 8 ?_;refine XD.nil ?_;refine xx 1 ?_
   rw [←hw] at hR;dsimp only at hR
   exact X.at (K (g,x.s,x.k==100) hR.symm) Zd leA
 · rw [if_neg (by decide),if_pos rfl] at hR
   refine xx 6 ?_;refine kx 18 6 ?_;refine X.kt 36 ?_;refine xo 3 ?_;refine ldA ?_;refine ol 1 ?_;refine ldA ?_;refine Zf call186 (Le.refl _) (wants_ok (f:=f) (Kn.le hf)) ?_
   rintro _ _ ⟨g,x,rfl,rfl,hw⟩
   refine oo 3 ?_;refine XO.al zeroValue240 fun n6=> ?_
   refine XO.al zeroValue245 fun n7=> ?_
   refine stA ?_;refine stA ?_;refine oo 3 ?_;refine ldA ?_;refine stA ?_;refine ol 3 ?_;refine oo 1 ?_;refine st ?_;refine ox 2 ?_
   rw [←hw] at hR;dsimp only at hR
   exact X.at (K (g,x.s,lo) hR.symm) Zd leA
 rw [if_neg (fun e=>hcl (.inl e)),if_neg (fun e=>hcl (.inr e))] at hR
 refine xx 6 ?_;refine X.know 18 (.bool false) rfl (congrArg Value.bool (beq_eq_false_iff_ne.2 (by omega))) ?_
 refine xx 6 ?_;refine X.know 36 (.bool false) rfl (congrArg Value.bool (beq_eq_false_iff_ne.2 (by omega))) ?_
 refine xx 3 ?_;refine X.le (q':=fcM f::_) (Kn.add (Kn.le hf)) ?_
 exact X.at (K (f,sl,lo) hR.symm) Zd leA
theorem Bt: ∀ (N:Nat) (x:Ex),x.sz≤N→x.er.thin→ ∀ {f:FC} {pl pc:Int} {q:List HP},(Kn q fun M=>f.At M)→(Kn q fun M=>x.At M)→CallF prog G 184 [.agg (fcC f).toArray,.agg (exC x).toArray,.agg [.int .i64 pl,.int .i64 pc].toArray] q (Ret fun v q'=> ∃ (g:FC) (y:Ex),v= .tuple [.agg (fcC g).toArray,.agg (exC y).toArray].toArray∧q'=fcM g::exM y::q∧(g.er,y.er)=f.er.expr x.er)
 |N,x,hN,ht,_,_,_,_,hf,hx=>Pd (fun y hy hty _ _ _ _ h1 h2=>by
  cases N with
  |zero=>omega
  |succ N=>exact Bt N y (by omega) hty h1 h2) hf hx ht
end
theorem Fnd.fl_eq (f:Fnd)(w:Int): ∃ x,f.fl w= { f with flaw:=x } :=by unfold Fnd.fl;split;exact ⟨_,rfl⟩;exact ⟨f.flaw,rfl⟩
theorem Fnd.wants_eq (f:Fnd)(s:ByteArray)(a b:Int): ∃ x,(f.wants s a b).1= { f with flaw:=x } :=by
 unfold Fnd.wants
 split
 · exact f.fl_eq 131
 dsimp only;split
 · exact f.fl_eq 132
 exact ⟨f.flaw,rfl⟩
mutual
theorem T9: ∀ (e:PEx) (f:Fnd),∃ x,(f.expr e).1= { f with flaw:=x }
 | .mk k n nm slot loc op args,f=>by
  simp only [Fnd.expr]
  split
  · obtain ⟨x,hx⟩:=f.wants_eq nm 1 100;obtain ⟨y,hy⟩:=Qa args (f.wants nm 1 100).1;exact ⟨y,by rw [hy,hx]⟩
  split
  · obtain ⟨x,hx⟩:=f.wants_eq nm 2 2;obtain ⟨y,hy⟩:=Qa args (f.wants nm 2 2).1;exact ⟨y,by rw [hy,hx]⟩
  exact Qa args f
theorem Qa: ∀ (l:List PEx) (f:Fnd),∃ x,(f.exprs l).1= { f with flaw:=x }
 | [],f=>⟨f.flaw,rfl⟩
 |e::r,f=>by
  simp only [Fnd.exprs]
  obtain ⟨x,hx⟩:=T9 e f;obtain ⟨y,hy⟩:=Qa r (f.expr e).1;exact ⟨y,by rw [hy,hx]⟩
end
structure Fnd.To (f g:Fnd) (N:Nat):Prop where
 n:g.names.length≤f.names.length+N
 l:f.locals≤g.locals∧g.locals≤f.locals+N
 s:f.stm≤g.stm
 e:g.vars=f.vars∧g.arrs=f.arrs∧g.mu=f.mu∧g.co=f.co∧g.chs=f.chs∧g.ths=f.ths∧g.main=f.main∧g.nv=f.nv∧g.na=f.na∧g.nm=f.nm∧g.nc=f.nc∧g.nh=f.nh∧g.cells=f.cells
theorem Fnd.To.flaw (f:Fnd)(x:Int):f.To { f with flaw:=x } 0:=⟨Nat.le_refl _,⟨Int.le_refl _,by dsimp only;omega⟩,Int.le_refl _,rfl,rfl,rfl,rfl,rfl,rfl,rfl,rfl,rfl,rfl,rfl,rfl,rfl⟩
theorem Fnd.To.refl (f:Fnd):f.To f 0:=Fnd.To.flaw f f.flaw
theorem Fnd.To.trans {f g h:Fnd}{N M:Nat}(a:f.To g N)(b:g.To h M):f.To h (N+M):=by
 obtain ⟨a1,a2,a3,a4⟩:=a;obtain ⟨b1,b2,b3,b4⟩:=b
 refine ⟨by omega,by omega,by omega,?_⟩
 obtain ⟨x1,x2,x3,x4,x5,x6,x7,x8,x9,x10,x11,x12,x13⟩:=a4
 obtain ⟨y1,y2,y3,y4,y5,y6,y7,y8,y9,y10,y11,y12,y13⟩:=b4
 exact ⟨y1.trans x1,y2.trans x2,y3.trans x3,y4.trans x4,y5.trans x5,y6.trans x6,y7.trans x7,y8.trans x8,y9.trans x9,y10.trans x10,y11.trans x11,y12.trans x12,y13.trans x13⟩
theorem Fnd.To.up {f g:Fnd}{N M:Nat}(a:f.To g N)(h:N≤M):f.To g M:=⟨by have:=a.n;omega,by have:=a.l;omega,a.s,a.e⟩
theorem Fnd.To.back {f g:Fnd}{N:Nat}(a:f.To g N)(h:Fnd){M:Nat}(hn:h.names.length≤f.names.length+M)(hl:f.locals≤h.locals∧h.locals≤f.locals+M):f.To { g with names:=h.names,locals:=h.locals } M:=⟨hn,hl,a.s,a.e⟩
theorem Fnd.To.wants (f:Fnd)(s:ByteArray)(a b:Int):f.To (f.wants s a b).1 0:=by obtain ⟨x,hx⟩:=f.wants_eq s a b;rw [hx];exact .flaw f x
theorem Fnd.To.expr (f:Fnd)(e:PEx):f.To (f.expr e).1 0:=by obtain ⟨x,hx⟩:=T9 e f;rw [hx];exact .flaw f x
theorem Fnd.To.fl (f:Fnd)(w:Int):f.To (f.fl w) 0:=by obtain ⟨x,hx⟩:=f.fl_eq w;rw [hx];exact .flaw f x
theorem Fnd.To.loc1 (f:Fnd)(s:ByteArray):f.To (f.loc1 s) 0:=by unfold Fnd.loc1;split;exact .fl f _;exact .refl f
theorem Fnd.To.loc2 (f:Fnd):f.To f.loc2 0:=by unfold Fnd.loc2;split;exact .fl f _;exact .refl f
theorem Fnd.To.own1 (f:Fnd)(k:Int)(nm:ByteArray)(sl:Int)(lo:Bool):f.To (f.own1 k nm sl lo).1 0:=by unfold Fnd.own1;split;exact .wants ..;exact .refl f
theorem Fnd.To.own2 (f:Fnd)(k:Int)(nm wt:ByteArray)(sl ot:Int)(lo:Bool):f.To (f.own2 k nm wt sl ot lo).1 1:=by
 unfold Fnd.own2
 split
 · have h:=(Fnd.To.loc1 f nm).trans (Fnd.To.loc2 (f.loc1 nm))
   refine ⟨by have:=h.n;simp [Fnd.loc3];omega,by have:=h.l;simp only [Fnd.loc3];omega,h.s,h.e⟩
 split
 · exact (Fnd.To.wants f ..).up (by decide)
 split
 · exact (Fnd.To.wants f ..).up (by decide)
 exact (Fnd.To.refl f).up (by decide)
theorem Fnd.To.own (f:Fnd)(k:Int)(nm wt:ByteArray)(sl ot:Int)(lo:Bool):f.To (f.own k nm wt sl ot lo).1 1:=(Fnd.To.own1 f k nm sl lo).trans (Fnd.To.own2 _ k nm wt _ ot _)
theorem Fnd.To.stm (f:Fnd)(n:Int)(h:f.stm≤n):f.To { f with stm:=n } 0:=⟨Nat.le_refl _,⟨Int.le_refl _,by dsimp only;omega⟩,h,rfl,rfl,rfl,rfl,rfl,rfl,rfl,rfl,rfl,rfl,rfl,rfl,rfl⟩
mutual
theorem Fnd.To.stmt: ∀ (s:PStm) (f:Fnd),f.To (f.stmt s).1 1
 | .mk k ln cl nm wt e ix body els id slot other loc,f=>by
  simp only [Fnd.stmt]
  split
  · exact (Fnd.To.fl f _).up (by decide)
  dsimp only
  have h1:=(Fnd.To.stm f (f.stm+1) (by omega)).trans ((Fnd.To.expr { f with stm:=f.stm+1 } ix).trans (Fnd.To.expr _ e))
  have h2:=h1.trans (Fnd.To.own _ k nm wt slot other loc)
  obtain ⟨g,hg⟩: ∃ g,Fnd.own (Fnd.expr (Fnd.expr { f with stm:=f.stm+1 } ix).1 e).1 k nm wt slot other loc=g:=⟨_,rfl⟩
  rw [hg]
  have h3:f.To g.1 1:=by rw [←hg];exact h2
  have h4:=h3.trans (Fnd.To.blk body g.1)
  have h5:=(h4.back g.1 h3.n h3.l).trans (Fnd.To.blk els _)
  exact h5.back g.1 h3.n h3.l
theorem Fnd.To.blk: ∀ (l:List PStm) (f:Fnd),f.To (f.blk l).1 l.length
 | [],f=> .refl f
 |s::r,f=>by
  simp only [Fnd.blk]
  split
  · exact ((Fnd.To.stmt s f).trans (Fnd.To.blk r (f.stmt s).1)).up (by simp;omega)
  exact (Fnd.To.refl f).up (by simp)
end
mutual
def PStm.thin:PStm→Prop
 | .mk _ _ _ _ _ e ix body els _ _ _ _=>e.thin∧ix.thin∧Wr body∧Wr els
def Wr:List PStm→Prop
 | []=>True
 |s::r=>s.thin∧Wr r
end
theorem Hn {x:PStm}: ∀ {l:List PStm},Wr l→x∈l→x.thin
 |y::r,⟨h1,h2⟩,h=>by
  rcases List.mem_cons.1 h with rfl|h
  · exact h1
  exact Hn h2 h
mutual
theorem Do: ∀ {s:PStm} {n:Nat},s.may n=true→s.thin
 | .mk k _ _ nm wt e ix body els _ _ _ _,n,h=>by
  simp only [PStm.may] at h
  split at h;cases h
  split at h;cases h
  split at h;cases h
  rename_i h3
  split at h;cases h
  rw [Bool.and_eq_true] at h
  have he:e.thin:=by
   unfold Gi at h3
   cases hE:Ds k with
   |true=>exact Jz (d:=24) (by cases hr:e.right 24 with|true=>rfl|false=>simp [hE,hr] at h3)
   |false=>exact N4 (by cases hr:e.nil with|true=>rfl|false=>simp [hE,hr] at h3)
  have hi:ix.thin:=by
   unfold Gi at h3
   rcases Classical.em (k=3) with hk|hk
   · exact Jz (d:=24) (by cases hr:ix.right 24 with|true=>rfl|false=>simp [hk,hr] at h3)
   exact N4 (by cases hr:ix.nil with|true=>rfl|false=>simp [hk,hr] at h3)
  exact ⟨he,hi,Ur h.1,Ur h.2⟩
theorem Ur: ∀ {l:List PStm} {n:Nat},Yy l n=true→Wr l
 | [],_,_=>trivial
 |s::r,n,h=>by
  simp only [Yy,Bool.and_eq_true] at h
  exact ⟨Do h.1,Ur h.2⟩
end
theorem Aq {f:Fnd}{k ln cl:Int}{nm wt:ByteArray}{e ix:PEx}{body els:List PStm}{id slot other:Int}{loc:Bool}{a b:Fnd×PEx}{c:Fnd×Int×Int×Bool}{x y:Fnd×List PStm}(h: ¬512≤f.stm)(ha:a=Fnd.expr { f with stm:=f.stm+1 } ix)(hb:b=a.1.expr e)(hc:c=b.1.own k nm wt slot other loc)(hx:x=c.1.block body)(hy:y=x.1.block els):
 f.stmt (.mk k ln cl nm wt e ix body els id slot other loc)=(y.1,.mk k ln cl nm wt b.2 a.2 x.2 y.2 f.stm c.2.1 c.2.2.1 c.2.2.2):=by
 subst ha hb hc hx hy;simp only [Fnd.stmt,if_neg h];rfl
theorem FC.At.s {M:Hp}{f:FC}{n:Int}(h:f.At M):({ f with stm:=n } :FC).At M:=⟨h.vars,h.arrs,h.chs,h.ths,h.bod,h.nv,h.na,h.nm,h.nc,h.nh,h.names⟩
theorem FC.At.l {M:Hp}{f:FC}{x:Sv Nm}{n m:Int}(h:f.At M)(h1:x.At M nmC):({ f with names:=x,locals:=n,most:=m } :FC).At M:=⟨h.vars,h.arrs,h.chs,h.ths,h.bod,h.nv,h.na,h.nm,h.nc,h.nh,h1⟩
theorem FC.At.b {M:Hp}{f g:FC}{n:Int}(h:f.At M)(h1:g.At M):({ f with names:=g.names,locals:=n } :FC).At M:=⟨h.vars,h.arrs,h.chs,h.ths,h.bod,h.nv,h.na,h.nm,h.nc,h.nh,h1.names⟩
section
variable {G:World}{q:List HP}{f:FC}{x:Stm}{m:List Stm}{a:Option Addr}{c:Nat}
set_option maxHeartbeats 8000000 in
theorem Px (IH: ∀ (m:List Stm) (a:Option Addr) (c:Nat),Zh m<x.sz→Wr (Zj m)→ ∀ {f:FC} {q:List HP},(Kn q fun M=>f.At M)→(Kn q fun M=>BlkAt M a c m)→(f.names.l.length+Zh m≤300000∧(0≤f.locals∧f.locals+Zh m≤300000)∧0≤f.stm)→CallF prog G 121 [.agg (fcC f).toArray,.slice a m.length c] q (Ret fun v q'=> ∃ (g:FC) (b:Option Addr) (d:Nat) (m':List Stm),v= .tuple [.agg (fcC g).toArray,.slice b m'.length d].toArray∧q'=fcM g::blM b d m'::q∧(g.er,Zj m')=f.er.block (Zj m)))(hf:Kn q fun M=>f.At M)(h:Kn q fun M=>x.At M)(ht:x.er.thin)(hb:(f.names.l.length+x.sz≤300000∧(0≤f.locals∧f.locals+x.sz≤300000)∧0≤f.stm)):CallF prog G 157 [.agg (fcC f).toArray,.agg (stC x).toArray] (q) (Ret fun v q'=> ∃ (g:FC) (y:Stm),v= .tuple [.agg (fcC g).toArray,.agg (stC y).toArray].toArray∧q'=fcM g::stM y::q∧(g.er,y.er)=f.er.stmt x.er):=by
 refine CallF.of func157 ntmps157 rfl (fun F cs=> ?_)
 obtain ⟨k,ln,cl,nm,wt,⟨k1,z1,s1,l1,o1,p1,y1,u1,w1⟩,⟨k2,z2,s2,l2,o2,p2,y2,u2,w2⟩,body,els,ba,bc,ea,ec,id,slot,other,loc⟩:=x
 obtain ⟨ht1,ht2,ht3,ht4⟩:=ht;have hE:=Ln h;have hX:=Lh h;have hB:=Lp h;have hL:=Lm h;simp only [Stm.sz] at hb;obtain ⟨hb1,⟨hb2,hb3⟩,hb4⟩:=hb
 refine xo 2 ?_;refine Y8 fun n1=> ?_
 refine Y8 fun n2=> ?_
 refine XO.al zeroValue240 fun n3=> ?_
 refine XO.al zeroValue126 fun n4=> ?_
 refine ol 6 ?_;refine ox 2 ?_;refine X.part 18 rfl (fun h0=> ?_) (fun h0=> ?_)
 · replace h0:=sp h0;have h512:512≤f.er.stm:=h0
   refine xx 2 ?_;refine drw ?_;refine Ji 0 ?_;refine dd [1] ?_;refine Ji 2 ?_;refine Ji 4 ?_;refine Y5 3 call120 (Le.refl _) (V8 (f:=f) (Kn.le hf)) ?_
   rintro _ _ ⟨gf,rfl,rfl,hg⟩
   refine ⟨hlA,?_⟩
   refine V1 5 ?_;refine V1 6 ?_;refine XD.nil ?_;refine X.le (q':=stM (.mk k ln cl nm wt (.mk k1 z1 s1 l1 o1 p1 y1 u1 w1) (.mk k2 z2 s2 l2 o2 p2 y2 u2 w2) body els ba bc ea ec id slot other loc)::_) (Kn.add (Kn.le h)) ?_
   refine Zq (fcM gf::stM (.mk k ln cl nm wt (.mk k1 z1 s1 l1 o1 p1 y1 u1 w1) (.mk k2 z2 s2 l2 o2 p2 y2 u2 w2) body els ba bc ea ec id slot other loc)::q) func157 (I6 results157) ⟨_,rfl,gf,(.mk k ln cl nm wt (.mk k1 z1 s1 l1 o1 p1 y1 u1 w1) (.mk k2 z2 s2 l2 o2 p2 y2 u2 w2) body els ba bc ea ec id slot other loc),rfl,rfl,by simp only [Stm.er,Fnd.stmt,if_pos h512,hg]⟩
 replace h0:=sp h0;have h512: ¬512≤f.er.stm:=(by show ¬512≤f.stm;omega)
 refine xj 6 ?_;refine oo 1 ?_;refine st ?_;refine ol 5 ?_;refine oo 3 ?_;refine st ?_;refine oo 3 ?_;refine ldA ?_;refine oo 1 ?_;refine ldA ?_;refine oo 1 ?_;refine ldA ?_;refine Zf call184 (Le.refl _) (Bt _ (.mk k2 z2 s2 l2 o2 p2 y2 u2 w2) (Nat.le_refl _) ht2 (f:=({ f with stm:=f.stm+1 } :FC)) ((Kn.le hf).imp fun M h=>FC.At.s h) (Kn.le hX)) ?_
 rintro _ _ ⟨g1,⟨k3,z3,s3,l3,o3,p3,y3,u3,w3⟩,rfl,rfl,he1⟩
 refine oo 3 ?_;refine stA ?_;refine oo 1 ?_;refine stA ?_;refine oo 3 ?_;refine ldA ?_;refine oo 1 ?_;refine ldA ?_;refine oo 1 ?_;refine ldA ?_;refine Zf call184 (Le.refl _) (Bt _ (.mk k1 z1 s1 l1 o1 p1 y1 u1 w1) (Nat.le_refl _) ht1 (f:=g1) knA (Kn.le hE)) ?_
 rintro _ _ ⟨g2,⟨k4,z4,s4,l4,o4,p4,y4,u4,w4⟩,rfl,rfl,he2⟩
 have hto:f.er.To g2.er 0:=by have h1:=(Fnd.To.stm f.er (f.stm+1) (by show f.stm≤f.stm+1;omega)).trans ((Fnd.To.expr _ _).trans (Fnd.To.expr (Fnd.expr { f.er with stm:=f.stm+1 } (Ex.er (.mk k2 z2 s2 l2 o2 p2 y2 u2 w2))).1 (Ex.er (.mk k1 z1 s1 l1 o1 p1 y1 u1 w1))));rw [show g2.er=(Fnd.expr (Fnd.expr { f.er with stm:=f.stm+1 } (Ex.er (.mk k2 z2 s2 l2 o2 p2 y2 u2 w2))).1 (Ex.er (.mk k1 z1 s1 l1 o1 p1 y1 u1 w1))).1 from by rw [show (Fnd.expr { f.er with stm:=f.stm+1 } (Ex.er (.mk k2 z2 s2 l2 o2 p2 y2 u2 w2))).1=g1.er from (congrArg Prod.fst he1).symm];exact congrArg Prod.fst he2];exact h1
 refine oo 3 ?_;refine stA ?_;refine oo 1 ?_;refine stA ?_;refine ol 4 ?_;refine oo 5 ?_;refine XO.cR call185 (want_ok) ?_;refine ox 12 ?_;refine X.join (fun (x:FC×Int×Bool)=> [(2,.pointer (some ⟨n1,0,none⟩)),(3,.pointer (some ⟨n2,0,none⟩)),(4,.pointer (some ⟨n3,0,none⟩)),(5,.pointer (some ⟨n4,0,none⟩)),(6,.int .i64 k)]) (fun x=>fcM x.1::pto n1 (.cells (fcC x.1).toArray 240 (0,0))::pto n2 (.cells (stC (.mk k ln cl nm wt (.mk k4 z4 s4 l4 o4 p4 y4 u4 w4) (.mk k3 z3 s3 l3 o3 p3 y3 u3 w3) body els ba bc ea ec f.stm x.2.1 other x.2.2)).toArray 126 (0,0))::pto n3 (.cells [.slice none 0 0,.slice none 0 0,.int .i64 0,.int .i64 0,.slice none 0 0,.slice none 0 0,.int .i64 0,.int .i64 0,.slice none 0 0,.slice none 0 0,.slice none 0 0,.slice none 0 0,.slice none 0 0,.slice none 0 0,.int .i64 0,.int .i64 0,.int .i64 0,.int .i64 0,.int .i64 0,.int .i64 0].toArray 240 (0,0))::pto n4 (.cells [.int .i64 0,.int .i64 0,.int .i64 0,.string ⟨#[]⟩,.string ⟨#[]⟩,.int .i64 0,.int .i64 0,.string ⟨#[]⟩,.int .i64 0,.bool false,.int .i64 0,.slice none 0 0,.int .i64 0,.int .i64 0,.string ⟨#[]⟩,.int .i64 0,.bool false,.int .i64 0,.slice none 0 0,.slice none 0 0,.slice none 0 0,.int .i64 0,.int .i64 0,.int .i64 0,.bool false].toArray 126 (0,0))::exM (.mk k3 z3 s3 l3 o3 p3 y3 u3 w3)::exM (.mk k4 z4 s4 l4 o4 p4 y4 u4 w4)::(q++F)) (fun x=>x=(x.1,x.2.1,x.2.2)∧(x.1.er,x.2.1,x.2.2)=g2.er.own1 k nm slot loc∧f.er.To x.1.er 0) (fun x hx_=> ?_) (fun K=> ?_)
 · obtain ⟨g,sl,lo⟩:=x;dsimp only at hx_⊢;obtain ⟨_,hw1,hto1⟩:=hx_;clear hto
   refine xx 5 ?_;refine X.join (fun (x:FC×Int×Int×Bool)=> [(2,.pointer (some ⟨n1,0,none⟩)),(3,.pointer (some ⟨n2,0,none⟩)),(4,.pointer (some ⟨n3,0,none⟩)),(5,.pointer (some ⟨n4,0,none⟩))]) (fun x=>fcM x.1::pto n1 (.cells (fcC x.1).toArray 240 (0,0))::pto n2 (.cells (stC (.mk k ln cl nm wt (.mk k4 z4 s4 l4 o4 p4 y4 u4 w4) (.mk k3 z3 s3 l3 o3 p3 y3 u3 w3) body els ba bc ea ec f.stm x.2.1 x.2.2.1 x.2.2.2)).toArray 126 (0,0))::pto n3 (.cells [.slice none 0 0,.slice none 0 0,.int .i64 0,.int .i64 0,.slice none 0 0,.slice none 0 0,.int .i64 0,.int .i64 0,.slice none 0 0,.slice none 0 0,.slice none 0 0,.slice none 0 0,.slice none 0 0,.slice none 0 0,.int .i64 0,.int .i64 0,.int .i64 0,.int .i64 0,.int .i64 0,.int .i64 0].toArray 240 (0,0))::pto n4 (.cells [.int .i64 0,.int .i64 0,.int .i64 0,.string ⟨#[]⟩,.string ⟨#[]⟩,.int .i64 0,.int .i64 0,.string ⟨#[]⟩,.int .i64 0,.bool false,.int .i64 0,.slice none 0 0,.int .i64 0,.int .i64 0,.string ⟨#[]⟩,.int .i64 0,.bool false,.int .i64 0,.slice none 0 0,.slice none 0 0,.slice none 0 0,.int .i64 0,.int .i64 0,.int .i64 0,.bool false].toArray 126 (0,0))::exM (.mk k3 z3 s3 l3 o3 p3 y3 u3 w3)::exM (.mk k4 z4 s4 l4 o4 p4 y4 u4 w4)::(q++F)) (fun x=>(x.1.er,x.2.1,x.2.2.1,x.2.2.2)=g.er.own2 k nm wt sl other lo) (fun x hx_=> ?_) (fun K2=> ?_)
   · obtain ⟨g3,sl3,ot3,lo3⟩:=x;dsimp only at hx_⊢
     have hto3:f.er.To g3.er 1:=by have h1:=hto1.trans (Fnd.To.own2 g.er k nm wt sl other lo);rw [←hx_] at h1;exact h1
     have hto4:=hto3;obtain ⟨hn3,⟨hl3,hm3⟩,hs3,_⟩:=hto4;dsimp only [FC.er] at hn3 hl3 hm3 hs3
     refine xo 2 ?_;refine ldA ?_;refine ol 1 ?_;refine Zf call121 (Le.refl _) (IH body ba bc (by simp only [Stm.sz];omega) ht3 (f:=g3) knA (Kn.le hB) ⟨by omega,⟨by omega,by omega⟩,by omega⟩) ?_
     rintro _ _ ⟨g5,a5,c5,l5,rfl,rfl,hb5⟩
     have h51:g5.er.names=g3.er.names:=by rw [show g5.er=(g3.er.block (Zj body)).1 from congrArg Prod.fst hb5];rfl
     have h52:g5.er.locals=g3.er.locals:=by rw [show g5.er=(g3.er.block (Zj body)).1 from congrArg Prod.fst hb5];rfl
     have h53:g3.er.stm≤g5.er.stm:=by rw [show g5.er=(g3.er.block (Zj body)).1 from congrArg Prod.fst hb5];exact (Fnd.To.blk (Zj body) g3.er).s
     dsimp only [FC.er] at h51 h52 h53;have h54:=congrArg List.length h51
     refine oo 3 ?_;refine stA ?_;refine oo 1 ?_;refine st ?_;refine oo 3 ?_;refine ldA ?_;refine ol 1 ?_;refine Zf call121 (Le.refl _) (IH els ea ec (by simp only [Stm.sz];omega) ht4 (f:=g5) knA (Kn.le hL) ⟨by omega,⟨by omega,by omega⟩,by omega⟩) ?_
     rintro _ _ ⟨g6,a6,c6,l6,rfl,rfl,hb6⟩
     refine oo 3 ?_;refine stA ?_;refine oo 1 ?_;refine st ?_;refine ox 2 ?_;refine drw ?_;refine Ji 0 ?_;refine Ji 1 ?_;refine V1 2 ?_;refine V1 3 ?_;refine XD.nil ?_;refine U5 (.mk k ln cl nm wt (.mk k4 z4 s4 l4 o4 p4 y4 u4 w4) (.mk k3 z3 s3 l3 o3 p3 y3 u3 w3) l5 l6 a5 c5 a6 c6 f.stm sl3 ot3 lo3) Kn.st ?_;refine Zq (fcM g6::stM (.mk k ln cl nm wt (.mk k4 z4 s4 l4 o4 p4 y4 u4 w4) (.mk k3 z3 s3 l3 o3 p3 y3 u3 w3) l5 l6 a5 c5 a6 c6 f.stm sl3 ot3 lo3)::q) func157 (I6 results157) ⟨_,rfl,g6,(.mk k ln cl nm wt (.mk k4 z4 s4 l4 o4 p4 y4 u4 w4) (.mk k3 z3 s3 l3 o3 p3 y3 u3 w3) l5 l6 a5 c5 a6 c6 f.stm sl3 ot3 lo3),rfl,rfl,(Aq h512 he1 he2 (show (g3.er,sl3,ot3,lo3)=_ from by unfold Fnd.own;dsimp only;rw [←hw1];exact hx_) hb5 hb6).symm⟩
   have hcl:k=1∨k=8∨k=12∨ ¬ (k=1∨k=8∨k=12):=by omega
   rcases hcl with hcl|hcl|hcl|hcl
   · unfold Fnd.own2 at K2;simp only [if_pos hcl] at K2
     refine xx 6 ?_;refine X.kt 83 ?_;refine xo 4 ?_;refine ldA ?_;refine ol 1 ?_;refine XO.cR call119 (S8 (f:=g) knA) ?_
     refine ox 2 ?_;refine X.join (fun (x:FC)=> [(2,.pointer (some ⟨n1,0,none⟩)),(3,.pointer (some ⟨n2,0,none⟩)),(4,.pointer (some ⟨n3,0,none⟩)),(5,.pointer (some ⟨n4,0,none⟩))]) (fun x=>fcM x::pto n1 (.cells (fcC x).toArray 240 (0,0))::pto n2 (.cells (stC (.mk k ln cl nm wt (.mk k4 z4 s4 l4 o4 p4 y4 u4 w4) (.mk k3 z3 s3 l3 o3 p3 y3 u3 w3) body els ba bc ea ec f.stm sl other lo)).toArray 126 (0,0))::pto n3 (.cells [.slice none 0 0,.slice none 0 0,.int .i64 0,.int .i64 0,.slice none 0 0,.slice none 0 0,.int .i64 0,.int .i64 0,.slice none 0 0,.slice none 0 0,.slice none 0 0,.slice none 0 0,.slice none 0 0,.slice none 0 0,.int .i64 0,.int .i64 0,.int .i64 0,.int .i64 0,.int .i64 0,.int .i64 0].toArray 240 (0,0))::pto n4 (.cells [.int .i64 0,.int .i64 0,.int .i64 0,.string ⟨#[]⟩,.string ⟨#[]⟩,.int .i64 0,.int .i64 0,.string ⟨#[]⟩,.int .i64 0,.bool false,.int .i64 0,.slice none 0 0,.int .i64 0,.int .i64 0,.string ⟨#[]⟩,.int .i64 0,.bool false,.int .i64 0,.slice none 0 0,.slice none 0 0,.slice none 0 0,.int .i64 0,.int .i64 0,.int .i64 0,.bool false].toArray 126 (0,0))::exM (.mk k3 z3 s3 l3 o3 p3 y3 u3 w3)::exM (.mk k4 z4 s4 l4 o4 p4 y4 u4 w4)::(q++F)) (fun x=>x.er=g.er.loc1 nm) (fun x hx_=> ?_) (fun K3=> ?_)
     · obtain ⟨g3,hg3⟩: ∃ y,y=x:=⟨_,rfl⟩;rw [←hg3] at hx_⊢;clear hg3
       refine xj 4 ?_;refine ox 2 ?_;refine X.join (fun (x:FC)=> [(2,.pointer (some ⟨n1,0,none⟩)),(3,.pointer (some ⟨n2,0,none⟩)),(4,.pointer (some ⟨n3,0,none⟩)),(5,.pointer (some ⟨n4,0,none⟩))]) (fun x=>fcM x::pto n1 (.cells (fcC x).toArray 240 (0,0))::pto n2 (.cells (stC (.mk k ln cl nm wt (.mk k4 z4 s4 l4 o4 p4 y4 u4 w4) (.mk k3 z3 s3 l3 o3 p3 y3 u3 w3) body els ba bc ea ec f.stm sl other lo)).toArray 126 (0,0))::pto n3 (.cells [.slice none 0 0,.slice none 0 0,.int .i64 0,.int .i64 0,.slice none 0 0,.slice none 0 0,.int .i64 0,.int .i64 0,.slice none 0 0,.slice none 0 0,.slice none 0 0,.slice none 0 0,.slice none 0 0,.slice none 0 0,.int .i64 0,.int .i64 0,.int .i64 0,.int .i64 0,.int .i64 0,.int .i64 0].toArray 240 (0,0))::pto n4 (.cells [.int .i64 0,.int .i64 0,.int .i64 0,.string ⟨#[]⟩,.string ⟨#[]⟩,.int .i64 0,.int .i64 0,.string ⟨#[]⟩,.int .i64 0,.bool false,.int .i64 0,.slice none 0 0,.int .i64 0,.int .i64 0,.string ⟨#[]⟩,.int .i64 0,.bool false,.int .i64 0,.slice none 0 0,.slice none 0 0,.slice none 0 0,.int .i64 0,.int .i64 0,.int .i64 0,.bool false].toArray 126 (0,0))::exM (.mk k3 z3 s3 l3 o3 p3 y3 u3 w3)::exM (.mk k4 z4 s4 l4 o4 p4 y4 u4 w4)::(q++F)) (fun x=>x.er=(g.er.loc1 nm).loc2) (fun x hx_=> ?_) (fun K4=> ?_)
       · obtain ⟨g4,hg4⟩: ∃ y,y=x:=⟨_,rfl⟩;rw [←hg4] at hx_⊢;clear hg4
         have hto4:f.er.To g4.er 0:=by have h1:=hto1.trans ((Fnd.To.loc1 g.er nm).trans (Fnd.To.loc2 (g.er.loc1 nm)));rw [←hx_] at h1;exact h1
         obtain ⟨hn4,⟨hl4,hm4⟩,hs4,_⟩:=hto4;dsimp only [FC.er] at hn4 hl4 hm4 hs4
         refine xj 3 ?_;refine oo 1 ?_;refine st ?_;refine oo 1 ?_;refine st ?_;refine ox 2 ?_;refine drw ?_;refine dl [0] 1 ?_;refine dl [3] 4 ?_;refine dl [5] 6 ?_;refine dd [7] ?_;refine XD.le (q':=rsH nmC 3 245 none 0 ([])::_) (Zl nmC 3 245 _) ?_
         refine Y3 (fl:= [⟨8,113,fun g=> .slice (some ⟨g,0,none⟩) 1 1,fun g=>rsH nmC 3 245 (some ⟨g,0,none⟩) 1 ([⟨nm,100,g4.locals⟩])⟩]) ?_
         refine XF.ef 2 ⟨⟨_,rfl,rfl,rfl,rfl,rfl,rfl,fun q=>Yj (u:=⟨nm,100,g4.locals⟩) nmC underlying238 Qj rfl rfl (fun _=>rfl) rfl⟩,trivial⟩ (Dd (f:=nmC) (sz:=3) (l:= []) (m:=g4.names.l) underlying238 Qj rfl rfl (fun _=>rfl) rfl rfl Zk (Sv.sees (Kn.imp (φ:=fun M=>g4.At M) knA fun M h=>h.names)) (fun _=>rfl) (by simp;omega) (by simp;omega)) ?_
         rintro _ _ ⟨aa,ac,rfl,rfl⟩
         refine ⟨hlA,?_⟩
         refine Vj (e0:=⟨8,113,fun g=> .slice (some ⟨g,0,none⟩) 1 1,fun g=>rsH nmC 3 245 (some ⟨g,0,none⟩) 1 ([⟨nm,100,g4.locals⟩])⟩) (hnd:=by simp) 8 ⟨⟨_,rfl,rfl,rfl,rfl,rfl,rfl,fun q=>Yj (u:=⟨nm,100,g4.locals⟩) nmC underlying238 Qj rfl rfl (fun _=>rfl) rfl⟩,trivial⟩ (fun gl=> ?_)
         change XF _ _ _ _ _ _ _ [] _ _ _ ((113,.slice (some ⟨gl,0,none⟩) 1 1)::_) _ _ (rsH nmC 3 245 (some ⟨gl,0,none⟩) 1 ([⟨nm,100,g4.locals⟩])::_)
         refine XF.back ?_
         try rw [List.nil_append]
         refine XD.ef 9 rfl (Yq (f:=nmC) (l:=g4.names.l) (m:= [⟨nm,100,g4.locals⟩]) underlying238 Qj rfl rfl (fun _=>rfl) rfl rfl Zk ((Sees.rsH _).le Zk) (fun _=>rfl) (by simp;omega) (by simp;omega)) ?_
         rintro _ _ ⟨ba2,bc2,rfl,rfl⟩
         refine ⟨hlA,?_⟩
         refine dd [10] ?_;refine stD 11 ?_;refine XD.nil ?_;refine xj 3 ?_;refine oo 2 ?_;refine st ?_;refine ol 3 ?_;refine ol 1 ?_;refine oo 2 ?_;refine st ?_;refine ox 2 ?_;refine Cp ?_;refine X.le (q':=fcM ({ g4 with names:=⟨g4.names.l++ [⟨nm,100,g4.locals⟩],ba2,bc2⟩,locals:=g4.locals+1,most:=max g4.most (g4.locals+1) } :FC)::_) (Kn.add ((Kn.and (φ:=fun M=>g4.At M) knA (svK (x:=⟨_,ba2,bc2⟩) (f:=nmC))).imp fun M h=>FC.At.l h.1 h.2)) ?_
         exact X.at (K2 (({ g4 with names:=⟨g4.names.l++ [⟨nm,100,g4.locals⟩],ba2,bc2⟩,locals:=g4.locals+1,most:=max g4.most (g4.locals+1) } :FC),g4.locals,other,true) (by rw [←hx_];rfl)) Zd leA
       refine X.part 96 rfl (fun h4=> ?_) (fun h4=> ?_)
       · replace h4:=sp h4
         refine xo 2 ?_;refine ldA ?_;refine oo 1 ?_;refine ldA ?_;refine Zf call120 (Le.refl _) (V8 (f:=g3) knA) ?_
         rintro _ _ ⟨gf,rfl,rfl,hg⟩
         refine stA ?_;refine ox 1 ?_;exact X.at (K4 gf (by rw [←hx_];unfold Fnd.loc2;rw [if_pos (show 32≤g3.er.locals from h4)];exact hg)) Zd leA
       replace h4:=sp h4
       refine xx 2 ?_;exact X.at (K4 g3 (by rw [←hx_];unfold Fnd.loc2;rw [if_neg (show ¬32≤g3.er.locals from (by show ¬32≤g3.locals;omega))])) Zd leA
     refine X.part 89 rfl (fun h3=> ?_) (fun h3=> ?_)
     · replace h3:=sp h3
       refine xo 2 ?_;refine ldA ?_;refine oo 1 ?_;refine ldA ?_;refine Zf call120 (Le.refl _) (V8 (f:=g) knA) ?_
       rintro _ _ ⟨gf,rfl,rfl,hg⟩
       refine stA ?_;refine ox 1 ?_;exact X.at (K3 gf (by unfold Fnd.loc1;rw [if_pos (show g.er.at nm≠0 by omega)];exact hg)) Zd leA
     replace h3:=sp h3
     refine xx 2 ?_;exact X.at (K3 g (by unfold Fnd.loc1;rw [if_neg (show ¬g.er.at nm≠0 by omega)])) Zd leA
   · unfold Fnd.own2 at K2;simp only [if_neg (show ¬k=1 by omega),if_pos hcl] at K2
     refine xx 6 ?_;refine kx 83 6 ?_;refine X.kt 126 ?_;refine xo 3 ?_;refine ldA ?_;refine ol 1 ?_;refine oo 1 ?_;refine ldA ?_;refine Zf call186 (Le.refl _) (wants_ok (f:=g) knA) ?_
     rintro _ _ ⟨gw,xw,rfl,rfl,hww⟩
     refine oo 3 ?_;refine XO.al zeroValue240 fun n5=> ?_
     refine XO.al zeroValue245 fun n6=> ?_
     refine stA ?_;refine stA ?_;refine oo 3 ?_;refine ldA ?_;refine stA ?_;refine ol 3 ?_;refine oo 1 ?_;refine st ?_;refine ox 2 ?_;exact X.at (K2 (gw,sl,xw.s,lo) (by rw [←hww])) Zd leA
   · unfold Fnd.own2 at K2;simp only [if_neg (show ¬k=1 by omega),if_neg (show ¬k=8 by omega),if_pos hcl] at K2
     refine xx 6 ?_;refine kx 83 6 ?_;refine kx 126 6 ?_;refine X.kt 141 ?_;refine xo 3 ?_;refine ldA ?_;refine ol 1 ?_;refine oo 1 ?_;refine ldA ?_;refine Zf call186 (Le.refl _) (wants_ok (f:=g) knA) ?_
     rintro _ _ ⟨gw,xw,rfl,rfl,hww⟩
     refine oo 3 ?_;refine XO.al zeroValue240 fun n5=> ?_
     refine XO.al zeroValue245 fun n6=> ?_
     refine stA ?_;refine stA ?_;refine oo 3 ?_;refine ldA ?_;refine stA ?_;refine ox 1 ?_;refine drw ?_;refine dl [0] 1 ?_;refine dl [2] 3 ?_;refine dd [4,5] ?_;refine stD 6 ?_;refine dd [7] ?_;refine stD 8 ?_;refine XD.nil ?_;refine xx 1 ?_;exact X.at (K2 (gw,sl,xw.s,xw.k==100) (by rw [←hww])) Zd leA
   unfold Fnd.own2 at K2;simp only [if_neg (show ¬k=1 by omega),if_neg (show ¬k=8 by omega),if_neg (show ¬k=12 by omega)] at K2
   refine xx 6 ?_;refine X.know 83 (.bool false) rfl (congrArg Value.bool (beq_eq_false_iff_ne.2 (by omega))) ?_
   refine xx 6 ?_;refine X.know 126 (.bool false) rfl (congrArg Value.bool (beq_eq_false_iff_ne.2 (by omega))) ?_
   refine xx 6 ?_;refine X.know 141 (.bool false) rfl (congrArg Value.bool (beq_eq_false_iff_ne.2 (by omega))) ?_
   refine xx 3 ?_;exact X.at (K2 (g,sl,other,lo) rfl) Zd leA
 refine X.part 62 rfl (fun h1=> ?_) (fun h1=> ?_)
 · replace h1:=sp h1
   refine xo 3 ?_;refine ldA ?_;refine ol 1 ?_;refine oo 3 ?_;refine ldA ?_;refine Zf call186 (Le.refl _) (wants_ok (f:=g2) knA) ?_
   rintro _ _ ⟨gw,xw,rfl,rfl,hww⟩
   refine oo 3 ?_;refine XO.al zeroValue240 fun n5=> ?_
   refine XO.al zeroValue245 fun n6=> ?_
   refine stA ?_;refine stA ?_;refine oo 3 ?_;refine ldA ?_;refine stA ?_;refine ox 1 ?_;refine drw ?_;refine dl [0] 1 ?_;refine dl [2] 3 ?_;refine dd [4,5] ?_;refine stD 6 ?_;refine dd [7] ?_;refine stD 8 ?_;refine XD.nil ?_;exact X.at (K (gw,xw.s,xw.k==100) ⟨rfl,by unfold Fnd.own1;rw [if_pos (by simpa using h1),←hww],by have h2:=hto.trans (Fnd.To.wants g2.er nm (Jy k).1 (Jy k).2);rw [←hww] at h2;exact h2⟩) Zd leA
 replace h1:=sp h1
 refine xx 2 ?_;exact X.at (K (g2,slot,loc) ⟨rfl,by unfold Fnd.own1;rw [if_neg (by simpa using h1)],hto⟩) Zd leA
end
section
variable {G:World}{q:List HP}{f:FC}{x:Stm}{m:List Stm}{a:Option Addr}{c:Nat}
theorem Fb {l:List Stm}{k:Nat}(h:k<l.length):Zh (l.drop k)=l[k].sz+Zh (l.drop (k+1)):=by rw [List.drop_eq_getElem_cons h];rfl
theorem Mr (x:Stm):1≤x.sz:=by cases x;simp only [Stm.sz];omega
theorem T0: ∀ (l:List Stm),l.length≤Zh l
 | []=>Nat.zero_le _
 |x::r=>by have:=Mr x;have:=T0 r;simp only [Zh,List.length_cons];omega
set_option maxHeartbeats 8000000 in
theorem Ts (IH: ∀ (x:Stm),x.sz≤Zh m→x.er.thin→ ∀ {f:FC} {q:List HP},(Kn q fun M=>f.At M)→(Kn q fun M=>x.At M)→(f.names.l.length+x.sz≤300000∧(0≤f.locals∧f.locals+x.sz≤300000)∧0≤f.stm)→CallF prog G 157 [.agg (fcC f).toArray,.agg (stC x).toArray] q (Ret fun v q'=> ∃ (g:FC) (y:Stm),v= .tuple [.agg (fcC g).toArray,.agg (stC y).toArray].toArray∧q'=fcM g::stM y::q∧(g.er,y.er)=f.er.stmt x.er))(hf:Kn q fun M=>f.At M)(h:Kn q fun M=>BlkAt M a c m)(ht:Wr (Zj m))(hb:(f.names.l.length+Zh m≤300000∧(0≤f.locals∧f.locals+Zh m≤300000)∧0≤f.stm)):CallF prog G 121 [.agg (fcC f).toArray,.slice a m.length c] (q) (Ret fun v q'=> ∃ (g:FC) (b:Option Addr) (d:Nat) (m':List Stm),v= .tuple [.agg (fcC g).toArray,.slice b m'.length d].toArray∧q'=fcM g::blM b d m'::q∧(g.er,Zj m')=f.er.block (Zj m)):=by
 refine CallF.of func121 ntmps121 rfl (fun F cs=> ?_)
 have hzl:=T0 m;have hA:=Ll h;have hlen:=Zv (f:=stC) (sz:=25) Z9 m;refine X.fact (fun w s=>Lt (h.le leA) s) (fun hal=> ?_)
 obtain ⟨R,hR⟩: ∃ R,f.er.blk (Zj m)=R:=⟨_,rfl⟩
 obtain ⟨fn,hfn⟩: ∃ x,x=f.names:=⟨_,rfl⟩;obtain ⟨fl,hfl⟩: ∃ x,x=f.locals:=⟨_,rfl⟩
 refine xo 2 ?_;refine Y8 fun n1=> ?_
 refine XO.al zeroValue240 fun n2=> ?_
 refine ox 3 ?_;refine drw ?_;refine dl [0] 1 ?_;refine dl [2] 3 ?_;refine dd [4,5] ?_;refine XD.nil ?_;refine xx 10 ?_;refine X.at (X.loop (fun (s:FC×(Option Addr×Nat×List Stm)×Option Addr)=>s.2.1.2.2.length≤m.length∧s.2.2=a∧R=((Fnd.blk s.1.er (Zj (m.drop s.2.1.2.2.length))).1,Zj s.2.1.2.2++(Fnd.blk s.1.er (Zj (m.drop s.2.1.2.2.length))).2)∧(s.1.names.l.length+Zh (m.drop s.2.1.2.2.length)≤300000∧(0≤s.1.locals∧s.1.locals+Zh (m.drop s.2.1.2.2.length)≤300000)∧0≤s.1.stm)) (fun s=> [(8,.slice s.2.1.1 s.2.1.2.2.length s.2.1.2.1),(9,.int .i64 (s.2.1.2.2.length:Int)),(1,.slice s.2.2 m.length c),(2,.pointer (some ⟨n1,0,none⟩)),(4,.pointer (some ⟨n2,0,none⟩)),(5,.slice none 0 0),(6,f.names.v),(7,.int .i64 f.locals)]) (fun s=>rsH stC 25 126 s.2.1.1 s.2.1.2.1 s.2.1.2.2::stsM s.2.1.2.2::fcM s.1::pto n1 (.cells (fcC s.1).toArray 240 (0,0))::pto n2 (.cells [.slice none 0 0,.slice none 0 0,.int .i64 0,.int .i64 0,.slice none 0 0,.slice none 0 0,.int .i64 0,.int .i64 0,.slice none 0 0,.slice none 0 0,.slice none 0 0,.slice none 0 0,.slice none 0 0,.slice none 0 0,.int .i64 0,.int .i64 0,.int .i64 0,.int .i64 0,.int .i64 0,.int .i64 0].toArray 240 (0,0))::(q++F)) (fun s=>m.length - s.2.1.2.2.length) (fun s hi_ ih=> ?_) (f,(none,0, []),a) ⟨Nat.zero_le _,rfl,hR.symm,hb⟩) Zd (Le.trans leA (Le.trans (Zl stC 25 126 _) (Le.trans Ki (Le.trans (Kn.add (φ:=fun M=>f.At M) (mn:=fun e h=>FC.At.mono e h) (Kn.le hf)) leA))))
 try dsimp only at hi_ ih⊢
 obtain ⟨hi1,hi2,hi3,hi4⟩:=hi_
 obtain ⟨g,⟨a2,c2,out⟩,aa2⟩:=s;dsimp only at*;subst hi2
 refine xo 8 ?_;refine Zm [20,8,9,1,2,4,5,6,7] ?_
 apply Zp 4 24 20 rfl
 · intro g1 M1;have h1:=sp g1
   refine ol 1 ?_;refine oo 2 ?_;exact Zz M1 ⟨Wz g1,Zw⟩
 · intro g1 M1;have h1:=sp g1
   refine oo 4 ?_;exact Zz M1 ⟨Wj g1,Zw⟩
 refine ox 1 ?_;refine X.part 24 rfl (fun h0=> ?_) (fun h0=> ?_)
 · obtain ⟨hlt,h9⟩:out.length<m.length∧g.flaw=0:=(by rw [Bool.and_eq_true] at h0;exact ⟨by simpa using h0.1,by simpa using h0.2⟩)
   have hz:=Fb hlt;rw [hz] at hi4
   obtain ⟨y,hy⟩: ∃ y,m[out.length]=y:=⟨_,rfl⟩;rw [hy] at hi4;obtain ⟨k3,ln3,cl3,nm3,wt3,⟨k3a,z3a,s3a,l3a,o3a,p3a,y3a,u3a,w3a⟩,⟨k3b,z3b,s3b,l3b,o3b,p3b,y3b,u3b,w3b⟩,body3,els3,ba3,bc3,ea3,ec3,id3,slot3,other3,loc3⟩:=y;have hp:=Mr (.mk k3 ln3 cl3 nm3 wt3 (.mk k3a z3a s3a l3a o3a p3a y3a u3a w3a) (.mk k3b z3b s3b l3b o3b p3b y3b u3b w3b) body3 els3 ba3 bc3 ea3 ec3 id3 slot3 other3 loc3)
   refine xx 5 ?_;refine drw ?_;refine Ji 0 ?_;refine dd [1,2] ?_;refine Km hA (by rw [hlen];omega) (fun b1 o1 e1=> ?_);subst e1
   have hrw: ∀ (Q:List HP),Le Q q→ ∀ (j:Nat) (v:Value),nth (stC (.mk k3 ln3 cl3 nm3 wt3 (.mk k3a z3a s3a l3a o3a p3a y3a u3a w3a) (.mk k3b z3b s3b l3b o3b p3b y3b u3b w3b) body3 els3 ba3 bc3 ea3 ec3 id3 slot3 other3 loc3)) j=some v→Cl Q ⟨b1,o1+(out.length:Int).toNat*25+j,none⟩ v:=fun Q hQ j v hv=>Cl.row hA hQ Z9 hlt rfl j v (by rw [hy,←Ve];exact hv)
   have hrL: ∀ (Q:List HP) (i:Nat),Le Q q→HL Q (rdA i b1 (o1+(out.length:Int).toNat*25) (stC (.mk k3 ln3 cl3 nm3 wt3 (.mk k3a z3a s3a l3a o3a p3a y3a u3a w3a) (.mk k3b z3b s3b l3b o3b p3b y3b u3b w3b) body3 els3 ba3 bc3 ea3 ec3 id3 slot3 other3 loc3))):=fun Q i hQ=>HL.rdA fun j v hk=>hrw Q hQ j v (by rw [Ve];exact hk)
   refine dd [3] ?_;refine XD.rdCs 4 (us:=stC (.mk k3 ln3 cl3 nm3 wt3 (.mk k3a z3a s3a l3a o3a p3a y3a u3a w3a) (.mk k3b z3b s3b l3b o3b p3b y3b u3b w3b) body3 els3 ba3 bc3 ea3 ec3 id3 slot3 other3 loc3)) rfl rfl isAgg126 sizeOf126 rfl (fun k v hk=>hrw _ leA k v (by rw [Ve];exact hk)) ?_
   refine Y3 (fl:= [⟨9,10,fun g=> .pointer (some ⟨g,0,none⟩),fun g=>pto g (.cells [.slice none 0 0,.slice none 0 0,.int .i64 0,.int .i64 0,.slice none 0 0,.slice none 0 0,.int .i64 0,.int .i64 0,.slice none 0 0,.slice none 0 0,.slice none 0 0,.slice none 0 0,.slice none 0 0,.slice none 0 0,.int .i64 0,.int .i64 0,.int .i64 0,.int .i64 0,.int .i64 0,.int .i64 0].toArray 240 (0,0))⟩,⟨10,11,fun g=> .pointer (some ⟨g,0,none⟩),fun g=>pto g (.cells [.int .i64 0,.int .i64 0,.int .i64 0,.string ⟨#[]⟩,.string ⟨#[]⟩,.int .i64 0,.int .i64 0,.string ⟨#[]⟩,.int .i64 0,.bool false,.int .i64 0,.slice none 0 0,.int .i64 0,.int .i64 0,.string ⟨#[]⟩,.int .i64 0,.bool false,.int .i64 0,.slice none 0 0,.slice none 0 0,.slice none 0 0,.int .i64 0,.int .i64 0,.int .i64 0,.bool false].toArray 126 (0,0))⟩]) ?_
   refine B3 5 ⟨⟨_,rfl,rfl,rfl,rfl,rfl,rfl,fun q=>Ef.alloc zeroValue240⟩,⟨_,rfl,rfl,rfl,rfl,rfl,rfl,fun q=>Ef.alloc zeroValue126⟩,trivial⟩ call157 (Le.refl _) (IH (.mk k3 ln3 cl3 nm3 wt3 (.mk k3a z3a s3a l3a o3a p3a y3a u3a w3a) (.mk k3b z3b s3b l3b o3b p3b y3b u3b w3b) body3 els3 ba3 bc3 ea3 ec3 id3 slot3 other3 loc3) (by have:=Uz (List.getElem_mem hlt);rw [hy] at this;exact this) (by have:=Hn ht (by rw [Yn];exact List.mem_map_of_mem (List.getElem_mem hlt));rw [hy] at this;exact this) (f:=g) knA (Kn.le (by have:=Lr h hlt;rw [hy] at this;exact this) leA) ⟨by omega,⟨by omega,by omega⟩,by omega⟩) ?_ (hL:=(hlA (h:=by repeat first|exact trivial|refine ⟨clA,?_⟩|refine HL.app (hrL _ _ leA) ?_|refine ⟨hrw _ leA 0 _ rfl,?_⟩|refine ⟨hrw _ leA _ _ rfl,?_⟩)))
   rintro _ _ ⟨g2,⟨k2,ln2,cl2,nm2,wt2,⟨k2a,z2a,s2a,l2a,o2a,p2a,y2a,u2a,w2a⟩,⟨k2b,z2b,s2b,l2b,o2b,p2b,y2b,u2b,w2b⟩,body2,els2,ba2,bc2,ea2,ec2,id2,slot2,other2,loc2⟩,rfl,rfl,hge⟩
   refine ⟨trivial,?_⟩
   refine Qu 6 ⟨⟨_,rfl,rfl,rfl,rfl,rfl,rfl,fun q=>Ef.alloc zeroValue240⟩,⟨_,rfl,rfl,rfl,rfl,rfl,rfl,fun q=>Ef.alloc zeroValue126⟩,trivial⟩ (Pu.move rfl) ?_
   refine Qu 7 ⟨⟨_,rfl,rfl,rfl,rfl,rfl,rfl,fun q=>Ef.alloc zeroValue240⟩,⟨_,rfl,rfl,rfl,rfl,rfl,rfl,fun q=>Ef.alloc zeroValue126⟩,trivial⟩ (Pu.extract rfl rfl) ?_
   refine Qu 8 ⟨⟨_,rfl,rfl,rfl,rfl,rfl,rfl,fun q=>Ef.alloc zeroValue240⟩,⟨_,rfl,rfl,rfl,rfl,rfl,rfl,fun q=>Ef.alloc zeroValue126⟩,trivial⟩ (Pu.extract rfl rfl) ?_
   refine Vj (e0:=⟨9,10,fun g=> .pointer (some ⟨g,0,none⟩),fun g=>pto g (.cells [.slice none 0 0,.slice none 0 0,.int .i64 0,.int .i64 0,.slice none 0 0,.slice none 0 0,.int .i64 0,.int .i64 0,.slice none 0 0,.slice none 0 0,.slice none 0 0,.slice none 0 0,.slice none 0 0,.slice none 0 0,.int .i64 0,.int .i64 0,.int .i64 0,.int .i64 0,.int .i64 0,.int .i64 0].toArray 240 (0,0))⟩) (hnd:=by simp) 9 ⟨⟨_,rfl,rfl,rfl,rfl,rfl,rfl,fun q=>Ef.alloc zeroValue240⟩,⟨_,rfl,rfl,rfl,rfl,rfl,rfl,fun q=>Ef.alloc zeroValue126⟩,trivial⟩ (fun ga=> ?_)
   change XF _ _ _ _ _ _ _ [⟨10,11,fun g=> .pointer (some ⟨g,0,none⟩),fun g=>pto g (.cells [.int .i64 0,.int .i64 0,.int .i64 0,.string ⟨#[]⟩,.string ⟨#[]⟩,.int .i64 0,.int .i64 0,.string ⟨#[]⟩,.int .i64 0,.bool false,.int .i64 0,.slice none 0 0,.int .i64 0,.int .i64 0,.string ⟨#[]⟩,.int .i64 0,.bool false,.int .i64 0,.slice none 0 0,.slice none 0 0,.slice none 0 0,.int .i64 0,.int .i64 0,.int .i64 0,.bool false].toArray 126 (0,0))⟩] _ _ _ ((10,.pointer (some ⟨ga,0,none⟩))::_) _ _ (pto ga (.cells [.slice none 0 0,.slice none 0 0,.int .i64 0,.int .i64 0,.slice none 0 0,.slice none 0 0,.int .i64 0,.int .i64 0,.slice none 0 0,.slice none 0 0,.slice none 0 0,.slice none 0 0,.slice none 0 0,.slice none 0 0,.int .i64 0,.int .i64 0,.int .i64 0,.int .i64 0,.int .i64 0,.int .i64 0].toArray 240 (0,0))::_)
   refine Vj (e0:=⟨10,11,fun g=> .pointer (some ⟨g,0,none⟩),fun g=>pto g (.cells [.int .i64 0,.int .i64 0,.int .i64 0,.string ⟨#[]⟩,.string ⟨#[]⟩,.int .i64 0,.int .i64 0,.string ⟨#[]⟩,.int .i64 0,.bool false,.int .i64 0,.slice none 0 0,.int .i64 0,.int .i64 0,.string ⟨#[]⟩,.int .i64 0,.bool false,.int .i64 0,.slice none 0 0,.slice none 0 0,.slice none 0 0,.int .i64 0,.int .i64 0,.int .i64 0,.bool false].toArray 126 (0,0))⟩) (hnd:=by simp) 10 ⟨⟨_,rfl,rfl,rfl,rfl,rfl,rfl,fun q=>Ef.alloc zeroValue126⟩,trivial⟩ (fun gb=> ?_)
   change XF _ _ _ _ _ _ _ [] _ _ _ ((11,.pointer (some ⟨gb,0,none⟩))::_) _ _ (pto gb (.cells [.int .i64 0,.int .i64 0,.int .i64 0,.string ⟨#[]⟩,.string ⟨#[]⟩,.int .i64 0,.int .i64 0,.string ⟨#[]⟩,.int .i64 0,.bool false,.int .i64 0,.slice none 0 0,.int .i64 0,.int .i64 0,.string ⟨#[]⟩,.int .i64 0,.bool false,.int .i64 0,.slice none 0 0,.slice none 0 0,.slice none 0 0,.int .i64 0,.int .i64 0,.int .i64 0,.bool false].toArray 126 (0,0))::_)
   refine XF.back ?_;refine V1 11 ?_;refine V1 12 ?_;refine XD.nil ?_;refine xo 2 ?_;refine ldA ?_;refine stA ?_;refine oo 3 ?_;refine ldA ?_;refine XO.ef (Yj (u:=(.mk k2 ln2 cl2 nm2 wt2 (.mk k2a z2a s2a l2a o2a p2a y2a u2a w2a) (.mk k2b z2b s2b l2b o2b p2b y2b u2b w2b) body2 els2 ba2 bc2 ea2 ec2 id2 slot2 other2 loc2)) stC underlying53 V0 rfl rfl Z9 rfl) ?_
   rintro _ _ ⟨gl,rfl,rfl⟩
   refine XO.ef (Yq (f:=stC) (l:=out) (m:= [(.mk k2 ln2 cl2 nm2 wt2 (.mk k2a z2a s2a l2a o2a p2a y2a u2a w2a) (.mk k2b z2b s2b l2b o2b p2b y2b u2b w2b) body2 els2 ba2 bc2 ea2 ec2 id2 slot2 other2 loc2)]) underlying53 V0 rfl rfl Z9 rfl rfl Zk ((Sees.rsH _).le Zk) Hl (by simp;omega) (by simp;omega)) ?_
   rintro _ _ ⟨a3,c3,rfl,rfl⟩
   refine ox 8 ?_;refine X.sts (l:=out) (s:=(.mk k2 ln2 cl2 nm2 wt2 (.mk k2a z2a s2a l2a o2a p2a y2a u2a w2a) (.mk k2b z2b s2b l2b o2b p2b y2b u2b w2b) body2 els2 ba2 bc2 ea2 ec2 id2 slot2 other2 loc2)) Zk Zk ?_
   have hto:=Fnd.To.stmt (Stm.er (.mk k3 ln3 cl3 nm3 wt3 (.mk k3a z3a s3a l3a o3a p3a y3a u3a w3a) (.mk k3b z3b s3b l3b o3b p3b y3b u3b w3b) body3 els3 ba3 bc3 ea3 ec3 id3 slot3 other3 loc3)) g.er;rw [←congrArg Prod.fst hge] at hto;obtain ⟨hn3,⟨hl3,hm3⟩,hs3,_⟩:=hto;dsimp only [FC.er] at hn3 hl3 hm3 hs3
   have hst:R=((Fnd.blk g2.er (Zj (m.drop (out.length+1)))).1,Zj (out++ [(.mk k2 ln2 cl2 nm2 wt2 (.mk k2a z2a s2a l2a o2a p2a y2a u2a w2a) (.mk k2b z2b s2b l2b o2b p2b y2b u2b w2b) body2 els2 ba2 bc2 ea2 ec2 id2 slot2 other2 loc2)])++(Fnd.blk g2.er (Zj (m.drop (out.length+1)))).2):=by
    rw [hi3,List.drop_eq_getElem_cons hlt,hy,T2];simp only [Zj,Fnd.blk];rw [if_pos (show g.er.flaw=0 from h9)];simp only [←hge,List.append_assoc,List.singleton_append]
   have hi5:(g2.names.l.length+Zh (m.drop (out.length+1))≤300000∧(0≤g2.locals∧g2.locals+Zh (m.drop (out.length+1))≤300000)∧0≤g2.stm):=⟨by omega,⟨by omega,by omega⟩,by omega⟩
   refine X.at (ih (g2,(a3,c3,out++ [(.mk k2 ln2 cl2 nm2 wt2 (.mk k2a z2a s2a l2a o2a p2a y2a u2a w2a) (.mk k2b z2b s2b l2b o2b p2b y2b u2b w2b) body2 els2 ba2 bc2 ea2 ec2 id2 slot2 other2 loc2)]),_) ⟨by simp;omega,rfl,by rw [List.length_append];exact hst,by rw [List.length_append];exact hi5⟩ (by simp;omega)) Zd leA
 have hR2:R=(g.er,Zj out):=by
  rcases Nat.lt_or_ge out.length m.length with hlt|hlt
  · rw [hi3,List.drop_eq_getElem_cons hlt];simp only [Zj,Fnd.blk];rw [if_neg (show ¬g.er.flaw=0 from fun hg=>by revert h0;rw [decide_eq_true (show (out.length:Int)<m.length by omega),show g.flaw=0 from hg];decide)];simp
  rw [hi3,List.drop_eq_nil_of_le hlt];simp only [Zj,Fnd.blk,List.append_nil]
 refine xo 7 ?_;refine st ?_;refine oo 1 ?_;refine st ?_;refine oo 3 ?_;refine ldA ?_;refine oo 1 ?_;refine stA ?_;refine ox 2 ?_;refine X.le (q':=fcM ({ g with names:=f.names,locals:=f.locals } :FC)::_) (Kn.add ((Kn.and (φ:=fun M=>g.At M) knA (Kn.le hf)).imp fun M h=>FC.At.b h.1 h.2)) ?_
 refine X.fzB (m:=out) ?_
 refine Zq (fcM ({ g with names:=f.names,locals:=f.locals } :FC)::blM a2 c2 out::q) func121 (H9 results121) ⟨_,rfl,({ g with names:=f.names,locals:=f.locals } :FC),a2,c2,out,rfl,rfl,by unfold Fnd.block;rw [hR,hR2];rfl⟩
theorem On: ∀ N:Nat,(∀ (x:Stm),x.sz≤N→x.er.thin→ ∀ {f:FC} {q:List HP},(Kn q fun M=>f.At M)→(Kn q fun M=>x.At M)→(f.names.l.length+x.sz≤300000∧(0≤f.locals∧f.locals+x.sz≤300000)∧0≤f.stm)→CallF prog G 157 [.agg (fcC f).toArray,.agg (stC x).toArray] q (Ret fun v q'=> ∃ (g:FC) (y:Stm),v= .tuple [.agg (fcC g).toArray,.agg (stC y).toArray].toArray∧q'=fcM g::stM y::q∧(g.er,y.er)=f.er.stmt x.er))∧(∀ (m:List Stm) (a:Option Addr) (c:Nat),Zh m≤N→Wr (Zj m)→ ∀ {f:FC} {q:List HP},(Kn q fun M=>f.At M)→(Kn q fun M=>BlkAt M a c m)→(f.names.l.length+Zh m≤300000∧(0≤f.locals∧f.locals+Zh m≤300000)∧0≤f.stm)→CallF prog G 121 [.agg (fcC f).toArray,.slice a m.length c] q (Ret fun v q'=> ∃ (g:FC) (b:Option Addr) (d:Nat) (m':List Stm),v= .tuple [.agg (fcC g).toArray,.slice b m'.length d].toArray∧q'=fcM g::blM b d m'::q∧(g.er,Zj m')=f.er.block (Zj m))):=by
 intro N
 induction N with
 |zero=>
  have h1: ∀ (x:Stm),x.sz≤0→x.er.thin→ ∀ {f:FC} {q:List HP},(Kn q fun M=>f.At M)→(Kn q fun M=>x.At M)→(f.names.l.length+x.sz≤300000∧(0≤f.locals∧f.locals+x.sz≤300000)∧0≤f.stm)→CallF prog G 157 [.agg (fcC f).toArray,.agg (stC x).toArray] q (Ret fun v q'=> ∃ (g:FC) (y:Stm),v= .tuple [.agg (fcC g).toArray,.agg (stC y).toArray].toArray∧q'=fcM g::stM y::q∧(g.er,y.er)=f.er.stmt x.er):=fun x hx=>by have:=Mr x;omega
  exact ⟨h1,fun m a c hm ht _ _ hf h hb=>Ts (fun x hx=>h1 x (by omega)) hf h ht hb⟩
 |succ N ih=>
  have h1: ∀ (x:Stm),x.sz≤N+1→x.er.thin→ ∀ {f:FC} {q:List HP},(Kn q fun M=>f.At M)→(Kn q fun M=>x.At M)→(f.names.l.length+x.sz≤300000∧(0≤f.locals∧f.locals+x.sz≤300000)∧0≤f.stm)→CallF prog G 157 [.agg (fcC f).toArray,.agg (stC x).toArray] q (Ret fun v q'=> ∃ (g:FC) (y:Stm),v= .tuple [.agg (fcC g).toArray,.agg (stC y).toArray].toArray∧q'=fcM g::stM y::q∧(g.er,y.er)=f.er.stmt x.er):=fun x hx ht _ _ hf h hb=>Px (fun m a c hm=>ih.2 m a c (by omega)) hf h ht hb
  exact ⟨h1,fun m a c hm ht _ _ hf h hb=>Ts (fun x hx=>h1 x (by omega)) hf h ht hb⟩
end
theorem Tm {f:Fnd}{N M:Nat}(h:f.le N)(hn:N≤M):f.le M:=by
 obtain ⟨h1,h2,h3,h4,h5,h6,h7,h8,h9,h10,h11,h12,h13⟩:=h
 exact ⟨by omega,by omega,by omega,by omega,by omega,by omega,by omega,by omega,by omega,by omega,by omega,by omega,h13⟩
theorem Tn {f:Fnd}{N:Nat}(h:f.le N)(w:Int):(f.fl w).le N:=by obtain ⟨x,hx⟩:=f.fl_eq w;rw [hx];exact h
theorem Fnd.fl_keep (f:Fnd)(w:Int):(f.fl w).locals=f.locals∧(f.fl w).stm=f.stm∧(f.fl w).names=f.names∧(f.fl w).ths=f.ths:=by obtain ⟨x,hx⟩:=f.fl_eq w;rw [hx];exact ⟨rfl,rfl,rfl,rfl⟩
theorem Jd {f:Fnd}{w:Int}(h:f.flaw=0):(f.fl w).flaw=w:=by unfold Fnd.fl;rw [if_pos h]
theorem F4 {f:Fnd}{N:Nat}(h:f.le N)(d:PDec):(f.decl1 d).1.le (N+1)∧(f.decl1 d).1.locals=f.locals∧(f.decl1 d).1.stm=f.stm∧(f.decl1 d).1.names=f.names:=by
 have hb:=(Tn (Tm h (Nat.le_succ N)) 134);have hk:=f.fl_keep 134
 obtain ⟨h1,h2,h3,h4,h5,h6,h7,h8,h9,h10,h11,h12,h13⟩:=h
 unfold Fnd.decl1
 split
 · split
   · exact ⟨hb,hk.1,hk.2.1,hk.2.2.1⟩
   exact ⟨⟨by simp;omega,by dsimp only;omega,by dsimp only;omega,by dsimp only;omega,by simp;omega,by dsimp only;omega,by dsimp only;omega,by dsimp only;omega,by dsimp only;omega,by dsimp only;omega,by dsimp only;omega,by dsimp only;omega,h13⟩,rfl,rfl,rfl⟩
 split
 · split
   · exact ⟨hb,hk.1,hk.2.1,hk.2.2.1⟩
   exact ⟨⟨by dsimp only;omega,by simp;omega,by dsimp only;omega,by dsimp only;omega,by dsimp only;omega,by simp;omega,by dsimp only;omega,by dsimp only;omega,by dsimp only;omega,by dsimp only;omega,by dsimp only;omega,by dsimp only;omega,by dsimp only;omega⟩,rfl,rfl,rfl⟩
 split
 · exact ⟨⟨by dsimp only;omega,by dsimp only;omega,by dsimp only;omega,by dsimp only;omega,by dsimp only;omega,by dsimp only;omega,by simp;omega,by dsimp only;omega,by dsimp only;omega,by dsimp only;omega,by dsimp only;omega,by dsimp only;omega,h13⟩,rfl,rfl,rfl⟩
 split
 · exact ⟨⟨by dsimp only;omega,by dsimp only;omega,by dsimp only;omega,by dsimp only;omega,by dsimp only;omega,by dsimp only;omega,by dsimp only;omega,by simp;omega,by dsimp only;omega,by dsimp only;omega,by dsimp only;omega,by dsimp only;omega,h13⟩,rfl,rfl,rfl⟩
 split
 · split
   · exact ⟨hb,hk.1,hk.2.1,hk.2.2.1⟩
   exact ⟨⟨by dsimp only;omega,by dsimp only;omega,by simp;omega,by dsimp only;omega,by dsimp only;omega,by dsimp only;omega,by dsimp only;omega,by dsimp only;omega,by simp;omega,by dsimp only;omega,by dsimp only;omega,by dsimp only;omega,h13⟩,rfl,rfl,rfl⟩
 split
 · exact ⟨⟨by dsimp only;omega,by dsimp only;omega,by dsimp only;omega,by simp;omega,by dsimp only;omega,by dsimp only;omega,by dsimp only;omega,by dsimp only;omega,by dsimp only;omega,by dsimp only;omega,by dsimp only;omega,by dsimp only;omega,h13⟩,rfl,rfl,rfl⟩
 exact ⟨⟨by dsimp only;omega,by dsimp only;omega,by dsimp only;omega,by dsimp only;omega,by dsimp only;omega,by dsimp only;omega,by dsimp only;omega,by dsimp only;omega,by dsimp only;omega,by dsimp only;omega,by dsimp only;omega,by dsimp only;omega,h13⟩,rfl,rfl,rfl⟩
theorem D1 {f:Fnd}{d:PDec}(h:(f.decl1 d).2.2=true):(f.decl1 d).1.ths.length=f.ths.length+(if d.k=6 then 1 else 0)∧(f.decl1 d).1.flaw=f.flaw:=by
 unfold Fnd.decl1 at h⊢
 split at h
 · rename_i hk
   split at h
   · cases h
   rename_i h2;rw [if_pos hk,if_neg h2,if_neg (by omega)];exact ⟨rfl,rfl⟩
 rename_i k1;rw [if_neg k1]
 split at h
 · rename_i hk
   split at h
   · cases h
   rename_i h2;rw [if_pos hk,if_neg h2,if_neg (by omega)];exact ⟨rfl,rfl⟩
 rename_i k2;rw [if_neg k2]
 split at h
 · rename_i hk;rw [if_pos hk,if_neg (by omega)];exact ⟨rfl,rfl⟩
 rename_i k3;rw [if_neg k3]
 split at h
 · rename_i hk;rw [if_pos hk,if_neg (by omega)];exact ⟨rfl,rfl⟩
 rename_i k4;rw [if_neg k4]
 split at h
 · rename_i hk
   split at h
   · cases h
   rename_i h2;rw [if_pos hk,if_neg h2,if_neg (by omega)];exact ⟨rfl,rfl⟩
 rename_i k5;rw [if_neg k5]
 split at h
 · rename_i hk;rw [if_pos hk,if_pos hk];exact ⟨by simp,rfl⟩
 rename_i k6;rw [if_neg k6,if_neg k6];exact ⟨rfl,rfl⟩
theorem Jo {f:Fnd}{d:PDec}(h:(f.decl1 d).2.2=false):(f.decl1 d).1=f.fl 134:=by
 unfold Fnd.decl1 at h⊢
 (repeat' split at h)<;>first|(cases h;done)|(split<;>(try split)<;>(try split)<;>(try split)<;>(try split)<;>(try split)<;>(try split)<;>first|rfl|omega|(exfalso;omega))
theorem Rq {f:Fnd}{N:Nat}(h:f.le N)(d:PDec):(f.decl d).le (N+1)∧(f.decl d).locals=f.locals∧(f.decl d).stm=f.stm:=by
 have hu:=Tm h (Nat.le_succ N)
 obtain ⟨a1,a2,a3,a4⟩:=F4 h d
 unfold Fnd.decl
 split
 · exact ⟨Tn hu _,(f.fl_keep _).1,(f.fl_keep _).2.1⟩
 split
 · exact ⟨a1,a2,a3⟩
 split
 · exact ⟨Tn a1 _,((Fnd.fl_keep _ _).1).trans a2,((Fnd.fl_keep _ _).2.1).trans a3⟩
 obtain ⟨h1,h2,h3,h4,h5,h6,h7,h8,h9,h10,h11,h12,h13⟩:=a1
 have h10':=h.2.2.2.2.2.2.2.2.2.1
 exact ⟨⟨h1,h2,h3,h4,h5,h6,h7,h8,h9,by dsimp only;rw [a4];simp;omega,h11,h12,h13⟩,a2,a3⟩
theorem Ko {f:Fnd}{d:PDec}(hf:f.flaw=0)(h:(f.decl d).flaw=0):(f.decl d).ths.length=f.ths.length+(if d.k=6 then 1 else 0):=by
 unfold Fnd.decl at h⊢
 split at h
 · rw [Jd hf] at h;cases h
 rename_i k1;rw [if_neg k1]
 split at h
 · rename_i k2;rw [Jo k2,Jd hf] at h;cases h
 rename_i k2;rw [if_neg k2]
 have k3:=D1 (f:=f) (d:=d) (by revert k2;cases (f.decl1 d).2.2<;>simp)
 split at h
 · rw [Jd (k3.2.trans hf)] at h;cases h
 rename_i k4;rw [if_neg k4]
 exact k3.1
mutual
theorem Oa: ∀ (x:Stm),x.sz≤x.er.nd
 | .mk k ln cl nm wt e ix body els ba bc ea ec id slot other loc=>by
  have h1:=Kd body;have h2:=Kd els
  simp only [Stm.sz,Stm.er,Hv];omega
theorem Kd: ∀ (l:List Stm),Zh l≤Z1 (Zj l)
 | []=>Nat.zero_le _
 |x::r=>by
  have h1:=Oa x;have h2:=Kd r
  simp only [Zh,Zj,Z1];omega
end
theorem Fy {d:PDec}(h:d.bad=false):(1≤d.k∧d.k≤6)∧(-2147483647≤d.n∧d.n≤2147483647)∧Wr d.body:=by
 unfold PDec.bad A8 at h
 simp only [Bool.or_eq_false_iff,decide_eq_false_iff_not,Bool.not_eq_false'] at h
 obtain ⟨⟨⟨⟨⟨⟨⟨⟨h1,h2⟩,_⟩,_⟩,h5⟩,h6⟩,_⟩,_⟩,h9⟩:=h
 exact ⟨by omega,by omega,Ur h9⟩
theorem parse_nd {l:Bs}{ds:List PDec}(h:Q2 l=some ds):(ds.map fun d=>Z1 d.body+1).sum≤65536:=by
 unfold Q2 at h
 split at h
 · cases h
 rename_i h0
 split at h
 · cases h
 rename_i ts h1
 split at h
 · cases h
 rename_i us h2
 split at h
 · cases h
 cases h
 have h3:=(Kx h1).1
 have h4:=(Nt (Nat.le_refl _) h2).1
 omega
theorem El {α:Type}{f:α→Nat}{x:α}: ∀ {l:List α},x∈l→f x≤(l.map f).sum
 |y::r,h=>by
  rcases List.mem_cons.1 h with rfl|h
  · simp
  have:=El (f:=f) h;simp only [List.map_cons,List.sum_cons];omega
theorem Sk {α:Type}{f:α→Nat}: ∀ {l:List α},l.length≤(l.map fun d=>f d+1).sum
 | []=>Nat.zero_le _
 |y::r=>by have:=Sk (f:=f) (l:=r);simp only [List.map_cons,List.sum_cons,List.length_cons];omega
def thB (l:List Dec):List (Sv Stm):=(l.filter fun d=>d.k==6).map fun d=>⟨d.body,d.ba,d.bc⟩
theorem thB_snoc {l:List Dec}{k:Nat}(h:k<l.length):thB (l.take (k+1))=thB (l.take k)++(if l[k].k=6 then [⟨l[k].body,l[k].ba,l[k].bc⟩] else []):=by
 rw [List.take_succ_eq_append_getElem h];unfold thB;rw [List.filter_append,List.map_append]
 congr 1
 by_cases hk:l[k].k=6
 · rw [if_pos hk];simp [hk]
 rw [if_neg hk];simp [hk]
theorem thB_len {l:List Dec}:(thB l).length≤l.length:=by unfold thB;rw [List.length_map];exact List.length_filter_le _ _
theorem thB_er (l:List Dec):((l.map Dec.er).filter fun d=>d.k==6).map (·.body)=(thB l).map fun x=>Zj x.l:=by
 unfold thB
 induction l with
 |nil=>rfl
 |cons d r ih=>
  rw [List.map_cons,List.filter_cons,List.filter_cons]
  have hd:(Dec.er d).k=d.k:=rfl
  rw [hd]
  split
  · rw [List.map_cons,List.map_cons,List.map_cons,ih];rfl
  exact ih
theorem thB_mem {l:List Dec}{x:Sv Stm}(h:x∈thB l): ∃ d∈l,x=⟨d.body,d.ba,d.bc⟩:=by
 unfold thB at h;obtain ⟨d,hd,rfl⟩:=List.mem_map.1 h;exact ⟨d,(List.mem_filter.1 hd).1,rfl⟩
def FC.z:FC:=⟨.z,.z,0,0,.z,.z,0,0,.z,.z,.z,.z,.z,.z,0,0,0,0,0,0⟩
def pgC (f:FC):List Value:= [f.vars.v,f.arrs.v,.int .i64 f.mu,.int .i64 f.co,f.chs.v,f.ths.v,.int .i64 f.main,.int .i64 f.stm,f.nv.v,f.na.v,f.nm.v,f.nc.v,f.nh.v]
theorem Tq (M:Hp):FC.z.At M:=⟨Dc M,Dc M,Dc M,Dc M,(fun x hx=>(by cases hx)),Dc M,Dc M,Dc M,Dc M,Dc M,Dc M⟩
theorem FC.z_le:FC.z.er.le 0:=by simp [Fnd.le,FC.er,FC.z,Sv.z]
theorem FC.At.mo {M:Hp}{f:FC}{n:Int}(h:f.At M):({ f with most:=n } :FC).At M:=⟨h.vars,h.arrs,h.chs,h.ths,h.bod,h.nv,h.na,h.nm,h.nc,h.nh,h.names⟩
theorem FC.At.mn {M:Hp}{f:FC}{n:Int}(h:f.At M):({ f with main:=n } :FC).At M:=⟨h.vars,h.arrs,h.chs,h.ths,h.bod,h.nv,h.na,h.nm,h.nc,h.nh,h.names⟩
theorem F3 {f:Fnd}(h: ¬f.flaw=0): ∀ l,Fnd.decls f l=f
 | []=>rfl
 |d::r=>by unfold Fnd.decls;rw [if_neg h]
theorem Je {f:Fnd}(h: ¬f.flaw=0)(i:Nat): ∀ l,Fnd.bodies f i l=f
 | []=>rfl
 |d::r=>by unfold Fnd.bodies;rw [if_neg h]
theorem Sz:(prog.info? 53).map (fun i=>(i.zero,i.size,i.bytes))=some (some (.slice none 0 0),1,24):=by kernel_rfl
section
variable {G:World}{q:List HP}{m:List Dec}{a:Option Addr}{c:Nat}
set_option maxHeartbeats 8000000 in
theorem find_ok (h:Kn q fun M=>DcsAt M a c m)(hs:((m.map Dec.er).map fun d=>Z1 d.body+1).sum≤65536):CallF prog G 77 [.slice a m.length c] (q) (Ret fun v q'=> ∃ (g:FC) (y z e:Int),v= .tuple [.agg (pgC g).toArray,.agg [Value.int .i64 y,.int .i64 z].toArray,.int .i64 e].toArray∧q'=fcM g::q∧(match Tl (m.map Dec.er) with|none=>e≠0|some F=>e=0∧g.er=F)):=by
 refine CallF.of func77 ntmps77 rfl (fun F cs=> ?_)
 have hA:=Lc h;have hlen:=Zv (f:=dcC) (sz:=6) (fun _=>rfl) m;refine X.fact (fun w s=>Kn.dsL (h.le leA) s) (fun hal=> ?_)
 have hml:m.length≤65536:=by have:=Sk (f:=fun d=>Z1 d.body) (l:=m.map Dec.er);rw [List.length_map] at this;omega
 have hbz: ∀ d∈m,Zh d.body≤65536:=fun d hd=>by have h1:=El (f:=fun d=>Z1 d.body+1) (List.mem_map_of_mem (f:=Dec.er) hd);have h2:=Kd d.body;have h3:(Dec.er d).body=Zj d.body:=rfl;rw [h3] at h1;omega
 obtain ⟨R,hR⟩: ∃ R,Tl (m.map Dec.er)=R:=⟨_,rfl⟩;rw [hR];unfold Tl at hR
 refine xo 2 ?_;refine XO.al zeroValue29 fun n1=> ?_
 refine XO.al zeroValue107 fun n2=> ?_
 refine oo 6 ?_;refine XO.cR call117 (mayD_ok (h.le leA)) ?_;refine ox 2 ?_;refine X.part 15 rfl (fun h0=> ?_) (fun h0=> ?_)
 · have hbad:(m.map Dec.er).any PDec.bad=true:=(by cases hx:(m.map Dec.er).any PDec.bad;rw [hx] at h0;exact absurd h0 (by decide);rfl);rw [if_pos hbad] at hR
   refine xo 5 ?_;refine stA ?_;refine stA ?_;refine ox 2 ?_;refine X.le (q':=fcM FC.z::_) (Kn.add (fun _ _ _=>Tq _)) ?_
   refine Zq (fcM FC.z::q) func77 (Gf results77) ⟨_,rfl,FC.z,0,0,2,rfl,rfl,by rw [←hR];decide⟩
 have hbad:(m.map Dec.er).any PDec.bad=false:=(by cases hx:(m.map Dec.er).any PDec.bad;rfl;rw [hx] at h0;exact absurd h0 (by decide));rw [if_neg (by rw [hbad];decide)] at hR
 have hgood: ∀ d∈m,(1≤d.k∧d.k≤6)∧(-2147483647≤d.n∧d.n≤2147483647)∧Wr (Zj d.body):=fun d hd=>Fy (d:=d.er) (by rw [List.any_eq_false] at hbad;simpa using hbad _ (List.mem_map_of_mem (f:=Dec.er) hd))
 refine xo 5 ?_;refine XO.al zeroValue240 fun n3=> ?_
 refine stA ?_;refine ox 11 ?_;refine X.at (X.loop (fun (s:(Nat×FC)×(Option Addr×Nat×List (Sv Stm))×Option Addr)=>s.1.1≤m.length∧s.2.2=a∧s.2.1.2.2=thB (m.take s.1.1)∧Fnd.decls .z (m.map Dec.er)=Fnd.decls s.1.2.er ((m.drop s.1.1).map Dec.er)∧s.1.2.er.le s.1.1∧(s.1.2.locals=0∧s.1.2.stm=0)∧(s.1.2.flaw=0→s.2.1.2.2.length=s.1.2.ths.l.length)) (fun s=> [(0,.slice s.2.2 m.length c),(2,.pointer (some ⟨n1,0,none⟩)),(3,.pointer (some ⟨n2,0,none⟩)),(4,.int .i64 0),(5,.pointer (some ⟨n3,0,none⟩)),(6,.slice s.2.1.1 s.2.1.2.2.length s.2.1.2.1),(7,.int .i64 (s.1.1:Int))]) (fun s=>lsH (@Sv.v Stm) 53 s.2.1.1 s.2.1.2.1 s.2.1.2.2::fcM s.1.2::pto n3 (.cells (fcC s.1.2).toArray 240 (0,0))::pto n1 (.cells [.slice none 0 0,.slice none 0 0,.int .i64 0,.int .i64 0,.slice none 0 0,.slice none 0 0,.int .i64 0,.int .i64 0,.slice none 0 0,.slice none 0 0,.slice none 0 0,.slice none 0 0,.slice none 0 0].toArray 29 (0,0))::pto n2 (.cells [.int .i64 0,.int .i64 0].toArray 107 (0,0))::(q++F)) (fun s=>m.length - s.1.1) (fun s hi_ ih=> ?_) ((0,FC.z),(none,0, []),a) ⟨Nat.zero_le _,rfl,rfl,rfl,FC.z_le,⟨rfl,rfl⟩,fun _=>rfl⟩) Zd (Le.trans leA (Le.trans (Ze (@Sv.v Stm) 53 _) (Le.trans (Kn.add (φ:=fun M=>FC.z.At M) (mn:=fun e h=>FC.At.mono e h) (fun _ _ _=>Tq _)) leA)))
 try dsimp only at hi_ ih⊢
 obtain ⟨hi1,hi2,hi3,hi4,hi5,⟨hi6,hi7⟩,hi8⟩:=hi_
 obtain ⟨⟨k,g⟩,⟨ab,cb,B⟩,a2⟩:=s;dsimp only at*;subst hi2;have hBl:B.length≤65536:=(by rw [hi3];exact Nat.le_trans thB_len (by rw [List.length_take];omega))
 refine xo 8 ?_;refine Zm [23,0,2,3,4,5,6,7] ?_
 apply Zp 4 27 23 rfl
 · intro g1 M1;have h1:=sp g1
   refine ol 1 ?_;refine oo 2 ?_;exact Zz M1 ⟨Wz g1,Zw⟩
 · intro g1 M1;have h1:=sp g1
   refine oo 4 ?_;exact Zz M1 ⟨Wj g1,Zw⟩
 refine ox 1 ?_;refine X.part 27 rfl (fun h0=> ?_) (fun h0=> ?_)
 · obtain ⟨hlt,h9⟩:k<m.length∧g.flaw=0:=(by rw [Bool.and_eq_true] at h0;exact ⟨by simpa using h0.1,by simpa using h0.2⟩)
   have hgd:=hgood _ (List.getElem_mem hlt);have hsn:=thB_snoc hlt
   refine xx 5 ?_;refine drw ?_;refine Ji 0 ?_;refine dd [1,2] ?_;refine Km hA (by rw [hlen];omega) (fun b1 o1 e1=> ?_);subst e1
   have hrw: ∀ (Q:List HP),Le Q q→ ∀ (j:Nat) (v:Value),nth (dcC m[k]) j=some v→Cl Q ⟨b1,o1+(k:Int).toNat*6+j,none⟩ v:=fun Q hQ j v hv=>Cl.row hA hQ (fun _=>rfl) hlt rfl j v (by rw [←Ve];exact hv)
   refine dd [3] ?_;refine XD.rdCs 4 (us:=dcC m[k]) rfl rfl isAgg229 sizeOf229 rfl (fun k v hk=>hrw _ leA k v (by rw [Ve];exact hk)) ?_
   refine Y5 5 call118 (Le.refl _) (Pt (f:=g) (d:=m[k]) knA (Tm hi5 (by omega)) hgd.1 hgd.2.1) ?_
   rintro _ _ ⟨g2,rfl,rfl,hg2⟩
   refine ⟨trivial,?_⟩
   refine V1 6 ?_;refine XD.nil ?_;refine xo 4 ?_
   skip
   refine ol 2 ?_;refine ox 2 ?_;refine X.part 41 rfl (fun h1=> ?_) (fun h1=> ?_)
   · replace h1:=sp h1
     refine xj 7 ?_;refine XO.ef (Y0 (@Sv.v Stm) [⟨m[k].body,m[k].ba,m[k].bc⟩] underlying241 Sz rfl rfl rfl rfl rfl rfl (fun _=>rfl)) ?_
     rintro _ _ ⟨gl,rfl,rfl⟩
     refine XO.ef (Yb (f:= @Sv.v Stm) (l:=B) (m:= [⟨m[k].body,m[k].ba,m[k].bc⟩]) underlying241 Sz rfl rfl rfl Zk ((Sees.lsH _).le Zk) (fun _=>rfl) (by simp;omega) (by simp;omega)) ?_
     rintro _ _ ⟨a3,c3,rfl,rfl⟩
     refine ox 8 ?_
     have hdl:=Rq hi5 m[k].er;rw [←hg2] at hdl;obtain ⟨hd1,hd2,hd3⟩:=hdl
     have hds:Fnd.decls g.er ((m.drop k).map Dec.er)=Fnd.decls g2.er ((m.drop (k+1)).map Dec.er):=by rw [List.drop_eq_getElem_cons hlt,List.map_cons,Fnd.decls,if_pos (show g.er.flaw=0 from h9),hg2]
     have hth:g2.flaw=0→g2.ths.l.length=g.ths.l.length+1:=fun hx=>by have:=Ko (f:=g.er) (d:=m[k].er) h9 (by rw [←hg2];exact hx);rw [←hg2,if_pos (show m[k].er.k=6 from (by simpa using h1:m[k].k=6))] at this;simpa [FC.er] using this
     refine X.at (ih ((k+1,g2),(a3,c3,B++ [⟨m[k].body,m[k].ba,m[k].bc⟩]),_) ⟨by dsimp only;omega,rfl,by dsimp only;rw [hsn,if_pos (show m[k].k=6 by simpa using h1),←hi3],hi4.trans hds,hd1,⟨hd2.trans hi6,hd3.trans hi7⟩,fun hx=>by have h1:=hth hx;have h2:=hi8 h9;simp;omega⟩ (by dsimp only;omega)) Zd leA
   replace h1:=sp h1
   refine xx 8 ?_
   have hdl:=Rq hi5 m[k].er;rw [←hg2] at hdl;obtain ⟨hd1,hd2,hd3⟩:=hdl
   have hds:Fnd.decls g.er ((m.drop k).map Dec.er)=Fnd.decls g2.er ((m.drop (k+1)).map Dec.er):=by rw [List.drop_eq_getElem_cons hlt,List.map_cons,Fnd.decls,if_pos (show g.er.flaw=0 from h9),hg2]
   have hth:g2.flaw=0→g2.ths.l.length=g.ths.l.length+0:=fun hx=>by have:=Ko (f:=g.er) (d:=m[k].er) h9 (by rw [←hg2];exact hx);rw [←hg2,if_neg (show ¬m[k].er.k=6 from (by simpa using h1: ¬m[k].k=6))] at this;simpa [FC.er] using this
   refine X.at (ih ((k+1,g2),(ab,cb,B),_) ⟨by dsimp only;omega,rfl,by dsimp only;rw [hsn,if_neg (show ¬m[k].k=6 by simpa using h1),←hi3];simp,hi4.trans hds,hd1,⟨hd2.trans hi6,hd3.trans hi7⟩,fun hx=>by have h1:=hth hx;have h2:=hi8 h9;simp;omega⟩ (by dsimp only;omega)) Zd leA
 have hD:Fnd.decls .z (m.map Dec.er)=g.er:=by
  rcases Nat.lt_or_ge k m.length with hlt|hlt
  · rw [hi4];exact F3 (fun hg=>by revert h0;rw [decide_eq_true (show (k:Int)<m.length by omega),show g.flaw=0 from hg];decide) _
  rw [hi4,List.drop_eq_nil_of_le hlt];rfl
 have hB:g.flaw=0→B=thB m:=fun hg=>by rw [hi3,List.take_of_length_le];rcases Nat.lt_or_ge k m.length with hlt|hlt;(revert h0;rw [decide_eq_true (show (k:Int)<m.length by omega),show g.flaw=0 from hg];intro hx;exact absurd hx (by decide));exact hlt
 rw [hD,thB_er] at hR;clear ih hi4
 refine xo 4 ?_;refine ldA ?_;refine XO.cR call119 (S8 (f:=g) (s:=Qp) knA) ?_
 refine ox 3 ?_;obtain ⟨A,hA2⟩: ∃ A,g.er.at Qp=A:=⟨_,rfl⟩;rw [hA2] at hR⊢
 obtain ⟨f1,hf1⟩: ∃ f1,(if g.er.flaw=0∧(A=0∨((g.er.names.map (·.k)).getD (A - 1) 0)≠6) then g.er.fl 133 else g.er)=f1:=⟨_,rfl⟩;rw [hf1] at hR
 refine X.join (fun (x:FC)=> [(2,.pointer (some ⟨n1,0,none⟩)),(3,.pointer (some ⟨n2,0,none⟩)),(4,.int .i64 0),(5,.pointer (some ⟨n3,0,none⟩)),(6,.slice ab B.length cb),(8,.int .i64 ((A:Int) - 1))]) (fun x=>lsH (@Sv.v Stm) 53 ab cb B::fcM x::pto n3 (.cells (fcC x).toArray 240 (0,0))::pto n1 (.cells [.slice none 0 0,.slice none 0 0,.int .i64 0,.int .i64 0,.slice none 0 0,.slice none 0 0,.int .i64 0,.int .i64 0,.slice none 0 0,.slice none 0 0,.slice none 0 0,.slice none 0 0,.slice none 0 0].toArray 29 (0,0))::pto n2 (.cells [.int .i64 0,.int .i64 0].toArray 107 (0,0))::(q++F)) (fun x=>x.er=f1) (fun x hx_=> ?_) (fun K=> ?_)
 · have hk:f1.locals=0∧f1.stm=0∧f1.names=g.er.names∧f1.ths=g.er.ths:=by rw [←hf1];split;exact ⟨(Fnd.fl_keep _ _).1.trans hi6,(Fnd.fl_keep _ _).2.1.trans hi7,(Fnd.fl_keep _ _).2.2.1,(Fnd.fl_keep _ _).2.2.2⟩;exact ⟨hi6,hi7,rfl,rfl⟩
   have hfl:f1.flaw=0→g.flaw=0∧A≠0:=(by rw [←hf1];split;(rename_i hx;intro hy;rw [Jd hx.1] at hy;cases hy);(rename_i hx;intro hy;exact ⟨hy,fun hz=>hx ⟨hy,.inl hz⟩⟩))
   have hbo:Fnd.bodies f1 0 ((thB m).map fun x=>Zj x.l)=Fnd.bodies f1 0 (B.map fun x=>Zj x.l):=(by by_cases hx:f1.flaw=0;rw [hB (hfl hx).1];rw [Je hx,Je hx])
   have hth:f1.flaw=0→B.length≤f1.ths.length:=fun hx=>(by rw [hk.2.2.2];have:=hi8 (hfl hx).1;simp only [FC.er,List.length_map];omega);have hBm:f1.flaw=0→B=thB m:=fun hx=>hB (hfl hx).1;have hAn:A≤f1.names.length:=(by rw [←hA2,hk.2.2.1];exact J5);have hthu:f1.ths.length≤65536:=(by rw [hk.2.2.2];have:=hi5.2.2.2.1;omega);have hnl:f1.names.length≤65536:=(by rw [hk.2.2.1];have:=hi5.2.2.2.2.2.2.2.2.2.1;omega)
   rw [hbo] at hR;obtain ⟨hk1,hk2,hk3,hk4⟩:=hk;have hA0:f1.flaw=0→A≠0:=fun hx=>(hfl hx).2;clear hf1 hD hB hfl hi5 hi6 hi7 hi8 hi3 hbo hk3 hk4 h0 hA2
   refine xx 6 ?_;refine X.at (X.loop (fun (s:Nat×FC)=>s.1≤B.length∧Fnd.bodies f1 0 (B.map fun x=>Zj x.l)=Fnd.bodies s.2.er s.1 ((B.drop s.1).map fun x=>Zj x.l)∧s.2.er.names=f1.names∧(s.2.er.locals=0∧0≤s.2.er.stm)∧(s.2.er.flaw=0→f1.flaw=0)∧s.2.er.ths.length=f1.ths.length) (fun s=> [(2,.pointer (some ⟨n1,0,none⟩)),(3,.pointer (some ⟨n2,0,none⟩)),(4,.int .i64 0),(5,.pointer (some ⟨n3,0,none⟩)),(6,.slice ab B.length cb),(8,.int .i64 ((A:Int) - 1)),(9,.int .i64 (s.1:Int))]) (fun s=>lsH (@Sv.v Stm) 53 ab cb B::fcM s.2::pto n3 (.cells (fcC s.2).toArray 240 (0,0))::pto n1 (.cells [.slice none 0 0,.slice none 0 0,.int .i64 0,.int .i64 0,.slice none 0 0,.slice none 0 0,.int .i64 0,.int .i64 0,.slice none 0 0,.slice none 0 0,.slice none 0 0,.slice none 0 0,.slice none 0 0].toArray 29 (0,0))::pto n2 (.cells [.int .i64 0,.int .i64 0].toArray 107 (0,0))::(q++F)) (fun s=>B.length - s.1) (fun s hi_ ih=> ?_) (0,x) ⟨Nat.zero_le _,by dsimp only;rw [hx_];rfl,by dsimp only;rw [hx_],by dsimp only;rw [hx_,hk1,hk2];decide,by dsimp only;rw [hx_];exact id,by dsimp only;rw [hx_]⟩) Zd leA
   try dsimp only at hi_ ih⊢
   obtain ⟨hj1,hj2,hj3,⟨hj4,hj5⟩,hj6,hj7⟩:=hi_
   obtain ⟨i,g⟩:=s;dsimp only at*
   refine xo 8 ?_;refine Zm [75,2,3,4,5,6,8,9] ?_
   apply Zp 4 79 75 rfl
   · intro g1 M1;have h1:=sp g1
     refine ol 1 ?_;refine oo 2 ?_;exact Zz M1 ⟨Wz g1,Zw⟩
   · intro g1 M1;have h1:=sp g1
     refine oo 4 ?_;exact Zz M1 ⟨Wj g1,Zw⟩
   refine ox 1 ?_;refine X.part 79 rfl (fun h0=> ?_) (fun h0=> ?_)
   · obtain ⟨hlt,h9⟩:i<B.length∧g.flaw=0:=(by rw [Bool.and_eq_true] at h0;exact ⟨by simpa using h0.1,by simpa using h0.2⟩)
     have hz1:=hj6 h9;have hz2:=hth hz1;have hmem: ∀ x∈B,∃ d∈m,x=⟨d.body,d.ba,d.bc⟩:=fun x hx=>thB_mem (by rw [←hBm hz1];exact hx);obtain ⟨d,hd,hbd⟩:=hmem _ (List.getElem_mem hlt)
     obtain ⟨x2,hx2⟩: ∃ y,B[i]=y:=⟨_,rfl⟩;rw [hx2] at hbd;have hbk:Kn q fun M=>BlkAt M x2.a x2.c x2.l:=(by rw [hbd];exact h.imp fun M h=>h.2 _ hd);have hth2:Wr (Zj x2.l):=(by rw [hbd];exact (hgood d hd).2.2);have hsz2:Zh x2.l≤65536:=(by rw [hbd];exact hbz d hd)
     have hgt:g.ths.l.length=g.er.ths.length:=(List.length_map _).symm;have hgn:g.names.l.length≤65536:=(by rw [show g.names.l=f1.names from hj3];exact hnl);replace hj4:g.locals=0:=hj4;replace hj5:0≤g.stm:=hj5
     refine V9 (fl:= @Sv.v Stm) (l:=B) (a:=ab) (by omega) (fun gb e_=> ?_);subst e_
     refine xo 7 ?_;refine st ?_;refine ox 2 ?_;refine drw ?_;refine Ji 0 ?_;refine dd [1,2,3] ?_;refine ldD 4 ?_ (hc:=(Cl.e1 (n:=i) (Sees.lsH _) Zk hlt rfl))
     refine XD.know 88 (.slice x2.a x2.l.length x2.c) rfl (by rw [hx2];rfl) ?_
     refine Y3 (fl:= [⟨9,10,fun g=> .pointer (some ⟨g,0,none⟩),fun g=>pto g (.cells [.slice none 0 0,.slice none 0 0,.int .i64 0,.int .i64 0,.slice none 0 0,.slice none 0 0,.int .i64 0,.int .i64 0,.slice none 0 0,.slice none 0 0,.slice none 0 0,.slice none 0 0,.slice none 0 0,.slice none 0 0,.int .i64 0,.int .i64 0,.int .i64 0,.int .i64 0,.int .i64 0,.int .i64 0].toArray 240 (0,0))⟩]) ?_
     refine B3 5 ⟨⟨_,rfl,rfl,rfl,rfl,rfl,rfl,fun q=>Ef.alloc zeroValue240⟩,trivial⟩ call121 (Le.refl _) ((On _).2 x2.l x2.a x2.c (Nat.le_refl _) hth2 (f:=({ g with most:=0 } :FC)) (Kn.imp (φ:=fun M=>g.At M) knA fun M h=>FC.At.mo h) (Kn.le hbk) ⟨by dsimp only;omega,⟨by dsimp only;omega,by dsimp only;omega⟩,hj5⟩) ?_ (hL:=hlR)
     rintro _ _ ⟨g2,b2,d2,m2,rfl,rfl,hge⟩
     refine ⟨trivial,?_⟩
     refine Qu 6 ⟨⟨_,rfl,rfl,rfl,rfl,rfl,rfl,fun q=>Ef.alloc zeroValue240⟩,trivial⟩ (Pu.move rfl) ?_
     refine Qu 7 ⟨⟨_,rfl,rfl,rfl,rfl,rfl,rfl,fun q=>Ef.alloc zeroValue240⟩,trivial⟩ (Pu.extract rfl rfl) ?_
     refine Qu 8 ⟨⟨_,rfl,rfl,rfl,rfl,rfl,rfl,fun q=>Ef.alloc zeroValue240⟩,trivial⟩ (Pu.extract rfl rfl) ?_
     refine Vj (e0:=⟨9,10,fun g=> .pointer (some ⟨g,0,none⟩),fun g=>pto g (.cells [.slice none 0 0,.slice none 0 0,.int .i64 0,.int .i64 0,.slice none 0 0,.slice none 0 0,.int .i64 0,.int .i64 0,.slice none 0 0,.slice none 0 0,.slice none 0 0,.slice none 0 0,.slice none 0 0,.slice none 0 0,.int .i64 0,.int .i64 0,.int .i64 0,.int .i64 0,.int .i64 0,.int .i64 0].toArray 240 (0,0))⟩) (hnd:=by simp) 9 ⟨⟨_,rfl,rfl,rfl,rfl,rfl,rfl,fun q=>Ef.alloc zeroValue240⟩,trivial⟩ (fun ga=> ?_)
     change XF _ _ _ _ _ _ _ [] _ _ _ ((10,.pointer (some ⟨ga,0,none⟩))::_) _ _ (pto ga (.cells [.slice none 0 0,.slice none 0 0,.int .i64 0,.int .i64 0,.slice none 0 0,.slice none 0 0,.int .i64 0,.int .i64 0,.slice none 0 0,.slice none 0 0,.slice none 0 0,.slice none 0 0,.slice none 0 0,.slice none 0 0,.int .i64 0,.int .i64 0,.int .i64 0,.int .i64 0,.int .i64 0,.int .i64 0].toArray 240 (0,0))::_)
     refine XF.back ?_;refine V1 10 ?_;refine dd [11] ?_;refine XD.nil ?_;refine xo 2 ?_;refine ldA ?_;refine stA ?_;refine ol 5 ?_
     have hg2:g2.ths.l.length=f1.ths.length:=(by rw [←hj7];have:=congrArg List.length (show g2.er.ths=g.er.ths from (congrArg (fun x=>x.1.ths) hge).trans (Fnd.To.blk (Zj x2.l) _).e.2.2.2.2.2.1);rw [show g2.er.ths.length=g2.ths.l.length from List.length_map _] at this;exact this)
     refine XO.le (q':=rsH thC 3 55 none 0 []::_) (Zl thC 3 55 _) ?_
     refine XO.ef (Yq (f:=thC) (l:= []) (m:=g2.ths.l) underlying24 Nk rfl rfl (fun _=>rfl) rfl rfl Zk (Sv.sees (Kn.imp (φ:=fun M=>g2.At M) knA fun M h=>h.ths)) (fun _=>rfl) (by simp;omega) (by simp;omega)) ?_
     rintro _ _ ⟨at2,ct2,rfl,rfl⟩
     rw [List.nil_append]
     refine ox 3 ?_;refine drw ?_;refine dl [0,1,2,3,4,5] 6 ?_
     have hit:i<g2.ths.l.length:=(by omega);obtain ⟨y,hy⟩: ∃ y,g2.ths.l[i]=y:=⟨_,rfl⟩
     refine Cm (fl:=thC) (sz:=3) (l:=g2.ths.l) (a:=at2) (by omega) (fun gt e_=> ?_);subst e_
     refine dd [7,8] ?_;refine XD.ef0 9 rfl (Ye (f:=thC) (l:=g2.ths.l) (u:=⟨y.nm,y.loc,m2,b2,d2⟩) (n:=i) (k:=2) rfl rfl sizeOf53 (fun _=>rfl) rfl hit rfl (by rw [hy];rfl) rfl rfl Zk) ?_
     rintro _ _ ⟨rfl,rfl⟩
     refine ⟨hlR,?_⟩
     refine dd [10,11] ?_;refine XD.ef0 12 rfl (Ye (f:=thC) (l:=g2.ths.l.set i ⟨y.nm,y.loc,m2,b2,d2⟩) (u:=⟨y.nm,g2.most,m2,b2,d2⟩) (n:=i) (k:=1) rfl rfl sizeOf3 (fun _=>rfl) rfl (by rw [List.length_set];exact hit) rfl (by rw [List.getElem_set_self];rfl) rfl rfl Zk) ?_
     rintro _ _ ⟨rfl,rfl⟩
     refine ⟨trivial,?_⟩
     refine XD.know 12 (.slice (some ⟨gt,0,none⟩) ((g2.ths.l.set i ⟨y.nm,y.loc,m2,b2,d2⟩).set i ⟨y.nm,g2.most,m2,b2,d2⟩).length ct2) rfl (by rw [List.length_set,List.length_set]) ?_
     refine XD.nil ?_;refine xo 4 ?_;refine st ?_;refine ox 7 ?_;refine Cp ?_;refine X.le (q':=fcM ({ g2 with ths:=⟨(g2.ths.l.set i ⟨y.nm,y.loc,m2,b2,d2⟩).set i ⟨y.nm,g2.most,m2,b2,d2⟩,some ⟨gt,0,none⟩,ct2⟩ } :FC)::_) (Kn.add ((Kn.and (φ:=fun M=>g2.At M) knA (Kn.and (svK (x:=⟨(g2.ths.l.set i ⟨y.nm,y.loc,m2,b2,d2⟩).set i ⟨y.nm,g2.most,m2,b2,d2⟩,some ⟨gt,0,none⟩,ct2⟩) (f:=thC)) (show Kn _ fun M=>BlkAt M b2 d2 m2 from knA))).imp fun M h=>FC.At.t h.1 h.2.1 (fun z hz=>by rcases List.mem_or_eq_of_mem_set hz with hz|hz;rcases List.mem_or_eq_of_mem_set hz with hz|hz;exact h.1.bod z hz;rw [hz];exact h.2.2;rw [hz];exact h.2.2))) ?_
     have hLL:((g2.ths.l.set i ⟨y.nm,y.loc,m2,b2,d2⟩).set i ⟨y.nm,g2.most,m2,b2,d2⟩).map Th.er=(g2.ths.l.map Th.er).set i ⟨y.nm,g2.most,Zj m2⟩:=by rw [List.set_set,List.map_set];rfl
     have hnm:((g2.ths.l.map Th.er).getD i ⟨em,0, []⟩).nm=y.nm:=by rw [gD (by simpa using hit)];simp [hy,Th.er]
     have hst:Fnd.bodies f1 0 (B.map fun x=>Zj x.l)=Fnd.bodies ({ g2 with ths:=⟨(g2.ths.l.set i ⟨y.nm,y.loc,m2,b2,d2⟩).set i ⟨y.nm,g2.most,m2,b2,d2⟩,some ⟨gt,0,none⟩,ct2⟩ } :FC).er (i+1) ((B.drop (i+1)).map fun x=>Zj x.l):=by
      rw [hj2,List.drop_eq_getElem_cons hlt,List.map_cons,Fnd.bodies,if_pos (show g.er.flaw=0 from h9),hx2];dsimp only;rw [show Fnd.block { g.er with most:=0 } (Zj x2.l)=(g2.er,Zj m2) from hge.symm];congr 1;simp only [FC.er,hLL];rw [hnm]
     refine X.at (ih (i+1,({ g2 with ths:=⟨(g2.ths.l.set i ⟨y.nm,y.loc,m2,b2,d2⟩).set i ⟨y.nm,g2.most,m2,b2,d2⟩,some ⟨gt,0,none⟩,ct2⟩ } :FC)) ⟨by dsimp only;omega,hst,(congrArg (fun x=>x.1.names) hge).trans hj3,⟨(congrArg (fun x=>x.1.locals) hge).trans hj4,by have h1:=(Fnd.To.blk (Zj x2.l) ({ g with most:=0 } :FC).er).s;have h2:g2.er.stm=_:=congrArg (fun x=>x.1.stm) hge;show 0≤g2.er.stm;rw [h2];exact Int.le_trans hj5 h1⟩,fun _=>hz1,by show (((g2.ths.l.set i ⟨y.nm,y.loc,m2,b2,d2⟩).set i ⟨y.nm,g2.most,m2,b2,d2⟩).map Th.er).length=_;rw [List.length_map,List.length_set,List.length_set];exact hg2⟩ (by dsimp only;omega)) Zd leA
   have hE:Fnd.bodies f1 0 (B.map fun x=>Zj x.l)=g.er:=by
    rcases Nat.lt_or_ge i B.length with hlt|hlt
    · rw [hj2];exact Je (fun hg=>by revert h0;rw [decide_eq_true (show (i:Int)<B.length by omega),show g.flaw=0 from hg];decide) _ _
    rw [hj2,List.drop_eq_nil_of_le hlt];rfl
   rw [hE] at hR;clear ih hj2
   refine xj 6 ?_;refine ox 2 ?_;refine X.part 113 rfl (fun h1=> ?_) (fun h1=> ?_)
   · replace h1:=sp h1;rw [if_pos (show g.er.flaw≠0 from h1)] at hR
     refine xx 2 ?_;refine drw ?_;refine dd [0,1] ?_;refine Ji 2 ?_;refine dl [3] 4 ?_;refine V1 5 ?_;refine V1 6 ?_;refine dd [7] ?_;refine XD.nil ?_;refine X.le (q':=fcM FC.z::_) (Kn.add (fun _ _ _=>Tq _)) ?_
     refine Zq (fcM FC.z::q) func77 (Gf results77) ⟨_,rfl,FC.z,g.pl,g.pc,g.flaw,rfl,rfl,by rw [←hR];exact h1⟩
   replace h1:=sp h1;rw [if_neg (show ¬g.er.flaw≠0 from fun hx=>hx h1)] at hR;have hz1:=hj6 h1;have hz2:=hA0 hz1
   have hN:Kn (fcM g::q) fun M=>g.names.At M nmC:=Kn.imp (φ:=fun M=>g.At M) knA fun M h=>h.names;have hA3:=Sv.sees hN;have hlen3:=Zv (f:=nmC) (sz:=3) (fun _=>rfl) g.names.l
   obtain ⟨⟨nl,na,nc⟩,hf⟩: ∃ x,g.names=x:=⟨_,rfl⟩;rw [hf] at hA3 hlen3;dsimp only at hA3 hlen3;have hgn:g.er.names=nl:=(by simp only [FC.er,hf])
   obtain ⟨j,hj⟩: ∃ j,A=j+1:=⟨A - 1,by omega⟩;have hlt:j<nl.length:=(by rw [←hgn,hj3];omega)
   refine xj 5 ?_;refine XO.know 120 (.slice na nl.length nc) rfl (by show g.names.v=_;rw [hf];rfl) ?_
   refine oo 1 ?_;refine XO.know 121 (.int .i64 (j:Int)) rfl (congrArg (Value.int .i64) (by omega)) ?_
   refine Kh hA3 (by rw [hlen3];omega) (fun b3 o3 e3=> ?_);subst e3
   refine oo 2 ?_;refine ld ?_ (hc:=(Cl.row (n:=j) hA3 leA (fun _=>rfl) hlt rfl 2 _ rfl))
   refine oo 2 ?_;refine st ?_;refine oo 4 ?_;refine ldA ?_;refine oo 1 ?_;refine stA ?_;refine stA ?_;refine ox 2 ?_;refine X.le (q':=fcM ({ g with main:=nl[j].s } :FC)::_) (Kn.add (Kn.imp (φ:=fun M=>g.At M) knA fun M h=>FC.At.mn h)) ?_
   refine Zq (fcM ({ g with main:=nl[j].s } :FC)::q) func77 (Gf results77) ⟨_,rfl,({ g with main:=nl[j].s } :FC),0,0,0,rfl,rfl,by rw [←hR,hgn,hj,Nat.add_sub_cancel,gD (by simpa using hlt)];refine ⟨rfl,?_⟩;simp [FC.er,hf]⟩
 have hN:Kn (fcM g::q) fun M=>g.names.At M nmC:=Kn.imp (φ:=fun M=>g.At M) knA fun M h=>h.names;have hA3:=Sv.sees hN;have hlen3:=Zv (f:=nmC) (sz:=3) (fun _=>rfl) g.names.l
 obtain ⟨⟨nl,na,nc⟩,hf⟩: ∃ x,g.names=x:=⟨_,rfl⟩;rw [hf] at hA3 hlen3;dsimp only at hA3 hlen3;have hgn:g.er.names=nl:=by simp only [FC.er,hf]
 have hAl:A≤nl.length:=by rw [←hA2,←hgn];exact J5
 refine xj 3 ?_;refine oo 2 ?_;refine XO.part 55 rfl (fun h1=> ?_) (fun h1=> ?_)
 · replace h1:=sp h1
   refine oo 3 ?_;refine XO.part 58 rfl (fun h2=> ?_) (fun h2=> ?_)
   · replace h2:=sp h2
     refine oo 12 ?_;refine ldA ?_;refine oo 1 ?_;refine Zf call120 (Le.refl _) (V8 (f:=g) knA) ?_
     rintro _ _ ⟨g2,rfl,rfl,hg2⟩
     refine stA ?_;refine ox 1 ?_
     -- ['guard T', 'guard T']
     exact X.at (K g2 (by rw [←hf1,if_pos (by exact ⟨h1,.inl (by omega)⟩)];exact hg2)) Zd leA
   replace h2:=sp h2
   refine ol 1 ?_;refine XO.know 60 (.slice na nl.length nc) rfl (by show g.names.v=_;rw [hf];rfl) ?_
   obtain ⟨i,hi⟩: ∃ i,A=i+1:=⟨A - 1,by omega⟩;have hlt:i<nl.length:=by omega
   refine oo 1 ?_;refine XO.know 61 (.int .i64 (i:Int)) rfl (congrArg (Value.int .i64) (by omega)) ?_
   refine Kh hA3 (by rw [hlen3];omega) (fun b3 o3 e3=> ?_);subst e3
   refine oo 2 ?_;refine ld ?_ (hc:=(Cl.row (n:=i) hA3 leA (fun _=>rfl) hlt rfl 1 _ rfl))
   refine ox 4 ?_;refine X.part 67 rfl (fun h3=> ?_) (fun h3=> ?_)
   · replace h3:=sp h3
     refine xo 2 ?_;refine ldA ?_;refine oo 1 ?_;refine Zf call120 (Le.refl _) (V8 (f:=g) knA) ?_
     rintro _ _ ⟨g2,rfl,rfl,hg2⟩
     refine stA ?_;refine ox 1 ?_
     -- ['guard T', 'guard F', 'adr3', 'cond T']
     exact X.at (K g2 (by rw [←hf1,if_pos (by refine ⟨h1,.inr ?_⟩;rw [hgn,hi,Nat.add_sub_cancel,gD (by simpa using hlt)];simpa using h3)];exact hg2)) Zd leA
   replace h3:=sp h3
   refine xx 2 ?_
   -- ['guard T', 'guard F', 'adr3', 'cond F']
   exact X.at (K g (by rw [←hf1,if_neg (by rintro ⟨_,hx|hx⟩;omega;revert hx;rw [hgn,hi,Nat.add_sub_cancel,gD (by simpa using hlt)];simpa using h3)])) Zd leA
 replace h1:=sp h1
 refine ox 15 ?_
 -- ['guard F']
 exact X.at (K g (by rw [←hf1,if_neg (by exact fun hx=>h1 hx.1)])) Zd leA
variable {s:ByteArray}
set_option maxHeartbeats 1000000 in
theorem text_ok:CallF prog G 43 [.string s] (q) (Ret fun v q'=> ∃ (g:FC) (y z e:Int),v= .tuple [.agg (pgC g).toArray,.agg [Value.int .i64 y,.int .i64 z].toArray,.int .i64 e].toArray∧q'=fcM g::q∧(match J3 (bs s) with|none=>e≠0|some F=>e=0∧g.er=F)):=by
 refine CallF.of func43 ntmps43 rfl (fun F cs=> ?_)
 obtain ⟨R,hR⟩: ∃ R,J3 (bs s)=R:=⟨_,rfl⟩;rw [hR];unfold J3 at hR
 refine xo 2 ?_;refine XO.al zeroValue29 fun n1=> ?_
 refine XO.al zeroValue107 fun n2=> ?_
 refine oo 5 ?_;refine Zf call76 (Le.refl _) (Parse_ok) ?_;rintro _ _ (⟨ds_,a,c,hP,rfl,rfl⟩|⟨hP,y,z,e,he,rfl,rfl⟩)
 iterate 2
  focus
   rw [hP] at hR;dsimp only at hR
   refine oo 4 ?_;refine XO.al zeroValue107 fun n3=> ?_
   refine oo 1 ?_;refine stA ?_;refine ox 8 ?_
  rotate_left
 · refine Wy 15 ?_;refine xo 5 ?_;refine Zf call77 (Le.refl _) (find_ok (m:=ds_) knA (parse_nd hP)) ?_
   rintro _ _ ⟨g,y,z,e,rfl,rfl,hF⟩
   refine oo 3 ?_;refine stA ?_;refine stA ?_;refine ox 2 ?_;refine Zq (fcM g::q) func43 (Gf results43) ⟨_,rfl,g,y,z,e,rfl,rfl,by rw [←hR];exact hF⟩
 refine X.know 15 (.bool true) rfl (congrArg Value.bool (by rw [bne_iff_ne];exact he)) ?_
 refine xx 2 ?_;refine drw ?_;refine dd [0] ?_;refine Ji 1 ?_;refine dd [2] ?_;refine V1 3 ?_;refine V1 4 ?_;refine dd [5] ?_;refine XD.nil ?_;refine X.le (q':=fcM FC.z::_) (Kn.add (fun _ _ _=>Tq _)) ?_
 refine Zq (fcM FC.z::q) func43 (Gf results43) ⟨_,rfl,FC.z,y,z,e,rfl,rfl,by rw [←hR];exact he⟩
end
end Go.Proofs.YtflkjkhijcdbaaaGreat
namespace Go.Proofs.YtflkjkhijcdbaaaGreat
open Go Go.RowKit Wx Go.Proofs.Tryz
structure Ch where
 room:Int
 all:List Int
 taken:Nat
structure Sy where
 owners:List Int
 conds:List (List Int)
 chans:List Ch
def Ch.items (c:Ch):List Int:=c.all.drop c.taken
abbrev inR (k:Int)(n:Nat):Prop:=0≤k∧k<n
abbrev thr (t:Int):Prop:=0≤t∧t≤7
abbrev val (v:Int):Prop:= -2147483648≤v∧v≤2147483647
def Ws (s:Sy)(m t:Int):Sy×Bool×Int:=
 if inR m s.owners.length then if thr t then if s.owners.getD m.toNat 0= -1 then ({ s with owners:=s.owners.set m.toNat t },true,0) else (s,false,0) else (s,false,2) else (s,false,4)
def Z6 (s:Sy)(m t:Int):Sy×Int:=
 if inR m s.owners.length then if thr t then if s.owners.getD m.toNat 0=t then ({ s with owners:=s.owners.set m.toNat (-1) },0) else (s,140) else (s,2) else (s,4)
def Us (s:Sy)(k t:Int):Sy×Int:=
 if inR k s.conds.length then if thr t then if ∃ l∈s.conds,t∈l then (s,141) else ({ s with conds:=s.conds.set k.toNat (s.conds.getD k.toNat []++ [t]) },0) else (s,2) else (s,4)
def Yo (s:Sy)(k:Int):Sy×Int×Int:=
 if inR k s.conds.length then if s.conds.getD k.toNat []= [] then (s, -1,0) else ({ s with conds:=s.conds.set k.toNat ((s.conds.getD k.toNat []).drop 1) },(s.conds.getD k.toNat []).headD 0,0) else (s, -1,4)
def J6 (s:Sy)(k:Int):Sy×List Int×Int:=
 if inR k s.conds.length then ({ s with conds:=s.conds.set k.toNat [] },s.conds.getD k.toNat [],0) else (s, [],4)
def ch0:Ch:=⟨1, [],0⟩
def Vx (s:Sy)(q v:Int):Sy×Int×Int:=
 if inR q s.chans.length then if val v then if ((s.chans.getD q.toNat ch0).items.length:Int)<(s.chans.getD q.toNat ch0).room then
  ({ s with chans:=s.chans.set q.toNat { s.chans.getD q.toNat ch0 with all:=(s.chans.getD q.toNat ch0).all++ [v] } },(s.chans.getD q.toNat ch0).all.length,0) else (s, -1,0) else (s, -1,2) else (s, -1,4)
def W9 (s:Sy)(q:Int):Sy×Int×Int×Int:=
 if inR q s.chans.length then if (s.chans.getD q.toNat ch0).items= [] then (s,0, -1,0) else
  ({ s with chans:=s.chans.set q.toNat { s.chans.getD q.toNat ch0 with taken:=(s.chans.getD q.toNat ch0).taken+1 } },(s.chans.getD q.toNat ch0).all.getD (s.chans.getD q.toNat ch0).taken 0,(s.chans.getD q.toNat ch0).taken,0) else (s,0, -1,4)
def Ch.ok (n:Nat)(c:Ch):Prop:=(1≤c.room∧c.room≤16)∧c.taken≤c.all.length∧c.all.length≤n∧(c.items.length:Int)≤c.room∧ ∀ v∈c.all,val v
structure Sy.ok (n:Nat) (s:Sy):Prop where
 no:s.owners.length≤64
 nc:s.conds.length≤64
 nh:s.chans.length≤64
 o: ∀ o∈s.owners, -1≤o∧o≤7
 c: ∀ l∈s.conds,l.length≤n∧ ∀ t∈l,thr t
 h: ∀ x∈s.chans,x.ok n
theorem Sy.ok.mono {n m:Nat}{s:Sy}(h:s.ok n)(l:n≤m):s.ok m:=
 ⟨h.no,h.nc,h.nh,h.o,fun x hx=>⟨Nat.le_trans (h.c x hx).1 l,(h.c x hx).2⟩,fun x hx=>let ⟨a,b,c,d,e⟩:=h.h x hx;⟨a,b,Nat.le_trans c l,d,e⟩⟩
theorem Y7 {α:Type}{l:List α}{i:Nat}{d:α}(h:i<l.length):l.getD i d∈l:=by
 have:l.getD i d=l[i]:=by simp [List.getD,h]
 rw [this];exact List.getElem_mem _
theorem Pk {k:Int}{n:Nat}(h:inR k n):k.toNat<n:=by obtain ⟨a,b⟩:=h;omega
theorem Gl {n:Nat}{s:Sy}(h:s.ok n)(m t:Int):(Ws s m t).1.ok n:=by
 unfold Ws
 split
 · split
   · split
     · rename_i _ ht _
       exact ⟨by simpa using h.no,h.nc,h.nh,fun o ho=>by rcases List.mem_or_eq_of_mem_set ho with ho|rfl;exact h.o o ho;obtain ⟨a,b⟩:=ht;omega,h.c,h.h⟩
     exact h
   exact h
 exact h
theorem Ra {n:Nat}{s:Sy}(h:s.ok n)(m t:Int):(Z6 s m t).1.ok n:=by
 unfold Z6
 split
 · split
   · split
     · exact ⟨by simpa using h.no,h.nc,h.nh,fun o ho=>by rcases List.mem_or_eq_of_mem_set ho with ho|rfl;exact h.o o ho;omega,h.c,h.h⟩
     exact h
   exact h
 exact h
theorem waitS_ok {n:Nat}{s:Sy}(h:s.ok n)(k t:Int):(Us s k t).1.ok (n+1):=by
 unfold Us
 split
 · rename_i hk
   split
   · rename_i ht
     split
     · exact h.mono (by omega)
     refine ⟨h.no,by simpa using h.nc,h.nh,h.o,fun l hl=> ?_,(h.mono (Nat.le_succ n)).h⟩
     rcases List.mem_or_eq_of_mem_set hl with hl|rfl
     · exact (h.mono (Nat.le_succ n)).c l hl
     obtain ⟨h1,h2⟩:=h.c _ (Y7 (d:= []) (Pk hk))
     refine ⟨by rw [List.length_append];simp only [List.length_cons,List.length_nil];omega,fun x hx=> ?_⟩
     rcases List.mem_append.1 hx with hx|hx
     · exact h2 x hx
     rw [List.mem_singleton.1 hx];exact ht
   exact h.mono (by omega)
 exact h.mono (by omega)
theorem sendS_ok {n:Nat}{s:Sy}(h:s.ok n)(q v:Int):(Vx s q v).1.ok (n+1):=by
 unfold Vx
 split
 · rename_i hk
   split
   · rename_i hv
     split
     · rename_i hr
       refine ⟨h.no,h.nc,by simpa using h.nh,h.o,(h.mono (Nat.le_succ n)).c,fun x hx=> ?_⟩
       rcases List.mem_or_eq_of_mem_set hx with hx|rfl
       · exact (h.mono (Nat.le_succ n)).h x hx
       obtain ⟨h1,h2,h3,h4,h5⟩:=h.h _ (Y7 (d:=ch0) (Pk hk))
       unfold Ch.items at hr
       rw [List.length_drop] at hr
       refine ⟨h1,by dsimp only;rw [List.length_append];omega,by dsimp only;rw [List.length_append,List.length_singleton];omega,?_,fun x hx=> ?_⟩
       · unfold Ch.items;dsimp only;rw [List.length_drop,List.length_append,List.length_singleton];omega
       rcases List.mem_append.1 hx with hx|hx
       · exact h5 x hx
       rw [List.mem_singleton.1 hx];exact hv
     exact h.mono (by omega)
   exact h.mono (by omega)
 exact h.mono (by omega)
theorem Gb {n:Nat}{s:Sy}(h:s.ok n)(q:Int):(W9 s q).1.ok n:=by
 unfold W9
 split
 · rename_i hk
   split
   · exact h
   rename_i hr
   refine ⟨h.no,h.nc,by simpa using h.nh,h.o,h.c,fun x hx=> ?_⟩
   rcases List.mem_or_eq_of_mem_set hx with hx|rfl
   · exact h.h x hx
   obtain ⟨h1,h2,h3,h4,h5⟩:=h.h _ (Y7 (d:=ch0) (Pk hk))
   have hl:0<(s.chans.getD q.toNat ch0).items.length:=List.length_pos_iff.2 hr
   unfold Ch.items at hl h4
   rw [List.length_drop] at hl h4
   refine ⟨h1,by dsimp only;omega,h3,?_,h5⟩
   unfold Ch.items;dsimp only;rw [List.length_drop];omega
 exact h
theorem Tryz.info3:(prog.info? 3).map (fun i=>(i.zero,i.size,i.bytes))=some (some (.int .i64 0),1,8):=by kernel_rfl
theorem Tryz.info2:(prog.info? 2).map (fun i=>(i.zero,i.size,i.bytes))=some (some (.int .i64 0),1,8):=by kernel_rfl
theorem Tryz.info191:(prog.info? 191).map (fun i=>(i.zero,i.size,i.bytes))=some (some (.agg #[.slice none 0 0]),1,24):=by kernel_rfl
theorem Tryz.info180:(prog.info? 180).map (fun i=>(i.zero,i.size,i.bytes))=some (some (.agg #[.slice none 0 0,.int .i64 0,.int .i64 0]),3,40):=by kernel_rfl
def lsV (ty:TypeId)(x:SlV Int):HP:=lsH I64 ty x.a x.c x.l
def cqs (x:SlV Int):List Value:= [.slice x.a x.l.length x.c]
structure ChC where
 q:SlV Int
 room:Int
 sent:Int
def chs (x:ChC):List Value:= [.slice x.q.a x.q.l.length x.q.c,.int .i64 x.room,.int .i64 x.sent]
structure SyC where
 ao:Option Addr
 co:Nat
 owners:List Int
 ac:Option Addr
 cc:Nat
 conds:List (SlV Int)
 ah:Option Addr
 ch:Nat
 chans:List ChC
def syL (p:Nat)(s:SyC):List HP:= [pto p (.cells [.bool true,.slice s.ao s.owners.length s.co,.slice s.ac s.conds.length s.cc,.slice s.ah s.chans.length s.ch].toArray 176 (0,0)),
 lsH I64 3 s.ao s.co s.owners,rsH cqs 1 191 s.ac s.cc s.conds,stars (s.conds.map (lsV 3)),rsH chs 3 180 s.ah s.ch s.chans,stars (s.chans.map fun x=>lsV 2 x.q)]
def Ch.row (c:Ch):List Int×Int×Int:=(c.items,c.room,c.all.length)
def ChC.row (x:ChC):List Int×Int×Int:=(x.q.l,x.room,x.sent)
structure Real (σ:SyC) (s:Sy):Prop where
 o:σ.owners=s.owners
 c:σ.conds.map (·.l)=s.conds
 h:σ.chans.map ChC.row=s.chans.map Ch.row
theorem Real.lc {σ:SyC}{s:Sy}(r:Real σ s):σ.conds.length=s.conds.length:=by rw [←r.c];simp
theorem Real.lh {σ:SyC}{s:Sy}(r:Real σ s):σ.chans.length=s.chans.length:=by have:=congrArg List.length r.h;simpa using this
theorem Real.cl {σ:SyC}{s:Sy}(r:Real σ s){i:Nat}(h:i<σ.conds.length):s.conds.getD i []=σ.conds[i].l:=by
 have h2:i<s.conds.length:=by rw [←r.lc];exact h
 have:=congrArg (·[i]?) r.c
 simp only [List.getElem?_map,List.getElem?_eq_getElem h,List.getElem?_eq_getElem h2,Option.map_some] at this
 rw [List.getD,List.getElem?_eq_getElem h2];exact (Option.some.inj this).symm
theorem Real.hl {σ:SyC}{s:Sy}(r:Real σ s){i:Nat}(h:i<σ.chans.length):(s.chans.getD i ch0).row=σ.chans[i].row:=by
 have h2:i<s.chans.length:=by rw [←r.lh];exact h
 have:=congrArg (·[i]?) r.h
 simp only [List.getElem?_map,List.getElem?_eq_getElem h,List.getElem?_eq_getElem h2,Option.map_some] at this
 rw [List.getD,List.getElem?_eq_getElem h2];exact (Option.some.inj this).symm
theorem Mm {α β:Type}(f:α→β)(l:List α)(i:Nat)(x:α):(l.set i x).map f=(l.map f).set i (f x):=by simp
end Go.Proofs.YtflkjkhijcdbaaaGreat
