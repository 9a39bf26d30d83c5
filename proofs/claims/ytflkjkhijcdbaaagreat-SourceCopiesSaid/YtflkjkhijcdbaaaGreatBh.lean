/- Contracts of functions, proved by walking their code. -/
import Derived.Test.YtflkjkhijcdbaaaGreatBg
import Derived.KernelRfl
set_option maxRecDepth 100000
set_option linter.unusedVariables false
set_option linter.unusedSimpArgs false
namespace Go.Proofs.YtflkjkhijcdbaaaGreat
open Go Go.RowKit Wx Go.Proofs.Tryz
section
variable {G:World}{q:List HP}{a b:Option Addr}{c d:Nat}{l m:List Int}
theorem Jw {l:List Int}(hs:Sees q a (l.map I64))(hL:l.length≤1000000000):CallF prog G 70 [.slice a l.length c] (q) (Ret fun v q'=> ∃ a' c',v= .slice a' l.length c'∧q'=lsH I64 3 a' c' l::q):=by
 refine CallF.of func70 ntmps70 rfl (fun F cs=> ?_)
 rcases Nat.eq_zero_or_pos l.length with hl0|hl0
 · obtain rfl:=List.eq_nil_of_length_eq_zero hl0
   refine xx 10 ?_;refine X.part 4 rfl (fun h1=> ?_) (fun h1=> ?_)
   · refine xx 5 ?_;refine Zq (lsH I64 3 none 0 []::q) func70 (Zg results70 rfl) ⟨_,rfl,none,0,rfl,rfl⟩ ((leA).trans (Ze _ _ _))
   refine xo 4 ?_;refine XO.ef (Jt I64 underlying22 Tryz.info3) ?_;rintro _ _ ⟨g,rfl,rfl⟩
   refine oo 1 ?_;refine XO.ef (Yb (f:=I64) (l:= []) (m:= []) underlying22 Tryz.info3 rfl rfl rfl Zk (hs.le leA) (fun _=>rfl) (by simp;try omega) (by simp;try omega)) ?_
   rintro _ _ ⟨a2,c2,rfl,rfl⟩
   refine ox 2 ?_;refine Zq (lsH I64 3 a2 c2 []::q) func70 (Zg results70 rfl) ⟨_,rfl,a2,c2,by simp,rfl⟩
 refine Yx hs (by simp;omega) (fun b1 o1 e_=> ?_);subst e_
 refine xx 10 ?_;refine Wy 4 ?_;refine xo 4 ?_;refine XO.ef (Jt I64 underlying22 Tryz.info3) ?_;rintro _ _ ⟨g,rfl,rfl⟩
 refine oo 1 ?_;refine XO.ef (Yb (f:=I64) (l:= []) (m:=l) underlying22 Tryz.info3 rfl rfl rfl Zk (hs.le leA) (fun _=>rfl) (by simp;try omega) (by simp;try omega)) ?_
 rintro _ _ ⟨a2,c2,rfl,rfl⟩
 refine ox 2 ?_;refine Zq (lsH I64 3 a2 c2 l::q) func70 (Zg results70 rfl) ⟨_,rfl,a2,c2,by simp,rfl⟩
theorem Uj {l:List Int}(hs:Sees q a (l.map I64))(hL:l.length≤1000000000):CallF prog G 50 [.slice a l.length c] (q) (Ret fun v q'=> ∃ a' c',v= .slice a' l.length c'∧q'=lsH I64 2 a' c' l::q):=by
 refine CallF.of func50 ntmps50 rfl (fun F cs=> ?_)
 rcases Nat.eq_zero_or_pos l.length with hl0|hl0
 · obtain rfl:=List.eq_nil_of_length_eq_zero hl0
   refine xx 10 ?_;refine X.part 4 rfl (fun h1=> ?_) (fun h1=> ?_)
   · refine xx 5 ?_;refine Zq (lsH I64 2 none 0 []::q) func50 (Zg results50 rfl) ⟨_,rfl,none,0,rfl,rfl⟩ ((leA).trans (Ze _ _ _))
   refine xo 4 ?_;refine XO.ef (Jt I64 underlying23 Tryz.info2) ?_;rintro _ _ ⟨g,rfl,rfl⟩
   refine oo 1 ?_;refine XO.ef (Yb (f:=I64) (l:= []) (m:= []) underlying23 Tryz.info2 rfl rfl rfl Zk (hs.le leA) (fun _=>rfl) (by simp;try omega) (by simp;try omega)) ?_
   rintro _ _ ⟨a2,c2,rfl,rfl⟩
   refine ox 2 ?_;refine Zq (lsH I64 2 a2 c2 []::q) func50 (Zg results50 rfl) ⟨_,rfl,a2,c2,by simp,rfl⟩
 refine Yx hs (by simp;omega) (fun b1 o1 e_=> ?_);subst e_
 refine xx 10 ?_;refine Wy 4 ?_;refine xo 4 ?_;refine XO.ef (Jt I64 underlying23 Tryz.info2) ?_;rintro _ _ ⟨g,rfl,rfl⟩
 refine oo 1 ?_;refine XO.ef (Yb (f:=I64) (l:= []) (m:=l) underlying23 Tryz.info2 rfl rfl rfl Zk (hs.le leA) (fun _=>rfl) (by simp;try omega) (by simp;try omega)) ?_
 rintro _ _ ⟨a2,c2,rfl,rfl⟩
 refine ox 2 ?_;refine Zq (lsH I64 2 a2 c2 l::q) func50 (Zg results50 rfl) ⟨_,rfl,a2,c2,by simp,rfl⟩
theorem Xx {l:List (SlV Int)}(hs:Sees q a (l.flatMap cqs))(hL:l.length≤1000000000):CallF prog G 107 [.slice a l.length c] (q) (Ret fun v q'=> ∃ a' c',v= .slice a' l.length c'∧q'=rsH cqs 1 191 a' c' l::q):=by
 refine CallF.of func107 ntmps107 rfl (fun F cs=> ?_)
 rcases Nat.eq_zero_or_pos l.length with hl0|hl0
 · obtain rfl:=List.eq_nil_of_length_eq_zero hl0
   refine xx 10 ?_;refine X.part 4 rfl (fun h1=> ?_) (fun h1=> ?_)
   · refine xx 5 ?_;refine Zq (rsH cqs 1 191 none 0 []::q) func107 (Zg results107 rfl) ⟨_,rfl,none,0,rfl,rfl⟩ ((leA).trans (Zl _ _ _ _))
   refine xo 4 ?_;refine XO.ef (Qg cqs underlying173 Tryz.info191) ?_;rintro _ _ ⟨g,rfl,rfl⟩
   refine oo 1 ?_;refine XO.ef (Yq (l:= []) (m:= []) underlying173 Tryz.info191 rfl rfl (fun _=>rfl) rfl rfl Zk (hs.le leA) (fun _=>rfl) (by simp;try omega) (by simp;try omega)) ?_
   rintro _ _ ⟨a2,c2,rfl,rfl⟩
   refine ox 2 ?_;refine Zq (rsH cqs 1 191 a2 c2 []::q) func107 (Zg results107 rfl) ⟨_,rfl,a2,c2,by simp,rfl⟩
 have hlen:=Zv (f:=cqs) (sz:=1) (fun _=>rfl) l
 refine Yx hs (by rw [hlen];omega) (fun b1 o1 e_=> ?_);subst e_
 refine xx 10 ?_;refine Wy 4 ?_;refine xo 4 ?_;refine XO.ef (Qg cqs underlying173 Tryz.info191) ?_;rintro _ _ ⟨g,rfl,rfl⟩
 refine oo 1 ?_;refine XO.ef (Yq (l:= []) (m:=l) underlying173 Tryz.info191 rfl rfl (fun _=>rfl) rfl rfl Zk (hs.le leA) (fun _=>rfl) (by simp;try omega) (by simp;try omega)) ?_
 rintro _ _ ⟨a2,c2,rfl,rfl⟩
 refine ox 2 ?_;refine Zq (rsH cqs 1 191 a2 c2 l::q) func107 (Zg results107 rfl) ⟨_,rfl,a2,c2,by simp,rfl⟩
theorem Xw {l:List ChC}(hs:Sees q a (l.flatMap chs))(hL:l.length≤1000000000):CallF prog G 108 [.slice a l.length c] (q) (Ret fun v q'=> ∃ a' c',v= .slice a' l.length c'∧q'=rsH chs 3 180 a' c' l::q):=by
 refine CallF.of func108 ntmps108 rfl (fun F cs=> ?_)
 rcases Nat.eq_zero_or_pos l.length with hl0|hl0
 · obtain rfl:=List.eq_nil_of_length_eq_zero hl0
   refine xx 10 ?_;refine X.part 4 rfl (fun h1=> ?_) (fun h1=> ?_)
   · refine xx 5 ?_;refine Zq (rsH chs 3 180 none 0 []::q) func108 (Zg results108 rfl) ⟨_,rfl,none,0,rfl,rfl⟩ ((leA).trans (Zl _ _ _ _))
   refine xo 4 ?_;refine XO.ef (Qg chs underlying174 Tryz.info180) ?_;rintro _ _ ⟨g,rfl,rfl⟩
   refine oo 1 ?_;refine XO.ef (Yq (l:= []) (m:= []) underlying174 Tryz.info180 rfl rfl (fun _=>rfl) rfl rfl Zk (hs.le leA) (fun _=>rfl) (by simp;try omega) (by simp;try omega)) ?_
   rintro _ _ ⟨a2,c2,rfl,rfl⟩
   refine ox 2 ?_;refine Zq (rsH chs 3 180 a2 c2 []::q) func108 (Zg results108 rfl) ⟨_,rfl,a2,c2,by simp,rfl⟩
 have hlen:=Zv (f:=chs) (sz:=3) (fun _=>rfl) l
 refine Yx hs (by rw [hlen];omega) (fun b1 o1 e_=> ?_);subst e_
 refine xx 10 ?_;refine Wy 4 ?_;refine xo 4 ?_;refine XO.ef (Qg chs underlying174 Tryz.info180) ?_;rintro _ _ ⟨g,rfl,rfl⟩
 refine oo 1 ?_;refine XO.ef (Yq (l:= []) (m:=l) underlying174 Tryz.info180 rfl rfl (fun _=>rfl) rfl rfl Zk (hs.le leA) (fun _=>rfl) (by simp;try omega) (by simp;try omega)) ?_
 rintro _ _ ⟨a2,c2,rfl,rfl⟩
 refine ox 2 ?_;refine Zq (rsH chs 3 180 a2 c2 l::q) func108 (Zg results108 rfl) ⟨_,rfl,a2,c2,by simp,rfl⟩
theorem Du (hs:Sees q a (l.map I64))(ht:Sees q b (m.map I64))(hL:l.length≤1000000000):CallF prog G 72 [.slice a l.length c,.slice b m.length d] (q) (Ret fun v q'=>v= .bool (decide (l=m))∧q'=q):=by
 refine CallF.of func72 ntmps72 rfl (fun F cs=> ?_)
 refine xx 13 ?_;refine X.part 10 rfl (fun h1=> ?_) (fun h1=> ?_)
 · replace h1:=sp h1
   refine xx 5 ?_;refine Zq (q) func72 (Zg results72 rfl) ⟨_,rfl,congrArg Value.bool (by symm;simp only [decide_eq_false_iff_not];rintro rfl;simp at h1),rfl⟩
 replace h1:=sp h1
 refine xx 10 ?_
 have he:l.length=m.length:=by omega
 refine X.at (X.loop (fun (s:Nat)=>s≤l.length∧l.take s=m.take s) (fun s=> [(0,.slice a l.length c),(1,.slice b m.length d),(12,.int .i64 (l.length:Int)),(13,.int .i64 (s:Int))]) (fun s=>q++F) (fun s=>l.length - s) (fun s hi_ ih=> ?_) 0 ⟨by omega,by simp⟩) Zd leA
 try dsimp only at hi_ ih⊢
 obtain ⟨hi1,hi2⟩:=hi_
 refine xx 5 ?_;refine X.part 14 rfl (fun h0=> ?_) (fun h0=> ?_)
 iterate 2
  focus
   try simp only [decide_eq_true_eq,decide_eq_false_iff_not,bne_iff_ne,beq_iff_eq,ne_eq,bne_eq_false_iff_eq,beq_eq_false_iff_ne,Bool.not_eq_true',Bool.not_eq_false',Int.not_lt,Int.not_le,Bool.not_not,Bool.and_eq_true,Bool.and_eq_false_iff,Bool.true_and,Bool.and_true,beq_self_eq_true,Bool.or_eq_true,Bool.or_eq_false_iff] at h0
  rotate_left
 · have hi0:s<l.length:=by omega
   have hi9:s<m.length:=by omega
   refine Yx hs (by simp;omega) (fun b1 o1 e_=> ?_);subst e_
   refine Yx ht (by simp;omega) (fun b2 o2 e_=> ?_);subst e_
   refine xx 10 ?_;refine drw ?_;refine dl [0,1,2] 3 ?_;refine dl [4,5,6] 7 ?_;refine dd [8] ?_;refine XD.nil ?_;refine X.part 24 rfl (fun h2=> ?_) (fun h2=> ?_)
   · have hx: ¬l[s]=m[s]:=by intro e;rw [e] at h2;simp at h2
     refine xx 5 ?_;refine Zq (q) func72 (Zg results72 rfl) ⟨_,rfl,congrArg Value.bool (by symm;simp only [decide_eq_false_iff_not];intro e;apply hx;simp only [e]),rfl⟩
   have hx:l[s]=m[s]:=by simpa using h2
   refine xx 7 ?_;refine X.at (ih (s+1) ⟨by omega,by rw [List.take_succ_eq_append_getElem hi0,List.take_succ_eq_append_getElem hi9,hi2,hx]⟩ (by omega)) Zd leA
 refine xx 6 ?_;refine Zq (q) func72 (Zg results72 rfl) ⟨_,rfl,congrArg Value.bool (by symm;simp only [decide_eq_true_eq];rw [List.take_of_length_le (by omega),List.take_of_length_le (by omega)] at hi2;exact hi2),rfl⟩
theorem Nz (hs:Sees q a (l.map I64))(ht:Sees q b (m.map I64))(hL:l.length≤1000000000):CallF prog G 71 [.slice a l.length c,.slice b m.length d] (q) (Ret fun v q'=>v= .bool (decide (l=m))∧q'=q):=by
 refine CallF.of func71 ntmps71 rfl (fun F cs=> ?_)
 refine xx 13 ?_;refine X.part 10 rfl (fun h1=> ?_) (fun h1=> ?_)
 · replace h1:=sp h1
   refine xx 5 ?_;refine Zq (q) func71 (Zg results71 rfl) ⟨_,rfl,congrArg Value.bool (by symm;simp only [decide_eq_false_iff_not];rintro rfl;simp at h1),rfl⟩
 replace h1:=sp h1
 refine xx 10 ?_
 have he:l.length=m.length:=by omega
 refine X.at (X.loop (fun (s:Nat)=>s≤l.length∧l.take s=m.take s) (fun s=> [(0,.slice a l.length c),(1,.slice b m.length d),(12,.int .i64 (l.length:Int)),(13,.int .i64 (s:Int))]) (fun s=>q++F) (fun s=>l.length - s) (fun s hi_ ih=> ?_) 0 ⟨by omega,by simp⟩) Zd leA
 try dsimp only at hi_ ih⊢
 obtain ⟨hi1,hi2⟩:=hi_
 refine xx 5 ?_;refine X.part 14 rfl (fun h0=> ?_) (fun h0=> ?_)
 iterate 2
  focus
   try simp only [decide_eq_true_eq,decide_eq_false_iff_not,bne_iff_ne,beq_iff_eq,ne_eq,bne_eq_false_iff_eq,beq_eq_false_iff_ne,Bool.not_eq_true',Bool.not_eq_false',Int.not_lt,Int.not_le,Bool.not_not,Bool.and_eq_true,Bool.and_eq_false_iff,Bool.true_and,Bool.and_true,beq_self_eq_true,Bool.or_eq_true,Bool.or_eq_false_iff] at h0
  rotate_left
 · have hi0:s<l.length:=by omega
   have hi9:s<m.length:=by omega
   refine Yx hs (by simp;omega) (fun b1 o1 e_=> ?_);subst e_
   refine Yx ht (by simp;omega) (fun b2 o2 e_=> ?_);subst e_
   refine xx 10 ?_;refine drw ?_;refine dl [0,1,2] 3 ?_;refine dl [4,5,6] 7 ?_;refine dd [8] ?_;refine XD.nil ?_;refine X.part 24 rfl (fun h2=> ?_) (fun h2=> ?_)
   · have hx: ¬l[s]=m[s]:=by intro e;rw [e] at h2;simp at h2
     refine xx 5 ?_;refine Zq (q) func71 (Zg results71 rfl) ⟨_,rfl,congrArg Value.bool (by symm;simp only [decide_eq_false_iff_not];intro e;apply hx;simp only [e]),rfl⟩
   have hx:l[s]=m[s]:=by simpa using h2
   refine xx 7 ?_;refine X.at (ih (s+1) ⟨by omega,by rw [List.take_succ_eq_append_getElem hi0,List.take_succ_eq_append_getElem hi9,hi2,hx]⟩ (by omega)) Zd leA
 refine xx 6 ?_;refine Zq (q) func71 (Zg results71 rfl) ⟨_,rfl,congrArg Value.bool (by symm;simp only [decide_eq_true_eq];rw [List.take_of_length_le (by omega),List.take_of_length_le (by omega)] at hi2;exact hi2),rfl⟩
end
section
variable {α:Type}{f:α→List Value}{sz ty:Nat}{G:World}{q:List HP}{a:Option Addr}{c c0 g i:Nat}{l:List α}{m:List Int}{t:Int}{u:Option Addr→Nat→α}
theorem L0 {q:List HP}{m:List Int}(hs:Sees q (some ⟨g,0,none⟩) (m.map I64))(hi:i<m.length):Cl q ⟨g,i*1,none⟩ (I64 m[i]):=by
 have:=hs.cl (i:=i) (u:=I64 m[i]) (by simp [hi])
 simpa using this
theorem Cl.at {q:List HP}{o:Nat}{y:α}{k:Nat}{v:Value}(hs:Sees q (some ⟨g,0,none⟩) (l.flatMap f))(hf: ∀ x,(f x).length=sz)(hi:l[i]? =some y)(hk:k<sz)(hv:(f y)[k]? =some v)(ho:o=i*sz+k):Cl q ⟨g,o,none⟩ v:=by
 subst ho
 have:=hs.cl (i:=i*sz+k) (u:=v) (by rw [Hb hf l i k y hk hi];exact hv)
 simpa using this
theorem put_ok (hi:i<l.length)(hf: ∀ x,(f x).length=sz)(hk:(f l[i])[0]? =some (.slice a m.length c))(hz:Nat.blt 0 sz=true)(hm:m.length≤1000000)(hu: ∀ a' c',(f l[i]).set 0 (.slice a' (m++ [t]).length c')=f (u a' c')):CallF prog G 195 [.pointer (some ⟨g,i*sz,none⟩),.int .i64 t] ([rsH f sz ty (some ⟨g,0,none⟩) c0 l,lsH I64 3 a c m]) (Ret fun v q'=> ∃ a' c',q'= [rsH f sz ty (some ⟨g,0,none⟩) c0 (l.set i (u a' c')),lsH I64 3 a' c' (m++ [t])]):=by
 refine CallF.of func195 ntmps195 rfl (fun F cs=> ?_)
 have hz':0<sz:=by simpa [Nat.blt_eq] using hz
 have hs:Sees (rsH f sz ty (some ⟨g,0,none⟩) c0 l::lsH I64 3 a c m::F) (some ⟨g,0,none⟩) (l.flatMap f):=Sees.rsH _
 have hc:Cl (rsH f sz ty (some ⟨g,0,none⟩) c0 l::lsH I64 3 a c m::F) ⟨g,i*sz,none⟩ (.slice a m.length c):=Cl.at hs hf (List.getElem?_eq_getElem hi) hz' hk (by omega)
 change X _ _ _ _ _ _ _ _ (rsH f sz ty (some ⟨g,0,none⟩) c0 l::lsH I64 3 a c m::F)
 refine xo 5 ?_;refine ld ?_ (hc:=hc)
 refine oo 1 ?_;refine XO.ef (Qq (u:=t) I64 underlying22 Tryz.info3 rfl rfl) ?_
 rintro _ _ ⟨g2,rfl,rfl⟩
 refine XO.ef (Yb (f:=I64) (l:=m) (m:= [t]) underlying22 Tryz.info3 rfl rfl rfl Zk ((Sees.lsH _).le leA) (fun _=>rfl) (by simp;omega) (by simp;omega)) ?_
 rintro _ _ ⟨a2,c2,rfl,rfl⟩
 refine oo 2 ?_;refine XO.ef0 (Ye (g:=g) (f:=f) (l:=l) (u:=(u a2 c2)) (n:=i) (k:=0) (j:=(i:Int)) (by simp [evp,lkp]) rfl sizeOf22 hf rfl hi hz (hu _ _) rfl rfl Zk) ?_
 rintro _ _ ⟨rfl,rfl⟩
 refine ox 1 ?_;refine Z7 [rsH f sz ty (some ⟨g,0,none⟩) c0 (l.set i (u a2 c2)),lsH I64 3 a2 c2 (m++ [t])] func195 (Vg results195) ⟨_,rfl,a2,c2,rfl⟩
theorem all_ok (hi:i<l.length)(hf: ∀ x,(f x).length=sz)(hk:(f l[i])[0]? =some (.slice a m.length c))(hz:Nat.blt 0 sz=true)(hm:m.length≤1000000):CallF prog G 89 [.pointer (some ⟨g,i*sz,none⟩)] ([rsH f sz ty (some ⟨g,0,none⟩) c0 l,lsH I64 3 a c m]) (Ret fun v q'=> ∃ a' c',v= .slice a' m.length c'∧q'= [lsH I64 3 a' c' m,rsH f sz ty (some ⟨g,0,none⟩) c0 l,lsH I64 3 a c m]):=by
 refine CallF.of func89 ntmps89 rfl (fun F cs=> ?_)
 have hz':0<sz:=by simpa [Nat.blt_eq] using hz
 have hs:Sees (rsH f sz ty (some ⟨g,0,none⟩) c0 l::lsH I64 3 a c m::F) (some ⟨g,0,none⟩) (l.flatMap f):=Sees.rsH _
 have hc:Cl (rsH f sz ty (some ⟨g,0,none⟩) c0 l::lsH I64 3 a c m::F) ⟨g,i*sz,none⟩ (.slice a m.length c):=Cl.at hs hf (List.getElem?_eq_getElem hi) hz' hk (by omega)
 change X _ _ _ _ _ _ _ _ (rsH f sz ty (some ⟨g,0,none⟩) c0 l::lsH I64 3 a c m::F)
 refine xo 9 ?_;refine ld ?_ (hc:=hc)
 refine Zf call70 (Le.refl _) (Jw (a:=a) (c:=c) (l:=m) ((Sees.lsH _).le leA) (by omega)) ?_
 rintro _ _ ⟨a2,c2,rfl,rfl⟩
 refine ox 2 ?_;refine Zq [lsH I64 3 a2 c2 m,rsH f sz ty (some ⟨g,0,none⟩) c0 l,lsH I64 3 a c m] func89 (Zg results89 rfl) ⟨_,rfl,a2,c2,rfl,rfl⟩
theorem take_no (hi:i<l.length)(hf: ∀ x,(f x).length=sz)(hk:(f l[i])[0]? =some (.slice a m.length c))(hz:Nat.blt 0 sz=true)(hm:m.length≤1000000)(he:m= []):CallF prog G 196 [.pointer (some ⟨g,i*sz,none⟩)] ([rsH f sz ty (some ⟨g,0,none⟩) c0 l,lsH I64 3 a c m]) (Ret fun v q'=>v= .tuple [.int .i64 0,.bool false].toArray∧q'= [rsH f sz ty (some ⟨g,0,none⟩) c0 l,lsH I64 3 a c m]):=by
 refine CallF.of func196 ntmps196 rfl (fun F cs=> ?_)
 have hz':0<sz:=by simpa [Nat.blt_eq] using hz
 have hs:Sees (rsH f sz ty (some ⟨g,0,none⟩) c0 l::lsH I64 3 a c m::F) (some ⟨g,0,none⟩) (l.flatMap f):=Sees.rsH _
 have hc:Cl (rsH f sz ty (some ⟨g,0,none⟩) c0 l::lsH I64 3 a c m::F) ⟨g,i*sz,none⟩ (.slice a m.length c):=Cl.at hs hf (List.getElem?_eq_getElem hi) hz' hk (by omega)
 change X _ _ _ _ _ _ _ _ (rsH f sz ty (some ⟨g,0,none⟩) c0 l::lsH I64 3 a c m::F)
 have h0:m.length=0:=by rw [he];rfl
 refine xo 15 ?_;refine ld ?_ (hc:=hc)
 refine ox 3 ?_;refine X.know 11 (.bool true) rfl (congrArg Value.bool (by simp [h0])) ?_
 refine xx 7 ?_;refine Zq [rsH f sz ty (some ⟨g,0,none⟩) c0 l,lsH I64 3 a c m] func196 (Wc results196 rfl rfl) ⟨_,rfl,rfl,rfl⟩
theorem take_ok (hi:i<l.length)(hf: ∀ x,(f x).length=sz)(hk:(f l[i])[0]? =some (.slice a m.length c))(hz:Nat.blt 0 sz=true)(hm:m.length≤1000000)(he:m≠ [])(hu: ∀ a' c',(f l[i]).set 0 (.slice a' (m.drop 1).length c')=f (u a' c')):CallF prog G 196 [.pointer (some ⟨g,i*sz,none⟩)] ([rsH f sz ty (some ⟨g,0,none⟩) c0 l,lsH I64 3 a c m]) (Ret fun v q'=> ∃ a' c',v= .tuple [.int .i64 (m.headD 0),.bool true].toArray∧q'= [rsH f sz ty (some ⟨g,0,none⟩) c0 (l.set i (u a' c')),lsH I64 3 a' c' (m.drop 1)]):=by
 refine CallF.of func196 ntmps196 rfl (fun F cs=> ?_)
 have hz':0<sz:=by simpa [Nat.blt_eq] using hz
 have hs:Sees (rsH f sz ty (some ⟨g,0,none⟩) c0 l::lsH I64 3 a c m::F) (some ⟨g,0,none⟩) (l.flatMap f):=Sees.rsH _
 have hc:Cl (rsH f sz ty (some ⟨g,0,none⟩) c0 l::lsH I64 3 a c m::F) ⟨g,i*sz,none⟩ (.slice a m.length c):=Cl.at hs hf (List.getElem?_eq_getElem hi) hz' hk (by omega)
 change X _ _ _ _ _ _ _ _ (rsH f sz ty (some ⟨g,0,none⟩) c0 l::lsH I64 3 a c m::F)
 obtain ⟨x0,r0,rfl⟩: ∃ x r,m=x::r:=by cases m with|nil=>exact absurd rfl he|cons x r=>exact ⟨x,r,rfl⟩
 have hll:(x0::r0).length=r0.length+1:=rfl
 refine xo 15 ?_;refine ld ?_ (hc:=hc)
 refine ox 3 ?_;refine X.know 11 (.bool false) rfl (congrArg Value.bool (by simp;omega)) ?_
 refine V9 (l:=x0::r0) (by simp) (fun g5 e_=> ?_);subst e_
 refine X.fact (fun w s=>(s.le (show Le _ (lsH I64 3 (some ⟨g5,0,none⟩) c (x0::r0)::_) from Zk)).lsLen) (fun hcap=> ?_)
 have hsm:Sees (rsH f sz ty (some ⟨g,0,none⟩) c0 l::lsH I64 3 (some ⟨g5,0,none⟩) c (x0::r0)::F) (some ⟨g5,0,none⟩) ((x0::r0).map I64):=(Sees.lsH _).le leA
 refine xo 7 ?_;refine ld ?_ (hc:=(by first|exact hc|exact (Sees.at (j:=0) (n:=0) hsm rfl (by simp))))
 refine oo 1 ?_;refine ld ?_ (hc:=(by first|exact hc|exact (Sees.at (j:=0) (n:=0) hsm rfl (by simp))))
 refine oo 8 ?_;refine ld ?_ (hc:=(by first|exact hc|exact (Sees.at (j:=0) (n:=0) hsm rfl (by simp))))
 refine oo 1 ?_;refine XO.know 24 (.slice (Ea (some ⟨g5,0,none⟩) c 1 1) r0.length (c - 1)) rfl (by simp) ?_
 refine Zf call70 (Le.refl _) (Jw (l:=r0) (a:=Ea (some ⟨g5,0,none⟩) c 1 1) (c:=c - 1) (by have:=hsm.suf (l:=1) (c:=c) (sz:=1) (by simp at hcap⊢;omega);simpa using this) (by simp at hm;omega)) ?_
 rintro _ _ ⟨a2,c2,rfl,rfl⟩
 refine oo 2 ?_;refine XO.ef0 (Ye (g:=g) (f:=f) (l:=l) (u:=(u a2 c2)) (n:=i) (k:=0) (j:=(i:Int)) (by simp [evp,lkp]) rfl sizeOf22 hf rfl hi hz (hu _ _) rfl rfl Zk) ?_
 rintro _ _ ⟨rfl,rfl⟩
 refine ox 7 ?_;refine Zq [rsH f sz ty (some ⟨g,0,none⟩) c0 (l.set i (u a2 c2)),lsH I64 3 a2 c2 r0] func196 (Wc results196 rfl rfl) ⟨_,rfl,a2,c2,rfl,rfl⟩
theorem put64_ok (hi:i<l.length)(hf: ∀ x,(f x).length=sz)(hk:(f l[i])[0]? =some (.slice a m.length c))(hz:Nat.blt 0 sz=true)(hm:m.length≤1000000)(hu: ∀ a' c',(f l[i]).set 0 (.slice a' (m++ [t]).length c')=f (u a' c')):CallF prog G 197 [.pointer (some ⟨g,i*sz,none⟩),.int .i64 t] ([rsH f sz ty (some ⟨g,0,none⟩) c0 l,lsH I64 2 a c m]) (Ret fun v q'=> ∃ a' c',q'= [rsH f sz ty (some ⟨g,0,none⟩) c0 (l.set i (u a' c')),lsH I64 2 a' c' (m++ [t])]):=by
 refine CallF.of func197 ntmps197 rfl (fun F cs=> ?_)
 have hz':0<sz:=by simpa [Nat.blt_eq] using hz
 have hs:Sees (rsH f sz ty (some ⟨g,0,none⟩) c0 l::lsH I64 2 a c m::F) (some ⟨g,0,none⟩) (l.flatMap f):=Sees.rsH _
 have hc:Cl (rsH f sz ty (some ⟨g,0,none⟩) c0 l::lsH I64 2 a c m::F) ⟨g,i*sz,none⟩ (.slice a m.length c):=Cl.at hs hf (List.getElem?_eq_getElem hi) hz' hk (by omega)
 change X _ _ _ _ _ _ _ _ (rsH f sz ty (some ⟨g,0,none⟩) c0 l::lsH I64 2 a c m::F)
 refine xo 5 ?_;refine ld ?_ (hc:=hc)
 refine oo 1 ?_;refine XO.ef (Qq (u:=t) I64 underlying23 Tryz.info2 rfl rfl) ?_
 rintro _ _ ⟨g2,rfl,rfl⟩
 refine XO.ef (Yb (f:=I64) (l:=m) (m:= [t]) underlying23 Tryz.info2 rfl rfl rfl Zk ((Sees.lsH _).le leA) (fun _=>rfl) (by simp;omega) (by simp;omega)) ?_
 rintro _ _ ⟨a2,c2,rfl,rfl⟩
 refine oo 2 ?_;refine XO.ef0 (Ye (g:=g) (f:=f) (l:=l) (u:=(u a2 c2)) (n:=i) (k:=0) (j:=(i:Int)) (by simp [evp,lkp]) rfl sizeOf23 hf rfl hi hz (hu _ _) rfl rfl Zk) ?_
 rintro _ _ ⟨rfl,rfl⟩
 refine ox 1 ?_;refine Z7 [rsH f sz ty (some ⟨g,0,none⟩) c0 (l.set i (u a2 c2)),lsH I64 2 a2 c2 (m++ [t])] func197 (Vg results197) ⟨_,rfl,a2,c2,rfl⟩
theorem Cb (hi:i<l.length)(hf: ∀ x,(f x).length=sz)(hk:(f l[i])[0]? =some (.slice a m.length c))(hz:Nat.blt 0 sz=true)(hm:m.length≤1000000):CallF prog G 92 [.pointer (some ⟨g,i*sz,none⟩)] ([rsH f sz ty (some ⟨g,0,none⟩) c0 l,lsH I64 2 a c m]) (Ret fun v q'=> ∃ a' c',v= .slice a' m.length c'∧q'= [lsH I64 2 a' c' m,rsH f sz ty (some ⟨g,0,none⟩) c0 l,lsH I64 2 a c m]):=by
 refine CallF.of func92 ntmps92 rfl (fun F cs=> ?_)
 have hz':0<sz:=by simpa [Nat.blt_eq] using hz
 have hs:Sees (rsH f sz ty (some ⟨g,0,none⟩) c0 l::lsH I64 2 a c m::F) (some ⟨g,0,none⟩) (l.flatMap f):=Sees.rsH _
 have hc:Cl (rsH f sz ty (some ⟨g,0,none⟩) c0 l::lsH I64 2 a c m::F) ⟨g,i*sz,none⟩ (.slice a m.length c):=Cl.at hs hf (List.getElem?_eq_getElem hi) hz' hk (by omega)
 change X _ _ _ _ _ _ _ _ (rsH f sz ty (some ⟨g,0,none⟩) c0 l::lsH I64 2 a c m::F)
 refine xo 9 ?_;refine ld ?_ (hc:=hc)
 refine Zf call50 (Le.refl _) (Uj (a:=a) (c:=c) (l:=m) ((Sees.lsH _).le leA) (by omega)) ?_
 rintro _ _ ⟨a2,c2,rfl,rfl⟩
 refine ox 2 ?_;refine Zq [lsH I64 2 a2 c2 m,rsH f sz ty (some ⟨g,0,none⟩) c0 l,lsH I64 2 a c m] func92 (Zg results92 rfl) ⟨_,rfl,a2,c2,rfl,rfl⟩
theorem Id (hi:i<l.length)(hf: ∀ x,(f x).length=sz)(hk:(f l[i])[0]? =some (.slice a m.length c))(hz:Nat.blt 0 sz=true)(hm:m.length≤1000000)(he:m= []):CallF prog G 198 [.pointer (some ⟨g,i*sz,none⟩)] ([rsH f sz ty (some ⟨g,0,none⟩) c0 l,lsH I64 2 a c m]) (Ret fun v q'=>v= .tuple [.int .i64 0,.bool false].toArray∧q'= [rsH f sz ty (some ⟨g,0,none⟩) c0 l,lsH I64 2 a c m]):=by
 refine CallF.of func198 ntmps198 rfl (fun F cs=> ?_)
 have hz':0<sz:=by simpa [Nat.blt_eq] using hz
 have hs:Sees (rsH f sz ty (some ⟨g,0,none⟩) c0 l::lsH I64 2 a c m::F) (some ⟨g,0,none⟩) (l.flatMap f):=Sees.rsH _
 have hc:Cl (rsH f sz ty (some ⟨g,0,none⟩) c0 l::lsH I64 2 a c m::F) ⟨g,i*sz,none⟩ (.slice a m.length c):=Cl.at hs hf (List.getElem?_eq_getElem hi) hz' hk (by omega)
 change X _ _ _ _ _ _ _ _ (rsH f sz ty (some ⟨g,0,none⟩) c0 l::lsH I64 2 a c m::F)
 have h0:m.length=0:=by rw [he];rfl
 refine xo 15 ?_;refine ld ?_ (hc:=hc)
 refine ox 3 ?_;refine X.know 11 (.bool true) rfl (congrArg Value.bool (by simp [h0])) ?_
 refine xx 7 ?_;refine Zq [rsH f sz ty (some ⟨g,0,none⟩) c0 l,lsH I64 2 a c m] func198 (Wc results198 rfl rfl) ⟨_,rfl,rfl,rfl⟩
theorem Iu (hi:i<l.length)(hf: ∀ x,(f x).length=sz)(hk:(f l[i])[0]? =some (.slice a m.length c))(hz:Nat.blt 0 sz=true)(hm:m.length≤1000000)(he:m≠ [])(hu: ∀ a' c',(f l[i]).set 0 (.slice a' (m.drop 1).length c')=f (u a' c')):CallF prog G 198 [.pointer (some ⟨g,i*sz,none⟩)] ([rsH f sz ty (some ⟨g,0,none⟩) c0 l,lsH I64 2 a c m]) (Ret fun v q'=> ∃ a' c',v= .tuple [.int .i64 (m.headD 0),.bool true].toArray∧q'= [rsH f sz ty (some ⟨g,0,none⟩) c0 (l.set i (u a' c')),lsH I64 2 a' c' (m.drop 1)]):=by
 refine CallF.of func198 ntmps198 rfl (fun F cs=> ?_)
 have hz':0<sz:=by simpa [Nat.blt_eq] using hz
 have hs:Sees (rsH f sz ty (some ⟨g,0,none⟩) c0 l::lsH I64 2 a c m::F) (some ⟨g,0,none⟩) (l.flatMap f):=Sees.rsH _
 have hc:Cl (rsH f sz ty (some ⟨g,0,none⟩) c0 l::lsH I64 2 a c m::F) ⟨g,i*sz,none⟩ (.slice a m.length c):=Cl.at hs hf (List.getElem?_eq_getElem hi) hz' hk (by omega)
 change X _ _ _ _ _ _ _ _ (rsH f sz ty (some ⟨g,0,none⟩) c0 l::lsH I64 2 a c m::F)
 obtain ⟨x0,r0,rfl⟩: ∃ x r,m=x::r:=by cases m with|nil=>exact absurd rfl he|cons x r=>exact ⟨x,r,rfl⟩
 have hll:(x0::r0).length=r0.length+1:=rfl
 refine xo 15 ?_;refine ld ?_ (hc:=hc)
 refine ox 3 ?_;refine X.know 11 (.bool false) rfl (congrArg Value.bool (by simp;omega)) ?_
 refine V9 (l:=x0::r0) (by simp) (fun g5 e_=> ?_);subst e_
 refine X.fact (fun w s=>(s.le (show Le _ (lsH I64 2 (some ⟨g5,0,none⟩) c (x0::r0)::_) from Zk)).lsLen) (fun hcap=> ?_)
 have hsm:Sees (rsH f sz ty (some ⟨g,0,none⟩) c0 l::lsH I64 2 (some ⟨g5,0,none⟩) c (x0::r0)::F) (some ⟨g5,0,none⟩) ((x0::r0).map I64):=(Sees.lsH _).le leA
 refine xo 7 ?_;refine ld ?_ (hc:=(by first|exact hc|exact (Sees.at (j:=0) (n:=0) hsm rfl (by simp))))
 refine oo 1 ?_;refine ld ?_ (hc:=(by first|exact hc|exact (Sees.at (j:=0) (n:=0) hsm rfl (by simp))))
 refine oo 8 ?_;refine ld ?_ (hc:=(by first|exact hc|exact (Sees.at (j:=0) (n:=0) hsm rfl (by simp))))
 refine oo 1 ?_;refine XO.know 24 (.slice (Ea (some ⟨g5,0,none⟩) c 1 1) r0.length (c - 1)) rfl (by simp) ?_
 refine Zf call50 (Le.refl _) (Uj (l:=r0) (a:=Ea (some ⟨g5,0,none⟩) c 1 1) (c:=c - 1) (by have:=hsm.suf (l:=1) (c:=c) (sz:=1) (by simp at hcap⊢;omega);simpa using this) (by simp at hm;omega)) ?_
 rintro _ _ ⟨a2,c2,rfl,rfl⟩
 refine oo 2 ?_;refine XO.ef0 (Ye (g:=g) (f:=f) (l:=l) (u:=(u a2 c2)) (n:=i) (k:=0) (j:=(i:Int)) (by simp [evp,lkp]) rfl sizeOf23 hf rfl hi hz (hu _ _) rfl rfl Zk) ?_
 rintro _ _ ⟨rfl,rfl⟩
 refine ox 7 ?_;refine Zq [rsH f sz ty (some ⟨g,0,none⟩) c0 (l.set i (u a2 c2)),lsH I64 2 a2 c2 r0] func198 (Wc results198 rfl rfl) ⟨_,rfl,a2,c2,rfl,rfl⟩
end
def Hx (s:Sy)(m:Int):Int×Int:=if inR m s.owners.length then (s.owners.getD m.toNat 0,0) else (0,4)
def U7 (s:Sy)(k:Int):List Int×Int:=if inR k s.chans.length then ((s.chans.getD k.toNat ch0).items,0) else ([],4)
def R0 (s:Sy)(k:Int):Int×Int:=if inR k s.chans.length then ((s.chans.getD k.toNat ch0).room,0) else (0,4)
theorem Real.ol {σ:SyC}{s:Sy}(r:Real σ s){i:Nat}(h:i<σ.owners.length):s.owners.getD i 0=σ.owners[i]:=by rw [←r.o];simp [List.getD,h]
theorem Real.lo {σ:SyC}{s:Sy}(r:Real σ s):σ.owners.length=s.owners.length:=by rw [r.o]
theorem H6 {ty:TypeId}{l:List (SlV Int)}{i:Nat}(hi:i<l.length){q r:List HP}(hq:Le q (stars (l.map (lsV ty))::r):=by exact Zk):Le q (lsH I64 ty l[i].a l[i].c l[i].l::stars ((l.eraseIdx i).map (lsV ty))::r):=hq.trans (Le.focus (lsV ty) hi r)
theorem N7 {ty:TypeId}{l:List (SlV Int)}{i:Nat}(hi:i<l.length){a:Option Addr}{c:Nat}{m:List Int}{q r:List HP}(hq:Le q (lsH I64 ty a c m::stars ((l.eraseIdx i).map (lsV ty))::r):=by exact Le.pick Zk Zk):Le q (stars ((l.set i ⟨a,c,m⟩).map (lsV ty))::r):=hq.trans (Ms (lsV ty) hi ⟨a,c,m⟩ r)
theorem Qv {q q':List HP}{A:Addr}{v:Value}(h:Cl q' A v)(l:Le q q'):Cl q A v:=fun G w s=>h G w (s.le l)
theorem N9 {ty:TypeId}{l:List ChC}{i:Nat}(hi:i<l.length){q r:List HP}(hq:Le q (stars (l.map fun x=>lsV ty x.q)::r):=by exact Zk):Le q (lsH I64 ty l[i].q.a l[i].q.c l[i].q.l::stars ((l.eraseIdx i).map fun x=>lsV ty x.q)::r):=hq.trans (Le.focus (fun (x:ChC)=>lsV ty x.q) hi r)
theorem N8 {ty:TypeId}{l:List ChC}{i:Nat}(hi:i<l.length)(x:ChC){q r:List HP}(hq:Le q (lsH I64 ty x.q.a x.q.c x.q.l::stars ((l.eraseIdx i).map fun x=>lsV ty x.q)::r):=by exact Le.pick Zk Zk):Le q (stars ((l.set i x).map fun x=>lsV ty x.q)::r):=hq.trans (Ms (fun (x:ChC)=>lsV ty x.q) hi x r)
section
variable {G:World}{q:List HP}{a b:Option Addr}{c d g p i n:Nat}{σ:SyC}{s:Sy}{k t v at_ number:Int}
theorem Yc (h:Cl q ⟨p,0,none⟩ (.bool true)):CallF prog G 106 [.pointer (some ⟨p,0,none⟩)] (q) (Ret fun v q'=>v= .bool true∧q'=q):=by
 refine CallF.of func106 ntmps106 rfl (fun F cs=> ?_)
 refine xo 9 ?_;refine XO.kt 5 ?_;refine oo 3 ?_;refine ld ?_ (hc:=(Qv h leA))
 refine ox 3 ?_;refine Zq (q) func106 (Zg results106 rfl) ⟨_,rfl,rfl,rfl⟩
theorem W0 (h:Cl q ⟨p,0,none⟩ (.bool true))(h1:Cl q ⟨p,1,none⟩ (.slice a n c)):CallF prog G 86 [.pointer (some ⟨p,0,none⟩)] (q) (Ret fun v q'=>v= .slice a n c∧q'=q):=by
 refine CallF.of func86 ntmps86 rfl (fun F cs=> ?_)
 refine xo 8 ?_;refine XO.cR call106 (Yc (Qv h leA)) ?_;refine Zt (Pu.not rfl) ?_;refine ox 1 ?_;refine Wy 5 ?_;refine xo 7 ?_;refine ld ?_ (hc:=(Qv h1 leA))
 refine ox 2 ?_;refine Zq (q) func86 (Zg results86 rfl) ⟨_,rfl,rfl,rfl⟩
theorem Vt (h:Cl q ⟨p,0,none⟩ (.bool true))(h1:Cl q ⟨p,2,none⟩ (.slice a n c)):CallF prog G 88 [.pointer (some ⟨p,0,none⟩)] (q) (Ret fun v q'=>v= .slice a n c∧q'=q):=by
 refine CallF.of func88 ntmps88 rfl (fun F cs=> ?_)
 refine xo 8 ?_;refine XO.cR call106 (Yc (Qv h leA)) ?_;refine Zt (Pu.not rfl) ?_;refine ox 1 ?_;refine Wy 5 ?_;refine xo 7 ?_;refine ld ?_ (hc:=(Qv h1 leA))
 refine ox 2 ?_;refine Zq (q) func88 (Zg results88 rfl) ⟨_,rfl,rfl,rfl⟩
theorem Y2 (h:Cl q ⟨p,0,none⟩ (.bool true))(h1:Cl q ⟨p,3,none⟩ (.slice a n c)):CallF prog G 91 [.pointer (some ⟨p,0,none⟩)] (q) (Ret fun v q'=>v= .slice a n c∧q'=q):=by
 refine CallF.of func91 ntmps91 rfl (fun F cs=> ?_)
 refine xo 8 ?_;refine XO.cR call106 (Yc (Qv h leA)) ?_;refine Zt (Pu.not rfl) ?_;refine ox 1 ?_;refine Wy 5 ?_;refine xo 7 ?_;refine ld ?_ (hc:=(Qv h1 leA))
 refine ox 2 ?_;refine Zq (q) func91 (Zg results91 rfl) ⟨_,rfl,rfl,rfl⟩
theorem Pb (h:Cl q ⟨p,0,none⟩ (.bool true))(hn:n≤1000000)(hr: ¬inR at_ n):CallF prog G 85 [.pointer (some ⟨p,0,none⟩),.slice a n c,.int .i64 at_,.int .i64 0,.int .i64 0] (q) (Ret fun v q'=>v= .tuple [.pointer none,.int .i64 4].toArray∧q'=q):=by
 refine CallF.of func85 ntmps85 rfl (fun F cs=> ?_)
 try unfold inR at hr
 try unfold thr at hb
 try unfold val at hb
 refine xx 33 ?_;refine X.know 16 (.bool false) rfl (congrArg Value.bool (by simp)) ?_
 refine xx 7 ?_;refine X.know 18 (.bool false) rfl (congrArg Value.bool (by simp)) ?_
 refine xo 10 ?_
 rcases Decidable.em (at_<0) with k1|k1
 focus
  refine XO.know 30 (.bool true) rfl (congrArg Value.bool ((by first|exact decide_eq_true (by omega)|exact decide_eq_false (by omega)|rfl|(simp;omega)|simp))) ?_
  refine oo 13 ?_
 rotate_left
 focus
  refine XO.know 30 (.bool false) rfl (congrArg Value.bool ((by first|exact decide_eq_true (by omega)|exact decide_eq_false (by omega)|rfl|(simp;omega)|simp))) ?_
  refine ox 6 ?_;refine X.know 35 (.bool true) rfl (congrArg Value.bool ((by first|exact decide_eq_true (by omega)|exact decide_eq_false (by omega)|rfl|(simp;omega)|simp))) ?_
  refine xo 7 ?_
 all_goals
  refine XO.cR call106 (Yc (Qv h leA)) ?_;refine Zt (Pu.not rfl) ?_;refine ox 1 ?_;refine kx 38 9 ?_;refine X.kt 40 ?_;refine xx 7 ?_;refine Zq (q) func85 (Wc results85 rfl rfl) ⟨_,rfl,rfl,rfl⟩
theorem Of (h:Cl q ⟨p,0,none⟩ (.bool true))(hn:n≤1000000)(hr:i<n)(hb:True):CallF prog G 85 [.pointer (some ⟨p,0,none⟩),.slice (some ⟨g,0,none⟩) n c,.int .i64 (i:Int),.int .i64 0,.int .i64 0] (q) (Ret fun v q'=>v= .tuple [.pointer (some ⟨g,i*1,none⟩),.int .i64 0].toArray∧q'=q):=by
 refine CallF.of func85 ntmps85 rfl (fun F cs=> ?_)
 try unfold inR at hr
 try unfold thr at hb
 try unfold val at hb
 refine xx 33 ?_;refine X.know 16 (.bool false) rfl (congrArg Value.bool (by simp)) ?_
 refine xx 7 ?_;refine X.know 18 (.bool false) rfl (congrArg Value.bool (by simp)) ?_
 refine xo 10 ?_;refine XO.know 30 (.bool false) rfl (congrArg Value.bool ((by first|exact decide_eq_true (by omega)|exact decide_eq_false (by omega)|rfl|(simp;omega)|simp))) ?_
 refine ox 6 ?_;refine X.know 35 (.bool false) rfl (congrArg Value.bool ((by first|exact decide_eq_true (by omega)|exact decide_eq_false (by omega)|rfl|(simp;omega)|simp))) ?_
 refine xo 5 ?_;refine XO.cR call106 (Yc (Qv h leA)) ?_;refine Zt (Pu.not rfl) ?_;refine ox 1 ?_;refine kx 38 9 ?_;refine kx 40 10 ?_;refine Zq (q) func85 (Wc results85 rfl rfl) ⟨_,rfl,by simp,rfl⟩
theorem Bp (h:Cl q ⟨p,0,none⟩ (.bool true))(hn:n≤1000000)(hr: ¬inR at_ n):CallF prog G 85 [.pointer (some ⟨p,0,none⟩),.slice a n c,.int .i64 at_,.int .i64 1,.int .i64 number] (q) (Ret fun v q'=>v= .tuple [.pointer none,.int .i64 4].toArray∧q'=q):=by
 refine CallF.of func85 ntmps85 rfl (fun F cs=> ?_)
 try unfold inR at hr
 try unfold thr at hb
 try unfold val at hb
 refine xx 33 ?_;refine X.know 16 (.bool true) rfl (congrArg Value.bool (by simp)) ?_
 refine xo 13 ?_
 rcases Decidable.em (number<0) with k8|k8
 focus
  refine XO.know 23 (.bool true) rfl (congrArg Value.bool ((by first|exact decide_eq_true (by omega)|exact decide_eq_false (by omega)|rfl|(simp;omega)|simp))) ?_
  refine oo 17 ?_
  rcases Decidable.em (at_<0) with k1|k1
  focus
   refine XO.know 30 (.bool true) rfl (congrArg Value.bool ((by first|exact decide_eq_true (by omega)|exact decide_eq_false (by omega)|rfl|(simp;omega)|simp))) ?_
   refine oo 13 ?_
  rotate_left
  focus
   refine XO.know 30 (.bool false) rfl (congrArg Value.bool ((by first|exact decide_eq_true (by omega)|exact decide_eq_false (by omega)|rfl|(simp;omega)|simp))) ?_
   refine ox 6 ?_;refine X.know 35 (.bool true) rfl (congrArg Value.bool ((by first|exact decide_eq_true (by omega)|exact decide_eq_false (by omega)|rfl|(simp;omega)|simp))) ?_
   refine xo 7 ?_
 rotate_left 2
 focus
  rcases Decidable.em (number>7) with k9|k9
  iterate 2
   focus
    refine XO.know 23 (.bool false) rfl (congrArg Value.bool ((by first|exact decide_eq_true (by omega)|exact decide_eq_false (by omega)|rfl|(simp;omega)|simp))) ?_
    refine ox 5 ?_
   rotate_left
  focus
   refine X.know 27 (.bool true) rfl (congrArg Value.bool ((by first|exact decide_eq_true (by omega)|exact decide_eq_false (by omega)|rfl|(simp;omega)|simp))) ?_
   refine xo 12 ?_
   rcases Decidable.em (at_<0) with k1|k1
   focus
    refine XO.know 30 (.bool true) rfl (congrArg Value.bool ((by first|exact decide_eq_true (by omega)|exact decide_eq_false (by omega)|rfl|(simp;omega)|simp))) ?_
    refine oo 13 ?_
   rotate_left
   focus
    refine XO.know 30 (.bool false) rfl (congrArg Value.bool ((by first|exact decide_eq_true (by omega)|exact decide_eq_false (by omega)|rfl|(simp;omega)|simp))) ?_
    refine ox 6 ?_;refine X.know 35 (.bool true) rfl (congrArg Value.bool ((by first|exact decide_eq_true (by omega)|exact decide_eq_false (by omega)|rfl|(simp;omega)|simp))) ?_
    refine xo 7 ?_
  rotate_left 2
  focus
   refine X.know 27 (.bool false) rfl (congrArg Value.bool ((by first|exact decide_eq_true (by omega)|exact decide_eq_false (by omega)|rfl|(simp;omega)|simp))) ?_
   refine xo 10 ?_
   rcases Decidable.em (at_<0) with k1|k1
   focus
    refine XO.know 30 (.bool true) rfl (congrArg Value.bool ((by first|exact decide_eq_true (by omega)|exact decide_eq_false (by omega)|rfl|(simp;omega)|simp))) ?_
    refine oo 13 ?_
   rotate_left
   focus
    refine XO.know 30 (.bool false) rfl (congrArg Value.bool ((by first|exact decide_eq_true (by omega)|exact decide_eq_false (by omega)|rfl|(simp;omega)|simp))) ?_
    refine ox 6 ?_;refine X.know 35 (.bool true) rfl (congrArg Value.bool ((by first|exact decide_eq_true (by omega)|exact decide_eq_false (by omega)|rfl|(simp;omega)|simp))) ?_
    refine xo 7 ?_
 all_goals
  refine XO.cR call106 (Yc (Qv h leA)) ?_;refine Zt (Pu.not rfl) ?_;refine ox 1 ?_;refine kx 38 9 ?_;refine X.kt 40 ?_;refine xx 7 ?_;refine Zq (q) func85 (Wc results85 rfl rfl) ⟨_,rfl,rfl,rfl⟩
theorem Bu (h:Cl q ⟨p,0,none⟩ (.bool true))(hn:n≤1000000)(hr:i<n)(hb: ¬ (thr number)):CallF prog G 85 [.pointer (some ⟨p,0,none⟩),.slice a n c,.int .i64 (i:Int),.int .i64 1,.int .i64 number] (q) (Ret fun v q'=>v= .tuple [.pointer none,.int .i64 2].toArray∧q'=q):=by
 refine CallF.of func85 ntmps85 rfl (fun F cs=> ?_)
 try unfold inR at hr
 try unfold thr at hb
 try unfold val at hb
 refine xx 33 ?_;refine X.know 16 (.bool true) rfl (congrArg Value.bool (by simp)) ?_
 refine xo 13 ?_
 rcases Decidable.em (number<0) with k8|k8
 focus
  refine XO.know 23 (.bool true) rfl (congrArg Value.bool ((by first|exact decide_eq_true (by omega)|exact decide_eq_false (by omega)|rfl|(simp;omega)|simp))) ?_
  refine oo 17 ?_
 rotate_left
 focus
  refine XO.know 23 (.bool false) rfl (congrArg Value.bool ((by first|exact decide_eq_true (by omega)|exact decide_eq_false (by omega)|rfl|(simp;omega)|simp))) ?_
  refine ox 5 ?_;refine X.know 27 (.bool true) rfl (congrArg Value.bool ((by first|exact decide_eq_true (by omega)|exact decide_eq_false (by omega)|rfl|(simp;omega)|simp))) ?_
  refine xo 12 ?_
 all_goals
  refine XO.know 30 (.bool false) rfl (congrArg Value.bool ((by first|exact decide_eq_true (by omega)|exact decide_eq_false (by omega)|rfl|(simp;omega)|simp))) ?_
  refine ox 6 ?_;refine X.know 35 (.bool false) rfl (congrArg Value.bool ((by first|exact decide_eq_true (by omega)|exact decide_eq_false (by omega)|rfl|(simp;omega)|simp))) ?_
  refine xo 5 ?_;refine XO.cR call106 (Yc (Qv h leA)) ?_;refine Zt (Pu.not rfl) ?_;refine ox 1 ?_;refine kx 38 9 ?_;refine X.kt 40 ?_;refine xx 7 ?_;refine Zq (q) func85 (Wc results85 rfl rfl) ⟨_,rfl,rfl,rfl⟩
theorem D9 (h:Cl q ⟨p,0,none⟩ (.bool true))(hn:n≤1000000)(hr:i<n)(hb:thr number):CallF prog G 85 [.pointer (some ⟨p,0,none⟩),.slice (some ⟨g,0,none⟩) n c,.int .i64 (i:Int),.int .i64 1,.int .i64 number] (q) (Ret fun v q'=>v= .tuple [.pointer (some ⟨g,i*1,none⟩),.int .i64 0].toArray∧q'=q):=by
 refine CallF.of func85 ntmps85 rfl (fun F cs=> ?_)
 try unfold inR at hr
 try unfold thr at hb
 try unfold val at hb
 refine xx 33 ?_;refine X.know 16 (.bool true) rfl (congrArg Value.bool (by simp)) ?_
 refine xo 13 ?_;refine XO.know 23 (.bool false) rfl (congrArg Value.bool ((by first|exact decide_eq_true (by omega)|exact decide_eq_false (by omega)|rfl|(simp;omega)|simp))) ?_
 refine ox 5 ?_;refine X.know 27 (.bool false) rfl (congrArg Value.bool ((by first|exact decide_eq_true (by omega)|exact decide_eq_false (by omega)|rfl|(simp;omega)|simp))) ?_
 refine xo 10 ?_;refine XO.know 30 (.bool false) rfl (congrArg Value.bool ((by first|exact decide_eq_true (by omega)|exact decide_eq_false (by omega)|rfl|(simp;omega)|simp))) ?_
 refine ox 6 ?_;refine X.know 35 (.bool false) rfl (congrArg Value.bool ((by first|exact decide_eq_true (by omega)|exact decide_eq_false (by omega)|rfl|(simp;omega)|simp))) ?_
 refine xo 5 ?_;refine XO.cR call106 (Yc (Qv h leA)) ?_;refine Zt (Pu.not rfl) ?_;refine ox 1 ?_;refine kx 38 9 ?_;refine kx 40 10 ?_;refine Zq (q) func85 (Wc results85 rfl rfl) ⟨_,rfl,by simp,rfl⟩
theorem Bd (h:Cl q ⟨p,0,none⟩ (.bool true))(hn:n≤1000000)(hr: ¬inR at_ n):CallF prog G 87 [.pointer (some ⟨p,0,none⟩),.slice a n c,.int .i64 at_,.int .i64 0,.int .i64 0] (q) (Ret fun v q'=>v= .tuple [.pointer none,.int .i64 4].toArray∧q'=q):=by
 refine CallF.of func87 ntmps87 rfl (fun F cs=> ?_)
 try unfold inR at hr
 try unfold thr at hb
 try unfold val at hb
 refine xx 33 ?_;refine X.know 16 (.bool false) rfl (congrArg Value.bool (by simp)) ?_
 refine xx 7 ?_;refine X.know 18 (.bool false) rfl (congrArg Value.bool (by simp)) ?_
 refine xo 10 ?_
 rcases Decidable.em (at_<0) with k1|k1
 focus
  refine XO.know 30 (.bool true) rfl (congrArg Value.bool ((by first|exact decide_eq_true (by omega)|exact decide_eq_false (by omega)|rfl|(simp;omega)|simp))) ?_
  refine oo 13 ?_
 rotate_left
 focus
  refine XO.know 30 (.bool false) rfl (congrArg Value.bool ((by first|exact decide_eq_true (by omega)|exact decide_eq_false (by omega)|rfl|(simp;omega)|simp))) ?_
  refine ox 6 ?_;refine X.know 35 (.bool true) rfl (congrArg Value.bool ((by first|exact decide_eq_true (by omega)|exact decide_eq_false (by omega)|rfl|(simp;omega)|simp))) ?_
  refine xo 7 ?_
 all_goals
  refine XO.cR call106 (Yc (Qv h leA)) ?_;refine Zt (Pu.not rfl) ?_;refine ox 1 ?_;refine kx 38 9 ?_;refine X.kt 40 ?_;refine xx 7 ?_;refine Zq (q) func87 (Wc results87 rfl rfl) ⟨_,rfl,rfl,rfl⟩
theorem Ez (h:Cl q ⟨p,0,none⟩ (.bool true))(hn:n≤1000000)(hr:i<n)(hb:True):CallF prog G 87 [.pointer (some ⟨p,0,none⟩),.slice (some ⟨g,0,none⟩) n c,.int .i64 (i:Int),.int .i64 0,.int .i64 0] (q) (Ret fun v q'=>v= .tuple [.pointer (some ⟨g,i*1,none⟩),.int .i64 0].toArray∧q'=q):=by
 refine CallF.of func87 ntmps87 rfl (fun F cs=> ?_)
 try unfold inR at hr
 try unfold thr at hb
 try unfold val at hb
 refine xx 33 ?_;refine X.know 16 (.bool false) rfl (congrArg Value.bool (by simp)) ?_
 refine xx 7 ?_;refine X.know 18 (.bool false) rfl (congrArg Value.bool (by simp)) ?_
 refine xo 10 ?_;refine XO.know 30 (.bool false) rfl (congrArg Value.bool ((by first|exact decide_eq_true (by omega)|exact decide_eq_false (by omega)|rfl|(simp;omega)|simp))) ?_
 refine ox 6 ?_;refine X.know 35 (.bool false) rfl (congrArg Value.bool ((by first|exact decide_eq_true (by omega)|exact decide_eq_false (by omega)|rfl|(simp;omega)|simp))) ?_
 refine xo 5 ?_;refine XO.cR call106 (Yc (Qv h leA)) ?_;refine Zt (Pu.not rfl) ?_;refine ox 1 ?_;refine kx 38 9 ?_;refine kx 40 10 ?_;refine Zq (q) func87 (Wc results87 rfl rfl) ⟨_,rfl,by simp,rfl⟩
theorem Ph (h:Cl q ⟨p,0,none⟩ (.bool true))(hn:n≤1000000)(hr: ¬inR at_ n):CallF prog G 87 [.pointer (some ⟨p,0,none⟩),.slice a n c,.int .i64 at_,.int .i64 1,.int .i64 number] (q) (Ret fun v q'=>v= .tuple [.pointer none,.int .i64 4].toArray∧q'=q):=by
 refine CallF.of func87 ntmps87 rfl (fun F cs=> ?_)
 try unfold inR at hr
 try unfold thr at hb
 try unfold val at hb
 refine xx 33 ?_;refine X.know 16 (.bool true) rfl (congrArg Value.bool (by simp)) ?_
 refine xo 13 ?_
 rcases Decidable.em (number<0) with k8|k8
 focus
  refine XO.know 23 (.bool true) rfl (congrArg Value.bool ((by first|exact decide_eq_true (by omega)|exact decide_eq_false (by omega)|rfl|(simp;omega)|simp))) ?_
  refine oo 17 ?_
  rcases Decidable.em (at_<0) with k1|k1
  focus
   refine XO.know 30 (.bool true) rfl (congrArg Value.bool ((by first|exact decide_eq_true (by omega)|exact decide_eq_false (by omega)|rfl|(simp;omega)|simp))) ?_
   refine oo 13 ?_
  rotate_left
  focus
   refine XO.know 30 (.bool false) rfl (congrArg Value.bool ((by first|exact decide_eq_true (by omega)|exact decide_eq_false (by omega)|rfl|(simp;omega)|simp))) ?_
   refine ox 6 ?_;refine X.know 35 (.bool true) rfl (congrArg Value.bool ((by first|exact decide_eq_true (by omega)|exact decide_eq_false (by omega)|rfl|(simp;omega)|simp))) ?_
   refine xo 7 ?_
 rotate_left 2
 focus
  rcases Decidable.em (number>7) with k9|k9
  iterate 2
   focus
    refine XO.know 23 (.bool false) rfl (congrArg Value.bool ((by first|exact decide_eq_true (by omega)|exact decide_eq_false (by omega)|rfl|(simp;omega)|simp))) ?_
    refine ox 5 ?_
   rotate_left
  focus
   refine X.know 27 (.bool true) rfl (congrArg Value.bool ((by first|exact decide_eq_true (by omega)|exact decide_eq_false (by omega)|rfl|(simp;omega)|simp))) ?_
   refine xo 12 ?_
   rcases Decidable.em (at_<0) with k1|k1
   focus
    refine XO.know 30 (.bool true) rfl (congrArg Value.bool ((by first|exact decide_eq_true (by omega)|exact decide_eq_false (by omega)|rfl|(simp;omega)|simp))) ?_
    refine oo 13 ?_
   rotate_left
   focus
    refine XO.know 30 (.bool false) rfl (congrArg Value.bool ((by first|exact decide_eq_true (by omega)|exact decide_eq_false (by omega)|rfl|(simp;omega)|simp))) ?_
    refine ox 6 ?_;refine X.know 35 (.bool true) rfl (congrArg Value.bool ((by first|exact decide_eq_true (by omega)|exact decide_eq_false (by omega)|rfl|(simp;omega)|simp))) ?_
    refine xo 7 ?_
  rotate_left 2
  focus
   refine X.know 27 (.bool false) rfl (congrArg Value.bool ((by first|exact decide_eq_true (by omega)|exact decide_eq_false (by omega)|rfl|(simp;omega)|simp))) ?_
   refine xo 10 ?_
   rcases Decidable.em (at_<0) with k1|k1
   focus
    refine XO.know 30 (.bool true) rfl (congrArg Value.bool ((by first|exact decide_eq_true (by omega)|exact decide_eq_false (by omega)|rfl|(simp;omega)|simp))) ?_
    refine oo 13 ?_
   rotate_left
   focus
    refine XO.know 30 (.bool false) rfl (congrArg Value.bool ((by first|exact decide_eq_true (by omega)|exact decide_eq_false (by omega)|rfl|(simp;omega)|simp))) ?_
    refine ox 6 ?_;refine X.know 35 (.bool true) rfl (congrArg Value.bool ((by first|exact decide_eq_true (by omega)|exact decide_eq_false (by omega)|rfl|(simp;omega)|simp))) ?_
    refine xo 7 ?_
 all_goals
  refine XO.cR call106 (Yc (Qv h leA)) ?_;refine Zt (Pu.not rfl) ?_;refine ox 1 ?_;refine kx 38 9 ?_;refine X.kt 40 ?_;refine xx 7 ?_;refine Zq (q) func87 (Wc results87 rfl rfl) ⟨_,rfl,rfl,rfl⟩
theorem Pm (h:Cl q ⟨p,0,none⟩ (.bool true))(hn:n≤1000000)(hr:i<n)(hb: ¬ (thr number)):CallF prog G 87 [.pointer (some ⟨p,0,none⟩),.slice a n c,.int .i64 (i:Int),.int .i64 1,.int .i64 number] (q) (Ret fun v q'=>v= .tuple [.pointer none,.int .i64 2].toArray∧q'=q):=by
 refine CallF.of func87 ntmps87 rfl (fun F cs=> ?_)
 try unfold inR at hr
 try unfold thr at hb
 try unfold val at hb
 refine xx 33 ?_;refine X.know 16 (.bool true) rfl (congrArg Value.bool (by simp)) ?_
 refine xo 13 ?_
 rcases Decidable.em (number<0) with k8|k8
 focus
  refine XO.know 23 (.bool true) rfl (congrArg Value.bool ((by first|exact decide_eq_true (by omega)|exact decide_eq_false (by omega)|rfl|(simp;omega)|simp))) ?_
  refine oo 17 ?_
 rotate_left
 focus
  refine XO.know 23 (.bool false) rfl (congrArg Value.bool ((by first|exact decide_eq_true (by omega)|exact decide_eq_false (by omega)|rfl|(simp;omega)|simp))) ?_
  refine ox 5 ?_;refine X.know 27 (.bool true) rfl (congrArg Value.bool ((by first|exact decide_eq_true (by omega)|exact decide_eq_false (by omega)|rfl|(simp;omega)|simp))) ?_
  refine xo 12 ?_
 all_goals
  refine XO.know 30 (.bool false) rfl (congrArg Value.bool ((by first|exact decide_eq_true (by omega)|exact decide_eq_false (by omega)|rfl|(simp;omega)|simp))) ?_
  refine ox 6 ?_;refine X.know 35 (.bool false) rfl (congrArg Value.bool ((by first|exact decide_eq_true (by omega)|exact decide_eq_false (by omega)|rfl|(simp;omega)|simp))) ?_
  refine xo 5 ?_;refine XO.cR call106 (Yc (Qv h leA)) ?_;refine Zt (Pu.not rfl) ?_;refine ox 1 ?_;refine kx 38 9 ?_;refine X.kt 40 ?_;refine xx 7 ?_;refine Zq (q) func87 (Wc results87 rfl rfl) ⟨_,rfl,rfl,rfl⟩
theorem Oh (h:Cl q ⟨p,0,none⟩ (.bool true))(hn:n≤1000000)(hr:i<n)(hb:thr number):CallF prog G 87 [.pointer (some ⟨p,0,none⟩),.slice (some ⟨g,0,none⟩) n c,.int .i64 (i:Int),.int .i64 1,.int .i64 number] (q) (Ret fun v q'=>v= .tuple [.pointer (some ⟨g,i*1,none⟩),.int .i64 0].toArray∧q'=q):=by
 refine CallF.of func87 ntmps87 rfl (fun F cs=> ?_)
 try unfold inR at hr
 try unfold thr at hb
 try unfold val at hb
 refine xx 33 ?_;refine X.know 16 (.bool true) rfl (congrArg Value.bool (by simp)) ?_
 refine xo 13 ?_;refine XO.know 23 (.bool false) rfl (congrArg Value.bool ((by first|exact decide_eq_true (by omega)|exact decide_eq_false (by omega)|rfl|(simp;omega)|simp))) ?_
 refine ox 5 ?_;refine X.know 27 (.bool false) rfl (congrArg Value.bool ((by first|exact decide_eq_true (by omega)|exact decide_eq_false (by omega)|rfl|(simp;omega)|simp))) ?_
 refine xo 10 ?_;refine XO.know 30 (.bool false) rfl (congrArg Value.bool ((by first|exact decide_eq_true (by omega)|exact decide_eq_false (by omega)|rfl|(simp;omega)|simp))) ?_
 refine ox 6 ?_;refine X.know 35 (.bool false) rfl (congrArg Value.bool ((by first|exact decide_eq_true (by omega)|exact decide_eq_false (by omega)|rfl|(simp;omega)|simp))) ?_
 refine xo 5 ?_;refine XO.cR call106 (Yc (Qv h leA)) ?_;refine Zt (Pu.not rfl) ?_;refine ox 1 ?_;refine kx 38 9 ?_;refine kx 40 10 ?_;refine Zq (q) func87 (Wc results87 rfl rfl) ⟨_,rfl,by simp,rfl⟩
theorem Mu (h:Cl q ⟨p,0,none⟩ (.bool true))(hn:n≤1000000)(hr: ¬inR at_ n):CallF prog G 90 [.pointer (some ⟨p,0,none⟩),.slice a n c,.int .i64 at_,.int .i64 0,.int .i64 0] (q) (Ret fun v q'=>v= .tuple [.pointer none,.int .i64 4].toArray∧q'=q):=by
 refine CallF.of func90 ntmps90 rfl (fun F cs=> ?_)
 try unfold inR at hr
 try unfold thr at hb
 try unfold val at hb
 refine xx 33 ?_;refine X.know 16 (.bool false) rfl (congrArg Value.bool (by simp)) ?_
 refine xx 7 ?_;refine X.know 18 (.bool false) rfl (congrArg Value.bool (by simp)) ?_
 refine xo 10 ?_
 rcases Decidable.em (at_<0) with k1|k1
 focus
  refine XO.know 30 (.bool true) rfl (congrArg Value.bool ((by first|exact decide_eq_true (by omega)|exact decide_eq_false (by omega)|rfl|(simp;omega)|simp))) ?_
  refine oo 13 ?_
 rotate_left
 focus
  refine XO.know 30 (.bool false) rfl (congrArg Value.bool ((by first|exact decide_eq_true (by omega)|exact decide_eq_false (by omega)|rfl|(simp;omega)|simp))) ?_
  refine ox 6 ?_;refine X.know 35 (.bool true) rfl (congrArg Value.bool ((by first|exact decide_eq_true (by omega)|exact decide_eq_false (by omega)|rfl|(simp;omega)|simp))) ?_
  refine xo 7 ?_
 all_goals
  refine XO.cR call106 (Yc (Qv h leA)) ?_;refine Zt (Pu.not rfl) ?_;refine ox 1 ?_;refine kx 38 9 ?_;refine X.kt 40 ?_;refine xx 7 ?_;refine Zq (q) func90 (Wc results90 rfl rfl) ⟨_,rfl,rfl,rfl⟩
theorem Tb (h:Cl q ⟨p,0,none⟩ (.bool true))(hn:n≤1000000)(hr:i<n)(hb:True):CallF prog G 90 [.pointer (some ⟨p,0,none⟩),.slice (some ⟨g,0,none⟩) n c,.int .i64 (i:Int),.int .i64 0,.int .i64 0] (q) (Ret fun v q'=>v= .tuple [.pointer (some ⟨g,i*3,none⟩),.int .i64 0].toArray∧q'=q):=by
 refine CallF.of func90 ntmps90 rfl (fun F cs=> ?_)
 try unfold inR at hr
 try unfold thr at hb
 try unfold val at hb
 refine xx 33 ?_;refine X.know 16 (.bool false) rfl (congrArg Value.bool (by simp)) ?_
 refine xx 7 ?_;refine X.know 18 (.bool false) rfl (congrArg Value.bool (by simp)) ?_
 refine xo 10 ?_;refine XO.know 30 (.bool false) rfl (congrArg Value.bool ((by first|exact decide_eq_true (by omega)|exact decide_eq_false (by omega)|rfl|(simp;omega)|simp))) ?_
 refine ox 6 ?_;refine X.know 35 (.bool false) rfl (congrArg Value.bool ((by first|exact decide_eq_true (by omega)|exact decide_eq_false (by omega)|rfl|(simp;omega)|simp))) ?_
 refine xo 5 ?_;refine XO.cR call106 (Yc (Qv h leA)) ?_;refine Zt (Pu.not rfl) ?_;refine ox 1 ?_;refine kx 38 9 ?_;refine kx 40 10 ?_;refine Zq (q) func90 (Wc results90 rfl rfl) ⟨_,rfl,by simp,rfl⟩
theorem Pf (h:Cl q ⟨p,0,none⟩ (.bool true))(hn:n≤1000000)(hr: ¬inR at_ n):CallF prog G 90 [.pointer (some ⟨p,0,none⟩),.slice a n c,.int .i64 at_,.int .i64 2,.int .i64 number] (q) (Ret fun v q'=>v= .tuple [.pointer none,.int .i64 4].toArray∧q'=q):=by
 refine CallF.of func90 ntmps90 rfl (fun F cs=> ?_)
 try unfold inR at hr
 try unfold thr at hb
 try unfold val at hb
 refine xx 33 ?_;refine X.know 16 (.bool false) rfl (congrArg Value.bool (by simp)) ?_
 refine xx 7 ?_;refine X.know 18 (.bool true) rfl (congrArg Value.bool (by simp)) ?_
 refine xo 8 ?_
 rcases Decidable.em (number< -2147483648) with k8|k8
 focus
  refine XO.know 23 (.bool true) rfl (congrArg Value.bool ((by first|exact decide_eq_true (by omega)|exact decide_eq_false (by omega)|rfl|(simp;omega)|simp))) ?_
  refine oo 17 ?_
  rcases Decidable.em (at_<0) with k1|k1
  focus
   refine XO.know 30 (.bool true) rfl (congrArg Value.bool ((by first|exact decide_eq_true (by omega)|exact decide_eq_false (by omega)|rfl|(simp;omega)|simp))) ?_
   refine oo 13 ?_
  rotate_left
  focus
   refine XO.know 30 (.bool false) rfl (congrArg Value.bool ((by first|exact decide_eq_true (by omega)|exact decide_eq_false (by omega)|rfl|(simp;omega)|simp))) ?_
   refine ox 6 ?_;refine X.know 35 (.bool true) rfl (congrArg Value.bool ((by first|exact decide_eq_true (by omega)|exact decide_eq_false (by omega)|rfl|(simp;omega)|simp))) ?_
   refine xo 7 ?_
 rotate_left 2
 focus
  rcases Decidable.em (number>2147483647) with k9|k9
  iterate 2
   focus
    refine XO.know 23 (.bool false) rfl (congrArg Value.bool ((by first|exact decide_eq_true (by omega)|exact decide_eq_false (by omega)|rfl|(simp;omega)|simp))) ?_
    refine ox 5 ?_
   rotate_left
  focus
   refine X.know 27 (.bool true) rfl (congrArg Value.bool ((by first|exact decide_eq_true (by omega)|exact decide_eq_false (by omega)|rfl|(simp;omega)|simp))) ?_
   refine xo 12 ?_
   rcases Decidable.em (at_<0) with k1|k1
   focus
    refine XO.know 30 (.bool true) rfl (congrArg Value.bool ((by first|exact decide_eq_true (by omega)|exact decide_eq_false (by omega)|rfl|(simp;omega)|simp))) ?_
    refine oo 13 ?_
   rotate_left
   focus
    refine XO.know 30 (.bool false) rfl (congrArg Value.bool ((by first|exact decide_eq_true (by omega)|exact decide_eq_false (by omega)|rfl|(simp;omega)|simp))) ?_
    refine ox 6 ?_;refine X.know 35 (.bool true) rfl (congrArg Value.bool ((by first|exact decide_eq_true (by omega)|exact decide_eq_false (by omega)|rfl|(simp;omega)|simp))) ?_
    refine xo 7 ?_
  rotate_left 2
  focus
   refine X.know 27 (.bool false) rfl (congrArg Value.bool ((by first|exact decide_eq_true (by omega)|exact decide_eq_false (by omega)|rfl|(simp;omega)|simp))) ?_
   refine xo 10 ?_
   rcases Decidable.em (at_<0) with k1|k1
   focus
    refine XO.know 30 (.bool true) rfl (congrArg Value.bool ((by first|exact decide_eq_true (by omega)|exact decide_eq_false (by omega)|rfl|(simp;omega)|simp))) ?_
    refine oo 13 ?_
   rotate_left
   focus
    refine XO.know 30 (.bool false) rfl (congrArg Value.bool ((by first|exact decide_eq_true (by omega)|exact decide_eq_false (by omega)|rfl|(simp;omega)|simp))) ?_
    refine ox 6 ?_;refine X.know 35 (.bool true) rfl (congrArg Value.bool ((by first|exact decide_eq_true (by omega)|exact decide_eq_false (by omega)|rfl|(simp;omega)|simp))) ?_
    refine xo 7 ?_
 all_goals
  refine XO.cR call106 (Yc (Qv h leA)) ?_;refine Zt (Pu.not rfl) ?_;refine ox 1 ?_;refine kx 38 9 ?_;refine X.kt 40 ?_;refine xx 7 ?_;refine Zq (q) func90 (Wc results90 rfl rfl) ⟨_,rfl,rfl,rfl⟩
theorem Pg (h:Cl q ⟨p,0,none⟩ (.bool true))(hn:n≤1000000)(hr:i<n)(hb: ¬ (val number)):CallF prog G 90 [.pointer (some ⟨p,0,none⟩),.slice a n c,.int .i64 (i:Int),.int .i64 2,.int .i64 number] (q) (Ret fun v q'=>v= .tuple [.pointer none,.int .i64 2].toArray∧q'=q):=by
 refine CallF.of func90 ntmps90 rfl (fun F cs=> ?_)
 try unfold inR at hr
 try unfold thr at hb
 try unfold val at hb
 refine xx 33 ?_;refine X.know 16 (.bool false) rfl (congrArg Value.bool (by simp)) ?_
 refine xx 7 ?_;refine X.know 18 (.bool true) rfl (congrArg Value.bool (by simp)) ?_
 refine xo 8 ?_
 rcases Decidable.em (number< -2147483648) with k8|k8
 focus
  refine XO.know 23 (.bool true) rfl (congrArg Value.bool ((by first|exact decide_eq_true (by omega)|exact decide_eq_false (by omega)|rfl|(simp;omega)|simp))) ?_
  refine oo 17 ?_
 rotate_left
 focus
  refine XO.know 23 (.bool false) rfl (congrArg Value.bool ((by first|exact decide_eq_true (by omega)|exact decide_eq_false (by omega)|rfl|(simp;omega)|simp))) ?_
  refine ox 5 ?_;refine X.know 27 (.bool true) rfl (congrArg Value.bool ((by first|exact decide_eq_true (by omega)|exact decide_eq_false (by omega)|rfl|(simp;omega)|simp))) ?_
  refine xo 12 ?_
 all_goals
  refine XO.know 30 (.bool false) rfl (congrArg Value.bool ((by first|exact decide_eq_true (by omega)|exact decide_eq_false (by omega)|rfl|(simp;omega)|simp))) ?_
  refine ox 6 ?_;refine X.know 35 (.bool false) rfl (congrArg Value.bool ((by first|exact decide_eq_true (by omega)|exact decide_eq_false (by omega)|rfl|(simp;omega)|simp))) ?_
  refine xo 5 ?_;refine XO.cR call106 (Yc (Qv h leA)) ?_;refine Zt (Pu.not rfl) ?_;refine ox 1 ?_;refine kx 38 9 ?_;refine X.kt 40 ?_;refine xx 7 ?_;refine Zq (q) func90 (Wc results90 rfl rfl) ⟨_,rfl,rfl,rfl⟩
theorem Og (h:Cl q ⟨p,0,none⟩ (.bool true))(hn:n≤1000000)(hr:i<n)(hb:val number):CallF prog G 90 [.pointer (some ⟨p,0,none⟩),.slice (some ⟨g,0,none⟩) n c,.int .i64 (i:Int),.int .i64 2,.int .i64 number] (q) (Ret fun v q'=>v= .tuple [.pointer (some ⟨g,i*3,none⟩),.int .i64 0].toArray∧q'=q):=by
 refine CallF.of func90 ntmps90 rfl (fun F cs=> ?_)
 try unfold inR at hr
 try unfold thr at hb
 try unfold val at hb
 refine xx 33 ?_;refine X.know 16 (.bool false) rfl (congrArg Value.bool (by simp)) ?_
 refine xx 7 ?_;refine X.know 18 (.bool true) rfl (congrArg Value.bool (by simp)) ?_
 refine xo 8 ?_;refine XO.know 23 (.bool false) rfl (congrArg Value.bool ((by first|exact decide_eq_true (by omega)|exact decide_eq_false (by omega)|rfl|(simp;omega)|simp))) ?_
 refine ox 5 ?_;refine X.know 27 (.bool false) rfl (congrArg Value.bool ((by first|exact decide_eq_true (by omega)|exact decide_eq_false (by omega)|rfl|(simp;omega)|simp))) ?_
 refine xo 10 ?_;refine XO.know 30 (.bool false) rfl (congrArg Value.bool ((by first|exact decide_eq_true (by omega)|exact decide_eq_false (by omega)|rfl|(simp;omega)|simp))) ?_
 refine ox 6 ?_;refine X.know 35 (.bool false) rfl (congrArg Value.bool ((by first|exact decide_eq_true (by omega)|exact decide_eq_false (by omega)|rfl|(simp;omega)|simp))) ?_
 refine xo 5 ?_;refine XO.cR call106 (Yc (Qv h leA)) ?_;refine Zt (Pu.not rfl) ?_;refine ox 1 ?_;refine kx 38 9 ?_;refine kx 40 10 ?_;refine Zq (q) func90 (Wc results90 rfl rfl) ⟨_,rfl,by simp,rfl⟩
end
section
variable {G:World}{q:List HP}{a b:Option Addr}{c d g p i n:Nat}{σ:SyC}{s:Sy}{k t v m at_ number:Int}
theorem Owner_ok (hR:Real σ s){N:Nat}(hs:s.ok N)(hN:N≤1000):CallF prog G 56 [.pointer (some ⟨p,0,none⟩),.int .i64 m] ((syL p σ)) (Ret fun v q'=>v= .tuple [.int .i64 (Hx s m).1,.int .i64 (Hx s m).2].toArray∧q'=syL p σ):=by
 refine CallF.of func56 ntmps56 rfl (fun F cs=> ?_)
 have ho:=hR.lo;have hc:=hR.lc;have hh:=hR.lh;have hno:=hs.no;have hnc:=hs.nc;have hnh:=hs.nh
 change X _ _ _ _ _ _ _ _ (pto p (.cells [.bool true,.slice σ.ao σ.owners.length σ.co,.slice σ.ac σ.conds.length σ.cc,.slice σ.ah σ.chans.length σ.ch].toArray 176 (0,0))::lsH I64 3 σ.ao σ.co σ.owners::rsH cqs 1 191 σ.ac σ.cc σ.conds::stars (σ.conds.map (lsV 3))::rsH chs 3 180 σ.ah σ.ch σ.chans::stars (σ.chans.map fun x=>lsV 2 x.q)::F)
 rcases Decidable.em (inR m σ.owners.length) with hr|hr
 · have hr':inR m s.owners.length:=by rw [←ho];exact hr
   obtain ⟨i,rfl⟩:=Int.eq_ofNat_of_zero_le hr.1;have hi:i<σ.owners.length:=(by have:=hr.2;omega)
   refine V9 (l:=σ.owners) (by omega) (fun g e_=> ?_)
   rw [e_]
   refine xo 9 ?_;refine XO.cR call86 (W0 clA clA) ?_;refine oo 1 ?_;refine XO.cR call85 (Of (p:=p) clA (by omega) hi trivial) ?_
   refine ox 12 ?_;refine Wy 17 ?_
   have hso:Sees (pto p (.cells [.bool true,.slice (some ⟨g,0,none⟩) σ.owners.length σ.co,.slice σ.ac σ.conds.length σ.cc,.slice σ.ah σ.chans.length σ.ch].toArray 176 (0,0))::lsH I64 3 (some ⟨g,0,none⟩) σ.co σ.owners::rsH cqs 1 191 σ.ac σ.cc σ.conds::stars (σ.conds.map (lsV 3))::rsH chs 3 180 σ.ah σ.ch σ.chans::stars (σ.chans.map fun x=>lsV 2 x.q)::F) (some ⟨g,0,none⟩) (σ.owners.map I64):=(Sees.lsH _).le leA
   refine xo 6 ?_;refine ld ?_ (hc:=(L0 hso hi))
   refine ox 3 ?_
   rw [show Hx s (i:Int)=(σ.owners[i],0) from (if_pos hr').trans (by rw [←hR.ol hi];rfl)]
   refine Zq [pto p (.cells [.bool true,.slice (some ⟨g,0,none⟩) σ.owners.length σ.co,.slice σ.ac σ.conds.length σ.cc,.slice σ.ah σ.chans.length σ.ch].toArray 176 (0,0)),lsH I64 3 (some ⟨g,0,none⟩) σ.co σ.owners,rsH cqs 1 191 σ.ac σ.cc σ.conds,stars (σ.conds.map (lsV 3)),rsH chs 3 180 σ.ah σ.ch σ.chans,stars (σ.chans.map fun x=>lsV 2 x.q)] func56 (Wc results56 rfl rfl) ⟨_,rfl,rfl,by unfold syL;rw [e_]⟩
 have hr': ¬inR m s.owners.length:=by rw [←ho];exact hr
 refine xo 9 ?_;refine XO.cR call86 (W0 clA clA) ?_;refine oo 1 ?_;refine XO.cR call85 (Pb (p:=p) clA (by omega) hr) ?_
 refine ox 12 ?_;refine X.kt 17 ?_;refine xx 7 ?_
 rw [show Hx s m=(0,4) from if_neg hr']
 refine Zq [pto p (.cells [.bool true,.slice σ.ao σ.owners.length σ.co,.slice σ.ac σ.conds.length σ.cc,.slice σ.ah σ.chans.length σ.ch].toArray 176 (0,0)),lsH I64 3 σ.ao σ.co σ.owners,rsH cqs 1 191 σ.ac σ.cc σ.conds,stars (σ.conds.map (lsV 3)),rsH chs 3 180 σ.ah σ.ch σ.chans,stars (σ.chans.map fun x=>lsV 2 x.q)] func56 (Wc results56 rfl rfl) ⟨_,rfl,rfl,rfl⟩
theorem Lock_ok (hR:Real σ s){N:Nat}(hs:s.ok N)(hN:N≤1000):CallF prog G 128 [.pointer (some ⟨p,0,none⟩),.int .i64 m,.int .i64 t] ((syL p σ)) (Ret fun v q'=> ∃ σ',Real σ' (Ws s m t).1∧v= .tuple [.bool (Ws s m t).2.1,.int .i64 (Ws s m t).2.2].toArray∧q'=syL p σ'):=by
 refine CallF.of func128 ntmps128 rfl (fun F cs=> ?_)
 have ho:=hR.lo;have hc:=hR.lc;have hh:=hR.lh;have hno:=hs.no;have hnc:=hs.nc;have hnh:=hs.nh
 change X _ _ _ _ _ _ _ _ (pto p (.cells [.bool true,.slice σ.ao σ.owners.length σ.co,.slice σ.ac σ.conds.length σ.cc,.slice σ.ah σ.chans.length σ.ch].toArray 176 (0,0))::lsH I64 3 σ.ao σ.co σ.owners::rsH cqs 1 191 σ.ac σ.cc σ.conds::stars (σ.conds.map (lsV 3))::rsH chs 3 180 σ.ah σ.ch σ.chans::stars (σ.chans.map fun x=>lsV 2 x.q)::F)
 rcases Decidable.em (inR m σ.owners.length) with hr|hr
 focus
  have hr':inR m s.owners.length:=by rw [←ho];exact hr
  obtain ⟨i,rfl⟩:=Int.eq_ofNat_of_zero_le hr.1;have hi:i<σ.owners.length:=(by have:=hr.2;omega)
  rcases Decidable.em (thr t) with hg|hg
  · refine V9 (l:=σ.owners) (by omega) (fun g e_=> ?_)
    rw [e_]
    refine xo 9 ?_;refine XO.cR call86 (W0 clA clA) ?_;refine oo 2 ?_;refine XO.cR call85 (D9 (p:=p) clA (by omega) hi hg) ?_
    refine oo 12 ?_
    have hso:Sees (pto p (.cells [.bool true,.slice (some ⟨g,0,none⟩) σ.owners.length σ.co,.slice σ.ac σ.conds.length σ.cc,.slice σ.ah σ.chans.length σ.ch].toArray 176 (0,0))::lsH I64 3 (some ⟨g,0,none⟩) σ.co σ.owners::rsH cqs 1 191 σ.ac σ.cc σ.conds::stars (σ.conds.map (lsV 3))::rsH chs 3 180 σ.ah σ.ch σ.chans::stars (σ.chans.map fun x=>lsV 2 x.q)::F) (some ⟨g,0,none⟩) (σ.owners.map I64):=(Sees.lsH _).le leA;have hcl:=L0 hso hi;have hol:=hR.ol hi
    refine Mw 21 ?_
    rcases Decidable.em (σ.owners[i]= -1) with hx|hx
    · refine oo 2 ?_;refine ld ?_ (hc:=hcl)
      refine ox 3 ?_;refine X.know 26 (.bool false) rfl (congrArg Value.bool (by simp [hx])) ?_
      refine xo 7 ?_;refine XO.ef0 (Rt (f:=I64) (l:=σ.owners) (u:=t) (n:=i) (g:=g) (j:=(i:Int)) (by simp [evp,lkp]) rfl sizeOf3 rfl hi rfl rfl Zk) ?_
      rintro _ _ ⟨rfl,rfl⟩
      refine ox 6 ?_
      rw [show Ws s (i:Int) t=({ s with owners:=s.owners.set i t },true,0) from (if_pos hr').trans ((if_pos hg).trans (if_pos (hol.trans hx)))]
      refine Zq [pto p (.cells [.bool true,.slice (some ⟨g,0,none⟩) σ.owners.length σ.co,.slice σ.ac σ.conds.length σ.cc,.slice σ.ah σ.chans.length σ.ch].toArray 176 (0,0)),lsH I64 3 (some ⟨g,0,none⟩) σ.co (σ.owners.set i t),rsH cqs 1 191 σ.ac σ.cc σ.conds,stars (σ.conds.map (lsV 3)),rsH chs 3 180 σ.ah σ.ch σ.chans,stars (σ.chans.map fun x=>lsV 2 x.q)] func128 (Wc results128 rfl rfl) ⟨_,rfl, { σ with ao:=(some ⟨g,0,none⟩),owners:=σ.owners.set i (t) },⟨by show σ.owners.set i (t)=s.owners.set i (t);rw [hR.o],hR.c,hR.h⟩,rfl,by unfold syL;simp⟩
    refine oo 2 ?_;refine ld ?_ (hc:=hcl)
    refine ox 3 ?_;refine X.know 26 (.bool true) rfl (congrArg Value.bool (by simp [hx])) ?_
    refine xx 7 ?_
    rw [show Ws s (i:Int) t=(s,false,0) from (if_pos hr').trans ((if_pos hg).trans (if_neg (fun e=>hx (hol.symm.trans e))))]
    refine Zq [pto p (.cells [.bool true,.slice (some ⟨g,0,none⟩) σ.owners.length σ.co,.slice σ.ac σ.conds.length σ.cc,.slice σ.ah σ.chans.length σ.ch].toArray 176 (0,0)),lsH I64 3 (some ⟨g,0,none⟩) σ.co σ.owners,rsH cqs 1 191 σ.ac σ.cc σ.conds,stars (σ.conds.map (lsV 3)),rsH chs 3 180 σ.ah σ.ch σ.chans,stars (σ.chans.map fun x=>lsV 2 x.q)] func128 (Wc results128 rfl rfl) ⟨_,rfl,σ,hR,rfl,by unfold syL;rw [e_]⟩
  refine xo 9 ?_;refine XO.cR call86 (W0 clA clA) ?_;refine oo 2 ?_;refine XO.cR call85 (Bu (p:=p) clA (by omega) hi hg) ?_
  refine oo 12 ?_;refine XO.kt 21 ?_;refine ox 13 ?_
  rw [show Ws s _ t=(s,false,2) from (if_pos hr').trans (if_neg hg)]
 rotate_left
 focus
  have hr': ¬inR m s.owners.length:=by rw [←ho];exact hr
  refine xo 9 ?_;refine XO.cR call86 (W0 clA clA) ?_;refine oo 2 ?_;refine XO.cR call85 (Bp (p:=p) clA (by omega) hr) ?_
  refine oo 12 ?_;refine XO.kt 21 ?_;refine ox 13 ?_
  rw [show Ws s _ t=(s,false,4) from if_neg hr']
 all_goals
  refine Zq [pto p (.cells [.bool true,.slice σ.ao σ.owners.length σ.co,.slice σ.ac σ.conds.length σ.cc,.slice σ.ah σ.chans.length σ.ch].toArray 176 (0,0)),lsH I64 3 σ.ao σ.co σ.owners,rsH cqs 1 191 σ.ac σ.cc σ.conds,stars (σ.conds.map (lsV 3)),rsH chs 3 180 σ.ah σ.ch σ.chans,stars (σ.chans.map fun x=>lsV 2 x.q)] func128 (Wc results128 rfl rfl) ⟨_,rfl,σ,hR,rfl,rfl⟩
theorem Oi (hR:Real σ s){N:Nat}(hs:s.ok N)(hN:N≤1000):CallF prog G 193 [.pointer (some ⟨p,0,none⟩),.int .i64 m,.int .i64 t] ((syL p σ)) (Ret fun v q'=> ∃ σ',Real σ' (Z6 s m t).1∧v= .int .i64 (Z6 s m t).2∧q'=syL p σ'):=by
 refine CallF.of func193 ntmps193 rfl (fun F cs=> ?_)
 have ho:=hR.lo;have hc:=hR.lc;have hh:=hR.lh;have hno:=hs.no;have hnc:=hs.nc;have hnh:=hs.nh
 change X _ _ _ _ _ _ _ _ (pto p (.cells [.bool true,.slice σ.ao σ.owners.length σ.co,.slice σ.ac σ.conds.length σ.cc,.slice σ.ah σ.chans.length σ.ch].toArray 176 (0,0))::lsH I64 3 σ.ao σ.co σ.owners::rsH cqs 1 191 σ.ac σ.cc σ.conds::stars (σ.conds.map (lsV 3))::rsH chs 3 180 σ.ah σ.ch σ.chans::stars (σ.chans.map fun x=>lsV 2 x.q)::F)
 rcases Decidable.em (inR m σ.owners.length) with hr|hr
 focus
  have hr':inR m s.owners.length:=by rw [←ho];exact hr
  obtain ⟨i,rfl⟩:=Int.eq_ofNat_of_zero_le hr.1;have hi:i<σ.owners.length:=(by have:=hr.2;omega)
  rcases Decidable.em (thr t) with hg|hg
  · refine V9 (l:=σ.owners) (by omega) (fun g e_=> ?_)
    rw [e_]
    refine xo 8 ?_;refine XO.cR call86 (W0 clA clA) ?_;refine oo 2 ?_;refine XO.cR call85 (D9 (p:=p) clA (by omega) hi hg) ?_
    refine ox 12 ?_
    have hso:Sees (pto p (.cells [.bool true,.slice (some ⟨g,0,none⟩) σ.owners.length σ.co,.slice σ.ac σ.conds.length σ.cc,.slice σ.ah σ.chans.length σ.ch].toArray 176 (0,0))::lsH I64 3 (some ⟨g,0,none⟩) σ.co σ.owners::rsH cqs 1 191 σ.ac σ.cc σ.conds::stars (σ.conds.map (lsV 3))::rsH chs 3 180 σ.ah σ.ch σ.chans::stars (σ.chans.map fun x=>lsV 2 x.q)::F) (some ⟨g,0,none⟩) (σ.owners.map I64):=(Sees.lsH _).le leA;have hcl:=L0 hso hi;have hol:=hR.ol hi
    refine Wy 19 ?_;refine xo 7 ?_;refine ld ?_ (hc:=hcl)
    refine ox 3 ?_
    rcases Decidable.em (σ.owners[i]=t) with hx|hx
    · refine X.know 25 (.bool false) rfl (congrArg Value.bool (by simp [hx])) ?_
      refine xo 6 ?_;refine XO.ef0 (Rt (f:=I64) (l:=σ.owners) (u:= -1) (n:=i) (g:=g) (j:=(i:Int)) (by simp [evp,lkp]) rfl sizeOf3 rfl hi rfl rfl Zk) ?_
      rintro _ _ ⟨rfl,rfl⟩
      refine ox 5 ?_
      rw [show Z6 s (i:Int) t=({ s with owners:=s.owners.set i (-1) },0) from (if_pos hr').trans ((if_pos hg).trans (if_pos (hol.trans hx)))]
      refine Zq [pto p (.cells [.bool true,.slice (some ⟨g,0,none⟩) σ.owners.length σ.co,.slice σ.ac σ.conds.length σ.cc,.slice σ.ah σ.chans.length σ.ch].toArray 176 (0,0)),lsH I64 3 (some ⟨g,0,none⟩) σ.co (σ.owners.set i (-1)),rsH cqs 1 191 σ.ac σ.cc σ.conds,stars (σ.conds.map (lsV 3)),rsH chs 3 180 σ.ah σ.ch σ.chans,stars (σ.chans.map fun x=>lsV 2 x.q)] func193 (Zg results193 rfl) ⟨_,rfl, { σ with ao:=(some ⟨g,0,none⟩),owners:=σ.owners.set i (-1) },⟨by show σ.owners.set i (-1)=s.owners.set i (-1);rw [hR.o],hR.c,hR.h⟩,rfl,by unfold syL;simp⟩
    refine X.know 25 (.bool true) rfl (congrArg Value.bool (by simp [hx])) ?_
    refine xx 5 ?_
    rw [show Z6 s (i:Int) t=(s,140) from (if_pos hr').trans ((if_pos hg).trans (if_neg (fun e=>hx (hol.symm.trans e))))]
    refine Zq [pto p (.cells [.bool true,.slice (some ⟨g,0,none⟩) σ.owners.length σ.co,.slice σ.ac σ.conds.length σ.cc,.slice σ.ah σ.chans.length σ.ch].toArray 176 (0,0)),lsH I64 3 (some ⟨g,0,none⟩) σ.co σ.owners,rsH cqs 1 191 σ.ac σ.cc σ.conds,stars (σ.conds.map (lsV 3)),rsH chs 3 180 σ.ah σ.ch σ.chans,stars (σ.chans.map fun x=>lsV 2 x.q)] func193 (Zg results193 rfl) ⟨_,rfl,σ,hR,rfl,by unfold syL;rw [e_]⟩
  refine xo 8 ?_;refine XO.cR call86 (W0 clA clA) ?_;refine oo 2 ?_;refine XO.cR call85 (Bu (p:=p) clA (by omega) hi hg) ?_
  refine ox 12 ?_;refine X.kt 19 ?_;refine xx 6 ?_
  rw [show Z6 s _ t=(s,2) from (if_pos hr').trans (if_neg hg)]
 rotate_left
 focus
  have hr': ¬inR m s.owners.length:=by rw [←ho];exact hr
  refine xo 8 ?_;refine XO.cR call86 (W0 clA clA) ?_;refine oo 2 ?_;refine XO.cR call85 (Bp (p:=p) clA (by omega) hr) ?_
  refine ox 12 ?_;refine X.kt 19 ?_;refine xx 6 ?_
  rw [show Z6 s _ t=(s,4) from if_neg hr']
 all_goals
  refine Zq [pto p (.cells [.bool true,.slice σ.ao σ.owners.length σ.co,.slice σ.ac σ.conds.length σ.cc,.slice σ.ah σ.chans.length σ.ch].toArray 176 (0,0)),lsH I64 3 σ.ao σ.co σ.owners,rsH cqs 1 191 σ.ac σ.cc σ.conds,stars (σ.conds.map (lsV 3)),rsH chs 3 180 σ.ah σ.ch σ.chans,stars (σ.chans.map fun x=>lsV 2 x.q)] func193 (Zg results193 rfl) ⟨_,rfl,σ,hR,rfl,rfl⟩
theorem Sy.ok.lenC {σ:SyC}{s:Sy}{N:Nat}(h:s.ok N)(hR:Real σ s){i:Nat}(hi:i<σ.conds.length)(hN:N≤1000):σ.conds[i].l.length≤1000:=by
 rw [←hR.cl hi];exact Nat.le_trans (h.c _ (Y7 (by rw [←hR.lc];exact hi))).1 hN
theorem Sy.ok.lenH {σ:SyC}{s:Sy}{N:Nat}(h:s.ok N)(hR:Real σ s){i:Nat}(hi:i<σ.chans.length)(hN:N≤1000):σ.chans[i].q.l.length≤1000:=by
 have e:=congrArg Prod.fst (hR.hl hi)
 have h2:σ.chans[i].q.l=(s.chans.getD i ch0).items:=e.symm
 rw [h2];unfold Ch.items;rw [List.length_drop]
 have:=(h.h _ (Y7 (d:=ch0) (show i<s.chans.length by rw [←hR.lh];exact hi))).2.2.1
 omega
theorem Or (hR:Real σ s){N:Nat}(hs:s.ok N)(hN:N≤1000):CallF prog G 58 [.pointer (some ⟨p,0,none⟩),.int .i64 k] ((syL p σ)) (Ret fun v q'=> ∃ a' c',v= .tuple [.slice a' (U7 s k).1.length c',.int .i64 (U7 s k).2].toArray∧q'=lsH I64 2 a' c' (U7 s k).1::syL p σ):=by
 refine CallF.of func58 ntmps58 rfl (fun F cs=> ?_)
 have ho:=hR.lo;have hc:=hR.lc;have hh:=hR.lh;have hno:=hs.no;have hnc:=hs.nc;have hnh:=hs.nh
 change X _ _ _ _ _ _ _ _ (pto p (.cells [.bool true,.slice σ.ao σ.owners.length σ.co,.slice σ.ac σ.conds.length σ.cc,.slice σ.ah σ.chans.length σ.ch].toArray 176 (0,0))::lsH I64 3 σ.ao σ.co σ.owners::rsH cqs 1 191 σ.ac σ.cc σ.conds::stars (σ.conds.map (lsV 3))::rsH chs 3 180 σ.ah σ.ch σ.chans::stars (σ.chans.map fun x=>lsV 2 x.q)::F)
 rcases Decidable.em (inR k σ.chans.length) with hr|hr
 · have hr':inR k s.chans.length:=by rw [←hh];exact hr
   obtain ⟨i,rfl⟩:=Int.eq_ofNat_of_zero_le hr.1;have hi:i<σ.chans.length:=(by have:=hr.2;omega)
   refine Yz (l:=σ.chans) (by omega) (fun g e_=> ?_)
   rw [e_]
   have hlen:σ.chans[i].q.l.length≤1000:=hs.lenH hR hi hN
   have hHL:(s.chans.getD i ch0).items=σ.chans[i].q.l:=congrArg Prod.fst (hR.hl hi)
   refine xo 9 ?_;refine XO.cR call91 (Y2 clA clA) ?_;refine oo 1 ?_;refine XO.cR call90 (Tb (p:=p) clA (by omega) hi trivial) ?_
   refine ox 12 ?_;refine Wy 17 ?_;refine X.le (N9 hi) ?_;refine xo 7 ?_;refine XO.know 21 (.pointer (some ⟨g,i*3,none⟩)) rfl (by simp) ?_
   refine Vz call92 (Cb (f:=chs) (sz:=3) (ty:=180) (l:=σ.chans) (i:=i) (m:=σ.chans[i].q.l) (a:=σ.chans[i].q.a) (c:=σ.chans[i].q.c) hi (fun _=>rfl) rfl rfl (by have:=hlen;omega)) ?_
   rintro _ _ ⟨a2,c2,rfl,rfl⟩ _ e_;simp only [ca,na] at e_;subst e_
   refine ox 3 ?_
   rw [show U7 s (i:Int)=(σ.chans[i].q.l,0) from (if_pos hr').trans (by rw [←hHL];rfl)]
   refine X.le (N8 hi σ.chans[i]) ?_
   rw [show σ.chans.set i σ.chans[i]=σ.chans from List.set_getElem_self hi]
   refine Zq (lsH I64 2 a2 c2 σ.chans[i].q.l:: [pto p (.cells [.bool true,.slice σ.ao σ.owners.length σ.co,.slice σ.ac σ.conds.length σ.cc,.slice (some ⟨g,0,none⟩) σ.chans.length σ.ch].toArray 176 (0,0)),lsH I64 3 σ.ao σ.co σ.owners,rsH cqs 1 191 σ.ac σ.cc σ.conds,stars (σ.conds.map (lsV 3)),rsH chs 3 180 (some ⟨g,0,none⟩) σ.ch σ.chans,stars (σ.chans.map fun x=>lsV 2 x.q)]) func58 (Wc results58 rfl rfl) ⟨_,rfl,a2,c2,rfl,by unfold syL;rw [e_]⟩
 have hr': ¬inR k s.chans.length:=by rw [←hh];exact hr
 refine xo 9 ?_;refine XO.cR call91 (Y2 clA clA) ?_;refine oo 1 ?_;refine XO.cR call90 (Mu (p:=p) clA (by omega) hr) ?_
 refine ox 12 ?_;refine X.kt 17 ?_;refine xx 7 ?_
 rw [show U7 s k=([],4) from if_neg hr']
 refine Zq (lsH I64 2 none 0 []:: [pto p (.cells [.bool true,.slice σ.ao σ.owners.length σ.co,.slice σ.ac σ.conds.length σ.cc,.slice σ.ah σ.chans.length σ.ch].toArray 176 (0,0)),lsH I64 3 σ.ao σ.co σ.owners,rsH cqs 1 191 σ.ac σ.cc σ.conds,stars (σ.conds.map (lsV 3)),rsH chs 3 180 σ.ah σ.ch σ.chans,stars (σ.chans.map fun x=>lsV 2 x.q)]) func58 (Wc results58 rfl rfl) ⟨_,rfl,none,0,rfl,rfl⟩ ((leA).trans (Le.trans (Ze I64 2 _) leA))
end
section
variable {G:World}{q:List HP}{a b:Option Addr}{c d g p i n:Nat}{σ:SyC}{s:Sy}{k t v m at_ number:Int}
theorem Real.setC {σ:SyC}{s:Sy}(hR:Real σ s)(i:Nat)(x:SlV Int)(ac:Option Addr):Real { σ with ac:=ac,conds:=σ.conds.set i x } { s with conds:=s.conds.set i x.l } :=
 ⟨hR.o,by show (σ.conds.set i x).map _=_;rw [Mm,hR.c],hR.h⟩
theorem Real.setH {σ:SyC}{s:Sy}(hR:Real σ s)(i:Nat)(x:ChC)(y:Ch)(h:x.row=y.row)(ah:Option Addr):Real { σ with ah:=ah,chans:=σ.chans.set i x } { s with chans:=s.chans.set i y } :=
 ⟨hR.o,hR.c,by show (σ.chans.set i x).map _=(s.chans.set i y).map _;rw [Mm,Mm,hR.h,h]⟩
theorem Tj {c:Ch}{x:ChC}(h:c.row=x.row):c.items=x.q.l∧c.room=x.room∧(c.all.length:Int)=x.sent:=by
 unfold Ch.row ChC.row at h;simp only [Prod.mk.injEq] at h;exact h
theorem All_ok (hR:Real σ s){N:Nat}(hs:s.ok N)(hN:N≤1000):CallF prog G 173 [.pointer (some ⟨p,0,none⟩),.int .i64 k] ((syL p σ)) (Ret fun v q'=> ∃ σ' a' c',Real σ' (J6 s k).1∧v= .tuple [.slice a' (J6 s k).2.1.length c',.int .i64 (J6 s k).2.2].toArray∧q'=lsH I64 3 a' c' (J6 s k).2.1::syL p σ'):=by
 refine CallF.of func173 ntmps173 rfl (fun F cs=> ?_)
 have ho:=hR.lo;have hc:=hR.lc;have hh:=hR.lh;have hno:=hs.no;have hnc:=hs.nc;have hnh:=hs.nh
 change X _ _ _ _ _ _ _ _ (pto p (.cells [.bool true,.slice σ.ao σ.owners.length σ.co,.slice σ.ac σ.conds.length σ.cc,.slice σ.ah σ.chans.length σ.ch].toArray 176 (0,0))::lsH I64 3 σ.ao σ.co σ.owners::rsH cqs 1 191 σ.ac σ.cc σ.conds::stars (σ.conds.map (lsV 3))::rsH chs 3 180 σ.ah σ.ch σ.chans::stars (σ.chans.map fun x=>lsV 2 x.q)::F)
 rcases Decidable.em (inR k σ.conds.length) with hr|hr
 · have hr':inR k s.conds.length:=by rw [←hc];exact hr
   obtain ⟨i,rfl⟩:=Int.eq_ofNat_of_zero_le hr.1;have hi:i<σ.conds.length:=(by have:=hr.2;omega)
   refine Yz (l:=σ.conds) (by omega) (fun g e_=> ?_)
   rw [e_]
   have hlen:=hs.lenC hR hi hN
   refine xo 9 ?_;refine XO.cR call88 (Vt clA clA) ?_;refine oo 1 ?_;refine XO.cR call87 (Ez (p:=p) clA (by omega) hi trivial) ?_
   refine ox 12 ?_;refine Wy 18 ?_;refine X.le (H6 hi) ?_;refine xo 7 ?_;refine XO.know 22 (.pointer (some ⟨g,i*1,none⟩)) rfl (by simp) ?_
   refine Vz call89 (all_ok (f:=cqs) (sz:=1) (ty:=191) (l:=σ.conds) (i:=i) (m:=σ.conds[i].l) (a:=σ.conds[i].a) (c:=σ.conds[i].c) hi (fun _=>rfl) rfl rfl (by omega)) ?_
   rintro _ _ ⟨a2,c2,rfl,rfl⟩ _ e_;simp only [ca,na] at e_;subst e_
   refine oo 8 ?_;refine XO.ef0 (Ye (g:=g) (f:=cqs) (sz:=1) (l:=σ.conds) (u:=⟨none,0, []⟩) (n:=i) (k:=0) (j:=(i:Int)) (by simp [evp,lkp]) rfl sizeOf22 (fun _=>rfl) rfl hi rfl rfl rfl rfl Zk) ?_
   rintro _ _ ⟨rfl,rfl⟩
   refine ox 7 ?_
   rw [show J6 s (i:Int)=({ s with conds:=s.conds.set i [] },σ.conds[i].l,0) from (if_pos hr').trans (by rw [←hR.cl hi];rfl)]
   refine X.le (Ze I64 3 _) ?_;refine X.le (N7 hi (a:=none) (c:=0) (m:= [])) ?_
   refine Zq (lsH I64 3 a2 c2 σ.conds[i].l:: [pto p (.cells [.bool true,.slice σ.ao σ.owners.length σ.co,.slice (some ⟨g,0,none⟩) σ.conds.length σ.cc,.slice σ.ah σ.chans.length σ.ch].toArray 176 (0,0)),lsH I64 3 σ.ao σ.co σ.owners,rsH cqs 1 191 (some ⟨g,0,none⟩) σ.cc (σ.conds.set i ⟨none,0, []⟩),stars ((σ.conds.set i ⟨none,0, []⟩).map (lsV 3)),rsH chs 3 180 σ.ah σ.ch σ.chans,stars (σ.chans.map fun x=>lsV 2 x.q)]) func173 (Wc results173 rfl rfl) ⟨_,rfl, { σ with ac:=(some ⟨g,0,none⟩),conds:=σ.conds.set i ⟨none,0, []⟩ },a2,c2,hR.setC i ⟨none,0, []⟩ _,rfl,by unfold syL;simp⟩
 have hr': ¬inR k s.conds.length:=by rw [←hc];exact hr
 refine xo 9 ?_;refine XO.cR call88 (Vt clA clA) ?_;refine oo 1 ?_;refine XO.cR call87 (Bd (p:=p) clA (by omega) hr) ?_
 refine ox 12 ?_;refine X.kt 18 ?_;refine xx 7 ?_
 rw [show J6 s k=(s, [],4) from if_neg hr']
 refine Zq (lsH I64 3 none 0 []:: [pto p (.cells [.bool true,.slice σ.ao σ.owners.length σ.co,.slice σ.ac σ.conds.length σ.cc,.slice σ.ah σ.chans.length σ.ch].toArray 176 (0,0)),lsH I64 3 σ.ao σ.co σ.owners,rsH cqs 1 191 σ.ac σ.cc σ.conds,stars (σ.conds.map (lsV 3)),rsH chs 3 180 σ.ah σ.ch σ.chans,stars (σ.chans.map fun x=>lsV 2 x.q)]) func173 (Wc results173 rfl rfl) ⟨_,rfl,σ,none,0,hR,rfl,rfl⟩ ((leA).trans (Le.trans (Ze I64 3 _) leA))
theorem Oe (hR:Real σ s){N:Nat}(hs:s.ok N)(hN:N≤1000):CallF prog G 172 [.pointer (some ⟨p,0,none⟩),.int .i64 k] ((syL p σ)) (Ret fun v q'=> ∃ σ',Real σ' (Yo s k).1∧v= .tuple [.int .i64 (max (Yo s k).2.1 0),.bool (decide (0≤(Yo s k).2.1)),.int .i64 (Yo s k).2.2].toArray∧q'=syL p σ'):=by
 refine CallF.of func172 ntmps172 rfl (fun F cs=> ?_)
 have ho:=hR.lo;have hc:=hR.lc;have hh:=hR.lh;have hno:=hs.no;have hnc:=hs.nc;have hnh:=hs.nh
 change X _ _ _ _ _ _ _ _ (pto p (.cells [.bool true,.slice σ.ao σ.owners.length σ.co,.slice σ.ac σ.conds.length σ.cc,.slice σ.ah σ.chans.length σ.ch].toArray 176 (0,0))::lsH I64 3 σ.ao σ.co σ.owners::rsH cqs 1 191 σ.ac σ.cc σ.conds::stars (σ.conds.map (lsV 3))::rsH chs 3 180 σ.ah σ.ch σ.chans::stars (σ.chans.map fun x=>lsV 2 x.q)::F)
 rcases Decidable.em (inR k σ.conds.length) with hr|hr
 · have hr':inR k s.conds.length:=by rw [←hc];exact hr
   obtain ⟨i,rfl⟩:=Int.eq_ofNat_of_zero_le hr.1;have hi:i<σ.conds.length:=(by have:=hr.2;omega)
   refine Yz (l:=σ.conds) (by omega) (fun g e_=> ?_)
   rw [e_]
   have hlen:=hs.lenC hR hi hN;have hcl:=hR.cl hi
   refine xo 10 ?_;refine XO.cR call88 (Vt clA clA) ?_;refine oo 1 ?_;refine XO.cR call87 (Ez (p:=p) clA (by omega) hi trivial) ?_
   refine ox 12 ?_;refine Wy 20 ?_;refine X.le (H6 hi) ?_;refine xo 7 ?_
   rcases Decidable.em (σ.conds[i].l= []) with he|he
   · refine XO.know 25 (.pointer (some ⟨g,i*1,none⟩)) rfl (by simp) ?_
     refine Vz call196 (take_no (f:=cqs) (sz:=1) (ty:=191) (l:=σ.conds) (i:=i) (m:=σ.conds[i].l) (a:=σ.conds[i].a) (c:=σ.conds[i].c) hi (fun _=>rfl) rfl rfl (by omega) he) ?_
     rintro _ _ ⟨rfl,rfl⟩ _ e_;simp only [ca,na] at e_;subst e_
     refine ox 14 ?_;refine X.le (N7 hi (a:=σ.conds[i].a) (c:=σ.conds[i].c) (m:=σ.conds[i].l)) ?_
     rw [show σ.conds.set i ⟨σ.conds[i].a,σ.conds[i].c,σ.conds[i].l⟩=σ.conds from List.set_getElem_self hi]
     rw [show Yo s (i:Int)=(s, -1,0) from (if_pos hr').trans (if_pos (hcl.trans he))]
     refine Zq [pto p (.cells [.bool true,.slice σ.ao σ.owners.length σ.co,.slice (some ⟨g,0,none⟩) σ.conds.length σ.cc,.slice σ.ah σ.chans.length σ.ch].toArray 176 (0,0)),lsH I64 3 σ.ao σ.co σ.owners,rsH cqs 1 191 (some ⟨g,0,none⟩) σ.cc σ.conds,stars (σ.conds.map (lsV 3)),rsH chs 3 180 σ.ah σ.ch σ.chans,stars (σ.chans.map fun x=>lsV 2 x.q)] func172 (I1 results172 rfl rfl rfl) ⟨_,rfl,σ,hR,rfl,by unfold syL;rw [e_]⟩
   refine XO.know 25 (.pointer (some ⟨g,i*1,none⟩)) rfl (by simp) ?_
   refine Vz call196 (take_ok (f:=cqs) (sz:=1) (ty:=191) (l:=σ.conds) (i:=i) (m:=σ.conds[i].l) (a:=σ.conds[i].a) (c:=σ.conds[i].c) (u:=(fun a c=>⟨a,c,σ.conds[i].l.drop 1⟩)) hi (fun _=>rfl) rfl rfl (by omega) he (fun _ _=>rfl)) ?_
   rintro _ _ ⟨a2,c2,rfl,rfl⟩ _ e_;simp only [ca,na] at e_;subst e_
   refine ox 14 ?_;refine X.le (N7 hi (a:=a2) (c:=c2) (m:=σ.conds[i].l.drop 1)) ?_
   have h0:0≤σ.conds[i].l.headD 0:=by
    have h1:=hs.c σ.conds[i].l (by rw [←hcl];exact Y7 (by rw [←hc];exact hi))
    cases hL:σ.conds[i].l with
    |nil=>exact absurd hL he
    |cons x r=>rw [hL] at h1;exact (h1.2 x (List.mem_cons_self ..)).1
   rw [show Yo s (i:Int)=({ s with conds:=s.conds.set i (σ.conds[i].l.drop 1) },σ.conds[i].l.headD 0,0) from (if_pos hr').trans ((if_neg (fun e=>he (hcl.symm.trans e))).trans (by rw [←hcl];rfl))]
   refine Zq [pto p (.cells [.bool true,.slice σ.ao σ.owners.length σ.co,.slice (some ⟨g,0,none⟩) σ.conds.length σ.cc,.slice σ.ah σ.chans.length σ.ch].toArray 176 (0,0)),lsH I64 3 σ.ao σ.co σ.owners,rsH cqs 1 191 (some ⟨g,0,none⟩) σ.cc (σ.conds.set i ⟨a2,c2,σ.conds[i].l.drop 1⟩),stars ((σ.conds.set i ⟨a2,c2,σ.conds[i].l.drop 1⟩).map (lsV 3)),rsH chs 3 180 σ.ah σ.ch σ.chans,stars (σ.chans.map fun x=>lsV 2 x.q)] func172 (I1 results172 rfl rfl rfl) ⟨_,rfl, { σ with ac:=(some ⟨g,0,none⟩),conds:=σ.conds.set i ⟨a2,c2,σ.conds[i].l.drop 1⟩ },hR.setC i ⟨a2,c2,σ.conds[i].l.drop 1⟩ _,by dsimp only;rw [Int.max_eq_left h0,decide_eq_true h0],by unfold syL;simp⟩
 have hr': ¬inR k s.conds.length:=by rw [←hc];exact hr
 refine xo 10 ?_;refine XO.cR call88 (Vt clA clA) ?_;refine oo 1 ?_;refine XO.cR call87 (Bd (p:=p) clA (by omega) hr) ?_
 refine ox 12 ?_;refine X.kt 20 ?_;refine xx 8 ?_
 rw [show Yo s k=(s, -1,4) from if_neg hr']
 refine Zq [pto p (.cells [.bool true,.slice σ.ao σ.owners.length σ.co,.slice σ.ac σ.conds.length σ.cc,.slice σ.ah σ.chans.length σ.ch].toArray 176 (0,0)),lsH I64 3 σ.ao σ.co σ.owners,rsH cqs 1 191 σ.ac σ.cc σ.conds,stars (σ.conds.map (lsV 3)),rsH chs 3 180 σ.ah σ.ch σ.chans,stars (σ.chans.map fun x=>lsV 2 x.q)] func172 (I1 results172 rfl rfl rfl) ⟨_,rfl,σ,hR,rfl,rfl⟩
theorem Room_ok (hR:Real σ s){N:Nat}(hs:s.ok N)(hN:N≤1000):CallF prog G 125 [.pointer (some ⟨p,0,none⟩),.int .i64 k] ((syL p σ)) (Ret fun v q'=>v= .tuple [.int .i64 (R0 s k).1,.int .i64 (R0 s k).2].toArray∧q'=syL p σ):=by
 refine CallF.of func125 ntmps125 rfl (fun F cs=> ?_)
 have ho:=hR.lo;have hc:=hR.lc;have hh:=hR.lh;have hno:=hs.no;have hnc:=hs.nc;have hnh:=hs.nh
 change X _ _ _ _ _ _ _ _ (pto p (.cells [.bool true,.slice σ.ao σ.owners.length σ.co,.slice σ.ac σ.conds.length σ.cc,.slice σ.ah σ.chans.length σ.ch].toArray 176 (0,0))::lsH I64 3 σ.ao σ.co σ.owners::rsH cqs 1 191 σ.ac σ.cc σ.conds::stars (σ.conds.map (lsV 3))::rsH chs 3 180 σ.ah σ.ch σ.chans::stars (σ.chans.map fun x=>lsV 2 x.q)::F)
 rcases Decidable.em (inR k σ.chans.length) with hr|hr
 · have hr':inR k s.chans.length:=by rw [←hh];exact hr
   obtain ⟨i,rfl⟩:=Int.eq_ofNat_of_zero_le hr.1;have hi:i<σ.chans.length:=(by have:=hr.2;omega)
   refine Yz (l:=σ.chans) (by omega) (fun g e_=> ?_)
   rw [e_]
   refine xo 9 ?_;refine XO.cR call91 (Y2 clA clA) ?_;refine oo 1 ?_;refine XO.cR call90 (Tb (p:=p) clA (by omega) hi trivial) ?_
   refine ox 12 ?_;refine Wy 17 ?_;obtain ⟨r1,r2,r3⟩:=Tj (hR.hl hi)
   have hsh:Sees (pto p (.cells [.bool true,.slice σ.ao σ.owners.length σ.co,.slice σ.ac σ.conds.length σ.cc,.slice (some ⟨g,0,none⟩) σ.chans.length σ.ch].toArray 176 (0,0))::lsH I64 3 σ.ao σ.co σ.owners::rsH cqs 1 191 σ.ac σ.cc σ.conds::stars (σ.conds.map (lsV 3))::rsH chs 3 180 (some ⟨g,0,none⟩) σ.ch σ.chans::stars (σ.chans.map fun x=>lsV 2 x.q)::F) (some ⟨g,0,none⟩) (σ.chans.flatMap chs):=(Sees.rsH _).le leA
   refine xo 7 ?_;refine ld ?_ (hc:=(Cl.at (k:=1) hsh (fun _=>rfl) (List.getElem?_eq_getElem hi) (by omega) rfl rfl))
   refine ox 3 ?_
   rw [show R0 s (i:Int)=(σ.chans[i].room,0) from (if_pos hr').trans (by rw [←r2];rfl)]
   refine Zq [pto p (.cells [.bool true,.slice σ.ao σ.owners.length σ.co,.slice σ.ac σ.conds.length σ.cc,.slice (some ⟨g,0,none⟩) σ.chans.length σ.ch].toArray 176 (0,0)),lsH I64 3 σ.ao σ.co σ.owners,rsH cqs 1 191 σ.ac σ.cc σ.conds,stars (σ.conds.map (lsV 3)),rsH chs 3 180 (some ⟨g,0,none⟩) σ.ch σ.chans,stars (σ.chans.map fun x=>lsV 2 x.q)] func125 (Wc results125 rfl rfl) ⟨_,rfl,rfl,by unfold syL;rw [e_]⟩
 have hr': ¬inR k s.chans.length:=by rw [←hh];exact hr
 refine xo 9 ?_;refine XO.cR call91 (Y2 clA clA) ?_;refine oo 1 ?_;refine XO.cR call90 (Mu (p:=p) clA (by omega) hr) ?_
 refine ox 12 ?_;refine X.kt 17 ?_;refine xx 7 ?_
 rw [show R0 s k=(0,4) from if_neg hr']
 refine Zq [pto p (.cells [.bool true,.slice σ.ao σ.owners.length σ.co,.slice σ.ac σ.conds.length σ.cc,.slice σ.ah σ.chans.length σ.ch].toArray 176 (0,0)),lsH I64 3 σ.ao σ.co σ.owners,rsH cqs 1 191 σ.ac σ.cc σ.conds,stars (σ.conds.map (lsV 3)),rsH chs 3 180 σ.ah σ.ch σ.chans,stars (σ.chans.map fun x=>lsV 2 x.q)] func125 (Wc results125 rfl rfl) ⟨_,rfl,rfl,rfl⟩
theorem Recv_ok (hR:Real σ s){N:Nat}(hs:s.ok N)(hN:N≤1000):CallF prog G 175 [.pointer (some ⟨p,0,none⟩),.int .i64 k] ((syL p σ)) (Ret fun v q'=> ∃ σ',Real σ' (W9 s k).1∧v= .tuple [.int .i64 (W9 s k).2.1,.int .i64 (max (W9 s k).2.2.1 0),.bool (decide (0≤(W9 s k).2.2.1)),.int .i64 (W9 s k).2.2.2].toArray∧q'=syL p σ'):=by
 refine CallF.of func175 ntmps175 rfl (fun F cs=> ?_)
 have ho:=hR.lo;have hc:=hR.lc;have hh:=hR.lh;have hno:=hs.no;have hnc:=hs.nc;have hnh:=hs.nh
 change X _ _ _ _ _ _ _ _ (pto p (.cells [.bool true,.slice σ.ao σ.owners.length σ.co,.slice σ.ac σ.conds.length σ.cc,.slice σ.ah σ.chans.length σ.ch].toArray 176 (0,0))::lsH I64 3 σ.ao σ.co σ.owners::rsH cqs 1 191 σ.ac σ.cc σ.conds::stars (σ.conds.map (lsV 3))::rsH chs 3 180 σ.ah σ.ch σ.chans::stars (σ.chans.map fun x=>lsV 2 x.q)::F)
 rcases Decidable.em (inR k σ.chans.length) with hr|hr
 · have hr':inR k s.chans.length:=by rw [←hh];exact hr
   obtain ⟨i,rfl⟩:=Int.eq_ofNat_of_zero_le hr.1;have hi:i<σ.chans.length:=(by have:=hr.2;omega)
   refine Yz (l:=σ.chans) (by omega) (fun g e_=> ?_)
   rw [e_]
   have hlen:=hs.lenH hR hi hN
   obtain ⟨r1,r2,r3⟩:=Tj (hR.hl hi)
   have hch:=hs.h _ (Y7 (d:=ch0) (show i<s.chans.length by rw [←hh];exact hi));obtain ⟨⟨hr1,hr2⟩,htk,hal,hit,hva⟩:=hch
   have hdl:(s.chans.getD i ch0).all.drop (s.chans.getD i ch0).taken=σ.chans[i].q.l:=r1;have hdl2:=congrArg List.length hdl;rw [List.length_drop] at hdl2;have hit2:(σ.chans[i].q.l.length:Int)≤σ.chans[i].room:=by rw [←r1,←r2];exact hit
   refine xo 11 ?_;refine XO.cR call91 (Y2 clA clA) ?_;refine oo 1 ?_;refine XO.cR call90 (Tb (p:=p) clA (by omega) hi trivial) ?_
   refine ox 12 ?_;refine Wy 22 ?_
   have hsh:Sees (pto p (.cells [.bool true,.slice σ.ao σ.owners.length σ.co,.slice σ.ac σ.conds.length σ.cc,.slice (some ⟨g,0,none⟩) σ.chans.length σ.ch].toArray 176 (0,0))::lsH I64 3 σ.ao σ.co σ.owners::rsH cqs 1 191 σ.ac σ.cc σ.conds::stars (σ.conds.map (lsV 3))::rsH chs 3 180 (some ⟨g,0,none⟩) σ.ch σ.chans::stars (σ.chans.map fun x=>lsV 2 x.q)::F) (some ⟨g,0,none⟩) (σ.chans.flatMap chs):=(Sees.rsH _).le leA
   refine xx 3 ?_;refine drw ?_;refine dd [0,1,2] ?_;refine ldD 3 ?_ (hc:=(by first|exact (Cl.at (k:=2) hsh (fun _=>rfl) (List.getElem?_eq_getElem hi) (by omega) rfl rfl)|exact (Cl.at (k:=0) hsh (fun _=>rfl) (List.getElem?_eq_getElem hi) (by omega) rfl rfl)))
   refine dd [4,5,6,7] ?_;refine ldD 8 ?_ (hc:=(by first|exact (Cl.at (k:=2) hsh (fun _=>rfl) (List.getElem?_eq_getElem hi) (by omega) rfl rfl)|exact (Cl.at (k:=0) hsh (fun _=>rfl) (List.getElem?_eq_getElem hi) (by omega) rfl rfl)))
   refine dd [9,10,11] ?_;refine XD.nil ?_;refine xo 5 ?_;refine XO.le (N9 hi) ?_
   rcases Decidable.em (σ.chans[i].q.l= []) with he|he
   · refine XO.know 38 (.pointer (some ⟨g,i*3,none⟩)) rfl (by simp) ?_
     refine Vz call198 (Id (f:=chs) (sz:=3) (ty:=180) (l:=σ.chans) (i:=i) (m:=σ.chans[i].q.l) (a:=σ.chans[i].q.a) (c:=σ.chans[i].q.c) hi (fun _=>rfl) rfl rfl (by omega) he) ?_
     rintro _ _ ⟨rfl,rfl⟩ _ e_;simp only [ca,na] at e_;subst e_
     refine oo 10 ?_;refine Zt (Pu.not rfl) ?_;refine ox 1 ?_;refine X.kt 43 ?_;refine xx 8 ?_;refine X.le (N8 hi σ.chans[i]) ?_
     rw [show σ.chans.set i σ.chans[i]=σ.chans from List.set_getElem_self hi]
     rw [show W9 s (i:Int)=(s,0, -1,0) from (if_pos hr').trans (if_pos (r1.trans he))]
     refine Zq [pto p (.cells [.bool true,.slice σ.ao σ.owners.length σ.co,.slice σ.ac σ.conds.length σ.cc,.slice (some ⟨g,0,none⟩) σ.chans.length σ.ch].toArray 176 (0,0)),lsH I64 3 σ.ao σ.co σ.owners,rsH cqs 1 191 σ.ac σ.cc σ.conds,stars (σ.conds.map (lsV 3)),rsH chs 3 180 (some ⟨g,0,none⟩) σ.ch σ.chans,stars (σ.chans.map fun x=>lsV 2 x.q)] func175 (Dr results175 (ResOk.tmp rfl (ResOk.tmp rfl (ResOk.tmp rfl (ResOk.tmp rfl ResOk.nil))))) ⟨_,rfl,σ,hR,rfl,by unfold syL;rw [e_]⟩
   refine XO.know 38 (.pointer (some ⟨g,i*3,none⟩)) rfl (by simp) ?_
   refine Vz call198 (Iu (f:=chs) (sz:=3) (ty:=180) (l:=σ.chans) (i:=i) (m:=σ.chans[i].q.l) (a:=σ.chans[i].q.a) (c:=σ.chans[i].q.c) (u:=(fun a c=>⟨⟨a,c,σ.chans[i].q.l.drop 1⟩,σ.chans[i].room,σ.chans[i].sent⟩)) hi (fun _=>rfl) rfl rfl (by omega) he (fun _ _=>rfl)) ?_
   rintro _ _ ⟨a2,c2,rfl,rfl⟩ _ e_;simp only [ca,na] at e_;subst e_
   refine oo 10 ?_;refine Zt (Pu.not rfl) ?_;refine ox 1 ?_;refine kx 43 11 ?_;refine X.le (N8 hi (⟨⟨a2,c2,σ.chans[i].q.l.drop 1⟩,σ.chans[i].room,σ.chans[i].sent⟩:ChC)) ?_
   have hpos:0<σ.chans[i].q.l.length:=List.length_pos_iff.2 he
   have hhd:(s.chans.getD i ch0).all.getD (s.chans.getD i ch0).taken 0=σ.chans[i].q.l.headD 0:=by rw [←hdl,List.headD_eq_head?_getD,List.head?_drop,List.getD_eq_getElem?_getD]
   rw [show W9 s (i:Int)=({ s with chans:=s.chans.set i { s.chans.getD i ch0 with taken:=(s.chans.getD i ch0).taken+1 } },σ.chans[i].q.l.headD 0,((s.chans.getD i ch0).taken:Int),0) from (if_pos hr').trans ((if_neg (fun e=>he (r1.symm.trans e))).trans (by rw [←hhd];rfl))]
   refine Zq [pto p (.cells [.bool true,.slice σ.ao σ.owners.length σ.co,.slice σ.ac σ.conds.length σ.cc,.slice (some ⟨g,0,none⟩) σ.chans.length σ.ch].toArray 176 (0,0)),lsH I64 3 σ.ao σ.co σ.owners,rsH cqs 1 191 σ.ac σ.cc σ.conds,stars (σ.conds.map (lsV 3)),rsH chs 3 180 (some ⟨g,0,none⟩) σ.ch (σ.chans.set i (⟨⟨a2,c2,σ.chans[i].q.l.drop 1⟩,σ.chans[i].room,σ.chans[i].sent⟩:ChC)),stars ((σ.chans.set i (⟨⟨a2,c2,σ.chans[i].q.l.drop 1⟩,σ.chans[i].room,σ.chans[i].sent⟩:ChC)).map fun x=>lsV 2 x.q)] func175 (Dr results175 (ResOk.tmp rfl (ResOk.tmp rfl (ResOk.tmp rfl (ResOk.tmp rfl ResOk.nil))))) ⟨_,rfl, { σ with ah:=(some ⟨g,0,none⟩),chans:=σ.chans.set i (⟨⟨a2,c2,σ.chans[i].q.l.drop 1⟩,σ.chans[i].room,σ.chans[i].sent⟩:ChC) },hR.setH i (⟨⟨a2,c2,σ.chans[i].q.l.drop 1⟩,σ.chans[i].room,σ.chans[i].sent⟩:ChC) _ (by unfold Ch.row ChC.row Ch.items;dsimp only;rw [←r2,←r3,←hdl,List.drop_drop]) _,by dsimp only;rw [Int.max_eq_left (by omega),decide_eq_true (by omega),show ((σ.chans[i]).sent - (σ.chans[i].q.l.length:Int))=((s.chans.getD i ch0).taken:Int) by omega],by unfold syL;simp⟩
 have hr': ¬inR k s.chans.length:=by rw [←hh];exact hr
 refine xo 11 ?_;refine XO.cR call91 (Y2 clA clA) ?_;refine oo 1 ?_;refine XO.cR call90 (Mu (p:=p) clA (by omega) hr) ?_
 refine ox 12 ?_;refine X.kt 22 ?_;refine xx 9 ?_
 rw [show W9 s k=(s,0, -1,4) from if_neg hr']
 refine Zq [pto p (.cells [.bool true,.slice σ.ao σ.owners.length σ.co,.slice σ.ac σ.conds.length σ.cc,.slice σ.ah σ.chans.length σ.ch].toArray 176 (0,0)),lsH I64 3 σ.ao σ.co σ.owners,rsH cqs 1 191 σ.ac σ.cc σ.conds,stars (σ.conds.map (lsV 3)),rsH chs 3 180 σ.ah σ.ch σ.chans,stars (σ.chans.map fun x=>lsV 2 x.q)] func175 (Dr results175 (ResOk.tmp rfl (ResOk.tmp rfl (ResOk.tmp rfl (ResOk.tmp rfl ResOk.nil))))) ⟨_,rfl,σ,hR,rfl,rfl⟩
theorem Send_ok (hR:Real σ s){N:Nat}(hs:s.ok N)(hN:N≤1000):CallF prog G 174 [.pointer (some ⟨p,0,none⟩),.int .i64 k,.int .i64 t] ((syL p σ)) (Ret fun v q'=> ∃ σ',Real σ' (Vx s k t).1∧v= .tuple [.int .i64 (max (Vx s k t).2.1 0),.bool (decide (0≤(Vx s k t).2.1)),.int .i64 (Vx s k t).2.2].toArray∧q'=syL p σ'):=by
 refine CallF.of func174 ntmps174 rfl (fun F cs=> ?_)
 have ho:=hR.lo;have hc:=hR.lc;have hh:=hR.lh;have hno:=hs.no;have hnc:=hs.nc;have hnh:=hs.nh
 change X _ _ _ _ _ _ _ _ (pto p (.cells [.bool true,.slice σ.ao σ.owners.length σ.co,.slice σ.ac σ.conds.length σ.cc,.slice σ.ah σ.chans.length σ.ch].toArray 176 (0,0))::lsH I64 3 σ.ao σ.co σ.owners::rsH cqs 1 191 σ.ac σ.cc σ.conds::stars (σ.conds.map (lsV 3))::rsH chs 3 180 σ.ah σ.ch σ.chans::stars (σ.chans.map fun x=>lsV 2 x.q)::F)
 rcases Decidable.em (inR k σ.chans.length) with hr|hr
 focus
  have hr':inR k s.chans.length:=by rw [←hh];exact hr
  obtain ⟨i,rfl⟩:=Int.eq_ofNat_of_zero_le hr.1;have hi:i<σ.chans.length:=(by have:=hr.2;omega)
  rcases Decidable.em (val t) with hg|hg
  · refine Yz (l:=σ.chans) (by omega) (fun g e_=> ?_)
    rw [e_]
    have hlen:=hs.lenH hR hi hN
    obtain ⟨r1,r2,r3⟩:=Tj (hR.hl hi)
    have hch:=hs.h _ (Y7 (d:=ch0) (show i<s.chans.length by rw [←hh];exact hi));obtain ⟨⟨hr1,hr2⟩,htk,hal,hit,hva⟩:=hch
    have hdl:(s.chans.getD i ch0).all.drop (s.chans.getD i ch0).taken=σ.chans[i].q.l:=r1;have hdl2:=congrArg List.length hdl;rw [List.length_drop] at hdl2;have hit2:(σ.chans[i].q.l.length:Int)≤σ.chans[i].room:=by rw [←r1,←r2];exact hit
    refine xo 10 ?_;refine XO.cR call91 (Y2 clA clA) ?_;refine oo 2 ?_;refine XO.cR call90 (Og (p:=p) clA (by omega) hi hg) ?_
    refine ox 8 ?_;refine drw ?_;refine dd [0,1,2] ?_;refine XD.kf 22 ?_
    have hsh:Sees (pto p (.cells [.bool true,.slice σ.ao σ.owners.length σ.co,.slice σ.ac σ.conds.length σ.cc,.slice (some ⟨g,0,none⟩) σ.chans.length σ.ch].toArray 176 (0,0))::lsH I64 3 σ.ao σ.co σ.owners::rsH cqs 1 191 σ.ac σ.cc σ.conds::stars (σ.conds.map (lsV 3))::rsH chs 3 180 (some ⟨g,0,none⟩) σ.ch σ.chans::stars (σ.chans.map fun x=>lsV 2 x.q)::F) (some ⟨g,0,none⟩) (σ.chans.flatMap chs):=(Sees.rsH _).le leA
    refine dd [3,4,5,6] ?_;refine ldD 7 ?_ (hc:=(by first|exact (Cl.at (k:=1) hsh (fun _=>rfl) (List.getElem?_eq_getElem hi) (by omega) rfl rfl)|exact (Cl.at (k:=0) hsh (fun _=>rfl) (List.getElem?_eq_getElem hi) (by omega) rfl rfl)))
    refine dd [8,9,10,11] ?_;refine ldD 12 ?_ (hc:=(by first|exact (Cl.at (k:=1) hsh (fun _=>rfl) (List.getElem?_eq_getElem hi) (by omega) rfl rfl)|exact (Cl.at (k:=0) hsh (fun _=>rfl) (List.getElem?_eq_getElem hi) (by omega) rfl rfl)))
    refine dd [13,14] ?_;refine XD.nil ?_
    rcases Decidable.em ((σ.chans[i].q.l.length:Int)<σ.chans[i].room) with hx|hx
    · refine X.know 34 (.bool false) rfl (congrArg Value.bool (by simp;omega)) ?_
      refine X.le (N9 hi) ?_;refine xo 8 ?_;refine XO.know 38 (.pointer (some ⟨g,i*3,none⟩)) rfl (by simp) ?_
      refine Vz call197 (put64_ok (t:=t) (f:=chs) (sz:=3) (ty:=180) (l:=σ.chans) (i:=i) (m:=σ.chans[i].q.l) (a:=σ.chans[i].q.a) (c:=σ.chans[i].q.c) (u:=(fun a c=>⟨⟨a,c,σ.chans[i].q.l++ [t]⟩,σ.chans[i].room,σ.chans[i].sent⟩)) hi (fun _=>rfl) rfl rfl (by omega) (fun _ _=>rfl)) ?_
      rintro _ _ ⟨a2,c2,rfl⟩ _ e_;simp only [ca,na] at e_;subst e_
      have hi2:i<(σ.chans.set i (⟨⟨a2,c2,σ.chans[i].q.l++ [t]⟩,σ.chans[i].room,σ.chans[i].sent⟩:ChC)).length:=by rw [List.length_set];exact hi
      have hsg:(σ.chans.set i (⟨⟨a2,c2,σ.chans[i].q.l++ [t]⟩,σ.chans[i].room,σ.chans[i].sent⟩:ChC))[i]'hi2=(⟨⟨a2,c2,σ.chans[i].q.l++ [t]⟩,σ.chans[i].room,σ.chans[i].sent⟩:ChC):=List.getElem_set_self _
      have hs2:Sees (rsH chs 3 180 (some ⟨g,0,none⟩) σ.ch (σ.chans.set i (⟨⟨a2,c2,σ.chans[i].q.l++ [t]⟩,σ.chans[i].room,σ.chans[i].sent⟩:ChC))::F) (some ⟨g,0,none⟩) ((σ.chans.set i (⟨⟨a2,c2,σ.chans[i].q.l++ [t]⟩,σ.chans[i].room,σ.chans[i].sent⟩:ChC)).flatMap chs):=Sees.rsH _
      have hs3: ∀ q,Le q (rsH chs 3 180 (some ⟨g,0,none⟩) σ.ch (σ.chans.set i (⟨⟨a2,c2,σ.chans[i].q.l++ [t]⟩,σ.chans[i].room,σ.chans[i].sent⟩:ChC))::F)→Sees q (some ⟨g,0,none⟩) ((σ.chans.set i (⟨⟨a2,c2,σ.chans[i].q.l++ [t]⟩,σ.chans[i].room,σ.chans[i].sent⟩:ChC)).flatMap chs):=fun q h=>hs2.le h
      refine oo 6 ?_;refine ld ?_ (hc:=(show Cl _ _ (.int .i64 σ.chans[i].sent) from Cl.at (k:=2) (y:=(⟨⟨a2,c2,σ.chans[i].q.l++ [t]⟩,σ.chans[i].room,σ.chans[i].sent⟩:ChC)) (hs3 _ leA) (fun _=>rfl) (by rw [List.getElem?_eq_getElem hi2,hsg]) (by omega) rfl rfl))
      refine oo 3 ?_;refine XO.ef0 (Ye (g:=g) (f:=chs) (sz:=3) (l:=σ.chans.set i (⟨⟨a2,c2,σ.chans[i].q.l++ [t]⟩,σ.chans[i].room,σ.chans[i].sent⟩:ChC)) (u:=(⟨⟨a2,c2,σ.chans[i].q.l++ [t]⟩,σ.chans[i].room,σ.chans[i].sent+1⟩:ChC)) (n:=i) (k:=2) (j:=(i:Int)) (by simp [evp,lkp]) rfl sizeOf3 (fun _=>rfl) rfl hi2 rfl (by rw [hsg];rfl) rfl rfl Zk) ?_
      rintro _ _ ⟨rfl,rfl⟩
      rw [List.set_set]
      have hs4: ∀ q,Le q (rsH chs 3 180 (some ⟨g,0,none⟩) σ.ch (σ.chans.set i (⟨⟨a2,c2,σ.chans[i].q.l++ [t]⟩,σ.chans[i].room,σ.chans[i].sent+1⟩:ChC))::F)→Sees q (some ⟨g,0,none⟩) ((σ.chans.set i (⟨⟨a2,c2,σ.chans[i].q.l++ [t]⟩,σ.chans[i].room,σ.chans[i].sent+1⟩:ChC)).flatMap chs):=fun q h=>(Sees.rsH F).le h
      refine oo 6 ?_;refine ld ?_ (hc:=(show Cl _ _ (.int .i64 (σ.chans[i].sent+1)) from Cl.at (k:=2) (y:=(⟨⟨a2,c2,σ.chans[i].q.l++ [t]⟩,σ.chans[i].room,σ.chans[i].sent+1⟩:ChC)) (hs4 _ leA) (fun _=>rfl) (by rw [List.getElem?_set_self hi]) (by omega) rfl rfl))
      refine ox 5 ?_;refine X.le (N8 hi (⟨⟨a2,c2,σ.chans[i].q.l++ [t]⟩,σ.chans[i].room,σ.chans[i].sent+1⟩:ChC)) ?_
      rw [show Vx s (i:Int) t=({ s with chans:=s.chans.set i { s.chans.getD i ch0 with all:=(s.chans.getD i ch0).all++ [t] } },((s.chans.getD i ch0).all.length:Int),0) from ((if_pos hr').trans ((if_pos hg).trans ((if_pos (by rw [show (s.chans.getD (Int.toNat ((i:Nat):Int)) ch0).items=_ from r1,show (s.chans.getD (Int.toNat ((i:Nat):Int)) ch0).room=_ from r2];exact hx)).trans rfl)))]
      refine Zq [pto p (.cells [.bool true,.slice σ.ao σ.owners.length σ.co,.slice σ.ac σ.conds.length σ.cc,.slice (some ⟨g,0,none⟩) σ.chans.length σ.ch].toArray 176 (0,0)),lsH I64 3 σ.ao σ.co σ.owners,rsH cqs 1 191 σ.ac σ.cc σ.conds,stars (σ.conds.map (lsV 3)),rsH chs 3 180 (some ⟨g,0,none⟩) σ.ch (σ.chans.set i (⟨⟨a2,c2,σ.chans[i].q.l++ [t]⟩,σ.chans[i].room,σ.chans[i].sent+1⟩:ChC)),stars ((σ.chans.set i (⟨⟨a2,c2,σ.chans[i].q.l++ [t]⟩,σ.chans[i].room,σ.chans[i].sent+1⟩:ChC)).map fun x=>lsV 2 x.q)] func174 (I1 results174 rfl rfl rfl) ⟨_,rfl, { σ with ah:=(some ⟨g,0,none⟩),chans:=σ.chans.set i (⟨⟨a2,c2,σ.chans[i].q.l++ [t]⟩,σ.chans[i].room,σ.chans[i].sent+1⟩:ChC) },hR.setH i (⟨⟨a2,c2,σ.chans[i].q.l++ [t]⟩,σ.chans[i].room,σ.chans[i].sent+1⟩:ChC) _ (by unfold Ch.row ChC.row Ch.items;dsimp only;rw [←r2,←r3,←hdl,List.drop_append_of_le_length htk,List.length_append];rfl) _,by dsimp only;rw [Int.max_eq_left (by omega),decide_eq_true (by omega),show σ.chans[i].sent+1 - 1=((s.chans.getD i ch0).all.length:Int) by omega],by unfold syL;simp⟩
    refine X.know 34 (.bool true) rfl (congrArg Value.bool (by simp;omega)) ?_
    refine xx 8 ?_
    rw [show Vx s (i:Int) t=(s, -1,0) from ((if_pos hr').trans ((if_pos hg).trans (if_neg (by rw [show (s.chans.getD (Int.toNat ((i:Nat):Int)) ch0).items=_ from r1,show (s.chans.getD (Int.toNat ((i:Nat):Int)) ch0).room=_ from r2];exact hx))))]
    refine Zq [pto p (.cells [.bool true,.slice σ.ao σ.owners.length σ.co,.slice σ.ac σ.conds.length σ.cc,.slice (some ⟨g,0,none⟩) σ.chans.length σ.ch].toArray 176 (0,0)),lsH I64 3 σ.ao σ.co σ.owners,rsH cqs 1 191 σ.ac σ.cc σ.conds,stars (σ.conds.map (lsV 3)),rsH chs 3 180 (some ⟨g,0,none⟩) σ.ch σ.chans,stars (σ.chans.map fun x=>lsV 2 x.q)] func174 (I1 results174 rfl rfl rfl) ⟨_,rfl,σ,hR,rfl,by unfold syL;rw [e_]⟩
  refine xo 10 ?_;refine XO.cR call91 (Y2 clA clA) ?_;refine oo 2 ?_;refine XO.cR call90 (Pg (p:=p) clA (by omega) hi hg) ?_
  refine ox 8 ?_;refine drw ?_;refine dd [0,1,2] ?_;refine XD.kt 22 ?_;refine dd [3,4,5,6,7,8,9,10,11,12,13,14] ?_;refine XD.nil ?_;refine xx 8 ?_
  rw [show Vx s _ t=(s, -1,2) from (if_pos hr').trans (if_neg hg)]
 rotate_left
 focus
  have hr': ¬inR k s.chans.length:=by rw [←hh];exact hr
  refine xo 10 ?_;refine XO.cR call91 (Y2 clA clA) ?_;refine oo 2 ?_;refine XO.cR call90 (Pf (p:=p) clA (by omega) hr) ?_
  refine ox 8 ?_;refine drw ?_;refine dd [0,1,2] ?_;refine XD.kt 22 ?_;refine dd [3,4,5,6,7,8,9,10,11,12,13,14] ?_;refine XD.nil ?_;refine xx 8 ?_
  rw [show Vx s _ t=(s, -1,4) from if_neg hr']
 all_goals
  refine Zq [pto p (.cells [.bool true,.slice σ.ao σ.owners.length σ.co,.slice σ.ac σ.conds.length σ.cc,.slice σ.ah σ.chans.length σ.ch].toArray 176 (0,0)),lsH I64 3 σ.ao σ.co σ.owners,rsH cqs 1 191 σ.ac σ.cc σ.conds,stars (σ.conds.map (lsV 3)),rsH chs 3 180 σ.ah σ.ch σ.chans,stars (σ.chans.map fun x=>lsV 2 x.q)] func174 (I1 results174 rfl rfl rfl) ⟨_,rfl,σ,hR,rfl,rfl⟩
end
end Go.Proofs.YtflkjkhijcdbaaaGreat
