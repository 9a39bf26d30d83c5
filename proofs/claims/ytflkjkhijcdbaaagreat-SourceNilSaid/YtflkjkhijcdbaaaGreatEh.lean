/- Contracts of functions, proved by walking their code. -/
import Derived.Test.YtflkjkhijcdbaaaGreatEg
import Derived.KernelRfl
set_option maxRecDepth 100000
set_option linter.unusedVariables false
set_option linter.unusedSimpArgs false
namespace Go.Proofs.YtflkjkhijcdbaaaGreat
open Go Go.RowKit Wx Go.Proofs.Tryz
section
variable {G:World}{q:List HP}{a b:Option Addr}{c d:Nat}{l m:List Int}
theorem J9 {l:List Int}(hs:Sees q a (l.map I64))(hL:l.length≤1000000000):CallF prog G 70 [.slice a l.length c] (q) (Ret fun v q'=> ∃ a' c',v= .slice a' l.length c'∧q'=lsH I64 3 a' c' l::q):=by
 refine CallF.of func70 ntmps70 rfl (fun F cs=> ?_)
 rcases Nat.eq_zero_or_pos l.length with hl0|hl0
 · obtain rfl:=List.eq_nil_of_length_eq_zero hl0
   refine xx 10 ?_;refine X.part 4 rfl (fun h1=> ?_) (fun h1=> ?_)
   · refine xx 5 ?_;refine Zq (lsH I64 3 none 0 []::q) func70 (Zm results70 rfl) ⟨_,rfl,none,0,rfl,rfl⟩ ((leA).trans (Za _ _ _))
   refine xo 4 ?_;refine XO.ef (Jp I64 underlying22 Tryz.info3) ?_;rintro _ _ ⟨g,rfl,rfl⟩
   refine oo 1 ?_;refine XO.ef (Yw (f:=I64) (l:= []) (m:= []) underlying22 Tryz.info3 rfl rfl rfl Zk (hs.le leA) (fun _=>rfl) (by simp;try omega) (by simp;try omega)) ?_
   rintro _ _ ⟨a2,c2,rfl,rfl⟩
   refine ox 2 ?_;refine Zq (lsH I64 3 a2 c2 []::q) func70 (Zm results70 rfl) ⟨_,rfl,a2,c2,by simp,rfl⟩
 refine Yb hs (by simp;omega) (fun b1 o1 e_=> ?_);subst e_
 refine xx 10 ?_;refine Wp 4 ?_;refine xo 4 ?_;refine XO.ef (Jp I64 underlying22 Tryz.info3) ?_;rintro _ _ ⟨g,rfl,rfl⟩
 refine oo 1 ?_;refine XO.ef (Yw (f:=I64) (l:= []) (m:=l) underlying22 Tryz.info3 rfl rfl rfl Zk (hs.le leA) (fun _=>rfl) (by simp;try omega) (by simp;try omega)) ?_
 rintro _ _ ⟨a2,c2,rfl,rfl⟩
 refine ox 2 ?_;refine Zq (lsH I64 3 a2 c2 l::q) func70 (Zm results70 rfl) ⟨_,rfl,a2,c2,by simp,rfl⟩
theorem U5 {l:List Int}(hs:Sees q a (l.map I64))(hL:l.length≤1000000000):CallF prog G 50 [.slice a l.length c] (q) (Ret fun v q'=> ∃ a' c',v= .slice a' l.length c'∧q'=lsH I64 2 a' c' l::q):=by
 refine CallF.of func50 ntmps50 rfl (fun F cs=> ?_)
 rcases Nat.eq_zero_or_pos l.length with hl0|hl0
 · obtain rfl:=List.eq_nil_of_length_eq_zero hl0
   refine xx 10 ?_;refine X.part 4 rfl (fun h1=> ?_) (fun h1=> ?_)
   · refine xx 5 ?_;refine Zq (lsH I64 2 none 0 []::q) func50 (Zm results50 rfl) ⟨_,rfl,none,0,rfl,rfl⟩ ((leA).trans (Za _ _ _))
   refine xo 4 ?_;refine XO.ef (Jp I64 underlying23 Tryz.info2) ?_;rintro _ _ ⟨g,rfl,rfl⟩
   refine oo 1 ?_;refine XO.ef (Yw (f:=I64) (l:= []) (m:= []) underlying23 Tryz.info2 rfl rfl rfl Zk (hs.le leA) (fun _=>rfl) (by simp;try omega) (by simp;try omega)) ?_
   rintro _ _ ⟨a2,c2,rfl,rfl⟩
   refine ox 2 ?_;refine Zq (lsH I64 2 a2 c2 []::q) func50 (Zm results50 rfl) ⟨_,rfl,a2,c2,by simp,rfl⟩
 refine Yb hs (by simp;omega) (fun b1 o1 e_=> ?_);subst e_
 refine xx 10 ?_;refine Wp 4 ?_;refine xo 4 ?_;refine XO.ef (Jp I64 underlying23 Tryz.info2) ?_;rintro _ _ ⟨g,rfl,rfl⟩
 refine oo 1 ?_;refine XO.ef (Yw (f:=I64) (l:= []) (m:=l) underlying23 Tryz.info2 rfl rfl rfl Zk (hs.le leA) (fun _=>rfl) (by simp;try omega) (by simp;try omega)) ?_
 rintro _ _ ⟨a2,c2,rfl,rfl⟩
 refine ox 2 ?_;refine Zq (lsH I64 2 a2 c2 l::q) func50 (Zm results50 rfl) ⟨_,rfl,a2,c2,by simp,rfl⟩
theorem O3 {l:List (SlV Int)}(hs:Sees q a (l.flatMap cqs))(hL:l.length≤1000000000):CallF prog G 107 [.slice a l.length c] (q) (Ret fun v q'=> ∃ a' c',v= .slice a' l.length c'∧q'=rsH cqs 1 191 a' c' l::q):=by
 refine CallF.of func107 ntmps107 rfl (fun F cs=> ?_)
 rcases Nat.eq_zero_or_pos l.length with hl0|hl0
 · obtain rfl:=List.eq_nil_of_length_eq_zero hl0
   refine xx 10 ?_;refine X.part 4 rfl (fun h1=> ?_) (fun h1=> ?_)
   · refine xx 5 ?_;refine Zq (rsH cqs 1 191 none 0 []::q) func107 (Zm results107 rfl) ⟨_,rfl,none,0,rfl,rfl⟩ ((leA).trans (Zi _ _ _ _))
   refine xo 4 ?_;refine XO.ef (Qf cqs underlying173 Tryz.info191) ?_;rintro _ _ ⟨g,rfl,rfl⟩
   refine oo 1 ?_;refine XO.ef (Z8 (l:= []) (m:= []) underlying173 Tryz.info191 rfl rfl (fun _=>rfl) rfl rfl Zk (hs.le leA) (fun _=>rfl) (by simp;try omega) (by simp;try omega)) ?_
   rintro _ _ ⟨a2,c2,rfl,rfl⟩
   refine ox 2 ?_;refine Zq (rsH cqs 1 191 a2 c2 []::q) func107 (Zm results107 rfl) ⟨_,rfl,a2,c2,by simp,rfl⟩
 have hlen:=Zv (f:=cqs) (sz:=1) (fun _=>rfl) l
 refine Yb hs (by rw [hlen];omega) (fun b1 o1 e_=> ?_);subst e_
 refine xx 10 ?_;refine Wp 4 ?_;refine xo 4 ?_;refine XO.ef (Qf cqs underlying173 Tryz.info191) ?_;rintro _ _ ⟨g,rfl,rfl⟩
 refine oo 1 ?_;refine XO.ef (Z8 (l:= []) (m:=l) underlying173 Tryz.info191 rfl rfl (fun _=>rfl) rfl rfl Zk (hs.le leA) (fun _=>rfl) (by simp;try omega) (by simp;try omega)) ?_
 rintro _ _ ⟨a2,c2,rfl,rfl⟩
 refine ox 2 ?_;refine Zq (rsH cqs 1 191 a2 c2 l::q) func107 (Zm results107 rfl) ⟨_,rfl,a2,c2,by simp,rfl⟩
theorem O2 {l:List ChC}(hs:Sees q a (l.flatMap chs))(hL:l.length≤1000000000):CallF prog G 108 [.slice a l.length c] (q) (Ret fun v q'=> ∃ a' c',v= .slice a' l.length c'∧q'=rsH chs 3 180 a' c' l::q):=by
 refine CallF.of func108 ntmps108 rfl (fun F cs=> ?_)
 rcases Nat.eq_zero_or_pos l.length with hl0|hl0
 · obtain rfl:=List.eq_nil_of_length_eq_zero hl0
   refine xx 10 ?_;refine X.part 4 rfl (fun h1=> ?_) (fun h1=> ?_)
   · refine xx 5 ?_;refine Zq (rsH chs 3 180 none 0 []::q) func108 (Zm results108 rfl) ⟨_,rfl,none,0,rfl,rfl⟩ ((leA).trans (Zi _ _ _ _))
   refine xo 4 ?_;refine XO.ef (Qf chs underlying174 Tryz.info180) ?_;rintro _ _ ⟨g,rfl,rfl⟩
   refine oo 1 ?_;refine XO.ef (Z8 (l:= []) (m:= []) underlying174 Tryz.info180 rfl rfl (fun _=>rfl) rfl rfl Zk (hs.le leA) (fun _=>rfl) (by simp;try omega) (by simp;try omega)) ?_
   rintro _ _ ⟨a2,c2,rfl,rfl⟩
   refine ox 2 ?_;refine Zq (rsH chs 3 180 a2 c2 []::q) func108 (Zm results108 rfl) ⟨_,rfl,a2,c2,by simp,rfl⟩
 have hlen:=Zv (f:=chs) (sz:=3) (fun _=>rfl) l
 refine Yb hs (by rw [hlen];omega) (fun b1 o1 e_=> ?_);subst e_
 refine xx 10 ?_;refine Wp 4 ?_;refine xo 4 ?_;refine XO.ef (Qf chs underlying174 Tryz.info180) ?_;rintro _ _ ⟨g,rfl,rfl⟩
 refine oo 1 ?_;refine XO.ef (Z8 (l:= []) (m:=l) underlying174 Tryz.info180 rfl rfl (fun _=>rfl) rfl rfl Zk (hs.le leA) (fun _=>rfl) (by simp;try omega) (by simp;try omega)) ?_
 rintro _ _ ⟨a2,c2,rfl,rfl⟩
 refine ox 2 ?_;refine Zq (rsH chs 3 180 a2 c2 l::q) func108 (Zm results108 rfl) ⟨_,rfl,a2,c2,by simp,rfl⟩
end
section
variable {α:Type}{f:α→List Value}{sz ty:Nat}{G:World}{q:List HP}{a:Option Addr}{c c0 g i:Nat}{l:List α}{m:List Int}{t:Int}{u:Option Addr→Nat→α}
theorem Ln {q:List HP}{m:List Int}(hs:Sees q (some ⟨g,0,none⟩) (m.map I64))(hi:i<m.length):Cl q ⟨g,i*1,none⟩ (I64 m[i]):=by
 have:=hs.cl (i:=i) (u:=I64 m[i]) (by simp [hi])
 simpa using this
theorem Cl.at {q:List HP}{o:Nat}{y:α}{k:Nat}{v:Value}(hs:Sees q (some ⟨g,0,none⟩) (l.flatMap f))(hf: ∀ x,(f x).length=sz)(hi:l[i]? =some y)(hk:k<sz)(hv:(f y)[k]? =some v)(ho:o=i*sz+k):Cl q ⟨g,o,none⟩ v:=by
 subst ho
 have:=hs.cl (i:=i*sz+k) (u:=v) (by rw [Hx hf l i k y hk hi];exact hv)
 simpa using this
theorem put_ok (hi:i<l.length)(hf: ∀ x,(f x).length=sz)(hk:(f l[i])[0]? =some (.slice a m.length c))(hz:Nat.blt 0 sz=true)(hm:m.length≤1000000)(hu: ∀ a' c',(f l[i]).set 0 (.slice a' (m++ [t]).length c')=f (u a' c')):CallF prog G 195 [.pointer (some ⟨g,i*sz,none⟩),.int .i64 t] ([rsH f sz ty (some ⟨g,0,none⟩) c0 l,lsH I64 3 a c m]) (Ret fun v q'=> ∃ a' c',q'= [rsH f sz ty (some ⟨g,0,none⟩) c0 (l.set i (u a' c')),lsH I64 3 a' c' (m++ [t])]):=by
 refine CallF.of func195 ntmps195 rfl (fun F cs=> ?_)
 have hz':0<sz:=by simpa [Nat.blt_eq] using hz
 have hs:Sees (rsH f sz ty (some ⟨g,0,none⟩) c0 l::lsH I64 3 a c m::F) (some ⟨g,0,none⟩) (l.flatMap f):=Sees.rsH _
 have hc:Cl (rsH f sz ty (some ⟨g,0,none⟩) c0 l::lsH I64 3 a c m::F) ⟨g,i*sz,none⟩ (.slice a m.length c):=Cl.at hs hf (List.getElem?_eq_getElem hi) hz' hk (by omega)
 change X _ _ _ _ _ _ _ _ (rsH f sz ty (some ⟨g,0,none⟩) c0 l::lsH I64 3 a c m::F)
 refine xo 5 ?_;refine ld ?_ (hc:=hc)
 refine oo 1 ?_;refine XO.ef (U9 (u:=t) I64 underlying22 Tryz.info3 rfl rfl) ?_
 rintro _ _ ⟨g2,rfl,rfl⟩
 refine XO.ef (Yw (f:=I64) (l:=m) (m:= [t]) underlying22 Tryz.info3 rfl rfl rfl Zk ((Sees.lsH _).le leA) (fun _=>rfl) (by simp;omega) (by simp;omega)) ?_
 rintro _ _ ⟨a2,c2,rfl,rfl⟩
 refine oo 2 ?_;refine XO.ef0 (Yi (g:=g) (f:=f) (l:=l) (u:=(u a2 c2)) (n:=i) (k:=0) (j:=(i:Int)) (by simp [evp,lkp]) rfl sizeOf22 hf rfl hi hz (hu _ _) rfl rfl Zk) ?_
 rintro _ _ ⟨rfl,rfl⟩
 refine ox 1 ?_;refine Z7 [rsH f sz ty (some ⟨g,0,none⟩) c0 (l.set i (u a2 c2)),lsH I64 3 a2 c2 (m++ [t])] func195 (Vx results195) ⟨_,rfl,a2,c2,rfl⟩
theorem all_ok (hi:i<l.length)(hf: ∀ x,(f x).length=sz)(hk:(f l[i])[0]? =some (.slice a m.length c))(hz:Nat.blt 0 sz=true)(hm:m.length≤1000000):CallF prog G 89 [.pointer (some ⟨g,i*sz,none⟩)] ([rsH f sz ty (some ⟨g,0,none⟩) c0 l,lsH I64 3 a c m]) (Ret fun v q'=> ∃ a' c',v= .slice a' m.length c'∧q'= [lsH I64 3 a' c' m,rsH f sz ty (some ⟨g,0,none⟩) c0 l,lsH I64 3 a c m]):=by
 refine CallF.of func89 ntmps89 rfl (fun F cs=> ?_)
 have hz':0<sz:=by simpa [Nat.blt_eq] using hz
 have hs:Sees (rsH f sz ty (some ⟨g,0,none⟩) c0 l::lsH I64 3 a c m::F) (some ⟨g,0,none⟩) (l.flatMap f):=Sees.rsH _
 have hc:Cl (rsH f sz ty (some ⟨g,0,none⟩) c0 l::lsH I64 3 a c m::F) ⟨g,i*sz,none⟩ (.slice a m.length c):=Cl.at hs hf (List.getElem?_eq_getElem hi) hz' hk (by omega)
 change X _ _ _ _ _ _ _ _ (rsH f sz ty (some ⟨g,0,none⟩) c0 l::lsH I64 3 a c m::F)
 refine xo 9 ?_;refine ld ?_ (hc:=hc)
 refine Zb call70 (Le.refl _) (J9 (a:=a) (c:=c) (l:=m) ((Sees.lsH _).le leA) (by omega)) ?_
 rintro _ _ ⟨a2,c2,rfl,rfl⟩
 refine ox 2 ?_;refine Zq [lsH I64 3 a2 c2 m,rsH f sz ty (some ⟨g,0,none⟩) c0 l,lsH I64 3 a c m] func89 (Zm results89 rfl) ⟨_,rfl,a2,c2,rfl,rfl⟩
theorem take_no (hi:i<l.length)(hf: ∀ x,(f x).length=sz)(hk:(f l[i])[0]? =some (.slice a m.length c))(hz:Nat.blt 0 sz=true)(hm:m.length≤1000000)(he:m= []):CallF prog G 196 [.pointer (some ⟨g,i*sz,none⟩)] ([rsH f sz ty (some ⟨g,0,none⟩) c0 l,lsH I64 3 a c m]) (Ret fun v q'=>v= .tuple [.int .i64 0,.bool false].toArray∧q'= [rsH f sz ty (some ⟨g,0,none⟩) c0 l,lsH I64 3 a c m]):=by
 refine CallF.of func196 ntmps196 rfl (fun F cs=> ?_)
 have hz':0<sz:=by simpa [Nat.blt_eq] using hz
 have hs:Sees (rsH f sz ty (some ⟨g,0,none⟩) c0 l::lsH I64 3 a c m::F) (some ⟨g,0,none⟩) (l.flatMap f):=Sees.rsH _
 have hc:Cl (rsH f sz ty (some ⟨g,0,none⟩) c0 l::lsH I64 3 a c m::F) ⟨g,i*sz,none⟩ (.slice a m.length c):=Cl.at hs hf (List.getElem?_eq_getElem hi) hz' hk (by omega)
 change X _ _ _ _ _ _ _ _ (rsH f sz ty (some ⟨g,0,none⟩) c0 l::lsH I64 3 a c m::F)
 have h0:m.length=0:=by rw [he];rfl
 refine xo 15 ?_;refine ld ?_ (hc:=hc)
 refine ox 3 ?_;refine X.know 11 (.bool true) rfl (congrArg Value.bool (by simp [h0])) ?_
 refine xx 7 ?_;refine Zq [rsH f sz ty (some ⟨g,0,none⟩) c0 l,lsH I64 3 a c m] func196 (Wn results196 rfl rfl) ⟨_,rfl,rfl,rfl⟩
theorem take_ok (hi:i<l.length)(hf: ∀ x,(f x).length=sz)(hk:(f l[i])[0]? =some (.slice a m.length c))(hz:Nat.blt 0 sz=true)(hm:m.length≤1000000)(he:m≠ [])(hu: ∀ a' c',(f l[i]).set 0 (.slice a' (m.drop 1).length c')=f (u a' c')):CallF prog G 196 [.pointer (some ⟨g,i*sz,none⟩)] ([rsH f sz ty (some ⟨g,0,none⟩) c0 l,lsH I64 3 a c m]) (Ret fun v q'=> ∃ a' c',v= .tuple [.int .i64 (m.headD 0),.bool true].toArray∧q'= [rsH f sz ty (some ⟨g,0,none⟩) c0 (l.set i (u a' c')),lsH I64 3 a' c' (m.drop 1)]):=by
 refine CallF.of func196 ntmps196 rfl (fun F cs=> ?_)
 have hz':0<sz:=by simpa [Nat.blt_eq] using hz
 have hs:Sees (rsH f sz ty (some ⟨g,0,none⟩) c0 l::lsH I64 3 a c m::F) (some ⟨g,0,none⟩) (l.flatMap f):=Sees.rsH _
 have hc:Cl (rsH f sz ty (some ⟨g,0,none⟩) c0 l::lsH I64 3 a c m::F) ⟨g,i*sz,none⟩ (.slice a m.length c):=Cl.at hs hf (List.getElem?_eq_getElem hi) hz' hk (by omega)
 change X _ _ _ _ _ _ _ _ (rsH f sz ty (some ⟨g,0,none⟩) c0 l::lsH I64 3 a c m::F)
 obtain ⟨x0,r0,rfl⟩: ∃ x r,m=x::r:=by cases m with|nil=>exact absurd rfl he|cons x r=>exact ⟨x,r,rfl⟩
 have hll:(x0::r0).length=r0.length+1:=rfl
 refine xo 15 ?_;refine ld ?_ (hc:=hc)
 refine ox 3 ?_;refine X.know 11 (.bool false) rfl (congrArg Value.bool (by simp;omega)) ?_
 refine V8 (l:=x0::r0) (by simp) (fun g5 e_=> ?_);subst e_
 refine X.fact (fun w s=>(s.le (show Le _ (lsH I64 3 (some ⟨g5,0,none⟩) c (x0::r0)::_) from Zk)).lsLen) (fun hcap=> ?_)
 have hsm:Sees (rsH f sz ty (some ⟨g,0,none⟩) c0 l::lsH I64 3 (some ⟨g5,0,none⟩) c (x0::r0)::F) (some ⟨g5,0,none⟩) ((x0::r0).map I64):=(Sees.lsH _).le leA
 refine xo 7 ?_;refine ld ?_ (hc:=(by first|exact hc|exact (Sees.at (j:=0) (n:=0) hsm rfl (by simp))))
 refine oo 1 ?_;refine ld ?_ (hc:=(by first|exact hc|exact (Sees.at (j:=0) (n:=0) hsm rfl (by simp))))
 refine oo 8 ?_;refine ld ?_ (hc:=(by first|exact hc|exact (Sees.at (j:=0) (n:=0) hsm rfl (by simp))))
 refine oo 1 ?_;refine XO.know 24 (.slice (En (some ⟨g5,0,none⟩) c 1 1) r0.length (c - 1)) rfl (by simp) ?_
 refine Zb call70 (Le.refl _) (J9 (l:=r0) (a:=En (some ⟨g5,0,none⟩) c 1 1) (c:=c - 1) (by have:=hsm.suf (l:=1) (c:=c) (sz:=1) (by simp at hcap⊢;omega);simpa using this) (by simp at hm;omega)) ?_
 rintro _ _ ⟨a2,c2,rfl,rfl⟩
 refine oo 2 ?_;refine XO.ef0 (Yi (g:=g) (f:=f) (l:=l) (u:=(u a2 c2)) (n:=i) (k:=0) (j:=(i:Int)) (by simp [evp,lkp]) rfl sizeOf22 hf rfl hi hz (hu _ _) rfl rfl Zk) ?_
 rintro _ _ ⟨rfl,rfl⟩
 refine ox 7 ?_;refine Zq [rsH f sz ty (some ⟨g,0,none⟩) c0 (l.set i (u a2 c2)),lsH I64 3 a2 c2 r0] func196 (Wn results196 rfl rfl) ⟨_,rfl,a2,c2,rfl,rfl⟩
theorem put64_ok (hi:i<l.length)(hf: ∀ x,(f x).length=sz)(hk:(f l[i])[0]? =some (.slice a m.length c))(hz:Nat.blt 0 sz=true)(hm:m.length≤1000000)(hu: ∀ a' c',(f l[i]).set 0 (.slice a' (m++ [t]).length c')=f (u a' c')):CallF prog G 197 [.pointer (some ⟨g,i*sz,none⟩),.int .i64 t] ([rsH f sz ty (some ⟨g,0,none⟩) c0 l,lsH I64 2 a c m]) (Ret fun v q'=> ∃ a' c',q'= [rsH f sz ty (some ⟨g,0,none⟩) c0 (l.set i (u a' c')),lsH I64 2 a' c' (m++ [t])]):=by
 refine CallF.of func197 ntmps197 rfl (fun F cs=> ?_)
 have hz':0<sz:=by simpa [Nat.blt_eq] using hz
 have hs:Sees (rsH f sz ty (some ⟨g,0,none⟩) c0 l::lsH I64 2 a c m::F) (some ⟨g,0,none⟩) (l.flatMap f):=Sees.rsH _
 have hc:Cl (rsH f sz ty (some ⟨g,0,none⟩) c0 l::lsH I64 2 a c m::F) ⟨g,i*sz,none⟩ (.slice a m.length c):=Cl.at hs hf (List.getElem?_eq_getElem hi) hz' hk (by omega)
 change X _ _ _ _ _ _ _ _ (rsH f sz ty (some ⟨g,0,none⟩) c0 l::lsH I64 2 a c m::F)
 refine xo 5 ?_;refine ld ?_ (hc:=hc)
 refine oo 1 ?_;refine XO.ef (U9 (u:=t) I64 underlying23 Tryz.info2 rfl rfl) ?_
 rintro _ _ ⟨g2,rfl,rfl⟩
 refine XO.ef (Yw (f:=I64) (l:=m) (m:= [t]) underlying23 Tryz.info2 rfl rfl rfl Zk ((Sees.lsH _).le leA) (fun _=>rfl) (by simp;omega) (by simp;omega)) ?_
 rintro _ _ ⟨a2,c2,rfl,rfl⟩
 refine oo 2 ?_;refine XO.ef0 (Yi (g:=g) (f:=f) (l:=l) (u:=(u a2 c2)) (n:=i) (k:=0) (j:=(i:Int)) (by simp [evp,lkp]) rfl sizeOf23 hf rfl hi hz (hu _ _) rfl rfl Zk) ?_
 rintro _ _ ⟨rfl,rfl⟩
 refine ox 1 ?_;refine Z7 [rsH f sz ty (some ⟨g,0,none⟩) c0 (l.set i (u a2 c2)),lsH I64 2 a2 c2 (m++ [t])] func197 (Vx results197) ⟨_,rfl,a2,c2,rfl⟩
theorem G5 (hi:i<l.length)(hf: ∀ x,(f x).length=sz)(hk:(f l[i])[0]? =some (.slice a m.length c))(hz:Nat.blt 0 sz=true)(hm:m.length≤1000000):CallF prog G 92 [.pointer (some ⟨g,i*sz,none⟩)] ([rsH f sz ty (some ⟨g,0,none⟩) c0 l,lsH I64 2 a c m]) (Ret fun v q'=> ∃ a' c',v= .slice a' m.length c'∧q'= [lsH I64 2 a' c' m,rsH f sz ty (some ⟨g,0,none⟩) c0 l,lsH I64 2 a c m]):=by
 refine CallF.of func92 ntmps92 rfl (fun F cs=> ?_)
 have hz':0<sz:=by simpa [Nat.blt_eq] using hz
 have hs:Sees (rsH f sz ty (some ⟨g,0,none⟩) c0 l::lsH I64 2 a c m::F) (some ⟨g,0,none⟩) (l.flatMap f):=Sees.rsH _
 have hc:Cl (rsH f sz ty (some ⟨g,0,none⟩) c0 l::lsH I64 2 a c m::F) ⟨g,i*sz,none⟩ (.slice a m.length c):=Cl.at hs hf (List.getElem?_eq_getElem hi) hz' hk (by omega)
 change X _ _ _ _ _ _ _ _ (rsH f sz ty (some ⟨g,0,none⟩) c0 l::lsH I64 2 a c m::F)
 refine xo 9 ?_;refine ld ?_ (hc:=hc)
 refine Zb call50 (Le.refl _) (U5 (a:=a) (c:=c) (l:=m) ((Sees.lsH _).le leA) (by omega)) ?_
 rintro _ _ ⟨a2,c2,rfl,rfl⟩
 refine ox 2 ?_;refine Zq [lsH I64 2 a2 c2 m,rsH f sz ty (some ⟨g,0,none⟩) c0 l,lsH I64 2 a c m] func92 (Zm results92 rfl) ⟨_,rfl,a2,c2,rfl,rfl⟩
theorem Ix (hi:i<l.length)(hf: ∀ x,(f x).length=sz)(hk:(f l[i])[0]? =some (.slice a m.length c))(hz:Nat.blt 0 sz=true)(hm:m.length≤1000000)(he:m= []):CallF prog G 198 [.pointer (some ⟨g,i*sz,none⟩)] ([rsH f sz ty (some ⟨g,0,none⟩) c0 l,lsH I64 2 a c m]) (Ret fun v q'=>v= .tuple [.int .i64 0,.bool false].toArray∧q'= [rsH f sz ty (some ⟨g,0,none⟩) c0 l,lsH I64 2 a c m]):=by
 refine CallF.of func198 ntmps198 rfl (fun F cs=> ?_)
 have hz':0<sz:=by simpa [Nat.blt_eq] using hz
 have hs:Sees (rsH f sz ty (some ⟨g,0,none⟩) c0 l::lsH I64 2 a c m::F) (some ⟨g,0,none⟩) (l.flatMap f):=Sees.rsH _
 have hc:Cl (rsH f sz ty (some ⟨g,0,none⟩) c0 l::lsH I64 2 a c m::F) ⟨g,i*sz,none⟩ (.slice a m.length c):=Cl.at hs hf (List.getElem?_eq_getElem hi) hz' hk (by omega)
 change X _ _ _ _ _ _ _ _ (rsH f sz ty (some ⟨g,0,none⟩) c0 l::lsH I64 2 a c m::F)
 have h0:m.length=0:=by rw [he];rfl
 refine xo 15 ?_;refine ld ?_ (hc:=hc)
 refine ox 3 ?_;refine X.know 11 (.bool true) rfl (congrArg Value.bool (by simp [h0])) ?_
 refine xx 7 ?_;refine Zq [rsH f sz ty (some ⟨g,0,none⟩) c0 l,lsH I64 2 a c m] func198 (Wn results198 rfl rfl) ⟨_,rfl,rfl,rfl⟩
theorem Iw (hi:i<l.length)(hf: ∀ x,(f x).length=sz)(hk:(f l[i])[0]? =some (.slice a m.length c))(hz:Nat.blt 0 sz=true)(hm:m.length≤1000000)(he:m≠ [])(hu: ∀ a' c',(f l[i]).set 0 (.slice a' (m.drop 1).length c')=f (u a' c')):CallF prog G 198 [.pointer (some ⟨g,i*sz,none⟩)] ([rsH f sz ty (some ⟨g,0,none⟩) c0 l,lsH I64 2 a c m]) (Ret fun v q'=> ∃ a' c',v= .tuple [.int .i64 (m.headD 0),.bool true].toArray∧q'= [rsH f sz ty (some ⟨g,0,none⟩) c0 (l.set i (u a' c')),lsH I64 2 a' c' (m.drop 1)]):=by
 refine CallF.of func198 ntmps198 rfl (fun F cs=> ?_)
 have hz':0<sz:=by simpa [Nat.blt_eq] using hz
 have hs:Sees (rsH f sz ty (some ⟨g,0,none⟩) c0 l::lsH I64 2 a c m::F) (some ⟨g,0,none⟩) (l.flatMap f):=Sees.rsH _
 have hc:Cl (rsH f sz ty (some ⟨g,0,none⟩) c0 l::lsH I64 2 a c m::F) ⟨g,i*sz,none⟩ (.slice a m.length c):=Cl.at hs hf (List.getElem?_eq_getElem hi) hz' hk (by omega)
 change X _ _ _ _ _ _ _ _ (rsH f sz ty (some ⟨g,0,none⟩) c0 l::lsH I64 2 a c m::F)
 obtain ⟨x0,r0,rfl⟩: ∃ x r,m=x::r:=by cases m with|nil=>exact absurd rfl he|cons x r=>exact ⟨x,r,rfl⟩
 have hll:(x0::r0).length=r0.length+1:=rfl
 refine xo 15 ?_;refine ld ?_ (hc:=hc)
 refine ox 3 ?_;refine X.know 11 (.bool false) rfl (congrArg Value.bool (by simp;omega)) ?_
 refine V8 (l:=x0::r0) (by simp) (fun g5 e_=> ?_);subst e_
 refine X.fact (fun w s=>(s.le (show Le _ (lsH I64 2 (some ⟨g5,0,none⟩) c (x0::r0)::_) from Zk)).lsLen) (fun hcap=> ?_)
 have hsm:Sees (rsH f sz ty (some ⟨g,0,none⟩) c0 l::lsH I64 2 (some ⟨g5,0,none⟩) c (x0::r0)::F) (some ⟨g5,0,none⟩) ((x0::r0).map I64):=(Sees.lsH _).le leA
 refine xo 7 ?_;refine ld ?_ (hc:=(by first|exact hc|exact (Sees.at (j:=0) (n:=0) hsm rfl (by simp))))
 refine oo 1 ?_;refine ld ?_ (hc:=(by first|exact hc|exact (Sees.at (j:=0) (n:=0) hsm rfl (by simp))))
 refine oo 8 ?_;refine ld ?_ (hc:=(by first|exact hc|exact (Sees.at (j:=0) (n:=0) hsm rfl (by simp))))
 refine oo 1 ?_;refine XO.know 24 (.slice (En (some ⟨g5,0,none⟩) c 1 1) r0.length (c - 1)) rfl (by simp) ?_
 refine Zb call50 (Le.refl _) (U5 (l:=r0) (a:=En (some ⟨g5,0,none⟩) c 1 1) (c:=c - 1) (by have:=hsm.suf (l:=1) (c:=c) (sz:=1) (by simp at hcap⊢;omega);simpa using this) (by simp at hm;omega)) ?_
 rintro _ _ ⟨a2,c2,rfl,rfl⟩
 refine oo 2 ?_;refine XO.ef0 (Yi (g:=g) (f:=f) (l:=l) (u:=(u a2 c2)) (n:=i) (k:=0) (j:=(i:Int)) (by simp [evp,lkp]) rfl sizeOf23 hf rfl hi hz (hu _ _) rfl rfl Zk) ?_
 rintro _ _ ⟨rfl,rfl⟩
 refine ox 7 ?_;refine Zq [rsH f sz ty (some ⟨g,0,none⟩) c0 (l.set i (u a2 c2)),lsH I64 2 a2 c2 r0] func198 (Wn results198 rfl rfl) ⟨_,rfl,a2,c2,rfl,rfl⟩
end
def Hv (s:Sy)(m:Int):Int×Int:=if inR m s.owners.length then (s.owners.getD m.toNat 0,0) else (0,4)
def U6 (s:Sy)(k:Int):List Int×Int:=if inR k s.chans.length then ((s.chans.getD k.toNat ch0).items,0) else ([],4)
def Rr (s:Sy)(k:Int):Int×Int:=if inR k s.chans.length then ((s.chans.getD k.toNat ch0).room,0) else (0,4)
theorem Real.ol {σ:SyC}{s:Sy}(r:Real σ s){i:Nat}(h:i<σ.owners.length):s.owners.getD i 0=σ.owners[i]:=by rw [←r.o];simp [List.getD,h]
theorem Real.lo {σ:SyC}{s:Sy}(r:Real σ s):σ.owners.length=s.owners.length:=by rw [r.o]
theorem N1 {ty:TypeId}{l:List (SlV Int)}{i:Nat}(hi:i<l.length){q r:List HP}(hq:Le q (stars (l.map (lsV ty))::r):=by exact Zk):Le q (lsH I64 ty l[i].a l[i].c l[i].l::stars ((l.eraseIdx i).map (lsV ty))::r):=hq.trans (Le.focus (lsV ty) hi r)
theorem Ns {ty:TypeId}{l:List (SlV Int)}{i:Nat}(hi:i<l.length){a:Option Addr}{c:Nat}{m:List Int}{q r:List HP}(hq:Le q (lsH I64 ty a c m::stars ((l.eraseIdx i).map (lsV ty))::r):=by exact Le.pick Zk Zk):Le q (stars ((l.set i ⟨a,c,m⟩).map (lsV ty))::r):=hq.trans (Mt (lsV ty) hi ⟨a,c,m⟩ r)
theorem Jj {q q':List HP}{A:Addr}{v:Value}(h:Cl q' A v)(l:Le q q'):Cl q A v:=fun G w s=>h G w (s.le l)
theorem Rb {ty:TypeId}{l:List ChC}{i:Nat}(hi:i<l.length){q r:List HP}(hq:Le q (stars (l.map fun x=>lsV ty x.q)::r):=by exact Zk):Le q (lsH I64 ty l[i].q.a l[i].q.c l[i].q.l::stars ((l.eraseIdx i).map fun x=>lsV ty x.q)::r):=hq.trans (Le.focus (fun (x:ChC)=>lsV ty x.q) hi r)
theorem N0 {ty:TypeId}{l:List ChC}{i:Nat}(hi:i<l.length)(x:ChC){q r:List HP}(hq:Le q (lsH I64 ty x.q.a x.q.c x.q.l::stars ((l.eraseIdx i).map fun x=>lsV ty x.q)::r):=by exact Le.pick Zk Zk):Le q (stars ((l.set i x).map fun x=>lsV ty x.q)::r):=hq.trans (Mt (fun (x:ChC)=>lsV ty x.q) hi x r)
section
variable {G:World}{q:List HP}{a b:Option Addr}{c d g p i n:Nat}{σ:SyC}{s:Sy}{k t v at_ number:Int}
theorem Yl (h:Cl q ⟨p,0,none⟩ (.bool true)):CallF prog G 106 [.pointer (some ⟨p,0,none⟩)] (q) (Ret fun v q'=>v= .bool true∧q'=q):=by
 refine CallF.of func106 ntmps106 rfl (fun F cs=> ?_)
 refine xo 9 ?_;refine XO.kt 5 ?_;refine oo 3 ?_;refine ld ?_ (hc:=(Jj h leA))
 refine ox 3 ?_;refine Zq (q) func106 (Zm results106 rfl) ⟨_,rfl,rfl,rfl⟩
theorem Wo (h:Cl q ⟨p,0,none⟩ (.bool true))(h1:Cl q ⟨p,1,none⟩ (.slice a n c)):CallF prog G 86 [.pointer (some ⟨p,0,none⟩)] (q) (Ret fun v q'=>v= .slice a n c∧q'=q):=by
 refine CallF.of func86 ntmps86 rfl (fun F cs=> ?_)
 refine xo 8 ?_;refine XO.cR call106 (Yl (Jj h leA)) ?_;refine XO.pu (Pu.not rfl) ?_;refine ox 1 ?_;refine Wp 5 ?_;refine xo 7 ?_;refine ld ?_ (hc:=(Jj h1 leA))
 refine ox 2 ?_;refine Zq (q) func86 (Zm results86 rfl) ⟨_,rfl,rfl,rfl⟩
theorem Vu (h:Cl q ⟨p,0,none⟩ (.bool true))(h1:Cl q ⟨p,2,none⟩ (.slice a n c)):CallF prog G 88 [.pointer (some ⟨p,0,none⟩)] (q) (Ret fun v q'=>v= .slice a n c∧q'=q):=by
 refine CallF.of func88 ntmps88 rfl (fun F cs=> ?_)
 refine xo 8 ?_;refine XO.cR call106 (Yl (Jj h leA)) ?_;refine XO.pu (Pu.not rfl) ?_;refine ox 1 ?_;refine Wp 5 ?_;refine xo 7 ?_;refine ld ?_ (hc:=(Jj h1 leA))
 refine ox 2 ?_;refine Zq (q) func88 (Zm results88 rfl) ⟨_,rfl,rfl,rfl⟩
theorem Ys (h:Cl q ⟨p,0,none⟩ (.bool true))(h1:Cl q ⟨p,3,none⟩ (.slice a n c)):CallF prog G 91 [.pointer (some ⟨p,0,none⟩)] (q) (Ret fun v q'=>v= .slice a n c∧q'=q):=by
 refine CallF.of func91 ntmps91 rfl (fun F cs=> ?_)
 refine xo 8 ?_;refine XO.cR call106 (Yl (Jj h leA)) ?_;refine XO.pu (Pu.not rfl) ?_;refine ox 1 ?_;refine Wp 5 ?_;refine xo 7 ?_;refine ld ?_ (hc:=(Jj h1 leA))
 refine ox 2 ?_;refine Zq (q) func91 (Zm results91 rfl) ⟨_,rfl,rfl,rfl⟩
theorem A5 (h:Cl q ⟨p,0,none⟩ (.bool true))(hn:n≤1000000)(hr: ¬inR at_ n):CallF prog G 85 [.pointer (some ⟨p,0,none⟩),.slice a n c,.int .i64 at_,.int .i64 0,.int .i64 0] (q) (Ret fun v q'=>v= .tuple [.pointer none,.int .i64 4].toArray∧q'=q):=by
 refine CallF.of func85 ntmps85 rfl (fun F cs=> ?_)
 try unfold inR at hr
 try unfold thr at hb
 try unfold val at hb
 refine xx 33 ?_;refine X.know 16 (.bool false) rfl (congrArg Value.bool (by simp)) ?_
 refine xx 7 ?_;refine X.know 18 (.bool false) rfl (congrArg Value.bool (by simp)) ?_
 refine xo 10 ?_
 rcases Decidable.em (at_<0) with k1|k1
 focus
  refine XO.know 30 (.bool true) rfl (congrArg Value.bool ((by first|exact decide_eq_true (by omega)|exact decide_eq_false (by omega)|rfl|(simp;omega)|simp))) ?_
  refine oo 13 ?_
 rotate_left
 focus
  refine XO.know 30 (.bool false) rfl (congrArg Value.bool ((by first|exact decide_eq_true (by omega)|exact decide_eq_false (by omega)|rfl|(simp;omega)|simp))) ?_
  refine ox 6 ?_;refine X.know 35 (.bool true) rfl (congrArg Value.bool ((by first|exact decide_eq_true (by omega)|exact decide_eq_false (by omega)|rfl|(simp;omega)|simp))) ?_
  refine xo 7 ?_
 all_goals
  refine XO.cR call106 (Yl (Jj h leA)) ?_;refine XO.pu (Pu.not rfl) ?_;refine ox 1 ?_;refine kx 38 9 ?_;refine X.kt 40 ?_;refine xx 7 ?_;refine Zq (q) func85 (Wn results85 rfl rfl) ⟨_,rfl,rfl,rfl⟩
theorem I7 (h:Cl q ⟨p,0,none⟩ (.bool true))(hn:n≤1000000)(hr:i<n)(hb:True):CallF prog G 85 [.pointer (some ⟨p,0,none⟩),.slice (some ⟨g,0,none⟩) n c,.int .i64 (i:Int),.int .i64 0,.int .i64 0] (q) (Ret fun v q'=>v= .tuple [.pointer (some ⟨g,i*1,none⟩),.int .i64 0].toArray∧q'=q):=by
 refine CallF.of func85 ntmps85 rfl (fun F cs=> ?_)
 try unfold inR at hr
 try unfold thr at hb
 try unfold val at hb
 refine xx 33 ?_;refine X.know 16 (.bool false) rfl (congrArg Value.bool (by simp)) ?_
 refine xx 7 ?_;refine X.know 18 (.bool false) rfl (congrArg Value.bool (by simp)) ?_
 refine xo 10 ?_;refine XO.know 30 (.bool false) rfl (congrArg Value.bool ((by first|exact decide_eq_true (by omega)|exact decide_eq_false (by omega)|rfl|(simp;omega)|simp))) ?_
 refine ox 6 ?_;refine X.know 35 (.bool false) rfl (congrArg Value.bool ((by first|exact decide_eq_true (by omega)|exact decide_eq_false (by omega)|rfl|(simp;omega)|simp))) ?_
 refine xo 5 ?_;refine XO.cR call106 (Yl (Jj h leA)) ?_;refine XO.pu (Pu.not rfl) ?_;refine ox 1 ?_;refine kx 38 9 ?_;refine kx 40 10 ?_;refine Zq (q) func85 (Wn results85 rfl rfl) ⟨_,rfl,by simp,rfl⟩
theorem By (h:Cl q ⟨p,0,none⟩ (.bool true))(hn:n≤1000000)(hr: ¬inR at_ n):CallF prog G 85 [.pointer (some ⟨p,0,none⟩),.slice a n c,.int .i64 at_,.int .i64 1,.int .i64 number] (q) (Ret fun v q'=>v= .tuple [.pointer none,.int .i64 4].toArray∧q'=q):=by
 refine CallF.of func85 ntmps85 rfl (fun F cs=> ?_)
 try unfold inR at hr
 try unfold thr at hb
 try unfold val at hb
 refine xx 33 ?_;refine X.know 16 (.bool true) rfl (congrArg Value.bool (by simp)) ?_
 refine xo 13 ?_
 rcases Decidable.em (number<0) with k8|k8
 focus
  refine XO.know 23 (.bool true) rfl (congrArg Value.bool ((by first|exact decide_eq_true (by omega)|exact decide_eq_false (by omega)|rfl|(simp;omega)|simp))) ?_
  refine oo 17 ?_
  rcases Decidable.em (at_<0) with k1|k1
  focus
   refine XO.know 30 (.bool true) rfl (congrArg Value.bool ((by first|exact decide_eq_true (by omega)|exact decide_eq_false (by omega)|rfl|(simp;omega)|simp))) ?_
   refine oo 13 ?_
  rotate_left
  focus
   refine XO.know 30 (.bool false) rfl (congrArg Value.bool ((by first|exact decide_eq_true (by omega)|exact decide_eq_false (by omega)|rfl|(simp;omega)|simp))) ?_
   refine ox 6 ?_;refine X.know 35 (.bool true) rfl (congrArg Value.bool ((by first|exact decide_eq_true (by omega)|exact decide_eq_false (by omega)|rfl|(simp;omega)|simp))) ?_
   refine xo 7 ?_
 rotate_left 2
 focus
  rcases Decidable.em (number>7) with k9|k9
  iterate 2
   focus
    refine XO.know 23 (.bool false) rfl (congrArg Value.bool ((by first|exact decide_eq_true (by omega)|exact decide_eq_false (by omega)|rfl|(simp;omega)|simp))) ?_
    refine ox 5 ?_
   rotate_left
  focus
   refine X.know 27 (.bool true) rfl (congrArg Value.bool ((by first|exact decide_eq_true (by omega)|exact decide_eq_false (by omega)|rfl|(simp;omega)|simp))) ?_
   refine xo 12 ?_
   rcases Decidable.em (at_<0) with k1|k1
   focus
    refine XO.know 30 (.bool true) rfl (congrArg Value.bool ((by first|exact decide_eq_true (by omega)|exact decide_eq_false (by omega)|rfl|(simp;omega)|simp))) ?_
    refine oo 13 ?_
   rotate_left
   focus
    refine XO.know 30 (.bool false) rfl (congrArg Value.bool ((by first|exact decide_eq_true (by omega)|exact decide_eq_false (by omega)|rfl|(simp;omega)|simp))) ?_
    refine ox 6 ?_;refine X.know 35 (.bool true) rfl (congrArg Value.bool ((by first|exact decide_eq_true (by omega)|exact decide_eq_false (by omega)|rfl|(simp;omega)|simp))) ?_
    refine xo 7 ?_
  rotate_left 2
  focus
   refine X.know 27 (.bool false) rfl (congrArg Value.bool ((by first|exact decide_eq_true (by omega)|exact decide_eq_false (by omega)|rfl|(simp;omega)|simp))) ?_
   refine xo 10 ?_
   rcases Decidable.em (at_<0) with k1|k1
   focus
    refine XO.know 30 (.bool true) rfl (congrArg Value.bool ((by first|exact decide_eq_true (by omega)|exact decide_eq_false (by omega)|rfl|(simp;omega)|simp))) ?_
    refine oo 13 ?_
   rotate_left
   focus
    refine XO.know 30 (.bool false) rfl (congrArg Value.bool ((by first|exact decide_eq_true (by omega)|exact decide_eq_false (by omega)|rfl|(simp;omega)|simp))) ?_
    refine ox 6 ?_;refine X.know 35 (.bool true) rfl (congrArg Value.bool ((by first|exact decide_eq_true (by omega)|exact decide_eq_false (by omega)|rfl|(simp;omega)|simp))) ?_
    refine xo 7 ?_
 all_goals
  refine XO.cR call106 (Yl (Jj h leA)) ?_;refine XO.pu (Pu.not rfl) ?_;refine ox 1 ?_;refine kx 38 9 ?_;refine X.kt 40 ?_;refine xx 7 ?_;refine Zq (q) func85 (Wn results85 rfl rfl) ⟨_,rfl,rfl,rfl⟩
theorem Bb (h:Cl q ⟨p,0,none⟩ (.bool true))(hn:n≤1000000)(hr:i<n)(hb: ¬ (thr number)):CallF prog G 85 [.pointer (some ⟨p,0,none⟩),.slice a n c,.int .i64 (i:Int),.int .i64 1,.int .i64 number] (q) (Ret fun v q'=>v= .tuple [.pointer none,.int .i64 2].toArray∧q'=q):=by
 refine CallF.of func85 ntmps85 rfl (fun F cs=> ?_)
 try unfold inR at hr
 try unfold thr at hb
 try unfold val at hb
 refine xx 33 ?_;refine X.know 16 (.bool true) rfl (congrArg Value.bool (by simp)) ?_
 refine xo 13 ?_
 rcases Decidable.em (number<0) with k8|k8
 focus
  refine XO.know 23 (.bool true) rfl (congrArg Value.bool ((by first|exact decide_eq_true (by omega)|exact decide_eq_false (by omega)|rfl|(simp;omega)|simp))) ?_
  refine oo 17 ?_
 rotate_left
 focus
  refine XO.know 23 (.bool false) rfl (congrArg Value.bool ((by first|exact decide_eq_true (by omega)|exact decide_eq_false (by omega)|rfl|(simp;omega)|simp))) ?_
  refine ox 5 ?_;refine X.know 27 (.bool true) rfl (congrArg Value.bool ((by first|exact decide_eq_true (by omega)|exact decide_eq_false (by omega)|rfl|(simp;omega)|simp))) ?_
  refine xo 12 ?_
 all_goals
  refine XO.know 30 (.bool false) rfl (congrArg Value.bool ((by first|exact decide_eq_true (by omega)|exact decide_eq_false (by omega)|rfl|(simp;omega)|simp))) ?_
  refine ox 6 ?_;refine X.know 35 (.bool false) rfl (congrArg Value.bool ((by first|exact decide_eq_true (by omega)|exact decide_eq_false (by omega)|rfl|(simp;omega)|simp))) ?_
  refine xo 5 ?_;refine XO.cR call106 (Yl (Jj h leA)) ?_;refine XO.pu (Pu.not rfl) ?_;refine ox 1 ?_;refine kx 38 9 ?_;refine X.kt 40 ?_;refine xx 7 ?_;refine Zq (q) func85 (Wn results85 rfl rfl) ⟨_,rfl,rfl,rfl⟩
theorem D0 (h:Cl q ⟨p,0,none⟩ (.bool true))(hn:n≤1000000)(hr:i<n)(hb:thr number):CallF prog G 85 [.pointer (some ⟨p,0,none⟩),.slice (some ⟨g,0,none⟩) n c,.int .i64 (i:Int),.int .i64 1,.int .i64 number] (q) (Ret fun v q'=>v= .tuple [.pointer (some ⟨g,i*1,none⟩),.int .i64 0].toArray∧q'=q):=by
 refine CallF.of func85 ntmps85 rfl (fun F cs=> ?_)
 try unfold inR at hr
 try unfold thr at hb
 try unfold val at hb
 refine xx 33 ?_;refine X.know 16 (.bool true) rfl (congrArg Value.bool (by simp)) ?_
 refine xo 13 ?_;refine XO.know 23 (.bool false) rfl (congrArg Value.bool ((by first|exact decide_eq_true (by omega)|exact decide_eq_false (by omega)|rfl|(simp;omega)|simp))) ?_
 refine ox 5 ?_;refine X.know 27 (.bool false) rfl (congrArg Value.bool ((by first|exact decide_eq_true (by omega)|exact decide_eq_false (by omega)|rfl|(simp;omega)|simp))) ?_
 refine xo 10 ?_;refine XO.know 30 (.bool false) rfl (congrArg Value.bool ((by first|exact decide_eq_true (by omega)|exact decide_eq_false (by omega)|rfl|(simp;omega)|simp))) ?_
 refine ox 6 ?_;refine X.know 35 (.bool false) rfl (congrArg Value.bool ((by first|exact decide_eq_true (by omega)|exact decide_eq_false (by omega)|rfl|(simp;omega)|simp))) ?_
 refine xo 5 ?_;refine XO.cR call106 (Yl (Jj h leA)) ?_;refine XO.pu (Pu.not rfl) ?_;refine ox 1 ?_;refine kx 38 9 ?_;refine kx 40 10 ?_;refine Zq (q) func85 (Wn results85 rfl rfl) ⟨_,rfl,by simp,rfl⟩
theorem Bf (h:Cl q ⟨p,0,none⟩ (.bool true))(hn:n≤1000000)(hr: ¬inR at_ n):CallF prog G 87 [.pointer (some ⟨p,0,none⟩),.slice a n c,.int .i64 at_,.int .i64 0,.int .i64 0] (q) (Ret fun v q'=>v= .tuple [.pointer none,.int .i64 4].toArray∧q'=q):=by
 refine CallF.of func87 ntmps87 rfl (fun F cs=> ?_)
 try unfold inR at hr
 try unfold thr at hb
 try unfold val at hb
 refine xx 33 ?_;refine X.know 16 (.bool false) rfl (congrArg Value.bool (by simp)) ?_
 refine xx 7 ?_;refine X.know 18 (.bool false) rfl (congrArg Value.bool (by simp)) ?_
 refine xo 10 ?_
 rcases Decidable.em (at_<0) with k1|k1
 focus
  refine XO.know 30 (.bool true) rfl (congrArg Value.bool ((by first|exact decide_eq_true (by omega)|exact decide_eq_false (by omega)|rfl|(simp;omega)|simp))) ?_
  refine oo 13 ?_
 rotate_left
 focus
  refine XO.know 30 (.bool false) rfl (congrArg Value.bool ((by first|exact decide_eq_true (by omega)|exact decide_eq_false (by omega)|rfl|(simp;omega)|simp))) ?_
  refine ox 6 ?_;refine X.know 35 (.bool true) rfl (congrArg Value.bool ((by first|exact decide_eq_true (by omega)|exact decide_eq_false (by omega)|rfl|(simp;omega)|simp))) ?_
  refine xo 7 ?_
 all_goals
  refine XO.cR call106 (Yl (Jj h leA)) ?_;refine XO.pu (Pu.not rfl) ?_;refine ox 1 ?_;refine kx 38 9 ?_;refine X.kt 40 ?_;refine xx 7 ?_;refine Zq (q) func87 (Wn results87 rfl rfl) ⟨_,rfl,rfl,rfl⟩
theorem D1 (h:Cl q ⟨p,0,none⟩ (.bool true))(hn:n≤1000000)(hr:i<n)(hb:True):CallF prog G 87 [.pointer (some ⟨p,0,none⟩),.slice (some ⟨g,0,none⟩) n c,.int .i64 (i:Int),.int .i64 0,.int .i64 0] (q) (Ret fun v q'=>v= .tuple [.pointer (some ⟨g,i*1,none⟩),.int .i64 0].toArray∧q'=q):=by
 refine CallF.of func87 ntmps87 rfl (fun F cs=> ?_)
 try unfold inR at hr
 try unfold thr at hb
 try unfold val at hb
 refine xx 33 ?_;refine X.know 16 (.bool false) rfl (congrArg Value.bool (by simp)) ?_
 refine xx 7 ?_;refine X.know 18 (.bool false) rfl (congrArg Value.bool (by simp)) ?_
 refine xo 10 ?_;refine XO.know 30 (.bool false) rfl (congrArg Value.bool ((by first|exact decide_eq_true (by omega)|exact decide_eq_false (by omega)|rfl|(simp;omega)|simp))) ?_
 refine ox 6 ?_;refine X.know 35 (.bool false) rfl (congrArg Value.bool ((by first|exact decide_eq_true (by omega)|exact decide_eq_false (by omega)|rfl|(simp;omega)|simp))) ?_
 refine xo 5 ?_;refine XO.cR call106 (Yl (Jj h leA)) ?_;refine XO.pu (Pu.not rfl) ?_;refine ox 1 ?_;refine kx 38 9 ?_;refine kx 40 10 ?_;refine Zq (q) func87 (Wn results87 rfl rfl) ⟨_,rfl,by simp,rfl⟩
theorem A8 (h:Cl q ⟨p,0,none⟩ (.bool true))(hn:n≤1000000)(hr: ¬inR at_ n):CallF prog G 87 [.pointer (some ⟨p,0,none⟩),.slice a n c,.int .i64 at_,.int .i64 1,.int .i64 number] (q) (Ret fun v q'=>v= .tuple [.pointer none,.int .i64 4].toArray∧q'=q):=by
 refine CallF.of func87 ntmps87 rfl (fun F cs=> ?_)
 try unfold inR at hr
 try unfold thr at hb
 try unfold val at hb
 refine xx 33 ?_;refine X.know 16 (.bool true) rfl (congrArg Value.bool (by simp)) ?_
 refine xo 13 ?_
 rcases Decidable.em (number<0) with k8|k8
 focus
  refine XO.know 23 (.bool true) rfl (congrArg Value.bool ((by first|exact decide_eq_true (by omega)|exact decide_eq_false (by omega)|rfl|(simp;omega)|simp))) ?_
  refine oo 17 ?_
  rcases Decidable.em (at_<0) with k1|k1
  focus
   refine XO.know 30 (.bool true) rfl (congrArg Value.bool ((by first|exact decide_eq_true (by omega)|exact decide_eq_false (by omega)|rfl|(simp;omega)|simp))) ?_
   refine oo 13 ?_
  rotate_left
  focus
   refine XO.know 30 (.bool false) rfl (congrArg Value.bool ((by first|exact decide_eq_true (by omega)|exact decide_eq_false (by omega)|rfl|(simp;omega)|simp))) ?_
   refine ox 6 ?_;refine X.know 35 (.bool true) rfl (congrArg Value.bool ((by first|exact decide_eq_true (by omega)|exact decide_eq_false (by omega)|rfl|(simp;omega)|simp))) ?_
   refine xo 7 ?_
 rotate_left 2
 focus
  rcases Decidable.em (number>7) with k9|k9
  iterate 2
   focus
    refine XO.know 23 (.bool false) rfl (congrArg Value.bool ((by first|exact decide_eq_true (by omega)|exact decide_eq_false (by omega)|rfl|(simp;omega)|simp))) ?_
    refine ox 5 ?_
   rotate_left
  focus
   refine X.know 27 (.bool true) rfl (congrArg Value.bool ((by first|exact decide_eq_true (by omega)|exact decide_eq_false (by omega)|rfl|(simp;omega)|simp))) ?_
   refine xo 12 ?_
   rcases Decidable.em (at_<0) with k1|k1
   focus
    refine XO.know 30 (.bool true) rfl (congrArg Value.bool ((by first|exact decide_eq_true (by omega)|exact decide_eq_false (by omega)|rfl|(simp;omega)|simp))) ?_
    refine oo 13 ?_
   rotate_left
   focus
    refine XO.know 30 (.bool false) rfl (congrArg Value.bool ((by first|exact decide_eq_true (by omega)|exact decide_eq_false (by omega)|rfl|(simp;omega)|simp))) ?_
    refine ox 6 ?_;refine X.know 35 (.bool true) rfl (congrArg Value.bool ((by first|exact decide_eq_true (by omega)|exact decide_eq_false (by omega)|rfl|(simp;omega)|simp))) ?_
    refine xo 7 ?_
  rotate_left 2
  focus
   refine X.know 27 (.bool false) rfl (congrArg Value.bool ((by first|exact decide_eq_true (by omega)|exact decide_eq_false (by omega)|rfl|(simp;omega)|simp))) ?_
   refine xo 10 ?_
   rcases Decidable.em (at_<0) with k1|k1
   focus
    refine XO.know 30 (.bool true) rfl (congrArg Value.bool ((by first|exact decide_eq_true (by omega)|exact decide_eq_false (by omega)|rfl|(simp;omega)|simp))) ?_
    refine oo 13 ?_
   rotate_left
   focus
    refine XO.know 30 (.bool false) rfl (congrArg Value.bool ((by first|exact decide_eq_true (by omega)|exact decide_eq_false (by omega)|rfl|(simp;omega)|simp))) ?_
    refine ox 6 ?_;refine X.know 35 (.bool true) rfl (congrArg Value.bool ((by first|exact decide_eq_true (by omega)|exact decide_eq_false (by omega)|rfl|(simp;omega)|simp))) ?_
    refine xo 7 ?_
 all_goals
  refine XO.cR call106 (Yl (Jj h leA)) ?_;refine XO.pu (Pu.not rfl) ?_;refine ox 1 ?_;refine kx 38 9 ?_;refine X.kt 40 ?_;refine xx 7 ?_;refine Zq (q) func87 (Wn results87 rfl rfl) ⟨_,rfl,rfl,rfl⟩
theorem A9 (h:Cl q ⟨p,0,none⟩ (.bool true))(hn:n≤1000000)(hr:i<n)(hb: ¬ (thr number)):CallF prog G 87 [.pointer (some ⟨p,0,none⟩),.slice a n c,.int .i64 (i:Int),.int .i64 1,.int .i64 number] (q) (Ret fun v q'=>v= .tuple [.pointer none,.int .i64 2].toArray∧q'=q):=by
 refine CallF.of func87 ntmps87 rfl (fun F cs=> ?_)
 try unfold inR at hr
 try unfold thr at hb
 try unfold val at hb
 refine xx 33 ?_;refine X.know 16 (.bool true) rfl (congrArg Value.bool (by simp)) ?_
 refine xo 13 ?_
 rcases Decidable.em (number<0) with k8|k8
 focus
  refine XO.know 23 (.bool true) rfl (congrArg Value.bool ((by first|exact decide_eq_true (by omega)|exact decide_eq_false (by omega)|rfl|(simp;omega)|simp))) ?_
  refine oo 17 ?_
 rotate_left
 focus
  refine XO.know 23 (.bool false) rfl (congrArg Value.bool ((by first|exact decide_eq_true (by omega)|exact decide_eq_false (by omega)|rfl|(simp;omega)|simp))) ?_
  refine ox 5 ?_;refine X.know 27 (.bool true) rfl (congrArg Value.bool ((by first|exact decide_eq_true (by omega)|exact decide_eq_false (by omega)|rfl|(simp;omega)|simp))) ?_
  refine xo 12 ?_
 all_goals
  refine XO.know 30 (.bool false) rfl (congrArg Value.bool ((by first|exact decide_eq_true (by omega)|exact decide_eq_false (by omega)|rfl|(simp;omega)|simp))) ?_
  refine ox 6 ?_;refine X.know 35 (.bool false) rfl (congrArg Value.bool ((by first|exact decide_eq_true (by omega)|exact decide_eq_false (by omega)|rfl|(simp;omega)|simp))) ?_
  refine xo 5 ?_;refine XO.cR call106 (Yl (Jj h leA)) ?_;refine XO.pu (Pu.not rfl) ?_;refine ox 1 ?_;refine kx 38 9 ?_;refine X.kt 40 ?_;refine xx 7 ?_;refine Zq (q) func87 (Wn results87 rfl rfl) ⟨_,rfl,rfl,rfl⟩
theorem I9 (h:Cl q ⟨p,0,none⟩ (.bool true))(hn:n≤1000000)(hr:i<n)(hb:thr number):CallF prog G 87 [.pointer (some ⟨p,0,none⟩),.slice (some ⟨g,0,none⟩) n c,.int .i64 (i:Int),.int .i64 1,.int .i64 number] (q) (Ret fun v q'=>v= .tuple [.pointer (some ⟨g,i*1,none⟩),.int .i64 0].toArray∧q'=q):=by
 refine CallF.of func87 ntmps87 rfl (fun F cs=> ?_)
 try unfold inR at hr
 try unfold thr at hb
 try unfold val at hb
 refine xx 33 ?_;refine X.know 16 (.bool true) rfl (congrArg Value.bool (by simp)) ?_
 refine xo 13 ?_;refine XO.know 23 (.bool false) rfl (congrArg Value.bool ((by first|exact decide_eq_true (by omega)|exact decide_eq_false (by omega)|rfl|(simp;omega)|simp))) ?_
 refine ox 5 ?_;refine X.know 27 (.bool false) rfl (congrArg Value.bool ((by first|exact decide_eq_true (by omega)|exact decide_eq_false (by omega)|rfl|(simp;omega)|simp))) ?_
 refine xo 10 ?_;refine XO.know 30 (.bool false) rfl (congrArg Value.bool ((by first|exact decide_eq_true (by omega)|exact decide_eq_false (by omega)|rfl|(simp;omega)|simp))) ?_
 refine ox 6 ?_;refine X.know 35 (.bool false) rfl (congrArg Value.bool ((by first|exact decide_eq_true (by omega)|exact decide_eq_false (by omega)|rfl|(simp;omega)|simp))) ?_
 refine xo 5 ?_;refine XO.cR call106 (Yl (Jj h leA)) ?_;refine XO.pu (Pu.not rfl) ?_;refine ox 1 ?_;refine kx 38 9 ?_;refine kx 40 10 ?_;refine Zq (q) func87 (Wn results87 rfl rfl) ⟨_,rfl,by simp,rfl⟩
theorem Mf (h:Cl q ⟨p,0,none⟩ (.bool true))(hn:n≤1000000)(hr: ¬inR at_ n):CallF prog G 90 [.pointer (some ⟨p,0,none⟩),.slice a n c,.int .i64 at_,.int .i64 0,.int .i64 0] (q) (Ret fun v q'=>v= .tuple [.pointer none,.int .i64 4].toArray∧q'=q):=by
 refine CallF.of func90 ntmps90 rfl (fun F cs=> ?_)
 try unfold inR at hr
 try unfold thr at hb
 try unfold val at hb
 refine xx 33 ?_;refine X.know 16 (.bool false) rfl (congrArg Value.bool (by simp)) ?_
 refine xx 7 ?_;refine X.know 18 (.bool false) rfl (congrArg Value.bool (by simp)) ?_
 refine xo 10 ?_
 rcases Decidable.em (at_<0) with k1|k1
 focus
  refine XO.know 30 (.bool true) rfl (congrArg Value.bool ((by first|exact decide_eq_true (by omega)|exact decide_eq_false (by omega)|rfl|(simp;omega)|simp))) ?_
  refine oo 13 ?_
 rotate_left
 focus
  refine XO.know 30 (.bool false) rfl (congrArg Value.bool ((by first|exact decide_eq_true (by omega)|exact decide_eq_false (by omega)|rfl|(simp;omega)|simp))) ?_
  refine ox 6 ?_;refine X.know 35 (.bool true) rfl (congrArg Value.bool ((by first|exact decide_eq_true (by omega)|exact decide_eq_false (by omega)|rfl|(simp;omega)|simp))) ?_
  refine xo 7 ?_
 all_goals
  refine XO.cR call106 (Yl (Jj h leA)) ?_;refine XO.pu (Pu.not rfl) ?_;refine ox 1 ?_;refine kx 38 9 ?_;refine X.kt 40 ?_;refine xx 7 ?_;refine Zq (q) func90 (Wn results90 rfl rfl) ⟨_,rfl,rfl,rfl⟩
theorem N9 (h:Cl q ⟨p,0,none⟩ (.bool true))(hn:n≤1000000)(hr:i<n)(hb:True):CallF prog G 90 [.pointer (some ⟨p,0,none⟩),.slice (some ⟨g,0,none⟩) n c,.int .i64 (i:Int),.int .i64 0,.int .i64 0] (q) (Ret fun v q'=>v= .tuple [.pointer (some ⟨g,i*3,none⟩),.int .i64 0].toArray∧q'=q):=by
 refine CallF.of func90 ntmps90 rfl (fun F cs=> ?_)
 try unfold inR at hr
 try unfold thr at hb
 try unfold val at hb
 refine xx 33 ?_;refine X.know 16 (.bool false) rfl (congrArg Value.bool (by simp)) ?_
 refine xx 7 ?_;refine X.know 18 (.bool false) rfl (congrArg Value.bool (by simp)) ?_
 refine xo 10 ?_;refine XO.know 30 (.bool false) rfl (congrArg Value.bool ((by first|exact decide_eq_true (by omega)|exact decide_eq_false (by omega)|rfl|(simp;omega)|simp))) ?_
 refine ox 6 ?_;refine X.know 35 (.bool false) rfl (congrArg Value.bool ((by first|exact decide_eq_true (by omega)|exact decide_eq_false (by omega)|rfl|(simp;omega)|simp))) ?_
 refine xo 5 ?_;refine XO.cR call106 (Yl (Jj h leA)) ?_;refine XO.pu (Pu.not rfl) ?_;refine ox 1 ?_;refine kx 38 9 ?_;refine kx 40 10 ?_;refine Zq (q) func90 (Wn results90 rfl rfl) ⟨_,rfl,by simp,rfl⟩
theorem A6 (h:Cl q ⟨p,0,none⟩ (.bool true))(hn:n≤1000000)(hr: ¬inR at_ n):CallF prog G 90 [.pointer (some ⟨p,0,none⟩),.slice a n c,.int .i64 at_,.int .i64 2,.int .i64 number] (q) (Ret fun v q'=>v= .tuple [.pointer none,.int .i64 4].toArray∧q'=q):=by
 refine CallF.of func90 ntmps90 rfl (fun F cs=> ?_)
 try unfold inR at hr
 try unfold thr at hb
 try unfold val at hb
 refine xx 33 ?_;refine X.know 16 (.bool false) rfl (congrArg Value.bool (by simp)) ?_
 refine xx 7 ?_;refine X.know 18 (.bool true) rfl (congrArg Value.bool (by simp)) ?_
 refine xo 8 ?_
 rcases Decidable.em (number< -2147483648) with k8|k8
 focus
  refine XO.know 23 (.bool true) rfl (congrArg Value.bool ((by first|exact decide_eq_true (by omega)|exact decide_eq_false (by omega)|rfl|(simp;omega)|simp))) ?_
  refine oo 17 ?_
  rcases Decidable.em (at_<0) with k1|k1
  focus
   refine XO.know 30 (.bool true) rfl (congrArg Value.bool ((by first|exact decide_eq_true (by omega)|exact decide_eq_false (by omega)|rfl|(simp;omega)|simp))) ?_
   refine oo 13 ?_
  rotate_left
  focus
   refine XO.know 30 (.bool false) rfl (congrArg Value.bool ((by first|exact decide_eq_true (by omega)|exact decide_eq_false (by omega)|rfl|(simp;omega)|simp))) ?_
   refine ox 6 ?_;refine X.know 35 (.bool true) rfl (congrArg Value.bool ((by first|exact decide_eq_true (by omega)|exact decide_eq_false (by omega)|rfl|(simp;omega)|simp))) ?_
   refine xo 7 ?_
 rotate_left 2
 focus
  rcases Decidable.em (number>2147483647) with k9|k9
  iterate 2
   focus
    refine XO.know 23 (.bool false) rfl (congrArg Value.bool ((by first|exact decide_eq_true (by omega)|exact decide_eq_false (by omega)|rfl|(simp;omega)|simp))) ?_
    refine ox 5 ?_
   rotate_left
  focus
   refine X.know 27 (.bool true) rfl (congrArg Value.bool ((by first|exact decide_eq_true (by omega)|exact decide_eq_false (by omega)|rfl|(simp;omega)|simp))) ?_
   refine xo 12 ?_
   rcases Decidable.em (at_<0) with k1|k1
   focus
    refine XO.know 30 (.bool true) rfl (congrArg Value.bool ((by first|exact decide_eq_true (by omega)|exact decide_eq_false (by omega)|rfl|(simp;omega)|simp))) ?_
    refine oo 13 ?_
   rotate_left
   focus
    refine XO.know 30 (.bool false) rfl (congrArg Value.bool ((by first|exact decide_eq_true (by omega)|exact decide_eq_false (by omega)|rfl|(simp;omega)|simp))) ?_
    refine ox 6 ?_;refine X.know 35 (.bool true) rfl (congrArg Value.bool ((by first|exact decide_eq_true (by omega)|exact decide_eq_false (by omega)|rfl|(simp;omega)|simp))) ?_
    refine xo 7 ?_
  rotate_left 2
  focus
   refine X.know 27 (.bool false) rfl (congrArg Value.bool ((by first|exact decide_eq_true (by omega)|exact decide_eq_false (by omega)|rfl|(simp;omega)|simp))) ?_
   refine xo 10 ?_
   rcases Decidable.em (at_<0) with k1|k1
   focus
    refine XO.know 30 (.bool true) rfl (congrArg Value.bool ((by first|exact decide_eq_true (by omega)|exact decide_eq_false (by omega)|rfl|(simp;omega)|simp))) ?_
    refine oo 13 ?_
   rotate_left
   focus
    refine XO.know 30 (.bool false) rfl (congrArg Value.bool ((by first|exact decide_eq_true (by omega)|exact decide_eq_false (by omega)|rfl|(simp;omega)|simp))) ?_
    refine ox 6 ?_;refine X.know 35 (.bool true) rfl (congrArg Value.bool ((by first|exact decide_eq_true (by omega)|exact decide_eq_false (by omega)|rfl|(simp;omega)|simp))) ?_
    refine xo 7 ?_
 all_goals
  refine XO.cR call106 (Yl (Jj h leA)) ?_;refine XO.pu (Pu.not rfl) ?_;refine ox 1 ?_;refine kx 38 9 ?_;refine X.kt 40 ?_;refine xx 7 ?_;refine Zq (q) func90 (Wn results90 rfl rfl) ⟨_,rfl,rfl,rfl⟩
theorem A7 (h:Cl q ⟨p,0,none⟩ (.bool true))(hn:n≤1000000)(hr:i<n)(hb: ¬ (val number)):CallF prog G 90 [.pointer (some ⟨p,0,none⟩),.slice a n c,.int .i64 (i:Int),.int .i64 2,.int .i64 number] (q) (Ret fun v q'=>v= .tuple [.pointer none,.int .i64 2].toArray∧q'=q):=by
 refine CallF.of func90 ntmps90 rfl (fun F cs=> ?_)
 try unfold inR at hr
 try unfold thr at hb
 try unfold val at hb
 refine xx 33 ?_;refine X.know 16 (.bool false) rfl (congrArg Value.bool (by simp)) ?_
 refine xx 7 ?_;refine X.know 18 (.bool true) rfl (congrArg Value.bool (by simp)) ?_
 refine xo 8 ?_
 rcases Decidable.em (number< -2147483648) with k8|k8
 focus
  refine XO.know 23 (.bool true) rfl (congrArg Value.bool ((by first|exact decide_eq_true (by omega)|exact decide_eq_false (by omega)|rfl|(simp;omega)|simp))) ?_
  refine oo 17 ?_
 rotate_left
 focus
  refine XO.know 23 (.bool false) rfl (congrArg Value.bool ((by first|exact decide_eq_true (by omega)|exact decide_eq_false (by omega)|rfl|(simp;omega)|simp))) ?_
  refine ox 5 ?_;refine X.know 27 (.bool true) rfl (congrArg Value.bool ((by first|exact decide_eq_true (by omega)|exact decide_eq_false (by omega)|rfl|(simp;omega)|simp))) ?_
  refine xo 12 ?_
 all_goals
  refine XO.know 30 (.bool false) rfl (congrArg Value.bool ((by first|exact decide_eq_true (by omega)|exact decide_eq_false (by omega)|rfl|(simp;omega)|simp))) ?_
  refine ox 6 ?_;refine X.know 35 (.bool false) rfl (congrArg Value.bool ((by first|exact decide_eq_true (by omega)|exact decide_eq_false (by omega)|rfl|(simp;omega)|simp))) ?_
  refine xo 5 ?_;refine XO.cR call106 (Yl (Jj h leA)) ?_;refine XO.pu (Pu.not rfl) ?_;refine ox 1 ?_;refine kx 38 9 ?_;refine X.kt 40 ?_;refine xx 7 ?_;refine Zq (q) func90 (Wn results90 rfl rfl) ⟨_,rfl,rfl,rfl⟩
theorem I8 (h:Cl q ⟨p,0,none⟩ (.bool true))(hn:n≤1000000)(hr:i<n)(hb:val number):CallF prog G 90 [.pointer (some ⟨p,0,none⟩),.slice (some ⟨g,0,none⟩) n c,.int .i64 (i:Int),.int .i64 2,.int .i64 number] (q) (Ret fun v q'=>v= .tuple [.pointer (some ⟨g,i*3,none⟩),.int .i64 0].toArray∧q'=q):=by
 refine CallF.of func90 ntmps90 rfl (fun F cs=> ?_)
 try unfold inR at hr
 try unfold thr at hb
 try unfold val at hb
 refine xx 33 ?_;refine X.know 16 (.bool false) rfl (congrArg Value.bool (by simp)) ?_
 refine xx 7 ?_;refine X.know 18 (.bool true) rfl (congrArg Value.bool (by simp)) ?_
 refine xo 8 ?_;refine XO.know 23 (.bool false) rfl (congrArg Value.bool ((by first|exact decide_eq_true (by omega)|exact decide_eq_false (by omega)|rfl|(simp;omega)|simp))) ?_
 refine ox 5 ?_;refine X.know 27 (.bool false) rfl (congrArg Value.bool ((by first|exact decide_eq_true (by omega)|exact decide_eq_false (by omega)|rfl|(simp;omega)|simp))) ?_
 refine xo 10 ?_;refine XO.know 30 (.bool false) rfl (congrArg Value.bool ((by first|exact decide_eq_true (by omega)|exact decide_eq_false (by omega)|rfl|(simp;omega)|simp))) ?_
 refine ox 6 ?_;refine X.know 35 (.bool false) rfl (congrArg Value.bool ((by first|exact decide_eq_true (by omega)|exact decide_eq_false (by omega)|rfl|(simp;omega)|simp))) ?_
 refine xo 5 ?_;refine XO.cR call106 (Yl (Jj h leA)) ?_;refine XO.pu (Pu.not rfl) ?_;refine ox 1 ?_;refine kx 38 9 ?_;refine kx 40 10 ?_;refine Zq (q) func90 (Wn results90 rfl rfl) ⟨_,rfl,by simp,rfl⟩
end
section
variable {G:World}{q:List HP}{a b:Option Addr}{c d g p i n:Nat}{σ:SyC}{s:Sy}{k t v m at_ number:Int}
theorem Owner_ok (hR:Real σ s){N:Nat}(hs:s.ok N)(hN:N≤1000):CallF prog G 56 [.pointer (some ⟨p,0,none⟩),.int .i64 m] ((syL p σ)) (Ret fun v q'=>v= .tuple [.int .i64 (Hv s m).1,.int .i64 (Hv s m).2].toArray∧q'=syL p σ):=by
 refine CallF.of func56 ntmps56 rfl (fun F cs=> ?_)
 have ho:=hR.lo;have hc:=hR.lc;have hh:=hR.lh;have hno:=hs.no;have hnc:=hs.nc;have hnh:=hs.nh
 change X _ _ _ _ _ _ _ _ (pto p (.cells [.bool true,.slice σ.ao σ.owners.length σ.co,.slice σ.ac σ.conds.length σ.cc,.slice σ.ah σ.chans.length σ.ch].toArray 176 (0,0))::lsH I64 3 σ.ao σ.co σ.owners::rsH cqs 1 191 σ.ac σ.cc σ.conds::stars (σ.conds.map (lsV 3))::rsH chs 3 180 σ.ah σ.ch σ.chans::stars (σ.chans.map fun x=>lsV 2 x.q)::F)
 rcases Decidable.em (inR m σ.owners.length) with hr|hr
 · have hr':inR m s.owners.length:=by rw [←ho];exact hr
   obtain ⟨i,rfl⟩:=Int.eq_ofNat_of_zero_le hr.1;have hi:i<σ.owners.length:=(by have:=hr.2;omega)
   refine V8 (l:=σ.owners) (by omega) (fun g e_=> ?_)
   rw [e_]
   refine xo 9 ?_;refine XO.cR call86 (Wo clA clA) ?_;refine oo 1 ?_;refine XO.cR call85 (I7 (p:=p) clA (by omega) hi trivial) ?_
   refine ox 12 ?_;refine Wp 17 ?_
   have hso:Sees (pto p (.cells [.bool true,.slice (some ⟨g,0,none⟩) σ.owners.length σ.co,.slice σ.ac σ.conds.length σ.cc,.slice σ.ah σ.chans.length σ.ch].toArray 176 (0,0))::lsH I64 3 (some ⟨g,0,none⟩) σ.co σ.owners::rsH cqs 1 191 σ.ac σ.cc σ.conds::stars (σ.conds.map (lsV 3))::rsH chs 3 180 σ.ah σ.ch σ.chans::stars (σ.chans.map fun x=>lsV 2 x.q)::F) (some ⟨g,0,none⟩) (σ.owners.map I64):=(Sees.lsH _).le leA
   refine xo 6 ?_;refine ld ?_ (hc:=(Ln hso hi))
   refine ox 3 ?_
   rw [show Hv s (i:Int)=(σ.owners[i],0) from (if_pos hr').trans (by rw [←hR.ol hi];rfl)]
   refine Zq [pto p (.cells [.bool true,.slice (some ⟨g,0,none⟩) σ.owners.length σ.co,.slice σ.ac σ.conds.length σ.cc,.slice σ.ah σ.chans.length σ.ch].toArray 176 (0,0)),lsH I64 3 (some ⟨g,0,none⟩) σ.co σ.owners,rsH cqs 1 191 σ.ac σ.cc σ.conds,stars (σ.conds.map (lsV 3)),rsH chs 3 180 σ.ah σ.ch σ.chans,stars (σ.chans.map fun x=>lsV 2 x.q)] func56 (Wn results56 rfl rfl) ⟨_,rfl,rfl,by unfold syL;rw [e_]⟩
 have hr': ¬inR m s.owners.length:=by rw [←ho];exact hr
 refine xo 9 ?_;refine XO.cR call86 (Wo clA clA) ?_;refine oo 1 ?_;refine XO.cR call85 (A5 (p:=p) clA (by omega) hr) ?_
 refine ox 12 ?_;refine X.kt 17 ?_;refine xx 7 ?_
 rw [show Hv s m=(0,4) from if_neg hr']
 refine Zq [pto p (.cells [.bool true,.slice σ.ao σ.owners.length σ.co,.slice σ.ac σ.conds.length σ.cc,.slice σ.ah σ.chans.length σ.ch].toArray 176 (0,0)),lsH I64 3 σ.ao σ.co σ.owners,rsH cqs 1 191 σ.ac σ.cc σ.conds,stars (σ.conds.map (lsV 3)),rsH chs 3 180 σ.ah σ.ch σ.chans,stars (σ.chans.map fun x=>lsV 2 x.q)] func56 (Wn results56 rfl rfl) ⟨_,rfl,rfl,rfl⟩
theorem Lock_ok (hR:Real σ s){N:Nat}(hs:s.ok N)(hN:N≤1000):CallF prog G 128 [.pointer (some ⟨p,0,none⟩),.int .i64 m,.int .i64 t] ((syL p σ)) (Ret fun v q'=> ∃ σ',Real σ' (Wi s m t).1∧v= .tuple [.bool (Wi s m t).2.1,.int .i64 (Wi s m t).2.2].toArray∧q'=syL p σ'):=by
 refine CallF.of func128 ntmps128 rfl (fun F cs=> ?_)
 have ho:=hR.lo;have hc:=hR.lc;have hh:=hR.lh;have hno:=hs.no;have hnc:=hs.nc;have hnh:=hs.nh
 change X _ _ _ _ _ _ _ _ (pto p (.cells [.bool true,.slice σ.ao σ.owners.length σ.co,.slice σ.ac σ.conds.length σ.cc,.slice σ.ah σ.chans.length σ.ch].toArray 176 (0,0))::lsH I64 3 σ.ao σ.co σ.owners::rsH cqs 1 191 σ.ac σ.cc σ.conds::stars (σ.conds.map (lsV 3))::rsH chs 3 180 σ.ah σ.ch σ.chans::stars (σ.chans.map fun x=>lsV 2 x.q)::F)
 rcases Decidable.em (inR m σ.owners.length) with hr|hr
 focus
  have hr':inR m s.owners.length:=by rw [←ho];exact hr
  obtain ⟨i,rfl⟩:=Int.eq_ofNat_of_zero_le hr.1;have hi:i<σ.owners.length:=(by have:=hr.2;omega)
  rcases Decidable.em (thr t) with hg|hg
  · refine V8 (l:=σ.owners) (by omega) (fun g e_=> ?_)
    rw [e_]
    refine xo 9 ?_;refine XO.cR call86 (Wo clA clA) ?_;refine oo 2 ?_;refine XO.cR call85 (D0 (p:=p) clA (by omega) hi hg) ?_
    refine oo 12 ?_
    have hso:Sees (pto p (.cells [.bool true,.slice (some ⟨g,0,none⟩) σ.owners.length σ.co,.slice σ.ac σ.conds.length σ.cc,.slice σ.ah σ.chans.length σ.ch].toArray 176 (0,0))::lsH I64 3 (some ⟨g,0,none⟩) σ.co σ.owners::rsH cqs 1 191 σ.ac σ.cc σ.conds::stars (σ.conds.map (lsV 3))::rsH chs 3 180 σ.ah σ.ch σ.chans::stars (σ.chans.map fun x=>lsV 2 x.q)::F) (some ⟨g,0,none⟩) (σ.owners.map I64):=(Sees.lsH _).le leA;have hcl:=Ln hso hi;have hol:=hR.ol hi
    refine H9 21 ?_
    rcases Decidable.em (σ.owners[i]= -1) with hx|hx
    · refine oo 2 ?_;refine ld ?_ (hc:=hcl)
      refine ox 3 ?_;refine X.know 26 (.bool false) rfl (congrArg Value.bool (by simp [hx])) ?_
      refine xo 7 ?_;refine XO.ef0 (Rf (f:=I64) (l:=σ.owners) (u:=t) (n:=i) (g:=g) (j:=(i:Int)) (by simp [evp,lkp]) rfl sizeOf3 rfl hi rfl rfl Zk) ?_
      rintro _ _ ⟨rfl,rfl⟩
      refine ox 6 ?_
      rw [show Wi s (i:Int) t=({ s with owners:=s.owners.set i t },true,0) from (if_pos hr').trans ((if_pos hg).trans (if_pos (hol.trans hx)))]
      refine Zq [pto p (.cells [.bool true,.slice (some ⟨g,0,none⟩) σ.owners.length σ.co,.slice σ.ac σ.conds.length σ.cc,.slice σ.ah σ.chans.length σ.ch].toArray 176 (0,0)),lsH I64 3 (some ⟨g,0,none⟩) σ.co (σ.owners.set i t),rsH cqs 1 191 σ.ac σ.cc σ.conds,stars (σ.conds.map (lsV 3)),rsH chs 3 180 σ.ah σ.ch σ.chans,stars (σ.chans.map fun x=>lsV 2 x.q)] func128 (Wn results128 rfl rfl) ⟨_,rfl, { σ with ao:=(some ⟨g,0,none⟩),owners:=σ.owners.set i (t) },⟨by show σ.owners.set i (t)=s.owners.set i (t);rw [hR.o],hR.c,hR.h⟩,rfl,by unfold syL;simp⟩
    refine oo 2 ?_;refine ld ?_ (hc:=hcl)
    refine ox 3 ?_;refine X.know 26 (.bool true) rfl (congrArg Value.bool (by simp [hx])) ?_
    refine xx 7 ?_
    rw [show Wi s (i:Int) t=(s,false,0) from (if_pos hr').trans ((if_pos hg).trans (if_neg (fun e=>hx (hol.symm.trans e))))]
    refine Zq [pto p (.cells [.bool true,.slice (some ⟨g,0,none⟩) σ.owners.length σ.co,.slice σ.ac σ.conds.length σ.cc,.slice σ.ah σ.chans.length σ.ch].toArray 176 (0,0)),lsH I64 3 (some ⟨g,0,none⟩) σ.co σ.owners,rsH cqs 1 191 σ.ac σ.cc σ.conds,stars (σ.conds.map (lsV 3)),rsH chs 3 180 σ.ah σ.ch σ.chans,stars (σ.chans.map fun x=>lsV 2 x.q)] func128 (Wn results128 rfl rfl) ⟨_,rfl,σ,hR,rfl,by unfold syL;rw [e_]⟩
  refine xo 9 ?_;refine XO.cR call86 (Wo clA clA) ?_;refine oo 2 ?_;refine XO.cR call85 (Bb (p:=p) clA (by omega) hi hg) ?_
  refine oo 12 ?_;refine XO.kt 21 ?_;refine ox 13 ?_
  rw [show Wi s _ t=(s,false,2) from (if_pos hr').trans (if_neg hg)]
 rotate_left
 focus
  have hr': ¬inR m s.owners.length:=by rw [←ho];exact hr
  refine xo 9 ?_;refine XO.cR call86 (Wo clA clA) ?_;refine oo 2 ?_;refine XO.cR call85 (By (p:=p) clA (by omega) hr) ?_
  refine oo 12 ?_;refine XO.kt 21 ?_;refine ox 13 ?_
  rw [show Wi s _ t=(s,false,4) from if_neg hr']
 all_goals
  refine Zq [pto p (.cells [.bool true,.slice σ.ao σ.owners.length σ.co,.slice σ.ac σ.conds.length σ.cc,.slice σ.ah σ.chans.length σ.ch].toArray 176 (0,0)),lsH I64 3 σ.ao σ.co σ.owners,rsH cqs 1 191 σ.ac σ.cc σ.conds,stars (σ.conds.map (lsV 3)),rsH chs 3 180 σ.ah σ.ch σ.chans,stars (σ.chans.map fun x=>lsV 2 x.q)] func128 (Wn results128 rfl rfl) ⟨_,rfl,σ,hR,rfl,rfl⟩
theorem Oy (hR:Real σ s){N:Nat}(hs:s.ok N)(hN:N≤1000):CallF prog G 193 [.pointer (some ⟨p,0,none⟩),.int .i64 m,.int .i64 t] ((syL p σ)) (Ret fun v q'=> ∃ σ',Real σ' (Z6 s m t).1∧v= .int .i64 (Z6 s m t).2∧q'=syL p σ'):=by
 refine CallF.of func193 ntmps193 rfl (fun F cs=> ?_)
 have ho:=hR.lo;have hc:=hR.lc;have hh:=hR.lh;have hno:=hs.no;have hnc:=hs.nc;have hnh:=hs.nh
 change X _ _ _ _ _ _ _ _ (pto p (.cells [.bool true,.slice σ.ao σ.owners.length σ.co,.slice σ.ac σ.conds.length σ.cc,.slice σ.ah σ.chans.length σ.ch].toArray 176 (0,0))::lsH I64 3 σ.ao σ.co σ.owners::rsH cqs 1 191 σ.ac σ.cc σ.conds::stars (σ.conds.map (lsV 3))::rsH chs 3 180 σ.ah σ.ch σ.chans::stars (σ.chans.map fun x=>lsV 2 x.q)::F)
 rcases Decidable.em (inR m σ.owners.length) with hr|hr
 focus
  have hr':inR m s.owners.length:=by rw [←ho];exact hr
  obtain ⟨i,rfl⟩:=Int.eq_ofNat_of_zero_le hr.1;have hi:i<σ.owners.length:=(by have:=hr.2;omega)
  rcases Decidable.em (thr t) with hg|hg
  · refine V8 (l:=σ.owners) (by omega) (fun g e_=> ?_)
    rw [e_]
    refine xo 8 ?_;refine XO.cR call86 (Wo clA clA) ?_;refine oo 2 ?_;refine XO.cR call85 (D0 (p:=p) clA (by omega) hi hg) ?_
    refine ox 12 ?_
    have hso:Sees (pto p (.cells [.bool true,.slice (some ⟨g,0,none⟩) σ.owners.length σ.co,.slice σ.ac σ.conds.length σ.cc,.slice σ.ah σ.chans.length σ.ch].toArray 176 (0,0))::lsH I64 3 (some ⟨g,0,none⟩) σ.co σ.owners::rsH cqs 1 191 σ.ac σ.cc σ.conds::stars (σ.conds.map (lsV 3))::rsH chs 3 180 σ.ah σ.ch σ.chans::stars (σ.chans.map fun x=>lsV 2 x.q)::F) (some ⟨g,0,none⟩) (σ.owners.map I64):=(Sees.lsH _).le leA;have hcl:=Ln hso hi;have hol:=hR.ol hi
    refine Wp 19 ?_;refine xo 7 ?_;refine ld ?_ (hc:=hcl)
    refine ox 3 ?_
    rcases Decidable.em (σ.owners[i]=t) with hx|hx
    · refine X.know 25 (.bool false) rfl (congrArg Value.bool (by simp [hx])) ?_
      refine xo 6 ?_;refine XO.ef0 (Rf (f:=I64) (l:=σ.owners) (u:= -1) (n:=i) (g:=g) (j:=(i:Int)) (by simp [evp,lkp]) rfl sizeOf3 rfl hi rfl rfl Zk) ?_
      rintro _ _ ⟨rfl,rfl⟩
      refine ox 5 ?_
      rw [show Z6 s (i:Int) t=({ s with owners:=s.owners.set i (-1) },0) from (if_pos hr').trans ((if_pos hg).trans (if_pos (hol.trans hx)))]
      refine Zq [pto p (.cells [.bool true,.slice (some ⟨g,0,none⟩) σ.owners.length σ.co,.slice σ.ac σ.conds.length σ.cc,.slice σ.ah σ.chans.length σ.ch].toArray 176 (0,0)),lsH I64 3 (some ⟨g,0,none⟩) σ.co (σ.owners.set i (-1)),rsH cqs 1 191 σ.ac σ.cc σ.conds,stars (σ.conds.map (lsV 3)),rsH chs 3 180 σ.ah σ.ch σ.chans,stars (σ.chans.map fun x=>lsV 2 x.q)] func193 (Zm results193 rfl) ⟨_,rfl, { σ with ao:=(some ⟨g,0,none⟩),owners:=σ.owners.set i (-1) },⟨by show σ.owners.set i (-1)=s.owners.set i (-1);rw [hR.o],hR.c,hR.h⟩,rfl,by unfold syL;simp⟩
    refine X.know 25 (.bool true) rfl (congrArg Value.bool (by simp [hx])) ?_
    refine xx 5 ?_
    rw [show Z6 s (i:Int) t=(s,140) from (if_pos hr').trans ((if_pos hg).trans (if_neg (fun e=>hx (hol.symm.trans e))))]
    refine Zq [pto p (.cells [.bool true,.slice (some ⟨g,0,none⟩) σ.owners.length σ.co,.slice σ.ac σ.conds.length σ.cc,.slice σ.ah σ.chans.length σ.ch].toArray 176 (0,0)),lsH I64 3 (some ⟨g,0,none⟩) σ.co σ.owners,rsH cqs 1 191 σ.ac σ.cc σ.conds,stars (σ.conds.map (lsV 3)),rsH chs 3 180 σ.ah σ.ch σ.chans,stars (σ.chans.map fun x=>lsV 2 x.q)] func193 (Zm results193 rfl) ⟨_,rfl,σ,hR,rfl,by unfold syL;rw [e_]⟩
  refine xo 8 ?_;refine XO.cR call86 (Wo clA clA) ?_;refine oo 2 ?_;refine XO.cR call85 (Bb (p:=p) clA (by omega) hi hg) ?_
  refine ox 12 ?_;refine X.kt 19 ?_;refine xx 6 ?_
  rw [show Z6 s _ t=(s,2) from (if_pos hr').trans (if_neg hg)]
 rotate_left
 focus
  have hr': ¬inR m s.owners.length:=by rw [←ho];exact hr
  refine xo 8 ?_;refine XO.cR call86 (Wo clA clA) ?_;refine oo 2 ?_;refine XO.cR call85 (By (p:=p) clA (by omega) hr) ?_
  refine ox 12 ?_;refine X.kt 19 ?_;refine xx 6 ?_
  rw [show Z6 s _ t=(s,4) from if_neg hr']
 all_goals
  refine Zq [pto p (.cells [.bool true,.slice σ.ao σ.owners.length σ.co,.slice σ.ac σ.conds.length σ.cc,.slice σ.ah σ.chans.length σ.ch].toArray 176 (0,0)),lsH I64 3 σ.ao σ.co σ.owners,rsH cqs 1 191 σ.ac σ.cc σ.conds,stars (σ.conds.map (lsV 3)),rsH chs 3 180 σ.ah σ.ch σ.chans,stars (σ.chans.map fun x=>lsV 2 x.q)] func193 (Zm results193 rfl) ⟨_,rfl,σ,hR,rfl,rfl⟩
theorem Sy.ok.lenC {σ:SyC}{s:Sy}{N:Nat}(h:s.ok N)(hR:Real σ s){i:Nat}(hi:i<σ.conds.length)(hN:N≤1000):σ.conds[i].l.length≤1000:=by
 rw [←hR.cl hi];exact Nat.le_trans (h.c _ (Y1 (by rw [←hR.lc];exact hi))).1 hN
theorem Sy.ok.lenH {σ:SyC}{s:Sy}{N:Nat}(h:s.ok N)(hR:Real σ s){i:Nat}(hi:i<σ.chans.length)(hN:N≤1000):σ.chans[i].q.l.length≤1000:=by
 have e:=congrArg Prod.fst (hR.hl hi)
 have h2:σ.chans[i].q.l=(s.chans.getD i ch0).items:=e.symm
 rw [h2];unfold Ch.items;rw [List.length_drop]
 have:=(h.h _ (Y1 (d:=ch0) (show i<s.chans.length by rw [←hR.lh];exact hi))).2.2.1
 omega
theorem Ox (hR:Real σ s){N:Nat}(hs:s.ok N)(hN:N≤1000):CallF prog G 58 [.pointer (some ⟨p,0,none⟩),.int .i64 k] ((syL p σ)) (Ret fun v q'=> ∃ a' c',v= .tuple [.slice a' (U6 s k).1.length c',.int .i64 (U6 s k).2].toArray∧q'=lsH I64 2 a' c' (U6 s k).1::syL p σ):=by
 refine CallF.of func58 ntmps58 rfl (fun F cs=> ?_)
 have ho:=hR.lo;have hc:=hR.lc;have hh:=hR.lh;have hno:=hs.no;have hnc:=hs.nc;have hnh:=hs.nh
 change X _ _ _ _ _ _ _ _ (pto p (.cells [.bool true,.slice σ.ao σ.owners.length σ.co,.slice σ.ac σ.conds.length σ.cc,.slice σ.ah σ.chans.length σ.ch].toArray 176 (0,0))::lsH I64 3 σ.ao σ.co σ.owners::rsH cqs 1 191 σ.ac σ.cc σ.conds::stars (σ.conds.map (lsV 3))::rsH chs 3 180 σ.ah σ.ch σ.chans::stars (σ.chans.map fun x=>lsV 2 x.q)::F)
 rcases Decidable.em (inR k σ.chans.length) with hr|hr
 · have hr':inR k s.chans.length:=by rw [←hh];exact hr
   obtain ⟨i,rfl⟩:=Int.eq_ofNat_of_zero_le hr.1;have hi:i<σ.chans.length:=(by have:=hr.2;omega)
   refine Yk (l:=σ.chans) (by omega) (fun g e_=> ?_)
   rw [e_]
   have hlen:σ.chans[i].q.l.length≤1000:=hs.lenH hR hi hN
   have hHL:(s.chans.getD i ch0).items=σ.chans[i].q.l:=congrArg Prod.fst (hR.hl hi)
   refine xo 9 ?_;refine XO.cR call91 (Ys clA clA) ?_;refine oo 1 ?_;refine XO.cR call90 (N9 (p:=p) clA (by omega) hi trivial) ?_
   refine ox 12 ?_;refine Wp 17 ?_;refine X.le (Rb hi) ?_;refine xo 7 ?_;refine XO.know 21 (.pointer (some ⟨g,i*3,none⟩)) rfl (by simp) ?_
   refine Vd call92 (G5 (f:=chs) (sz:=3) (ty:=180) (l:=σ.chans) (i:=i) (m:=σ.chans[i].q.l) (a:=σ.chans[i].q.a) (c:=σ.chans[i].q.c) hi (fun _=>rfl) rfl rfl (by have:=hlen;omega)) ?_
   rintro _ _ ⟨a2,c2,rfl,rfl⟩ _ e_;simp only [ca,na] at e_;subst e_
   refine ox 3 ?_
   rw [show U6 s (i:Int)=(σ.chans[i].q.l,0) from (if_pos hr').trans (by rw [←hHL];rfl)]
   refine X.le (N0 hi σ.chans[i]) ?_
   rw [show σ.chans.set i σ.chans[i]=σ.chans from List.set_getElem_self hi]
   refine Zq (lsH I64 2 a2 c2 σ.chans[i].q.l:: [pto p (.cells [.bool true,.slice σ.ao σ.owners.length σ.co,.slice σ.ac σ.conds.length σ.cc,.slice (some ⟨g,0,none⟩) σ.chans.length σ.ch].toArray 176 (0,0)),lsH I64 3 σ.ao σ.co σ.owners,rsH cqs 1 191 σ.ac σ.cc σ.conds,stars (σ.conds.map (lsV 3)),rsH chs 3 180 (some ⟨g,0,none⟩) σ.ch σ.chans,stars (σ.chans.map fun x=>lsV 2 x.q)]) func58 (Wn results58 rfl rfl) ⟨_,rfl,a2,c2,rfl,by unfold syL;rw [e_]⟩
 have hr': ¬inR k s.chans.length:=by rw [←hh];exact hr
 refine xo 9 ?_;refine XO.cR call91 (Ys clA clA) ?_;refine oo 1 ?_;refine XO.cR call90 (Mf (p:=p) clA (by omega) hr) ?_
 refine ox 12 ?_;refine X.kt 17 ?_;refine xx 7 ?_
 rw [show U6 s k=([],4) from if_neg hr']
 refine Zq (lsH I64 2 none 0 []:: [pto p (.cells [.bool true,.slice σ.ao σ.owners.length σ.co,.slice σ.ac σ.conds.length σ.cc,.slice σ.ah σ.chans.length σ.ch].toArray 176 (0,0)),lsH I64 3 σ.ao σ.co σ.owners,rsH cqs 1 191 σ.ac σ.cc σ.conds,stars (σ.conds.map (lsV 3)),rsH chs 3 180 σ.ah σ.ch σ.chans,stars (σ.chans.map fun x=>lsV 2 x.q)]) func58 (Wn results58 rfl rfl) ⟨_,rfl,none,0,rfl,rfl⟩ ((leA).trans (Le.trans (Za I64 2 _) leA))
end
section
variable {G:World}{q:List HP}{a b:Option Addr}{c d g p i n:Nat}{σ:SyC}{s:Sy}{k t v m at_ number:Int}
theorem Real.setC {σ:SyC}{s:Sy}(hR:Real σ s)(i:Nat)(x:SlV Int)(ac:Option Addr):Real { σ with ac:=ac,conds:=σ.conds.set i x } { s with conds:=s.conds.set i x.l } :=
 ⟨hR.o,by show (σ.conds.set i x).map _=_;rw [Mx,hR.c],hR.h⟩
theorem Real.setH {σ:SyC}{s:Sy}(hR:Real σ s)(i:Nat)(x:ChC)(y:Ch)(h:x.row=y.row)(ah:Option Addr):Real { σ with ah:=ah,chans:=σ.chans.set i x } { s with chans:=s.chans.set i y } :=
 ⟨hR.o,hR.c,by show (σ.chans.set i x).map _=(s.chans.set i y).map _;rw [Mx,Mx,hR.h,h]⟩
theorem N4 {c:Ch}{x:ChC}(h:c.row=x.row):c.items=x.q.l∧c.room=x.room∧(c.all.length:Int)=x.sent:=by
 unfold Ch.row ChC.row at h;simp only [Prod.mk.injEq] at h;exact h
theorem All_ok (hR:Real σ s){N:Nat}(hs:s.ok N)(hN:N≤1000):CallF prog G 173 [.pointer (some ⟨p,0,none⟩),.int .i64 k] ((syL p σ)) (Ret fun v q'=> ∃ σ' a' c',Real σ' (J4 s k).1∧v= .tuple [.slice a' (J4 s k).2.1.length c',.int .i64 (J4 s k).2.2].toArray∧q'=lsH I64 3 a' c' (J4 s k).2.1::syL p σ'):=by
 refine CallF.of func173 ntmps173 rfl (fun F cs=> ?_)
 have ho:=hR.lo;have hc:=hR.lc;have hh:=hR.lh;have hno:=hs.no;have hnc:=hs.nc;have hnh:=hs.nh
 change X _ _ _ _ _ _ _ _ (pto p (.cells [.bool true,.slice σ.ao σ.owners.length σ.co,.slice σ.ac σ.conds.length σ.cc,.slice σ.ah σ.chans.length σ.ch].toArray 176 (0,0))::lsH I64 3 σ.ao σ.co σ.owners::rsH cqs 1 191 σ.ac σ.cc σ.conds::stars (σ.conds.map (lsV 3))::rsH chs 3 180 σ.ah σ.ch σ.chans::stars (σ.chans.map fun x=>lsV 2 x.q)::F)
 rcases Decidable.em (inR k σ.conds.length) with hr|hr
 · have hr':inR k s.conds.length:=by rw [←hc];exact hr
   obtain ⟨i,rfl⟩:=Int.eq_ofNat_of_zero_le hr.1;have hi:i<σ.conds.length:=(by have:=hr.2;omega)
   refine Yk (l:=σ.conds) (by omega) (fun g e_=> ?_)
   rw [e_]
   have hlen:=hs.lenC hR hi hN
   refine xo 9 ?_;refine XO.cR call88 (Vu clA clA) ?_;refine oo 1 ?_;refine XO.cR call87 (D1 (p:=p) clA (by omega) hi trivial) ?_
   refine ox 12 ?_;refine Wp 18 ?_;refine X.le (N1 hi) ?_;refine xo 7 ?_;refine XO.know 22 (.pointer (some ⟨g,i*1,none⟩)) rfl (by simp) ?_
   refine Vd call89 (all_ok (f:=cqs) (sz:=1) (ty:=191) (l:=σ.conds) (i:=i) (m:=σ.conds[i].l) (a:=σ.conds[i].a) (c:=σ.conds[i].c) hi (fun _=>rfl) rfl rfl (by omega)) ?_
   rintro _ _ ⟨a2,c2,rfl,rfl⟩ _ e_;simp only [ca,na] at e_;subst e_
   refine oo 8 ?_;refine XO.ef0 (Yi (g:=g) (f:=cqs) (sz:=1) (l:=σ.conds) (u:=⟨none,0, []⟩) (n:=i) (k:=0) (j:=(i:Int)) (by simp [evp,lkp]) rfl sizeOf22 (fun _=>rfl) rfl hi rfl rfl rfl rfl Zk) ?_
   rintro _ _ ⟨rfl,rfl⟩
   refine ox 7 ?_
   rw [show J4 s (i:Int)=({ s with conds:=s.conds.set i [] },σ.conds[i].l,0) from (if_pos hr').trans (by rw [←hR.cl hi];rfl)]
   refine X.le (Za I64 3 _) ?_;refine X.le (Ns hi (a:=none) (c:=0) (m:= [])) ?_
   refine Zq (lsH I64 3 a2 c2 σ.conds[i].l:: [pto p (.cells [.bool true,.slice σ.ao σ.owners.length σ.co,.slice (some ⟨g,0,none⟩) σ.conds.length σ.cc,.slice σ.ah σ.chans.length σ.ch].toArray 176 (0,0)),lsH I64 3 σ.ao σ.co σ.owners,rsH cqs 1 191 (some ⟨g,0,none⟩) σ.cc (σ.conds.set i ⟨none,0, []⟩),stars ((σ.conds.set i ⟨none,0, []⟩).map (lsV 3)),rsH chs 3 180 σ.ah σ.ch σ.chans,stars (σ.chans.map fun x=>lsV 2 x.q)]) func173 (Wn results173 rfl rfl) ⟨_,rfl, { σ with ac:=(some ⟨g,0,none⟩),conds:=σ.conds.set i ⟨none,0, []⟩ },a2,c2,hR.setC i ⟨none,0, []⟩ _,rfl,by unfold syL;simp⟩
 have hr': ¬inR k s.conds.length:=by rw [←hc];exact hr
 refine xo 9 ?_;refine XO.cR call88 (Vu clA clA) ?_;refine oo 1 ?_;refine XO.cR call87 (Bf (p:=p) clA (by omega) hr) ?_
 refine ox 12 ?_;refine X.kt 18 ?_;refine xx 7 ?_
 rw [show J4 s k=(s, [],4) from if_neg hr']
 refine Zq (lsH I64 3 none 0 []:: [pto p (.cells [.bool true,.slice σ.ao σ.owners.length σ.co,.slice σ.ac σ.conds.length σ.cc,.slice σ.ah σ.chans.length σ.ch].toArray 176 (0,0)),lsH I64 3 σ.ao σ.co σ.owners,rsH cqs 1 191 σ.ac σ.cc σ.conds,stars (σ.conds.map (lsV 3)),rsH chs 3 180 σ.ah σ.ch σ.chans,stars (σ.chans.map fun x=>lsV 2 x.q)]) func173 (Wn results173 rfl rfl) ⟨_,rfl,σ,none,0,hR,rfl,rfl⟩ ((leA).trans (Le.trans (Za I64 3 _) leA))
theorem Om (hR:Real σ s){N:Nat}(hs:s.ok N)(hN:N≤1000):CallF prog G 172 [.pointer (some ⟨p,0,none⟩),.int .i64 k] ((syL p σ)) (Ret fun v q'=> ∃ σ',Real σ' (Yr s k).1∧v= .tuple [.int .i64 (max (Yr s k).2.1 0),.bool (decide (0≤(Yr s k).2.1)),.int .i64 (Yr s k).2.2].toArray∧q'=syL p σ'):=by
 refine CallF.of func172 ntmps172 rfl (fun F cs=> ?_)
 have ho:=hR.lo;have hc:=hR.lc;have hh:=hR.lh;have hno:=hs.no;have hnc:=hs.nc;have hnh:=hs.nh
 change X _ _ _ _ _ _ _ _ (pto p (.cells [.bool true,.slice σ.ao σ.owners.length σ.co,.slice σ.ac σ.conds.length σ.cc,.slice σ.ah σ.chans.length σ.ch].toArray 176 (0,0))::lsH I64 3 σ.ao σ.co σ.owners::rsH cqs 1 191 σ.ac σ.cc σ.conds::stars (σ.conds.map (lsV 3))::rsH chs 3 180 σ.ah σ.ch σ.chans::stars (σ.chans.map fun x=>lsV 2 x.q)::F)
 rcases Decidable.em (inR k σ.conds.length) with hr|hr
 · have hr':inR k s.conds.length:=by rw [←hc];exact hr
   obtain ⟨i,rfl⟩:=Int.eq_ofNat_of_zero_le hr.1;have hi:i<σ.conds.length:=(by have:=hr.2;omega)
   refine Yk (l:=σ.conds) (by omega) (fun g e_=> ?_)
   rw [e_]
   have hlen:=hs.lenC hR hi hN;have hcl:=hR.cl hi
   refine xo 10 ?_;refine XO.cR call88 (Vu clA clA) ?_;refine oo 1 ?_;refine XO.cR call87 (D1 (p:=p) clA (by omega) hi trivial) ?_
   refine ox 12 ?_;refine Wp 20 ?_;refine X.le (N1 hi) ?_;refine xo 7 ?_
   rcases Decidable.em (σ.conds[i].l= []) with he|he
   · refine XO.know 25 (.pointer (some ⟨g,i*1,none⟩)) rfl (by simp) ?_
     refine Vd call196 (take_no (f:=cqs) (sz:=1) (ty:=191) (l:=σ.conds) (i:=i) (m:=σ.conds[i].l) (a:=σ.conds[i].a) (c:=σ.conds[i].c) hi (fun _=>rfl) rfl rfl (by omega) he) ?_
     rintro _ _ ⟨rfl,rfl⟩ _ e_;simp only [ca,na] at e_;subst e_
     refine ox 14 ?_;refine X.le (Ns hi (a:=σ.conds[i].a) (c:=σ.conds[i].c) (m:=σ.conds[i].l)) ?_
     rw [show σ.conds.set i ⟨σ.conds[i].a,σ.conds[i].c,σ.conds[i].l⟩=σ.conds from List.set_getElem_self hi]
     rw [show Yr s (i:Int)=(s, -1,0) from (if_pos hr').trans (if_pos (hcl.trans he))]
     refine Zq [pto p (.cells [.bool true,.slice σ.ao σ.owners.length σ.co,.slice (some ⟨g,0,none⟩) σ.conds.length σ.cc,.slice σ.ah σ.chans.length σ.ch].toArray 176 (0,0)),lsH I64 3 σ.ao σ.co σ.owners,rsH cqs 1 191 (some ⟨g,0,none⟩) σ.cc σ.conds,stars (σ.conds.map (lsV 3)),rsH chs 3 180 σ.ah σ.ch σ.chans,stars (σ.chans.map fun x=>lsV 2 x.q)] func172 (Iu results172 rfl rfl rfl) ⟨_,rfl,σ,hR,rfl,by unfold syL;rw [e_]⟩
   refine XO.know 25 (.pointer (some ⟨g,i*1,none⟩)) rfl (by simp) ?_
   refine Vd call196 (take_ok (f:=cqs) (sz:=1) (ty:=191) (l:=σ.conds) (i:=i) (m:=σ.conds[i].l) (a:=σ.conds[i].a) (c:=σ.conds[i].c) (u:=(fun a c=>⟨a,c,σ.conds[i].l.drop 1⟩)) hi (fun _=>rfl) rfl rfl (by omega) he (fun _ _=>rfl)) ?_
   rintro _ _ ⟨a2,c2,rfl,rfl⟩ _ e_;simp only [ca,na] at e_;subst e_
   refine ox 14 ?_;refine X.le (Ns hi (a:=a2) (c:=c2) (m:=σ.conds[i].l.drop 1)) ?_
   have h0:0≤σ.conds[i].l.headD 0:=by
    have h1:=hs.c σ.conds[i].l (by rw [←hcl];exact Y1 (by rw [←hc];exact hi))
    cases hL:σ.conds[i].l with
    |nil=>exact absurd hL he
    |cons x r=>rw [hL] at h1;exact (h1.2 x (List.mem_cons_self ..)).1
   rw [show Yr s (i:Int)=({ s with conds:=s.conds.set i (σ.conds[i].l.drop 1) },σ.conds[i].l.headD 0,0) from (if_pos hr').trans ((if_neg (fun e=>he (hcl.symm.trans e))).trans (by rw [←hcl];rfl))]
   refine Zq [pto p (.cells [.bool true,.slice σ.ao σ.owners.length σ.co,.slice (some ⟨g,0,none⟩) σ.conds.length σ.cc,.slice σ.ah σ.chans.length σ.ch].toArray 176 (0,0)),lsH I64 3 σ.ao σ.co σ.owners,rsH cqs 1 191 (some ⟨g,0,none⟩) σ.cc (σ.conds.set i ⟨a2,c2,σ.conds[i].l.drop 1⟩),stars ((σ.conds.set i ⟨a2,c2,σ.conds[i].l.drop 1⟩).map (lsV 3)),rsH chs 3 180 σ.ah σ.ch σ.chans,stars (σ.chans.map fun x=>lsV 2 x.q)] func172 (Iu results172 rfl rfl rfl) ⟨_,rfl, { σ with ac:=(some ⟨g,0,none⟩),conds:=σ.conds.set i ⟨a2,c2,σ.conds[i].l.drop 1⟩ },hR.setC i ⟨a2,c2,σ.conds[i].l.drop 1⟩ _,by dsimp only;rw [Int.max_eq_left h0,decide_eq_true h0],by unfold syL;simp⟩
 have hr': ¬inR k s.conds.length:=by rw [←hc];exact hr
 refine xo 10 ?_;refine XO.cR call88 (Vu clA clA) ?_;refine oo 1 ?_;refine XO.cR call87 (Bf (p:=p) clA (by omega) hr) ?_
 refine ox 12 ?_;refine X.kt 20 ?_;refine xx 8 ?_
 rw [show Yr s k=(s, -1,4) from if_neg hr']
 refine Zq [pto p (.cells [.bool true,.slice σ.ao σ.owners.length σ.co,.slice σ.ac σ.conds.length σ.cc,.slice σ.ah σ.chans.length σ.ch].toArray 176 (0,0)),lsH I64 3 σ.ao σ.co σ.owners,rsH cqs 1 191 σ.ac σ.cc σ.conds,stars (σ.conds.map (lsV 3)),rsH chs 3 180 σ.ah σ.ch σ.chans,stars (σ.chans.map fun x=>lsV 2 x.q)] func172 (Iu results172 rfl rfl rfl) ⟨_,rfl,σ,hR,rfl,rfl⟩
theorem Room_ok (hR:Real σ s){N:Nat}(hs:s.ok N)(hN:N≤1000):CallF prog G 125 [.pointer (some ⟨p,0,none⟩),.int .i64 k] ((syL p σ)) (Ret fun v q'=>v= .tuple [.int .i64 (Rr s k).1,.int .i64 (Rr s k).2].toArray∧q'=syL p σ):=by
 refine CallF.of func125 ntmps125 rfl (fun F cs=> ?_)
 have ho:=hR.lo;have hc:=hR.lc;have hh:=hR.lh;have hno:=hs.no;have hnc:=hs.nc;have hnh:=hs.nh
 change X _ _ _ _ _ _ _ _ (pto p (.cells [.bool true,.slice σ.ao σ.owners.length σ.co,.slice σ.ac σ.conds.length σ.cc,.slice σ.ah σ.chans.length σ.ch].toArray 176 (0,0))::lsH I64 3 σ.ao σ.co σ.owners::rsH cqs 1 191 σ.ac σ.cc σ.conds::stars (σ.conds.map (lsV 3))::rsH chs 3 180 σ.ah σ.ch σ.chans::stars (σ.chans.map fun x=>lsV 2 x.q)::F)
 rcases Decidable.em (inR k σ.chans.length) with hr|hr
 · have hr':inR k s.chans.length:=by rw [←hh];exact hr
   obtain ⟨i,rfl⟩:=Int.eq_ofNat_of_zero_le hr.1;have hi:i<σ.chans.length:=(by have:=hr.2;omega)
   refine Yk (l:=σ.chans) (by omega) (fun g e_=> ?_)
   rw [e_]
   refine xo 9 ?_;refine XO.cR call91 (Ys clA clA) ?_;refine oo 1 ?_;refine XO.cR call90 (N9 (p:=p) clA (by omega) hi trivial) ?_
   refine ox 12 ?_;refine Wp 17 ?_;obtain ⟨r1,r2,r3⟩:=N4 (hR.hl hi)
   have hsh:Sees (pto p (.cells [.bool true,.slice σ.ao σ.owners.length σ.co,.slice σ.ac σ.conds.length σ.cc,.slice (some ⟨g,0,none⟩) σ.chans.length σ.ch].toArray 176 (0,0))::lsH I64 3 σ.ao σ.co σ.owners::rsH cqs 1 191 σ.ac σ.cc σ.conds::stars (σ.conds.map (lsV 3))::rsH chs 3 180 (some ⟨g,0,none⟩) σ.ch σ.chans::stars (σ.chans.map fun x=>lsV 2 x.q)::F) (some ⟨g,0,none⟩) (σ.chans.flatMap chs):=(Sees.rsH _).le leA
   refine xo 7 ?_;refine ld ?_ (hc:=(Cl.at (k:=1) hsh (fun _=>rfl) (List.getElem?_eq_getElem hi) (by omega) rfl rfl))
   refine ox 3 ?_
   rw [show Rr s (i:Int)=(σ.chans[i].room,0) from (if_pos hr').trans (by rw [←r2];rfl)]
   refine Zq [pto p (.cells [.bool true,.slice σ.ao σ.owners.length σ.co,.slice σ.ac σ.conds.length σ.cc,.slice (some ⟨g,0,none⟩) σ.chans.length σ.ch].toArray 176 (0,0)),lsH I64 3 σ.ao σ.co σ.owners,rsH cqs 1 191 σ.ac σ.cc σ.conds,stars (σ.conds.map (lsV 3)),rsH chs 3 180 (some ⟨g,0,none⟩) σ.ch σ.chans,stars (σ.chans.map fun x=>lsV 2 x.q)] func125 (Wn results125 rfl rfl) ⟨_,rfl,rfl,by unfold syL;rw [e_]⟩
 have hr': ¬inR k s.chans.length:=by rw [←hh];exact hr
 refine xo 9 ?_;refine XO.cR call91 (Ys clA clA) ?_;refine oo 1 ?_;refine XO.cR call90 (Mf (p:=p) clA (by omega) hr) ?_
 refine ox 12 ?_;refine X.kt 17 ?_;refine xx 7 ?_
 rw [show Rr s k=(0,4) from if_neg hr']
 refine Zq [pto p (.cells [.bool true,.slice σ.ao σ.owners.length σ.co,.slice σ.ac σ.conds.length σ.cc,.slice σ.ah σ.chans.length σ.ch].toArray 176 (0,0)),lsH I64 3 σ.ao σ.co σ.owners,rsH cqs 1 191 σ.ac σ.cc σ.conds,stars (σ.conds.map (lsV 3)),rsH chs 3 180 σ.ah σ.ch σ.chans,stars (σ.chans.map fun x=>lsV 2 x.q)] func125 (Wn results125 rfl rfl) ⟨_,rfl,rfl,rfl⟩
theorem Recv_ok (hR:Real σ s){N:Nat}(hs:s.ok N)(hN:N≤1000):CallF prog G 175 [.pointer (some ⟨p,0,none⟩),.int .i64 k] ((syL p σ)) (Ret fun v q'=> ∃ σ',Real σ' (W5 s k).1∧v= .tuple [.int .i64 (W5 s k).2.1,.int .i64 (max (W5 s k).2.2.1 0),.bool (decide (0≤(W5 s k).2.2.1)),.int .i64 (W5 s k).2.2.2].toArray∧q'=syL p σ'):=by
 refine CallF.of func175 ntmps175 rfl (fun F cs=> ?_)
 have ho:=hR.lo;have hc:=hR.lc;have hh:=hR.lh;have hno:=hs.no;have hnc:=hs.nc;have hnh:=hs.nh
 change X _ _ _ _ _ _ _ _ (pto p (.cells [.bool true,.slice σ.ao σ.owners.length σ.co,.slice σ.ac σ.conds.length σ.cc,.slice σ.ah σ.chans.length σ.ch].toArray 176 (0,0))::lsH I64 3 σ.ao σ.co σ.owners::rsH cqs 1 191 σ.ac σ.cc σ.conds::stars (σ.conds.map (lsV 3))::rsH chs 3 180 σ.ah σ.ch σ.chans::stars (σ.chans.map fun x=>lsV 2 x.q)::F)
 rcases Decidable.em (inR k σ.chans.length) with hr|hr
 · have hr':inR k s.chans.length:=by rw [←hh];exact hr
   obtain ⟨i,rfl⟩:=Int.eq_ofNat_of_zero_le hr.1;have hi:i<σ.chans.length:=(by have:=hr.2;omega)
   refine Yk (l:=σ.chans) (by omega) (fun g e_=> ?_)
   rw [e_]
   have hlen:=hs.lenH hR hi hN
   obtain ⟨r1,r2,r3⟩:=N4 (hR.hl hi)
   have hch:=hs.h _ (Y1 (d:=ch0) (show i<s.chans.length by rw [←hh];exact hi));obtain ⟨⟨hr1,hr2⟩,htk,hal,hit,hva⟩:=hch
   have hdl:(s.chans.getD i ch0).all.drop (s.chans.getD i ch0).taken=σ.chans[i].q.l:=r1;have hdl2:=congrArg List.length hdl;rw [List.length_drop] at hdl2;have hit2:(σ.chans[i].q.l.length:Int)≤σ.chans[i].room:=by rw [←r1,←r2];exact hit
   refine xo 11 ?_;refine XO.cR call91 (Ys clA clA) ?_;refine oo 1 ?_;refine XO.cR call90 (N9 (p:=p) clA (by omega) hi trivial) ?_
   refine ox 12 ?_;refine Wp 22 ?_
   have hsh:Sees (pto p (.cells [.bool true,.slice σ.ao σ.owners.length σ.co,.slice σ.ac σ.conds.length σ.cc,.slice (some ⟨g,0,none⟩) σ.chans.length σ.ch].toArray 176 (0,0))::lsH I64 3 σ.ao σ.co σ.owners::rsH cqs 1 191 σ.ac σ.cc σ.conds::stars (σ.conds.map (lsV 3))::rsH chs 3 180 (some ⟨g,0,none⟩) σ.ch σ.chans::stars (σ.chans.map fun x=>lsV 2 x.q)::F) (some ⟨g,0,none⟩) (σ.chans.flatMap chs):=(Sees.rsH _).le leA
   refine xx 3 ?_;refine drw ?_;refine dd [0,1,2] ?_;refine ldD 3 ?_ (hc:=(by first|exact (Cl.at (k:=2) hsh (fun _=>rfl) (List.getElem?_eq_getElem hi) (by omega) rfl rfl)|exact (Cl.at (k:=0) hsh (fun _=>rfl) (List.getElem?_eq_getElem hi) (by omega) rfl rfl)))
   refine dd [4,5,6,7] ?_;refine ldD 8 ?_ (hc:=(by first|exact (Cl.at (k:=2) hsh (fun _=>rfl) (List.getElem?_eq_getElem hi) (by omega) rfl rfl)|exact (Cl.at (k:=0) hsh (fun _=>rfl) (List.getElem?_eq_getElem hi) (by omega) rfl rfl)))
   refine dd [9,10,11] ?_;refine XD.nil ?_;refine xo 5 ?_;refine XO.le (Rb hi) ?_
   rcases Decidable.em (σ.chans[i].q.l= []) with he|he
   · refine XO.know 38 (.pointer (some ⟨g,i*3,none⟩)) rfl (by simp) ?_
     refine Vd call198 (Ix (f:=chs) (sz:=3) (ty:=180) (l:=σ.chans) (i:=i) (m:=σ.chans[i].q.l) (a:=σ.chans[i].q.a) (c:=σ.chans[i].q.c) hi (fun _=>rfl) rfl rfl (by omega) he) ?_
     rintro _ _ ⟨rfl,rfl⟩ _ e_;simp only [ca,na] at e_;subst e_
     refine oo 10 ?_;refine XO.pu (Pu.not rfl) ?_;refine ox 1 ?_;refine X.kt 43 ?_;refine xx 8 ?_;refine X.le (N0 hi σ.chans[i]) ?_
     rw [show σ.chans.set i σ.chans[i]=σ.chans from List.set_getElem_self hi]
     rw [show W5 s (i:Int)=(s,0, -1,0) from (if_pos hr').trans (if_pos (r1.trans he))]
     refine Zq [pto p (.cells [.bool true,.slice σ.ao σ.owners.length σ.co,.slice σ.ac σ.conds.length σ.cc,.slice (some ⟨g,0,none⟩) σ.chans.length σ.ch].toArray 176 (0,0)),lsH I64 3 σ.ao σ.co σ.owners,rsH cqs 1 191 σ.ac σ.cc σ.conds,stars (σ.conds.map (lsV 3)),rsH chs 3 180 (some ⟨g,0,none⟩) σ.ch σ.chans,stars (σ.chans.map fun x=>lsV 2 x.q)] func175 (Ro results175 (ResOk.tmp rfl (ResOk.tmp rfl (ResOk.tmp rfl (ResOk.tmp rfl ResOk.nil))))) ⟨_,rfl,σ,hR,rfl,by unfold syL;rw [e_]⟩
   refine XO.know 38 (.pointer (some ⟨g,i*3,none⟩)) rfl (by simp) ?_
   refine Vd call198 (Iw (f:=chs) (sz:=3) (ty:=180) (l:=σ.chans) (i:=i) (m:=σ.chans[i].q.l) (a:=σ.chans[i].q.a) (c:=σ.chans[i].q.c) (u:=(fun a c=>⟨⟨a,c,σ.chans[i].q.l.drop 1⟩,σ.chans[i].room,σ.chans[i].sent⟩)) hi (fun _=>rfl) rfl rfl (by omega) he (fun _ _=>rfl)) ?_
   rintro _ _ ⟨a2,c2,rfl,rfl⟩ _ e_;simp only [ca,na] at e_;subst e_
   refine oo 10 ?_;refine XO.pu (Pu.not rfl) ?_;refine ox 1 ?_;refine kx 43 11 ?_;refine X.le (N0 hi (⟨⟨a2,c2,σ.chans[i].q.l.drop 1⟩,σ.chans[i].room,σ.chans[i].sent⟩:ChC)) ?_
   have hpos:0<σ.chans[i].q.l.length:=List.length_pos_iff.2 he
   have hhd:(s.chans.getD i ch0).all.getD (s.chans.getD i ch0).taken 0=σ.chans[i].q.l.headD 0:=by rw [←hdl,List.headD_eq_head?_getD,List.head?_drop,List.getD_eq_getElem?_getD]
   rw [show W5 s (i:Int)=({ s with chans:=s.chans.set i { s.chans.getD i ch0 with taken:=(s.chans.getD i ch0).taken+1 } },σ.chans[i].q.l.headD 0,((s.chans.getD i ch0).taken:Int),0) from (if_pos hr').trans ((if_neg (fun e=>he (r1.symm.trans e))).trans (by rw [←hhd];rfl))]
   refine Zq [pto p (.cells [.bool true,.slice σ.ao σ.owners.length σ.co,.slice σ.ac σ.conds.length σ.cc,.slice (some ⟨g,0,none⟩) σ.chans.length σ.ch].toArray 176 (0,0)),lsH I64 3 σ.ao σ.co σ.owners,rsH cqs 1 191 σ.ac σ.cc σ.conds,stars (σ.conds.map (lsV 3)),rsH chs 3 180 (some ⟨g,0,none⟩) σ.ch (σ.chans.set i (⟨⟨a2,c2,σ.chans[i].q.l.drop 1⟩,σ.chans[i].room,σ.chans[i].sent⟩:ChC)),stars ((σ.chans.set i (⟨⟨a2,c2,σ.chans[i].q.l.drop 1⟩,σ.chans[i].room,σ.chans[i].sent⟩:ChC)).map fun x=>lsV 2 x.q)] func175 (Ro results175 (ResOk.tmp rfl (ResOk.tmp rfl (ResOk.tmp rfl (ResOk.tmp rfl ResOk.nil))))) ⟨_,rfl, { σ with ah:=(some ⟨g,0,none⟩),chans:=σ.chans.set i (⟨⟨a2,c2,σ.chans[i].q.l.drop 1⟩,σ.chans[i].room,σ.chans[i].sent⟩:ChC) },hR.setH i (⟨⟨a2,c2,σ.chans[i].q.l.drop 1⟩,σ.chans[i].room,σ.chans[i].sent⟩:ChC) _ (by unfold Ch.row ChC.row Ch.items;dsimp only;rw [←r2,←r3,←hdl,List.drop_drop]) _,by dsimp only;rw [Int.max_eq_left (by omega),decide_eq_true (by omega),show ((σ.chans[i]).sent - (σ.chans[i].q.l.length:Int))=((s.chans.getD i ch0).taken:Int) by omega],by unfold syL;simp⟩
 have hr': ¬inR k s.chans.length:=by rw [←hh];exact hr
 refine xo 11 ?_;refine XO.cR call91 (Ys clA clA) ?_;refine oo 1 ?_;refine XO.cR call90 (Mf (p:=p) clA (by omega) hr) ?_
 refine ox 12 ?_;refine X.kt 22 ?_;refine xx 9 ?_
 rw [show W5 s k=(s,0, -1,4) from if_neg hr']
 refine Zq [pto p (.cells [.bool true,.slice σ.ao σ.owners.length σ.co,.slice σ.ac σ.conds.length σ.cc,.slice σ.ah σ.chans.length σ.ch].toArray 176 (0,0)),lsH I64 3 σ.ao σ.co σ.owners,rsH cqs 1 191 σ.ac σ.cc σ.conds,stars (σ.conds.map (lsV 3)),rsH chs 3 180 σ.ah σ.ch σ.chans,stars (σ.chans.map fun x=>lsV 2 x.q)] func175 (Ro results175 (ResOk.tmp rfl (ResOk.tmp rfl (ResOk.tmp rfl (ResOk.tmp rfl ResOk.nil))))) ⟨_,rfl,σ,hR,rfl,rfl⟩
theorem Send_ok (hR:Real σ s){N:Nat}(hs:s.ok N)(hN:N≤1000):CallF prog G 174 [.pointer (some ⟨p,0,none⟩),.int .i64 k,.int .i64 t] ((syL p σ)) (Ret fun v q'=> ∃ σ',Real σ' (Vz s k t).1∧v= .tuple [.int .i64 (max (Vz s k t).2.1 0),.bool (decide (0≤(Vz s k t).2.1)),.int .i64 (Vz s k t).2.2].toArray∧q'=syL p σ'):=by
 refine CallF.of func174 ntmps174 rfl (fun F cs=> ?_)
 have ho:=hR.lo;have hc:=hR.lc;have hh:=hR.lh;have hno:=hs.no;have hnc:=hs.nc;have hnh:=hs.nh
 change X _ _ _ _ _ _ _ _ (pto p (.cells [.bool true,.slice σ.ao σ.owners.length σ.co,.slice σ.ac σ.conds.length σ.cc,.slice σ.ah σ.chans.length σ.ch].toArray 176 (0,0))::lsH I64 3 σ.ao σ.co σ.owners::rsH cqs 1 191 σ.ac σ.cc σ.conds::stars (σ.conds.map (lsV 3))::rsH chs 3 180 σ.ah σ.ch σ.chans::stars (σ.chans.map fun x=>lsV 2 x.q)::F)
 rcases Decidable.em (inR k σ.chans.length) with hr|hr
 focus
  have hr':inR k s.chans.length:=by rw [←hh];exact hr
  obtain ⟨i,rfl⟩:=Int.eq_ofNat_of_zero_le hr.1;have hi:i<σ.chans.length:=(by have:=hr.2;omega)
  rcases Decidable.em (val t) with hg|hg
  · refine Yk (l:=σ.chans) (by omega) (fun g e_=> ?_)
    rw [e_]
    have hlen:=hs.lenH hR hi hN
    obtain ⟨r1,r2,r3⟩:=N4 (hR.hl hi)
    have hch:=hs.h _ (Y1 (d:=ch0) (show i<s.chans.length by rw [←hh];exact hi));obtain ⟨⟨hr1,hr2⟩,htk,hal,hit,hva⟩:=hch
    have hdl:(s.chans.getD i ch0).all.drop (s.chans.getD i ch0).taken=σ.chans[i].q.l:=r1;have hdl2:=congrArg List.length hdl;rw [List.length_drop] at hdl2;have hit2:(σ.chans[i].q.l.length:Int)≤σ.chans[i].room:=by rw [←r1,←r2];exact hit
    refine xo 10 ?_;refine XO.cR call91 (Ys clA clA) ?_;refine oo 2 ?_;refine XO.cR call90 (I8 (p:=p) clA (by omega) hi hg) ?_
    refine ox 8 ?_;refine drw ?_;refine dd [0,1,2] ?_;refine XD.kf 22 ?_
    have hsh:Sees (pto p (.cells [.bool true,.slice σ.ao σ.owners.length σ.co,.slice σ.ac σ.conds.length σ.cc,.slice (some ⟨g,0,none⟩) σ.chans.length σ.ch].toArray 176 (0,0))::lsH I64 3 σ.ao σ.co σ.owners::rsH cqs 1 191 σ.ac σ.cc σ.conds::stars (σ.conds.map (lsV 3))::rsH chs 3 180 (some ⟨g,0,none⟩) σ.ch σ.chans::stars (σ.chans.map fun x=>lsV 2 x.q)::F) (some ⟨g,0,none⟩) (σ.chans.flatMap chs):=(Sees.rsH _).le leA
    refine dd [3,4,5,6] ?_;refine ldD 7 ?_ (hc:=(by first|exact (Cl.at (k:=1) hsh (fun _=>rfl) (List.getElem?_eq_getElem hi) (by omega) rfl rfl)|exact (Cl.at (k:=0) hsh (fun _=>rfl) (List.getElem?_eq_getElem hi) (by omega) rfl rfl)))
    refine dd [8,9,10,11] ?_;refine ldD 12 ?_ (hc:=(by first|exact (Cl.at (k:=1) hsh (fun _=>rfl) (List.getElem?_eq_getElem hi) (by omega) rfl rfl)|exact (Cl.at (k:=0) hsh (fun _=>rfl) (List.getElem?_eq_getElem hi) (by omega) rfl rfl)))
    refine dd [13,14] ?_;refine XD.nil ?_
    rcases Decidable.em ((σ.chans[i].q.l.length:Int)<σ.chans[i].room) with hx|hx
    · refine X.know 34 (.bool false) rfl (congrArg Value.bool (by simp;omega)) ?_
      refine X.le (Rb hi) ?_;refine xo 8 ?_;refine XO.know 38 (.pointer (some ⟨g,i*3,none⟩)) rfl (by simp) ?_
      refine Vd call197 (put64_ok (t:=t) (f:=chs) (sz:=3) (ty:=180) (l:=σ.chans) (i:=i) (m:=σ.chans[i].q.l) (a:=σ.chans[i].q.a) (c:=σ.chans[i].q.c) (u:=(fun a c=>⟨⟨a,c,σ.chans[i].q.l++ [t]⟩,σ.chans[i].room,σ.chans[i].sent⟩)) hi (fun _=>rfl) rfl rfl (by omega) (fun _ _=>rfl)) ?_
      rintro _ _ ⟨a2,c2,rfl⟩ _ e_;simp only [ca,na] at e_;subst e_
      have hi2:i<(σ.chans.set i (⟨⟨a2,c2,σ.chans[i].q.l++ [t]⟩,σ.chans[i].room,σ.chans[i].sent⟩:ChC)).length:=by rw [List.length_set];exact hi
      have hsg:(σ.chans.set i (⟨⟨a2,c2,σ.chans[i].q.l++ [t]⟩,σ.chans[i].room,σ.chans[i].sent⟩:ChC))[i]'hi2=(⟨⟨a2,c2,σ.chans[i].q.l++ [t]⟩,σ.chans[i].room,σ.chans[i].sent⟩:ChC):=List.getElem_set_self _
      have hs2:Sees (rsH chs 3 180 (some ⟨g,0,none⟩) σ.ch (σ.chans.set i (⟨⟨a2,c2,σ.chans[i].q.l++ [t]⟩,σ.chans[i].room,σ.chans[i].sent⟩:ChC))::F) (some ⟨g,0,none⟩) ((σ.chans.set i (⟨⟨a2,c2,σ.chans[i].q.l++ [t]⟩,σ.chans[i].room,σ.chans[i].sent⟩:ChC)).flatMap chs):=Sees.rsH _
      have hs3: ∀ q,Le q (rsH chs 3 180 (some ⟨g,0,none⟩) σ.ch (σ.chans.set i (⟨⟨a2,c2,σ.chans[i].q.l++ [t]⟩,σ.chans[i].room,σ.chans[i].sent⟩:ChC))::F)→Sees q (some ⟨g,0,none⟩) ((σ.chans.set i (⟨⟨a2,c2,σ.chans[i].q.l++ [t]⟩,σ.chans[i].room,σ.chans[i].sent⟩:ChC)).flatMap chs):=fun q h=>hs2.le h
      refine oo 6 ?_;refine ld ?_ (hc:=(show Cl _ _ (.int .i64 σ.chans[i].sent) from Cl.at (k:=2) (y:=(⟨⟨a2,c2,σ.chans[i].q.l++ [t]⟩,σ.chans[i].room,σ.chans[i].sent⟩:ChC)) (hs3 _ leA) (fun _=>rfl) (by rw [List.getElem?_eq_getElem hi2,hsg]) (by omega) rfl rfl))
      refine oo 3 ?_;refine XO.ef0 (Yi (g:=g) (f:=chs) (sz:=3) (l:=σ.chans.set i (⟨⟨a2,c2,σ.chans[i].q.l++ [t]⟩,σ.chans[i].room,σ.chans[i].sent⟩:ChC)) (u:=(⟨⟨a2,c2,σ.chans[i].q.l++ [t]⟩,σ.chans[i].room,σ.chans[i].sent+1⟩:ChC)) (n:=i) (k:=2) (j:=(i:Int)) (by simp [evp,lkp]) rfl sizeOf3 (fun _=>rfl) rfl hi2 rfl (by rw [hsg];rfl) rfl rfl Zk) ?_
      rintro _ _ ⟨rfl,rfl⟩
      rw [List.set_set]
      have hs4: ∀ q,Le q (rsH chs 3 180 (some ⟨g,0,none⟩) σ.ch (σ.chans.set i (⟨⟨a2,c2,σ.chans[i].q.l++ [t]⟩,σ.chans[i].room,σ.chans[i].sent+1⟩:ChC))::F)→Sees q (some ⟨g,0,none⟩) ((σ.chans.set i (⟨⟨a2,c2,σ.chans[i].q.l++ [t]⟩,σ.chans[i].room,σ.chans[i].sent+1⟩:ChC)).flatMap chs):=fun q h=>(Sees.rsH F).le h
      refine oo 6 ?_;refine ld ?_ (hc:=(show Cl _ _ (.int .i64 (σ.chans[i].sent+1)) from Cl.at (k:=2) (y:=(⟨⟨a2,c2,σ.chans[i].q.l++ [t]⟩,σ.chans[i].room,σ.chans[i].sent+1⟩:ChC)) (hs4 _ leA) (fun _=>rfl) (by rw [List.getElem?_set_self hi]) (by omega) rfl rfl))
      refine ox 5 ?_;refine X.le (N0 hi (⟨⟨a2,c2,σ.chans[i].q.l++ [t]⟩,σ.chans[i].room,σ.chans[i].sent+1⟩:ChC)) ?_
      rw [show Vz s (i:Int) t=({ s with chans:=s.chans.set i { s.chans.getD i ch0 with all:=(s.chans.getD i ch0).all++ [t] } },((s.chans.getD i ch0).all.length:Int),0) from ((if_pos hr').trans ((if_pos hg).trans ((if_pos (by rw [show (s.chans.getD (Int.toNat ((i:Nat):Int)) ch0).items=_ from r1,show (s.chans.getD (Int.toNat ((i:Nat):Int)) ch0).room=_ from r2];exact hx)).trans rfl)))]
      refine Zq [pto p (.cells [.bool true,.slice σ.ao σ.owners.length σ.co,.slice σ.ac σ.conds.length σ.cc,.slice (some ⟨g,0,none⟩) σ.chans.length σ.ch].toArray 176 (0,0)),lsH I64 3 σ.ao σ.co σ.owners,rsH cqs 1 191 σ.ac σ.cc σ.conds,stars (σ.conds.map (lsV 3)),rsH chs 3 180 (some ⟨g,0,none⟩) σ.ch (σ.chans.set i (⟨⟨a2,c2,σ.chans[i].q.l++ [t]⟩,σ.chans[i].room,σ.chans[i].sent+1⟩:ChC)),stars ((σ.chans.set i (⟨⟨a2,c2,σ.chans[i].q.l++ [t]⟩,σ.chans[i].room,σ.chans[i].sent+1⟩:ChC)).map fun x=>lsV 2 x.q)] func174 (Iu results174 rfl rfl rfl) ⟨_,rfl, { σ with ah:=(some ⟨g,0,none⟩),chans:=σ.chans.set i (⟨⟨a2,c2,σ.chans[i].q.l++ [t]⟩,σ.chans[i].room,σ.chans[i].sent+1⟩:ChC) },hR.setH i (⟨⟨a2,c2,σ.chans[i].q.l++ [t]⟩,σ.chans[i].room,σ.chans[i].sent+1⟩:ChC) _ (by unfold Ch.row ChC.row Ch.items;dsimp only;rw [←r2,←r3,←hdl,List.drop_append_of_le_length htk,List.length_append];rfl) _,by dsimp only;rw [Int.max_eq_left (by omega),decide_eq_true (by omega),show σ.chans[i].sent+1 - 1=((s.chans.getD i ch0).all.length:Int) by omega],by unfold syL;simp⟩
    refine X.know 34 (.bool true) rfl (congrArg Value.bool (by simp;omega)) ?_
    refine xx 8 ?_
    rw [show Vz s (i:Int) t=(s, -1,0) from ((if_pos hr').trans ((if_pos hg).trans (if_neg (by rw [show (s.chans.getD (Int.toNat ((i:Nat):Int)) ch0).items=_ from r1,show (s.chans.getD (Int.toNat ((i:Nat):Int)) ch0).room=_ from r2];exact hx))))]
    refine Zq [pto p (.cells [.bool true,.slice σ.ao σ.owners.length σ.co,.slice σ.ac σ.conds.length σ.cc,.slice (some ⟨g,0,none⟩) σ.chans.length σ.ch].toArray 176 (0,0)),lsH I64 3 σ.ao σ.co σ.owners,rsH cqs 1 191 σ.ac σ.cc σ.conds,stars (σ.conds.map (lsV 3)),rsH chs 3 180 (some ⟨g,0,none⟩) σ.ch σ.chans,stars (σ.chans.map fun x=>lsV 2 x.q)] func174 (Iu results174 rfl rfl rfl) ⟨_,rfl,σ,hR,rfl,by unfold syL;rw [e_]⟩
  refine xo 10 ?_;refine XO.cR call91 (Ys clA clA) ?_;refine oo 2 ?_;refine XO.cR call90 (A7 (p:=p) clA (by omega) hi hg) ?_
  refine ox 8 ?_;refine drw ?_;refine dd [0,1,2] ?_;refine XD.kt 22 ?_;refine dd [3,4,5,6,7,8,9,10,11,12,13,14] ?_;refine XD.nil ?_;refine xx 8 ?_
  rw [show Vz s _ t=(s, -1,2) from (if_pos hr').trans (if_neg hg)]
 rotate_left
 focus
  have hr': ¬inR k s.chans.length:=by rw [←hh];exact hr
  refine xo 10 ?_;refine XO.cR call91 (Ys clA clA) ?_;refine oo 2 ?_;refine XO.cR call90 (A6 (p:=p) clA (by omega) hr) ?_
  refine ox 8 ?_;refine drw ?_;refine dd [0,1,2] ?_;refine XD.kt 22 ?_;refine dd [3,4,5,6,7,8,9,10,11,12,13,14] ?_;refine XD.nil ?_;refine xx 8 ?_
  rw [show Vz s _ t=(s, -1,4) from if_neg hr']
 all_goals
  refine Zq [pto p (.cells [.bool true,.slice σ.ao σ.owners.length σ.co,.slice σ.ac σ.conds.length σ.cc,.slice σ.ah σ.chans.length σ.ch].toArray 176 (0,0)),lsH I64 3 σ.ao σ.co σ.owners,rsH cqs 1 191 σ.ac σ.cc σ.conds,stars (σ.conds.map (lsV 3)),rsH chs 3 180 σ.ah σ.ch σ.chans,stars (σ.chans.map fun x=>lsV 2 x.q)] func174 (Iu results174 rfl rfl rfl) ⟨_,rfl,σ,hR,rfl,rfl⟩
end
theorem Mb {α β:Type}(f:α→List β): ∀ (l:List α) (i n:Nat) (hi:i<l.length) (hn:n<(f l[i]).length),(l.flatMap f)[((l.take i).flatMap f).length+n]? =some (f l[i])[n]
 | [],_,_,hi,_=>by simp at hi
 |x::r,0,n,_,hn=>by
  simp only [List.getElem_cons_zero] at hn
  simp [List.getElem?_append_left,hn]
 |x::r,i+1,n,hi,hn=>by
  have:=Mb f r i n (by simpa using hi) (by simpa using hn)
  simp only [List.take_succ_cons,List.flatMap_cons,List.length_append,List.getElem_cons_succ]
  rw [List.getElem?_append_right (by omega),←this]
  congr 1;omega
theorem Ng {α β:Type}(f:α→List β){l:List α}{i:Nat}(hi:i<l.length):((l.take (i+1)).flatMap f).length=((l.take i).flatMap f).length+(f l[i]).length:=by
 rw [List.take_succ_eq_append_getElem hi,List.flatMap_append,List.length_append];simp
def wl (σ:SyC):List Int:=σ.conds.flatMap (·.l)
def wK (σ:SyC)(i:Nat):Nat:=((σ.conds.take i).flatMap (·.l)).length
theorem wK_get {σ:SyC}{i n:Nat}(hi:i<σ.conds.length)(hn:n<σ.conds[i].l.length):wK σ i+n<(wl σ).length∧(wl σ)[wK σ i+n]? =some σ.conds[i].l[n]:=by
 have:=Mb (fun x:SlV Int=>x.l) σ.conds i n hi hn
 exact ⟨(List.getElem?_eq_some_iff.1 this).1,this⟩
theorem wK_step {σ:SyC}{i:Nat}(hi:i<σ.conds.length):wK σ (i+1)=wK σ i+σ.conds[i].l.length:=Ng _ hi
def w1 (x:Int):List Value:= [I64 x]
section
variable {G:World}{q:List HP}{a b:Option Addr}{c d g p b0 i n:Nat}{σ:SyC}{s:Sy}{k t v m at_ number:Int}
theorem Fi {y:Nat}{J:Nat→HP}{Jf:HP→Prop}(hC:σ.conds.length≤1000)(hL: ∀ x∈σ.conds,x.l.length≤100000)
 (hy: ∀ i (h:i<((wl σ).map w1).length),CallV prog G (.func (.yield y) #[] #[]) ((wl σ).map w1)[i] (J i:: [pto b0 (.cells [.pointer (some ⟨p,0,none⟩)].toArray 95 (0,0)),pto p (.cells [.bool true,.slice σ.ao σ.owners.length σ.co,.slice σ.ac σ.conds.length σ.cc,.slice σ.ah σ.chans.length σ.ch].toArray 176 (0,0)),lsH I64 3 σ.ao σ.co σ.owners,rsH cqs 1 191 σ.ac σ.cc σ.conds,stars (σ.conds.map (lsV 3)),rsH chs 3 180 σ.ah σ.ch σ.chans,stars (σ.chans.map fun x=>lsV 2 x.q)]) (Ret fun v q=>(v= .bool true∧q=J (i+1):: [pto b0 (.cells [.pointer (some ⟨p,0,none⟩)].toArray 95 (0,0)),pto p (.cells [.bool true,.slice σ.ao σ.owners.length σ.co,.slice σ.ac σ.conds.length σ.cc,.slice σ.ah σ.chans.length σ.ch].toArray 176 (0,0)),lsH I64 3 σ.ao σ.co σ.owners,rsH cqs 1 191 σ.ac σ.cc σ.conds,stars (σ.conds.map (lsV 3)),rsH chs 3 180 σ.ah σ.ch σ.chans,stars (σ.chans.map fun x=>lsV 2 x.q)])∨(v= .bool false∧ ∃ A,Jf A∧q=A:: [pto b0 (.cells [.pointer (some ⟨p,0,none⟩)].toArray 95 (0,0)),pto p (.cells [.bool true,.slice σ.ao σ.owners.length σ.co,.slice σ.ac σ.conds.length σ.cc,.slice σ.ah σ.chans.length σ.ch].toArray 176 (0,0)),lsH I64 3 σ.ao σ.co σ.owners,rsH cqs 1 191 σ.ac σ.cc σ.conds,stars (σ.conds.map (lsV 3)),rsH chs 3 180 σ.ah σ.ch σ.chans,stars (σ.chans.map fun x=>lsV 2 x.q)]))):
 CallF prog G 205 [.func (.yield y) #[] #[],.pointer (some ⟨b0,0,none⟩)] (J 0:: [pto b0 (.cells [.pointer (some ⟨p,0,none⟩)].toArray 95 (0,0)),pto p (.cells [.bool true,.slice σ.ao σ.owners.length σ.co,.slice σ.ac σ.conds.length σ.cc,.slice σ.ah σ.chans.length σ.ch].toArray 176 (0,0)),lsH I64 3 σ.ao σ.co σ.owners,rsH cqs 1 191 σ.ac σ.cc σ.conds,stars (σ.conds.map (lsV 3)),rsH chs 3 180 σ.ah σ.ch σ.chans,stars (σ.chans.map fun x=>lsV 2 x.q)]) (Ret fun _ q=>q=J (wl σ).length:: [pto b0 (.cells [.pointer (some ⟨p,0,none⟩)].toArray 95 (0,0)),pto p (.cells [.bool true,.slice σ.ao σ.owners.length σ.co,.slice σ.ac σ.conds.length σ.cc,.slice σ.ah σ.chans.length σ.ch].toArray 176 (0,0)),lsH I64 3 σ.ao σ.co σ.owners,rsH cqs 1 191 σ.ac σ.cc σ.conds,stars (σ.conds.map (lsV 3)),rsH chs 3 180 σ.ah σ.ch σ.chans,stars (σ.chans.map fun x=>lsV 2 x.q)]∨ ∃ A,Jf A∧q=A:: [pto b0 (.cells [.pointer (some ⟨p,0,none⟩)].toArray 95 (0,0)),pto p (.cells [.bool true,.slice σ.ao σ.owners.length σ.co,.slice σ.ac σ.conds.length σ.cc,.slice σ.ah σ.chans.length σ.ch].toArray 176 (0,0)),lsH I64 3 σ.ao σ.co σ.owners,rsH cqs 1 191 σ.ac σ.cc σ.conds,stars (σ.conds.map (lsV 3)),rsH chs 3 180 σ.ah σ.ch σ.chans,stars (σ.chans.map fun x=>lsV 2 x.q)]):=by
 refine CallF.of func205 ntmps205 rfl (fun F cs=> ?_)
 change X _ _ _ _ _ _ _ _ (J 0::pto b0 (.cells [.pointer (some ⟨p,0,none⟩)].toArray 95 (0,0))::pto p (.cells [.bool true,.slice σ.ao σ.owners.length σ.co,.slice σ.ac σ.conds.length σ.cc,.slice σ.ah σ.chans.length σ.ch].toArray 176 (0,0))::lsH I64 3 σ.ao σ.co σ.owners::rsH cqs 1 191 σ.ac σ.cc σ.conds::stars (σ.conds.map (lsV 3))::rsH chs 3 180 σ.ah σ.ch σ.chans::stars (σ.chans.map fun x=>lsV 2 x.q)::F)
 have hlen:=Zv (f:=cqs) (sz:=1) (fun _=>rfl) σ.conds
 have hsc:Sees (pto b0 (.cells [.pointer (some ⟨p,0,none⟩)].toArray 95 (0,0))::pto p (.cells [.bool true,.slice σ.ao σ.owners.length σ.co,.slice σ.ac σ.conds.length σ.cc,.slice σ.ah σ.chans.length σ.ch].toArray 176 (0,0))::lsH I64 3 σ.ao σ.co σ.owners::rsH cqs 1 191 σ.ac σ.cc σ.conds::stars (σ.conds.map (lsV 3))::rsH chs 3 180 σ.ah σ.ch σ.chans::stars (σ.chans.map fun x=>lsV 2 x.q)::F) σ.ac (σ.conds.flatMap cqs):=(Sees.rsH _).le leA
 have hsl: ∀ i (h:i<σ.conds.length),Sees (pto b0 (.cells [.pointer (some ⟨p,0,none⟩)].toArray 95 (0,0))::pto p (.cells [.bool true,.slice σ.ao σ.owners.length σ.co,.slice σ.ac σ.conds.length σ.cc,.slice σ.ah σ.chans.length σ.ch].toArray 176 (0,0))::lsH I64 3 σ.ao σ.co σ.owners::rsH cqs 1 191 σ.ac σ.cc σ.conds::stars (σ.conds.map (lsV 3))::rsH chs 3 180 σ.ah σ.ch σ.chans::stars (σ.chans.map fun x=>lsV 2 x.q)::F) σ.conds[i].a (σ.conds[i].l.map I64):=fun i h=>((Sees.lsH _).le (N1 (ty:=3) h))
 refine xj 2 ?_;refine ol 2 ?_;refine ox 4 ?_;refine X.at (X.loop (fun (s:Nat)=>s≤σ.conds.length) (fun s=> [(0,.func (.yield y) #[] #[]),(10,.slice σ.ac σ.conds.length σ.cc),(11,.int .i64 (σ.conds.length:Int)),(12,.int .i64 (s:Int))]) (fun s=>J (wK σ s)::pto b0 (.cells [.pointer (some ⟨p,0,none⟩)].toArray 95 (0,0))::pto p (.cells [.bool true,.slice σ.ao σ.owners.length σ.co,.slice σ.ac σ.conds.length σ.cc,.slice σ.ah σ.chans.length σ.ch].toArray 176 (0,0))::lsH I64 3 σ.ao σ.co σ.owners::rsH cqs 1 191 σ.ac σ.cc σ.conds::stars (σ.conds.map (lsV 3))::rsH chs 3 180 σ.ah σ.ch σ.chans::stars (σ.chans.map fun x=>lsV 2 x.q)::F) (fun s=>σ.conds.length - s) (fun s hi_ ih=> ?_) 0 (by omega)) Zu leA
 try dsimp only at hi_ ih⊢
 obtain hi:=hi_
 refine xx 5 ?_;refine X.part 13 rfl (fun h0=> ?_) (fun h0=> ?_)
 · have h0:=of_decide_eq_true h0;have hi0:s<σ.conds.length:=(by omega);have hx2:=hL _ (List.getElem_mem hi0)
   refine Yb (hsc.le (leA)) (by rw [hlen];omega) (fun b1 o1 e_=> ?_)
   rw [e_] at hsc;rw [e_]
   refine xo 7 ?_;refine Mh (n:=s) isAgg191 sizeOf191 hsc hi0 ?_
   refine XO.al zeroValue191 fun n1=> ?_
   refine stA ?_;refine ol 5 ?_;refine ox 4 ?_;refine X.at (X.loop (fun (n:Nat)=>n≤σ.conds[s].l.length) (fun n=> [(0,.func (.yield y) #[] #[]),(10,.slice (some ⟨b1,o1,none⟩) σ.conds.length σ.cc),(11,.int .i64 (σ.conds.length:Int)),(12,.int .i64 (s:Int)),(18,.slice σ.conds[s].a σ.conds[s].l.length σ.conds[s].c),(19,.int .i64 (σ.conds[s].l.length:Int)),(20,.int .i64 (n:Int))]) (fun n=>J (wK σ s+n)::pto b0 (.cells [.pointer (some ⟨p,0,none⟩)].toArray 95 (0,0))::pto p (.cells [.bool true,.slice σ.ao σ.owners.length σ.co,.slice (some ⟨b1,o1,none⟩) σ.conds.length σ.cc,.slice σ.ah σ.chans.length σ.ch].toArray 176 (0,0))::lsH I64 3 σ.ao σ.co σ.owners::rsH cqs 1 191 (some ⟨b1,o1,none⟩) σ.cc σ.conds::stars (σ.conds.map (lsV 3))::rsH chs 3 180 σ.ah σ.ch σ.chans::stars (σ.chans.map fun x=>lsV 2 x.q)::F) (fun n=>σ.conds[s].l.length - n) (fun n hi_ ih2=> ?_) 0 (by omega)) Zu leA
   try dsimp only at hi_ ih2⊢
   obtain hn1:=hi_
   refine xx 5 ?_;refine X.part 21 rfl (fun h1=> ?_) (fun h1=> ?_)
   · have h1:=of_decide_eq_true h1;have hn2:n<σ.conds[s].l.length:=(by omega)
     obtain ⟨hk,hg⟩:=wK_get hi0 hn2
     have hy2:=hy (wK σ s+n) (by simpa using hk)
     rw [show ((wl σ).map w1)[wK σ s+n]'(by simpa using hk)=w1 σ.conds[s].l[n] by rw [List.getElem_map];congr 1;exact Option.some.inj ((List.getElem?_eq_getElem hk).symm.trans hg)] at hy2
     rw [e_] at hy2;have hsi:=hsl s hi0;rw [e_] at hsi
     refine Yb (hsi.le leA) (by simp;omega) (fun b2 o2 e2=> ?_);rw [e2] at hsi;rw [e2]
     refine xj 7 ?_;refine oo 6 ?_;refine XO.cV hy2 ?_;rintro _ _ (⟨rfl,rfl⟩|⟨rfl,A,hA,rfl⟩) _ e_1<;>simp only [ca,na] at e_1<;>subst e_1
     · refine XO.pu (Pu.not rfl) ?_;refine ox 1 ?_;refine kx 27 7 ?_
       rw [←e2]
       refine X.at (ih2 (n+1) (by omega) (by omega)) Zu leA
     refine XO.pu (Pu.not rfl) ?_;refine ox 1 ?_;refine X.kt 27 ?_;refine xx 1 ?_;refine Zq (A:: [pto b0 (.cells [.pointer (some ⟨p,0,none⟩)].toArray 95 (0,0)),pto p (.cells [.bool true,.slice σ.ao σ.owners.length σ.co,.slice (some ⟨b1,o1,none⟩) σ.conds.length σ.cc,.slice σ.ah σ.chans.length σ.ch].toArray 176 (0,0)),lsH I64 3 σ.ao σ.co σ.owners,rsH cqs 1 191 (some ⟨b1,o1,none⟩) σ.cc σ.conds,stars (σ.conds.map (lsV 3)),rsH chs 3 180 σ.ah σ.ch σ.chans,stars (σ.chans.map fun x=>lsV 2 x.q)]) func205 (Vx results205) ⟨_,rfl,.inr ⟨A,hA,rfl⟩⟩
   have h1:=of_decide_eq_false h1;obtain rfl:n=σ.conds[s].l.length:=by omega
   refine xx 7 ?_
   rw [←wK_step hi0,←e_]
   refine X.at (ih (s+1) (by omega) (by omega)) Zu leA
 have h0:=of_decide_eq_false h0;obtain rfl:s=σ.conds.length:=by omega
 refine xx 2 ?_
 rw [show wK σ σ.conds.length=(wl σ).length by unfold wK wl;rw [List.take_length]]
 refine Z7 (J (wl σ).length:: [pto b0 (.cells [.pointer (some ⟨p,0,none⟩)].toArray 95 (0,0)),pto p (.cells [.bool true,.slice σ.ao σ.owners.length σ.co,.slice σ.ac σ.conds.length σ.cc,.slice σ.ah σ.chans.length σ.ch].toArray 176 (0,0)),lsH I64 3 σ.ao σ.co σ.owners,rsH cqs 1 191 σ.ac σ.cc σ.conds,stars (σ.conds.map (lsV 3)),rsH chs 3 180 σ.ah σ.ch σ.chans,stars (σ.chans.map fun x=>lsV 2 x.q)]) func205 (Vx results205) ⟨_,rfl,.inl rfl⟩
theorem Ey (hC:σ.conds.length≤1000)(hL: ∀ x∈σ.conds,x.l.length≤100000):Iter prog G (.func (.func 205) [].toArray [.pointer (some ⟨b0,0,none⟩)].toArray) ((wl σ).map w1) [pto b0 (.cells [.pointer (some ⟨p,0,none⟩)].toArray 95 (0,0)),pto p (.cells [.bool true,.slice σ.ao σ.owners.length σ.co,.slice σ.ac σ.conds.length σ.cc,.slice σ.ah σ.chans.length σ.ch].toArray 176 (0,0)),lsH I64 3 σ.ao σ.co σ.owners,rsH cqs 1 191 σ.ac σ.cc σ.conds,stars (σ.conds.map (lsV 3)),rsH chs 3 180 σ.ah σ.ch σ.chans,stars (σ.chans.map fun x=>lsV 2 x.q)]:=by
 intro y J Jf hy
 have:=CallV.c11 call205 (Fi (G:=G) (b0:=b0) (p:=p) (σ:=σ) (J:=J) (Jf:=Jf) hC hL hy)
 rw [List.length_map];exact this
theorem C8:CallF prog G 194 [.pointer (some ⟨p,0,none⟩)] (q) (Ret fun v q'=> ∃ b0,v= .func (.func 205) [].toArray [.pointer (some ⟨b0,0,none⟩)].toArray∧q'=pto b0 (.cells [.pointer (some ⟨p,0,none⟩)].toArray 95 (0,0))::q):=by
 refine CallF.of func194 ntmps194 rfl (fun F cs=> ?_)
 refine xo 2 ?_;refine Y2 fun n1=> ?_
 refine ox 7 ?_;refine Zq (pto n1 (.cells [.pointer (some ⟨p,0,none⟩)].toArray 95 (0,0))::q) func194 (Zm results194 rfl) ⟨_,rfl,n1,rfl,rfl⟩
theorem Real.wl_mem {σ:SyC}{s:Sy}(hR:Real σ s)(t:Int):t∈wl σ↔ ∃ l∈s.conds,t∈l:=by
 rw [←hR.c];unfold wl;simp only [List.mem_flatMap,List.mem_map]
 exact ⟨fun ⟨x,hx,h⟩=>⟨_,⟨x,hx,rfl⟩,h⟩,fun ⟨_,⟨x,hx,rfl⟩,h⟩=>⟨x,hx,h⟩⟩
theorem Wait_ok (hR:Real σ s){N:Nat}(hs:s.ok N)(hN:N≤1000):CallF prog G 171 [.pointer (some ⟨p,0,none⟩),.int .i64 k,.int .i64 t] ((syL p σ)) (Ret fun v q'=> ∃ σ',Real σ' (Ul s k t).1∧v= .int .i64 (Ul s k t).2∧q'=syL p σ'):=by
 refine CallF.of func171 ntmps171 rfl (fun F cs=> ?_)
 have ho:=hR.lo;have hc:=hR.lc;have hh:=hR.lh;have hno:=hs.no;have hnc:=hs.nc;have hnh:=hs.nh
 change X _ _ _ _ _ _ _ _ (pto p (.cells [.bool true,.slice σ.ao σ.owners.length σ.co,.slice σ.ac σ.conds.length σ.cc,.slice σ.ah σ.chans.length σ.ch].toArray 176 (0,0))::lsH I64 3 σ.ao σ.co σ.owners::rsH cqs 1 191 σ.ac σ.cc σ.conds::stars (σ.conds.map (lsV 3))::rsH chs 3 180 σ.ah σ.ch σ.chans::stars (σ.chans.map fun x=>lsV 2 x.q)::F)
 rcases Decidable.em (inR k σ.conds.length) with hr|hr
 focus
  have hr':inR k s.conds.length:=by rw [←hc];exact hr
  obtain ⟨i,rfl⟩:=Int.eq_ofNat_of_zero_le hr.1;have hi:i<σ.conds.length:=(by have:=hr.2;omega)
  rcases Decidable.em (thr t) with hg|hg
  · have hlen:=hs.lenC hR hi hN;have hcl:=hR.cl hi
    refine Yk (l:=σ.conds) (by omega) (fun g e_=> ?_);rw [e_]
    refine xo 2 ?_;refine Y2 fun n1=> ?_
    refine XO.al zeroValue34 fun n2=> ?_
    refine ox 2 ?_;refine drw ?_;refine dl [0,1,3] 4 ?_;refine Y0 2 call88 (Vu (p:=p) (a:=(some ⟨g,0,none⟩)) (n:=σ.conds.length) (c:=σ.cc) clA clA) ?_
    refine Y0 5 call87 (I9 (p:=p) clA (by omega) hi hg) ?_
    refine dd [6,7,8,9,10] ?_;refine XD.nil ?_;refine xx 6 ?_;refine Wp 20 ?_;refine xo 6 ?_;refine Vd call194 (C8 (q:= []) (p:=p)) ?_
    rintro _ _ ⟨b0,rfl,rfl⟩ _ e_;simp only [ca,na] at e_;subst e_
    refine ox 2 ?_
    have hLC: ∀ x∈σ.conds,x.l.length≤100000:=fun x hx=>by obtain ⟨j,hj,rfl⟩:=List.mem_iff_getElem.1 hx;have:=hs.lenC hR hj hN;omega
    refine X.range [pto b0 (.cells [.pointer (some ⟨p,0,none⟩)].toArray 95 (0,0)),pto p (.cells [.bool true,.slice σ.ao σ.owners.length σ.co,.slice (some ⟨g,0,none⟩) σ.conds.length σ.cc,.slice σ.ah σ.chans.length σ.ch].toArray 176 (0,0)),lsH I64 3 σ.ao σ.co σ.owners,rsH cqs 1 191 (some ⟨g,0,none⟩) σ.cc σ.conds,stars (σ.conds.map (lsV 3)),rsH chs 3 180 σ.ah σ.ch σ.chans,stars (σ.chans.map fun x=>lsV 2 x.q)] (fun k:Nat=> [Wx.pure (∀ m (h:m<(wl σ).length),m<k→(wl σ)[m]≠t),pto n1 (.cells [.int .i64 t].toArray 3 (0,0)),pto n2 (.cells [.int .i64 0].toArray 34 (0,0))]) (fun e qs=>e= .ret∧t∈wl σ∧qs= [pto n1 (.cells [.int .i64 t].toArray 3 (0,0)),pto n2 (.cells [.int .i64 141].toArray 34 (0,0))]) (F:=F) (Ey (σ:= { σ with ac:=(some ⟨g,0,none⟩) }) (by show σ.conds.length≤_;omega) hLC) rfl ?_ (by intro x hx;obtain ⟨y,_,rfl⟩:=List.mem_map.1 hx;rfl) rfl (by rw [func171];rfl) rfl (fun j hj l2 rec F0 cs0=> ?_) (fun r=> ?_) (fun r c2 qs2 hJ=> ?_)
    · simp only [ca,na];refine Le.trans ?_ (Qy (fun j h hj=>by omega) _);exact leA
    · have hjl:j<(wl σ).length:=by have h:=hj;rw [List.length_map] at h;exact h
      rw [show ((wl { σ with ac:=some ⟨g,0,none⟩ }).map w1)[j]'hj=w1 (wl σ)[j] from List.getElem_map ..]
      refine X.sub (p':= [(24,_),(23,_),(7,_),(6,_),(5,_)]) ⟨rfl,rfl,rfl,rfl,rfl,trivial⟩ ?_
      simp only [ca,na]
      refine X.le (q':=Wx.pure (∀ m (h:m<(wl σ).length),m<j→(wl σ)[m]≠t)::lp rec l2 .ready none::_) leA (X.pure (fun hP=> ?_))
      refine xx 3 ?_;refine X.beginRound rfl leA ?_;refine xj 4 ?_;refine ox 2 ?_;refine X.part 27 rfl (fun h0=> ?_) (fun h0=> ?_)
      · have h0:(wl σ)[j]=t:=by simpa using h0
        refine xo 3 ?_;refine st ?_;refine ox 1 ?_;refine X.ret ⟨rfl,rfl,_,⟨rfl,h0 ▸ List.getElem_mem hjl,rfl⟩,?_⟩
        simp only [ca,na]
        exact leA
      have h0:(wl σ)[j]≠t:=by simpa using h0
      refine xx 3 ?_;refine X.fall ⟨rfl,rfl,?_⟩
      simp only [ca,na]
      have hP2:(∀ m (h:m<(wl σ).length),m<(j+1)→(wl σ)[m]≠t):=fun k h hk=>(Nat.lt_or_ge k j).elim (hP k h) (fun h1=>by have hkj:k=j:=(by omega);subst hkj;exact h0)
      refine Le.pick Zk (Le.trans ?_ (Qy hP2 _));exact leA
    · simp only [ca,na,List.length_map]
      refine X.le (q':=Wx.pure (∀ m (h:m<(wl σ).length),m<(wl σ).length→(wl σ)[m]≠t)::_) Zk (X.pure (fun hP=> ?_))
      have hno: ¬∃ l∈s.conds,t∈l:=by rw [←hR.wl_mem];intro hm;obtain ⟨j,hj,e⟩:=List.mem_iff_getElem.1 hm;exact hP j hj hj e
      refine X.le (N1 (l:=σ.conds) hi) ?_
      refine xx 2 ?_;refine drw ?_;refine dl [0,1,2] 3 ?_;refine XD.know 30 (.pointer (some ⟨g,i*1,none⟩)) rfl (by simp) ?_
      refine Un 4 call195 (put_ok (f:=cqs) (sz:=1) (ty:=191) (l:=σ.conds) (i:=i) (t:=t) (m:=σ.conds[i].l) (a:=σ.conds[i].a) (c:=σ.conds[i].c) (u:=fun a c=>⟨a,c,σ.conds[i].l++ [t]⟩) hi (fun _=>rfl) rfl rfl (by omega) (fun _ _=>rfl)) ?_
      rintro _ _ ⟨a2,c2,rfl⟩ _ e_;simp only [ca,na] at e_;subst e_
      refine ⟨trivial,?_⟩
      refine XD.nil ?_;refine xo 2 ?_;refine st ?_;refine ox 1 ?_;refine X.le (Ns hi (a:=a2) (c:=c2) (m:=σ.conds[i].l++ [t])) ?_
      rw [show Ul s (i:Int) t=({ s with conds:=s.conds.set i (σ.conds[i].l++ [t]) },0) from (if_pos hr').trans ((if_pos hg).trans ((if_neg hno).trans (by rw [←hcl];rfl)))]
      refine X.ret ⟨rfl,Dz ?_⟩
      exact Lv.ret (q':= [pto p (.cells [.bool true,.slice σ.ao σ.owners.length σ.co,.slice (some ⟨g,0,none⟩) σ.conds.length σ.cc,.slice σ.ah σ.chans.length σ.ch].toArray 176 (0,0)),lsH I64 3 σ.ao σ.co σ.owners,rsH cqs 1 191 (some ⟨g,0,none⟩) σ.cc (σ.conds.set i ⟨a2,c2,σ.conds[i].l++ [t]⟩),stars ((σ.conds.set i ⟨a2,c2,σ.conds[i].l++ [t]⟩).map (lsV 3)),rsH chs 3 180 σ.ah σ.ch σ.chans,stars (σ.chans.map fun x=>lsV 2 x.q)]) func171 (Rs results171 (ResOk.cell rfl (LV.cell isAgg34 clA) ResOk.nil)) ⟨_,rfl, { σ with ac:=(some ⟨g,0,none⟩),conds:=σ.conds.set i ⟨a2,c2,σ.conds[i].l++ [t]⟩ },hR.setC i ⟨a2,c2,σ.conds[i].l++ [t]⟩ _,rfl,by unfold syL;simp⟩ leA
    obtain ⟨rfl,hm,rfl⟩:=hJ;simp only [ca,na]
    rw [show Ul s (i:Int) t=(s,141) from (if_pos hr').trans ((if_pos hg).trans (if_pos ((hR.wl_mem t).1 hm)))]
    refine X.ret ⟨rfl,Dz ?_⟩
    exact Lv.ret (q':= [pto p (.cells [.bool true,.slice σ.ao σ.owners.length σ.co,.slice (some ⟨g,0,none⟩) σ.conds.length σ.cc,.slice σ.ah σ.chans.length σ.ch].toArray 176 (0,0)),lsH I64 3 σ.ao σ.co σ.owners,rsH cqs 1 191 (some ⟨g,0,none⟩) σ.cc σ.conds,stars (σ.conds.map (lsV 3)),rsH chs 3 180 σ.ah σ.ch σ.chans,stars (σ.chans.map fun x=>lsV 2 x.q)]) func171 (Rs results171 (ResOk.cell rfl (LV.cell isAgg34 clA) ResOk.nil)) ⟨_,rfl,σ,hR,rfl,by unfold syL;rw [e_]⟩ leA
  refine xo 2 ?_;refine Y2 fun n1=> ?_
  refine XO.al zeroValue34 fun n2=> ?_
  refine ox 2 ?_;refine drw ?_;refine dl [0,1,3] 4 ?_;refine Y0 2 call88 (Vu (p:=p) (a:=σ.ac) (n:=σ.conds.length) (c:=σ.cc) clA clA) ?_
  refine Y0 5 call87 (A9 (p:=p) clA (by omega) hi hg) ?_
  refine dd [6,7,8,9,10] ?_;refine XD.nil ?_;refine xx 6 ?_;refine X.kt 20 ?_;refine xo 4 ?_;refine st ?_;refine ox 1 ?_
  rw [show Ul s _ t=(s,2) from (if_pos hr').trans (if_neg hg)]
 rotate_left
 focus
  have hr': ¬inR k s.conds.length:=by rw [←hc];exact hr
  refine xo 2 ?_;refine Y2 fun n1=> ?_
  refine XO.al zeroValue34 fun n2=> ?_
  refine ox 2 ?_;refine drw ?_;refine dl [0,1,3] 4 ?_;refine Y0 2 call88 (Vu (p:=p) (a:=σ.ac) (n:=σ.conds.length) (c:=σ.cc) clA clA) ?_
  refine Y0 5 call87 (A8 (p:=p) clA (by omega) hr) ?_
  refine dd [6,7,8,9,10] ?_;refine XD.nil ?_;refine xx 6 ?_;refine X.kt 20 ?_;refine xo 4 ?_;refine st ?_;refine ox 1 ?_
  rw [show Ul s _ t=(s,4) from if_neg hr']
 all_goals
  refine Zq [pto p (.cells [.bool true,.slice σ.ao σ.owners.length σ.co,.slice σ.ac σ.conds.length σ.cc,.slice σ.ah σ.chans.length σ.ch].toArray 176 (0,0)),lsH I64 3 σ.ao σ.co σ.owners,rsH cqs 1 191 σ.ac σ.cc σ.conds,stars (σ.conds.map (lsV 3)),rsH chs 3 180 σ.ah σ.ch σ.chans,stars (σ.chans.map fun x=>lsV 2 x.q)] func171 (Rs results171 (ResOk.cell rfl (LV.cell isAgg34 clA) ResOk.nil)) ⟨_,rfl,σ,hR,rfl,rfl⟩
end
theorem Dt {α:Type}(h:α→HP)(l:List α)(hx: ∀ x∈l,∀ q,Le q (h x::q))(q:List HP):Le q (stars (l.map h)::q):=by
 induction l with
 |nil=>exact W1 q
 |cons x r ih=>exact (ih fun y hy=>hx y (List.mem_cons_of_mem _ hy)).trans ((hx x (List.mem_cons_self ..) _).trans (V4 _ _ q))
theorem T9 {α:Type}(f d:List α)(i:Nat)(x:α)(hf:f.length=i)(hd:0<d.length):(f++d).set i x=(f++ [x])++d.drop 1:=by
 subst hf
 cases d with
 |nil=>simp at hd
 |cons y r=>simp
section
variable {G:World}{q:List HP}{a b:Option Addr}{c d g p p2 i n:Nat}{σ σ2:SyC}{s s2:Sy}{k t v m at_ number:Int}
def sameS (s t:Sy):Prop:=s.owners=t.owners∧s.conds=t.conds∧s.chans.map Ch.row=t.chans.map Ch.row
instance (s t:Sy):Decidable (sameS s t):=by unfold sameS;exact inferInstance
end
end Go.Proofs.YtflkjkhijcdbaaaGreat
