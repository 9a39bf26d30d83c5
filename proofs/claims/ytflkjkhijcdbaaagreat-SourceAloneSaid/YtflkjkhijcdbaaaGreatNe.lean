/- Contracts. -/
import Derived.Test.YtflkjkhijcdbaaaGreatNd
set_option maxHeartbeats 16000000
set_option maxRecDepth 100000
set_option linter.all false
namespace Go.Proofs.YtflkjkhijcdbaaaGreat
open Go Go.RowKit Wx Go.Proofs.Tryz
variable {G:World}{q r:List HP}{a b:Option Addr}{c d g i p n N p2:Nat}{l:List (SlV Int)}{m rooms:List Int}{t k at_ number:Int}{v:Value}{U σ2:SyC}{s s2:Sy}
section
variable {l:List Int}
theorem Ku {l:List Int}(hs:Sees q a (l.map I64))(hL:l.length<=1000000000):CallF prog G 70 [.slice a l.length c] (q) (Ret fun v q'=> ∃ a' c',v= .slice a' l.length c'/\q'=lsH I64 3 a' c' l::q):=by
 refine aC func70 ntmps70 rfl fun F k=> ?_;rcases dK l.length with b|b
 . obtain rfl:=aK b;refine xx 10 ?_;refine dR 4 rfl ?_ ?_<;>intro j
   . refine xx 5 ?_;refine Zq (lsH I64 3 none 0 []::q) func70 (Zn results70 rfl) ⟨_,rfl,none,0,rfl,rfl⟩ ((leA).trans (Za _ _ _))
   refine xo 4 ?_;refine bQ (J4 I64 underlying22 fN) ?_;rintro _ _ ⟨g,rfl,rfl⟩;refine oo 1 ?_;refine bQ (Yx (f:=I64) (l:= []) (m:= []) underlying22 fN rfl rfl rfl Zk (hs.le leA) (fun _=>rfl) (by simp;try omega) (by simp;try omega)) ?_;rintro _ _ ⟨e,d,rfl,rfl⟩;refine ox 2 ?_;refine Zq (lsH I64 3 e d []::q) func70 (Zn results70 rfl) ⟨_,rfl,e,d,by simp,rfl⟩
 refine Yd hs (by simp;omega) fun n i h=> ?_;subst h;refine rn [10,1004,4] ?_;refine bQ (J4 I64 underlying22 fN) ?_;rintro _ _ ⟨g,rfl,rfl⟩;refine oo 1 ?_;refine bQ (Yx (f:=I64) (l:= []) (m:=l) underlying22 fN rfl rfl rfl Zk (hs.le leA) (fun _=>rfl) (by simp;try omega) (by simp;try omega)) ?_;rintro _ _ ⟨e,d,rfl,rfl⟩;refine ox 2 ?_;refine Zq (lsH I64 3 e d l::q) func70 (Zn results70 rfl) ⟨_,rfl,e,d,by simp,rfl⟩
theorem Qb {l:List Int}(hs:Sees q a (l.map I64))(hL:l.length<=1000000000):CallF prog G 50 [.slice a l.length c] (q) (Ret fun v q'=> ∃ a' c',v= .slice a' l.length c'/\q'=lsH I64 2 a' c' l::q):=by
 refine aC func50 ntmps50 rfl fun F k=> ?_;rcases dK l.length with b|b
 . obtain rfl:=aK b;refine xx 10 ?_;refine dR 4 rfl ?_ ?_<;>intro j
   . refine xx 5 ?_;refine Zq (lsH I64 2 none 0 []::q) func50 (Zn results50 rfl) ⟨_,rfl,none,0,rfl,rfl⟩ ((leA).trans (Za _ _ _))
   refine xo 4 ?_;refine bQ (J4 I64 underlying23 jB) ?_;rintro _ _ ⟨g,rfl,rfl⟩;refine oo 1 ?_;refine bQ (Yx (f:=I64) (l:= []) (m:= []) underlying23 jB rfl rfl rfl Zk (hs.le leA) (fun _=>rfl) (by simp;try omega) (by simp;try omega)) ?_;rintro _ _ ⟨e,d,rfl,rfl⟩;refine ox 2 ?_;refine Zq (lsH I64 2 e d []::q) func50 (Zn results50 rfl) ⟨_,rfl,e,d,by simp,rfl⟩
 refine Yd hs (by simp;omega) fun n i h=> ?_;subst h;refine rn [10,1004,4] ?_;refine bQ (J4 I64 underlying23 jB) ?_;rintro _ _ ⟨g,rfl,rfl⟩;refine oo 1 ?_;refine bQ (Yx (f:=I64) (l:= []) (m:=l) underlying23 jB rfl rfl rfl Zk (hs.le leA) (fun _=>rfl) (by simp;try omega) (by simp;try omega)) ?_;rintro _ _ ⟨e,d,rfl,rfl⟩;refine ox 2 ?_;refine Zq (lsH I64 2 e d l::q) func50 (Zn results50 rfl) ⟨_,rfl,e,d,by simp,rfl⟩
theorem Zz9 {l:List (SlV Int)}(hs:Sees q a (l.flatMap cqs))(hL:l.length<=1000000000):CallF prog G 107 [.slice a l.length c] (q) (Ret fun v q'=> ∃ a' c',v= .slice a' l.length c'/\q'=rsH cqs 1 191 a' c' l::q):=by
 refine aC func107 ntmps107 rfl fun F n=> ?_;rcases dK l.length with d|d
 . obtain rfl:=aK d;refine xx 10 ?_;refine dR 4 rfl ?_ ?_<;>intro k
   . refine xx 5 ?_;refine Zq (rsH cqs 1 191 none 0 []::q) func107 (Zn results107 rfl) ⟨_,rfl,none,0,rfl,rfl⟩ ((leA).trans (Zi _ _ _ _))
   refine xo 4 ?_;refine bQ (Qs cqs underlying173 gW) ?_;rintro _ _ ⟨g,rfl,rfl⟩;refine oo 1 ?_;refine bQ (Z9 (l:= []) (m:= []) underlying173 gW rfl rfl (fun _=>rfl) rfl rfl Zk (hs.le leA) (fun _=>rfl) (by simp;try omega) (by simp;try omega)) ?_;rintro _ _ ⟨h,e,rfl,rfl⟩;refine ox 2 ?_;refine Zq (rsH cqs 1 191 h e []::q) func107 (Zn results107 rfl) ⟨_,rfl,h,e,by simp,rfl⟩
 have b:=Zx (f:=cqs) (sz:=1) (fun _=>rfl) l;refine Yd hs (by rw [b];omega) fun o j i=> ?_;subst i;refine rn [10,1004,4] ?_;refine bQ (Qs cqs underlying173 gW) ?_;rintro _ _ ⟨g,rfl,rfl⟩;refine oo 1 ?_;refine bQ (Z9 (l:= []) (m:=l) underlying173 gW rfl rfl (fun _=>rfl) rfl rfl Zk (hs.le leA) (fun _=>rfl) (by simp;try omega) (by simp;try omega)) ?_;rintro _ _ ⟨h,e,rfl,rfl⟩;refine ox 2 ?_;refine Zq (rsH cqs 1 191 h e l::q) func107 (Zn results107 rfl) ⟨_,rfl,h,e,by simp,rfl⟩
theorem Zz8 {l:List ChC}(hs:Sees q a (l.flatMap chs))(hL:l.length<=1000000000):CallF prog G 108 [.slice a l.length c] (q) (Ret fun v q'=> ∃ a' c',v= .slice a' l.length c'/\q'=rsH chs 3 180 a' c' l::q):=by
 refine aC func108 ntmps108 rfl fun F n=> ?_;rcases dK l.length with d|d
 . obtain rfl:=aK d;refine xx 10 ?_;refine dR 4 rfl ?_ ?_<;>intro k
   . refine xx 5 ?_;refine Zq (rsH chs 3 180 none 0 []::q) func108 (Zn results108 rfl) ⟨_,rfl,none,0,rfl,rfl⟩ ((leA).trans (Zi _ _ _ _))
   refine xo 4 ?_;refine bQ (Qs chs underlying174 fQ) ?_;rintro _ _ ⟨g,rfl,rfl⟩;refine oo 1 ?_;refine bQ (Z9 (l:= []) (m:= []) underlying174 fQ rfl rfl (fun _=>rfl) rfl rfl Zk (hs.le leA) (fun _=>rfl) (by simp;try omega) (by simp;try omega)) ?_;rintro _ _ ⟨h,e,rfl,rfl⟩;refine ox 2 ?_;refine Zq (rsH chs 3 180 h e []::q) func108 (Zn results108 rfl) ⟨_,rfl,h,e,by simp,rfl⟩
 have b:=Zx (f:=chs) (sz:=3) (fun _=>rfl) l;refine Yd hs (by rw [b];omega) fun o j i=> ?_;subst i;refine rn [10,1004,4] ?_;refine bQ (Qs chs underlying174 fQ) ?_;rintro _ _ ⟨g,rfl,rfl⟩;refine oo 1 ?_;refine bQ (Z9 (l:= []) (m:=l) underlying174 fQ rfl rfl (fun _=>rfl) rfl rfl Zk (hs.le leA) (fun _=>rfl) (by simp;try omega) (by simp;try omega)) ?_;rintro _ _ ⟨h,e,rfl,rfl⟩;refine ox 2 ?_;refine Zq (rsH chs 3 180 h e l::q) func108 (Zn results108 rfl) ⟨_,rfl,h,e,by simp,rfl⟩
end
section
variable {α:Type}{f:α->List Value}{sz ty:Nat}{c0:Nat}{l:List α}{u:Option Addr->Nat->α}
theorem Om (hs:Sees q (some ⟨g,0,none⟩) (m.map I64))(hi:i<m.length):Cl q ⟨g,i*1,none⟩ (I64 m[i]):=by
 have:=hs.cl (i:=i) (u:=I64 m[i]) (by simp [hi]);simpa using this
theorem Cl.at {o:Nat}{y:α}{k:Nat}(hs:Sees q (some ⟨g,0,none⟩) (l.flatMap f))(hf: ∀ x,(f x).length=sz)(hi:l[i]? =some y)(hk:k<sz)(hv:(f y)[k]? =some v)(ho:o=i*sz+k):Cl q ⟨g,o,none⟩ v:=by
 subst ho;have:=hs.cl (i:=i*sz+k) (u:=v) (by rw [He hf l i k y hk hi];exact hv);simpa using this
abbrev fZ:=@Cl.at
abbrev AI (v0:Option Addr)(v1:List Int)(v2:Nat):=((.slice v0 v1.length v2):Value)
theorem put_ok (hi:i<l.length)(hf: ∀ x,(f x).length=sz)(hk:(f l[i])[0]? =some (AI a m c))(hz:Nat.blt 0 sz=true)(hm:m.length<=1000000)(hu: ∀ a' c',(f l[i]).set 0 (.slice a' (m++ [t]).length c')=f (u a' c')):CallF prog G 195 [.pointer (some ⟨g,i*sz,none⟩),I64 t] ([rsH f sz ty (some ⟨g,0,none⟩) c0 l,lsH I64 3 a c m]) (Ret fun v q'=> ∃ a' c',q'= [rsH f sz ty (some ⟨g,0,none⟩) c0 (l.set i (u a' c')),lsH I64 3 a' c' (m++ [t])]):=by
 refine aC func195 ntmps195 rfl fun F q=> ?_;have e:0<sz:=by simpa [dY] using hz
 have o:Sees (rsH f sz ty (some ⟨g,0,none⟩) c0 l::lsH I64 3 a c m::F) (some ⟨g,0,none⟩) (l.flatMap f):=bE _;have h:Cl (rsH f sz ty (some ⟨g,0,none⟩) c0 l::lsH I64 3 a c m::F) ⟨g,i*sz,none⟩ (AI a m c):=fZ o hf (aD hi) e hk (by omega);change X _ _ _ _ _ _ _ _ (rsH f sz ty (some ⟨g,0,none⟩) c0 l::lsH I64 3 a c m::F);refine xo 5 ?_;refine ld ?_ (hc:=h);refine oo 1 ?_;refine bQ (U3 (u:=t) I64 underlying22 fN rfl rfl) ?_;rintro _ _ ⟨p,rfl,rfl⟩;refine bQ (Yx (f:=I64) (l:=m) (m:= [t]) underlying22 fN rfl rfl rfl Zk ((bR _).le leA) (fun _=>rfl) (by simp;omega) (by simp;omega)) ?_;rintro _ _ ⟨d,b,rfl,rfl⟩;refine oo 2 ?_;refine dJ (Yr (g:=g) (f:=f) (l:=l) (u:=(u d b)) (n:=i) (k:=0) (j:=(i:Int)) (by simp [evp,lkp]) rfl sizeOf22 hf rfl hi hz (hu _ _) rfl rfl Zk) ?_;rintro _ _ ⟨rfl,rfl⟩;refine ox 1 ?_;refine Z7 [rsH f sz ty (some ⟨g,0,none⟩) c0 (l.set i (u d b)),lsH I64 3 d b (m++ [t])] func195 (Vm results195) ⟨_,rfl,d,b,rfl⟩
abbrev AX (v0:Nat)(v1:Nat)(v2:Nat):=([.pointer (some ⟨v0,v1*v2,none⟩)]:List Value)
theorem all_ok (hi:i<l.length)(hf: ∀ x,(f x).length=sz)(hk:(f l[i])[0]? =some (AI a m c))(hz:Nat.blt 0 sz=true)(hm:m.length<=1000000):CallF prog G 89 (AX g i sz) ([rsH f sz ty (some ⟨g,0,none⟩) c0 l,lsH I64 3 a c m]) (Ret fun v q'=> ∃ a' c',v= .slice a' m.length c'/\q'= [lsH I64 3 a' c' m,rsH f sz ty (some ⟨g,0,none⟩) c0 l,lsH I64 3 a c m]):=by
 refine aC func89 ntmps89 rfl fun F k=> ?_;have b:0<sz:=by simpa [dY] using hz
 have j:Sees (rsH f sz ty (some ⟨g,0,none⟩) c0 l::lsH I64 3 a c m::F) (some ⟨g,0,none⟩) (l.flatMap f):=bE _;have d:Cl (rsH f sz ty (some ⟨g,0,none⟩) c0 l::lsH I64 3 a c m::F) ⟨g,i*sz,none⟩ (AI a m c):=fZ j hf (aD hi) b hk (by omega);change X _ _ _ _ _ _ _ _ (rsH f sz ty (some ⟨g,0,none⟩) c0 l::lsH I64 3 a c m::F);refine xo 9 ?_;refine ld ?_ (hc:=d);refine Zb call70 (aE _) (Ku (a:=a) (c:=c) (l:=m) ((bR _).le leA) (by omega)) ?_;rintro _ _ ⟨h,e,rfl,rfl⟩;refine ox 2 ?_;refine Zq [lsH I64 3 h e m,rsH f sz ty (some ⟨g,0,none⟩) c0 l,lsH I64 3 a c m] func89 (Zn results89 rfl) ⟨_,rfl,h,e,rfl,rfl⟩
theorem take_no (hi:i<l.length)(hf: ∀ x,(f x).length=sz)(hk:(f l[i])[0]? =some (AI a m c))(hz:Nat.blt 0 sz=true)(hm:m.length<=1000000)(he:m= []):CallF prog G 196 (AX g i sz) ([rsH f sz ty (some ⟨g,0,none⟩) c0 l,lsH I64 3 a c m]) (Ret fun v q'=>v= .tuple [I64 0,.bool false].toArray/\q'= [rsH f sz ty (some ⟨g,0,none⟩) c0 l,lsH I64 3 a c m]):=by
 refine aC func196 ntmps196 rfl fun F j=> ?_;have b:0<sz:=by simpa [dY] using hz
 have e:Sees (rsH f sz ty (some ⟨g,0,none⟩) c0 l::lsH I64 3 a c m::F) (some ⟨g,0,none⟩) (l.flatMap f):=bE _;have d:Cl (rsH f sz ty (some ⟨g,0,none⟩) c0 l::lsH I64 3 a c m::F) ⟨g,i*sz,none⟩ (AI a m c):=fZ e hf (aD hi) b hk (by omega);change X _ _ _ _ _ _ _ _ (rsH f sz ty (some ⟨g,0,none⟩) c0 l::lsH I64 3 a c m::F);have h:m.length=0:=by rw [he];rfl
 refine xo 15 ?_;refine ld ?_ (hc:=d);refine ox 3 ?_;refine X.kt 11 ?_ rfl (by simp [h]);refine xx 7 ?_;refine Zq [rsH f sz ty (some ⟨g,0,none⟩) c0 l,lsH I64 3 a c m] func196 (Wu results196 rfl rfl) ⟨_,rfl,rfl,rfl⟩
theorem take_ok (hi:i<l.length)(hf: ∀ x,(f x).length=sz)(hk:(f l[i])[0]? =some (AI a m c))(hz:Nat.blt 0 sz=true)(hm:m.length<=1000000)(he:m≠ [])(hu: ∀ a' c',(f l[i]).set 0 (.slice a' (m.drop 1).length c')=f (u a' c')):CallF prog G 196 (AX g i sz) ([rsH f sz ty (some ⟨g,0,none⟩) c0 l,lsH I64 3 a c m]) (Ret fun v q'=> ∃ a' c',v= .tuple [I64 (m.headD 0),.bool true].toArray/\q'= [rsH f sz ty (some ⟨g,0,none⟩) c0 (l.set i (u a' c')),lsH I64 3 a' c' (m.drop 1)]):=by
 refine aC func196 ntmps196 rfl fun F cs=> ?_;have y:0<sz:=by simpa [dY] using hz
 have z:Sees (rsH f sz ty (some ⟨g,0,none⟩) c0 l::lsH I64 3 a c m::F) (some ⟨g,0,none⟩) (l.flatMap f):=bE _;have e:Cl (rsH f sz ty (some ⟨g,0,none⟩) c0 l::lsH I64 3 a c m::F) ⟨g,i*sz,none⟩ (AI a m c):=fZ z hf (aD hi) y hk (by omega);change X _ _ _ _ _ _ _ _ (rsH f sz ty (some ⟨g,0,none⟩) c0 l::lsH I64 3 a c m::F);obtain ⟨h,b,rfl⟩: ∃ x r,m=x::r:=by cases m with|nil=>exact aR rfl he|cons x r=>exact ⟨x,r,rfl⟩
 have a0:(h::b).length=b.length+1:=rfl;refine xo 15 ?_;refine ld ?_ (hc:=e);refine rn [3,1011] ?_;refine Uw (l:=h::b) (by simp) fun p e_=> ?_;subst e_;refine iR (fun w s=>(s.le (show Le _ (lsH I64 3 (some ⟨p,0,none⟩) c (h::b)::_) from Zk)).lsLen) fun o=> ?_;have d:Sees (rsH f sz ty (some ⟨g,0,none⟩) c0 l::lsH I64 3 (some ⟨p,0,none⟩) c (h::b)::F) (some ⟨p,0,none⟩) ((h::b).map I64):=(bR _).le leA;refine xo 7 ?_;refine ld ?_ (hc:=(by first|exact e|exact (Sees.at (j:=0) (n:=0) d rfl (by simp))));refine oo 1 ?_;refine ld ?_ (hc:=(by first|exact e|exact (Sees.at (j:=0) (n:=0) d rfl (by simp))));refine oo 8 ?_;refine ld ?_ (hc:=(by first|exact e|exact (Sees.at (j:=0) (n:=0) d rfl (by simp))));refine oo 1 ?_;refine bA 24 (.slice (F9 (some ⟨p,0,none⟩) c 1 1) b.length (c - 1)) rfl (by simp) ?_;refine Zb call70 (aE _) (Ku (l:=b) (a:=F9 (some ⟨p,0,none⟩) c 1 1) (c:=c - 1) (by have:=d.suf (l:=1) (c:=c) (sz:=1) (by simp at o|-;omega);simpa using this) (by simp at hm;omega)) ?_;rintro _ _ ⟨t,q,rfl,rfl⟩;refine oo 2 ?_;refine dJ (Yr (g:=g) (f:=f) (l:=l) (u:=(u t q)) (n:=i) (k:=0) (j:=(i:Int)) (by simp [evp,lkp]) rfl sizeOf22 hf rfl hi hz (hu _ _) rfl rfl Zk) ?_;rintro _ _ ⟨rfl,rfl⟩;refine ox 7 ?_;refine Zq [rsH f sz ty (some ⟨g,0,none⟩) c0 (l.set i (u t q)),lsH I64 3 t q b] func196 (Wu results196 rfl rfl) ⟨_,rfl,t,q,rfl,rfl⟩
theorem put64_ok (hi:i<l.length)(hf: ∀ x,(f x).length=sz)(hk:(f l[i])[0]? =some (AI a m c))(hz:Nat.blt 0 sz=true)(hm:m.length<=1000000)(hu: ∀ a' c',(f l[i]).set 0 (.slice a' (m++ [t]).length c')=f (u a' c')):CallF prog G 197 [.pointer (some ⟨g,i*sz,none⟩),I64 t] ([rsH f sz ty (some ⟨g,0,none⟩) c0 l,lsH I64 2 a c m]) (Ret fun v q'=> ∃ a' c',q'= [rsH f sz ty (some ⟨g,0,none⟩) c0 (l.set i (u a' c')),lsH I64 2 a' c' (m++ [t])]):=by
 refine aC func197 ntmps197 rfl fun F q=> ?_;have e:0<sz:=by simpa [dY] using hz
 have o:Sees (rsH f sz ty (some ⟨g,0,none⟩) c0 l::lsH I64 2 a c m::F) (some ⟨g,0,none⟩) (l.flatMap f):=bE _;have h:Cl (rsH f sz ty (some ⟨g,0,none⟩) c0 l::lsH I64 2 a c m::F) ⟨g,i*sz,none⟩ (AI a m c):=fZ o hf (aD hi) e hk (by omega);change X _ _ _ _ _ _ _ _ (rsH f sz ty (some ⟨g,0,none⟩) c0 l::lsH I64 2 a c m::F);refine xo 5 ?_;refine ld ?_ (hc:=h);refine oo 1 ?_;refine bQ (U3 (u:=t) I64 underlying23 jB rfl rfl) ?_;rintro _ _ ⟨p,rfl,rfl⟩;refine bQ (Yx (f:=I64) (l:=m) (m:= [t]) underlying23 jB rfl rfl rfl Zk ((bR _).le leA) (fun _=>rfl) (by simp;omega) (by simp;omega)) ?_;rintro _ _ ⟨d,b,rfl,rfl⟩;refine oo 2 ?_;refine dJ (Yr (g:=g) (f:=f) (l:=l) (u:=(u d b)) (n:=i) (k:=0) (j:=(i:Int)) (by simp [evp,lkp]) rfl sizeOf23 hf rfl hi hz (hu _ _) rfl rfl Zk) ?_;rintro _ _ ⟨rfl,rfl⟩;refine ox 1 ?_;refine Z7 [rsH f sz ty (some ⟨g,0,none⟩) c0 (l.set i (u d b)),lsH I64 2 d b (m++ [t])] func197 (Vm results197) ⟨_,rfl,d,b,rfl⟩
theorem P2 (hi:i<l.length)(hf: ∀ x,(f x).length=sz)(hk:(f l[i])[0]? =some (AI a m c))(hz:Nat.blt 0 sz=true)(hm:m.length<=1000000):CallF prog G 92 (AX g i sz) ([rsH f sz ty (some ⟨g,0,none⟩) c0 l,lsH I64 2 a c m]) (Ret fun v q'=> ∃ a' c',v= .slice a' m.length c'/\q'= [lsH I64 2 a' c' m,rsH f sz ty (some ⟨g,0,none⟩) c0 l,lsH I64 2 a c m]):=by
 refine aC func92 ntmps92 rfl fun F k=> ?_;have b:0<sz:=by simpa [dY] using hz
 have j:Sees (rsH f sz ty (some ⟨g,0,none⟩) c0 l::lsH I64 2 a c m::F) (some ⟨g,0,none⟩) (l.flatMap f):=bE _;have d:Cl (rsH f sz ty (some ⟨g,0,none⟩) c0 l::lsH I64 2 a c m::F) ⟨g,i*sz,none⟩ (AI a m c):=fZ j hf (aD hi) b hk (by omega);change X _ _ _ _ _ _ _ _ (rsH f sz ty (some ⟨g,0,none⟩) c0 l::lsH I64 2 a c m::F);refine xo 9 ?_;refine ld ?_ (hc:=d);refine Zb call50 (aE _) (Qb (a:=a) (c:=c) (l:=m) ((bR _).le leA) (by omega)) ?_;rintro _ _ ⟨h,e,rfl,rfl⟩;refine ox 2 ?_;refine Zq [lsH I64 2 h e m,rsH f sz ty (some ⟨g,0,none⟩) c0 l,lsH I64 2 a c m] func92 (Zn results92 rfl) ⟨_,rfl,h,e,rfl,rfl⟩
theorem Zqb (hi:i<l.length)(hf: ∀ x,(f x).length=sz)(hk:(f l[i])[0]? =some (AI a m c))(hz:Nat.blt 0 sz=true)(hm:m.length<=1000000)(he:m= []):CallF prog G 198 (AX g i sz) ([rsH f sz ty (some ⟨g,0,none⟩) c0 l,lsH I64 2 a c m]) (Ret fun v q'=>v= .tuple [I64 0,.bool false].toArray/\q'= [rsH f sz ty (some ⟨g,0,none⟩) c0 l,lsH I64 2 a c m]):=by
 refine aC func198 ntmps198 rfl fun F j=> ?_;have b:0<sz:=by simpa [dY] using hz
 have e:Sees (rsH f sz ty (some ⟨g,0,none⟩) c0 l::lsH I64 2 a c m::F) (some ⟨g,0,none⟩) (l.flatMap f):=bE _;have d:Cl (rsH f sz ty (some ⟨g,0,none⟩) c0 l::lsH I64 2 a c m::F) ⟨g,i*sz,none⟩ (AI a m c):=fZ e hf (aD hi) b hk (by omega);change X _ _ _ _ _ _ _ _ (rsH f sz ty (some ⟨g,0,none⟩) c0 l::lsH I64 2 a c m::F);have h:m.length=0:=by rw [he];rfl
 refine xo 15 ?_;refine ld ?_ (hc:=d);refine ox 3 ?_;refine X.kt 11 ?_ rfl (by simp [h]);refine xx 7 ?_;refine Zq [rsH f sz ty (some ⟨g,0,none⟩) c0 l,lsH I64 2 a c m] func198 (Wu results198 rfl rfl) ⟨_,rfl,rfl,rfl⟩
theorem Zqy (hi:i<l.length)(hf: ∀ x,(f x).length=sz)(hk:(f l[i])[0]? =some (AI a m c))(hz:Nat.blt 0 sz=true)(hm:m.length<=1000000)(he:m≠ [])(hu: ∀ a' c',(f l[i]).set 0 (.slice a' (m.drop 1).length c')=f (u a' c')):CallF prog G 198 (AX g i sz) ([rsH f sz ty (some ⟨g,0,none⟩) c0 l,lsH I64 2 a c m]) (Ret fun v q'=> ∃ a' c',v= .tuple [I64 (m.headD 0),.bool true].toArray/\q'= [rsH f sz ty (some ⟨g,0,none⟩) c0 (l.set i (u a' c')),lsH I64 2 a' c' (m.drop 1)]):=by
 refine aC func198 ntmps198 rfl fun F cs=> ?_;have y:0<sz:=by simpa [dY] using hz
 have z:Sees (rsH f sz ty (some ⟨g,0,none⟩) c0 l::lsH I64 2 a c m::F) (some ⟨g,0,none⟩) (l.flatMap f):=bE _;have e:Cl (rsH f sz ty (some ⟨g,0,none⟩) c0 l::lsH I64 2 a c m::F) ⟨g,i*sz,none⟩ (AI a m c):=fZ z hf (aD hi) y hk (by omega);change X _ _ _ _ _ _ _ _ (rsH f sz ty (some ⟨g,0,none⟩) c0 l::lsH I64 2 a c m::F);obtain ⟨h,b,rfl⟩: ∃ x r,m=x::r:=by cases m with|nil=>exact aR rfl he|cons x r=>exact ⟨x,r,rfl⟩
 have a0:(h::b).length=b.length+1:=rfl;refine xo 15 ?_;refine ld ?_ (hc:=e);refine rn [3,1011] ?_;refine Uw (l:=h::b) (by simp) fun p e_=> ?_;subst e_;refine iR (fun w s=>(s.le (show Le _ (lsH I64 2 (some ⟨p,0,none⟩) c (h::b)::_) from Zk)).lsLen) fun o=> ?_;have d:Sees (rsH f sz ty (some ⟨g,0,none⟩) c0 l::lsH I64 2 (some ⟨p,0,none⟩) c (h::b)::F) (some ⟨p,0,none⟩) ((h::b).map I64):=(bR _).le leA;refine xo 7 ?_;refine ld ?_ (hc:=(by first|exact e|exact (Sees.at (j:=0) (n:=0) d rfl (by simp))));refine oo 1 ?_;refine ld ?_ (hc:=(by first|exact e|exact (Sees.at (j:=0) (n:=0) d rfl (by simp))));refine oo 8 ?_;refine ld ?_ (hc:=(by first|exact e|exact (Sees.at (j:=0) (n:=0) d rfl (by simp))));refine oo 1 ?_;refine bA 24 (.slice (F9 (some ⟨p,0,none⟩) c 1 1) b.length (c - 1)) rfl (by simp) ?_;refine Zb call50 (aE _) (Qb (l:=b) (a:=F9 (some ⟨p,0,none⟩) c 1 1) (c:=c - 1) (by have:=d.suf (l:=1) (c:=c) (sz:=1) (by simp at o|-;omega);simpa using this) (by simp at hm;omega)) ?_;rintro _ _ ⟨t,q,rfl,rfl⟩;refine oo 2 ?_;refine dJ (Yr (g:=g) (f:=f) (l:=l) (u:=(u t q)) (n:=i) (k:=0) (j:=(i:Int)) (by simp [evp,lkp]) rfl sizeOf23 hf rfl hi hz (hu _ _) rfl rfl Zk) ?_;rintro _ _ ⟨rfl,rfl⟩;refine ox 7 ?_;refine Zq [rsH f sz ty (some ⟨g,0,none⟩) c0 (l.set i (u t q)),lsH I64 2 t q b] func198 (Wu results198 rfl rfl) ⟨_,rfl,t,q,rfl,rfl⟩
end
def Hs (s:Sy)(m:Int):Int×Int:=if inR m s.owners.length then (s.owners.getD m.toNat 0,0) else (0,4)
def Qf (s:Sy)(k:Int):List Int×Int:=if inR k s.chans.length then ((s.chans.getD k.toNat ch0).items,0) else ([],4)
def Bp (s:Sy)(k:Int):Int×Int:=if inR k s.chans.length then ((s.chans.getD k.toNat ch0).room,0) else (0,4)
theorem Real.ol (r:Real U s)(h:i<U.owners.length):s.owners.getD i 0=U.owners[i]:=by rw [<-r.o];simp [List.getD,h]
theorem Real.lo (r:Real U s):U.owners.length=s.owners.length:=by rw [r.o]
theorem Tu {ty:TypeId}(hi:i<l.length)(hq:Le q (stars (l.map (lsV ty))::r):=by exact Zk):Le q (lsH I64 ty l[i].a l[i].c l[i].l::stars ((l.eraseIdx i).map (lsV ty))::r):=hq.trans (Le.focus (lsV ty) hi r)
theorem Tn {ty:TypeId}(hi:i<l.length)(hq:Le q (lsH I64 ty a c m::stars ((l.eraseIdx i).map (lsV ty))::r):=by exact bM Zk Zk):Le q (stars ((l.set i ⟨a,c,m⟩).map (lsV ty))::r):=hq.trans (Nn (lsV ty) hi ⟨a,c,m⟩ r)
theorem Jd {q':List HP}{A:Addr}(h:Cl q' A v)(l:Le q q'):Cl q A v:=fun G w s=>h G w (s.le l)
theorem Bz {ty:TypeId}{l:List ChC}(hi:i<l.length)(hq:Le q (stars (l.map fun x=>lsV ty x.q)::r):=by exact Zk):Le q (lsH I64 ty l[i].q.a l[i].q.c l[i].q.l::stars ((l.eraseIdx i).map fun x=>lsV ty x.q)::r):=hq.trans (Le.focus (fun (x:ChC)=>lsV ty x.q) hi r)
theorem Tp {ty:TypeId}{l:List ChC}(hi:i<l.length)(x:ChC)(hq:Le q (lsH I64 ty x.q.a x.q.c x.q.l::stars ((l.eraseIdx i).map fun x=>lsV ty x.q)::r):=by exact bM Zk Zk):Le q (stars ((l.set i x).map fun x=>lsV ty x.q)::r):=hq.trans (Nn (fun (x:ChC)=>lsV ty x.q) hi x r)
section
variable {v:Int}
abbrev AL (v0:List HP):=(Ret fun v q'=>v= .bool true/\q'=v0)
abbrev AM (v0:Nat):=([.pointer (some ⟨v0,0,none⟩)]:List Value)
theorem Yl (h:Cl q ⟨p,0,none⟩ bT):CallF prog G 106 (AM p) (q) (AL q):=by
 refine aC func106 ntmps106 rfl fun F a=> ?_;refine rn [9,2005,3] ?_;refine ld ?_ (hc:=(Jd h leA));refine ox 3 ?_;refine Zq (q) func106 (Zn results106 rfl) ⟨_,rfl,rfl,rfl⟩
theorem W1 (h:Cl q ⟨p,0,none⟩ bT)(h1:Cl q ⟨p,1,none⟩ (.slice a n c)):CallF prog G 86 (AM p) (q) (Ret fun v q'=>v= .slice a n c/\q'=q):=by
 refine aC func86 ntmps86 rfl fun F b=> ?_;refine xo 8 ?_;refine aO call106 (Yl (Jd h leA)) ?_;refine Zt (bV rfl) ?_;refine rn [1,1005,7] ?_;refine ld ?_ (hc:=(Jd h1 leA));refine ox 2 ?_;refine Zq (q) func86 (Zn results86 rfl) ⟨_,rfl,rfl,rfl⟩
theorem Vl (h:Cl q ⟨p,0,none⟩ bT)(h1:Cl q ⟨p,2,none⟩ (.slice a n c)):CallF prog G 88 (AM p) (q) (Ret fun v q'=>v= .slice a n c/\q'=q):=by
 refine aC func88 ntmps88 rfl fun F b=> ?_;refine xo 8 ?_;refine aO call106 (Yl (Jd h leA)) ?_;refine Zt (bV rfl) ?_;refine rn [1,1005,7] ?_;refine ld ?_ (hc:=(Jd h1 leA));refine ox 2 ?_;refine Zq (q) func88 (Zn results88 rfl) ⟨_,rfl,rfl,rfl⟩
theorem Ys (h:Cl q ⟨p,0,none⟩ bT)(h1:Cl q ⟨p,3,none⟩ (.slice a n c)):CallF prog G 91 (AM p) (q) (Ret fun v q'=>v= .slice a n c/\q'=q):=by
 refine aC func91 ntmps91 rfl fun F b=> ?_;refine xo 8 ?_;refine aO call106 (Yl (Jd h leA)) ?_;refine Zt (bV rfl) ?_;refine rn [1,1005,7] ?_;refine ld ?_ (hc:=(Jd h1 leA));refine ox 2 ?_;refine Zq (q) func91 (Zn results91 rfl) ⟨_,rfl,rfl,rfl⟩
abbrev Af (v0:List HP):=(Ret fun v q'=>v= .tuple [.pointer none,I64 4].toArray/\q'=v0)
abbrev AV (v0:Nat)(v1:Option Addr)(v2:Nat)(v3:Nat)(v4:Int):=([.pointer (some ⟨v0,0,none⟩),.slice v1 v2 v3,I64 v4,I64 0,I64 0]:List Value)
theorem S3 (h:Cl q ⟨p,0,none⟩ bT)(hn:n<=1000000)(hr: ¬inR at_ n):CallF prog G 85 (AV p a n c at_) (q) (Af q):=by
 refine aC func85 ntmps85 rfl fun F b=> ?_;try unfold inR at hr
 try unfold thr at hb
 try unfold val at hb
 refine rn [33,1016,7] ?_;refine cQ 18 bF rfl (cB (by simp)) ?_;refine xo 10 ?_;rcases aX (at_<0) with k1|k1
 focus
  refine rn [2030,13] ?_
 rotate_left
 focus
  refine rn [1030,6] ?_;refine cQ 35 bT rfl (cB ((by first|exact aN (by omega)|exact aW (by omega)|rfl|(simp;omega)|simp))) ?_;refine xo 7 ?_
 all_goals
  refine aO call106 (Yl (Jd h leA)) ?_;refine Zt (bV rfl) ?_;refine rn [1,1038,9,2040,7] ?_;refine Zq (q) func85 (Wu results85 rfl rfl) ⟨_,rfl,rfl,rfl⟩
abbrev AA (v0:Nat)(v1:Nat)(v2:Nat)(v3:Nat)(v4:Int):=([.pointer (some ⟨v0,0,none⟩),.slice (some ⟨v1,0,none⟩) v2 v3,I64 v4,I64 0,I64 0]:List Value)
abbrev Au (v0)(v1)(v2):=(Ret fun v q'=>v= .tuple [.pointer (some ⟨v0,v1*1,none⟩),I64 0].toArray/\q'=v2)
theorem Zq9 (h:Cl q ⟨p,0,none⟩ bT)(hn:n<=1000000)(hr:i<n)(hb:True):CallF prog G 85 (AA p g n c i) (q) (Au g i q):=by
 refine aC func85 ntmps85 rfl fun F a=> ?_;try unfold inR at hr
 try unfold thr at hb
 try unfold val at hb
 refine rn [33,1016,7] ?_;refine cQ 18 bF rfl (cB (by simp)) ?_;refine rn [10,1030,6] ?_;refine cQ 35 bF rfl (cB ((by first|exact aN (by omega)|exact aW (by omega)|rfl|(simp;omega)|simp))) ?_;refine xo 5 ?_;refine aO call106 (Yl (Jd h leA)) ?_;refine Zt (bV rfl) ?_;refine rn [1,1038,9,1040,10] ?_;refine Zq (q) func85 (Wu results85 rfl rfl) ⟨_,rfl,by simp,rfl⟩
theorem Dc (h:Cl q ⟨p,0,none⟩ bT)(hn:n<=1000000)(hr: ¬inR at_ n):CallF prog G 85 [.pointer (some ⟨p,0,none⟩),.slice a n c,I64 at_,I64 1,I64 number] (q) (Af q):=by
 refine aC func85 ntmps85 rfl fun F e=> ?_;try unfold inR at hr
 try unfold thr at hb
 try unfold val at hb
 refine rn [33,2016,13] ?_;rcases aX (number<0) with d|d
 focus
  refine rn [2023,17] ?_;rcases aX (at_<0) with k1|k1
  focus
   refine rn [2030,13] ?_
  rotate_left
  focus
   refine rn [1030,6] ?_;refine cQ 35 bT rfl (cB ((by first|exact aN (by omega)|exact aW (by omega)|rfl|(simp;omega)|simp))) ?_;refine xo 7 ?_
 rotate_left 2
 focus
  rcases aX (number>7) with b|b
  focus
   refine rn [1023,5] ?_;refine cQ 27 bT rfl (cB ((by first|exact aN (by omega)|exact aW (by omega)|rfl|(simp;omega)|simp))) ?_;refine xo 12 ?_;rcases aX (at_<0) with k1|k1
   focus
    refine rn [2030,13] ?_
   rotate_left
   focus
    refine rn [1030,6] ?_;refine cQ 35 bT rfl (cB ((by first|exact aN (by omega)|exact aW (by omega)|rfl|(simp;omega)|simp))) ?_;refine xo 7 ?_
  rotate_left 2
  focus
   refine rn [1023,5] ?_;refine cQ 27 bF rfl (cB ((by first|exact aN (by omega)|exact aW (by omega)|rfl|(simp;omega)|simp))) ?_;refine xo 10 ?_;rcases aX (at_<0) with k1|k1
   focus
    refine rn [2030,13] ?_
   rotate_left
   focus
    refine rn [1030,6] ?_;refine cQ 35 bT rfl (cB ((by first|exact aN (by omega)|exact aW (by omega)|rfl|(simp;omega)|simp))) ?_;refine xo 7 ?_
 all_goals
  refine aO call106 (Yl (Jd h leA)) ?_;refine Zt (bV rfl) ?_;refine rn [1,1038,9,2040,7] ?_;refine Zq (q) func85 (Wu results85 rfl rfl) ⟨_,rfl,rfl,rfl⟩
abbrev AJ (v0:List HP):=(Ret fun v q'=>v= .tuple [.pointer none,I64 2].toArray/\q'=v0)
theorem Dt (h:Cl q ⟨p,0,none⟩ bT)(hn:n<=1000000)(hr:i<n)(hb: ¬ (thr number)):CallF prog G 85 [.pointer (some ⟨p,0,none⟩),.slice a n c,I64 i,I64 1,I64 number] (q) (AJ q):=by
 refine aC func85 ntmps85 rfl fun F d=> ?_;try unfold inR at hr
 try unfold thr at hb
 try unfold val at hb
 refine rn [33,2016,13] ?_;rcases aX (number<0) with b|b
 focus
  refine rn [2023,17] ?_;refine bA 30 bF rfl (cB ((by first|exact aN (by omega)|exact aW (by omega)|rfl|(simp;omega)|simp))) ?_;refine rn [6,1035] ?_
 rotate_left
 focus
  refine rn [1023,5] ?_;refine cQ 27 bT rfl (cB ((by first|exact aN (by omega)|exact aW (by omega)|rfl|(simp;omega)|simp))) ?_;refine rn [12,1030,6] ?_;refine cQ 35 bF rfl (cB ((by first|exact aN (by omega)|exact aW (by omega)|rfl|(simp;omega)|simp))) ?_
 all_goals
  refine xo 5 ?_;refine aO call106 (Yl (Jd h leA)) ?_;refine Zt (bV rfl) ?_;refine rn [1,1038,9,2040,7] ?_;refine Zq (q) func85 (Wu results85 rfl rfl) ⟨_,rfl,rfl,rfl⟩
theorem Fb (h:Cl q ⟨p,0,none⟩ bT)(hn:n<=1000000)(hr:i<n)(hb:thr number):CallF prog G 85 [.pointer (some ⟨p,0,none⟩),.slice (some ⟨g,0,none⟩) n c,I64 i,I64 1,I64 number] (q) (Au g i q):=by
 refine aC func85 ntmps85 rfl fun F a=> ?_;try unfold inR at hr
 try unfold thr at hb
 try unfold val at hb
 refine rn [33,2016,13] ?_;refine bA 23 bF rfl (cB ((by first|exact aN (by omega)|exact aW (by omega)|rfl|(simp;omega)|simp))) ?_;refine rn [5,1027,10] ?_;refine bA 30 bF rfl (cB ((by first|exact aN (by omega)|exact aW (by omega)|rfl|(simp;omega)|simp))) ?_;refine rn [6,1035,5] ?_;refine aO call106 (Yl (Jd h leA)) ?_;refine Zt (bV rfl) ?_;refine rn [1,1038,9,1040,10] ?_;refine Zq (q) func85 (Wu results85 rfl rfl) ⟨_,rfl,by simp,rfl⟩
theorem Dr (h:Cl q ⟨p,0,none⟩ bT)(hn:n<=1000000)(hr: ¬inR at_ n):CallF prog G 87 (AV p a n c at_) (q) (Af q):=by
 refine aC func87 ntmps87 rfl fun F b=> ?_;try unfold inR at hr
 try unfold thr at hb
 try unfold val at hb
 refine rn [33,1016,7] ?_;refine cQ 18 bF rfl (cB (by simp)) ?_;refine xo 10 ?_;rcases aX (at_<0) with k1|k1
 focus
  refine rn [2030,13] ?_
 rotate_left
 focus
  refine rn [1030,6] ?_;refine cQ 35 bT rfl (cB ((by first|exact aN (by omega)|exact aW (by omega)|rfl|(simp;omega)|simp))) ?_;refine xo 7 ?_
 all_goals
  refine aO call106 (Yl (Jd h leA)) ?_;refine Zt (bV rfl) ?_;refine rn [1,1038,9,2040,7] ?_;refine Zq (q) func87 (Wu results87 rfl rfl) ⟨_,rfl,rfl,rfl⟩
theorem Ff (h:Cl q ⟨p,0,none⟩ bT)(hn:n<=1000000)(hr:i<n)(hb:True):CallF prog G 87 (AA p g n c i) (q) (Au g i q):=by
 refine aC func87 ntmps87 rfl fun F a=> ?_;try unfold inR at hr
 try unfold thr at hb
 try unfold val at hb
 refine rn [33,1016,7] ?_;refine cQ 18 bF rfl (cB (by simp)) ?_;refine rn [10,1030,6] ?_;refine cQ 35 bF rfl (cB ((by first|exact aN (by omega)|exact aW (by omega)|rfl|(simp;omega)|simp))) ?_;refine xo 5 ?_;refine aO call106 (Yl (Jd h leA)) ?_;refine Zt (bV rfl) ?_;refine rn [1,1038,9,1040,10] ?_;refine Zq (q) func87 (Wu results87 rfl rfl) ⟨_,rfl,by simp,rfl⟩
theorem S6 (h:Cl q ⟨p,0,none⟩ bT)(hn:n<=1000000)(hr: ¬inR at_ n):CallF prog G 87 [.pointer (some ⟨p,0,none⟩),.slice a n c,I64 at_,I64 1,I64 number] (q) (Af q):=by
 refine aC func87 ntmps87 rfl fun F e=> ?_;try unfold inR at hr
 try unfold thr at hb
 try unfold val at hb
 refine rn [33,2016,13] ?_;rcases aX (number<0) with d|d
 focus
  refine rn [2023,17] ?_;rcases aX (at_<0) with k1|k1
  focus
   refine rn [2030,13] ?_
  rotate_left
  focus
   refine rn [1030,6] ?_;refine cQ 35 bT rfl (cB ((by first|exact aN (by omega)|exact aW (by omega)|rfl|(simp;omega)|simp))) ?_;refine xo 7 ?_
 rotate_left 2
 focus
  rcases aX (number>7) with b|b
  focus
   refine rn [1023,5] ?_;refine cQ 27 bT rfl (cB ((by first|exact aN (by omega)|exact aW (by omega)|rfl|(simp;omega)|simp))) ?_;refine xo 12 ?_;rcases aX (at_<0) with k1|k1
   focus
    refine rn [2030,13] ?_
   rotate_left
   focus
    refine rn [1030,6] ?_;refine cQ 35 bT rfl (cB ((by first|exact aN (by omega)|exact aW (by omega)|rfl|(simp;omega)|simp))) ?_;refine xo 7 ?_
  rotate_left 2
  focus
   refine rn [1023,5] ?_;refine cQ 27 bF rfl (cB ((by first|exact aN (by omega)|exact aW (by omega)|rfl|(simp;omega)|simp))) ?_;refine xo 10 ?_;rcases aX (at_<0) with k1|k1
   focus
    refine rn [2030,13] ?_
   rotate_left
   focus
    refine rn [1030,6] ?_;refine cQ 35 bT rfl (cB ((by first|exact aN (by omega)|exact aW (by omega)|rfl|(simp;omega)|simp))) ?_;refine xo 7 ?_
 all_goals
  refine aO call106 (Yl (Jd h leA)) ?_;refine Zt (bV rfl) ?_;refine rn [1,1038,9,2040,7] ?_;refine Zq (q) func87 (Wu results87 rfl rfl) ⟨_,rfl,rfl,rfl⟩
theorem S7 (h:Cl q ⟨p,0,none⟩ bT)(hn:n<=1000000)(hr:i<n)(hb: ¬ (thr number)):CallF prog G 87 [.pointer (some ⟨p,0,none⟩),.slice a n c,I64 i,I64 1,I64 number] (q) (AJ q):=by
 refine aC func87 ntmps87 rfl fun F d=> ?_;try unfold inR at hr
 try unfold thr at hb
 try unfold val at hb
 refine rn [33,2016,13] ?_;rcases aX (number<0) with b|b
 focus
  refine rn [2023,17] ?_;refine bA 30 bF rfl (cB ((by first|exact aN (by omega)|exact aW (by omega)|rfl|(simp;omega)|simp))) ?_;refine rn [6,1035] ?_
 rotate_left
 focus
  refine rn [1023,5] ?_;refine cQ 27 bT rfl (cB ((by first|exact aN (by omega)|exact aW (by omega)|rfl|(simp;omega)|simp))) ?_;refine rn [12,1030,6] ?_;refine cQ 35 bF rfl (cB ((by first|exact aN (by omega)|exact aW (by omega)|rfl|(simp;omega)|simp))) ?_
 all_goals
  refine xo 5 ?_;refine aO call106 (Yl (Jd h leA)) ?_;refine Zt (bV rfl) ?_;refine rn [1,1038,9,2040,7] ?_;refine Zq (q) func87 (Wu results87 rfl rfl) ⟨_,rfl,rfl,rfl⟩
theorem Zzz (h:Cl q ⟨p,0,none⟩ bT)(hn:n<=1000000)(hr:i<n)(hb:thr number):CallF prog G 87 [.pointer (some ⟨p,0,none⟩),.slice (some ⟨g,0,none⟩) n c,I64 i,I64 1,I64 number] (q) (Au g i q):=by
 refine aC func87 ntmps87 rfl fun F a=> ?_;try unfold inR at hr
 try unfold thr at hb
 try unfold val at hb
 refine rn [33,2016,13] ?_;refine bA 23 bF rfl (cB ((by first|exact aN (by omega)|exact aW (by omega)|rfl|(simp;omega)|simp))) ?_;refine rn [5,1027,10] ?_;refine bA 30 bF rfl (cB ((by first|exact aN (by omega)|exact aW (by omega)|rfl|(simp;omega)|simp))) ?_;refine rn [6,1035,5] ?_;refine aO call106 (Yl (Jd h leA)) ?_;refine Zt (bV rfl) ?_;refine rn [1,1038,9,1040,10] ?_;refine Zq (q) func87 (Wu results87 rfl rfl) ⟨_,rfl,by simp,rfl⟩
theorem Nj (h:Cl q ⟨p,0,none⟩ bT)(hn:n<=1000000)(hr: ¬inR at_ n):CallF prog G 90 (AV p a n c at_) (q) (Af q):=by
 refine aC func90 ntmps90 rfl fun F b=> ?_;try unfold inR at hr
 try unfold thr at hb
 try unfold val at hb
 refine rn [33,1016,7] ?_;refine cQ 18 bF rfl (cB (by simp)) ?_;refine xo 10 ?_;rcases aX (at_<0) with k1|k1
 focus
  refine rn [2030,13] ?_
 rotate_left
 focus
  refine rn [1030,6] ?_;refine cQ 35 bT rfl (cB ((by first|exact aN (by omega)|exact aW (by omega)|rfl|(simp;omega)|simp))) ?_;refine xo 7 ?_
 all_goals
  refine aO call106 (Yl (Jd h leA)) ?_;refine Zt (bV rfl) ?_;refine rn [1,1038,9,2040,7] ?_;refine Zq (q) func90 (Wu results90 rfl rfl) ⟨_,rfl,rfl,rfl⟩
theorem Ts (h:Cl q ⟨p,0,none⟩ bT)(hn:n<=1000000)(hr:i<n)(hb:True):CallF prog G 90 (AA p g n c i) (q) (Ret fun v q'=>v= .tuple [.pointer (some ⟨g,i*3,none⟩),I64 0].toArray/\q'=q):=by
 refine aC func90 ntmps90 rfl fun F a=> ?_;try unfold inR at hr
 try unfold thr at hb
 try unfold val at hb
 refine rn [33,1016,7] ?_;refine cQ 18 bF rfl (cB (by simp)) ?_;refine rn [10,1030,6] ?_;refine cQ 35 bF rfl (cB ((by first|exact aN (by omega)|exact aW (by omega)|rfl|(simp;omega)|simp))) ?_;refine xo 5 ?_;refine aO call106 (Yl (Jd h leA)) ?_;refine Zt (bV rfl) ?_;refine rn [1,1038,9,1040,10] ?_;refine Zq (q) func90 (Wu results90 rfl rfl) ⟨_,rfl,by simp,rfl⟩
theorem S4 (h:Cl q ⟨p,0,none⟩ bT)(hn:n<=1000000)(hr: ¬inR at_ n):CallF prog G 90 [.pointer (some ⟨p,0,none⟩),.slice a n c,I64 at_,I64 2,I64 number] (q) (Af q):=by
 refine aC func90 ntmps90 rfl fun F e=> ?_;try unfold inR at hr
 try unfold thr at hb
 try unfold val at hb
 refine rn [33,1016,7] ?_;refine cQ 18 bT rfl (cB (by simp)) ?_;refine xo 8 ?_;rcases aX (number< -2147483648) with d|d
 focus
  refine rn [2023,17] ?_;rcases aX (at_<0) with k1|k1
  focus
   refine rn [2030,13] ?_
  rotate_left
  focus
   refine rn [1030,6] ?_;refine cQ 35 bT rfl (cB ((by first|exact aN (by omega)|exact aW (by omega)|rfl|(simp;omega)|simp))) ?_;refine xo 7 ?_
 rotate_left 2
 focus
  rcases aX (number>2147483647) with b|b
  focus
   refine rn [1023,5] ?_;refine cQ 27 bT rfl (cB ((by first|exact aN (by omega)|exact aW (by omega)|rfl|(simp;omega)|simp))) ?_;refine xo 12 ?_;rcases aX (at_<0) with k1|k1
   focus
    refine rn [2030,13] ?_
   rotate_left
   focus
    refine rn [1030,6] ?_;refine cQ 35 bT rfl (cB ((by first|exact aN (by omega)|exact aW (by omega)|rfl|(simp;omega)|simp))) ?_;refine xo 7 ?_
  rotate_left 2
  focus
   refine rn [1023,5] ?_;refine cQ 27 bF rfl (cB ((by first|exact aN (by omega)|exact aW (by omega)|rfl|(simp;omega)|simp))) ?_;refine xo 10 ?_;rcases aX (at_<0) with k1|k1
   focus
    refine rn [2030,13] ?_
   rotate_left
   focus
    refine rn [1030,6] ?_;refine cQ 35 bT rfl (cB ((by first|exact aN (by omega)|exact aW (by omega)|rfl|(simp;omega)|simp))) ?_;refine xo 7 ?_
 all_goals
  refine aO call106 (Yl (Jd h leA)) ?_;refine Zt (bV rfl) ?_;refine rn [1,1038,9,2040,7] ?_;refine Zq (q) func90 (Wu results90 rfl rfl) ⟨_,rfl,rfl,rfl⟩
theorem S5 (h:Cl q ⟨p,0,none⟩ bT)(hn:n<=1000000)(hr:i<n)(hb: ¬ (val number)):CallF prog G 90 [.pointer (some ⟨p,0,none⟩),.slice a n c,I64 i,I64 2,I64 number] (q) (AJ q):=by
 refine aC func90 ntmps90 rfl fun F d=> ?_;try unfold inR at hr
 try unfold thr at hb
 try unfold val at hb
 refine rn [33,1016,7] ?_;refine cQ 18 bT rfl (cB (by simp)) ?_;refine xo 8 ?_;rcases aX (number< -2147483648) with b|b
 focus
  refine rn [2023,17] ?_;refine bA 30 bF rfl (cB ((by first|exact aN (by omega)|exact aW (by omega)|rfl|(simp;omega)|simp))) ?_;refine rn [6,1035] ?_
 rotate_left
 focus
  refine rn [1023,5] ?_;refine cQ 27 bT rfl (cB ((by first|exact aN (by omega)|exact aW (by omega)|rfl|(simp;omega)|simp))) ?_;refine rn [12,1030,6] ?_;refine cQ 35 bF rfl (cB ((by first|exact aN (by omega)|exact aW (by omega)|rfl|(simp;omega)|simp))) ?_
 all_goals
  refine xo 5 ?_;refine aO call106 (Yl (Jd h leA)) ?_;refine Zt (bV rfl) ?_;refine rn [1,1038,9,2040,7] ?_;refine Zq (q) func90 (Wu results90 rfl rfl) ⟨_,rfl,rfl,rfl⟩
theorem Zzq (h:Cl q ⟨p,0,none⟩ bT)(hn:n<=1000000)(hr:i<n)(hb:val number):CallF prog G 90 [.pointer (some ⟨p,0,none⟩),.slice (some ⟨g,0,none⟩) n c,I64 i,I64 2,I64 number] (q) (Ret fun v q'=>v= .tuple [.pointer (some ⟨g,i*3,none⟩),I64 0].toArray/\q'=q):=by
 refine aC func90 ntmps90 rfl fun F a=> ?_;try unfold inR at hr
 try unfold thr at hb
 try unfold val at hb
 refine rn [33,1016,7] ?_;refine cQ 18 bT rfl (cB (by simp)) ?_;refine rn [8,1023,5] ?_;refine cQ 27 bF rfl (cB ((by first|exact aN (by omega)|exact aW (by omega)|rfl|(simp;omega)|simp))) ?_;refine rn [10,1030,6] ?_;refine cQ 35 bF rfl (cB ((by first|exact aN (by omega)|exact aW (by omega)|rfl|(simp;omega)|simp))) ?_;refine xo 5 ?_;refine aO call106 (Yl (Jd h leA)) ?_;refine Zt (bV rfl) ?_;refine rn [1,1038,9,1040,10] ?_;refine Zq (q) func90 (Wu results90 rfl rfl) ⟨_,rfl,by simp,rfl⟩
end
section
variable {v m:Int}
abbrev A7 (v0)(v1:SyC)(v2)(v3):=((.cells [.bool true,.slice (some ⟨v0,0,none⟩) v1.owners.length v1.co,.slice v2 v1.conds.length v1.cc,.slice v3 v1.chans.length v1.ch].toArray 176 (0,0)):Obj)
abbrev A5 (v0:Nat)(v1)(v2:SyC)(v3)(v4):=[pto v0 (.cells [.bool true,.slice v1 v2.owners.length v2.co,.slice v3 v2.conds.length v2.cc,.slice v4 v2.chans.length v2.ch].toArray 176 (0,0)),lsH I64 3 v1 v2.co v2.owners,rsH cqs 1 191 v3 v2.cc v2.conds,stars (v2.conds.map (lsV 3)),rsH chs 3 180 v4 v2.ch v2.chans,stars (v2.chans.map fun x=>lsV 2 x.q)]
abbrev A4 (v0:Nat)(v1)(v2:SyC)(v3)(v4)(v5):=(pto v0 (.cells [.bool true,.slice v1 v2.owners.length v2.co,.slice v3 v2.conds.length v2.cc,.slice v4 v2.chans.length v2.ch].toArray 176 (0,0))::lsH I64 3 v1 v2.co v2.owners::rsH cqs 1 191 v3 v2.cc v2.conds::stars (v2.conds.map (lsV 3))::rsH chs 3 180 v4 v2.ch v2.chans::stars (v2.chans.map fun x=>lsV 2 x.q)::v5)
abbrev AP (v0:SyC):=(v0.conds.map (lsV 3))
abbrev AO (v0:Nat)(v1:Int):=([.pointer (some ⟨v0,0,none⟩),I64 v1]:List Value)
abbrev AN (v0:SyC):=(v0.chans.map fun x=>lsV 2 x.q)
theorem Owner_ok (hR:Real U s)(hs:s.ok N)(hN:N<=1000):CallF prog G 56 (AO p m) ((syL p U)) (Ret fun v q'=>v= .tuple [I64 (Hs s m).1,I64 (Hs s m).2].toArray/\q'=syL p U):=by
 refine aC func56 ntmps56 rfl fun F q=> ?_;have e:=hR.lo;have n:=hR.lc;have o:=hR.lh;have h:=hs.no;have k:=hs.nc;have j:=hs.nh;change X _ _ _ _ _ _ _ _ (A4 p U.ao U U.ac U.ah F);rcases aX (inR m U.owners.length) with b|b
 . have a:inR m s.owners.length:=by rw [<-e];exact b
   obtain ⟨i,rfl⟩:=aV b.1;have d:i<U.owners.length:=(by have:=b.2;omega);refine Uw (l:=U.owners) (by omega) fun g f=> ?_;rw [f];refine xo 9 ?_;refine aO call86 (W1 clA clA) ?_;refine oo 1 ?_;refine aO call85 (Zq9 (p:=p) clA (by omega) d trivial) ?_;refine rn [12,1017] ?_;have c:Sees (pto p (A7 g U U.ac U.ah)::lsH I64 3 (some ⟨g,0,none⟩) U.co U.owners::rsH cqs 1 191 U.ac U.cc U.conds::stars (AP U)::rsH chs 3 180 U.ah U.ch U.chans::stars (AN U)::F) (some ⟨g,0,none⟩) (U.owners.map I64):=(bR _).le leA;refine xo 6 ?_;refine ld ?_ (hc:=(Om c d));refine ox 3 ?_;rw [show Hs s (i:Int)=(U.owners[i],0) from (if_pos a).trans (by rw [<-hR.ol d];rfl)];refine Zq [pto p (A7 g U U.ac U.ah),lsH I64 3 (some ⟨g,0,none⟩) U.co U.owners,rsH cqs 1 191 U.ac U.cc U.conds,stars (AP U),rsH chs 3 180 U.ah U.ch U.chans,stars (AN U)] func56 (Wu results56 rfl rfl) ⟨_,rfl,rfl,by unfold syL;rw [f]⟩
 have a: ¬inR m s.owners.length:=by rw [<-e];exact b
 refine xo 9 ?_;refine aO call86 (W1 clA clA) ?_;refine oo 1 ?_;refine aO call85 (S3 (p:=p) clA (by omega) b) ?_;refine rn [12,2017,7] ?_;rw [show Hs s m=(0,4) from if_neg a];refine Zq (A5 p U.ao U U.ac U.ah) func56 (Wu results56 rfl rfl) ⟨_,rfl,rfl,rfl⟩
abbrev Ae (v0:Nat)(v1:Int)(v2:Int):=([.pointer (some ⟨v0,0,none⟩),I64 v1,I64 v2]:List Value)
theorem Lock_ok (hR:Real U s)(hs:s.ok N)(hN:N<=1000):CallF prog G 128 (Ae p m t) ((syL p U)) (Ret fun v q'=> ∃ U',Real U' (Ws s m t).1/\v= .tuple [.bool (Ws s m t).2.1,I64 (Ws s m t).2.2].toArray/\q'=syL p U'):=by
 refine aC func128 ntmps128 rfl fun F cs=> ?_;have y:=hR.lo;have z:=hR.lc;have hh:=hR.lh;have a0:=hs.no;have c0:=hs.nc;have b0:=hs.nh;change X _ _ _ _ _ _ _ _ (A4 p U.ao U U.ac U.ah F);rcases aX (inR m U.owners.length) with b|b
 focus
  have a:inR m s.owners.length:=by rw [<-y];exact b
  obtain ⟨i,rfl⟩:=aV b.1;have r:i<U.owners.length:=(by have:=b.2;omega);rcases aX (thr t) with d|d
  . refine Uw (l:=U.owners) (by omega) fun g e_=> ?_;rw [e_];refine xo 9 ?_;refine aO call86 (W1 clA clA) ?_;refine oo 2 ?_;refine aO call85 (Fb (p:=p) clA (by omega) r d) ?_;refine oo 12 ?_;have x:Sees (pto p (A7 g U U.ac U.ah)::lsH I64 3 (some ⟨g,0,none⟩) U.co U.owners::rsH cqs 1 191 U.ac U.cc U.conds::stars (AP U)::rsH chs 3 180 U.ah U.ch U.chans::stars (AN U)::F) (some ⟨g,0,none⟩) (U.owners.map I64):=(bR _).le leA;have w:=Om x r;have q:=hR.ol r;refine XO.kf 21 ?_;rcases aX (U.owners[i]= -1) with k|k
    . refine oo 2 ?_;refine ld ?_ (hc:=w);refine ox 3 ?_;refine Jc 26 ?_ rfl (by simp [k]);refine xo 7 ?_;refine dJ (Bj (f:=I64) (l:=U.owners) (u:=t) (n:=i) (g:=g) (j:=(i:Int)) (by simp [evp,lkp]) rfl sizeOf3 rfl r rfl rfl Zk) ?_;rintro _ _ ⟨rfl,rfl⟩;refine ox 6 ?_;rw [show Ws s (i:Int) t=({ s with owners:=s.owners.set i t },true,0) from (if_pos a).trans ((if_pos d).trans (if_pos (q.trans k)))];refine Zq [pto p (A7 g U U.ac U.ah),lsH I64 3 (some ⟨g,0,none⟩) U.co (U.owners.set i t),rsH cqs 1 191 U.ac U.cc U.conds,stars (AP U),rsH chs 3 180 U.ah U.ch U.chans,stars (AN U)] func128 (Wu results128 rfl rfl) ⟨_,rfl, { U with ao:=(some ⟨g,0,none⟩),owners:=U.owners.set i (t) },⟨by show U.owners.set i (t)=s.owners.set i (t);rw [hR.o],hR.c,hR.h⟩,rfl,by unfold syL;simp⟩
    refine oo 2 ?_;refine ld ?_ (hc:=w);refine ox 3 ?_;refine X.kt 26 ?_ rfl (by simp [k]);refine xx 7 ?_;rw [show Ws s (i:Int) t=(s,false,0) from (if_pos a).trans ((if_pos d).trans (if_neg (fun e=>k (q.symm.trans e))))];refine Zq [pto p (A7 g U U.ac U.ah),lsH I64 3 (some ⟨g,0,none⟩) U.co U.owners,rsH cqs 1 191 U.ac U.cc U.conds,stars (AP U),rsH chs 3 180 U.ah U.ch U.chans,stars (AN U)] func128 (Wu results128 rfl rfl) ⟨_,rfl,U,hR,rfl,by unfold syL;rw [e_]⟩
  refine xo 9 ?_;refine aO call86 (W1 clA clA) ?_;refine oo 2 ?_;refine aO call85 (Dt (p:=p) clA (by omega) r d) ?_;refine rn [12,2021,13] ?_;rw [show Ws s _ t=(s,false,2) from (if_pos a).trans (if_neg d)]
 rotate_left
 focus
  have a: ¬inR m s.owners.length:=by rw [<-y];exact b
  refine xo 9 ?_;refine aO call86 (W1 clA clA) ?_;refine oo 2 ?_;refine aO call85 (Dc (p:=p) clA (by omega) b) ?_;refine rn [12,2021,13] ?_;rw [show Ws s _ t=(s,false,4) from if_neg a]
 all_goals
  refine Zq (A5 p U.ao U U.ac U.ah) func128 (Wu results128 rfl rfl) ⟨_,rfl,U,hR,rfl,rfl⟩
theorem Zzp (hR:Real U s)(hs:s.ok N)(hN:N<=1000):CallF prog G 193 (Ae p m t) ((syL p U)) (Ret fun v q'=> ∃ U',Real U' (Z6 s m t).1/\v= I64 (Z6 s m t).2/\q'=syL p U'):=by
 refine aC func193 ntmps193 rfl fun F cs=> ?_;have y:=hR.lo;have hc:=hR.lc;have hh:=hR.lh;have a0:=hs.no;have c0:=hs.nc;have b0:=hs.nh;change X _ _ _ _ _ _ _ _ (A4 p U.ao U U.ac U.ah F);rcases aX (inR m U.owners.length) with b|b
 focus
  have a:inR m s.owners.length:=by rw [<-y];exact b
  obtain ⟨i,rfl⟩:=aV b.1;have r:i<U.owners.length:=(by have:=b.2;omega);rcases aX (thr t) with d|d
  . refine Uw (l:=U.owners) (by omega) fun g z=> ?_;rw [z];refine xo 8 ?_;refine aO call86 (W1 clA clA) ?_;refine oo 2 ?_;refine aO call85 (Fb (p:=p) clA (by omega) r d) ?_;refine ox 12 ?_;have w:Sees (pto p (A7 g U U.ac U.ah)::lsH I64 3 (some ⟨g,0,none⟩) U.co U.owners::rsH cqs 1 191 U.ac U.cc U.conds::stars (AP U)::rsH chs 3 180 U.ah U.ch U.chans::stars (AN U)::F) (some ⟨g,0,none⟩) (U.owners.map I64):=(bR _).le leA;have x:=Om w r;have q:=hR.ol r;refine rn [1019,7] ?_;refine ld ?_ (hc:=x);refine ox 3 ?_;rcases aX (U.owners[i]=t) with k|k
    . refine Jc 25 ?_ rfl (by simp [k]);refine xo 6 ?_;refine dJ (Bj (f:=I64) (l:=U.owners) (u:= -1) (n:=i) (g:=g) (j:=(i:Int)) (by simp [evp,lkp]) rfl sizeOf3 rfl r rfl rfl Zk) ?_;rintro _ _ ⟨rfl,rfl⟩;refine ox 5 ?_;rw [show Z6 s (i:Int) t=({ s with owners:=s.owners.set i (-1) },0) from (if_pos a).trans ((if_pos d).trans (if_pos (q.trans k)))];refine Zq [pto p (A7 g U U.ac U.ah),lsH I64 3 (some ⟨g,0,none⟩) U.co (U.owners.set i (-1)),rsH cqs 1 191 U.ac U.cc U.conds,stars (AP U),rsH chs 3 180 U.ah U.ch U.chans,stars (AN U)] func193 (Zn results193 rfl) ⟨_,rfl, { U with ao:=(some ⟨g,0,none⟩),owners:=U.owners.set i (-1) },⟨by show U.owners.set i (-1)=s.owners.set i (-1);rw [hR.o],hR.c,hR.h⟩,rfl,by unfold syL;simp⟩
    refine X.kt 25 ?_ rfl (by simp [k]);refine xx 5 ?_;rw [show Z6 s (i:Int) t=(s,140) from (if_pos a).trans ((if_pos d).trans (if_neg (fun e=>k (q.symm.trans e))))];refine Zq [pto p (A7 g U U.ac U.ah),lsH I64 3 (some ⟨g,0,none⟩) U.co U.owners,rsH cqs 1 191 U.ac U.cc U.conds,stars (AP U),rsH chs 3 180 U.ah U.ch U.chans,stars (AN U)] func193 (Zn results193 rfl) ⟨_,rfl,U,hR,rfl,by unfold syL;rw [z]⟩
  refine xo 8 ?_;refine aO call86 (W1 clA clA) ?_;refine oo 2 ?_;refine aO call85 (Dt (p:=p) clA (by omega) r d) ?_;refine rn [12,2019,6] ?_;rw [show Z6 s _ t=(s,2) from (if_pos a).trans (if_neg d)]
 rotate_left
 focus
  have a: ¬inR m s.owners.length:=by rw [<-y];exact b
  refine xo 8 ?_;refine aO call86 (W1 clA clA) ?_;refine oo 2 ?_;refine aO call85 (Dc (p:=p) clA (by omega) b) ?_;refine rn [12,2019,6] ?_;rw [show Z6 s _ t=(s,4) from if_neg a]
 all_goals
  refine Zq (A5 p U.ao U U.ac U.ah) func193 (Zn results193 rfl) ⟨_,rfl,U,hR,rfl,rfl⟩
theorem Sy.ok.lenC (h:s.ok N)(hR:Real U s)(hi:i<U.conds.length)(hN:N<=1000):U.conds[i].l.length<=1000:=by
 rw [<-hR.cl hi];exact cP (h.c _ (Y3 (by rw [<-hR.lc];exact hi))).1 hN
theorem Sy.ok.lenH (h:s.ok N)(hR:Real U s)(hi:i<U.chans.length)(hN:N<=1000):U.chans[i].q.l.length<=1000:=by
 have e:=bK Prod.fst (hR.hl hi);have a:U.chans[i].q.l=(s.chans.getD i ch0).items:=e.symm;rw [a];unfold Ch.items;rw [bS];have:=(h.h _ (Y3 (d:=ch0) (show i<s.chans.length by rw [<-hR.lh];exact hi))).2.2.1;omega
abbrev Ai (v0:Nat)(v1)(v2:SyC)(v3)(v4):=[pto v0 (.cells [.bool true,.slice v1 v2.owners.length v2.co,.slice v3 v2.conds.length v2.cc,.slice (some ⟨v4,0,none⟩) v2.chans.length v2.ch].toArray 176 (0,0)),lsH I64 3 v1 v2.co v2.owners,rsH cqs 1 191 v3 v2.cc v2.conds,stars (v2.conds.map (lsV 3)),rsH chs 3 180 (some ⟨v4,0,none⟩) v2.ch v2.chans,stars (v2.chans.map fun x=>lsV 2 x.q)]
theorem Zzm (hR:Real U s)(hs:s.ok N)(hN:N<=1000):CallF prog G 58 (AO p k) ((syL p U)) (Ret fun v q'=> ∃ a' c',v= .tuple [.slice a' (Qf s k).1.length c',I64 (Qf s k).2].toArray/\q'=lsH I64 2 a' c' (Qf s k).1::syL p U):=by
 refine aC func58 ntmps58 rfl fun F cs=> ?_;have y:=hR.lo;have z:=hR.lc;have n:=hR.lh;have u:=hs.no;have x:=hs.nc;have w:=hs.nh;change X _ _ _ _ _ _ _ _ (A4 p U.ao U U.ac U.ah F);rcases aX (inR k U.chans.length) with e|e
 . have b:inR k s.chans.length:=by rw [<-n];exact e
   obtain ⟨i,rfl⟩:=aV e.1;have d:i<U.chans.length:=(by have:=e.2;omega);refine Yw (l:=U.chans) (by omega) fun g o=> ?_;rw [o];have h:U.chans[i].q.l.length<=1000:=hs.lenH hR d hN;have j:(s.chans.getD i ch0).items=U.chans[i].q.l:=bK Prod.fst (hR.hl d);refine xo 9 ?_;refine aO call91 (Ys clA clA) ?_;refine oo 1 ?_;refine aO call90 (Ts (p:=p) clA (by omega) d trivial) ?_;refine rn [12,1017] ?_;refine bY (Bz d) ?_;refine xo 7 ?_;refine bA 21 (.pointer (some ⟨g,i*3,none⟩)) rfl (by simp) ?_;refine W3 call92 (P2 (f:=chs) (sz:=3) (ty:=180) (l:=U.chans) (i:=i) (m:=U.chans[i].q.l) (a:=U.chans[i].q.a) (c:=U.chans[i].q.c) d (fun _=>rfl) rfl rfl (by have:=h;omega)) ?_;refine kd2 fun t r=> ?_
   refine ox 3 ?_;rw [show Qf s (i:Int)=(U.chans[i].q.l,0) from (if_pos b).trans (by rw [<-j];rfl)];refine bY (Tp d U.chans[i]) ?_;rw [show U.chans.set i U.chans[i]=U.chans from dO d];refine Zq (lsH I64 2 t r U.chans[i].q.l:: (Ai p U.ao U U.ac g)) func58 (Wu results58 rfl rfl) ⟨_,rfl,t,r,rfl,by unfold syL;rw [o]⟩
 have b: ¬inR k s.chans.length:=by rw [<-n];exact e
 refine xo 9 ?_;refine aO call91 (Ys clA clA) ?_;refine oo 1 ?_;refine aO call90 (Nj (p:=p) clA (by omega) e) ?_;refine rn [12,2017,7] ?_;rw [show Qf s k=([],4) from if_neg b];refine Zq (lsH I64 2 none 0 []:: (A5 p U.ao U U.ac U.ah)) func58 (Wu results58 rfl rfl) ⟨_,rfl,none,0,rfl,rfl⟩ ((leA).trans (aS (Za I64 2 _) leA))
end
section
variable {v m:Int}
theorem Real.setC (hR:Real U s)(i:Nat)(x:SlV Int)(ac:Option Addr):Real { U with ac:=ac,conds:=U.conds.set i x } { s with conds:=s.conds.set i x.l } :=
 ⟨hR.o,by show (U.conds.set i x).map _=_;rw [M9,hR.c],hR.h⟩
theorem Real.setH (hR:Real U s)(i:Nat)(x:ChC)(y:Ch)(h:x.row=y.row)(ah:Option Addr):Real { U with ah:=ah,chans:=U.chans.set i x } { s with chans:=s.chans.set i y } :=
 ⟨hR.o,hR.c,by show (U.chans.set i x).map _=(s.chans.set i y).map _;rw [M9,M9,hR.h,h]⟩
theorem Tt {c:Ch}{x:ChC}(h:c.row=x.row):c.items=x.q.l/\c.room=x.room/\(c.all.length:Int)=x.sent:=by
 unfold Ch.row ChC.row at h;simp only [jK] at h;exact h
abbrev Ad (v0)(v1:SyC)(v2)(v3):=((.cells [.bool true,.slice v0 v1.owners.length v1.co,.slice (some ⟨v2,0,none⟩) v1.conds.length v1.cc,.slice v3 v1.chans.length v1.ch].toArray 176 (0,0)):Obj)
theorem All_ok (hR:Real U s)(hs:s.ok N)(hN:N<=1000):CallF prog G 173 (AO p k) ((syL p U)) (Ret fun v q'=> ∃ U' a' c',Real U' (Kb s k).1/\v= .tuple [.slice a' (Kb s k).2.1.length c',I64 (Kb s k).2.2].toArray/\q'=lsH I64 3 a' c' (Kb s k).2.1::syL p U'):=by
 refine aC func173 ntmps173 rfl fun F cs=> ?_;have z:=hR.lo;have o:=hR.lc;have hh:=hR.lh;have t:=hs.no;have x:=hs.nc;have w:=hs.nh;change X _ _ _ _ _ _ _ _ (A4 p U.ao U U.ac U.ah F);rcases aX (inR k U.conds.length) with e|e
 . have b:inR k s.conds.length:=by rw [<-o];exact e
   obtain ⟨i,rfl⟩:=aV e.1;have d:i<U.conds.length:=(by have:=e.2;omega);refine Yw (l:=U.conds) (by omega) fun g y=> ?_;rw [y];have h:=hs.lenC hR d hN;refine xo 9 ?_;refine aO call88 (Vl clA clA) ?_;refine oo 1 ?_;refine aO call87 (Ff (p:=p) clA (by omega) d trivial) ?_;refine rn [12,1018] ?_;refine bY (Tu d) ?_;refine xo 7 ?_;refine bA 22 (.pointer (some ⟨g,i*1,none⟩)) rfl (by simp) ?_;refine W3 call89 (all_ok (f:=cqs) (sz:=1) (ty:=191) (l:=U.conds) (i:=i) (m:=U.conds[i].l) (a:=U.conds[i].a) (c:=U.conds[i].c) d (fun _=>rfl) rfl rfl (by omega)) ?_;refine kd2 fun r q=> ?_
   refine oo 8 ?_;refine dJ (Yr (g:=g) (f:=cqs) (sz:=1) (l:=U.conds) (u:=⟨none,0, []⟩) (n:=i) (k:=0) (j:=(i:Int)) (by simp [evp,lkp]) rfl sizeOf22 (fun _=>rfl) rfl d rfl rfl rfl rfl Zk) ?_;rintro _ _ ⟨rfl,rfl⟩;refine ox 7 ?_;rw [show Kb s (i:Int)=({ s with conds:=s.conds.set i [] },U.conds[i].l,0) from (if_pos b).trans (by rw [<-hR.cl d];rfl)];refine bY (Za I64 3 _) ?_;refine bY (Tn d (a:=none) (c:=0) (m:= [])) ?_;refine Zq (lsH I64 3 r q U.conds[i].l:: [pto p (Ad U.ao U g U.ah),lsH I64 3 U.ao U.co U.owners,rsH cqs 1 191 (some ⟨g,0,none⟩) U.cc (U.conds.set i ⟨none,0, []⟩),stars ((U.conds.set i ⟨none,0, []⟩).map (lsV 3)),rsH chs 3 180 U.ah U.ch U.chans,stars (AN U)]) func173 (Wu results173 rfl rfl) ⟨_,rfl, { U with ac:=(some ⟨g,0,none⟩),conds:=U.conds.set i ⟨none,0, []⟩ },r,q,hR.setC i ⟨none,0, []⟩ _,rfl,by unfold syL;simp⟩
 have b: ¬inR k s.conds.length:=by rw [<-o];exact e
 refine xo 9 ?_;refine aO call88 (Vl clA clA) ?_;refine oo 1 ?_;refine aO call87 (Dr (p:=p) clA (by omega) e) ?_;refine rn [12,2018,7] ?_;rw [show Kb s k=(s, [],4) from if_neg b];refine Zq (lsH I64 3 none 0 []:: (A5 p U.ao U U.ac U.ah)) func173 (Wu results173 rfl rfl) ⟨_,rfl,U,none,0,hR,rfl,rfl⟩ ((leA).trans (aS (Za I64 3 _) leA))
theorem Zzr (hR:Real U s)(hs:s.ok N)(hN:N<=1000):CallF prog G 172 [.pointer (some ⟨p,0,none⟩),I64 k] ((syL p U)) (Ret fun v q'=> ∃ U',Real U' (Yt s k).1/\v= .tuple [I64 (max (Yt s k).2.1 0),.bool (decide (0<=(Yt s k).2.1)),I64 (Yt s k).2.2].toArray/\q'=syL p U'):=by
 refine aC func172 ntmps172 rfl fun F cs=> ?_;have ho:=hR.lo;have w:=hR.lc;have hh:=hR.lh;have a0:=hs.no;have c0:=hs.nc;have b0:=hs.nh;change X _ _ _ _ _ _ _ _ (pto p (.cells [.bool true,.slice U.ao U.owners.length U.co,.slice U.ac U.conds.length U.cc,.slice U.ah U.chans.length U.ch].toArray 176 (0,0))::lsH I64 3 U.ao U.co U.owners::rsH cqs 1 191 U.ac U.cc U.conds::stars (U.conds.map (lsV 3))::rsH chs 3 180 U.ah U.ch U.chans::stars (U.chans.map fun x=>lsV 2 x.q)::F);rcases aX (inR k U.conds.length) with j|j
 . have d:inR k s.conds.length:=by rw [<-w];exact j
   obtain ⟨i,rfl⟩:=aV j.1;have b:i<U.conds.length:=(by have:=j.2;omega);refine Yw (l:=U.conds) (by omega) fun g e_=> ?_;rw [e_];have y:=hs.lenC hR b hN;have h:=hR.cl b;refine xo 10 ?_;refine aO call88 (Vl clA clA) ?_;refine oo 1 ?_;refine aO call87 (Ff (p:=p) clA (by omega) b trivial) ?_;refine rn [12,1020] ?_;refine bY (Tu b) ?_;refine xo 7 ?_;rcases aX (U.conds[i].l= []) with n|n
   . refine bA 25 (.pointer (some ⟨g,i*1,none⟩)) rfl (by simp) ?_;refine W3 call196 (take_no (f:=cqs) (sz:=1) (ty:=191) (l:=U.conds) (i:=i) (m:=U.conds[i].l) (a:=U.conds[i].a) (c:=U.conds[i].c) b (fun _=>rfl) rfl rfl (by omega) n) ?_;refine kd0 ?_;refine ox 14 ?_;refine bY (Tn b (a:=U.conds[i].a) (c:=U.conds[i].c) (m:=U.conds[i].l)) ?_;rw [show U.conds.set i ⟨U.conds[i].a,U.conds[i].c,U.conds[i].l⟩=U.conds from dO b];rw [show Yt s (i:Int)=(s, -1,0) from (if_pos d).trans (if_pos (h.trans n))];refine Zq [pto p (.cells [.bool true,.slice U.ao U.owners.length U.co,.slice (some ⟨g,0,none⟩) U.conds.length U.cc,.slice U.ah U.chans.length U.ch].toArray 176 (0,0)),lsH I64 3 U.ao U.co U.owners,rsH cqs 1 191 (some ⟨g,0,none⟩) U.cc U.conds,stars (U.conds.map (lsV 3)),rsH chs 3 180 U.ah U.ch U.chans,stars (U.chans.map fun x=>lsV 2 x.q)] func172 (Zqc results172 rfl rfl rfl) ⟨_,rfl,U,hR,rfl,by unfold syL;rw [e_]⟩
   refine bA 25 (.pointer (some ⟨g,i*1,none⟩)) rfl (by simp) ?_;refine W3 call196 (take_ok (f:=cqs) (sz:=1) (ty:=191) (l:=U.conds) (i:=i) (m:=U.conds[i].l) (a:=U.conds[i].a) (c:=U.conds[i].c) (u:=(fun a c=>⟨a,c,U.conds[i].l.drop 1⟩)) b (fun _=>rfl) rfl rfl (by omega) n (fun _ _=>rfl)) ?_;refine kd2 fun t o=> ?_
   refine ox 14 ?_;refine bY (Tn b (a:=t) (c:=o) (m:=U.conds[i].l.drop 1)) ?_
   have h0:0<=U.conds[i].l.headD 0:=by
    have z:=hs.c U.conds[i].l (by rw [<-h];exact Y3 (by rw [<-w];exact b))
    cases hL:U.conds[i].l with
    |nil=>exact aR hL n
    |cons x r=>rw [hL] at z;exact (z.2 x (bI ..)).1
   rw [show Yt s (i:Int)=({ s with conds:=s.conds.set i (U.conds[i].l.drop 1) },U.conds[i].l.headD 0,0) from (if_pos d).trans ((if_neg (fun e=>n (h.symm.trans e))).trans (by rw [<-h];rfl))];refine Zq [pto p (.cells [.bool true,.slice U.ao U.owners.length U.co,.slice (some ⟨g,0,none⟩) U.conds.length U.cc,.slice U.ah U.chans.length U.ch].toArray 176 (0,0)),lsH I64 3 U.ao U.co U.owners,rsH cqs 1 191 (some ⟨g,0,none⟩) U.cc (U.conds.set i ⟨t,o,U.conds[i].l.drop 1⟩),stars ((U.conds.set i ⟨t,o,U.conds[i].l.drop 1⟩).map (lsV 3)),rsH chs 3 180 U.ah U.ch U.chans,stars (U.chans.map fun x=>lsV 2 x.q)] func172 (Zqc results172 rfl rfl rfl) ⟨_,rfl, { U with ac:=(some ⟨g,0,none⟩),conds:=U.conds.set i ⟨t,o,U.conds[i].l.drop 1⟩ },hR.setC i ⟨t,o,U.conds[i].l.drop 1⟩ _,by dsimp only;rw [fU h0,aN h0],by unfold syL;simp⟩
 have d: ¬inR k s.conds.length:=by rw [<-w];exact j
 refine xo 10 ?_;refine aO call88 (Vl clA clA) ?_;refine oo 1 ?_;refine aO call87 (Dr (p:=p) clA (by omega) j) ?_;refine rn [12,2020,8] ?_;rw [show Yt s k=(s, -1,4) from if_neg d];refine Zq [pto p (.cells [.bool true,.slice U.ao U.owners.length U.co,.slice U.ac U.conds.length U.cc,.slice U.ah U.chans.length U.ch].toArray 176 (0,0)),lsH I64 3 U.ao U.co U.owners,rsH cqs 1 191 U.ac U.cc U.conds,stars (U.conds.map (lsV 3)),rsH chs 3 180 U.ah U.ch U.chans,stars (U.chans.map fun x=>lsV 2 x.q)] func172 (Zqc results172 rfl rfl rfl) ⟨_,rfl,U,hR,rfl,rfl⟩
theorem Room_ok (hR:Real U s)(hs:s.ok N)(hN:N<=1000):CallF prog G 125 (AO p k) ((syL p U)) (Ret fun v q'=>v= .tuple [I64 (Bp s k).1,I64 (Bp s k).2].toArray/\q'=syL p U):=by
 refine aC func125 ntmps125 rfl fun F u=> ?_;have t:=hR.lo;have o:=hR.lc;have e:=hR.lh;have j:=hs.no;have n:=hs.nc;have m:=hs.nh;change X _ _ _ _ _ _ _ _ (A4 p U.ao U U.ac U.ah F);rcases aX (inR k U.chans.length) with b|b
 . have a:inR k s.chans.length:=by rw [<-e];exact b
   obtain ⟨i,rfl⟩:=aV b.1;have d:i<U.chans.length:=(by have:=b.2;omega);refine Yw (l:=U.chans) (by omega) fun g f=> ?_;rw [f];refine xo 9 ?_;refine aO call91 (Ys clA clA) ?_;refine oo 1 ?_;refine aO call90 (Ts (p:=p) clA (by omega) d trivial) ?_;refine rn [12,1017] ?_;obtain ⟨r,h,q⟩:=Tt (hR.hl d);have c:Sees (pto p (.cells [.bool true,.slice U.ao U.owners.length U.co,.slice U.ac U.conds.length U.cc,.slice (some ⟨g,0,none⟩) U.chans.length U.ch].toArray 176 (0,0))::lsH I64 3 U.ao U.co U.owners::rsH cqs 1 191 U.ac U.cc U.conds::stars (AP U)::rsH chs 3 180 (some ⟨g,0,none⟩) U.ch U.chans::stars (AN U)::F) (some ⟨g,0,none⟩) (U.chans.flatMap chs):=(bE _).le leA;refine xo 7 ?_;refine ld ?_ (hc:=(fZ (k:=1) c (fun _=>rfl) (aD d) (by omega) rfl rfl));refine ox 3 ?_;rw [show Bp s (i:Int)=(U.chans[i].room,0) from (if_pos a).trans (by rw [<-h];rfl)];refine Zq (Ai p U.ao U U.ac g) func125 (Wu results125 rfl rfl) ⟨_,rfl,rfl,by unfold syL;rw [f]⟩
 have a: ¬inR k s.chans.length:=by rw [<-e];exact b
 refine xo 9 ?_;refine aO call91 (Ys clA clA) ?_;refine oo 1 ?_;refine aO call90 (Nj (p:=p) clA (by omega) b) ?_;refine rn [12,2017,7] ?_;rw [show Bp s k=(0,4) from if_neg a];refine Zq (A5 p U.ao U U.ac U.ah) func125 (Wu results125 rfl rfl) ⟨_,rfl,rfl,rfl⟩
theorem Recv_ok (hR:Real U s)(hs:s.ok N)(hN:N<=1000):CallF prog G 175 [.pointer (some ⟨p,0,none⟩),I64 k] ((syL p U)) (Ret fun v q'=> ∃ U',Real U' (Vq s k).1/\v= .tuple [I64 (Vq s k).2.1,I64 (max (Vq s k).2.2.1 0),.bool (decide (0<=(Vq s k).2.2.1)),I64 (Vq s k).2.2.2].toArray/\q'=syL p U'):=by
 refine aC func175 ntmps175 rfl fun F cs=> ?_;have ho:=hR.lo;have hc:=hR.lc;have hh:=hR.lh;have k0:=hs.no;have m0:=hs.nc;have l0:=hs.nh;change X _ _ _ _ _ _ _ _ (pto p (.cells [.bool true,.slice U.ao U.owners.length U.co,.slice U.ac U.conds.length U.cc,.slice U.ah U.chans.length U.ch].toArray 176 (0,0))::lsH I64 3 U.ao U.co U.owners::rsH cqs 1 191 U.ac U.cc U.conds::stars (U.conds.map (lsV 3))::rsH chs 3 180 U.ah U.ch U.chans::stars (U.chans.map fun x=>lsV 2 x.q)::F);rcases aX (inR k U.chans.length) with r|r
 . have n:inR k s.chans.length:=by rw [<-hh];exact r
   obtain ⟨i,rfl⟩:=aV r.1;have b:i<U.chans.length:=(by have:=r.2;omega);refine Yw (l:=U.chans) (by omega) fun g e_=> ?_;rw [e_];have e0:=hs.lenH hR b hN;obtain ⟨r1,r2,r3⟩:=Tt (hR.hl b);have c0:=hs.h _ (Y3 (d:=ch0) (show i<s.chans.length by rw [<-hh];exact b));obtain ⟨⟨j0,i0⟩,h0,n0,a0,g0⟩:=c0;have o:(s.chans.getD i ch0).all.drop (s.chans.getD i ch0).taken=U.chans[i].q.l:=r1;have w:=bK List.length o;rw [bS] at w;have f0:(U.chans[i].q.l.length:Int)<=U.chans[i].room:=by rw [<-r1,<-r2];exact a0
   refine xo 11 ?_;refine aO call91 (Ys clA clA) ?_;refine oo 1 ?_;refine aO call90 (Ts (p:=p) clA (by omega) b trivial) ?_;refine rn [12,1022] ?_;have j:Sees (pto p (.cells [.bool true,.slice U.ao U.owners.length U.co,.slice U.ac U.conds.length U.cc,.slice (some ⟨g,0,none⟩) U.chans.length U.ch].toArray 176 (0,0))::lsH I64 3 U.ao U.co U.owners::rsH cqs 1 191 U.ac U.cc U.conds::stars (U.conds.map (lsV 3))::rsH chs 3 180 (some ⟨g,0,none⟩) U.ch U.chans::stars (U.chans.map fun x=>lsV 2 x.q)::F) (some ⟨g,0,none⟩) (U.chans.flatMap chs):=(bE _).le leA;refine rn [3,0,1,2,3] ?_;refine ldD 3 ?_ (hc:=(by first|exact (fZ (k:=2) j (fun _=>rfl) (aD b) (by omega) rfl rfl)|exact (fZ (k:=0) j (fun _=>rfl) (aD b) (by omega) rfl rfl)));refine dd [4,5,6,7] ?_;refine ldD 8 ?_ (hc:=(by first|exact (fZ (k:=2) j (fun _=>rfl) (aD b) (by omega) rfl rfl)|exact (fZ (k:=0) j (fun _=>rfl) (aD b) (by omega) rfl rfl)));refine rn [10,11,12,0,5] ?_;refine eU (Bz b) ?_;rcases aX (U.chans[i].q.l= []) with t|t
   . refine bA 38 (.pointer (some ⟨g,i*3,none⟩)) rfl (by simp) ?_;refine W3 call198 (Zqb (f:=chs) (sz:=3) (ty:=180) (l:=U.chans) (i:=i) (m:=U.chans[i].q.l) (a:=U.chans[i].q.a) (c:=U.chans[i].q.c) b (fun _=>rfl) rfl rfl (by omega) t) ?_;refine kd0 ?_;refine oo 10 ?_;refine Zt (bV rfl) ?_;refine rn [1,2043,8] ?_;refine bY (Tp b U.chans[i]) ?_;rw [show U.chans.set i U.chans[i]=U.chans from dO b];rw [show Vq s (i:Int)=(s,0, -1,0) from (if_pos n).trans (if_pos (r1.trans t))];refine Zq [pto p (.cells [.bool true,.slice U.ao U.owners.length U.co,.slice U.ac U.conds.length U.cc,.slice (some ⟨g,0,none⟩) U.chans.length U.ch].toArray 176 (0,0)),lsH I64 3 U.ao U.co U.owners,rsH cqs 1 191 U.ac U.cc U.conds,stars (U.conds.map (lsV 3)),rsH chs 3 180 (some ⟨g,0,none⟩) U.ch U.chans,stars (U.chans.map fun x=>lsV 2 x.q)] func175 (Ea results175 (eB rfl (eB rfl (eB rfl (eB rfl eI))))) ⟨_,rfl,U,hR,rfl,by unfold syL;rw [e_]⟩
   refine bA 38 (.pointer (some ⟨g,i*3,none⟩)) rfl (by simp) ?_;refine W3 call198 (Zqy (f:=chs) (sz:=3) (ty:=180) (l:=U.chans) (i:=i) (m:=U.chans[i].q.l) (a:=U.chans[i].q.a) (c:=U.chans[i].q.c) (u:=(fun a c=>⟨⟨a,c,U.chans[i].q.l.drop 1⟩,U.chans[i].room,U.chans[i].sent⟩)) b (fun _=>rfl) rfl rfl (by omega) t (fun _ _=>rfl)) ?_;refine kd2 fun z y=> ?_
   refine oo 10 ?_;refine Zt (bV rfl) ?_;refine rn [1,1043,11] ?_;refine bY (Tp b (⟨⟨z,y,U.chans[i].q.l.drop 1⟩,U.chans[i].room,U.chans[i].sent⟩:ChC)) ?_;have d0:0<U.chans[i].q.l.length:=iK.2 t;have b0:(s.chans.getD i ch0).all.getD (s.chans.getD i ch0).taken 0=U.chans[i].q.l.headD 0:=by rw [<-o,List.headD_eq_head?_getD,List.head?_drop,bD]
   rw [show Vq s (i:Int)=({ s with chans:=s.chans.set i { s.chans.getD i ch0 with taken:=(s.chans.getD i ch0).taken+1 } },U.chans[i].q.l.headD 0,((s.chans.getD i ch0).taken:Int),0) from (if_pos n).trans ((if_neg (fun e=>t (r1.symm.trans e))).trans (by rw [<-b0];rfl))];refine Zq [pto p (.cells [.bool true,.slice U.ao U.owners.length U.co,.slice U.ac U.conds.length U.cc,.slice (some ⟨g,0,none⟩) U.chans.length U.ch].toArray 176 (0,0)),lsH I64 3 U.ao U.co U.owners,rsH cqs 1 191 U.ac U.cc U.conds,stars (U.conds.map (lsV 3)),rsH chs 3 180 (some ⟨g,0,none⟩) U.ch (U.chans.set i (⟨⟨z,y,U.chans[i].q.l.drop 1⟩,U.chans[i].room,U.chans[i].sent⟩:ChC)),stars ((U.chans.set i (⟨⟨z,y,U.chans[i].q.l.drop 1⟩,U.chans[i].room,U.chans[i].sent⟩:ChC)).map fun x=>lsV 2 x.q)] func175 (Ea results175 (eB rfl (eB rfl (eB rfl (eB rfl eI))))) ⟨_,rfl, { U with ah:=(some ⟨g,0,none⟩),chans:=U.chans.set i (⟨⟨z,y,U.chans[i].q.l.drop 1⟩,U.chans[i].room,U.chans[i].sent⟩:ChC) },hR.setH i (⟨⟨z,y,U.chans[i].q.l.drop 1⟩,U.chans[i].room,U.chans[i].sent⟩:ChC) _ (by unfold Ch.row ChC.row Ch.items;dsimp only;rw [<-r2,<-r3,<-o,fK]) _,by dsimp only;rw [fU (by omega),aN (by omega),show ((U.chans[i]).sent - (U.chans[i].q.l.length:Int))=((s.chans.getD i ch0).taken:Int) by omega],by unfold syL;simp⟩
 have n: ¬inR k s.chans.length:=by rw [<-hh];exact r
 refine xo 11 ?_;refine aO call91 (Ys clA clA) ?_;refine oo 1 ?_;refine aO call90 (Nj (p:=p) clA (by omega) r) ?_;refine rn [12,2022,9] ?_;rw [show Vq s k=(s,0, -1,4) from if_neg n];refine Zq [pto p (.cells [.bool true,.slice U.ao U.owners.length U.co,.slice U.ac U.conds.length U.cc,.slice U.ah U.chans.length U.ch].toArray 176 (0,0)),lsH I64 3 U.ao U.co U.owners,rsH cqs 1 191 U.ac U.cc U.conds,stars (U.conds.map (lsV 3)),rsH chs 3 180 U.ah U.ch U.chans,stars (U.chans.map fun x=>lsV 2 x.q)] func175 (Ea results175 (eB rfl (eB rfl (eB rfl (eB rfl eI))))) ⟨_,rfl,U,hR,rfl,rfl⟩
theorem Send_ok (hR:Real U s)(hs:s.ok N)(hN:N<=1000):CallF prog G 174 [.pointer (some ⟨p,0,none⟩),I64 k,I64 t] ((syL p U)) (Ret fun v q'=> ∃ U',Real U' (Vf s k t).1/\v= .tuple [I64 (max (Vf s k t).2.1 0),.bool (decide (0<=(Vf s k t).2.1)),I64 (Vf s k t).2.2].toArray/\q'=syL p U'):=by
 refine aC func174 ntmps174 rfl fun F cs=> ?_;have ho:=hR.lo;have hc:=hR.lc;have hh:=hR.lh;have o0:=hs.no;have q0:=hs.nc;have p0:=hs.nh;change X _ _ _ _ _ _ _ _ (pto p (.cells [.bool true,.slice U.ao U.owners.length U.co,.slice U.ac U.conds.length U.cc,.slice U.ah U.chans.length U.ch].toArray 176 (0,0))::lsH I64 3 U.ao U.co U.owners::rsH cqs 1 191 U.ac U.cc U.conds::stars (U.conds.map (lsV 3))::rsH chs 3 180 U.ah U.ch U.chans::stars (U.chans.map fun x=>lsV 2 x.q)::F);rcases aX (inR k U.chans.length) with hr|hr
 focus
  have r:inR k s.chans.length:=by rw [<-hh];exact hr
  obtain ⟨i,rfl⟩:=aV hr.1;have o:i<U.chans.length:=(by have:=hr.2;omega);rcases aX (val t) with hg|hg
  . refine Yw (l:=U.chans) (by omega) fun g e_=> ?_;rw [e_];have j0:=hs.lenH hR o hN;obtain ⟨r1,r2,r3⟩:=Tt (hR.hl o);have i0:=hs.h _ (Y3 (d:=ch0) (show i<s.chans.length by rw [<-hh];exact o));obtain ⟨⟨n0,m0⟩,d0,r0,h0,l0⟩:=i0;have c0:(s.chans.getD i ch0).all.drop (s.chans.getD i ch0).taken=U.chans[i].q.l:=r1;have b0:=bK List.length c0;rw [bS] at b0;have k0:(U.chans[i].q.l.length:Int)<=U.chans[i].room:=by rw [<-r1,<-r2];exact h0
    refine xo 10 ?_;refine aO call91 (Ys clA clA) ?_;refine oo 2 ?_;refine aO call90 (Zzq (p:=p) clA (by omega) o hg) ?_;refine rn [8,0,1,2,3] ?_;refine XD.kf 22 ?_;have w:Sees (pto p (.cells [.bool true,.slice U.ao U.owners.length U.co,.slice U.ac U.conds.length U.cc,.slice (some ⟨g,0,none⟩) U.chans.length U.ch].toArray 176 (0,0))::lsH I64 3 U.ao U.co U.owners::rsH cqs 1 191 U.ac U.cc U.conds::stars (U.conds.map (lsV 3))::rsH chs 3 180 (some ⟨g,0,none⟩) U.ch U.chans::stars (U.chans.map fun x=>lsV 2 x.q)::F) (some ⟨g,0,none⟩) (U.chans.flatMap chs):=(bE _).le leA;refine dd [3,4,5,6] ?_;refine ldD 7 ?_ (hc:=(by first|exact (fZ (k:=1) w (fun _=>rfl) (aD o) (by omega) rfl rfl)|exact (fZ (k:=0) w (fun _=>rfl) (aD o) (by omega) rfl rfl)));refine dd [8,9,10,11] ?_;refine ldD 12 ?_ (hc:=(by first|exact (fZ (k:=1) w (fun _=>rfl) (aD o) (by omega) rfl rfl)|exact (fZ (k:=0) w (fun _=>rfl) (aD o) (by omega) rfl rfl)));refine rn [14,15,0] ?_;rcases aX ((U.chans[i].q.l.length:Int)<U.chans[i].room) with hx|hx
    . refine Jc 34 ?_;refine bY (Bz o) ?_;refine xo 8 ?_;refine bA 38 (.pointer (some ⟨g,i*3,none⟩)) rfl (by simp) ?_;refine W3 call197 (put64_ok (t:=t) (f:=chs) (sz:=3) (ty:=180) (l:=U.chans) (i:=i) (m:=U.chans[i].q.l) (a:=U.chans[i].q.a) (c:=U.chans[i].q.c) (u:=(fun a c=>⟨⟨a,c,U.chans[i].q.l++ [t]⟩,U.chans[i].room,U.chans[i].sent⟩)) o (fun _=>rfl) rfl rfl (by omega) (fun _ _=>rfl)) ?_;rintro _ _ ⟨e,b,rfl⟩ _ e_;simp only [ca,na] at e_;subst e_;have z:i<(U.chans.set i (⟨⟨e,b,U.chans[i].q.l++ [t]⟩,U.chans[i].room,U.chans[i].sent⟩:ChC)).length:=by rw [bC];exact o
      have a0:(U.chans.set i (⟨⟨e,b,U.chans[i].q.l++ [t]⟩,U.chans[i].room,U.chans[i].sent⟩:ChC))[i]'z=(⟨⟨e,b,U.chans[i].q.l++ [t]⟩,U.chans[i].room,U.chans[i].sent⟩:ChC):=cN _;have g0:Sees (rsH chs 3 180 (some ⟨g,0,none⟩) U.ch (U.chans.set i (⟨⟨e,b,U.chans[i].q.l++ [t]⟩,U.chans[i].room,U.chans[i].sent⟩:ChC))::F) (some ⟨g,0,none⟩) ((U.chans.set i (⟨⟨e,b,U.chans[i].q.l++ [t]⟩,U.chans[i].room,U.chans[i].sent⟩:ChC)).flatMap chs):=bE _;have f0: ∀ q,Le q (rsH chs 3 180 (some ⟨g,0,none⟩) U.ch (U.chans.set i (⟨⟨e,b,U.chans[i].q.l++ [t]⟩,U.chans[i].room,U.chans[i].sent⟩:ChC))::F)->Sees q (some ⟨g,0,none⟩) ((U.chans.set i (⟨⟨e,b,U.chans[i].q.l++ [t]⟩,U.chans[i].room,U.chans[i].sent⟩:ChC)).flatMap chs):=fun q h=>g0.le h
      refine oo 6 ?_;refine ld ?_ (hc:=(show Cl _ _ (I64 U.chans[i].sent) from fZ (k:=2) (y:=(⟨⟨e,b,U.chans[i].q.l++ [t]⟩,U.chans[i].room,U.chans[i].sent⟩:ChC)) (f0 _ leA) (fun _=>rfl) (by rw [aD z,a0]) (by omega) rfl rfl));refine oo 3 ?_;refine dJ (Yr (g:=g) (f:=chs) (sz:=3) (l:=U.chans.set i (⟨⟨e,b,U.chans[i].q.l++ [t]⟩,U.chans[i].room,U.chans[i].sent⟩:ChC)) (u:=(⟨⟨e,b,U.chans[i].q.l++ [t]⟩,U.chans[i].room,U.chans[i].sent+1⟩:ChC)) (n:=i) (k:=2) (j:=(i:Int)) (by simp [evp,lkp]) rfl sizeOf3 (fun _=>rfl) rfl z rfl (by rw [a0];rfl) rfl rfl Zk) ?_;rintro _ _ ⟨rfl,rfl⟩;rw [fI];have e0: ∀ q,Le q (rsH chs 3 180 (some ⟨g,0,none⟩) U.ch (U.chans.set i (⟨⟨e,b,U.chans[i].q.l++ [t]⟩,U.chans[i].room,U.chans[i].sent+1⟩:ChC))::F)->Sees q (some ⟨g,0,none⟩) ((U.chans.set i (⟨⟨e,b,U.chans[i].q.l++ [t]⟩,U.chans[i].room,U.chans[i].sent+1⟩:ChC)).flatMap chs):=fun q h=>(bE F).le h
      refine oo 6 ?_;refine ld ?_ (hc:=(show Cl _ _ (I64 (U.chans[i].sent+1)) from fZ (k:=2) (y:=(⟨⟨e,b,U.chans[i].q.l++ [t]⟩,U.chans[i].room,U.chans[i].sent+1⟩:ChC)) (e0 _ leA) (fun _=>rfl) (by rw [List.getElem?_set_self o]) (by omega) rfl rfl));refine ox 5 ?_;refine bY (Tp o (⟨⟨e,b,U.chans[i].q.l++ [t]⟩,U.chans[i].room,U.chans[i].sent+1⟩:ChC)) ?_;rw [show Vf s (i:Int) t=({ s with chans:=s.chans.set i { s.chans.getD i ch0 with all:=(s.chans.getD i ch0).all++ [t] } },((s.chans.getD i ch0).all.length:Int),0) from ((if_pos r).trans ((if_pos hg).trans ((if_pos (by rw [show (s.chans.getD (Int.toNat ((i:Nat):Int)) ch0).items=_ from r1,show (s.chans.getD (Int.toNat ((i:Nat):Int)) ch0).room=_ from r2];exact hx)).trans rfl)))];refine Zq [pto p (.cells [.bool true,.slice U.ao U.owners.length U.co,.slice U.ac U.conds.length U.cc,.slice (some ⟨g,0,none⟩) U.chans.length U.ch].toArray 176 (0,0)),lsH I64 3 U.ao U.co U.owners,rsH cqs 1 191 U.ac U.cc U.conds,stars (U.conds.map (lsV 3)),rsH chs 3 180 (some ⟨g,0,none⟩) U.ch (U.chans.set i (⟨⟨e,b,U.chans[i].q.l++ [t]⟩,U.chans[i].room,U.chans[i].sent+1⟩:ChC)),stars ((U.chans.set i (⟨⟨e,b,U.chans[i].q.l++ [t]⟩,U.chans[i].room,U.chans[i].sent+1⟩:ChC)).map fun x=>lsV 2 x.q)] func174 (Zqc results174 rfl rfl rfl) ⟨_,rfl, { U with ah:=(some ⟨g,0,none⟩),chans:=U.chans.set i (⟨⟨e,b,U.chans[i].q.l++ [t]⟩,U.chans[i].room,U.chans[i].sent+1⟩:ChC) },hR.setH i (⟨⟨e,b,U.chans[i].q.l++ [t]⟩,U.chans[i].room,U.chans[i].sent+1⟩:ChC) _ (by unfold Ch.row ChC.row Ch.items;dsimp only;rw [<-r2,<-r3,<-c0,eV d0,aG];rfl) _,by dsimp only;rw [fU (by omega),aN (by omega),show U.chans[i].sent+1 - 1=((s.chans.getD i ch0).all.length:Int) by omega],by unfold syL;simp⟩
    refine rn [2034,8] ?_;rw [show Vf s (i:Int) t=(s, -1,0) from ((if_pos r).trans ((if_pos hg).trans (if_neg (by rw [show (s.chans.getD (Int.toNat ((i:Nat):Int)) ch0).items=_ from r1,show (s.chans.getD (Int.toNat ((i:Nat):Int)) ch0).room=_ from r2];exact hx))))];refine Zq [pto p (.cells [.bool true,.slice U.ao U.owners.length U.co,.slice U.ac U.conds.length U.cc,.slice (some ⟨g,0,none⟩) U.chans.length U.ch].toArray 176 (0,0)),lsH I64 3 U.ao U.co U.owners,rsH cqs 1 191 U.ac U.cc U.conds,stars (U.conds.map (lsV 3)),rsH chs 3 180 (some ⟨g,0,none⟩) U.ch U.chans,stars (U.chans.map fun x=>lsV 2 x.q)] func174 (Zqc results174 rfl rfl rfl) ⟨_,rfl,U,hR,rfl,by unfold syL;rw [e_]⟩
  refine xo 10 ?_;refine aO call91 (Ys clA clA) ?_;refine oo 2 ?_;refine aO call90 (S5 (p:=p) clA (by omega) o hg) ?_;refine rn [8,0,1,2,3] ?_;refine XD.kt 22 ?_;refine rn [4,5,6,7,8,9,10,11,12,13,14,15,0,8] ?_;rw [show Vf s _ t=(s, -1,2) from (if_pos r).trans (if_neg hg)]
 rotate_left
 focus
  have r: ¬inR k s.chans.length:=by rw [<-hh];exact hr
  refine xo 10 ?_;refine aO call91 (Ys clA clA) ?_;refine oo 2 ?_;refine aO call90 (S4 (p:=p) clA (by omega) hr) ?_;refine rn [8,0,1,2,3] ?_;refine XD.kt 22 ?_;refine rn [4,5,6,7,8,9,10,11,12,13,14,15,0,8] ?_;rw [show Vf s _ t=(s, -1,4) from if_neg r]
 all_goals
  refine Zq [pto p (.cells [.bool true,.slice U.ao U.owners.length U.co,.slice U.ac U.conds.length U.cc,.slice U.ah U.chans.length U.ch].toArray 176 (0,0)),lsH I64 3 U.ao U.co U.owners,rsH cqs 1 191 U.ac U.cc U.conds,stars (U.conds.map (lsV 3)),rsH chs 3 180 U.ah U.ch U.chans,stars (U.chans.map fun x=>lsV 2 x.q)] func174 (Zqc results174 rfl rfl rfl) ⟨_,rfl,U,hR,rfl,rfl⟩
end
theorem Nz {α β:Type}(f:α->List β): ∀ (l:List α) (i n:Nat) (hi:i<l.length) (hn:n<(f l[i]).length),(l.flatMap f)[((l.take i).flatMap f).length+n]? =some (f l[i])[n]
 | [],_,_,hi,_=>by simp at hi
 |x::r,0,n,_,hn=>by
  simp only [List.getElem_cons_zero] at hn;simp [dV,hn]
 |x::r,i+1,n,hi,hn=>by
  have:=Nz f r i n (by simpa using hi) (by simpa using hn);simp only [kF,cH,aG,List.getElem_cons_succ];rw [cY (by omega),<-this];congr 1;omega
theorem N8 {α β:Type}(f:α->List β){l:List α}(hi:i<l.length):((l.take (i+1)).flatMap f).length=((l.take i).flatMap f).length+(f l[i]).length:=by
 rw [aH hi,iI,aG];simp
def wl (U:SyC):List Int:=U.conds.flatMap (·.l)
def wK (U:SyC)(i:Nat):Nat:=((U.conds.take i).flatMap (·.l)).length
theorem wK_get (hi:i<U.conds.length)(hn:n<U.conds[i].l.length):wK U i+n<(wl U).length/\(wl U)[wK U i+n]? =some U.conds[i].l[n]:=by
 have:=Nz (fun x:SlV Int=>x.l) U.conds i n hi hn;exact ⟨(cI.1 this).1,this⟩
theorem wK_step (hi:i<U.conds.length):wK U (i+1)=wK U i+U.conds[i].l.length:=N8 _ hi
def w1 (x:Int):List Value:= [I64 x]
section
variable {b0:Nat}{v m:Int}
theorem Cx {y:Nat}{J:Nat->HP}{Jf:HP->Prop}(hC:U.conds.length<=1000)(hL: ∀ x∈U.conds,x.l.length<=100000)
 (hy: ∀ i (h:i<((wl U).map w1).length),CallV prog G (.func (.yield y) #[] #[]) ((wl U).map w1)[i] (J i:: [pto b0 (.cells [.pointer (some ⟨p,0,none⟩)].toArray 95 (0,0)),pto p (.cells [.bool true,.slice U.ao U.owners.length U.co,.slice U.ac U.conds.length U.cc,.slice U.ah U.chans.length U.ch].toArray 176 (0,0)),lsH I64 3 U.ao U.co U.owners,rsH cqs 1 191 U.ac U.cc U.conds,stars (U.conds.map (lsV 3)),rsH chs 3 180 U.ah U.ch U.chans,stars (U.chans.map fun x=>lsV 2 x.q)]) (Ret fun v q=>(v= .bool true/\q=J (i+1):: [pto b0 (.cells [.pointer (some ⟨p,0,none⟩)].toArray 95 (0,0)),pto p (.cells [.bool true,.slice U.ao U.owners.length U.co,.slice U.ac U.conds.length U.cc,.slice U.ah U.chans.length U.ch].toArray 176 (0,0)),lsH I64 3 U.ao U.co U.owners,rsH cqs 1 191 U.ac U.cc U.conds,stars (U.conds.map (lsV 3)),rsH chs 3 180 U.ah U.ch U.chans,stars (U.chans.map fun x=>lsV 2 x.q)])\/(v= .bool false/\ ∃ A,Jf A/\q=A:: [pto b0 (.cells [.pointer (some ⟨p,0,none⟩)].toArray 95 (0,0)),pto p (.cells [.bool true,.slice U.ao U.owners.length U.co,.slice U.ac U.conds.length U.cc,.slice U.ah U.chans.length U.ch].toArray 176 (0,0)),lsH I64 3 U.ao U.co U.owners,rsH cqs 1 191 U.ac U.cc U.conds,stars (U.conds.map (lsV 3)),rsH chs 3 180 U.ah U.ch U.chans,stars (U.chans.map fun x=>lsV 2 x.q)]))):
 CallF prog G 205 [.func (.yield y) #[] #[],.pointer (some ⟨b0,0,none⟩)] (J 0:: [pto b0 (.cells [.pointer (some ⟨p,0,none⟩)].toArray 95 (0,0)),pto p (.cells [.bool true,.slice U.ao U.owners.length U.co,.slice U.ac U.conds.length U.cc,.slice U.ah U.chans.length U.ch].toArray 176 (0,0)),lsH I64 3 U.ao U.co U.owners,rsH cqs 1 191 U.ac U.cc U.conds,stars (U.conds.map (lsV 3)),rsH chs 3 180 U.ah U.ch U.chans,stars (U.chans.map fun x=>lsV 2 x.q)]) (Ret fun _ q=>q=J (wl U).length:: [pto b0 (.cells [.pointer (some ⟨p,0,none⟩)].toArray 95 (0,0)),pto p (.cells [.bool true,.slice U.ao U.owners.length U.co,.slice U.ac U.conds.length U.cc,.slice U.ah U.chans.length U.ch].toArray 176 (0,0)),lsH I64 3 U.ao U.co U.owners,rsH cqs 1 191 U.ac U.cc U.conds,stars (U.conds.map (lsV 3)),rsH chs 3 180 U.ah U.ch U.chans,stars (U.chans.map fun x=>lsV 2 x.q)]\/ ∃ A,Jf A/\q=A:: [pto b0 (.cells [.pointer (some ⟨p,0,none⟩)].toArray 95 (0,0)),pto p (.cells [.bool true,.slice U.ao U.owners.length U.co,.slice U.ac U.conds.length U.cc,.slice U.ah U.chans.length U.ch].toArray 176 (0,0)),lsH I64 3 U.ao U.co U.owners,rsH cqs 1 191 U.ac U.cc U.conds,stars (U.conds.map (lsV 3)),rsH chs 3 180 U.ah U.ch U.chans,stars (U.chans.map fun x=>lsV 2 x.q)]):=by
 refine aC func205 ntmps205 rfl fun F cs=> ?_;change X _ _ _ _ _ _ _ _ (J 0::pto b0 (.cells [.pointer (some ⟨p,0,none⟩)].toArray 95 (0,0))::pto p (.cells [.bool true,.slice U.ao U.owners.length U.co,.slice U.ac U.conds.length U.cc,.slice U.ah U.chans.length U.ch].toArray 176 (0,0))::lsH I64 3 U.ao U.co U.owners::rsH cqs 1 191 U.ac U.cc U.conds::stars (U.conds.map (lsV 3))::rsH chs 3 180 U.ah U.ch U.chans::stars (U.chans.map fun x=>lsV 2 x.q)::F);have o:=Zx (f:=cqs) (sz:=1) (fun _=>rfl) U.conds;have j:Sees (pto b0 (.cells [.pointer (some ⟨p,0,none⟩)].toArray 95 (0,0))::pto p (.cells [.bool true,.slice U.ao U.owners.length U.co,.slice U.ac U.conds.length U.cc,.slice U.ah U.chans.length U.ch].toArray 176 (0,0))::lsH I64 3 U.ao U.co U.owners::rsH cqs 1 191 U.ac U.cc U.conds::stars (U.conds.map (lsV 3))::rsH chs 3 180 U.ah U.ch U.chans::stars (U.chans.map fun x=>lsV 2 x.q)::F) U.ac (U.conds.flatMap cqs):=(bE _).le leA;have a0: ∀ i (h:i<U.conds.length),Sees (pto b0 (.cells [.pointer (some ⟨p,0,none⟩)].toArray 95 (0,0))::pto p (.cells [.bool true,.slice U.ao U.owners.length U.co,.slice U.ac U.conds.length U.cc,.slice U.ah U.chans.length U.ch].toArray 176 (0,0))::lsH I64 3 U.ao U.co U.owners::rsH cqs 1 191 U.ac U.cc U.conds::stars (U.conds.map (lsV 3))::rsH chs 3 180 U.ah U.ch U.chans::stars (U.chans.map fun x=>lsV 2 x.q)::F) U.conds[i].a (U.conds[i].l.map I64):=fun i h=>((bR _).le (Tu (ty:=3) h))
 refine rn [2,0,2,0,4] ?_;refine aY (cG (fun (s:Nat)=>s<=U.conds.length) (fun s=> [(0,.func (.yield y) #[] #[]),(10,.slice U.ac U.conds.length U.cc),(11,I64 U.conds.length),(12,I64 s)]) (fun s=>J (wK U s)::pto b0 (.cells [.pointer (some ⟨p,0,none⟩)].toArray 95 (0,0))::pto p (.cells [.bool true,.slice U.ao U.owners.length U.co,.slice U.ac U.conds.length U.cc,.slice U.ah U.chans.length U.ch].toArray 176 (0,0))::lsH I64 3 U.ao U.co U.owners::rsH cqs 1 191 U.ac U.cc U.conds::stars (U.conds.map (lsV 3))::rsH chs 3 180 U.ah U.ch U.chans::stars (U.chans.map fun x=>lsV 2 x.q)::F) (fun s=>U.conds.length - s) (fun s b ih=> ?_) 0 (by omega)) Zu leA;try dsimp only at b ih|-
 obtain hi:=b;refine xx 5 ?_;refine dR 13 rfl ?_ ?_<;>intro z
 . have z:=cW z;have d:s<U.conds.length:=(by omega);have d0:=hL _ (aB d);refine Yd (j.le (leA)) (by rw [o];omega) fun u k t=> ?_;rw [t] at j;rw [t];refine xo 7 ?_;refine Nw (n:=s) isAgg191 sizeOf191 j d ?_;refine bW zeroValue191 fun n1=> ?_
   refine rn [0,5,0,4] ?_;refine aY (cG (fun (n:Nat)=>n<=U.conds[s].l.length) (fun n=> [(0,.func (.yield y) #[] #[]),(10,.slice (some ⟨u,k,none⟩) U.conds.length U.cc),(11,I64 U.conds.length),(12,I64 s),(18,.slice U.conds[s].a U.conds[s].l.length U.conds[s].c),(19,I64 (U.conds[s].l.length:Int)),(20,I64 n)]) (fun n=>J (wK U s+n)::pto b0 (.cells [.pointer (some ⟨p,0,none⟩)].toArray 95 (0,0))::pto p (.cells [.bool true,.slice U.ao U.owners.length U.co,.slice (some ⟨u,k,none⟩) U.conds.length U.cc,.slice U.ah U.chans.length U.ch].toArray 176 (0,0))::lsH I64 3 U.ao U.co U.owners::rsH cqs 1 191 (some ⟨u,k,none⟩) U.cc U.conds::stars (U.conds.map (lsV 3))::rsH chs 3 180 U.ah U.ch U.chans::stars (U.chans.map fun x=>lsV 2 x.q)::F) (fun n=>U.conds[s].l.length - n) (fun n b m=> ?_) 0 (by omega)) Zu leA;try dsimp only at b m|-
   obtain e0:=b;refine xx 5 ?_;refine dR 21 rfl ?_ ?_<;>intro w
   . have w:=cW w;have c0:n<U.conds[s].l.length:=(by omega);obtain ⟨hk,hg⟩:=wK_get d c0;have e:=hy (wK U s+n) (by simpa using hk);rw [show ((wl U).map w1)[wK U s+n]'(by simpa using hk)=w1 U.conds[s].l[n] by rw [eY];congr 1;exact gN ((aD hk).symm.trans hg)] at e;rw [t] at e;have g:=a0 s d;rw [t] at g;refine Yd (g.le leA) (by simp;omega) fun b2 o2 e2=> ?_;rw [e2] at g;rw [e2];refine rn [7,0,6] ?_;refine XO.cV e ?_;rintro _ _ (⟨rfl,rfl⟩|⟨rfl,A,hA,rfl⟩) _ r<;>simp only [ca,na] at r<;>subst r
     . refine Zt (bV rfl) ?_;refine rn [1,1027,7] ?_;rw [<-e2];refine aY (m (n+1) (by omega) (by omega)) Zu leA
     refine Zt (bV rfl) ?_;refine rn [1,2027,1] ?_;refine Zq (A:: [pto b0 (.cells [.pointer (some ⟨p,0,none⟩)].toArray 95 (0,0)),pto p (.cells [.bool true,.slice U.ao U.owners.length U.co,.slice (some ⟨u,k,none⟩) U.conds.length U.cc,.slice U.ah U.chans.length U.ch].toArray 176 (0,0)),lsH I64 3 U.ao U.co U.owners,rsH cqs 1 191 (some ⟨u,k,none⟩) U.cc U.conds,stars (U.conds.map (lsV 3)),rsH chs 3 180 U.ah U.ch U.chans,stars (U.chans.map fun x=>lsV 2 x.q)]) func205 (Vm results205) ⟨_,rfl,.inr ⟨A,hA,rfl⟩⟩
   have w:=of_decide_eq_false w;obtain rfl:n=U.conds[s].l.length:=by omega
   refine xx 7 ?_;rw [<-wK_step d,<-t];refine aY (ih (s+1) (by omega) (by omega)) Zu leA
 have z:=of_decide_eq_false z;obtain rfl:s=U.conds.length:=by omega
 refine xx 2 ?_;rw [show wK U U.conds.length=(wl U).length by unfold wK wl;rw [cD]];refine Z7 (J (wl U).length:: [pto b0 (.cells [.pointer (some ⟨p,0,none⟩)].toArray 95 (0,0)),pto p (.cells [.bool true,.slice U.ao U.owners.length U.co,.slice U.ac U.conds.length U.cc,.slice U.ah U.chans.length U.ch].toArray 176 (0,0)),lsH I64 3 U.ao U.co U.owners,rsH cqs 1 191 U.ac U.cc U.conds,stars (U.conds.map (lsV 3)),rsH chs 3 180 U.ah U.ch U.chans,stars (U.chans.map fun x=>lsV 2 x.q)]) func205 (Vm results205) ⟨_,rfl,.inl rfl⟩
abbrev Az (v0:Nat):=((.cells [.pointer (some ⟨v0,0,none⟩)].toArray 95 (0,0)):Obj)
theorem F4 (hC:U.conds.length<=1000)(hL: ∀ x∈U.conds,x.l.length<=100000):Iter prog G (.func (.func 205) [].toArray (AM b0).toArray) ((wl U).map w1) [pto b0 (Az p),pto p (.cells [.bool true,.slice U.ao U.owners.length U.co,.slice U.ac U.conds.length U.cc,.slice U.ah U.chans.length U.ch].toArray 176 (0,0)),lsH I64 3 U.ao U.co U.owners,rsH cqs 1 191 U.ac U.cc U.conds,stars (AP U),rsH chs 3 180 U.ah U.ch U.chans,stars (AN U)]:=by
 intro y J Jf a;have:=CallV.c11 call205 (Cx (G:=G) (b0:=b0) (p:=p) (U:=U) (J:=J) (Jf:=Jf) hC hL a);rw [aU];exact this
theorem L5:CallF prog G 194 (AM p) (q) (Ret fun v q'=> ∃ b0,v= .func (.func 205) [].toArray (AM b0).toArray/\q'=pto b0 (Az p)::q):=by
 refine aC func194 ntmps194 rfl fun F b=> ?_;refine xo 2 ?_;refine Ww fun a=> ?_
 refine ox 7 ?_;refine Zq (pto a (Az p)::q) func194 (Zn results194 rfl) ⟨_,rfl,a,rfl,rfl⟩
theorem Real.wl_mem (hR:Real U s)(t:Int):t∈wl U↔ ∃ l∈s.conds,t∈l:=by
 rw [<-hR.c];unfold wl;simp only [List.mem_flatMap,bU];exact ⟨fun ⟨x,a,h⟩=>⟨_,⟨x,a,rfl⟩,h⟩,fun ⟨_,⟨x,a,rfl⟩,h⟩=>⟨x,a,h⟩⟩
theorem Wait_ok (hR:Real U s)(hs:s.ok N)(hN:N<=1000):CallF prog G 171 (Ae p k t) ((syL p U)) (Ret fun v q'=> ∃ U',Real U' (U7 s k t).1/\v= I64 (U7 s k t).2/\q'=syL p U'):=by
 refine aC func171 ntmps171 rfl fun F cs=> ?_;have ho:=hR.lo;have hc:=hR.lc;have hh:=hR.lh;have a0:=hs.no;have l0:=hs.nc;have k0:=hs.nh;change X _ _ _ _ _ _ _ _ (A4 p U.ao U U.ac U.ah F);rcases aX (inR k U.conds.length) with w|w
 focus
  have b:inR k s.conds.length:=by rw [<-hc];exact w
  obtain ⟨i,rfl⟩:=aV w.1;have o:i<U.conds.length:=(by have:=w.2;omega);rcases aX (thr t) with z|z
  . have i0:=hs.lenC hR o hN;have e0:=hR.cl o;refine Yw (l:=U.conds) (by omega) fun g e_=> ?_;rw [e_];refine xo 2 ?_;refine Ww fun n1=> ?_
    refine bW zeroValue34 fun n2=> ?_
    refine rn [2,0,1,2,4,5] ?_;refine Y2 2 call88 (Vl (p:=p) (a:=(some ⟨g,0,none⟩)) (n:=U.conds.length) (c:=U.cc) clA clA) ?_;refine Y2 5 call87 (Zzz (p:=p) clA (by omega) o z) ?_;refine rn [7,8,9,10,11,0,6,1020,6] ?_;refine W3 call194 (L5 (q:= []) (p:=p)) ?_;refine kd1 fun b0=> ?_
    refine ox 2 ?_;have g0: ∀ x∈U.conds,x.l.length<=100000:=fun x hx=>by obtain ⟨j,d,rfl⟩:=gY.1 hx;have:=hs.lenC hR d hN;omega
    refine X.range [pto b0 (Az p),pto p (Ad U.ao U g U.ah),lsH I64 3 U.ao U.co U.owners,rsH cqs 1 191 (some ⟨g,0,none⟩) U.cc U.conds,stars (AP U),rsH chs 3 180 U.ah U.ch U.chans,stars (AN U)] (fun k:Nat=> [Wx.pure (∀ m (h:m<(wl U).length),m<k->(wl U)[m]≠t),pto n1 (.cells [I64 t].toArray 3 (0,0)),pto n2 (.cells [I64 0].toArray 34 (0,0))]) (fun e qs=>e= .ret/\t∈wl U/\qs= [pto n1 (.cells [I64 t].toArray 3 (0,0)),pto n2 (.cells [I64 141].toArray 34 (0,0))]) (F:=F) (F4 (U:= { U with ac:=(some ⟨g,0,none⟩) }) (by show U.conds.length<=_;omega) g0) rfl ?_ (by intro x hx;obtain ⟨y,_,rfl⟩:=bU.1 hx;rfl) rfl (by rw [func171];rfl) rfl (fun j d l2 rec F0 m0=> ?_) (fun r=> ?_) fun r c2 j0 hJ=> ?_
    . simp only [ca,na];refine aS ?_ (Ql (fun j h d=>by omega) _);exact leA
    . have d0:j<(wl U).length:=by have h:=d;rw [aU] at h;exact h
      rw [show ((wl { U with ac:=some ⟨g,0,none⟩ }).map w1)[j]'d=w1 (wl U)[j] from eY ..];refine X.sub (p':= [(24,_),(23,_),(7,_),(6,_),(5,_)]) ⟨rfl,rfl,rfl,rfl,rfl,trivial⟩ ?_;simp only [ca,na];refine bY (q':=Wx.pure (∀ m (h:m<(wl U).length),m<j->(wl U)[m]≠t)::lp rec l2 .ready none::_) leA (X.pure (fun hP=> ?_));refine xx 3 ?_;refine X.beginRound rfl leA ?_;refine rn [4,0,2] ?_;refine dR 27 rfl ?_ ?_<;>intro h0
      . have h0:(wl U)[j]=t:=by simpa using h0
        refine rn [3,0,1] ?_;refine X.ret ⟨rfl,rfl,_,⟨rfl,h0 ▸ aB d0,rfl⟩,?_⟩;simp only [ca,na];exact leA
      have h0:(wl U)[j]≠t:=by simpa using h0
      refine xx 3 ?_;refine X.fall ⟨rfl,rfl,?_⟩;simp only [ca,na];have f0:(∀ m (h:m<(wl U).length),m<(j+1)->(wl U)[m]≠t):=fun k h hk=>(dQ k j).elim (hP k h) (fun h1=>by have c0:k=j:=(by omega);subst c0;exact h0)
      refine bM Zk (aS ?_ (Ql f0 _));exact leA
    . simp only [ca,na,aU];refine bY (q':=Wx.pure (∀ m (h:m<(wl U).length),m<(wl U).length->(wl U)[m]≠t)::_) Zk (X.pure (fun hP=> ?_));have a0: ¬∃ l∈s.conds,t∈l:=by rw [<-hR.wl_mem];intro hm;obtain ⟨j,d,e⟩:=gY.1 hm;exact hP j d d e
      refine bY (Tu (l:=U.conds) o) ?_;refine rn [2,0,1,2,3,4] ?_;refine dS 30 (.pointer (some ⟨g,i*1,none⟩)) rfl (by simp) ?_;refine Ua 4 call195 (put_ok (f:=cqs) (sz:=1) (ty:=191) (l:=U.conds) (i:=i) (t:=t) (m:=U.conds[i].l) (a:=U.conds[i].a) (c:=U.conds[i].c) (u:=fun a c=>⟨a,c,U.conds[i].l++ [t]⟩) o (fun _=>rfl) rfl rfl (by omega) (fun _ _=>rfl)) ?_;rintro _ _ ⟨a2,c2,rfl⟩ _ e_;simp only [ca,na] at e_;subst e_;refine ⟨trivial,?_⟩;refine rn [0,2,0,1] ?_;refine bY (Tn o (a:=a2) (c:=c2) (m:=U.conds[i].l++ [t])) ?_;rw [show U7 s (i:Int) t=({ s with conds:=s.conds.set i (U.conds[i].l++ [t]) },0) from (if_pos b).trans ((if_pos z).trans ((if_neg a0).trans (by rw [<-e0];rfl)))];refine X.ret ⟨rfl,Eh ?_⟩;exact jG (q':= [pto p (Ad U.ao U g U.ah),lsH I64 3 U.ao U.co U.owners,rsH cqs 1 191 (some ⟨g,0,none⟩) U.cc (U.conds.set i ⟨a2,c2,U.conds[i].l++ [t]⟩),stars ((U.conds.set i ⟨a2,c2,U.conds[i].l++ [t]⟩).map (lsV 3)),rsH chs 3 180 U.ah U.ch U.chans,stars (AN U)]) func171 (Bi results171 (eE rfl (LV.cell isAgg34 clA) eI)) ⟨_,rfl, { U with ac:=(some ⟨g,0,none⟩),conds:=U.conds.set i ⟨a2,c2,U.conds[i].l++ [t]⟩ },hR.setC i ⟨a2,c2,U.conds[i].l++ [t]⟩ _,rfl,by unfold syL;simp⟩ leA
    obtain ⟨rfl,hm,rfl⟩:=hJ;simp only [ca,na];rw [show U7 s (i:Int) t=(s,141) from (if_pos b).trans ((if_pos z).trans (if_pos ((hR.wl_mem t).1 hm)))];refine X.ret ⟨rfl,Eh ?_⟩;exact jG (q':= [pto p (Ad U.ao U g U.ah),lsH I64 3 U.ao U.co U.owners,rsH cqs 1 191 (some ⟨g,0,none⟩) U.cc U.conds,stars (AP U),rsH chs 3 180 U.ah U.ch U.chans,stars (AN U)]) func171 (Bi results171 (eE rfl (LV.cell isAgg34 clA) eI)) ⟨_,rfl,U,hR,rfl,by unfold syL;rw [e_]⟩ leA
  refine xo 2 ?_;refine Ww fun n1=> ?_
  refine bW zeroValue34 fun n2=> ?_
  refine rn [2,0,1,2,4,5] ?_;refine Y2 2 call88 (Vl (p:=p) (a:=U.ac) (n:=U.conds.length) (c:=U.cc) clA clA) ?_;refine Y2 5 call87 (S7 (p:=p) clA (by omega) o z) ?_;refine rn [7,8,9,10,11,0,6,2020,4,0,1] ?_;rw [show U7 s _ t=(s,2) from (if_pos b).trans (if_neg z)]
 rotate_left
 focus
  have b: ¬inR k s.conds.length:=by rw [<-hc];exact w
  refine xo 2 ?_;refine Ww fun n1=> ?_
  refine bW zeroValue34 fun n2=> ?_
  refine rn [2,0,1,2,4,5] ?_;refine Y2 2 call88 (Vl (p:=p) (a:=U.ac) (n:=U.conds.length) (c:=U.cc) clA clA) ?_;refine Y2 5 call87 (S6 (p:=p) clA (by omega) w) ?_;refine rn [7,8,9,10,11,0,6,2020,4,0,1] ?_;rw [show U7 s _ t=(s,4) from if_neg b]
 all_goals
  refine Zq (A5 p U.ao U U.ac U.ah) func171 (Bi results171 (eE rfl (LV.cell isAgg34 clA) eI)) ⟨_,rfl,U,hR,rfl,rfl⟩
end
theorem E7 {α:Type}(h:α->HP)(l:List α)(hx: ∀ x∈l,∀ q,Le q (h x::q))(q:List HP):Le q (stars (l.map h)::q):=by
 induction l with
 |nil=>exact W6 q
 |cons x r ih=>exact (ih fun y a=>hx y (bZ _ a)).trans ((hx x (bI ..) _).trans (Uz _ _ q))
theorem Ro {α:Type}(f d:List α)(i:Nat)(x:α)(hf:f.length=i)(hd:0<d.length):(f++d).set i x=(f++ [x])++d.drop 1:=by
 subst hf
 cases d with
 |nil=>simp at hd
 |cons y r=>simp
section
variable {v m:Int}
def sameS (s t:Sy):Prop:=s.owners=t.owners/\s.conds=t.conds/\s.chans.map Ch.row=t.chans.map Ch.row
instance (s t:Sy):Decidable (sameS s t):=by unfold sameS;exact inferInstance
end
def Dy (m c:Nat)(rooms:List Int):Sy:=⟨List.replicate m (-1),List.replicate c [],rooms.map fun r=>⟨r, [],0⟩⟩
abbrev Bu (r:Int):Prop:=1<=r/\r<=16
def Nq (m c:Int)(rooms:List Int):Prop:=(0<=m/\m<=64)/\(0<=c/\c<=64)/\rooms.length<=64/\ ∀ r∈rooms,Bu r
instance (m c:Int) (rooms:List Int):Decidable (Nq m c rooms):=by unfold Nq;exact inferInstance
theorem newS_ok {m:Nat}(h:Nq m c rooms):(Dy m c rooms).ok 0:=by
 obtain ⟨⟨_,n⟩,⟨_,k⟩,j,i⟩:=h;refine ⟨by simp [Dy];omega,by simp [Dy];omega,by simp [Dy];omega,fun o f=> ?_,fun l g=> ?_,fun x d=> ?_⟩
 . have:=(gO.1 f).2;omega
 . have:=(gO.1 g).2;subst this;simp
 obtain ⟨r,e,rfl⟩:=bU.1 d;obtain ⟨a,b⟩:=i r e;exact ⟨⟨a,b⟩,by simp,by simp,by simp [Ch.items];omega,by simp⟩
def ch1 (r:Int):ChC:=⟨⟨none,0, []⟩,r,0⟩
section
variable {v m mm cc:Int}
theorem New_no (hs:Sees q a (rooms.map I64))(ok: ¬Nq mm cc rooms):CallF prog G 46 [I64 mm,I64 cc,.slice a rooms.length c] (q) (Ret fun v q'=>v= .tuple [.pointer none,I64 2].toArray/\q'=q):=by
 refine aC func46 ntmps46 rfl fun F cs=> ?_;refine xo 11 ?_;refine Zf [13,7,6,0,1,2] ?_;apply Zy 3 16 13 rfl
 . intro b d;have h:=sp b;refine oo 3 ?_;exact Zz d ⟨orF b,Zv⟩
 . intro b d;have h:=sp b;refine oo 3 ?_;exact Zz d ⟨orT b,Zv⟩
 refine oo 1 ?_;refine Zf [17,7,6,0,1,2] ?_;apply Zy 3 20 17 rfl
 . intro b d;have h:=sp b;refine oo 3 ?_;exact Zz d ⟨orF b,Zv⟩
 . intro b d;have h:=sp b;refine oo 3 ?_;exact Zz d ⟨orT b,Zv⟩
 refine oo 1 ?_;refine Zf [21,7,6,0,1,2] ?_;apply Zy 3 24 21 rfl
 . intro b d;have h:=sp b;refine oo 3 ?_;exact Zz d ⟨orF b,Zv⟩
 . intro b d;have h:=sp b;refine oo 3 ?_;exact Zz d ⟨orT b,Zv⟩
 refine oo 1 ?_;refine Zf [25,7,6,0,1,2] ?_;apply Zy 4 29 25 rfl
 . intro b d;have h:=sp b;refine oo 4 ?_;exact Zz d ⟨orF b,Zv⟩
 . intro b d;have h:=sp b;refine oo 4 ?_;exact Zz d ⟨orT b,Zv⟩
 refine ox 1 ?_;rcases aX ((0<=mm/\mm<=64)/\(0<=cc/\cc<=64)/\rooms.length<=64) with hf|hf
 . obtain ⟨⟨z,b0⟩,⟨a0,f0⟩,hl⟩:=hf;refine Jc 29 ?_;obtain ⟨M,rfl⟩:=aV z;obtain ⟨C,rfl⟩:=aV a0;refine xo 5 ?_;refine bQ (Bk (n:=C) rfl rfl underlying173 gW rfl rfl (by omega) (by omega)) ?_;rintro _ _ ⟨g,rfl,rfl⟩;refine eU (q':=rsH cqs 1 191 (some ⟨g,0,none⟩) C (List.replicate C ⟨none,0, []⟩)::(q++F)) (by unfold rsH;rw [show (List.replicate C (⟨none,0, []⟩:SlV Int)).flatMap cqs=(List.replicate C (Value.slice none 0 0).cells.toList).flatten by simp [List.flatMap,cqs,Value.cells],cU];exact leA) ?_;refine oo 1 ?_;refine Ww fun x=> ?_
   refine ox 9 ?_;refine aY (cG (fun (s:Nat×Option Addr×Nat)=>s.1<=M) (fun s=> [(2,.slice a rooms.length c),(8,pt x),(34,I64 M),(35,I64 (s.1:Int))]) (fun s=>pto x (.cells [.bool true,.slice s.2.1 (List.replicate s.1 (-1:Int)).length s.2.2,.slice (some ⟨g,0,none⟩) C C,.slice none 0 0].toArray 176 (0,0))::lsH I64 3 s.2.1 s.2.2 (List.replicate s.1 (-1))::rsH cqs 1 191 (some ⟨g,0,none⟩) C (List.replicate C ⟨none,0, []⟩)::(q++F)) (fun s=>M - s.1) (fun s e o=> ?_) (0,none,0) (by dsimp only;omega)) Zu (aS leA (aS (Za I64 3 _) leA));try dsimp only at e o|-
   obtain hi:=e;obtain ⟨i,a1,c1⟩:=s;dsimp only at*;refine xx 5 ?_;refine dR 36 rfl ?_ ?_<;>intro k
   . have k:=cW k;have e0:i<M:=(by omega);refine rn [9,0] ?_;refine bQ (U3 (u:= -1) I64 underlying22 fN rfl rfl) ?_;rintro _ _ ⟨g2,rfl,rfl⟩;refine bQ (Yx (f:=I64) (l:=List.replicate i (-1)) (m:= [-1]) underlying22 fN rfl rfl rfl Zk ((bR _).le leA) (fun _=>rfl) (by simp;omega) (by simp;omega)) ?_;rintro _ _ ⟨a2,c2,rfl,rfl⟩;rw [<-List.replicate_succ' (n:=i)];refine rn [2,0,6] ?_;refine aY (o (i+1,a2,c2) (by dsimp only;omega) (by dsimp only;omega)) Zu leA
   have k:=of_decide_eq_false k;obtain rfl:i=M:=by omega
   clear o;refine xx 10 ?_;refine aY (cG (fun (s:Nat×Option Addr×Nat)=>s.1<=rooms.length/\ ∀ r∈rooms.take s.1,Bu r) (fun s=> [(8,pt x),(47,.slice a rooms.length c),(48,I64 rooms.length),(49,I64 (s.1:Int))]) (fun s=>pto x (.cells [.bool true,.slice a1 (List.replicate i (-1:Int)).length c1,.slice (some ⟨g,0,none⟩) C C,.slice s.2.1 ((rooms.take s.1).map ch1).length s.2.2].toArray 176 (0,0))::lsH I64 3 a1 c1 (List.replicate i (-1))::rsH cqs 1 191 (some ⟨g,0,none⟩) C (List.replicate C ⟨none,0, []⟩)::rsH chs 3 180 s.2.1 s.2.2 ((rooms.take s.1).map ch1)::(q++F)) (fun s=>rooms.length - s.1) (fun s e o=> ?_) (0,none,0) ⟨by dsimp only;omega,by simp⟩) Zu (aS leA (aS (Zi chs 3 180 _) leA));try dsimp only at e o|-
   obtain ⟨d0,w⟩:=e;obtain ⟨j,a3,c3⟩:=s;dsimp only at*;refine xx 5 ?_;refine dR 50 rfl ?_ ?_<;>intro k
   . have k:=cW k;have t:j<rooms.length:=(by omega);refine Yd (hs.le leA) (by simp;omega) fun b1 o1 e_=> ?_;subst e_;refine rn [7,0,8] ?_;refine Zf [55,10,8,47,48,49] ?_;apply Zy 3 58 55 rfl
     . intro b d;have h:=sp b;refine oo 3 ?_;exact Zz d ⟨orF b,Zv⟩
     . intro b d;have h:=sp b;refine oo 3 ?_;exact Zz d ⟨orT b,Zv⟩
     refine ox 1 ?_;rcases aX (Bu rooms[j]) with hk|hk
     . refine rn [1058,7,0,2] ?_;refine bQ (Yz (u:=ch1 rooms[j]) chs underlying174 fQ rfl rfl (fun _=>rfl) rfl) ?_;rintro _ _ ⟨g2,rfl,rfl⟩;have c0:((rooms.take j).map ch1).length=j:=by simp;omega
       refine bQ (Z9 (l:=(rooms.take j).map ch1) (m:= [ch1 rooms[j]]) underlying174 fQ rfl rfl (fun _=>rfl) rfl rfl Zk ((bE _).le leA) (fun _=>rfl) (by simp;omega) (by simp;omega)) ?_;rintro _ _ ⟨a4,c4,rfl,rfl⟩;rw [show (rooms.take j).map ch1++ [ch1 rooms[j]]=(rooms.take (j+1)).map ch1 by rw [aH t,aM];rfl];refine rn [2,0,6] ?_;refine aY (o (j+1,a4,c4) ⟨by dsimp only;omega,by dsimp only;rw [aH t];intro y p;rcases aQ.1 p with p|p;exact w y p;rw [aZ.1 p];exact hk⟩ (by dsimp only;omega)) Zu leA
     refine rn [2058,6] ?_;refine Zq (q) func46 (Wu results46 rfl rfl) ⟨_,rfl,rfl,rfl⟩
   have k:=of_decide_eq_false k;obtain rfl:j=rooms.length:=by omega
   rw [cD] at*;exact aR ⟨⟨by omega,by omega⟩,⟨by omega,by omega⟩,hl,w⟩ ok
 refine rn [2029,6] ?_;refine Zq (q) func46 (Wu results46 rfl rfl) ⟨_,rfl,rfl,rfl⟩
theorem New_ok (hs:Sees q a (rooms.map I64))(ok:Nq mm cc rooms):CallF prog G 46 [I64 mm,I64 cc,.slice a rooms.length c] (q) (Ret fun v q'=> ∃ p U,Real U (Dy mm.toNat cc.toNat rooms)/\v= .tuple [.pointer (some ⟨p,0,none⟩),I64 0].toArray/\q'=syL p U++q):=by
 refine aC func46 ntmps46 rfl fun F cs=> ?_;refine xo 11 ?_;refine Zf [13,7,6,0,1,2] ?_;apply Zy 3 16 13 rfl
 . intro b d;have h:=sp b;refine oo 3 ?_;exact Zz d ⟨orF b,Zv⟩
 . intro b d;have h:=sp b;refine oo 3 ?_;exact Zz d ⟨orT b,Zv⟩
 refine oo 1 ?_;refine Zf [17,7,6,0,1,2] ?_;apply Zy 3 20 17 rfl
 . intro b d;have h:=sp b;refine oo 3 ?_;exact Zz d ⟨orF b,Zv⟩
 . intro b d;have h:=sp b;refine oo 3 ?_;exact Zz d ⟨orT b,Zv⟩
 refine oo 1 ?_;refine Zf [21,7,6,0,1,2] ?_;apply Zy 3 24 21 rfl
 . intro b d;have h:=sp b;refine oo 3 ?_;exact Zz d ⟨orF b,Zv⟩
 . intro b d;have h:=sp b;refine oo 3 ?_;exact Zz d ⟨orT b,Zv⟩
 refine oo 1 ?_;refine Zf [25,7,6,0,1,2] ?_;apply Zy 4 29 25 rfl
 . intro b d;have h:=sp b;refine oo 4 ?_;exact Zz d ⟨orF b,Zv⟩
 . intro b d;have h:=sp b;refine oo 4 ?_;exact Zz d ⟨orT b,Zv⟩
 refine ox 1 ?_;rcases aX ((0<=mm/\mm<=64)/\(0<=cc/\cc<=64)/\rooms.length<=64) with hf|hf
 . obtain ⟨⟨a0,d0⟩,⟨c0,i0⟩,hl⟩:=hf;refine Jc 29 ?_;obtain ⟨M,rfl⟩:=aV a0;obtain ⟨C,rfl⟩:=aV c0;refine xo 5 ?_;refine bQ (Bk (n:=C) rfl rfl underlying173 gW rfl rfl (by omega) (by omega)) ?_;rintro _ _ ⟨g,rfl,rfl⟩;refine eU (q':=rsH cqs 1 191 (some ⟨g,0,none⟩) C (List.replicate C ⟨none,0, []⟩)::(q++F)) (by unfold rsH;rw [show (List.replicate C (⟨none,0, []⟩:SlV Int)).flatMap cqs=(List.replicate C (Value.slice none 0 0).cells.toList).flatten by simp [List.flatMap,cqs,Value.cells],cU];exact leA) ?_;refine oo 1 ?_;refine Ww fun t=> ?_
   refine ox 9 ?_;refine aY (cG (fun (s:Nat×Option Addr×Nat)=>s.1<=M) (fun s=> [(2,.slice a rooms.length c),(8,pt t),(34,I64 M),(35,I64 (s.1:Int))]) (fun s=>pto t (.cells [.bool true,.slice s.2.1 (List.replicate s.1 (-1:Int)).length s.2.2,.slice (some ⟨g,0,none⟩) C C,.slice none 0 0].toArray 176 (0,0))::lsH I64 3 s.2.1 s.2.2 (List.replicate s.1 (-1))::rsH cqs 1 191 (some ⟨g,0,none⟩) C (List.replicate C ⟨none,0, []⟩)::(q++F)) (fun s=>M - s.1) (fun s e w=> ?_) (0,none,0) (by dsimp only;omega)) Zu (aS leA (aS (Za I64 3 _) leA));try dsimp only at e w|-
   obtain hi:=e;obtain ⟨i,a1,c1⟩:=s;dsimp only at*;refine xx 5 ?_;refine dR 36 rfl ?_ ?_<;>intro k
   . have k:=cW k;have g0:i<M:=(by omega);refine rn [9,0] ?_;refine bQ (U3 (u:= -1) I64 underlying22 fN rfl rfl) ?_;rintro _ _ ⟨g2,rfl,rfl⟩;refine bQ (Yx (f:=I64) (l:=List.replicate i (-1)) (m:= [-1]) underlying22 fN rfl rfl rfl Zk ((bR _).le leA) (fun _=>rfl) (by simp;omega) (by simp;omega)) ?_;rintro _ _ ⟨a2,c2,rfl,rfl⟩;rw [<-List.replicate_succ' (n:=i)];refine rn [2,0,6] ?_;refine aY (w (i+1,a2,c2) (by dsimp only;omega) (by dsimp only;omega)) Zu leA
   have k:=of_decide_eq_false k;obtain rfl:i=M:=by omega
   clear w;refine xx 10 ?_;refine aY (cG (fun (s:Nat×Option Addr×Nat)=>s.1<=rooms.length/\ ∀ r∈rooms.take s.1,Bu r) (fun s=> [(8,pt t),(47,.slice a rooms.length c),(48,I64 rooms.length),(49,I64 (s.1:Int))]) (fun s=>pto t (.cells [.bool true,.slice a1 (List.replicate i (-1:Int)).length c1,.slice (some ⟨g,0,none⟩) C C,.slice s.2.1 ((rooms.take s.1).map ch1).length s.2.2].toArray 176 (0,0))::lsH I64 3 a1 c1 (List.replicate i (-1))::rsH cqs 1 191 (some ⟨g,0,none⟩) C (List.replicate C ⟨none,0, []⟩)::rsH chs 3 180 s.2.1 s.2.2 ((rooms.take s.1).map ch1)::(q++F)) (fun s=>rooms.length - s.1) (fun s e w=> ?_) (0,none,0) ⟨by dsimp only;omega,by simp⟩) Zu (aS leA (aS (Zi chs 3 180 _) leA));try dsimp only at e w|-
   obtain ⟨f0,b0⟩:=e;obtain ⟨j,a3,c3⟩:=s;dsimp only at*;refine xx 5 ?_;refine dR 50 rfl ?_ ?_<;>intro k
   . have k:=cW k;have o:j<rooms.length:=(by omega);refine Yd (hs.le leA) (by simp;omega) fun b1 o1 e_=> ?_;subst e_;refine rn [7,0,8] ?_;refine Zf [55,10,8,47,48,49] ?_;apply Zy 3 58 55 rfl
     . intro b d;have h:=sp b;refine oo 3 ?_;exact Zz d ⟨orF b,Zv⟩
     . intro b d;have h:=sp b;refine oo 3 ?_;exact Zz d ⟨orT b,Zv⟩
     refine ox 1 ?_;rcases aX (Bu rooms[j]) with hk|hk
     . refine rn [1058,7,0,2] ?_;refine bQ (Yz (u:=ch1 rooms[j]) chs underlying174 fQ rfl rfl (fun _=>rfl) rfl) ?_;rintro _ _ ⟨g2,rfl,rfl⟩;have e0:((rooms.take j).map ch1).length=j:=by simp;omega
       refine bQ (Z9 (l:=(rooms.take j).map ch1) (m:= [ch1 rooms[j]]) underlying174 fQ rfl rfl (fun _=>rfl) rfl rfl Zk ((bE _).le leA) (fun _=>rfl) (by simp;omega) (by simp;omega)) ?_;rintro _ _ ⟨a4,c4,rfl,rfl⟩;rw [show (rooms.take j).map ch1++ [ch1 rooms[j]]=(rooms.take (j+1)).map ch1 by rw [aH o,aM];rfl];refine rn [2,0,6] ?_;refine aY (w (j+1,a4,c4) ⟨by dsimp only;omega,by dsimp only;rw [aH o];intro y z;rcases aQ.1 z with z|z;exact b0 y z;rw [aZ.1 z];exact hk⟩ (by dsimp only;omega)) Zu leA
     exact aR (ok.2.2.2 _ (aB o)) hk
   have k:=of_decide_eq_false k;obtain rfl:j=rooms.length:=by omega
   rw [cD] at*;refine xx 8 ?_;refine bY (Cq (lsV 3) ⟨none,0, []⟩ (fun q=>Za I64 3 q) C _) ?_;refine bY (E7 (fun (x:ChC)=>lsV 2 x.q) (rooms.map ch1) (fun x hx q=>by obtain ⟨r,_,rfl⟩:=bU.1 hx;exact Za I64 2 q) _) ?_;refine Zq ([pto t (.cells [.bool true,.slice a1 (List.replicate i (-1:Int)).length c1,.slice (some ⟨g,0,none⟩) C C,.slice a3 (rooms.map ch1).length c3].toArray 176 (0,0)),lsH I64 3 a1 c1 (List.replicate i (-1:Int)),rsH cqs 1 191 (some ⟨g,0,none⟩) C (List.replicate C (⟨none,0, []⟩:SlV Int)),stars ((List.replicate C (⟨none,0, []⟩:SlV Int)).map (lsV 3)),rsH chs 3 180 a3 c3 (rooms.map ch1),stars ((rooms.map ch1).map fun x=>lsV 2 x.q)]++q) func46 (Wu results46 rfl rfl) ⟨_,rfl,t,⟨a1,c1,List.replicate i (-1),some ⟨g,0,none⟩,C,List.replicate C ⟨none,0, []⟩,a3,c3,rooms.map ch1⟩,⟨rfl,by simp [Dy],by simp [Dy,ch1,ChC.row,Ch.row,Ch.items,Function.comp_def]⟩,rfl,by unfold syL;simp⟩
 exact aR ⟨ok.1,ok.2.1,ok.2.2.1⟩ hf
theorem Copy_ok (hR:Real U s)(hs:s.ok N)(hN:N<=1000):CallF prog G 67 [.pointer (some ⟨p,0,none⟩)] ((syL p U)) (Ret fun v q'=> ∃ p2 σ2,Real σ2 s/\v= .pointer (some ⟨p2,0,none⟩)/\q'=syL p2 σ2++syL p U):=by
 refine aC func67 ntmps67 rfl fun F cs=> ?_;have ho:=hR.lo;have hc:=hR.lc;have hh:=hR.lh;have l0:=hs.no;have n0:=hs.nc;have m0:=hs.nh;change X _ _ _ _ _ _ _ _ (pto p (.cells [.bool true,.slice U.ao U.owners.length U.co,.slice U.ac U.conds.length U.cc,.slice U.ah U.chans.length U.ch].toArray 176 (0,0))::lsH I64 3 U.ao U.co U.owners::rsH cqs 1 191 U.ac U.cc U.conds::stars (U.conds.map (lsV 3))::rsH chs 3 180 U.ah U.ch U.chans::stars (U.chans.map fun x=>lsV 2 x.q)::F);refine xo 8 ?_;refine aO call106 (Yl (p:=p) clA) ?_;refine Zt (bV rfl) ?_;refine rn [1,1008,3,0,1,2,3,4,6,7,8,9,11,12,13,14] ?_;refine Wy 4 call70 (aE _) (Ku (l:=U.owners) (a:=U.ao) (c:=U.co) ((bR _).le leA) (by omega)) ?_;refine kk2 fun a0 w=> ?_
 refine Wy 9 call107 (aE _) (Zz9 (l:=U.conds) (a:=U.ac) (c:=U.cc) ((bE _).le leA) (by omega)) ?_;refine kk2 fun t y=> ?_
 refine Wy 14 call108 (aE _) (Zz8 (l:=U.chans) (a:=U.ah) (c:=U.ch) ((bE _).le leA) (by omega)) ?_;refine kk2 fun r ch1=> ?_
 refine dd [15] ?_;refine XD.bx 16 fun n1=> ?_;refine rn [18,0,6,0,4] ?_;refine aY (cG (fun (d:List (SlV Int))=>d.length<=U.conds.length/\d.map (fun (x:SlV Int)=>x.l)=(U.conds.take d.length).map (fun (x:SlV Int)=>x.l)) (fun d=> [(0,.pointer (some ⟨p,0,none⟩)),(3,pt n1),(30,I64 U.conds.length),(31,I64 d.length)]) (fun d=>rsH cqs 1 191 t y (d++U.conds.drop d.length)::stars (d.map (lsV 3))::pto n1 (.cells [.bool true,.slice a0 U.owners.length w,.slice t U.conds.length y,.slice r U.chans.length ch1].toArray 176 (0,0))::lsH I64 3 a0 w U.owners::rsH chs 3 180 r ch1 U.chans::pto p (.cells [.bool true,.slice U.ao U.owners.length U.co,.slice U.ac U.conds.length U.cc,.slice U.ah U.chans.length U.ch].toArray 176 (0,0))::lsH I64 3 U.ao U.co U.owners::rsH cqs 1 191 U.ac U.cc U.conds::stars (U.conds.map (lsV 3))::rsH chs 3 180 U.ah U.ch U.chans::stars (U.chans.map fun x=>lsV 2 x.q)::F) (fun d=>U.conds.length - d.length) (fun d d0 ih=> ?_) [] ⟨by simp,by simp⟩) Zu (by simp only [aT,gB,dN];exact aS leA (aS (W6 _) leA));try dsimp only at d0 ih|-
 obtain ⟨i0,f0⟩:=d0;have g0:(d++U.conds.drop d.length).length=U.conds.length:=by simp;omega
 refine xx 5 ?_;refine dR 32 rfl ?_ ?_<;>intro h0
 . have h0:=cW h0;have e:d.length<U.conds.length:=(by omega);refine Yw (l:=d++U.conds.drop d.length) (ty:=191) (fl:=cqs) (a:=t) (by omega) fun g2 e2=> ?_;rw [e2];refine Yw (l:=U.conds) (ty:=191) (fl:=cqs) (a:=U.ac) (by omega) fun g e_=> ?_;rw [e_];refine bY (Tu e) ?_;have k0:U.conds[d.length].l.length<=1000:=hs.lenC hR e hN;refine rn [9,0,1,2,3,4,5,6,7,8,9,10,11,12] ?_;refine dS 45 (.pointer (some ⟨g,d.length*1,none⟩)) rfl (by simp) ?_;refine Ua 12 call89 (all_ok (f:=cqs) (sz:=1) (ty:=191) (g:=g) (l:=U.conds) (i:=d.length) (m:=U.conds[d.length].l) (a:=U.conds[d.length].a) (c:=U.conds[d.length].c) e (fun _=>rfl) rfl rfl (by omega)) ?_;refine kd2 fun a5 z=> ?_
   refine ⟨hlA,?_⟩;refine dd [13,14,15] ?_;have j0:(d++U.conds.drop d.length)[d.length]'(by omega)=U.conds[d.length]:=by rw [gA (aL _)];simp
   refine iQ 16 rfl (Yr (g:=g2) (f:=cqs) (sz:=1) (l:=d++U.conds.drop d.length) (u:=(⟨a5,z,U.conds[d.length].l⟩:SlV Int)) (n:=d.length) (k:=0) (j:=(d.length:Int)) (by simp [evp,lkp]) rfl sizeOf22 (fun _=>rfl) rfl (by omega) rfl (by rw [j0];rfl) rfl rfl Zk) ?_;refine kk0 ?_;refine rn [0,5] ?_;rw [Ro d _ d.length (⟨a5,z,U.conds[d.length].l⟩:SlV Int) rfl (by simp;omega),fK];refine bY (Tn e (a:=U.conds[d.length].a) (c:=U.conds[d.length].c) (m:=U.conds[d.length].l)) ?_;rw [show U.conds.set d.length ⟨U.conds[d.length].a,U.conds[d.length].c,U.conds[d.length].l⟩=U.conds from dO e];refine bY (q':=stars ((d++ [(⟨a5,z,U.conds[d.length].l⟩:SlV Int)]).map (lsV 3))::_) (aS (show Le _ (stars (d.map (lsV 3))::(lsV 3) (⟨a5,z,U.conds[d.length].l⟩:SlV Int)::_) from bM Zk Zk) (Le.stars_snoc (lsV 3) d (⟨a5,z,U.conds[d.length].l⟩:SlV Int) _)) ?_;rw [<-e2,<-e_];rw [show d.length+1=(d++ [(⟨a5,z,U.conds[d.length].l⟩:SlV Int)]).length by simp];refine aY (ih (d++ [(⟨a5,z,U.conds[d.length].l⟩:SlV Int)]) ⟨by simp;omega,by rw [aG,bJ,aH e,aM,aM,f0];rfl⟩ (by simp;omega)) Zu leA
 have h0:=of_decide_eq_false h0;have c0:d.length=U.conds.length:=by omega
 rw [c0,cD] at f0;rw [c0,dP,cA];clear ih g0 h0 i0;refine rn [8,0,4] ?_;refine aY (cG (fun (b:List ChC)=>b.length<=U.chans.length/\b.map (ChC.row)=(U.chans.take b.length).map (ChC.row)) (fun b=> [(0,.pointer (some ⟨p,0,none⟩)),(3,pt n1),(55,I64 U.chans.length),(56,I64 b.length)]) (fun b=>rsH chs 3 180 r ch1 (b++U.chans.drop b.length)::stars (b.map fun x=>lsV 2 x.q)::pto n1 (.cells [.bool true,.slice a0 U.owners.length w,.slice t U.conds.length y,.slice r U.chans.length ch1].toArray 176 (0,0))::lsH I64 3 a0 w U.owners::rsH cqs 1 191 t y d::stars (d.map (lsV 3))::pto p (.cells [.bool true,.slice U.ao U.owners.length U.co,.slice U.ac U.conds.length U.cc,.slice U.ah U.chans.length U.ch].toArray 176 (0,0))::lsH I64 3 U.ao U.co U.owners::rsH cqs 1 191 U.ac U.cc U.conds::stars (U.conds.map (lsV 3))::rsH chs 3 180 U.ah U.ch U.chans::stars (U.chans.map fun x=>lsV 2 x.q)::F) (fun b=>U.chans.length - b.length) (fun b d0 ih=> ?_) [] ⟨by simp,by simp⟩) Zu (by simp only [aT,gB,dN];exact aS leA (aS (W6 _) leA));try dsimp only at d0 ih|-
 obtain ⟨i0,e0⟩:=d0;have g0:(b++U.chans.drop b.length).length=U.chans.length:=by simp;omega
 refine xx 5 ?_;refine dR 57 rfl ?_ ?_<;>intro h0
 . have h0:=cW h0;have e:b.length<U.chans.length:=(by omega);refine Yw (l:=b++U.chans.drop b.length) (ty:=180) (fl:=chs) (a:=r) (by omega) fun g2 e2=> ?_;rw [e2];refine Yw (l:=U.chans) (ty:=180) (fl:=chs) (a:=U.ah) (by omega) fun g e_=> ?_;rw [e_];refine bY (Bz e) ?_;have k0:U.chans[b.length].q.l.length<=1000:=hs.lenH hR e hN;refine rn [9,0,1,2,3,4,5,6,7,8,9,10,11,12] ?_;refine dS 70 (.pointer (some ⟨g,b.length*3,none⟩)) rfl (by simp) ?_;refine Ua 12 call92 (P2 (f:=chs) (sz:=3) (ty:=180) (g:=g) (l:=U.chans) (i:=b.length) (m:=U.chans[b.length].q.l) (a:=U.chans[b.length].q.a) (c:=U.chans[b.length].q.c) e (fun _=>rfl) rfl rfl (by omega)) ?_;refine kd2 fun a5 z=> ?_
   refine ⟨hlA,?_⟩;refine dd [13,14,15] ?_;have j0:(b++U.chans.drop b.length)[b.length]'(by omega)=U.chans[b.length]:=by rw [gA (aL _)];simp
   refine iQ 16 rfl (Yr (g:=g2) (f:=chs) (sz:=3) (l:=b++U.chans.drop b.length) (u:=(⟨⟨a5,z,U.chans[b.length].q.l⟩,U.chans[b.length].room,U.chans[b.length].sent⟩:ChC)) (n:=b.length) (k:=0) (j:=(b.length:Int)) (by simp [evp,lkp]) rfl sizeOf23 (fun _=>rfl) rfl (by omega) rfl (by rw [j0];rfl) rfl rfl Zk) ?_;refine kk0 ?_;refine rn [0,5] ?_;rw [Ro b _ b.length (⟨⟨a5,z,U.chans[b.length].q.l⟩,U.chans[b.length].room,U.chans[b.length].sent⟩:ChC) rfl (by simp;omega),fK];refine bY (Tp e U.chans[b.length]) ?_;rw [show U.chans.set b.length U.chans[b.length]=U.chans from dO e];refine bY (q':=stars ((b++ [(⟨⟨a5,z,U.chans[b.length].q.l⟩,U.chans[b.length].room,U.chans[b.length].sent⟩:ChC)]).map (fun (x:ChC)=>lsV 2 x.q))::_) (aS (show Le _ (stars (b.map (fun (x:ChC)=>lsV 2 x.q))::(fun (x:ChC)=>lsV 2 x.q) (⟨⟨a5,z,U.chans[b.length].q.l⟩,U.chans[b.length].room,U.chans[b.length].sent⟩:ChC)::_) from bM Zk Zk) (Le.stars_snoc (fun (x:ChC)=>lsV 2 x.q) b (⟨⟨a5,z,U.chans[b.length].q.l⟩,U.chans[b.length].room,U.chans[b.length].sent⟩:ChC) _)) ?_;rw [<-e2,<-e_];rw [show b.length+1=(b++ [(⟨⟨a5,z,U.chans[b.length].q.l⟩,U.chans[b.length].room,U.chans[b.length].sent⟩:ChC)]).length by simp];refine aY (ih (b++ [(⟨⟨a5,z,U.chans[b.length].q.l⟩,U.chans[b.length].room,U.chans[b.length].sent⟩:ChC)]) ⟨by simp;omega,by rw [aG,bJ,aH e,aM,aM,e0];rfl⟩ (by simp;omega)) Zu leA
 have h0:=of_decide_eq_false h0;have b0:b.length=U.chans.length:=by omega
 rw [b0,cD] at e0;rw [b0,dP,cA];clear ih g0 h0 i0;refine xx 7 ?_;refine Zq ([pto n1 (.cells [.bool true,.slice a0 U.owners.length w,.slice t U.conds.length y,.slice r U.chans.length ch1].toArray 176 (0,0)),lsH I64 3 a0 w U.owners,rsH cqs 1 191 t y d,stars (d.map (lsV 3)),rsH chs 3 180 r ch1 b,stars (b.map fun x=>lsV 2 x.q),pto p (.cells [.bool true,.slice U.ao U.owners.length U.co,.slice U.ac U.conds.length U.cc,.slice U.ah U.chans.length U.ch].toArray 176 (0,0)),lsH I64 3 U.ao U.co U.owners,rsH cqs 1 191 U.ac U.cc U.conds,stars (U.conds.map (lsV 3)),rsH chs 3 180 U.ah U.ch U.chans,stars (U.chans.map fun x=>lsV 2 x.q)]) func67 (Zn results67 rfl) ⟨_,rfl,n1,⟨a0,w,U.owners,t,y,d,r,ch1,b⟩,⟨hR.o,f0.trans hR.c,e0.trans hR.h⟩,rfl,by unfold syL;simp [c0,b0]⟩
end
def Ux (b:Bool):Int:=if b then 1 else 0
def Yi (op a b:Int):Int×Int:=
 if op=3 then (Ux (decide (a=b)),0) else if op=4 then (Ux (decide (a≠b)),0) else if op=5 then (Ux (decide (a<b)),0) else if op=6 then (Ux (decide (a<=b)),0)
 else if (op=10\/op=11)/\b=0 then (0,1)
 else let n:=if op=7 then a+b else if op=8 then a - b else if op=9 then a*b else if op=10 then a.tdiv b else a.tmod b
  if val n then (n,0) else (0,2)
def Y7 (l:List Int):Int:=l.foldr (· + ·) 0
abbrev Ac:=Int×Bool×Int
abbrev Sn:=Int×Int×Int
structure PTr where
 decl:Int
 st:Int
 loc:List Int
 left:List PStm
 sp:List Int
structure POut where
 kind:Int
 trap:Int
 th:Int
 stmt:Int
 deriving DecidableEq
structure SS where
 cells:List Int
 sy:Sy
 ths:List PTr
 out:POut
structure PEv where
 th:Int
 stmt:Int
 woke:Bool
 trap:Int
 told:Bool
 outv:Int
 value:Int
 acc:List Ac
 syn:List Sn
structure PPr where
 vars:List Int
 arrs:List Int
 room:List Int
 mu:Int
 co:Int
 main:Int
 ths:List (Int×List PStm)
def PPr.cell (p:PPr)(a i:Int):Int:=if 0<=i/\i<p.arrs.getD a.toNat 0 then p.vars.length+Y7 (p.arrs.take a.toNat)+i else -1
abbrev Mad:=Int×Int×List Ac
mutual
def PEx.made (p:PPr)(cells loc:List Int):PEx->Mad
 | .mk k n _ slot lc op args=>
  if k=1 then (n,0, [])
  else if k=2 then (if lc=true then (loc.getD slot.toNat 0,0, []) else (cells.getD slot.toNat 0,0, [(slot,false,cells.getD slot.toNat 0)]))
  else
   let a:=(Ym p cells loc args).getD 0 (0,0, [])
   if a.2.1≠0 then a
   else if k=3 then (if p.cell slot a.1<0 then (0,3,a.2.2) else (cells.getD (p.cell slot a.1).toNat 0,0,a.2.2++ [(p.cell slot a.1,false,cells.getD (p.cell slot a.1).toNat 0)]))
   else if k=4 then ((Yi 8 0 a.1).1,(Yi 8 0 a.1).2,a.2.2)
   else if k=5 then (Ux (a.1==0),0,a.2.2)
   else if (op=1/\a.1≠0)\/(op=2/\a.1=0) then (Ux (op==1),0,a.2.2)
   else
    let b:=(Ym p cells loc args).getD 1 (0,0, [])
    if b.2.1≠0 then (b.1,b.2.1,a.2.2++b.2.2)
    else if op<=2 then (Ux (b.1 !=0),0,a.2.2++b.2.2)
    else ((Yi op a.1 b.1).1,(Yi op a.1 b.1).2,a.2.2++b.2.2)
def Ym (p:PPr)(cells loc:List Int):List PEx->List Mad
 | []=> []
 |e::r=>e.made p cells loc::Ym p cells loc r
end
abbrev zStm:PStm:= .mk 0 0 0 em em (.mk 0 0 em 0 false 0 []) (.mk 0 0 em 0 false 0 []) [] [] 0 0 0 false
abbrev zTr:PTr:=⟨0,0, [], [], []⟩
def SS.th (s:SS)(n:Nat):PTr:=s.ths.getD n zTr
def PTr.next (t:PTr):PStm:=t.left.headD zStm
def SS.can (p:PPr)(s:SS)(n:Nat):Bool:=
 let t:=s.th n
 if s.out.kind=4\/t.st=2\/t.st=4 then false
 else match t.next with
 | .mk k _ _ _ _ _ _ _ _ _ slot other _=>
  if t.st=3 then s.sy.owners.getD other.toNat 0== -1
  else if k=6 then s.sy.owners.getD slot.toNat 0== -1||s.sy.owners.getD slot.toNat 0==n
  else if k=11 then decide (((s.sy.chans.getD slot.toNat ch0).items.length:Int)<p.room.getD slot.toNat 0)
  else if k=12 then decide (0<(s.sy.chans.getD slot.toNat ch0).items.length)
  else if k=14 then t.sp.all fun i=>(s.th i.toNat).st==4
  else true
def SS.all (p:PPr)(s:SS):List Int:=((List.range s.ths.length).filter fun n=>s.can p n).map fun (n:Nat)=>(n:Int)
def SS.stands (p:PPr)(s:SS):SS:=
 let z:= { s with out:=⟨1,0,0,0⟩ }
 if 0<(z.all p).length then z
 else { s with out:=⟨if s.ths.all fun t=>t.st==4 then 2 else 3,0,0,0⟩ }
def SS.put (s:SS)(n:Nat)(t:PTr):SS:= { s with ths:=s.ths.set n t }
def Wc (p:PPr)(d:Int):PTr:=
 let b:=p.ths.getD d.toNat (0, [])
 ⟨d,if b.2= [] then 4 else 1,List.replicate b.1.toNat 0,b.2, []⟩
def SS.into (s:SS)(n:Nat)(slot:Int)(loc:Bool)(v:Int):SS×List Ac:=
 if loc=true then (s.put n { s.th n with loc:=(s.th n).loc.set slot.toNat v }, [])
 else ({ s with cells:=s.cells.set slot.toNat v }, [(slot,true,v)])
def SS.data (p:PPr)(s:SS)(n:Nat)(x:PStm)(ev:PEv):SS×PEv×Int:=
 match x with
 | .mk k _ _ _ _ e ix body els _ slot _ loc=>
  let t:=s.th n
  let i:Mad:=if k=3 then ix.made p s.cells t.loc else (0,0, [])
  if i.2.1≠0 then (s, { ev with acc:=i.2.2 },i.2.1)
  else
   let v:=e.made p s.cells t.loc
   let ev:= { ev with acc:=i.2.2++v.2.2 }
   if v.2.1≠0 then (s,ev,v.2.1)
   else if k=1\/k=2 then ((s.into n slot loc v.1).1, { ev with acc:=ev.acc++(s.into n slot loc v.1).2 },0)
   else if k=3 then
    if p.cell slot i.1<0 then (s,ev,3)
    else ({ s with cells:=s.cells.set (p.cell slot i.1).toNat v.1 }, { ev with acc:=ev.acc++ [(p.cell slot i.1,true,v.1)] },0)
   else if k=4 then (s.put n { t with left:=(if v.1=0 then els else body)++t.left }, { ev with value:=v.1 },0)
   else if k=5 then (s.put n { t with left:=(if v.1=0 then [] else body++ [x])++t.left }, { ev with value:=v.1 },0)
   else if k=11 then ({ s with sy:=(Vf s.sy slot v.1).1 }, { ev with syn:=ev.syn++ [(4,slot,((s.sy.chans.getD slot.toNat ch0).all.length:Int))] },0)
   else (s, { ev with told:=true,outv:=v.1 },0)
def SS.wake (s:SS):List Int->SS
 | []=>s
 |i::r=>SS.wake (s.put i.toNat { s.th i.toNat with st:=3 }) r
def SS.others (p:PPr)(s:SS)(n:Nat)(x:PStm)(ev:PEv):SS×PEv×Int:=
 match x with
 | .mk k _ _ _ _ _ _ _ _ _ slot other loc=>
  let t:=s.th n
  if k=6 then
   if s.sy.owners.getD slot.toNat 0≠ -1 then (s,ev,4)
   else ({ s with sy:=(Ws s.sy slot n).1 }, { ev with syn:=ev.syn++ [(1,slot,0)] },0)
  else if k=7 then
   if s.sy.owners.getD slot.toNat 0≠n then (s,ev,4)
   else ({ s with sy:=(Z6 s.sy slot n).1 }, { ev with syn:=ev.syn++ [(2,slot,0)] },0)
  else if k=8 then
   if s.sy.owners.getD other.toNat 0≠n then (s,ev,4)
   else
    let z:=({ s with sy:=(U7 (Z6 s.sy other n).1 slot n).1 } :SS).put n { t with st:=2,left:=x::t.left }
    (z, { ev with syn:=ev.syn++ [(2,other,0)] },0)
  else if k=9\/k=10 then
   let l:=s.sy.conds.getD slot.toNat []
   let many:=if k=10 then l.length else min 1 l.length
   let z:=s.wake (l.take many)
   ({ z with sy:=if k=10 then (Kb s.sy slot).1 else (Yt s.sy slot).1 }, { ev with syn:=ev.syn++(l.take many).map fun i=>(3,slot,i) },0)
  else if k=12 then
   let l:=(s.sy.chans.getD slot.toNat ch0).items
   let z:SS:= { s with sy:=(Vq s.sy slot).1 }
   ((z.into n other loc (l.headD 0)).1, { ev with syn:=ev.syn++ [(5,slot,((s.sy.chans.getD slot.toNat ch0).taken:Int))],acc:=ev.acc++(z.into n other loc (l.headD 0)).2 },0)
  else if k=13 then
   if 8<=s.ths.length then (s,ev,5)
   else
    let z:=s.put n { t with sp:=t.sp++ [(s.ths.length:Int)] }
    ({ z with ths:=z.ths++ [Wc p slot] }, { ev with syn:=ev.syn++ [(6,0,(s.ths.length:Int))] },0)
  else (s, { ev with syn:=ev.syn++t.sp.map fun i=>(7,0,i) },0)
def zEv (n id:Int):PEv:=⟨n,id,false,0,false,0,0, [], []⟩
def PStm.idn:PStm->Int
 | .mk _ _ _ _ _ _ _ _ _ id _ _ _=>id
def PStm.kd:PStm->Int
 | .mk k _ _ _ _ _ _ _ _ _ _ _ _=>k
def PStm.oth:PStm->Int
 | .mk _ _ _ _ _ _ _ _ _ _ _ other _=>other
def SS.did (p:PPr)(s:SS)(n:Nat):SS×PEv×Int:=
 let t:=s.th n
 let x:=t.next
 let ev:=zEv n x.idn
 let o:=s.put n { t with left:=t.left.drop 1 }
 if t.st=3 then
  let z:=s.put n { t with st:=1,left:=t.left.drop 1 }
  ({ z with sy:=(Ws s.sy x.oth n).1 }, { ev with woke:=true,syn:= [(1,x.oth,0)] },0)
 else if x.kd<=5\/x.kd=11\/x.kd=15 then o.data p n x ev else o.others p n x ev
def SS.step (p:PPr)(s:SS)(n:Nat):SS×PEv:=
 let r:=s.did p n
 let x:=(s.th n).next
 if r.2.2≠0 then ({ s with out:=⟨4,r.2.2,n,x.idn⟩ }, { zEv n x.idn with trap:=r.2.2,acc:=r.2.1.acc })
 else
  let t:=r.1.th n
  if t.left= [] then ((r.1.put n { t with st:=4 }).stands p, { r.2.1 with syn:=r.2.1.syn++ [(8,0,0)] })
  else (r.1.stands p,r.2.1)
end Go.Proofs.YtflkjkhijcdbaaaGreat
namespace Go.Proofs.YtflkjkhijcdbaaaGreat
open Go Go.RowKit Wx Go.Proofs.Tryz
attribute [local irreducible] lsH rsH stars
variable {a:Option Addr}{b n c sz i k o s pc m1 m2 k1 k2 B N nb:Nat}{G w:World}{q:List HP}{op d:Int}{bb:Bool}{v:Value}{M:Hp}{vs ws pre post:List Value}{x:Stm}{l:List PStm}{m:List Stm}{e:Ex}{L:List (Int×PStm)}{J:Nat->HP}{Jf:HP->Prop}
theorem Oi {a b:Int}(ha:val a)(hb:val b): -4611686018427387904<=a*b/\a*b<=4611686018427387904:=by
 unfold val at ha hb;have e:a*b<=a.natAbs*b.natAbs:=by rw [<-Int.natCast_mul,<-Int.natAbs_mul];omega
 have d: -(a.natAbs*b.natAbs:Int)<=a*b:=by rw [<-Int.natCast_mul,<-Int.natAbs_mul];omega
 have c:(a.natAbs:Int)*b.natAbs<=2147483648*2147483648:=by
  rw [<-Int.natCast_mul];have:a.natAbs*b.natAbs<=2147483648*2147483648:=Nat.mul_le_mul (by omega) (by omega);omega
 omega
theorem Oa {a b:Int}(ha:val a): -2147483648<=a.tdiv b/\a.tdiv b<=2147483648:=by
 unfold val at ha;have h:=Int.natAbs_tdiv_le_natAbs a b;omega
theorem Ol {a b:Int}(ha:val a): -2147483648<=a.tmod b/\a.tmod b<=2147483648:=by
 unfold val at ha;have h:(a.tmod b).natAbs<=a.natAbs:=by rw [Int.natAbs_tmod];exact Nat.mod_le _ _
 omega
def Vd (k:Int):PanicEntry:= { v:= .iface 199 (.agg [I64 k].toArray),recovered:=false }
def Wo (op a b:Int):Int×Int:=if op<=2 then (Ux (b !=0),0) else Yi op a b
section
variable {n c u z:Int}
theorem Ja:CallF prog G 79 (B3 n c) (q) (Ret fun v q'=>v= .bool (decide (0<=n/\n<c))/\q'=q):=by
 refine aC func79 ntmps79 rfl fun F e=> ?_;refine xo 9 ?_;refine Zf [7,4,0,1] ?_;apply Zp 4 11 7 rfl
 . intro a b;have d:=sp a;refine oo 4 ?_;exact Zz b ⟨Wq a,Zv⟩
 . intro a b;have d:=sp a;refine oo 4 ?_;exact Zz b ⟨Wz a,Zv⟩
 refine ox 2 ?_;refine Zq (q) func79 (Zn results79 rfl) ⟨_,rfl,cB (by rw [cJ];simp),rfl⟩
theorem U9:CallF prog G 190 [.bool bb] (q) (Ret fun v q'=>v= I64 (Ux bb)/\q'=q):=by
 refine aC func190 ntmps190 rfl fun F b=> ?_;refine xx 9 ?_;refine dR 3 rfl ?_ ?_<;>intro a
 . refine xx 5 ?_;refine Zq (q) func190 (Zn results190 rfl) ⟨_,rfl,by rw [show bb=true by simpa using a];rfl,rfl⟩
 refine xx 6 ?_;refine Zq (q) func190 (Zn results190 rfl) ⟨_,rfl,by rw [show bb=false by simpa using a];rfl,rfl⟩
theorem Kc:CallF prog G 144 [.bool bb] (q) (Ret fun v q'=>v= I64 (Ux bb)/\q'=q):=by
 refine aC func144 ntmps144 rfl fun F b=> ?_;refine xx 9 ?_;refine dR 3 rfl ?_ ?_<;>intro a
 . refine xx 5 ?_;refine Zq (q) func144 (Zn results144 rfl) ⟨_,rfl,by rw [show bb=true by simpa using a];rfl,rfl⟩
 refine xx 6 ?_;refine Zq (q) func144 (Zn results144 rfl) ⟨_,rfl,by rw [show bb=false by simpa using a];rfl,rfl⟩
theorem two05_ok (ho:3<=op/\op<=11)(hu:val u)(hz:val z):CallF prog G 143 [I64 op,I64 u,I64 z] (q) (Ret fun v q'=>v= .tuple [I64 (Yi op u z).1,I64 (Yi op u z).2].toArray/\q'=q):=by
 refine aC func143 ntmps143 rfl fun F l=> ?_;have j:=hu;have i:=hz;unfold val at j i;have g:op=3\/op=4\/op=5\/op=6\/op=7\/op=8\/op=9\/op=10\/op=11:=by omega
 rcases g with rfl|rfl|rfl|rfl|rfl|rfl|rfl|rfl|rfl
 . refine rn [20,2010,6] ?_;refine aO call144 (Kc) ?_;refine ox 3 ?_;refine Zq (q) func143 (Wu results143 rfl rfl) ⟨_,rfl,by simp [Yi]<;>first|rfl|(congr 1;rw [cJ];simp),rfl⟩
 . refine rn [20,1010,6,2016,6] ?_;refine aO call144 (Kc) ?_;refine ox 3 ?_;refine Zq (q) func143 (Wu results143 rfl rfl) ⟨_,rfl,by simp [Yi]<;>first|rfl|(congr 1;rw [cJ];simp),rfl⟩
 iterate 4
  focus
   refine rn [20,1010,6,1016,6] ?_
  rotate_left
 focus
  have k:=Oi hu hz;refine rn [20,1010,6,1016,6,1022,6,1028,6,1034,6,1039,6,2044,4] ?_;refine Zt (Pu.mul rfl rfl (by omega) (by omega)) ?_;refine oo 9 ?_;refine Zf [65,8,7,6] ?_;apply Zy 3 68 65 rfl
  . intro c f;have a:=sp c;refine oo 3 ?_;exact Zz f ⟨orF c,Zv⟩
  . intro c f;have a:=sp c;refine oo 3 ?_;exact Zz f ⟨orT c,Zv⟩
  refine ox 1 ?_;refine xp 68 ?_ ?_<;>intro a
  focus
   refine xx 6 ?_
  rotate_left
  focus
   refine xx 8 ?_
 rotate_left 2
 . have k:=Oa (b:=z) hu;refine rn [20,1010,6,1016,6,1022,6,1028,6,1034,6,1039,6,1044,6,2049,7] ?_;refine xp 52 ?_ ?_<;>intro a
   . refine xx 6 ?_;refine Zq (q) func143 (Wu results143 rfl rfl) ⟨_,rfl,by first|(simp [Yi,a];done)|(unfold Yi val;simp [a];omega)|(unfold Yi val;simp only [a];simp;grind),rfl⟩
   refine xo 5 ?_;refine Zt (G6 rfl rfl (by omega)) ?_;refine bA 55 (I64 (u.tdiv z)) rfl (bK (Value.int .i64) (show IntKind.i64.wrap (u.tdiv z)=u.tdiv z from Uf (by omega) (by omega))) ?_;refine oo 9 ?_;refine Zf [65,8,7,6] ?_;apply Zy 3 68 65 rfl
   . intro e h;have d:=sp e;refine oo 3 ?_;exact Zz h ⟨orF e,Zv⟩
   . intro e h;have d:=sp e;refine oo 3 ?_;exact Zz h ⟨orT e,Zv⟩
   refine ox 1 ?_;refine xp 68 ?_ ?_<;>intro d
   focus
    refine xx 6 ?_
   rotate_left
   focus
    refine xx 8 ?_
   all_goals
    refine Zq (q) func143 (Wu results143 rfl rfl) ⟨_,rfl,by first|(simp [Yi,a,d];done)|(unfold Yi val;simp [a,d];omega)|(unfold Yi val;simp only [a,d];simp;grind),rfl⟩
 . have k:=Ol (b:=z) hu;refine rn [20,1010,6,1016,6,1022,6,1028,6,1034,6,1039,6,1044,6,1049,6,2056,7] ?_;refine xp 59 ?_ ?_<;>intro a
   . refine xx 6 ?_;refine Zq (q) func143 (Wu results143 rfl rfl) ⟨_,rfl,by first|(simp [Yi,a];done)|(unfold Yi val;simp [a];omega)|(unfold Yi val;simp only [a];simp;grind),rfl⟩
   refine xo 5 ?_;refine Zt (Pu.rem rfl rfl (by omega)) ?_;refine oo 9 ?_;refine Zf [65,8,7,6] ?_;apply Zy 3 68 65 rfl
   . intro e h;have d:=sp e;refine oo 3 ?_;exact Zz h ⟨orF e,Zv⟩
   . intro e h;have d:=sp e;refine oo 3 ?_;exact Zz h ⟨orT e,Zv⟩
   refine ox 1 ?_;refine xp 68 ?_ ?_<;>intro d
   focus
    refine xx 6 ?_
   rotate_left
   focus
    refine xx 8 ?_
   all_goals
    refine Zq (q) func143 (Wu results143 rfl rfl) ⟨_,rfl,by first|(simp [Yi,a,d];done)|(unfold Yi val;simp [a,d];omega)|(unfold Yi val;simp only [a,d];simp;grind),rfl⟩
 . refine rn [2022,6] ?_;refine aO call144 (Kc) ?_;refine ox 3 ?_;refine Zq (q) func143 (Wu results143 rfl rfl) ⟨_,rfl,by simp [Yi]<;>first|rfl|(congr 1;rw [cJ];simp),rfl⟩
 . refine rn [1022,6,2028,6] ?_;refine aO call144 (Kc) ?_;refine ox 3 ?_;refine Zq (q) func143 (Wu results143 rfl rfl) ⟨_,rfl,by simp [Yi]<;>first|rfl|(congr 1;rw [cJ];simp),rfl⟩
 focus
  refine rn [1022,6,1028,6,2034,14] ?_;refine Zf [65,8,7,6] ?_;apply Zy 3 68 65 rfl
  . intro c f;have a:=sp c;refine oo 3 ?_;exact Zz f ⟨orF c,Zv⟩
  . intro c f;have a:=sp c;refine oo 3 ?_;exact Zz f ⟨orT c,Zv⟩
  refine ox 1 ?_;refine xp 68 ?_ ?_<;>intro a
  focus
   refine xx 6 ?_
  rotate_left
  focus
   refine xx 8 ?_
 rotate_left 2
 focus
  refine rn [1022,6,1028,6,1034,6,2039,14] ?_;refine Zf [65,8,7,6] ?_;apply Zy 3 68 65 rfl
  . intro c f;have a:=sp c;refine oo 3 ?_;exact Zz f ⟨orF c,Zv⟩
  . intro c f;have a:=sp c;refine oo 3 ?_;exact Zz f ⟨orT c,Zv⟩
  refine ox 1 ?_;refine xp 68 ?_ ?_<;>intro a
  focus
   refine xx 6 ?_
  rotate_left
  focus
   refine xx 8 ?_
 all_goals
  refine Zq (q) func143 (Wu results143 rfl rfl) ⟨_,rfl,by first|(simp [Yi,a];done)|(unfold Yi val;simp [a];omega)|(unfold Yi val;simp only [a];simp;grind),rfl⟩
theorem Ks:CallF prog G 169 [I64 z] (q) (RP (fun _ _=>False) (fun ch q'=>ch= [Vd z]/\q'=q)):=by
 refine aC func169 ntmps169 rfl fun F a=> ?_;refine xo 4 ?_;exact XO.pn (Pn.panic rfl) (dA func169 (dX ⟨rfl,rfl⟩))
theorem Kz:CallF prog G 189 [I64 z] (q) (RP (fun v q'=>(val z/\v= I64 z)/\q'=q) (fun ch q'=>(¬val z/\ch= [Vd 2])/\q'=q)):=by
 refine aC func189 ntmps189 rfl fun F d=> ?_;refine xo 10 ?_;refine Zf [5,2,0] ?_;apply Zy 3 8 5 rfl
 . intro a b;have c:=sp a;refine oo 3 ?_;exact Zz b ⟨orF a,Zv⟩
 . intro a b;have c:=sp a;refine oo 3 ?_;exact Zz b ⟨orT a,Zv⟩
 refine ox 1 ?_;refine xp 8 ?_ ?_<;>intro c
 . refine xo 2 ?_;refine Vn call169 (aE _) (Ks) ?_ ?_
   . rintro _ _ ⟨rfl,rfl⟩;exact dA func189 (dX ⟨⟨(by unfold val;omega),rfl⟩,rfl⟩)
   rintro _ _ ⟨⟩
 refine xx 7 ?_;refine Zq (q) func189 (Zn results189 rfl) (dG ⟨⟨(by unfold val;omega),rfl⟩,rfl⟩)
theorem both_ok (ho:1<=op/\op<=11)(hu:val u)(hz:val z):CallF prog G 191 [I64 op,I64 u,I64 z] (q) (RP (fun v q'=>((Wo op u z).2=0/\v= I64 (Wo op u z).1)/\q'=q) (fun ch q'=>((Wo op u z).2≠0/\ch= [Vd (Wo op u z).2])/\q'=q)):=by
 refine aC func191 ntmps191 rfl fun F k=> ?_;have g:=hu;have f:=hz;unfold val at g f;have d:op=1\/op=2\/op=3\/op=4\/op=5\/op=6\/op=7\/op=8\/op=9\/op=10\/op=11:=by omega
 rcases d with rfl|rfl|rfl|rfl|rfl|rfl|rfl|rfl|rfl|rfl|rfl
 . refine rn [16,2008,7] ?_;refine aO call190 (U9) ?_;refine ox 2 ?_;refine Zq (q) func191 (Zn results191 rfl) (dG ⟨⟨by simp [Wo,Yi],by simp [Wo,Yi]<;>first|rfl|(congr 1;rw [cJ];simp)⟩,rfl⟩)
 . refine rn [16,1008,5,2008,5] ?_;refine aO call190 (U9) ?_;refine ox 2 ?_;refine Zq (q) func191 (Zn results191 rfl) (dG ⟨⟨by simp [Wo,Yi],by simp [Wo,Yi]<;>first|rfl|(congr 1;rw [cJ];simp)⟩,rfl⟩)
 . refine rn [16,1008,5,1008,6,2014,6] ?_;refine aO call190 (U9) ?_;refine ox 2 ?_;refine Zq (q) func191 (Zn results191 rfl) (dG ⟨⟨by simp [Wo,Yi],by simp [Wo,Yi]<;>first|rfl|(congr 1;rw [cJ];simp)⟩,rfl⟩)
 iterate 5
  focus
   refine rn [16,1008,5,1008,6,1014,6] ?_
  rotate_left
 focus
  have j:=Oi hu hz;refine rn [16,1008,5,1008,6,1014,6,1020,6,1026,6,1032,6,1038,6,1044,6,2050,5] ?_;refine Zt (Pu.mul rfl rfl (by omega) (by omega)) ?_;have a:Wo 9 u z=if val (u*z) then ((u*z),0) else (0,2):=by rfl
  refine Vn call189 (aE _) (Kz (z:=(u*z)) (q:=q++F)) ?_ ?_
  . rintro _ _ ⟨⟨c,rfl⟩,rfl⟩;exact dA func191 (dX ⟨⟨by rw [a,if_neg c];decide,by rw [a,if_neg c]⟩,rfl⟩)
 rotate_left
 focus
  have j:=Oa (b:=z) hu;refine rn [16,1008,5,1008,6,1014,6,1020,6,1026,6,1032,6,1038,6,1044,6,1050,9] ?_;refine xp 57 ?_ ?_<;>intro e
  . refine xo 2 ?_;refine Vn call169 (aE _) (Ks) ?_ ?_
    . rintro _ _ ⟨rfl,rfl⟩;exact dA func191 (dX ⟨⟨by simp [Wo,Yi,e],by simp [Wo,Yi,e]⟩,rfl⟩)
    rintro _ _ ⟨⟩
  refine rn [8,2060,5] ?_;refine Zt (G6 rfl rfl (by omega)) ?_;refine bA 63 (I64 (u.tdiv z)) rfl (bK (Value.int .i64) (show IntKind.i64.wrap (u.tdiv z)=u.tdiv z from Uf (by omega) (by omega))) ?_;have a:Wo 10 u z=if val (u.tdiv z) then ((u.tdiv z),0) else (0,2):=by unfold Wo Yi;rw [if_neg (by decide),if_neg (by decide),if_neg (by decide),if_neg (by decide),if_neg (by decide),if_neg (fun h=>e h.2)];rfl
  refine Vn call189 (aE _) (Kz (z:=(u.tdiv z)) (q:=q++F)) ?_ ?_
  . rintro _ _ ⟨⟨c,rfl⟩,rfl⟩;exact dA func191 (dX ⟨⟨by rw [a,if_neg c];decide,by rw [a,if_neg c]⟩,rfl⟩)
 rotate_left
 focus
  have j:=Ol (b:=z) hu;refine rn [16,1008,5,1008,6,1014,6,1020,6,1026,6,1032,6,1038,6,1044,6,1050,9] ?_;refine xp 57 ?_ ?_<;>intro e
  . refine xo 2 ?_;refine Vn call169 (aE _) (Ks) ?_ ?_
    . rintro _ _ ⟨rfl,rfl⟩;exact dA func191 (dX ⟨⟨by simp [Wo,Yi,e],by simp [Wo,Yi,e]⟩,rfl⟩)
    rintro _ _ ⟨⟩
  refine rn [8,1060,6] ?_;refine Zt (Pu.rem rfl rfl (by omega)) ?_;have a:Wo 11 u z=if val (u.tmod z) then ((u.tmod z),0) else (0,2):=by unfold Wo Yi;rw [if_neg (by decide),if_neg (by decide),if_neg (by decide),if_neg (by decide),if_neg (by decide),if_neg (fun h=>e h.2)];rfl
  refine Vn call189 (aE _) (Kz (z:=(u.tmod z)) (q:=q++F)) ?_ ?_
  . rintro _ _ ⟨⟨c,rfl⟩,rfl⟩;exact dA func191 (dX ⟨⟨by rw [a,if_neg c];decide,by rw [a,if_neg c]⟩,rfl⟩)
 rotate_left
 . refine rn [2020,6] ?_;refine aO call190 (U9) ?_;refine ox 2 ?_;refine Zq (q) func191 (Zn results191 rfl) (dG ⟨⟨by simp [Wo,Yi],by simp [Wo,Yi]<;>first|rfl|(congr 1;rw [cJ];simp)⟩,rfl⟩)
 . refine rn [1020,6,2026,6] ?_;refine aO call190 (U9) ?_;refine ox 2 ?_;refine Zq (q) func191 (Zn results191 rfl) (dG ⟨⟨by simp [Wo,Yi],by simp [Wo,Yi]<;>first|rfl|(congr 1;rw [cJ];simp)⟩,rfl⟩)
 . refine rn [1020,6,1026,6,2032,6] ?_;refine aO call190 (U9) ?_;refine ox 2 ?_;refine Zq (q) func191 (Zn results191 rfl) (dG ⟨⟨by simp [Wo,Yi],by simp [Wo,Yi]<;>first|rfl|(congr 1;rw [cJ];simp)⟩,rfl⟩)
 focus
  refine rn [1020,6,1026,6,1032,6,2038,6] ?_;have a:Wo 7 u z=if val (u+z) then ((u+z),0) else (0,2):=by rfl
  refine Vn call189 (aE _) (Kz (z:=(u+z)) (q:=q++F)) ?_ ?_
  . rintro _ _ ⟨⟨c,rfl⟩,rfl⟩;exact dA func191 (dX ⟨⟨by rw [a,if_neg c];decide,by rw [a,if_neg c]⟩,rfl⟩)
 rotate_left
 focus
  refine rn [1020,6,1026,6,1032,6,1038,6,2044,6] ?_;have a:Wo 8 u z=if val (u - z) then ((u - z),0) else (0,2):=by rfl
  refine Vn call189 (aE _) (Kz (z:=(u - z)) (q:=q++F)) ?_ ?_
  . rintro _ _ ⟨⟨c,rfl⟩,rfl⟩;exact dA func191 (dX ⟨⟨by rw [a,if_neg c];decide,by rw [a,if_neg c]⟩,rfl⟩)
 all_goals
  rintro _ _ ⟨⟨i,rfl⟩,rfl⟩;refine ox 2 ?_;refine Zq (q) func191 (Zn results191 rfl) (dG ⟨⟨by rw [a,if_pos i],by rw [a,if_pos i]⟩,rfl⟩)
end
section
variable {n c lo:Int}{pa pp:Nat}{x1:Value}{g:FC}
abbrev AZ (v0:Nat)(v1:Value)(v2:Int):=[.pointer (some ⟨v0,0,none⟩),v1,I64 v2]
theorem R8 (ha:CellsAt q pa 0 (AZ pp x1 lo))(hp:CellsAt q pp 0 (pgC g)):CallF prog G 159 [.pointer (some ⟨pa,0,none⟩),I64 n,.bool bb] (q) (Ret fun v q'=>v= .bool (decide (0<=n/\n<if bb=true then lo else (g.vars.l.length:Int)))/\q'=q):=by
 refine aC func159 ntmps159 rfl fun F d=> ?_;refine xx 9 ?_;refine xp 7 ?_ ?_<;>intro b
 . refine rf [7,0] ha ?_;refine aO call79 (Ja) ?_;refine ox 2 ?_;refine Zq (q) func159 (Zn results159 rfl) ⟨_,rfl,by rw [if_pos b],rfl⟩
 refine rg [8,0,2,0] ha hp ?_;refine bA 21 (.slice g.vars.a g.vars.l.length g.vars.c) rfl (rfl) ?_;refine oo 1 ?_;refine aO call79 (Ja) ?_;refine ox 2 ?_;refine Zq (q) func159 (Zn results159 rfl) ⟨_,rfl,by rw [if_neg (by rw [b];decide)],rfl⟩
end
def ExAt (M:Hp)(a:Addr)(e:Ex):Prop:=SeesZ M (some a) (exC e)/\e.At M
def StAt (M:Hp)(a:Addr)(s:Stm):Prop:=SeesZ M (some a) (stC s)/\s.At M
theorem Kf (h:SeesZ M a vs)(k:SeesZ M a ws)(e:vs.length=ws.length):vs=ws:=by
 apply fW ;intro i;by_cases hi:i<vs.length
 . obtain ⟨b,o,p,ty,n,m,l⟩:=h i vs[i] (aD hi);obtain ⟨r,q,g,j,f,d,c⟩:=k i (ws[i]'(e ▸ hi)) (aD _);rw [n] at f;cases f
   rw [m] at d;cases d
   rw [l] at c;rw [aD hi,aD (e ▸ hi)];exact c
 rw [cF (by omega),cF (by omega)]
theorem Rj {α:Type}{f:α->List Value}(hf: ∀ x,(f x).length=sz){l:List α}(hi:i<l.length)(hk:k<sz):(l.flatMap f)[i*sz+k]? =(f l[i])[k]? :=by
 have h:(l.flatMap f)[i*sz+k]? =_:=bK (fun z:List Value=>z[i*sz+k]?) (eS (i*sz) (l.flatMap f)).symm;rw [Ka hf,cY (by rw [Zx hf,bH];rw [eQ (by omega)];omega)] at h;rw [h,Zx hf,bH,eQ (by omega),show i*sz+k - i*sz=k by omega,fG]
 have a:l.flatMap f=(l.take i).flatMap f++(f l[i]++(l.drop (i+1)).flatMap f):=by
  conv=>lhs;rw [<-eS i l,iI,aJ hi,cH]
 rw [a,cY (by rw [Zx hf,bH,eQ (by omega)];omega),Zx hf,bH,eQ (by omega),show i*sz+k - i*sz=k by omega,
  dV (by rw [hf];exact hk)]
theorem SeesZ.row {α:Type}{f:α->List Value}(hf: ∀ x,(f x).length=sz)(h0:0<sz){l:List α}(h:SeesZ M a (l.flatMap f))(hi:i<l.length): ∃ b o,a=some ⟨b,o,none⟩/\SeesZ M (some ⟨b,o+i*sz,none⟩) (f l[i]):=by
 have n:=hf l[i];obtain ⟨b,o,r,ty,m,v,t⟩:=h (i*sz+0) ((f l[i])[0]'(by omega)) (by rw [Rj hf hi h0];exact aD (by omega));refine ⟨b,o,m,fun k u g=> ?_⟩;have e:k<sz:=by rw [<-n];exact (cI.1 g).1
 obtain ⟨w,s,c,d,j,q,p⟩:=h (i*sz+k) u (by rw [Rj hf hi e];exact g);rw [m] at j;cases j
 exact ⟨b,o+i*sz,c,d,rfl,q,by rw [eL];exact p⟩
abbrev fR:=@SeesZ.row
theorem SeesZ.sub (h:SeesZ M (some ⟨b,o,none⟩) vs)(e:vs=pre++(ws++post)):SeesZ M (some ⟨b,o+pre.length,none⟩) ws:=fun i u c=>by
 obtain ⟨k,j,a,ty,g,f,d⟩:=h (pre.length+i) u (by rw [e,cY (by omega),show pre.length+i - pre.length=i by omega,dV (cI.1 c).1];exact c)
 cases g
 exact ⟨b,o+pre.length,a,ty,rfl,f,by rw [eL];exact d⟩
mutual
theorem Ex.uniq {M:Hp}: ∀ {x y:Ex},exC x=exC y->x.At M->y.At M->x=y
 | .mk k n nm sl lo op args aa ac,.mk k' n' nm' sl' lo' op' args' aa' ac',h,⟨h1,h2⟩,⟨g1,g2⟩=>by
  simp only [exC,gP,Value.int.injEq,Value.string.injEq,Value.bool.injEq,Value.slice.injEq,true_and,and_true] at h;obtain ⟨rfl,rfl,rfl,rfl,rfl,rfl,rfl,a,rfl⟩:=h;have e:=Kf h1.2.2 g1.2.2 (by rw [Zx Z4,Zx Z4,a]);rw [Exs.uniq e a h2 g2]
theorem Exs.uniq {M:Hp}: ∀ {l m:List Ex},l.flatMap exC=m.flatMap exC->l.length=m.length->Ex.Ats M l->Ex.Ats M m->l=m
 | [], [],_,_,_,_=>rfl
 | [],_::_,_,h,_,_=>by simp at h
 |_::_, [],_,h,_,_=>by simp at h
 |x::l,y::m,h,hl,⟨h1,h2⟩,⟨g1,g2⟩=>by
  rw [cH,cH] at h;obtain ⟨b,a⟩:=iP h (by rw [Z4,Z4]);rw [Ex.uniq b h1 g1,Exs.uniq a (by simpa using hl) h2 g2]
end
mutual
theorem Stm.uniq {M:Hp}: ∀ {x y:Stm},stC x=stC y->x.At M->y.At M->x=y
 | .mk k ln cl nm wt e ix body els ba bc ea ec id sl ot lo,.mk k' ln' cl' nm' wt' e' ix' body' els' ba' bc' ea' ec' id' sl' ot' lo',h,⟨h1,h2,⟨h3,h4⟩,h5,h6⟩,⟨g1,g2,⟨g3,g4⟩,g5,g6⟩=>by
  simp only [stC] at h;obtain ⟨d,m⟩:=iP h rfl;obtain ⟨l,j⟩:=iP m (by rw [Z4,Z4]);obtain ⟨i,c⟩:=iP j (by rw [Z4,Z4]);simp only [gP,Value.int.injEq,Value.string.injEq,Value.bool.injEq,Value.slice.injEq,true_and,and_true] at d c;obtain ⟨rfl,rfl,rfl,rfl,rfl⟩:=d;obtain ⟨⟨rfl,b,rfl⟩,⟨rfl,a,rfl⟩,rfl,rfl,rfl,rfl⟩:=c;have g:=Kf h3.2.2 g3.2.2 (by rw [Zx Z8,Zx Z8,b]);have f:=Kf h5.2.2 g5.2.2 (by rw [Zx Z8,Zx Z8,a]);rw [Ex.uniq l h1 g1,Ex.uniq i h2 g2,Stms.uniq g b h4 g4,Stms.uniq f a h6 g6]
theorem Stms.uniq {M:Hp}: ∀ {l m:List Stm},l.flatMap stC=m.flatMap stC->l.length=m.length->Stm.Ats M l->Stm.Ats M m->l=m
 | [], [],_,_,_,_=>rfl
 | [],_::_,_,h,_,_=>by simp at h
 |_::_, [],_,h,_,_=>by simp at h
 |x::l,y::m,h,hl,⟨h1,h2⟩,⟨g1,g2⟩=>by
  rw [cH,cH] at h;obtain ⟨b,a⟩:=iP h (by rw [Z8,Z8]);rw [Stm.uniq b h1 g1,Stms.uniq a (by simpa using hl) h2 g2]
end
theorem ExAt.uniq {a:Addr}{x y:Ex}(h:ExAt M a x)(k:ExAt M a y):x=y:=Ex.uniq (Kf h.1 k.1 (by rw [Z4,Z4])) h.2 k.2
theorem StAt.uniq {a:Addr}{y:Stm}(h:StAt M a x)(k:StAt M a y):x=y:=Stm.uniq (Kf h.1 k.1 (by rw [Z8,Z8])) h.2 k.2
theorem SeesZ.brn {a:Addr}(h:SeesZ M (some a) (v::vs))(l:Hle M (wh w)):Brn w a:=by
 obtain ⟨b,o,c,ty,e,d,_⟩:=h 0 v rfl
 cases e
 exact ⟨c,ty,l _ _ d⟩
theorem ExAt.brn {a:Addr}{x:Ex}(h:ExAt M a x)(l:Hle M (wh w)):Brn w a:=by cases x;exact SeesZ.brn h.1 l
theorem StAt.brn {a:Addr}(h:StAt M a x)(l:Hle M (wh w)):Brn w a:=by cases x;exact SeesZ.brn h.1 l
abbrev Hn:=List (Addr×Value×Nat)
variable {es:Hn}
def ExKs (M:Hp)(n:Nat)(es:Hn):Prop:= ∀ e∈es,∃ x,ExAt M e.1 x/\n<x.sz
def StKs (M:Hp)(n:Nat)(es:Hn):Prop:= ∀ e∈es,∃ x,StAt M e.1 x/\n<x.sz
theorem KeysAt.ex {a:Addr}{x:Ex}(h:Kn q fun M=>ExAt M a x/\ExKs M x.sz es):KeysAt q a es:=by
 rintro G w ⟨_,M,k,l,_,_,_,_,p⟩;obtain ⟨c,i⟩:=h M k p;refine ⟨c.brn l,fun e d=> ?_⟩;obtain ⟨y,b,g⟩:=i e d;exact ⟨fun f=>by have:=(f ▸ c).uniq b;subst this;exact Nat.lt_irrefl _ g,b.brn l⟩
theorem KeysAt.st {a:Addr}(h:Kn q fun M=>StAt M a x/\StKs M x.sz es):KeysAt q a es:=by
 rintro G w ⟨_,M,k,l,_,_,_,_,p⟩;obtain ⟨c,i⟩:=h M k p;refine ⟨c.brn l,fun e d=> ?_⟩;obtain ⟨y,b,g⟩:=i e d;exact ⟨fun f=>by have:=(f ▸ c).uniq b;subst this;exact Nat.lt_irrefl _ g,b.brn l⟩
theorem Nc: ∀ l:List Ex,l.length<=Qe l
 | []=>bB _
 |e::r=>by
  have h:=Nc r;have a:1<=e.sz:=by cases e;simp only [Ex.sz];omega
  simp only [Qe,bG];omega
theorem Je: ∀ l:List Stm,l.length<=Zm l
 | []=>bB _
 |e::r=>by
  have h:=Je r;have a:1<=e.sz:=by cases e;simp only [Stm.sz];omega
  simp only [Zm,bG];omega
section
variable {l:List Ex}
theorem Kn.exn {k n:Int}{nm:ByteArray}{slot:Int}{loc:Bool}(h:Kn q fun M=>Ex.Ats M l):Kn (lst (fun M=>SlAt M a c l.length (l.flatMap exC)) gM::q) fun M=>(Ex.mk k n nm slot loc op l a c).At M:=
 (Kn.here.and h.there).imp fun M h=>⟨h.1,h.2⟩
theorem Kn.blM {m:List Stm}:Kn (blM a c m::q) fun M=>BlkAt M a c m:=fL
theorem Kn.exsM:Kn (exsM l::q) fun M=>Ex.Ats M l:=fL
theorem I7:Le q (exsM []::q):=cZ (fun _ _ _=>trivial)
theorem Ld :Le (exsM l::exM e::q) (exsM (l++ [e])::q):=by
 have h:Kn (exsM l::exM e::q) fun M=>Ex.Ats M (l++ [e]):=(Kn.exsM.and Kn.exM.there).imp fun M h=>Ye.2 fun x a=>by
  rcases aQ.1 a with a|a
  . exact Ye.1 h.1 x a
  rw [aZ.1 a];exact h.2
 exact aS (cZ (mn:=fun l h=>iF l h) h) (dD _ ((eD _ _).trans (eD _ _)))
theorem La {m:List Ex}(h:s<m.length):Z3 (m.take (s+1))=Z3 (m.take s)++ [m[s].er]:=by
 rw [Yy,Yy,aH h,aM];rfl
theorem Kn.exC {e:Ex}(h:Kn q fun M=>ExAt M ⟨b,o,none⟩ e):CellsAt q b o (exC e):=fun k v hk=>(fM (h.imp fun M h=>h.1)).cl hk
theorem Kn.stC {e:Stm}(h:Kn q fun M=>StAt M ⟨b,o,none⟩ e):CellsAt q b o (stC e):=fun k v hk=>(fM (h.imp fun M h=>h.1)).cl hk
abbrev eR:=@Kn.stC
theorem ExKs.down (h:ExKs M n es)(hk:k<=n):ExKs M k es:=fun e a=>let ⟨x,b,c⟩:=h e a;⟨x,b,by omega⟩
theorem StKs.down (h:StKs M n es)(hk:k<=n):StKs M k es:=fun e a=>let ⟨x,b,c⟩:=h e a;⟨x,b,by omega⟩
theorem ExKs.more {a:Addr}{x:Ex}(h:ExKs M n es)(hx:ExAt M a x)(hn:n<x.sz):ExKs M n (es++ [(a,v,k)]):=fun e b=>by
 rcases aQ.1 b with b|b
 . exact h e b
 rw [aZ.1 b];exact ⟨x,hx,hn⟩
theorem StKs.more {a:Addr}(h:StKs M n es)(hx:StAt M a x)(hn:n<x.sz):StKs M n (es++ [(a,v,k)]):=fun e b=>by
 rcases aQ.1 b with b|b
 . exact h e b
 rw [aZ.1 b];exact ⟨x,hx,hn⟩
end
abbrev AE :=((.cells [].toArray 309 (0,0)):Obj)
abbrev Am (v0:Nat)(v1:Nat)(v2:Nat):=([.pointer (some ⟨v0,0,none⟩),.pointer (some ⟨v1,v2,none⟩)]:List Value)
abbrev Ak (v0:Hn)(v1:Nat):=((.map ((v0).map U4).toArray v1):Obj)
abbrev AT (v0:Nat)(v1:Nat):=([.map (some v0),.map (some v1)]:List Value)
theorem Ps: ∀ (N:Nat) {e:Ex} {b o:Nat} {es:Hn} {k:Nat} {q:List HP},e.sz<=N->N<=1000000->CellsAt q pc 0 (AT m1 m2)->(Kn q fun M=>ExAt M ⟨b,o,none⟩ e/\ExKs M e.sz es)->CallF prog G 204 (Am pc b o) (pto m2 (Ak es k)::q) (Ret fun v q'=> ∃ (e':Ex) (k':Nat),e'.er=e.er/\v= .agg (exC e').toArray/\q'=exM e'::pto m2 (Ak es k')::q):=fun N=>by
 induction N with
 |zero=>intro e b o es k q hs;exact aR hs (by cases e;simp only [Ex.sz];omega)
 |succ N IH=> 
 intro e b o es k q hs hN c hK;obtain ⟨w,n,j,u,lo,op,l,aa,ac⟩:=e;refine aC func204 ntmps204 rfl fun F cs=> ?_;have a:=Kn.exC (hK.imp fun M h=>h.1);have hA:Kn q fun M=>SlAt M aa ac l.length (l.flatMap exC)/\Ex.Ats M l:=hK.imp fun M h=>h.1.2;have hS:=fM (hA.imp fun M h=>h.1.2.2)
 have hl:l.length+1<=N+1:=by have:=Nc l;simp only [Ex.sz] at hs;omega
 have z:=Zx Z4 l;obtain ⟨J_,hJ,_,f0,_⟩:=info_parts Uu;have t:J_.size≠0:=by rw [f0];decide
 refine xo 2 ?_;refine bW zeroValue124 fun n1=> ?_
 refine rf [6,0,2] c ?_;refine dJ (F3 underlying306 underlying274 hJ t rfl rfl rfl ((KeysAt.ex hK).le leA) Zk) ?_;rintro _ _ ⟨rfl,rfl⟩;refine rf [6,0,1] c ?_;refine XO.dfDel fun i0=> ?_;refine oo 5 ?_;refine XO.ldC (us:=exC (.mk w n j u lo op l aa ac)) isAgg124 sizeOf124 rfl (a.le leA) ?_;refine bW zeroValue124 fun n2=> ?_
 refine rf [0,4,0,7,0,4] a ?_;refine aY (cG (fun (s:(Nat×Nat)×Option Addr×Nat×List Ex)=>s.1.1<=l.length/\Z3 s.2.2.2=Z3 (l.take s.1.1)/\s.2.2.2.length=s.1.1) (fun s=> [(0,.pointer (some ⟨pc,0,none⟩)),(1,.pointer (some ⟨b,o,none⟩)),(4,pt n1),(5,pt n2),(28,I64 l.length),(29,I64 (s.1.1:Int))]) (fun s=>pto n2 (.cells [I64 w,I64 n,.string j,I64 u,.bool lo,I64 op,.slice s.2.1 (s.2.2.2).length s.2.2.1].toArray 124 (0,0))::pto n1 (.cells zz4.toArray 124 (0,0))::rsH exC 7 124 s.2.1 s.2.2.1 s.2.2.2::exsM s.2.2.2::pto m2 (.map (((es++ [((⟨b,o,none⟩:Addr),(.agg [].toArray:Value),k)]:Hn)).map U4).toArray s.1.2)::(q++F)) (fun s=>l.length - s.1.1) (fun s a0 ih=> ?_) ((0,k+1),none,0, []) ⟨bB _,by simp [Z3],rfl⟩) Zu (aS leA (aS (aS (Zi exC 7 124 _) I7) leA));try dsimp only at a0 ih|-
 obtain ⟨g0,r,c0⟩:=a0;obtain ⟨⟨i,kk⟩,a1,c1,p⟩:=s;dsimp only at*;refine xx 5 ?_;refine xp 30 ?_ ?_<;>intro h0
 . have d:i<l.length:=(by omega);obtain ⟨x,hx⟩:=kL l[i];have y:x.sz<Ex.sz (.mk w n j u lo op l aa ac):=by rw [hx];simp only [Ex.sz];have:=Vx (aB d);omega
   refine Yd (hS.le leA) (by rw [z];omega) fun ab ao e_=> ?_;subst e_
   have b0:Kn q fun M=>ExAt M ⟨ab,ao+(i:Int).toNat*7,none⟩ x/\ExKs M x.sz (es++ [(⟨b,o,none⟩,.agg [].toArray,k)]):=hK.imp fun M h=>by
    obtain ⟨b',o',e1,e2⟩:=fR Z4 (by decide) h.1.2.1.2.2 d
    cases e1
    refine ⟨⟨by rw [hx];exact e2,by rw [hx];exact Ye.1 h.1.2.2 _ (aB d)⟩,(h.2.down (Nat.le_of_lt y)).more h.1 y⟩
   refine rg [10,0,1,2,3,4,5,6,7,8,9,10] c a ?_;refine Yo (fl:= [⟨14,7,fun g=> pt g,fun g=>pto g AE⟩]) ?_;refine iX 10 ⟨⟨_,rfl,rfl,rfl,rfl,rfl,rfl,fun q=>bX zeroValue309⟩,trivial⟩ (Rd.efE (Ek underlying306 underlying274 hJ t rfl rfl ((KeysAt.ex b0).le leA) Zk zeroValue309)) ?_ (hL:=(hlG c a));rintro _ _ ⟨rfl,rfl⟩;refine ⟨(hlA (h:=by repeat first|exact trivial|refine ⟨clA,?_⟩|refine ⟨(c.le leA) 1 _ rfl,?_⟩|refine ⟨(a.le leA) 6 _ rfl,?_⟩)),?_⟩;refine V4 11 ⟨⟨_,rfl,rfl,rfl,rfl,rfl,rfl,fun q=>bX zeroValue309⟩,trivial⟩ (Pu.move rfl) ?_ (hL:=(hlG c a));refine V4 12 ⟨⟨_,rfl,rfl,rfl,rfl,rfl,rfl,fun q=>bX zeroValue309⟩,trivial⟩ (eZ rfl rfl) ?_ (hL:=(hlG c a));refine V4 13 ⟨⟨_,rfl,rfl,rfl,rfl,rfl,rfl,fun q=>bX zeroValue309⟩,trivial⟩ (eZ rfl rfl) ?_ (hL:=(hlG c a));refine Vv (e0:=⟨14,7,fun g=> pt g,fun g=>pto g AE⟩) (hnd:=by simp) 14 ⟨⟨_,rfl,rfl,rfl,rfl,rfl,rfl,fun q=>bX zeroValue309⟩,trivial⟩ (fun ne=> ?_) (hL:=(hlG c a));change XF _ _ _ _ _ _ _ [] _ _ _ ((7,.pointer (some ⟨ne,0,none⟩))::_) _ _ (pto ne AE::_);refine eT ?_ (hL:=(hlG c a));refine rn [16,17,0,3] ?_;refine Zt (bV rfl) ?_;refine rf [1,2047,1,0,1,2,3,4,5,6,7,8,9] a ?_;refine Wy 9 call204 Zk (IH (by omega) (by omega) (c.le leA) (b0.le leA)) ?_;rintro _ _ ⟨e2,k2,d0,rfl,rfl⟩;refine ⟨(hlG c a),?_⟩;refine fC 10 rfl (Yz exC underlying122 Uu rfl rfl Z4 rfl) ?_;rintro _ _ ⟨g,rfl,rfl⟩;refine ⟨(hlG c a),?_⟩;refine fC 11 rfl (Z9 (f:=exC) (l:=p) (m:= [e2]) underlying122 Uu rfl rfl Z4 rfl rfl Zk ((bE _).le Zk) Gc (by simp;omega) (by simp;omega)) ?_;rintro _ _ ⟨a3,c3,rfl,rfl⟩;refine ⟨(hlG c a),?_⟩;refine rn [13,14,0,5] ?_;refine bY (q':=exsM (p++ [e2])::_) (aS (bM Zk Zk) Ld) ?_;refine aY (ih ((i+1,k2),a3,c3,p++ [e2]) ⟨by dsimp only;omega,by dsimp only;rw [La d,<-r,<-hx,<-d0,Yy,Yy,aM];rfl,by dsimp only;rw [aG];simp [c0]⟩ (by dsimp only;omega)) Zu leA
 obtain rfl:i=l.length:=(by omega);rw [cD] at r;clear ih;refine bY (q':=rsH exC 7 124 a1 c1 p::exsM p::_) (bM Zk Zk) ?_;refine X.frzR (Kn.exn (k:=w) (n:=n) (nm:=j) (slot:=u) (loc:=lo) (op:=op) Kn.exsM) (mn:=fun l h=>Ex.At.mono l h) ?_ (hq:=aE _);refine rn [4,0,0,1] ?_;exact X.ret ⟨rfl,Lv.del (mt:=306) rfl underlying306 underlying274 hJ t ((KeysAt.ex hK).le leA) Zk (jG (q':=(exM (Ex.mk w n j u lo op p a1 c1)::pto m2 (Ak es kk)::q)) func204 (rA_ results204) ⟨_,rfl,(Ex.mk w n j u lo op p a1 c1),kk,by simp only [Ex.er,r],rfl,rfl⟩ leA)⟩
mutual
/-- Expressions that are not great. -/
def Stm.lm (B:Nat):Stm->Prop
 | .mk _ _ _ _ _ e ix body els _ _ _ _ _ _ _ _=>e.sz<=B/\ix.sz<=B/\Wa B body/\Wa B els
def Wa (B:Nat):List Stm->Prop
 | []=>True
 |s::r=>s.lm B/\Wa B r
end
theorem Jo {B:Nat}{x:Stm}: ∀ {l:List Stm},Wa B l->x∈l->x.lm B
 |y::r,⟨h1,h2⟩,h=>by
  rcases cE.1 h with rfl|h
  . exact h1
  exact Jo h2 h
theorem Ip (h:s<m.length):Zj (m.take (s+1))=Zj (m.take s)++ [m[s].er]:=by
 rw [Yf,Yf,aH h,aM];rfl
theorem Yj (h:SeesZ M (some ⟨b,o,none⟩) vs)(hv:vs=pre++(exC e++post))(he:e.At M)(hn:n=o+pre.length):ExAt M ⟨b,n,none⟩ e:=hn ▸ ⟨SeesZ.sub h hv,he⟩
abbrev Aq (v0:Nat):=((.map (([]).map U4).toArray v0):Obj)
abbrev B6 (v0:Stm)(v1:Nat)(v2:Hn)(v3:Nat)(v4:List HP):=(Ret fun v q'=> ∃ (s':Stm) (k1' k2':Nat),s'.er=v0.er/\v= .agg (stC s').toArray/\q'=stM s'::pto v1 (Ak v2 k1')::pto v3 (Aq k2')::v4)
def CSt (G:World)(pc m1 m2 B N:Nat):Prop:= ∀ {s:Stm} {b o:Nat} {es:Hn} {k1 k2:Nat} {q:List HP},s.sz<=N->s.lm B->CellsAt q pc 0 (AT m1 m2)->(Kn q fun M=>StAt M ⟨b,o,none⟩ s/\StKs M s.sz es)->
 CallF prog G 187 (Am pc b o) (pto m1 (Ak es k1)::pto m2 (Aq k2)::q) (B6 s m1 es m2 q)
abbrev AG (v0:Nat)(v1:Option Addr)(v2:List Stm)(v3:Nat):=([.pointer (some ⟨v0,0,none⟩),.slice v1 v2.length v3]:List Value)
def CSts (G:World)(pc m1 m2 B N:Nat):Prop:= ∀ {l:List Stm} {a:Option Addr} {c:Nat} {es:Hn} {k1 k2:Nat} {q:List HP},Zm l<=N->Wa B l->CellsAt q pc 0 (AT m1 m2)->(Kn q fun M=>BlkAt M a c l/\StKs M (Zm l) es)->
 CallF prog G 161 (AG pc a l c) (pto m1 (Ak es k1)::pto m2 (Aq k2)::q) (Ret fun v q'=> ∃ (l':List Stm) (a':Option Addr) (c':Nat) (k1' k2':Nat),Zj l'=Zj l/\v= .slice a' l'.length c'/\q'=blM a' c' l'::pto m1 (Ak es k1')::pto m2 (Aq k2')::q)
abbrev AK (v0:Hn)(v1:Nat)(v2:Nat)(v3:Nat):=(v0++ [((⟨v1,v2,none⟩:Addr),(.agg [].toArray:Value),v3)]:Hn)
abbrev A6 (v0)(v1)(v2)(v3)(v4):=([I64 v0,I64 v1,I64 v2,.string v3,.string v4]:List Value)
theorem cst_step {s:Stm}(IH:CSts G pc m1 m2 B N)(hB:B<=1000000)(hs:s.sz<=N+1)(hb:s.lm B)(hc:CellsAt q pc 0 (AT m1 m2))(hK:Kn q fun M=>StAt M ⟨b,o,none⟩ s/\StKs M s.sz es):CallF prog G 187 (Am pc b o) (pto m1 (Ak es k1)::pto m2 (Aq k2)::q) (B6 s m1 es m2 q):=by
 refine aC func187 ntmps187 rfl fun F cs=> ?_;obtain ⟨k,ln,cl,z,y,⟨ek,en,t,n,u,r,el,ea,ec⟩,⟨xk,xn,w,xsl,x,v,xl,xa,xc⟩,bd,p,ba,bc,e0,d0,id,sl,ot,lo⟩:=s;obtain ⟨m0,l0,k0,j0⟩:=hb;have a0:=eR (hK.imp fun M h=>h.1);have p0:Kn q fun M=>ExAt M ⟨b,o+5,none⟩ (Ex.mk ek en t n u r el ea ec)/\ExKs M (Ex.sz (Ex.mk ek en t n u r el ea ec)) []:=hK.imp fun M h=>⟨Yj (pre:= (A6 k ln cl z y)) h.1.1 rfl h.1.2.1 rfl,fun _ h=>by cases h⟩
 have n0:Kn q fun M=>ExAt M ⟨b,o+12,none⟩ (Ex.mk xk xn w xsl x v xl xa xc)/\ExKs M (Ex.sz (Ex.mk xk xn w xsl x v xl xa xc)) []:=hK.imp fun M h=>⟨Yj (pre:= (A6 k ln cl z y)++exC (Ex.mk ek en t n u r el ea ec)) h.1.1 rfl h.1.2.2.1 rfl,fun _ h=>by cases h⟩
 have b0:Zm bd<=N/\Zm p<=N:=by simp only [Stm.sz] at hs;omega
 have q0:Kn q fun M=>BlkAt M ba bc bd/\StKs M (Zm bd) (AK es b o k1):=hK.imp fun M h=>⟨h.1.2.2.2.1,(h.2.down (by simp only [Stm.sz];omega)).more h.1 (by simp only [Stm.sz];omega)⟩
 have o0:Kn q fun M=>BlkAt M e0 d0 p/\StKs M (Zm p) (AK es b o k1):=hK.imp fun M h=>⟨⟨h.1.2.2.2.2.1,h.1.2.2.2.2.2⟩,(h.2.down (by simp only [Stm.sz];omega)).more h.1 (by simp only [Stm.sz];omega)⟩
 obtain ⟨J_,hJ,_,r0,_⟩:=info_parts V7;have c0:J_.size≠0:=by rw [r0];decide
 refine xo 2 ?_;refine bW zeroValue126 fun n1=> ?_
 refine rf [6,0,2] hc ?_;refine dJ (F3 underlying305 underlying146 hJ c0 rfl rfl rfl ((KeysAt.st hK).le leA) Zk) ?_;rintro _ _ ⟨rfl,rfl⟩;refine rf [6,0,1] hc ?_;refine XO.dfDel fun u0=> ?_;refine oo 5 ?_;refine XO.ldC (us:=stC (.mk k ln cl z y (Ex.mk ek en t n u r el ea ec) (Ex.mk xk xn w xsl x v xl xa xc) bd p ba bc e0 d0 id sl ot lo)) isAgg126 sizeOf126 rfl (a0.le leA) ?_;refine bW zeroValue126 fun n2=> ?_
 refine rn [0,2,0,1,2,3,4,6,7,8,9] ?_;refine Wy 4 call204 Zk (Ps B (e:=(Ex.mk ek en t n u r el ea ec)) m0 hB (hc.le leA) (p0.le leA)) ?_;rintro _ _ ⟨⟨fk,fn,j,g,m,i,fl,fa,fc⟩,t0,g0,rfl,rfl⟩;refine ⟨trivial,?_⟩;refine dd [10] ?_;refine Wy 9 call204 Zk (Ps B (e:=(Ex.mk xk xn w xsl x v xl xa xc)) l0 hB (hc.le leA) (n0.le leA)) ?_;rintro _ _ ⟨⟨yk,yn,d,a,f,c,yl,ya,yc⟩,s0,f0,rfl,rfl⟩;refine ⟨trivial,?_⟩;refine rf [12,13,14,0,1,0,1,2,3,4,5,7,8,9,10,11] a0 ?_;refine Wy 5 call161 (bM Zk Zk) (IH (l:=bd) (es:=(AK es b o k1)) b0.1 k0 (hc.le leA) (q0.le leA)) ?_;rintro _ _ ⟨l1,a1,c1,p1,r1,i0,rfl,rfl⟩;refine ⟨(hlF a0),?_⟩;refine dd [12] ?_;refine Wy 11 call161 (bM Zk Zk) (IH (l:=p) (es:=(AK es b o k1)) b0.2 j0 (hc.le leA) (o0.le leA)) ?_;rintro _ _ ⟨l2,a2,c2,p2,r2,h0,rfl,rfl⟩;refine ⟨trivial,?_⟩;refine rn [14,15,16,0,2,0,0,1] ?_;refine bY (q':=exM (Ex.mk fk fn j g m i fl fa fc)::exM (Ex.mk yk yn d a f c yl ya yc)::blM a1 c1 l1::blM a2 c2 l2::_) (bM Zk (bM Zk (bM Zk Zk))) ?_;refine bY (q':=stM (Stm.mk k ln cl z y (Ex.mk fk fn j g m i fl fa fc) (Ex.mk yk yn d a f c yl ya yc) l1 l2 a1 c1 a2 c2 id sl ot lo)::_) (aS (cZ (φ:=fun M=>Stm.At M (Stm.mk k ln cl z y (Ex.mk fk fn j g m i fl fa fc) (Ex.mk yk yn d a f c yl ya yc) l1 l2 a1 c1 a2 c2 id sl ot lo)) (mn:=fun l h=>Stm.At.mono l h) ((Kn.exM.and (Kn.exM.there.and (Kn.blM.there.there.and Kn.blM.there.there.there))).imp fun M h=>⟨h.1,h.2.1,h.2.2.1,h.2.2.2.1,h.2.2.2.2⟩)) (dD _ ((eD _ _).trans ((eD _ _).trans ((eD _ _).trans (eD _ _)))))) ?_;exact X.ret ⟨rfl,Lv.del (mt:=305) rfl underlying305 underlying146 hJ c0 ((KeysAt.st hK).le leA) Zk (jG (q':=(stM (Stm.mk k ln cl z y (Ex.mk fk fn j g m i fl fa fc) (Ex.mk yk yn d a f c yl ya yc) l1 l2 a1 c1 a2 c2 id sl ot lo)::pto m1 (Ak es p2)::pto m2 (Aq r2)::q)) func187 (rA_ results187) ⟨_,rfl,(Stm.mk k ln cl z y (Ex.mk fk fn j g m i fl fa fc) (Ex.mk yk yn d a f c yl ya yc) l1 l2 a1 c1 a2 c2 id sl ot lo),p2,r2,by simp only [Stm.er,i0,h0,g0,f0],rfl,rfl⟩ leA)⟩
theorem Fp {l:List Stm}(IH:CSt G pc m1 m2 B N)(hN:N<=1000000)(hs:Zm l<=N)(hb:Wa B l)(hc:CellsAt q pc 0 (AT m1 m2))(hK:Kn q fun M=>BlkAt M a c l/\StKs M (Zm l) es):CallF prog G 161 (AG pc a l c) (pto m1 (Ak es k1)::pto m2 (Aq k2)::q) (Ret fun v q'=> ∃ (l':List Stm) (a':Option Addr) (c':Nat) (k1' k2':Nat),Zj l'=Zj l/\v= .slice a' l'.length c'/\q'=blM a' c' l'::pto m1 (Ak es k1')::pto m2 (Aq k2')::q):=by
 refine aC func161 ntmps161 rfl fun F cs=> ?_;have hS:=fM (hK.imp fun M h=>h.1.1.2.2);have hl:l.length<=N:=cP (Je l) hs;have k:=Zx Z8 l;obtain ⟨J_,hJ,_,z,_⟩:=info_parts V7;have y:J_.size≠0:=by rw [z];decide
 refine xx 16 ?_;refine aY (cG (fun (s:(Nat×Nat×Nat)×Option Addr×Nat×List Stm)=>s.1.1<=l.length/\Zj s.2.2.2=Zj (l.take s.1.1)/\s.2.2.2.length=s.1.1) (fun s=> [(0,.pointer (some ⟨pc,0,none⟩)),(1,.slice a l.length c),(5,.slice s.2.1 s.2.2.2.length s.2.2.1),(10,I64 l.length),(11,I64 (s.1.1:Int))]) (fun s=>rsH stC 25 126 s.2.1 s.2.2.1 s.2.2.2::stsM s.2.2.2::pto m1 (.map ((es).map U4).toArray s.1.2.1)::pto m2 (.map (([]).map U4).toArray s.1.2.2)::(q++F)) (fun s=>l.length - s.1.1) (fun s n p=> ?_) ((0,k1,k2),none,0, []) ⟨bB _,by simp [Zj],rfl⟩) Zu (aS leA (aS (aS (Zi stC 25 126 _) Hk) leA));try dsimp only at n p|-
 obtain ⟨a0,e,w⟩:=n;obtain ⟨⟨i,j1,j2⟩,a1,c1,d⟩:=s;dsimp only at*;refine xx 5 ?_;refine xp 12 ?_ ?_<;>intro h0
 . have b:i<l.length:=(by omega);obtain ⟨x,j⟩:=kL l[i];have r:x.sz<=Zm l:=j ▸ Ub (aB b);have t:x.lm B:=j ▸ Jo hb (aB b);refine Yd (hS.le leA) (by rw [k];omega) fun ab ao e_=> ?_;subst e_
   have o:Kn q fun M=>StAt M ⟨ab,ao+(i:Int).toNat*25,none⟩ x/\StKs M x.sz es:=hK.imp fun M h=>by
    obtain ⟨b',o',e1,e2⟩:=fR Z8 (by decide) h.1.1.2.2 b
    cases e1
    exact ⟨⟨by rw [j];exact e2,by rw [j];exact Vg.1 h.1.2 _ (aB b)⟩,h.2.down r⟩
   refine rf [10,0,1,2,3,4,5,6,7] hc ?_;refine Yo (fl:= [⟨11,7,fun g=> pt g,fun g=>pto g AE⟩]) ?_;refine iX 7 ⟨⟨_,rfl,rfl,rfl,rfl,rfl,rfl,fun q=>bX zeroValue309⟩,trivial⟩ (Rd.efE (Ek underlying305 underlying146 hJ y rfl rfl ((KeysAt.st o).le leA) Zk zeroValue309)) ?_ (hL:=(hlF hc));refine kk0 ?_;refine V4 8 ⟨⟨_,rfl,rfl,rfl,rfl,rfl,rfl,fun q=>bX zeroValue309⟩,trivial⟩ (Pu.move rfl) ?_;refine V4 9 ⟨⟨_,rfl,rfl,rfl,rfl,rfl,rfl,fun q=>bX zeroValue309⟩,trivial⟩ (eZ rfl rfl) ?_;refine V4 10 ⟨⟨_,rfl,rfl,rfl,rfl,rfl,rfl,fun q=>bX zeroValue309⟩,trivial⟩ (eZ rfl rfl) ?_;refine Vv (e0:=⟨11,7,fun g=> pt g,fun g=>pto g AE⟩) (hnd:=by simp) 11 ⟨⟨_,rfl,rfl,rfl,rfl,rfl,rfl,fun q=>bX zeroValue309⟩,trivial⟩ fun ne=> ?_;change XF _ _ _ _ _ _ _ [] _ _ _ ((7,.pointer (some ⟨ne,0,none⟩))::_) _ _ (pto ne AE::_);refine eT ?_;refine rn [13,14,0,3] ?_;refine Zt (bV rfl) ?_;refine rn [1,2026,7] ?_;refine Zb call187 (bM Zk Zk) (IH (s:=x) (es:=es) (by omega) t (hc.le leA) (o.le leA)) ?_;rintro _ _ ⟨s2,p2,r2,u,rfl,rfl⟩;refine bQ (Yz stC underlying53 V7 rfl rfl Z8 rfl) ?_;rintro _ _ ⟨g,rfl,rfl⟩;refine bQ (Z9 (f:=stC) (l:=d) (m:= [s2]) underlying53 V7 rfl rfl Z8 rfl rfl Zk ((bE _).le Zk) H9 (by simp;omega) (by simp;omega)) ?_;rintro _ _ ⟨a3,c3,rfl,rfl⟩;refine ox 7 ?_;refine bY (q':=stsM (d++ [s2])::_) (aS (bM Zk Zk) H5) ?_;refine aY (p ((i+1,p2,r2),a3,c3,d++ [s2]) ⟨by dsimp only;omega,by dsimp only;rw [Ip b,<-e,<-j,<-u,Yf,Yf,aM];rfl,by dsimp only;rw [aG];simp [w]⟩ (by dsimp only;omega)) Zu leA
 obtain rfl:i=l.length:=(by omega);rw [cD] at e;clear p;refine bY (q':=rsH stC 25 126 a1 c1 d::stsM d::_) (bM Zk Zk) ?_;refine X.frzR (Kn.blk Kn.stsM) (mn:=BlkAt.mono) ?_ (hq:=aE _);refine xx 7 ?_;refine Zq (blM a1 c1 d::pto m1 (Ak es j1)::pto m2 (Aq j2)::q) func161 (Zn results161 rfl) ⟨_,rfl,d,a1,c1,j1,j2,e,rfl,rfl⟩
theorem Gi (hB:B<=1000000): ∀ N,N<=1000000->CSt G pc m1 m2 B N/\CSts G pc m1 m2 B N
 |0,_=>by
  have f:CSt G pc m1 m2 B 0:=fun {s} _ _ _ _ _ _ a=>aR a (by cases s;simp only [Stm.sz];omega)
  exact ⟨f,fun a c b d=>Fp f (by omega) a c b d⟩
 |N+1,hN=>by
  have h:CSts G pc m1 m2 B N:=(Gi hB N (by omega)).2;have e:CSt G pc m1 m2 B (N+1):=fun a c b d=>cst_step h hB a c b d
  exact ⟨e,fun a c b d=>Fp e hN a c b d⟩
mutual
def PStm.its:PStm->Int->List (Int×PStm)
 | .mk k ln cl nm wt e ix body els id slot other loc,d=>(d,.mk k ln cl nm wt e ix body els id slot other loc)::(Z0 body (d+1)++Z0 els (d+1))
def Z0:List PStm->Int->List (Int×PStm)
 | [],_=> []
 |s::r,d=>s.its d++Z0 r d
end
theorem Jb: ∀ (l:List PStm) (d:Int),Z0 l d=l.flatMap fun s=>s.its d
 | [],_=>rfl
 |s::r,d=>by simp only [Z0,cH,Jb r d]
mutual
theorem J6: ∀ (s:PStm) (d:Int),(∃ r,s.its d=(d,s)::r/\ ∀ x∈r,d<x.1)
 | .mk k ln cl nm wt e ix body els id slot other loc,d=>⟨_,rfl,fun x a=>by
  rcases aQ.1 a with a|a
  . have:=Jg body (d+1) x a;omega
  have:=Jg els (d+1) x a;omega⟩
theorem Jg: ∀ (l:List PStm) (d:Int),∀ x∈Z0 l d,d<=x.1
 | [],_,x,a=>by cases a
 |s::r,d,x,a=>by
  rcases aQ.1 a with a|a
  . obtain ⟨t,c,b⟩:=J6 s d;rw [c] at a;rcases cE.1 a with rfl|a
    . exact bL _
    exact Int.le_of_lt (b x a)
  exact Jg r d x a
end
def Mm (l:List (Int×PStm)):List PStm:=(l.filter fun x=>x.1==1).map (·.2)
theorem Dj (a b:List (Int×PStm)):Mm (a++b)=Mm a++Mm b:=by simp [Mm]
theorem C3: ∀ l:List PStm,Mm (Z0 l 1)=l
 | []=>rfl
 |s::r=>by
  obtain ⟨t,e,d⟩:=J6 s 1
  have c:Mm t= []:=by
   unfold Mm;rw [List.map_eq_nil_iff,List.filter_eq_nil_iff];intro x a;have:=d x a;simp only [dC];omega
  have b:s.its 1= [(1,s)]++t:=e;simp only [Z0];rw [Dj,b,Dj,c,C3 r];rfl
theorem Zq5 {l:List (Int×PStm)}(h:i<l.length):Mm (l.take (i+1))=Mm (l.take i)++(if l[i].1=1 then [l[i].2] else []):=by
 rw [aH h,Dj];congr 1;unfold Mm;by_cases hx:l[i].1=1<;>simp [hx]
def itK (l:List PStm)(d:Int)(i:Nat):Nat:=((l.take i).flatMap fun s=>s.its d).length
theorem itK_step (h:i<l.length):itK l d (i+1)=itK l d i+(l[i].its d).length:=N8 _ h
theorem itK_all (l:List PStm)(d:Int):itK l d l.length=(Z0 l d).length:=by unfold itK;rw [cD,Jb]
theorem itK_at (h:i<l.length)(hn:n<(l[i].its d).length):(Z0 l d)[itK l d i+n]? =some (l[i].its d)[n]:=by
 rw [Jb];exact Nz _ l i n h hn
def Seg {α:Type}(L:List α)(k:Nat)(m:List α):Prop:= ∀ i,i<m.length->L[k+i]? =m[i]?
theorem Seg.app {α:Type}{L m n:List α}(h:Seg L k (m++n)):Seg L k m/\Seg L (k+m.length) n:=
 ⟨fun i a=>by rw [h i (by rw [aG];omega),dV a],fun i a=>by
  rw [eL,h (m.length+i) (by rw [aG];omega),cY (by omega)];congr 1;omega⟩
theorem Seg.item (h:Seg L k (Z0 l d))(hi:i<l.length):Seg L (k+itK l d i) (l[i].its d):=fun n a=>by
 have b:=itK_at (d:=d) hi a;have c:=(cI.1 b).1;rw [eL,h _ c,b,aD a]
theorem Seg.self {α:Type}(L:List α):Seg L 0 L:=fun i _=>by rw [eC]
def ItR (x:Int×PStm)(vs:List Value)(A:HP):Prop:= ∃ s:Stm,s.er=x.2/\vs= [I64 x.1,.agg (stC s).toArray]/\A=stM s
section
variable {y:Nat}{l:List Stm}
abbrev AY :=((.map (([]).map U4).toArray 0):Obj)
theorem N4:CallF prog G 160 [] (q) (Ret fun v q'=> ∃ p m1 m2,v= .pointer (some ⟨p,0,none⟩)/\q'=pto m1 AY::pto m2 AY::pto p (.cells (AT m1 m2).toArray 308 (0,0))::q):=by
 refine aC func160 ntmps160 rfl fun F b=> ?_;refine xo 6 ?_;refine bQ (Ef.makeMap) ?_;rintro _ _ ⟨m1,rfl,rfl⟩;refine bQ (Ef.makeMap) ?_;rintro _ _ ⟨m2,rfl,rfl⟩;refine oo 1 ?_;refine Ww fun a=> ?_
 refine ox 2 ?_;refine Zq (pto m1 AY::pto m2 AY::pto a (.cells (AT m1 m2).toArray 308 (0,0))::q) func160 (Zn results160 rfl) ⟨_,rfl,a,m1,m2,rfl,rfl⟩
abbrev Bc (v0:Value)(v1:HP->Prop)(v2:List HP)(v3:List HP):=(v0= .bool false/\ ∃ B,v1 B/\v2=B::v3)
abbrev Bb (v0:List Stm)(v1:Int):=(Z0 (Zj v0) v1)
def Wlk (G:World)(q:List HP)(y B:Nat)(L:List (Int×PStm))(J:Nat->HP)(Jf:HP->Prop)(N:Nat):Prop:= ∀ {l:List Stm} {a:Option Addr} {c:Nat} {d:Int} {k:Nat},Zm l<=N->Wa B l->(0<=d/\d+N<=2000000)->(Kn q fun M=>BlkAt M a c l)->Seg L k (Bb l d)->
 CallF prog G 163 [.slice a l.length c,I64 d,.func (.yield y) #[] #[]] (J k::q) (Ret fun v q'=>(v= .bool true/\q'=J (k+(Bb l d).length)::q)\/(Bc v Jf q' q))
abbrev AC (v0:List (Int×PStm))(v1:World)(v2:Nat)(v3:Nat->HP)(v4:List HP)(v5:HP->Prop):=(∀ i (h:i<v0.length) vs A,ItR v0[i] vs A->CallV prog v1 (.func (.yield v2) #[] #[]) vs (v3 i::A::v4) (Ret fun v q'=>(v= .bool true/\q'=v3 (i+1)::v4)\/(Bc v v5 q' v4)))
theorem Zqj (hy:(AC L G y J q Jf))(IH: ∀ n,n<N->Wlk G q y B L J Jf n)(hB:B<=1000000)(hN:N<=1000000)(hs:Zm l<=N)(hb:Wa B l)(hd:0<=d/\d+N<=2000000)(hK:Kn q fun M=>BlkAt M a c l)(hL:Seg L k (Bb l d)):CallF prog G 163 [.slice a l.length c,I64 d,.func (.yield y) #[] #[]] (J k::q) (Ret fun v q'=>(v= .bool true/\q'=J (k+(Bb l d).length)::q)\/(Bc v Jf q' q)):=by
 refine aC func163 ntmps163 rfl fun F cs=> ?_;have hS:=fM (hK.imp fun M h=>h.1.2.2);have hl:l.length<=N:=cP (Je l) hs;have g0:=Zx Z8 l;have v0:=Zg l;refine xx 12 ?_;refine aY (cG (fun (s:Nat)=>s<=l.length) (fun s=> [(0,.slice a l.length c),(1,I64 d),(2,.func (.yield y) #[] #[]),(9,I64 l.length),(10,I64 s)]) (fun s=>J (k+itK (Zj l) d s)::(q++F)) (fun s=>l.length - s) (fun s i0 ih=> ?_) 0 (bB _)) Zu leA;try dsimp only at i0 ih|-
 obtain hi:=i0;refine xx 5 ?_;refine xp 11 ?_ ?_<;>intro h0
 . have o:s<l.length:=(by omega);have f0:s<(Zj l).length:=(by omega);have c0:(Zj l)[s]=l[s].er:=by simp only [Yf,eY]
   have f:=hL.item (i:=s) f0;rw [c0] at f;have j:=itK_step (d:=d) f0;rw [c0] at j;obtain ⟨x,hx⟩:=kL l[s];have r0:x.sz<=Zm l:=hx ▸ Ub (aB o);have d0:x.lm B:=hx ▸ Jo hb (aB o);rw [<-hx] at f j;refine Yd (hS.le leA) (by rw [g0];omega) fun ab ao e_=> ?_;subst e_
   have p:Kn q fun M=>StAt M ⟨ab,ao+(s:Int).toNat*25,none⟩ x:=hK.imp fun M h=>by
    obtain ⟨b',o',e1,e2⟩:=fR Z8 (by decide) h.1.2.2 o
    cases e1
    exact ⟨by rw [hx];exact e2,by rw [hx];exact Vg.1 h.2 _ (aB o)⟩
   refine rn [11,0,1,2,4,5,6] ?_;refine Wy 2 call160 (aE _) (N4) ?_;rintro _ _ ⟨pc,m1,m2,rfl,rfl⟩;refine ⟨trivial,?_⟩;refine Wy 6 call187 (bM Zk Zk) ((Gi (m1:=m1) (m2:=m2) hB N hN).1 (s:=x) (es:= []) (by omega) d0 (iZ Qu) ((p.le leA).imp fun M h=>⟨h,fun _ h=>by cases h⟩)) ?_;rintro _ _ ⟨s2,j1,j2,t0,rfl,rfl⟩;refine ⟨trivial,?_⟩
   have u:L[k+itK (Zj l) d s]? =some (d,x.er):=by
    obtain ⟨r_,e1,_⟩:=J6 x.er d;have:=f 0 (by rw [e1];exact Nat.succ_pos _);rw [e1] at this;exact this
   have q0:=hy (k+itK (Zj l) d s) (cI.1 u).1 [I64 d,.agg (stC s2).toArray] (stM s2) ⟨s2,by rw [(cI.1 u).2];exact t0,by rw [(cI.1 u).2],rfl⟩;refine XD.cV 7 q0 ?_ (hq:=(bM Zk (bM Zk leA)));rintro _ _ (⟨rfl,rfl⟩|⟨rfl,t,g,rfl⟩) _ b<;>simp only [ca,na] at b<;>subst b
   . refine ⟨trivial,?_⟩;refine Vz 8 rfl (bV rfl) ?_;refine rn [0,1021] ?_;obtain ⟨kk,ln,cl,nm,wt,⟨ek,en,m0,k0,n0,l0,el,ea,ec⟩,⟨xk,xn,a0,xsl,b0,z,xl,xa,xc⟩,w,e,ba,bc,p0,o0,id,sl,ot,lo⟩:=x;obtain ⟨z0,y0,x0,w0⟩:=d0;have j0:=eR p;have hz:Zm w+Zm e+1<=N:=(by simp only [Stm.sz] at r0;omega);have u0:PStm.its (Stm.er (.mk kk ln cl nm wt (Ex.mk ek en m0 k0 n0 l0 el ea ec) (Ex.mk xk xn a0 xsl b0 z xl xa xc) w e ba bc p0 o0 id sl ot lo)) d=(d,Stm.er (.mk kk ln cl nm wt (Ex.mk ek en m0 k0 n0 l0 el ea ec) (Ex.mk xk xn a0 xsl b0 z xl xa xc) w e ba bc p0 o0 id sl ot lo))::(Z0 (Zj w) (d+1)++Z0 (Zj e) (d+1)):=by simp only [Stm.er,PStm.its]
     rw [u0] at f j;rw [bG,aG] at j;have r:=(Seg.app (m:= [_]) f).2;rw [bJ] at r;obtain ⟨s0,e0⟩:=r.app;refine rf [8,0,3] j0 ?_;refine W3 call163 (IH (Zm w) (by omega) (k:=(k+itK (Zj l) d s+1)) (aL _) x0 (by omega) (p.imp fun M h=>h.2.2.2.1) s0) ?_;rintro _ _ (⟨rfl,rfl⟩|⟨rfl,t,g,rfl⟩) _ b<;>simp only [ca,na] at b<;>subst b
     . refine rf [6,0,3] j0 ?_;refine W3 call163 (IH (Zm e) (by omega) (k:=(k+itK (Zj l) d s+1+(Z0 (Zj w) (d+1)).length)) (aL _) w0 (by omega) (p.imp fun M h=>⟨h.2.2.2.2.1,h.2.2.2.2.2⟩) e0) ?_;rintro _ _ (⟨rfl,rfl⟩|⟨rfl,t,g,rfl⟩) _ b<;>simp only [ca,na] at b<;>subst b
       . refine ox 10 ?_;rw [show k+itK (Zj l) d s+1+(Z0 (Zj w) (d+1)).length+(Z0 (Zj e) (d+1)).length=k+itK (Zj l) d (s+1) by omega];refine aY (ih (s+1) (by omega) (by omega)) Zu leA
       refine ox 8 ?_;refine Zq (t::q) func163 (Zn results163 rfl) ⟨_,rfl,.inr ⟨rfl,t,g,rfl⟩⟩
     refine ox 19 ?_;refine Zq (t::q) func163 (Zn results163 rfl) ⟨_,rfl,.inr ⟨rfl,t,g,rfl⟩⟩
   refine ⟨trivial,?_⟩;refine Vz 8 rfl (bV rfl) ?_;refine rn [0,2021,5] ?_;refine Zq (t::q) func163 (Zn results163 rfl) ⟨_,rfl,.inr ⟨rfl,t,g,rfl⟩⟩
 obtain rfl:s=l.length:=(by omega);rw [show itK (Zj l) d l.length=(Bb l d).length by rw [<-v0];exact itK_all _ _];refine xx 6 ?_;refine Zq (J (k+(Bb l d).length)::q) func163 (Zn results163 rfl) ⟨_,rfl,.inl ⟨rfl,rfl⟩⟩
theorem walk_all (hy:(AC L G y J q Jf))(hB:B<=1000000)(N:Nat)(hN:N<=1000000):Wlk G q y B L J Jf N:=by
 induction N using Nat.strongRecOn with
 |ind N IH=>exact fun a d c f e=>Zqj hy (fun n b=>IH n b (by omega)) hB hN a d c f e
abbrev B9 (v0:List Stm):=(Z0 (Zj v0) 1)
theorem Zqh (hB:B<=1000000)(hs:Zm l<=1000000)(hb:Wa B l)(hK:Kn q fun M=>BlkAt M a c l)(hc:CellsAt q nb 0 [.slice a l.length c])
 (hy: ∀ i (h:i<(B9 l).length) vs A,ItR (B9 l)[i] vs A->CallV prog G (.func (.yield y) #[] #[]) vs (J i::A::q) (Ret fun v q'=>(v= .bool true/\q'=J (i+1)::q)\/(Bc v Jf q' q))):
 CallF prog G 162 [.func (.yield y) #[] #[],.pointer (some ⟨nb,0,none⟩)] (J 0::q) (Ret fun _ q'=>q'=J (B9 l).length::q\/ ∃ A,Jf A/\q'=A::q):=by
 refine aC func162 ntmps162 rfl fun F g=> ?_;refine rf [1,0,1] hc ?_;refine W3 call163 (walk_all hy hB (Zm l) hs (k:=0) (aL _) hb (by omega) hK (Seg.self _)) ?_;rintro _ _ e _ d;subst d;rw [eC] at e;rcases e with ⟨rfl,rfl⟩|⟨rfl,f,b,rfl⟩
 . simp only [ca,na];refine ox 1 ?_;refine Z7 (J (B9 l).length::q) func162 (Vm results162) ⟨_,rfl,.inl rfl⟩
 simp only [ca,na];refine ox 1 ?_;refine Z7 (f::q) func162 (Vm results162) ⟨_,rfl,.inr ⟨f,b,rfl⟩⟩
theorem L8 (hB:B<=1000000)(hs:Zm l<=1000000)(hb:Wa B l)(hK:Kn q fun M=>BlkAt M a c l)(hc:CellsAt q nb 0 [.slice a l.length c]):IterR prog G (.func (.func 162) [].toArray (A8 nb).toArray) ItR (B9 l) q:=
 fun y J Jf hy=>CallV.c11 call162 (Zqh (G:=G) (J:=J) (Jf:=Jf) hB hs hb hK hc hy)
abbrev B1 :=((.cells [.slice none 0 0].toArray 53 (0,0)):Obj)
theorem Stmts_ok {x0 x1 x2 x4:Int}{x3:ByteArray}(hB:B<=1000000)(hs:Zm l<=1000000)(hb:Wa B l)(hK:Kn q fun M=>BlkAt M a c l):CallF prog G 124 [.agg [I64 x0,I64 x1,I64 x2,.string x3,I64 x4,.slice a l.length c].toArray] (q) (Ret fun v q'=> ∃ (l':List Stm) (a':Option Addr) (c' nb:Nat),Zj l'=Zj l/\v= .func (.func 162) [].toArray (A8 nb).toArray/\q'=pto nb (.cells [.slice a' l'.length c'].toArray 53 (0,0))::blM a' c' l'::q):=by
 refine aC func124 ntmps124 rfl fun F m=> ?_;refine xo 2 ?_;refine Ww fun i=> ?_
 refine rn [3,0,2,3] ?_;refine Yo (fl:= [⟨4,3,fun g=> pt g,fun g=>pto g B1⟩]) ?_;refine Fi 0 ⟨⟨_,rfl,rfl,rfl,rfl,rfl,rfl,fun q=>bX zeroValue53⟩,trivial⟩ call160 (aE _) (N4) ?_;rintro _ _ ⟨pc,m1,m2,rfl,rfl⟩;refine ⟨hlA,?_⟩;refine Fi 3 ⟨⟨_,rfl,rfl,rfl,rfl,rfl,rfl,fun q=>bX zeroValue53⟩,trivial⟩ call161 (bM Zk Zk) ((Gi (m1:=m1) (m2:=m2) hB 1000000 (aL _)).2 (l:=l) (es:= []) hs hb (iZ Qu) ((hK.le leA).imp fun M h=>⟨h,fun _ h=>by cases h⟩)) ?_;rintro _ _ ⟨b,f,e,k,j,d,rfl,rfl⟩;refine ⟨trivial,?_⟩;refine Vv (e0:=⟨4,3,fun g=> pt g,fun g=>pto g B1⟩) (hnd:=by simp) 4 ⟨⟨_,rfl,rfl,rfl,rfl,rfl,rfl,fun q=>bX zeroValue53⟩,trivial⟩ fun nb=> ?_;change XF _ _ _ _ _ _ _ [] _ _ _ ((3,.pointer (some ⟨nb,0,none⟩))::_) _ _ (pto nb B1::_);refine eT ?_;refine rn [6,0,5] ?_;refine Zq (pto nb (.cells [.slice f b.length e].toArray 53 (0,0))::blM f e b::q) func124 (Zn results124 rfl) ⟨_,rfl,b,f,e,nb,d,rfl,rfl⟩
end
end Go.Proofs.YtflkjkhijcdbaaaGreat
