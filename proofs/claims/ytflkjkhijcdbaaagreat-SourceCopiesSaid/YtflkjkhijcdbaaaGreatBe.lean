/- Contracts of functions, proved by walking their code. -/
import Derived.Test.YtflkjkhijcdbaaaGreatBd
import Derived.KernelRfl
set_option maxRecDepth 100000
set_option linter.unusedVariables false
set_option linter.unusedSimpArgs false
namespace Go.Proofs.YtflkjkhijcdbaaaGreat
open Go Go.RowKit Wx Go.Proofs.Tryz
attribute [local irreducible] Wx.lsH Wx.rsH Wx.stars
def Ex.z:Ex:= .mk 0 0 em 0 false 0 [] none 0
section
variable {q:List HP}{e ix:Ex}{body els:List Stm}{k ln cl:Int}{nm wt:ByteArray}{ba:Option Addr}{bc:Nat}{ea:Option Addr}{ec:Nat}{id slot other:Int}{loc:Bool}
theorem Kn.exz:Kn q fun M=>Ex.z.At M:=fun M _ _=>⟨SlAt.nil M,trivial⟩
theorem La:Kn q fun M=>BlkAt M none 0 []:=fun M _ _=>⟨SlAt.nil M,trivial⟩
theorem Kn.st (he:Kn q fun M=>e.At M:=by first|exact Kn.exz|exact knA)(hx:Kn q fun M=>ix.At M:=by first|exact Kn.exz|exact knA)(hb:Kn q fun M=>BlkAt M ba bc body:=by first|exact La|exact knA)(hl:Kn q fun M=>BlkAt M ea ec els:=by first|exact La|exact knA):
 Kn q fun M=>(Stm.mk k ln cl nm wt e ix body els ba bc ea ec id slot other loc).At M:=fun M x p=>⟨he M x p,hx M x p,hb M x p,(hl M x p).1,(hl M x p).2⟩
theorem U5 {P:Program}{G:World}{fr:Fc}{Q:Yr}{todo:List Item}{p:PE}{ds:List Deferred}{cs:List Frame}(s:Stm)(h:Kn q fun M=>s.At M)(K:X P G fr Q todo p ds cs (stM s::q)):X P G fr Q todo p ds cs q:= .le (Kn.add h) K
end
theorem X.sts {P:Program}{G:World}{fr:Fc}{Q:Yr}{todo:List Item}{p:PE}{ds:List Deferred}{cs:List Frame}{q q1 q2:List HP}{l:List Stm}{s:Stm}(h1:Le q (stsM l::q1))(h2:Le q1 (stM s::q2))(K:X P G fr Q todo p ds cs (stsM (l++ [s])::q2)):X P G fr Q todo p ds cs q:= .le (h1.trans ((Le.cons _ h2).trans Hc)) K
theorem T2 (l m:List Stm):Zj (l++m)=Zj l++Zj m:=by simp [Yn]
theorem Np {W:List Bs}{ts:List Tk}: ∀ {k:Nat},Q5 W ts k≤k
 |0=>Nat.le_refl _
 |k+1=>by unfold Q5;split;exact Nat.le_refl _;exact Nat.le_succ_of_le Np
theorem Bh {W:List Bs}{L:List Tk}{n:Nat}: ∀ {k:Nat},Q5 W (L.drop n) k≠0→n<L.length
 |0,h=>absurd rfl h
 |k+1,h=>by
  unfold Q5 at h
  split at h
  · rename_i g;exact Pz g.2
  exact Bh h
theorem baNil (w:Bs):(ba w).toList=(ByteArray.mk #[]).toList↔w= []:=by rw [sEq,Ud];exact Iff.rfl
section
variable {L:List Tk}{bad b b1 b2:Bool}{f n m m2:Nat}{s:PStm}{nm:ByteArray}{k:Int}{p:Int×Int}
theorem stmt_0 (hk:bad=true∨Vu (L.drop n)=0)(ho:Out L bad (Q3 (L.drop n)) nm m2 b2)(hr:Out L b2 (Un f 0 (Zr (L.drop n)) nm (L.drop m2)) s m b):Out L bad (Q0 (f+1) (L.drop n)) s m b:=by
 cases bad with
 |true=>
  have h1:=ho.isBad;subst h1
  have h2:=hr.isBad;subst h2
  exact .any
 |false=>
  have hk:=hk.resolve_left (by decide)
  rw [Q0,hk,if_neg (by decide),if_neg (by decide),if_neg (by decide)]
  exact ho.bnd hr
theorem Ro (h0:Vu (L.drop n)≠0)(h1:Vu (L.drop n)≠4∧Vu (L.drop n)≠5∧Vu (L.drop n)≠14∧Vu (L.drop n)≠15)(ho:Out L false (Q3 (L.drop (n+1))) nm m2 b2)(hr:Out L b2 (Un f (Vu (L.drop n)) (Zr (L.drop n)) nm (L.drop m2)) s m b):Out L false (Q0 (f+1) (L.drop n)) s m b:=by
 rw [Q0,if_neg (by omega),if_neg (by omega),if_pos (by omega),tail_drop]
 exact ho.bnd hr
theorem stmt_j (h1:Vu (L.drop n)=14∨Vu (L.drop n)=15)(hr:Out L false (Un f (Vu (L.drop n)) (Zr (L.drop n)) em (L.drop (n+1))) s m b):Out L false (Q0 (f+1) (L.drop n)) s m b:=by
 rw [Q0,if_neg (by omega),if_pos h1,tail_drop]
 exact hr
theorem rest_0 {l:Option (PStm×List Tk)}(hw:b2=true∨isW [91] (L.drop m2)=false)(e:l=bnd (Vy [61] (L.drop m2)) fun _ r=>bnd (Vq f 1 r) fun e r=>bnd (Vy [59] r) fun _ r=>some (.mk 2 p.1 p.2 nm em e .z [] [] 0 0 0 false,r))(hr:Out L b2 l s m b):Out L b2 (Un f 0 p nm (L.drop m2)) s m b:=by
 subst e
 cases b2 with
 |true=>have h:=hr.isBad;subst h;exact .any
 |false=>rw [Un,if_pos rfl,if_neg (by rw [hw.resolve_left (by decide)];decide)];exact hr
def MoreB (L:List Tk)(bad:Bool)(S:Option (List PStm×List Tk))(g:Nat)(l:List PStm)(n:Nat)(b:Bool):Prop:=(b=false∧bad=false∧S=(Ue g (L.drop n)).map fun x=>(l++x.1,x.2))∨(b=true∧(bad=true∨S=none))
theorem MoreB.first (S:Option (List PStm×List Tk))(e:bad=false→S=Ue f (L.drop n)):MoreB L bad S f [] n bad:=by
 cases bad with
 |true=>exact .inr ⟨rfl,.inl rfl⟩
 |false=>exact .inl ⟨rfl,rfl,by rw [e rfl];cases Ue f (L.drop n)<;>rfl⟩
theorem MoreB.over {S:Option (List PStm×List Tk)}{l:List PStm}(h:MoreB L bad S f l n b)(hg:b=false→0<f)(h0:b=true∨isW [125] (L.drop n)=true):Out L bad S l n b:=by
 rcases h with ⟨e1,e2,e3⟩|⟨e1,e2⟩
 · obtain ⟨g,rfl⟩: ∃ g,f=g+1:=⟨f - 1,by have:=hg e1;omega⟩
   exact .inl ⟨e1,e2,by rw [e3,Ue,if_pos (h0.resolve_left (by rw [e1];decide))];simp⟩
 exact .inr ⟨e1,e2⟩
theorem MoreB.go {S:Option (List PStm×List Tk)}{l:List PStm}(h:MoreB L bad S (f+1) l n false)(h0:isW [125] (L.drop n)=false)(ho:Out L false (Q0 f (L.drop n)) s m b):MoreB L bad S f (l++ [s]) m b:=by
 rcases h with ⟨_,e2,e3⟩|⟨e1,_⟩
 · rcases ho with ⟨k1,_,k3⟩|⟨k1,k2⟩
   · refine .inl ⟨k1,e2,?_⟩
     rw [e3,Ue,if_neg (by rw [h0];decide),k3]
     simp only [bnd]
     cases Ue f (L.drop m)<;>simp [bnd]
   refine .inr ⟨k1,.inr ?_⟩
   rw [e3,Ue,if_neg (by rw [h0];decide),k2.resolve_left (by decide)];rfl
 cases e1
theorem name_adv (ho:Out L bad (Q3 (L.drop n)) nm m2 false)(h:m2≤L.length):n<m2:=by
 rcases ho with ⟨_,_,e⟩|⟨e,_⟩
 · rcases Nat.lt_or_ge n L.length with hlt|hge
   · rw [Bw hlt] at e
     split at e
     · have:=congrArg List.length (Prod.mk.inj (Option.some.inj e)).2
       simp at this;omega
     cases e
   rw [D7 hge] at e;cases e
 cases e
theorem adv0 {sp:Option (PStm×List Tk)}(ho:Out L bad (Q3 (L.drop n)) nm m2 b2)(hr:Out L b2 sp s m b)(hb:b=false)(h:m2≤L.length):n<m2:=by
 subst hb
 rcases hr with ⟨_,e,_⟩|⟨e,_⟩
 · subst e;exact name_adv ho h
 cases e
end
def RdStmt (G:World)(la:Option Addr)(lc:Nat)(L:List Tk)(f:Nat):Prop:= ∀ {p n:Nat} {q:List HP} {bad:Bool},Sees q la (L.flatMap tkC)→n≤L.length→10*(L.length - n)+11≤f→
 CallF prog G 181 [.pointer (some ⟨p,0,none⟩)] (rdH p la lc L n bad::q) (Ret fun v q'=> ∃ (s:Stm) (n':Nat) (bad':Bool),v= .agg (stC s).toArray∧q'=rdH p la lc L n' bad'::stM s::q∧(n≤n'∧(bad'=false→n<n'))∧n'≤L.length∧Out L bad (Q0 f (L.drop n)) s.er n' bad')
def Iz (G:World)(la:Option Addr)(lc:Nat)(L:List Tk)(f:Nat):Prop:= ∀ {p n:Nat} {q:List HP} {bad:Bool},Sees q la (L.flatMap tkC)→n≤L.length→10*(L.length - n)+13≤f→
 CallF prog G 152 [.pointer (some ⟨p,0,none⟩)] (rdH p la lc L n bad::q) (Ret fun v q'=> ∃ (a:Option Addr) (c:Nat) (l:List Stm) (n':Nat) (bad':Bool),v= .slice a l.length c∧q'=rdH p la lc L n' bad'::blM a c l::q∧n≤n'∧n'≤L.length∧Out L bad (Hg f (L.drop n)) (Zj l) n' bad')
theorem V0:(prog.info? 126).map (fun i=>(i.zero,i.size,i.bytes))=some (some (.agg #[.int .i64 0,.int .i64 0,.int .i64 0,.string ⟨#[]⟩,.string ⟨#[]⟩,.int .i64 0,.int .i64 0,.string ⟨#[]⟩,.int .i64 0,.bool false,.int .i64 0,.slice none 0 0,.int .i64 0,.int .i64 0,.string ⟨#[]⟩,.int .i64 0,.bool false,.int .i64 0,.slice none 0 0,.slice none 0 0,.slice none 0 0,.int .i64 0,.int .i64 0,.int .i64 0,.bool false]),25,296):=by kernel_rfl
section
variable {G:World}{q pre:List HP}{a la A:Option Addr}{c lc p n:Nat}{bad:Bool}{s:ByteArray}{L:List Tk}{r:Int}
variable {f:Nat}
theorem kinds_ok:CallF prog G 200 [] ([]) (Ret fun v q'=> ∃ g,v= .slice (some ⟨g,0,none⟩) 16 16∧q'= [lsH (fun w:Bs=>Value.string (ba w)) 9 (some ⟨g,0,none⟩) 16 kindL]):=by
 refine CallF.of func200 ntmps200 rfl (fun F cs=> ?_)
 refine xo 6 ?_;refine XO.ef (Y0 (fun w:Bs=>Value.string (ba w)) kindL underlying25 Wn rfl rfl rfl rfl rfl rfl (fun _=>rfl)) ?_
 rintro _ _ ⟨g,rfl,rfl⟩
 refine ox 2 ?_;refine Zq [lsH (fun w:Bs=>Value.string (ba w)) 9 (some ⟨g,0,none⟩) 16 kindL] func200 (Zg results200 rfl) ⟨_,rfl,g,rfl,rfl⟩
set_option maxHeartbeats 4000000 in
theorem Ii (hE:Ft G la lc L f)(hB:Iz G la lc L f)(hL:Sees q la (L.flatMap tkC))(hn:L.length≤65536)(hnL:n≤L.length)(hfu:10*(L.length - n)+11≤f+1):CallF prog G 181 [.pointer (some ⟨p,0,none⟩)] (rdH p la lc L n bad::q) (Ret fun v q'=> ∃ (s:Stm) (n':Nat) (bad':Bool),v= .agg (stC s).toArray∧q'=rdH p la lc L n' bad'::stM s::q∧(n≤n'∧(bad'=false→n<n'))∧n'≤L.length∧Out L bad (Q0 (f+1) (L.drop n)) s.er n' bad'):=by
 refine CallF.of func181 ntmps181 rfl (fun F cs=> ?_)
 obtain ⟨K,hK⟩: ∃ K:Nat→Nat,K=fun j=>if bad=true then 0 else Q5 kindL (L.drop n) j:=⟨_,rfl⟩
 refine xo 2 ?_;refine XO.al zeroValue126 fun n1=> ?_
 refine oo 4 ?_;refine Zf call146 leA (pos_ok (hL.le leA) hn) ?_;rintro _ _ ⟨rfl,rfl⟩
 refine oo 1 ?_;refine XO.al zeroValue126 fun n2=> ?_
 refine stA ?_;refine oo 3 ?_;refine Vz call200 (kinds_ok) ?_;rintro _ _ ⟨gk,rfl,rfl⟩ _ e_;simp only [ca,na] at e_;subst e_
 refine ox 8 ?_
 have hK0:K 0=0:=by rw [hK];cases bad<;>rfl
 refine X.at (X.loop (fun (s:Nat)=>s≤15) (fun s=> [(0,.pointer (some ⟨p,0,none⟩)),(2,.pointer (some ⟨n1,0,none⟩)),(3,.pointer (some ⟨n2,0,none⟩)),(4,.slice (some ⟨gk,0,none⟩) 16 16),(5,.int .i64 ((s+1:Nat):Int))]) (fun s=>rdH p la lc L n bad::pto n2 (.cells (stC (.mk (K s) (Zr (L.drop n)).1 (Zr (L.drop n)).2 em em .z .z [] [] none 0 none 0 0 0 0 false)).toArray 126 (0,0))::pto n1 (.cells [.int .i64 0,.int .i64 0,.int .i64 0,.string ⟨#[]⟩,.string ⟨#[]⟩,.int .i64 0,.int .i64 0,.string ⟨#[]⟩,.int .i64 0,.bool false,.int .i64 0,.slice none 0 0,.int .i64 0,.int .i64 0,.string ⟨#[]⟩,.int .i64 0,.bool false,.int .i64 0,.slice none 0 0,.slice none 0 0,.slice none 0 0,.int .i64 0,.int .i64 0,.int .i64 0,.bool false].toArray 126 (0,0))::lsH (fun w:Bs=>Value.string (ba w)) 9 (some ⟨gk,0,none⟩) 16 kindL::(q++F)) (fun s=>15 - s) (fun s hi_ ih=> ?_) 0 (by omega)) Zd (by rw [hK0];exact leA)
 try dsimp only at hi_ ih⊢
 obtain hs:=hi_
 refine xx 8 ?_;refine X.part 14 rfl (fun h0=> ?_) (fun h0=> ?_)
 · replace h0:=sp h0;have hs2:s+1<kindL.length:=by show s+1<16;omega
   refine xo 9 ?_;refine ld ?_ (hc:=(Cl.e1 (n:=s+1) (Sees.lsH _) Zk hs2 rfl))
   refine oo 2 ?_;refine Zm [22,0,2,3,4,5] ?_
   apply Zp 7 29 22 rfl
   · intro g1 M1;have h1:=sp g1
     refine oo 4 ?_;refine ld ?_ (hc:=(Cl.e1 (n:=s+1) (Sees.lsH _) Zk hs2 rfl))
     refine XO.cR call147 (Ge (n:=n) (bad:=bad) (s:=ba kindL[s+1]) Qt (hL.le leA) hn) ?_
     refine oo 1 ?_;exact Zz M1 ⟨Wz g1,Zw⟩
   · intro g1 M1;have h1:=sp g1
     refine oo 7 ?_;exact Zz M1 ⟨Wj g1,Zw⟩
   refine ox 1 ?_;refine X.part 29 rfl (fun h1=> ?_) (fun h1=> ?_)
   · replace h1:=sp h1
     refine xo 4 ?_;refine st ?_;refine ox 7 ?_
     have hKs:K (s+1)=s+1:=by rw [hK];dsimp only;rw [Ud,←gD (d:= []) hs2,baNil] at h1;rw [if_neg (by rw [h1.2.1];decide),Q5,if_pos ⟨h1.1,h1.2.2⟩]
     refine X.at (ih (s+1) (by omega) (by omega)) Zd (by rw [hKs];exact leA)
   replace h1:=sp h1
   refine xx 8 ?_
   have hKs:K (s+1)=K s:=by rw [hK];dsimp only;rw [Ud,←gD (d:= []) hs2,baNil] at h1;cases bad with|true=>rfl|false=>rw [if_neg (by decide),if_neg (by decide),Q5,if_neg (fun k=>by simp_all)]
   refine X.at (ih (s+1) (by omega) (by omega)) Zd (by rw [hKs];exact leA)
 replace h0:=sp h0;obtain rfl:s=15:=by omega
 obtain ⟨k,hk⟩: ∃ k,K 15=k:=⟨_,rfl⟩;rw [hk];rw [hK] at hk;dsimp only at hk;clear ih hK hK0 hi_ h0
 have hk15:k≤15:=by rw [←hk];cases bad;exact Np;exact Nat.zero_le _
 have hkp:k≠0→bad=false∧Vu (L.drop n)=k∧n<L.length:=fun h=>by cases bad with|true=>exact absurd hk.symm h|false=>exact ⟨rfl,hk,Bh (by rw [show Q5 kindL (L.drop n) 15=k from hk];exact h)⟩
 have hcl:k=0∨k=1∨k=8∨k=12∨k=11∨k=15∨k=14∨(k=4∨k=5)∨(k=2∨k=3∨k=6∨k=7∨k=9∨k=10∨k=13):=by omega
 rcases hcl with rfl|rfl|rfl|rfl|rfl|rfl|rfl|hcl|hcl
 · have hk0:bad=true∨Vu (L.drop n)=0:=by cases bad;exact .inr hk;exact .inl rfl
   refine xj 5 ?_;refine ox 8 ?_;refine Wy 35 ?_;refine xo 8 ?_;refine Mw 45 ?_;refine ox 4 ?_;refine Wy 48 ?_;refine xo 8 ?_;refine XO.kt 67 ?_;refine ox 4 ?_;refine X.kt 70 ?_;refine xo 3 ?_;refine Zf call148 leA (Jh (n:=n) (hL.le leA) hn hnL) ?_
   rintro _ _ ⟨nm,m2,b2,rfl,rfl,⟨hm2,_⟩,hM2,ho2⟩
   refine oo 1 ?_;refine st ?_;refine ox 12 ?_;refine X.kt 75 ?_;refine xo 4 ?_;refine st ?_;refine oo 5 ?_;refine Zf call150 leA (Uv (w:= [91]) (n:=m2) (hL.le leA) hn) ?_
   rintro _ _ (⟨rfl,⟨hb,hw,hlt2⟩,rfl⟩|⟨rfl,hw,rfl⟩)
   · subst hb
     refine oo 5 ?_;refine st ?_;refine oo 4 ?_;refine Zf call201 leA (hE 1 (n:=(m2+1)) (hL.le leA) (by omega) (by omega) (by omega) (by omega)) ?_
     rintro _ _ ⟨⟨k1,z1,s1,l1,o1,p1,y1,u1,w1⟩,m3,b3,rfl,rfl,hm3,hM3,ho3⟩
     refine oo 1 ?_;refine stA ?_;refine oo 3 ?_;refine Zf call149 leA (Y1 (w:= [93]) (n:=m3) (hL.le leA) hn hM3) ?_
     rintro _ _ ⟨m4,b4,rfl,rfl,hm4,hM4,ho4⟩
     refine oo 4 ?_;refine Zf call149 leA (Y1 (w:= [61]) (n:=m4) (hL.le leA) hn hM4) ?_
     rintro _ _ ⟨m5,b5,rfl,rfl,hm5,hM5,ho5⟩
     refine oo 3 ?_;refine Zf call201 leA (hE 1 (n:=m5) (hL.le leA) (by omega) (by omega) (by omega) (by omega)) ?_
     rintro _ _ ⟨⟨k2,z2,s2,l2,o2,p2,y2,u2,w2⟩,m6,b6,rfl,rfl,hm6,hM6,ho6⟩
     refine oo 1 ?_;refine stA ?_;refine oo 5 ?_;refine Zf call149 leA (Y1 (w:= [59]) (n:=m6) (hL.le leA) hn hM6) ?_
     rintro _ _ ⟨m7,b7,rfl,rfl,hm7,hM7,ho7⟩
     refine oo 3 ?_;refine ldA ?_;refine stA ?_;refine ox 1 ?_
     have hr:Out L false (Un f 0 (Zr (L.drop n)) nm (L.drop m2)) (Stm.er (.mk 3 (Zr (L.drop n)).1 (Zr (L.drop n)).2 nm em (.mk k2 z2 s2 l2 o2 p2 y2 u2 w2) (.mk k1 z1 s1 l1 o1 p1 y1 u1 w1) [] [] none 0 none 0 0 0 0 false)) m7 b7:=(by rw [Un,if_pos rfl,if_pos hw,tail_drop];exact ho3.bnd (ho4.bnd (ho5.bnd (ho6.bnd (ho7.bnd .ret)))))
     refine U5 (.mk 3 (Zr (L.drop n)).1 (Zr (L.drop n)).2 nm em (.mk k2 z2 s2 l2 o2 p2 y2 u2 w2) (.mk k1 z1 s1 l1 o1 p1 y1 u1 w1) [] [] none 0 none 0 0 0 0 false) Kn.st ?_;refine Zq (rdH p la lc L m7 b7::stM (.mk 3 (Zr (L.drop n)).1 (Zr (L.drop n)).2 nm em (.mk k2 z2 s2 l2 o2 p2 y2 u2 w2) (.mk k1 z1 s1 l1 o1 p1 y1 u1 w1) [] [] none 0 none 0 0 0 0 false)::q) func181 (rA_ results181) ⟨_,rfl,(.mk 3 (Zr (L.drop n)).1 (Zr (L.drop n)).2 nm em (.mk k2 z2 s2 l2 o2 p2 y2 u2 w2) (.mk k1 z1 s1 l1 o1 p1 y1 u1 w1) [] [] none 0 none 0 0 0 0 false),m7,b7,rfl,rfl,⟨by omega,fun hb=>by have:=adv0 ho2 hr hb hM2;omega⟩,hM7,stmt_0 hk0 ho2 hr⟩
   refine oo 6 ?_;refine Zf call149 leA (Y1 (w:= [61]) (n:=m2) (hL.le leA) hn hM2) ?_
   rintro _ _ ⟨m3,b3,rfl,rfl,hm3,hM3,ho3⟩
   refine oo 3 ?_;refine Zf call201 leA (hE 1 (n:=m3) (hL.le leA) (by omega) (by omega) (by omega) (by omega)) ?_
   rintro _ _ ⟨⟨k1,z1,s1,l1,o1,p1,y1,u1,w1⟩,m4,b4,rfl,rfl,hm4,hM4,ho4⟩
   refine oo 1 ?_;refine stA ?_;refine oo 5 ?_;refine Zf call149 leA (Y1 (w:= [59]) (n:=m4) (hL.le leA) hn hM4) ?_
   rintro _ _ ⟨m5,b5,rfl,rfl,hm5,hM5,ho5⟩
   refine oo 3 ?_;refine ldA ?_;refine stA ?_;refine ox 1 ?_
   have hr:Out L b2 (Un f 0 (Zr (L.drop n)) nm (L.drop m2)) (Stm.er (.mk 2 (Zr (L.drop n)).1 (Zr (L.drop n)).2 nm em (.mk k1 z1 s1 l1 o1 p1 y1 u1 w1) .z [] [] none 0 none 0 0 0 0 false)) m5 b5:=rest_0 hw rfl (ho3.bnd (ho4.bnd (ho5.bnd .ret)))
   refine U5 (.mk 2 (Zr (L.drop n)).1 (Zr (L.drop n)).2 nm em (.mk k1 z1 s1 l1 o1 p1 y1 u1 w1) .z [] [] none 0 none 0 0 0 0 false) Kn.st ?_;refine Zq (rdH p la lc L m5 b5::stM (.mk 2 (Zr (L.drop n)).1 (Zr (L.drop n)).2 nm em (.mk k1 z1 s1 l1 o1 p1 y1 u1 w1) .z [] [] none 0 none 0 0 0 0 false)::q) func181 (rA_ results181) ⟨_,rfl,(.mk 2 (Zr (L.drop n)).1 (Zr (L.drop n)).2 nm em (.mk k1 z1 s1 l1 o1 p1 y1 u1 w1) .z [] [] none 0 none 0 0 0 0 false),m5,b5,rfl,rfl,⟨by omega,fun hb=>by have:=adv0 ho2 hr hb hM2;omega⟩,hM5,stmt_0 hk0 ho2 hr⟩
 iterate 4
  focus
   obtain ⟨rfl,hks,hlt⟩:=hkp (by omega)
   refine xj 5 ?_;refine ox 8 ?_;refine X.kt 35 ?_;refine xj 5 ?_;refine oo 3 ?_;refine st ?_;refine oo 7 ?_;refine Mw 45 ?_;refine ox 4 ?_;refine Wy 48 ?_;refine xo 8 ?_;refine XO.kt 67 ?_;refine ox 4 ?_;refine X.kt 70 ?_;refine xo 3 ?_;refine Zf call148 leA (Jh (n:=(n+1)) (hL.le leA) hn (by omega)) ?_
   rintro _ _ ⟨nm,m2,b2,rfl,rfl,⟨hm2,_⟩,hM2,ho2⟩
   refine oo 1 ?_;refine st ?_;refine ox 12 ?_;refine kx 75 6 ?_
  rotate_left
 · obtain ⟨rfl,hks,hlt⟩:=hkp (by omega)
   refine xj 5 ?_;refine ox 8 ?_;refine X.kt 35 ?_;refine xj 5 ?_;refine oo 3 ?_;refine st ?_;refine oo 7 ?_;refine Mw 45 ?_;refine ox 4 ?_;refine Wy 48 ?_;refine xo 8 ?_;refine XO.kt 67 ?_;refine ox 4 ?_;refine kx 70 13 ?_;refine kx 75 6 ?_;refine kx 91 7 ?_;refine kx 98 5 ?_;refine kx 98 7 ?_;refine kx 104 5 ?_;refine X.kt 104 ?_;refine xo 3 ?_;refine Zf call201 leA (hE 1 (n:=(n+1)) (hL.le leA) (by omega) (by omega) (by omega) (by omega)) ?_
   rintro _ _ ⟨⟨k1,z1,s1,l1,o1,p1,y1,u1,w1⟩,m2,b2,rfl,rfl,hm2,hM2,ho2⟩
   refine oo 1 ?_;refine stA ?_;refine oo 5 ?_;refine Zf call149 leA (Y1 (w:= [59]) (n:=m2) (hL.le leA) hn hM2) ?_
   rintro _ _ ⟨m3,b3,rfl,rfl,hm3,hM3,ho3⟩
   refine oo 3 ?_;refine ldA ?_;refine stA ?_;refine ox 1 ?_;refine U5 (.mk (15:Nat) (Zr (L.drop n)).1 (Zr (L.drop n)).2 em em (.mk k1 z1 s1 l1 o1 p1 y1 u1 w1) .z [] [] none 0 none 0 0 0 0 false) Kn.st ?_;refine Zq (rdH p la lc L m3 b3::stM (.mk (15:Nat) (Zr (L.drop n)).1 (Zr (L.drop n)).2 em em (.mk k1 z1 s1 l1 o1 p1 y1 u1 w1) .z [] [] none 0 none 0 0 0 0 false)::q) func181 (rA_ results181) ⟨_,rfl,(.mk (15:Nat) (Zr (L.drop n)).1 (Zr (L.drop n)).2 em em (.mk k1 z1 s1 l1 o1 p1 y1 u1 w1) .z [] [] none 0 none 0 0 0 0 false),m3,b3,rfl,rfl,⟨by omega,fun _=>by omega⟩,hM3,stmt_j (.inr hks) (by rw [hks,Un,if_neg (by decide),if_neg (by decide),if_neg (by decide),if_pos (by decide)];exact ho2.bnd (ho3.bnd .ret))⟩
 · obtain ⟨rfl,hks,hlt⟩:=hkp (by omega)
   refine xj 5 ?_;refine ox 8 ?_;refine X.kt 35 ?_;refine xj 5 ?_;refine oo 3 ?_;refine st ?_;refine oo 7 ?_;refine Mw 45 ?_;refine ox 4 ?_;refine Wy 48 ?_;refine xo 8 ?_;refine Mw 67 ?_;refine ox 17 ?_;refine kx 75 6 ?_;refine kx 91 7 ?_;refine kx 98 5 ?_;refine kx 98 7 ?_;refine kx 104 5 ?_;refine Wy 104 ?_;refine xo 6 ?_;refine Zf call149 leA (Y1 (w:= [59]) (n:=(n+1)) (hL.le leA) hn (by omega)) ?_
   rintro _ _ ⟨m2,b2,rfl,rfl,hm2,hM2,ho2⟩
   refine oo 3 ?_;refine ldA ?_;refine stA ?_;refine ox 1 ?_;refine U5 (.mk (14:Nat) (Zr (L.drop n)).1 (Zr (L.drop n)).2 em em .z .z [] [] none 0 none 0 0 0 0 false) Kn.st ?_;refine Zq (rdH p la lc L m2 b2::stM (.mk (14:Nat) (Zr (L.drop n)).1 (Zr (L.drop n)).2 em em .z .z [] [] none 0 none 0 0 0 0 false)::q) func181 (rA_ results181) ⟨_,rfl,(.mk (14:Nat) (Zr (L.drop n)).1 (Zr (L.drop n)).2 em em .z .z [] [] none 0 none 0 0 0 0 false),m2,b2,rfl,rfl,⟨by omega,fun _=>by omega⟩,hM2,stmt_j (.inl hks) (by rw [hks,Un,if_neg (by decide),if_neg (by decide),if_neg (by decide),if_neg (by decide)];exact ho2.bnd .ret)⟩
 · obtain ⟨rfl,hks,hlt⟩:=hkp (by omega)
   refine xj 5 ?_;refine ox 8 ?_;refine X.kt 35 ?_;refine xj 5 ?_;refine oo 3 ?_;refine st ?_;refine oo 7 ?_;refine XO.part 45 rfl (fun h1=> ?_) (fun h1=> ?_)
   focus
    replace h1:=sp h1
    refine oo 8 ?_
   rotate_left
   focus
    replace h1:=sp h1
    refine ox 4 ?_;refine X.kt 48 ?_;refine xo 4 ?_
   all_goals
    refine Zf call201 leA (hE 1 (n:=(n+1)) (hL.le leA) (by omega) (by omega) (by omega) (by omega)) ?_
    rintro _ _ ⟨⟨k1,z1,s1,l1,o1,p1,y1,u1,w1⟩,m2,b2,rfl,rfl,hm2,hM2,ho2⟩
    refine oo 1 ?_;refine stA ?_;refine oo 4 ?_;refine Zf call152 leA (hB (n:=m2) (hL.le leA) (by omega) (by omega)) ?_
    rintro _ _ ⟨a1,c1,t1,m3,b3,rfl,rfl,hm3,hM3,ho3⟩
    refine oo 1 ?_;refine st ?_;refine oo 7 ?_;refine XO.part 57 rfl (fun h2=> ?_) (fun h2=> ?_)
    · replace h2:=sp h2
      refine oo 1 ?_;refine Zf call150 leA (Uv (w:= [101,108,115,101]) (n:=m3) (hL.le leA) hn) ?_
      rintro _ _ (⟨rfl,⟨hb,hw,hlt2⟩,rfl⟩|⟨rfl,hw,rfl⟩)
      · subst hb
        refine oo 5 ?_;refine Zf call152 leA (hB (n:=(m3+1)) (hL.le leA) (by omega) (by omega)) ?_
        rintro _ _ ⟨a2,c2,t2,m4,b4,rfl,rfl,hm4,hM4,ho4⟩
        refine oo 1 ?_;refine st ?_;refine oo 3 ?_;refine ldA ?_;refine stA ?_;refine ox 1 ?_;refine U5 (.mk k (Zr (L.drop n)).1 (Zr (L.drop n)).2 em em (.mk k1 z1 s1 l1 o1 p1 y1 u1 w1) .z t1 t2 a1 c1 a2 c2 0 0 0 false) Kn.st ?_;refine Zq (rdH p la lc L m4 b4::stM (.mk k (Zr (L.drop n)).1 (Zr (L.drop n)).2 em em (.mk k1 z1 s1 l1 o1 p1 y1 u1 w1) .z t1 t2 a1 c1 a2 c2 0 0 0 false)::q) func181 (rA_ results181) ⟨_,rfl,(.mk k (Zr (L.drop n)).1 (Zr (L.drop n)).2 em em (.mk k1 z1 s1 l1 o1 p1 y1 u1 w1) .z t1 t2 a1 c1 a2 c2 0 0 0 false),m4,b4,rfl,rfl,⟨by omega,fun _=>by omega⟩,hM4,by rw [Q0,hks,if_pos (by omega),tail_drop];exact ho2.bnd (ho3.bnd (by rw [if_pos ⟨by omega,hw⟩,tail_drop];exact ho4.bnd .ret))⟩
      refine oo 6 ?_;refine ldA ?_;refine stA ?_;refine ox 1 ?_;refine U5 (.mk k (Zr (L.drop n)).1 (Zr (L.drop n)).2 em em (.mk k1 z1 s1 l1 o1 p1 y1 u1 w1) .z t1 [] a1 c1 none 0 0 0 0 false) Kn.st ?_;refine Zq (rdH p la lc L m3 b3::stM (.mk k (Zr (L.drop n)).1 (Zr (L.drop n)).2 em em (.mk k1 z1 s1 l1 o1 p1 y1 u1 w1) .z t1 [] a1 c1 none 0 0 0 0 false)::q) func181 (rA_ results181) ⟨_,rfl,(.mk k (Zr (L.drop n)).1 (Zr (L.drop n)).2 em em (.mk k1 z1 s1 l1 o1 p1 y1 u1 w1) .z t1 [] a1 c1 none 0 0 0 0 false),m3,b3,rfl,rfl,⟨by omega,fun _=>by omega⟩,hM3,by rw [Q0,hks,if_pos (by omega),tail_drop];exact ho2.bnd (ho3.bnd (by cases b3 with|true=>exact .any|false=>rw [if_neg (fun h=>by rw [h.2] at hw;exact absurd hw (by decide))];exact .ret))⟩
    replace h2:=sp h2
    refine oo 8 ?_;refine ldA ?_;refine stA ?_;refine ox 1 ?_;refine U5 (.mk k (Zr (L.drop n)).1 (Zr (L.drop n)).2 em em (.mk k1 z1 s1 l1 o1 p1 y1 u1 w1) .z t1 [] a1 c1 none 0 0 0 0 false) Kn.st ?_;refine Zq (rdH p la lc L m3 b3::stM (.mk k (Zr (L.drop n)).1 (Zr (L.drop n)).2 em em (.mk k1 z1 s1 l1 o1 p1 y1 u1 w1) .z t1 [] a1 c1 none 0 0 0 0 false)::q) func181 (rA_ results181) ⟨_,rfl,(.mk k (Zr (L.drop n)).1 (Zr (L.drop n)).2 em em (.mk k1 z1 s1 l1 o1 p1 y1 u1 w1) .z t1 [] a1 c1 none 0 0 0 0 false),m3,b3,rfl,rfl,⟨by omega,fun _=>by omega⟩,hM3,by rw [Q0,hks,if_pos (by omega),tail_drop];exact ho2.bnd (ho3.bnd (by rw [if_neg (by omega)];exact .ret))⟩
 · obtain ⟨rfl,hks,hlt⟩:=hkp (by omega)
   refine xj 5 ?_;refine ox 8 ?_;refine X.kt 35 ?_;refine xj 5 ?_;refine oo 3 ?_;refine st ?_;refine oo 7 ?_;refine Mw 45 ?_;refine ox 4 ?_;refine Wy 48 ?_;refine xo 8 ?_;refine XO.kt 67 ?_;refine ox 4 ?_;refine X.kt 70 ?_;refine xo 3 ?_;refine Zf call148 leA (Jh (n:=(n+1)) (hL.le leA) hn (by omega)) ?_
   rintro _ _ ⟨nm,m2,b2,rfl,rfl,⟨hm2,_⟩,hM2,ho2⟩
   refine oo 1 ?_;refine st ?_;refine ox 12 ?_;refine kx 75 6 ?_;refine kx 91 7 ?_;refine kx 98 5 ?_;refine kx 98 7 ?_;refine kx 104 5 ?_;refine Wy 104 ?_;refine xo 6 ?_;refine Zf call149 leA (Y1 (w:= [59]) (n:=m2) (hL.le leA) hn hM2) ?_
   rintro _ _ ⟨m3,b3,rfl,rfl,hm3,hM3,ho3⟩
   refine oo 3 ?_;refine ldA ?_;refine stA ?_;refine ox 1 ?_;refine U5 (.mk k (Zr (L.drop n)).1 (Zr (L.drop n)).2 nm em .z .z [] [] none 0 none 0 0 0 0 false) Kn.st ?_;refine Zq (rdH p la lc L m3 b3::stM (.mk k (Zr (L.drop n)).1 (Zr (L.drop n)).2 nm em .z .z [] [] none 0 none 0 0 0 0 false)::q) func181 (rA_ results181) ⟨_,rfl,(.mk k (Zr (L.drop n)).1 (Zr (L.drop n)).2 nm em .z .z [] [] none 0 none 0 0 0 0 false),m3,b3,rfl,rfl,⟨by omega,fun _=>by omega⟩,hM3,Ro (by omega) (by omega) ho2 (by rw [hks,Un,if_neg (by omega),if_neg (by omega),if_neg (by omega),if_neg (by omega)];exact ho3.bnd .ret)⟩
 · refine X.kt 91 ?_;refine xo 4 ?_;refine Zf call149 leA (Y1 (w:= [61]) (n:=m2) (hL.le leA) hn hM2) ?_
   rintro _ _ ⟨m3,b3,rfl,rfl,hm3,hM3,ho3⟩
   refine oo 3 ?_;refine Zf call201 leA (hE 1 (n:=m3) (hL.le leA) (by omega) (by omega) (by omega) (by omega)) ?_
   rintro _ _ ⟨⟨k1,z1,s1,l1,o1,p1,y1,u1,w1⟩,m4,b4,rfl,rfl,hm4,hM4,ho4⟩
   refine oo 1 ?_;refine stA ?_;refine oo 5 ?_;refine Zf call149 leA (Y1 (w:= [59]) (n:=m4) (hL.le leA) hn hM4) ?_
   rintro _ _ ⟨m5,b5,rfl,rfl,hm5,hM5,ho5⟩
   refine oo 3 ?_;refine ldA ?_;refine stA ?_;refine ox 1 ?_;refine U5 (.mk (1:Nat) (Zr (L.drop n)).1 (Zr (L.drop n)).2 nm em (.mk k1 z1 s1 l1 o1 p1 y1 u1 w1) .z [] [] none 0 none 0 0 0 0 false) Kn.st ?_;refine Zq (rdH p la lc L m5 b5::stM (.mk (1:Nat) (Zr (L.drop n)).1 (Zr (L.drop n)).2 nm em (.mk k1 z1 s1 l1 o1 p1 y1 u1 w1) .z [] [] none 0 none 0 0 0 0 false)::q) func181 (rA_ results181) ⟨_,rfl,(.mk (1:Nat) (Zr (L.drop n)).1 (Zr (L.drop n)).2 nm em (.mk k1 z1 s1 l1 o1 p1 y1 u1 w1) .z [] [] none 0 none 0 0 0 0 false),m5,b5,rfl,rfl,⟨by omega,fun _=>by omega⟩,hM5,Ro (by omega) (by omega) ho2 (by rw [hks,Un,if_neg (by decide),if_pos (by decide)];exact ho3.bnd (ho4.bnd (ho5.bnd .ret)))⟩
 · refine kx 91 7 ?_;refine X.kt 98 ?_;refine xo 5 ?_;refine Zf call148 leA (Jh (n:=m2) (hL.le leA) hn hM2) ?_
   rintro _ _ ⟨wt,m3,b3,rfl,rfl,⟨hm3,_⟩,hM3,ho3⟩
   refine oo 1 ?_;refine st ?_;refine oo 5 ?_;refine Zf call149 leA (Y1 (w:= [59]) (n:=m3) (hL.le leA) hn hM3) ?_
   rintro _ _ ⟨m4,b4,rfl,rfl,hm4,hM4,ho4⟩
   refine oo 3 ?_;refine ldA ?_;refine stA ?_;refine ox 1 ?_;refine U5 (.mk (8:Nat) (Zr (L.drop n)).1 (Zr (L.drop n)).2 nm wt .z .z [] [] none 0 none 0 0 0 0 false) Kn.st ?_;refine Zq (rdH p la lc L m4 b4::stM (.mk (8:Nat) (Zr (L.drop n)).1 (Zr (L.drop n)).2 nm wt .z .z [] [] none 0 none 0 0 0 0 false)::q) func181 (rA_ results181) ⟨_,rfl,(.mk (8:Nat) (Zr (L.drop n)).1 (Zr (L.drop n)).2 nm wt .z .z [] [] none 0 none 0 0 0 0 false),m4,b4,rfl,rfl,⟨by omega,fun _=>by omega⟩,hM4,Ro (by omega) (by omega) ho2 (by rw [hks,Un,if_neg (by decide),if_neg (by decide),if_pos (by decide)];exact ho3.bnd (ho4.bnd .ret))⟩
 · refine kx 91 7 ?_;refine kx 98 5 ?_;refine X.kt 98 ?_;refine xo 3 ?_;refine Zf call148 leA (Jh (n:=m2) (hL.le leA) hn hM2) ?_
   rintro _ _ ⟨wt,m3,b3,rfl,rfl,⟨hm3,_⟩,hM3,ho3⟩
   refine oo 1 ?_;refine st ?_;refine oo 5 ?_;refine Zf call149 leA (Y1 (w:= [59]) (n:=m3) (hL.le leA) hn hM3) ?_
   rintro _ _ ⟨m4,b4,rfl,rfl,hm4,hM4,ho4⟩
   refine oo 3 ?_;refine ldA ?_;refine stA ?_;refine ox 1 ?_;refine U5 (.mk (12:Nat) (Zr (L.drop n)).1 (Zr (L.drop n)).2 nm wt .z .z [] [] none 0 none 0 0 0 0 false) Kn.st ?_;refine Zq (rdH p la lc L m4 b4::stM (.mk (12:Nat) (Zr (L.drop n)).1 (Zr (L.drop n)).2 nm wt .z .z [] [] none 0 none 0 0 0 0 false)::q) func181 (rA_ results181) ⟨_,rfl,(.mk (12:Nat) (Zr (L.drop n)).1 (Zr (L.drop n)).2 nm wt .z .z [] [] none 0 none 0 0 0 0 false),m4,b4,rfl,rfl,⟨by omega,fun _=>by omega⟩,hM4,Ro (by omega) (by omega) ho2 (by rw [hks,Un,if_neg (by decide),if_neg (by decide),if_pos (by decide)];exact ho3.bnd (ho4.bnd .ret))⟩
 refine kx 91 7 ?_;refine kx 98 5 ?_;refine kx 98 7 ?_;refine X.kt 104 ?_;refine xo 5 ?_;refine Zf call201 leA (hE 1 (n:=m2) (hL.le leA) (by omega) (by omega) (by omega) (by omega)) ?_
 rintro _ _ ⟨⟨k1,z1,s1,l1,o1,p1,y1,u1,w1⟩,m3,b3,rfl,rfl,hm3,hM3,ho3⟩
 refine oo 1 ?_;refine stA ?_;refine oo 5 ?_;refine Zf call149 leA (Y1 (w:= [59]) (n:=m3) (hL.le leA) hn hM3) ?_
 rintro _ _ ⟨m4,b4,rfl,rfl,hm4,hM4,ho4⟩
 refine oo 3 ?_;refine ldA ?_;refine stA ?_;refine ox 1 ?_;refine U5 (.mk (11:Nat) (Zr (L.drop n)).1 (Zr (L.drop n)).2 nm em (.mk k1 z1 s1 l1 o1 p1 y1 u1 w1) .z [] [] none 0 none 0 0 0 0 false) Kn.st ?_;refine Zq (rdH p la lc L m4 b4::stM (.mk (11:Nat) (Zr (L.drop n)).1 (Zr (L.drop n)).2 nm em (.mk k1 z1 s1 l1 o1 p1 y1 u1 w1) .z [] [] none 0 none 0 0 0 0 false)::q) func181 (rA_ results181) ⟨_,rfl,(.mk (11:Nat) (Zr (L.drop n)).1 (Zr (L.drop n)).2 nm em (.mk k1 z1 s1 l1 o1 p1 y1 u1 w1) .z [] [] none 0 none 0 0 0 0 false),m4,b4,rfl,rfl,⟨by omega,fun _=>by omega⟩,hM4,Ro (by omega) (by omega) ho2 (by rw [hks,Un,if_neg (by decide),if_neg (by decide),if_neg (by decide),if_pos (by decide)];exact ho3.bnd (ho4.bnd .ret))⟩
set_option maxHeartbeats 1000000 in
theorem Ps (hS: ∀ g,g≤f→RdStmt G la lc L g)(hL:Sees q la (L.flatMap tkC))(hn:L.length≤65536)(hnL:n≤L.length)(hfu:10*(L.length - n)+13≤f+1):CallF prog G 152 [.pointer (some ⟨p,0,none⟩)] (rdH p la lc L n bad::q) (Ret fun v q'=> ∃ (a:Option Addr) (c:Nat) (l:List Stm) (n':Nat) (bad':Bool),v= .slice a l.length c∧q'=rdH p la lc L n' bad'::blM a c l::q∧n≤n'∧n'≤L.length∧Out L bad (Hg (f+1) (L.drop n)) (Zj l) n' bad'):=by
 refine CallF.of func152 ntmps152 rfl (fun F cs=> ?_)
 refine xo 7 ?_;refine Zf call149 leA (Y1 (w:= [123]) (hL.le leA) hn hnL) ?_
 rintro _ _ ⟨m1,b1,rfl,rfl,hm1,hM1,ho1⟩
 refine ox 7 ?_
 have hS0:MoreB L b1 (Ue f (L.drop m1)) f [] m1 b1:=MoreB.first _ (fun _=>rfl)
 obtain ⟨S,hSe⟩: ∃ S,S=Ue f (L.drop m1):=⟨_,rfl⟩;rw [←hSe] at hS0
 refine X.at (X.loop (fun (s:(Option Addr×Nat×List Stm)×Nat×Bool×Nat)=>n≤s.2.1∧s.2.1≤L.length∧s.2.2.2≤f∧(s.2.2.1=false→10*(L.length - s.2.1)+12≤s.2.2.2∧s.1.2.2.length+n≤s.2.1)∧MoreB L b1 S s.2.2.2 (Zj s.1.2.2) s.2.1 s.2.2.1) (fun s=> [(0,.pointer (some ⟨p,0,none⟩)),(3,.slice s.1.1 s.1.2.2.length s.1.2.1),(2,.slice none 0 0)]) (fun s=>rdH p la lc L s.2.1 s.2.2.1::rsH stC 25 126 s.1.1 s.1.2.1 (s.1.2.2)::stsM s.1.2.2::(q++F)) (fun s=>2*(L.length - s.2.1)+(if s.2.2.1=true then 0 else 1)) (fun s hi_ ih=> ?_) ((none,0, []),m1,b1,f) ⟨hm1,hM1,Nat.le_refl _,fun _=>⟨by dsimp only;omega,by simpa using hm1⟩,hS0⟩) Zd (Le.trans leA (Le.trans (Zl stC 25 126 _) (Le.trans Ki leA)))
 try dsimp only at hi_ ih⊢
 obtain ⟨hi1,hi2,hi3,hi4,hi5⟩:=hi_
 obtain ⟨⟨a0,c0,l⟩,m,b,g⟩:=s;dsimp only at*;clear hS0
 refine xj 6 ?_;refine Zt (Pu.not rfl) ?_;refine oo 1 ?_;refine Zm [11,0,3,2] ?_
 apply Zp 4 15 11 rfl
 · intro g1 M1;have h1:=sp g1
   refine oo 1 ?_;refine XO.cR call147 (Ge (n:=m) (bad:=b) (s:=ba [125]) Qt (hL.le leA) hn) ?_
   refine Zt (Pu.not rfl) ?_;refine oo 1 ?_;exact Zz M1 ⟨Wz g1,Zw⟩
 · intro g1 M1;have h1:=sp g1
   refine oo 4 ?_;exact Zz M1 ⟨Wj g1,Zw⟩
 refine ox 1 ?_;refine X.part 15 rfl (fun h1=> ?_) (fun h1=> ?_)
 · replace h1:=sp h1
   refine xo 6 ?_;obtain ⟨rfl,h2⟩:=h1;replace h2:isW [125] (L.drop m)=false:=h2.resolve_left (by decide)
   obtain ⟨hf1,hf2⟩:=hi4 rfl;obtain ⟨g,rfl⟩: ∃ g2,g=g2+1:=⟨g - 1,by omega⟩
   refine Zf call181 leA (hS g (by omega) (n:=m) (bad:=false) (hL.le leA) hi2 (by omega)) ?_
   rintro _ _ ⟨s2,m2,b2,rfl,rfl,⟨hm2,hd2⟩,hM2,ho2⟩
   refine XO.ef (Yj (u:=s2) stC underlying53 V0 rfl rfl Z9 rfl) ?_
   rintro _ _ ⟨g2,rfl,rfl⟩
   refine XO.ef (Yq (f:=stC) (l:=l) (m:= [s2]) underlying53 V0 rfl rfl Z9 rfl rfl Zk ((Sees.rsH _).le Zk) Hl (by simp;omega) (by simp;omega)) ?_
   rintro _ _ ⟨a3,c3,rfl,rfl⟩
   refine ox 3 ?_;refine X.sts (l:=l) (s:=s2) Zk Zk ?_
   refine X.at (ih ((a3,c3,l++ [s2]),m2,b2,g) ⟨by dsimp only;omega,hM2,by dsimp only;omega,fun hb=>⟨by have:=hd2 hb;dsimp only;omega,by have:=hd2 hb;simp;omega⟩,by rw [T2];exact hi5.go h2 ho2⟩ (by dsimp only;cases b2 with|true=>simp;omega|false=>have:=hd2 rfl;simp;omega)) Zd leA
 replace h1:=sp h1
 refine xo 5 ?_;refine Zf call149 leA (Y1 (w:= [125]) (n:=m) (hL.le leA) hn hi2) ?_
 rintro _ _ ⟨m4,b4,rfl,rfl,hm4,hM4,ho4⟩
 refine ox 6 ?_;refine X.fzB (m:=l) ?_
 refine Zq (rdH p la lc L m4 b4::blM a0 c0 l::q) func152 (Zg results152 rfl) ⟨_,rfl,a0,c0,l,m4,b4,rfl,rfl,by omega,hM4,by rw [Hg];refine ho1.bnd ?_;rw [←hSe];exact (hi5.over (fun hb=>by have:=hi4 hb;omega) (by revert h1;cases b<;>simp;exact id)).bnd (ho4.bnd .ret)⟩
theorem It {G:World}{la:Option Addr}{lc:Nat}{L:List Tk}(hn:L.length≤65536): ∀ f,RdStmt G la lc L f∧Iz G la lc L f:=by
 intro f
 induction f using Nat.strongRecOn with
 |ind f ih=>
  cases f with
  |zero=>exact ⟨fun hL hnL hfu=>by omega,fun hL hnL hfu=>by omega⟩
  |succ f=>exact ⟨fun hL hnL hfu=>Ii (I4 hn f).1 (ih f (Nat.lt_succ_self _)).2 hL hn hnL hfu,fun hL hnL hfu=>Ps (fun g hg=>(ih g (by omega)).1) hL hn hnL hfu⟩
end
section
variable {G:World}{q pre:List HP}{a la A:Option Addr}{c lc p n:Nat}{bad:Bool}{s:ByteArray}{L:List Tk}{r:Int}
variable {f:Nat}{e:Ex}{l:List Stm}
theorem Dg {q:List HP}{k ln cl n:Int}{nm:ByteArray}{body:List Stm}{ba:Option Addr}{bc:Nat}(h:Kn q fun M=>BlkAt M ba bc body:=by first|exact La|exact knA):Kn q fun M=>(Dec.mk k ln cl nm n body ba bc).At M:=h
theorem Mt {P:Program}{G:World}{fr:Fc}{Q:Yr}{todo:List Item}{p:PE}{ds:List Deferred}{cs:List Frame}{q:List HP}(s:Dec)(h:Kn q fun M=>s.At M)(K:X P G fr Q todo p ds cs (dcM s::q)):X P G fr Q todo p ds cs q:= .le (Kn.add h) K
theorem decl_ne: ∀ j,j<6→declL.getD (j+1) []≠ []:=by decide
set_option maxHeartbeats 4000000 in
theorem decl_ok (hL:Sees q la (L.flatMap tkC))(hn:L.length≤65536)(hnL:n≤L.length)(hT: ∀ t∈L,0≤t.n∧t.n≤2147483647)(hfu:10*(L.length - n)+13≤f+10):CallF prog G 114 [.pointer (some ⟨p,0,none⟩)] (rdH p la lc L n bad::q) (Ret fun v q'=> ∃ (d:Dec) (n':Nat) (bad':Bool),v= .agg (dcC d).toArray∧q'=rdH p la lc L n' bad'::dcM d::q∧(n≤n'∧(bad'=false→n<n'))∧n'≤L.length∧Out L bad (K5 f (L.drop n)) d.er n' bad'):=by
 refine CallF.of func114 ntmps114 rfl (fun F cs=> ?_)
 obtain ⟨K,hK⟩: ∃ K:Nat→Nat,K=fun j=>if bad=true then 0 else Q5 declL (L.drop n) j:=⟨_,rfl⟩
 refine xo 2 ?_;refine XO.al zeroValue229 fun n1=> ?_
 refine oo 4 ?_;refine Zf call146 leA (pos_ok (hL.le leA) hn) ?_;rintro _ _ ⟨rfl,rfl⟩
 refine oo 1 ?_;refine XO.al zeroValue229 fun n2=> ?_
 refine stA ?_;refine oo 3 ?_;refine XO.ef (Y0 (fun w:Bs=>Value.string (ba w)) declL underlying25 Wn rfl rfl rfl rfl rfl rfl (fun _=>rfl)) ?_
 rintro _ _ ⟨gk,rfl,rfl⟩
 refine ox 8 ?_
 have hK0:K 0=0:=by rw [hK];cases bad<;>rfl
 refine X.at (X.loop (fun (s:Nat)=>s≤6) (fun s=> [(0,.pointer (some ⟨p,0,none⟩)),(2,.pointer (some ⟨n1,0,none⟩)),(3,.pointer (some ⟨n2,0,none⟩)),(4,.slice (some ⟨gk,0,none⟩) 7 7),(5,.int .i64 ((s+1:Nat):Int))]) (fun s=>rdH p la lc L n bad::pto n2 (.cells (dcC (.mk (K s) (Zr (L.drop n)).1 (Zr (L.drop n)).2 em 0 [] none 0)).toArray 229 (0,0))::pto n1 (.cells [.int .i64 0,.int .i64 0,.int .i64 0,.string ⟨#[]⟩,.int .i64 0,.slice none 0 0].toArray 229 (0,0))::lsH (fun w:Bs=>Value.string (ba w)) 9 (some ⟨gk,0,none⟩) 7 declL::(q++F)) (fun s=>6 - s) (fun s hi_ ih=> ?_) 0 (by omega)) Zd (by rw [hK0];exact leA)
 try dsimp only at hi_ ih⊢
 obtain hs:=hi_
 refine xx 8 ?_;refine X.part 14 rfl (fun h0=> ?_) (fun h0=> ?_)
 · replace h0:=sp h0;have hs2:s+1<declL.length:=by show s+1<7;omega
   refine xo 10 ?_;refine ld ?_ (hc:=(Cl.e1 (n:=s+1) (Sees.lsH _) Zk hs2 rfl))
   refine XO.cR call147 (Ge (n:=n) (bad:=bad) (s:=ba declL[s+1]) Qt (hL.le leA) hn) ?_
   refine ox 1 ?_;refine X.part 22 rfl (fun h1=> ?_) (fun h1=> ?_)
   · replace h1:=sp h1
     refine xo 4 ?_;refine st ?_;refine ox 7 ?_
     have hKs:K (s+1)=s+1:=by rw [hK];dsimp only;rw [Ud,←gD (d:= []) hs2] at h1;rw [if_neg (by rw [h1.1];decide),Q5,if_pos ⟨decl_ne s (by omega),h1.2⟩]
     refine X.at (ih (s+1) (by omega) (by omega)) Zd (by rw [hKs];exact leA)
   replace h1:=sp h1
   refine xx 8 ?_
   have hKs:K (s+1)=K s:=by rw [hK];dsimp only;rw [Ud,←gD (d:= []) hs2] at h1;cases bad with|true=>rfl|false=>rw [if_neg (by decide),if_neg (by decide),Q5,if_neg (fun k=>by simp_all)]
   refine X.at (ih (s+1) (by omega) (by omega)) Zd (by rw [hKs];exact leA)
 replace h0:=sp h0;obtain rfl:s=6:=by omega
 obtain ⟨k,hk⟩: ∃ k,K 6=k:=⟨_,rfl⟩;rw [hk];rw [hK] at hk;dsimp only at hk;clear ih hK hK0 hi_ h0
 have hk15:k≤6:=by rw [←hk];cases bad;exact Np;exact Nat.zero_le _
 have hkp:k≠0→bad=false∧dkS (L.drop n)=k∧n<L.length:=fun h=>by cases bad with|true=>exact absurd hk.symm h|false=>exact ⟨rfl,hk,Bh (by rw [show Q5 declL (L.drop n) 6=k from hk];exact h)⟩
 have hcl:k=0∨k=1∨k=6∨k=2∨k=5∨(k=3∨k=4):=by omega
 rcases hcl with rfl|rfl|rfl|rfl|rfl|hcl
 · refine xj 6 ?_;refine ox 2 ?_;refine X.kt 27 ?_;refine xo 6 ?_;refine st ?_;refine oo 3 ?_;refine ldA ?_;refine stA ?_;refine ox 1 ?_;refine Mt (.mk ((0:Nat):Int) (Zr (L.drop n)).1 (Zr (L.drop n)).2 em 0 [] none 0) Dg ?_;refine Zq (rdH p la lc L n true::dcM (.mk ((0:Nat):Int) (Zr (L.drop n)).1 (Zr (L.drop n)).2 em 0 [] none 0)::q) func114 (rA_ results114) ⟨_,rfl,(.mk ((0:Nat):Int) (Zr (L.drop n)).1 (Zr (L.drop n)).2 em 0 [] none 0),n,true,rfl,rfl,⟨Nat.le_refl _,fun h=>by cases h⟩,hnL,.inr ⟨rfl,by cases bad with|true=>exact .inl rfl|false=>exact .inr (by rw [K5,if_pos (show dkS (L.drop n)=0 from hk)])⟩⟩
 iterate 5
  focus
   obtain ⟨rfl,hks,hlt⟩:=hkp (by omega)
   refine xj 6 ?_;refine ox 2 ?_;refine Wy 27 ?_;refine xj 7 ?_;refine oo 3 ?_;refine st ?_;refine oo 4 ?_;refine Zf call148 leA (Jh (n:=(n+1)) (hL.le leA) hn (by omega)) ?_
   rintro _ _ ⟨nm,m2,b2,rfl,rfl,⟨hm2,_⟩,hM2,ho2⟩
   refine oo 1 ?_;refine st ?_;refine ol 5 ?_;refine ox 7 ?_
  rotate_left
 · refine X.kt 44 ?_;refine xo 4 ?_;refine Zf call149 leA (Y1 (w:= [61]) (n:=m2) (hL.le leA) hn hM2) ?_
   rintro _ _ ⟨m3,b3,rfl,rfl,hm3,hM3,ho3⟩
   refine oo 4 ?_;refine Zf call150 leA (Uv (w:= [45]) (n:=m3) (hL.le leA) hn) ?_
   rintro _ _ (⟨rfl,⟨hb,hw,hlt2⟩,rfl⟩|⟨rfl,hw,rfl⟩)
   · subst hb
     refine oo 5 ?_;refine Zf call151 leA (J4 (n:=(m3+1)) (hL.le leA) hn (by omega)) ?_
     rintro _ _ ⟨z,m4,b4,rfl,rfl,⟨hm4,hz⟩,hM4,ho4⟩
     have hzb:0≤z∧z≤2147483647:=by rcases hz with rfl|⟨t,ht,rfl⟩;omega;exact hT t ht
     refine oo 1 ?_;refine st ?_;refine ol 8 ?_;refine oo 2 ?_;refine st ?_;refine oo 5 ?_;refine Zf call149 leA (Y1 (w:= [59]) (n:=m4) (hL.le leA) hn hM4) ?_
     rintro _ _ ⟨m5,b5,rfl,rfl,hm5,hM5,ho5⟩
     refine oo 3 ?_;refine ldA ?_;refine stA ?_;refine ox 1 ?_
     try rw [show IntKind.i64.wrap (0 - z)= -z from by rw [Uk (by omega) (by omega)];omega]
     refine Mt (.mk (1:Nat) (Zr (L.drop n)).1 (Zr (L.drop n)).2 nm (-z) [] none 0) Dg ?_;refine Zq (rdH p la lc L m5 b5::dcM (.mk (1:Nat) (Zr (L.drop n)).1 (Zr (L.drop n)).2 nm (-z) [] none 0)::q) func114 (rA_ results114) ⟨_,rfl,(.mk (1:Nat) (Zr (L.drop n)).1 (Zr (L.drop n)).2 nm (-z) [] none 0),m5,b5,rfl,rfl,⟨by omega,fun _=>by omega⟩,hM5,by rw [K5,hks,if_neg (by omega),tail_drop];refine ho2.bnd ?_;rw [if_neg (by decide)];exact (show Out L b2 (Dl 1 (L.drop m2)) (-z) m4 b4 from ho3.bnd (by rw [if_pos hw,tail_drop];exact ho4.bnd .ret)).bnd (ho5.bnd .ret)⟩
   refine oo 5 ?_;refine Zf call151 leA (J4 (n:=m3) (hL.le leA) hn hM3) ?_
   rintro _ _ ⟨z,m4,b4,rfl,rfl,⟨hm4,hz⟩,hM4,ho4⟩
   have hzb:0≤z∧z≤2147483647:=by rcases hz with rfl|⟨t,ht,rfl⟩;omega;exact hT t ht
   refine oo 1 ?_;refine st ?_;refine oo 11 ?_;refine Zf call149 leA (Y1 (w:= [59]) (n:=m4) (hL.le leA) hn hM4) ?_
   rintro _ _ ⟨m5,b5,rfl,rfl,hm5,hM5,ho5⟩
   refine oo 3 ?_;refine ldA ?_;refine stA ?_;refine ox 1 ?_;refine Mt (.mk (1:Nat) (Zr (L.drop n)).1 (Zr (L.drop n)).2 nm z [] none 0) Dg ?_;refine Zq (rdH p la lc L m5 b5::dcM (.mk (1:Nat) (Zr (L.drop n)).1 (Zr (L.drop n)).2 nm z [] none 0)::q) func114 (rA_ results114) ⟨_,rfl,(.mk (1:Nat) (Zr (L.drop n)).1 (Zr (L.drop n)).2 nm z [] none 0),m5,b5,rfl,rfl,⟨by omega,fun _=>by omega⟩,hM5,by rw [K5,hks,if_neg (by omega),tail_drop];refine ho2.bnd ?_;rw [if_neg (by decide)];exact (show Out L b2 (Dl 1 (L.drop m2)) z m4 b4 from ho3.bnd (by cases b3 with|true=>have h:=ho4.isBad;subst h;exact .any|false=>rw [if_neg (by rw [hw.resolve_left (by decide)];decide)];exact ho4)).bnd (ho5.bnd .ret)⟩
 · refine kx 44 7 ?_;refine kx 58 5 ?_;refine kx 58 6 ?_;refine X.kt 64 ?_;refine xo 4 ?_;refine Zf call152 leA ((It hn f).2 (n:=m2) (hL.le leA) (by omega) (by omega)) ?_
   rintro _ _ ⟨a1,c1,t1,m3,b3,rfl,rfl,hm3,hM3,ho3⟩
   refine oo 1 ?_;refine st ?_;refine oo 3 ?_;refine ldA ?_;refine stA ?_;refine ox 1 ?_;refine Mt (.mk (6:Nat) (Zr (L.drop n)).1 (Zr (L.drop n)).2 nm 0 t1 a1 c1) Dg ?_;refine Zq (rdH p la lc L m3 b3::dcM (.mk (6:Nat) (Zr (L.drop n)).1 (Zr (L.drop n)).2 nm 0 t1 a1 c1)::q) func114 (rA_ results114) ⟨_,rfl,(.mk (6:Nat) (Zr (L.drop n)).1 (Zr (L.drop n)).2 nm 0 t1 a1 c1),m3,b3,rfl,rfl,⟨by omega,fun _=>by omega⟩,hM3,by rw [K5,hks,if_neg (by omega),tail_drop];refine ho2.bnd ?_;rw [if_pos (by decide)];exact ho3.bnd .ret⟩
 · refine kx 44 7 ?_;refine X.kt 58 ?_;refine xo 5 ?_;refine Zf call151 leA (J4 (n:=m2) (hL.le leA) hn hM2) ?_
   rintro _ _ ⟨z,m3,b3,rfl,rfl,⟨hm3,hz⟩,hM3,ho3⟩
   have hzb:0≤z∧z≤2147483647:=by rcases hz with rfl|⟨t,ht,rfl⟩;omega;exact hT t ht
   refine oo 1 ?_;refine st ?_;refine oo 5 ?_;refine Zf call149 leA (Y1 (w:= [59]) (n:=m3) (hL.le leA) hn hM3) ?_
   rintro _ _ ⟨m4,b4,rfl,rfl,hm4,hM4,ho4⟩
   refine oo 3 ?_;refine ldA ?_;refine stA ?_;refine ox 1 ?_;refine Mt (.mk (2:Nat) (Zr (L.drop n)).1 (Zr (L.drop n)).2 nm z [] none 0) Dg ?_;refine Zq (rdH p la lc L m4 b4::dcM (.mk (2:Nat) (Zr (L.drop n)).1 (Zr (L.drop n)).2 nm z [] none 0)::q) func114 (rA_ results114) ⟨_,rfl,(.mk (2:Nat) (Zr (L.drop n)).1 (Zr (L.drop n)).2 nm z [] none 0),m4,b4,rfl,rfl,⟨by omega,fun _=>by omega⟩,hM4,by rw [K5,hks,if_neg (by omega),tail_drop];refine ho2.bnd ?_;rw [if_neg (by omega)];exact (show Out L b2 (Dl _ (L.drop m2)) z m3 b3 from by rw [Dl,if_neg (by omega),if_pos (by omega)];exact ho3).bnd (ho4.bnd .ret)⟩
 · refine kx 44 7 ?_;refine kx 58 5 ?_;refine X.kt 58 ?_;refine xo 3 ?_;refine Zf call151 leA (J4 (n:=m2) (hL.le leA) hn hM2) ?_
   rintro _ _ ⟨z,m3,b3,rfl,rfl,⟨hm3,hz⟩,hM3,ho3⟩
   have hzb:0≤z∧z≤2147483647:=by rcases hz with rfl|⟨t,ht,rfl⟩;omega;exact hT t ht
   refine oo 1 ?_;refine st ?_;refine oo 5 ?_;refine Zf call149 leA (Y1 (w:= [59]) (n:=m3) (hL.le leA) hn hM3) ?_
   rintro _ _ ⟨m4,b4,rfl,rfl,hm4,hM4,ho4⟩
   refine oo 3 ?_;refine ldA ?_;refine stA ?_;refine ox 1 ?_;refine Mt (.mk (5:Nat) (Zr (L.drop n)).1 (Zr (L.drop n)).2 nm z [] none 0) Dg ?_;refine Zq (rdH p la lc L m4 b4::dcM (.mk (5:Nat) (Zr (L.drop n)).1 (Zr (L.drop n)).2 nm z [] none 0)::q) func114 (rA_ results114) ⟨_,rfl,(.mk (5:Nat) (Zr (L.drop n)).1 (Zr (L.drop n)).2 nm z [] none 0),m4,b4,rfl,rfl,⟨by omega,fun _=>by omega⟩,hM4,by rw [K5,hks,if_neg (by omega),tail_drop];refine ho2.bnd ?_;rw [if_neg (by omega)];exact (show Out L b2 (Dl _ (L.drop m2)) z m3 b3 from by rw [Dl,if_neg (by omega),if_pos (by omega)];exact ho3).bnd (ho4.bnd .ret)⟩
 refine kx 44 7 ?_;refine kx 58 5 ?_;refine kx 58 6 ?_;refine Wy 64 ?_;refine xo 6 ?_;refine Zf call149 leA (Y1 (w:= [59]) (n:=m2) (hL.le leA) hn hM2) ?_
 rintro _ _ ⟨m3,b3,rfl,rfl,hm3,hM3,ho3⟩
 refine oo 3 ?_;refine ldA ?_;refine stA ?_;refine ox 1 ?_;refine Mt (.mk k (Zr (L.drop n)).1 (Zr (L.drop n)).2 nm 0 [] none 0) Dg ?_;refine Zq (rdH p la lc L m3 b3::dcM (.mk k (Zr (L.drop n)).1 (Zr (L.drop n)).2 nm 0 [] none 0)::q) func114 (rA_ results114) ⟨_,rfl,(.mk k (Zr (L.drop n)).1 (Zr (L.drop n)).2 nm 0 [] none 0),m3,b3,rfl,rfl,⟨by omega,fun _=>by omega⟩,hM3,by rw [K5,hks,if_neg (by omega),tail_drop];refine ho2.bnd ?_;rw [if_neg (by omega)];exact (show Out L b2 (Dl k (L.drop m2)) 0 m2 b2 from by rw [Dl,if_neg (by omega),if_neg (by omega)];exact .ret).bnd (ho3.bnd .ret)⟩
end
theorem Fa (a b:List PEx):Yh (a++b)=max (Yh a) (Yh b):=by
 induction a with
 |nil=>simp [Yh]
 |cons x r ih=>simp only [List.cons_append,Yh,ih];omega
theorem N6 {x:PEx}: ∀ {l:List PEx},x∈l→x.dep≤Yh l
 |y::r,h=>by
  rcases List.mem_cons.1 h with rfl|h
  · simp only [Yh];omega
  have:=N6 h;simp only [Yh];omega
theorem Dp (l m:List Ex):Z3 (l++m)=Z3 l++Z3 m:=by simp [Yg]
section
variable {q:List HP}{e ix:Ex}{args:List Ex}{body els:List Stm}{k n ln cl:Int}{nm wt:ByteArray}{aa ba:Option Addr}{ac bc:Nat}{ea:Option Addr}{ec:Nat}{id slot other op:Int}{loc:Bool}
theorem Ld (h:Kn q fun M=>(Ex.mk k n nm slot loc op args aa ac).At M):Sees q aa (args.flatMap exC):=Kn.sees (h.imp fun M h=>h.1.2.2)
theorem Lu (h:Kn q fun M=>(Ex.mk k n nm slot loc op args aa ac).At M){i:Nat}(hi:i<args.length):Kn q fun M=>args[i].At M:=h.imp fun M h=>Y4.1 h.2 _ (List.getElem_mem hi)
theorem Kn.exL {G w:World}(h:Kn q fun M=>(Ex.mk k n nm slot loc op args aa ac).At M)(s:St G w q):args.length≤9223372036854775807:=h.fact (fun M h=>by have h1:=h.1.1;have h2:=h.1.2.1;simp [maxLen] at h2;omega) s
theorem Ln (h:Kn q fun M=>(Stm.mk k ln cl nm wt e ix body els ba bc ea ec id slot other loc).At M):Kn q fun M=>e.At M:=h.imp fun _ h=>h.1
theorem Lh (h:Kn q fun M=>(Stm.mk k ln cl nm wt e ix body els ba bc ea ec id slot other loc).At M):Kn q fun M=>ix.At M:=h.imp fun _ h=>h.2.1
theorem Lp (h:Kn q fun M=>(Stm.mk k ln cl nm wt e ix body els ba bc ea ec id slot other loc).At M):Kn q fun M=>BlkAt M ba bc body:=h.imp fun _ h=>h.2.2.1
theorem Lm (h:Kn q fun M=>(Stm.mk k ln cl nm wt e ix body els ba bc ea ec id slot other loc).At M):Kn q fun M=>BlkAt M ea ec els:=h.imp fun _ h=>h.2.2.2
theorem Ll (h:Kn q fun M=>BlkAt M ba bc body):Sees q ba (body.flatMap stC):=Kn.sees (h.imp fun M h=>h.1.2.2)
theorem Lr (h:Kn q fun M=>BlkAt M ba bc body){i:Nat}(hi:i<body.length):Kn q fun M=>body[i].At M:=h.imp fun M h=>Vb.1 h.2 _ (List.getElem_mem hi)
theorem Lt {G w:World}(h:Kn q fun M=>BlkAt M ba bc body)(s:St G w q):body.length≤9223372036854775807:=h.fact (fun M h=>by have h1:=h.1.1;have h2:=h.1.2.1;simp [maxLen] at h2;omega) s
end
section
variable {G:World}{q:List HP}{e:Ex}{l:List Stm}{a:Option Addr}{c n:Nat}
set_option maxHeartbeats 400000 in
theorem Pc (IH: ∀ x:Ex,x.sz<e.sz→x.er.dep≤1000000→ ∀ {q:List HP},(Kn q fun M=>x.At M)→CallF prog G 154 [.agg (exC x).toArray] q (Ret fun v q'=>v= .int .i64 (x.er.dep:Nat)∧q'=q))(hb:e.er.dep≤1000000)(h:Kn q fun M=>e.At M):CallF prog G 154 [.agg (exC e).toArray] (q) (Ret fun v q'=>v= .int .i64 (e.er.dep:Nat)∧q'=q):=by
 refine CallF.of func154 ntmps154 rfl (fun F cs=> ?_)
 obtain ⟨k,z,nm,sl,lo,op,args,aa,ac⟩:=e
 have hA:=Ld h;have hlen:=Zv (f:=exC) (sz:=7) Z4 args
 refine X.fact (fun w s=>Kn.exL (h.le leA) s) (fun hal=> ?_)
 replace hb:Yh (Z3 args)+1≤1000000:=hb
 refine xo 2 ?_;refine Y8 fun n1=> ?_
 refine ox 12 ?_;refine X.at (X.loop (fun (s:Nat)=>s≤args.length) (fun s=> [(3,.int .i64 (Yh (Z3 (args.take s)):Nat)),(4,.int .i64 (s:Int)),(1,.pointer (some ⟨n1,0,none⟩)),(2,.int .i64 0)]) (fun s=>pto n1 (.cells (exC (.mk k z nm sl lo op args aa ac)).toArray 124 (0,0))::(q++F)) (fun s=>args.length - s) (fun s hi_ ih=> ?_) 0 (Nat.zero_le _)) Zd leA
 try dsimp only at hi_ ih⊢
 obtain hs:=hi_
 refine xj 5 ?_;refine ox 3 ?_;refine X.part 9 rfl (fun h0=> ?_) (fun h0=> ?_)
 · replace h0:=sp h0;have hlt:s<args.length:=by omega
   refine xj 7 ?_;refine oo 1 ?_;refine Kh hA (by rw [hlen];omega) (fun b1 o1 e1=> ?_);subst e1
   refine oo 1 ?_;refine Q8 (n:=s) isAgg124 sizeOf124 hA hlt ?_ (hf:=Z4)
   refine XO.cR call154 (IH args[s] (by have:=Vk (List.getElem_mem hlt);simp only [Ex.sz];omega) (by have:=N6 (List.mem_map_of_mem (f:=Ex.er) (List.getElem_mem hlt));rw [←Yg] at this;omega) (Lu (h.le leA) hlt)) ?_
   refine ox 9 ?_
   have hd:(Yh (Z3 (args.take (s+1))):Int)=max (Yh (Z3 (args.take s)):Int) (args[s].er.dep:Int):=by rw [List.take_succ_eq_append_getElem hlt,Dp,Fa];simp only [Z3,Yh];omega
   refine X.at (ih (s+1) (by omega) (by omega)) Zd leA
 replace h0:=sp h0;obtain rfl:s=args.length:=by omega
 rw [List.take_length] at*
 refine xx 8 ?_;refine Zq (q) func154 (Zg results154 rfl) ⟨_,rfl,by simp only [Ex.er,PEx.dep];congr 1,rfl⟩
theorem Bo: ∀ (k:Nat) (e:Ex),e.sz≤k→e.er.dep≤1000000→ ∀ {q:List HP},(Kn q fun M=>e.At M)→CallF prog G 154 [.agg (exC e).toArray] q (Ret fun v q'=>v= .int .i64 (e.er.dep:Nat)∧q'=q)
 |0,e,hk,_,_,_=>by cases e;simp [Ex.sz] at hk
 |k+1,e,hk,hb,_,h=>Pc (fun x hx hbx _ hq=>Bo k x (by omega) hbx hq) hb h
mutual
def PStm.bdd (B:Nat):PStm→Prop
 | .mk _ _ _ _ _ e ix body els _ _ _ _=>e.dep≤B∧ix.dep≤B∧Wm B body∧Wm B els
def Wm (B:Nat):List PStm→Prop
 | []=>True
 |s::r=>s.bdd B∧Wm B r
end
theorem Mb {B:Nat}{x:PStm}: ∀ {l:List PStm},Wm B l→x∈l→x.bdd B
 |y::r,⟨h1,h2⟩,h=>by
  rcases List.mem_cons.1 h with rfl|h
  · exact h1
  exact Mb h2 h
set_option maxHeartbeats 4000000 in
theorem Xz (IH: ∀ (m:List Stm) (a:Option Addr) (c n:Nat),Zh m<Zh l→Wm 1000000 (Zj m)→n≤25→ ∀ {q:List HP},(Kn q fun M=>BlkAt M a c m)→CallF prog G 116 [.slice a m.length c,.int .i64 (n:Int)] q (Ret fun v q'=> ∃ pl pc:Int,v= .tuple [.agg [.int .i64 pl,.int .i64 pc].toArray,.bool (Yf (Zj m) n)].toArray∧q'=q))(hb:Wm 1000000 (Zj l))(hn25:n≤25)(h:Kn q fun M=>BlkAt M a c l):CallF prog G 116 [.slice a l.length c,.int .i64 (n:Int)] (q) (Ret fun v q'=> ∃ pl pc:Int,v= .tuple [.agg [.int .i64 pl,.int .i64 pc].toArray,.bool (Yf (Zj l) n)].toArray∧q'=q):=by
 refine CallF.of func116 ntmps116 rfl (fun F cs=> ?_)
 have hA:=Ll h;have hlen:=Zv (f:=stC) (sz:=25) Z9 l
 refine X.fact (fun w s=>Lt (h.le leA) s) (fun hal=> ?_)
 refine xo 2 ?_;refine XO.al zeroValue107 fun n1=> ?_
 refine ox 8 ?_;refine X.at (X.loop (fun (s:Nat×Option Addr)=>s.1≤l.length∧s.2=a∧Yf (Zj l) n=Yf (Zj (l.drop s.1)) n) (fun s=> [(6,.int .i64 (s.1:Int)),(0,.slice s.2 l.length c),(1,.int .i64 (n:Int)),(4,.pointer (some ⟨n1,0,none⟩)),(5,.bool false)]) (fun s=>pto n1 (.cells [.int .i64 0,.int .i64 0].toArray 107 (0,0))::(q++F)) (fun s=>l.length - s.1) (fun s hi_ ih=> ?_) (0,a) ⟨Nat.zero_le _,rfl,rfl⟩) Zd leA
 try dsimp only at hi_ ih⊢
 obtain ⟨hs,ha,hD⟩:=hi_
 obtain ⟨s,a2⟩:=s;dsimp only at*;subst ha
 refine xx 8 ?_;refine X.part 13 rfl (fun h0=> ?_) (fun h0=> ?_)
 · replace h0:=sp h0;have hlt:s<l.length:=by omega
   have hDs:Yf (Zj (l.drop s)) n=(l[s].er.deep n||Yf (Zj (l.drop (s+1))) n):=by rw [List.drop_eq_getElem_cons hlt];rfl
   have hx1:=Lr h hlt;have hx2:=Mb hb (by rw [Yn];exact List.mem_map_of_mem (List.getElem_mem hlt));have hx3:=Uz (List.getElem_mem hlt)
   refine xo 8 ?_;refine Kh hA (by rw [hlen];omega) (fun b1 o1 e1=> ?_);subst e1
   refine oo 1 ?_;refine Q8 (n:=s) isAgg126 sizeOf126 hA hlt ?_ (hf:=Z9)
   obtain ⟨x,hx⟩: ∃ x,l[s]=x:=⟨_,rfl⟩;rw [hx] at hDs hx1 hx2 hx3
   refine XO.know 19 (.agg (stC x).toArray) rfl (by rw [hx]) ?_
   obtain ⟨k,ln,cl,nm,wt,⟨k1,z1,s1,l1,o1,p1,y1,u1,w1⟩,⟨k2,z2,s2,l2,o2,p2,y2,u2,w2⟩,body,els,ba,bc,ea,ec,id,slot,other,loc⟩:=x
   obtain ⟨hd1,hd2,hd3,hd4⟩:=hx2;have hk1:=Ln hx1;have hk2:=Lh hx1;have hk3:=Lp hx1;have hk4:=Lm hx1;have hz:Zh body+Zh els+1≤Zh l:=hx3
   refine XO.al zeroValue126 fun n2=> ?_
   refine stA ?_;refine oo 7 ?_;refine Zm [22,7,6,0,1,4,5] ?_
   apply Zb 5 27 22 rfl
   · intro g1 M1;have h1:=sp g1
     refine oo 1 ?_;refine ldA ?_;refine XO.cR call154 (Bo _ (.mk k1 z1 s1 l1 o1 p1 y1 u1 w1) (Nat.le_refl _) hd1 (hk1.le leA)) ?_;refine oo 2 ?_;exact Zz M1 ⟨orF g1,Zw⟩
   · intro g1 M1;have h1:=sp g1
     refine oo 5 ?_;exact Zz M1 ⟨orT g1,Zw⟩
   refine oo 1 ?_;refine Zm [28,7,6,0,1,4,5] ?_
   apply Zb 5 33 28 rfl
   · intro g1 M1;have h1:=sp g1
     refine oo 1 ?_;refine ldA ?_;refine XO.cR call154 (Bo _ (.mk k2 z2 s2 l2 o2 p2 y2 u2 w2) (Nat.le_refl _) hd2 (hk2.le leA)) ?_;refine oo 2 ?_;exact Zz M1 ⟨orF g1,Zw⟩
   · intro g1 M1;have h1:=sp g1
     refine oo 5 ?_;exact Zz M1 ⟨orT g1,Zw⟩
   refine ox 1 ?_;refine X.part 33 rfl (fun h1=> ?_) (fun h1=> ?_)
   · replace h1:=sp h1
     refine xo 4 ?_;refine ldA ?_;refine stA ?_;refine ox 2 ?_
     have hT:Yf (Zj l) n=true:=by
      rw [hD,hDs]
      have h1':(24<n∨24<(Ex.mk k1 z1 s1 l1 o1 p1 y1 u1 w1).er.dep)∨24<(Ex.mk k2 z2 s2 l2 o2 p2 y2 u2 w2).er.dep:=by omega
      rcases h1' with (h|h)|h<;>simp [Stm.er,PStm.deep,h]
     refine Zq (q) func116 (H9 results116) ⟨_,rfl,ln,cl,by rw [hT];rfl,rfl⟩
   replace h1:=sp h1
   refine xj 5 ?_;refine oo 2 ?_
   have hn1:n+1≤25:=by omega
   refine Zf call116 (Le.refl _) (IH body ba bc (n+1) (by omega) hd3 hn1 (hk3.le leA)) ?_
   rintro _ _ ⟨pl3,pc3,rfl,rfl⟩
   refine oo 3 ?_;refine XO.al zeroValue107 fun n3=> ?_
   refine stA ?_;refine ox 7 ?_;refine X.part 44 rfl (fun h2=> ?_) (fun h2=> ?_)
   · replace h2:=sp h2
     refine xo 3 ?_;refine ldA ?_;refine stA ?_;refine ox 2 ?_
     have hT:Yf (Zj l) n=true:=by
      rw [hD,hDs]
      simp [Stm.er,PStm.deep,h2]
     refine Zq (q) func116 (H9 results116) ⟨_,rfl,pl3,pc3,by rw [hT];rfl,rfl⟩
   replace h2:=sp h2
   refine xj 5 ?_;refine oo 2 ?_;refine Zf call116 (Le.refl _) (IH els ea ec (n+1) (by omega) hd4 hn1 (hk4.le leA)) ?_
   rintro _ _ ⟨pl4,pc4,rfl,rfl⟩
   refine oo 3 ?_;refine stA ?_;refine ox 6 ?_;refine X.part 54 rfl (fun h3=> ?_) (fun h3=> ?_)
   · replace h3:=sp h3
     refine xo 3 ?_;refine ldA ?_;refine stA ?_;refine ox 2 ?_
     have hT:Yf (Zj l) n=true:=by
      rw [hD,hDs]
      simp [Stm.er,PStm.deep,h3]
     refine Zq (q) func116 (H9 results116) ⟨_,rfl,pl4,pc4,by rw [hT];rfl,rfl⟩
   replace h3:=sp h3
   refine xx 8 ?_
   have h1': ¬24<n∧ ¬24<(Ex.mk k1 z1 s1 l1 o1 p1 y1 u1 w1).er.dep∧ ¬24<(Ex.mk k2 z2 s2 l2 o2 p2 y2 u2 w2).er.dep:=by omega
   refine X.at (ih (s+1,_) ⟨by dsimp only;omega,rfl,by rw [hD,hDs];simp [Stm.er,PStm.deep,h1'.1,h1'.2.1,h1'.2.2,h2,h3]⟩ (by dsimp only;omega)) Zd leA
 replace h0:=sp h0;obtain rfl:s=l.length:=by omega
 rw [List.drop_length] at*
 refine xo 5 ?_;refine stA ?_;refine ox 2 ?_;refine Zq (q) func116 (H9 results116) ⟨_,rfl,0,0,by rw [hD];rfl,rfl⟩
theorem Iy: ∀ (k:Nat) (m:List Stm) (a:Option Addr) (c n:Nat),Zh m≤k→Wm 1000000 (Zj m)→n≤25→ ∀ {q:List HP},(Kn q fun M=>BlkAt M a c m)→CallF prog G 116 [.slice a m.length c,.int .i64 (n:Int)] q (Ret fun v q'=> ∃ pl pc:Int,v= .tuple [.agg [.int .i64 pl,.int .i64 pc].toArray,.bool (Yf (Zj m) n)].toArray∧q'=q)
 |k,m,a,c,n,hk,hb,hn,_,h=>Xz (fun m2 a2 c2 n2 hm hb2 hn2 _ h2=>by
  cases k with
  |zero=>omega
  |succ k=>exact Iy k m2 a2 c2 n2 (by omega) hb2 hn2 h2) hb hn h
end
theorem lettI (c:UInt8):(decide (97≤(c.toNat:Int)) && decide ((c.toNat:Int)≤122))=Pq c:=by rw [Bool.eq_iff_iff];simp [Pq];omega
theorem digI (c:UInt8):(decide (48≤(c.toNat:Int)) && decide ((c.toNat:Int)≤57))=Qm c:=by rw [Bool.eq_iff_iff];simp [Qm];omega
theorem Sx {l:Bs}{n:Nat}(h:n<l.length):H8 (l.drop n)=if Mc (l.getD n 0)=true then H8 (l.drop (n+1))+1 else 0:=by
 rw [List.drop_eq_getElem_cons h,gD h];unfold H8
 rw [List.takeWhile_cons];split<;>simp
theorem runS_end {l:Bs}{n:Nat}(h:l.length≤n):H8 (l.drop n)=0:=by rw [List.drop_eq_nil_of_le h];rfl
theorem Rf (l:Bs):H8 l≤l.length:=by unfold H8;exact (List.takeWhile_sublist _).length_le
section
variable {G:World}{q:List HP}{s:ByteArray}{c:UInt8}{n:Nat}
theorem Ty:CallF prog G 182 [.int .u8 (c.toNat:Int)] (q) (Ret fun v q'=>v= .bool (Pq c)∧q'=q):=by
 refine CallF.of func182 ntmps182 rfl (fun F cs=> ?_)
 refine xo 9 ?_;refine Zm [5,2,0] ?_
 apply Zp 3 8 5 rfl
 · intro g1 M1;have h1:=sp g1
   refine oo 3 ?_;exact Zz M1 ⟨Wz g1,Zw⟩
 · intro g1 M1;have h1:=sp g1
   refine oo 3 ?_;exact Zz M1 ⟨Wj g1,Zw⟩
 refine ox 2 ?_;refine Zq (q) func182 (Zg results182 rfl) ⟨_,rfl,congrArg Value.bool (lettI c),rfl⟩
theorem Nc:CallF prog G 177 [.int .u8 (c.toNat:Int)] (q) (Ret fun v q'=>v= .bool (Qm c)∧q'=q):=by
 refine CallF.of func177 ntmps177 rfl (fun F cs=> ?_)
 refine xo 9 ?_;refine Zm [5,2,0] ?_
 apply Zp 3 8 5 rfl
 · intro g1 M1;have h1:=sp g1
   refine oo 3 ?_;exact Zz M1 ⟨Wz g1,Zw⟩
 · intro g1 M1;have h1:=sp g1
   refine oo 3 ?_;exact Zz M1 ⟨Wj g1,Zw⟩
 refine ox 2 ?_;refine Zq (q) func177 (Zg results177 rfl) ⟨_,rfl,congrArg Value.bool (digI c),rfl⟩
theorem run_ok (hn:n≤s.size)(h63:s.size≤65536):CallF prog G 176 [.string s,.int .i64 (n:Int)] (q) (Ret fun v q'=>v= .int .i64 (H8 ((bs s).drop n):Nat)∧q'=q):=by
 refine CallF.of func176 ntmps176 rfl (fun F cs=> ?_)
 refine xx 10 ?_;refine X.at (X.loop (fun (k:Nat)=>n+k≤s.size∧H8 ((bs s).drop n)=k+H8 ((bs s).drop (n+k))) (fun k=> [(5,.int .i64 (k:Int)),(0,.string s),(1,.int .i64 (n:Int)),(4,.int .i64 0)]) (fun k=>(q++F)) (fun k=>s.size - k) (fun k hi_ ih=> ?_) 0 ⟨hn,by rw [Nat.zero_add];rfl⟩) Zd leA
 try dsimp only at hi_ ih⊢
 obtain ⟨hk1,hk2⟩:=hi_
 have hbl:=Kg s
 refine xo 10 ?_;refine Zm [12,5,0,1,4] ?_
 apply Zp 15 27 12 rfl
 · intro g1 M1;have h1:=sp g1
   refine oo 4 ?_;refine Zt (Wh rfl rfl underlying9 (by omega) (by omega)) ?_
   refine XO.know 17 (.int .u8 (((bs s).getD (n+k) 0).toNat:Int)) rfl (rfl) ?_;refine XO.cR call182 (Ty (c:=(bs s).getD (n+k) 0)) ?_
   refine oo 1 ?_;refine Zm [19,12,5,0,1,4] ?_
   apply Zb 7 26 19 rfl
   · intro g2 M2;have h2:=sp g2
     refine oo 4 ?_;refine Zt (Wh rfl rfl underlying9 (by omega) (by omega)) ?_
     refine XO.know 24 (.int .u8 (((bs s).getD (n+k) 0).toNat:Int)) rfl (rfl) ?_;refine XO.cR call177 (Nc (c:=(bs s).getD (n+k) 0)) ?_
     refine oo 1 ?_;exact Zz M2 ⟨orF g2,Zw⟩
   · intro g2 M2;have h2:=sp g2
     refine oo 7 ?_;exact Zz M2 ⟨orT g2,Zw⟩
   refine oo 1 ?_;exact Zz M1 ⟨Wz g1,Zw⟩
 · intro g1 M1;have h1:=sp g1
   refine oo 15 ?_;exact Zz M1 ⟨Wj g1,Zw⟩
 refine ox 1 ?_;refine X.part 27 rfl (fun h1=> ?_) (fun h1=> ?_)
 · replace h1:=sp h1
   refine xx 9 ?_;refine X.at (ih (k+1) ⟨by omega,by rw [hk2,Sx (n:=n+k) (by omega),if_pos (by unfold Mc;simp_all),show n+(k+1)=n+k+1 from rfl];omega⟩ (by omega)) Zd leA
 replace h1:=sp h1
 refine xx 7 ?_;refine Zq (q) func176 (Zg results176 rfl) ⟨_,rfl,by rw [hk2];rcases Nat.lt_or_ge (n+k) s.size with hl|hl;rw [Sx (n:=n+k) (by omega),if_neg (fun ha=>by unfold Mc at ha;rcases h1 with h1|h1;omega;simp_all)];rfl;rw [runS_end (by omega)];rfl,rfl⟩
theorem Im {l:Bs}{i:Nat}(h:i<l.length):K9 (l.take (i+1))=K9 (l.take i)*10+((l.getD i 0).toNat - 48):=by
 rw [List.take_succ_eq_append_getElem h,gD h];unfold K9;rw [List.foldl_append];rfl
theorem L9 {l:Bs}(h:l.all Qm=true):0≤K9 l∧K9 l<10 ^ l.length:=by
 have key: ∀ (l:Bs) (a:Int),0≤a→l.all Qm=true→0≤l.foldl (fun n c=>n*10+((c.toNat:Int) - 48)) a∧l.foldl (fun n c=>n*10+((c.toNat:Int) - 48)) a<(a+1)*10 ^ l.length:=by
  intro l
  induction l with
  |nil=>intro a ha _;exact ⟨ha,by simp;omega⟩
  |cons c r ih=>
   intro a ha h
   rw [List.all_cons,Bool.and_eq_true] at h
   have hc:48≤c.toNat∧c.toNat≤57:=by have:=h.1;simp [Qm] at this;exact this
   obtain ⟨h1,h2⟩:=ih (a*10+((c.toNat:Int) - 48)) (by omega) h.2
   refine ⟨h1,Int.lt_of_lt_of_le h2 ?_⟩
   rw [List.length_cons,Int.pow_succ,Int.mul_comm (10 ^ r.length) 10,←Int.mul_assoc]
   exact Int.mul_le_mul_of_nonneg_right (by omega) (Int.pow_nonneg (by decide))
 have h1:=key l 0 (by decide) h
 simpa [K9] using h1
theorem E7 {w:Bs}(ha:w.all Qm=true)(hl:w.length≤10):Gu w=if (decide (K9 w≤2147483647) && (decide (w.length=1)||decide (((w.getD 0 0).toNat:Int)≠48)))=true then some (K9 w) else none:=by
 unfold Gu
 rw [if_pos (by rw [ha];simpa using hl)]
 have e:(w.getD 0 0≠48)↔((w.getD 0 0).toNat:Int)≠48:=by rw [Ne,Ne,←UInt8.toNat_inj];simp;omega
 simp only [e,Bool.and_eq_true,Bool.or_eq_true,decide_eq_true_eq]
theorem numS_no {w:Bs}{k:Nat}(hlt:k<w.length)(h:Qm (w.getD k 0)=false∨10≤k):Gu w=none:=by
 unfold Gu
 rw [if_neg]
 rw [Bool.and_eq_true,List.all_eq_true]
 rintro ⟨ha,hb⟩
 rcases h with h|h
 · have:=ha _ (List.getElem_mem hlt);rw [←gD (d:=0) hlt,h] at this;cases this
 simp at hb;omega
theorem all_take {l:Bs}{i:Nat}(h:i<l.length)(ha:(l.take i).all Qm=true):(l.take (i+1)).all Qm=Qm (l.getD i 0):=by
 rw [List.take_succ_eq_append_getElem h,List.all_append,ha,gD h];simp
set_option maxHeartbeats 1000000 in
theorem A4 (h0s:0<s.size)(h63:s.size≤65536):CallF prog G 178 [.string s] (q) (Ret fun v q'=> ∃ (x:Int) (ok:Bool),v= .tuple [.int .i64 x,.bool ok].toArray∧q'=q∧Gu (bs s)=(if ok=true then some x else none)):=by
 refine CallF.of func178 ntmps178 rfl (fun F cs=> ?_)
 have hbl:=Kg s
 refine xx 15 ?_;refine X.at (X.loop (fun (k:Nat)=>k≤s.size∧k≤10∧((bs s).take k).all Qm=true) (fun k=> [(5,.int .i64 (k:Int)),(0,.string s),(4,.int .i64 (K9 ((bs s).take k))),(2,.int .i64 0),(3,.bool false)]) (fun k=>(q++F)) (fun k=>s.size - k) (fun k hi_ ih=> ?_) 0 ⟨Nat.zero_le _,by omega,rfl⟩) Zd leA
 try dsimp only at hi_ ih⊢
 obtain ⟨hk1,hk2,hk3⟩:=hi_
 have hbd:=L9 hk3;rw [List.length_take] at hbd
 have hp:(10:Int) ^ min k (bs s).length≤10 ^ 10:=by have:(10:Nat) ^ min k (bs s).length≤10 ^ 10:=Nat.pow_le_pow_right (by decide) (by omega);exact_mod_cast this
 refine xx 8 ?_;refine X.part 9 rfl (fun h0=> ?_) (fun h0=> ?_)
 · replace h0:=sp h0;have hlt:k<(bs s).length:=by omega
   refine xo 9 ?_;refine Zt (Wh rfl rfl underlying9 (by omega) (by omega)) ?_
   refine XO.know 14 (.int .u8 (((bs s).getD k 0).toNat:Int)) rfl (rfl) ?_;refine XO.cR call177 (Nc (c:=(bs s).getD k 0)) ?_
   refine Zt (Pu.not rfl) ?_;refine oo 1 ?_;refine Zm [17,5,0,4,2,3] ?_
   apply Zb 3 20 17 rfl
   · intro g1 M1;have h1:=sp g1
     refine oo 3 ?_;exact Zz M1 ⟨orF g1,Zw⟩
   · intro g1 M1;have h1:=sp g1
     refine oo 3 ?_;exact Zz M1 ⟨orT g1,Zw⟩
   refine ox 1 ?_;refine X.part 20 rfl (fun h1=> ?_) (fun h1=> ?_)
   · replace h1:=sp h1
     refine xx 6 ?_;refine Zq (q) func178 (Wc results178 rfl rfl) ⟨_,rfl,0,false,rfl,rfl,by rw [if_neg (by decide)];exact numS_no hlt (by rcases h1 with h1|h1;exact .inl (by simpa using h1);exact .inr (by omega))⟩
   replace h1:=sp h1
   refine xo 7 ?_;refine Zt (Wh rfl rfl underlying9 (by omega) (by omega)) ?_
   refine XO.know 25 (.int .u8 (((bs s).getD k 0).toNat:Int)) rfl (rfl) ?_
   have hdg:Qm ((bs s).getD k 0)=true:=by simpa using h1.1
   have hdb:48≤((bs s).getD k 0).toNat∧((bs s).getD k 0).toNat≤57:=by have h:=hdg;simp only [Qm,Bool.and_eq_true,decide_eq_true_eq] at h;exact h
   have hk10:k<10:=by omega
   have hbd2:K9 ((bs s).take k)<10 ^ 9*10:=by omega
   refine oo 1 ?_;refine XO.know 26 (.int .u8 ((((bs s).getD k 0).toNat:Int) - 48)) rfl (congrArg (Value.int .u8) (by rw [wu8];omega)) ?_
   refine ox 10 ?_
   have hv:=Im hlt
   refine X.at (ih (k+1) ⟨by omega,by omega,by rw [all_take hlt hk3];exact hdg⟩ (by omega)) Zd leA
 replace h0:=sp h0;obtain rfl:k=s.size:=by omega
 have htk:(bs s).take s.size=bs s:=List.take_of_length_le (by omega)
 rw [htk] at hk3
 refine X.know 4 (.int .i64 (K9 (bs s))) rfl (by rw [htk]) ?_
 refine xx 3 ?_;refine drw ?_;refine dd [0,1,2,3] ?_;refine XD.part 32 rfl (fun h1=> ?_) (fun h1=> ?_)
 · replace h1:=sp h1
   refine dd [4,5,6,7,13] ?_;refine XD.part 36 rfl (fun h2=> ?_) (fun h2=> ?_)
   · replace h2:=sp h2
     refine dd [8,9,10,11,12,14] ?_;refine XD.nil ?_;refine Zq (q) func178 (Wc results178 rfl rfl) ⟨_,rfl,K9 (bs s),_,rfl,rfl,by rw [E7 hk3 (by omega)];have hl:(bs s).length=1:=(by omega);simp [h1,hl]⟩
   replace h2:=sp h2
   refine dd [8] ?_;refine J7 9 rfl (Wh rfl rfl underlying9 (by omega) (by show 0<_;omega)) ?_
   refine XD.know 38 (.int .u8 (((bs s).getD 0 0).toNat:Int)) rfl (rfl) ?_;refine dd [10,11,12,14] ?_;refine XD.nil ?_;refine Zq (q) func178 (Wc results178 rfl rfl) ⟨_,rfl,K9 (bs s),_,rfl,rfl,by rw [E7 hk3 (by omega)];have hl: ¬ (bs s).length=1:=(by omega);simp [h1,hl]⟩
 replace h1:=sp h1
 refine dd [4,5,6,7,13,8,9,10,11,12,14] ?_;refine XD.nil ?_;refine Zq (q) func178 (Wc results178 rfl rfl) ⟨_,rfl,K9 (bs s),_,rfl,rfl,by rw [E7 hk3 (by omega)];have hl: ¬K9 (bs s)≤2147483647:=(by omega);simp [hl]⟩
theorem words_ok:CallF prog G 199 [] ([]) (Ret fun v q'=> ∃ g,v= .slice (some ⟨g,0,none⟩) 20 20∧q'= [lsH (fun w:Bs=>Value.string (ba w)) 9 (some ⟨g,0,none⟩) 20 wordsS]):=by
 refine CallF.of func199 ntmps199 rfl (fun F cs=> ?_)
 refine xo 6 ?_;refine XO.ef (Y0 (fun w:Bs=>Value.string (ba w)) wordsS underlying25 Wn rfl rfl rfl rfl rfl rfl (fun _=>rfl)) ?_
 rintro _ _ ⟨g,rfl,rfl⟩
 refine ox 2 ?_;refine Zq [lsH (fun w:Bs=>Value.string (ba w)) 9 (some ⟨g,0,none⟩) 20 wordsS] func199 (Zg results199 rfl) ⟨_,rfl,g,rfl,rfl⟩
theorem signs_ok:CallF prog G 180 [] ([]) (Ret fun v q'=> ∃ g,v= .slice (some ⟨g,0,none⟩) 20 20∧q'= [lsH (fun w:Bs=>Value.string (ba w)) 9 (some ⟨g,0,none⟩) 20 signsS]):=by
 refine CallF.of func180 ntmps180 rfl (fun F cs=> ?_)
 refine xo 6 ?_;refine XO.ef (Y0 (fun w:Bs=>Value.string (ba w)) signsS underlying25 Wn rfl rfl rfl rfl rfl rfl (fun _=>rfl)) ?_
 rintro _ _ ⟨g,rfl,rfl⟩
 refine ox 2 ?_;refine Zq [lsH (fun w:Bs=>Value.string (ba w)) 9 (some ⟨g,0,none⟩) 20 signsS] func180 (Zg results180 rfl) ⟨_,rfl,g,rfl,rfl⟩
theorem Q6:CallF prog G 179 [.string s] (q) (Ret fun v q'=>v= .bool (kwS (bs s))∧q'=q):=by
 refine CallF.of func179 ntmps179 rfl (fun F cs=> ?_)
 refine xo 6 ?_;refine Vz call199 (words_ok) ?_;rintro _ _ ⟨g,rfl,rfl⟩ _ e_;simp only [ca,na] at e_;subst e_
 refine ox 8 ?_;refine X.at (X.loop (fun (k:Nat)=>k≤20∧kwS (bs s)=(wordsS.drop k).any (· ==bs s)) (fun k=> [(4,.int .i64 (k:Int)),(3,.slice (some ⟨g,0,none⟩) 20 20),(0,.string s),(2,.bool false)]) (fun k=>lsH (fun w:Bs=>Value.string (ba w)) 9 (some ⟨g,0,none⟩) 20 wordsS::(q++F)) (fun k=>20 - k) (fun k hi_ ih=> ?_) 0 ⟨Nat.zero_le _,rfl⟩) Zd leA
 try dsimp only at hi_ ih⊢
 obtain ⟨hk1,hk2⟩:=hi_
 refine xx 8 ?_;refine X.part 9 rfl (fun h0=> ?_) (fun h0=> ?_)
 · replace h0:=sp h0;have hlt:k<wordsS.length:=by show k<20;omega
   refine xo 9 ?_;refine ld ?_ (hc:=(Cl.e1 (n:=k) (Sees.lsH _) Zk hlt rfl))
   refine ox 3 ?_;refine X.part 17 rfl (fun h1=> ?_) (fun h1=> ?_)
   · replace h1:=sp h1
     refine xx 5 ?_
     have hd:wordsS.drop k=wordsS[k]::wordsS.drop (k+1):=List.drop_eq_getElem_cons hlt
     refine Zq (q) func179 (Zg results179 rfl) ⟨_,rfl,by rw [hk2,hd,List.any_cons,←Ud wordsS[k],sTr h1];rfl,rfl⟩
   replace h1:=sp h1
   refine xx 8 ?_
   have hd:wordsS.drop k=wordsS[k]::wordsS.drop (k+1):=List.drop_eq_getElem_cons hlt
   refine X.at (ih (k+1) ⟨by omega,by rw [hk2,hd,List.any_cons,←Ud wordsS[k],sNe h1];rfl⟩ (by omega)) Zd leA
 replace h0:=sp h0;obtain rfl:k=20:=by omega
 refine xx 6 ?_;refine Zq (q) func179 (Zg results179 rfl) ⟨_,rfl,by rw [hk2];rfl,rfl⟩
def OneOut (l:Bs)(v:Value):Prop:=(∃ k w z,E5 l=some (k,w,z)∧0<w.length∧w.length≤l.length∧v= .tuple [.agg [.int .i64 k,.string (ba w),.int .i64 z,.int .i64 0,.int .i64 0].toArray,.int .i64 (w.length:Nat),.int .i64 0].toArray)∨(E5 l=none∧ ∃ t z e,e≠0∧v= .tuple [.agg (tkC t).toArray,.int .i64 z,.int .i64 e].toArray)
theorem Ob {l:Bs}{k:Nat}(h:k<signsS.length):(signsS.drop k).find? (fun s=>s==l.take s.length)=if (signsS[k]==l.take signsS[k].length)=true then some signsS[k] else (signsS.drop (k+1)).find? (fun s=>s==l.take s.length):=by
 rw [List.drop_eq_getElem_cons h,List.find?_cons];cases signsS[k]==l.take signsS[k].length<;>rfl
theorem oneW_eq {s:ByteArray}{n r:Nat}{W:Bs}(hr:H8 ((bs s).drop n)=r)(hW:((bs s).drop n).take r=W):E5 ((bs s).drop n)=if 0<r∧Qm ((bs s).getD n 0)=true then (match Gu W with|some x=>some ((2:Int),W,x)|none=>none) else if 0<r∧kwS W=true then some (3,W,0) else if 16<r then none else if 0<r then some (1,W,0) else match signsS.find? (fun z=>z==((bs s).drop n).take z.length) with|some z=>some (4,z,0)|none=>none:=by
 unfold E5;rw [hr,hW,show ((bs s).drop n).getD 0 0=(bs s).getD n 0 by simp [List.getD]];rfl
theorem Is: ∀ k,(h:k<20)→0<(signsS[k]'h).length∧(signsS[k]'h).length≤2:=by decide
theorem extr {s:ByteArray}{n m:Nat}:s.extract n (n+m)=ba (((bs s).drop n).take m):=by rw [←ba_bs (s.extract n (n+m)),Pa];congr 2;omega
set_option maxHeartbeats 2000000 in
theorem lxone_ok (hn:n<s.size)(h63:s.size≤65536):CallF prog G 145 [.string s,.int .i64 (n:Int)] (q) (Ret fun v q'=>OneOut ((bs s).drop n) v∧q'=q):=by
 refine CallF.of func145 ntmps145 rfl (fun F cs=> ?_)
 have hbl:=Kg s;have hrl:=Rf ((bs s).drop n);rw [List.length_drop] at hrl
 obtain ⟨r,hr⟩: ∃ r,H8 ((bs s).drop n)=r:=⟨_,rfl⟩;rw [hr] at hrl
 obtain ⟨W,hW⟩: ∃ W,((bs s).drop n).take r=W:=⟨_,rfl⟩
 have hWl:W.length=r:=by rw [←hW,List.length_take,List.length_drop];omega
 have hO:=oneW_eq hr hW;obtain ⟨O,hOO⟩: ∃ O,E5 ((bs s).drop n)=O:=⟨_,rfl⟩;rw [hOO] at hO
 have hcl:(0<r∧Qm ((bs s).getD n 0)=true)∨(0<r∧Qm ((bs s).getD n 0)=false∧kwS W=true)∨(16<r∧Qm ((bs s).getD n 0)=false∧kwS W=false)∨((0<r∧r≤16)∧Qm ((bs s).getD n 0)=false∧kwS W=false)∨r=0:=by
  cases Qm ((bs s).getD n 0)<;>cases kwS W<;>simp<;>omega
 rcases hcl with hcl|hcl|hcl|hcl|hcl
 iterate 5
  focus
   refine xo 2 ?_;refine XO.al zeroValue234 fun n1=> ?_
   refine oo 7 ?_;refine XO.cR call176 (run_ok (n:=n) (by omega) h63) ?_
   refine XO.know 16 (.int .i64 (r:Int)) rfl (by rw [hr]) ?_
   refine oo 9 ?_;refine Zt (En rfl rfl rfl underlying9 (by omega) (by omega) (by omega)) ?_
   refine XO.know 22 (.string (ba W)) rfl (by rw [show ((n:Int)+r).toNat=n+r by omega,Int.toNat_natCast,extr,hW]) ?_
   refine oo 9 ?_;refine Zm [26,8,7,6,5,4,0,1] ?_
   apply Zp 5 31 26 rfl
   · intro g1 M1;have h1:=sp g1
     refine oo 2 ?_;refine Zt (Wh rfl rfl underlying9 (by omega) (by omega)) ?_
     refine XO.know 29 (.int .u8 (((bs s).getD n 0).toNat:Int)) rfl (rfl) ?_;refine XO.cR call177 (Nc (c:=(bs s).getD n 0)) ?_
     refine oo 1 ?_;exact Zz M1 ⟨Wz g1,Zw⟩
   · intro g1 M1;have h1:=sp g1
     refine oo 5 ?_;exact Zz M1 ⟨Wj g1,Zw⟩
   refine ox 2 ?_
  rotate_left
 · refine X.know 23 (.bool true) rfl (congrArg Value.bool (by rw [hcl.2];simp [hcl.1])) ?_
   refine xo 4 ?_
   have hbw:(ba W).size=r:=hWl
   refine Zf call178 (Le.refl _) (A4 (s:=ba W) (by omega) (by omega)) ?_
   rintro _ _ ⟨x,ok,rfl,rfl,hnum⟩
   rw [Ud] at hnum
   refine oo 10 ?_;refine Zt (Pu.not rfl) ?_;refine ox 1 ?_;refine X.part 38 rfl (fun h1=> ?_) (fun h1=> ?_)
   · replace h1:=sp h1
     refine xo 4 ?_;refine stA ?_;refine ox 3 ?_
     rw [if_pos hcl,hnum] at hO
     refine Zq (q) func145 (R6 results145) ⟨_,rfl,.inr ⟨by rw [hOO,hO,if_neg (by simp_all)],⟨0,⟨#[]⟩,0,0,0⟩,0,112,by decide,rfl⟩,rfl⟩
   replace h1:=sp h1
   refine xo 8 ?_;refine stA ?_;refine ox 3 ?_
   rw [if_pos hcl,hnum] at hO
   refine Zq (q) func145 (R6 results145) ⟨_,rfl,.inl ⟨2,W,x,by rw [hOO,hO,if_pos (by simpa using h1)],by omega,by rw [List.length_drop];omega,by rw [hWl];rfl⟩,rfl⟩
 · refine X.know 23 (.bool false) rfl (congrArg Value.bool (by rw [hcl.2.1];simp)) ?_
   refine xo 6 ?_;refine Zm [47,8,7,6,5,4,0,1] ?_
   apply Zp 3 50 47 rfl
   · intro g1 M1;have h1:=sp g1
     refine oo 1 ?_;refine XO.cR call179 (Q6 (s:=ba W)) ?_
     refine XO.know 49 (.bool (kwS W)) rfl (by rw [Ud]) ?_
     refine oo 1 ?_;exact Zz M1 ⟨Wz g1,Zw⟩
   · intro g1 M1;have h1:=sp g1
     refine oo 3 ?_;exact Zz M1 ⟨Wj g1,Zw⟩
   refine ox 2 ?_;refine X.know 44 (.bool true) rfl (congrArg Value.bool (by rw [hcl.2.2];simp [hcl.1])) ?_
   refine xo 6 ?_;refine stA ?_;refine ox 3 ?_
   rw [if_neg (by rw [hcl.2.1];simp),if_pos ⟨hcl.1,hcl.2.2⟩] at hO
   refine Zq (q) func145 (R6 results145) ⟨_,rfl,.inl ⟨3,W,0,by rw [hOO,hO],by omega,by rw [List.length_drop];omega,by rw [hWl];rfl⟩,rfl⟩
 · refine X.know 23 (.bool false) rfl (congrArg Value.bool (by rw [hcl.2.1];simp)) ?_
   refine xo 6 ?_;refine Zm [47,8,7,6,5,4,0,1] ?_
   apply Zp 3 50 47 rfl
   · intro g1 M1;have h1:=sp g1
     refine oo 1 ?_;refine XO.cR call179 (Q6 (s:=ba W)) ?_
     refine XO.know 49 (.bool (kwS W)) rfl (by rw [Ud]) ?_
     refine oo 1 ?_;exact Zz M1 ⟨Wz g1,Zw⟩
   · intro g1 M1;have h1:=sp g1
     refine oo 3 ?_;exact Zz M1 ⟨Wj g1,Zw⟩
   refine ox 2 ?_;refine X.know 44 (.bool false) rfl (congrArg Value.bool (by rw [hcl.2.2];simp)) ?_
   refine xx 7 ?_;refine X.know 54 (.bool true) rfl (congrArg Value.bool (by simp;omega)) ?_
   refine xo 4 ?_;refine stA ?_;refine ox 3 ?_
   rw [if_neg (by rw [hcl.2.1];simp),if_neg (by rw [hcl.2.2];simp),if_pos hcl.1] at hO
   refine Zq (q) func145 (R6 results145) ⟨_,rfl,.inr ⟨by rw [hOO,hO],⟨0,⟨#[]⟩,0,0,0⟩,0,111,by decide,rfl⟩,rfl⟩
 · refine X.know 23 (.bool false) rfl (congrArg Value.bool (by rw [hcl.2.1];simp)) ?_
   refine xo 6 ?_;refine Zm [47,8,7,6,5,4,0,1] ?_
   apply Zp 3 50 47 rfl
   · intro g1 M1;have h1:=sp g1
     refine oo 1 ?_;refine XO.cR call179 (Q6 (s:=ba W)) ?_
     refine XO.know 49 (.bool (kwS W)) rfl (by rw [Ud]) ?_
     refine oo 1 ?_;exact Zz M1 ⟨Wz g1,Zw⟩
   · intro g1 M1;have h1:=sp g1
     refine oo 3 ?_;exact Zz M1 ⟨Wj g1,Zw⟩
   refine ox 2 ?_;refine X.know 44 (.bool false) rfl (congrArg Value.bool (by rw [hcl.2.2];simp)) ?_
   refine xx 7 ?_;refine X.know 54 (.bool false) rfl (congrArg Value.bool (by simp;omega)) ?_
   refine xx 7 ?_;refine X.know 58 (.bool true) rfl (congrArg Value.bool (by simp;omega)) ?_
   refine xo 6 ?_;refine stA ?_;refine ox 3 ?_
   rw [if_neg (by rw [hcl.2.1];simp),if_neg (by rw [hcl.2.2];simp),if_neg (by omega),if_pos hcl.1.1] at hO
   refine Zq (q) func145 (R6 results145) ⟨_,rfl,.inl ⟨1,W,0,by rw [hOO,hO],by omega,by rw [List.length_drop];omega,by rw [hWl];rfl⟩,rfl⟩
 refine X.know 23 (.bool false) rfl (congrArg Value.bool (by simp [hcl])) ?_
 refine xo 6 ?_;refine Zm [47,8,7,6,5,4,0,1] ?_
 apply Zp 3 50 47 rfl
 · intro g1 M1;have h1:=sp g1
   refine oo 1 ?_;refine XO.cR call179 (Q6 (s:=ba W)) ?_
   refine XO.know 49 (.bool (kwS W)) rfl (by rw [Ud]) ?_
   refine oo 1 ?_;exact Zz M1 ⟨Wz g1,Zw⟩
 · intro g1 M1;have h1:=sp g1
   refine oo 3 ?_;exact Zz M1 ⟨Wj g1,Zw⟩
 refine ox 2 ?_;refine X.know 44 (.bool false) rfl (congrArg Value.bool (by simp [hcl])) ?_
 refine xx 7 ?_;refine X.know 54 (.bool false) rfl (congrArg Value.bool (by simp [hcl])) ?_
 refine xx 7 ?_;refine X.know 58 (.bool false) rfl (congrArg Value.bool (by simp [hcl])) ?_
 refine xo 5 ?_;refine Vz call180 (signs_ok) ?_;rintro _ _ ⟨g,rfl,rfl⟩ _ e_;simp only [ca,na] at e_;subst e_
 refine ox 8 ?_
 rw [if_neg (by omega),if_neg (by omega),if_neg (by omega),if_neg (by omega)] at hO
 refine X.at (X.loop (fun (k:Nat)=>k≤20∧signsS.find? (fun z=>z==((bs s).drop n).take z.length)=(signsS.drop k).find? (fun z=>z==((bs s).drop n).take z.length)) (fun k=> [(12,.int .i64 (k:Int)),(11,.slice (some ⟨g,0,none⟩) 20 20),(0,.string s),(1,.int .i64 (n:Int)),(4,.pointer (some ⟨n1,0,none⟩)),(5,.int .i64 0),(6,.int .i64 0)]) (fun k=>lsH (fun w:Bs=>Value.string (ba w)) 9 (some ⟨g,0,none⟩) 20 signsS::pto n1 (.cells [.int .i64 0,.string ⟨#[]⟩,.int .i64 0,.int .i64 0,.int .i64 0].toArray 234 (0,0))::(q++F)) (fun k=>20 - k) (fun k hi_ ih=> ?_) 0 ⟨Nat.zero_le _,rfl⟩) Zd leA
 try dsimp only at hi_ ih⊢
 obtain ⟨hk1,hk2⟩:=hi_
 refine xx 8 ?_;refine X.part 68 rfl (fun h0=> ?_) (fun h0=> ?_)
 · replace h0:=sp h0;have hlt:k<signsS.length:=by show k<20;omega
   have hf:=Ob (l:=(bs s).drop n) hlt;have hsp:=Is k hlt;obtain ⟨Z,hZ⟩: ∃ Z,signsS[k]=Z:=⟨_,rfl⟩;rw [hZ] at hf hsp
   have hzl:(ba Z).size=Z.length:=rfl
   refine xo 9 ?_;refine ld ?_ (hc:=(Cl.e1 (n:=k) (Sees.lsH _) Zk hlt rfl))
   refine XO.know 74 (.string (ba Z)) rfl (by rw [hZ]) ?_
   refine ox 4 ?_;refine drw ?_;refine dd [0,1,2,3,4,5,6] ?_;refine XD.part 82 rfl (fun h1=> ?_) (fun h1=> ?_)
   · replace h1:=sp h1
     refine dd [7,8,9,10,11] ?_;refine J7 12 rfl (En rfl rfl rfl underlying9 (by omega) (by omega) (by omega)) ?_
     refine XD.know 88 (.string (ba (((bs s).drop n).take Z.length))) rfl (by rw [show ((n:Int)+(ba Z).size).toNat=n+Z.length by omega,Int.toNat_natCast,extr]) ?_
     refine dd [13,14,15] ?_;refine ldD 16 ?_ (hc:=(Cl.e1 (n:=k) (Sees.lsH _) Zk hlt rfl))
     refine XD.know 92 (.string (ba Z)) rfl (by rw [hZ]) ?_
     refine dd [17,18] ?_;refine XD.nil ?_;refine X.part 94 rfl (fun h2=> ?_) (fun h2=> ?_)
     · replace h2:=sp h2
       refine xo 6 ?_;refine ld ?_ (hc:=(Cl.e1 (n:=k) (Sees.lsH _) Zk hlt rfl))
       refine XO.know 98 (.string (ba Z)) rfl (by rw [hZ]) ?_
       refine oo 2 ?_;refine stA ?_;refine ox 3 ?_;refine Zq (q) func145 (R6 results145) ⟨_,rfl,.inl ⟨4,Z,0,by have h:=sTr h2;rw [Ud,Ud] at h;rw [hOO,hO,hk2,hf,if_pos (by rw [beq_iff_eq] at h⊢;exact h.symm)],hsp.1,by rw [List.length_drop];omega,rfl⟩,rfl⟩
     replace h2:=sp h2
     refine xx 8 ?_;refine X.at (ih (k+1) ⟨by omega,by have h:=sNe h2;rw [Ud,Ud] at h;rw [hk2,hf,if_neg (by rw [beq_iff_eq];intro e;rw [←e] at h;simp at h)]⟩ (by omega)) Zd leA
   replace h1:=sp h1
   refine dd [7,8,9,10,11,12,13,14,15,16,17,18] ?_;refine XD.nil ?_;refine xx 8 ?_;refine X.at (ih (k+1) ⟨by omega,by have h:=h1;rw [hk2,hf,if_neg (by rw [beq_iff_eq];intro e;have:=congrArg List.length e;rw [List.length_take,List.length_drop] at this;omega)]⟩ (by omega)) Zd leA
 replace h0:=sp h0;obtain rfl:k=20:=by omega
 refine xo 5 ?_;refine stA ?_;refine ox 3 ?_;refine Zq (q) func145 (R6 results145) ⟨_,rfl,.inr ⟨by rw [hOO,hO,hk2];rfl,⟨0,⟨#[]⟩,0,0,0⟩,0,110,by decide,rfl⟩,rfl⟩
end
theorem lex_at {l:Bs}{k g:Nat}{ln cl:Int}(h:k<l.length):Ky (g+1) (l.drop k) ln cl=
 if l.getD k 0=10 then Ky g (l.drop (k+1)) (ln+1) 1
 else if l.getD k 0=32∨l.getD k 0=9∨l.getD k 0=13 then Ky g (l.drop (k+1)) ln (cl+1)
 else if l.getD k 0=35 then Ky g ((l.drop k).dropWhile (· !=10)) ln (cl+((l.drop k).takeWhile (· !=10)).length)
 else match E5 (l.drop k) with
  |none=>none
  |some (c,w,n)=>(Ky g (l.drop (k+w.length)) ln (cl+w.length)).map (⟨c,ba w,n,ln,cl⟩:: ·):=by
 rw [gD h,←List.drop_drop,List.drop_eq_getElem_cons h,Ky]
 split;rfl;split;rfl;split;rfl
 cases E5 (l[k]::l.drop (k+1)) with
 |none=>rfl
 |some x=>
  have e:List.drop x.2.1.length (l[k]::l.drop (k+1))=l.drop (k+x.2.1.length):=by rw [←List.drop_eq_getElem_cons h,List.drop_drop]
  simp only [e]
theorem lex_end {l:Bs}{k g:Nat}{ln cl:Int}(h:l.length≤k):Ky (g+1) (l.drop k) ln cl=some []:=by rw [List.drop_eq_nil_of_le h];rfl
theorem skip_at {l:Bs}{k:Nat}(h:k<l.length)(hc:l.getD k 0≠10):(l.drop k).dropWhile (· !=10)=(l.drop (k+1)).dropWhile (· !=10)∧((l.drop k).takeWhile (· !=10)).length=((l.drop (k+1)).takeWhile (· !=10)).length+1:=by
 rw [gD h] at hc
 rw [List.drop_eq_getElem_cons h,List.dropWhile_cons,List.takeWhile_cons,if_pos (by simpa using hc),if_pos (by simpa using hc)]
 exact ⟨rfl,rfl⟩
theorem Gv {l:Bs}{k:Nat}(h:l.length≤k∨l.getD k 0=10):(l.drop k).dropWhile (· !=10)=l.drop k∧((l.drop k).takeWhile (· !=10)).length=0:=by
 rcases Nat.lt_or_ge k l.length with hk|hk
 · have hc:=h.resolve_left (by omega)
   rw [gD hk] at hc
   rw [List.drop_eq_getElem_cons hk,List.dropWhile_cons,List.takeWhile_cons,if_neg (by simp [hc]),if_neg (by simp [hc])]
   exact ⟨rfl,rfl⟩
 rw [List.drop_eq_nil_of_le hk];exact ⟨rfl,rfl⟩
theorem c8 {c d:UInt8}:((c.toNat:Int)=d.toNat)↔c=d:=by rw [←UInt8.toNat_inj];omega
def Rk (l:Bs):Option (List Tk):=if 65536<l.length then none else Ky (l.length+1) l 1 1
section
variable {G:World}{q:List HP}{s:ByteArray}
theorem spT {x:UInt8}(h:x=32∨x=9∨x=13):((x.toNat:Int)==32||(x.toNat:Int)==9||(x.toNat:Int)==13)=true:=by rcases h with rfl|rfl|rfl<;>rfl
theorem spF {x:UInt8}(h: ¬ (x=32∨x=9∨x=13)):((x.toNat:Int)==32||(x.toNat:Int)==9||(x.toNat:Int)==13)=false:=by
 simp only [not_or] at h
 rw [Bool.or_eq_false_iff,Bool.or_eq_false_iff,beq_eq_false_iff_ne,beq_eq_false_iff_ne,beq_eq_false_iff_ne]
 exact ⟨⟨fun e=>h.1 (c8.1 e),fun e=>h.2.1 (c8.1 e)⟩,fun e=>h.2.2 (c8.1 e)⟩
theorem F8:(prog.info? 234).map (fun i=>(i.zero,i.size,i.bytes))=some (some (.agg #[.int .i64 0,.string ⟨#[]⟩,.int .i64 0,.int .i64 0,.int .i64 0]),5,48):=by kernel_rfl
set_option maxHeartbeats 4000000 in
theorem Lex_ok:CallF prog G 113 [.string s] (q) (Ret fun v q'=>(∃ ts a c,Rk (bs s)=some ts∧v= .tuple [.slice a ts.length c,.agg [.int .i64 0,.int .i64 0].toArray,.int .i64 0].toArray∧q'=rsH tkC 5 234 a c ts::q)∨(Rk (bs s)=none∧ ∃ (y z e:Int),e≠0∧v= .tuple [.slice none 0 0,.agg [.int .i64 y,.int .i64 z].toArray,.int .i64 e].toArray∧q'=q)):=by
 refine CallF.of func113 ntmps113 rfl (fun F cs=> ?_)
 have hbl:=Kg s
 refine xo 3 ?_;refine XO.al zeroValue107 fun n1=> ?_
 refine ox 9 ?_;refine X.part 14 rfl (fun h0=> ?_) (fun h0=> ?_)
 · replace h0:=sp h0
   refine xo 5 ?_;refine stA ?_;refine ox 2 ?_;refine Zq (q) func113 (Td results113) ⟨_,rfl,.inr ⟨by unfold Rk;rw [if_pos (by omega)],0,0,3,by decide,rfl,rfl⟩⟩
 replace h0:=sp h0;have h63:s.size≤65536:=by omega
 obtain ⟨S,hS⟩: ∃ S,Rk (bs s)=S:=⟨_,rfl⟩;have hS0:S=(Ky (s.size+1) ((bs s).drop 0) 1 1).map ([]++ ·):=by rw [←hS];unfold Rk;rw [if_neg (by omega),hbl,List.drop_zero];cases Ky (s.size+1) (bs s) 1 1<;>rfl
 rw [hS]
 refine xo 9 ?_;refine XO.al zeroValue107 fun n2=> ?_
 refine stA ?_;refine ox 7 ?_;refine X.at (X.loop (fun (s_:(Option Addr×Nat×List Tk)×Nat×Int×Int×Nat)=>s_.2.1≤s.size∧s.size - s_.2.1<s_.2.2.2.2∧(1≤s_.2.2.1∧s_.2.2.1≤s_.2.1+1∧1≤s_.2.2.2.1∧s_.2.2.2.1≤s_.2.1+1∧s_.1.2.2.length≤s_.2.1)∧S=(Ky s_.2.2.2.2 ((bs s).drop s_.2.1) s_.2.2.1 s_.2.2.2.1).map (s_.1.2.2++ ·)) (fun s_=> [(5,.slice s_.1.1 s_.1.2.2.length s_.1.2.1),(7,.int .i64 (s_.2.1:Int)),(0,.string s),(6,.pointer (some ⟨n2,0,none⟩)),(2,.slice none 0 0),(3,.pointer (some ⟨n1,0,none⟩)),(4,.int .i64 0)]) (fun s_=>pto n2 (.cells [.int .i64 s_.2.2.1,.int .i64 s_.2.2.2.1].toArray 107 (0,0))::pto n1 (.cells [.int .i64 0,.int .i64 0].toArray 107 (0,0))::rsH tkC 5 234 s_.1.1 s_.1.2.1 (s_.1.2.2)::(q++F)) (fun s_=>s.size - s_.2.1) (fun s_ hi_ ih=> ?_) ((none,0, []),0,1,1,s.size+1) ⟨Nat.zero_le _,by dsimp only;omega,⟨by dsimp only;omega,by dsimp only;omega,by dsimp only;omega,by dsimp only;omega,Nat.le_refl _⟩,hS0⟩) Zd (Le.trans leA (Le.trans (Zl tkC 5 234 _) leA))
 try dsimp only at hi_ ih⊢
 obtain ⟨hi1,hi2,⟨hi3,hi4,hi5,hi6,hi7⟩,hi8⟩:=hi_
 obtain ⟨⟨a,c,out⟩,k,ln,cl,g⟩:=s_;dsimp only at*;obtain ⟨g,rfl⟩: ∃ g2,g=g2+1:=⟨g - 1,by omega⟩;clear hS0
 refine xx 8 ?_;refine X.part 20 rfl (fun h1=> ?_) (fun h1=> ?_)
 · replace h1:=sp h1;have hlt:k<(bs s).length:=by omega
   have hL:=lex_at (g:=g) (ln:=ln) (cl:=cl) hlt;obtain ⟨x,hx⟩: ∃ x,(bs s).getD k 0=x:=⟨_,rfl⟩;rw [hx] at hL
   rcases Classical.em (x=10) with hx1|hx1
   · refine xo 7 ?_;refine Zt (Wh rfl rfl underlying9 (by omega) (by omega)) ?_
     refine XO.know 23 (.int .u8 (x.toNat:Int)) rfl (by rw [←hx];rfl) ?_
     refine ox 8 ?_;refine X.know 25 (.bool true) rfl (congrArg Value.bool (beq_iff_eq.2 (by rw [hx1];rfl))) ?_
     refine xj 4 ?_;refine oo 4 ?_;refine st ?_;refine oo 1 ?_;refine st ?_;refine ox 3 ?_;refine X.at (ih ((a,c,out),k+1,ln+1,1,g) ⟨by dsimp only;omega,by dsimp only;omega,⟨by dsimp only;omega,by dsimp only;omega,by dsimp only;omega,by dsimp only;omega,by dsimp only;omega⟩,by rw [hi8,hL,if_pos hx1]⟩ (by dsimp only;omega)) Zd leA
   rcases Classical.em (x=32∨x=9∨x=13) with hx2|hx2
   · refine xo 7 ?_;refine Zt (Wh rfl rfl underlying9 (by omega) (by omega)) ?_
     refine XO.know 23 (.int .u8 (x.toNat:Int)) rfl (by rw [←hx];rfl) ?_
     refine ox 8 ?_;refine X.know 25 (.bool false) rfl (congrArg Value.bool (beq_eq_false_iff_ne.2 (fun e=>hx1 (c8.1 e)))) ?_
     refine xo 8 ?_;refine Zm [35,8,5,7,0,6,2,3,4] ?_
     apply Zb 3 38 35 rfl
     · intro g1 M1;have h1:=sp g1
       refine oo 3 ?_;exact Zz M1 ⟨orF g1,Zw⟩
     · intro g1 M1;have h1:=sp g1
       refine oo 3 ?_;exact Zz M1 ⟨orT g1,Zw⟩
     refine oo 1 ?_;refine Zm [39,8,5,7,0,6,2,3,4] ?_
     apply Zb 3 42 39 rfl
     · intro g1 M1;have h1:=sp g1
       refine oo 3 ?_;exact Zz M1 ⟨orF g1,Zw⟩
     · intro g1 M1;have h1:=sp g1
       refine oo 3 ?_;exact Zz M1 ⟨orT g1,Zw⟩
     refine ox 1 ?_;refine X.know 42 (.bool true) rfl (congrArg Value.bool (spT hx2)) ?_;refine xj 4 ?_;refine oo 4 ?_;refine st ?_;refine ox 3 ?_;refine X.at (ih ((a,c,out),k+1,ln,cl+1,g) ⟨by dsimp only;omega,by dsimp only;omega,⟨by dsimp only;omega,by dsimp only;omega,by dsimp only;omega,by dsimp only;omega,by dsimp only;omega⟩,by rw [hi8,hL,if_neg hx1,if_pos hx2]⟩ (by dsimp only;omega)) Zd leA
   rcases Classical.em (x=35) with hx3|hx3
   iterate 2
    focus
     refine xo 7 ?_;refine Zt (Wh rfl rfl underlying9 (by omega) (by omega)) ?_
     refine XO.know 23 (.int .u8 (x.toNat:Int)) rfl (by rw [←hx];rfl) ?_
     refine ox 8 ?_;refine X.know 25 (.bool false) rfl (congrArg Value.bool (beq_eq_false_iff_ne.2 (fun e=>hx1 (c8.1 e)))) ?_
     refine xo 8 ?_;refine Zm [35,8,5,7,0,6,2,3,4] ?_
     apply Zb 3 38 35 rfl
     · intro g1 M1;have h1:=sp g1
       refine oo 3 ?_;exact Zz M1 ⟨orF g1,Zw⟩
     · intro g1 M1;have h1:=sp g1
       refine oo 3 ?_;exact Zz M1 ⟨orT g1,Zw⟩
     refine oo 1 ?_;refine Zm [39,8,5,7,0,6,2,3,4] ?_
     apply Zb 3 42 39 rfl
     · intro g1 M1;have h1:=sp g1
       refine oo 3 ?_;exact Zz M1 ⟨orF g1,Zw⟩
     · intro g1 M1;have h1:=sp g1
       refine oo 3 ?_;exact Zz M1 ⟨orT g1,Zw⟩
     refine ox 1 ?_;refine X.know 42 (.bool false) rfl (congrArg Value.bool (spF hx2)) ?_;refine xx 8 ?_
    rotate_left
   · refine X.know 50 (.bool true) rfl (congrArg Value.bool (beq_iff_eq.2 (by rw [hx3];rfl))) ?_
     refine xx 3 ?_;refine X.at (X.loop (fun (j:Nat)=>k≤j∧j≤s.size∧((bs s).drop k).dropWhile (· !=10)=((bs s).drop j).dropWhile (· !=10)∧(((bs s).drop k).takeWhile (· !=10)).length=(j - k)+(((bs s).drop j).takeWhile (· !=10)).length) (fun j=> [(7,.int .i64 (j:Int)),(0,.string s),(5,.slice a out.length c),(6,.pointer (some ⟨n2,0,none⟩)),(2,.slice none 0 0),(3,.pointer (some ⟨n1,0,none⟩)),(4,.int .i64 0)]) (fun j=>pto n2 (.cells [.int .i64 ln,.int .i64 (cl+(j - k:Nat))].toArray 107 (0,0))::pto n1 (.cells [.int .i64 0,.int .i64 0].toArray 107 (0,0))::rsH tkC 5 234 a c (out)::(q++F)) (fun j=>s.size - j) (fun j hi_ ihj=> ?_) k ⟨Nat.le_refl _,by omega,rfl,by omega⟩) Zd (by rw [Nat.sub_self,show (cl+((0:Nat):Int))=cl by omega];exact leA)
     try dsimp only at hi_ ihj⊢
     obtain ⟨hj1,hj2,hj3,hj4⟩:=hi_
     refine xo 8 ?_;refine Zm [55,7,0,5,6,2,3,4] ?_
     apply Zp 5 60 55 rfl
     · intro g1 M1;have h1:=sp g1
       refine oo 2 ?_;refine Zt (Wh rfl rfl underlying9 (by omega) (by omega)) ?_
       refine XO.know 58 (.int .u8 (((bs s).getD j 0).toNat:Int)) rfl (rfl) ?_;refine oo 2 ?_;exact Zz M1 ⟨Wz g1,Zw⟩
     · intro g1 M1;have h1:=sp g1
       refine oo 5 ?_;exact Zz M1 ⟨Wj g1,Zw⟩
     refine ox 1 ?_;refine X.part 60 rfl (fun h1=> ?_) (fun h1=> ?_)
     · replace h1:=sp h1
       refine xj 5 ?_;refine oo 4 ?_;refine st ?_;refine ox 3 ?_
       have hsk:=skip_at (l:=bs s) (k:=j) (by omega) (fun e=>h1.2 (c8.2 e))
       refine X.at (ihj (j+1) ⟨by omega,by omega,by rw [hj3,hsk.1],by rw [hj4,hsk.2];omega⟩ (by omega)) Zd (by rw [show (cl+((j+1 - k:Nat):Int))=cl+((j - k:Nat):Int)+1 by omega];exact leA)
     replace h1:=sp h1
     refine xx 3 ?_
     have hj:(bs s).length≤j∨(bs s).getD j 0=10:=by rcases h1 with h1|h1;exact .inl (by omega);exact .inr (c8.1 (by first|exact h1.2|exact h1))
     have hjk:k<j:=by rcases Nat.lt_or_ge k j with h|h;exact h;obtain rfl:j=k:=(by omega);rcases hj with h|h;omega;exact absurd (hx.symm.trans h) hx1
     refine X.at (ih ((a,c,out),j,ln,cl+(j - k:Nat),g) ⟨by dsimp only;omega,by dsimp only;omega,⟨by dsimp only;omega,by dsimp only;omega,by dsimp only;omega,by dsimp only;omega,by dsimp only;omega⟩,by rw [hi8,hL,if_neg hx1,if_neg hx2,if_pos hx3,hj3,(Gv hj).1,hj4,(Gv hj).2,Nat.add_zero]⟩ (by dsimp only;omega)) Zd leA
   refine X.know 50 (.bool false) rfl (congrArg Value.bool (beq_eq_false_iff_ne.2 (fun e=>hx3 (c8.1 e)))) ?_
   refine xo 6 ?_;refine Zf call145 (Le.refl _) (lxone_ok (n:=k) (by omega) h63) ?_
   rintro _ _ ⟨⟨ck,W,z,hO,hW0,hWl,rfl⟩|⟨hO,t,z,e,he,rfl⟩,rfl⟩
   · refine oo 4 ?_;refine XO.al zeroValue234 fun n3=> ?_
     refine stA ?_;refine ox 9 ?_;refine Wy 75 ?_;refine xo 4 ?_;refine ldA ?_;refine oo 1 ?_;refine stA ?_;refine oo 4 ?_;refine ldA ?_
     rw [List.length_drop] at hWl
     obtain ⟨tk,htk⟩: ∃ tk:Tk,tk=⟨ck,ba W,z,ln,cl⟩:=⟨_,rfl⟩
     refine XO.know 81 (.agg (tkC tk).toArray) rfl (by rw [htk];rfl) ?_
     refine XO.ef (Yj (u:=tk) tkC underlying221 F8 rfl rfl (fun _=>rfl) rfl) ?_
     rintro _ _ ⟨g2,rfl,rfl⟩
     refine XO.ef (Yq (f:=tkC) (l:=out) (m:= [tk]) underlying221 F8 rfl rfl (fun _=>rfl) rfl rfl Zk ((Sees.rsH _).le Zk) (fun _=>rfl) (by simp;omega) (by simp;omega)) ?_
     rintro _ _ ⟨a3,c3,rfl,rfl⟩
     refine ol 4 ?_;refine oo 6 ?_;refine st ?_;refine ox 3 ?_;refine X.at (ih ((a3,c3,out++ [tk]),k+W.length,ln,cl+W.length,g) ⟨by dsimp only;omega,by dsimp only;omega,⟨by dsimp only;omega,by dsimp only;omega,by dsimp only;omega,by dsimp only;omega,by simp;omega⟩,by rw [hi8,hL,if_neg hx1,if_neg hx2,if_neg hx3,hO,htk];simp only [Option.map_map];congr 1;funext r;simp⟩ (by dsimp only;omega)) Zd leA
   refine oo 4 ?_;refine XO.al zeroValue234 fun n3=> ?_
   refine stA ?_;refine ox 9 ?_;refine X.know 75 (.bool true) rfl (congrArg Value.bool (by simpa using he)) ?_
   refine xx 2 ?_;refine drw ?_;refine Ji 0 ?_;refine dd [1,2] ?_;refine V1 3 ?_;refine dd [4] ?_;refine XD.nil ?_;refine Zq (q) func113 (Td results113) ⟨_,rfl,.inr ⟨by rw [hi8,hL,if_neg hx1,if_neg hx2,if_neg hx3,hO];rfl,ln,cl,e,he,rfl,rfl⟩⟩
 replace h1:=sp h1;obtain rfl:k=s.size:=by omega
 refine xo 7 ?_;refine stA ?_;refine ox 2 ?_;refine Zq (rsH tkC 5 234 a c (out)::q) func113 (Td results113) ⟨_,rfl,.inl ⟨out,a,c,by rw [hi8,lex_end (by omega)];simp,rfl,rfl⟩⟩
end
end Go.Proofs.YtflkjkhijcdbaaaGreat
