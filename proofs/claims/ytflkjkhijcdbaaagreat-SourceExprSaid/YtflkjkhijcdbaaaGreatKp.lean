/- Contracts. -/
import Derived.Test.YtflkjkhijcdbaaaGreatKj
import Derived.Test.YtflkjkhijcdbaaaGreatKo
set_option maxHeartbeats 16000000
set_option maxRecDepth 100000
set_option linter.all false
namespace Go.Proofs.YtflkjkhijcdbaaaGreat
open Go Go.RowKit Wx Go.Proofs.Tryz
attribute [local irreducible] lsH rsH stars
section
variable {G:World}{q:List HP}{s:ByteArray}
theorem Rc {n:Int}(h1: -2147483648<=n)(h2:n<=2147483647):CallF prog G 34 [.int .i32 n] (q) (Bz q):=by
 refine aC func34 ntmps34 rfl fun F c=> ?_;refine xo 8 ?_;refine Zx call35 (aD _) (itoa_ok (by omega) (by omega)) ?_;rintro _ _ ⟨b,a,rfl,rfl⟩;refine ox 2 ?_;refine Zq (q) func34 (Zh results34 rfl) ⟨_,rfl,_,a,rfl,rfl⟩
theorem Cf {n0 n1 n2 n3:Int}(a0: -2147483648<=n0)(b0:n0<=2147483647)(a1: -2147483648<=n1)(b1:n1<=2147483647)(a2: -2147483648<=n2)(b2:n2<=2147483647)(a3: -2147483648<=n3)(b3:n3<=2147483647):CallF prog G 9 [.string s,.agg [.int .i32 n0,.int .i32 n1,.int .i32 n2,.int .i32 n3].toArray] (q) (Am q):=by
 refine aC func9 ntmps9 rfl fun F l=> ?_;refine xo 2 ?_;refine Z0 fun j=> ?_
 refine ox 9 ?_;refine xp 9 ?_ ?_<;>intro k
 focus
  refine xo 3 ?_;refine Yi call14 (U1 (q:= [])) ?_
 rotate_left
 focus
  refine rn [7,0,1] ?_;refine Vx 1 rfl (Jv rfl rfl underlying85 sizeOf21 (by omega) (by omega)) ?_;refine rn [3,7] ?_;refine Vx 7 rfl (Jv rfl rfl underlying85 sizeOf21 (by omega) (by omega)) ?_;refine rn [9,13] ?_;refine Vx 13 rfl (Jv rfl rfl underlying85 sizeOf21 (by omega) (by omega)) ?_;refine rn [15,19] ?_;refine Vx 19 rfl (Jv rfl rfl underlying85 sizeOf21 (by omega) (by omega)) ?_;refine rn [21,25] ?_;refine XD.cVX 3 (aD _) (CallV.c10 call34 (Rc a0 b0)) ?_;rintro _ _ ⟨i,e,rfl,rfl⟩;refine ⟨hlA,?_⟩;refine Vx 4 rfl (V9 rfl rfl (by simp only [Vc,Tz,cC,aL];omega)) ?_;refine Vx 5 rfl (V9 rfl rfl (by simp only [Vc,Tz,cC,aL];omega)) ?_;refine XD.cVX 9 (aD _) (CallV.c10 call34 (Rc a1 b1)) ?_;rintro _ _ ⟨h,d,rfl,rfl⟩;refine ⟨hlA,?_⟩;refine Vx 10 rfl (V9 rfl rfl (by simp only [Vc,Tz,cC,aL];omega)) ?_;refine Vx 11 rfl (V9 rfl rfl (by simp only [Vc,Tz,cC,aL];omega)) ?_;refine XD.cVX 15 (aD _) (CallV.c10 call34 (Rc a2 b2)) ?_;rintro _ _ ⟨g,c,rfl,rfl⟩;refine ⟨hlA,?_⟩;refine Vx 16 rfl (V9 rfl rfl (by simp only [Vc,Tz,cC,aL];omega)) ?_;refine Vx 17 rfl (V9 rfl rfl (by simp only [Vc,Tz,cC,aL];omega)) ?_;refine XD.cVX 21 (aD _) (CallV.c10 call34 (Rc a3 b3)) ?_;rintro _ _ ⟨f,b,rfl,rfl⟩;refine ⟨trivial,?_⟩;refine Vx 22 rfl (V9 rfl rfl (by simp only [Vc,Tz,cC,aL];omega)) ?_;refine Vx 23 rfl (V9 rfl rfl (by simp only [Vc,Tz,cC,aL];omega)) ?_;refine Vx 25 rfl (V9 rfl rfl (by simp only [Vc,Tz,cC,aL];omega)) ?_;refine Vx 26 rfl (V9 rfl rfl (by simp only [Vc,Tz,cC,aL];omega)) ?_;refine rn [28,0,3] ?_;refine bI (Y6 I64 [(0:Int),0,0,0,0,0] underlying22 lm_info3 rfl rfl rfl rfl rfl rfl (fun _=>rfl)) ?_;rintro _ _ ⟨a,rfl,rfl⟩;refine Yi call6 (K8 (q:= [lsH I64 3 (some ⟨a,0,none⟩) 6 [(0:Int),0,0,0,0,0]]) (picks:= [(0:Int),0,0,0,0,0]) (pa:=some ⟨a,0,none⟩) (pc:=6) (bQ _) (by decide)) ?_
 all_goals
  refine kd0 ?_;refine ox 2 ?_;refine Zq (q) func9 (Zh results9 rfl) ⟨_,rfl,rfl,rfl⟩
end
end Go.Proofs.YtflkjkhijcdbaaaGreat
