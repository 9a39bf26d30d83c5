/- Contracts. -/
import Derived.Test.YtflkjkhijcdbaaaGreatKn
set_option maxHeartbeats 16000000
set_option maxRecDepth 100000
set_option linter.all false
namespace Go.Proofs.YtflkjkhijcdbaaaGreat
open Go Go.RowKit Wx Go.Proofs.Tryz
attribute [local irreducible] lsH rsH stars
theorem quo10 {m:Int}(h:0<=m):m.tdiv 10=m / 10:=Int.tdiv_eq_ediv_of_nonneg h
theorem rem10 {m:Int}(h:0<=m):0<=m.tmod 10/\m.tmod 10<10:=by rw [Int.tmod_eq_emod_of_nonneg h];omega
section
variable {G:World}{q:List HP}
abbrev Bz (v0:List HP):=(Ret fun v q'=> ∃ s:ByteArray,s.size<=4294967296/\v= .string s/\q'=v0)
theorem itoa_ok {n:Int}(h1: -2147483648<=n)(h2:n<=2147483647):CallF prog G 35 [I64 n] (q) (Bz q):=by
 refine aC func35 ntmps35 rfl fun F l=> ?_;refine xx 10 ?_;refine xp 6 ?_ ?_<;>intro j
 . refine xx 5 ?_;refine Zq (q) func35 (Zh results35 rfl) ⟨_,rfl,_,by decide,rfl,rfl⟩
 refine xx 16 ?_;have g:IntKind.i64.wrap (0 - n)=0 - n:=Uk (by omega) (by omega);refine cU 4 (I64 (max n (0 - n))) rfl (by rw [g]) ?_;refine aZ (cD (fun (s:Int×ByteArray)=>0<=s.1/\s.1+s.2.size<=2147483648) (fun s=> [(0,I64 n),(3,.string s.2),(4,I64 s.1)]) (fun s=>q++F) (fun s=>s.1.toNat) (fun s a e=> ?_) (max n (0 - n),⟨#[]⟩) ⟨by omega,by show _+((0:Nat):Int)<=_;omega⟩) Zg leA;try dsimp only at a e|-
 obtain ⟨b,h⟩:=a;obtain ⟨m,z⟩:=s;dsimp only at*;have i:=rem10 b;have f:IntKind.i64.wrap (m.tdiv 10)=m / 10:=(by rw [quo10 b];exact Uk (by omega) (by omega));refine xo 7 ?_;refine bI (Vw (u:=_) (Value.int .u8) underlying57 Ib rfl rfl) ?_;rintro _ _ ⟨k,rfl,rfl⟩;refine Oq [_] underlying57 underlying5 underlying9 (bQ _) ?_;refine oo 1 ?_;refine Zi (V9 rfl rfl (by first|omega|(simp only [Vc,Gu];omega))) ?_;refine ox 13 ?_;refine xp 22 ?_ ?_<;>intro h1
 . refine xx 8 ?_;refine xp 24 ?_ ?_<;>intro h2
   focus
    have d:(ByteArray.mk #[40,45]).size=2:=rfl;have c:(ByteArray.mk #[41]).size=1:=rfl;refine xo 4 ?_;refine Zi (V9 rfl rfl (by first|omega|(simp only [Vc,Gu];omega))) ?_;refine Zi (V9 rfl rfl (by first|omega|(simp only [Vc,Gu];omega))) ?_;refine ox 2 ?_
   rotate_left
   focus
    have d:(ByteArray.mk #[40,45]).size=2:=rfl;have c:(ByteArray.mk #[41]).size=1:=rfl;refine xx 7 ?_
   all_goals
    refine Zq (q) func35 (Zh results35 rfl) ⟨_,rfl,_,(by first|omega|(simp only [Vc,Gu];omega)),rfl,rfl⟩
 rw [f] at h1;refine cU 4 (I64 (m / 10)) rfl (by rw [f]) ?_;refine xx 3 ?_;refine aZ (e (m / 10,Zke [IntKind.u8.wrap (48+m.tmod 10)]++z) ⟨by omega,by rw [Vc,Gu];omega⟩ (by dsimp only;omega)) Zg leA
end
end Go.Proofs.YtflkjkhijcdbaaaGreat
