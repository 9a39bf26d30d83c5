/- Contracts. -/
import Derived.Test.YtflkjkhijcdbaaaGreatKj
import Derived.Test.YtflkjkhijcdbaaaGreatKl
import Derived.Test.YtflkjkhijcdbaaaGreatKn
set_option maxHeartbeats 16000000
set_option maxRecDepth 100000
set_option linter.all false
namespace Go.Proofs.YtflkjkhijcdbaaaGreat
open Go Go.RowKit Wx Go.Proofs.Tryz
attribute [local irreducible] lsH rsH stars
section
variable {G:World}{q:List HP}
theorem Sf {k n:Int}(h1:0<=k)(h2:k<=255)(h3:0<=n)(h4:n<=255):CallF prog G 36 [.int .u8 k,.int .u8 n] (q) (Ret fun v q'=> ∃ s:ByteArray,v= .string s/\q'=q):=by
 refine aC func36 ntmps36 rfl fun F b=> ?_;refine xo 9 ?_;refine bI (Vw (u:=_) (Value.int .u8) underlying57 Ib rfl rfl) ?_;rintro _ _ ⟨a,rfl,rfl⟩;refine Oq [_] underlying57 underlying5 underlying9 (bQ _) ?_;refine ox 14 ?_;refine xp 13 ?_ ?_<;>intro h1
 focus
  refine xo 4 ?_
 rotate_left
 focus
  refine xx 6 ?_;refine xp 18 ?_ ?_<;>intro h2
  focus
   refine xo 4 ?_
  rotate_left
  focus
   refine xx 6 ?_;refine xp 23 ?_ ?_<;>intro h3
   focus
    refine xo 4 ?_
   rotate_left
   focus
    refine xx 6 ?_;refine xp 28 ?_ ?_<;>intro h4
    focus
     refine xo 4 ?_
    rotate_left
    focus
     refine xo 6 ?_
 all_goals
  refine Zi (V9 rfl rfl (by simp only [Vc,Gu];decide)) ?_;refine Zi (V9 rfl rfl (by simp only [Vc,Gu];decide)) ?_;refine ox 2 ?_;refine Zq (q) func36 (Zh results36 rfl) ⟨_,rfl,_,rfl,rfl⟩
variable {picks:List Int}{pa:Option Addr}{pc:Nat}
abbrev B8 (v0:List Int):=(v0.length - min v0.length 60)
theorem Fg {k n:Int}(h1:0<=k)(h2:k<=255)(h3:0<=n)(h4:n<=255)(hc:picks.length<=pc)(hs:Sees q pa (picks.map I64))(hk: ∀ k∈picks, -9223372036854775808<=k/\k<=9223372036854775807):CallF prog G 10 [.int .u8 k,.int .u8 n,.slice pa picks.length pc] (q) (Am q):=by
 refine aC func10 ntmps10 rfl fun F h=> ?_;refine xx 11 ?_;refine xp 9 ?_ ?_<;>intro g
 . refine xo 3 ?_;refine Yi call14 (U1 (q:= [])) ?_;refine kd0 ?_;refine ox 2 ?_;refine Zq (q) func10 (Zh results10 rfl) ⟨_,rfl,rfl,rfl⟩
 have d:((picks.length:Int) - min (picks.length:Int) 60).toNat=picks.length - min picks.length 60:=(by omega);have b:=hs.suf (l:=picks.length - min picks.length 60) (c:=pc) (sz:=1) (by rw [aG];omega);rw [gQ] at b;refine rn [3,0,1,2,4,5,6,7,8] ?_;refine V4 2 call36 (Sf (q:= []) h1 h2 h3 h4) ?_;refine kd1 fun f=> ?_
 refine ⟨trivial,?_⟩;refine bW 18 (.slice pa (picks.take 60).length pc) rfl (by rw [bM];congr 1;omega) ?_;refine Ym 8 call6 (aD _) (K8 (picks:=picks.take 60) (pa:=pa) (pc:=pc) (by rw [List.map_take];exact (hs.le leA).take 60) (fun k a=>hk k (eZ a))) ?_;refine kk0 ?_;refine dd [9,10,11,13,14,15,16,17,18,19,20] ?_;refine V4 12 call36 (Sf (q:= []) h1 h2 h3 h4) ?_;refine kd1 fun e=> ?_
 refine ⟨trivial,?_⟩;refine bW 31 (.slice (Wh pa pc (B8 picks) 1) (picks.drop (B8 picks)).length (pc - (B8 picks))) rfl (by rw [d,bN]) ?_;refine Ym 21 call8 (aD _) (Rx (picks:=picks.drop (B8 picks)) (pa:=Wh pa pc (B8 picks) 1) (pc:=pc - (B8 picks)) (by rw [iS];exact b.le leA) (fun k a=>hk k (gP a))) ?_;refine kk0 ?_;refine dd [22,23] ?_;refine V4 24 call14 (U1 (q:= [])) ?_;refine kc0 ?_;refine rn [26,27,0] ?_;refine Zq (q) func10 (Zh results10 rfl) ⟨_,rfl,rfl,rfl⟩
end
end Go.Proofs.YtflkjkhijcdbaaaGreat
