/- Contracts. -/
import Derived.Test.YtflkjkhijcdbaaaGreatKc
set_option maxHeartbeats 16000000
set_option maxRecDepth 100000
set_option linter.all false
namespace Go.Proofs.YtflkjkhijcdbaaaGreat
open Go Go.RowKit Wx Go.Proofs.Tryz
attribute [local irreducible] lsH rsH stars
theorem Ib:(prog.info? 5).map (fun i=>(i.zero,i.size,i.bytes))=some (some (.int .u8 0),1,1):=by kernel_rfl
theorem lm_info3:(prog.info? 3).map (fun i=>(i.zero,i.size,i.bytes))=some (some (I64 0),1,8):=by kernel_rfl
theorem V9 {P:Program}{p:PE}{d:Option Tmp}{ty:TypeId}{pos:String}{af:Array Edge}{gd:Option (Nat×Bool)}{x y:Operand}{t t':TypeId}{a b:ByteArray}(hx:evp p x=some (.string a))(hy:evp p y=some (.string b))(h:a.size+b.size<=9223372036854775807):Pu P p ⟨d,.binOp .add t x y t',ty,pos,af,gd⟩ (.string (a++b)):=fun f w c=>by
 have e: ¬ (((a.size+b.size:Nat):Int)>IntKind.i64.max):=by show ¬ (((a.size+b.size:Nat):Int)>9223372036854775807);omega
 simp only [execOp,Zp c hx,Zp c hy,eqGuard,Go.binOp,Op.stringOp,if_neg e];rfl
theorem Gu (n:Int):(Zke [n]).size=1:=rfl
theorem Vc (a b:ByteArray):(a++b).size=a.size+b.size:=ByteArray.size_append
theorem Tz (l:List UInt8):(ByteArray.mk l.toArray).size=l.length:=rfl
end Go.Proofs.YtflkjkhijcdbaaaGreat
