/- Contracts. -/
import Derived.Test.YtadahhbefdnabaaGreatDoorVb
import Derived.Test.YtadahhbefdnabaaGreatDoorRows
import Derived.KernelRfl
import Derived.LaidEqlPtr
set_option maxHeartbeats 16000000
set_option maxRecDepth 100000
set_option linter.all false
namespace Go.Proofs.YtadahhbefdnabaaGreatDoor
open Go Go.RowKit Wx Go.Proofs.Tryz
variable {p p1 p2:PE}{c1:List Prop}{q C F M q':List HP}{o2 r2:List Oper}{l0 l1:List Value}{n b o sz a0 t0 b0 o0 z0 a1 t1 b1 o1 z1 a2 n1 n2 m i s:Nat}{d1:Tmp}{ps1:String}{af1:Array Edge}{gd1:Option (Nat×Bool)}{x1:Operand}{A A1:Addr}{v1 v2 V:Value}{fz f0 f1:Nat×Nat}{fd:Func}{B:Value->List HP->Prop}{a:Option Addr}
def tbl:Tr:=(.n none (.n none (.n (some (.mk (.int .i64) false 1 none)) (.n none (.n none (.n none (.n (some (.mk (.strct [(3,0),(3,1),(4,2),(43,3),(60,4),(4,5),(2,6),(2,7),(61,8)]) true 9 (some ([(0,1),(1,1),(2,1),(3,1),(4,1),(5,1),(6,1),(7,1),(8,1)], [.int .i64 0,.int .i64 0,.bool false,.int .i64 0,.slice none 0 0,.bool false,.int .i64 0,.int .i64 0,.slice none 0 0])))) (.n (some (.mk (.strct [(121,0),(122,1),(123,2),(22,3),(124,4),(125,5),(45,6),(2,10)]) true 11 (some ([(0,1),(1,1),(2,1),(3,1),(4,1),(5,1),(6,4),(10,1)], [.pointer none,.pointer none,.map none,.slice none 0 0,.pointer none,.slice none 0 0,.int .i64 0,.int .i64 0,.int .i64 0,.int .i64 0,.int .i64 0])))) .e .e) .e) (.n none (.n (some (.mk (.int .i64) false 1 none)) .e .e) .e)) (.n (some (.mk (.strct [(33,0),(41,1),(45,2)]) true 6 (some ([(0,1),(1,1),(2,4)], [.int .u32 0,.slice none 0 0,.int .i64 0,.int .i64 0,.int .i64 0,.int .i64 0])))) (.n none (.n (some (.mk (.int .i64) false 1 none)) .e .e) .e) (.n none (.n none (.n (some (.mk (.int .i64) false 1 none)) .e .e) .e) .e))) (.n (some (.mk (.slc 3) false 1 none)) (.n none (.n none .e (.n none (.n (some (.mk (.slc 332) false 1 none)) .e .e) (.n (some (.mk .other false 1 none)) .e .e))) .e) (.n none (.n none .e (.n (some (.mk (.strct [(121,0),(211,1),(213,2),(23,3),(3,4)]) true 5 (some ([(0,1),(1,1),(2,1),(3,1),(4,1)], [.pointer none,.map none,.slice none 0 0,.slice none 0 0,.int .i64 0])))) (.n (some (.mk .fn false 1 none)) .e .e) .e)) (.n none .e (.n (some (.mk (.strct [(4,0),(23,1),(244,2),(245,3)]) true 4 (some ([(0,1),(1,1),(2,1),(3,1)], [.bool false,.slice none 0 0,.slice none 0 0,.slice none 0 0])))) .e .e))))) (.n none (.n none (.n none (.n none (.n (some (.mk (.int .i64) false 1 none)) .e .e) .e) .e) (.n none (.n none (.n (some (.mk (.strct [(3,0),(143,1),(145,2),(23,6)]) true 7 (some ([(0,1),(1,1),(2,4),(6,1)], [.int .i64 0,.int .i64 0,.int .i64 0,.int .i64 0,.slice none 0 0,.slice none 0 0,.slice none 0 0])))) .e .e) (.n (some (.mk .other false 1 none)) .e .e)) .e)) (.n (some (.mk (.strct [(25,0),(25,1),(25,2),(25,3),(25,4)]) true 5 (some ([(0,1),(1,1),(2,1),(3,1),(4,1)], [.slice none 0 0,.slice none 0 0,.slice none 0 0,.slice none 0 0,.slice none 0 0])))) (.n (some (.mk (.int .i64) false 1 none)) .e (.n (some (.mk (.slc 224) false 1 none)) .e (.n none (.n (some (.mk (.strct []) true 0 (some ([], [])))) .e .e) .e))) (.n (some (.mk (.strct [(54,0),(47,1),(3,7),(3,8),(3,9),(4,10)]) true 11 (some ([(0,1),(1,6),(7,1),(8,1),(9,1),(10,1)], [.pointer none,.int .u32 0,.slice none 0 0,.int .i64 0,.int .i64 0,.int .i64 0,.int .i64 0,.int .i64 0,.int .i64 0,.int .i64 0,.bool false])))) (.n none (.n none .e (.n (some (.mk (.slc 3) false 1 none)) .e .e)) .e) (.n (some (.mk .other false 1 none)) .e (.n (some (.mk (.strct [(249,0),(3,1),(3,2)]) true 3 (some ([(0,1),(1,1),(2,1)], [.slice none 0 0,.int .i64 0,.int .i64 0])))) .e .e)))))) (.n (some (.mk (.int .u8) false 1 none)) (.n (some (.mk .str false 1 none)) (.n none (.n (some (.mk (.int .u32) false 1 none)) (.n none .e (.n none (.n (some (.mk (.strct [(9,0),(3,1),(3,2)]) true 3 (some ([(0,1),(1,1),(2,1)], [.string ⟨#[]⟩,.int .i64 0,.int .i64 0])))) .e .e) .e)) (.n none (.n (some (.mk (.strct [(159,0),(3,1),(3,2)]) true 3 (some ([(0,1),(1,1),(2,1)], [.int .i64 0,.int .i64 0,.int .i64 0])))) .e .e) (.n none (.n (some (.mk .fn false 1 none)) .e .e) .e))) (.n (some (.mk (.strct [(3,0),(3,1)]) true 2 (some ([(0,1),(1,1)], [.int .i64 0,.int .i64 0])))) (.n none (.n (some (.mk (.strct [(3,0),(3,1),(22,2),(22,3)]) true 4 (some ([(0,1),(1,1),(2,1),(3,1)], [.int .i64 0,.int .i64 0,.slice none 0 0,.slice none 0 0])))) .e .e) .e) (.n none (.n none (.n (some (.mk (.strct [(303,0),(104,1),(9,3),(2,4),(128,5)]) true 6 (some ([(0,1),(1,2),(3,1),(4,1),(5,1)], [.int .i64 0,.int .i64 0,.int .i64 0,.string ⟨#[]⟩,.int .i64 0,.slice none 0 0])))) .e .e) .e) .e))) (.n (some (.mk (.slc 9) false 1 none)) (.n (some (.mk (.slc 49) false 1 none)) (.n none (.n none .e (.n (some (.mk (.strct [(121,0),(3,1),(3,2)]) true 3 (some ([(0,1),(1,1),(2,1)], [.pointer none,.int .i64 0,.int .i64 0])))) .e .e)) (.n none (.n (some (.mk (.strct [(121,0),(22,1),(124,2),(327,3),(45,4)]) true 8 (some ([(0,1),(1,1),(2,1),(3,1),(4,4)], [.pointer none,.slice none 0 0,.pointer none,.slice none 0 0,.int .i64 0,.int .i64 0,.int .i64 0,.int .i64 0])))) .e .e) (.n (some (.mk (.strct [(454,0),(455,1)]) true 2 (some ([(0,1),(1,1)], [.map none,.map none])))) .e .e))) (.n none (.n none (.n (some (.mk (.slc 310) false 1 none)) .e .e) .e) .e)) (.n none (.n none .e (.n none (.n (some (.mk (.int .u64) false 1 none)) .e .e) .e)) (.n (some (.mk .ptr false 1 none)) .e (.n (some (.mk (.strct [(22,0)]) true 1 none)) .e .e))))) (.n none (.n none (.n none (.n none (.n (some (.mk (.int .i64) false 1 none)) .e .e) (.n (some (.mk (.slc 305) false 1 none)) .e (.n (some (.mk .other true 70 none)) .e .e))) .e) (.n none (.n none .e (.n (some (.mk (.slc 222) false 1 none)) .e (.n (some (.mk .other true 70 none)) .e .e))) (.n none (.n (some (.mk (.strct [(127,0),(3,11),(130,12),(63,13)]) true 22 (some ([(0,11),(11,1),(12,1),(13,9)], [.pointer none,.pointer none,.map none,.slice none 0 0,.pointer none,.slice none 0 0,.int .i64 0,.int .i64 0,.int .i64 0,.int .i64 0,.int .i64 0,.int .i64 0,.pointer none,.int .i64 0,.int .i64 0,.bool false,.int .i64 0,.slice none 0 0,.bool false,.int .i64 0,.int .i64 0,.slice none 0 0])))) .e .e) (.n (some (.mk (.slc 251) false 1 none)) .e .e)))) (.n (some (.mk (.strct [(22,0),(23,1),(3,2),(3,3),(23,4),(24,5),(3,6),(3,7),(27,8)]) true 13 (some ([(0,1),(1,1),(2,1),(3,1),(4,1),(5,1),(6,1),(7,1),(8,5)], [.slice none 0 0,.slice none 0 0,.int .i64 0,.int .i64 0,.slice none 0 0,.slice none 0 0,.int .i64 0,.int .i64 0,.slice none 0 0,.slice none 0 0,.slice none 0 0,.slice none 0 0,.slice none 0 0])))) (.n (some (.mk (.strct [(42,0),(43,1),(3,2),(3,3)]) true 4 (some ([(0,1),(1,1),(2,1),(3,1)], [.int .i64 0,.int .i64 0,.int .i64 0,.int .i64 0])))) .e (.n (some (.mk (.strct [(22,0),(23,1),(23,2),(3,3),(3,4),(107,5)]) true 6 (some ([(0,1),(1,1),(2,1),(3,1),(4,1),(5,1)], [.slice none 0 0,.slice none 0 0,.slice none 0 0,.int .i64 0,.int .i64 0,.slice none 0 0])))) .e .e)) (.n (some (.mk (.slc 161) false 1 none)) .e (.n (some (.mk (.slc 147) false 1 none)) (.n none (.n (some (.mk (.slc 128) false 1 none)) .e .e) .e) .e)))))) (.n (some (.mk (.int .i64) false 1 none)) (.n (some (.mk .bool false 1 none)) (.n none (.n none (.n none (.n none (.n (some (.mk (.slc 138) false 1 none)) .e .e) .e) (.n (some (.mk (.slc 47) false 1 none)) .e (.n (some (.mk (.strct [(9,0),(3,1),(213,2),(23,3)]) true 4 (some ([(0,1),(1,1),(2,1),(3,1)], [.string ⟨#[]⟩,.int .i64 0,.slice none 0 0,.slice none 0 0])))) .e .e))) (.n none .e (.n none (.n (some (.mk .fn false 1 none)) .e .e) .e))) (.n (some (.mk (.slc 218) false 1 none)) (.n none (.n none (.n (some (.mk (.strct [(132,0),(2,1),(9,2),(3,3),(4,4),(133,5),(134,6)]) true 7 (some ([(0,1),(1,1),(2,1),(3,1),(4,1),(5,1),(6,1)], [.int .i64 0,.int .i64 0,.string ⟨#[]⟩,.int .i64 0,.bool false,.int .i64 0,.slice none 0 0])))) .e .e) .e) (.n (some (.mk (.strct [(3,0),(3,1)]) true 2 (some ([(0,1),(1,1)], [.int .i64 0,.int .i64 0])))) .e .e)) (.n none (.n (some (.mk (.slc 5) false 1 none)) .e .e) .e))) (.n none (.n (some (.mk .ifc false 1 none)) (.n none (.n none (.n (some (.mk (.int .i64) false 1 none)) .e .e) (.n none .e (.n (some (.mk (.strct [(9,0),(3,1)]) true 2 (some ([(0,1),(1,1)], [.string ⟨#[]⟩,.int .i64 0])))) .e .e))) (.n (some (.mk .fn false 1 none)) (.n (some (.mk (.strct [(3,0),(143,1),(22,2),(3,3),(23,4)]) true 5 (some ([(0,1),(1,1),(2,1),(3,1),(4,1)], [.int .i64 0,.int .i64 0,.slice none 0 0,.int .i64 0,.slice none 0 0])))) .e .e) (.n (some (.mk (.strct [(88,0)]) true 1 (some ([(0,1)], [.slice none 0 0])))) (.n (some (.mk .ptr false 1 none)) .e .e) .e))) (.n none (.n none (.n none (.n (some (.mk (.strct [(274,0)]) true 1 (some ([(0,1)], [.slice none 0 0])))) .e .e) .e) (.n none (.n (some (.mk .fn false 1 none)) .e .e) (.n (some (.mk (.strct [(3,0),(3,1)]) true 2 (some ([(0,1),(1,1)], [.int .i64 0,.int .i64 0])))) .e .e))) (.n (some (.mk (.strct [(47,0),(54,6),(3,7),(3,8),(3,9),(4,10),(3,11)]) true 12 (some ([(0,6),(6,1),(7,1),(8,1),(9,1),(10,1),(11,1)], [.int .u32 0,.slice none 0 0,.int .i64 0,.int .i64 0,.int .i64 0,.int .i64 0,.pointer none,.int .i64 0,.int .i64 0,.int .i64 0,.bool false,.int .i64 0])))) (.n none (.n (some (.mk (.int .i64) false 1 none)) .e .e) .e) (.n (some (.mk (.slc 268) false 1 none)) .e .e)))) (.n none (.n none (.n none (.n none (.n (some (.mk (.strct [(266,0)]) true 1 none)) .e .e) .e) (.n none (.n (some (.mk (.strct [(3,0),(143,1),(22,2),(330,3),(23,4)]) true 5 (some ([(0,1),(1,1),(2,1),(3,1),(4,1)], [.int .i64 0,.int .i64 0,.slice none 0 0,.slice none 0 0,.slice none 0 0])))) .e .e) .e)) .e) (.n (some (.mk (.slc 158) false 1 none)) (.n none (.n none (.n (some (.mk (.strct [(43,0)]) true 1 (some ([(0,1)], [.int .i64 0])))) .e .e) .e) (.n (some (.mk (.int .i64) false 1 none)) .e .e)) (.n (some (.mk .ptr false 1 none)) (.n none (.n (some (.mk (.strct [(29,0),(314,13),(2,14),(3,15),(3,16),(104,17),(3,19)]) true 20 (some ([(0,13),(13,1),(14,1),(15,1),(16,1),(17,2),(19,1)], [.slice none 0 0,.slice none 0 0,.int .i64 0,.int .i64 0,.slice none 0 0,.slice none 0 0,.int .i64 0,.int .i64 0,.slice none 0 0,.slice none 0 0,.slice none 0 0,.slice none 0 0,.slice none 0 0,.slice none 0 0,.int .i64 0,.int .i64 0,.int .i64 0,.int .i64 0,.int .i64 0,.int .i64 0])))) .e .e) .e) .e))))) (.n none (.n none (.n none (.n (some (.mk (.int .i64) false 1 none)) (.n none (.n (some (.mk .ptr false 1 none)) .e .e) (.n (some (.mk (.strct [(47,0),(3,6),(3,7),(3,8)]) true 9 (some ([(0,6),(6,1),(7,1),(8,1)], [.int .u32 0,.slice none 0 0,.int .i64 0,.int .i64 0,.int .i64 0,.int .i64 0,.int .i64 0,.int .i64 0,.int .i64 0])))) .e .e)) (.n none .e (.n (some (.mk .ptr false 1 none)) .e .e))) (.n (some (.mk (.slc 63) false 1 none)) (.n none (.n none (.n (some (.mk (.strct [(88,0)]) true 1 (some ([(0,1)], [.slice none 0 0])))) .e .e) (.n (some (.mk .fn false 1 none)) .e .e)) (.n (some (.mk .ptr false 1 none)) .e .e)) .e)) (.n none (.n (some (.mk (.int .i64) false 1 none)) (.n none (.n (some (.mk (.strct [(131,0),(104,1),(9,3),(9,4),(136,5),(136,12),(128,19),(128,20),(3,21),(3,22),(3,23),(4,24)]) true 25 (some ([(0,1),(1,2),(3,1),(4,1),(5,7),(12,7),(19,1),(20,1),(21,1),(22,1),(23,1),(24,1)], [.int .i64 0,.int .i64 0,.int .i64 0,.string ⟨#[]⟩,.string ⟨#[]⟩,.int .i64 0,.int .i64 0,.string ⟨#[]⟩,.int .i64 0,.bool false,.int .i64 0,.slice none 0 0,.int .i64 0,.int .i64 0,.string ⟨#[]⟩,.int .i64 0,.bool false,.int .i64 0,.slice none 0 0,.slice none 0 0,.slice none 0 0,.int .i64 0,.int .i64 0,.int .i64 0,.bool false])))) (.n (some (.mk (.strct [(23,0)]) true 1 none)) .e .e) .e) (.n none (.n (some (.mk (.slc 130) false 1 none)) .e .e) .e)) (.n none .e (.n none (.n (some (.mk (.strct []) true 0 (some ([], [])))) .e .e) .e))) (.n none (.n none (.n none .e (.n (some (.mk .ptr false 1 none)) .e .e)) (.n (some (.mk (.strct [(9,0),(3,1),(128,2)]) true 3 (some ([(0,1),(1,1),(2,1)], [.string ⟨#[]⟩,.int .i64 0,.slice none 0 0])))) .e .e)) (.n (some (.mk .ptr false 1 none)) (.n none (.n (some (.mk (.slc 321) false 1 none)) .e .e) .e) .e)))) (.n none (.n (some (.mk (.slc 2) false 1 none)) (.n none (.n none (.n (some (.mk (.slc 136) false 1 none)) .e .e) (.n none .e (.n (some (.mk .other false 1 none)) .e .e))) (.n none (.n none (.n (some (.mk (.strct [(34,0)]) true 1 (some ([(0,1)], [.int .i64 0])))) .e .e) .e) (.n (some (.mk (.strct [(228,0)]) true 1 (some ([(0,1)], [.slice none 0 0])))) .e (.n (some (.mk (.strct []) true 0 (some ([], [])))) .e .e)))) (.n (some (.mk .ptr false 1 none)) .e (.n (some (.mk (.strct [(116,0)]) true 12 (some ([(0,12)], [.int .u32 0,.slice none 0 0,.int .i64 0,.int .i64 0,.int .i64 0,.int .i64 0,.pointer none,.int .i64 0,.int .i64 0,.int .i64 0,.bool false,.int .i64 0])))) (.n none (.n (some (.mk (.strct [(308,0),(9,1),(2,2),(104,3)]) true 5 (some ([(0,1),(1,1),(2,1),(3,2)], [.int .i64 0,.string ⟨#[]⟩,.int .i64 0,.int .i64 0,.int .i64 0])))) .e .e) .e) .e))) (.n none (.n none (.n (some (.mk .ptr false 1 none)) .e (.n none .e (.n (some (.mk .fn false 1 none)) .e .e))) (.n none (.n none (.n (some (.mk (.strct [(297,0),(3,1),(4,2)]) true 3 (some ([(0,1),(1,1),(2,1)], [.slice none 0 0,.int .i64 0,.bool false])))) .e .e) .e) .e)) (.n none (.n none (.n (some (.mk (.strct [(3,0),(4,1),(2,2)]) true 3 (some ([(0,1),(1,1),(2,1)], [.int .i64 0,.bool false,.int .i64 0])))) .e .e) (.n (some (.mk (.strct [(220,0),(3,1),(3,2),(2,3)]) true 4 (some ([(0,1),(1,1),(2,1),(3,1)], [.int .i64 0,.int .i64 0,.int .i64 0,.int .i64 0])))) (.n (some (.mk (.strct [(9,0),(4,1),(4,2),(4,3)]) true 4 (some ([(0,1),(1,1),(2,1),(3,1)], [.string ⟨#[]⟩,.bool false,.bool false,.bool false])))) .e .e) .e)) (.n none (.n none .e (.n (some (.mk .other true 12 none)) .e .e)) .e)))))))
theorem Uw:tbl.ok prog id:=⟨trivial,⟨trivial,⟨⟨underlying3,isAgg3,sizeOf3,trivial⟩,⟨trivial,⟨trivial,⟨trivial,⟨⟨⟨_,underlying63,rfl⟩,isAgg63,sizeOf63,⟨zeroValue63,_,underlying63,by kernel_rfl⟩⟩,⟨⟨⟨_,underlying127,rfl⟩,isAgg127,sizeOf127,⟨zeroValue127,_,underlying127,by kernel_rfl⟩⟩,trivial,trivial⟩,trivial⟩,⟨trivial,⟨⟨underlying159,isAgg159,sizeOf159,trivial⟩,trivial,trivial⟩,trivial⟩⟩,⟨⟨⟨_,underlying47,rfl⟩,isAgg47,sizeOf47,⟨zeroValue47,_,underlying47,by kernel_rfl⟩⟩,⟨trivial,⟨⟨underlying143,isAgg143,sizeOf143,trivial⟩,trivial,trivial⟩,trivial⟩,⟨trivial,⟨trivial,⟨⟨underlying303,isAgg303,sizeOf303,trivial⟩,trivial,trivial⟩,trivial⟩,trivial⟩⟩⟩,⟨⟨underlying23,isAgg23,sizeOf23,trivial⟩,⟨trivial,⟨trivial,trivial,⟨trivial,⟨⟨underlying327,isAgg327,sizeOf327,trivial⟩,trivial,trivial⟩,⟨⟨⟨_,underlying455,rfl⟩,isAgg455,sizeOf455,trivial⟩,trivial,trivial⟩⟩⟩,trivial⟩,⟨trivial,⟨trivial,trivial,⟨⟨⟨_,underlying215,rfl⟩,isAgg215,sizeOf215,⟨zeroValue215,_,underlying215,by kernel_rfl⟩⟩,⟨⟨⟨_,_,_,underlying343⟩,isAgg343,sizeOf343,trivial⟩,trivial,trivial⟩,trivial⟩⟩,⟨trivial,trivial,⟨⟨⟨_,underlying247,rfl⟩,isAgg247,sizeOf247,⟨zeroValue247,_,underlying247,by kernel_rfl⟩⟩,trivial,trivial⟩⟩⟩⟩⟩,⟨trivial,⟨trivial,⟨trivial,⟨trivial,⟨⟨underlying131,isAgg131,sizeOf131,trivial⟩,trivial,trivial⟩,trivial⟩,trivial⟩,⟨trivial,⟨trivial,⟨⟨⟨_,underlying147,rfl⟩,isAgg147,sizeOf147,⟨zeroValue147,_,underlying147,by kernel_rfl⟩⟩,trivial,trivial⟩,⟨⟨⟨_,underlying211,rfl⟩,isAgg211,sizeOf211,trivial⟩,trivial,trivial⟩⟩,trivial⟩⟩,⟨⟨⟨_,underlying27,rfl⟩,isAgg27,sizeOf27,⟨zeroValue27,_,underlying27,by kernel_rfl⟩⟩,⟨⟨underlying43,isAgg43,sizeOf43,trivial⟩,trivial,⟨⟨underlying107,isAgg107,sizeOf107,trivial⟩,trivial,⟨trivial,⟨⟨⟨_,underlying363,rfl⟩,isAgg363,sizeOf363,⟨zeroValue363,_,underlying363,by kernel_rfl⟩⟩,trivial,trivial⟩,trivial⟩⟩⟩,⟨⟨⟨_,underlying59,rfl⟩,isAgg59,sizeOf59,⟨zeroValue59,_,underlying59,by kernel_rfl⟩⟩,⟨trivial,⟨trivial,trivial,⟨⟨underlying411,isAgg411,sizeOf411,trivial⟩,trivial,trivial⟩⟩,trivial⟩,⟨⟨⟨_,underlying123,rfl⟩,isAgg123,sizeOf123,trivial⟩,trivial,⟨⟨⟨_,underlying251,rfl⟩,isAgg251,sizeOf251,⟨zeroValue251,_,underlying251,by kernel_rfl⟩⟩,trivial,trivial⟩⟩⟩⟩⟩⟩,⟨⟨underlying5,isAgg5,sizeOf5,trivial⟩,⟨⟨underlying9,isAgg9,sizeOf9,trivial⟩,⟨trivial,⟨⟨underlying33,isAgg33,sizeOf33,trivial⟩,⟨trivial,trivial,⟨trivial,⟨⟨⟨_,underlying321,rfl⟩,isAgg321,sizeOf321,⟨zeroValue321,_,underlying321,by kernel_rfl⟩⟩,trivial,trivial⟩,trivial⟩⟩,⟨trivial,⟨⟨⟨_,underlying161,rfl⟩,isAgg161,sizeOf161,⟨zeroValue161,_,underlying161,by kernel_rfl⟩⟩,trivial,trivial⟩,⟨trivial,⟨⟨⟨_,_,_,underlying353⟩,isAgg353,sizeOf353,trivial⟩,trivial,trivial⟩,trivial⟩⟩⟩,⟨⟨⟨_,underlying49,rfl⟩,isAgg49,sizeOf49,⟨zeroValue49,_,underlying49,by kernel_rfl⟩⟩,⟨trivial,⟨⟨⟨_,underlying145,rfl⟩,isAgg145,sizeOf145,⟨zeroValue145,_,underlying145,by kernel_rfl⟩⟩,trivial,trivial⟩,trivial⟩,⟨trivial,⟨trivial,⟨⟨⟨_,underlying305,rfl⟩,isAgg305,sizeOf305,⟨zeroValue305,_,underlying305,by kernel_rfl⟩⟩,trivial,trivial⟩,trivial⟩,trivial⟩⟩⟩,⟨⟨underlying25,isAgg25,sizeOf25,trivial⟩,⟨⟨underlying41,isAgg41,sizeOf41,trivial⟩,⟨trivial,⟨trivial,trivial,⟨⟨⟨_,underlying393,rfl⟩,isAgg393,sizeOf393,⟨zeroValue393,_,underlying393,by kernel_rfl⟩⟩,trivial,trivial⟩⟩,⟨trivial,⟨⟨⟨_,underlying329,rfl⟩,isAgg329,sizeOf329,⟨zeroValue329,_,underlying329,by kernel_rfl⟩⟩,trivial,trivial⟩,⟨⟨⟨_,underlying457,rfl⟩,isAgg457,sizeOf457,⟨zeroValue457,_,underlying457,by kernel_rfl⟩⟩,trivial,trivial⟩⟩⟩,⟨trivial,⟨trivial,⟨⟨underlying297,isAgg297,sizeOf297,trivial⟩,trivial,trivial⟩,trivial⟩,trivial⟩⟩,⟨trivial,⟨trivial,trivial,⟨trivial,⟨⟨underlying345,isAgg345,sizeOf345,trivial⟩,trivial,trivial⟩,trivial⟩⟩,⟨⟨⟨_,underlying121⟩,isAgg121,sizeOf121,trivial⟩,trivial,⟨⟨⟨_,underlying249,rfl⟩,isAgg249,sizeOf249,trivial⟩,trivial,trivial⟩⟩⟩⟩⟩,⟨trivial,⟨trivial,⟨trivial,⟨trivial,⟨⟨underlying133,isAgg133,sizeOf133,trivial⟩,trivial,trivial⟩,⟨⟨underlying197,isAgg197,sizeOf197,trivial⟩,trivial,⟨⟨⟨_,underlying453,rfl⟩,isAgg453,sizeOf453,trivial⟩,trivial,trivial⟩⟩⟩,trivial⟩,⟨trivial,⟨trivial,trivial,⟨⟨underlying213,isAgg213,sizeOf213,trivial⟩,trivial,⟨⟨⟨_,underlying469,rfl⟩,isAgg469,sizeOf469,trivial⟩,trivial,trivial⟩⟩⟩,⟨trivial,⟨⟨⟨_,underlying181,rfl⟩,isAgg181,sizeOf181,⟨zeroValue181,_,underlying181,by kernel_rfl⟩⟩,trivial,trivial⟩,⟨⟨underlying245,isAgg245,sizeOf245,trivial⟩,trivial,trivial⟩⟩⟩⟩,⟨⟨⟨_,underlying29,rfl⟩,isAgg29,sizeOf29,⟨zeroValue29,_,underlying29,by kernel_rfl⟩⟩,⟨⟨⟨_,underlying45,rfl⟩,isAgg45,sizeOf45,⟨zeroValue45,_,underlying45,by kernel_rfl⟩⟩,trivial,⟨⟨⟨_,underlying109,rfl⟩,isAgg109,sizeOf109,⟨zeroValue109,_,underlying109,by kernel_rfl⟩⟩,trivial,trivial⟩⟩,⟨⟨underlying61,isAgg61,sizeOf61,trivial⟩,trivial,⟨⟨underlying125,isAgg125,sizeOf125,trivial⟩,⟨trivial,⟨⟨underlying317,isAgg317,sizeOf317,trivial⟩,trivial,trivial⟩,trivial⟩,trivial⟩⟩⟩⟩⟩⟩,⟨⟨underlying2,isAgg2,sizeOf2,trivial⟩,⟨⟨underlying4,isAgg4,sizeOf4,trivial⟩,⟨trivial,⟨trivial,⟨trivial,⟨trivial,⟨⟨underlying128,isAgg128,sizeOf128,trivial⟩,trivial,trivial⟩,trivial⟩,⟨⟨underlying96,isAgg96,sizeOf96,trivial⟩,trivial,⟨⟨⟨_,underlying224,rfl⟩,isAgg224,sizeOf224,⟨zeroValue224,_,underlying224,by kernel_rfl⟩⟩,trivial,trivial⟩⟩⟩,⟨trivial,trivial,⟨trivial,⟨⟨⟨_,_,_,underlying176⟩,isAgg176,sizeOf176,trivial⟩,trivial,trivial⟩,trivial⟩⟩⟩,⟨⟨underlying24,isAgg24,sizeOf24,trivial⟩,⟨trivial,⟨trivial,⟨⟨⟨_,underlying136,rfl⟩,isAgg136,sizeOf136,⟨zeroValue136,_,underlying136,by kernel_rfl⟩⟩,trivial,trivial⟩,trivial⟩,⟨⟨⟨_,underlying104,rfl⟩,isAgg104,sizeOf104,⟨zeroValue104,_,underlying104,by kernel_rfl⟩⟩,trivial,trivial⟩⟩,⟨trivial,⟨⟨underlying88,isAgg88,sizeOf88,trivial⟩,trivial,trivial⟩,trivial⟩⟩⟩,⟨trivial,⟨⟨⟨_,underlying20⟩,isAgg20,sizeOf20,trivial⟩,⟨trivial,⟨trivial,⟨⟨underlying132,isAgg132,sizeOf132,trivial⟩,trivial,trivial⟩,⟨trivial,trivial,⟨⟨⟨_,underlying452,rfl⟩,isAgg452,sizeOf452,⟨zeroValue452,_,underlying452,by kernel_rfl⟩⟩,trivial,trivial⟩⟩⟩,⟨⟨⟨_,_,_,underlying100⟩,isAgg100,sizeOf100,trivial⟩,⟨⟨⟨_,underlying164,rfl⟩,isAgg164,sizeOf164,⟨zeroValue164,_,underlying164,by kernel_rfl⟩⟩,trivial,trivial⟩,⟨⟨⟨_,underlying228,rfl⟩,isAgg228,sizeOf228,⟨zeroValue228,_,underlying228,by kernel_rfl⟩⟩,⟨⟨⟨_,underlying356⟩,isAgg356,sizeOf356,trivial⟩,trivial,trivial⟩,trivial⟩⟩⟩,⟨trivial,⟨trivial,⟨trivial,⟨⟨⟨_,underlying276,rfl⟩,isAgg276,sizeOf276,⟨zeroValue276,_,underlying276,by kernel_rfl⟩⟩,trivial,trivial⟩,trivial⟩,⟨trivial,⟨⟨⟨_,_,_,underlying340⟩,isAgg340,sizeOf340,trivial⟩,trivial,trivial⟩,⟨⟨⟨_,underlying468,rfl⟩,isAgg468,sizeOf468,⟨zeroValue468,_,underlying468,by kernel_rfl⟩⟩,trivial,trivial⟩⟩⟩,⟨⟨⟨_,underlying116,rfl⟩,isAgg116,sizeOf116,⟨zeroValue116,_,underlying116,by kernel_rfl⟩⟩,⟨trivial,⟨⟨underlying308,isAgg308,sizeOf308,trivial⟩,trivial,trivial⟩,trivial⟩,⟨⟨underlying244,isAgg244,sizeOf244,trivial⟩,trivial,trivial⟩⟩⟩⟩,⟨trivial,⟨trivial,⟨trivial,⟨trivial,⟨⟨⟨_,underlying268,rfl⟩,isAgg268,sizeOf268,trivial⟩,trivial,trivial⟩,trivial⟩,⟨trivial,⟨⟨⟨_,underlying332,rfl⟩,isAgg332,sizeOf332,⟨zeroValue332,_,underlying332,by kernel_rfl⟩⟩,trivial,trivial⟩,trivial⟩⟩,trivial⟩,⟨⟨underlying60,isAgg60,sizeOf60,trivial⟩,⟨trivial,⟨trivial,⟨⟨⟨_,underlying284,rfl⟩,isAgg284,sizeOf284,⟨zeroValue284,_,underlying284,by kernel_rfl⟩⟩,trivial,trivial⟩,trivial⟩,⟨⟨underlying220,isAgg220,sizeOf220,trivial⟩,trivial,trivial⟩⟩,⟨⟨⟨_,underlying124⟩,isAgg124,sizeOf124,trivial⟩,⟨trivial,⟨⟨⟨_,underlying316,rfl⟩,isAgg316,sizeOf316,⟨zeroValue316,_,underlying316,by kernel_rfl⟩⟩,trivial,trivial⟩,trivial⟩,trivial⟩⟩⟩⟩⟩,⟨trivial,⟨trivial,⟨trivial,⟨⟨underlying34,isAgg34,sizeOf34,trivial⟩,⟨trivial,⟨⟨⟨_,underlying130⟩,isAgg130,sizeOf130,trivial⟩,trivial,trivial⟩,⟨⟨⟨_,underlying194,rfl⟩,isAgg194,sizeOf194,⟨zeroValue194,_,underlying194,by kernel_rfl⟩⟩,trivial,trivial⟩⟩,⟨trivial,trivial,⟨⟨⟨_,underlying226⟩,isAgg226,sizeOf226,trivial⟩,trivial,trivial⟩⟩⟩,⟨⟨underlying50,isAgg50,sizeOf50,trivial⟩,⟨trivial,⟨trivial,⟨⟨⟨_,underlying274,rfl⟩,isAgg274,sizeOf274,⟨zeroValue274,_,underlying274,by kernel_rfl⟩⟩,trivial,trivial⟩,⟨⟨⟨_,_,_,underlying402⟩,isAgg402,sizeOf402,trivial⟩,trivial,trivial⟩⟩,⟨⟨⟨_,underlying210⟩,isAgg210,sizeOf210,trivial⟩,trivial,trivial⟩⟩,trivial⟩⟩,⟨trivial,⟨⟨underlying42,isAgg42,sizeOf42,trivial⟩,⟨trivial,⟨⟨⟨_,underlying138,rfl⟩,isAgg138,sizeOf138,⟨zeroValue138,_,underlying138,by kernel_rfl⟩⟩,⟨⟨⟨_,underlying266,rfl⟩,isAgg266,sizeOf266,trivial⟩,trivial,trivial⟩,trivial⟩,⟨trivial,⟨⟨underlying330,isAgg330,sizeOf330,trivial⟩,trivial,trivial⟩,trivial⟩⟩,⟨trivial,trivial,⟨trivial,⟨⟨⟨_,underlying362,rfl⟩,isAgg362,sizeOf362,⟨zeroValue362,_,underlying362,by kernel_rfl⟩⟩,trivial,trivial⟩,trivial⟩⟩⟩,⟨trivial,⟨trivial,⟨trivial,trivial,⟨⟨⟨_,underlying410⟩,isAgg410,sizeOf410,trivial⟩,trivial,trivial⟩⟩,⟨⟨⟨_,underlying218,rfl⟩,isAgg218,sizeOf218,⟨zeroValue218,_,underlying218,by kernel_rfl⟩⟩,trivial,trivial⟩⟩,⟨⟨⟨_,underlying122⟩,isAgg122,sizeOf122,trivial⟩,⟨trivial,⟨⟨underlying314,isAgg314,sizeOf314,trivial⟩,trivial,trivial⟩,trivial⟩,trivial⟩⟩⟩⟩,⟨trivial,⟨⟨underlying22,isAgg22,sizeOf22,trivial⟩,⟨trivial,⟨trivial,⟨⟨underlying134,isAgg134,sizeOf134,trivial⟩,trivial,trivial⟩,⟨trivial,trivial,⟨⟨⟨_,underlying454,rfl⟩,isAgg454,sizeOf454,trivial⟩,trivial,trivial⟩⟩⟩,⟨trivial,⟨trivial,⟨⟨⟨_,underlying294,rfl⟩,isAgg294,sizeOf294,⟨zeroValue294,_,underlying294,by kernel_rfl⟩⟩,trivial,trivial⟩,trivial⟩,⟨⟨⟨_,underlying230,rfl⟩,isAgg230,sizeOf230,⟨zeroValue230,_,underlying230,by kernel_rfl⟩⟩,trivial,⟨⟨⟨_,underlying486,rfl⟩,isAgg486,sizeOf486,⟨zeroValue486,_,underlying486,by kernel_rfl⟩⟩,trivial,trivial⟩⟩⟩⟩,⟨⟨⟨_,underlying54⟩,isAgg54,sizeOf54,trivial⟩,trivial,⟨⟨⟨_,underlying118,rfl⟩,isAgg118,sizeOf118,⟨zeroValue118,_,underlying118,by kernel_rfl⟩⟩,⟨trivial,⟨⟨⟨_,underlying310,rfl⟩,isAgg310,sizeOf310,⟨zeroValue310,_,underlying310,by kernel_rfl⟩⟩,trivial,trivial⟩,trivial⟩,trivial⟩⟩⟩,⟨trivial,⟨trivial,⟨⟨⟨_,underlying78⟩,isAgg78,sizeOf78,trivial⟩,trivial,⟨trivial,trivial,⟨⟨⟨_,_,_,underlying462⟩,isAgg462,sizeOf462,trivial⟩,trivial,trivial⟩⟩⟩,⟨trivial,⟨trivial,⟨⟨⟨_,underlying302,rfl⟩,isAgg302,sizeOf302,⟨zeroValue302,_,underlying302,by kernel_rfl⟩⟩,trivial,trivial⟩,trivial⟩,trivial⟩⟩,⟨trivial,⟨trivial,⟨⟨⟨_,underlying158,rfl⟩,isAgg158,sizeOf158,⟨zeroValue158,_,underlying158,by kernel_rfl⟩⟩,trivial,trivial⟩,⟨⟨⟨_,underlying222,rfl⟩,isAgg222,sizeOf222,⟨zeroValue222,_,underlying222,by kernel_rfl⟩⟩,⟨⟨⟨_,underlying350,rfl⟩,isAgg350,sizeOf350,⟨zeroValue350,_,underlying350,by kernel_rfl⟩⟩,trivial,trivial⟩,trivial⟩⟩,⟨trivial,⟨trivial,trivial,⟨⟨⟨_,underlying446,rfl⟩,isAgg446,sizeOf446,trivial⟩,trivial,trivial⟩⟩,trivial⟩⟩⟩⟩⟩⟩⟩
abbrev zz0:List Value:=[.int .i64 0,.int .i64 0,.bool false,.int .i64 0,.slice none 0 0,.bool false,.int .i64 0,.int .i64 0,.slice none 0 0]
abbrev zz1:List Value:=[.int .i64 0,.int .i64 0,.int .i64 0,.int .i64 0]
abbrev zz2:List Value:=[.int .i64 0,.int .i64 0,.int .i64 0,.string ⟨#[]⟩,.int .i64 0,.slice none 0 0]
abbrev zz3:List Value:=[.int .i64 0,.int .i64 0,.int .i64 0,.string ⟨#[]⟩,.string ⟨#[]⟩,.int .i64 0,.int .i64 0,.string ⟨#[]⟩,.int .i64 0,.bool false,.int .i64 0,.slice none 0 0,.int .i64 0,.int .i64 0,.string ⟨#[]⟩,.int .i64 0,.bool false,.int .i64 0,.slice none 0 0,.slice none 0 0,.slice none 0 0,.int .i64 0,.int .i64 0,.int .i64 0,.bool false]
abbrev zz4:List Value:=[.int .i64 0,.int .i64 0,.string ⟨#[]⟩,.int .i64 0,.bool false,.int .i64 0,.slice none 0 0]
abbrev zz5:List Value:=[.int .i64 0,.int .i64 0]
abbrev zz6:List Value:=[.int .i64 0]
abbrev zz7:List Value:=[.slice none 0 0,.slice none 0 0,.int .i64 0,.int .i64 0,.slice none 0 0,.slice none 0 0,.int .i64 0,.int .i64 0,.slice none 0 0,.slice none 0 0,.slice none 0 0,.slice none 0 0,.slice none 0 0,.slice none 0 0,.int .i64 0,.int .i64 0,.int .i64 0,.int .i64 0,.int .i64 0,.int .i64 0]
abbrev zz8:List Value:=[.slice none 0 0,.slice none 0 0,.int .i64 0,.int .i64 0,.slice none 0 0,.slice none 0 0,.int .i64 0,.int .i64 0,.slice none 0 0,.slice none 0 0,.slice none 0 0,.slice none 0 0,.slice none 0 0]
abbrev zz9:List Value:=[.slice none 0 0,.slice none 0 0,.slice none 0 0,.int .i64 0,.int .i64 0,.slice none 0 0]
abbrev zz10:List Value:=[.slice none 0 0]
abbrev pt (n:Nat):Value:= .pointer (some ⟨n,0,none⟩)
section
variable {G:World}{f:Fc}{Q:Yw}{k k':List Item}{p':PE}{c:List Prop}{ds:List Deferred}{cs:List Frame}{ops l ops' l':List Oper}{pk:PE}{L:Rds}{n':Nat}{done done':List Nat}
theorem xx (m:Nat)(K:X prog G f Q k' p' ds cs q)(h:stn tbl f.n m .code k p []=some ⟨.code,k',p',c⟩:=by exact rfl)(hc:Q6 c:=by repeat (first|exact trivial|refine Wd (by first|omega|(simp;done)|(simp;omega)) ?_)):X prog G f Q k p ds cs q:=stXX Uw m h hc K
theorem xo (m:Nat)(K:XO prog G f Q ops'.toArray k' l' p' ds cs q)(h:stn tbl f.n m .code k p []=some ⟨.ops ops' l',k',p',c⟩:=by exact rfl)(hc:Q6 c:=by repeat (first|exact trivial|refine Wd (by first|omega|(simp;done)|(simp;omega)) ?_)):X prog G f Q k p ds cs q:=stXO Uw m h hc K
theorem ox (m:Nat)(K:X prog G f Q k' p' ds cs q)(h:stn tbl f.n m (.ops ops l) k p []=some ⟨.code,k',p',c⟩:=by exact rfl)(hc:Q6 c:=by repeat (first|exact trivial|refine Wd (by first|omega|(simp;done)|(simp;omega)) ?_)):XO prog G f Q ops.toArray k l p ds cs q:=stOX Uw m h hc K
theorem oo (m:Nat)(K:XO prog G f Q ops'.toArray k' l' p' ds cs q)(h:stn tbl f.n m (.ops ops l) k p []=some ⟨.ops ops' l',k',p',c⟩:=by exact rfl)(hc:Q6 c:=by repeat (first|exact trivial|refine Wd (by first|omega|(simp;done)|(simp;omega)) ?_)):XO prog G f Q ops.toArray k l p ds cs q:=stOO Uw m h hc K
theorem dd (is:List Nat)(K:XD prog G f Q ops k pk L n' done' p' ds cs q)(h:sdn tbl f.n ops is n done p []=some ⟨n',done',p',c⟩:=by exact rfl)(hc:Q6 c:=by repeat (first|exact trivial|refine Wd (by first|omega|(simp;done)|(simp;omega)) ?_)):XD prog G f Q ops k pk L n done p ds cs q:=stDD Uw is h hc K
variable {rest:List Oper}{d:Tmp}{t ty:TypeId}{pos:String}{af:Array Edge}{gd:Option (Nat×Bool)}{x y:Operand}{v:Value}{l vs:List Value}{t':TypeId}{r:List HP}
theorem ld (K:XO prog G f Q ops.toArray k rest ((d,v)::p) ds cs q)(hx:evp p x=some (.pointer (some A)):=by rfl)(hc:Cl q A v:=by exact clA)
 (hw:Wt ops p ⟨some d,.load t x,ty,pos,af,gd⟩=some true:=by rfl) (hd:Nat.blt d f.n=true:=by rfl) (ht:tbl.lf t=true:=by rfl):
 XO prog G f Q ops.toArray k (⟨some d,.load t x,ty,pos,af,gd⟩::rest) p ds cs q:= .ld (Zqh Uw ht) K hx hc hw hd
theorem ldA (K:XO prog G f Q ops.toArray k rest ((d,.agg (Wx.sub l o sz).toArray)::p) ds cs q)(ht:tbl.ag t=some sz:=by rfl)(hx:evp p x=some (.pointer (some ⟨b,o,none⟩)):=by rfl)(hh:Has q b (.cells l.toArray t' fz):=by exact Vb)(hv:Nat.ble (o+sz) l.length=true:=by rfl)
 (hw:Wt ops p ⟨some d,.load t x,ty,pos,af,gd⟩=some true:=by rfl) (hd:Nat.blt d f.n=true:=by rfl):
 XO prog G f Q ops.toArray k (⟨some d,.load t x,ty,pos,af,gd⟩::rest) p ds cs q:= .ldA (Ji Uw ht).1 (Ji Uw ht).2 K hx hh hv hw hd
theorem ldD (i:Nat)(K:XD prog G f Q ops k pk ((i,b,o,v)::L) n (i::done) ((d,v)::p) ds cs q)
 (ho:ops[i]? =some ⟨some d,.load t x,ty,pos,af,gd⟩:=by rfl) (hx:evp p x=some (.pointer (some ⟨b,o,none⟩)):=by rfl) (hc:Cl q ⟨b,o,none⟩ v:=by exact clA)
 (hr:rdy ops done i=true:=by rfl) (hw:Wt ops p ⟨some d,.load t x,ty,pos,af,gd⟩=some true:=by rfl) (hd:Nat.blt d f.n=true:=by rfl) (ht:tbl.lf t=true:=by rfl):XD prog G f Q ops k pk L (n+1) done p ds cs q:= .ld i (Zqh Uw ht) K ho hx hc hr hw hd
theorem ldAD (i:Nat)(K:XD prog G f Q ops k pk (rdA i b o (Wx.sub l o sz)++L) n (i::done) ((d,.agg (Wx.sub l o sz).toArray)::p) ds cs q)
 (ho:ops[i]? =some ⟨some d,.load t x,ty,pos,af,gd⟩:=by rfl) (ht:tbl.ag t=some sz:=by rfl) (hx:evp p x=some (.pointer (some ⟨b,o,none⟩)):=by rfl) (hh:Has q b (.cells l.toArray t' fz):=by exact Vb) (hv:Nat.ble (o+sz) l.length=true:=by rfl)
 (hr:rdy ops done i=true:=by rfl) (hw:Wt ops p ⟨some d,.load t x,ty,pos,af,gd⟩=some true:=by rfl) (hd:Nat.blt d f.n=true:=by rfl):XD prog G f Q ops k pk L (n+1) done p ds cs q:= .loadA i ho hx (Ji Uw ht).1 (Ji Uw ht).2 hh hv K hr hw hd
theorem st (K:XO prog G f Q ops.toArray k rest p ds cs (pto b (.cells (J6 l o v).toArray t' (0,0))::r))(hx:evp p x=some (.pointer (some ⟨b,o,none⟩)):=by rfl)(hy:evp p y=some v:=by rfl)
 (hv:v.cells= #[v]:=by rfl) (h1:v.oneCell'=true:=by rfl) (hq:Le q (pto b (.cells l.toArray t' (0,0))::r):=by exact Zj) (ho:Nat.blt o l.length=true:=by rfl)
 (hw:Wt ops p ⟨none,.store t x y,ty,pos,af,gd⟩=some true:=by rfl) (hs:tbl.s1 t=true:=by rfl):XO prog G f Q ops.toArray k (⟨none,.store t x y,ty,pos,af,gd⟩::rest) p ds cs q:= .st Uw hs K hx hy hv h1 hq ho hw
theorem stA (K:XO prog G f Q ops.toArray k rest p ds cs (pto b (.cells (Vo l o vs).toArray t' (0,0))::r))(hs:tbl.ag t=some sz:=by rfl)(hx:evp p x=some (.pointer (some ⟨b,o,none⟩)):=by rfl)(hy:evp p y=some (.agg vs.toArray):=by rfl)
 (hl:vs.length=sz:=by rfl) (h1:vs.all (·.oneCell')=true:=by rfl) (hq:Le q (pto b (.cells l.toArray t' (0,0))::r):=by exact Zj) (ho:Nat.ble (o+sz) l.length=true:=by rfl)
 (hw:Wt ops p ⟨none,.store t x y,ty,pos,af,gd⟩=some true:=by rfl):XO prog G f Q ops.toArray k (⟨none,.store t x y,ty,pos,af,gd⟩::rest) p ds cs q:= .stA Uw hs K hx hy hl h1 hq ho hw
theorem stD (i:Nat)(K:XD prog G f Q ops k pk (cut ⟨none,.store t x y,ty,pos,af,gd⟩ L) n (i::done) p ds cs (pto b (.cells (J6 l o v).toArray t' (0,0))::r))
 (ho:ops[i]? =some ⟨none,.store t x y,ty,pos,af,gd⟩:=by rfl) (hx:evp p x=some (.pointer (some ⟨b,o,none⟩)):=by rfl) (hy:evp p y=some v:=by rfl)
 (hv:v.cells= #[v]:=by rfl) (h1:v.oneCell'=true:=by rfl) (hq:Le q (pto b (.cells l.toArray t' (0,0))::r):=by exact Zj) (ho2:Nat.blt o l.length=true:=by rfl)
 (hh:HL (pto b (.cells (J6 l o v).toArray t' (0,0))::r) (cut ⟨none,.store t x y,ty,pos,af,gd⟩ L):=by exact hlA)
 (h2:Uc ops done i=true:=by rfl) (hr:rdy ops done i=true:=by rfl) (hw:Wt ops p ⟨none,.store t x y,ty,pos,af,gd⟩=some true:=by rfl) (hs:tbl.s1 t=true:=by rfl):XD prog G f Q ops k pk L (n+1) done p ds cs q:= .st i Uw hs K ho hx hy hv h1 hq ho2 hh h2 hr hw
theorem stAD (i:Nat)(K:XD prog G f Q ops k pk (cut ⟨none,.store t x y,ty,pos,af,gd⟩ L) n (i::done) p ds cs (pto b (.cells (Vo l o vs).toArray t' (0,0))::r))
 (ho:ops[i]? =some ⟨none,.store t x y,ty,pos,af,gd⟩:=by rfl) (hs:tbl.ag t=some sz:=by rfl) (hx:evp p x=some (.pointer (some ⟨b,o,none⟩)):=by rfl) (hy:evp p y=some (.agg vs.toArray):=by rfl)
 (hl:vs.length=sz:=by rfl) (h1:vs.all (·.oneCell')=true:=by rfl) (hq:Le q (pto b (.cells l.toArray t' (0,0))::r):=by exact Zj) (ho2:Nat.ble (o+sz) l.length=true:=by rfl)
 (hh:HL (pto b (.cells (Vo l o vs).toArray t' (0,0))::r) (cut ⟨none,.store t x y,ty,pos,af,gd⟩ L):=by exact hlA)
 (h2:Uc ops done i=true:=by rfl) (hr:rdy ops done i=true:=by rfl) (hw:Wt ops p ⟨none,.store t x y,ty,pos,af,gd⟩=some true:=by rfl):XD prog G f Q ops k pk L (n+1) done p ds cs q:= .stA i Uw hs K ho hx hy hl h1 hq ho2 hh h2 hr hw
theorem rsL {t:Nat}{l:List Value}{t':TypeId}(hh:Has q b (.cells l.toArray t' fz))(ht:tbl.ag t=some sz)(hv:Nat.ble (o+sz) l.length=true):LV Tryz.prog G q t ⟨b,o,none⟩ (.agg (Wx.sub l o sz).toArray):=LV.agg (Ji Uw ht).1 (Ji Uw ht).2 hh hv
theorem rA_ {u0:TypeId}(h:fd.results= [.cell a0 t0].toArray)(p0:lkp p a0=some (.pointer (some ⟨b0,o0,none⟩)):=by rfl)(h0:Has q b0 (.cells l0.toArray u0 f0):=by exact Vb)(t_0:tbl.ag t0=some z0:=by rfl)(v_0:Nat.ble (o0+z0) l0.length=true:=by rfl)(tm:Array Value)(w:World)(ag:Agr tm p)(s:St G w q):(results fd tm).run Tryz.prog w= .ok (.agg (Wx.sub l0 o0 z0).toArray) w:=Zks h (dN p0 (rsL h0 t_0 v_0) eT) tm w ag s
theorem Zwa {u0:TypeId}{u1:TypeId}(h:fd.results= [.cell a0 t0,.cell a1 t1].toArray)(p0:lkp p a0=some (.pointer (some ⟨b0,o0,none⟩)):=by rfl)(h0:Has q b0 (.cells l0.toArray u0 f0):=by exact Vb)(t_0:tbl.ag t0=some z0:=by rfl)(v_0:Nat.ble (o0+z0) l0.length=true:=by rfl)(p1:lkp p a1=some (.pointer (some ⟨b1,o1,none⟩)):=by rfl)(h1:Has q b1 (.cells l1.toArray u1 f1):=by exact Vb)(t_1:tbl.ag t1=some z1:=by rfl)(v_1:Nat.ble (o1+z1) l1.length=true:=by rfl)(tm:Array Value)(w:World)(ag:Agr tm p)(s:St G w q):(results fd tm).run Tryz.prog w= .ok ((.tuple [.agg (Wx.sub l0 o0 z0).toArray,.agg (Wx.sub l1 o1 z1).toArray].toArray)) w:=Bl h (dN p0 (rsL h0 t_0 v_0) (dN p1 (rsL h1 t_1 v_1) eT)) tm w ag s
theorem N3 {u0:TypeId}(h:fd.results= [.cell a0 t0,.tmp a1].toArray)(p0:lkp p a0=some (.pointer (some ⟨b0,o0,none⟩)):=by rfl)(h0:Has q b0 (.cells l0.toArray u0 f0):=by exact Vb)(t_0:tbl.ag t0=some z0:=by rfl)(v_0:Nat.ble (o0+z0) l0.length=true:=by rfl)(p1:lkp p a1=some v1:=by rfl)(tm:Array Value)(w:World)(ag:Agr tm p)(s:St G w q):(results fd tm).run Tryz.prog w= .ok ((.tuple [.agg (Wx.sub l0 o0 z0).toArray,v1].toArray)) w:=Bl h (dN p0 (rsL h0 t_0 v_0) (fN p1 eT)) tm w ag s
theorem O9 {u0:TypeId}{u1:TypeId}(h:fd.results= [.cell a0 t0,.cell a1 t1,.tmp a2].toArray)(p0:lkp p a0=some (.pointer (some ⟨b0,o0,none⟩)):=by rfl)(h0:Has q b0 (.cells l0.toArray u0 f0):=by exact Vb)(t_0:tbl.ag t0=some z0:=by rfl)(v_0:Nat.ble (o0+z0) l0.length=true:=by rfl)(p1:lkp p a1=some (.pointer (some ⟨b1,o1,none⟩)):=by rfl)(h1:Has q b1 (.cells l1.toArray u1 f1):=by exact Vb)(t_1:tbl.ag t1=some z1:=by rfl)(v_1:Nat.ble (o1+z1) l1.length=true:=by rfl)(p2:lkp p a2=some v2:=by rfl)(tm:Array Value)(w:World)(ag:Agr tm p)(s:St G w q):(results fd tm).run Tryz.prog w= .ok ((.tuple [.agg (Wx.sub l0 o0 z0).toArray,.agg (Wx.sub l1 o1 z1).toArray,v2].toArray)) w:=Bl h (dN p0 (rsL h0 t_0 v_0) (dN p1 (rsL h1 t_1 v_1) (fN p2 eT))) tm w ag s
theorem Ee {v0:Value}{u1:TypeId}(h:fd.results= [.tmp a0,.cell a1 t1,.tmp a2].toArray)(p0:lkp p a0=some v0:=by rfl)(p1:lkp p a1=some (.pointer (some ⟨b1,o1,none⟩)):=by rfl)(h1:Has q b1 (.cells l1.toArray u1 f1):=by exact Vb)(t_1:tbl.ag t1=some z1:=by rfl)(v_1:Nat.ble (o1+z1) l1.length=true:=by rfl)(p2:lkp p a2=some v2:=by rfl)(tm:Array Value)(w:World)(ag:Agr tm p)(s:St G w q):(results fd tm).run Tryz.prog w= .ok ((.tuple [v0,.agg (Wx.sub l1 o1 z1).toArray,v2].toArray)) w:=Bl h (fN p0 (dN p1 (rsL h1 t_1 v_1) (fN p2 eT))) tm w ag s
theorem Kf {u0:TypeId}(h:fd.results= [.cell a0 t0,.tmp a1,.tmp a2].toArray)(p0:lkp p a0=some (.pointer (some ⟨b0,o0,none⟩)):=by rfl)(h0:Has q b0 (.cells l0.toArray u0 f0):=by exact Vb)(t_0:tbl.ag t0=some z0:=by rfl)(v_0:Nat.ble (o0+z0) l0.length=true:=by rfl)(p1:lkp p a1=some v1:=by rfl)(p2:lkp p a2=some v2:=by rfl)(tm:Array Value)(w:World)(ag:Agr tm p)(s:St G w q):(results fd tm).run Tryz.prog w= .ok ((.tuple [.agg (Wx.sub l0 o0 z0).toArray,v1,v2].toArray)) w:=Bl h (dN p0 (rsL h0 t_0 v_0) (fN p1 (fN p2 eT))) tm w ag s
theorem xp {t:Bool}{φ ψ:Prop}{z:List Item}(s:Nat)(ht:φ->X Tryz.prog G f Q z ((s,.bool true)::p) ds cs q)(hf:ψ->X Tryz.prog G f Q z ((s,.bool false)::p) ds cs q)(h:lkp p s=some (.bool t):=by rfl)(e1:t=true->φ:=by intro h;exact sp h)(e2:t=false->ψ:=by intro h;exact sp h):X Tryz.prog G f Q z p ds cs q:= .part s h (fun a=>ht (e1 a)) (fun a=>hf (e2 a))
theorem kx {k1 k2:List Item}{b1:Bool}(s m:Nat)(K:X Tryz.prog G f Q k2 p2 ds cs q)(h:lkp p1 s=some (.bool b1):=by rfl)(e:b1=false:=by exact kw)(h2:stn tbl f.n m .code k1 ((s,.bool false)::p1) []=some ⟨.code,k2,p2,c1⟩:=by exact rfl)(hc:Q6 c1:=by repeat (first|exact trivial|refine Wd (by first|omega|(simp;done)|(simp;omega)) ?_)):X Tryz.prog G f Q k1 p1 ds cs q:=gG s (xx m K h2 hc) h e
theorem ol {o1 l1:List Oper}{k1 k2:List Item}{t1 ty1:TypeId}(m:Nat)(K:XO Tryz.prog G f Q o2.toArray k2 r2 ((d1,v1)::p2) ds cs q)(h:stn tbl f.n m (.ops o1 l1) k1 p1 []=some ⟨.ops o2 (⟨some d1,.load t1 x1,ty1,ps1,af1,gd1⟩::r2),k2,p2,c1⟩:=by exact rfl)(hc0:Q6 c1:=by repeat (first|exact trivial|refine Wd (by first|omega|(simp;done)|(simp;omega)) ?_))(hx:evp p2 x1=some (.pointer (some A1)):=by rfl)(hc:Cl q A1 v1:=by exact clA)(hw:Wt o2 p2 ⟨some d1,.load t1 x1,ty1,ps1,af1,gd1⟩=some true:=by rfl)(hd:Nat.blt d1 f.n=true:=by rfl)(ht:tbl.lf t1=true:=by rfl):XO Tryz.prog G f Q o1.toArray k1 l1 p1 ds cs q:=oo m (ld K hx hc hw hd ht) h hc0
theorem xj {k1 k2:List Item}{t1 ty1:TypeId}(m:Nat)(K:XO Tryz.prog G f Q o2.toArray k2 r2 ((d1,v1)::p2) ds cs q)(h:stn tbl f.n m .code k1 p1 []=some ⟨.ops o2 (⟨some d1,.load t1 x1,ty1,ps1,af1,gd1⟩::r2),k2,p2,c1⟩:=by exact rfl)(hc0:Q6 c1:=by repeat (first|exact trivial|refine Wd (by first|omega|(simp;done)|(simp;omega)) ?_))(hx:evp p2 x1=some (.pointer (some A1)):=by rfl)(hc:Cl q A1 v1:=by exact clA)(hw:Wt o2 p2 ⟨some d1,.load t1 x1,ty1,ps1,af1,gd1⟩=some true:=by rfl)(hd:Nat.blt d1 f.n=true:=by rfl)(ht:tbl.lf t1=true:=by rfl):X Tryz.prog G f Q k1 p1 ds cs q:=xo m (ld K hx hc hw hd ht) h hc0
theorem dl {n0:Nat}{dn0 dn1:List Nat}{t1 ty1:TypeId}{s1:Nat}(is:List Nat)(i:Nat)(K:XD Tryz.prog G f Q ops k pk ((i,b1,s1,v1)::L) n1 (i::dn1) ((d1,v1)::p2) ds cs q)(h:sdn tbl f.n ops is n0 dn0 p1 []=some ⟨n1+1,dn1,p2,c1⟩:=by exact rfl)(hc0:Q6 c1:=by repeat (first|exact trivial|refine Wd (by first|omega|(simp;done)|(simp;omega)) ?_))
 (ho:ops[i]? =some ⟨some d1,.load t1 x1,ty1,ps1,af1,gd1⟩:=by rfl) (hx:evp p2 x1=some (.pointer (some ⟨b1,s1,none⟩)):=by rfl) (hc:Cl q ⟨b1,s1,none⟩ v1:=by exact clA) (hr:rdy ops dn1 i=true:=by rfl) (hw:Wt ops p2 ⟨some d1,.load t1 x1,ty1,ps1,af1,gd1⟩=some true:=by rfl) (hd:Nat.blt d1 f.n=true:=by rfl) (ht:tbl.lf t1=true:=by rfl):XD Tryz.prog G f Q ops k pk L n0 dn0 p1 ds cs q:=dd is (ldD i K ho hx hc hr hw hd ht) h hc0
theorem kk0 {A:List HP->Prop}(K:B V C)(h:A C:=by first|exact trivial|exact hlA): ∀ v q',(v=V/\q'=C)->A q'/\B v q':=by rintro _ _ ⟨rfl,rfl⟩;exact ⟨h,K⟩
theorem kc0 {A:List HP->Prop}(K:B V M)(e:C++F=M:=by (try simp only [ca,na]);rfl)(h:A M:=by first|exact trivial|exact hlA): ∀ v q',(v=V/\q'=C)-> ∀ q'',q''=q'++F->A q''/\B v q'':=by rintro _ _ ⟨rfl,rfl⟩ _ rfl;rw [e];exact ⟨h,K⟩
theorem kd0 (K:B V M)(e:C++F=M:=by (try simp only [ca,na]);rfl): ∀ v q',(v=V/\q'=C)-> ∀ q'',q''=q'++F->B v q'':=by rintro _ _ ⟨rfl,rfl⟩ _ rfl;rw [e];exact K
theorem kd1 {α:Type}{V:α->Value}{C:α->List HP}{M:α->List HP}(K: ∀ a,B (V a) (M a))(e: ∀ a,C a++F=M a:=by intro _;(try simp only [ca,na]);rfl): ∀ v q',(∃ a,v=V a/\q'=C a)-> ∀ q'',q''=q'++F->B v q'':=by rintro _ _ ⟨a,rfl,rfl⟩ _ rfl;rw [e];exact K a
theorem kk2 {α β:Type}{V:α->β->Value}{C:α->β->List HP}{A:List HP->Prop}(K: ∀ a b,B (V a b) (C a b))(h: ∀ a b,A (C a b):=by intro _ _;first|exact trivial|exact hlA): ∀ v q',(∃ a b,v=V a b/\q'=C a b)->A q'/\B v q':=by rintro _ _ ⟨a,b,rfl,rfl⟩;exact ⟨h a b,K a b⟩
theorem kd2 {α β:Type}{V:α->β->Value}{C:α->β->List HP}{M:α->β->List HP}(K: ∀ a b,B (V a b) (M a b))(e: ∀ a b,C a b++F=M a b:=by intro _ _;(try simp only [ca,na]);rfl): ∀ v q',(∃ a b,v=V a b/\q'=C a b)-> ∀ q'',q''=q'++F->B v q'':=by rintro _ _ ⟨a,b,rfl,rfl⟩ _ rfl;rw [e];exact K a b
theorem xsl {c:Nat}(s:Nat)(e:a=some A)(K:X Tryz.prog G f Q k ((s,.slice (some A) n c)::p) ds cs q)(h:lkp p s=some (.slice a n c):=by rfl):X Tryz.prog G f Q k p ds cs q:= .know s _ h (by rw [e]) K
theorem osl {c:Nat}{lz:List Oper}(s:Nat)(e:a=some A)(K:XO Tryz.prog G f Q ops.toArray k lz ((s,.slice (some A) n c)::p) ds cs q)(h:lkp p s=some (.slice a n c):=by rfl):XO Tryz.prog G f Q ops.toArray k lz p ds cs q:= .know s _ h (by rw [e]) K
theorem dsl {c:Nat}(s:Nat)(e:a=some A)(K:XD Tryz.prog G f Q ops k pk L n1 done ((s,.slice (some A) n2 c)::p) ds cs q)(h:lkp p s=some (.slice a n2 c):=by rfl):XD Tryz.prog G f Q ops k pk L n1 done p ds cs q:= .know s _ h (by rw [e]) K
theorem Tryz.mixed:prog.follows .mixedOrders=true:=by kernel_rfl
theorem drw {id:Nat}(x:XD prog G f Q ops k [] [] ops.length [] p ds cs q)(h1:okR ops=true:=by kernel_rfl)(h2:Iu ops=true:=by kernel_rfl)(h3:R8 ops []=true:=by rfl):X prog G f Q (.code (.region id ops.toArray true)::k) p ds cs q:= .draw [] Tryz.mixed h1 h2 h3 x
structure Bx (B:Prop):Prop where
 g:B
structure Gs (s:List Nat) (A:Prop):Prop where
 g:A
theorem gs0 {A:Prop}(b:Bx A):Gs [] A:=⟨b.g⟩
variable {s0:List Nat}{l0 l0':List Oper}
theorem r_xx (K:Gs s0 (X prog G f Q k' p' ds cs q))(h:stn tbl f.n (m+1) .code k p []=some ⟨.code,k',p',c⟩:=by exact rfl)(hc:Q6 c:=by repeat (first|exact trivial|refine Wd (by first|omega|(simp;done)|(simp;omega)) ?_)):Gs ((m+1)::s0) (X prog G f Q k p ds cs q):=⟨xx (m+1) K.g h hc⟩
theorem r_xo (K:Gs s0 (XO prog G f Q ops'.toArray k' l0' p' ds cs q))(h:stn tbl f.n (m+1) .code k p []=some ⟨.ops ops' l0',k',p',c⟩:=by exact rfl)(hc:Q6 c:=by repeat (first|exact trivial|refine Wd (by first|omega|(simp;done)|(simp;omega)) ?_)):Gs ((m+1)::s0) (X prog G f Q k p ds cs q):=⟨xo (m+1) K.g h hc⟩
theorem r_ox (K:Gs s0 (X prog G f Q k' p' ds cs q))(h:stn tbl f.n (m+1) (.ops ops l0) k p []=some ⟨.code,k',p',c⟩:=by exact rfl)(hc:Q6 c:=by repeat (first|exact trivial|refine Wd (by first|omega|(simp;done)|(simp;omega)) ?_)):Gs ((m+1)::s0) (XO prog G f Q ops.toArray k l0 p ds cs q):=⟨ox (m+1) K.g h hc⟩
theorem r_oo (K:Gs s0 (XO prog G f Q ops'.toArray k' l0' p' ds cs q))(h:stn tbl f.n (m+1) (.ops ops l0) k p []=some ⟨.ops ops' l0',k',p',c⟩:=by exact rfl)(hc:Q6 c:=by repeat (first|exact trivial|refine Wd (by first|omega|(simp;done)|(simp;omega)) ?_)):Gs ((m+1)::s0) (XO prog G f Q ops.toArray k l0 p ds cs q):=⟨oo (m+1) K.g h hc⟩
theorem Um (K:Gs s0 (XO prog G f Q ops.toArray k rest ((d,v)::p) ds cs q))(hx:evp p x=some (.pointer (some A)):=by rfl)(hc:Cl q A v:=by exact clA)(hw:Wt ops p ⟨some d,.load t x,ty,pos,af,gd⟩=some true:=by rfl)(hd:Nat.blt d f.n=true:=by rfl)(ht:tbl.lf t=true:=by rfl):Gs (0::s0) (XO prog G f Q ops.toArray k (⟨some d,.load t x,ty,pos,af,gd⟩::rest) p ds cs q):=⟨ld K.g hx hc hw hd ht⟩
theorem Zk3 (K:Gs s0 (XO prog G f Q ops.toArray k rest ((d,.agg (Wx.sub l o sz).toArray)::p) ds cs q))(ht:tbl.ag t=some sz:=by rfl)(hx:evp p x=some (.pointer (some ⟨b,o,none⟩)):=by rfl)(hh:Has q b (.cells l.toArray t' fz):=by exact Vb)(hv:Nat.ble (o+sz) l.length=true:=by rfl)(hw:Wt ops p ⟨some d,.load t x,ty,pos,af,gd⟩=some true:=by rfl)(hd:Nat.blt d f.n=true:=by rfl):Gs (0::s0) (XO prog G f Q ops.toArray k (⟨some d,.load t x,ty,pos,af,gd⟩::rest) p ds cs q):=⟨ldA K.g ht hx hh hv hw hd⟩
theorem r_st (K:Gs s0 (XO prog G f Q ops.toArray k rest p ds cs (pto b (.cells (J6 l o v).toArray t' (0,0))::r)))(hx:evp p x=some (.pointer (some ⟨b,o,none⟩)):=by rfl)(hy:evp p y=some v:=by rfl)(hv:v.cells= #[v]:=by rfl)(h1:v.oneCell'=true:=by rfl)(hq:Le q (pto b (.cells l.toArray t' (0,0))::r):=by exact Zj)(ho:Nat.blt o l.length=true:=by rfl)(hw:Wt ops p ⟨none,.store t x y,ty,pos,af,gd⟩=some true:=by rfl)(hs:tbl.s1 t=true:=by rfl):Gs (0::s0) (XO prog G f Q ops.toArray k (⟨none,.store t x y,ty,pos,af,gd⟩::rest) p ds cs q):=⟨st K.g hx hy hv h1 hq ho hw hs⟩
theorem Zke (K:Gs s0 (XO prog G f Q ops.toArray k rest p ds cs (pto b (.cells (Vo l o vs).toArray t' (0,0))::r)))(hs:tbl.ag t=some sz:=by rfl)(hx:evp p x=some (.pointer (some ⟨b,o,none⟩)):=by rfl)(hy:evp p y=some (.agg vs.toArray):=by rfl)(hl:vs.length=sz:=by rfl)(h1:vs.all (·.oneCell')=true:=by rfl)(hq:Le q (pto b (.cells l.toArray t' (0,0))::r):=by exact Zj)(ho:Nat.ble (o+sz) l.length=true:=by rfl)(hw:Wt ops p ⟨none,.store t x y,ty,pos,af,gd⟩=some true:=by rfl):Gs (0::s0) (XO prog G f Q ops.toArray k (⟨none,.store t x y,ty,pos,af,gd⟩::rest) p ds cs q):=⟨stA K.g hs hx hy hl h1 hq ho hw⟩
theorem Zk4 {rid:Nat}(K:Gs s0 (XD prog G f Q ops k [] [] ops.length [] p ds cs q))(h1:okR ops=true:=by kernel_rfl)(h2:Iu ops=true:=by kernel_rfl)(h3:R8 ops []=true:=by rfl):Gs (0::s0) (X prog G f Q (.code (.region rid ops.toArray true)::k) p ds cs q):=⟨drw K.g h1 h2 h3⟩
theorem r_dd (K:Gs s0 (XD prog G f Q ops k pk L n' done' p' ds cs q))(h:sdn tbl f.n ops [i] n done p []=some ⟨n',done',p',c⟩:=by exact rfl)(hc:Q6 c:=by repeat (first|exact trivial|refine Wd (by first|omega|(simp;done)|(simp;omega)) ?_)):Gs ((i+1)::s0) (XD prog G f Q ops k pk L n done p ds cs q):=⟨dd [i] K.g h hc⟩
theorem Wm (K:Gs s0 (XD prog G f Q ops k pk ((i,b,o,v)::L) n (i::done) ((d,v)::p) ds cs q))(ho:ops[i]? =some ⟨some d,.load t x,ty,pos,af,gd⟩:=by rfl)(hx:evp p x=some (.pointer (some ⟨b,o,none⟩)):=by rfl)(hc:Cl q ⟨b,o,none⟩ v:=by exact clA)(hr:rdy ops done i=true:=by rfl)(hw:Wt ops p ⟨some d,.load t x,ty,pos,af,gd⟩=some true:=by rfl)(hd:Nat.blt d f.n=true:=by rfl)(ht:tbl.lf t=true:=by rfl):Gs ((i+1)::s0) (XD prog G f Q ops k pk L (n+1) done p ds cs q):=⟨ldD i K.g ho hx hc hr hw hd ht⟩
theorem Ss (K:Gs s0 (XD prog G f Q ops k pk (rdA i b o (Wx.sub l o sz)++L) n (i::done) ((d,.agg (Wx.sub l o sz).toArray)::p) ds cs q))(ho:ops[i]? =some ⟨some d,.load t x,ty,pos,af,gd⟩:=by rfl)(ht:tbl.ag t=some sz:=by rfl)(hx:evp p x=some (.pointer (some ⟨b,o,none⟩)):=by rfl)(hh:Has q b (.cells l.toArray t' fz):=by exact Vb)(hv:Nat.ble (o+sz) l.length=true:=by rfl)(hr:rdy ops done i=true:=by rfl)(hw:Wt ops p ⟨some d,.load t x,ty,pos,af,gd⟩=some true:=by rfl)(hd:Nat.blt d f.n=true:=by rfl):Gs ((i+1)::s0) (XD prog G f Q ops k pk L (n+1) done p ds cs q):=⟨ldAD i K.g ho ht hx hh hv hr hw hd⟩
theorem Zko (K:Gs s0 (XD prog G f Q ops k pk (cut ⟨none,.store t x y,ty,pos,af,gd⟩ L) n (i::done) p ds cs (pto b (.cells (J6 l o v).toArray t' (0,0))::r)))(ho:ops[i]? =some ⟨none,.store t x y,ty,pos,af,gd⟩:=by rfl)(hx:evp p x=some (.pointer (some ⟨b,o,none⟩)):=by rfl)(hy:evp p y=some v:=by rfl)(hv:v.cells= #[v]:=by rfl)(h1:v.oneCell'=true:=by rfl)(hq:Le q (pto b (.cells l.toArray t' (0,0))::r):=by exact Zj)(ho2:Nat.blt o l.length=true:=by rfl)(hh:HL (pto b (.cells (J6 l o v).toArray t' (0,0))::r) (cut ⟨none,.store t x y,ty,pos,af,gd⟩ L):=by exact hlA)(h2:Uc ops done i=true:=by rfl)(hr:rdy ops done i=true:=by rfl)(hw:Wt ops p ⟨none,.store t x y,ty,pos,af,gd⟩=some true:=by rfl)(hs:tbl.s1 t=true:=by rfl):Gs ((i+1)::s0) (XD prog G f Q ops k pk L (n+1) done p ds cs q):=⟨stD i K.g ho hx hy hv h1 hq ho2 hh h2 hr hw hs⟩
theorem Sa (K:Gs s0 (XD prog G f Q ops k pk (cut ⟨none,.store t x y,ty,pos,af,gd⟩ L) n (i::done) p ds cs (pto b (.cells (Vo l o vs).toArray t' (0,0))::r)))(ho:ops[i]? =some ⟨none,.store t x y,ty,pos,af,gd⟩:=by rfl)(hs:tbl.ag t=some sz:=by rfl)(hx:evp p x=some (.pointer (some ⟨b,o,none⟩)):=by rfl)(hy:evp p y=some (.agg vs.toArray):=by rfl)(hl:vs.length=sz:=by rfl)(h1:vs.all (·.oneCell')=true:=by rfl)(hq:Le q (pto b (.cells l.toArray t' (0,0))::r):=by exact Zj)(ho2:Nat.ble (o+sz) l.length=true:=by rfl)(hh:HL (pto b (.cells (Vo l o vs).toArray t' (0,0))::r) (cut ⟨none,.store t x y,ty,pos,af,gd⟩ L):=by exact hlA)(h2:Uc ops done i=true:=by rfl)(hr:rdy ops done i=true:=by rfl)(hw:Wt ops p ⟨none,.store t x y,ty,pos,af,gd⟩=some true:=by rfl):Gs ((i+1)::s0) (XD prog G f Q ops k pk L (n+1) done p ds cs q):=⟨stAD i K.g ho hs hx hy hl h1 hq ho2 hh h2 hr hw⟩
theorem Zk2 (K:Gs s0 (X prog G f Q k p ds cs q))(h:(List.range ops.length).all (done.contains ·)=true:=by rfl):Gs (0::s0) (XD prog G f Q ops k pk L 0 done p ds cs q):=⟨jV K.g h⟩
theorem r_kf {b:Bool}(K:Gs s0 (X prog G f Q k ((s,.bool false)::p) ds cs q))(h:lkp p s=some (.bool b):=by rfl)(e:b=false:=by exact kw):Gs ((s+1000)::s0) (X prog G f Q k p ds cs q):=⟨gG s K.g h e⟩
theorem r_kt {b:Bool}(K:Gs s0 (X prog G f Q k ((s,.bool true)::p) ds cs q))(h:lkp p s=some (.bool b):=by rfl)(e:b=true:=by exact kw):Gs ((s+2000)::s0) (X prog G f Q k p ds cs q):=⟨jC s K.g h e⟩
theorem Zk1 {b:Bool}(K:Gs s0 (XO prog G f Q ops.toArray k l0 ((s,.bool false)::p) ds cs q))(h:lkp p s=some (.bool b):=by rfl)(e:b=false:=by exact kw):Gs ((s+1000)::s0) (XO prog G f Q ops.toArray k l0 p ds cs q):=⟨XO.kf s K.g h e⟩
theorem Zk0 {b:Bool}(K:Gs s0 (XO prog G f Q ops.toArray k l0 ((s,.bool true)::p) ds cs q))(h:lkp p s=some (.bool b):=by rfl)(e:b=true:=by exact kw):Gs ((s+2000)::s0) (XO prog G f Q ops.toArray k l0 p ds cs q):=⟨XO.kt s K.g h e⟩
theorem rn {A B:Prop}(s:List Nat)(K:B)(h:Bx B->Gs s A:=by intro b;repeat first|exact gs0 b|refine r_kt ?_|refine r_kf ?_|refine Zk0 ?_|refine Zk1 ?_|refine Um ?_|refine Zk3 ?_|refine r_st ?_|refine Zke ?_|refine Zk4 ?_|refine Zk2 ?_|refine r_xx ?_|refine r_xo ?_|refine r_oo ?_|refine r_ox ?_|refine r_dd ?_|refine Wm ?_|refine Ss ?_|refine Zko ?_|refine Sa ?_):A:=(h ⟨K⟩).g
theorem Ly {c:Nat}(e:a=some A)(K:Gs s0 (X prog G f Q k ((s,.slice (some A) n2 c)::p) ds cs q))(h:lkp p s=some (.slice a n2 c):=by rfl):Gs ((s+3000)::s0) (X prog G f Q k p ds cs q):=⟨xsl s e K.g h⟩
theorem Lb {c:Nat}(e:a=some A)(K:Gs s0 (XO prog G f Q ops.toArray k l0 ((s,.slice (some A) n2 c)::p) ds cs q))(h:lkp p s=some (.slice a n2 c):=by rfl):Gs ((s+3000)::s0) (XO prog G f Q ops.toArray k l0 p ds cs q):=⟨osl s e K.g h⟩
theorem Lf {c:Nat}(e:a=some A)(K:Gs s0 (XD prog G f Q ops k pk L n1 done ((s,.slice (some A) n2 c)::p) ds cs q))(h:lkp p s=some (.slice a n2 c):=by rfl):Gs ((s+3000)::s0) (XD prog G f Q ops k pk L n1 done p ds cs q):=⟨dsl s e K.g h⟩
theorem rf {A B C:Prop}(s:List Nat)(F:C)(K:B)(h:Bx B->C->Gs s A:=by intro b F;repeat first|exact gs0 b|refine Ly F ?_|refine Lb F ?_|refine Lf F ?_|refine Um ?_ (hc:=(F.le leA).at rfl (by assumption))|refine Um ?_ (hc:=(F.le leA) 0 _ rfl)|refine Um ?_ (hc:=(F.le leA) _ _ rfl)|refine Um ?_ (hc:=F _ leA 0 _ rfl)|refine Um ?_ (hc:=F _ leA _ _ rfl)|refine Wm ?_ (hc:=(F.le leA).at rfl (by assumption))|refine Wm ?_ (hc:=(F.le leA) 0 _ rfl)|refine Wm ?_ (hc:=(F.le leA) _ _ rfl)|refine Wm ?_ (hc:=F _ leA 0 _ rfl)|refine Wm ?_ (hc:=F _ leA _ _ rfl)|refine r_kt ?_|refine r_kf ?_|refine Zk0 ?_|refine Zk1 ?_|refine Um ?_|refine Zk3 ?_|refine r_st ?_|refine Zke ?_|refine Zk4 ?_|refine Zk2 ?_|refine r_xx ?_|refine r_xo ?_|refine r_oo ?_|refine r_ox ?_|refine r_dd ?_|refine Wm ?_|refine Ss ?_|refine Zko ?_|refine Sa ?_):A:=(h ⟨K⟩ F).g
theorem rg {A B C D:Prop}(s:List Nat)(F:C)(E:D)(K:B)(h:Bx B->C->D->Gs s A:=by intro b F E;repeat first|exact gs0 b|refine Ly F ?_|refine Lb F ?_|refine Lf F ?_|refine Um ?_ (hc:=(F.le leA).at rfl (by assumption))|refine Um ?_ (hc:=(F.le leA) 0 _ rfl)|refine Um ?_ (hc:=(F.le leA) _ _ rfl)|refine Um ?_ (hc:=F _ leA 0 _ rfl)|refine Um ?_ (hc:=F _ leA _ _ rfl)|refine Wm ?_ (hc:=(F.le leA).at rfl (by assumption))|refine Wm ?_ (hc:=(F.le leA) 0 _ rfl)|refine Wm ?_ (hc:=(F.le leA) _ _ rfl)|refine Wm ?_ (hc:=F _ leA 0 _ rfl)|refine Wm ?_ (hc:=F _ leA _ _ rfl)|refine Ly E ?_|refine Lb E ?_|refine Lf E ?_|refine Um ?_ (hc:=(E.le leA).at rfl (by assumption))|refine Um ?_ (hc:=(E.le leA) 0 _ rfl)|refine Um ?_ (hc:=(E.le leA) _ _ rfl)|refine Um ?_ (hc:=E _ leA 0 _ rfl)|refine Um ?_ (hc:=E _ leA _ _ rfl)|refine Wm ?_ (hc:=(E.le leA).at rfl (by assumption))|refine Wm ?_ (hc:=(E.le leA) 0 _ rfl)|refine Wm ?_ (hc:=(E.le leA) _ _ rfl)|refine Wm ?_ (hc:=E _ leA 0 _ rfl)|refine Wm ?_ (hc:=E _ leA _ _ rfl)|refine r_kt ?_|refine r_kf ?_|refine Zk0 ?_|refine Zk1 ?_|refine Um ?_|refine Zk3 ?_|refine r_st ?_|refine Zke ?_|refine Zk4 ?_|refine Zk2 ?_|refine r_xx ?_|refine r_xo ?_|refine r_oo ?_|refine r_ox ?_|refine r_dd ?_|refine Wm ?_|refine Ss ?_|refine Zko ?_|refine Sa ?_):A:=(h ⟨K⟩ F E).g
theorem rh {A B C D E:Prop}(s:List Nat)(F:C)(E1:D)(E2:E)(K:B)(h:Bx B->C->D->E->Gs s A:=by intro b F E1 E2;repeat first|exact gs0 b|refine Ly F ?_|refine Lb F ?_|refine Lf F ?_|refine Um ?_ (hc:=(F.le leA).at rfl (by assumption))|refine Um ?_ (hc:=(F.le leA) 0 _ rfl)|refine Um ?_ (hc:=(F.le leA) _ _ rfl)|refine Um ?_ (hc:=F _ leA 0 _ rfl)|refine Um ?_ (hc:=F _ leA _ _ rfl)|refine Wm ?_ (hc:=(F.le leA).at rfl (by assumption))|refine Wm ?_ (hc:=(F.le leA) 0 _ rfl)|refine Wm ?_ (hc:=(F.le leA) _ _ rfl)|refine Wm ?_ (hc:=F _ leA 0 _ rfl)|refine Wm ?_ (hc:=F _ leA _ _ rfl)|refine Ly E1 ?_|refine Lb E1 ?_|refine Lf E1 ?_|refine Um ?_ (hc:=(E1.le leA).at rfl (by assumption))|refine Um ?_ (hc:=(E1.le leA) 0 _ rfl)|refine Um ?_ (hc:=(E1.le leA) _ _ rfl)|refine Um ?_ (hc:=E1 _ leA 0 _ rfl)|refine Um ?_ (hc:=E1 _ leA _ _ rfl)|refine Wm ?_ (hc:=(E1.le leA).at rfl (by assumption))|refine Wm ?_ (hc:=(E1.le leA) 0 _ rfl)|refine Wm ?_ (hc:=(E1.le leA) _ _ rfl)|refine Wm ?_ (hc:=E1 _ leA 0 _ rfl)|refine Wm ?_ (hc:=E1 _ leA _ _ rfl)|refine Ly E2 ?_|refine Lb E2 ?_|refine Lf E2 ?_|refine Um ?_ (hc:=(E2.le leA).at rfl (by assumption))|refine Um ?_ (hc:=(E2.le leA) 0 _ rfl)|refine Um ?_ (hc:=(E2.le leA) _ _ rfl)|refine Um ?_ (hc:=E2 _ leA 0 _ rfl)|refine Um ?_ (hc:=E2 _ leA _ _ rfl)|refine Wm ?_ (hc:=(E2.le leA).at rfl (by assumption))|refine Wm ?_ (hc:=(E2.le leA) 0 _ rfl)|refine Wm ?_ (hc:=(E2.le leA) _ _ rfl)|refine Wm ?_ (hc:=E2 _ leA 0 _ rfl)|refine Wm ?_ (hc:=E2 _ leA _ _ rfl)|refine r_kt ?_|refine r_kf ?_|refine Zk0 ?_|refine Zk1 ?_|refine Um ?_|refine Zk3 ?_|refine r_st ?_|refine Zke ?_|refine Zk4 ?_|refine Zk2 ?_|refine r_xx ?_|refine r_xo ?_|refine r_oo ?_|refine r_ox ?_|refine r_dd ?_|refine Wm ?_|refine Ss ?_|refine Zko ?_|refine Sa ?_):A:=(h ⟨K⟩ F E1 E2).g
end
structure Ins where
 c:Int
 a:Int
 b:Int
 n:Int
def Y8 (i:Ins):List Value:= [.int .i64 i.c,.int .i64 i.a,.int .i64 i.b,.int .i64 i.n]
structure Cod where
 name:ByteArray
 locals:Int
 ins:List Ins
 lines:List Int
 ia:Option Addr
 ic:Nat
 la:Option Addr
 lc:Nat
def Vn (x:Cod):List Value:= [.string x.name,.int .i64 x.locals,.slice x.ia x.ins.length x.ic,.slice x.la x.lines.length x.lc]
structure Mdl where
 vars:List Int
 arrays:List Int
 chans:List Int
 mutexes:Int
 conds:Int
 threads:List Cod
 va:Option Addr
 vc:Nat
 aa:Option Addr
 ac:Nat
 ca:Option Addr
 cc:Nat
 ta:Option Addr
 tc:Nat
def J7 (m:Mdl):List Value:= [.slice m.va m.vars.length m.vc,.slice m.aa m.arrays.length m.ac,.slice m.ca m.chans.length m.cc,.int .i64 m.mutexes,.int .i64 m.conds,.slice m.ta m.threads.length m.tc]
abbrev I64:Int->Value:=Value.int .i64
abbrev bT:Value:= .bool true
abbrev bF:Value:= .bool false
theorem cB {a b:Bool}(h:a=b):Value.bool a= .bool b:=by rw [h]
structure CodQ (q:List HP) (x:Cod):Prop where
 i:Sees q x.ia (x.ins.flatMap Y8)
 l:Sees q x.la (x.lines.map I64)
 n:x.name.size<=9223372036854775807
 ni:x.ins.length<=9223372036854775807
 nl:x.lines.length<=9223372036854775807
structure MdlQ (q:List HP) (m:Mdl):Prop where
 v:Sees q m.va (m.vars.map I64)
 a:Sees q m.aa (m.arrays.map I64)
 c:Sees q m.ca (m.chans.map I64)
 t:Sees q m.ta (m.threads.flatMap Vn)
 x: ∀ x∈m.threads,CodQ q x
 nv:m.vars.length<=9223372036854775807
 na:m.arrays.length<=9223372036854775807
 nc:m.chans.length<=9223372036854775807
 nt:m.threads.length<=9223372036854775807
 ka:m.arrays.length<=m.ac
theorem CodQ.le {x:Cod}(h:CodQ q' x)(k:Le q q'):CodQ q x:=⟨h.i.le k,h.l.le k,h.n,h.ni,h.nl⟩
theorem MdlQ.le {m:Mdl}(h:MdlQ q' m)(k:Le q q'):MdlQ q m:=⟨h.v.le k,h.a.le k,h.c.le k,h.t.le k,fun x hx=>(h.x x hx).le k,h.nv,h.na,h.nc,h.nt,h.ka⟩
def nmA (c:Int):Bool:=decide ((2<=c/\c<=7)\/(19<=c/\c<=21)\/(23<=c/\c<=31))
def Kd (i:Ins):Prop:=(1<=i.c/\i.c<=34)/\(if nmA i.c=true then 0<=i.a/\i.a<=65535 else i.a=0)/\(if i.c=26 then 0<=i.b/\i.b<=65535 else i.b=0)/\(if i.c=1 then -2147483648<=i.n/\i.n<=2147483647 else i.n=0)
instance (i:Ins):Decidable (Kd i):=by unfold Kd;infer_instance
def Yj (n lo hi:Int):Prop:=lo<=n/\n<=hi
instance (n lo hi:Int):Decidable (Yj n lo hi):=by unfold Yj;infer_instance
def Dd (x:Cod):Prop:=Yj x.name.size 1 16/\Yj x.locals 0 32/\(x.ins.length:Int)=x.lines.length/\((x.ins.length:Int)<=65536/\ ∀ i∈x.ins,Kd i)/\((x.lines.length:Int)<=65536/\ ∀ n∈x.lines,Yj n 0 65536)
instance (x:Cod):Decidable (Dd x):=by unfold Dd;infer_instance
def Tb (m:Mdl):Prop:=Yj m.mutexes 0 64/\Yj m.conds 0 64/\((m.vars.length:Int)<=64/\ ∀ n∈m.vars,Yj n (-2147483648) 2147483647)/\((m.arrays.length:Int)<=64/\ ∀ n∈m.arrays,Yj n 0 256)/\((m.chans.length:Int)<=64/\ ∀ n∈m.chans,Yj n 1 16)/\((m.threads.length:Int)<=64/\ ∀ x∈m.threads,Dd x)
instance (m:Mdl):Decidable (Tb m):=by unfold Tb;infer_instance
def Iq (m:Mdl):Int:=if Tb m then 0 else 2
theorem Tf {m:Mdl}:Iq m=0↔Tb m:=by unfold Iq;split<;>simp_all
def cdC (x:ByteArray×Int):List Value:= [.string x.1,I64 x.2]
def Er:List Int:= [0,3,1,1,1,1,1,1,0,0,0,0,0,0,0,0,0,0,0,1,1,1,0,1,1,1,2,1,1,1,1,1,0,0,0]
theorem whatL_at: ∀ k:Fin 35,1<=k.val->((Er[k.val]'k.isLt==1||Er[k.val]'k.isLt==2)=nmA k.val)/\((Er[k.val]'k.isLt==2)=decide ((k.val:Int)=26))/\((Er[k.val]'k.isLt==3)=decide ((k.val:Int)=1)):=by decide
theorem Tu {α:Type}{p:α->Bool}{l:List α}(h:n<l.length):(l.take (n+1)).any p=((l.take n).any p||p l[n]):=by
 rw [aN h,List.any_append];simp
theorem C6 {α:Type}{p:α->Bool}{l:List α}(h:n<l.length)(hp:p l[n]=true):l.any p=true:=kN.2 ⟨_,aC h,hp⟩
end Go.Proofs.YtadahhbefdnabaaGreatDoor
namespace Wx
open Go Go.RowKit
section
variable {P:Program}{p:PE}{M M':Hp}{a:Option Addr}{vs:List Value}{c n ty sz:Nat}
abbrev Bs:=List UInt8
def bs (s:ByteArray):Bs:=s.data.toList
def ba (l:Bs):ByteArray:=⟨l.toArray⟩
def em:ByteArray:=⟨#[]⟩
theorem Qt (l:Bs):bs (ba l)=l:=rfl
theorem ba_bs (s:ByteArray):ba (bs s)=s:=by cases s;rfl
theorem Nf (s:ByteArray):(bs s).length=s.size:=rfl
theorem Zzn (a b:ByteArray):(a.toList==b.toList)=(bs a==bs b):=by rw [ByteArray.toList_eq,ByteArray.toList_eq];rfl
def s8 (s:ByteArray)(n:Nat):Int:=(((bs s).getD n 0).toNat:Int)
section
variable {d:Option Tmp}{ty:TypeId}{pos:String}{af:Array Edge}{gd:Option (Nat×Bool)}{x y z:Operand}{t:TypeId}{kd kd':IntKind}{s:ByteArray}{i j:Int}
theorem Wc (hx:evp p x=some (.string s))(hy:evp p y=some (.int kd i))(ht:P.underlying t=some .string)(h0:0<=i)(h1:i.toNat<s.size):Pu P p ⟨d,.index t x y,ty,pos,af,gd⟩ (.int .u8 (s8 s i.toNat)):=fun g w b=>by
 have e:s[i.toNat]? =some s[i.toNat]:=getElem?_pos s i.toNat h1
 have f:s8 s i.toNat=(s[i.toNat].toNat:Int):=by
  have a:i.toNat<s.data.toList.length:=h1;unfold s8 bs;have c:s.data.toList[i.toNat]? =some s.data.toList[i.toNat]:=aE a;unfold List.getD;rw [c];rfl
 rw [f];simp [execOp,Zp b hx,Zp b hy,Instr.index,asIntOf,run_underlying ht,h0,e]
theorem Sz (hx:evp p x=some (.string s))(hy:evp p y=some (.int kd i))(hz:evp p z=some (.int kd' j))(ht:P.underlying t=some .string)(h0:0<=i)(h1:i<=j)(h2:j.toNat<=s.size):Pu P p ⟨d,.slice t x (some y) (some z) none,ty,pos,af,gd⟩ (.string (s.extract i.toNat j.toNat)):=fun e w a=>by
 have c:0<=j/\j<=(s.size:Int):=⟨by omega,by omega⟩;have b:0<=i/\i<=(j.toNat:Int):=⟨h0,by omega⟩;simp [execOp,Zp a hx,Zp a hy,Zp a hz,Instr.sliceAt,Instr.slice,Instr.sliceBounds,Instr.sliceBound,asIntOf,run_underlying ht,c,b];intro h;omega
end
theorem Zjp (s:ByteArray)(i j:Nat):bs (s.extract i j)=((bs s).drop i).take (j - i):=by
 simp [bs,ByteArray.data_extract,Array.toList_extract,List.extract_eq_take_drop]
def Kn (q:List HP)(φ:Hp->Prop):Prop:= ∀ M h,(stars q).p M h->φ M
def lst (φ:Hp->Prop)(mono: ∀ {M M':Hp},Hle M M'->φ M->φ M'):HP:=⟨fun M _=>φ M,fun e _ p=>mono e p⟩
section
variable {G w:World}{f:Fc}{Q:Yw}{ops:List Oper}{k:List Item}{l:List Oper}{ds:List Deferred}{cs:List Frame}{q q0:List HP}{φ ψ:Hp->Prop}{mn: ∀ {M M':Hp},Hle M M'->φ M->φ M'}{A:HP}
theorem Kn.le (h:Kn q0 φ)(k:Le q q0:=by exact leA):Kn q φ:=fun M x p=>h M x (k M x p)
abbrev cF:=@Kn.le
theorem Kn.here:Kn (lst φ mn::q) φ:=fun _ _ ⟨_,_,_,_,_,p,_⟩=>p
abbrev fJ:=@Kn.here
theorem Kn.there (h:Kn q φ):Kn (A::q) φ:=h.le (dX A q)
theorem Kn.imp (h:Kn q φ)(k: ∀ M,φ M->ψ M):Kn q ψ:=fun M x p=>k M (h M x p)
abbrev kX:=@Kn.imp
theorem Kn.and (h:Kn q φ)(k:Kn q ψ):Kn q fun M=>φ M/\ψ M:=fun M x p=>⟨h M x p,k M x p⟩
abbrev gI:=@Kn.and
theorem Kn.add (h:Kn q φ):Le q (lst φ mn::q):=fun M x p=>⟨fun _=>none,x,fun _=> .inl rfl,fun _ _ e=>by simp at e,.refl _,h M x p,p⟩
abbrev dK:=@Kn.add
def SeesZ (M:Hp)(a:Option Addr)(vs:List Value):Prop:= ∀ i u,vs[i]? =some u-> ∃ b o cur ty,a=some ⟨b,o,none⟩/\M b=some (.cells cur ty (0,0))/\cur[o+i]? =some u
theorem SeesZ.mono (e:Hle M M')(h:SeesZ M a vs):SeesZ M' a vs:=fun i u hu=>
 let ⟨b,o,cur,ty,e1,e2,e3⟩:=h i u hu;⟨b,o,cur,ty,e1,e _ _ e2,e3⟩
theorem Kn.sees (h:Kn q fun M=>SeesZ M a vs):Sees q a vs:=by
 rintro G w ⟨_,M,x,x1,_,_,_,_,p⟩ i u d;obtain ⟨b,o,c,ty,j,g,f⟩:=h M x p i u d;have e:w.heap[b]? =some (.cells c ty (0,0)):=x1 _ _ g;exact ⟨b,o,j,by simp [World.cell?,e,f]⟩
abbrev eR:=@Kn.sees
theorem Kn.fact {χ:Prop}(h:Kn q φ)(k: ∀ M,φ M->χ)(s:St G w q):χ:=let ⟨_,M,x,_,_,_,_,_,p⟩:=s;k M (h M x p)
theorem knA {m: ∀ {M M':Hp},Hle M M'->φ M->φ M'}(h:Le q (lst φ m::q0):=by exact Zj):Kn q φ:=Kn.here.le h
def SlAt (M:Hp)(a:Option Addr)(c n:Nat)(vs:List Value):Prop:=n<=c/\c<=maxLen/\SeesZ M a vs
theorem SlAt.mono (e:Hle M M')(h:SlAt M a c n vs):SlAt M' a c n vs:=⟨h.1,h.2.1,h.2.2.mono e⟩
abbrev fG:=@SlAt.mono
theorem Zwt {h:Hp}(p:slP a c ty sz n vs h):SeesZ h a vs:=by
 obtain ⟨p1,p2⟩:=p;intro i u b;rcases p2 with ⟨rfl,rfl,rfl⟩|⟨g,d,j,m,l,k,f,e⟩
 . have:vs= []:=aS (by omega);subst this;simp at b
 refine ⟨g,0,d,ty,j,e,?_⟩;rw [<-f] at b;rw [fL] at b;split at b
 . rw [dO];simpa using b
 cases b
theorem slP.at (p:slP a c ty sz n vs M):SlAt M a c n vs:=by
 have l:=Zwt p;refine ⟨?_,?_,l⟩
 . rcases p.2 with ⟨_,rfl,h⟩|⟨g,b,k,e,d,j,i,f⟩
   . rw [h];exact aU _
   exact e
 rcases p.2 with ⟨_,rfl,h⟩|⟨g,b,k,e,d,j,i,f⟩
 . simp [maxLen]
 exact d
theorem SlAt.nil (M:Hp):SlAt M none 0 0 []:=⟨aU _,by simp [maxLen],fun i u h=>by simp at h⟩
theorem Kn.slM {a:Option Addr}{c ty sz n:Nat}{vs:List Value}:Kn (slM a c ty sz n vs::q) fun M=>SlAt M a c n vs:=fun _ _ ⟨_,_,_,_,_,p,_⟩=>slP.at p
theorem frz (hq:Le q (slH a c ty sz n vs::q0):=by exact Zj)(h:Kn (lst (fun M=>SlAt M a c n vs) fG::q0) φ)(s:St G w q):St G w (lst φ mn::q0):=by
 have e:=(s.le hq).slFreeze;have d:=e.le (dK (mn:=fG) Kn.slM);have b:=d.le (aM (iS _ _ _) (dX _ _));exact (b.le (dK h)).le (aM (iS _ _ _) (dX _ _))
theorem X.frz {todo:List Item}(h:Kn (lst (fun M=>SlAt M a c n vs) fG::q0) φ)(x:X P G f Q todo p ds cs (lst φ mn::q0))(hq:Le q (slH a c ty sz n vs::q0):=by exact Zj):X P G f Q todo p ds cs q:= .turn (fun w=>Wx.frz hq h) x
theorem XO.frz (h:Kn (lst (fun M=>SlAt M a c n vs) fG::q0) φ)(x:XO P G f Q ops.toArray k l p ds cs (lst φ mn::q0))(hq:Le q (slH a c ty sz n vs::q0):=by exact Zj):XO P G f Q ops.toArray k l p ds cs q:= .turn (fun w=>Wx.frz hq h) x
end
end
section
section
variable {α:Type}{P:Program}{G:World}{fr:Fc}{Q:Yw}{k:List Item}{p:PE}{ds:List Deferred}{cs:List Frame}{q q0 r:List HP}{ops lo:List Oper}{f:α->List Value}{sz ty:Nat}{a b:Option Addr}{c c':Nat}{l m:List α}
section
variable {d:Option Tmp}{ty':TypeId}{pos:String}{af:Array Edge}{gd:Option (Nat×Bool)}{x y:Operand}{t:TypeId}{z:Value}{bytes i:Nat}
theorem X0 (off:Nat): ∀ (us:List Value) (n:Nat) (pre post:List Value),pre.length=off+n->us.length<=post.length->(us.zipIdx n).foldl (fun cs (c,i)=>cs.setIfInBounds (off+i) c) (pre++post).toArray=(pre++us++post.drop us.length).toArray:=by
 intro us
 induction us with
 |nil=>intro n pre post _ h;simp
 |cons u r ih=>
  intro n pre post a h
  obtain ⟨x,post,rfl⟩: ∃ x l,post=x::l:=by cases post with
   |nil=>cases h
   |cons x l=>exact ⟨x,l,rfl⟩
  rw [List.zipIdx_cons,kV];have:=ih (n+1) (pre++ [u]) post (by simp;omega) (by simpa using h);simp only [aK,gW] at this;simpa [<-a] using this
theorem Ef.litR2 {u v:α}(f:α->List Value)(ht:P.underlying t=some (.slice ty))(hi:(P.info? ty).map (fun i=>(i.zero,i.size,i.bytes))=some (some z,sz,bytes))(h0:Nat.ble (2*sz) 16777216=true)(hn:Nat.blt 0 sz=true)
 (hf: ∀ x,(f x).length=sz) (hx:evp p x=some (.agg (f u).toArray)) (hy:evp p y=some (.agg (f v).toArray)):
 Ef P G p q ⟨d,.buildSlice t 2 [(0,x),(1,y)].toArray,ty',pos,af,gd⟩ fun w q'=> ∃ g,w= .slice (some ⟨g,0,none⟩) 2 2/\q'=Wx.rsH f sz ty (some ⟨g,0,none⟩) 2 [u,v]::q:=by
 have l: ∀ u,(Value.agg (f u).toArray).cells=(f u).toArray:=fun _=>rfl
 have b:Instr.fill (fun i=>some (i*sz,sz)) ((Array.range (2*sz)).map (z.cells[· % z.cells.size]!)) (([(0,x),(1,y)].map (·.1)).zip [Value.agg (f u).toArray,Value.agg (f v).toArray])=some (f u++f v).toArray:=by
  obtain ⟨A,m,r⟩: ∃ A:List Value,(Array.range (2*sz)).map (z.cells[· % z.cells.size]!)=A.toArray/\A.length=2*sz:=⟨((Array.range (2*sz)).map (z.cells[· % z.cells.size]!)).toList,Array.toArray_toList.symm,by rw [gK,Array.size_map,Array.size_range]⟩;have e:=X0 (0*sz) (f u) 0 [] A (by simp) (by rw [hf];omega);have k:=X0 (1*sz) (f v) 0 (f u) (A.drop (f u).length) (by rw [hf];omega) (by rw [cE,hf,hf];omega);rw [aY,aY] at e;have j: ∀ (a:Nat) (us:List Value) (A:Array Value),(us.toArray.zipIdx).foldl (fun cs (c,i)=>cs.setIfInBounds (a+i) c) A=(us.zipIdx 0).foldl (fun cs (c,i)=>cs.setIfInBounds (a+i) c) A:=by intro a us A;simp
  have o:=(j (0*sz) (f u) A.toArray).trans e;have n:=(j (1*sz) (f v) (f u++A.drop (f u).length).toArray).trans k;rw [m];simp only [bA,dC,gS,List.zip_nil_left,List.zip_nil_right,Instr.fill,l];rw [if_neg (by simp [hf];omega),o,if_neg (by simp [hf];omega),n];congr 2;rw [cL (by rw [cE,hf,hf];omega),bR]
 have:=kL (P:=P) (G:=G) (p:=p) (q:=q) (d:=d) (ty:=ty') (pos:=pos) (af:=af) (gd:=gd) (ps:= [(0,x),(1,y)]) (len:=2) ht hi (us:= [.agg (f u).toArray,.agg (f v).toArray]) (by simp [evl,hx,hy]) (by simpa using h0) (by have h:=hn;simp [fI] at h|-;omega) b (by simp [hf];omega);simpa [Wx.rsH] using this
end
variable {φ:Hp->Prop}{mn: ∀ {M M':Hp},Hle M M'->φ M->φ M'}
theorem X.frzR {todo:List Item}(h:Kn (lst (fun M=>SlAt M a c l.length (l.flatMap f)) fG::q0) φ)(x:X P G fr Q todo p ds cs (lst φ mn::q0))(hq:Le q (rsH f sz ty a c l::q0):=by exact Zj):X P G fr Q todo p ds cs q:= .frz h x hq
end
end
section
section
variable {P:Program}{G:World}{f:Fc}{Q:Yw}{ops:List Oper}{k:List Item}{p:PE}{ds:List Deferred}{cs:List Frame}{q:List HP}{rest:List Oper}{v:Value}
variable {pk:PE}{L:Rds}{n:Nat}{done:List Nat}{args:List Operand}{ats:Array TypeId}{ty:TypeId}{pos:String}{af:Array Edge}{gd:Option (Nat×Bool)}{vs:List Value}{pre:List HP}{R:Value->List HP->Prop}{d:Tmp}{fo:Operand}{fv:Value}
theorem XD.cVX (i:Nat)(hq:Le q pre)(hc:CallV P G fv vs pre (Ret R))
 (K: ∀ v q',R v q'->HL q' (cut ⟨some d,.call ⟨.value fo,args.toArray,ats⟩,ty,pos,af,gd⟩ L)/\XD P G f Q ops k pk (cut ⟨some d,.call ⟨.value fo,args.toArray,ats⟩,ty,pos,af,gd⟩ L) n (i::done) ((d,v)::p) ds cs q')
 (ho:ops[i]? =some ⟨some d,.call ⟨.value fo,args.toArray,ats⟩,ty,pos,af,gd⟩:=by rfl) (hf:evp p fo=some fv:=by rfl) (hv:evl p args=some vs:=by rfl)
 (h1:Uc ops done i=true:=by rfl) (hr:rdy ops done i=true:=by rfl) (hw:Wt ops p ⟨some d,.call ⟨.value fo,args.toArray,ats⟩,ty,pos,af,gd⟩=some true:=by rfl) (hd:Nat.blt d f.n=true:=by rfl):XD P G f Q ops k pk L (n+1) done p ds cs q:=
 .call i ho hf hv hc (hq.trans (Jc pre)) (fun v q' h a e=>by rw [bR] at e;rw [e];exact K v q' h) h1 hr hw hd
end
end
section
variable {P:Program}{w:World}{ds:List Deferred}{cs:List Frame}{v:Value}{cst:Array Bool}
def Brn (w:World)(a:Addr):Prop:= ∃ cs ty,w.heap[a.block]? =some (.cells cs ty (0,0))
def Q5 (e:Addr×Value×Nat):MapEntry:= { key:= .pointer (some e.1),val:=e.2.1,born:=e.2.2 }
section
variable {G:World}{f:Fc}{Q:Yw}{ops:List Oper}{k:List Item}{rest:List Oper}{p:PE}{q r:List HP}{d:Option Tmp}{ty:TypeId}{pos:String}{af:Array Edge}{gd:Option (Nat×Bool)}{x y z:Operand}{t t' kt et te:TypeId}{kd:IntKind}{u:Value}{b clock:Nat}{es:List (Addr×Value×Nat)}{a:Addr}{j:TypeInfo}
theorem Ru {c:Addr}(hp:P.underlying kt=some (.pointer te))(hte:P.info? te=some j)(hsz:j.size≠0)(hne:a≠c)(ha:Brn w a)(hb:Brn w c):
 (Op.equal kt (.pointer (some a)) (.pointer (some c))).run P w= .ok false w:=by
 obtain ⟨ca,e,ha⟩:=ha;obtain ⟨f,b,hb⟩:=hb
 have h: ∀ d:Nat,(Op.equalIn (d+1) kt (.pointer (some a)) (.pointer (some c))).run P w= .ok false w:=fun d=>by
  simp [Op.equalIn,run_underlying hp,Go.sizeOf,typeInfo,hte,hsz,run_sameAddr_other w hne ha hb]
 simp [Op.equal,Op.maxDepth,h 9999]
theorem Sr (hp:P.underlying kt=some (.pointer te))(hte:P.info? te=some j):(Op.equal kt (.pointer (some a)) (.pointer (some a))).run P w= .ok true w:=by
 have h: ∀ d:Nat,(Op.equalIn (d+1) kt (.pointer (some a)) (.pointer (some a))).run P w= .ok true w:=fun d=>by
  simp [Op.equalIn,run_underlying hp,Go.sizeOf,typeInfo,hte,run_sameAddr_same]
 simp [Op.equal,Op.maxDepth,h 9999]
theorem Tp {w:World}(hp:P.underlying kt=some (.pointer te))(hte:P.info? te=some j)(hsz:j.size≠0)(ha:Brn w a): ∀ (es:List (Addr×Value×Nat)) (i:Nat),(∀ e∈es,a≠e.1/\Brn w e.1)->
 (Instr.findAsking kt (.pointer (some a)) (es.map Q5) i).run P w= .ok none w
 | [],i,_=>by simp [Instr.findAsking]
 |e::es,i,h=>by
  have b:=h e (bW ..);simp [Instr.findAsking,Q5,Ru hp hte hsz b.1 ha b.2,Tp hp hte hsz ha es (i+1) (fun y c=>h y (bX _ c)),Result.andThen]
theorem Fk {w:World}{v:Value}{n:Nat}(hp:P.underlying kt=some (.pointer te))(hte:P.info? te=some j)(hsz:j.size≠0)(ha:Brn w a): ∀ (es:List (Addr×Value×Nat)) (i:Nat),(∀ e∈es,a≠e.1/\Brn w e.1)->
 (Instr.findAsking kt (.pointer (some a)) ((es++ [(a,v,n)]).map Q5) i).run P w= .ok (some (i+es.length,v)) w
 | [],i,_=>by simp [Instr.findAsking,Q5,Sr hp hte,Result.andThen]
 |e::es,i,h=>by
  have c:=h e (bW ..);have b:=Fk (v:=v) (n:=n) hp hte hsz ha es (i+1) (fun y d=>h y (bX _ d));rw [show i+1+es.length=i+(e::es).length by simp;omega] at b;simp only [bO,bA,Instr.findAsking,Q5,Sem.run_bind,Ru hp hte hsz c.1 ha c.2,Result.andThen];simpa [Q5] using b
theorem Ig {es:List MapEntry}{o:Option (Nat×Value)}(hp:P.underlying kt=some (.pointer te))(h:(Instr.findAsking kt (.pointer (some a)) es 0).run P w= .ok o w):(Instr.findKey kt (.pointer (some a)) es).run P w= .ok o w:=by
 unfold Instr.findKey
 cases es with
 |nil=>simp [run_underlying hp,Instr.findNow,Result.andThen];simpa [Instr.findAsking] using h
 |cons e es=>simp [run_underlying hp,Instr.findNow,Instr.sameNow,Result.andThen,h]
theorem Gn (hp:P.underlying kt=some (.pointer te))(e:Bool)(n:Nat):(Instr.checkKey e (n+1) kt (.pointer (some a))).run P w= .ok () w:=by
 unfold Instr.checkKey;simp [run_underlying hp,Result.andThen]
def KeysAt (q:List HP)(a:Addr)(es:List (Addr×Value×Nat)):Prop:= ∀ G w,St G w q->Brn w a/\ ∀ e∈es,a≠e.1/\Brn w e.1
theorem KeysAt.le {q':List HP}(h:KeysAt q' a es)(l:Le q q'):KeysAt q a es:=fun G w s=>h G w (s.le l)
theorem Sx (ht:P.underlying t=some (.map kt et))(hp:P.underlying kt=some (.pointer te))(hte:P.info? te=some j)(hsz:j.size≠0)(hx:evp p x=some (.map (some b)))(hy:evp p y=some (.pointer (some a)))(hz:evp p z=some v)(hK:KeysAt q a es)
 (hq:Le q (pto b (.map (es.map Q5).toArray clock)::r)):Ef P G p q ⟨d,.mapUpdate t x y z,ty,pos,af,gd⟩ fun u q'=>u=undef/\q'=pto b (.map ((es++ [(a,v,clock)]).map Q5).toArray (clock+1))::r:=
 fun k w f s=>by
  obtain ⟨e,c⟩:=hK G w s;have g:=s.le hq;have h:=g.has (dU _ _ _);have i:=Ig (P:=P) (w:=w) hp (Tp hp hte hsz e es 0 c);refine ⟨undef,_,_,.inr ⟨rfl,?_⟩,g.setObjM (o:= .map ((es.map Q5).toArray.push { key:= .pointer (some a),val:=v,born:=clock }) (clock+1)),rfl,by simp [Q5]⟩;simp [execOp,Zp f hx,Zp f hy,Zp f hz,Instr.mapUpdate,run_underlying ht,MapKept.run_getObj_map h,Gn hp,i,MapKept.run_setObj_map _ h,Result.andThen]
theorem Pq {zv:Value}(ht:P.underlying t=some (.map kt et))(hp:P.underlying kt=some (.pointer te))(hte:P.info? te=some j)(hsz:j.size≠0)(hx:evp p x=some (.map (some b)))(hy:evp p y=some (.pointer (some a)))(hK:KeysAt q a es)
 (hq:Le q (pto b (.map (es.map Q5).toArray clock)::r)) (hz: ∀ w,(zeroValue et).run P w= .ok zv w):Rd P G p q ⟨d,.lookup t x y true,ty,pos,af,gd⟩ (.tuple [zv,.bool false].toArray):=
 fun i w f s=>by
  obtain ⟨e,c⟩:=hK G w s;have h:=(s.le hq).has (dU _ _ _);have g:=Ig (P:=P) (w:=w) hp (Tp hp hte hsz e es 0 c);simp [execOp,Zp f hx,Zp f hy,Instr.lookup,run_underlying ht,MapKept.run_getObj_map h,Gn hp,g,hz,Result.andThen]
def dfDel (ats:Array TypeId)(ty:TypeId)(cst:Array Bool)(b:Nat)(a:Addr):Deferred:= { target:= .builtin .delete ats ty cst,args:= #[.map (some b),.pointer (some a)] }
theorem XO.dfDel {ats:Array TypeId}{m y:Operand}(K: ∀ cst,XO P G f Q ops.toArray k rest (Qg p d undef) (Wx.dfDel ats ty cst b a::ds) cs q)(hm:evp p m=some (.map (some b)):=by rfl)(hy:evp p y=some (.pointer (some a)):=by rfl)(hro:f.round=none:=by rfl)(hd:dOk f.n d=true:=by rfl)
 (hw:Wt ops p ⟨d,.defer ⟨.builtin .delete, [m,y].toArray,ats⟩,ty,pos,af,gd⟩=some true:=by rfl):
 XO P G f Q ops.toArray k (⟨d,.defer ⟨.builtin .delete, [m,y].toArray,ats⟩,ty,pos,af,gd⟩::rest) p ds cs q:=by
 intro is h g w n l s
 cases is with
 |nil=>simp at h
 |cons i r=>
  obtain ⟨ho,u⟩:=fW h;have h1:=Zp l hm;have h2:=Zp l hy;have c: ∃ cst,∀ w,(resolve (evA g) ⟨.builtin .delete, [m,y].toArray,ats⟩ ty).run P w= .ok (Wx.dfDel ats ty cst b a) w:=⟨_,fun w=>by simp [resolve,h1,h2,Wx.dfDel];rfl⟩;obtain ⟨cst,c⟩:=c;obtain ⟨o',o,p',v,j,w',q',hQ,hn,ha,hs,z⟩:=K cst r u (Wg g d undef) w (by rw [Yg];exact n) (l.put (n ▸ hd)) s;refine ⟨o',o,p',v,j,w',q',hQ,hn,ha,hs,z.head (.one (step_lone_go ?_))⟩;have e:=V7 f g (Wx.dfDel ats ty cst b a::ds) _ i r k undef ho;simp only at e;rw [<-e];have he:(f.fr g ds (.inRegion ops.toArray (i::r)::k)).eval=evA g:=funext fun x=>Kc ..
  simp only [Fc.fr,hro] at he;have t:=Yt l hw;simp only [stepG,stepG.exec,stepG.oper,Frame.oper?,Fc.fr,ho,t,he,iL,Option.getD_some,if_true,hro];simp [stepG.apply,execOp,c,Fc.fr]
theorem O1 {fr:Frame}{w':World}{bi:Builtin}{ats:Array TypeId}{tt:TypeId}{args:Array Value}(hm:fr.mode≠ .run)(hd:fr.defers= { target:= .builtin bi ats tt cst,args:=args } ::ds)
 (hi:(invoke (.builtin bi ats tt cst) args).run P w= .ok (.value v) w'):step P (lone fr cs w)= .next (lone { fr with defers:=ds } cs w'):=by
 refine step_lone_go ?_
 cases hmode:fr.mode with
 |run=>exact aV hmode hm
 |returning=>simp [stepG,unwind,callDeferred,hmode,hd,hi]
 |panicking chain=>simp [stepG,unwind,callDeferred,hmode,hd,hi]
theorem Lv.del {fn:FuncId}{R:Ub}{F:List HP}{ats:Array TypeId}{ty:TypeId}{mt:TypeId}{n:Nat}(hat:ats[0]? =some mt)(ht:P.underlying mt=some (.map kt et))(hp:P.underlying kt=some (.pointer te))(hte:P.info? te=some j)(hsz:j.size≠0)(hK:KeysAt q a es)
 (hq:Le q (pto b (.map ((es++ [(a,v,n)]).map Q5).toArray clock)::r)) (K:Lv P G fn R F ds .returning p (pto b (.map (es.map Q5).toArray clock)::r)):Lv P G fn R F (Wx.dfDel ats ty cst b a::ds) .returning p q:=by
 intro tm w fr cs h1 h2 h3 h4 h5 ag s;obtain ⟨t,m⟩:=hK G w s;have x:=s.le hq;have z:=x.has (dU _ _ _);have y:=Ig (P:=P) (w:=w) hp (Fk (v:=v) (n:=n) hp hte hsz t es 0 m);rw [dO] at y;have s2:=x.setObjM (o:= .map (es.map Q5).toArray clock)
 have d:(es.map Q5++ [Q5 (a,v,n)]).eraseIdx es.length=es.map Q5:=by
  rw [kH (by simp)];simp
 have c:=y;rw [aO] at c
 have a0:(((es++ [(a,v,n)]).map Q5).toArray).eraseIdxIfInBounds es.length=(es.map Q5).toArray:=by
  apply Array.toList_inj.1;simp [Array.eraseIdxIfInBounds,kH]
 have hi:(invoke (.builtin .delete ats ty cst) #[.map (some b),.pointer (some a)]).run P w= .ok (.value (.tuple #[])) { w with heap:=w.heap.setIfInBounds b (.map (es.map Q5).toArray clock) } :=by
  simp only [invoke,builtin,Builtin.delete_,hat];simp [run_underlying ht,MapKept.run_getObj_map z,Gn hp,show (Instr.findKey kt (.pointer (some a)) (es.map Q5++ [Q5 (a,v,n)])).run P w= .ok (some (es.length,v)) w from c,Result.andThen,MapKept.run_setObj_map _ z,d]
 have st:=O1 (P:=P) (cs:=cs) (w:=w) (fr:=fr) (ds:=ds) (by rw [h4];intro h;cases h) h3 hi;obtain ⟨e,f,u,q',hR,k,i,g,l,hl⟩:=K tm _ { fr with defers:=ds } cs h1 h2 rfl h4 h5 ag s2;exact ⟨e,f,u,q',hR,k,i,Steps.head st g,l,hl⟩
end
end
section
def IterR {τ:Type}(P:Program)(G:World)(gv:Value)(R:τ->List Value->HP->Prop)(xs:List τ)(pre:List HP):Prop:=
 ∀ (l:Nat) (J:Nat->HP) (Jf:HP->Prop),
  (∀ i (h:i<xs.length) vs A,R xs[i] vs A->CallV P G (.func (.yield l) #[] #[]) vs (J i::A::pre) (Ret fun v q=>(v= .bool true/\q=J (i+1)::pre)\/(v= .bool false/\ ∃ B,Jf B/\q=B::pre)))->
  CallV P G gv [.func (.yield l) #[] #[]] (J 0::pre) (Ret fun _ q=>q=J xs.length::pre\/ ∃ B,Jf B/\q=B::pre)
section
variable {P:Program}{G:World}{f:Fc}{Q:Yw}{k:List Item}{p:PE}{ds:List Deferred}{cs:List Frame}{q:List HP}
theorem Zqx {τ:Type}{g:Operand}{ps:List Tmp}{asc bd:Code}{gv:Value}{R:τ->List Value->HP->Prop}{xs:List τ}{F:List HP}(pre:List HP)(Inv:Nat->List HP)(Jmp:Code->List HP->Prop)(hI:IterR P G gv R xs pre)(hg:evp p g=some gv)(hq:Le q (Inv 0++(pre++F)))
 (hxs: ∀ x vs A,R x vs A->vs.length=ps.length) (hps:ps.all (Nat.blt · f.n)=true) (hf:(P.funcs[f.fn]?).isSome=true) (hro:f.round=none)
 (round: ∀ i (h:i<xs.length) vs A,R xs[i] vs A-> ∀ l rec F₀ cs₀,X P G ⟨f.fn,f.n,.normal,some l⟩ (RQ cs₀ rec l (Inv (i+1)) Jmp (pre++F₀)) [.code asc,.beginRound,.code bd] (Gq ps vs p) [] cs₀ (lp rec l .ready none::(Inv i++(A::(pre++F₀)))))
 (cont: ∀ r,X P G f Q k p (markD r::ds) cs (pto r (.deferred (some []))::(Inv xs.length++(pre++F))))
 (contJ: ∀ r c qs,Jmp c qs->X P G f Q (.code c::k) p (markD r::ds) cs (pto r (.deferred (some []))::(qs++(pre++F)))):
 X P G f Q (.code (.rangeFunc g ps.toArray asc bd)::k) p ds cs q:=by
 refine X.rangeFunc (pre:=Inv 0++pre) (F:=F) (R':=fun a m=>(a=none/\m=Inv xs.length++pre)\/ ∃ c qs,a=some c/\Jmp c qs/\m=qs++pre) hro hg (by rw [aK];exact hq) (fun l rec d=> ?_) fun r a m h=> ?_
 . have t:=hI l (fun i=>stars (lp rec l .ready none::Inv i)) (fun A=> ∃ c qs,Jmp c qs/\A=stars (lp rec l .done (some c)::qs)) fun i h vs A hR=> ?_
   . refine hY (pre':=stars (lp rec l .ready none::Inv 0)::pre) ?_ t ?_
     . rw [show lp rec l .ready none::(Inv 0++pre)=(lp rec l .ready none::Inv 0)++pre from rfl];exact Zm _ _
     rintro e q' ⟨v,rfl,rfl|⟨A,⟨c,qs,b,rfl⟩,rfl⟩⟩
     . exact ⟨lp rec l .ready none::(Inv xs.length++pre),⟨v,rfl,.ready,none,_,by simp,rfl,.inl ⟨rfl,rfl⟩⟩,Zy _ _⟩
     exact ⟨lp rec l .done (some c)::(qs++pre),⟨v,rfl,.done,some c,_,by simp,rfl,.inr ⟨c,qs,rfl,b,rfl⟩⟩,Zy _ _⟩
   refine hY (pre':=lp rec l .ready none::(Inv i++(A::pre))) (Zy (lp rec l .ready none::Inv i) (A::pre))
    (CallV.yield (R:=Ret fun v q=>(v= .bool true/\q=lp rec l .ready none::(Inv (i+1)++pre))\/(v= .bool false/\ ∃ c qs,Jmp c qs/\q=lp rec l .done (some c)::(qs++pre))) d hps (by simpa using hxs _ _ _ hR) hf (fun F₀ cs₀=> ?_)) ?_
   . intro tm w hn ha s;obtain ⟨o,j,p',b0,c0,w',q',⟨a0,z,u⟩,h1,h2,h3,h4⟩:=round i h vs A hR l rec F₀ cs₀ tm w hn ha (by rw [aK] at s;exact s);refine ⟨o,j,p',b0,c0,w',q',⟨a0,z,?_⟩,h1,h2,h3,h4⟩
     cases o with
     |fall=>exact ⟨Inv (i+1)++pre,⟨_,rfl,.inl ⟨rfl,rfl⟩⟩,by rw [aK];exact u⟩
     |jump c=>obtain ⟨qs,b,y⟩:=u;exact ⟨qs++pre,⟨_,rfl,.inr ⟨rfl,c,qs,b,rfl⟩⟩,by rw [aK];exact y⟩
     |panic ch=>exact u.elim
   rintro e q' ⟨v,rfl,⟨rfl,rfl⟩|⟨rfl,c,qs,b,rfl⟩⟩
   . exact ⟨stars (lp rec l .ready none::Inv (i+1))::pre,⟨_,rfl,.inl ⟨rfl,rfl⟩⟩,Zm (lp rec l .ready none::Inv (i+1)) pre⟩
   exact ⟨stars (lp rec l .done (some c)::qs)::pre,⟨_,rfl,.inr ⟨rfl,_,⟨c,qs,b,rfl⟩,rfl⟩⟩,Zm (lp rec l .done (some c)::qs) pre⟩
 rcases h with ⟨rfl,rfl⟩|⟨c,qs,rfl,b,rfl⟩
 . have:=cont r;rw [<-aK] at this;exact this
 have:=contJ r c qs b;rw [<-aK] at this;exact this
end
end
section
variable {d:Option Tmp}{b sz:Nat}{us:List Value}
section
variable {P:Program}{G:World}{f:Fc}{Q:Yw}{ops:List Oper}{k:List Item}{rest:List Oper}{ds:List Deferred}{cs:List Frame}{p:PE}{q r:List HP}{ty:TypeId}{pos:String}{af:Array Edge}{gd:Option (Nat×Bool)}{x y:Operand}{t:TypeId}
theorem Pz {o:Nat}(hx:evp p x=some (.pointer (some ⟨b,o,none⟩)))(ht: ∀ w,(isAgg t).run P w= .ok true w)(hs: ∀ w,(Go.sizeOf t).run P w= .ok sz w)(hl:us.length=sz)
 (hc:CellsAt q b o us):Rd P G p q ⟨d,.load t x,ty,pos,af,gd⟩ (.agg us.toArray):=fun e w c s=>by
 have hc:=run_loadCells_list (P:=P) w ⟨b,o,none⟩ us (fun j u a=>by rw [Vj];exact hc j u a G w s);rw [hl] at hc;simp [execOp,Zp c hx,Instr.loadAt,Instr.sureAddr,loadVar,ht,hs,hc]
theorem Kr {d:Tmp}{o:Nat}(ht: ∀ w,(isAgg t).run P w= .ok true w)(hs: ∀ w,(Go.sizeOf t).run P w= .ok sz w)(hl:us.length=sz)(hc:CellsAt q b o us)(K:XO P G f Q ops.toArray k rest ((d,.agg us.toArray)::p) ds cs q)
 (hx:evp p x=some (.pointer (some ⟨b,o,none⟩)):=by rfl) (hw:Wt ops p ⟨some d,.load t x,ty,pos,af,gd⟩=some true:=by rfl) (hd:Nat.blt d f.n=true:=by rfl):
 XO P G f Q ops.toArray k (⟨some d,.load t x,ty,pos,af,gd⟩::rest) p ds cs q:= .rd (Pz hx ht hs hl hc) K hw hd
theorem Rd.efE {o:Oper}{v:Value}(h:Rd P G p q o v)(E:List HP):Ef P G p (q++E) o fun v' q'=> ∃ q1,(v'=v/\q1=q)/\q'=q1++E:=fun tm w ag s=>
 ⟨v,w,q++E,.inl (h tm w ag (s.le (Wq q E))),s,q,⟨rfl,rfl⟩,rfl⟩
theorem Pl {α:Type}{fl:α->List Value}{l:List α}{a:Option Addr}{c et:Nat}{u:α}{n g:Nat}{j:Int}(hx:evp p x=some (.pointer (some ⟨g,0+j.toNat*sz,none⟩)))(hy:evp p y=some (.agg (fl u).toArray))(hsz: ∀ w,(Go.sizeOf t).run P w= .ok sz w)(hf: ∀ x,(fl x).length=sz)
 (hj:j=n) (hn:n<l.length) (h1:(fl u).all (·.oneCell')=true) (hq:Le q (Wx.rsH fl sz et (some ⟨g,0,none⟩) c l::r)):
 Ef P G p q ⟨d,.store t x y,ty,pos,af,gd⟩ fun z q'=>z=undef/\q'=Wx.rsH fl sz et (some ⟨g,0,none⟩) c (l.set n u)::r:=by
 subst hj;rw [cT,dO] at hx;intro tm w ag s;obtain ⟨h0,h2|⟨g',b,q1,o,q3,m,q5,s'⟩⟩:=(s.le hq).slH_elim
 . obtain ⟨_,_,h3,_⟩:=h2;omega
 cases q1
 have h:n*sz+sz<=l.length*sz:=by
  have:=eJ sz (show n+1<=l.length from hn);rw [eG,lI] at this;omega
 have hc:n*sz+sz<=b.size:=by rw [m];exact dR h (eJ _ o)
 obtain ⟨z,v,q',hr,hs,rfl,rfl⟩:=Ef.storeA (G:=G) (d:=d) (ty:=ty) (pos:=pos) (af:=af) (gd:=gd) (q:=pto g (.cells b.toList.toArray et (0,0))::r) hx hy hsz (hf u) h1 (Le.here _ _) (by simpa [Nat.ble_eq] using hc) tm w ag (by simpa using s');refine ⟨_,v,_,hr,?_,rfl,rfl⟩;have hl:(l.set n u).length=l.length:=by simp
 unfold Wx.rsH;rw [hl];have k:b.toList.length=c*sz:=by simpa using m
 have f:(Vo b.toList (n*sz) (fl u)).length=b.toList.length:=by
  unfold Vo;rw [aA,aA,bI,cE,hf];omega
 refine hs.le (Yn o q3 (by rw [fE,f,k]) ?_ r);rw [List.toList_toArray]
 have e1:(l.set n u).flatMap fl=(l.flatMap fl).take (n*sz)++fl u++(l.flatMap fl).drop (n*sz+sz):=by
  rw [Qu hf,show n*sz+sz=(n+1)*sz by rw [eG];omega,Nx hf,eX,if_pos hn,eK,bZ,aK]
 rw [e1,<-q5];unfold Vo;rw [hf];have hA:(b.toList.take (n*sz)).length=n*sz:=by rw [bI];omega
 apply kC;intro i;simp only [fL,List.getElem?_append,aA,bI,gR,hf,hA];have hm:min (n*sz) (l.length*sz)=n*sz:=by omega
 have a0:min (n*sz) b.toList.length=n*sz:=by omega
 have e:min (n*sz) (min (l.length*sz) b.size)=n*sz:=by omega
 by_cases c1:i<n*sz
 . simp [c1,e,show i<l.length*sz by omega,show i<n*sz+sz by omega]
 by_cases c2:i<n*sz+sz
 . simp [c1,c2,e,show i<l.length*sz by omega]
 by_cases c3:i<l.length*sz
 . simp [c1,c2,c3,e,show n*sz+sz+(i - (n*sz+sz))=i by omega]
 simp [c1,c2,c3,e,show n*sz+sz+(i - (n*sz+sz))=i by omega]
end
end
section
section
variable {P:Program}{G:World}{f:Fc}{Q:Yw}{ops:List Oper}{k:List Item}{pk p:PE}{fl:List FlE}{L:Rds}{n:Nat}{done:List Nat}{ds:List Deferred}{cs:List Frame}{q r:List HP}{op:Op}{ty:TypeId}{pos:String}{af:Array Edge}{gd:Option (Nat×Bool)}{x y:Operand}{t:TypeId}
theorem Nd (j:Nat){R:Value->List HP->Prop}(hE: ∀ E,Ef P G p (q++E) ⟨none,op,ty,pos,af,gd⟩ fun v q'=> ∃ q1,R v q1/\q'=q1++E)
 (K: ∀ v q1,R v q1->HL q1 (cut ⟨none,op,ty,pos,af,gd⟩ L)/\XF P G f Q ops k pk fl (cut ⟨none,op,ty,pos,af,gd⟩ L) n (j::done) p ds cs q1)
 (ho:ops[j]? =some ⟨none,op,ty,pos,af,gd⟩:=by rfl) (hif:(fl.map (·.i)).contains j=false:=by rfl) (hr:rdy ops done j=true:=by rfl) (hw:Wt ops p ⟨none,op,ty,pos,af,gd⟩=some true:=by rfl):StepOk P G f Q ops k pk fl L n done p ds cs q j:=
 ⟨_,R,ho,hE,K,hif,hr,hw,rfl⟩
theorem Sw {α:Type}{fl:α->List Value}{l:List α}{c sz et:Nat}{u:α}{n g:Nat}{j:Int}{d:Option Tmp}(hx:evp p x=some (.pointer (some ⟨g,0+j.toNat*sz,none⟩)))(hy:evp p y=some (.agg (fl u).toArray))(hsz: ∀ w,(Go.sizeOf t).run P w= .ok sz w)(hf: ∀ x,(fl x).length=sz)
 (hj:j=n) (hn:n<l.length) (h1:(fl u).all (·.oneCell')=true) (hq:Le q (Wx.rsH fl sz et (some ⟨g,0,none⟩) c l::r)) (E:List HP):
 Ef P G p (q++E) ⟨d,.store t x y,ty,pos,af,gd⟩ fun z q'=> ∃ q1,(z=undef/\q1=Wx.rsH fl sz et (some ⟨g,0,none⟩) c (l.set n u)::r)/\q'=q1++E:=by
 intro h w m s;obtain ⟨v,f,q',e,b,k,i⟩:=Pl (P:=P) (G:=G) (d:=d) (ty:=ty) (pos:=pos) (af:=af) (gd:=gd) (a:=none) (r:=r++E) hx hy hsz hf hj hn h1 (hq.liftR E) h w m s;exact ⟨v,f,q',e,b,_,⟨k,rfl⟩,i⟩
theorem Kn.im {b:Nat}{o:Obj}:Kn (Wx.im b o::q) fun M=>M b=some o:=fun _ _ ⟨_,_,_,_,_,p,_⟩=>p
end
end
end Wx
namespace Go.Proofs.YtadahhbefdnabaaGreatDoor
open Go Go.RowKit Wx Go.Proofs.Tryz
variable {a:Option Addr}{c n:Nat}{M M':Hp}{q q0:List HP}{k slot op:Int}{nm b:ByteArray}{loc:Bool}{s:Bs}
structure Tk where
 k:Int
 t:ByteArray
 n:Int
 ln:Int
 cl:Int
variable {L:List Tk}
def tkC (x:Tk):List Value:= [I64 x.k,.string x.t,I64 x.n,I64 x.ln,I64 x.cl]
def Zz7 (c:UInt8):Bool:=decide (97<=c.toNat) && decide (c.toNat<=122)
def Jo (c:UInt8):Bool:=decide (48<=c.toNat) && decide (c.toNat<=57)
def By (c:UInt8):Bool:=Zz7 c||Jo c
def wordsS:List Bs:= [[118,97,114], [97,114,114,97,121], [109,117,116,101,120], [99,111,110,100], [99,104,97,110], [116,104,114,101,97,100], [108,101,116], [105,102], [101,108,115,101], [119,104,105,108,101], [108,111,99,107], [117,110,108,111,99,107], [119,97,105,116], [115,105,103,110,97,108], [97,108,108], [115,101,110,100], [114,101,99,118], [115,112,97,119,110], [106,111,105,110], [112,114,105,110,116]]
def signsS:List Bs:= [[61,61], [33,61], [60,61], [38,38], [124,124], [59], [40], [41], [123], [125], [91], [93], [61], [60], [43], [45], [42], [47], [37], [33]]
def kwS (w:Bs):Bool:=wordsS.any (· ==w)
def N7 (w:Bs):Int:=w.foldl (fun n c=>n*10+((c.toNat:Int) - 48)) 0
def Xf (w:Bs):Option Int:=if w.all Jo && decide (w.length<=10) then (if N7 w<=2147483647/\(w.length=1\/w.getD 0 0≠48) then some (N7 w) else none) else none
def Rf (l:Bs):Nat:=(l.takeWhile By).length
def S4 (l:Bs):Option (Int×Bs×Int):=
 let w:=l.take (Rf l)
 if 0<Rf l/\Jo (l.getD 0 0)=true then (match Xf w with|some x=>some (2,w,x)|none=>none)
 else if 0<Rf l/\kwS w=true then some (3,w,0)
 else if 16<Rf l then none
 else if 0<Rf l then some (1,w,0)
 else match signsS.find? (fun s=>s==l.take s.length) with
  |some s=>some (4,s,0)
  |none=>none
def Hb:Nat->Bs->Int->Int->Option (List Tk)
 |0,_,_,_=>none
 |_+1, [],_,_=>some []
 |f+1,c::r,ln,cl=>
  if c=10 then Hb f r (ln+1) 1
  else if c=32\/c=9\/c=13 then Hb f r ln (cl+1)
  else if c=35 then Hb f ((c::r).dropWhile (· !=10)) ln (cl+((c::r).takeWhile (· !=10)).length)
  else match S4 (c::r) with
   |none=>none
   |some (k,w,n)=>(Hb f ((c::r).drop w.length) ln (cl+w.length)).map (⟨k,ba w,n,ln,cl⟩:: ·)
inductive PEx where
 |mk (k n:Int) (nm:ByteArray) (slot:Int) (loc:Bool) (op:Int) (args:List PEx)
inductive PStm where
 |mk (k ln cl:Int) (nm wt:ByteArray) (e ix:PEx) (body els:List PStm) (id slot other:Int) (loc:Bool)
structure PDec where
 k:Int
 ln:Int
 cl:Int
 nm:ByteArray
 n:Int
 body:List PStm
def PEx.z:PEx:= .mk 0 0 em 0 false 0 []
def isW (s:Bs):List Tk->Bool
 |t::_=>bs t.t==s && decide (3<=t.k)
 | []=>false
def tkW (s:Bs)(ts:List Tk):Option (List Tk):=if isW s ts=true then some ts.tail else none
def Ve (s:Bs)(ts:List Tk):Option (Unit×List Tk):=if isW s ts=true then some ((),ts.tail) else none
def bnd {α β:Type}(A:Option (α×List Tk))(K:α->List Tk->Option β):Option β:=match A with
 |none=>none
 |some (x,r)=>K x r
def Jd:List Tk->Option (ByteArray×List Tk)
 |t::r=>if t.k=1 then some (t.t,r) else none
 | []=>none
def J1:List Tk->Option (Int×List Tk)
 |t::r=>if t.k=2 then some (t.n,r) else none
 | []=>none
def rankL:List Int:= [0,1,2,3,3,3,3,4,4,5,5,5]
def signL:List Bs:= [[], [124,124], [38,38], [61,61], [33,61], [60], [60,61], [43], [45], [42], [47], [37]]
def E5 (n:Int)(ts:List Tk):List Nat->Nat
 | []=>0
 |op::r=>if rankL.getD op 0=n/\isW (signL.getD op []) ts=true then op else E5 n ts r
def Qx (n:Int)(ts:List Tk):Nat:=E5 n ts [1,2,3,4,5,6,7,8,9,10,11]
mutual
def Vq:Nat->Int->List Tk->Option (PEx×List Tk)
 |0,_,_=>none
 |f+1,n,ts=>if 5<n then unS f ts else match Vq f (n+1) ts with
  |none=>none
  |some (e,r)=>Nl f n e r
def Nl:Nat->Int->PEx->List Tk->Option (PEx×List Tk)
 |0,_,_,_=>none
 |f+1,n,e,ts=>if Qx n ts=0 then some (e,ts) else match Vq f (n+1) ts.tail with
  |none=>none
  |some (x,r)=>if n=3 then some (.mk 6 0 em 0 false (Qx n ts) [e,x],r) else Nl f n (.mk 6 0 em 0 false (Qx n ts) [e,x]) r
def unS:Nat->List Tk->Option (PEx×List Tk)
 |0,_=>none
 |f+1,ts=>match tkW [45] ts with
  |some r=>(match unS f r with
   |none=>none
   |some (e,r2)=>some (.mk 4 0 em 0 false 0 [e],r2))
  |none=>match tkW [33] ts with
   |some r=>(match unS f r with
    |none=>none
    |some (e,r2)=>some (.mk 5 0 em 0 false 0 [e],r2))
   |none=>Uo f ts
def Uo:Nat->List Tk->Option (PEx×List Tk)
 |0,_=>none
 |f+1,ts=>match tkW [40] ts with
  |some r=>(match Vq f 1 r with
   |none=>none
   |some (e,r2)=>match tkW [41] r2 with
    |none=>none
    |some r3=>some (e,r3))
  |none=>match J1 ts with
   |some (n,r)=>some (.mk 1 n em 0 false 0 [],r)
   |none=>match Jd ts with
    |none=>none
    |some (nm,r)=>match tkW [91] r with
     |none=>some (.mk 2 0 nm 0 false 0 [],r)
     |some r2=>match Vq f 1 r2 with
      |none=>none
      |some (e,r3)=>match tkW [93] r3 with
       |none=>none
       |some r4=>some (.mk 3 0 nm 0 false 0 [e],r4)
end
def kindL:List Bs:= [[], [108,101,116], [], [], [105,102], [119,104,105,108,101], [108,111,99,107], [117,110,108,111,99,107], [119,97,105,116], [115,105,103,110,97,108], [97,108,108], [115,101,110,100], [114,101,99,118], [115,112,97,119,110], [106,111,105,110], [112,114,105,110,116]]
def Kh (L:List Bs)(ts:List Tk):Nat->Nat
 |0=>0
 |k+1=>if L.getD (k+1) []≠ []/\isW (L.getD (k+1) []) ts=true then k+1 else Kh L ts k
def Uz (ts:List Tk):Nat:=Kh kindL ts 15
def Zi:List Tk->Int×Int
 |t::_=>(t.ln,t.cl)
 | []=>(0,0)
def Us (f:Nat)(k:Int)(p:Int×Int)(nm:ByteArray)(ts:List Tk):Option (PStm×List Tk):=
 if k=0 then (if isW [91] ts=true then bnd (Vq f 1 ts.tail) fun ix r=>bnd (Ve [93] r) fun _ r=>bnd (Ve [61] r) fun _ r=>bnd (Vq f 1 r) fun e r=>bnd (Ve [59] r) fun _ r=>some (.mk 3 p.1 p.2 nm em e ix [] [] 0 0 0 false,r)
  else bnd (Ve [61] ts) fun _ r=>bnd (Vq f 1 r) fun e r=>bnd (Ve [59] r) fun _ r=>some (.mk 2 p.1 p.2 nm em e .z [] [] 0 0 0 false,r))
 else if k=1 then bnd (Ve [61] ts) fun _ r=>bnd (Vq f 1 r) fun e r=>bnd (Ve [59] r) fun _ r=>some (.mk k p.1 p.2 nm em e .z [] [] 0 0 0 false,r)
 else if k=8\/k=12 then bnd (Jd ts) fun wt r=>bnd (Ve [59] r) fun _ r=>some (.mk k p.1 p.2 nm wt .z .z [] [] 0 0 0 false,r)
 else if k=11\/k=15 then bnd (Vq f 1 ts) fun e r=>bnd (Ve [59] r) fun _ r=>some (.mk k p.1 p.2 nm em e .z [] [] 0 0 0 false,r)
 else bnd (Ve [59] ts) fun _ r=>some (.mk k p.1 p.2 nm em .z .z [] [] 0 0 0 false,r)
mutual
def Ju:Nat->List Tk->Option (PStm×List Tk)
 |0,_=>none
 |f+1,ts=>
  if Uz ts=4\/Uz ts=5 then bnd (Vq f 1 ts.tail) fun e r=>bnd (H8 f r) fun b r=>
   if Uz ts=4/\isW [101,108,115,101] r=true then bnd (H8 f r.tail) fun b2 r=>some (.mk (Uz ts) (Zi ts).1 (Zi ts).2 em em e .z b b2 0 0 0 false,r)
   else some (.mk (Uz ts) (Zi ts).1 (Zi ts).2 em em e .z b [] 0 0 0 false,r)
  else if Uz ts=14\/Uz ts=15 then Us f (Uz ts) (Zi ts) em ts.tail
  else bnd (Jd (if 0<Uz ts then ts.tail else ts)) fun nm r=>Us f (Uz ts) (Zi ts) nm r
def H8:Nat->List Tk->Option (List PStm×List Tk)
 |0,_=>none
 |f+1,ts=>bnd (Ve [123] ts) fun _ r=>bnd (U9 f r) fun l r=>bnd (Ve [125] r) fun _ r=>some (l,r)
def U9:Nat->List Tk->Option (List PStm×List Tk)
 |0,_=>none
 |f+1,ts=>if isW [125] ts=true then some ([],ts) else bnd (Ju f ts) fun s r=>bnd (U9 f r) fun l r=>some (s::l,r)
end
def declL:List Bs:= [[], [118,97,114], [97,114,114,97,121], [109,117,116,101,120], [99,111,110,100], [99,104,97,110], [116,104,114,101,97,100]]
def dkS (ts:List Tk):Nat:=Kh declL ts 6
def G5 (k:Nat)(ts:List Tk):Option (Int×List Tk):=
 if k=1 then bnd (Ve [61] ts) fun _ r=>if isW [45] r=true then bnd (J1 r.tail) fun n r=>some (-n,r) else J1 r
 else if k=2\/k=5 then J1 ts else some (0,ts)
def Hl (f:Nat)(ts:List Tk):Option (PDec×List Tk):=
 if dkS ts=0 then none else bnd (Jd ts.tail) fun nm r=>
  if dkS ts=6 then bnd (H8 f r) fun b r=>some (⟨dkS ts,(Zi ts).1,(Zi ts).2,nm,0,b⟩,r)
  else bnd (G5 (dkS ts) r) fun n r=>bnd (Ve [59] r) fun _ r=>some (⟨dkS ts,(Zi ts).1,(Zi ts).2,nm,n, []⟩,r)
def Ua (g:Nat):Nat->List Tk->Option (List PDec)
 |0,_=>none
 |f+1,ts=>if ts= [] then some [] else bnd (Hl g ts) fun d r=>(Ua g f r).map (d:: ·)
mutual
def PEx.dep:PEx->Nat
 | .mk _ _ _ _ _ _ args=>Ym args+1
def Ym:List PEx->Nat
 | []=>0
 |e::r=>max e.dep (Ym r)
end
mutual
def PStm.deep:PStm->Nat->Bool
 | .mk _ _ _ _ _ e ix body els _ _ _ _,n=>decide (24<n)||decide (24<e.dep)||decide (24<ix.dep)||Y2 body (n+1)||Y2 els (n+1)
def Y2:List PStm->Nat->Bool
 | [],_=>false
 |s::r,n=>s.deep n||Y2 r n
end
def Q9 (l:Bs):Option (List PDec):=
 if 65536<l.length then none else match Hb (l.length+1) l 1 1 with
  |none=>none
  |some ts=>match Ua (10*ts.length+20) (ts.length+1) ts with
   |none=>none
   |some ds=>if ds.any (fun d=>Y2 d.body 1)=true then none else some ds
inductive Ex where
 |mk (k n:Int) (nm:ByteArray) (slot:Int) (loc:Bool) (op:Int) (args:List Ex) (aa:Option Addr) (ac:Nat)
variable {e:Ex}
def exC:Ex->List Value
 | .mk k n nm slot loc op args aa ac=> [I64 k,I64 n,.string nm,I64 slot,.bool loc,I64 op,.slice aa args.length ac]
inductive Stm where
 |mk (k ln cl:Int) (nm wt:ByteArray) (e ix:Ex) (body els:List Stm) (ba:Option Addr) (bc:Nat) (ea:Option Addr) (ec:Nat) (id slot other:Int) (loc:Bool)
variable {m:List Stm}
def stC:Stm->List Value
 | .mk k ln cl nm wt e ix body els ba bc ea ec id slot other loc=> [I64 k,I64 ln,I64 cl,.string nm,.string wt]++(exC e++(exC ix++ [.slice ba body.length bc,.slice ea els.length ec,I64 id,I64 slot,I64 other,.bool loc]))
structure Dec where
 k:Int
 ln:Int
 cl:Int
 nm:ByteArray
 n:Int
 body:List Stm
 ba:Option Addr
 bc:Nat
def dcC (d:Dec):List Value:= [I64 d.k,I64 d.ln,I64 d.cl,.string d.nm,I64 d.n,.slice d.ba d.body.length d.bc]
theorem Yk (e:Ex):(exC e).length=7:=by cases e;rfl
theorem Z2 (s:Stm):(stC s).length=25:=by cases s;simp [stC,Yk]
theorem Ih (e:Ex):(exC e).all (·.oneCell')=true:=by cases e;rfl
theorem J5 (s:Stm):(stC s).all (·.oneCell')=true:=by cases s;simp only [stC,kY,Ih];rfl
mutual
def Ex.er:Ex->PEx
 | .mk k n nm slot loc op args _ _=> .mk k n nm slot loc op (Z5 args)
def Z5:List Ex->List PEx
 | []=> []
 |e::r=>e.er::Z5 r
end
mutual
def Stm.er:Stm->PStm
 | .mk k ln cl nm wt e ix body els _ _ _ _ id slot other loc=> .mk k ln cl nm wt e.er ix.er (Zk body) (Zk els) id slot other loc
def Zk:List Stm->List PStm
 | []=> []
 |s::r=>s.er::Zk r
end
def Dec.er (d:Dec):PDec:=⟨d.k,d.ln,d.cl,d.nm,d.n,Zk d.body⟩
mutual
def Ex.At (M:Hp):Ex->Prop
 | .mk _ _ _ _ _ _ args aa ac=>SlAt M aa ac args.length (args.flatMap exC)/\Ex.Ats M args
def Ex.Ats (M:Hp):List Ex->Prop
 | []=>True
 |e::r=>e.At M/\Ex.Ats M r
end
mutual
def Stm.At (M:Hp):Stm->Prop
 | .mk _ _ _ _ _ e ix body els ba bc ea ec _ _ _ _=>e.At M/\ix.At M/\(SlAt M ba bc body.length (body.flatMap stC)/\Stm.Ats M body)/\SlAt M ea ec els.length (els.flatMap stC)/\Stm.Ats M els
def Stm.Ats (M:Hp):List Stm->Prop
 | []=>True
 |s::r=>s.At M/\Stm.Ats M r
end
mutual
theorem Ex.At.mono {M M':Hp}(l:Hle M M'): ∀ {e:Ex},e.At M->e.At M'
 | .mk ..,⟨h,k⟩=>⟨h.mono l,Ex.Ats.mono l k⟩
theorem Ex.Ats.mono {M M':Hp}(l:Hle M M'): ∀ {e:List Ex},Ex.Ats M e->Ex.Ats M' e
 | [],_=>trivial
 |_::_,⟨h,k⟩=>⟨Ex.At.mono l h,Ex.Ats.mono l k⟩
end
abbrev jM:=@Ex.Ats.mono
mutual
theorem Stm.At.mono {M M':Hp}(l:Hle M M'): ∀ {e:Stm},e.At M->e.At M'
 | .mk ..,⟨h1,h2,⟨h3,h4⟩,h5,h6⟩=>⟨h1.mono l,h2.mono l,⟨h3.mono l,Stm.Ats.mono l h4⟩,h5.mono l,Stm.Ats.mono l h6⟩
theorem Stm.Ats.mono {M M':Hp}(l:Hle M M'): ∀ {e:List Stm},Stm.Ats M e->Stm.Ats M' e
 | [],_=>trivial
 |_::_,⟨h,k⟩=>⟨Stm.At.mono l h,Stm.Ats.mono l k⟩
end
abbrev jX:=@Stm.Ats.mono
theorem Vr {M:Hp}: ∀ {l:List Ex},Ex.Ats M l↔ ∀ e∈l,e.At M
 | []=>by simp [Ex.Ats]
 |e::r=>by simp [Ex.Ats,Vr (l:=r)]
theorem Vd {M:Hp}: ∀ {l:List Stm},Stm.Ats M l↔ ∀ e∈l,e.At M
 | []=>by simp [Stm.Ats]
 |e::r=>by simp [Stm.Ats,Vd (l:=r)]
theorem Y3: ∀ l:List Ex,Z5 l=l.map Ex.er
 | []=>rfl
 |e::r=>by simp [Z5,Y3 r]
theorem Yh: ∀ l:List Stm,Zk l=l.map Stm.er
 | []=>rfl
 |e::r=>by simp [Zk,Yh r]
theorem Jw (l:List Ex):(Z5 l).length=l.length:=by rw [Y3];simp
theorem Y9 (l:List Stm):(Zk l).length=l.length:=by rw [Yh];simp
mutual
def Ex.sz:Ex->Nat
 | .mk _ _ _ _ _ _ args _ _=>Wf args+1
def Wf:List Ex->Nat
 | []=>0
 |e::r=>e.sz+Wf r
end
mutual
def Stm.sz:Stm->Nat
 | .mk _ _ _ _ _ _ _ body els _ _ _ _ _ _ _ _=>Zu body+Zu els+1
def Zu:List Stm->Nat
 | []=>0
 |s::r=>s.sz+Zu r
end
theorem Y7 {e:Ex}: ∀ {l:List Ex},e∈l->e.sz<=Wf l
 |x::r,h=>by
  rcases bG.1 h with rfl|h
  . simp [Wf]
  have:=Y7 h;simp only [Wf];omega
theorem Uy {e:Stm}: ∀ {l:List Stm},e∈l->e.sz<=Zu l
 |x::r,h=>by
  rcases bG.1 h with rfl|h
  . simp [Zu]
  have:=Uy h;simp only [Zu];omega
def exM (e:Ex):HP:=lst (fun M=>e.At M) fun l h=>Ex.At.mono l h
def exsM (l:List Ex):HP:=lst (fun M=>Ex.Ats M l) fun l h=>jM l h
def stM (s:Stm):HP:=lst (fun M=>s.At M) fun l h=>Stm.At.mono l h
def stsM (l:List Stm):HP:=lst (fun M=>Stm.Ats M l) fun l h=>jX l h
def BlkAt (M:Hp)(a:Option Addr)(c:Nat)(l:List Stm):Prop:=SlAt M a c l.length (l.flatMap stC)/\Stm.Ats M l
theorem BlkAt.mono {l:List Stm}(e:Hle M M')(h:BlkAt M a c l):BlkAt M' a c l:=⟨h.1.mono e,h.2.mono e⟩
abbrev kZ:=@BlkAt.mono
def blM (a:Option Addr)(c:Nat)(l:List Stm):HP:=lst (fun M=>BlkAt M a c l) kZ
def Dec.At (M:Hp)(d:Dec):Prop:=BlkAt M d.ba d.bc d.body
theorem Dec.At.mono {d:Dec}(e:Hle M M')(h:d.At M):d.At M':=kZ e h
def Decs.At (M:Hp)(l:List Dec):Prop:= ∀ d∈l,d.At M
theorem Decs.At.mono {l:List Dec}(e:Hle M M')(h:Decs.At M l):Decs.At M' l:=fun d hd=>(h d hd).mono e
def dcM (d:Dec):HP:=lst (fun M=>d.At M) Dec.At.mono
def dcsM (l:List Dec):HP:=lst (fun M=>Decs.At M l) Decs.At.mono
section
variable {ty:Nat}{l:List Ex}
theorem Kn.ex1 {n:Int}(h:Kn q fun M=>e.At M):Kn (lst (fun M=>SlAt M a c 1 ([e].flatMap exC)) fG::q) fun M=>(Ex.mk k n nm slot loc op [e] a c).At M:=
 (Kn.here.and h.there).imp fun M h=>⟨h.1,h.2,trivial⟩
theorem Kn.ex2 {n:Int}{e2:Ex}(h:Kn q fun M=>e.At M)(h2:Kn q fun M=>e2.At M):Kn (lst (fun M=>SlAt M a c 2 ([e,e2].flatMap exC)) fG::q) fun M=>(Ex.mk k n nm slot loc op [e,e2] a c).At M:=
 (Kn.here.and (h.there.and h2.there)).imp fun M h=>⟨h.1,h.2.1,h.2.2,trivial⟩
theorem Kn.exM {e:Ex}:Kn (exM e::q) fun M=>e.At M:=fJ
theorem Kn.stsM:Kn (stsM m::q) fun M=>Stm.Ats M m:=fJ
theorem Kn.stM {s:Stm}:Kn (stM s::q) fun M=>s.At M:=fJ
theorem Kn.dcM {s:Dec}:Kn (dcM s::q) fun M=>s.At M:=fJ
theorem Kn.dcsM {s:List Dec}:Kn (dcsM s::q) fun M=>Decs.At M s:=fJ
theorem Le.ex0 (k n:Int)(nm:ByteArray)(slot:Int)(loc:Bool)(op:Int):Le q (Go.Proofs.YtadahhbefdnabaaGreatDoor.exM (Ex.mk k n nm slot loc op [] none 0)::q):=dK (fun M _ _=>⟨SlAt.nil M,trivial⟩)
theorem K9:Le q (Go.Proofs.YtadahhbefdnabaaGreatDoor.stsM []::q):=dK (fun _ _ _=>trivial)
theorem H1 {s:Stm}:Le (Go.Proofs.YtadahhbefdnabaaGreatDoor.stsM m::Go.Proofs.YtadahhbefdnabaaGreatDoor.stM s::q) (Go.Proofs.YtadahhbefdnabaaGreatDoor.stsM (m++ [s])::q):=by
 have h:Kn (Go.Proofs.YtadahhbefdnabaaGreatDoor.stsM m::Go.Proofs.YtadahhbefdnabaaGreatDoor.stM s::q) fun M=>Stm.Ats M (m++ [s]):=(Kn.stsM.and Kn.stM.there).imp fun M h=>Vd.2 fun x a=>by
  rcases bE.1 a with a|a
  . exact Vd.1 h.1 x a
  rw [bN.1 a];exact h.2
 exact aM (dK (mn:=fun l h=>jX l h) h) (cG _ ((dX _ _).trans (dX _ _)))
theorem Zj6:Le q (Go.Proofs.YtadahhbefdnabaaGreatDoor.dcsM []::q):=dK (fun _ _ _ d a=>by cases a)
theorem Zq2 {s:Dec}{m:List Dec}:Le (Go.Proofs.YtadahhbefdnabaaGreatDoor.dcsM m::Go.Proofs.YtadahhbefdnabaaGreatDoor.dcM s::q) (Go.Proofs.YtadahhbefdnabaaGreatDoor.dcsM (m++ [s])::q):=by
 have h:Kn (Go.Proofs.YtadahhbefdnabaaGreatDoor.dcsM m::Go.Proofs.YtadahhbefdnabaaGreatDoor.dcM s::q) fun M=>Decs.At M (m++ [s]):=(Kn.dcsM.and Kn.dcM.there).imp fun M h x a=>by
  rcases bE.1 a with a|a
  . exact h.1 x a
  rw [bN.1 a];exact h.2
 exact aM (dK (mn:=Decs.At.mono) h) (cG _ ((dX _ _).trans (dX _ _)))
theorem Kn.blk (h:Kn q fun M=>Stm.Ats M m):Kn (lst (fun M=>SlAt M a c m.length (m.flatMap stC)) fG::q) fun M=>BlkAt M a c m:=Kn.here.and h.there
end
theorem isW_at (h:n<L.length):isW s (L.drop n)=(bs L[n].t==s && decide (3<=L[n].k)):=by rw [aP h];rfl
theorem Zvf (h:L.length<=n):isW s (L.drop n)=false:=by rw [cL h];rfl
theorem Zz9 (h:isW s (L.drop n)=true):n<L.length:=by
 rcases dJ n L.length with k|k
 . exact k
 rw [Zvf k] at h;cases h
theorem gD {α:Type}{l:List α}{i:Nat}{d:α}(h:i<l.length):l.getD i d=l[i]:=by simp [List.getD,aE h]
theorem sEq {a:ByteArray}:a.toList=b.toList↔bs a=bs b:=by rw [ByteArray.toList_eq,ByteArray.toList_eq];rfl
theorem sNe {a:ByteArray}(h: ¬a.toList=b.toList):(bs a==bs b)=false:=by rw [cZ];exact fun e=>h (sEq.2 e)
theorem sTr {a:ByteArray}(h:a.toList=b.toList):(bs a==bs b)=true:=by rw [eI];exact sEq.1 h
theorem tail_drop :(L.drop n).tail=L.drop (n+1):=by rw [List.tail_drop]
def Out {α:Type}(L:List Tk)(bad:Bool)(sp:Option (α×List Tk))(x:α)(n:Nat)(bad':Bool):Prop:=(bad'=false/\bad=false/\sp=some (x,L.drop n))\/(bad'=true/\(bad=true\/sp=none))
abbrev rdH (p:Nat)(la:Option Addr)(lc:Nat)(L:List Tk)(n:Nat)(bad:Bool):HP:=pto p (.cells [.slice la L.length lc,I64 n,.bool bad].toArray 302 (0,0))
section
variable {P:Program}{G:World}{fr:Fc}{Q:Yw}{todo k:List Item}{p:PE}{ds:List Deferred}{cs:List Frame}{ops lo:List Oper}{x:Ex}{kd n:Int}
theorem Zjl (K:X P G fr Q todo p ds cs (exM (.mk kd n nm slot loc op [e] a c)::q0))(hq:Le q (rsH exC 7 136 a c [e]::q0):=by exact Zj)(he:Kn q0 fun M=>e.At M:=by exact knA):X P G fr Q todo p ds cs q:= .frzR (Kn.ex1 he) K hq
theorem X.fzE2 (K:X P G fr Q todo p ds cs (exM (.mk kd n nm slot loc op [e,x] a c)::q0))(hq:Le q (rsH exC 7 136 a c [e,x]::q0):=by exact Zj)(he:Kn q0 fun M=>e.At M:=by exact knA)(hx:Kn q0 fun M=>x.At M:=by exact knA):X P G fr Q todo p ds cs q:= .frzR (Kn.ex2 he hx) K hq
theorem X.fzB (K:X P G fr Q todo p ds cs (blM a c m::q0))(hq:Le q (rsH stC 25 138 a c m::q0):=by exact Zj)(h:Kn q0 fun M=>Stm.Ats M m:=by exact knA):X P G fr Q todo p ds cs q:= .frzR (Kn.blk h) K hq
end
end Go.Proofs.YtadahhbefdnabaaGreatDoor
namespace Go.Proofs.YtadahhbefdnabaaGreatDoor
open Go Go.RowKit Wx Go.Proofs.Tryz
attribute [local irreducible] lsH rsH stars
variable {G w:World}{q pre:List HP}{a la A ea:Option Addr}{c lc p n f bc ec i:Nat}{bad b1 b2 loc:Bool}{s nm wt:ByteArray}{L ts:List Tk}{r k ln cl id slot other:Int}{S:Option (List PStm×List Tk)}{e ix:Ex}{body els l:List Stm}{P:Program}{fr:Fc}{Q:Yw}{todo:List Item}{ds:List Deferred}{cs:List Frame}
section
theorem Xi (hr:Has q p (.cells [.slice la L.length lc,I64 n,.bool bad].toArray 302 (0,0)))(hL:Sees q la (L.flatMap tkC))(hn:L.length<=65536):CallF prog G 217 [.pointer (some ⟨p,0,none⟩),.string s] (q) (Ret fun v q'=>v= .bool (!bad && isW (bs s) (L.drop n))/\q'=q):=by
 refine aB func217 ntmps217 rfl fun F cs=> ?_;have b:=Zx (f:=tkC) (sz:=5) (fun _=>rfl) L;refine rn [5,0,1,2,3] ?_;refine ldD 3 ?_ (hc:=(fK (hr.le leA) rfl));refine dd [4,5] ?_;refine eY 10 rfl ?_ ?_<;>intro c
 . replace c:=sp c;refine dd [6,7,8] ?_;refine ldD 9 ?_ (hc:=(fK (hr.le leA) rfl));refine dd [10,11,12] ?_;refine ldD 13 ?_ (hc:=(fK (hr.le leA) rfl));refine dd [14,15,16,17] ?_;refine eY 22 rfl ?_ ?_<;>intro d
   . replace d:=sp d;refine dd [18,19,20] ?_;refine ldD 21 ?_ (hc:=(fK (hr.le leA) rfl));refine dd [22,23,24] ?_;refine ldD 25 ?_ (hc:=(fK (hr.le leA) rfl));refine Nh hL (by rw [b];omega) fun b1 o1 g=> ?_;have e:=hL;rw [g] at e;refine dY 26 (.slice (some ⟨b1,o1,none⟩) L.length lc) rfl (by rw [g]) ?_;refine rn [27,28,29,30,31,32,33] ?_;refine eY 37 rfl ?_ ?_<;>intro a
     . replace a:=sp a;refine dd [33,34,35] ?_;refine ldD 36 ?_ (hc:=(fK (hr.le leA) rfl));refine dd [37,38,39] ?_;refine ldD 40 ?_ (hc:=(fK (hr.le leA) rfl));refine dY 41 (.slice (some ⟨b1,o1,none⟩) L.length lc) rfl (by rw [g]) ?_;refine rn [42,43,44,45,46,47,0] ?_;refine Zq (q) func217 (Zf results217 rfl) ⟨_,rfl,cB (by rw [isW_at (by omega),c,sTr a];rfl),rfl⟩
     replace a:=sp a;refine rn [34,35,36,37,38,39,40,41,42,43,44,45,46,47,0] ?_;refine Zq (q) func217 (Zf results217 rfl) ⟨_,rfl,cB (by rw [isW_at (by omega),sNe a];simp),rfl⟩
   replace d:=sp d;refine rn [19,20,21,22,23,24,25,26,27,28,29,30,31,32,33,34,35,36,37,38,39,40,41,42,43,44,45,46,47,0] ?_;refine Zq (q) func217 (Zf results217 rfl) ⟨_,rfl,cB (by rw [Zvf (by omega)];simp),rfl⟩
 replace c:=sp c;refine rn [7,8,9,10,11,12,13,14,15,16,17,18,19,20,21,22,23,24,25,26,27,28,29,30,31,32,33,34,35,36,37,38,39,40,41,42,43,44,45,46,47,0] ?_;refine Zq (q) func217 (Zf results217 rfl) ⟨_,rfl,cB (by simp_all),rfl⟩
variable {w:Bs}
theorem Qv (hL:Sees q la (L.flatMap tkC))(hn:L.length<=65536):CallF prog G 220 [.pointer (some ⟨p,0,none⟩),.string (ba w)] (rdH p la lc L n bad::q) (Ret fun v q'=>(v= .bool true/\(bad=false/\isW w (L.drop n)=true/\n<L.length)/\q'=rdH p la lc L (n+1) bad::q)\/(v= .bool false/\(bad=true\/isW w (L.drop n)=false)/\q'=rdH p la lc L n bad::q)):=by
 refine aB func220 ntmps220 rfl fun F cs=> ?_;refine xo 9 ?_;refine bM call217 (Xi (n:=n) (bad:=bad) Vb (hL.le leA) hn) ?_;refine ox 2 ?_;refine cY 8 rfl ?_ ?_<;>intro c
 . refine xx 5 ?_;refine Zq (rdH p la lc L n bad::q) func220 (Zf results220 rfl) ⟨_,rfl,.inr ⟨rfl,by rw [Qt] at c;cases bad<;>simp_all,rfl⟩⟩
 have b:bad=false/\isW w (L.drop n)=true:=by rw [Qt] at c;cases bad<;>simp_all
 have a:=Zz9 b.2;refine rn [7,0,3,0,5] ?_;refine Zq (rdH p la lc L (n+1) bad::q) func220 (Zf results220 rfl) ⟨_,rfl,.inl ⟨rfl,⟨b.1,b.2,a⟩,rfl⟩⟩
theorem Y4 (hL:Sees q la (L.flatMap tkC))(hn:L.length<=65536)(hnL:n<=L.length):CallF prog G 219 [.pointer (some ⟨p,0,none⟩),.string (ba w)] (rdH p la lc L n bad::q) (Ret fun v q'=> ∃ n' bad',v= .tuple #[]/\q'=rdH p la lc L n' bad'::q/\n<=n'/\n'<=L.length/\Out L bad (Ve w (L.drop n)) () n' bad'):=by
 refine aB func219 ntmps219 rfl fun F cs=> ?_;refine xo 4 ?_;refine Zv call220 leA (Qv (hL.le leA) hn) ?_;rintro _ _ (⟨rfl,⟨b,a,c⟩,rfl⟩|⟨rfl,a,rfl⟩)
 . refine ox 4 ?_;refine Zr (rdH p la lc L (n+1) bad::q) func219 (Yy results219) ⟨_,rfl,n+1,bad,rfl,rfl,by omega,by omega,.inl ⟨b,b,by unfold Ve;rw [if_pos a,tail_drop]⟩⟩
 refine rn [7,0,1] ?_;refine Zr (rdH p la lc L n true::q) func219 (Yy results219) ⟨_,rfl,n,true,rfl,rfl,aU _,hnL,.inr ⟨rfl,a.imp id fun h=>by unfold Ve;rw [if_neg (by rw [h];decide)]⟩⟩
theorem G9 (h:n<L.length):Jd (L.drop n)=if L[n].k=1 then some (L[n].t,L.drop (n+1)) else none:=by rw [aP h];rfl
theorem Ld (h:L.length<=n):Jd (L.drop n)=none:=by rw [cL h];rfl
theorem Ht (hL:Sees q la (L.flatMap tkC))(hn:L.length<=65536)(hnL:n<=L.length):CallF prog G 218 [.pointer (some ⟨p,0,none⟩)] (rdH p la lc L n bad::q) (Ret fun v q'=> ∃ (x:ByteArray) (n':Nat) (bad':Bool),v= .string x/\q'=rdH p la lc L n' bad'::q/\(n<=n'/\(x=em\/ ∃ t∈L,x=t.t))/\n'<=L.length/\Out L bad (Jd (L.drop n)) x n' bad'):=by
 refine aB func218 ntmps218 rfl fun F cs=> ?_;have d:=Zx (f:=tkC) (sz:=5) (fun _=>rfl) L;refine rn [6,0,1,2,3,4,5] ?_;refine eY 7 rfl ?_ ?_<;>intro b
 . replace b:=sp b;refine rn [6,7,8,9,10,11,12,13,14,15,16,17,18,19,20,21,22,23,24,25,26,27,28,29,30,0,6,0,5] ?_;refine Zq (rdH p la lc L n true::q) func218 (Zf results218 rfl) ⟨_,rfl,em,n,true,rfl,rfl,⟨aU _,.inl rfl⟩,hnL,.inr ⟨rfl,.inl b⟩⟩
 replace b:=sp b;refine rn [6,7,8,9,10,11,12,13,14,15,16,17] ?_;refine eY 19 rfl ?_ ?_<;>intro e
 . replace e:=sp e;refine rn [18,19,20,21,22,23,24,25,26,27,28,29,30,0,6,0,5] ?_;refine Zq (rdH p la lc L n true::q) func218 (Zf results218 rfl) ⟨_,rfl,em,n,true,rfl,rfl,⟨aU _,.inl rfl⟩,hnL,.inr ⟨rfl,.inr (Ld (by omega))⟩⟩
 replace e:=sp e;refine rn [18,19,20,21,22,23,24,25] ?_;have a:n<L.length:=by omega
 refine Nh hL (by rw [d];omega) fun b1 o1 g=> ?_;have c:=hL;rw [g] at c;refine dY 23 (.slice (some ⟨b1,o1,none⟩) L.length lc) rfl (by rw [g]) ?_;refine rn [26,27,28,29,30,0] ?_;refine xp 32 ?_ ?_<;>intro h
 . refine rn [6,0,5] ?_;refine Zq (rdH p la lc L n true::q) func218 (Zf results218 rfl) ⟨_,rfl,em,n,true,rfl,rfl,⟨aU _,.inl rfl⟩,hnL,.inr ⟨rfl,.inr (by rw [G9 (by omega),if_neg h])⟩⟩
 refine rn [7,0,3,0,2,0,1,2,3,4,5,6,7,8,9] ?_;refine dY 46 (.slice (some ⟨b1,o1,none⟩) L.length lc) rfl (by rw [g]) ?_;refine dd [9,10] ?_;refine ldD 11 ?_ (hc:=(Cl.el (n:=n) c leA (fun _=>rfl) a (by omega) rfl));refine rn [13,0] ?_;refine Zq (rdH p la lc L (n+1) bad::q) func218 (Zf results218 rfl) ⟨_,rfl,L[n].t,n+1,bad,rfl,rfl,⟨by omega,.inr ⟨_,aC a,rfl⟩⟩,by omega,.inl ⟨b,b,by rw [G9 a,if_pos h]⟩⟩
theorem Xb (h:n<L.length):J1 (L.drop n)=if L[n].k=2 then some (L[n].n,L.drop (n+1)) else none:=by rw [aP h];rfl
theorem Zxz (h:L.length<=n):J1 (L.drop n)=none:=by rw [cL h];rfl
theorem Mg (hL:Sees q la (L.flatMap tkC))(hn:L.length<=65536)(hnL:n<=L.length):CallF prog G 221 [.pointer (some ⟨p,0,none⟩)] (rdH p la lc L n bad::q) (Ret fun v q'=> ∃ (x:Int) (n':Nat) (bad':Bool),v= I64 x/\q'=rdH p la lc L n' bad'::q/\(n<=n'/\(x=0\/ ∃ t∈L,x=t.n))/\n'<=L.length/\Out L bad (J1 (L.drop n)) x n' bad'):=by
 refine aB func221 ntmps221 rfl fun F cs=> ?_;have d:=Zx (f:=tkC) (sz:=5) (fun _=>rfl) L;refine rn [6,0,1,2,3,4,5] ?_;refine eY 7 rfl ?_ ?_<;>intro b
 . replace b:=sp b;refine rn [6,7,8,9,10,11,12,13,14,15,16,17,18,19,20,21,22,23,24,25,26,27,28,29,30,0,6,0,5] ?_;refine Zq (rdH p la lc L n true::q) func221 (Zf results221 rfl) ⟨_,rfl,0,n,true,rfl,rfl,⟨aU _,.inl rfl⟩,hnL,.inr ⟨rfl,.inl b⟩⟩
 replace b:=sp b;refine rn [6,7,8,9,10,11,12,13,14,15,16,17] ?_;refine eY 19 rfl ?_ ?_<;>intro e
 . replace e:=sp e;refine rn [18,19,20,21,22,23,24,25,26,27,28,29,30,0,6,0,5] ?_;refine Zq (rdH p la lc L n true::q) func221 (Zf results221 rfl) ⟨_,rfl,0,n,true,rfl,rfl,⟨aU _,.inl rfl⟩,hnL,.inr ⟨rfl,.inr (Zxz (by omega))⟩⟩
 replace e:=sp e;refine rn [18,19,20,21,22,23,24,25] ?_;have a:n<L.length:=by omega
 refine Nh hL (by rw [d];omega) fun b1 o1 g=> ?_;have c:=hL;rw [g] at c;refine dY 23 (.slice (some ⟨b1,o1,none⟩) L.length lc) rfl (by rw [g]) ?_;refine rn [26,27,28,29,30,0] ?_;refine xp 32 ?_ ?_<;>intro h
 . refine rn [6,0,5] ?_;refine Zq (rdH p la lc L n true::q) func221 (Zf results221 rfl) ⟨_,rfl,0,n,true,rfl,rfl,⟨aU _,.inl rfl⟩,hnL,.inr ⟨rfl,.inr (by rw [Xb (by omega),if_neg h])⟩⟩
 refine rn [7,0,3,0,2,0,1,2,3,4,5,6,7,8,9] ?_;refine dY 46 (.slice (some ⟨b1,o1,none⟩) L.length lc) rfl (by rw [g]) ?_;refine dd [9,10] ?_;refine ldD 11 ?_ (hc:=(Cl.el (n:=n) c leA (fun _=>rfl) a (by omega) rfl));refine rn [13,0] ?_;refine Zq (rdH p la lc L (n+1) bad::q) func221 (Zf results221 rfl) ⟨_,rfl,L[n].n,n+1,bad,rfl,rfl,⟨by omega,.inr ⟨_,aC a,rfl⟩⟩,by omega,.inl ⟨b,b,by rw [Xb a,if_pos h]⟩⟩
end
theorem pos_ok (hL:Sees q la (L.flatMap tkC))(hn:L.length<=65536):CallF prog G 216 [.pointer (some ⟨p,0,none⟩)] (rdH p la lc L n bad::q) (Ret fun v q'=>v= .agg [I64 (Zi (L.drop n)).1,I64 (Zi (L.drop n)).2].toArray/\q'=rdH p la lc L n bad::q):=by
 refine aB func216 ntmps216 rfl fun F cs=> ?_;have c:=Zx (f:=tkC) (sz:=5) (fun _=>rfl) L;refine xo 2 ?_;refine Zh zeroValue104 fun n1=> ?_
 refine rn [3,0,1,2,3,4,5,6,7,8,9,10,0] ?_;refine xp 12 ?_ ?_<;>intro g
 . refine rn [4,0,1] ?_;refine Zq (rdH p la lc L n bad::q) func216 (rA_ results216) ⟨_,rfl,by rw [cL (by omega)];rfl,rfl⟩
 refine rn [3,0,1,2,3,4,5,6,7,8] ?_;have b:n<L.length:=by omega
 refine Nh hL (by rw [c];omega) fun b1 o1 e=> ?_;have a:=hL;rw [e] at a;refine dY 17 (.slice (some ⟨b1,o1,none⟩) L.length lc) rfl (by rw [e]) ?_;refine dd [8,9] ?_;refine XD.rdCs 10 (us:= [I64 L[n].ln,I64 L[n].cl]) rfl rfl isAgg104 sizeOf104 rfl (fun k v d=>by match k,d with|0,d=>cases d;exact dW (n:=n) a leA (fun _=>rfl) b rfl 3 _ rfl|1,d=>cases d;exact dW (n:=n) a leA (fun _=>rfl) b rfl 4 _ rfl) ?_;refine rn [12,0] ?_;refine Zq (rdH p la lc L n bad::q) func216 (rA_ results216) ⟨_,rfl,by rw [aP b];rfl,rfl⟩
theorem Wi:(prog.info? 9).map (fun i=>(i.zero,i.size,i.bytes))=some (some (.string ⟨#[]⟩),1,16):=by kernel_rfl
theorem Nq:(prog.info? 3).map (fun i=>(i.zero,i.size,i.bytes))=some (some (I64 0),1,8):=by kernel_rfl
theorem rank_ok (hr:c<12):CallF prog G 331 [I64 c] (q) (Ret fun v q'=>v= I64 (rankL.getD c 0)/\q'=q):=by
 refine aB func331 ntmps331 rfl fun F cs=> ?_;refine xo 6 ?_;refine bU (Yu I64 rankL underlying23 Nq rfl rfl rfl rfl rfl rfl (fun _=>rfl)) ?_;rintro _ _ ⟨g,rfl,rfl⟩;have a:c<rankL.length:=by show c<12;omega
 refine oo 2 ?_;refine ld ?_ (hc:=(gP (n:=c) (bY _) Zj a (by omega)));refine ox 2 ?_;refine Zq (q) func331 (Zf results331 rfl) ⟨_,rfl,by rw [gD a],rfl⟩
theorem sign_ok (hr:c<12):CallF prog G 332 [I64 c] (q) (Ret fun v q'=>v= .string (ba (signL.getD c []))/\q'=q):=by
 refine aB func332 ntmps332 rfl fun F cs=> ?_;refine xo 6 ?_;refine bU (Yu (fun w:Bs=>Value.string (ba w)) signL underlying25 Wi rfl rfl rfl rfl rfl rfl (fun _=>rfl)) ?_;rintro _ _ ⟨g,rfl,rfl⟩;have a:c<signL.length:=by show c<12;omega
 refine oo 2 ?_;refine ld ?_ (hc:=(gP (n:=c) (bY _) Zj a (by omega)));refine ox 2 ?_;refine Zq (q) func332 (Zf results332 rfl) ⟨_,rfl,by rw [gD a],rfl⟩
theorem G8 {s:Nat}(h:s<=11):E5 r ts (List.range' s (12 - s))=if rankL.getD s 0=r/\isW (signL.getD s []) ts=true then s else E5 r ts (List.range' (s+1) (12 - (s+1))):=by
 rw [show 12 - s=(12 - (s+1))+1 by omega,List.range'_succ];rfl
theorem Xh {L:List Tk}{n:Nat}{r:Int}: ∀ {l:List Nat},E5 r (L.drop n) l≠0->n<L.length
 | [],h=>aV rfl h
 |o::l,h=>by
  unfold E5 at h;split at h
  . rename_i k;exact Zz9 k.2
  exact Xh h
abbrev Aa (v0:Nat)(v1:Int):=([.pointer (some ⟨v0,0,none⟩),I64 v1]:List Value)
theorem Zvj (hr:Has q p (.cells [.slice la L.length lc,I64 n,.bool bad].toArray 302 (0,0)))(hL:Sees q la (L.flatMap tkC))(hn:L.length<=65536):CallF prog G 326 (Aa p r) (q) (Ret fun v q'=>v= I64 (if bad=true then 0 else Qx r (L.drop n):Nat)/\q'=q):=by
 refine aB func326 ntmps326 rfl fun F cs=> ?_;refine xx 10 ?_;refine aX (cC (fun (s:Nat)=>1<=s/\s<=12/\(bad=false->Qx r (L.drop n)=E5 r (L.drop n) (List.range' s (12 - s)))) (fun s=> [(5,I64 s),(0,.pointer (some ⟨p,0,none⟩)),(1,I64 r),(4,I64 0)]) (fun s=>(q++F)) (fun s=>12 - s) (fun s d g=> ?_) 1 ⟨aU _,by omega,fun _=>rfl⟩) Zn leA;try dsimp only at d g|-
 obtain ⟨j,i,a⟩:=d;refine xx 6 ?_;refine xp 7 ?_ ?_<;>intro m
 . have h:s<=11:=by omega
   refine xo 7 ?_;refine bM call331 (rank_ok (c:=s) (by omega)) ?_;refine oo 3 ?_;refine bB [14,5,0,1,4] ?_;apply Zg 5 19 14 rfl
   . intro e f;have b:=sp e;refine oo 2 ?_;refine bM call332 (sign_ok (c:=s) (by omega)) ?_;refine bM call217 (Xi (s:=ba (signL.getD s [])) (hr.le leA) (hL.le leA) hn) ?_;refine oo 1 ?_;exact Zz f ⟨Yi e,Zw⟩
   . intro e f;have b:=sp e;refine oo 5 ?_;exact Zz f ⟨Yl e,Zw⟩
   refine ox 1 ?_;refine xp 19 ?_ ?_<;>intro b
   . refine xx 6 ?_;refine Zq (q) func326 (Zf results326 rfl) ⟨_,rfl,by rw [if_neg (by rw [b.2.1];decide),a b.2.1,G8 (by omega),if_pos ⟨b.1,b.2.2⟩],rfl⟩
   refine xx 8 ?_;refine aX (g (s+1) ⟨by omega,by omega,fun l=>by rw [a l,G8 (by omega),if_neg (fun k=>by rw [Qt] at b;simp_all)]⟩ (by omega)) Zn leA
 refine xx 6 ?_;refine Zq (q) func326 (Zf results326 rfl) ⟨_,rfl,by obtain rfl:s=12:=(by omega);cases bad with|true=>rfl|false=>rw [a rfl];rfl,rfl⟩
section
variable {b3 b4:Bool}{g n1 n2 n3 n4:Nat}{x y:PEx}{z:Int}{S:Option (PEx×List Tk)}
theorem Out.up {α β:Type}{sp:Option (α×List Tk)}{sq:Option (β×List Tk)}{x:α}{y:β}(h:Out L bad sp x n b1)(h1:bad=false-> ∀ r,sp=some (x,r)->sq=some (y,r))(h2:bad=false->sp=none->sq=none):Out L bad sq y n b1:=by
 rcases h with ⟨b,a,c⟩|⟨b,a⟩
 . exact .inl ⟨b,a,h1 a _ c⟩
 refine .inr ⟨b,?_⟩
 cases hb:bad with
 |true=>exact .inl rfl
 |false=>exact .inr (h2 hb (a.resolve_left (by rw [hb];decide)))
theorem Out.seq {α β γ:Type}{sp:Option (α×List Tk)}{sq:Option (β×List Tk)}{st:Option (γ×List Tk)}{x:α}{y:β}{w:γ}(h:Out L bad sp x n b1)(k:Out L b1 sq y n2 b2)(h1:bad=false->sp=none->st=none)
 (h2:bad=false->sp=some (x,L.drop n)->sq=none->st=none) (h3:bad=false->sp=some (x,L.drop n)-> ∀ r,sq=some (y,r)->st=some (w,r)):Out L bad st w n2 b2:=by
 rcases h with ⟨d,b,e⟩|⟨d,b⟩
 . subst d;rcases k with ⟨a,_,f⟩|⟨a,c⟩
   . exact .inl ⟨a,b,h3 b e _ f⟩
   exact .inr ⟨a,.inr (h2 b e (c.resolve_left (by decide)))⟩
 subst d;rcases k with ⟨_,c,_⟩|⟨a,_⟩
 . cases c
 refine .inr ⟨a,?_⟩
 cases hb:bad with
 |true=>exact .inl rfl
 |false=>exact .inr (h1 hb (b.resolve_left (by rw [hb];decide)))
theorem Out.isBad {α:Type}{sp:Option (α×List Tk)}{x:α}(h:Out L true sp x n b1):b1=true:=by
 rcases h with ⟨_,h,_⟩|⟨h,_⟩
 . cases h
 exact h
theorem Out.bnd {α β:Type}{A:Option (α×List Tk)}{K:α->List Tk->Option (β×List Tk)}{x:α}{y:β}(h:Out L bad A x n b1)(k:Out L b1 (K x (L.drop n)) y n2 b2):Out L bad (Go.Proofs.YtadahhbefdnabaaGreatDoor.bnd A K) y n2 b2:=
 h.seq k (fun _ h=>by rw [h];rfl) (fun _ h k=>by rw [h];exact k) (fun _ h r k=>by rw [h];exact k)
theorem Out.ret {α:Type}{x:α}:Out L bad (some (x,L.drop n)) x n bad:=by cases bad;exact .inl ⟨rfl,rfl,rfl⟩;exact .inr ⟨rfl,.inl rfl⟩
theorem Out.any {α:Type}{x:α}{A:Option (α×List Tk)}:Out L true A x n true:= .inr ⟨rfl,.inl rfl⟩
theorem Rn {s:Bs}(h:isW s (L.drop n)=true):tkW s (L.drop n)=some (L.drop (n+1)):=by unfold tkW;rw [if_pos h,tail_drop]
theorem Mb {s:Bs}(h:isW s (L.drop n)=false):tkW s (L.drop n)=none:=by unfold tkW;rw [if_neg (by rw [h];decide)]
theorem Dk {s:Bs}{r:List Tk}:Ve s ts=some ((),r)↔tkW s ts=some r:=by
 unfold Ve tkW;split<;>simp
theorem Cq {s:Bs}:Ve s ts=none↔tkW s ts=none:=by
 unfold Ve tkW;split<;>simp
theorem un_neg (hw:isW [45] (L.drop n)=true)(ho:Out L false (unS f (L.drop (n+1))) x n2 b2):Out L false (unS (f+1) (L.drop n)) (.mk 4 0 em 0 false 0 [x]) n2 b2:=
 ho.up (fun _ r h=>by simp only [unS,Rn hw,h]) (fun _ h=>by simp only [unS,Rn hw,h])
theorem un_not (h1:isW [45] (L.drop n)=false)(hw:isW [33] (L.drop n)=true)(ho:Out L false (unS f (L.drop (n+1))) x n2 b2):Out L false (unS (f+1) (L.drop n)) (.mk 5 0 em 0 false 0 [x]) n2 b2:=
 ho.up (fun _ r h=>by simp only [unS,Mb h1,Rn hw,h]) (fun _ h=>by simp only [unS,Mb h1,Rn hw,h])
theorem un_prim (h1:bad=true\/isW [45] (L.drop n)=false)(h2:bad=true\/isW [33] (L.drop n)=false)(ho:Out L bad (Uo f (L.drop n)) x n2 b2):Out L bad (unS (f+1) (L.drop n)) x n2 b2:=
 ho.up (fun a r h=>by simp only [unS,Mb (h1.resolve_left (by rw [a];decide)),Mb (h2.resolve_left (by rw [a];decide)),h]) (fun a h=>by simp only [unS,Mb (h1.resolve_left (by rw [a];decide)),Mb (h2.resolve_left (by rw [a];decide)),h])
theorem prim_par (hw:isW [40] (L.drop n)=true)(ho:Out L false (Vq f 1 (L.drop (n+1))) x n2 b2)(h2:Out L b2 (Ve [41] (L.drop n2)) () n3 b3):Out L false (Uo (f+1) (L.drop n)) x n3 b3:=
 ho.seq h2 (fun _ h=>by simp only [Uo,Rn hw,h]) (fun _ h k=>by simp only [Uo,Rn hw,h,Cq.1 k]) (fun _ h r k=>by simp only [Uo,Rn hw,h,Dk.1 k])
theorem G4 (h: ∀ t r,ts=t::r->t.k≠2):J1 ts=none:=by
 cases ts with
 |nil=>rfl
 |cons t r=>exact if_neg (h t r rfl)
theorem Zza {t:Tk}{r:List Tk}(e:ts=t::r)(h:t.k=2):J1 ts=some (t.n,r):=by subst e;exact if_pos h
theorem prim_num (h1:bad=true\/isW [40] (L.drop n)=false)(hlt:n<L.length)(hk:L[n].k=2)(ho:Out L bad (J1 (L.drop n)) z n2 b2):Out L bad (Uo (f+1) (L.drop n)) (.mk 1 z em 0 false 0 []) n2 b2:=
 ho.up (fun a r h=>by simp only [Uo,Mb (h1.resolve_left (by rw [a];decide)),h]) (fun a h=>by rw [Zza (aP hlt) hk] at h;cases h)
theorem Zwe (h1:bad=true\/isW [40] (L.drop n)=false)(hk: ∀ h:n<L.length,L[n].k≠2)(ho:Out L bad (Jd (L.drop n)) nm n2 b2)(h2:b2=true\/isW [91] (L.drop n2)=false):Out L bad (Uo (f+1) (L.drop n)) (.mk 2 0 nm 0 false 0 []) n2 b2:=by
 have d:J1 (L.drop n)=none:=G4 fun t r e=>by
  have a:n<L.length:=by rcases dJ n L.length with h|h;exact h;rw [cL h] at e;cases e
  rw [aP a] at e;cases e;exact hk a
 rcases ho with ⟨c,b,g⟩|⟨c,b⟩
 . refine .inl ⟨c,b,?_⟩;simp only [Uo,Mb (h1.resolve_left (by rw [b];decide)),d,g,Mb (h2.resolve_left (by rw [c];decide))]
 refine .inr ⟨c,?_⟩
 cases hb:bad with
 |true=>exact .inl rfl
 |false=>simp only [Uo,Mb (h1.resolve_left (by rw [hb];decide)),d,b.resolve_left (by rw [hb];decide)];exact .inr trivial
theorem Zw0 (h1:bad=true\/isW [40] (L.drop n)=false)(hk: ∀ h:n<L.length,L[n].k≠2)(ho:Out L bad (Jd (L.drop n)) nm n2 false)(hw:isW [91] (L.drop n2)=true)
 (h3:Out L false (Vq f 1 (L.drop (n2+1))) x n3 b3) (h4:Out L b3 (Ve [93] (L.drop n3)) () n4 b4):Out L bad (Uo (f+1) (L.drop n)) (.mk 3 0 nm 0 false 0 [x]) n4 b4:=by
 have c:J1 (L.drop n)=none:=G4 fun t r e=>by
  have b:n<L.length:=by rcases dJ n L.length with h|h;exact h;rw [cL h] at e;cases e
  rw [aP b] at e;cases e;exact hk b
 rcases ho with ⟨_,g,d⟩|⟨i,_⟩
 . subst g;have a:=h1.resolve_left (by decide);exact h3.seq h4 (fun _ h=>by simp only [Uo,Mb a,c,d,Rn hw,h]) (fun _ h k=>by simp only [Uo,Mb a,c,d,Rn hw,h,Cq.1 k]) (fun _ h r k=>by simp only [Uo,Mb a,c,d,Rn hw,h,Dk.1 k])
 cases i
theorem expr_un (ho:Out L bad (unS f (L.drop n)) x n2 b2):Out L bad (Vq (f+1) 6 (L.drop n)) x n2 b2:=
 ho.up (fun _ r h=>by simp only [Vq,if_pos (show (5:Int)<6 by decide),h]) (fun _ h=>by simp only [Vq,if_pos (show (5:Int)<6 by decide),h])
def More (L:List Tk)(bad:Bool)(S:Option (PEx×List Tk))(g:Nat)(r:Int)(x:PEx)(n:Nat)(b:Bool):Prop:=(b=false/\bad=false/\S=Nl g r x (L.drop n))\/(b=true/\(bad=true\/S=none))
theorem More.first (hr:r<=5)(ho:Out L bad (Vq f (r+1) (L.drop n)) x n1 b1):More L bad (Vq (f+1) r (L.drop n)) f r x n1 b1:=by
 rcases ho with ⟨b,a,c⟩|⟨b,a⟩
 . exact .inl ⟨b,a,by simp only [Vq,if_neg (show ¬ (5:Int)<r by omega),c]⟩
 exact .inr ⟨b,a.imp id fun h=>by simp only [Vq,if_neg (show ¬ (5:Int)<r by omega),h]⟩
theorem More.over (h:More L bad S (g+1) r x n1 b1)(h0:b1=true\/Qx r (L.drop n1)=0):Out L bad S x n1 b1:=by
 rcases h with ⟨a,b,c⟩|⟨a,b⟩
 . exact .inl ⟨a,b,by rw [c];simp only [Nl,if_pos (h0.resolve_left (by rw [a];decide))]⟩
 exact .inr ⟨a,b⟩
theorem More.go (h:More L bad S (g+1) r x n1 false)(h0:Qx r (L.drop n1)≠0)(ho:Out L false (Vq g (r+1) (L.drop (n1+1))) y n2 b2)(h3:r≠3):More L bad S g r (.mk 6 0 em 0 false (Qx r (L.drop n1)) [x,y]) n2 b2:=by
 rcases h with ⟨_,e,b⟩|⟨f,_⟩
 . rcases ho with ⟨a,_,c⟩|⟨a,d⟩
   . exact .inl ⟨a,e,by rw [b];simp only [Nl,if_neg h0,tail_drop,c,if_neg h3]⟩
   exact .inr ⟨a,.inr (by rw [b];simp only [Nl,if_neg h0,tail_drop,d.resolve_left (by decide)])⟩
 cases f
theorem More.three (h:More L bad S (g+1) 3 x n1 false)(h0:Qx 3 (L.drop n1)≠0)(ho:Out L false (Vq g 4 (L.drop (n1+1))) y n2 b2):Out L bad S (.mk 6 0 em 0 false (Qx 3 (L.drop n1)) [x,y]) n2 b2:=by
 rcases h with ⟨_,e,b⟩|⟨f,_⟩
 . rcases ho with ⟨a,_,c⟩|⟨a,d⟩
   . exact .inl ⟨a,e,by rw [b];simp only [Nl,if_neg h0,tail_drop,show ((3:Int)+1)=4 from rfl,c,if_pos]⟩
   exact .inr ⟨a,.inr (by rw [b];simp only [Nl,if_neg h0,tail_drop,show ((3:Int)+1)=4 from rfl,d.resolve_left (by decide)])⟩
 cases f
end
def I4 (G:World)(la:Option Addr)(lc:Nat)(L:List Tk)(f:Nat):Prop:= ∀ {p n:Nat} {q:List HP} {bad:Bool} (r:Nat),Sees q la (L.flatMap tkC)->1<=r->r<=6->n<=L.length->10*(L.length - n)+9<=f+r->
 CallF prog G 305 [.pointer (some ⟨p,0,none⟩),I64 r] (rdH p la lc L n bad::q) (Ret fun v q'=> ∃ (e:Ex) (n':Nat) (bad':Bool),v= .agg (exC e).toArray/\q'=rdH p la lc L n' bad'::exM e::q/\n<=n'/\n'<=L.length/\Out L bad (Vq f r (L.drop n)) e.er n' bad')
abbrev A3 (v0:Nat):=([.pointer (some ⟨v0,0,none⟩)]:List Value)
def RdUn (G:World)(la:Option Addr)(lc:Nat)(L:List Tk)(f:Nat):Prop:= ∀ {p n:Nat} {q:List HP} {bad:Bool},Sees q la (L.flatMap tkC)->n<=L.length->10*(L.length - n)+2<=f->
 CallF prog G 325 (A3 p) (rdH p la lc L n bad::q) (Ret fun v q'=> ∃ (e:Ex) (n':Nat) (bad':Bool),v= .agg (exC e).toArray/\q'=rdH p la lc L n' bad'::exM e::q/\n<=n'/\n'<=L.length/\Out L bad (unS f (L.drop n)) e.er n' bad')
def RdPrim (G:World)(la:Option Addr)(lc:Nat)(L:List Tk)(f:Nat):Prop:= ∀ {p n:Nat} {q:List HP} {bad:Bool},Sees q la (L.flatMap tkC)->n<=L.length->10*(L.length - n)+1<=f->
 CallF prog G 330 (A3 p) (rdH p la lc L n bad::q) (Ret fun v q'=> ∃ (e:Ex) (n':Nat) (bad':Bool),v= .agg (exC e).toArray/\q'=rdH p la lc L n' bad'::exM e::q/\n<=n'/\n'<=L.length/\Out L bad (Uo f (L.drop n)) e.er n' bad')
theorem Qp:(prog.info? 136).map (fun i=>(i.zero,i.size,i.bytes))=some (some (.agg #[I64 0,I64 0,.string ⟨#[]⟩,I64 0,.bool false,I64 0,.slice none 0 0]),7,80):=by kernel_rfl
theorem un_step (IHu:RdUn G la lc L f)(IHp:RdPrim G la lc L f)(hL:Sees q la (L.flatMap tkC))(hn:L.length<=65536)(hnL:n<=L.length)(hfu:10*(L.length - n)+2<=f+1):CallF prog G 325 [.pointer (some ⟨p,0,none⟩)] (rdH p la lc L n bad::q) (Ret fun v q'=> ∃ (e:Ex) (n':Nat) (bad':Bool),v= .agg (exC e).toArray/\q'=rdH p la lc L n' bad'::exM e::q/\n<=n'/\n'<=L.length/\Out L bad (unS (f+1) (L.drop n)) e.er n' bad'):=by
 refine aB func325 ntmps325 rfl fun F cs=> ?_;refine xo 2 ?_;refine Zh zeroValue136 fun n1=> ?_
 refine oo 5 ?_;refine Zv call220 leA (Qv (w:= [45]) (hL.le leA) hn) ?_;rintro _ _ (⟨rfl,⟨o,a,s⟩,rfl⟩|⟨rfl,a,rfl⟩)
 . refine oo 5 ?_;refine Zv call325 leA (IHu (hL.le leA) (by omega) (by omega)) ?_;rintro _ _ ⟨⟨j,z1,i,l1,o1,p1,d,h,w1⟩,m2,b2,rfl,rfl,l,c,b⟩;refine bU (Yz exC underlying134 Qp rfl rfl Yk rfl) ?_;rintro _ _ ⟨g,rfl,rfl⟩;refine rn [1,0,1] ?_;subst o;refine Zjl (kd:=4) (n:=0) (nm:=em) (slot:=0) (loc:=false) (op:=0) ?_;refine Zq (rdH p la lc L m2 b2::exM (.mk 4 0 em 0 false 0 [(.mk j z1 i l1 o1 p1 d h w1)] (some ⟨g,0,none⟩) 1)::q) func325 (rA_ results325) ⟨_,rfl,.mk 4 0 em 0 false 0 [(.mk j z1 i l1 o1 p1 d h w1)] (some ⟨g,0,none⟩) 1,m2,b2,rfl,rfl,by omega,c,un_neg a b⟩
 refine oo 7 ?_;refine Zv call220 leA (Qv (w:= [33]) (hL.le leA) hn) ?_;rintro _ _ (⟨rfl,⟨m,k,r⟩,rfl⟩|⟨rfl,k,rfl⟩)
 . refine oo 5 ?_;refine Zv call325 leA (IHu (hL.le leA) (by omega) (by omega)) ?_;rintro _ _ ⟨⟨j,z1,i,l1,o1,p1,d,h,w1⟩,m2,b2,rfl,rfl,l,c,b⟩;refine bU (Yz exC underlying134 Qp rfl rfl Yk rfl) ?_;rintro _ _ ⟨g,rfl,rfl⟩;refine rn [1,0,1] ?_;subst m;replace a:=a.resolve_left (by decide);refine Zjl (kd:=5) (n:=0) (nm:=em) (slot:=0) (loc:=false) (op:=0) ?_;refine Zq (rdH p la lc L m2 b2::exM (.mk 5 0 em 0 false 0 [(.mk j z1 i l1 o1 p1 d h w1)] (some ⟨g,0,none⟩) 1)::q) func325 (rA_ results325) ⟨_,rfl,.mk 5 0 em 0 false 0 [(.mk j z1 i l1 o1 p1 d h w1)] (some ⟨g,0,none⟩) 1,m2,b2,rfl,rfl,by omega,c,un_not a k b⟩
 refine oo 6 ?_;refine Zv call330 leA (IHp (hL.le leA) (by omega) (by omega)) ?_;rintro _ _ ⟨⟨j,z1,i,l1,o1,p1,d,h,w1⟩,m2,b2,rfl,rfl,l,c,b⟩;refine rn [0,1] ?_;refine Zq (rdH p la lc L m2 b2::exM (.mk j z1 i l1 o1 p1 d h w1)::q) func325 (rA_ results325) ⟨_,rfl,(.mk j z1 i l1 o1 p1 d h w1),m2,b2,rfl,rfl,l,c,un_prim a k b⟩
theorem Zwo (IHe:I4 G la lc L f)(hL:Sees q la (L.flatMap tkC))(hn:L.length<=65536)(hnL:n<=L.length)(hfu:10*(L.length - n)+1<=f+1):CallF prog G 330 [.pointer (some ⟨p,0,none⟩)] (rdH p la lc L n bad::q) (Ret fun v q'=> ∃ (e:Ex) (n':Nat) (bad':Bool),v= .agg (exC e).toArray/\q'=rdH p la lc L n' bad'::exM e::q/\n<=n'/\n'<=L.length/\Out L bad (Uo (f+1) (L.drop n)) e.er n' bad'):=by
 refine aB func330 ntmps330 rfl fun F cs=> ?_;have y:=Zx (f:=tkC) (sz:=5) (fun _=>rfl) L;refine xo 2 ?_;refine Zh zeroValue136 fun n1=> ?_
 refine oo 5 ?_;refine Zv call220 leA (Qv (w:= [40]) (hL.le leA) hn) ?_;rintro _ _ (⟨rfl,⟨e0,a,g0⟩,rfl⟩|⟨rfl,a,rfl⟩)
 . refine oo 5 ?_;refine Zv call305 leA (IHe 1 (hL.le leA) (by omega) (by omega) (by omega) (by omega)) ?_;rintro _ _ ⟨⟨x,z1,t,l1,o1,p1,r,s,w1⟩,m3,b3,rfl,rfl,c0,o,l⟩;refine Zh zeroValue136 fun n2=> ?_
   refine rn [0,4] ?_;refine Zv call219 leA (Y4 (w:= [41]) (hL.le leA) hn o) ?_;rintro _ _ ⟨u,b4,rfl,rfl,b0,m,j⟩;refine rn [3,0,0,1] ?_;subst e0;refine Zq (rdH p la lc L u b4::exM (.mk x z1 t l1 o1 p1 r s w1)::q) func330 (rA_ results330) ⟨_,rfl,(.mk x z1 t l1 o1 p1 r s w1),u,b4,rfl,rfl,by omega,m,prim_par a l j⟩
 refine rn [5,0,1,2,3,4,5,6,7,8,9,10,11] ?_;refine eY 22 rfl ?_ ?_<;>intro h1
 focus
  replace h1:=sp h1;refine rn [12,13,14,15,16,17,18,19] ?_;refine Nh hL (by rw [y];omega) fun b1 o1 e1=> ?_;have a0:=hL;rw [e1] at a0;refine dY 26 (.slice (some ⟨b1,o1,none⟩) L.length lc) rfl (by rw [e1]) ?_;refine rn [20,21,22,23,24,0] ?_;refine xp 35 ?_ ?_<;>intro h2
  . refine xo 4 ?_;refine Zv call221 leA (Mg (hL.le leA) hn hnL) ?_;rintro _ _ ⟨z,m2,b2,rfl,rfl,⟨c,_⟩,d,b⟩;refine rn [1,0,1] ?_;refine cS (Le.ex0 1 z em 0 false 0) ?_;refine Zq (rdH p la lc L m2 b2::exM (.mk 1 z em 0 false 0 [] none 0)::q) func330 (rA_ results330) ⟨_,rfl,.mk 1 z em 0 false 0 [] none 0,m2,b2,rfl,rfl,c,d,prim_num a (by omega) h2 b⟩
  refine xo 5 ?_;refine Zv call218 leA (Ht (hL.le leA) hn hnL) ?_;rintro _ _ ⟨nm,m2,b2,rfl,rfl,⟨c,_⟩,d,b⟩;refine oo 1 ?_;refine Zh zeroValue136 fun n2=> ?_
  refine rn [0,5] ?_;have hk: ∀ h:n<L.length,L[n].k≠2:=fun _=>h2
 rotate_left
 focus
  replace h1:=sp h1;refine rn [12,13,14,15,16,17,18,19,20,21,22,23,24,0,5] ?_;refine Zv call218 leA (Ht (hL.le leA) hn hnL) ?_;rintro _ _ ⟨nm,m2,b2,rfl,rfl,⟨c,_⟩,d,b⟩;refine oo 1 ?_;refine Zh zeroValue136 fun n2=> ?_
  refine rn [0,5] ?_;have hk: ∀ h:n<L.length,L[n].k≠2:=fun h=>aV h (by omega)
 all_goals
  refine Zv call220 leA (Qv (w:= [91]) (hL.le leA) hn) ?_;rintro _ _ (⟨rfl,⟨d0,i,f0⟩,rfl⟩|⟨rfl,i,rfl⟩)
  . refine rn [5,0,4] ?_;subst d0;refine Zv call305 leA (IHe 1 (hL.le leA) (by omega) (by omega) (by omega) (by omega)) ?_;rintro _ _ ⟨⟨x,z1,t,l1,o1,p1,r,s,w1⟩,m3,b3,rfl,rfl,c0,o,l⟩;refine bU (Yz exC underlying134 Qp rfl rfl Yk rfl) ?_;rintro _ _ ⟨g,rfl,rfl⟩;refine rn [1,0,3] ?_;refine Zv call219 leA (Y4 (w:= [93]) (hL.le leA) hn o) ?_;rintro _ _ ⟨u,b4,rfl,rfl,b0,m,j⟩;refine rn [3,0,0,1] ?_;refine Zjl (kd:=3) (n:=0) (nm:=nm) (slot:=0) (loc:=false) (op:=0) ?_;refine Zq (rdH p la lc L u b4::exM (.mk 3 0 nm 0 false 0 [(.mk x z1 t l1 o1 p1 r s w1)] (some ⟨g,0,none⟩) 1)::q) func330 (rA_ results330) ⟨_,rfl,.mk 3 0 nm 0 false 0 [(.mk x z1 t l1 o1 p1 r s w1)] (some ⟨g,0,none⟩) 1,u,b4,rfl,rfl,by omega,m,Zw0 a hk b i l j⟩
  refine rn [5,0,0,1] ?_;refine cS (Le.ex0 2 0 nm 0 false 0) ?_;refine Zq (rdH p la lc L m2 b2::exM (.mk 2 0 nm 0 false 0 [] none 0)::q) func330 (rA_ results330) ⟨_,rfl,.mk 2 0 nm 0 false 0 [] none 0,m2,b2,rfl,rfl,c,d,Zwe a hk b i⟩
theorem Zxa {r:Nat}(IHu:RdUn G la lc L f)(IHe: ∀ g,g<=f->I4 G la lc L g)(hL:Sees q la (L.flatMap tkC))(hn:L.length<=65536)(hnL:n<=L.length)(h1r:1<=r)(h6r:r<=6)(hfu:10*(L.length - n)+9<=f+1+r):CallF prog G 305 [.pointer (some ⟨p,0,none⟩),I64 r] (rdH p la lc L n bad::q) (Ret fun v q'=> ∃ (e:Ex) (n':Nat) (bad':Bool),v= .agg (exC e).toArray/\q'=rdH p la lc L n' bad'::exM e::q/\n<=n'/\n'<=L.length/\Out L bad (Vq (f+1) r (L.drop n)) e.er n' bad'):=by
 refine aB func305 ntmps305 rfl fun F cs=> ?_;refine xo 2 ?_;refine Zh zeroValue136 fun n1=> ?_
 refine ox 7 ?_;refine xp 8 ?_ ?_<;>intro h0
 . obtain rfl:r=6:=by omega
   refine xo 4 ?_;refine Zv call325 leA (IHu (hL.le leA) (by omega) (by omega)) ?_;rintro _ _ ⟨⟨h,z1,c,l1,o1,p1,a,b,w1⟩,m2,b2,rfl,rfl,l,o,i⟩;refine rn [0,1] ?_;refine Zq (rdH p la lc L m2 b2::exM (.mk h z1 c l1 o1 p1 a b w1)::q) func305 (rA_ results305) ⟨_,rfl,(.mk h z1 c l1 o1 p1 a b w1),m2,b2,rfl,rfl,l,o,expr_un i⟩
 have g0:r<=5:=by omega
 refine xo 7 ?_;refine Zv call305 leA (IHe f (aU _) (r+1) (hL.le leA) (by omega) (by omega) (by omega) (by omega)) ?_;rintro _ _ ⟨⟨h,z1,c,l1,o1,p1,a,b,w1⟩,m2,b2,rfl,rfl,l,o,i⟩;refine Zh zeroValue136 fun n2=> ?_
 refine rn [0,3] ?_;have hS:=More.first (by omega) i;generalize Vq (f+1) (r:Int) (L.drop n)=S at hS|-;refine aX (cC (fun (s:Ex×Nat×Bool×Nat)=>n<=s.2.1/\s.2.1<=L.length/\s.2.2.2<=f/\10*(L.length - s.2.1)+1<=s.2.2.2/\More L bad S s.2.2.2 r s.1.er s.2.1 s.2.2.1) (fun s=> [(0,.pointer (some ⟨p,0,none⟩)),(1,I64 r),(4,pt n1),(5,pt n2)]) (fun s=>rdH p la lc L s.2.1 s.2.2.1::pto n2 (.cells (exC s.1).toArray 136 (0,0))::pto n1 (.cells zz4.toArray 136 (0,0))::exM s.1::(q++F)) (fun s=>L.length - s.2.1) (fun s w ih=> ?_) ((.mk h z1 c l1 o1 p1 a b w1),m2,b2,f) ⟨l,o,aU _,by dsimp only;omega,hS⟩) Zn leA;try dsimp only at w ih|-
 obtain ⟨b0,a0,f0,e0,m⟩:=w;obtain ⟨⟨h,z1,c,l1,o1,p1,a,b,w1⟩,d,b1,g⟩:=s;dsimp only at*;clear i hS;obtain ⟨g,rfl⟩: ∃ g2,g=g2+1:=⟨g - 1,by omega⟩;refine xo 5 ?_;refine bM call326 (Zvj (n:=d) (bad:=b1) (r:=(r:Int)) Vb (hL.le leA) hn) ?_;refine ox 2 ?_;refine xp 18 ?_ ?_<;>intro j
 . obtain rfl:b1=false:=by cases b1 with|false=>rfl|true=>(rw [if_pos rfl] at j;exact aV j (by decide))
   replace j:Qx r (L.drop d)≠0:=fun k=>by rw [if_neg (by decide),k] at j;exact aV j (by decide)
   have d0:=Xh j;refine xo 7 ?_;refine bM call326 (Zvj (n:=d) (bad:=false) (r:=(r:Int)) Vb (hL.le leA) hn) ?_;refine aW 21 (I64 (Qx r (L.drop d):Nat)) rfl (rfl) ?_;refine rn [7,0,3,0,2,0,1,2,3,4,5] ?_;refine Wv 5 call305 leA (IHe g (by omega) (r+1) (n:=d+1) (bad:=false) (hL.le leA) (by omega) (by omega) (by omega) (by omega)) ?_;rintro _ _ ⟨⟨k2,y,s2,l2,o2,p2,z,u2,w2⟩,m3,b3,rfl,rfl,c0,x,t⟩;refine ⟨hlA,?_⟩;refine eE 6 rfl (Ef.litR2 (u:=(.mk h z1 c l1 o1 p1 a b w1)) (v:=(.mk k2 y s2 l2 o2 p2 z u2 w2)) exC underlying134 Qp rfl rfl Yk rfl rfl) ?_;rintro _ _ ⟨g3,rfl,rfl⟩;refine ⟨trivial,?_⟩;refine rn [8,9,0,5] ?_;refine X.fzE2 (kd:=6) (n:=0) (nm:=em) (slot:=0) (loc:=false) (op:=(Qx r (L.drop d):Nat)) ?_;refine xp 38 ?_ ?_<;>intro h3
   . obtain rfl:r=3:=by omega
     refine rn [3,0,0,1] ?_;refine Zq (rdH p la lc L m3 b3::exM (.mk 6 0 em 0 false (Qx (3:Nat) (L.drop d):Nat) [(.mk h z1 c l1 o1 p1 a b w1),(.mk k2 y s2 l2 o2 p2 z u2 w2)] (some ⟨g3,0,none⟩) 2)::q) func305 (rA_ results305) ⟨_,rfl,(.mk 6 0 em 0 false (Qx (3:Nat) (L.drop d):Nat) [(.mk h z1 c l1 o1 p1 a b w1),(.mk k2 y s2 l2 o2 p2 z u2 w2)] (some ⟨g3,0,none⟩) 2),m3,b3,rfl,rfl,by omega,x,m.three j t⟩
   refine xx 3 ?_;refine aX (ih ((.mk 6 0 em 0 false (Qx r (L.drop d):Nat) [(.mk h z1 c l1 o1 p1 a b w1),(.mk k2 y s2 l2 o2 p2 z u2 w2)] (some ⟨g3,0,none⟩) 2),m3,b3,g) ⟨by dsimp only;omega,x,by dsimp only;omega,by dsimp only;omega,m.go j t (by omega)⟩ (by dsimp only;omega)) Zn leA
 refine rn [4,0,0,1] ?_;refine Zq (rdH p la lc L d b1::exM (.mk h z1 c l1 o1 p1 a b w1)::q) func305 (rA_ results305) ⟨_,rfl,(.mk h z1 c l1 o1 p1 a b w1),d,b1,rfl,rfl,b0,a0,m.over (by cases b1 with|true=>exact .inl rfl|false=>rw [if_neg (by decide)] at j;exact .inr (by omega))⟩
theorem Zwi (hn:L.length<=65536): ∀ f,I4 G la lc L f/\RdUn G la lc L f/\RdPrim G la lc L f:=by
 intro f
 induction f using Nat.strongRecOn with
 |ind f ih=>
  cases f with
  |zero=>exact ⟨fun r c e d a b=>by omega,fun c a b=>by omega,fun c a b=>by omega⟩
  |succ f=>
   have h:=ih f (Nat.lt_succ_self _);exact ⟨fun r c e d a b=>Zxa h.2.1 (fun g i=>(ih g (by omega)).1) c hn a e d b,fun c a b=>un_step h.2.1 h.2.2 c hn a b,fun c a b=>Zwo h.1 c hn a b⟩
def Ex.z:Ex:= .mk 0 0 em 0 false 0 [] none 0
section
variable {ba:Option Addr}
theorem Kn.exz:Kn q fun M=>Ex.z.At M:=fun M _ _=>⟨SlAt.nil M,trivial⟩
theorem Zkg:Kn q fun M=>BlkAt M none 0 []:=fun M _ _=>⟨SlAt.nil M,trivial⟩
theorem Kn.st (he:Kn q fun M=>e.At M:=by first|exact Kn.exz|exact knA)(hx:Kn q fun M=>ix.At M:=by first|exact Kn.exz|exact knA)(hb:Kn q fun M=>BlkAt M ba bc body:=by first|exact Zkg|exact knA)(hl:Kn q fun M=>BlkAt M ea ec els:=by first|exact Zkg|exact knA):
 Kn q fun M=>(Stm.mk k ln cl nm wt e ix body els ba bc ea ec id slot other loc).At M:=fun M x p=>⟨he M x p,hx M x p,hb M x p,(hl M x p).1,(hl M x p).2⟩
abbrev kA:=@Kn.st
theorem Jz {p:PE}(s:Stm)(h:Kn q fun M=>s.At M)(K:X P G fr Q todo p ds cs (stM s::q)):X P G fr Q todo p ds cs q:= .le (dK h) K
end
theorem X.sts {p:PE}{q1 q2:List HP}{s:Stm}(h1:Le q (stsM l::q1))(h2:Le q1 (stM s::q2))(K:X P G fr Q todo p ds cs (stsM (l++ [s])::q2)):X P G fr Q todo p ds cs q:= .le (h1.trans ((cG _ h2).trans H1)) K
theorem Ho (l m:List Stm):Zk (l++m)=Zk l++Zk m:=by simp [Yh]
theorem Dx {W:List Bs}{ts:List Tk}: ∀ {k:Nat},Kh W ts k<=k
 |0=>aU _
 |k+1=>by unfold Kh;split;exact aU _;exact Nat.le_succ_of_le Dx
theorem Cf {W:List Bs}{L:List Tk}{n:Nat}: ∀ {k:Nat},Kh W (L.drop n) k≠0->n<L.length
 |0,h=>aV rfl h
 |k+1,h=>by
  unfold Kh at h;split at h
  . rename_i g;exact Zz9 g.2
  exact Cf h
theorem baNil (w:Bs):(ba w).toList=(ByteArray.mk #[]).toList↔w= []:=by rw [sEq,Qt];exact Iff.rfl
section
variable {b:Bool}{m m2:Nat}{s:PStm}{p:Int×Int}
theorem stmt_0 (hk:bad=true\/Uz (L.drop n)=0)(ho:Out L bad (Jd (L.drop n)) nm m2 b2)(hr:Out L b2 (Us f 0 (Zi (L.drop n)) nm (L.drop m2)) s m b):Out L bad (Ju (f+1) (L.drop n)) s m b:=by
 cases bad with
 |true=>
  have c:=ho.isBad;subst c;have a:=hr.isBad;subst a;exact .any
 |false=>
  have hk:=hk.resolve_left (by decide);rw [Ju,hk,if_neg (by decide),if_neg (by decide),if_neg (by decide)];exact ho.bnd hr
theorem Gg (h0:Uz (L.drop n)≠0)(h1:Uz (L.drop n)≠4/\Uz (L.drop n)≠5/\Uz (L.drop n)≠14/\Uz (L.drop n)≠15)(ho:Out L false (Jd (L.drop (n+1))) nm m2 b2)(hr:Out L b2 (Us f (Uz (L.drop n)) (Zi (L.drop n)) nm (L.drop m2)) s m b):Out L false (Ju (f+1) (L.drop n)) s m b:=by
 rw [Ju,if_neg (by omega),if_neg (by omega),if_pos (by omega),tail_drop];exact ho.bnd hr
theorem stmt_j (h1:Uz (L.drop n)=14\/Uz (L.drop n)=15)(hr:Out L false (Us f (Uz (L.drop n)) (Zi (L.drop n)) em (L.drop (n+1))) s m b):Out L false (Ju (f+1) (L.drop n)) s m b:=by
 rw [Ju,if_neg (by omega),if_pos h1,tail_drop];exact hr
theorem rest_0 {l:Option (PStm×List Tk)}(hw:b2=true\/isW [91] (L.drop m2)=false)(e:l=bnd (Ve [61] (L.drop m2)) fun _ r=>bnd (Vq f 1 r) fun e r=>bnd (Ve [59] r) fun _ r=>some (.mk 2 p.1 p.2 nm em e .z [] [] 0 0 0 false,r))(hr:Out L b2 l s m b):Out L b2 (Us f 0 p nm (L.drop m2)) s m b:=by
 subst e
 cases b2 with
 |true=>have h:=hr.isBad;subst h;exact .any
 |false=>rw [Us,if_pos rfl,if_neg (by rw [hw.resolve_left (by decide)];decide)];exact hr
def MoreB (L:List Tk)(bad:Bool)(S:Option (List PStm×List Tk))(g:Nat)(l:List PStm)(n:Nat)(b:Bool):Prop:=(b=false/\bad=false/\S=(U9 g (L.drop n)).map fun x=>(l++x.1,x.2))\/(b=true/\(bad=true\/S=none))
theorem MoreB.first (S:Option (List PStm×List Tk))(e:bad=false->S=U9 f (L.drop n)):MoreB L bad S f [] n bad:=by
 cases bad with
 |true=>exact .inr ⟨rfl,.inl rfl⟩
 |false=>exact .inl ⟨rfl,rfl,by rw [e rfl];cases U9 f (L.drop n)<;>rfl⟩
theorem MoreB.over {l:List PStm}(h:MoreB L bad S f l n b)(hg:b=false->0<f)(h0:b=true\/isW [125] (L.drop n)=true):Out L bad S l n b:=by
 rcases h with ⟨a,c,d⟩|⟨a,c⟩
 . obtain ⟨g,rfl⟩: ∃ g,f=g+1:=⟨f - 1,by have:=hg a;omega⟩;exact .inl ⟨a,c,by rw [d,U9,if_pos (h0.resolve_left (by rw [a];decide))];simp⟩
 exact .inr ⟨a,c⟩
theorem MoreB.go {l:List PStm}(h:MoreB L bad S (f+1) l n false)(h0:isW [125] (L.drop n)=false)(ho:Out L false (Ju f (L.drop n)) s m b):MoreB L bad S f (l++ [s]) m b:=by
 rcases h with ⟨_,g,c⟩|⟨i,_⟩
 . rcases ho with ⟨a,_,d⟩|⟨a,e⟩
   . refine .inl ⟨a,g,?_⟩;rw [c,U9,if_neg (by rw [h0];decide),d];simp only [bnd]
     cases U9 f (L.drop m)<;>simp [bnd]
   refine .inr ⟨a,.inr ?_⟩;rw [c,U9,if_neg (by rw [h0];decide),e.resolve_left (by decide)];rfl
 cases i
theorem name_adv (ho:Out L bad (Jd (L.drop n)) nm m2 false)(h:m2<=L.length):n<m2:=by
 rcases ho with ⟨_,_,e⟩|⟨e,_⟩
 . rcases dJ n L.length with a|b
   . rw [G9 a] at e;split at e
     . have:=aQ List.length (Prod.mk.inj (dT e)).2;simp at this;omega
     cases e
   rw [Ld b] at e;cases e
 cases e
theorem adv0 {sp:Option (PStm×List Tk)}(ho:Out L bad (Jd (L.drop n)) nm m2 b2)(hr:Out L b2 sp s m b)(hb:b=false)(h:m2<=L.length):n<m2:=by
 subst hb;rcases hr with ⟨_,e,_⟩|⟨e,_⟩
 . subst e;exact name_adv ho h
 cases e
end
def RdStmt (G:World)(la:Option Addr)(lc:Nat)(L:List Tk)(f:Nat):Prop:= ∀ {p n:Nat} {q:List HP} {bad:Bool},Sees q la (L.flatMap tkC)->n<=L.length->10*(L.length - n)+11<=f->
 CallF prog G 274 (A3 p) (rdH p la lc L n bad::q) (Ret fun v q'=> ∃ (s:Stm) (n':Nat) (bad':Bool),v= .agg (stC s).toArray/\q'=rdH p la lc L n' bad'::stM s::q/\(n<=n'/\(bad'=false->n<n'))/\n'<=L.length/\Out L bad (Ju f (L.drop n)) s.er n' bad')
def Zv3 (G:World)(la:Option Addr)(lc:Nat)(L:List Tk)(f:Nat):Prop:= ∀ {p n:Nat} {q:List HP} {bad:Bool},Sees q la (L.flatMap tkC)->n<=L.length->10*(L.length - n)+13<=f->
 CallF prog G 222 (A3 p) (rdH p la lc L n bad::q) (Ret fun v q'=> ∃ (a:Option Addr) (c:Nat) (l:List Stm) (n':Nat) (bad':Bool),v= .slice a l.length c/\q'=rdH p la lc L n' bad'::blM a c l::q/\n<=n'/\n'<=L.length/\Out L bad (H8 f (L.drop n)) (Zk l) n' bad')
theorem V5:(prog.info? 138).map (fun i=>(i.zero,i.size,i.bytes))=some (some (.agg #[I64 0,I64 0,I64 0,.string ⟨#[]⟩,.string ⟨#[]⟩,I64 0,I64 0,.string ⟨#[]⟩,I64 0,.bool false,I64 0,.slice none 0 0,I64 0,I64 0,.string ⟨#[]⟩,I64 0,.bool false,I64 0,.slice none 0 0,.slice none 0 0,.slice none 0 0,I64 0,I64 0,I64 0,.bool false]),25,296):=by kernel_rfl
theorem kinds_ok:CallF prog G 304 [] ([]) (Ret fun v q'=> ∃ g,v= .slice (some ⟨g,0,none⟩) 16 16/\q'= [lsH (fun w:Bs=>Value.string (ba w)) 9 (some ⟨g,0,none⟩) 16 kindL]):=by
 refine aB func304 ntmps304 rfl fun F cs=> ?_;refine xo 6 ?_;refine bU (Yu (fun w:Bs=>Value.string (ba w)) kindL underlying25 Wi rfl rfl rfl rfl rfl rfl (fun _=>rfl)) ?_;rintro _ _ ⟨g,rfl,rfl⟩;refine ox 2 ?_;refine Zq [lsH (fun w:Bs=>Value.string (ba w)) 9 (some ⟨g,0,none⟩) 16 kindL] func304 (Zf results304 rfl) ⟨_,rfl,g,rfl,rfl⟩
abbrev AG :=((.cells zz3.toArray 138 (0,0)):Obj)
theorem Zwd (hE:I4 G la lc L f)(hB:Zv3 G la lc L f)(hL:Sees q la (L.flatMap tkC))(hn:L.length<=65536)(hnL:n<=L.length)(hfu:10*(L.length - n)+11<=f+1):CallF prog G 274 [.pointer (some ⟨p,0,none⟩)] (rdH p la lc L n bad::q) (Ret fun v q'=> ∃ (s:Stm) (n':Nat) (bad':Bool),v= .agg (stC s).toArray/\q'=rdH p la lc L n' bad'::stM s::q/\(n<=n'/\(bad'=false->n<n'))/\n'<=L.length/\Out L bad (Ju (f+1) (L.drop n)) s.er n' bad'):=by
 refine aB func274 ntmps274 rfl fun F cs=> ?_;obtain ⟨K,hK⟩: ∃ K:Nat->Nat,K=fun j=>if bad=true then 0 else Kh kindL (L.drop n) j:=⟨_,rfl⟩
 refine xo 2 ?_;refine Zh zeroValue138 fun n1=> ?_
 refine oo 4 ?_;refine Zv call216 leA (pos_ok (hL.le leA) hn) ?_;rintro _ _ ⟨rfl,rfl⟩;refine oo 1 ?_;refine Zh zeroValue138 fun n2=> ?_
 refine rn [0,3] ?_;refine Vg call304 (kinds_ok) ?_;refine kd1 fun gk=> ?_
 refine ox 8 ?_;have n0:K 0=0:=by rw [hK];cases bad<;>rfl
 refine aX (cC (fun (s:Nat)=>s<=15) (fun s=> [(0,.pointer (some ⟨p,0,none⟩)),(2,pt n1),(3,pt n2),(4,.slice (some ⟨gk,0,none⟩) 16 16),(5,I64 ((s+1:Nat):Int))]) (fun s=>rdH p la lc L n bad::pto n2 (.cells (stC (.mk (K s) (Zi (L.drop n)).1 (Zi (L.drop n)).2 em em .z .z [] [] none 0 none 0 0 0 0 false)).toArray 138 (0,0))::pto n1 AG::lsH (fun w:Bs=>Value.string (ba w)) 9 (some ⟨gk,0,none⟩) 16 kindL::(q++F)) (fun s=>15 - s) (fun s f0 ih=> ?_) 0 (by omega)) Zn (by rw [n0];exact leA);try dsimp only at f0 ih|-
 obtain hs:=f0;refine xx 8 ?_;refine xp 14 ?_ ?_<;>intro h0
 . have d0:s+1<kindL.length:=by show s+1<16;omega
   refine xo 9 ?_;refine ld ?_ (hc:=(gP (n:=s+1) (bY _) Zj d0 rfl));refine oo 2 ?_;refine bB [22,0,2,3,4,5] ?_;apply Zg 7 29 22 rfl
   . intro g1 M1;have h1:=sp g1;refine oo 4 ?_;refine ld ?_ (hc:=(gP (n:=s+1) (bY _) Zj d0 rfl));refine bM call217 (Xi (n:=n) (bad:=bad) (s:=ba kindL[s+1]) Vb (hL.le leA) hn) ?_;refine oo 1 ?_;exact Zz M1 ⟨Yi g1,Zw⟩
   . intro g1 M1;have h1:=sp g1;refine oo 7 ?_;exact Zz M1 ⟨Yl g1,Zw⟩
   refine ox 1 ?_;refine xp 29 ?_ ?_<;>intro h1
   . refine rn [4,0,7] ?_;have i0:K (s+1)=s+1:=by rw [hK];dsimp only;rw [Qt,<-gD (d:= []) d0,baNil] at h1;rw [if_neg (by rw [h1.2.1];decide),Kh,if_pos ⟨h1.1,h1.2.2⟩]
     refine aX (ih (s+1) (by omega) (by omega)) Zn (by rw [i0];exact leA)
   refine xx 8 ?_;have i0:K (s+1)=K s:=by rw [hK];dsimp only;rw [Qt,<-gD (d:= []) d0,baNil] at h1;cases bad with|true=>rfl|false=>rw [if_neg (by decide),if_neg (by decide),Kh,if_neg (fun k=>by simp_all)]
   refine aX (ih (s+1) (by omega) (by omega)) Zn (by rw [i0];exact leA)
 obtain rfl:s=15:=by omega
 obtain ⟨k,hk⟩: ∃ k,K 15=k:=⟨_,rfl⟩;rw [hk];rw [hK] at hk;dsimp only at hk;clear ih hK n0 f0 h0;have t0:k<=15:=by rw [<-hk];cases bad;exact Dx;exact bC _
 have l0:k≠0->bad=false/\Uz (L.drop n)=k/\n<L.length:=fun h=>by cases bad with|true=>exact aV hk.symm h|false=>exact ⟨rfl,hk,Cf (by rw [show Kh kindL (L.drop n) 15=k from hk];exact h)⟩
 have g0:k=0\/k=1\/k=8\/k=12\/k=11\/k=15\/k=14\/(k=4\/k=5)\/(k=2\/k=3\/k=6\/k=7\/k=9\/k=10\/k=13):=by omega
 rcases g0 with rfl|rfl|rfl|rfl|rfl|rfl|rfl|g0|g0
 . have m0:bad=true\/Uz (L.drop n)=0:=by cases bad;exact .inr hk;exact .inl rfl
   refine rn [5,0,8,1035,8,1045,4,1048,8,2067,4,2070,3] ?_;refine Zv call218 leA (Ht (n:=n) (hL.le leA) hn hnL) ?_;rintro _ _ ⟨nm,m2,b2,rfl,rfl,⟨c0,_⟩,m,b⟩;refine rn [1,0,12,2075,4,0,5] ?_;refine Zv call220 leA (Qv (w:= [91]) (n:=m2) (hL.le leA) hn) ?_;rintro _ _ (⟨rfl,⟨hb,hw,k0⟩,rfl⟩|⟨rfl,hw,rfl⟩)
   . subst hb;refine rn [5,0,4] ?_;refine Zv call305 leA (hE 1 (n:=(m2+1)) (hL.le leA) (by omega) (by omega) (by omega) (by omega)) ?_;rintro _ _ ⟨⟨l,z1,i,l1,o1,p1,e,g,w1⟩,u,b3,rfl,rfl,y,c,a⟩;refine rn [1,0,3] ?_;refine Zv call219 leA (Y4 (w:= [93]) (n:=u) (hL.le leA) hn c) ?_;rintro _ _ ⟨x,b4,rfl,rfl,a0,t,o⟩;refine oo 4 ?_;refine Zv call219 leA (Y4 (w:= [61]) (n:=x) (hL.le leA) hn t) ?_;rintro _ _ ⟨m5,b5,rfl,rfl,j0,e0,b0⟩;refine oo 3 ?_;refine Zv call305 leA (hE 1 (n:=m5) (hL.le leA) (by omega) (by omega) (by omega) (by omega)) ?_;rintro _ _ ⟨⟨k2,z2,s2,l2,o2,p2,y2,u2,w2⟩,m6,b6,rfl,rfl,v0,s0,p0⟩;refine rn [1,0,5] ?_;refine Zv call219 leA (Y4 (w:= [59]) (n:=m6) (hL.le leA) hn s0) ?_;rintro _ _ ⟨m7,b7,rfl,rfl,u0,r0,o0⟩;refine rn [3,0,0,1] ?_;have hr:Out L false (Us f 0 (Zi (L.drop n)) nm (L.drop m2)) (Stm.er (.mk 3 (Zi (L.drop n)).1 (Zi (L.drop n)).2 nm em (.mk k2 z2 s2 l2 o2 p2 y2 u2 w2) (.mk l z1 i l1 o1 p1 e g w1) [] [] none 0 none 0 0 0 0 false)) m7 b7:=(by rw [Us,if_pos rfl,if_pos hw,tail_drop];exact a.bnd (o.bnd (b0.bnd (p0.bnd (o0.bnd .ret)))));refine Jz (.mk 3 (Zi (L.drop n)).1 (Zi (L.drop n)).2 nm em (.mk k2 z2 s2 l2 o2 p2 y2 u2 w2) (.mk l z1 i l1 o1 p1 e g w1) [] [] none 0 none 0 0 0 0 false) kA ?_;refine Zq (rdH p la lc L m7 b7::stM (.mk 3 (Zi (L.drop n)).1 (Zi (L.drop n)).2 nm em (.mk k2 z2 s2 l2 o2 p2 y2 u2 w2) (.mk l z1 i l1 o1 p1 e g w1) [] [] none 0 none 0 0 0 0 false)::q) func274 (rA_ results274) ⟨_,rfl,(.mk 3 (Zi (L.drop n)).1 (Zi (L.drop n)).2 nm em (.mk k2 z2 s2 l2 o2 p2 y2 u2 w2) (.mk l z1 i l1 o1 p1 e g w1) [] [] none 0 none 0 0 0 0 false),m7,b7,rfl,rfl,⟨by omega,fun hb=>by have:=adv0 b hr hb m;omega⟩,r0,stmt_0 m0 b hr⟩
   refine oo 6 ?_;refine Zv call219 leA (Y4 (w:= [61]) (n:=m2) (hL.le leA) hn m) ?_;rintro _ _ ⟨u,b3,rfl,rfl,y,c,a⟩;refine oo 3 ?_;refine Zv call305 leA (hE 1 (n:=u) (hL.le leA) (by omega) (by omega) (by omega) (by omega)) ?_;rintro _ _ ⟨⟨l,z1,i,l1,o1,p1,e,g,w1⟩,x,b4,rfl,rfl,a0,t,o⟩;refine rn [1,0,5] ?_;refine Zv call219 leA (Y4 (w:= [59]) (n:=x) (hL.le leA) hn t) ?_;rintro _ _ ⟨m5,b5,rfl,rfl,j0,e0,b0⟩;refine rn [3,0,0,1] ?_;have hr:Out L b2 (Us f 0 (Zi (L.drop n)) nm (L.drop m2)) (Stm.er (.mk 2 (Zi (L.drop n)).1 (Zi (L.drop n)).2 nm em (.mk l z1 i l1 o1 p1 e g w1) .z [] [] none 0 none 0 0 0 0 false)) m5 b5:=rest_0 hw rfl (a.bnd (o.bnd (b0.bnd .ret)));refine Jz (.mk 2 (Zi (L.drop n)).1 (Zi (L.drop n)).2 nm em (.mk l z1 i l1 o1 p1 e g w1) .z [] [] none 0 none 0 0 0 0 false) kA ?_;refine Zq (rdH p la lc L m5 b5::stM (.mk 2 (Zi (L.drop n)).1 (Zi (L.drop n)).2 nm em (.mk l z1 i l1 o1 p1 e g w1) .z [] [] none 0 none 0 0 0 0 false)::q) func274 (rA_ results274) ⟨_,rfl,(.mk 2 (Zi (L.drop n)).1 (Zi (L.drop n)).2 nm em (.mk l z1 i l1 o1 p1 e g w1) .z [] [] none 0 none 0 0 0 0 false),m5,b5,rfl,rfl,⟨by omega,fun hb=>by have:=adv0 b hr hb m;omega⟩,e0,stmt_0 m0 b hr⟩
 iterate 4
  focus
   obtain ⟨rfl,r,q0⟩:=l0 (by omega);refine rn [5,0,8,2035,5,0,3,0,7,1045,4,1048,8,2067,4,2070,3] ?_;refine Zv call218 leA (Ht (n:=(n+1)) (hL.le leA) hn (by omega)) ?_;rintro _ _ ⟨nm,m2,b2,rfl,rfl,⟨c0,_⟩,m,b⟩;refine rn [1,0,12,1075,6] ?_
  rotate_left
 iterate 4
  focus
   obtain ⟨rfl,r,q0⟩:=l0 (by omega);refine rn [5,0,8,2035,5,0,3,0,7] ?_
  rotate_left
 . refine rn [2091,4] ?_;refine Zv call219 leA (Y4 (w:= [61]) (n:=m2) (hL.le leA) hn m) ?_;rintro _ _ ⟨u,b3,rfl,rfl,y,c,a⟩;refine oo 3 ?_;refine Zv call305 leA (hE 1 (n:=u) (hL.le leA) (by omega) (by omega) (by omega) (by omega)) ?_;rintro _ _ ⟨⟨l,z1,i,l1,o1,p1,e,g,w1⟩,x,b4,rfl,rfl,a0,t,o⟩;refine rn [1,0,5] ?_;refine Zv call219 leA (Y4 (w:= [59]) (n:=x) (hL.le leA) hn t) ?_;rintro _ _ ⟨m5,b5,rfl,rfl,j0,e0,b0⟩;refine rn [3,0,0,1] ?_;refine Jz (.mk (1:Nat) (Zi (L.drop n)).1 (Zi (L.drop n)).2 nm em (.mk l z1 i l1 o1 p1 e g w1) .z [] [] none 0 none 0 0 0 0 false) kA ?_;refine Zq (rdH p la lc L m5 b5::stM (.mk (1:Nat) (Zi (L.drop n)).1 (Zi (L.drop n)).2 nm em (.mk l z1 i l1 o1 p1 e g w1) .z [] [] none 0 none 0 0 0 0 false)::q) func274 (rA_ results274) ⟨_,rfl,(.mk (1:Nat) (Zi (L.drop n)).1 (Zi (L.drop n)).2 nm em (.mk l z1 i l1 o1 p1 e g w1) .z [] [] none 0 none 0 0 0 0 false),m5,b5,rfl,rfl,⟨by omega,fun _=>by omega⟩,e0,Gg (by omega) (by omega) b (by rw [r,Us,if_neg (by decide),if_pos (by decide)];exact a.bnd (o.bnd (b0.bnd .ret)))⟩
 . refine rn [1091,7,2098,5] ?_;refine Zv call218 leA (Ht (n:=m2) (hL.le leA) hn m) ?_;rintro _ _ ⟨wt,u,b3,rfl,rfl,⟨y,_⟩,c,a⟩;refine rn [1,0,5] ?_;refine Zv call219 leA (Y4 (w:= [59]) (n:=u) (hL.le leA) hn c) ?_;rintro _ _ ⟨x,b4,rfl,rfl,a0,t,o⟩;refine rn [3,0,0,1] ?_;refine Jz (.mk (8:Nat) (Zi (L.drop n)).1 (Zi (L.drop n)).2 nm wt .z .z [] [] none 0 none 0 0 0 0 false) kA ?_;refine Zq (rdH p la lc L x b4::stM (.mk (8:Nat) (Zi (L.drop n)).1 (Zi (L.drop n)).2 nm wt .z .z [] [] none 0 none 0 0 0 0 false)::q) func274 (rA_ results274) ⟨_,rfl,(.mk (8:Nat) (Zi (L.drop n)).1 (Zi (L.drop n)).2 nm wt .z .z [] [] none 0 none 0 0 0 0 false),x,b4,rfl,rfl,⟨by omega,fun _=>by omega⟩,t,Gg (by omega) (by omega) b (by rw [r,Us,if_neg (by decide),if_neg (by decide),if_pos (by decide)];exact a.bnd (o.bnd .ret))⟩
 . refine rn [1091,7,1098,5,2098,3] ?_;refine Zv call218 leA (Ht (n:=m2) (hL.le leA) hn m) ?_;rintro _ _ ⟨wt,u,b3,rfl,rfl,⟨y,_⟩,c,a⟩;refine rn [1,0,5] ?_;refine Zv call219 leA (Y4 (w:= [59]) (n:=u) (hL.le leA) hn c) ?_;rintro _ _ ⟨x,b4,rfl,rfl,a0,t,o⟩;refine rn [3,0,0,1] ?_;refine Jz (.mk (12:Nat) (Zi (L.drop n)).1 (Zi (L.drop n)).2 nm wt .z .z [] [] none 0 none 0 0 0 0 false) kA ?_;refine Zq (rdH p la lc L x b4::stM (.mk (12:Nat) (Zi (L.drop n)).1 (Zi (L.drop n)).2 nm wt .z .z [] [] none 0 none 0 0 0 0 false)::q) func274 (rA_ results274) ⟨_,rfl,(.mk (12:Nat) (Zi (L.drop n)).1 (Zi (L.drop n)).2 nm wt .z .z [] [] none 0 none 0 0 0 0 false),x,b4,rfl,rfl,⟨by omega,fun _=>by omega⟩,t,Gg (by omega) (by omega) b (by rw [r,Us,if_neg (by decide),if_neg (by decide),if_pos (by decide)];exact a.bnd (o.bnd .ret))⟩
 . refine rn [1091,7,1098,5,1098,7,2104,5] ?_;refine Zv call305 leA (hE 1 (n:=m2) (hL.le leA) (by omega) (by omega) (by omega) (by omega)) ?_;rintro _ _ ⟨⟨l,z1,i,l1,o1,p1,e,g,w1⟩,u,b3,rfl,rfl,y,c,a⟩;refine rn [1,0,5] ?_;refine Zv call219 leA (Y4 (w:= [59]) (n:=u) (hL.le leA) hn c) ?_;rintro _ _ ⟨x,b4,rfl,rfl,a0,t,o⟩;refine rn [3,0,0,1] ?_;refine Jz (.mk (11:Nat) (Zi (L.drop n)).1 (Zi (L.drop n)).2 nm em (.mk l z1 i l1 o1 p1 e g w1) .z [] [] none 0 none 0 0 0 0 false) kA ?_;refine Zq (rdH p la lc L x b4::stM (.mk (11:Nat) (Zi (L.drop n)).1 (Zi (L.drop n)).2 nm em (.mk l z1 i l1 o1 p1 e g w1) .z [] [] none 0 none 0 0 0 0 false)::q) func274 (rA_ results274) ⟨_,rfl,(.mk (11:Nat) (Zi (L.drop n)).1 (Zi (L.drop n)).2 nm em (.mk l z1 i l1 o1 p1 e g w1) .z [] [] none 0 none 0 0 0 0 false),x,b4,rfl,rfl,⟨by omega,fun _=>by omega⟩,t,Gg (by omega) (by omega) b (by rw [r,Us,if_neg (by decide),if_neg (by decide),if_neg (by decide),if_pos (by decide)];exact a.bnd (o.bnd .ret))⟩
 . refine rn [1045,4,1048,8,2067,4,1070,13,1075,6,1091,7,1098,5,1098,7,1104,5,2104,3] ?_;refine Zv call305 leA (hE 1 (n:=(n+1)) (hL.le leA) (by omega) (by omega) (by omega) (by omega)) ?_;rintro _ _ ⟨⟨l,z1,i,l1,o1,p1,e,g,w1⟩,m2,b2,rfl,rfl,c0,m,b⟩;refine rn [1,0,5] ?_;refine Zv call219 leA (Y4 (w:= [59]) (n:=m2) (hL.le leA) hn m) ?_;rintro _ _ ⟨u,b3,rfl,rfl,y,c,a⟩;refine rn [3,0,0,1] ?_;refine Jz (.mk (15:Nat) (Zi (L.drop n)).1 (Zi (L.drop n)).2 em em (.mk l z1 i l1 o1 p1 e g w1) .z [] [] none 0 none 0 0 0 0 false) kA ?_;refine Zq (rdH p la lc L u b3::stM (.mk (15:Nat) (Zi (L.drop n)).1 (Zi (L.drop n)).2 em em (.mk l z1 i l1 o1 p1 e g w1) .z [] [] none 0 none 0 0 0 0 false)::q) func274 (rA_ results274) ⟨_,rfl,(.mk (15:Nat) (Zi (L.drop n)).1 (Zi (L.drop n)).2 em em (.mk l z1 i l1 o1 p1 e g w1) .z [] [] none 0 none 0 0 0 0 false),u,b3,rfl,rfl,⟨by omega,fun _=>by omega⟩,c,stmt_j (.inr r) (by rw [r,Us,if_neg (by decide),if_neg (by decide),if_neg (by decide),if_pos (by decide)];exact b.bnd (a.bnd .ret))⟩
 . refine rn [1045,4,1048,8,1067,17,1075,6,1091,7,1098,5,1098,7,1104,5,1104,6] ?_;refine Zv call219 leA (Y4 (w:= [59]) (n:=(n+1)) (hL.le leA) hn (by omega)) ?_;rintro _ _ ⟨m2,b2,rfl,rfl,c0,m,b⟩;refine rn [3,0,0,1] ?_;refine Jz (.mk (14:Nat) (Zi (L.drop n)).1 (Zi (L.drop n)).2 em em .z .z [] [] none 0 none 0 0 0 0 false) kA ?_;refine Zq (rdH p la lc L m2 b2::stM (.mk (14:Nat) (Zi (L.drop n)).1 (Zi (L.drop n)).2 em em .z .z [] [] none 0 none 0 0 0 0 false)::q) func274 (rA_ results274) ⟨_,rfl,(.mk (14:Nat) (Zi (L.drop n)).1 (Zi (L.drop n)).2 em em .z .z [] [] none 0 none 0 0 0 0 false),m2,b2,rfl,rfl,⟨by omega,fun _=>by omega⟩,m,stmt_j (.inl r) (by rw [r,Us,if_neg (by decide),if_neg (by decide),if_neg (by decide),if_neg (by decide)];exact b.bnd .ret)⟩
 . refine kQ 45 rfl ?_ ?_<;>intro h1
   focus
    replace h1:=sp h1;refine oo 8 ?_
   rotate_left
   focus
    replace h1:=sp h1;refine rn [4,2048,4] ?_
   all_goals
    refine Zv call305 leA (hE 1 (n:=(n+1)) (hL.le leA) (by omega) (by omega) (by omega) (by omega)) ?_;rintro _ _ ⟨⟨l,z1,i,l1,o1,p1,e,g,w1⟩,m2,b2,rfl,rfl,c0,m,b⟩;refine rn [1,0,4] ?_;refine Zv call222 leA (hB (n:=m2) (hL.le leA) (by omega) (by omega)) ?_;rintro _ _ ⟨a1,c1,t1,u,b3,rfl,rfl,y,c,a⟩;refine rn [1,0,7] ?_;refine kQ 57 rfl ?_ ?_<;>intro h2
    . replace h2:=sp h2;refine oo 1 ?_;refine Zv call220 leA (Qv (w:= [101,108,115,101]) (n:=u) (hL.le leA) hn) ?_;rintro _ _ (⟨rfl,⟨hb,hw,k0⟩,rfl⟩|⟨rfl,hw,rfl⟩)
      . subst hb;refine oo 5 ?_;refine Zv call222 leA (hB (n:=(u+1)) (hL.le leA) (by omega) (by omega)) ?_;rintro _ _ ⟨a2,c2,t2,x,b4,rfl,rfl,a0,t,o⟩;refine rn [1,0,3,0,0,1] ?_;refine Jz (.mk k (Zi (L.drop n)).1 (Zi (L.drop n)).2 em em (.mk l z1 i l1 o1 p1 e g w1) .z t1 t2 a1 c1 a2 c2 0 0 0 false) kA ?_;refine Zq (rdH p la lc L x b4::stM (.mk k (Zi (L.drop n)).1 (Zi (L.drop n)).2 em em (.mk l z1 i l1 o1 p1 e g w1) .z t1 t2 a1 c1 a2 c2 0 0 0 false)::q) func274 (rA_ results274) ⟨_,rfl,(.mk k (Zi (L.drop n)).1 (Zi (L.drop n)).2 em em (.mk l z1 i l1 o1 p1 e g w1) .z t1 t2 a1 c1 a2 c2 0 0 0 false),x,b4,rfl,rfl,⟨by omega,fun _=>by omega⟩,t,by rw [Ju,r,if_pos (by omega),tail_drop];exact b.bnd (a.bnd (by rw [if_pos ⟨by omega,hw⟩,tail_drop];exact o.bnd .ret))⟩
      refine rn [6,0,0,1] ?_;refine Jz (.mk k (Zi (L.drop n)).1 (Zi (L.drop n)).2 em em (.mk l z1 i l1 o1 p1 e g w1) .z t1 [] a1 c1 none 0 0 0 0 false) kA ?_;refine Zq (rdH p la lc L u b3::stM (.mk k (Zi (L.drop n)).1 (Zi (L.drop n)).2 em em (.mk l z1 i l1 o1 p1 e g w1) .z t1 [] a1 c1 none 0 0 0 0 false)::q) func274 (rA_ results274) ⟨_,rfl,(.mk k (Zi (L.drop n)).1 (Zi (L.drop n)).2 em em (.mk l z1 i l1 o1 p1 e g w1) .z t1 [] a1 c1 none 0 0 0 0 false),u,b3,rfl,rfl,⟨by omega,fun _=>by omega⟩,c,by rw [Ju,r,if_pos (by omega),tail_drop];exact b.bnd (a.bnd (by cases b3 with|true=>exact .any|false=>rw [if_neg (fun h=>by rw [h.2] at hw;exact aV hw (by decide))];exact .ret))⟩
    replace h2:=sp h2;refine rn [8,0,0,1] ?_;refine Jz (.mk k (Zi (L.drop n)).1 (Zi (L.drop n)).2 em em (.mk l z1 i l1 o1 p1 e g w1) .z t1 [] a1 c1 none 0 0 0 0 false) kA ?_;refine Zq (rdH p la lc L u b3::stM (.mk k (Zi (L.drop n)).1 (Zi (L.drop n)).2 em em (.mk l z1 i l1 o1 p1 e g w1) .z t1 [] a1 c1 none 0 0 0 0 false)::q) func274 (rA_ results274) ⟨_,rfl,(.mk k (Zi (L.drop n)).1 (Zi (L.drop n)).2 em em (.mk l z1 i l1 o1 p1 e g w1) .z t1 [] a1 c1 none 0 0 0 0 false),u,b3,rfl,rfl,⟨by omega,fun _=>by omega⟩,c,by rw [Ju,r,if_pos (by omega),tail_drop];exact b.bnd (a.bnd (by rw [if_neg (by omega)];exact .ret))⟩
 refine rn [1045,4,1048,8,2067,4,2070,3] ?_;refine Zv call218 leA (Ht (n:=(n+1)) (hL.le leA) hn (by omega)) ?_;rintro _ _ ⟨nm,m2,b2,rfl,rfl,⟨c0,_⟩,m,b⟩;refine rn [1,0,12,1075,6,1091,7,1098,5,1098,7,1104,5,1104,6] ?_;refine Zv call219 leA (Y4 (w:= [59]) (n:=m2) (hL.le leA) hn m) ?_;rintro _ _ ⟨u,b3,rfl,rfl,y,c,a⟩;refine rn [3,0,0,1] ?_;refine Jz (.mk k (Zi (L.drop n)).1 (Zi (L.drop n)).2 nm em .z .z [] [] none 0 none 0 0 0 0 false) kA ?_;refine Zq (rdH p la lc L u b3::stM (.mk k (Zi (L.drop n)).1 (Zi (L.drop n)).2 nm em .z .z [] [] none 0 none 0 0 0 0 false)::q) func274 (rA_ results274) ⟨_,rfl,(.mk k (Zi (L.drop n)).1 (Zi (L.drop n)).2 nm em .z .z [] [] none 0 none 0 0 0 0 false),u,b3,rfl,rfl,⟨by omega,fun _=>by omega⟩,c,Gg (by omega) (by omega) b (by rw [r,Us,if_neg (by omega),if_neg (by omega),if_neg (by omega),if_neg (by omega)];exact a.bnd .ret)⟩
theorem Zju (hS: ∀ g,g<=f->RdStmt G la lc L g)(hL:Sees q la (L.flatMap tkC))(hn:L.length<=65536)(hnL:n<=L.length)(hfu:10*(L.length - n)+13<=f+1):CallF prog G 222 [.pointer (some ⟨p,0,none⟩)] (rdH p la lc L n bad::q) (Ret fun v q'=> ∃ (a:Option Addr) (c:Nat) (l:List Stm) (n':Nat) (bad':Bool),v= .slice a l.length c/\q'=rdH p la lc L n' bad'::blM a c l::q/\n<=n'/\n'<=L.length/\Out L bad (H8 (f+1) (L.drop n)) (Zk l) n' bad'):=by
 refine aB func222 ntmps222 rfl fun F cs=> ?_;refine xo 7 ?_;refine Zv call219 leA (Y4 (w:= [123]) (hL.le leA) hn hnL) ?_;rintro _ _ ⟨y,b1,rfl,rfl,h,h0,e0⟩;refine ox 7 ?_;have e:MoreB L b1 (U9 f (L.drop y)) f [] y b1:=MoreB.first _ (fun _=>rfl);obtain ⟨S,r⟩:=lM (U9 f (L.drop y));rw [<-r] at e;refine aX (cC (fun (s:(Option Addr×Nat×List Stm)×Nat×Bool×Nat)=>n<=s.2.1/\s.2.1<=L.length/\s.2.2.2<=f/\(s.2.2.1=false->10*(L.length - s.2.1)+12<=s.2.2.2/\s.1.2.2.length+n<=s.2.1)/\MoreB L b1 S s.2.2.2 (Zk s.1.2.2) s.2.1 s.2.2.1) (fun s=> [(0,.pointer (some ⟨p,0,none⟩)),(3,.slice s.1.1 s.1.2.2.length s.1.2.1),(2,.slice none 0 0)]) (fun s=>rdH p la lc L s.2.1 s.2.2.1::rsH stC 25 138 s.1.1 s.1.2.1 (s.1.2.2)::stsM s.1.2.2::(q++F)) (fun s=>2*(L.length - s.2.1)+(if s.2.2.1=true then 0 else 1)) (fun s i ih=> ?_) ((none,0, []),y,b1,f) ⟨h,h0,aU _,fun _=>⟨by dsimp only;omega,by simpa using h⟩,e⟩) Zn (aM leA (aM (Zc stC 25 138 _) (aM K9 leA)));try dsimp only at i ih|-
 obtain ⟨l0,o,k0,k,j⟩:=i;obtain ⟨⟨a0,c0,l⟩,m,b,g⟩:=s;dsimp only at*;clear e;refine rn [6,0,2] ?_;refine bB [11,0,3,2] ?_;apply Zg 4 15 11 rfl
 . intro t M1;have h1:=sp t;refine oo 1 ?_;refine bM call217 (Xi (n:=m) (bad:=b) (s:=ba [125]) Vb (hL.le leA) hn) ?_;refine oo 2 ?_;exact Zz M1 ⟨Yi t,Zw⟩
 . intro t M1;have h1:=sp t;refine oo 4 ?_;exact Zz M1 ⟨Yl t,Zw⟩
 refine ox 1 ?_;refine xp 15 ?_ ?_<;>intro h1
 . refine xo 6 ?_;obtain ⟨rfl,h2⟩:=h1;replace h2:isW [125] (L.drop m)=false:=h2.resolve_left (by decide);obtain ⟨n0,m0⟩:=k rfl;obtain ⟨g,rfl⟩: ∃ g2,g=g2+1:=⟨g - 1,by omega⟩;refine Zv call274 leA (hS g (by omega) (n:=m) (bad:=false) (hL.le leA) o (by omega)) ?_;rintro _ _ ⟨x,m2,b2,rfl,rfl,⟨j0,d⟩,g0,d0⟩;refine bU (Yz (u:=x) stC underlying128 V5 rfl rfl Z2 rfl) ?_;rintro _ _ ⟨g2,rfl,rfl⟩;refine bU (Z4 (f:=stC) (l:=l) (m:= [x]) underlying128 V5 rfl rfl Z2 rfl rfl Zj ((cI _).le Zj) J5 (by simp;omega) (by simp;omega)) ?_;rintro _ _ ⟨a3,c3,rfl,rfl⟩;refine ox 3 ?_;refine X.sts (l:=l) (s:=x) Zj Zj ?_;refine aX (ih ((a3,c3,l++ [x]),m2,b2,g) ⟨by dsimp only;omega,g0,by dsimp only;omega,fun z=>⟨by have:=d z;dsimp only;omega,by have:=d z;simp;omega⟩,by rw [Ho];exact j.go h2 d0⟩ (by dsimp only;cases b2 with|true=>simp;omega|false=>have:=d rfl;simp;omega)) Zn leA
 refine xo 5 ?_;refine Zv call219 leA (Y4 (w:= [125]) (n:=m) (hL.le leA) hn o) ?_;rintro _ _ ⟨m4,b4,rfl,rfl,i0,f0,b0⟩;refine ox 6 ?_;refine X.fzB (m:=l) ?_;refine Zq (rdH p la lc L m4 b4::blM a0 c0 l::q) func222 (Zf results222 rfl) ⟨_,rfl,a0,c0,l,m4,b4,rfl,rfl,by omega,f0,by rw [H8];refine e0.bnd ?_;rw [<-r];exact (j.over (fun z=>by have:=k z;omega) (by revert h1;cases b<;>simp;exact id)).bnd (b0.bnd .ret)⟩
theorem Zwp (hn:L.length<=65536): ∀ f,RdStmt G la lc L f/\Zv3 G la lc L f:=by
 intro f
 induction f using Nat.strongRecOn with
 |ind f ih=>
  cases f with
  |zero=>exact ⟨fun c a b=>by omega,fun c a b=>by omega⟩
  |succ f=>exact ⟨fun c a b=>Zwd (Zwi hn f).1 (ih f (Nat.lt_succ_self _)).2 c hn a b,fun c a b=>Zju (fun g d=>(ih g (by omega)).1) c hn a b⟩
theorem Ph {n:Int}{ba:Option Addr}(h:Kn q fun M=>BlkAt M ba bc body:=by first|exact Zkg|exact knA):Kn q fun M=>(Dec.mk k ln cl nm n body ba bc).At M:=h
theorem Bf {p:PE}(s:Dec)(h:Kn q fun M=>s.At M)(K:X P G fr Q todo p ds cs (dcM s::q)):X P G fr Q todo p ds cs q:= .le (dK h) K
theorem decl_ne: ∀ j,j<6->declL.getD (j+1) []≠ []:=by decide
theorem decl_ok (hL:Sees q la (L.flatMap tkC))(hn:L.length<=65536)(hnL:n<=L.length)(hT: ∀ t∈L,0<=t.n/\t.n<=2147483647)(hfu:10*(L.length - n)+13<=f+10):CallF prog G 154 [.pointer (some ⟨p,0,none⟩)] (rdH p la lc L n bad::q) (Ret fun v q'=> ∃ (d:Dec) (n':Nat) (bad':Bool),v= .agg (dcC d).toArray/\q'=rdH p la lc L n' bad'::dcM d::q/\(n<=n'/\(bad'=false->n<n'))/\n'<=L.length/\Out L bad (Hl f (L.drop n)) d.er n' bad'):=by
 refine aB func154 ntmps154 rfl fun F cs=> ?_;obtain ⟨K,hK⟩: ∃ K:Nat->Nat,K=fun j=>if bad=true then 0 else Kh declL (L.drop n) j:=⟨_,rfl⟩
 refine xo 2 ?_;refine Zh zeroValue305 fun n1=> ?_
 refine oo 4 ?_;refine Zv call216 leA (pos_ok (hL.le leA) hn) ?_;rintro _ _ ⟨rfl,rfl⟩;refine oo 1 ?_;refine Zh zeroValue305 fun n2=> ?_
 refine rn [0,3] ?_;refine bU (Yu (fun w:Bs=>Value.string (ba w)) declL underlying25 Wi rfl rfl rfl rfl rfl rfl (fun _=>rfl)) ?_;rintro _ _ ⟨gk,rfl,rfl⟩;refine ox 8 ?_;have i0:K 0=0:=by rw [hK];cases bad<;>rfl
 refine aX (cC (fun (s:Nat)=>s<=6) (fun s=> [(0,.pointer (some ⟨p,0,none⟩)),(2,pt n1),(3,pt n2),(4,.slice (some ⟨gk,0,none⟩) 7 7),(5,I64 ((s+1:Nat):Int))]) (fun s=>rdH p la lc L n bad::pto n2 (.cells (dcC (.mk (K s) (Zi (L.drop n)).1 (Zi (L.drop n)).2 em 0 [] none 0)).toArray 305 (0,0))::pto n1 (.cells zz2.toArray 305 (0,0))::lsH (fun w:Bs=>Value.string (ba w)) 9 (some ⟨gk,0,none⟩) 7 declL::(q++F)) (fun s=>6 - s) (fun s d0 ih=> ?_) 0 (by omega)) Zn (by rw [i0];exact leA);try dsimp only at d0 ih|-
 obtain hs:=d0;refine xx 8 ?_;refine xp 14 ?_ ?_<;>intro h0
 . have a0:s+1<declL.length:=by show s+1<7;omega
   refine xo 10 ?_;refine ld ?_ (hc:=(gP (n:=s+1) (bY _) Zj a0 rfl));refine bM call217 (Xi (n:=n) (bad:=bad) (s:=ba declL[s+1]) Vb (hL.le leA) hn) ?_;refine ox 1 ?_;refine xp 22 ?_ ?_<;>intro h1
   . refine rn [4,0,7] ?_;have f0:K (s+1)=s+1:=by rw [hK];dsimp only;rw [Qt,<-gD (d:= []) a0] at h1;rw [if_neg (by rw [h1.1];decide),Kh,if_pos ⟨decl_ne s (by omega),h1.2⟩]
     refine aX (ih (s+1) (by omega) (by omega)) Zn (by rw [f0];exact leA)
   refine xx 8 ?_;have f0:K (s+1)=K s:=by rw [hK];dsimp only;rw [Qt,<-gD (d:= []) a0] at h1;cases bad with|true=>rfl|false=>rw [if_neg (by decide),if_neg (by decide),Kh,if_neg (fun k=>by simp_all)]
   refine aX (ih (s+1) (by omega) (by omega)) Zn (by rw [f0];exact leA)
 obtain rfl:s=6:=by omega
 obtain ⟨k,u⟩: ∃ k,K 6=k:=⟨_,rfl⟩;rw [u];rw [hK] at u;dsimp only at u;clear ih hK i0 d0 h0;have m0:k<=6:=by rw [<-u];cases bad;exact Dx;exact bC _
 have k0:k≠0->bad=false/\dkS (L.drop n)=k/\n<L.length:=fun h=>by cases bad with|true=>exact aV u.symm h|false=>exact ⟨rfl,u,Cf (by rw [show Kh declL (L.drop n) 6=k from u];exact h)⟩
 have g0:k=0\/k=1\/k=6\/k=2\/k=5\/(k=3\/k=4):=by omega
 rcases g0 with rfl|rfl|rfl|rfl|rfl|g0
 . refine rn [6,0,2,2027,6,0,3,0,0,1] ?_;refine Bf (.mk ((0:Nat):Int) (Zi (L.drop n)).1 (Zi (L.drop n)).2 em 0 [] none 0) Ph ?_;refine Zq (rdH p la lc L n true::dcM (.mk ((0:Nat):Int) (Zi (L.drop n)).1 (Zi (L.drop n)).2 em 0 [] none 0)::q) func154 (rA_ results154) ⟨_,rfl,(.mk ((0:Nat):Int) (Zi (L.drop n)).1 (Zi (L.drop n)).2 em 0 [] none 0),n,true,rfl,rfl,⟨aU _,fun h=>by cases h⟩,hnL,.inr ⟨rfl,by cases bad with|true=>exact .inl rfl|false=>exact .inr (by rw [Hl,if_pos (show dkS (L.drop n)=0 from u)])⟩⟩
 iterate 5
  focus
   obtain ⟨rfl,l,o0⟩:=k0 (by omega);refine rn [6,0,2,1027,7,0,3,0,4] ?_;refine Zv call218 leA (Ht (n:=(n+1)) (hL.le leA) hn (by omega)) ?_;rintro _ _ ⟨nm,m2,b2,rfl,rfl,⟨n0,_⟩,r,i⟩;refine rn [1,0,5,0,7] ?_
  rotate_left
 . refine rn [2044,4] ?_;refine Zv call219 leA (Y4 (w:= [61]) (n:=m2) (hL.le leA) hn r) ?_;rintro _ _ ⟨e,b3,rfl,rfl,o,b,a⟩;refine oo 4 ?_;refine Zv call220 leA (Qv (w:= [45]) (n:=e) (hL.le leA) hn) ?_;rintro _ _ (⟨rfl,⟨hb,hw,l0⟩,rfl⟩|⟨rfl,hw,rfl⟩)
   . subst hb;refine oo 5 ?_;refine Zv call221 leA (Mg (n:=(e+1)) (hL.le leA) hn (by omega)) ?_;rintro _ _ ⟨z,m,b4,rfl,rfl,⟨c0,y⟩,g,c⟩;have x:0<=z/\z<=2147483647:=by rcases y with rfl|⟨t,ht,rfl⟩;omega;exact hT t ht
     refine rn [1,0,8,0,2,0,5] ?_;refine Zv call219 leA (Y4 (w:= [59]) (n:=m) (hL.le leA) hn g) ?_;rintro _ _ ⟨m5,b5,rfl,rfl,j0,e0,b0⟩;refine rn [3,0,0,1] ?_;try rw [show IntKind.i64.wrap (0 - z)= -z from by rw [Qk (by omega) (by omega)];omega]
     refine Bf (.mk (1:Nat) (Zi (L.drop n)).1 (Zi (L.drop n)).2 nm (-z) [] none 0) Ph ?_;refine Zq (rdH p la lc L m5 b5::dcM (.mk (1:Nat) (Zi (L.drop n)).1 (Zi (L.drop n)).2 nm (-z) [] none 0)::q) func154 (rA_ results154) ⟨_,rfl,(.mk (1:Nat) (Zi (L.drop n)).1 (Zi (L.drop n)).2 nm (-z) [] none 0),m5,b5,rfl,rfl,⟨by omega,fun _=>by omega⟩,e0,by rw [Hl,l,if_neg (by omega),tail_drop];refine i.bnd ?_;rw [if_neg (by decide)];exact (show Out L b2 (G5 1 (L.drop m2)) (-z) m b4 from a.bnd (by rw [if_pos hw,tail_drop];exact c.bnd .ret)).bnd (b0.bnd .ret)⟩
   refine oo 5 ?_;refine Zv call221 leA (Mg (n:=e) (hL.le leA) hn b) ?_;rintro _ _ ⟨z,m,b4,rfl,rfl,⟨c0,y⟩,g,c⟩;have x:0<=z/\z<=2147483647:=by rcases y with rfl|⟨t,ht,rfl⟩;omega;exact hT t ht
   refine rn [1,0,11] ?_;refine Zv call219 leA (Y4 (w:= [59]) (n:=m) (hL.le leA) hn g) ?_;rintro _ _ ⟨m5,b5,rfl,rfl,j0,e0,b0⟩;refine rn [3,0,0,1] ?_;refine Bf (.mk (1:Nat) (Zi (L.drop n)).1 (Zi (L.drop n)).2 nm z [] none 0) Ph ?_;refine Zq (rdH p la lc L m5 b5::dcM (.mk (1:Nat) (Zi (L.drop n)).1 (Zi (L.drop n)).2 nm z [] none 0)::q) func154 (rA_ results154) ⟨_,rfl,(.mk (1:Nat) (Zi (L.drop n)).1 (Zi (L.drop n)).2 nm z [] none 0),m5,b5,rfl,rfl,⟨by omega,fun _=>by omega⟩,e0,by rw [Hl,l,if_neg (by omega),tail_drop];refine i.bnd ?_;rw [if_neg (by decide)];exact (show Out L b2 (G5 1 (L.drop m2)) z m b4 from a.bnd (by cases b3 with|true=>have h:=c.isBad;subst h;exact .any|false=>rw [if_neg (by rw [hw.resolve_left (by decide)];decide)];exact c)).bnd (b0.bnd .ret)⟩
 . refine rn [1044,7,1058,5,1058,6,2064,4] ?_;refine Zv call222 leA ((Zwp hn f).2 (n:=m2) (hL.le leA) (by omega) (by omega)) ?_;rintro _ _ ⟨a1,c1,t1,e,b3,rfl,rfl,o,b,a⟩;refine rn [1,0,3,0,0,1] ?_;refine Bf (.mk (6:Nat) (Zi (L.drop n)).1 (Zi (L.drop n)).2 nm 0 t1 a1 c1) Ph ?_;refine Zq (rdH p la lc L e b3::dcM (.mk (6:Nat) (Zi (L.drop n)).1 (Zi (L.drop n)).2 nm 0 t1 a1 c1)::q) func154 (rA_ results154) ⟨_,rfl,(.mk (6:Nat) (Zi (L.drop n)).1 (Zi (L.drop n)).2 nm 0 t1 a1 c1),e,b3,rfl,rfl,⟨by omega,fun _=>by omega⟩,b,by rw [Hl,l,if_neg (by omega),tail_drop];refine i.bnd ?_;rw [if_pos (by decide)];exact a.bnd .ret⟩
 . refine rn [1044,7,2058,5] ?_;refine Zv call221 leA (Mg (n:=m2) (hL.le leA) hn r) ?_;rintro _ _ ⟨z,e,b3,rfl,rfl,⟨o,y⟩,b,a⟩;have x:0<=z/\z<=2147483647:=by rcases y with rfl|⟨t,ht,rfl⟩;omega;exact hT t ht
   refine rn [1,0,5] ?_;refine Zv call219 leA (Y4 (w:= [59]) (n:=e) (hL.le leA) hn b) ?_;rintro _ _ ⟨m,b4,rfl,rfl,c0,g,c⟩;refine rn [3,0,0,1] ?_;refine Bf (.mk (2:Nat) (Zi (L.drop n)).1 (Zi (L.drop n)).2 nm z [] none 0) Ph ?_;refine Zq (rdH p la lc L m b4::dcM (.mk (2:Nat) (Zi (L.drop n)).1 (Zi (L.drop n)).2 nm z [] none 0)::q) func154 (rA_ results154) ⟨_,rfl,(.mk (2:Nat) (Zi (L.drop n)).1 (Zi (L.drop n)).2 nm z [] none 0),m,b4,rfl,rfl,⟨by omega,fun _=>by omega⟩,g,by rw [Hl,l,if_neg (by omega),tail_drop];refine i.bnd ?_;rw [if_neg (by omega)];exact (show Out L b2 (G5 _ (L.drop m2)) z e b3 from by rw [G5,if_neg (by omega),if_pos (by omega)];exact a).bnd (c.bnd .ret)⟩
 . refine rn [1044,7,1058,5,2058,3] ?_;refine Zv call221 leA (Mg (n:=m2) (hL.le leA) hn r) ?_;rintro _ _ ⟨z,e,b3,rfl,rfl,⟨o,y⟩,b,a⟩;have x:0<=z/\z<=2147483647:=by rcases y with rfl|⟨t,ht,rfl⟩;omega;exact hT t ht
   refine rn [1,0,5] ?_;refine Zv call219 leA (Y4 (w:= [59]) (n:=e) (hL.le leA) hn b) ?_;rintro _ _ ⟨m,b4,rfl,rfl,c0,g,c⟩;refine rn [3,0,0,1] ?_;refine Bf (.mk (5:Nat) (Zi (L.drop n)).1 (Zi (L.drop n)).2 nm z [] none 0) Ph ?_;refine Zq (rdH p la lc L m b4::dcM (.mk (5:Nat) (Zi (L.drop n)).1 (Zi (L.drop n)).2 nm z [] none 0)::q) func154 (rA_ results154) ⟨_,rfl,(.mk (5:Nat) (Zi (L.drop n)).1 (Zi (L.drop n)).2 nm z [] none 0),m,b4,rfl,rfl,⟨by omega,fun _=>by omega⟩,g,by rw [Hl,l,if_neg (by omega),tail_drop];refine i.bnd ?_;rw [if_neg (by omega)];exact (show Out L b2 (G5 _ (L.drop m2)) z e b3 from by rw [G5,if_neg (by omega),if_pos (by omega)];exact a).bnd (c.bnd .ret)⟩
 refine rn [1044,7,1058,5,1058,6,1064,6] ?_;refine Zv call219 leA (Y4 (w:= [59]) (n:=m2) (hL.le leA) hn r) ?_;rintro _ _ ⟨e,b3,rfl,rfl,o,b,a⟩;refine rn [3,0,0,1] ?_;refine Bf (.mk k (Zi (L.drop n)).1 (Zi (L.drop n)).2 nm 0 [] none 0) Ph ?_;refine Zq (rdH p la lc L e b3::dcM (.mk k (Zi (L.drop n)).1 (Zi (L.drop n)).2 nm 0 [] none 0)::q) func154 (rA_ results154) ⟨_,rfl,(.mk k (Zi (L.drop n)).1 (Zi (L.drop n)).2 nm 0 [] none 0),e,b3,rfl,rfl,⟨by omega,fun _=>by omega⟩,b,by rw [Hl,l,if_neg (by omega),tail_drop];refine i.bnd ?_;rw [if_neg (by omega)];exact (show Out L b2 (G5 k (L.drop m2)) 0 m2 b2 from by rw [G5,if_neg (by omega),if_neg (by omega)];exact .ret).bnd (a.bnd .ret)⟩
theorem Oq (a b:List PEx):Ym (a++b)=max (Ym a) (Ym b):=by
 induction a with
 |nil=>simp [Ym]
 |cons x r ih=>simp only [bO,Ym,ih];omega
theorem Ds {x:PEx}: ∀ {l:List PEx},x∈l->x.dep<=Ym l
 |y::r,h=>by
  rcases bG.1 h with rfl|h
  . simp only [Ym];omega
  have:=Ds h;simp only [Ym];omega
theorem Pr (l m:List Ex):Z5 (l++m)=Z5 l++Z5 m:=by simp [Y3]
section
variable {args:List Ex}{n:Int}{aa ba:Option Addr}{ac:Nat}{op:Int}
theorem Zkv (h:Kn q fun M=>(Ex.mk k n nm slot loc op args aa ac).At M):Sees q aa (args.flatMap exC):=eR (h.imp fun M h=>h.1.2.2)
theorem Zkk (h:Kn q fun M=>(Ex.mk k n nm slot loc op args aa ac).At M)(hi:i<args.length):Kn q fun M=>args[i].At M:=h.imp fun M h=>Vr.1 h.2 _ (aC hi)
theorem Zkj (h:Kn q fun M=>(Ex.mk k n nm slot loc op args aa ac).At M)(s:St G w q):args.length<=9223372036854775807:=h.fact (fun M h=>by have b:=h.1.1;have a:=h.1.2.1;simp [maxLen] at a;omega) s
theorem Zkq (h:Kn q fun M=>(Stm.mk k ln cl nm wt e ix body els ba bc ea ec id slot other loc).At M):Kn q fun M=>e.At M:=h.imp fun _ h=>h.1
theorem Zj8 (h:Kn q fun M=>(Stm.mk k ln cl nm wt e ix body els ba bc ea ec id slot other loc).At M):Kn q fun M=>ix.At M:=h.imp fun _ h=>h.2.1
theorem Zkz (h:Kn q fun M=>(Stm.mk k ln cl nm wt e ix body els ba bc ea ec id slot other loc).At M):Kn q fun M=>BlkAt M ba bc body:=h.imp fun _ h=>h.2.2.1
theorem Zj9 (h:Kn q fun M=>(Stm.mk k ln cl nm wt e ix body els ba bc ea ec id slot other loc).At M):Kn q fun M=>BlkAt M ea ec els:=h.imp fun _ h=>h.2.2.2
theorem Zkf (h:Kn q fun M=>BlkAt M ba bc body):Sees q ba (body.flatMap stC):=eR (h.imp fun M h=>h.1.2.2)
theorem Zkb (h:Kn q fun M=>BlkAt M ba bc body)(hi:i<body.length):Kn q fun M=>body[i].At M:=h.imp fun M h=>Vd.1 h.2 _ (aC hi)
theorem Zky (h:Kn q fun M=>BlkAt M ba bc body)(s:St G w q):body.length<=9223372036854775807:=h.fact (fun M h=>by have b:=h.1.1;have a:=h.1.2.1;simp [maxLen] at a;omega) s
end
theorem Zjx (IH: ∀ x:Ex,x.sz<e.sz->x.er.dep<=1000000-> ∀ {q:List HP},(Kn q fun M=>x.At M)->CallF prog G 224 [.agg (exC x).toArray] q (Ret fun v q'=>v= I64 (x.er.dep:Nat)/\q'=q))(hb:e.er.dep<=1000000)(h:Kn q fun M=>e.At M):CallF prog G 224 [.agg (exC e).toArray] (q) (Ret fun v q'=>v= I64 (e.er.dep:Nat)/\q'=q):=by
 refine aB func224 ntmps224 rfl fun F cs=> ?_;obtain ⟨k,z,nm,i,lo,op,args,aa,ac⟩:=e;have g:=Zkv h;have b:=Zx (f:=exC) (sz:=7) Yk args;refine jW (fun w s=>Zkj (h.le leA) s) fun j=> ?_;replace hb:Ym (Z5 args)+1<=1000000:=hb;refine xo 2 ?_;refine Zl fun n1=> ?_
 refine ox 12 ?_;refine aX (cC (fun (s:Nat)=>s<=args.length) (fun s=> [(3,I64 (Ym (Z5 (args.take s)):Nat)),(4,I64 s),(1,pt n1),(2,I64 0)]) (fun s=>pto n1 (.cells (exC (.mk k z nm i lo op args aa ac)).toArray 136 (0,0))::(q++F)) (fun s=>args.length - s) (fun s c d=> ?_) 0 (bC _)) Zn leA;try dsimp only at c d|-
 obtain m:=c;refine rn [5,0,3] ?_;refine xp 9 ?_ ?_<;>intro p
 . have a:s<args.length:=by omega
   refine rn [7,0,1] ?_;refine Ql g (by rw [b];omega) fun b1 o1 l=> ?_;subst l;refine oo 1 ?_;refine Qi (n:=s) isAgg136 sizeOf136 g a ?_ (hf:=Yk);refine bM call224 (IH args[s] (by have:=Y7 (aC a);simp only [Ex.sz];omega) (by have:=Ds (aZ (f:=Ex.er) (aC a));rw [<-Y3] at this;omega) (Zkk (h.le leA) a)) ?_;refine ox 9 ?_;have o:(Ym (Z5 (args.take (s+1))):Int)=max (Ym (Z5 (args.take s)):Int) (args[s].er.dep:Int):=by rw [aN a,Pr,Oq];simp only [Z5,Ym];omega
   refine aX (d (s+1) (by omega) (by omega)) Zn leA
 obtain rfl:s=args.length:=by omega
 rw [bV] at*;refine xx 8 ?_;refine Zq (q) func224 (Zf results224 rfl) ⟨_,rfl,by simp only [Ex.er,PEx.dep];congr 1,rfl⟩
theorem Ce: ∀ (k:Nat) (e:Ex),e.sz<=k->e.er.dep<=1000000-> ∀ {q:List HP},(Kn q fun M=>e.At M)->CallF prog G 224 [.agg (exC e).toArray] q (Ret fun v q'=>v= I64 (e.er.dep:Nat)/\q'=q)
 |0,e,hk,_,_,_=>by cases e;simp [Ex.sz] at hk
 |k+1,e,hk,hb,_,h=>Zjx (fun x c a _ b=>Ce k x (by omega) a b) hb h
mutual
def PStm.bdd (B:Nat):PStm->Prop
 | .mk _ _ _ _ _ e ix body els _ _ _ _=>e.dep<=B/\ix.dep<=B/\Wr B body/\Wr B els
def Wr (B:Nat):List PStm->Prop
 | []=>True
 |s::r=>s.bdd B/\Wr B r
end
theorem Re {B:Nat}{x:PStm}: ∀ {l:List PStm},Wr B l->x∈l->x.bdd B
 |y::r,⟨h1,h2⟩,h=>by
  rcases bG.1 h with rfl|h
  . exact h1
  exact Re h2 h
abbrev Ai :=((.cells zz5.toArray 104 (0,0)):Obj)
abbrev Ah (v0:List Stm)(v1:Nat)(v2:List HP):=(Ret fun v q'=> ∃ pl pc:Int,v= .tuple [.agg [I64 pl,I64 pc].toArray,.bool (Y2 (Zk v0) v1)].toArray/\q'=v2)
abbrev B7 (v0:Option Addr)(v1:List Stm)(v2:Nat)(v3:Nat):=([.slice v0 v1.length v2,I64 v3]:List Value)
theorem Zyh (IH: ∀ (m:List Stm) (a:Option Addr) (c n:Nat),Zu m<Zu l->Wr 1000000 (Zk m)->n<=25-> ∀ {q:List HP},(Kn q fun M=>BlkAt M a c m)->CallF prog G 156 (B7 a m c n) q (Ah m n q))(hb:Wr 1000000 (Zk l))(hn25:n<=25)(h:Kn q fun M=>BlkAt M a c l):CallF prog G 156 (B7 a l c n) (q) (Ah l n q):=by
 refine aB func156 ntmps156 rfl fun F cs=> ?_;have hA:=Zkf h;have t:=Zx (f:=stC) (sz:=25) Z2 l;refine jW (fun w s=>Zky (h.le leA) s) fun n0=> ?_;refine xo 2 ?_;refine Zh zeroValue104 fun n1=> ?_
 refine ox 8 ?_;refine aX (cC (fun (s:Nat×Option Addr)=>s.1<=l.length/\s.2=a/\Y2 (Zk l) n=Y2 (Zk (l.drop s.1)) n) (fun s=> [(6,I64 (s.1:Int)),(0,.slice s.2 l.length c),(1,I64 n),(4,pt n1),(5,.bool false)]) (fun s=>pto n1 Ai::(q++F)) (fun s=>l.length - s.1) (fun s u ih=> ?_) (0,a) ⟨bC _,rfl,rfl⟩) Zn leA;try dsimp only at u ih|-
 obtain ⟨hs,ha,y⟩:=u;obtain ⟨s,a2⟩:=s;dsimp only at*;subst ha;refine xx 8 ?_;refine xp 13 ?_ ?_<;>intro h0
 . have d:s<l.length:=by omega
   have e:Y2 (Zk (l.drop s)) n=(l[s].er.deep n||Y2 (Zk (l.drop (s+1))) n):=by rw [aP d];rfl
   have b:=Zkb h d;have p:=Re hb (by rw [Yh];exact aZ (aC d));have o:=Uy (aC d);refine xo 8 ?_;refine Ql hA (by rw [t];omega) fun b1 o1 e1=> ?_;subst e1;refine oo 1 ?_;refine Qi (n:=s) isAgg138 sizeOf138 hA d ?_ (hf:=Z2);obtain ⟨x,hx⟩: ∃ x,l[s]=x:=⟨_,rfl⟩;rw [hx] at e b p o;refine aW 19 (.agg (stC x).toArray) rfl (by rw [hx]) ?_;obtain ⟨k,ln,cl,nm,wt,⟨k1,z1,s1,l1,o1,p1,y1,u1,w1⟩,⟨k2,z2,s2,l2,o2,p2,y2,u2,w2⟩,body,els,ba,bc,ea,ec,id,slot,other,loc⟩:=x;obtain ⟨m0,l0,k0,j0⟩:=p;have i0:=Zkq b;have g0:=Zj8 b;have f0:=Zkz b;have e0:=Zj9 b;have hz:Zu body+Zu els+1<=Zu l:=o;refine Zh zeroValue138 fun n2=> ?_
   refine rn [0,7] ?_;refine bB [22,7,6,0,1,4,5] ?_;apply Zb 5 27 22 rfl
   . intro i j;have z:=sp i;refine rn [1,0] ?_;refine bM call224 (Ce _ (.mk k1 z1 s1 l1 o1 p1 y1 u1 w1) (aU _) m0 (i0.le leA)) ?_;refine oo 2 ?_;exact Zz j ⟨orF i,Zw⟩
   . intro i j;have z:=sp i;refine oo 5 ?_;exact Zz j ⟨orT i,Zw⟩
   refine oo 1 ?_;refine bB [28,7,6,0,1,4,5] ?_;apply Zb 5 33 28 rfl
   . intro i j;have z:=sp i;refine rn [1,0] ?_;refine bM call224 (Ce _ (.mk k2 z2 s2 l2 o2 p2 y2 u2 w2) (aU _) l0 (g0.le leA)) ?_;refine oo 2 ?_;exact Zz j ⟨orF i,Zw⟩
   . intro i j;have z:=sp i;refine oo 5 ?_;exact Zz j ⟨orT i,Zw⟩
   refine ox 1 ?_;refine xp 33 ?_ ?_<;>intro z
   . refine rn [4,0,0,2] ?_
     have v:Y2 (Zk l) n=true:=by
      rw [y,e];have g:(24<n\/24<(Ex.mk k1 z1 s1 l1 o1 p1 y1 u1 w1).er.dep)\/24<(Ex.mk k2 z2 s2 l2 o2 p2 y2 u2 w2).er.dep:=by omega
      rcases g with (h|h)|h<;>simp [Stm.er,PStm.deep,h]
     refine Zq (q) func156 (N3 results156) ⟨_,rfl,ln,cl,by rw [v];rfl,rfl⟩
   refine rn [5,0,2] ?_;have r:n+1<=25:=by omega
   refine Zv call156 (aH _) (IH body ba bc (n+1) (by omega) k0 r (f0.le leA)) ?_;rintro _ _ ⟨b0,d0,rfl,rfl⟩;refine oo 3 ?_;refine Zh zeroValue104 fun n3=> ?_
   refine rn [0,7] ?_;refine xp 44 ?_ ?_<;>intro h2
   . refine rn [3,0,0,2] ?_
     have v:Y2 (Zk l) n=true:=by
      rw [y,e];simp [Stm.er,PStm.deep,h2]
     refine Zq (q) func156 (N3 results156) ⟨_,rfl,b0,d0,by rw [v];rfl,rfl⟩
   refine rn [5,0,2] ?_;refine Zv call156 (aH _) (IH els ea ec (n+1) (by omega) j0 r (e0.le leA)) ?_;rintro _ _ ⟨a0,c0,rfl,rfl⟩;refine rn [3,0,6] ?_;refine xp 54 ?_ ?_<;>intro h3
   . refine rn [3,0,0,2] ?_
     have v:Y2 (Zk l) n=true:=by
      rw [y,e];simp [Stm.er,PStm.deep,h3]
     refine Zq (q) func156 (N3 results156) ⟨_,rfl,a0,c0,by rw [v];rfl,rfl⟩
   refine xx 8 ?_;have g: ¬24<n/\ ¬24<(Ex.mk k1 z1 s1 l1 o1 p1 y1 u1 w1).er.dep/\ ¬24<(Ex.mk k2 z2 s2 l2 o2 p2 y2 u2 w2).er.dep:=by omega
   refine aX (ih (s+1,_) ⟨by dsimp only;omega,rfl,by rw [y,e];simp [Stm.er,PStm.deep,g.1,g.2.1,g.2.2,h2,h3]⟩ (by dsimp only;omega)) Zn leA
 obtain rfl:s=l.length:=by omega
 rw [dP] at*;refine rn [5,0,2] ?_;refine Zq (q) func156 (N3 results156) ⟨_,rfl,0,0,by rw [y];rfl,rfl⟩
theorem Zwk: ∀ (k:Nat) (m:List Stm) (a:Option Addr) (c n:Nat),Zu m<=k->Wr 1000000 (Zk m)->n<=25-> ∀ {q:List HP},(Kn q fun M=>BlkAt M a c m)->CallF prog G 156 (B7 a m c n) q (Ah m n q)
 |k,m,a,c,n,hk,hb,hn,_,h=>Zyh (fun m2 a2 f n2 g d b _ e=>by
  cases k with
  |zero=>omega
  |succ k=>exact Zwk k m2 a2 f n2 (by omega) d b e) hb hn h
end Go.Proofs.YtadahhbefdnabaaGreatDoor
