/- Contracts. -/
import Derived.Test.YtflkjkhijcdbaaaGreatNb
import Derived.Test.YtflkjkhijcdbaaaGreatRows
import Derived.KernelRfl
set_option maxHeartbeats 16000000
set_option maxRecDepth 100000
set_option linter.all false
namespace Go.Proofs.YtflkjkhijcdbaaaGreat
open Go Go.RowKit Wx Go.Proofs.Tryz
variable {G:World}{Q:Yn}{k k1 k2:List Item}{p p1 p2:PE}{c n o a0 t0 b0 o0 z0 a1 t1 b1 o1 z1 a2 n1 n2 m i s:Nat}{ds:List Deferred}{cs:List Frame}{q C F M q0:List HP}{ops o2 r2:List Oper}{l0 l1:List Value}{d1:Tmp}{ps1:String}{af1:Array Edge}{gd1:Option (Nat×Bool)}{x1:Operand}{A A1:Addr}{v1 v2 V:Value}{b nm:ByteArray}{fz f0 f1:Nat×Nat}{fd:Func}{c1:List Prop}{B:Value->List HP->Prop}{a:Option Addr}{M':Hp}{slot op:Int}{loc:Bool}
def tbl:Tr:=(.n none (.n none (.n (some (.mk (.int .i64) false 1 none)) (.n none (.n none (.n none (.n none .e (.n (some (.mk (.strct [(189,0)]) true 1 none)) .e .e)) (.n (some (.mk .ptr false 1 none)) .e .e)) (.n (some (.mk (.strct [(3,0),(3,1),(4,2),(39,3),(44,4),(4,5),(2,6),(2,7),(45,8)]) true 9 (some ([(0,1),(1,1),(2,1),(3,1),(4,1),(5,1),(6,1),(7,1),(8,1)], [.int .i64 0,.int .i64 0,.bool false,.int .i64 0,.slice none 0 0,.bool false,.int .i64 0,.int .i64 0,.slice none 0 0])))) .e .e)) (.n (some (.mk (.slc 2) false 1 none)) (.n (some (.mk (.int .i64) false 1 none)) (.n none .e (.n (some (.mk (.strct [(39,0)]) true 1 (some ([(0,1)], [.int .i64 0])))) .e .e)) .e) (.n (some (.mk (.strct [(9,0),(3,1),(53,2)]) true 3 (some ([(0,1),(1,1),(2,1)], [.string ⟨#[]⟩,.int .i64 0,.slice none 0 0])))) .e (.n (some (.mk (.int .i64) false 1 none)) .e .e)))) (.n none (.n none (.n none (.n (some (.mk (.slc 23) false 1 none)) .e .e) (.n (some (.mk (.int .i64) false 1 none)) .e (.n (some (.mk (.int .i64) false 1 none)) .e .e))) .e) (.n (some (.mk (.strct [(25,0),(25,1),(25,2),(25,3),(25,4)]) true 5 (some ([(0,1),(1,1),(2,1),(3,1),(4,1)], [.slice none 0 0,.slice none 0 0,.slice none 0 0,.slice none 0 0,.slice none 0 0])))) (.n none .e (.n (some (.mk (.strct [(3,0),(3,1)]) true 2 (some ([(0,1),(1,1)], [.int .i64 0,.int .i64 0])))) .e .e)) .e))) (.n (some (.mk (.int .u8) false 1 none)) (.n (some (.mk .str false 1 none)) (.n none (.n (some (.mk .ptr false 1 none)) .e (.n none (.n (some (.mk (.slc 229) false 1 none)) .e .e) .e)) (.n none (.n none (.n (some (.mk (.strct [(98,0),(3,8),(47,9)]) true 18 (some ([(0,8),(8,1),(9,9)], [.pointer none,.slice none 0 0,.pointer none,.slice none 0 0,.int .i64 0,.int .i64 0,.int .i64 0,.int .i64 0,.int .i64 0,.int .i64 0,.int .i64 0,.bool false,.int .i64 0,.slice none 0 0,.bool false,.int .i64 0,.int .i64 0,.slice none 0 0])))) .e .e) .e) (.n none (.n none (.n (some (.mk .other false 1 none)) .e .e) .e) (.n (some (.mk (.slc 53) false 1 none)) .e .e)))) (.n (some (.mk (.slc 9) false 1 none)) (.n (some (.mk (.strct [(38,0),(39,1),(3,2),(3,3)]) true 4 (some ([(0,1),(1,1),(2,1),(3,1)], [.int .i64 0,.int .i64 0,.int .i64 0,.int .i64 0])))) .e .e) (.n (some (.mk (.slc 5) false 1 none)) .e (.n (some (.mk (.int .i64) false 1 none)) .e .e)))) (.n none (.n (some (.mk (.int .i32) false 1 none)) (.n (some (.mk (.slc 47) false 1 none)) .e (.n (some (.mk (.strct [(3,0),(99,1),(23,2),(3,3),(22,4)]) true 5 (some ([(0,1),(1,1),(2,1),(3,1),(4,1)], [.int .i64 0,.int .i64 0,.slice none 0 0,.int .i64 0,.slice none 0 0])))) .e (.n (some (.mk (.strct [(227,0),(107,1),(9,3),(2,4),(53,5)]) true 6 (some ([(0,1),(1,2),(3,1),(4,1),(5,1)], [.int .i64 0,.int .i64 0,.int .i64 0,.string ⟨#[]⟩,.int .i64 0,.slice none 0 0])))) .e .e))) (.n (some (.mk (.slc 126) false 1 none)) (.n (some (.mk .other true 4 none)) .e .e) (.n none (.n none (.n (some (.mk (.strct []) true 0 (some ([], [])))) .e .e) .e) (.n (some (.mk (.strct [(9,0),(3,1),(3,2)]) true 3 (some ([(0,1),(1,1),(2,1)], [.string ⟨#[]⟩,.int .i64 0,.int .i64 0])))) .e .e)))) (.n (some (.mk (.strct [(23,0),(22,1),(3,2),(3,3),(22,4),(24,5),(3,6),(3,7),(27,8)]) true 13 (some ([(0,1),(1,1),(2,1),(3,1),(4,1),(5,1),(6,1),(7,1),(8,5)], [.slice none 0 0,.slice none 0 0,.int .i64 0,.int .i64 0,.slice none 0 0,.slice none 0 0,.int .i64 0,.int .i64 0,.slice none 0 0,.slice none 0 0,.slice none 0 0,.slice none 0 0,.slice none 0 0])))) (.n (some (.mk (.slc 50) false 1 none)) .e (.n none (.n (some (.mk (.slc 191) false 1 none)) .e .e) .e)) (.n none (.n none .e (.n (some (.mk (.slc 234) false 1 none)) .e .e)) (.n none (.n (some (.mk (.strct [(22,0)]) true 1 none)) .e .e) .e)))))) (.n (some (.mk (.int .i64) false 1 none)) (.n (some (.mk .bool false 1 none)) (.n none (.n none (.n none .e (.n (some (.mk (.slc 116) false 1 none)) .e .e)) (.n (some (.mk (.int .i64) false 1 none)) (.n none .e (.n (some (.mk (.strct [(2,0),(3,1),(44,2)]) true 3 (some ([(0,1),(1,1),(2,1)], [.int .i64 0,.int .i64 0,.slice none 0 0])))) .e .e)) (.n none (.n (some (.mk (.strct [(4,0),(22,1),(173,2),(174,3)]) true 4 (some ([(0,1),(1,1),(2,1),(3,1)], [.bool false,.slice none 0 0,.slice none 0 0,.slice none 0 0])))) .e .e) (.n (some (.mk (.strct [(29,0),(238,13),(2,14),(3,15),(3,16),(107,17),(3,19)]) true 20 (some ([(0,13),(13,1),(14,1),(15,1),(16,1),(17,2),(19,1)], [.slice none 0 0,.slice none 0 0,.int .i64 0,.int .i64 0,.slice none 0 0,.slice none 0 0,.int .i64 0,.int .i64 0,.slice none 0 0,.slice none 0 0,.slice none 0 0,.slice none 0 0,.slice none 0 0,.slice none 0 0,.int .i64 0,.int .i64 0,.int .i64 0,.int .i64 0,.int .i64 0,.int .i64 0])))) .e .e)))) (.n (some (.mk (.slc 55) false 1 none)) (.n none .e (.n none (.n (some (.mk (.strct [(94,0),(3,1),(3,2)]) true 3 (some ([(0,1),(1,1),(2,1)], [.pointer none,.int .i64 0,.int .i64 0])))) .e .e) (.n (some (.mk (.int .i64) false 1 none)) .e .e))) (.n none .e (.n (some (.mk (.int .i64) false 1 none)) .e .e)))) (.n none (.n none (.n none (.n (some (.mk (.slc 142) false 1 none)) .e .e) .e) (.n none .e (.n (some (.mk (.strct [(3,0),(99,1),(23,2),(114,3),(22,4)]) true 5 (some ([(0,1),(1,1),(2,1),(3,1),(4,1)], [.int .i64 0,.int .i64 0,.slice none 0 0,.slice none 0 0,.slice none 0 0])))) (.n (some (.mk (.strct [(178,0),(3,1),(3,2)]) true 3 (some ([(0,1),(1,1),(2,1)], [.slice none 0 0,.int .i64 0,.int .i64 0])))) (.n (some (.mk (.strct [(305,0),(306,1)]) true 2 (some ([(0,1),(1,1)], [.map none,.map none])))) .e .e) .e) .e))) (.n none (.n (some (.mk (.slc 140) false 1 none)) (.n none (.n (some (.mk (.strct [(3,0),(4,1),(2,2)]) true 3 (some ([(0,1),(1,1),(2,1)], [.int .i64 0,.bool false,.int .i64 0])))) .e .e) .e) .e) (.n none .e (.n (some (.mk (.strct [(120,0),(2,1),(9,2),(3,3),(4,4),(121,5),(122,6)]) true 7 (some ([(0,1),(1,1),(2,1),(3,1),(4,1),(5,1),(6,1)], [.int .i64 0,.int .i64 0,.string ⟨#[]⟩,.int .i64 0,.bool false,.int .i64 0,.slice none 0 0])))) .e .e))))) (.n none (.n none (.n none (.n (some (.mk (.int .i64) false 1 none)) (.n (some (.mk (.slc 22) false 1 none)) .e .e) (.n (some (.mk (.strct [(94,0),(23,1),(95,2),(96,3),(41,4)]) true 8 (some ([(0,1),(1,1),(2,1),(3,1),(4,4)], [.pointer none,.slice none 0 0,.pointer none,.slice none 0 0,.int .i64 0,.int .i64 0,.int .i64 0,.int .i64 0])))) .e (.n (some (.mk (.strct [(221,0),(3,1),(4,2)]) true 3 (some ([(0,1),(1,1),(2,1)], [.slice none 0 0,.int .i64 0,.bool false])))) .e .e))) (.n (some (.mk (.strct [(48,0),(3,1),(3,2)]) true 3 (some ([(0,1),(1,1),(2,1)], [.int .i64 0,.int .i64 0,.int .i64 0])))) (.n none (.n (some (.mk .ptr false 1 none)) .e .e) .e) (.n (some (.mk (.slc 146) false 1 none)) (.n (some (.mk (.strct [(23,0)]) true 1 none)) (.n (some (.mk .other false 1 none)) .e .e) .e) .e))) (.n none (.n none .e (.n none .e (.n (some (.mk (.strct [(232,0),(9,1),(2,2),(107,3)]) true 5 (some ([(0,1),(1,1),(2,1),(3,2)], [.int .i64 0,.string ⟨#[]⟩,.int .i64 0,.int .i64 0,.int .i64 0])))) .e .e))) (.n (some (.mk .other true 2 none)) .e (.n (some (.mk (.slc 124) false 1 none)) .e .e)))) (.n none (.n (some (.mk (.slc 3) false 1 none)) (.n (some (.mk (.int .i64) false 1 none)) (.n (some (.mk (.strct [(29,0),(23,13),(22,14),(66,15),(67,16),(22,17),(68,18),(41,19)]) true 23 (some ([(0,13),(13,1),(14,1),(15,1),(16,1),(17,1),(18,1),(19,4)], [.slice none 0 0,.slice none 0 0,.int .i64 0,.int .i64 0,.slice none 0 0,.slice none 0 0,.int .i64 0,.int .i64 0,.slice none 0 0,.slice none 0 0,.slice none 0 0,.slice none 0 0,.slice none 0 0,.slice none 0 0,.slice none 0 0,.slice none 0 0,.slice none 0 0,.slice none 0 0,.slice none 0 0,.int .i64 0,.int .i64 0,.int .i64 0,.int .i64 0])))) .e .e) .e) .e) (.n none (.n none (.n none (.n (some (.mk (.strct [(3,0),(3,1),(23,2),(53,3),(22,4)]) true 5 (some ([(0,1),(1,1),(2,1),(3,1),(4,1)], [.int .i64 0,.int .i64 0,.slice none 0 0,.slice none 0 0,.slice none 0 0])))) .e .e) .e) (.n none (.n (some (.mk (.slc 180) false 1 none)) .e .e) (.n (some (.mk (.slc 245) false 1 none)) .e .e))) (.n none (.n (some (.mk .ptr false 1 none)) .e .e) (.n (some (.mk (.strct [(119,0),(107,1),(9,3),(9,4),(124,5),(124,12),(53,19),(53,20),(3,21),(3,22),(3,23),(4,24)]) true 25 (some ([(0,1),(1,2),(3,1),(4,1),(5,7),(12,7),(19,1),(20,1),(21,1),(22,1),(23,1),(24,1)], [.int .i64 0,.int .i64 0,.int .i64 0,.string ⟨#[]⟩,.string ⟨#[]⟩,.int .i64 0,.int .i64 0,.string ⟨#[]⟩,.int .i64 0,.bool false,.int .i64 0,.slice none 0 0,.int .i64 0,.int .i64 0,.string ⟨#[]⟩,.int .i64 0,.bool false,.int .i64 0,.slice none 0 0,.slice none 0 0,.slice none 0 0,.int .i64 0,.int .i64 0,.int .i64 0,.bool false])))) .e .e)))))))
theorem Vi:tbl.ok prog id:=⟨trivial,⟨trivial,⟨⟨underlying3,isAgg3,sizeOf3,trivial⟩,⟨trivial,⟨trivial,⟨trivial,⟨trivial,trivial,⟨⟨⟨_,underlying191,rfl⟩,isAgg191,sizeOf191,trivial⟩,trivial,trivial⟩⟩,⟨⟨⟨_,underlying95⟩,isAgg95,sizeOf95,trivial⟩,trivial,trivial⟩⟩,⟨⟨⟨_,underlying47,rfl⟩,isAgg47,sizeOf47,⟨zeroValue47,_,underlying47,by kernel_rfl⟩⟩,trivial,trivial⟩⟩,⟨⟨underlying23,isAgg23,sizeOf23,trivial⟩,⟨⟨underlying39,isAgg39,sizeOf39,trivial⟩,⟨trivial,trivial,⟨⟨⟨_,underlying199,rfl⟩,isAgg199,sizeOf199,⟨zeroValue199,_,underlying199,by kernel_rfl⟩⟩,trivial,trivial⟩⟩,trivial⟩,⟨⟨⟨_,underlying55,rfl⟩,isAgg55,sizeOf55,⟨zeroValue55,_,underlying55,by kernel_rfl⟩⟩,trivial,⟨⟨underlying119,isAgg119,sizeOf119,trivial⟩,trivial,trivial⟩⟩⟩⟩,⟨trivial,⟨trivial,⟨trivial,⟨⟨underlying67,isAgg67,sizeOf67,trivial⟩,trivial,trivial⟩,⟨⟨underlying99,isAgg99,sizeOf99,trivial⟩,trivial,⟨⟨underlying227,isAgg227,sizeOf227,trivial⟩,trivial,trivial⟩⟩⟩,trivial⟩,⟨⟨⟨_,underlying27,rfl⟩,isAgg27,sizeOf27,⟨zeroValue27,_,underlying27,by kernel_rfl⟩⟩,⟨trivial,trivial,⟨⟨⟨_,underlying107,rfl⟩,isAgg107,sizeOf107,⟨zeroValue107,_,underlying107,by kernel_rfl⟩⟩,trivial,trivial⟩⟩,trivial⟩⟩⟩,⟨⟨underlying5,isAgg5,sizeOf5,trivial⟩,⟨⟨underlying9,isAgg9,sizeOf9,trivial⟩,⟨trivial,⟨⟨⟨_,underlying33⟩,isAgg33,sizeOf33,trivial⟩,trivial,⟨trivial,⟨⟨underlying161,isAgg161,sizeOf161,trivial⟩,trivial,trivial⟩,trivial⟩⟩,⟨trivial,⟨trivial,⟨⟨⟨_,underlying145,rfl⟩,isAgg145,sizeOf145,⟨zeroValue145,_,underlying145,by kernel_rfl⟩⟩,trivial,trivial⟩,trivial⟩,⟨trivial,⟨trivial,⟨⟨⟨_,underlying305,rfl⟩,isAgg305,sizeOf305,trivial⟩,trivial,trivial⟩,trivial⟩,⟨⟨underlying241,isAgg241,sizeOf241,trivial⟩,trivial,trivial⟩⟩⟩⟩,⟨⟨underlying25,isAgg25,sizeOf25,trivial⟩,⟨⟨⟨_,underlying41,rfl⟩,isAgg41,sizeOf41,⟨zeroValue41,_,underlying41,by kernel_rfl⟩⟩,trivial,trivial⟩,⟨⟨underlying57,isAgg57,sizeOf57,trivial⟩,trivial,⟨⟨underlying121,isAgg121,sizeOf121,trivial⟩,trivial,trivial⟩⟩⟩⟩,⟨trivial,⟨⟨underlying21,isAgg21,sizeOf21,trivial⟩,⟨⟨underlying37,isAgg37,sizeOf37,trivial⟩,trivial,⟨⟨⟨_,underlying101,rfl⟩,isAgg101,sizeOf101,⟨zeroValue101,_,underlying101,by kernel_rfl⟩⟩,trivial,⟨⟨⟨_,underlying229,rfl⟩,isAgg229,sizeOf229,⟨zeroValue229,_,underlying229,by kernel_rfl⟩⟩,trivial,trivial⟩⟩⟩,⟨⟨underlying53,isAgg53,sizeOf53,trivial⟩,⟨⟨⟨_,underlying85,rfl⟩,isAgg85,sizeOf85,trivial⟩,trivial,trivial⟩,⟨trivial,⟨trivial,⟨⟨⟨_,underlying309,rfl⟩,isAgg309,sizeOf309,⟨zeroValue309,_,underlying309,by kernel_rfl⟩⟩,trivial,trivial⟩,trivial⟩,⟨⟨⟨_,underlying245,rfl⟩,isAgg245,sizeOf245,⟨zeroValue245,_,underlying245,by kernel_rfl⟩⟩,trivial,trivial⟩⟩⟩⟩,⟨⟨⟨_,underlying29,rfl⟩,isAgg29,sizeOf29,⟨zeroValue29,_,underlying29,by kernel_rfl⟩⟩,⟨⟨underlying45,isAgg45,sizeOf45,trivial⟩,trivial,⟨trivial,⟨⟨underlying173,isAgg173,sizeOf173,trivial⟩,trivial,trivial⟩,trivial⟩⟩,⟨trivial,⟨trivial,trivial,⟨⟨underlying221,isAgg221,sizeOf221,trivial⟩,trivial,trivial⟩⟩,⟨trivial,⟨⟨⟨_,underlying189,rfl⟩,isAgg189,sizeOf189,trivial⟩,trivial,trivial⟩,trivial⟩⟩⟩⟩⟩⟩,⟨⟨underlying2,isAgg2,sizeOf2,trivial⟩,⟨⟨underlying4,isAgg4,sizeOf4,trivial⟩,⟨trivial,⟨trivial,⟨trivial,trivial,⟨⟨underlying96,isAgg96,sizeOf96,trivial⟩,trivial,trivial⟩⟩,⟨⟨underlying48,isAgg48,sizeOf48,trivial⟩,⟨trivial,trivial,⟨⟨⟨_,underlying208,rfl⟩,isAgg208,sizeOf208,⟨zeroValue208,_,underlying208,by kernel_rfl⟩⟩,trivial,trivial⟩⟩,⟨trivial,⟨⟨⟨_,underlying176,rfl⟩,isAgg176,sizeOf176,⟨zeroValue176,_,underlying176,by kernel_rfl⟩⟩,trivial,trivial⟩,⟨⟨⟨_,underlying240,rfl⟩,isAgg240,sizeOf240,⟨zeroValue240,_,underlying240,by kernel_rfl⟩⟩,trivial,trivial⟩⟩⟩⟩,⟨⟨underlying24,isAgg24,sizeOf24,trivial⟩,⟨trivial,trivial,⟨trivial,⟨⟨⟨_,underlying168,rfl⟩,isAgg168,sizeOf168,⟨zeroValue168,_,underlying168,by kernel_rfl⟩⟩,trivial,trivial⟩,⟨⟨underlying232,isAgg232,sizeOf232,trivial⟩,trivial,trivial⟩⟩⟩,⟨trivial,trivial,⟨⟨underlying120,isAgg120,sizeOf120,trivial⟩,trivial,trivial⟩⟩⟩⟩,⟨trivial,⟨trivial,⟨trivial,⟨⟨underlying68,isAgg68,sizeOf68,trivial⟩,trivial,trivial⟩,trivial⟩,⟨trivial,trivial,⟨⟨⟨_,underlying116,rfl⟩,isAgg116,sizeOf116,⟨zeroValue116,_,underlying116,by kernel_rfl⟩⟩,⟨⟨⟨_,underlying180,rfl⟩,isAgg180,sizeOf180,⟨zeroValue180,_,underlying180,by kernel_rfl⟩⟩,⟨⟨⟨_,underlying308,rfl⟩,isAgg308,sizeOf308,⟨zeroValue308,_,underlying308,by kernel_rfl⟩⟩,trivial,trivial⟩,trivial⟩,trivial⟩⟩⟩,⟨trivial,⟨⟨underlying44,isAgg44,sizeOf44,trivial⟩,⟨trivial,⟨⟨⟨_,underlying140,rfl⟩,isAgg140,sizeOf140,⟨zeroValue140,_,underlying140,by kernel_rfl⟩⟩,trivial,trivial⟩,trivial⟩,trivial⟩,⟨trivial,trivial,⟨⟨⟨_,underlying124,rfl⟩,isAgg124,sizeOf124,⟨zeroValue124,_,underlying124,by kernel_rfl⟩⟩,trivial,trivial⟩⟩⟩⟩⟩,⟨trivial,⟨trivial,⟨trivial,⟨⟨underlying34,isAgg34,sizeOf34,trivial⟩,⟨⟨underlying66,isAgg66,sizeOf66,trivial⟩,trivial,trivial⟩,⟨⟨⟨_,underlying98,rfl⟩,isAgg98,sizeOf98,⟨zeroValue98,_,underlying98,by kernel_rfl⟩⟩,trivial,⟨⟨⟨_,underlying226,rfl⟩,isAgg226,sizeOf226,⟨zeroValue226,_,underlying226,by kernel_rfl⟩⟩,trivial,trivial⟩⟩⟩,⟨⟨⟨_,underlying50,rfl⟩,isAgg50,sizeOf50,⟨zeroValue50,_,underlying50,by kernel_rfl⟩⟩,⟨trivial,⟨⟨⟨_,underlying146⟩,isAgg146,sizeOf146,trivial⟩,trivial,trivial⟩,trivial⟩,⟨⟨underlying114,isAgg114,sizeOf114,trivial⟩,⟨⟨⟨_,underlying178,rfl⟩,isAgg178,sizeOf178,trivial⟩,⟨⟨⟨_,underlying306,rfl⟩,isAgg306,sizeOf306,trivial⟩,trivial,trivial⟩,trivial⟩,trivial⟩⟩⟩,⟨trivial,⟨trivial,trivial,⟨trivial,trivial,⟨⟨⟨_,underlying234,rfl⟩,isAgg234,sizeOf234,⟨zeroValue234,_,underlying234,by kernel_rfl⟩⟩,trivial,trivial⟩⟩⟩,⟨⟨⟨_,underlying58,rfl⟩,isAgg58,sizeOf58,trivial⟩,trivial,⟨⟨underlying122,isAgg122,sizeOf122,trivial⟩,trivial,trivial⟩⟩⟩⟩,⟨trivial,⟨⟨underlying22,isAgg22,sizeOf22,trivial⟩,⟨⟨underlying38,isAgg38,sizeOf38,trivial⟩,⟨⟨⟨_,underlying70,rfl⟩,isAgg70,sizeOf70,⟨zeroValue70,_,underlying70,by kernel_rfl⟩⟩,trivial,trivial⟩,trivial⟩,trivial⟩,⟨trivial,⟨trivial,⟨trivial,⟨⟨⟨_,underlying142,rfl⟩,isAgg142,sizeOf142,⟨zeroValue142,_,underlying142,by kernel_rfl⟩⟩,trivial,trivial⟩,trivial⟩,⟨trivial,⟨⟨underlying174,isAgg174,sizeOf174,trivial⟩,trivial,trivial⟩,⟨⟨underlying238,isAgg238,sizeOf238,trivial⟩,trivial,trivial⟩⟩⟩,⟨trivial,⟨⟨⟨_,underlying94⟩,isAgg94,sizeOf94,trivial⟩,trivial,trivial⟩,⟨⟨⟨_,underlying126,rfl⟩,isAgg126,sizeOf126,⟨zeroValue126,_,underlying126,by kernel_rfl⟩⟩,trivial,trivial⟩⟩⟩⟩⟩⟩⟩
abbrev zz0:List Value:=[.int .i64 0,.int .i64 0,.int .i64 0,.int .i64 0]
abbrev zz1:List Value:=[.int .i64 0,.int .i64 0,.int .i64 0,.string ⟨#[]⟩,.int .i64 0,.slice none 0 0]
abbrev zz2:List Value:=[.int .i64 0,.int .i64 0,.int .i64 0,.string ⟨#[]⟩,.string ⟨#[]⟩,.int .i64 0,.int .i64 0,.string ⟨#[]⟩,.int .i64 0,.bool false,.int .i64 0,.slice none 0 0,.int .i64 0,.int .i64 0,.string ⟨#[]⟩,.int .i64 0,.bool false,.int .i64 0,.slice none 0 0,.slice none 0 0,.slice none 0 0,.int .i64 0,.int .i64 0,.int .i64 0,.bool false]
abbrev zz3:List Value:=[.int .i64 0,.int .i64 0,.slice none 0 0,.slice none 0 0,.slice none 0 0]
abbrev zz4:List Value:=[.int .i64 0,.int .i64 0,.string ⟨#[]⟩,.int .i64 0,.bool false,.int .i64 0,.slice none 0 0]
abbrev zz5:List Value:=[.int .i64 0,.int .i64 0]
abbrev zz6:List Value:=[.slice none 0 0,.slice none 0 0,.int .i64 0,.int .i64 0,.slice none 0 0,.slice none 0 0,.int .i64 0,.int .i64 0,.slice none 0 0,.slice none 0 0,.slice none 0 0,.slice none 0 0,.slice none 0 0,.slice none 0 0,.int .i64 0,.int .i64 0,.int .i64 0,.int .i64 0,.int .i64 0,.int .i64 0]
abbrev zz7:List Value:=[.slice none 0 0,.slice none 0 0,.int .i64 0,.int .i64 0,.slice none 0 0,.slice none 0 0,.int .i64 0,.int .i64 0,.slice none 0 0,.slice none 0 0,.slice none 0 0,.slice none 0 0,.slice none 0 0]
abbrev pt (n:Nat):Value:= .pointer (some ⟨n,0,none⟩)
section
variable {f:Fc}{k':List Item}{p':PE}{c:List Prop}{l ops' l':List Oper}{pk:PE}{L:Rds}{n':Nat}{done done':List Nat}
theorem xx (m:Nat)(K:X prog G f Q k' p' ds cs q)(h:stn tbl f.n m .code k p []=some ⟨.code,k',p',c⟩:=by exact rfl)(hc:U6 c:=by repeat (first|exact trivial|refine Wv (by first|omega|(simp;done)|(simp;omega)) ?_)):X prog G f Q k p ds cs q:=stXX Vi m h hc K
theorem xo (m:Nat)(K:XO prog G f Q ops'.toArray k' l' p' ds cs q)(h:stn tbl f.n m .code k p []=some ⟨.ops ops' l',k',p',c⟩:=by exact rfl)(hc:U6 c:=by repeat (first|exact trivial|refine Wv (by first|omega|(simp;done)|(simp;omega)) ?_)):X prog G f Q k p ds cs q:=stXO Vi m h hc K
theorem ox (m:Nat)(K:X prog G f Q k' p' ds cs q)(h:stn tbl f.n m (.ops ops l) k p []=some ⟨.code,k',p',c⟩:=by exact rfl)(hc:U6 c:=by repeat (first|exact trivial|refine Wv (by first|omega|(simp;done)|(simp;omega)) ?_)):XO prog G f Q ops.toArray k l p ds cs q:=stOX Vi m h hc K
theorem oo (m:Nat)(K:XO prog G f Q ops'.toArray k' l' p' ds cs q)(h:stn tbl f.n m (.ops ops l) k p []=some ⟨.ops ops' l',k',p',c⟩:=by exact rfl)(hc:U6 c:=by repeat (first|exact trivial|refine Wv (by first|omega|(simp;done)|(simp;omega)) ?_)):XO prog G f Q ops.toArray k l p ds cs q:=stOO Vi m h hc K
theorem dd (is:List Nat)(K:XD prog G f Q ops k pk L n' done' p' ds cs q)(h:sdn tbl f.n ops is n done p []=some ⟨n',done',p',c⟩:=by exact rfl)(hc:U6 c:=by repeat (first|exact trivial|refine Wv (by first|omega|(simp;done)|(simp;omega)) ?_)):XD prog G f Q ops k pk L n done p ds cs q:=stDD Vi is h hc K
variable {rest:List Oper}{d:Tmp}{t ty:TypeId}{pos:String}{af:Array Edge}{gd:Option (Nat×Bool)}{x y:Operand}{v:Value}{b sz:Nat}{l vs:List Value}{t':TypeId}{r:List HP}
theorem ld (K:XO prog G f Q ops.toArray k rest ((d,v)::p) ds cs q)(hx:evp p x=some (.pointer (some A)):=by rfl)(hc:Cl q A v:=by exact clA)
 (hw:Wt ops p ⟨some d,.load t x,ty,pos,af,gd⟩=some true:=by rfl) (hd:Nat.blt d f.n=true:=by rfl) (ht:tbl.lf t=true:=by rfl):
 XO prog G f Q ops.toArray k (⟨some d,.load t x,ty,pos,af,gd⟩::rest) p ds cs q:= .ld (P9 Vi ht) K hx hc hw hd
theorem ldA (K:XO prog G f Q ops.toArray k rest ((d,.agg (Wx.sub l o sz).toArray)::p) ds cs q)(ht:tbl.ag t=some sz:=by rfl)(hx:evp p x=some (.pointer (some ⟨b,o,none⟩)):=by rfl)(hh:Has q b (.cells l.toArray t' fz):=by exact Qu)(hv:Nat.ble (o+sz) l.length=true:=by rfl)
 (hw:Wt ops p ⟨some d,.load t x,ty,pos,af,gd⟩=some true:=by rfl) (hd:Nat.blt d f.n=true:=by rfl):
 XO prog G f Q ops.toArray k (⟨some d,.load t x,ty,pos,af,gd⟩::rest) p ds cs q:= .ldA (Qt Vi ht).1 (Qt Vi ht).2 K hx hh hv hw hd
theorem ldD (i:Nat)(K:XD prog G f Q ops k pk ((i,b,o,v)::L) n (i::done) ((d,v)::p) ds cs q)
 (ho:ops[i]? =some ⟨some d,.load t x,ty,pos,af,gd⟩:=by rfl) (hx:evp p x=some (.pointer (some ⟨b,o,none⟩)):=by rfl) (hc:Cl q ⟨b,o,none⟩ v:=by exact clA)
 (hr:rdy ops done i=true:=by rfl) (hw:Wt ops p ⟨some d,.load t x,ty,pos,af,gd⟩=some true:=by rfl) (hd:Nat.blt d f.n=true:=by rfl) (ht:tbl.lf t=true:=by rfl):XD prog G f Q ops k pk L (n+1) done p ds cs q:= .ld i (P9 Vi ht) K ho hx hc hr hw hd
theorem ldAD (i:Nat)(K:XD prog G f Q ops k pk (rdA i b o (Wx.sub l o sz)++L) n (i::done) ((d,.agg (Wx.sub l o sz).toArray)::p) ds cs q)
 (ho:ops[i]? =some ⟨some d,.load t x,ty,pos,af,gd⟩:=by rfl) (ht:tbl.ag t=some sz:=by rfl) (hx:evp p x=some (.pointer (some ⟨b,o,none⟩)):=by rfl) (hh:Has q b (.cells l.toArray t' fz):=by exact Qu) (hv:Nat.ble (o+sz) l.length=true:=by rfl)
 (hr:rdy ops done i=true:=by rfl) (hw:Wt ops p ⟨some d,.load t x,ty,pos,af,gd⟩=some true:=by rfl) (hd:Nat.blt d f.n=true:=by rfl):XD prog G f Q ops k pk L (n+1) done p ds cs q:= .loadA i ho hx (Qt Vi ht).1 (Qt Vi ht).2 hh hv K hr hw hd
theorem st (K:XO prog G f Q ops.toArray k rest p ds cs (pto b (.cells (Hl l o v).toArray t' (0,0))::r))(hx:evp p x=some (.pointer (some ⟨b,o,none⟩)):=by rfl)(hy:evp p y=some v:=by rfl)
 (hv:v.cells= #[v]:=by rfl) (h1:v.oneCell'=true:=by rfl) (hq:Le q (pto b (.cells l.toArray t' (0,0))::r):=by exact Zk) (ho:Nat.blt o l.length=true:=by rfl)
 (hw:Wt ops p ⟨none,.store t x y,ty,pos,af,gd⟩=some true:=by rfl) (hs:tbl.s1 t=true:=by rfl):XO prog G f Q ops.toArray k (⟨none,.store t x y,ty,pos,af,gd⟩::rest) p ds cs q:= .st Vi hs K hx hy hv h1 hq ho hw
theorem stA (K:XO prog G f Q ops.toArray k rest p ds cs (pto b (.cells (V5 l o vs).toArray t' (0,0))::r))(hs:tbl.ag t=some sz:=by rfl)(hx:evp p x=some (.pointer (some ⟨b,o,none⟩)):=by rfl)(hy:evp p y=some (.agg vs.toArray):=by rfl)
 (hl:vs.length=sz:=by rfl) (h1:vs.all (·.oneCell')=true:=by rfl) (hq:Le q (pto b (.cells l.toArray t' (0,0))::r):=by exact Zk) (ho:Nat.ble (o+sz) l.length=true:=by rfl)
 (hw:Wt ops p ⟨none,.store t x y,ty,pos,af,gd⟩=some true:=by rfl):XO prog G f Q ops.toArray k (⟨none,.store t x y,ty,pos,af,gd⟩::rest) p ds cs q:= .stA Vi hs K hx hy hl h1 hq ho hw
theorem stD (i:Nat)(K:XD prog G f Q ops k pk (cut ⟨none,.store t x y,ty,pos,af,gd⟩ L) n (i::done) p ds cs (pto b (.cells (Hl l o v).toArray t' (0,0))::r))
 (ho:ops[i]? =some ⟨none,.store t x y,ty,pos,af,gd⟩:=by rfl) (hx:evp p x=some (.pointer (some ⟨b,o,none⟩)):=by rfl) (hy:evp p y=some v:=by rfl)
 (hv:v.cells= #[v]:=by rfl) (h1:v.oneCell'=true:=by rfl) (hq:Le q (pto b (.cells l.toArray t' (0,0))::r):=by exact Zk) (ho2:Nat.blt o l.length=true:=by rfl)
 (hh:HL (pto b (.cells (Hl l o v).toArray t' (0,0))::r) (cut ⟨none,.store t x y,ty,pos,af,gd⟩ L):=by exact hlA)
 (h2:V2 ops done i=true:=by rfl) (hr:rdy ops done i=true:=by rfl) (hw:Wt ops p ⟨none,.store t x y,ty,pos,af,gd⟩=some true:=by rfl) (hs:tbl.s1 t=true:=by rfl):XD prog G f Q ops k pk L (n+1) done p ds cs q:= .st i Vi hs K ho hx hy hv h1 hq ho2 hh h2 hr hw
theorem stAD (i:Nat)(K:XD prog G f Q ops k pk (cut ⟨none,.store t x y,ty,pos,af,gd⟩ L) n (i::done) p ds cs (pto b (.cells (V5 l o vs).toArray t' (0,0))::r))
 (ho:ops[i]? =some ⟨none,.store t x y,ty,pos,af,gd⟩:=by rfl) (hs:tbl.ag t=some sz:=by rfl) (hx:evp p x=some (.pointer (some ⟨b,o,none⟩)):=by rfl) (hy:evp p y=some (.agg vs.toArray):=by rfl)
 (hl:vs.length=sz:=by rfl) (h1:vs.all (·.oneCell')=true:=by rfl) (hq:Le q (pto b (.cells l.toArray t' (0,0))::r):=by exact Zk) (ho2:Nat.ble (o+sz) l.length=true:=by rfl)
 (hh:HL (pto b (.cells (V5 l o vs).toArray t' (0,0))::r) (cut ⟨none,.store t x y,ty,pos,af,gd⟩ L):=by exact hlA)
 (h2:V2 ops done i=true:=by rfl) (hr:rdy ops done i=true:=by rfl) (hw:Wt ops p ⟨none,.store t x y,ty,pos,af,gd⟩=some true:=by rfl):XD prog G f Q ops k pk L (n+1) done p ds cs q:= .stA i Vi hs K ho hx hy hl h1 hq ho2 hh h2 hr hw
theorem rsL {t b sz:Nat}{l:List Value}{t':TypeId}(hh:Has q b (.cells l.toArray t' fz))(ht:tbl.ag t=some sz)(hv:Nat.ble (o+sz) l.length=true):LV Tryz.prog G q t ⟨b,o,none⟩ (.agg (Wx.sub l o sz).toArray):=LV.agg (Qt Vi ht).1 (Qt Vi ht).2 hh hv
theorem rA_ {u0:TypeId}(h:fd.results= [.cell a0 t0].toArray)(p0:lkp p a0=some (.pointer (some ⟨b0,o0,none⟩)):=by rfl)(h0:Has q b0 (.cells l0.toArray u0 f0):=by exact Qu)(t_0:tbl.ag t0=some z0:=by rfl)(v_0:Nat.ble (o0+z0) l0.length=true:=by rfl)(tm:Array Value)(w:World)(ag:Agr tm p)(s:St G w q):(results fd tm).run Tryz.prog w= .ok (.agg (Wx.sub l0 o0 z0).toArray) w:=Bi h (eE p0 (rsL h0 t_0 v_0) eI) tm w ag s
theorem Zqa {u0:TypeId}{u1:TypeId}(h:fd.results= [.cell a0 t0,.cell a1 t1].toArray)(p0:lkp p a0=some (.pointer (some ⟨b0,o0,none⟩)):=by rfl)(h0:Has q b0 (.cells l0.toArray u0 f0):=by exact Qu)(t_0:tbl.ag t0=some z0:=by rfl)(v_0:Nat.ble (o0+z0) l0.length=true:=by rfl)(p1:lkp p a1=some (.pointer (some ⟨b1,o1,none⟩)):=by rfl)(h1:Has q b1 (.cells l1.toArray u1 f1):=by exact Qu)(t_1:tbl.ag t1=some z1:=by rfl)(v_1:Nat.ble (o1+z1) l1.length=true:=by rfl)(tm:Array Value)(w:World)(ag:Agr tm p)(s:St G w q):(results fd tm).run Tryz.prog w= .ok ((.tuple [.agg (Wx.sub l0 o0 z0).toArray,.agg (Wx.sub l1 o1 z1).toArray].toArray)) w:=Ea h (eE p0 (rsL h0 t_0 v_0) (eE p1 (rsL h1 t_1 v_1) eI)) tm w ag s
theorem N1 {u0:TypeId}(h:fd.results= [.cell a0 t0,.tmp a1].toArray)(p0:lkp p a0=some (.pointer (some ⟨b0,o0,none⟩)):=by rfl)(h0:Has q b0 (.cells l0.toArray u0 f0):=by exact Qu)(t_0:tbl.ag t0=some z0:=by rfl)(v_0:Nat.ble (o0+z0) l0.length=true:=by rfl)(p1:lkp p a1=some v1:=by rfl)(tm:Array Value)(w:World)(ag:Agr tm p)(s:St G w q):(results fd tm).run Tryz.prog w= .ok ((.tuple [.agg (Wx.sub l0 o0 z0).toArray,v1].toArray)) w:=Ea h (eE p0 (rsL h0 t_0 v_0) (eB p1 eI)) tm w ag s
theorem Ce {u0:TypeId}{u1:TypeId}(h:fd.results= [.cell a0 t0,.cell a1 t1,.tmp a2].toArray)(p0:lkp p a0=some (.pointer (some ⟨b0,o0,none⟩)):=by rfl)(h0:Has q b0 (.cells l0.toArray u0 f0):=by exact Qu)(t_0:tbl.ag t0=some z0:=by rfl)(v_0:Nat.ble (o0+z0) l0.length=true:=by rfl)(p1:lkp p a1=some (.pointer (some ⟨b1,o1,none⟩)):=by rfl)(h1:Has q b1 (.cells l1.toArray u1 f1):=by exact Qu)(t_1:tbl.ag t1=some z1:=by rfl)(v_1:Nat.ble (o1+z1) l1.length=true:=by rfl)(p2:lkp p a2=some v2:=by rfl)(tm:Array Value)(w:World)(ag:Agr tm p)(s:St G w q):(results fd tm).run Tryz.prog w= .ok ((.tuple [.agg (Wx.sub l0 o0 z0).toArray,.agg (Wx.sub l1 o1 z1).toArray,v2].toArray)) w:=Ea h (eE p0 (rsL h0 t_0 v_0) (eE p1 (rsL h1 t_1 v_1) (eB p2 eI))) tm w ag s
theorem T9 {v0:Value}{u1:TypeId}(h:fd.results= [.tmp a0,.cell a1 t1,.tmp a2].toArray)(p0:lkp p a0=some v0:=by rfl)(p1:lkp p a1=some (.pointer (some ⟨b1,o1,none⟩)):=by rfl)(h1:Has q b1 (.cells l1.toArray u1 f1):=by exact Qu)(t_1:tbl.ag t1=some z1:=by rfl)(v_1:Nat.ble (o1+z1) l1.length=true:=by rfl)(p2:lkp p a2=some v2:=by rfl)(tm:Array Value)(w:World)(ag:Agr tm p)(s:St G w q):(results fd tm).run Tryz.prog w= .ok ((.tuple [v0,.agg (Wx.sub l1 o1 z1).toArray,v2].toArray)) w:=Ea h (eB p0 (eE p1 (rsL h1 t_1 v_1) (eB p2 eI))) tm w ag s
theorem Bo {u0:TypeId}(h:fd.results= [.cell a0 t0,.tmp a1,.tmp a2].toArray)(p0:lkp p a0=some (.pointer (some ⟨b0,o0,none⟩)):=by rfl)(h0:Has q b0 (.cells l0.toArray u0 f0):=by exact Qu)(t_0:tbl.ag t0=some z0:=by rfl)(v_0:Nat.ble (o0+z0) l0.length=true:=by rfl)(p1:lkp p a1=some v1:=by rfl)(p2:lkp p a2=some v2:=by rfl)(tm:Array Value)(w:World)(ag:Agr tm p)(s:St G w q):(results fd tm).run Tryz.prog w= .ok ((.tuple [.agg (Wx.sub l0 o0 z0).toArray,v1,v2].toArray)) w:=Ea h (eE p0 (rsL h0 t_0 v_0) (eB p1 (eB p2 eI))) tm w ag s
theorem xp {t:Bool}{φ ψ:Prop}{z:List Item}(s:Nat)(ht:φ->X Tryz.prog G f Q z ((s,.bool true)::p) ds cs q)(hf:ψ->X Tryz.prog G f Q z ((s,.bool false)::p) ds cs q)(h:lkp p s=some (.bool t):=by rfl)(e1:t=true->φ:=by intro h;exact sp h)(e2:t=false->ψ:=by intro h;exact sp h):X Tryz.prog G f Q z p ds cs q:= .part s h (fun a=>ht (e1 a)) (fun a=>hf (e2 a))
theorem kx {b1:Bool}(s m:Nat)(K:X Tryz.prog G f Q k2 p2 ds cs q)(h:lkp p1 s=some (.bool b1):=by rfl)(e:b1=false:=by exact kw)(h2:stn tbl f.n m .code k1 ((s,.bool false)::p1) []=some ⟨.code,k2,p2,c1⟩:=by exact rfl)(hc:U6 c1:=by repeat (first|exact trivial|refine Wv (by first|omega|(simp;done)|(simp;omega)) ?_)):X Tryz.prog G f Q k1 p1 ds cs q:=Jc s (xx m K h2 hc) h e
theorem ol {o1 l1:List Oper}{t1 ty1:TypeId}(m:Nat)(K:XO Tryz.prog G f Q o2.toArray k2 r2 ((d1,v1)::p2) ds cs q)(h:stn tbl f.n m (.ops o1 l1) k1 p1 []=some ⟨.ops o2 (⟨some d1,.load t1 x1,ty1,ps1,af1,gd1⟩::r2),k2,p2,c1⟩:=by exact rfl)(hc0:U6 c1:=by repeat (first|exact trivial|refine Wv (by first|omega|(simp;done)|(simp;omega)) ?_))(hx:evp p2 x1=some (.pointer (some A1)):=by rfl)(hc:Cl q A1 v1:=by exact clA)(hw:Wt o2 p2 ⟨some d1,.load t1 x1,ty1,ps1,af1,gd1⟩=some true:=by rfl)(hd:Nat.blt d1 f.n=true:=by rfl)(ht:tbl.lf t1=true:=by rfl):XO Tryz.prog G f Q o1.toArray k1 l1 p1 ds cs q:=oo m (ld K hx hc hw hd ht) h hc0
theorem xj {t1 ty1:TypeId}(m:Nat)(K:XO Tryz.prog G f Q o2.toArray k2 r2 ((d1,v1)::p2) ds cs q)(h:stn tbl f.n m .code k1 p1 []=some ⟨.ops o2 (⟨some d1,.load t1 x1,ty1,ps1,af1,gd1⟩::r2),k2,p2,c1⟩:=by exact rfl)(hc0:U6 c1:=by repeat (first|exact trivial|refine Wv (by first|omega|(simp;done)|(simp;omega)) ?_))(hx:evp p2 x1=some (.pointer (some A1)):=by rfl)(hc:Cl q A1 v1:=by exact clA)(hw:Wt o2 p2 ⟨some d1,.load t1 x1,ty1,ps1,af1,gd1⟩=some true:=by rfl)(hd:Nat.blt d1 f.n=true:=by rfl)(ht:tbl.lf t1=true:=by rfl):X Tryz.prog G f Q k1 p1 ds cs q:=xo m (ld K hx hc hw hd ht) h hc0
theorem dl {n0:Nat}{dn0 dn1:List Nat}{t1 ty1:TypeId}{s1:Nat}(is:List Nat)(i:Nat)(K:XD Tryz.prog G f Q ops k pk ((i,b1,s1,v1)::L) n1 (i::dn1) ((d1,v1)::p2) ds cs q)(h:sdn tbl f.n ops is n0 dn0 p1 []=some ⟨n1+1,dn1,p2,c1⟩:=by exact rfl)(hc0:U6 c1:=by repeat (first|exact trivial|refine Wv (by first|omega|(simp;done)|(simp;omega)) ?_))
 (ho:ops[i]? =some ⟨some d1,.load t1 x1,ty1,ps1,af1,gd1⟩:=by rfl) (hx:evp p2 x1=some (.pointer (some ⟨b1,s1,none⟩)):=by rfl) (hc:Cl q ⟨b1,s1,none⟩ v1:=by exact clA) (hr:rdy ops dn1 i=true:=by rfl) (hw:Wt ops p2 ⟨some d1,.load t1 x1,ty1,ps1,af1,gd1⟩=some true:=by rfl) (hd:Nat.blt d1 f.n=true:=by rfl) (ht:tbl.lf t1=true:=by rfl):XD Tryz.prog G f Q ops k pk L n0 dn0 p1 ds cs q:=dd is (ldD i K ho hx hc hr hw hd ht) h hc0
theorem kk0 {A:List HP->Prop}(K:B V C)(h:A C:=by first|exact trivial|exact hlA): ∀ v q',(v=V/\q'=C)->A q'/\B v q':=by rintro _ _ ⟨rfl,rfl⟩;exact ⟨h,K⟩
theorem kc0 {A:List HP->Prop}(K:B V M)(e:C++F=M:=by (try simp only [ca,na]);rfl)(h:A M:=by first|exact trivial|exact hlA): ∀ v q',(v=V/\q'=C)-> ∀ q'',q''=q'++F->A q''/\B v q'':=by rintro _ _ ⟨rfl,rfl⟩ _ rfl;rw [e];exact ⟨h,K⟩
theorem kd0 (K:B V M)(e:C++F=M:=by (try simp only [ca,na]);rfl): ∀ v q',(v=V/\q'=C)-> ∀ q'',q''=q'++F->B v q'':=by rintro _ _ ⟨rfl,rfl⟩ _ rfl;rw [e];exact K
theorem kd1 {α:Type}{V:α->Value}{C:α->List HP}{M:α->List HP}(K: ∀ a,B (V a) (M a))(e: ∀ a,C a++F=M a:=by intro _;(try simp only [ca,na]);rfl): ∀ v q',(∃ a,v=V a/\q'=C a)-> ∀ q'',q''=q'++F->B v q'':=by rintro _ _ ⟨a,rfl,rfl⟩ _ rfl;rw [e];exact K a
theorem kk2 {α β:Type}{V:α->β->Value}{C:α->β->List HP}{A:List HP->Prop}(K: ∀ a b,B (V a b) (C a b))(h: ∀ a b,A (C a b):=by intro _ _;first|exact trivial|exact hlA): ∀ v q',(∃ a b,v=V a b/\q'=C a b)->A q'/\B v q':=by rintro _ _ ⟨a,b,rfl,rfl⟩;exact ⟨h a b,K a b⟩
theorem kd2 {α β:Type}{V:α->β->Value}{C:α->β->List HP}{M:α->β->List HP}(K: ∀ a b,B (V a b) (M a b))(e: ∀ a b,C a b++F=M a b:=by intro _ _;(try simp only [ca,na]);rfl): ∀ v q',(∃ a b,v=V a b/\q'=C a b)-> ∀ q'',q''=q'++F->B v q'':=by rintro _ _ ⟨a,b,rfl,rfl⟩ _ rfl;rw [e];exact K a b
theorem xsl {c:Nat}(s:Nat)(e:a=some A)(K:X Tryz.prog G f Q k ((s,.slice (some A) n c)::p) ds cs q)(h:lkp p s=some (.slice a n c):=by rfl):X Tryz.prog G f Q k p ds cs q:= .know s _ h (by rw [e]) K
theorem osl {c:Nat}{lz:List Oper}(s:Nat)(e:a=some A)(K:XO Tryz.prog G f Q ops.toArray k lz ((s,.slice (some A) n c)::p) ds cs q)(h:lkp p s=some (.slice a n c):=by rfl):XO Tryz.prog G f Q ops.toArray k lz p ds cs q:= .know s _ h (by rw [e]) K
theorem dsl {c:Nat}(s:Nat)(e:a=some A)(K:XD Tryz.prog G f Q ops k pk L n1 done ((s,.slice (some A) n2 c)::p) ds cs q)(h:lkp p s=some (.slice a n2 c):=by rfl):XD Tryz.prog G f Q ops k pk L n1 done p ds cs q:= .know s _ h (by rw [e]) K
theorem Tryz.mixed:prog.follows .mixedOrders=true:=by kernel_rfl
theorem drw {id:Nat}(x:XD prog G f Q ops k [] [] ops.length [] p ds cs q)(h1:okR ops=true:=by kernel_rfl)(h2:Gr ops=true:=by kernel_rfl)(h3:Me ops []=true:=by rfl):X prog G f Q (.code (.region id ops.toArray true)::k) p ds cs q:= .draw [] Tryz.mixed h1 h2 h3 x
structure Bx (B:Prop):Prop where
 g:B
structure Gs (s:List Nat) (A:Prop):Prop where
 g:A
theorem gs0 {A:Prop}(b:Bx A):Gs [] A:=⟨b.g⟩
variable {s0:List Nat}{l0 l0':List Oper}
theorem r_xx (K:Gs s0 (X prog G f Q k' p' ds cs q))(h:stn tbl f.n (m+1) .code k p []=some ⟨.code,k',p',c⟩:=by exact rfl)(hc:U6 c:=by repeat (first|exact trivial|refine Wv (by first|omega|(simp;done)|(simp;omega)) ?_)):Gs ((m+1)::s0) (X prog G f Q k p ds cs q):=⟨xx (m+1) K.g h hc⟩
theorem r_xo (K:Gs s0 (XO prog G f Q ops'.toArray k' l0' p' ds cs q))(h:stn tbl f.n (m+1) .code k p []=some ⟨.ops ops' l0',k',p',c⟩:=by exact rfl)(hc:U6 c:=by repeat (first|exact trivial|refine Wv (by first|omega|(simp;done)|(simp;omega)) ?_)):Gs ((m+1)::s0) (X prog G f Q k p ds cs q):=⟨xo (m+1) K.g h hc⟩
theorem r_ox (K:Gs s0 (X prog G f Q k' p' ds cs q))(h:stn tbl f.n (m+1) (.ops ops l0) k p []=some ⟨.code,k',p',c⟩:=by exact rfl)(hc:U6 c:=by repeat (first|exact trivial|refine Wv (by first|omega|(simp;done)|(simp;omega)) ?_)):Gs ((m+1)::s0) (XO prog G f Q ops.toArray k l0 p ds cs q):=⟨ox (m+1) K.g h hc⟩
theorem r_oo (K:Gs s0 (XO prog G f Q ops'.toArray k' l0' p' ds cs q))(h:stn tbl f.n (m+1) (.ops ops l0) k p []=some ⟨.ops ops' l0',k',p',c⟩:=by exact rfl)(hc:U6 c:=by repeat (first|exact trivial|refine Wv (by first|omega|(simp;done)|(simp;omega)) ?_)):Gs ((m+1)::s0) (XO prog G f Q ops.toArray k l0 p ds cs q):=⟨oo (m+1) K.g h hc⟩
theorem Vo (K:Gs s0 (XO prog G f Q ops.toArray k rest ((d,v)::p) ds cs q))(hx:evp p x=some (.pointer (some A)):=by rfl)(hc:Cl q A v:=by exact clA)(hw:Wt ops p ⟨some d,.load t x,ty,pos,af,gd⟩=some true:=by rfl)(hd:Nat.blt d f.n=true:=by rfl)(ht:tbl.lf t=true:=by rfl):Gs (0::s0) (XO prog G f Q ops.toArray k (⟨some d,.load t x,ty,pos,af,gd⟩::rest) p ds cs q):=⟨ld K.g hx hc hw hd ht⟩
theorem Xk (K:Gs s0 (XO prog G f Q ops.toArray k rest ((d,.agg (Wx.sub l o sz).toArray)::p) ds cs q))(ht:tbl.ag t=some sz:=by rfl)(hx:evp p x=some (.pointer (some ⟨b,o,none⟩)):=by rfl)(hh:Has q b (.cells l.toArray t' fz):=by exact Qu)(hv:Nat.ble (o+sz) l.length=true:=by rfl)(hw:Wt ops p ⟨some d,.load t x,ty,pos,af,gd⟩=some true:=by rfl)(hd:Nat.blt d f.n=true:=by rfl):Gs (0::s0) (XO prog G f Q ops.toArray k (⟨some d,.load t x,ty,pos,af,gd⟩::rest) p ds cs q):=⟨ldA K.g ht hx hh hv hw hd⟩
theorem r_st (K:Gs s0 (XO prog G f Q ops.toArray k rest p ds cs (pto b (.cells (Hl l o v).toArray t' (0,0))::r)))(hx:evp p x=some (.pointer (some ⟨b,o,none⟩)):=by rfl)(hy:evp p y=some v:=by rfl)(hv:v.cells= #[v]:=by rfl)(h1:v.oneCell'=true:=by rfl)(hq:Le q (pto b (.cells l.toArray t' (0,0))::r):=by exact Zk)(ho:Nat.blt o l.length=true:=by rfl)(hw:Wt ops p ⟨none,.store t x y,ty,pos,af,gd⟩=some true:=by rfl)(hs:tbl.s1 t=true:=by rfl):Gs (0::s0) (XO prog G f Q ops.toArray k (⟨none,.store t x y,ty,pos,af,gd⟩::rest) p ds cs q):=⟨st K.g hx hy hv h1 hq ho hw hs⟩
theorem O9 (K:Gs s0 (XO prog G f Q ops.toArray k rest p ds cs (pto b (.cells (V5 l o vs).toArray t' (0,0))::r)))(hs:tbl.ag t=some sz:=by rfl)(hx:evp p x=some (.pointer (some ⟨b,o,none⟩)):=by rfl)(hy:evp p y=some (.agg vs.toArray):=by rfl)(hl:vs.length=sz:=by rfl)(h1:vs.all (·.oneCell')=true:=by rfl)(hq:Le q (pto b (.cells l.toArray t' (0,0))::r):=by exact Zk)(ho:Nat.ble (o+sz) l.length=true:=by rfl)(hw:Wt ops p ⟨none,.store t x y,ty,pos,af,gd⟩=some true:=by rfl):Gs (0::s0) (XO prog G f Q ops.toArray k (⟨none,.store t x y,ty,pos,af,gd⟩::rest) p ds cs q):=⟨stA K.g hs hx hy hl h1 hq ho hw⟩
theorem Xv {rid:Nat}(K:Gs s0 (XD prog G f Q ops k [] [] ops.length [] p ds cs q))(h1:okR ops=true:=by kernel_rfl)(h2:Gr ops=true:=by kernel_rfl)(h3:Me ops []=true:=by rfl):Gs (0::s0) (X prog G f Q (.code (.region rid ops.toArray true)::k) p ds cs q):=⟨drw K.g h1 h2 h3⟩
theorem r_dd (K:Gs s0 (XD prog G f Q ops k pk L n' done' p' ds cs q))(h:sdn tbl f.n ops [i] n done p []=some ⟨n',done',p',c⟩:=by exact rfl)(hc:U6 c:=by repeat (first|exact trivial|refine Wv (by first|omega|(simp;done)|(simp;omega)) ?_)):Gs ((i+1)::s0) (XD prog G f Q ops k pk L n done p ds cs q):=⟨dd [i] K.g h hc⟩
theorem Wj (K:Gs s0 (XD prog G f Q ops k pk ((i,b,o,v)::L) n (i::done) ((d,v)::p) ds cs q))(ho:ops[i]? =some ⟨some d,.load t x,ty,pos,af,gd⟩:=by rfl)(hx:evp p x=some (.pointer (some ⟨b,o,none⟩)):=by rfl)(hc:Cl q ⟨b,o,none⟩ v:=by exact clA)(hr:rdy ops done i=true:=by rfl)(hw:Wt ops p ⟨some d,.load t x,ty,pos,af,gd⟩=some true:=by rfl)(hd:Nat.blt d f.n=true:=by rfl)(ht:tbl.lf t=true:=by rfl):Gs ((i+1)::s0) (XD prog G f Q ops k pk L (n+1) done p ds cs q):=⟨ldD i K.g ho hx hc hr hw hd ht⟩
theorem Gv (K:Gs s0 (XD prog G f Q ops k pk (rdA i b o (Wx.sub l o sz)++L) n (i::done) ((d,.agg (Wx.sub l o sz).toArray)::p) ds cs q))(ho:ops[i]? =some ⟨some d,.load t x,ty,pos,af,gd⟩:=by rfl)(ht:tbl.ag t=some sz:=by rfl)(hx:evp p x=some (.pointer (some ⟨b,o,none⟩)):=by rfl)(hh:Has q b (.cells l.toArray t' fz):=by exact Qu)(hv:Nat.ble (o+sz) l.length=true:=by rfl)(hr:rdy ops done i=true:=by rfl)(hw:Wt ops p ⟨some d,.load t x,ty,pos,af,gd⟩=some true:=by rfl)(hd:Nat.blt d f.n=true:=by rfl):Gs ((i+1)::s0) (XD prog G f Q ops k pk L (n+1) done p ds cs q):=⟨ldAD i K.g ho ht hx hh hv hr hw hd⟩
theorem O8 (K:Gs s0 (XD prog G f Q ops k pk (cut ⟨none,.store t x y,ty,pos,af,gd⟩ L) n (i::done) p ds cs (pto b (.cells (Hl l o v).toArray t' (0,0))::r)))(ho:ops[i]? =some ⟨none,.store t x y,ty,pos,af,gd⟩:=by rfl)(hx:evp p x=some (.pointer (some ⟨b,o,none⟩)):=by rfl)(hy:evp p y=some v:=by rfl)(hv:v.cells= #[v]:=by rfl)(h1:v.oneCell'=true:=by rfl)(hq:Le q (pto b (.cells l.toArray t' (0,0))::r):=by exact Zk)(ho2:Nat.blt o l.length=true:=by rfl)(hh:HL (pto b (.cells (Hl l o v).toArray t' (0,0))::r) (cut ⟨none,.store t x y,ty,pos,af,gd⟩ L):=by exact hlA)(h2:V2 ops done i=true:=by rfl)(hr:rdy ops done i=true:=by rfl)(hw:Wt ops p ⟨none,.store t x y,ty,pos,af,gd⟩=some true:=by rfl)(hs:tbl.s1 t=true:=by rfl):Gs ((i+1)::s0) (XD prog G f Q ops k pk L (n+1) done p ds cs q):=⟨stD i K.g ho hx hy hv h1 hq ho2 hh h2 hr hw hs⟩
theorem Gk (K:Gs s0 (XD prog G f Q ops k pk (cut ⟨none,.store t x y,ty,pos,af,gd⟩ L) n (i::done) p ds cs (pto b (.cells (V5 l o vs).toArray t' (0,0))::r)))(ho:ops[i]? =some ⟨none,.store t x y,ty,pos,af,gd⟩:=by rfl)(hs:tbl.ag t=some sz:=by rfl)(hx:evp p x=some (.pointer (some ⟨b,o,none⟩)):=by rfl)(hy:evp p y=some (.agg vs.toArray):=by rfl)(hl:vs.length=sz:=by rfl)(h1:vs.all (·.oneCell')=true:=by rfl)(hq:Le q (pto b (.cells l.toArray t' (0,0))::r):=by exact Zk)(ho2:Nat.ble (o+sz) l.length=true:=by rfl)(hh:HL (pto b (.cells (V5 l o vs).toArray t' (0,0))::r) (cut ⟨none,.store t x y,ty,pos,af,gd⟩ L):=by exact hlA)(h2:V2 ops done i=true:=by rfl)(hr:rdy ops done i=true:=by rfl)(hw:Wt ops p ⟨none,.store t x y,ty,pos,af,gd⟩=some true:=by rfl):Gs ((i+1)::s0) (XD prog G f Q ops k pk L (n+1) done p ds cs q):=⟨stAD i K.g ho hs hx hy hl h1 hq ho2 hh h2 hr hw⟩
theorem Xj (K:Gs s0 (X prog G f Q k p ds cs q))(h:(List.range ops.length).all (done.contains ·)=true:=by rfl):Gs (0::s0) (XD prog G f Q ops k pk L 0 done p ds cs q):=⟨jV K.g h⟩
theorem r_kf {b:Bool}(K:Gs s0 (X prog G f Q k ((s,.bool false)::p) ds cs q))(h:lkp p s=some (.bool b):=by rfl)(e:b=false:=by exact kw):Gs ((s+1000)::s0) (X prog G f Q k p ds cs q):=⟨Jc s K.g h e⟩
theorem r_kt {b:Bool}(K:Gs s0 (X prog G f Q k ((s,.bool true)::p) ds cs q))(h:lkp p s=some (.bool b):=by rfl)(e:b=true:=by exact kw):Gs ((s+2000)::s0) (X prog G f Q k p ds cs q):=⟨X.kt s K.g h e⟩
theorem Xz {b:Bool}(K:Gs s0 (XO prog G f Q ops.toArray k l0 ((s,.bool false)::p) ds cs q))(h:lkp p s=some (.bool b):=by rfl)(e:b=false:=by exact kw):Gs ((s+1000)::s0) (XO prog G f Q ops.toArray k l0 p ds cs q):=⟨XO.kf s K.g h e⟩
theorem Xq {b:Bool}(K:Gs s0 (XO prog G f Q ops.toArray k l0 ((s,.bool true)::p) ds cs q))(h:lkp p s=some (.bool b):=by rfl)(e:b=true:=by exact kw):Gs ((s+2000)::s0) (XO prog G f Q ops.toArray k l0 p ds cs q):=⟨XO.kt s K.g h e⟩
theorem rn {A B:Prop}(s:List Nat)(K:B)(h:Bx B->Gs s A:=by intro b;repeat first|exact gs0 b|refine r_kt ?_|refine r_kf ?_|refine Xq ?_|refine Xz ?_|refine Vo ?_|refine Xk ?_|refine r_st ?_|refine O9 ?_|refine Xv ?_|refine Xj ?_|refine r_xx ?_|refine r_xo ?_|refine r_oo ?_|refine r_ox ?_|refine r_dd ?_|refine Wj ?_|refine Gv ?_|refine O8 ?_|refine Gk ?_):A:=(h ⟨K⟩).g
theorem Fj {c:Nat}(e:a=some A)(K:Gs s0 (X prog G f Q k ((s,.slice (some A) n2 c)::p) ds cs q))(h:lkp p s=some (.slice a n2 c):=by rfl):Gs ((s+3000)::s0) (X prog G f Q k p ds cs q):=⟨xsl s e K.g h⟩
theorem Fk {c:Nat}(e:a=some A)(K:Gs s0 (XO prog G f Q ops.toArray k l0 ((s,.slice (some A) n2 c)::p) ds cs q))(h:lkp p s=some (.slice a n2 c):=by rfl):Gs ((s+3000)::s0) (XO prog G f Q ops.toArray k l0 p ds cs q):=⟨osl s e K.g h⟩
theorem Fv {c:Nat}(e:a=some A)(K:Gs s0 (XD prog G f Q ops k pk L n1 done ((s,.slice (some A) n2 c)::p) ds cs q))(h:lkp p s=some (.slice a n2 c):=by rfl):Gs ((s+3000)::s0) (XD prog G f Q ops k pk L n1 done p ds cs q):=⟨dsl s e K.g h⟩
theorem rf {A B C:Prop}(s:List Nat)(F:C)(K:B)(h:Bx B->C->Gs s A:=by intro b F;repeat first|exact gs0 b|refine Fj F ?_|refine Fk F ?_|refine Fv F ?_|refine Vo ?_ (hc:=(F.le leA).at rfl (by assumption))|refine Vo ?_ (hc:=(F.le leA) 0 _ rfl)|refine Vo ?_ (hc:=(F.le leA) _ _ rfl)|refine Vo ?_ (hc:=F _ leA 0 _ rfl)|refine Vo ?_ (hc:=F _ leA _ _ rfl)|refine Wj ?_ (hc:=(F.le leA).at rfl (by assumption))|refine Wj ?_ (hc:=(F.le leA) 0 _ rfl)|refine Wj ?_ (hc:=(F.le leA) _ _ rfl)|refine Wj ?_ (hc:=F _ leA 0 _ rfl)|refine Wj ?_ (hc:=F _ leA _ _ rfl)|refine r_kt ?_|refine r_kf ?_|refine Xq ?_|refine Xz ?_|refine Vo ?_|refine Xk ?_|refine r_st ?_|refine O9 ?_|refine Xv ?_|refine Xj ?_|refine r_xx ?_|refine r_xo ?_|refine r_oo ?_|refine r_ox ?_|refine r_dd ?_|refine Wj ?_|refine Gv ?_|refine O8 ?_|refine Gk ?_):A:=(h ⟨K⟩ F).g
theorem rg {A B C D:Prop}(s:List Nat)(F:C)(E:D)(K:B)(h:Bx B->C->D->Gs s A:=by intro b F E;repeat first|exact gs0 b|refine Fj F ?_|refine Fk F ?_|refine Fv F ?_|refine Vo ?_ (hc:=(F.le leA).at rfl (by assumption))|refine Vo ?_ (hc:=(F.le leA) 0 _ rfl)|refine Vo ?_ (hc:=(F.le leA) _ _ rfl)|refine Vo ?_ (hc:=F _ leA 0 _ rfl)|refine Vo ?_ (hc:=F _ leA _ _ rfl)|refine Wj ?_ (hc:=(F.le leA).at rfl (by assumption))|refine Wj ?_ (hc:=(F.le leA) 0 _ rfl)|refine Wj ?_ (hc:=(F.le leA) _ _ rfl)|refine Wj ?_ (hc:=F _ leA 0 _ rfl)|refine Wj ?_ (hc:=F _ leA _ _ rfl)|refine Fj E ?_|refine Fk E ?_|refine Fv E ?_|refine Vo ?_ (hc:=(E.le leA).at rfl (by assumption))|refine Vo ?_ (hc:=(E.le leA) 0 _ rfl)|refine Vo ?_ (hc:=(E.le leA) _ _ rfl)|refine Vo ?_ (hc:=E _ leA 0 _ rfl)|refine Vo ?_ (hc:=E _ leA _ _ rfl)|refine Wj ?_ (hc:=(E.le leA).at rfl (by assumption))|refine Wj ?_ (hc:=(E.le leA) 0 _ rfl)|refine Wj ?_ (hc:=(E.le leA) _ _ rfl)|refine Wj ?_ (hc:=E _ leA 0 _ rfl)|refine Wj ?_ (hc:=E _ leA _ _ rfl)|refine r_kt ?_|refine r_kf ?_|refine Xq ?_|refine Xz ?_|refine Vo ?_|refine Xk ?_|refine r_st ?_|refine O9 ?_|refine Xv ?_|refine Xj ?_|refine r_xx ?_|refine r_xo ?_|refine r_oo ?_|refine r_ox ?_|refine r_dd ?_|refine Wj ?_|refine Gv ?_|refine O8 ?_|refine Gk ?_):A:=(h ⟨K⟩ F E).g
theorem rh {A B C D E:Prop}(s:List Nat)(F:C)(E1:D)(E2:E)(K:B)(h:Bx B->C->D->E->Gs s A:=by intro b F E1 E2;repeat first|exact gs0 b|refine Fj F ?_|refine Fk F ?_|refine Fv F ?_|refine Vo ?_ (hc:=(F.le leA).at rfl (by assumption))|refine Vo ?_ (hc:=(F.le leA) 0 _ rfl)|refine Vo ?_ (hc:=(F.le leA) _ _ rfl)|refine Vo ?_ (hc:=F _ leA 0 _ rfl)|refine Vo ?_ (hc:=F _ leA _ _ rfl)|refine Wj ?_ (hc:=(F.le leA).at rfl (by assumption))|refine Wj ?_ (hc:=(F.le leA) 0 _ rfl)|refine Wj ?_ (hc:=(F.le leA) _ _ rfl)|refine Wj ?_ (hc:=F _ leA 0 _ rfl)|refine Wj ?_ (hc:=F _ leA _ _ rfl)|refine Fj E1 ?_|refine Fk E1 ?_|refine Fv E1 ?_|refine Vo ?_ (hc:=(E1.le leA).at rfl (by assumption))|refine Vo ?_ (hc:=(E1.le leA) 0 _ rfl)|refine Vo ?_ (hc:=(E1.le leA) _ _ rfl)|refine Vo ?_ (hc:=E1 _ leA 0 _ rfl)|refine Vo ?_ (hc:=E1 _ leA _ _ rfl)|refine Wj ?_ (hc:=(E1.le leA).at rfl (by assumption))|refine Wj ?_ (hc:=(E1.le leA) 0 _ rfl)|refine Wj ?_ (hc:=(E1.le leA) _ _ rfl)|refine Wj ?_ (hc:=E1 _ leA 0 _ rfl)|refine Wj ?_ (hc:=E1 _ leA _ _ rfl)|refine Fj E2 ?_|refine Fk E2 ?_|refine Fv E2 ?_|refine Vo ?_ (hc:=(E2.le leA).at rfl (by assumption))|refine Vo ?_ (hc:=(E2.le leA) 0 _ rfl)|refine Vo ?_ (hc:=(E2.le leA) _ _ rfl)|refine Vo ?_ (hc:=E2 _ leA 0 _ rfl)|refine Vo ?_ (hc:=E2 _ leA _ _ rfl)|refine Wj ?_ (hc:=(E2.le leA).at rfl (by assumption))|refine Wj ?_ (hc:=(E2.le leA) 0 _ rfl)|refine Wj ?_ (hc:=(E2.le leA) _ _ rfl)|refine Wj ?_ (hc:=E2 _ leA 0 _ rfl)|refine Wj ?_ (hc:=E2 _ leA _ _ rfl)|refine r_kt ?_|refine r_kf ?_|refine Xq ?_|refine Xz ?_|refine Vo ?_|refine Xk ?_|refine r_st ?_|refine O9 ?_|refine Xv ?_|refine Xj ?_|refine r_xx ?_|refine r_xo ?_|refine r_oo ?_|refine r_ox ?_|refine r_dd ?_|refine Wj ?_|refine Gv ?_|refine O8 ?_|refine Gk ?_):A:=(h ⟨K⟩ F E1 E2).g
end
abbrev I64:Int->Value:=Value.int .i64
abbrev bT:Value:= .bool true
abbrev bF:Value:= .bool false
theorem cB {a b:Bool}(h:a=b):Value.bool a= .bool b:=by rw [h]
structure Tk where
 k:Int
 t:ByteArray
 n:Int
 ln:Int
 cl:Int
variable {L:List Tk}
def tkC (x:Tk):List Value:= [I64 x.k,.string x.t,I64 x.n,I64 x.ln,I64 x.cl]
def Sr (c:UInt8):Bool:=decide (97<=c.toNat) && decide (c.toNat<=122)
def Qo (c:UInt8):Bool:=decide (48<=c.toNat) && decide (c.toNat<=57)
def Nv (c:UInt8):Bool:=Sr c||Qo c
def wordsS:List Bs:= [[118,97,114], [97,114,114,97,121], [109,117,116,101,120], [99,111,110,100], [99,104,97,110], [116,104,114,101,97,100], [108,101,116], [105,102], [101,108,115,101], [119,104,105,108,101], [108,111,99,107], [117,110,108,111,99,107], [119,97,105,116], [115,105,103,110,97,108], [97,108,108], [115,101,110,100], [114,101,99,118], [115,112,97,119,110], [106,111,105,110], [112,114,105,110,116]]
def signsS:List Bs:= [[61,61], [33,61], [60,61], [38,38], [124,124], [59], [40], [41], [123], [125], [91], [93], [61], [60], [43], [45], [42], [47], [37], [33]]
def kwS (w:Bs):Bool:=wordsS.any (· ==w)
def Hu (w:Bs):Int:=w.foldl (fun n c=>n*10+((c.toNat:Int) - 48)) 0
def C6 (w:Bs):Option Int:=if w.all Qo && decide (w.length<=10) then (if Hu w<=2147483647/\(w.length=1\/w.getD 0 0≠48) then some (Hu w) else none) else none
def Q2 (l:Bs):Nat:=(l.takeWhile Nv).length
def M0 (l:Bs):Option (Int×Bs×Int):=
 let w:=l.take (Q2 l)
 if 0<Q2 l/\Qo (l.getD 0 0)=true then (match C6 w with|some x=>some (2,w,x)|none=>none)
 else if 0<Q2 l/\kwS w=true then some (3,w,0)
 else if 16<Q2 l then none
 else if 0<Q2 l then some (1,w,0)
 else match signsS.find? (fun s=>s==l.take s.length) with
  |some s=>some (4,s,0)
  |none=>none
def Ju:Nat->Bs->Int->Int->Option (List Tk)
 |0,_,_,_=>none
 |_+1, [],_,_=>some []
 |f+1,c::r,ln,cl=>
  if c=10 then Ju f r (ln+1) 1
  else if c=32\/c=9\/c=13 then Ju f r ln (cl+1)
  else if c=35 then Ju f ((c::r).dropWhile (· !=10)) ln (cl+((c::r).takeWhile (· !=10)).length)
  else match M0 (c::r) with
   |none=>none
   |some (k,w,n)=>(Ju f ((c::r).drop w.length) ln (cl+w.length)).map (⟨k,ba w,n,ln,cl⟩:: ·)
inductive PEx where
 |mk (k n:Int) (nm:ByteArray) (slot:Int) (loc:Bool) (op:Int) (args:List PEx)
inductive PStm where
 |mk (k ln cl:Int) (nm wt:ByteArray) (e ix:PEx) (body els:List PStm) (id slot other:Int) (loc:Bool)
structure PDec where
 k:Int
 ln:Int
 cl:Int
 nm:ByteArray
 n:Int
 body:List PStm
def PEx.z:PEx:= .mk 0 0 em 0 false 0 []
def isW (s:Bs):List Tk->Bool
 |t::_=>bs t.t==s && decide (3<=t.k)
 | []=>false
def tkW (s:Bs)(ts:List Tk):Option (List Tk):=if isW s ts=true then some ts.tail else none
def W2 (s:Bs)(ts:List Tk):Option (Unit×List Tk):=if isW s ts=true then some ((),ts.tail) else none
def bnd {α β:Type}(A:Option (α×List Tk))(K:α->List Tk->Option β):Option β:=match A with
 |none=>none
 |some (x,r)=>K x r
def Jk:List Tk->Option (ByteArray×List Tk)
 |t::r=>if t.k=1 then some (t.t,r) else none
 | []=>none
def Ji:List Tk->Option (Int×List Tk)
 |t::r=>if t.k=2 then some (t.n,r) else none
 | []=>none
def rankL:List Int:= [0,1,2,3,3,3,3,4,4,5,5,5]
def signL:List Bs:= [[], [124,124], [38,38], [61,61], [33,61], [60], [60,61], [43], [45], [42], [47], [37]]
def Rq (n:Int)(ts:List Tk):List Nat->Nat
 | []=>0
 |op::r=>if rankL.getD op 0=n/\isW (signL.getD op []) ts=true then op else Rq n ts r
def Uh (n:Int)(ts:List Tk):Nat:=Rq n ts [1,2,3,4,5,6,7,8,9,10,11]
mutual
def Vj:Nat->Int->List Tk->Option (PEx×List Tk)
 |0,_,_=>none
 |f+1,n,ts=>if 5<n then unS f ts else match Vj f (n+1) ts with
  |none=>none
  |some (e,r)=>Mu f n e r
def Mu:Nat->Int->PEx->List Tk->Option (PEx×List Tk)
 |0,_,_,_=>none
 |f+1,n,e,ts=>if Uh n ts=0 then some (e,ts) else match Vj f (n+1) ts.tail with
  |none=>none
  |some (x,r)=>if n=3 then some (.mk 6 0 em 0 false (Uh n ts) [e,x],r) else Mu f n (.mk 6 0 em 0 false (Uh n ts) [e,x]) r
def unS:Nat->List Tk->Option (PEx×List Tk)
 |0,_=>none
 |f+1,ts=>match tkW [45] ts with
  |some r=>(match unS f r with
   |none=>none
   |some (e,r2)=>some (.mk 4 0 em 0 false 0 [e],r2))
  |none=>match tkW [33] ts with
   |some r=>(match unS f r with
    |none=>none
    |some (e,r2)=>some (.mk 5 0 em 0 false 0 [e],r2))
   |none=>Ut f ts
def Ut:Nat->List Tk->Option (PEx×List Tk)
 |0,_=>none
 |f+1,ts=>match tkW [40] ts with
  |some r=>(match Vj f 1 r with
   |none=>none
   |some (e,r2)=>match tkW [41] r2 with
    |none=>none
    |some r3=>some (e,r3))
  |none=>match Ji ts with
   |some (n,r)=>some (.mk 1 n em 0 false 0 [],r)
   |none=>match Jk ts with
    |none=>none
    |some (nm,r)=>match tkW [91] r with
     |none=>some (.mk 2 0 nm 0 false 0 [],r)
     |some r2=>match Vj f 1 r2 with
      |none=>none
      |some (e,r3)=>match tkW [93] r3 with
       |none=>none
       |some r4=>some (.mk 3 0 nm 0 false 0 [e],r4)
end
def kindL:List Bs:= [[], [108,101,116], [], [], [105,102], [119,104,105,108,101], [108,111,99,107], [117,110,108,111,99,107], [119,97,105,116], [115,105,103,110,97,108], [97,108,108], [115,101,110,100], [114,101,99,118], [115,112,97,119,110], [106,111,105,110], [112,114,105,110,116]]
def Jw (L:List Bs)(ts:List Tk):Nat->Nat
 |0=>0
 |k+1=>if L.getD (k+1) []≠ []/\isW (L.getD (k+1) []) ts=true then k+1 else Jw L ts k
def Vc (ts:List Tk):Nat:=Jw kindL ts 15
def Zc:List Tk->Int×Int
 |t::_=>(t.ln,t.cl)
 | []=>(0,0)
def Ud (f:Nat)(k:Int)(p:Int×Int)(nm:ByteArray)(ts:List Tk):Option (PStm×List Tk):=
 if k=0 then (if isW [91] ts=true then bnd (Vj f 1 ts.tail) fun ix r=>bnd (W2 [93] r) fun _ r=>bnd (W2 [61] r) fun _ r=>bnd (Vj f 1 r) fun e r=>bnd (W2 [59] r) fun _ r=>some (.mk 3 p.1 p.2 nm em e ix [] [] 0 0 0 false,r)
  else bnd (W2 [61] ts) fun _ r=>bnd (Vj f 1 r) fun e r=>bnd (W2 [59] r) fun _ r=>some (.mk 2 p.1 p.2 nm em e .z [] [] 0 0 0 false,r))
 else if k=1 then bnd (W2 [61] ts) fun _ r=>bnd (Vj f 1 r) fun e r=>bnd (W2 [59] r) fun _ r=>some (.mk k p.1 p.2 nm em e .z [] [] 0 0 0 false,r)
 else if k=8\/k=12 then bnd (Jk ts) fun wt r=>bnd (W2 [59] r) fun _ r=>some (.mk k p.1 p.2 nm wt .z .z [] [] 0 0 0 false,r)
 else if k=11\/k=15 then bnd (Vj f 1 ts) fun e r=>bnd (W2 [59] r) fun _ r=>some (.mk k p.1 p.2 nm em e .z [] [] 0 0 0 false,r)
 else bnd (W2 [59] ts) fun _ r=>some (.mk k p.1 p.2 nm em .z .z [] [] 0 0 0 false,r)
mutual
def U8:Nat->List Tk->Option (PStm×List Tk)
 |0,_=>none
 |f+1,ts=>
  if Vc ts=4\/Vc ts=5 then bnd (Vj f 1 ts.tail) fun e r=>bnd (Ke f r) fun b r=>
   if Vc ts=4/\isW [101,108,115,101] r=true then bnd (Ke f r.tail) fun b2 r=>some (.mk (Vc ts) (Zc ts).1 (Zc ts).2 em em e .z b b2 0 0 0 false,r)
   else some (.mk (Vc ts) (Zc ts).1 (Zc ts).2 em em e .z b [] 0 0 0 false,r)
  else if Vc ts=14\/Vc ts=15 then Ud f (Vc ts) (Zc ts) em ts.tail
  else bnd (Jk (if 0<Vc ts then ts.tail else ts)) fun nm r=>Ud f (Vc ts) (Zc ts) nm r
def Ke:Nat->List Tk->Option (List PStm×List Tk)
 |0,_=>none
 |f+1,ts=>bnd (W2 [123] ts) fun _ r=>bnd (We f r) fun l r=>bnd (W2 [125] r) fun _ r=>some (l,r)
def We:Nat->List Tk->Option (List PStm×List Tk)
 |0,_=>none
 |f+1,ts=>if isW [125] ts=true then some ([],ts) else bnd (U8 f ts) fun s r=>bnd (We f r) fun l r=>some (s::l,r)
end
def declL:List Bs:= [[], [118,97,114], [97,114,114,97,121], [109,117,116,101,120], [99,111,110,100], [99,104,97,110], [116,104,114,101,97,100]]
def dkS (ts:List Tk):Nat:=Jw declL ts 6
def Eo (k:Nat)(ts:List Tk):Option (Int×List Tk):=
 if k=1 then bnd (W2 [61] ts) fun _ r=>if isW [45] r=true then bnd (Ji r.tail) fun n r=>some (-n,r) else Ji r
 else if k=2\/k=5 then Ji ts else some (0,ts)
def Ui (f:Nat)(ts:List Tk):Option (PDec×List Tk):=
 if dkS ts=0 then none else bnd (Jk ts.tail) fun nm r=>
  if dkS ts=6 then bnd (Ke f r) fun b r=>some (⟨dkS ts,(Zc ts).1,(Zc ts).2,nm,0,b⟩,r)
  else bnd (Eo (dkS ts) r) fun n r=>bnd (W2 [59] r) fun _ r=>some (⟨dkS ts,(Zc ts).1,(Zc ts).2,nm,n, []⟩,r)
def Vh (g:Nat):Nat->List Tk->Option (List PDec)
 |0,_=>none
 |f+1,ts=>if ts= [] then some [] else bnd (Ui g ts) fun d r=>(Vh g f r).map (d:: ·)
mutual
def PEx.dep:PEx->Nat
 | .mk _ _ _ _ _ _ args=>Yb args+1
def Yb:List PEx->Nat
 | []=>0
 |e::r=>max e.dep (Yb r)
end
mutual
def PStm.deep:PStm->Nat->Bool
 | .mk _ _ _ _ _ e ix body els _ _ _ _,n=>decide (24<n)||decide (24<e.dep)||decide (24<ix.dep)||Yq body (n+1)||Yq els (n+1)
def Yq:List PStm->Nat->Bool
 | [],_=>false
 |s::r,n=>s.deep n||Yq r n
end
def Qz (l:Bs):Option (List PDec):=
 if 65536<l.length then none else match Ju (l.length+1) l 1 1 with
  |none=>none
  |some ts=>match Vh (10*ts.length+20) (ts.length+1) ts with
   |none=>none
   |some ds=>if ds.any (fun d=>Yq d.body 1)=true then none else some ds
inductive Ex where
 |mk (k n:Int) (nm:ByteArray) (slot:Int) (loc:Bool) (op:Int) (args:List Ex) (aa:Option Addr) (ac:Nat)
variable {e:Ex}
def exC:Ex->List Value
 | .mk k n nm slot loc op args aa ac=> [I64 k,I64 n,.string nm,I64 slot,.bool loc,I64 op,.slice aa args.length ac]
inductive Stm where
 |mk (k ln cl:Int) (nm wt:ByteArray) (e ix:Ex) (body els:List Stm) (ba:Option Addr) (bc:Nat) (ea:Option Addr) (ec:Nat) (id slot other:Int) (loc:Bool)
def stC:Stm->List Value
 | .mk k ln cl nm wt e ix body els ba bc ea ec id slot other loc=> [I64 k,I64 ln,I64 cl,.string nm,.string wt]++(exC e++(exC ix++ [.slice ba body.length bc,.slice ea els.length ec,I64 id,I64 slot,I64 other,.bool loc]))
structure Dec where
 k:Int
 ln:Int
 cl:Int
 nm:ByteArray
 n:Int
 body:List Stm
 ba:Option Addr
 bc:Nat
def dcC (d:Dec):List Value:= [I64 d.k,I64 d.ln,I64 d.cl,.string d.nm,I64 d.n,.slice d.ba d.body.length d.bc]
theorem Z4 (e:Ex):(exC e).length=7:=by cases e;rfl
theorem Z8 (s:Stm):(stC s).length=25:=by cases s;simp [stC,Z4]
theorem Gc (e:Ex):(exC e).all (·.oneCell')=true:=by cases e;rfl
theorem H9 (s:Stm):(stC s).all (·.oneCell')=true:=by cases s;simp only [stC,kB,Gc];rfl
mutual
def Ex.er:Ex->PEx
 | .mk k n nm slot loc op args _ _=> .mk k n nm slot loc op (Z3 args)
def Z3:List Ex->List PEx
 | []=> []
 |e::r=>e.er::Z3 r
end
mutual
def Stm.er:Stm->PStm
 | .mk k ln cl nm wt e ix body els _ _ _ _ id slot other loc=> .mk k ln cl nm wt e.er ix.er (Zj body) (Zj els) id slot other loc
def Zj:List Stm->List PStm
 | []=> []
 |s::r=>s.er::Zj r
end
def Dec.er (d:Dec):PDec:=⟨d.k,d.ln,d.cl,d.nm,d.n,Zj d.body⟩
mutual
def Ex.At (M:Hp):Ex->Prop
 | .mk _ _ _ _ _ _ args aa ac=>SlAt M aa ac args.length (args.flatMap exC)/\Ex.Ats M args
def Ex.Ats (M:Hp):List Ex->Prop
 | []=>True
 |e::r=>e.At M/\Ex.Ats M r
end
mutual
def Stm.At (M:Hp):Stm->Prop
 | .mk _ _ _ _ _ e ix body els ba bc ea ec _ _ _ _=>e.At M/\ix.At M/\(SlAt M ba bc body.length (body.flatMap stC)/\Stm.Ats M body)/\SlAt M ea ec els.length (els.flatMap stC)/\Stm.Ats M els
def Stm.Ats (M:Hp):List Stm->Prop
 | []=>True
 |s::r=>s.At M/\Stm.Ats M r
end
mutual
theorem Ex.At.mono {M M':Hp}(l:Hle M M'): ∀ {e:Ex},e.At M->e.At M'
 | .mk ..,⟨h,k⟩=>⟨h.mono l,Ex.Ats.mono l k⟩
theorem Ex.Ats.mono {M M':Hp}(l:Hle M M'): ∀ {e:List Ex},Ex.Ats M e->Ex.Ats M' e
 | [],_=>trivial
 |_::_,⟨h,k⟩=>⟨Ex.At.mono l h,Ex.Ats.mono l k⟩
end
abbrev iF:=@Ex.Ats.mono
mutual
theorem Stm.At.mono {M M':Hp}(l:Hle M M'): ∀ {e:Stm},e.At M->e.At M'
 | .mk ..,⟨h1,h2,⟨h3,h4⟩,h5,h6⟩=>⟨h1.mono l,h2.mono l,⟨h3.mono l,Stm.Ats.mono l h4⟩,h5.mono l,Stm.Ats.mono l h6⟩
theorem Stm.Ats.mono {M M':Hp}(l:Hle M M'): ∀ {e:List Stm},Stm.Ats M e->Stm.Ats M' e
 | [],_=>trivial
 |_::_,⟨h,k⟩=>⟨Stm.At.mono l h,Stm.Ats.mono l k⟩
end
abbrev iU:=@Stm.Ats.mono
theorem Ye {M:Hp}: ∀ {l:List Ex},Ex.Ats M l↔ ∀ e∈l,e.At M
 | []=>by simp [Ex.Ats]
 |e::r=>by simp [Ex.Ats,Ye (l:=r)]
theorem Vg {M:Hp}: ∀ {l:List Stm},Stm.Ats M l↔ ∀ e∈l,e.At M
 | []=>by simp [Stm.Ats]
 |e::r=>by simp [Stm.Ats,Vg (l:=r)]
theorem Yy: ∀ l:List Ex,Z3 l=l.map Ex.er
 | []=>rfl
 |e::r=>by simp [Z3,Yy r]
theorem Yf: ∀ l:List Stm,Zj l=l.map Stm.er
 | []=>rfl
 |e::r=>by simp [Zj,Yf r]
theorem W9 (l:List Ex):(Z3 l).length=l.length:=by rw [Yy];simp
theorem Zg (l:List Stm):(Zj l).length=l.length:=by rw [Yf];simp
mutual
def Ex.sz:Ex->Nat
 | .mk _ _ _ _ _ _ args _ _=>Qe args+1
def Qe:List Ex->Nat
 | []=>0
 |e::r=>e.sz+Qe r
end
mutual
def Stm.sz:Stm->Nat
 | .mk _ _ _ _ _ _ _ body els _ _ _ _ _ _ _ _=>Zm body+Zm els+1
def Zm:List Stm->Nat
 | []=>0
 |s::r=>s.sz+Zm r
end
theorem Vx {e:Ex}: ∀ {l:List Ex},e∈l->e.sz<=Qe l
 |x::r,h=>by
  rcases cE.1 h with rfl|h
  . simp [Qe]
  have:=Vx h;simp only [Qe];omega
theorem Ub {e:Stm}: ∀ {l:List Stm},e∈l->e.sz<=Zm l
 |x::r,h=>by
  rcases cE.1 h with rfl|h
  . simp [Zm]
  have:=Ub h;simp only [Zm];omega
def exM (e:Ex):HP:=lst (fun M=>e.At M) fun l h=>Ex.At.mono l h
def exsM (l:List Ex):HP:=lst (fun M=>Ex.Ats M l) fun l h=>iF l h
def stM (s:Stm):HP:=lst (fun M=>s.At M) fun l h=>Stm.At.mono l h
def stsM (l:List Stm):HP:=lst (fun M=>Stm.Ats M l) fun l h=>iU l h
def BlkAt (M:Hp)(a:Option Addr)(c:Nat)(l:List Stm):Prop:=SlAt M a c l.length (l.flatMap stC)/\Stm.Ats M l
theorem BlkAt.mono {l:List Stm}{M:Hp}(e:Hle M M')(h:BlkAt M a c l):BlkAt M' a c l:=⟨h.1.mono e,h.2.mono e⟩
def blM (a:Option Addr)(c:Nat)(l:List Stm):HP:=lst (fun M=>BlkAt M a c l) BlkAt.mono
def Dec.At (M:Hp)(d:Dec):Prop:=BlkAt M d.ba d.bc d.body
theorem Dec.At.mono {d:Dec}{M:Hp}(e:Hle M M')(h:d.At M):d.At M':=BlkAt.mono e h
def Decs.At (M:Hp)(l:List Dec):Prop:= ∀ d∈l,d.At M
theorem Decs.At.mono {l:List Dec}{M:Hp}(e:Hle M M')(h:Decs.At M l):Decs.At M' l:=fun d hd=>(h d hd).mono e
def dcM (d:Dec):HP:=lst (fun M=>d.At M) Dec.At.mono
def dcsM (l:List Dec):HP:=lst (fun M=>Decs.At M l) Decs.At.mono
section
variable {ty:Nat}{l:List Ex}{m:List Stm}
theorem Kn.ex1 {k n:Int}(h:Kn q fun M=>e.At M):Kn (lst (fun M=>SlAt M a c 1 ([e].flatMap exC)) gM::q) fun M=>(Ex.mk k n nm slot loc op [e] a c).At M:=
 (Kn.here.and h.there).imp fun M h=>⟨h.1,h.2,trivial⟩
theorem Kn.ex2 {k n:Int}{e2:Ex}(h:Kn q fun M=>e.At M)(h2:Kn q fun M=>e2.At M):Kn (lst (fun M=>SlAt M a c 2 ([e,e2].flatMap exC)) gM::q) fun M=>(Ex.mk k n nm slot loc op [e,e2] a c).At M:=
 (Kn.here.and (h.there.and h2.there)).imp fun M h=>⟨h.1,h.2.1,h.2.2,trivial⟩
theorem Kn.exM {e:Ex}:Kn (exM e::q) fun M=>e.At M:=fL
theorem Kn.stsM:Kn (stsM m::q) fun M=>Stm.Ats M m:=fL
theorem Kn.stM {s:Stm}:Kn (stM s::q) fun M=>s.At M:=fL
theorem Kn.dcM {s:Dec}:Kn (dcM s::q) fun M=>s.At M:=fL
theorem Kn.dcsM {s:List Dec}:Kn (dcsM s::q) fun M=>Decs.At M s:=fL
theorem Le.ex0 (k n:Int)(nm:ByteArray)(slot:Int)(loc:Bool)(op:Int):Le q (Go.Proofs.YtflkjkhijcdbaaaGreat.exM (Ex.mk k n nm slot loc op [] none 0)::q):=cZ (fun M _ _=>⟨SlAt.nil M,trivial⟩)
theorem Hk:Le q (Go.Proofs.YtflkjkhijcdbaaaGreat.stsM []::q):=cZ (fun _ _ _=>trivial)
theorem H5 {s:Stm}:Le (Go.Proofs.YtflkjkhijcdbaaaGreat.stsM m::Go.Proofs.YtflkjkhijcdbaaaGreat.stM s::q) (Go.Proofs.YtflkjkhijcdbaaaGreat.stsM (m++ [s])::q):=by
 have h:Kn (Go.Proofs.YtflkjkhijcdbaaaGreat.stsM m::Go.Proofs.YtflkjkhijcdbaaaGreat.stM s::q) fun M=>Stm.Ats M (m++ [s]):=(Kn.stsM.and Kn.stM.there).imp fun M h=>Vg.2 fun x a=>by
  rcases aQ.1 a with a|a
  . exact Vg.1 h.1 x a
  rw [aZ.1 a];exact h.2
 exact aS (cZ (mn:=fun l h=>iU l h) h) (dD _ ((eD _ _).trans (eD _ _)))
theorem I8:Le q (Go.Proofs.YtflkjkhijcdbaaaGreat.dcsM []::q):=cZ (fun _ _ _ d a=>by cases a)
theorem Lc {s:Dec}{m:List Dec}:Le (Go.Proofs.YtflkjkhijcdbaaaGreat.dcsM m::Go.Proofs.YtflkjkhijcdbaaaGreat.dcM s::q) (Go.Proofs.YtflkjkhijcdbaaaGreat.dcsM (m++ [s])::q):=by
 have h:Kn (Go.Proofs.YtflkjkhijcdbaaaGreat.dcsM m::Go.Proofs.YtflkjkhijcdbaaaGreat.dcM s::q) fun M=>Decs.At M (m++ [s]):=(Kn.dcsM.and Kn.dcM.there).imp fun M h x a=>by
  rcases aQ.1 a with a|a
  . exact h.1 x a
  rw [aZ.1 a];exact h.2
 exact aS (cZ (mn:=Decs.At.mono) h) (dD _ ((eD _ _).trans (eD _ _)))
theorem Kn.blk (h:Kn q fun M=>Stm.Ats M m):Kn (lst (fun M=>SlAt M a c m.length (m.flatMap stC)) gM::q) fun M=>BlkAt M a c m:=Kn.here.and h.there
end
theorem isW_at {s:Bs}(h:n<L.length):isW s (L.drop n)=(bs L[n].t==s && decide (3<=L[n].k)):=by rw [aJ h];rfl
theorem Xd {s:Bs}(h:L.length<=n):isW s (L.drop n)=false:=by rw [cO h];rfl
theorem Si {s:Bs}(h:isW s (L.drop n)=true):n<L.length:=by
 rcases dQ n L.length with k|k
 . exact k
 rw [Xd k] at h;cases h
theorem gD {α:Type}{l:List α}{d:α}(h:i<l.length):l.getD i d=l[i]:=by simp [List.getD,aD h]
theorem sEq {a:ByteArray}:a.toList=b.toList↔bs a=bs b:=by rw [ByteArray.toList_eq,ByteArray.toList_eq];rfl
theorem sNe {a:ByteArray}(h: ¬a.toList=b.toList):(bs a==bs b)=false:=by rw [dB];exact fun e=>h (sEq.2 e)
theorem sTr {a:ByteArray}(h:a.toList=b.toList):(bs a==bs b)=true:=by rw [dC];exact sEq.1 h
theorem tail_drop :(L.drop n).tail=L.drop (n+1):=by rw [List.tail_drop]
def Out {α:Type}(L:List Tk)(bad:Bool)(sp:Option (α×List Tk))(x:α)(n:Nat)(bad':Bool):Prop:=(bad'=false/\bad=false/\sp=some (x,L.drop n))\/(bad'=true/\(bad=true\/sp=none))
abbrev rdH (p:Nat)(la:Option Addr)(lc:Nat)(L:List Tk)(n:Nat)(bad:Bool):HP:=pto p (.cells [.slice la L.length lc,I64 n,.bool bad].toArray 226 (0,0))
section
variable {P:Program}{fr:Fc}{todo:List Item}{lo:List Oper}{x:Ex}{m:List Stm}{kd n:Int}
theorem Ih (K:X P G fr Q todo p ds cs (exM (.mk kd n nm slot loc op [e] a c)::q0))(hq:Le q (rsH exC 7 124 a c [e]::q0):=by exact Zk)(he:Kn q0 fun M=>e.At M:=by exact knA):X P G fr Q todo p ds cs q:= .frzR (Kn.ex1 he) K hq
theorem X.fzE2 (K:X P G fr Q todo p ds cs (exM (.mk kd n nm slot loc op [e,x] a c)::q0))(hq:Le q (rsH exC 7 124 a c [e,x]::q0):=by exact Zk)(he:Kn q0 fun M=>e.At M:=by exact knA)(hx:Kn q0 fun M=>x.At M:=by exact knA):X P G fr Q todo p ds cs q:= .frzR (Kn.ex2 he hx) K hq
theorem X.fzB (K:X P G fr Q todo p ds cs (blM a c m::q0))(hq:Le q (rsH stC 25 126 a c m::q0):=by exact Zk)(h:Kn q0 fun M=>Stm.Ats M m:=by exact knA):X P G fr Q todo p ds cs q:= .frzR (Kn.blk h) K hq
end
end Go.Proofs.YtflkjkhijcdbaaaGreat
namespace Go.Proofs.YtflkjkhijcdbaaaGreat
open Go Go.RowKit Wx Go.Proofs.Tryz
attribute [local irreducible] lsH rsH stars
variable {G:World}{q pre:List HP}{a la A ea:Option Addr}{c lc p n f g k bc ec m i:Nat}{bad b1 b2 loc:Bool}{s nm wt:ByteArray}{L ts:List Tk}{r ln cl id slot other:Int}{w l:Bs}{x:UInt8}{S:Option (List PStm×List Tk)}{e ix:Ex}{body els:List Stm}{P:Program}{fr:Fc}{Q:Yn}{todo:List Item}{ds:List Deferred}{cs:List Frame}
theorem Px (hr:Has q p (.cells [.slice la L.length lc,I64 n,.bool bad].toArray 226 (0,0)))(hL:Sees q la (L.flatMap tkC))(hn:L.length<=65536):CallF prog G 147 [.pointer (some ⟨p,0,none⟩),.string s] (q) (Ret fun v q'=>v= .bool (!bad && isW (bs s) (L.drop n))/\q'=q):=by
 refine aC func147 ntmps147 rfl fun F cs=> ?_;have b:=Zx (f:=tkC) (sz:=5) (fun _=>rfl) L;refine rn [5,0,1,2,3] ?_;refine ldD 3 ?_ (hc:=(Cl.of (hr.le leA) rfl));refine Vz 4 rfl (bV rfl) ?_;refine dd [5] ?_;refine gT 10 rfl ?_ ?_<;>intro c
 . replace c:=sp c;refine dd [6,7,8] ?_;refine ldD 9 ?_ (hc:=(Cl.of (hr.le leA) rfl));refine dd [10,11,12] ?_;refine ldD 13 ?_ (hc:=(Cl.of (hr.le leA) rfl));refine dd [14,15,16,17] ?_;refine gT 22 rfl ?_ ?_<;>intro d
   . replace d:=sp d;refine dd [18,19,20] ?_;refine ldD 21 ?_ (hc:=(Cl.of (hr.le leA) rfl));refine dd [22,23,24] ?_;refine ldD 25 ?_ (hc:=(Cl.of (hr.le leA) rfl));refine K5 hL (by rw [b];omega) fun b1 o1 g=> ?_;have e:=hL;rw [g] at e;refine dS 26 (.slice (some ⟨b1,o1,none⟩) L.length lc) rfl (by rw [g]) ?_;refine rn [27,28,29,30,31,32,33] ?_;refine gT 37 rfl ?_ ?_<;>intro a
     . replace a:=sp a;refine dd [33,34,35] ?_;refine ldD 36 ?_ (hc:=(Cl.of (hr.le leA) rfl));refine dd [37,38,39] ?_;refine ldD 40 ?_ (hc:=(Cl.of (hr.le leA) rfl));refine dS 41 (.slice (some ⟨b1,o1,none⟩) L.length lc) rfl (by rw [g]) ?_;refine rn [42,43,44,45,46,47,0] ?_;refine Zq (q) func147 (Zn results147 rfl) ⟨_,rfl,cB (by rw [isW_at (by omega),c,sTr a];rfl),rfl⟩
     replace a:=sp a;refine rn [34,35,36,37,38,39,40,41,42,43,44,45,46,47,0] ?_;refine Zq (q) func147 (Zn results147 rfl) ⟨_,rfl,cB (by rw [isW_at (by omega),sNe a];simp),rfl⟩
   replace d:=sp d;refine rn [19,20,21,22,23,24,25,26,27,28,29,30,31,32,33,34,35,36,37,38,39,40,41,42,43,44,45,46,47,0] ?_;refine Zq (q) func147 (Zn results147 rfl) ⟨_,rfl,cB (by rw [Xd (by omega)];simp),rfl⟩
 replace c:=sp c;refine rn [7,8,9,10,11,12,13,14,15,16,17,18,19,20,21,22,23,24,25,26,27,28,29,30,31,32,33,34,35,36,37,38,39,40,41,42,43,44,45,46,47,0] ?_;refine Zq (q) func147 (Zn results147 rfl) ⟨_,rfl,cB (by simp_all),rfl⟩
theorem Ug (hL:Sees q la (L.flatMap tkC))(hn:L.length<=65536):CallF prog G 150 [.pointer (some ⟨p,0,none⟩),.string (ba w)] (rdH p la lc L n bad::q) (Ret fun v q'=>(v= .bool true/\(bad=false/\isW w (L.drop n)=true/\n<L.length)/\q'=rdH p la lc L (n+1) bad::q)\/(v= .bool false/\(bad=true\/isW w (L.drop n)=false)/\q'=rdH p la lc L n bad::q)):=by
 refine aC func150 ntmps150 rfl fun F cs=> ?_;refine xo 9 ?_;refine aO call147 (Px (n:=n) (bad:=bad) Qu (hL.le leA) hn) ?_;refine Zt (bV rfl) ?_;refine ox 1 ?_;refine dR 8 rfl ?_ ?_<;>intro c
 . refine xx 5 ?_;refine Zq (rdH p la lc L n bad::q) func150 (Zn results150 rfl) ⟨_,rfl,.inr ⟨rfl,by rw [V3] at c;cases bad<;>simp_all,rfl⟩⟩
 have b:bad=false/\isW w (L.drop n)=true:=by rw [V3] at c;cases bad<;>simp_all
 have a:=Si b.2;refine rn [7,0,3,0,5] ?_;refine Zq (rdH p la lc L (n+1) bad::q) func150 (Zn results150 rfl) ⟨_,rfl,.inl ⟨rfl,⟨b.1,b.2,a⟩,rfl⟩⟩
theorem Ya (hL:Sees q la (L.flatMap tkC))(hn:L.length<=65536)(hnL:n<=L.length):CallF prog G 149 [.pointer (some ⟨p,0,none⟩),.string (ba w)] (rdH p la lc L n bad::q) (Ret fun v q'=> ∃ n' bad',v= .tuple #[]/\q'=rdH p la lc L n' bad'::q/\n<=n'/\n'<=L.length/\Out L bad (W2 w (L.drop n)) () n' bad'):=by
 refine aC func149 ntmps149 rfl fun F cs=> ?_;refine xo 4 ?_;refine Zb call150 leA (Ug (hL.le leA) hn) ?_;rintro _ _ (⟨rfl,⟨b,a,c⟩,rfl⟩|⟨rfl,a,rfl⟩)
 . refine ox 4 ?_;refine Z7 (rdH p la lc L (n+1) bad::q) func149 (Vm results149) ⟨_,rfl,n+1,bad,rfl,rfl,by omega,by omega,.inl ⟨b,b,by unfold W2;rw [if_pos a,tail_drop]⟩⟩
 refine rn [7,0,1] ?_;refine Z7 (rdH p la lc L n true::q) func149 (Vm results149) ⟨_,rfl,n,true,rfl,rfl,aL _,hnL,.inr ⟨rfl,a.imp id fun h=>by unfold W2;rw [if_neg (by rw [h];decide)]⟩⟩
theorem Db (h:n<L.length):Jk (L.drop n)=if L[n].k=1 then some (L[n].t,L.drop (n+1)) else none:=by rw [aJ h];rfl
theorem Fx (h:L.length<=n):Jk (L.drop n)=none:=by rw [cO h];rfl
theorem Jl (hL:Sees q la (L.flatMap tkC))(hn:L.length<=65536)(hnL:n<=L.length):CallF prog G 148 [.pointer (some ⟨p,0,none⟩)] (rdH p la lc L n bad::q) (Ret fun v q'=> ∃ (x:ByteArray) (n':Nat) (bad':Bool),v= .string x/\q'=rdH p la lc L n' bad'::q/\(n<=n'/\(x=em\/ ∃ t∈L,x=t.t))/\n'<=L.length/\Out L bad (Jk (L.drop n)) x n' bad'):=by
 refine aC func148 ntmps148 rfl fun F cs=> ?_;have d:=Zx (f:=tkC) (sz:=5) (fun _=>rfl) L;refine rn [6,0,1,2,3,4,5] ?_;refine gT 7 rfl ?_ ?_<;>intro b
 . replace b:=sp b;refine rn [6,7,8,9,10,11,12,13,14,15,16,17,18,19,20,21,22,23,24,25,26,27,28,29,30,0,6,0,5] ?_;refine Zq (rdH p la lc L n true::q) func148 (Zn results148 rfl) ⟨_,rfl,em,n,true,rfl,rfl,⟨aL _,.inl rfl⟩,hnL,.inr ⟨rfl,.inl b⟩⟩
 replace b:=sp b;refine rn [6,7,8,9,10,11,12,13,14,15,16,17] ?_;refine gT 19 rfl ?_ ?_<;>intro e
 . replace e:=sp e;refine rn [18,19,20,21,22,23,24,25,26,27,28,29,30,0,6,0,5] ?_;refine Zq (rdH p la lc L n true::q) func148 (Zn results148 rfl) ⟨_,rfl,em,n,true,rfl,rfl,⟨aL _,.inl rfl⟩,hnL,.inr ⟨rfl,.inr (Fx (by omega))⟩⟩
 replace e:=sp e;refine rn [18,19,20,21,22,23,24,25] ?_;have a:n<L.length:=by omega
 refine K5 hL (by rw [d];omega) fun b1 o1 g=> ?_;have c:=hL;rw [g] at c;refine dS 23 (.slice (some ⟨b1,o1,none⟩) L.length lc) rfl (by rw [g]) ?_;refine rn [26,27,28,29,30,0] ?_;refine xp 32 ?_ ?_<;>intro h
 . refine rn [6,0,5] ?_;refine Zq (rdH p la lc L n true::q) func148 (Zn results148 rfl) ⟨_,rfl,em,n,true,rfl,rfl,⟨aL _,.inl rfl⟩,hnL,.inr ⟨rfl,.inr (by rw [Db (by omega),if_neg h])⟩⟩
 refine rn [7,0,3,0,2,0,1,2,3,4,5,6,7,8,9] ?_;refine dS 46 (.slice (some ⟨b1,o1,none⟩) L.length lc) rfl (by rw [g]) ?_;refine dd [9,10] ?_;refine ldD 11 ?_ (hc:=(Cl.el (n:=n) c leA (fun _=>rfl) a (by omega) rfl));refine rn [13,0] ?_;refine Zq (rdH p la lc L (n+1) bad::q) func148 (Zn results148 rfl) ⟨_,rfl,L[n].t,n+1,bad,rfl,rfl,⟨by omega,.inr ⟨_,aB a,rfl⟩⟩,by omega,.inl ⟨b,b,by rw [Db a,if_pos h]⟩⟩
theorem C5 (h:n<L.length):Ji (L.drop n)=if L[n].k=2 then some (L[n].n,L.drop (n+1)) else none:=by rw [aJ h];rfl
theorem Zq6 (h:L.length<=n):Ji (L.drop n)=none:=by rw [cO h];rfl
theorem Kw (hL:Sees q la (L.flatMap tkC))(hn:L.length<=65536)(hnL:n<=L.length):CallF prog G 151 [.pointer (some ⟨p,0,none⟩)] (rdH p la lc L n bad::q) (Ret fun v q'=> ∃ (x:Int) (n':Nat) (bad':Bool),v= I64 x/\q'=rdH p la lc L n' bad'::q/\(n<=n'/\(x=0\/ ∃ t∈L,x=t.n))/\n'<=L.length/\Out L bad (Ji (L.drop n)) x n' bad'):=by
 refine aC func151 ntmps151 rfl fun F cs=> ?_;have d:=Zx (f:=tkC) (sz:=5) (fun _=>rfl) L;refine rn [6,0,1,2,3,4,5] ?_;refine gT 7 rfl ?_ ?_<;>intro b
 . replace b:=sp b;refine rn [6,7,8,9,10,11,12,13,14,15,16,17,18,19,20,21,22,23,24,25,26,27,28,29,30,0,6,0,5] ?_;refine Zq (rdH p la lc L n true::q) func151 (Zn results151 rfl) ⟨_,rfl,0,n,true,rfl,rfl,⟨aL _,.inl rfl⟩,hnL,.inr ⟨rfl,.inl b⟩⟩
 replace b:=sp b;refine rn [6,7,8,9,10,11,12,13,14,15,16,17] ?_;refine gT 19 rfl ?_ ?_<;>intro e
 . replace e:=sp e;refine rn [18,19,20,21,22,23,24,25,26,27,28,29,30,0,6,0,5] ?_;refine Zq (rdH p la lc L n true::q) func151 (Zn results151 rfl) ⟨_,rfl,0,n,true,rfl,rfl,⟨aL _,.inl rfl⟩,hnL,.inr ⟨rfl,.inr (Zq6 (by omega))⟩⟩
 replace e:=sp e;refine rn [18,19,20,21,22,23,24,25] ?_;have a:n<L.length:=by omega
 refine K5 hL (by rw [d];omega) fun b1 o1 g=> ?_;have c:=hL;rw [g] at c;refine dS 23 (.slice (some ⟨b1,o1,none⟩) L.length lc) rfl (by rw [g]) ?_;refine rn [26,27,28,29,30,0] ?_;refine xp 32 ?_ ?_<;>intro h
 . refine rn [6,0,5] ?_;refine Zq (rdH p la lc L n true::q) func151 (Zn results151 rfl) ⟨_,rfl,0,n,true,rfl,rfl,⟨aL _,.inl rfl⟩,hnL,.inr ⟨rfl,.inr (by rw [C5 (by omega),if_neg h])⟩⟩
 refine rn [7,0,3,0,2,0,1,2,3,4,5,6,7,8,9] ?_;refine dS 46 (.slice (some ⟨b1,o1,none⟩) L.length lc) rfl (by rw [g]) ?_;refine dd [9,10] ?_;refine ldD 11 ?_ (hc:=(Cl.el (n:=n) c leA (fun _=>rfl) a (by omega) rfl));refine rn [13,0] ?_;refine Zq (rdH p la lc L (n+1) bad::q) func151 (Zn results151 rfl) ⟨_,rfl,L[n].n,n+1,bad,rfl,rfl,⟨by omega,.inr ⟨_,aB a,rfl⟩⟩,by omega,.inl ⟨b,b,by rw [C5 a,if_pos h]⟩⟩
theorem pos_ok (hL:Sees q la (L.flatMap tkC))(hn:L.length<=65536):CallF prog G 146 [.pointer (some ⟨p,0,none⟩)] (rdH p la lc L n bad::q) (Ret fun v q'=>v= .agg [I64 (Zc (L.drop n)).1,I64 (Zc (L.drop n)).2].toArray/\q'=rdH p la lc L n bad::q):=by
 refine aC func146 ntmps146 rfl fun F cs=> ?_;have c:=Zx (f:=tkC) (sz:=5) (fun _=>rfl) L;refine xo 2 ?_;refine bW zeroValue107 fun n1=> ?_
 refine rn [3,0,1,2,3,4,5,6,7,8,9,10,0] ?_;refine xp 12 ?_ ?_<;>intro g
 . refine rn [4,0,1] ?_;refine Zq (rdH p la lc L n bad::q) func146 (rA_ results146) ⟨_,rfl,by rw [cO (by omega)];rfl,rfl⟩
 refine rn [3,0,1,2,3,4,5,6,7,8] ?_;have b:n<L.length:=by omega
 refine K5 hL (by rw [c];omega) fun b1 o1 e=> ?_;have a:=hL;rw [e] at a;refine dS 17 (.slice (some ⟨b1,o1,none⟩) L.length lc) rfl (by rw [e]) ?_;refine dd [8,9] ?_;refine XD.rdCs 10 (us:= [I64 L[n].ln,I64 L[n].cl]) rfl rfl isAgg107 sizeOf107 rfl (fun k v d=>by match k,d with|0,d=>cases d;exact cT (n:=n) a leA (fun _=>rfl) b rfl 3 _ rfl|1,d=>cases d;exact cT (n:=n) a leA (fun _=>rfl) b rfl 4 _ rfl) ?_;refine rn [12,0] ?_;refine Zq (rdH p la lc L n bad::q) func146 (rA_ results146) ⟨_,rfl,by rw [aJ b];rfl,rfl⟩
theorem Wh:(prog.info? 9).map (fun i=>(i.zero,i.size,i.bytes))=some (some (.string ⟨#[]⟩),1,16):=by kernel_rfl
theorem Kr:(prog.info? 3).map (fun i=>(i.zero,i.size,i.bytes))=some (some (I64 0),1,8):=by kernel_rfl
theorem rank_ok (hr:c<12):CallF prog G 209 [I64 c] (q) (Ret fun v q'=>v= I64 (rankL.getD c 0)/\q'=q):=by
 refine aC func209 ntmps209 rfl fun F cs=> ?_;refine xo 6 ?_;refine bQ (Yp I64 rankL underlying22 Kr rfl rfl rfl rfl rfl rfl (fun _=>rfl)) ?_;rintro _ _ ⟨g,rfl,rfl⟩;have a:c<rankL.length:=by show c<12;omega
 refine oo 2 ?_;refine ld ?_ (hc:=(jN (n:=c) (bR _) Zk a (by omega)));refine ox 2 ?_;refine Zq (q) func209 (Zn results209 rfl) ⟨_,rfl,by rw [gD a],rfl⟩
theorem sign_ok (hr:c<12):CallF prog G 210 [I64 c] (q) (Ret fun v q'=>v= .string (ba (signL.getD c []))/\q'=q):=by
 refine aC func210 ntmps210 rfl fun F cs=> ?_;refine xo 6 ?_;refine bQ (Yp (fun w:Bs=>Value.string (ba w)) signL underlying25 Wh rfl rfl rfl rfl rfl rfl (fun _=>rfl)) ?_;rintro _ _ ⟨g,rfl,rfl⟩;have a:c<signL.length:=by show c<12;omega
 refine oo 2 ?_;refine ld ?_ (hc:=(jN (n:=c) (bR _) Zk a (by omega)));refine ox 2 ?_;refine Zq (q) func210 (Zn results210 rfl) ⟨_,rfl,by rw [gD a],rfl⟩
theorem Dx {s:Nat}(h:s<=11):Rq r ts (List.range' s (12 - s))=if rankL.getD s 0=r/\isW (signL.getD s []) ts=true then s else Rq r ts (List.range' (s+1) (12 - (s+1))):=by
 rw [show 12 - s=(12 - (s+1))+1 by omega,List.range'_succ];rfl
theorem C8 {L:List Tk}{n:Nat}{r:Int}: ∀ {l:List Nat},Rq r (L.drop n) l≠0->n<L.length
 | [],h=>aR rfl h
 |o::l,h=>by
  unfold Rq at h;split at h
  . rename_i k;exact Si k.2
  exact C8 h
abbrev Aa (v0:Nat)(v1:Int):=([.pointer (some ⟨v0,0,none⟩),I64 v1]:List Value)
theorem Xm (hr:Has q p (.cells [.slice la L.length lc,I64 n,.bool bad].toArray 226 (0,0)))(hL:Sees q la (L.flatMap tkC))(hn:L.length<=65536):CallF prog G 207 (Aa p r) (q) (Ret fun v q'=>v= I64 (if bad=true then 0 else Uh r (L.drop n):Nat)/\q'=q):=by
 refine aC func207 ntmps207 rfl fun F cs=> ?_;refine xx 10 ?_;refine aY (cG (fun (s:Nat)=>1<=s/\s<=12/\(bad=false->Uh r (L.drop n)=Rq r (L.drop n) (List.range' s (12 - s)))) (fun s=> [(5,I64 s),(0,.pointer (some ⟨p,0,none⟩)),(1,I64 r),(4,I64 0)]) (fun s=>(q++F)) (fun s=>12 - s) (fun s d g=> ?_) 1 ⟨aL _,by omega,fun _=>rfl⟩) Zu leA;try dsimp only at d g|-
 obtain ⟨j,i,a⟩:=d;refine xx 6 ?_;refine xp 7 ?_ ?_<;>intro m
 . have h:s<=11:=by omega
   refine xo 7 ?_;refine aO call209 (rank_ok (c:=s) (by omega)) ?_;refine oo 3 ?_;refine Zf [14,5,0,1,4] ?_;apply Zp 5 19 14 rfl
   . intro e f;have b:=sp e;refine oo 2 ?_;refine aO call210 (sign_ok (c:=s) (by omega)) ?_;refine aO call147 (Px (s:=ba (signL.getD s [])) (hr.le leA) (hL.le leA) hn) ?_;refine oo 1 ?_;exact Zz f ⟨Wq e,Zv⟩
   . intro e f;have b:=sp e;refine oo 5 ?_;exact Zz f ⟨Wz e,Zv⟩
   refine ox 1 ?_;refine xp 19 ?_ ?_<;>intro b
   . refine xx 6 ?_;refine Zq (q) func207 (Zn results207 rfl) ⟨_,rfl,by rw [if_neg (by rw [b.2.1];decide),a b.2.1,Dx (by omega),if_pos ⟨b.1,b.2.2⟩],rfl⟩
   refine xx 8 ?_;refine aY (g (s+1) ⟨by omega,by omega,fun l=>by rw [a l,Dx (by omega),if_neg (fun k=>by rw [V3] at b;simp_all)]⟩ (by omega)) Zu leA
 refine xx 6 ?_;refine Zq (q) func207 (Zn results207 rfl) ⟨_,rfl,by obtain rfl:s=12:=(by omega);cases bad with|true=>rfl|false=>rw [a rfl];rfl,rfl⟩
section
variable {b3 b4:Bool}{n1 n2 n3 n4:Nat}{x y:PEx}{z:Int}{S:Option (PEx×List Tk)}
theorem Out.up {α β:Type}{sp:Option (α×List Tk)}{sq:Option (β×List Tk)}{x:α}{y:β}(h:Out L bad sp x n b1)(h1:bad=false-> ∀ r,sp=some (x,r)->sq=some (y,r))(h2:bad=false->sp=none->sq=none):Out L bad sq y n b1:=by
 rcases h with ⟨b,a,c⟩|⟨b,a⟩
 . exact .inl ⟨b,a,h1 a _ c⟩
 refine .inr ⟨b,?_⟩
 cases hb:bad with
 |true=>exact .inl rfl
 |false=>exact .inr (h2 hb (a.resolve_left (by rw [hb];decide)))
theorem Out.seq {α β γ:Type}{sp:Option (α×List Tk)}{sq:Option (β×List Tk)}{st:Option (γ×List Tk)}{x:α}{y:β}{w:γ}(h:Out L bad sp x n b1)(k:Out L b1 sq y n2 b2)(h1:bad=false->sp=none->st=none)
 (h2:bad=false->sp=some (x,L.drop n)->sq=none->st=none) (h3:bad=false->sp=some (x,L.drop n)-> ∀ r,sq=some (y,r)->st=some (w,r)):Out L bad st w n2 b2:=by
 rcases h with ⟨b,a,c⟩|⟨b,a⟩
 . subst b;rcases k with ⟨k1,_,d⟩|⟨k1,k2⟩
   . exact .inl ⟨k1,a,h3 a c _ d⟩
   exact .inr ⟨k1,.inr (h2 a c (k2.resolve_left (by decide)))⟩
 subst b;rcases k with ⟨_,k2,_⟩|⟨k1,_⟩
 . cases k2
 refine .inr ⟨k1,?_⟩
 cases hb:bad with
 |true=>exact .inl rfl
 |false=>exact .inr (h1 hb (a.resolve_left (by rw [hb];decide)))
theorem Out.isBad {α:Type}{sp:Option (α×List Tk)}{x:α}(h:Out L true sp x n b1):b1=true:=by
 rcases h with ⟨_,h,_⟩|⟨h,_⟩
 . cases h
 exact h
theorem Out.bnd {α β:Type}{A:Option (α×List Tk)}{K:α->List Tk->Option (β×List Tk)}{x:α}{y:β}(h:Out L bad A x n b1)(k:Out L b1 (K x (L.drop n)) y n2 b2):Out L bad (Go.Proofs.YtflkjkhijcdbaaaGreat.bnd A K) y n2 b2:=
 h.seq k (fun _ h=>by rw [h];rfl) (fun _ h k=>by rw [h];exact k) (fun _ h r k=>by rw [h];exact k)
theorem Out.ret {α:Type}{x:α}:Out L bad (some (x,L.drop n)) x n bad:=by cases bad;exact .inl ⟨rfl,rfl,rfl⟩;exact .inr ⟨rfl,.inl rfl⟩
theorem Out.any {α:Type}{x:α}{A:Option (α×List Tk)}:Out L true A x n true:= .inr ⟨rfl,.inl rfl⟩
theorem Mn {s:Bs}(h:isW s (L.drop n)=true):tkW s (L.drop n)=some (L.drop (n+1)):=by unfold tkW;rw [if_pos h,tail_drop]
theorem Kk {s:Bs}(h:isW s (L.drop n)=false):tkW s (L.drop n)=none:=by unfold tkW;rw [if_neg (by rw [h];decide)]
theorem Df {s:Bs}{r:List Tk}:W2 s ts=some ((),r)↔tkW s ts=some r:=by
 unfold W2 tkW;split<;>simp
theorem Dg {s:Bs}:W2 s ts=none↔tkW s ts=none:=by
 unfold W2 tkW;split<;>simp
theorem un_neg (hw:isW [45] (L.drop n)=true)(ho:Out L false (unS f (L.drop (n+1))) x n2 b2):Out L false (unS (f+1) (L.drop n)) (.mk 4 0 em 0 false 0 [x]) n2 b2:=
 ho.up (fun _ r h=>by simp only [unS,Mn hw,h]) (fun _ h=>by simp only [unS,Mn hw,h])
theorem un_not (h1:isW [45] (L.drop n)=false)(hw:isW [33] (L.drop n)=true)(ho:Out L false (unS f (L.drop (n+1))) x n2 b2):Out L false (unS (f+1) (L.drop n)) (.mk 5 0 em 0 false 0 [x]) n2 b2:=
 ho.up (fun _ r h=>by simp only [unS,Kk h1,Mn hw,h]) (fun _ h=>by simp only [unS,Kk h1,Mn hw,h])
theorem un_prim (h1:bad=true\/isW [45] (L.drop n)=false)(h2:bad=true\/isW [33] (L.drop n)=false)(ho:Out L bad (Ut f (L.drop n)) x n2 b2):Out L bad (unS (f+1) (L.drop n)) x n2 b2:=
 ho.up (fun a r h=>by simp only [unS,Kk (h1.resolve_left (by rw [a];decide)),Kk (h2.resolve_left (by rw [a];decide)),h]) (fun a h=>by simp only [unS,Kk (h1.resolve_left (by rw [a];decide)),Kk (h2.resolve_left (by rw [a];decide)),h])
theorem prim_par (hw:isW [40] (L.drop n)=true)(ho:Out L false (Vj f 1 (L.drop (n+1))) x n2 b2)(h2:Out L b2 (W2 [41] (L.drop n2)) () n3 b3):Out L false (Ut (f+1) (L.drop n)) x n3 b3:=
 ho.seq h2 (fun _ h=>by simp only [Ut,Mn hw,h]) (fun _ h k=>by simp only [Ut,Mn hw,h,Dg.1 k]) (fun _ h r k=>by simp only [Ut,Mn hw,h,Df.1 k])
theorem Dk (h: ∀ t r,ts=t::r->t.k≠2):Ji ts=none:=by
 cases ts with
 |nil=>rfl
 |cons t r=>exact if_neg (h t r rfl)
theorem Sm {t:Tk}{r:List Tk}(e:ts=t::r)(h:t.k=2):Ji ts=some (t.n,r):=by subst e;exact if_pos h
theorem prim_num (h1:bad=true\/isW [40] (L.drop n)=false)(hlt:n<L.length)(hk:L[n].k=2)(ho:Out L bad (Ji (L.drop n)) z n2 b2):Out L bad (Ut (f+1) (L.drop n)) (.mk 1 z em 0 false 0 []) n2 b2:=
 ho.up (fun a r h=>by simp only [Ut,Kk (h1.resolve_left (by rw [a];decide)),h]) (fun a h=>by rw [Sm (aJ hlt) hk] at h;cases h)
theorem Zq0 (h1:bad=true\/isW [40] (L.drop n)=false)(hk: ∀ h:n<L.length,L[n].k≠2)(ho:Out L bad (Jk (L.drop n)) nm n2 b2)(h2:b2=true\/isW [91] (L.drop n2)=false):Out L bad (Ut (f+1) (L.drop n)) (.mk 2 0 nm 0 false 0 []) n2 b2:=by
 have d:Ji (L.drop n)=none:=Dk fun t r e=>by
  have a:n<L.length:=by rcases dQ n L.length with h|h;exact h;rw [cO h] at e;cases e
  rw [aJ a] at e;cases e;exact hk a
 rcases ho with ⟨c,b,g⟩|⟨c,b⟩
 . refine .inl ⟨c,b,?_⟩;simp only [Ut,Kk (h1.resolve_left (by rw [b];decide)),d,g,Kk (h2.resolve_left (by rw [c];decide))]
 refine .inr ⟨c,?_⟩
 cases hb:bad with
 |true=>exact .inl rfl
 |false=>simp only [Ut,Kk (h1.resolve_left (by rw [hb];decide)),d,b.resolve_left (by rw [hb];decide)];exact .inr trivial
theorem Zq1 (h1:bad=true\/isW [40] (L.drop n)=false)(hk: ∀ h:n<L.length,L[n].k≠2)(ho:Out L bad (Jk (L.drop n)) nm n2 false)(hw:isW [91] (L.drop n2)=true)
 (h3:Out L false (Vj f 1 (L.drop (n2+1))) x n3 b3) (h4:Out L b3 (W2 [93] (L.drop n3)) () n4 b4):Out L bad (Ut (f+1) (L.drop n)) (.mk 3 0 nm 0 false 0 [x]) n4 b4:=by
 have c:Ji (L.drop n)=none:=Dk fun t r e=>by
  have b:n<L.length:=by rcases dQ n L.length with h|h;exact h;rw [cO h] at e;cases e
  rw [aJ b] at e;cases e;exact hk b
 rcases ho with ⟨_,g,d⟩|⟨i,_⟩
 . subst g;have a:=h1.resolve_left (by decide);exact h3.seq h4 (fun _ h=>by simp only [Ut,Kk a,c,d,Mn hw,h]) (fun _ h k=>by simp only [Ut,Kk a,c,d,Mn hw,h,Dg.1 k]) (fun _ h r k=>by simp only [Ut,Kk a,c,d,Mn hw,h,Df.1 k])
 cases i
theorem expr_un (ho:Out L bad (unS f (L.drop n)) x n2 b2):Out L bad (Vj (f+1) 6 (L.drop n)) x n2 b2:=
 ho.up (fun _ r h=>by simp only [Vj,if_pos (show (5:Int)<6 by decide),h]) (fun _ h=>by simp only [Vj,if_pos (show (5:Int)<6 by decide),h])
def More (L:List Tk)(bad:Bool)(S:Option (PEx×List Tk))(g:Nat)(r:Int)(x:PEx)(n:Nat)(b:Bool):Prop:=(b=false/\bad=false/\S=Mu g r x (L.drop n))\/(b=true/\(bad=true\/S=none))
theorem More.first (hr:r<=5)(ho:Out L bad (Vj f (r+1) (L.drop n)) x n1 b1):More L bad (Vj (f+1) r (L.drop n)) f r x n1 b1:=by
 rcases ho with ⟨b,a,c⟩|⟨b,a⟩
 . exact .inl ⟨b,a,by simp only [Vj,if_neg (show ¬ (5:Int)<r by omega),c]⟩
 exact .inr ⟨b,a.imp id fun h=>by simp only [Vj,if_neg (show ¬ (5:Int)<r by omega),h]⟩
theorem More.over (h:More L bad S (g+1) r x n1 b1)(h0:b1=true\/Uh r (L.drop n1)=0):Out L bad S x n1 b1:=by
 rcases h with ⟨a,b,c⟩|⟨a,b⟩
 . exact .inl ⟨a,b,by rw [c];simp only [Mu,if_pos (h0.resolve_left (by rw [a];decide))]⟩
 exact .inr ⟨a,b⟩
theorem More.go (h:More L bad S (g+1) r x n1 false)(h0:Uh r (L.drop n1)≠0)(ho:Out L false (Vj g (r+1) (L.drop (n1+1))) y n2 b2)(h3:r≠3):More L bad S g r (.mk 6 0 em 0 false (Uh r (L.drop n1)) [x,y]) n2 b2:=by
 rcases h with ⟨_,c,a⟩|⟨d,_⟩
 . rcases ho with ⟨k1,_,b⟩|⟨k1,k2⟩
   . exact .inl ⟨k1,c,by rw [a];simp only [Mu,if_neg h0,tail_drop,b,if_neg h3]⟩
   exact .inr ⟨k1,.inr (by rw [a];simp only [Mu,if_neg h0,tail_drop,k2.resolve_left (by decide)])⟩
 cases d
theorem More.three (h:More L bad S (g+1) 3 x n1 false)(h0:Uh 3 (L.drop n1)≠0)(ho:Out L false (Vj g 4 (L.drop (n1+1))) y n2 b2):Out L bad S (.mk 6 0 em 0 false (Uh 3 (L.drop n1)) [x,y]) n2 b2:=by
 rcases h with ⟨_,c,a⟩|⟨d,_⟩
 . rcases ho with ⟨k1,_,b⟩|⟨k1,k2⟩
   . exact .inl ⟨k1,c,by rw [a];simp only [Mu,if_neg h0,tail_drop,show ((3:Int)+1)=4 from rfl,b,if_pos]⟩
   exact .inr ⟨k1,.inr (by rw [a];simp only [Mu,if_neg h0,tail_drop,show ((3:Int)+1)=4 from rfl,k2.resolve_left (by decide)])⟩
 cases d
end
def G5 (G:World)(la:Option Addr)(lc:Nat)(L:List Tk)(f:Nat):Prop:= ∀ {p n:Nat} {q:List HP} {bad:Bool} (r:Nat),Sees q la (L.flatMap tkC)->1<=r->r<=6->n<=L.length->10*(L.length - n)+9<=f+r->
 CallF prog G 201 [.pointer (some ⟨p,0,none⟩),I64 r] (rdH p la lc L n bad::q) (Ret fun v q'=> ∃ (e:Ex) (n':Nat) (bad':Bool),v= .agg (exC e).toArray/\q'=rdH p la lc L n' bad'::exM e::q/\n<=n'/\n'<=L.length/\Out L bad (Vj f r (L.drop n)) e.er n' bad')
abbrev A8 (v0:Nat):=([.pointer (some ⟨v0,0,none⟩)]:List Value)
def RdUn (G:World)(la:Option Addr)(lc:Nat)(L:List Tk)(f:Nat):Prop:= ∀ {p n:Nat} {q:List HP} {bad:Bool},Sees q la (L.flatMap tkC)->n<=L.length->10*(L.length - n)+2<=f->
 CallF prog G 206 (A8 p) (rdH p la lc L n bad::q) (Ret fun v q'=> ∃ (e:Ex) (n':Nat) (bad':Bool),v= .agg (exC e).toArray/\q'=rdH p la lc L n' bad'::exM e::q/\n<=n'/\n'<=L.length/\Out L bad (unS f (L.drop n)) e.er n' bad')
def RdPrim (G:World)(la:Option Addr)(lc:Nat)(L:List Tk)(f:Nat):Prop:= ∀ {p n:Nat} {q:List HP} {bad:Bool},Sees q la (L.flatMap tkC)->n<=L.length->10*(L.length - n)+1<=f->
 CallF prog G 208 (A8 p) (rdH p la lc L n bad::q) (Ret fun v q'=> ∃ (e:Ex) (n':Nat) (bad':Bool),v= .agg (exC e).toArray/\q'=rdH p la lc L n' bad'::exM e::q/\n<=n'/\n'<=L.length/\Out L bad (Ut f (L.drop n)) e.er n' bad')
theorem Uu:(prog.info? 124).map (fun i=>(i.zero,i.size,i.bytes))=some (some (.agg #[I64 0,I64 0,.string ⟨#[]⟩,I64 0,.bool false,I64 0,.slice none 0 0]),7,80):=by kernel_rfl
theorem un_step (IHu:RdUn G la lc L f)(IHp:RdPrim G la lc L f)(hL:Sees q la (L.flatMap tkC))(hn:L.length<=65536)(hnL:n<=L.length)(hfu:10*(L.length - n)+2<=f+1):CallF prog G 206 [.pointer (some ⟨p,0,none⟩)] (rdH p la lc L n bad::q) (Ret fun v q'=> ∃ (e:Ex) (n':Nat) (bad':Bool),v= .agg (exC e).toArray/\q'=rdH p la lc L n' bad'::exM e::q/\n<=n'/\n'<=L.length/\Out L bad (unS (f+1) (L.drop n)) e.er n' bad'):=by
 refine aC func206 ntmps206 rfl fun F cs=> ?_;refine xo 2 ?_;refine bW zeroValue124 fun n1=> ?_
 refine oo 5 ?_;refine Zb call150 leA (Ug (w:= [45]) (hL.le leA) hn) ?_;rintro _ _ (⟨rfl,⟨m,a,r⟩,rfl⟩|⟨rfl,a,rfl⟩)
 . refine oo 5 ?_;refine Zb call206 leA (IHu (hL.le leA) (by omega) (by omega)) ?_;rintro _ _ ⟨⟨k1,z1,i,l1,o1,p1,d,h,w1⟩,m2,b2,rfl,rfl,k,c,b⟩;refine bQ (Yz exC underlying122 Uu rfl rfl Z4 rfl) ?_;rintro _ _ ⟨g,rfl,rfl⟩;refine rn [1,0,1] ?_;subst m;refine Ih (kd:=4) (n:=0) (nm:=em) (slot:=0) (loc:=false) (op:=0) ?_;refine Zq (rdH p la lc L m2 b2::exM (.mk 4 0 em 0 false 0 [(.mk k1 z1 i l1 o1 p1 d h w1)] (some ⟨g,0,none⟩) 1)::q) func206 (rA_ results206) ⟨_,rfl,.mk 4 0 em 0 false 0 [(.mk k1 z1 i l1 o1 p1 d h w1)] (some ⟨g,0,none⟩) 1,m2,b2,rfl,rfl,by omega,c,un_neg a b⟩
 refine oo 7 ?_;refine Zb call150 leA (Ug (w:= [33]) (hL.le leA) hn) ?_;rintro _ _ (⟨rfl,⟨l,j,o⟩,rfl⟩|⟨rfl,j,rfl⟩)
 . refine oo 5 ?_;refine Zb call206 leA (IHu (hL.le leA) (by omega) (by omega)) ?_;rintro _ _ ⟨⟨k1,z1,i,l1,o1,p1,d,h,w1⟩,m2,b2,rfl,rfl,k,c,b⟩;refine bQ (Yz exC underlying122 Uu rfl rfl Z4 rfl) ?_;rintro _ _ ⟨g,rfl,rfl⟩;refine rn [1,0,1] ?_;subst l;replace a:=a.resolve_left (by decide);refine Ih (kd:=5) (n:=0) (nm:=em) (slot:=0) (loc:=false) (op:=0) ?_;refine Zq (rdH p la lc L m2 b2::exM (.mk 5 0 em 0 false 0 [(.mk k1 z1 i l1 o1 p1 d h w1)] (some ⟨g,0,none⟩) 1)::q) func206 (rA_ results206) ⟨_,rfl,.mk 5 0 em 0 false 0 [(.mk k1 z1 i l1 o1 p1 d h w1)] (some ⟨g,0,none⟩) 1,m2,b2,rfl,rfl,by omega,c,un_not a j b⟩
 refine oo 6 ?_;refine Zb call208 leA (IHp (hL.le leA) (by omega) (by omega)) ?_;rintro _ _ ⟨⟨k1,z1,i,l1,o1,p1,d,h,w1⟩,m2,b2,rfl,rfl,k,c,b⟩;refine rn [0,1] ?_;refine Zq (rdH p la lc L m2 b2::exM (.mk k1 z1 i l1 o1 p1 d h w1)::q) func206 (rA_ results206) ⟨_,rfl,(.mk k1 z1 i l1 o1 p1 d h w1),m2,b2,rfl,rfl,k,c,un_prim a j b⟩
theorem Zqe (IHe:G5 G la lc L f)(hL:Sees q la (L.flatMap tkC))(hn:L.length<=65536)(hnL:n<=L.length)(hfu:10*(L.length - n)+1<=f+1):CallF prog G 208 [.pointer (some ⟨p,0,none⟩)] (rdH p la lc L n bad::q) (Ret fun v q'=> ∃ (e:Ex) (n':Nat) (bad':Bool),v= .agg (exC e).toArray/\q'=rdH p la lc L n' bad'::exM e::q/\n<=n'/\n'<=L.length/\Out L bad (Ut (f+1) (L.drop n)) e.er n' bad'):=by
 refine aC func208 ntmps208 rfl fun F cs=> ?_;have x:=Zx (f:=tkC) (sz:=5) (fun _=>rfl) L;refine xo 2 ?_;refine bW zeroValue124 fun n1=> ?_
 refine oo 5 ?_;refine Zb call150 leA (Ug (w:= [40]) (hL.le leA) hn) ?_;rintro _ _ (⟨rfl,⟨e0,a,g0⟩,rfl⟩|⟨rfl,a,rfl⟩)
 . refine oo 5 ?_;refine Zb call201 leA (IHe 1 (hL.le leA) (by omega) (by omega) (by omega) (by omega)) ?_;rintro _ _ ⟨⟨k1,z1,t,l1,o1,p1,r,s,w1⟩,m3,b3,rfl,rfl,c0,o,l⟩;refine bW zeroValue124 fun n2=> ?_
   refine rn [0,4] ?_;refine Zb call149 leA (Ya (w:= [41]) (hL.le leA) hn o) ?_;rintro _ _ ⟨u,b4,rfl,rfl,b0,m,j⟩;refine rn [3,0,0,1] ?_;subst e0;refine Zq (rdH p la lc L u b4::exM (.mk k1 z1 t l1 o1 p1 r s w1)::q) func208 (rA_ results208) ⟨_,rfl,(.mk k1 z1 t l1 o1 p1 r s w1),u,b4,rfl,rfl,by omega,m,prim_par a l j⟩
 refine rn [5,0,1,2,3,4,5,6,7,8,9,10,11] ?_;refine gT 22 rfl ?_ ?_<;>intro y
 focus
  replace y:=sp y;refine rn [12,13,14,15,16,17,18,19] ?_;refine K5 hL (by rw [x];omega) fun b1 o1 e1=> ?_;have a0:=hL;rw [e1] at a0;refine dS 26 (.slice (some ⟨b1,o1,none⟩) L.length lc) rfl (by rw [e1]) ?_;refine rn [20,21,22,23,24,0] ?_;refine xp 35 ?_ ?_<;>intro h2
  . refine xo 4 ?_;refine Zb call151 leA (Kw (hL.le leA) hn hnL) ?_;rintro _ _ ⟨z,m2,b2,rfl,rfl,⟨c,_⟩,d,b⟩;refine rn [1,0,1] ?_;refine bY (Le.ex0 1 z em 0 false 0) ?_;refine Zq (rdH p la lc L m2 b2::exM (.mk 1 z em 0 false 0 [] none 0)::q) func208 (rA_ results208) ⟨_,rfl,.mk 1 z em 0 false 0 [] none 0,m2,b2,rfl,rfl,c,d,prim_num a (by omega) h2 b⟩
  refine xo 5 ?_;refine Zb call148 leA (Jl (hL.le leA) hn hnL) ?_;rintro _ _ ⟨nm,m2,b2,rfl,rfl,⟨c,_⟩,d,b⟩;refine oo 1 ?_;refine bW zeroValue124 fun n2=> ?_
  refine rn [0,5] ?_;have hk: ∀ h:n<L.length,L[n].k≠2:=fun _=>h2
 rotate_left
 focus
  replace y:=sp y;refine rn [12,13,14,15,16,17,18,19,20,21,22,23,24,0,5] ?_;refine Zb call148 leA (Jl (hL.le leA) hn hnL) ?_;rintro _ _ ⟨nm,m2,b2,rfl,rfl,⟨c,_⟩,d,b⟩;refine oo 1 ?_;refine bW zeroValue124 fun n2=> ?_
  refine rn [0,5] ?_;have hk: ∀ h:n<L.length,L[n].k≠2:=fun h=>aR h (by omega)
 all_goals
  refine Zb call150 leA (Ug (w:= [91]) (hL.le leA) hn) ?_;rintro _ _ (⟨rfl,⟨d0,i,f0⟩,rfl⟩|⟨rfl,i,rfl⟩)
  . refine rn [5,0,4] ?_;subst d0;refine Zb call201 leA (IHe 1 (hL.le leA) (by omega) (by omega) (by omega) (by omega)) ?_;rintro _ _ ⟨⟨k1,z1,t,l1,o1,p1,r,s,w1⟩,m3,b3,rfl,rfl,c0,o,l⟩;refine bQ (Yz exC underlying122 Uu rfl rfl Z4 rfl) ?_;rintro _ _ ⟨g,rfl,rfl⟩;refine rn [1,0,3] ?_;refine Zb call149 leA (Ya (w:= [93]) (hL.le leA) hn o) ?_;rintro _ _ ⟨u,b4,rfl,rfl,b0,m,j⟩;refine rn [3,0,0,1] ?_;refine Ih (kd:=3) (n:=0) (nm:=nm) (slot:=0) (loc:=false) (op:=0) ?_;refine Zq (rdH p la lc L u b4::exM (.mk 3 0 nm 0 false 0 [(.mk k1 z1 t l1 o1 p1 r s w1)] (some ⟨g,0,none⟩) 1)::q) func208 (rA_ results208) ⟨_,rfl,.mk 3 0 nm 0 false 0 [(.mk k1 z1 t l1 o1 p1 r s w1)] (some ⟨g,0,none⟩) 1,u,b4,rfl,rfl,by omega,m,Zq1 a hk b i l j⟩
  refine rn [5,0,0,1] ?_;refine bY (Le.ex0 2 0 nm 0 false 0) ?_;refine Zq (rdH p la lc L m2 b2::exM (.mk 2 0 nm 0 false 0 [] none 0)::q) func208 (rA_ results208) ⟨_,rfl,.mk 2 0 nm 0 false 0 [] none 0,m2,b2,rfl,rfl,c,d,Zq0 a hk b i⟩
theorem Zzv {r:Nat}(IHu:RdUn G la lc L f)(IHe: ∀ g,g<=f->G5 G la lc L g)(hL:Sees q la (L.flatMap tkC))(hn:L.length<=65536)(hnL:n<=L.length)(h1r:1<=r)(h6r:r<=6)(hfu:10*(L.length - n)+9<=f+1+r):CallF prog G 201 [.pointer (some ⟨p,0,none⟩),I64 r] (rdH p la lc L n bad::q) (Ret fun v q'=> ∃ (e:Ex) (n':Nat) (bad':Bool),v= .agg (exC e).toArray/\q'=rdH p la lc L n' bad'::exM e::q/\n<=n'/\n'<=L.length/\Out L bad (Vj (f+1) r (L.drop n)) e.er n' bad'):=by
 refine aC func201 ntmps201 rfl fun F cs=> ?_;refine xo 2 ?_;refine bW zeroValue124 fun n1=> ?_
 refine ox 7 ?_;refine xp 8 ?_ ?_<;>intro h0
 . obtain rfl:r=6:=by omega
   refine xo 4 ?_;refine Zb call206 leA (IHu (hL.le leA) (by omega) (by omega)) ?_;rintro _ _ ⟨⟨k1,z1,c,l1,o1,p1,a,b,w1⟩,m2,b2,rfl,rfl,j,m,h⟩;refine rn [0,1] ?_;refine Zq (rdH p la lc L m2 b2::exM (.mk k1 z1 c l1 o1 p1 a b w1)::q) func201 (rA_ results201) ⟨_,rfl,(.mk k1 z1 c l1 o1 p1 a b w1),m2,b2,rfl,rfl,j,m,expr_un h⟩
 have g0:r<=5:=by omega
 refine xo 7 ?_;refine Zb call201 leA (IHe f (aL _) (r+1) (hL.le leA) (by omega) (by omega) (by omega) (by omega)) ?_;rintro _ _ ⟨⟨k1,z1,c,l1,o1,p1,a,b,w1⟩,m2,b2,rfl,rfl,j,m,h⟩;refine bW zeroValue124 fun n2=> ?_
 refine rn [0,3] ?_;have hS:=More.first (by omega) h;generalize Vj (f+1) (r:Int) (L.drop n)=S at hS|-;refine aY (cG (fun (s:Ex×Nat×Bool×Nat)=>n<=s.2.1/\s.2.1<=L.length/\s.2.2.2<=f/\10*(L.length - s.2.1)+1<=s.2.2.2/\More L bad S s.2.2.2 r s.1.er s.2.1 s.2.2.1) (fun s=> [(0,.pointer (some ⟨p,0,none⟩)),(1,I64 r),(4,pt n1),(5,pt n2)]) (fun s=>rdH p la lc L s.2.1 s.2.2.1::pto n2 (.cells (exC s.1).toArray 124 (0,0))::pto n1 (.cells zz4.toArray 124 (0,0))::exM s.1::(q++F)) (fun s=>L.length - s.2.1) (fun s t ih=> ?_) ((.mk k1 z1 c l1 o1 p1 a b w1),m2,b2,f) ⟨j,m,aL _,by dsimp only;omega,hS⟩) Zu leA;try dsimp only at t ih|-
 obtain ⟨b0,a0,f0,e0,l⟩:=t;obtain ⟨⟨k1,z1,c,l1,o1,p1,a,b,w1⟩,d,b1,g⟩:=s;dsimp only at*;clear h hS;obtain ⟨g,rfl⟩: ∃ g2,g=g2+1:=⟨g - 1,by omega⟩;refine xo 5 ?_;refine aO call207 (Xm (n:=d) (bad:=b1) (r:=(r:Int)) Qu (hL.le leA) hn) ?_;refine ox 2 ?_;refine xp 18 ?_ ?_<;>intro i
 . obtain rfl:b1=false:=by cases b1 with|false=>rfl|true=>(rw [if_pos rfl] at i;exact aR i (by decide))
   replace i:Uh r (L.drop d)≠0:=fun k=>by rw [if_neg (by decide),k] at i;exact aR i (by decide)
   have d0:=C8 i;refine xo 7 ?_;refine aO call207 (Xm (n:=d) (bad:=false) (r:=(r:Int)) Qu (hL.le leA) hn) ?_;refine bA 21 (I64 (Uh r (L.drop d):Nat)) rfl (rfl) ?_;refine rn [7,0,3,0,2,0,1,2,3,4,5] ?_;refine Wy 5 call201 leA (IHe g (by omega) (r+1) (n:=d+1) (bad:=false) (hL.le leA) (by omega) (by omega) (by omega) (by omega)) ?_;rintro _ _ ⟨⟨k2,x,s2,l2,o2,p2,y,u2,z⟩,m3,b3,rfl,rfl,c0,w,o⟩;refine ⟨hlA,?_⟩;refine fC 6 rfl (Ef.litR2 (u:=(.mk k1 z1 c l1 o1 p1 a b w1)) (v:=(.mk k2 x s2 l2 o2 p2 y u2 z)) exC underlying122 Uu rfl rfl Z4 rfl rfl) ?_;rintro _ _ ⟨g3,rfl,rfl⟩;refine ⟨trivial,?_⟩;refine rn [8,9,0,5] ?_;refine X.fzE2 (kd:=6) (n:=0) (nm:=em) (slot:=0) (loc:=false) (op:=(Uh r (L.drop d):Nat)) ?_;refine xp 38 ?_ ?_<;>intro h3
   . obtain rfl:r=3:=by omega
     refine rn [3,0,0,1] ?_;refine Zq (rdH p la lc L m3 b3::exM (.mk 6 0 em 0 false (Uh (3:Nat) (L.drop d):Nat) [(.mk k1 z1 c l1 o1 p1 a b w1),(.mk k2 x s2 l2 o2 p2 y u2 z)] (some ⟨g3,0,none⟩) 2)::q) func201 (rA_ results201) ⟨_,rfl,(.mk 6 0 em 0 false (Uh (3:Nat) (L.drop d):Nat) [(.mk k1 z1 c l1 o1 p1 a b w1),(.mk k2 x s2 l2 o2 p2 y u2 z)] (some ⟨g3,0,none⟩) 2),m3,b3,rfl,rfl,by omega,w,l.three i o⟩
   refine xx 3 ?_;refine aY (ih ((.mk 6 0 em 0 false (Uh r (L.drop d):Nat) [(.mk k1 z1 c l1 o1 p1 a b w1),(.mk k2 x s2 l2 o2 p2 y u2 z)] (some ⟨g3,0,none⟩) 2),m3,b3,g) ⟨by dsimp only;omega,w,by dsimp only;omega,by dsimp only;omega,l.go i o (by omega)⟩ (by dsimp only;omega)) Zu leA
 refine rn [4,0,0,1] ?_;refine Zq (rdH p la lc L d b1::exM (.mk k1 z1 c l1 o1 p1 a b w1)::q) func201 (rA_ results201) ⟨_,rfl,(.mk k1 z1 c l1 o1 p1 a b w1),d,b1,rfl,rfl,b0,a0,l.over (by cases b1 with|true=>exact .inl rfl|false=>rw [if_neg (by decide)] at i;exact .inr (by omega))⟩
theorem Zqi (hn:L.length<=65536): ∀ f,G5 G la lc L f/\RdUn G la lc L f/\RdPrim G la lc L f:=by
 intro f
 induction f using Nat.strongRecOn with
 |ind f ih=>
  cases f with
  |zero=>exact ⟨fun r c e d a b=>by omega,fun c a b=>by omega,fun c a b=>by omega⟩
  |succ f=>
   have h:=ih f (gC _);exact ⟨fun r c e d a b=>Zzv h.2.1 (fun g i=>(ih g (by omega)).1) c hn a e d b,fun c a b=>un_step h.2.1 h.2.2 c hn a b,fun c a b=>Zqe h.1 c hn a b⟩
def Ex.z:Ex:= .mk 0 0 em 0 false 0 [] none 0
section
variable {k:Int}{ba:Option Addr}
theorem Kn.exz:Kn q fun M=>Ex.z.At M:=fun M _ _=>⟨SlAt.nil M,trivial⟩
theorem Of:Kn q fun M=>BlkAt M none 0 []:=fun M _ _=>⟨SlAt.nil M,trivial⟩
theorem Kn.st (he:Kn q fun M=>e.At M:=by first|exact Kn.exz|exact knA)(hx:Kn q fun M=>ix.At M:=by first|exact Kn.exz|exact knA)(hb:Kn q fun M=>BlkAt M ba bc body:=by first|exact Of|exact knA)(hl:Kn q fun M=>BlkAt M ea ec els:=by first|exact Of|exact knA):
 Kn q fun M=>(Stm.mk k ln cl nm wt e ix body els ba bc ea ec id slot other loc).At M:=fun M x p=>⟨he M x p,hx M x p,hb M x p,(hl M x p).1,(hl M x p).2⟩
abbrev jA:=@Kn.st
theorem Qx {p:PE}(s:Stm)(h:Kn q fun M=>s.At M)(K:X P G fr Q todo p ds cs (stM s::q)):X P G fr Q todo p ds cs q:= .le (cZ h) K
end
theorem X.sts {p:PE}{q1 q2:List HP}{l:List Stm}{s:Stm}(h1:Le q (stsM l::q1))(h2:Le q1 (stM s::q2))(K:X P G fr Q todo p ds cs (stsM (l++ [s])::q2)):X P G fr Q todo p ds cs q:= .le (h1.trans ((dD _ h2).trans H5)) K
theorem Ry (l m:List Stm):Zj (l++m)=Zj l++Zj m:=by simp [Yf]
theorem N5 {W:List Bs}{ts:List Tk}: ∀ {k:Nat},Jw W ts k<=k
 |0=>aL _
 |k+1=>by unfold Jw;split;exact aL _;exact Nat.le_succ_of_le N5
theorem Dp {W:List Bs}{L:List Tk}{n:Nat}: ∀ {k:Nat},Jw W (L.drop n) k≠0->n<L.length
 |0,h=>aR rfl h
 |k+1,h=>by
  unfold Jw at h;split at h
  . rename_i g;exact Si g.2
  exact Dp h
theorem baNil (w:Bs):(ba w).toList=(ByteArray.mk #[]).toList↔w= []:=by rw [sEq,V3];exact Iff.rfl
section
variable {b:Bool}{m2:Nat}{s:PStm}{k:Int}{p:Int×Int}
theorem stmt_0 (hk:bad=true\/Vc (L.drop n)=0)(ho:Out L bad (Jk (L.drop n)) nm m2 b2)(hr:Out L b2 (Ud f 0 (Zc (L.drop n)) nm (L.drop m2)) s m b):Out L bad (U8 (f+1) (L.drop n)) s m b:=by
 cases bad with
 |true=>
  have c:=ho.isBad;subst c;have a:=hr.isBad;subst a;exact .any
 |false=>
  have hk:=hk.resolve_left (by decide);rw [U8,hk,if_neg (by decide),if_neg (by decide),if_neg (by decide)];exact ho.bnd hr
theorem Bh (h0:Vc (L.drop n)≠0)(h1:Vc (L.drop n)≠4/\Vc (L.drop n)≠5/\Vc (L.drop n)≠14/\Vc (L.drop n)≠15)(ho:Out L false (Jk (L.drop (n+1))) nm m2 b2)(hr:Out L b2 (Ud f (Vc (L.drop n)) (Zc (L.drop n)) nm (L.drop m2)) s m b):Out L false (U8 (f+1) (L.drop n)) s m b:=by
 rw [U8,if_neg (by omega),if_neg (by omega),if_pos (by omega),tail_drop];exact ho.bnd hr
theorem stmt_j (h1:Vc (L.drop n)=14\/Vc (L.drop n)=15)(hr:Out L false (Ud f (Vc (L.drop n)) (Zc (L.drop n)) em (L.drop (n+1))) s m b):Out L false (U8 (f+1) (L.drop n)) s m b:=by
 rw [U8,if_neg (by omega),if_pos h1,tail_drop];exact hr
theorem rest_0 {l:Option (PStm×List Tk)}(hw:b2=true\/isW [91] (L.drop m2)=false)(e:l=bnd (W2 [61] (L.drop m2)) fun _ r=>bnd (Vj f 1 r) fun e r=>bnd (W2 [59] r) fun _ r=>some (.mk 2 p.1 p.2 nm em e .z [] [] 0 0 0 false,r))(hr:Out L b2 l s m b):Out L b2 (Ud f 0 p nm (L.drop m2)) s m b:=by
 subst e
 cases b2 with
 |true=>have h:=hr.isBad;subst h;exact .any
 |false=>rw [Ud,if_pos rfl,if_neg (by rw [hw.resolve_left (by decide)];decide)];exact hr
def MoreB (L:List Tk)(bad:Bool)(S:Option (List PStm×List Tk))(g:Nat)(l:List PStm)(n:Nat)(b:Bool):Prop:=(b=false/\bad=false/\S=(We g (L.drop n)).map fun x=>(l++x.1,x.2))\/(b=true/\(bad=true\/S=none))
theorem MoreB.first (S:Option (List PStm×List Tk))(e:bad=false->S=We f (L.drop n)):MoreB L bad S f [] n bad:=by
 cases bad with
 |true=>exact .inr ⟨rfl,.inl rfl⟩
 |false=>exact .inl ⟨rfl,rfl,by rw [e rfl];cases We f (L.drop n)<;>rfl⟩
theorem MoreB.over {l:List PStm}(h:MoreB L bad S f l n b)(hg:b=false->0<f)(h0:b=true\/isW [125] (L.drop n)=true):Out L bad S l n b:=by
 rcases h with ⟨a,c,d⟩|⟨a,c⟩
 . obtain ⟨g,rfl⟩: ∃ g,f=g+1:=⟨f - 1,by have:=hg a;omega⟩;exact .inl ⟨a,c,by rw [d,We,if_pos (h0.resolve_left (by rw [a];decide))];simp⟩
 exact .inr ⟨a,c⟩
theorem MoreB.go {l:List PStm}(h:MoreB L bad S (f+1) l n false)(h0:isW [125] (L.drop n)=false)(ho:Out L false (U8 f (L.drop n)) s m b):MoreB L bad S f (l++ [s]) m b:=by
 rcases h with ⟨_,d,a⟩|⟨e,_⟩
 . rcases ho with ⟨k1,_,c⟩|⟨k1,k2⟩
   . refine .inl ⟨k1,d,?_⟩;rw [a,We,if_neg (by rw [h0];decide),c];simp only [bnd]
     cases We f (L.drop m)<;>simp [bnd]
   refine .inr ⟨k1,.inr ?_⟩;rw [a,We,if_neg (by rw [h0];decide),k2.resolve_left (by decide)];rfl
 cases e
theorem name_adv (ho:Out L bad (Jk (L.drop n)) nm m2 false)(h:m2<=L.length):n<m2:=by
 rcases ho with ⟨_,_,e⟩|⟨e,_⟩
 . rcases dQ n L.length with a|b
   . rw [Db a] at e;split at e
     . have:=bK List.length (kJ (gN e)).2;simp at this;omega
     cases e
   rw [Fx b] at e;cases e
 cases e
theorem adv0 {sp:Option (PStm×List Tk)}(ho:Out L bad (Jk (L.drop n)) nm m2 b2)(hr:Out L b2 sp s m b)(hb:b=false)(h:m2<=L.length):n<m2:=by
 subst hb;rcases hr with ⟨_,e,_⟩|⟨e,_⟩
 . subst e;exact name_adv ho h
 cases e
end
def RdStmt (G:World)(la:Option Addr)(lc:Nat)(L:List Tk)(f:Nat):Prop:= ∀ {p n:Nat} {q:List HP} {bad:Bool},Sees q la (L.flatMap tkC)->n<=L.length->10*(L.length - n)+11<=f->
 CallF prog G 181 (A8 p) (rdH p la lc L n bad::q) (Ret fun v q'=> ∃ (s:Stm) (n':Nat) (bad':Bool),v= .agg (stC s).toArray/\q'=rdH p la lc L n' bad'::stM s::q/\(n<=n'/\(bad'=false->n<n'))/\n'<=L.length/\Out L bad (U8 f (L.drop n)) s.er n' bad')
def X2 (G:World)(la:Option Addr)(lc:Nat)(L:List Tk)(f:Nat):Prop:= ∀ {p n:Nat} {q:List HP} {bad:Bool},Sees q la (L.flatMap tkC)->n<=L.length->10*(L.length - n)+13<=f->
 CallF prog G 152 (A8 p) (rdH p la lc L n bad::q) (Ret fun v q'=> ∃ (a:Option Addr) (c:Nat) (l:List Stm) (n':Nat) (bad':Bool),v= .slice a l.length c/\q'=rdH p la lc L n' bad'::blM a c l::q/\n<=n'/\n'<=L.length/\Out L bad (Ke f (L.drop n)) (Zj l) n' bad')
theorem V7:(prog.info? 126).map (fun i=>(i.zero,i.size,i.bytes))=some (some (.agg #[I64 0,I64 0,I64 0,.string ⟨#[]⟩,.string ⟨#[]⟩,I64 0,I64 0,.string ⟨#[]⟩,I64 0,.bool false,I64 0,.slice none 0 0,I64 0,I64 0,.string ⟨#[]⟩,I64 0,.bool false,I64 0,.slice none 0 0,.slice none 0 0,.slice none 0 0,I64 0,I64 0,I64 0,.bool false]),25,296):=by kernel_rfl
theorem kinds_ok:CallF prog G 200 [] ([]) (Ret fun v q'=> ∃ g,v= .slice (some ⟨g,0,none⟩) 16 16/\q'= [lsH (fun w:Bs=>Value.string (ba w)) 9 (some ⟨g,0,none⟩) 16 kindL]):=by
 refine aC func200 ntmps200 rfl fun F cs=> ?_;refine xo 6 ?_;refine bQ (Yp (fun w:Bs=>Value.string (ba w)) kindL underlying25 Wh rfl rfl rfl rfl rfl rfl (fun _=>rfl)) ?_;rintro _ _ ⟨g,rfl,rfl⟩;refine ox 2 ?_;refine Zq [lsH (fun w:Bs=>Value.string (ba w)) 9 (some ⟨g,0,none⟩) 16 kindL] func200 (Zn results200 rfl) ⟨_,rfl,g,rfl,rfl⟩
abbrev AR :=((.cells zz2.toArray 126 (0,0)):Obj)
theorem Zqm (hE:G5 G la lc L f)(hB:X2 G la lc L f)(hL:Sees q la (L.flatMap tkC))(hn:L.length<=65536)(hnL:n<=L.length)(hfu:10*(L.length - n)+11<=f+1):CallF prog G 181 [.pointer (some ⟨p,0,none⟩)] (rdH p la lc L n bad::q) (Ret fun v q'=> ∃ (s:Stm) (n':Nat) (bad':Bool),v= .agg (stC s).toArray/\q'=rdH p la lc L n' bad'::stM s::q/\(n<=n'/\(bad'=false->n<n'))/\n'<=L.length/\Out L bad (U8 (f+1) (L.drop n)) s.er n' bad'):=by
 refine aC func181 ntmps181 rfl fun F cs=> ?_;obtain ⟨K,hK⟩: ∃ K:Nat->Nat,K=fun j=>if bad=true then 0 else Jw kindL (L.drop n) j:=⟨_,rfl⟩
 refine xo 2 ?_;refine bW zeroValue126 fun n1=> ?_
 refine oo 4 ?_;refine Zb call146 leA (pos_ok (hL.le leA) hn) ?_;rintro _ _ ⟨rfl,rfl⟩;refine oo 1 ?_;refine bW zeroValue126 fun n2=> ?_
 refine rn [0,3] ?_;refine W3 call200 (kinds_ok) ?_;refine kd1 fun gk=> ?_
 refine ox 8 ?_;have m0:K 0=0:=by rw [hK];cases bad<;>rfl
 refine aY (cG (fun (s:Nat)=>s<=15) (fun s=> [(0,.pointer (some ⟨p,0,none⟩)),(2,pt n1),(3,pt n2),(4,.slice (some ⟨gk,0,none⟩) 16 16),(5,I64 ((s+1:Nat):Int))]) (fun s=>rdH p la lc L n bad::pto n2 (.cells (stC (.mk (K s) (Zc (L.drop n)).1 (Zc (L.drop n)).2 em em .z .z [] [] none 0 none 0 0 0 0 false)).toArray 126 (0,0))::pto n1 AR::lsH (fun w:Bs=>Value.string (ba w)) 9 (some ⟨gk,0,none⟩) 16 kindL::(q++F)) (fun s=>15 - s) (fun s e0 ih=> ?_) 0 (by omega)) Zu (by rw [m0];exact leA);try dsimp only at e0 ih|-
 obtain hs:=e0;refine xx 8 ?_;refine xp 14 ?_ ?_<;>intro h0
 . have c0:s+1<kindL.length:=by show s+1<16;omega
   refine xo 9 ?_;refine ld ?_ (hc:=(jN (n:=s+1) (bR _) Zk c0 rfl));refine oo 2 ?_;refine Zf [22,0,2,3,4,5] ?_;apply Zp 7 29 22 rfl
   . intro g1 M1;have h1:=sp g1;refine oo 4 ?_;refine ld ?_ (hc:=(jN (n:=s+1) (bR _) Zk c0 rfl));refine aO call147 (Px (n:=n) (bad:=bad) (s:=ba kindL[s+1]) Qu (hL.le leA) hn) ?_;refine oo 1 ?_;exact Zz M1 ⟨Wq g1,Zv⟩
   . intro g1 M1;have h1:=sp g1;refine oo 7 ?_;exact Zz M1 ⟨Wz g1,Zv⟩
   refine ox 1 ?_;refine xp 29 ?_ ?_<;>intro h1
   . refine rn [4,0,7] ?_;have g0:K (s+1)=s+1:=by rw [hK];dsimp only;rw [V3,<-gD (d:= []) c0,baNil] at h1;rw [if_neg (by rw [h1.2.1];decide),Jw,if_pos ⟨h1.1,h1.2.2⟩]
     refine aY (ih (s+1) (by omega) (by omega)) Zu (by rw [g0];exact leA)
   refine xx 8 ?_;have g0:K (s+1)=K s:=by rw [hK];dsimp only;rw [V3,<-gD (d:= []) c0,baNil] at h1;cases bad with|true=>rfl|false=>rw [if_neg (by decide),if_neg (by decide),Jw,if_neg (fun k=>by simp_all)]
   refine aY (ih (s+1) (by omega) (by omega)) Zu (by rw [g0];exact leA)
 obtain rfl:s=15:=by omega
 obtain ⟨k,hk⟩: ∃ k,K 15=k:=⟨_,rfl⟩;rw [hk];rw [hK] at hk;dsimp only at hk;clear ih hK m0 e0 h0;have s0:k<=15:=by rw [<-hk];cases bad;exact N5;exact bB _
 have k0:k≠0->bad=false/\Vc (L.drop n)=k/\n<L.length:=fun h=>by cases bad with|true=>exact aR hk.symm h|false=>exact ⟨rfl,hk,Dp (by rw [show Jw kindL (L.drop n) 15=k from hk];exact h)⟩
 have f0:k=0\/k=1\/k=8\/k=12\/k=11\/k=15\/k=14\/(k=4\/k=5)\/(k=2\/k=3\/k=6\/k=7\/k=9\/k=10\/k=13):=by omega
 rcases f0 with rfl|rfl|rfl|rfl|rfl|rfl|rfl|f0|f0
 . have l0:bad=true\/Vc (L.drop n)=0:=by cases bad;exact .inr hk;exact .inl rfl
   refine rn [5,0,8,1035,8,1045,4,1048,8,2067,4,2070,3] ?_;refine Zb call148 leA (Jl (n:=n) (hL.le leA) hn hnL) ?_;rintro _ _ ⟨nm,m2,b2,rfl,rfl,⟨b0,_⟩,l,b⟩;refine rn [1,0,12,2075,4,0,5] ?_;refine Zb call150 leA (Ug (w:= [91]) (n:=m2) (hL.le leA) hn) ?_;rintro _ _ (⟨rfl,⟨hb,hw,j0⟩,rfl⟩|⟨rfl,hw,rfl⟩)
   . subst hb;refine rn [5,0,4] ?_;refine Zb call201 leA (hE 1 (n:=(m2+1)) (hL.le leA) (by omega) (by omega) (by omega) (by omega)) ?_;rintro _ _ ⟨⟨k1,z1,i,l1,o1,p1,e,g,w1⟩,t,b3,rfl,rfl,x,c,a⟩;refine rn [1,0,3] ?_;refine Zb call149 leA (Ya (w:= [93]) (n:=t) (hL.le leA) hn c) ?_;rintro _ _ ⟨u,b4,rfl,rfl,y,r,m⟩;refine oo 4 ?_;refine Zb call149 leA (Ya (w:= [61]) (n:=u) (hL.le leA) hn r) ?_;rintro _ _ ⟨m5,b5,rfl,rfl,i0,d0,a0⟩;refine oo 3 ?_;refine Zb call201 leA (hE 1 (n:=m5) (hL.le leA) (by omega) (by omega) (by omega) (by omega)) ?_;rintro _ _ ⟨⟨k2,z2,s2,l2,o2,p2,y2,u2,w2⟩,m6,b6,rfl,rfl,u0,r0,o0⟩;refine rn [1,0,5] ?_;refine Zb call149 leA (Ya (w:= [59]) (n:=m6) (hL.le leA) hn r0) ?_;rintro _ _ ⟨m7,b7,rfl,rfl,t0,q0,n0⟩;refine rn [3,0,0,1] ?_;have hr:Out L false (Ud f 0 (Zc (L.drop n)) nm (L.drop m2)) (Stm.er (.mk 3 (Zc (L.drop n)).1 (Zc (L.drop n)).2 nm em (.mk k2 z2 s2 l2 o2 p2 y2 u2 w2) (.mk k1 z1 i l1 o1 p1 e g w1) [] [] none 0 none 0 0 0 0 false)) m7 b7:=(by rw [Ud,if_pos rfl,if_pos hw,tail_drop];exact a.bnd (m.bnd (a0.bnd (o0.bnd (n0.bnd .ret)))));refine Qx (.mk 3 (Zc (L.drop n)).1 (Zc (L.drop n)).2 nm em (.mk k2 z2 s2 l2 o2 p2 y2 u2 w2) (.mk k1 z1 i l1 o1 p1 e g w1) [] [] none 0 none 0 0 0 0 false) jA ?_;refine Zq (rdH p la lc L m7 b7::stM (.mk 3 (Zc (L.drop n)).1 (Zc (L.drop n)).2 nm em (.mk k2 z2 s2 l2 o2 p2 y2 u2 w2) (.mk k1 z1 i l1 o1 p1 e g w1) [] [] none 0 none 0 0 0 0 false)::q) func181 (rA_ results181) ⟨_,rfl,(.mk 3 (Zc (L.drop n)).1 (Zc (L.drop n)).2 nm em (.mk k2 z2 s2 l2 o2 p2 y2 u2 w2) (.mk k1 z1 i l1 o1 p1 e g w1) [] [] none 0 none 0 0 0 0 false),m7,b7,rfl,rfl,⟨by omega,fun hb=>by have:=adv0 b hr hb l;omega⟩,q0,stmt_0 l0 b hr⟩
   refine oo 6 ?_;refine Zb call149 leA (Ya (w:= [61]) (n:=m2) (hL.le leA) hn l) ?_;rintro _ _ ⟨t,b3,rfl,rfl,x,c,a⟩;refine oo 3 ?_;refine Zb call201 leA (hE 1 (n:=t) (hL.le leA) (by omega) (by omega) (by omega) (by omega)) ?_;rintro _ _ ⟨⟨k1,z1,i,l1,o1,p1,e,g,w1⟩,u,b4,rfl,rfl,y,r,m⟩;refine rn [1,0,5] ?_;refine Zb call149 leA (Ya (w:= [59]) (n:=u) (hL.le leA) hn r) ?_;rintro _ _ ⟨m5,b5,rfl,rfl,i0,d0,a0⟩;refine rn [3,0,0,1] ?_;have hr:Out L b2 (Ud f 0 (Zc (L.drop n)) nm (L.drop m2)) (Stm.er (.mk 2 (Zc (L.drop n)).1 (Zc (L.drop n)).2 nm em (.mk k1 z1 i l1 o1 p1 e g w1) .z [] [] none 0 none 0 0 0 0 false)) m5 b5:=rest_0 hw rfl (a.bnd (m.bnd (a0.bnd .ret)));refine Qx (.mk 2 (Zc (L.drop n)).1 (Zc (L.drop n)).2 nm em (.mk k1 z1 i l1 o1 p1 e g w1) .z [] [] none 0 none 0 0 0 0 false) jA ?_;refine Zq (rdH p la lc L m5 b5::stM (.mk 2 (Zc (L.drop n)).1 (Zc (L.drop n)).2 nm em (.mk k1 z1 i l1 o1 p1 e g w1) .z [] [] none 0 none 0 0 0 0 false)::q) func181 (rA_ results181) ⟨_,rfl,(.mk 2 (Zc (L.drop n)).1 (Zc (L.drop n)).2 nm em (.mk k1 z1 i l1 o1 p1 e g w1) .z [] [] none 0 none 0 0 0 0 false),m5,b5,rfl,rfl,⟨by omega,fun hb=>by have:=adv0 b hr hb l;omega⟩,d0,stmt_0 l0 b hr⟩
 iterate 4
  focus
   obtain ⟨rfl,o,p0⟩:=k0 (by omega);refine rn [5,0,8,2035,5,0,3,0,7,1045,4,1048,8,2067,4,2070,3] ?_;refine Zb call148 leA (Jl (n:=(n+1)) (hL.le leA) hn (by omega)) ?_;rintro _ _ ⟨nm,m2,b2,rfl,rfl,⟨b0,_⟩,l,b⟩;refine rn [1,0,12,1075,6] ?_
  rotate_left
 iterate 4
  focus
   obtain ⟨rfl,o,p0⟩:=k0 (by omega);refine rn [5,0,8,2035,5,0,3,0,7] ?_
  rotate_left
 . refine rn [2091,4] ?_;refine Zb call149 leA (Ya (w:= [61]) (n:=m2) (hL.le leA) hn l) ?_;rintro _ _ ⟨t,b3,rfl,rfl,x,c,a⟩;refine oo 3 ?_;refine Zb call201 leA (hE 1 (n:=t) (hL.le leA) (by omega) (by omega) (by omega) (by omega)) ?_;rintro _ _ ⟨⟨k1,z1,i,l1,o1,p1,e,g,w1⟩,u,b4,rfl,rfl,y,r,m⟩;refine rn [1,0,5] ?_;refine Zb call149 leA (Ya (w:= [59]) (n:=u) (hL.le leA) hn r) ?_;rintro _ _ ⟨m5,b5,rfl,rfl,i0,d0,a0⟩;refine rn [3,0,0,1] ?_;refine Qx (.mk (1:Nat) (Zc (L.drop n)).1 (Zc (L.drop n)).2 nm em (.mk k1 z1 i l1 o1 p1 e g w1) .z [] [] none 0 none 0 0 0 0 false) jA ?_;refine Zq (rdH p la lc L m5 b5::stM (.mk (1:Nat) (Zc (L.drop n)).1 (Zc (L.drop n)).2 nm em (.mk k1 z1 i l1 o1 p1 e g w1) .z [] [] none 0 none 0 0 0 0 false)::q) func181 (rA_ results181) ⟨_,rfl,(.mk (1:Nat) (Zc (L.drop n)).1 (Zc (L.drop n)).2 nm em (.mk k1 z1 i l1 o1 p1 e g w1) .z [] [] none 0 none 0 0 0 0 false),m5,b5,rfl,rfl,⟨by omega,fun _=>by omega⟩,d0,Bh (by omega) (by omega) b (by rw [o,Ud,if_neg (by decide),if_pos (by decide)];exact a.bnd (m.bnd (a0.bnd .ret)))⟩
 . refine rn [1091,7,2098,5] ?_;refine Zb call148 leA (Jl (n:=m2) (hL.le leA) hn l) ?_;rintro _ _ ⟨wt,t,b3,rfl,rfl,⟨x,_⟩,c,a⟩;refine rn [1,0,5] ?_;refine Zb call149 leA (Ya (w:= [59]) (n:=t) (hL.le leA) hn c) ?_;rintro _ _ ⟨u,b4,rfl,rfl,y,r,m⟩;refine rn [3,0,0,1] ?_;refine Qx (.mk (8:Nat) (Zc (L.drop n)).1 (Zc (L.drop n)).2 nm wt .z .z [] [] none 0 none 0 0 0 0 false) jA ?_;refine Zq (rdH p la lc L u b4::stM (.mk (8:Nat) (Zc (L.drop n)).1 (Zc (L.drop n)).2 nm wt .z .z [] [] none 0 none 0 0 0 0 false)::q) func181 (rA_ results181) ⟨_,rfl,(.mk (8:Nat) (Zc (L.drop n)).1 (Zc (L.drop n)).2 nm wt .z .z [] [] none 0 none 0 0 0 0 false),u,b4,rfl,rfl,⟨by omega,fun _=>by omega⟩,r,Bh (by omega) (by omega) b (by rw [o,Ud,if_neg (by decide),if_neg (by decide),if_pos (by decide)];exact a.bnd (m.bnd .ret))⟩
 . refine rn [1091,7,1098,5,2098,3] ?_;refine Zb call148 leA (Jl (n:=m2) (hL.le leA) hn l) ?_;rintro _ _ ⟨wt,t,b3,rfl,rfl,⟨x,_⟩,c,a⟩;refine rn [1,0,5] ?_;refine Zb call149 leA (Ya (w:= [59]) (n:=t) (hL.le leA) hn c) ?_;rintro _ _ ⟨u,b4,rfl,rfl,y,r,m⟩;refine rn [3,0,0,1] ?_;refine Qx (.mk (12:Nat) (Zc (L.drop n)).1 (Zc (L.drop n)).2 nm wt .z .z [] [] none 0 none 0 0 0 0 false) jA ?_;refine Zq (rdH p la lc L u b4::stM (.mk (12:Nat) (Zc (L.drop n)).1 (Zc (L.drop n)).2 nm wt .z .z [] [] none 0 none 0 0 0 0 false)::q) func181 (rA_ results181) ⟨_,rfl,(.mk (12:Nat) (Zc (L.drop n)).1 (Zc (L.drop n)).2 nm wt .z .z [] [] none 0 none 0 0 0 0 false),u,b4,rfl,rfl,⟨by omega,fun _=>by omega⟩,r,Bh (by omega) (by omega) b (by rw [o,Ud,if_neg (by decide),if_neg (by decide),if_pos (by decide)];exact a.bnd (m.bnd .ret))⟩
 . refine rn [1091,7,1098,5,1098,7,2104,5] ?_;refine Zb call201 leA (hE 1 (n:=m2) (hL.le leA) (by omega) (by omega) (by omega) (by omega)) ?_;rintro _ _ ⟨⟨k1,z1,i,l1,o1,p1,e,g,w1⟩,t,b3,rfl,rfl,x,c,a⟩;refine rn [1,0,5] ?_;refine Zb call149 leA (Ya (w:= [59]) (n:=t) (hL.le leA) hn c) ?_;rintro _ _ ⟨u,b4,rfl,rfl,y,r,m⟩;refine rn [3,0,0,1] ?_;refine Qx (.mk (11:Nat) (Zc (L.drop n)).1 (Zc (L.drop n)).2 nm em (.mk k1 z1 i l1 o1 p1 e g w1) .z [] [] none 0 none 0 0 0 0 false) jA ?_;refine Zq (rdH p la lc L u b4::stM (.mk (11:Nat) (Zc (L.drop n)).1 (Zc (L.drop n)).2 nm em (.mk k1 z1 i l1 o1 p1 e g w1) .z [] [] none 0 none 0 0 0 0 false)::q) func181 (rA_ results181) ⟨_,rfl,(.mk (11:Nat) (Zc (L.drop n)).1 (Zc (L.drop n)).2 nm em (.mk k1 z1 i l1 o1 p1 e g w1) .z [] [] none 0 none 0 0 0 0 false),u,b4,rfl,rfl,⟨by omega,fun _=>by omega⟩,r,Bh (by omega) (by omega) b (by rw [o,Ud,if_neg (by decide),if_neg (by decide),if_neg (by decide),if_pos (by decide)];exact a.bnd (m.bnd .ret))⟩
 . refine rn [1045,4,1048,8,2067,4,1070,13,1075,6,1091,7,1098,5,1098,7,1104,5,2104,3] ?_;refine Zb call201 leA (hE 1 (n:=(n+1)) (hL.le leA) (by omega) (by omega) (by omega) (by omega)) ?_;rintro _ _ ⟨⟨k1,z1,i,l1,o1,p1,e,g,w1⟩,m2,b2,rfl,rfl,b0,l,b⟩;refine rn [1,0,5] ?_;refine Zb call149 leA (Ya (w:= [59]) (n:=m2) (hL.le leA) hn l) ?_;rintro _ _ ⟨t,b3,rfl,rfl,x,c,a⟩;refine rn [3,0,0,1] ?_;refine Qx (.mk (15:Nat) (Zc (L.drop n)).1 (Zc (L.drop n)).2 em em (.mk k1 z1 i l1 o1 p1 e g w1) .z [] [] none 0 none 0 0 0 0 false) jA ?_;refine Zq (rdH p la lc L t b3::stM (.mk (15:Nat) (Zc (L.drop n)).1 (Zc (L.drop n)).2 em em (.mk k1 z1 i l1 o1 p1 e g w1) .z [] [] none 0 none 0 0 0 0 false)::q) func181 (rA_ results181) ⟨_,rfl,(.mk (15:Nat) (Zc (L.drop n)).1 (Zc (L.drop n)).2 em em (.mk k1 z1 i l1 o1 p1 e g w1) .z [] [] none 0 none 0 0 0 0 false),t,b3,rfl,rfl,⟨by omega,fun _=>by omega⟩,c,stmt_j (.inr o) (by rw [o,Ud,if_neg (by decide),if_neg (by decide),if_neg (by decide),if_pos (by decide)];exact b.bnd (a.bnd .ret))⟩
 . refine rn [1045,4,1048,8,1067,17,1075,6,1091,7,1098,5,1098,7,1104,5,1104,6] ?_;refine Zb call149 leA (Ya (w:= [59]) (n:=(n+1)) (hL.le leA) hn (by omega)) ?_;rintro _ _ ⟨m2,b2,rfl,rfl,b0,l,b⟩;refine rn [3,0,0,1] ?_;refine Qx (.mk (14:Nat) (Zc (L.drop n)).1 (Zc (L.drop n)).2 em em .z .z [] [] none 0 none 0 0 0 0 false) jA ?_;refine Zq (rdH p la lc L m2 b2::stM (.mk (14:Nat) (Zc (L.drop n)).1 (Zc (L.drop n)).2 em em .z .z [] [] none 0 none 0 0 0 0 false)::q) func181 (rA_ results181) ⟨_,rfl,(.mk (14:Nat) (Zc (L.drop n)).1 (Zc (L.drop n)).2 em em .z .z [] [] none 0 none 0 0 0 0 false),m2,b2,rfl,rfl,⟨by omega,fun _=>by omega⟩,l,stmt_j (.inl o) (by rw [o,Ud,if_neg (by decide),if_neg (by decide),if_neg (by decide),if_neg (by decide)];exact b.bnd .ret)⟩
 . refine XO.part 45 rfl ?_ ?_<;>intro h1
   focus
    replace h1:=sp h1;refine oo 8 ?_
   rotate_left
   focus
    replace h1:=sp h1;refine rn [4,2048,4] ?_
   all_goals
    refine Zb call201 leA (hE 1 (n:=(n+1)) (hL.le leA) (by omega) (by omega) (by omega) (by omega)) ?_;rintro _ _ ⟨⟨k1,z1,i,l1,o1,p1,e,g,w1⟩,m2,b2,rfl,rfl,b0,l,b⟩;refine rn [1,0,4] ?_;refine Zb call152 leA (hB (n:=m2) (hL.le leA) (by omega) (by omega)) ?_;rintro _ _ ⟨a1,c1,t1,t,b3,rfl,rfl,x,c,a⟩;refine rn [1,0,7] ?_;refine XO.part 57 rfl ?_ ?_<;>intro h2
    . replace h2:=sp h2;refine oo 1 ?_;refine Zb call150 leA (Ug (w:= [101,108,115,101]) (n:=t) (hL.le leA) hn) ?_;rintro _ _ (⟨rfl,⟨hb,hw,j0⟩,rfl⟩|⟨rfl,hw,rfl⟩)
      . subst hb;refine oo 5 ?_;refine Zb call152 leA (hB (n:=(t+1)) (hL.le leA) (by omega) (by omega)) ?_;rintro _ _ ⟨a2,c2,t2,u,b4,rfl,rfl,y,r,m⟩;refine rn [1,0,3,0,0,1] ?_;refine Qx (.mk k (Zc (L.drop n)).1 (Zc (L.drop n)).2 em em (.mk k1 z1 i l1 o1 p1 e g w1) .z t1 t2 a1 c1 a2 c2 0 0 0 false) jA ?_;refine Zq (rdH p la lc L u b4::stM (.mk k (Zc (L.drop n)).1 (Zc (L.drop n)).2 em em (.mk k1 z1 i l1 o1 p1 e g w1) .z t1 t2 a1 c1 a2 c2 0 0 0 false)::q) func181 (rA_ results181) ⟨_,rfl,(.mk k (Zc (L.drop n)).1 (Zc (L.drop n)).2 em em (.mk k1 z1 i l1 o1 p1 e g w1) .z t1 t2 a1 c1 a2 c2 0 0 0 false),u,b4,rfl,rfl,⟨by omega,fun _=>by omega⟩,r,by rw [U8,o,if_pos (by omega),tail_drop];exact b.bnd (a.bnd (by rw [if_pos ⟨by omega,hw⟩,tail_drop];exact m.bnd .ret))⟩
      refine rn [6,0,0,1] ?_;refine Qx (.mk k (Zc (L.drop n)).1 (Zc (L.drop n)).2 em em (.mk k1 z1 i l1 o1 p1 e g w1) .z t1 [] a1 c1 none 0 0 0 0 false) jA ?_;refine Zq (rdH p la lc L t b3::stM (.mk k (Zc (L.drop n)).1 (Zc (L.drop n)).2 em em (.mk k1 z1 i l1 o1 p1 e g w1) .z t1 [] a1 c1 none 0 0 0 0 false)::q) func181 (rA_ results181) ⟨_,rfl,(.mk k (Zc (L.drop n)).1 (Zc (L.drop n)).2 em em (.mk k1 z1 i l1 o1 p1 e g w1) .z t1 [] a1 c1 none 0 0 0 0 false),t,b3,rfl,rfl,⟨by omega,fun _=>by omega⟩,c,by rw [U8,o,if_pos (by omega),tail_drop];exact b.bnd (a.bnd (by cases b3 with|true=>exact .any|false=>rw [if_neg (fun h=>by rw [h.2] at hw;exact aR hw (by decide))];exact .ret))⟩
    replace h2:=sp h2;refine rn [8,0,0,1] ?_;refine Qx (.mk k (Zc (L.drop n)).1 (Zc (L.drop n)).2 em em (.mk k1 z1 i l1 o1 p1 e g w1) .z t1 [] a1 c1 none 0 0 0 0 false) jA ?_;refine Zq (rdH p la lc L t b3::stM (.mk k (Zc (L.drop n)).1 (Zc (L.drop n)).2 em em (.mk k1 z1 i l1 o1 p1 e g w1) .z t1 [] a1 c1 none 0 0 0 0 false)::q) func181 (rA_ results181) ⟨_,rfl,(.mk k (Zc (L.drop n)).1 (Zc (L.drop n)).2 em em (.mk k1 z1 i l1 o1 p1 e g w1) .z t1 [] a1 c1 none 0 0 0 0 false),t,b3,rfl,rfl,⟨by omega,fun _=>by omega⟩,c,by rw [U8,o,if_pos (by omega),tail_drop];exact b.bnd (a.bnd (by rw [if_neg (by omega)];exact .ret))⟩
 refine rn [1045,4,1048,8,2067,4,2070,3] ?_;refine Zb call148 leA (Jl (n:=(n+1)) (hL.le leA) hn (by omega)) ?_;rintro _ _ ⟨nm,m2,b2,rfl,rfl,⟨b0,_⟩,l,b⟩;refine rn [1,0,12,1075,6,1091,7,1098,5,1098,7,1104,5,1104,6] ?_;refine Zb call149 leA (Ya (w:= [59]) (n:=m2) (hL.le leA) hn l) ?_;rintro _ _ ⟨t,b3,rfl,rfl,x,c,a⟩;refine rn [3,0,0,1] ?_;refine Qx (.mk k (Zc (L.drop n)).1 (Zc (L.drop n)).2 nm em .z .z [] [] none 0 none 0 0 0 0 false) jA ?_;refine Zq (rdH p la lc L t b3::stM (.mk k (Zc (L.drop n)).1 (Zc (L.drop n)).2 nm em .z .z [] [] none 0 none 0 0 0 0 false)::q) func181 (rA_ results181) ⟨_,rfl,(.mk k (Zc (L.drop n)).1 (Zc (L.drop n)).2 nm em .z .z [] [] none 0 none 0 0 0 0 false),t,b3,rfl,rfl,⟨by omega,fun _=>by omega⟩,c,Bh (by omega) (by omega) b (by rw [o,Ud,if_neg (by omega),if_neg (by omega),if_neg (by omega),if_neg (by omega)];exact a.bnd .ret)⟩
theorem Iw (hS: ∀ g,g<=f->RdStmt G la lc L g)(hL:Sees q la (L.flatMap tkC))(hn:L.length<=65536)(hnL:n<=L.length)(hfu:10*(L.length - n)+13<=f+1):CallF prog G 152 [.pointer (some ⟨p,0,none⟩)] (rdH p la lc L n bad::q) (Ret fun v q'=> ∃ (a:Option Addr) (c:Nat) (l:List Stm) (n':Nat) (bad':Bool),v= .slice a l.length c/\q'=rdH p la lc L n' bad'::blM a c l::q/\n<=n'/\n'<=L.length/\Out L bad (Ke (f+1) (L.drop n)) (Zj l) n' bad'):=by
 refine aC func152 ntmps152 rfl fun F cs=> ?_;refine xo 7 ?_;refine Zb call149 leA (Ya (w:= [123]) (hL.le leA) hn hnL) ?_;rintro _ _ ⟨y,b1,rfl,rfl,h,h0,e0⟩;refine ox 7 ?_;have e:MoreB L b1 (We f (L.drop y)) f [] y b1:=MoreB.first _ (fun _=>rfl);obtain ⟨S,r⟩:=kL (We f (L.drop y));rw [<-r] at e;refine aY (cG (fun (s:(Option Addr×Nat×List Stm)×Nat×Bool×Nat)=>n<=s.2.1/\s.2.1<=L.length/\s.2.2.2<=f/\(s.2.2.1=false->10*(L.length - s.2.1)+12<=s.2.2.2/\s.1.2.2.length+n<=s.2.1)/\MoreB L b1 S s.2.2.2 (Zj s.1.2.2) s.2.1 s.2.2.1) (fun s=> [(0,.pointer (some ⟨p,0,none⟩)),(3,.slice s.1.1 s.1.2.2.length s.1.2.1),(2,.slice none 0 0)]) (fun s=>rdH p la lc L s.2.1 s.2.2.1::rsH stC 25 126 s.1.1 s.1.2.1 (s.1.2.2)::stsM s.1.2.2::(q++F)) (fun s=>2*(L.length - s.2.1)+(if s.2.2.1=true then 0 else 1)) (fun s i ih=> ?_) ((none,0, []),y,b1,f) ⟨h,h0,aL _,fun _=>⟨by dsimp only;omega,by simpa using h⟩,e⟩) Zu (aS leA (aS (Zi stC 25 126 _) (aS Hk leA)));try dsimp only at i ih|-
 obtain ⟨l0,o,k0,k,j⟩:=i;obtain ⟨⟨a0,c0,l⟩,m,b,g⟩:=s;dsimp only at*;clear e;refine rn [6,0] ?_;refine Zt (bV rfl) ?_;refine oo 1 ?_;refine Zf [11,0,3,2] ?_;apply Zp 4 15 11 rfl
 . intro t M1;have h1:=sp t;refine oo 1 ?_;refine aO call147 (Px (n:=m) (bad:=b) (s:=ba [125]) Qu (hL.le leA) hn) ?_;refine Zt (bV rfl) ?_;refine oo 1 ?_;exact Zz M1 ⟨Wq t,Zv⟩
 . intro t M1;have h1:=sp t;refine oo 4 ?_;exact Zz M1 ⟨Wz t,Zv⟩
 refine ox 1 ?_;refine xp 15 ?_ ?_<;>intro h1
 . refine xo 6 ?_;obtain ⟨rfl,h2⟩:=h1;replace h2:isW [125] (L.drop m)=false:=h2.resolve_left (by decide);obtain ⟨n0,m0⟩:=k rfl;obtain ⟨g,rfl⟩: ∃ g2,g=g2+1:=⟨g - 1,by omega⟩;refine Zb call181 leA (hS g (by omega) (n:=m) (bad:=false) (hL.le leA) o (by omega)) ?_;rintro _ _ ⟨x,m2,b2,rfl,rfl,⟨j0,d⟩,g0,d0⟩;refine bQ (Yz (u:=x) stC underlying53 V7 rfl rfl Z8 rfl) ?_;rintro _ _ ⟨g2,rfl,rfl⟩;refine bQ (Z9 (f:=stC) (l:=l) (m:= [x]) underlying53 V7 rfl rfl Z8 rfl rfl Zk ((bE _).le Zk) H9 (by simp;omega) (by simp;omega)) ?_;rintro _ _ ⟨a3,c3,rfl,rfl⟩;refine ox 3 ?_;refine X.sts (l:=l) (s:=x) Zk Zk ?_;refine aY (ih ((a3,c3,l++ [x]),m2,b2,g) ⟨by dsimp only;omega,g0,by dsimp only;omega,fun z=>⟨by have:=d z;dsimp only;omega,by have:=d z;simp;omega⟩,by rw [Ry];exact j.go h2 d0⟩ (by dsimp only;cases b2 with|true=>simp;omega|false=>have:=d rfl;simp;omega)) Zu leA
 refine xo 5 ?_;refine Zb call149 leA (Ya (w:= [125]) (n:=m) (hL.le leA) hn o) ?_;rintro _ _ ⟨m4,b4,rfl,rfl,i0,f0,b0⟩;refine ox 6 ?_;refine X.fzB (m:=l) ?_;refine Zq (rdH p la lc L m4 b4::blM a0 c0 l::q) func152 (Zn results152 rfl) ⟨_,rfl,a0,c0,l,m4,b4,rfl,rfl,by omega,f0,by rw [Ke];refine e0.bnd ?_;rw [<-r];exact (j.over (fun z=>by have:=k z;omega) (by revert h1;cases b<;>simp;exact id)).bnd (b0.bnd .ret)⟩
theorem Zqg (hn:L.length<=65536): ∀ f,RdStmt G la lc L f/\X2 G la lc L f:=by
 intro f
 induction f using Nat.strongRecOn with
 |ind f ih=>
  cases f with
  |zero=>exact ⟨fun c a b=>by omega,fun c a b=>by omega⟩
  |succ f=>exact ⟨fun c a b=>Zqm (Zqi hn f).1 (ih f (gC _)).2 c hn a b,fun c a b=>Iw (fun g d=>(ih g (by omega)).1) c hn a b⟩
section
variable {l:List Stm}
theorem Ep {k n:Int}{ba:Option Addr}(h:Kn q fun M=>BlkAt M ba bc body:=by first|exact Of|exact knA):Kn q fun M=>(Dec.mk k ln cl nm n body ba bc).At M:=h
theorem Nx {p:PE}(s:Dec)(h:Kn q fun M=>s.At M)(K:X P G fr Q todo p ds cs (dcM s::q)):X P G fr Q todo p ds cs q:= .le (cZ h) K
theorem decl_ne: ∀ j,j<6->declL.getD (j+1) []≠ []:=by decide
theorem decl_ok (hL:Sees q la (L.flatMap tkC))(hn:L.length<=65536)(hnL:n<=L.length)(hT: ∀ t∈L,0<=t.n/\t.n<=2147483647)(hfu:10*(L.length - n)+13<=f+10):CallF prog G 114 [.pointer (some ⟨p,0,none⟩)] (rdH p la lc L n bad::q) (Ret fun v q'=> ∃ (d:Dec) (n':Nat) (bad':Bool),v= .agg (dcC d).toArray/\q'=rdH p la lc L n' bad'::dcM d::q/\(n<=n'/\(bad'=false->n<n'))/\n'<=L.length/\Out L bad (Ui f (L.drop n)) d.er n' bad'):=by
 refine aC func114 ntmps114 rfl fun F cs=> ?_;obtain ⟨K,hK⟩: ∃ K:Nat->Nat,K=fun j=>if bad=true then 0 else Jw declL (L.drop n) j:=⟨_,rfl⟩
 refine xo 2 ?_;refine bW zeroValue229 fun n1=> ?_
 refine oo 4 ?_;refine Zb call146 leA (pos_ok (hL.le leA) hn) ?_;rintro _ _ ⟨rfl,rfl⟩;refine oo 1 ?_;refine bW zeroValue229 fun n2=> ?_
 refine rn [0,3] ?_;refine bQ (Yp (fun w:Bs=>Value.string (ba w)) declL underlying25 Wh rfl rfl rfl rfl rfl rfl (fun _=>rfl)) ?_;rintro _ _ ⟨gk,rfl,rfl⟩;refine ox 8 ?_;have i0:K 0=0:=by rw [hK];cases bad<;>rfl
 refine aY (cG (fun (s:Nat)=>s<=6) (fun s=> [(0,.pointer (some ⟨p,0,none⟩)),(2,pt n1),(3,pt n2),(4,.slice (some ⟨gk,0,none⟩) 7 7),(5,I64 ((s+1:Nat):Int))]) (fun s=>rdH p la lc L n bad::pto n2 (.cells (dcC (.mk (K s) (Zc (L.drop n)).1 (Zc (L.drop n)).2 em 0 [] none 0)).toArray 229 (0,0))::pto n1 (.cells zz1.toArray 229 (0,0))::lsH (fun w:Bs=>Value.string (ba w)) 9 (some ⟨gk,0,none⟩) 7 declL::(q++F)) (fun s=>6 - s) (fun s d0 ih=> ?_) 0 (by omega)) Zu (by rw [i0];exact leA);try dsimp only at d0 ih|-
 obtain hs:=d0;refine xx 8 ?_;refine xp 14 ?_ ?_<;>intro h0
 . have a0:s+1<declL.length:=by show s+1<7;omega
   refine xo 10 ?_;refine ld ?_ (hc:=(jN (n:=s+1) (bR _) Zk a0 rfl));refine aO call147 (Px (n:=n) (bad:=bad) (s:=ba declL[s+1]) Qu (hL.le leA) hn) ?_;refine ox 1 ?_;refine xp 22 ?_ ?_<;>intro h1
   . refine rn [4,0,7] ?_;have f0:K (s+1)=s+1:=by rw [hK];dsimp only;rw [V3,<-gD (d:= []) a0] at h1;rw [if_neg (by rw [h1.1];decide),Jw,if_pos ⟨decl_ne s (by omega),h1.2⟩]
     refine aY (ih (s+1) (by omega) (by omega)) Zu (by rw [f0];exact leA)
   refine xx 8 ?_;have f0:K (s+1)=K s:=by rw [hK];dsimp only;rw [V3,<-gD (d:= []) a0] at h1;cases bad with|true=>rfl|false=>rw [if_neg (by decide),if_neg (by decide),Jw,if_neg (fun k=>by simp_all)]
   refine aY (ih (s+1) (by omega) (by omega)) Zu (by rw [f0];exact leA)
 obtain rfl:s=6:=by omega
 obtain ⟨k,u⟩: ∃ k,K 6=k:=⟨_,rfl⟩;rw [u];rw [hK] at u;dsimp only at u;clear ih hK i0 d0 h0;have m0:k<=6:=by rw [<-u];cases bad;exact N5;exact bB _
 have k0:k≠0->bad=false/\dkS (L.drop n)=k/\n<L.length:=fun h=>by cases bad with|true=>exact aR u.symm h|false=>exact ⟨rfl,u,Dp (by rw [show Jw declL (L.drop n) 6=k from u];exact h)⟩
 have g0:k=0\/k=1\/k=6\/k=2\/k=5\/(k=3\/k=4):=by omega
 rcases g0 with rfl|rfl|rfl|rfl|rfl|g0
 . refine rn [6,0,2,2027,6,0,3,0,0,1] ?_;refine Nx (.mk ((0:Nat):Int) (Zc (L.drop n)).1 (Zc (L.drop n)).2 em 0 [] none 0) Ep ?_;refine Zq (rdH p la lc L n true::dcM (.mk ((0:Nat):Int) (Zc (L.drop n)).1 (Zc (L.drop n)).2 em 0 [] none 0)::q) func114 (rA_ results114) ⟨_,rfl,(.mk ((0:Nat):Int) (Zc (L.drop n)).1 (Zc (L.drop n)).2 em 0 [] none 0),n,true,rfl,rfl,⟨aL _,fun h=>by cases h⟩,hnL,.inr ⟨rfl,by cases bad with|true=>exact .inl rfl|false=>exact .inr (by rw [Ui,if_pos (show dkS (L.drop n)=0 from u)])⟩⟩
 iterate 5
  focus
   obtain ⟨rfl,l,o0⟩:=k0 (by omega);refine rn [6,0,2,1027,7,0,3,0,4] ?_;refine Zb call148 leA (Jl (n:=(n+1)) (hL.le leA) hn (by omega)) ?_;rintro _ _ ⟨nm,m2,b2,rfl,rfl,⟨n0,_⟩,r,i⟩;refine rn [1,0,5,0,7] ?_
  rotate_left
 . refine rn [2044,4] ?_;refine Zb call149 leA (Ya (w:= [61]) (n:=m2) (hL.le leA) hn r) ?_;rintro _ _ ⟨e,b3,rfl,rfl,o,b,a⟩;refine oo 4 ?_;refine Zb call150 leA (Ug (w:= [45]) (n:=e) (hL.le leA) hn) ?_;rintro _ _ (⟨rfl,⟨hb,hw,l0⟩,rfl⟩|⟨rfl,hw,rfl⟩)
   . subst hb;refine oo 5 ?_;refine Zb call151 leA (Kw (n:=(e+1)) (hL.le leA) hn (by omega)) ?_;rintro _ _ ⟨z,m,b4,rfl,rfl,⟨c0,y⟩,g,c⟩;have x:0<=z/\z<=2147483647:=by rcases y with rfl|⟨t,ht,rfl⟩;omega;exact hT t ht
     refine rn [1,0,8,0,2,0,5] ?_;refine Zb call149 leA (Ya (w:= [59]) (n:=m) (hL.le leA) hn g) ?_;rintro _ _ ⟨m5,b5,rfl,rfl,j0,e0,b0⟩;refine rn [3,0,0,1] ?_;try rw [show IntKind.i64.wrap (0 - z)= -z from by rw [Uf (by omega) (by omega)];omega]
     refine Nx (.mk (1:Nat) (Zc (L.drop n)).1 (Zc (L.drop n)).2 nm (-z) [] none 0) Ep ?_;refine Zq (rdH p la lc L m5 b5::dcM (.mk (1:Nat) (Zc (L.drop n)).1 (Zc (L.drop n)).2 nm (-z) [] none 0)::q) func114 (rA_ results114) ⟨_,rfl,(.mk (1:Nat) (Zc (L.drop n)).1 (Zc (L.drop n)).2 nm (-z) [] none 0),m5,b5,rfl,rfl,⟨by omega,fun _=>by omega⟩,e0,by rw [Ui,l,if_neg (by omega),tail_drop];refine i.bnd ?_;rw [if_neg (by decide)];exact (show Out L b2 (Eo 1 (L.drop m2)) (-z) m b4 from a.bnd (by rw [if_pos hw,tail_drop];exact c.bnd .ret)).bnd (b0.bnd .ret)⟩
   refine oo 5 ?_;refine Zb call151 leA (Kw (n:=e) (hL.le leA) hn b) ?_;rintro _ _ ⟨z,m,b4,rfl,rfl,⟨c0,y⟩,g,c⟩;have x:0<=z/\z<=2147483647:=by rcases y with rfl|⟨t,ht,rfl⟩;omega;exact hT t ht
   refine rn [1,0,11] ?_;refine Zb call149 leA (Ya (w:= [59]) (n:=m) (hL.le leA) hn g) ?_;rintro _ _ ⟨m5,b5,rfl,rfl,j0,e0,b0⟩;refine rn [3,0,0,1] ?_;refine Nx (.mk (1:Nat) (Zc (L.drop n)).1 (Zc (L.drop n)).2 nm z [] none 0) Ep ?_;refine Zq (rdH p la lc L m5 b5::dcM (.mk (1:Nat) (Zc (L.drop n)).1 (Zc (L.drop n)).2 nm z [] none 0)::q) func114 (rA_ results114) ⟨_,rfl,(.mk (1:Nat) (Zc (L.drop n)).1 (Zc (L.drop n)).2 nm z [] none 0),m5,b5,rfl,rfl,⟨by omega,fun _=>by omega⟩,e0,by rw [Ui,l,if_neg (by omega),tail_drop];refine i.bnd ?_;rw [if_neg (by decide)];exact (show Out L b2 (Eo 1 (L.drop m2)) z m b4 from a.bnd (by cases b3 with|true=>have h:=c.isBad;subst h;exact .any|false=>rw [if_neg (by rw [hw.resolve_left (by decide)];decide)];exact c)).bnd (b0.bnd .ret)⟩
 . refine rn [1044,7,1058,5,1058,6,2064,4] ?_;refine Zb call152 leA ((Zqg hn f).2 (n:=m2) (hL.le leA) (by omega) (by omega)) ?_;rintro _ _ ⟨a1,c1,t1,e,b3,rfl,rfl,o,b,a⟩;refine rn [1,0,3,0,0,1] ?_;refine Nx (.mk (6:Nat) (Zc (L.drop n)).1 (Zc (L.drop n)).2 nm 0 t1 a1 c1) Ep ?_;refine Zq (rdH p la lc L e b3::dcM (.mk (6:Nat) (Zc (L.drop n)).1 (Zc (L.drop n)).2 nm 0 t1 a1 c1)::q) func114 (rA_ results114) ⟨_,rfl,(.mk (6:Nat) (Zc (L.drop n)).1 (Zc (L.drop n)).2 nm 0 t1 a1 c1),e,b3,rfl,rfl,⟨by omega,fun _=>by omega⟩,b,by rw [Ui,l,if_neg (by omega),tail_drop];refine i.bnd ?_;rw [if_pos (by decide)];exact a.bnd .ret⟩
 . refine rn [1044,7,2058,5] ?_;refine Zb call151 leA (Kw (n:=m2) (hL.le leA) hn r) ?_;rintro _ _ ⟨z,e,b3,rfl,rfl,⟨o,y⟩,b,a⟩;have x:0<=z/\z<=2147483647:=by rcases y with rfl|⟨t,ht,rfl⟩;omega;exact hT t ht
   refine rn [1,0,5] ?_;refine Zb call149 leA (Ya (w:= [59]) (n:=e) (hL.le leA) hn b) ?_;rintro _ _ ⟨m,b4,rfl,rfl,c0,g,c⟩;refine rn [3,0,0,1] ?_;refine Nx (.mk (2:Nat) (Zc (L.drop n)).1 (Zc (L.drop n)).2 nm z [] none 0) Ep ?_;refine Zq (rdH p la lc L m b4::dcM (.mk (2:Nat) (Zc (L.drop n)).1 (Zc (L.drop n)).2 nm z [] none 0)::q) func114 (rA_ results114) ⟨_,rfl,(.mk (2:Nat) (Zc (L.drop n)).1 (Zc (L.drop n)).2 nm z [] none 0),m,b4,rfl,rfl,⟨by omega,fun _=>by omega⟩,g,by rw [Ui,l,if_neg (by omega),tail_drop];refine i.bnd ?_;rw [if_neg (by omega)];exact (show Out L b2 (Eo _ (L.drop m2)) z e b3 from by rw [Eo,if_neg (by omega),if_pos (by omega)];exact a).bnd (c.bnd .ret)⟩
 . refine rn [1044,7,1058,5,2058,3] ?_;refine Zb call151 leA (Kw (n:=m2) (hL.le leA) hn r) ?_;rintro _ _ ⟨z,e,b3,rfl,rfl,⟨o,y⟩,b,a⟩;have x:0<=z/\z<=2147483647:=by rcases y with rfl|⟨t,ht,rfl⟩;omega;exact hT t ht
   refine rn [1,0,5] ?_;refine Zb call149 leA (Ya (w:= [59]) (n:=e) (hL.le leA) hn b) ?_;rintro _ _ ⟨m,b4,rfl,rfl,c0,g,c⟩;refine rn [3,0,0,1] ?_;refine Nx (.mk (5:Nat) (Zc (L.drop n)).1 (Zc (L.drop n)).2 nm z [] none 0) Ep ?_;refine Zq (rdH p la lc L m b4::dcM (.mk (5:Nat) (Zc (L.drop n)).1 (Zc (L.drop n)).2 nm z [] none 0)::q) func114 (rA_ results114) ⟨_,rfl,(.mk (5:Nat) (Zc (L.drop n)).1 (Zc (L.drop n)).2 nm z [] none 0),m,b4,rfl,rfl,⟨by omega,fun _=>by omega⟩,g,by rw [Ui,l,if_neg (by omega),tail_drop];refine i.bnd ?_;rw [if_neg (by omega)];exact (show Out L b2 (Eo _ (L.drop m2)) z e b3 from by rw [Eo,if_neg (by omega),if_pos (by omega)];exact a).bnd (c.bnd .ret)⟩
 refine rn [1044,7,1058,5,1058,6,1064,6] ?_;refine Zb call149 leA (Ya (w:= [59]) (n:=m2) (hL.le leA) hn r) ?_;rintro _ _ ⟨e,b3,rfl,rfl,o,b,a⟩;refine rn [3,0,0,1] ?_;refine Nx (.mk k (Zc (L.drop n)).1 (Zc (L.drop n)).2 nm 0 [] none 0) Ep ?_;refine Zq (rdH p la lc L e b3::dcM (.mk k (Zc (L.drop n)).1 (Zc (L.drop n)).2 nm 0 [] none 0)::q) func114 (rA_ results114) ⟨_,rfl,(.mk k (Zc (L.drop n)).1 (Zc (L.drop n)).2 nm 0 [] none 0),e,b3,rfl,rfl,⟨by omega,fun _=>by omega⟩,b,by rw [Ui,l,if_neg (by omega),tail_drop];refine i.bnd ?_;rw [if_neg (by omega)];exact (show Out L b2 (Eo k (L.drop m2)) 0 m2 b2 from by rw [Eo,if_neg (by omega),if_neg (by omega)];exact .ret).bnd (a.bnd .ret)⟩
end
theorem G9 (a b:List PEx):Yb (a++b)=max (Yb a) (Yb b):=by
 induction a with
 |nil=>simp [Yb]
 |cons x r ih=>simp only [cM,Yb,ih];omega
theorem Tm {x:PEx}: ∀ {l:List PEx},x∈l->x.dep<=Yb l
 |y::r,h=>by
  rcases cE.1 h with rfl|h
  . simp only [Yb];omega
  have:=Tm h;simp only [Yb];omega
theorem Et (l m:List Ex):Z3 (l++m)=Z3 l++Z3 m:=by simp [Yy]
section
variable {args:List Ex}{k n:Int}{aa ba:Option Addr}{ac:Nat}{op:Int}
theorem Ov (h:Kn q fun M=>(Ex.mk k n nm slot loc op args aa ac).At M):Sees q aa (args.flatMap exC):=fM (h.imp fun M h=>h.1.2.2)
theorem Ok (h:Kn q fun M=>(Ex.mk k n nm slot loc op args aa ac).At M)(hi:i<args.length):Kn q fun M=>args[i].At M:=h.imp fun M h=>Ye.1 h.2 _ (aB hi)
theorem Kn.exL {w:World}(h:Kn q fun M=>(Ex.mk k n nm slot loc op args aa ac).At M)(s:St G w q):args.length<=9223372036854775807:=h.fact (fun M h=>by have b:=h.1.1;have a:=h.1.2.1;simp [maxLen] at a;omega) s
theorem Oz (h:Kn q fun M=>(Stm.mk k ln cl nm wt e ix body els ba bc ea ec id slot other loc).At M):Kn q fun M=>e.At M:=h.imp fun _ h=>h.1
theorem I9 (h:Kn q fun M=>(Stm.mk k ln cl nm wt e ix body els ba bc ea ec id slot other loc).At M):Kn q fun M=>ix.At M:=h.imp fun _ h=>h.2.1
theorem Oj (h:Kn q fun M=>(Stm.mk k ln cl nm wt e ix body els ba bc ea ec id slot other loc).At M):Kn q fun M=>BlkAt M ba bc body:=h.imp fun _ h=>h.2.2.1
theorem Oq (h:Kn q fun M=>(Stm.mk k ln cl nm wt e ix body els ba bc ea ec id slot other loc).At M):Kn q fun M=>BlkAt M ea ec els:=h.imp fun _ h=>h.2.2.2
theorem Ob (h:Kn q fun M=>BlkAt M ba bc body):Sees q ba (body.flatMap stC):=fM (h.imp fun M h=>h.1.2.2)
theorem Oy (h:Kn q fun M=>BlkAt M ba bc body)(hi:i<body.length):Kn q fun M=>body[i].At M:=h.imp fun M h=>Vg.1 h.2 _ (aB hi)
theorem Ox {w:World}(h:Kn q fun M=>BlkAt M ba bc body)(s:St G w q):body.length<=9223372036854775807:=h.fact (fun M h=>by have b:=h.1.1;have a:=h.1.2.1;simp [maxLen] at a;omega) s
end
section
variable {l:List Stm}
theorem Iq (IH: ∀ x:Ex,x.sz<e.sz->x.er.dep<=1000000-> ∀ {q:List HP},(Kn q fun M=>x.At M)->CallF prog G 154 [.agg (exC x).toArray] q (Ret fun v q'=>v= I64 (x.er.dep:Nat)/\q'=q))(hb:e.er.dep<=1000000)(h:Kn q fun M=>e.At M):CallF prog G 154 [.agg (exC e).toArray] (q) (Ret fun v q'=>v= I64 (e.er.dep:Nat)/\q'=q):=by
 refine aC func154 ntmps154 rfl fun F cs=> ?_;obtain ⟨k,z,nm,i,lo,op,args,aa,ac⟩:=e;have g:=Ov h;have b:=Zx (f:=exC) (sz:=7) Z4 args;refine iR (fun w s=>Kn.exL (h.le leA) s) fun j=> ?_;replace hb:Yb (Z3 args)+1<=1000000:=hb;refine xo 2 ?_;refine Ww fun n1=> ?_
 refine ox 12 ?_;refine aY (cG (fun (s:Nat)=>s<=args.length) (fun s=> [(3,I64 (Yb (Z3 (args.take s)):Nat)),(4,I64 s),(1,pt n1),(2,I64 0)]) (fun s=>pto n1 (.cells (exC (.mk k z nm i lo op args aa ac)).toArray 124 (0,0))::(q++F)) (fun s=>args.length - s) (fun s c d=> ?_) 0 (bB _)) Zu leA;try dsimp only at c d|-
 obtain m:=c;refine rn [5,0,3] ?_;refine xp 9 ?_ ?_<;>intro p
 . have a:s<args.length:=by omega
   refine rn [7,0,1] ?_;refine K1 g (by rw [b];omega) fun b1 o1 l=> ?_;subst l;refine oo 1 ?_;refine Nw (n:=s) isAgg124 sizeOf124 g a ?_ (hf:=Z4);refine aO call154 (IH args[s] (by have:=Vx (aB a);simp only [Ex.sz];omega) (by have:=Tm (aP (f:=Ex.er) (aB a));rw [<-Yy] at this;omega) (Ok (h.le leA) a)) ?_;refine ox 9 ?_;have o:(Yb (Z3 (args.take (s+1))):Int)=max (Yb (Z3 (args.take s)):Int) (args[s].er.dep:Int):=by rw [aH a,Et,G9];simp only [Z3,Yb];omega
   refine aY (d (s+1) (by omega) (by omega)) Zu leA
 obtain rfl:s=args.length:=by omega
 rw [cD] at*;refine xx 8 ?_;refine Zq (q) func154 (Zn results154 rfl) ⟨_,rfl,by simp only [Ex.er,PEx.dep];congr 1,rfl⟩
theorem De: ∀ (k:Nat) (e:Ex),e.sz<=k->e.er.dep<=1000000-> ∀ {q:List HP},(Kn q fun M=>e.At M)->CallF prog G 154 [.agg (exC e).toArray] q (Ret fun v q'=>v= I64 (e.er.dep:Nat)/\q'=q)
 |0,e,hk,_,_,_=>by cases e;simp [Ex.sz] at hk
 |k+1,e,hk,hb,_,h=>Iq (fun x c a _ b=>De k x (by omega) a b) hb h
mutual
def PStm.bdd (B:Nat):PStm->Prop
 | .mk _ _ _ _ _ e ix body els _ _ _ _=>e.dep<=B/\ix.dep<=B/\Wg B body/\Wg B els
def Wg (B:Nat):List PStm->Prop
 | []=>True
 |s::r=>s.bdd B/\Wg B r
end
theorem Mi {B:Nat}{x:PStm}: ∀ {l:List PStm},Wg B l->x∈l->x.bdd B
 |y::r,⟨h1,h2⟩,h=>by
  rcases cE.1 h with rfl|h
  . exact h1
  exact Mi h2 h
abbrev As :=((.cells zz5.toArray 107 (0,0)):Obj)
abbrev Ar (v0:List Stm)(v1:Nat)(v2:List HP):=(Ret fun v q'=> ∃ pl pc:Int,v= .tuple [.agg [I64 pl,I64 pc].toArray,.bool (Yq (Zj v0) v1)].toArray/\q'=v2)
abbrev Ba (v0:Option Addr)(v1:List Stm)(v2:Nat)(v3:Nat):=([.slice v0 v1.length v2,I64 v3]:List Value)
theorem Zz4 (IH: ∀ (m:List Stm) (a:Option Addr) (c n:Nat),Zm m<Zm l->Wg 1000000 (Zj m)->n<=25-> ∀ {q:List HP},(Kn q fun M=>BlkAt M a c m)->CallF prog G 116 (Ba a m c n) q (Ar m n q))(hb:Wg 1000000 (Zj l))(hn25:n<=25)(h:Kn q fun M=>BlkAt M a c l):CallF prog G 116 (Ba a l c n) (q) (Ar l n q):=by
 refine aC func116 ntmps116 rfl fun F cs=> ?_;have hA:=Ob h;have t:=Zx (f:=stC) (sz:=25) Z8 l;refine iR (fun w s=>Ox (h.le leA) s) fun n0=> ?_;refine xo 2 ?_;refine bW zeroValue107 fun n1=> ?_
 refine ox 8 ?_;refine aY (cG (fun (s:Nat×Option Addr)=>s.1<=l.length/\s.2=a/\Yq (Zj l) n=Yq (Zj (l.drop s.1)) n) (fun s=> [(6,I64 (s.1:Int)),(0,.slice s.2 l.length c),(1,I64 n),(4,pt n1),(5,.bool false)]) (fun s=>pto n1 As::(q++F)) (fun s=>l.length - s.1) (fun s u ih=> ?_) (0,a) ⟨bB _,rfl,rfl⟩) Zu leA;try dsimp only at u ih|-
 obtain ⟨hs,ha,y⟩:=u;obtain ⟨s,a2⟩:=s;dsimp only at*;subst ha;refine xx 8 ?_;refine xp 13 ?_ ?_<;>intro h0
 . have d:s<l.length:=by omega
   have e:Yq (Zj (l.drop s)) n=(l[s].er.deep n||Yq (Zj (l.drop (s+1))) n):=by rw [aJ d];rfl
   have b:=Oy h d;have p:=Mi hb (by rw [Yf];exact aP (aB d));have o:=Ub (aB d);refine xo 8 ?_;refine K1 hA (by rw [t];omega) fun b1 o1 e1=> ?_;subst e1;refine oo 1 ?_;refine Nw (n:=s) isAgg126 sizeOf126 hA d ?_ (hf:=Z8);obtain ⟨x,hx⟩: ∃ x,l[s]=x:=⟨_,rfl⟩;rw [hx] at e b p o;refine bA 19 (.agg (stC x).toArray) rfl (by rw [hx]) ?_;obtain ⟨k,ln,cl,nm,wt,⟨k1,z1,s1,l1,o1,p1,y1,u1,w1⟩,⟨k2,z2,s2,l2,o2,p2,y2,u2,w2⟩,body,els,ba,bc,ea,ec,id,slot,other,loc⟩:=x;obtain ⟨m0,l0,k0,j0⟩:=p;have i0:=Oz b;have g0:=I9 b;have f0:=Oj b;have e0:=Oq b;have hz:Zm body+Zm els+1<=Zm l:=o;refine bW zeroValue126 fun n2=> ?_
   refine rn [0,7] ?_;refine Zf [22,7,6,0,1,4,5] ?_;apply Zy 5 27 22 rfl
   . intro i j;have z:=sp i;refine rn [1,0] ?_;refine aO call154 (De _ (.mk k1 z1 s1 l1 o1 p1 y1 u1 w1) (aL _) m0 (i0.le leA)) ?_;refine oo 2 ?_;exact Zz j ⟨orF i,Zv⟩
   . intro i j;have z:=sp i;refine oo 5 ?_;exact Zz j ⟨orT i,Zv⟩
   refine oo 1 ?_;refine Zf [28,7,6,0,1,4,5] ?_;apply Zy 5 33 28 rfl
   . intro i j;have z:=sp i;refine rn [1,0] ?_;refine aO call154 (De _ (.mk k2 z2 s2 l2 o2 p2 y2 u2 w2) (aL _) l0 (g0.le leA)) ?_;refine oo 2 ?_;exact Zz j ⟨orF i,Zv⟩
   . intro i j;have z:=sp i;refine oo 5 ?_;exact Zz j ⟨orT i,Zv⟩
   refine ox 1 ?_;refine xp 33 ?_ ?_<;>intro z
   . refine rn [4,0,0,2] ?_
     have v:Yq (Zj l) n=true:=by
      rw [y,e];have g:(24<n\/24<(Ex.mk k1 z1 s1 l1 o1 p1 y1 u1 w1).er.dep)\/24<(Ex.mk k2 z2 s2 l2 o2 p2 y2 u2 w2).er.dep:=by omega
      rcases g with (h|h)|h<;>simp [Stm.er,PStm.deep,h]
     refine Zq (q) func116 (N1 results116) ⟨_,rfl,ln,cl,by rw [v];rfl,rfl⟩
   refine rn [5,0,2] ?_;have r:n+1<=25:=by omega
   refine Zb call116 (aE _) (IH body ba bc (n+1) (by omega) k0 r (f0.le leA)) ?_;rintro _ _ ⟨b0,d0,rfl,rfl⟩;refine oo 3 ?_;refine bW zeroValue107 fun n3=> ?_
   refine rn [0,7] ?_;refine xp 44 ?_ ?_<;>intro h2
   . refine rn [3,0,0,2] ?_
     have v:Yq (Zj l) n=true:=by
      rw [y,e];simp [Stm.er,PStm.deep,h2]
     refine Zq (q) func116 (N1 results116) ⟨_,rfl,b0,d0,by rw [v];rfl,rfl⟩
   refine rn [5,0,2] ?_;refine Zb call116 (aE _) (IH els ea ec (n+1) (by omega) j0 r (e0.le leA)) ?_;rintro _ _ ⟨a0,c0,rfl,rfl⟩;refine rn [3,0,6] ?_;refine xp 54 ?_ ?_<;>intro h3
   . refine rn [3,0,0,2] ?_
     have v:Yq (Zj l) n=true:=by
      rw [y,e];simp [Stm.er,PStm.deep,h3]
     refine Zq (q) func116 (N1 results116) ⟨_,rfl,a0,c0,by rw [v];rfl,rfl⟩
   refine xx 8 ?_;have g: ¬24<n/\ ¬24<(Ex.mk k1 z1 s1 l1 o1 p1 y1 u1 w1).er.dep/\ ¬24<(Ex.mk k2 z2 s2 l2 o2 p2 y2 u2 w2).er.dep:=by omega
   refine aY (ih (s+1,_) ⟨by dsimp only;omega,rfl,by rw [y,e];simp [Stm.er,PStm.deep,g.1,g.2.1,g.2.2,h2,h3]⟩ (by dsimp only;omega)) Zu leA
 obtain rfl:s=l.length:=by omega
 rw [dP] at*;refine rn [5,0,2] ?_;refine Zq (q) func116 (N1 results116) ⟨_,rfl,0,0,by rw [y];rfl,rfl⟩
theorem X8: ∀ (k:Nat) (m:List Stm) (a:Option Addr) (c n:Nat),Zm m<=k->Wg 1000000 (Zj m)->n<=25-> ∀ {q:List HP},(Kn q fun M=>BlkAt M a c m)->CallF prog G 116 (Ba a m c n) q (Ar m n q)
 |k,m,a,c,n,hk,hb,hn,_,h=>Zz4 (fun m2 a2 f n2 g d b _ e=>by
  cases k with
  |zero=>omega
  |succ k=>exact X8 k m2 a2 f n2 (by omega) d b e) hb hn h
end
theorem lettI (c:UInt8):(decide (97<=(c.toNat:Int)) && decide ((c.toNat:Int)<=122))=Sr c:=by rw [cJ];simp [Sr];omega
theorem digI (c:UInt8):(decide (48<=(c.toNat:Int)) && decide ((c.toNat:Int)<=57))=Qo c:=by rw [cJ];simp [Qo];omega
theorem O4 (h:n<l.length):Q2 (l.drop n)=if Nv (l.getD n 0)=true then Q2 (l.drop (n+1))+1 else 0:=by
 rw [aJ h,gD h];unfold Q2;rw [iJ];split<;>simp
theorem runS_end (h:l.length<=n):Q2 (l.drop n)=0:=by rw [cO h];rfl
theorem Mq (l:Bs):Q2 l<=l.length:=by unfold Q2;exact (List.takeWhile_sublist _).length_le
section
variable {c:UInt8}
theorem Ta:CallF prog G 182 [.int .u8 (c.toNat:Int)] (q) (Ret fun v q'=>v= .bool (Sr c)/\q'=q):=by
 refine aC func182 ntmps182 rfl fun F cs=> ?_;refine xo 9 ?_;refine Zf [5,2,0] ?_;apply Zp 3 8 5 rfl
 . intro a b;have d:=sp a;refine oo 3 ?_;exact Zz b ⟨Wq a,Zv⟩
 . intro a b;have d:=sp a;refine oo 3 ?_;exact Zz b ⟨Wz a,Zv⟩
 refine ox 2 ?_;refine Zq (q) func182 (Zn results182 rfl) ⟨_,rfl,cB (lettI c),rfl⟩
theorem Tq:CallF prog G 177 [.int .u8 (c.toNat:Int)] (q) (Ret fun v q'=>v= .bool (Qo c)/\q'=q):=by
 refine aC func177 ntmps177 rfl fun F cs=> ?_;refine xo 9 ?_;refine Zf [5,2,0] ?_;apply Zp 3 8 5 rfl
 . intro a b;have d:=sp a;refine oo 3 ?_;exact Zz b ⟨Wq a,Zv⟩
 . intro a b;have d:=sp a;refine oo 3 ?_;exact Zz b ⟨Wz a,Zv⟩
 refine ox 2 ?_;refine Zq (q) func177 (Zn results177 rfl) ⟨_,rfl,cB (digI c),rfl⟩
theorem run_ok (hn:n<=s.size)(h63:s.size<=65536):CallF prog G 176 [.string s,I64 n] (q) (Ret fun v q'=>v= I64 (Q2 ((bs s).drop n):Nat)/\q'=q):=by
 refine aC func176 ntmps176 rfl fun F cs=> ?_;refine xx 10 ?_;refine aY (cG (fun (k:Nat)=>n+k<=s.size/\Q2 ((bs s).drop n)=k+Q2 ((bs s).drop (n+k))) (fun k=> [(5,I64 k),(0,.string s),(1,I64 n),(4,I64 0)]) (fun k=>(q++F)) (fun k=>s.size - k) (fun k b i=> ?_) 0 ⟨hn,by rw [eC];rfl⟩) Zu leA;try dsimp only at b i|-
 obtain ⟨l,a⟩:=b;have m:=Ko s;refine xo 10 ?_;refine Zf [12,5,0,1,4] ?_;apply Zp 15 27 12 rfl
 . intro f h;have d:=sp f;refine oo 4 ?_;refine Zt (Wb rfl rfl underlying9 (by omega) (by omega)) ?_;refine bA 17 (.int .u8 (((bs s).getD (n+k) 0).toNat:Int)) rfl (rfl) ?_;refine aO call182 (Ta (c:=(bs s).getD (n+k) 0)) ?_;refine oo 1 ?_;refine Zf [19,12,5,0,1,4] ?_;apply Zy 7 26 19 rfl
   . intro e g;have p:=sp e;refine oo 4 ?_;refine Zt (Wb rfl rfl underlying9 (by omega) (by omega)) ?_;refine bA 24 (.int .u8 (((bs s).getD (n+k) 0).toNat:Int)) rfl (rfl) ?_;refine aO call177 (Tq (c:=(bs s).getD (n+k) 0)) ?_;refine oo 1 ?_;exact Zz g ⟨orF e,Zv⟩
   . intro e g;have p:=sp e;refine oo 7 ?_;exact Zz g ⟨orT e,Zv⟩
   refine oo 1 ?_;exact Zz h ⟨Wq f,Zv⟩
 . intro f h;have d:=sp f;refine oo 15 ?_;exact Zz h ⟨Wz f,Zv⟩
 refine ox 1 ?_;refine xp 27 ?_ ?_<;>intro d
 . refine xx 9 ?_;refine aY (i (k+1) ⟨by omega,by rw [a,O4 (n:=n+k) (by omega),if_pos (by unfold Nv;simp_all),show n+(k+1)=n+k+1 from rfl];omega⟩ (by omega)) Zu leA
 refine xx 7 ?_;refine Zq (q) func176 (Zn results176 rfl) ⟨_,rfl,by rw [a];rcases dQ (n+k) s.size with j|j;rw [O4 (n:=n+k) (by omega),if_neg (fun o=>by unfold Nv at o;rcases d with d|d;omega;simp_all)];rfl;rw [runS_end (by omega)];rfl,rfl⟩
theorem Zqk (h:i<l.length):Hu (l.take (i+1))=Hu (l.take i)*10+((l.getD i 0).toNat - 48):=by
 rw [aH h,gD h];unfold Hu;rw [List.foldl_append];rfl
theorem Oo (h:l.all Qo=true):0<=Hu l/\Hu l<10 ^ l.length:=by
 have b: ∀ (l:Bs) (a:Int),0<=a->l.all Qo=true->0<=l.foldl (fun n c=>n*10+((c.toNat:Int) - 48)) a/\l.foldl (fun n c=>n*10+((c.toNat:Int) - 48)) a<(a+1)*10 ^ l.length:=by
  intro l
  induction l with
  |nil=>intro a e _;exact ⟨e,by simp;omega⟩
  |cons c r ih=>
   intro a e h;rw [iB,aI] at h;have g:48<=c.toNat/\c.toNat<=57:=by have:=h.1;simp [Qo] at this;exact this
   obtain ⟨d,f⟩:=ih (a*10+((c.toNat:Int) - 48)) (by omega) h.2;refine ⟨d,Int.lt_of_lt_of_le f ?_⟩;rw [bG,Int.pow_succ,Int.mul_comm (10 ^ r.length) 10,<-Int.mul_assoc];exact Int.mul_le_mul_of_nonneg_right (by omega) (Int.pow_nonneg (by decide))
 have d:=b l 0 (by decide) h;simpa [Hu] using d
theorem Gf (ha:w.all Qo=true)(hl:w.length<=10):C6 w=if (decide (Hu w<=2147483647) && (decide (w.length=1)||decide (((w.getD 0 0).toNat:Int)≠48)))=true then some (Hu w) else none:=by
 unfold C6;rw [if_pos (by rw [ha];simpa using hl)];have e:(w.getD 0 0≠48)↔((w.getD 0 0).toNat:Int)≠48:=by rw [Ne,Ne,<-UInt8.toNat_inj];simp;omega
 simp only [e,aI,dM,bN]
theorem numS_no (hlt:k<w.length)(h:Qo (w.getD k 0)=false\/10<=k):C6 w=none:=by
 unfold C6;rw [if_neg];rw [aI,cC];rintro ⟨b,a⟩;rcases h with h|h
 . have:=b _ (aB hlt);rw [<-gD (d:=0) hlt,h] at this;cases this
 simp at a;omega
theorem all_take (h:i<l.length)(ha:(l.take i).all Qo=true):(l.take (i+1)).all Qo=Qo (l.getD i 0):=by
 rw [aH h,kB,ha,gD h];simp
abbrev AQ (v0:ByteArray)(v1):=((.int .u8 (((bs v0).getD v1 0).toNat:Int)):Value)
theorem Sg (h0s:0<s.size)(h63:s.size<=65536):CallF prog G 178 [.string s] (q) (Ret fun v q'=> ∃ (x:Int) (ok:Bool),v= .tuple [I64 x,.bool ok].toArray/\q'=q/\C6 (bs s)=(if ok=true then some x else none)):=by
 refine aC func178 ntmps178 rfl fun F cs=> ?_;have y:=Ko s;refine xx 15 ?_;refine aY (cG (fun (k:Nat)=>k<=s.size/\k<=10/\((bs s).take k).all Qo=true) (fun k=> [(5,I64 k),(0,.string s),(4,I64 (Hu ((bs s).take k))),(2,I64 0),(3,.bool false)]) (fun k=>(q++F)) (fun k=>s.size - k) (fun k g o=> ?_) 0 ⟨bB _,by omega,rfl⟩) Zu leA;try dsimp only at g o|-
 obtain ⟨u,t,b⟩:=g;have m:=Oo b;rw [bH] at m;have hp:(10:Int) ^ min k (bs s).length<=10 ^ 10:=by have:(10:Nat) ^ min k (bs s).length<=10 ^ 10:=Nat.pow_le_pow_right (by decide) (by omega);exact_mod_cast this
 refine xx 8 ?_;refine xp 9 ?_ ?_<;>intro h0
 . have d:k<(bs s).length:=by omega
   refine xo 9 ?_;refine Zt (Wb rfl rfl underlying9 (by omega) (by omega)) ?_;refine bA 14 (AQ s k) rfl (rfl) ?_;refine aO call177 (Tq (c:=(bs s).getD k 0)) ?_;refine Zt (bV rfl) ?_;refine oo 1 ?_;refine Zf [17,5,0,4,2,3] ?_;apply Zy 3 20 17 rfl
   . intro j n;have a:=sp j;refine oo 3 ?_;exact Zz n ⟨orF j,Zv⟩
   . intro j n;have a:=sp j;refine oo 3 ?_;exact Zz n ⟨orT j,Zv⟩
   refine ox 1 ?_;refine xp 20 ?_ ?_<;>intro a
   . refine xx 6 ?_;refine Zq (q) func178 (Wu results178 rfl rfl) ⟨_,rfl,0,false,rfl,rfl,by rw [if_neg (by decide)];exact numS_no d (by rcases a with a|a;exact .inl (by simpa using a);exact .inr (by omega))⟩
   refine xo 7 ?_;refine Zt (Wb rfl rfl underlying9 (by omega) (by omega)) ?_;refine bA 25 (AQ s k) rfl (rfl) ?_;have i:Qo ((bs s).getD k 0)=true:=by simpa using a.1
   have w:48<=((bs s).getD k 0).toNat/\((bs s).getD k 0).toNat<=57:=by have h:=i;simp only [Qo,aI,bN] at h;exact h
   have p:k<10:=by omega
   have r:Hu ((bs s).take k)<10 ^ 9*10:=by omega
   refine oo 1 ?_;refine bA 26 (.int .u8 ((((bs s).getD k 0).toNat:Int) - 48)) rfl (bK (Value.int .u8) (by rw [wu8];omega)) ?_;refine ox 10 ?_;have z:=Zqk d;refine aY (o (k+1) ⟨by omega,by omega,by rw [all_take d b];exact i⟩ (by omega)) Zu leA
 obtain rfl:k=s.size:=by omega
 have e:(bs s).take s.size=bs s:=eO (by omega);rw [e] at b;refine cQ 4 (I64 (Hu (bs s))) rfl (by rw [e]) ?_;refine rn [3,0,1,2,3,4] ?_;refine gT 32 rfl ?_ ?_<;>intro a
 . replace a:=sp a;refine dd [4,5,6,7,13] ?_;refine gT 36 rfl ?_ ?_<;>intro l
   . replace l:=sp l;refine rn [9,10,11,12,13,15,0] ?_;refine Zq (q) func178 (Wu results178 rfl rfl) ⟨_,rfl,Hu (bs s),_,rfl,rfl,by rw [Gf b (by omega)];have f:(bs s).length=1:=(by omega);simp [a,f]⟩
   replace l:=sp l;refine dd [8] ?_;refine Vz 9 rfl (Wb rfl rfl underlying9 (by omega) (by show 0<_;omega)) ?_;refine dS 38 (.int .u8 (((bs s).getD 0 0).toNat:Int)) rfl (rfl) ?_;refine rn [11,12,13,15,0] ?_;refine Zq (q) func178 (Wu results178 rfl rfl) ⟨_,rfl,Hu (bs s),_,rfl,rfl,by rw [Gf b (by omega)];have f: ¬ (bs s).length=1:=(by omega);simp [a,f]⟩
 replace a:=sp a;refine rn [5,6,7,8,14,9,10,11,12,13,15,0] ?_;refine Zq (q) func178 (Wu results178 rfl rfl) ⟨_,rfl,Hu (bs s),_,rfl,rfl,by rw [Gf b (by omega)];have f: ¬Hu (bs s)<=2147483647:=(by omega);simp [f]⟩
theorem words_ok:CallF prog G 199 [] ([]) (Ret fun v q'=> ∃ g,v= .slice (some ⟨g,0,none⟩) 20 20/\q'= [lsH (fun w:Bs=>Value.string (ba w)) 9 (some ⟨g,0,none⟩) 20 wordsS]):=by
 refine aC func199 ntmps199 rfl fun F cs=> ?_;refine xo 6 ?_;refine bQ (Yp (fun w:Bs=>Value.string (ba w)) wordsS underlying25 Wh rfl rfl rfl rfl rfl rfl (fun _=>rfl)) ?_;rintro _ _ ⟨g,rfl,rfl⟩;refine ox 2 ?_;refine Zq [lsH (fun w:Bs=>Value.string (ba w)) 9 (some ⟨g,0,none⟩) 20 wordsS] func199 (Zn results199 rfl) ⟨_,rfl,g,rfl,rfl⟩
theorem signs_ok:CallF prog G 180 [] ([]) (Ret fun v q'=> ∃ g,v= .slice (some ⟨g,0,none⟩) 20 20/\q'= [lsH (fun w:Bs=>Value.string (ba w)) 9 (some ⟨g,0,none⟩) 20 signsS]):=by
 refine aC func180 ntmps180 rfl fun F cs=> ?_;refine xo 6 ?_;refine bQ (Yp (fun w:Bs=>Value.string (ba w)) signsS underlying25 Wh rfl rfl rfl rfl rfl rfl (fun _=>rfl)) ?_;rintro _ _ ⟨g,rfl,rfl⟩;refine ox 2 ?_;refine Zq [lsH (fun w:Bs=>Value.string (ba w)) 9 (some ⟨g,0,none⟩) 20 signsS] func180 (Zn results180 rfl) ⟨_,rfl,g,rfl,rfl⟩
theorem Jx:CallF prog G 179 [.string s] (q) (Ret fun v q'=>v= .bool (kwS (bs s))/\q'=q):=by
 refine aC func179 ntmps179 rfl fun F cs=> ?_;refine xo 6 ?_;refine W3 call199 (words_ok) ?_;refine kd1 fun g=> ?_
 refine ox 8 ?_;refine aY (cG (fun (k:Nat)=>k<=20/\kwS (bs s)=(wordsS.drop k).any (· ==bs s)) (fun k=> [(4,I64 k),(3,.slice (some ⟨g,0,none⟩) 20 20),(0,.string s),(2,.bool false)]) (fun k=>lsH (fun w:Bs=>Value.string (ba w)) 9 (some ⟨g,0,none⟩) 20 wordsS::(q++F)) (fun k=>20 - k) (fun k c e=> ?_) 0 ⟨bB _,rfl⟩) Zu leA;try dsimp only at c e|-
 obtain ⟨h,b⟩:=c;refine xx 8 ?_;refine xp 9 ?_ ?_<;>intro i
 . have a:k<wordsS.length:=by show k<20;omega
   refine xo 9 ?_;refine ld ?_ (hc:=(jN (n:=k) (bR _) Zk a rfl));refine ox 3 ?_;refine xp 17 ?_ ?_<;>intro f
   . refine xx 5 ?_;have d:wordsS.drop k=wordsS[k]::wordsS.drop (k+1):=aJ a;refine Zq (q) func179 (Zn results179 rfl) ⟨_,rfl,by rw [b,d,iD,<-V3 wordsS[k],sTr f];rfl,rfl⟩
   refine xx 8 ?_;have d:wordsS.drop k=wordsS[k]::wordsS.drop (k+1):=aJ a;refine aY (e (k+1) ⟨by omega,by rw [b,d,iD,<-V3 wordsS[k],sNe f];rfl⟩ (by omega)) Zu leA
 obtain rfl:k=20:=by omega
 refine xx 6 ?_;refine Zq (q) func179 (Zn results179 rfl) ⟨_,rfl,by rw [b];rfl,rfl⟩
def OneOut (l:Bs)(v:Value):Prop:=(∃ k w z,M0 l=some (k,w,z)/\0<w.length/\w.length<=l.length/\v= .tuple [.agg [I64 k,.string (ba w),I64 z,I64 0,I64 0].toArray,I64 (w.length:Nat),I64 0].toArray)\/(M0 l=none/\ ∃ t z e,e≠0/\v= .tuple [.agg (tkC t).toArray,I64 z,I64 e].toArray)
theorem Zq8 (h:k<signsS.length):(signsS.drop k).find? (fun s=>s==l.take s.length)=if (signsS[k]==l.take signsS[k].length)=true then some signsS[k] else (signsS.drop (k+1)).find? (fun s=>s==l.take s.length):=by
 rw [aJ h,List.find?_cons];cases signsS[k]==l.take signsS[k].length<;>rfl
theorem oneW_eq {r:Nat}{W:Bs}(hr:Q2 ((bs s).drop n)=r)(hW:((bs s).drop n).take r=W):M0 ((bs s).drop n)=if 0<r/\Qo ((bs s).getD n 0)=true then (match C6 W with|some x=>some ((2:Int),W,x)|none=>none) else if 0<r/\kwS W=true then some (3,W,0) else if 16<r then none else if 0<r then some (1,W,0) else match signsS.find? (fun z=>z==((bs s).drop n).take z.length) with|some z=>some (4,z,0)|none=>none:=by
 unfold M0;rw [hr,hW,show ((bs s).drop n).getD 0 0=(bs s).getD n 0 by simp [List.getD]]<;>rfl
theorem Zqu: ∀ k,(h:k<20)->0<(signsS[k]'h).length/\(signsS[k]'h).length<=2:=by decide
theorem extr :s.extract n (n+m)=ba (((bs s).drop n).take m):=by rw [<-ba_bs (s.extract n (n+m)),Iv];congr 2;omega
abbrev Aw (v0):=((I64 v0):Value)
theorem lxone_ok (hn:n<s.size)(h63:s.size<=65536):CallF prog G 145 [.string s,I64 n] (q) (Ret fun v q'=>OneOut ((bs s).drop n) v/\q'=q):=by
 refine aC func145 ntmps145 rfl fun F cs=> ?_;have e0:=Ko s;have y:=Mq ((bs s).drop n);rw [bS] at y;obtain ⟨r,hr⟩: ∃ r,Q2 ((bs s).drop n)=r:=⟨_,rfl⟩;rw [hr] at y;obtain ⟨W,hW⟩: ∃ W,((bs s).drop n).take r=W:=⟨_,rfl⟩;have t:W.length=r:=by rw [<-hW,bH,bS];omega
 have j:=oneW_eq hr hW;obtain ⟨O,f⟩: ∃ O,M0 ((bs s).drop n)=O:=⟨_,rfl⟩;rw [f] at j
 have a:(0<r/\Qo ((bs s).getD n 0)=true)\/(0<r/\Qo ((bs s).getD n 0)=false/\kwS W=true)\/(16<r/\Qo ((bs s).getD n 0)=false/\kwS W=false)\/((0<r/\r<=16)/\Qo ((bs s).getD n 0)=false/\kwS W=false)\/r=0:=by
  cases Qo ((bs s).getD n 0)<;>cases kwS W<;>simp<;>omega
 rcases a with a|a|a|a|a
 iterate 5
  focus
   refine xo 2 ?_;refine bW zeroValue234 fun n1=> ?_
   refine oo 7 ?_;refine aO call176 (run_ok (n:=n) (by omega) h63) ?_;refine bA 16 (Aw r) rfl (by rw [hr]) ?_;refine oo 9 ?_;refine Zt (Fe rfl rfl rfl underlying9 (by omega) (by omega) (by omega)) ?_;refine bA 22 (.string (ba W)) rfl (by rw [show ((n:Int)+r).toNat=n+r by omega,fB,extr,hW]) ?_;refine oo 9 ?_;refine Zf [26,8,7,6,5,4,0,1] ?_;apply Zp 5 31 26 rfl
   . intro b d;have i:=sp b;refine oo 2 ?_;refine Zt (Wb rfl rfl underlying9 (by omega) (by omega)) ?_;refine bA 29 (AQ s n) rfl (rfl) ?_;refine aO call177 (Tq (c:=(bs s).getD n 0)) ?_;refine oo 1 ?_;exact Zz d ⟨Wq b,Zv⟩
   . intro b d;have i:=sp b;refine oo 5 ?_;exact Zz d ⟨Wz b,Zv⟩
   refine ox 2 ?_
  rotate_left
 . refine X.kt 23 ?_ rfl (by rw [a.2];simp [a.1]);refine xo 4 ?_;have d0:(ba W).size=r:=t;refine Zb call178 (aE _) (Sg (s:=ba W) (by omega) (by omega)) ?_;rintro _ _ ⟨x,ok,rfl,rfl,m⟩;rw [V3] at m;refine oo 10 ?_;refine Zt (bV rfl) ?_;refine ox 1 ?_;refine xp 38 ?_ ?_<;>intro i
   . refine rn [4,0,3] ?_;rw [if_pos a,m] at j;refine Zq (q) func145 (Bo results145) ⟨_,rfl,.inr ⟨by rw [f,j,if_neg (by simp_all)],⟨0,⟨#[]⟩,0,0,0⟩,0,112,by decide,rfl⟩,rfl⟩
   refine rn [8,0,3] ?_;rw [if_pos a,m] at j;refine Zq (q) func145 (Bo results145) ⟨_,rfl,.inl ⟨2,W,x,by rw [f,j,if_pos (by simpa using i)],by omega,by rw [bS];omega,by rw [t];rfl⟩,rfl⟩
 . refine Jc 23 ?_ rfl (by rw [a.2.1];simp);refine xo 6 ?_;refine Zf [47,8,7,6,5,4,0,1] ?_;apply Zp 3 50 47 rfl
   . intro b d;have i:=sp b;refine oo 1 ?_;refine aO call179 (Jx (s:=ba W)) ?_;refine bA 49 (.bool (kwS W)) rfl (by rw [V3]) ?_;refine oo 1 ?_;exact Zz d ⟨Wq b,Zv⟩
   . intro b d;have i:=sp b;refine oo 3 ?_;exact Zz d ⟨Wz b,Zv⟩
   refine ox 2 ?_;refine X.kt 44 ?_ rfl (by rw [a.2.2];simp [a.1]);refine rn [6,0,3] ?_;rw [if_neg (by rw [a.2.1];simp),if_pos ⟨a.1,a.2.2⟩] at j;refine Zq (q) func145 (Bo results145) ⟨_,rfl,.inl ⟨3,W,0,by rw [f,j],by omega,by rw [bS];omega,by rw [t];rfl⟩,rfl⟩
 . refine Jc 23 ?_ rfl (by rw [a.2.1];simp);refine xo 6 ?_;refine Zf [47,8,7,6,5,4,0,1] ?_;apply Zp 3 50 47 rfl
   . intro b d;have i:=sp b;refine oo 1 ?_;refine aO call179 (Jx (s:=ba W)) ?_;refine bA 49 (.bool (kwS W)) rfl (by rw [V3]) ?_;refine oo 1 ?_;exact Zz d ⟨Wq b,Zv⟩
   . intro b d;have i:=sp b;refine oo 3 ?_;exact Zz d ⟨Wz b,Zv⟩
   refine ox 2 ?_;refine Jc 44 ?_ rfl (by rw [a.2.2];simp);refine rn [7,2054,4,0,3] ?_;rw [if_neg (by rw [a.2.1];simp),if_neg (by rw [a.2.2];simp),if_pos a.1] at j;refine Zq (q) func145 (Bo results145) ⟨_,rfl,.inr ⟨by rw [f,j],⟨0,⟨#[]⟩,0,0,0⟩,0,111,by decide,rfl⟩,rfl⟩
 . refine Jc 23 ?_ rfl (by rw [a.2.1];simp);refine xo 6 ?_;refine Zf [47,8,7,6,5,4,0,1] ?_;apply Zp 3 50 47 rfl
   . intro b d;have i:=sp b;refine oo 1 ?_;refine aO call179 (Jx (s:=ba W)) ?_;refine bA 49 (.bool (kwS W)) rfl (by rw [V3]) ?_;refine oo 1 ?_;exact Zz d ⟨Wq b,Zv⟩
   . intro b d;have i:=sp b;refine oo 3 ?_;exact Zz d ⟨Wz b,Zv⟩
   refine ox 2 ?_;refine Jc 44 ?_ rfl (by rw [a.2.2];simp);refine rn [7,1054,7] ?_;refine cQ 58 bT rfl (cB (by simp;omega)) ?_;refine rn [6,0,3] ?_;rw [if_neg (by rw [a.2.1];simp),if_neg (by rw [a.2.2];simp),if_neg (by omega),if_pos a.1.1] at j;refine Zq (q) func145 (Bo results145) ⟨_,rfl,.inl ⟨1,W,0,by rw [f,j],by omega,by rw [bS];omega,by rw [t];rfl⟩,rfl⟩
 refine Jc 23 ?_ rfl (by simp [a]);refine xo 6 ?_;refine Zf [47,8,7,6,5,4,0,1] ?_;apply Zp 3 50 47 rfl
 . intro b d;have i:=sp b;refine oo 1 ?_;refine aO call179 (Jx (s:=ba W)) ?_;refine bA 49 (.bool (kwS W)) rfl (by rw [V3]) ?_;refine oo 1 ?_;exact Zz d ⟨Wq b,Zv⟩
 . intro b d;have i:=sp b;refine oo 3 ?_;exact Zz d ⟨Wz b,Zv⟩
 refine ox 2 ?_;refine Jc 44 ?_ rfl (by simp [a]);refine xx 7 ?_;refine Jc 54 ?_ rfl (by simp [a]);refine xx 7 ?_;refine Jc 58 ?_ rfl (by simp [a]);refine xo 5 ?_;refine W3 call180 (signs_ok) ?_;refine kd1 fun g=> ?_
 refine ox 8 ?_;rw [if_neg (by omega),if_neg (by omega),if_neg (by omega),if_neg (by omega)] at j;refine aY (cG (fun (k:Nat)=>k<=20/\signsS.find? (fun z=>z==((bs s).drop n).take z.length)=(signsS.drop k).find? (fun z=>z==((bs s).drop n).take z.length)) (fun k=> [(12,I64 k),(11,.slice (some ⟨g,0,none⟩) 20 20),(0,.string s),(1,I64 n),(4,pt n1),(5,I64 0),(6,I64 0)]) (fun k=>lsH (fun w:Bs=>Value.string (ba w)) 9 (some ⟨g,0,none⟩) 20 signsS::pto n1 (.cells [I64 0,.string ⟨#[]⟩,I64 0,I64 0,I64 0].toArray 234 (0,0))::(q++F)) (fun k=>20 - k) (fun k a0 ih=> ?_) 0 ⟨bB _,rfl⟩) Zu leA;try dsimp only at a0 ih|-
 obtain ⟨c0,p⟩:=a0;refine xx 8 ?_;refine xp 68 ?_ ?_<;>intro h0
 . have o:k<signsS.length:=by show k<20;omega
   have hf:=Zq8 (l:=(bs s).drop n) o;have u:=Zqu k o;obtain ⟨Z,hZ⟩: ∃ Z,signsS[k]=Z:=⟨_,rfl⟩;rw [hZ] at hf u;have b0:(ba Z).size=Z.length:=rfl;refine xo 9 ?_;refine ld ?_ (hc:=(jN (n:=k) (bR _) Zk o rfl));refine bA 74 (.string (ba Z)) rfl (by rw [hZ]) ?_;refine rn [4,0,1,2,3,4,5,6,7] ?_;refine gT 82 rfl ?_ ?_<;>intro i
   . replace i:=sp i;refine dd [7,8,9,10,11] ?_;refine Vz 12 rfl (Fe rfl rfl rfl underlying9 (by omega) (by omega) (by omega)) ?_;refine dS 88 (.string (ba (((bs s).drop n).take Z.length))) rfl (by rw [show ((n:Int)+(ba Z).size).toNat=n+Z.length by omega,fB,extr]) ?_;refine dd [13,14,15] ?_;refine ldD 16 ?_ (hc:=(jN (n:=k) (bR _) Zk o rfl));refine dS 92 (.string (ba Z)) rfl (by rw [hZ]) ?_;refine rn [18,19,0] ?_;refine xp 94 ?_ ?_<;>intro h2
     . refine xo 6 ?_;refine ld ?_ (hc:=(jN (n:=k) (bR _) Zk o rfl));refine bA 98 (.string (ba Z)) rfl (by rw [hZ]) ?_;refine rn [2,0,3] ?_;refine Zq (q) func145 (Bo results145) ⟨_,rfl,.inl ⟨4,Z,0,by have h:=sTr h2;rw [V3,V3] at h;rw [f,j,p,hf,if_pos (by rw [dC] at h|-;exact h.symm)],u.1,by rw [bS];omega,rfl⟩,rfl⟩
     refine xx 8 ?_;refine aY (ih (k+1) ⟨by omega,by have h:=sNe h2;rw [V3,V3] at h;rw [p,hf,if_neg (by rw [dC];intro e;rw [<-e] at h;simp at h)]⟩ (by omega)) Zu leA
   replace i:=sp i;refine rn [8,9,10,11,12,13,14,15,16,17,18,19,0,8] ?_;refine aY (ih (k+1) ⟨by omega,by have h:=i;rw [p,hf,if_neg (by rw [dC];intro e;have:=bK List.length e;rw [bH,bS] at this;omega)]⟩ (by omega)) Zu leA
 obtain rfl:k=20:=by omega
 refine rn [5,0,3] ?_;refine Zq (q) func145 (Bo results145) ⟨_,rfl,.inr ⟨by rw [f,j,p];rfl,⟨0,⟨#[]⟩,0,0,0⟩,0,110,by decide,rfl⟩,rfl⟩
end
theorem lex_at (h:k<l.length):Ju (g+1) (l.drop k) ln cl=
 if l.getD k 0=10 then Ju g (l.drop (k+1)) (ln+1) 1
 else if l.getD k 0=32\/l.getD k 0=9\/l.getD k 0=13 then Ju g (l.drop (k+1)) ln (cl+1)
 else if l.getD k 0=35 then Ju g ((l.drop k).dropWhile (· !=10)) ln (cl+((l.drop k).takeWhile (· !=10)).length)
 else match M0 (l.drop k) with
  |none=>none
  |some (c,w,n)=>(Ju g (l.drop (k+w.length)) ln (cl+w.length)).map (⟨c,ba w,n,ln,cl⟩:: ·):=by
 rw [gD h,<-fK,aJ h,Ju];split;rfl;split;rfl;split;rfl
 cases M0 (l[k]::l.drop (k+1)) with
 |none=>rfl
 |some x=>
  have e:List.drop x.2.1.length (l[k]::l.drop (k+1))=l.drop (k+x.2.1.length):=by rw [<-aJ h,fK]
  simp only [e]
theorem lex_end (h:l.length<=k):Ju (g+1) (l.drop k) ln cl=some []:=by rw [cO h];rfl
theorem skip_at (h:k<l.length)(hc:l.getD k 0≠10):(l.drop k).dropWhile (· !=10)=(l.drop (k+1)).dropWhile (· !=10)/\((l.drop k).takeWhile (· !=10)).length=((l.drop (k+1)).takeWhile (· !=10)).length+1:=by
 rw [gD h] at hc;rw [aJ h,List.dropWhile_cons,iJ,if_pos (by simpa using hc),if_pos (by simpa using hc)];exact ⟨rfl,rfl⟩
theorem Cr (h:l.length<=k\/l.getD k 0=10):(l.drop k).dropWhile (· !=10)=l.drop k/\((l.drop k).takeWhile (· !=10)).length=0:=by
 rcases dQ k l.length with a|a
 . have b:=h.resolve_left (by omega);rw [gD a] at b;rw [aJ a,List.dropWhile_cons,iJ,if_neg (by simp [b]),if_neg (by simp [b])];exact ⟨rfl,rfl⟩
 rw [cO a];exact ⟨rfl,rfl⟩
theorem c8 {c d:UInt8}:((c.toNat:Int)=d.toNat)↔c=d:=by rw [<-UInt8.toNat_inj];omega
def Rt (l:Bs):Option (List Tk):=if 65536<l.length then none else Ju (l.length+1) l 1 1
theorem spT (h:x=32\/x=9\/x=13):((x.toNat:Int)==32||(x.toNat:Int)==9||(x.toNat:Int)==13)=true:=by rcases h with rfl|rfl|rfl<;>rfl
theorem spF (h: ¬ (x=32\/x=9\/x=13)):((x.toNat:Int)==32||(x.toNat:Int)==9||(x.toNat:Int)==13)=false:=by
 simp only [not_or] at h;rw [eK,eK,dB,dB,dB];exact ⟨⟨fun e=>h.1 (c8.1 e),fun e=>h.2.1 (c8.1 e)⟩,fun e=>h.2.2 (c8.1 e)⟩
theorem Cf:(prog.info? 234).map (fun i=>(i.zero,i.size,i.bytes))=some (some (.agg #[I64 0,.string ⟨#[]⟩,I64 0,I64 0,I64 0]),5,48):=by kernel_rfl
abbrev B3 (v0:Int)(v1:Int):=([I64 v0,I64 v1]:List Value)
theorem Lex_ok:CallF prog G 113 [.string s] (q) (Ret fun v q'=>(∃ ts a c,Rt (bs s)=some ts/\v= .tuple [.slice a ts.length c,.agg zz5.toArray,I64 0].toArray/\q'=rsH tkC 5 234 a c ts::q)\/(Rt (bs s)=none/\ ∃ (y z e:Int),e≠0/\v= .tuple [.slice none 0 0,.agg (B3 y z).toArray,I64 e].toArray/\q'=q)):=by
 refine aC func113 ntmps113 rfl fun F cs=> ?_;have m0:=Ko s;refine xo 3 ?_;refine bW zeroValue107 fun n1=> ?_
 refine ox 9 ?_;refine xp 14 ?_ ?_<;>intro h0
 . refine rn [5,0,2] ?_;refine Zq (q) func113 (T9 results113) ⟨_,rfl,.inr ⟨by unfold Rt;rw [if_pos (by omega)],0,0,3,by decide,rfl,rfl⟩⟩
 have o0:s.size<=65536:=by omega
 obtain ⟨S,hS⟩: ∃ S,Rt (bs s)=S:=⟨_,rfl⟩;have k0:S=(Ju (s.size+1) ((bs s).drop 0) 1 1).map ([]++ ·):=by rw [<-hS];unfold Rt;rw [if_neg (by omega),m0,gB];cases Ju (s.size+1) (bs s) 1 1<;>rfl
 rw [hS];refine xo 9 ?_;refine bW zeroValue107 fun n2=> ?_
 refine rn [0,7] ?_;refine aY (cG (fun (b:(Option Addr×Nat×List Tk)×Nat×Int×Int×Nat)=>b.2.1<=s.size/\s.size - b.2.1<b.2.2.2.2/\(1<=b.2.2.1/\b.2.2.1<=b.2.1+1/\1<=b.2.2.2.1/\b.2.2.2.1<=b.2.1+1/\b.1.2.2.length<=b.2.1)/\S=(Ju b.2.2.2.2 ((bs s).drop b.2.1) b.2.2.1 b.2.2.2.1).map (b.1.2.2++ ·)) (fun b=> [(5,.slice b.1.1 b.1.2.2.length b.1.2.1),(7,I64 (b.2.1:Int)),(0,.string s),(6,pt n2),(2,.slice none 0 0),(3,pt n1),(4,I64 0)]) (fun b=>pto n2 (.cells [I64 b.2.2.1,I64 b.2.2.2.1].toArray 107 (0,0))::pto n1 As::rsH tkC 5 234 b.1.1 b.1.2.1 (b.1.2.2)::(q++F)) (fun b=>s.size - b.2.1) (fun b d0 ih=> ?_) ((none,0, []),0,1,1,s.size+1) ⟨bB _,by dsimp only;omega,⟨by dsimp only;omega,by dsimp only;omega,by dsimp only;omega,by dsimp only;omega,aL _⟩,k0⟩) Zu (aS leA (aS (Zi tkC 5 234 _) leA));try dsimp only at d0 ih|-
 obtain ⟨y0,x0,⟨w0,v0,u0,t0,s0⟩,c0⟩:=d0;obtain ⟨⟨a,c,o⟩,k,ln,cl,g⟩:=b;dsimp only at*;obtain ⟨g,rfl⟩: ∃ g2,g=g2+1:=⟨g - 1,by omega⟩;clear k0;refine xx 8 ?_;refine xp 20 ?_ ?_<;>intro w
 . have l0:k<(bs s).length:=by omega
   have hL:=lex_at (g:=g) (ln:=ln) (cl:=cl) l0;obtain ⟨x,hx⟩: ∃ x,(bs s).getD k 0=x:=⟨_,rfl⟩;rw [hx] at hL;rcases Classical.em (x=10) with i|i
   . refine xo 7 ?_;refine Zt (Wb rfl rfl underlying9 (by omega) (by omega)) ?_;refine bA 23 (.int .u8 (x.toNat:Int)) rfl (by rw [<-hx];rfl) ?_;refine ox 8 ?_;refine X.kt 25 ?_ rfl (dC.2 (by rw [i];rfl));refine rn [4,0,4,0,1,0,3] ?_;refine aY (ih ((a,c,o),k+1,ln+1,1,g) ⟨by dsimp only;omega,by dsimp only;omega,⟨by dsimp only;omega,by dsimp only;omega,by dsimp only;omega,by dsimp only;omega,by dsimp only;omega⟩,by rw [c0,hL,if_pos i]⟩ (by dsimp only;omega)) Zu leA
   rcases Classical.em (x=32\/x=9\/x=13) with a0|a0
   . refine xo 7 ?_;refine Zt (Wb rfl rfl underlying9 (by omega) (by omega)) ?_;refine bA 23 (.int .u8 (x.toNat:Int)) rfl (by rw [<-hx];rfl) ?_;refine ox 8 ?_;refine Jc 25 ?_ rfl (dB.2 (fun e=>i (c8.1 e)));refine xo 8 ?_;refine Zf [35,8,5,7,0,6,2,3,4] ?_;apply Zy 3 38 35 rfl
     . intro d p;have w:=sp d;refine oo 3 ?_;exact Zz p ⟨orF d,Zv⟩
     . intro d p;have w:=sp d;refine oo 3 ?_;exact Zz p ⟨orT d,Zv⟩
     refine oo 1 ?_;refine Zf [39,8,5,7,0,6,2,3,4] ?_;apply Zy 3 42 39 rfl
     . intro d p;have w:=sp d;refine oo 3 ?_;exact Zz p ⟨orF d,Zv⟩
     . intro d p;have w:=sp d;refine oo 3 ?_;exact Zz p ⟨orT d,Zv⟩
     refine ox 1 ?_;refine X.kt 42 ?_ rfl (spT a0);refine rn [4,0,4,0,3] ?_;refine aY (ih ((a,c,o),k+1,ln,cl+1,g) ⟨by dsimp only;omega,by dsimp only;omega,⟨by dsimp only;omega,by dsimp only;omega,by dsimp only;omega,by dsimp only;omega,by dsimp only;omega⟩,by rw [c0,hL,if_neg i,if_pos a0]⟩ (by dsimp only;omega)) Zu leA
   rcases Classical.em (x=35) with b0|b0
   iterate 2
    focus
     refine xo 7 ?_;refine Zt (Wb rfl rfl underlying9 (by omega) (by omega)) ?_;refine bA 23 (.int .u8 (x.toNat:Int)) rfl (by rw [<-hx];rfl) ?_;refine ox 8 ?_;refine Jc 25 ?_ rfl (dB.2 (fun e=>i (c8.1 e)));refine xo 8 ?_;refine Zf [35,8,5,7,0,6,2,3,4] ?_;apply Zy 3 38 35 rfl
     . intro d p;have w:=sp d;refine oo 3 ?_;exact Zz p ⟨orF d,Zv⟩
     . intro d p;have w:=sp d;refine oo 3 ?_;exact Zz p ⟨orT d,Zv⟩
     refine oo 1 ?_;refine Zf [39,8,5,7,0,6,2,3,4] ?_;apply Zy 3 42 39 rfl
     . intro d p;have w:=sp d;refine oo 3 ?_;exact Zz p ⟨orF d,Zv⟩
     . intro d p;have w:=sp d;refine oo 3 ?_;exact Zz p ⟨orT d,Zv⟩
     refine ox 1 ?_;refine Jc 42 ?_ rfl (spF a0);refine xx 8 ?_
    rotate_left
   . refine X.kt 50 ?_ rfl (dC.2 (by rw [b0];rfl));refine xx 3 ?_;refine aY (cG (fun (j:Nat)=>k<=j/\j<=s.size/\((bs s).drop k).dropWhile (· !=10)=((bs s).drop j).dropWhile (· !=10)/\(((bs s).drop k).takeWhile (· !=10)).length=(j - k)+(((bs s).drop j).takeWhile (· !=10)).length) (fun j=> [(7,I64 j),(0,.string s),(5,.slice a o.length c),(6,pt n2),(2,.slice none 0 0),(3,pt n1),(4,I64 0)]) (fun j=>pto n2 (.cells [I64 ln,I64 (cl+(j - k:Nat))].toArray 107 (0,0))::pto n1 As::rsH tkC 5 234 a c (o)::(q++F)) (fun j=>s.size - j) (fun j d0 e0=> ?_) k ⟨aL _,by omega,rfl,by omega⟩) Zu (by rw [Nat.sub_self,show (cl+((0:Nat):Int))=cl by omega];exact leA);try dsimp only at d0 e0|-
     obtain ⟨r0,q0,j0,i0⟩:=d0;refine xo 8 ?_;refine Zf [55,7,0,5,6,2,3,4] ?_;apply Zp 5 60 55 rfl
     . intro d p;have w:=sp d;refine oo 2 ?_;refine Zt (Wb rfl rfl underlying9 (by omega) (by omega)) ?_;refine bA 58 (.int .u8 (((bs s).getD j 0).toNat:Int)) rfl (rfl) ?_;refine oo 2 ?_;exact Zz p ⟨Wq d,Zv⟩
     . intro d p;have w:=sp d;refine oo 5 ?_;exact Zz p ⟨Wz d,Zv⟩
     refine ox 1 ?_;refine xp 60 ?_ ?_<;>intro w
     . refine rn [5,0,4,0,3] ?_;have g0:=skip_at (l:=bs s) (k:=j) (by omega) (fun e=>w.2 (c8.2 e));refine aY (e0 (j+1) ⟨by omega,by omega,by rw [j0,g0.1],by rw [i0,g0.2];omega⟩ (by omega)) Zu (by rw [show (cl+((j+1 - k:Nat):Int))=cl+((j - k:Nat):Int)+1 by omega];exact leA)
     refine xx 3 ?_;have hj:(bs s).length<=j\/(bs s).getD j 0=10:=by rcases w with w|w;exact .inl (by omega);exact .inr (c8.1 (by first|exact w.2|exact w))
     have p0:k<j:=by rcases dQ k j with h|h;exact h;obtain rfl:j=k:=(by omega);rcases hj with h|h;omega;exact aR (hx.symm.trans h) i
     refine aY (ih ((a,c,o),j,ln,cl+(j - k:Nat),g) ⟨by dsimp only;omega,by dsimp only;omega,⟨by dsimp only;omega,by dsimp only;omega,by dsimp only;omega,by dsimp only;omega,by dsimp only;omega⟩,by rw [c0,hL,if_neg i,if_neg a0,if_pos b0,j0,(Cr hj).1,i0,(Cr hj).2,iS]⟩ (by dsimp only;omega)) Zu leA
   refine Jc 50 ?_ rfl (dB.2 (fun e=>b0 (c8.1 e)));refine xo 6 ?_;refine Zb call145 (aE _) (lxone_ok (n:=k) (by omega) o0) ?_;rintro _ _ ⟨⟨ck,W,z,hO,z0,n0,rfl⟩|⟨hO,t,z,e,he,rfl⟩,rfl⟩
   . refine oo 4 ?_;refine bW zeroValue234 fun n3=> ?_
     refine rn [0,9,1075,4,0,1,0,4,0] ?_;rw [bS] at n0;obtain ⟨tk,f0⟩: ∃ tk:Tk,tk=⟨ck,ba W,z,ln,cl⟩:=⟨_,rfl⟩;refine bA 81 (.agg (tkC tk).toArray) rfl (by rw [f0];rfl) ?_;refine bQ (Yz (u:=tk) tkC underlying221 Cf rfl rfl (fun _=>rfl) rfl) ?_;rintro _ _ ⟨g2,rfl,rfl⟩;refine bQ (Z9 (f:=tkC) (l:=o) (m:= [tk]) underlying221 Cf rfl rfl (fun _=>rfl) rfl rfl Zk ((bE _).le Zk) (fun _=>rfl) (by simp;omega) (by simp;omega)) ?_;rintro _ _ ⟨a3,c3,rfl,rfl⟩;refine rn [4,0,6,0,3] ?_;refine aY (ih ((a3,c3,o++ [tk]),k+W.length,ln,cl+W.length,g) ⟨by dsimp only;omega,by dsimp only;omega,⟨by dsimp only;omega,by dsimp only;omega,by dsimp only;omega,by dsimp only;omega,by simp;omega⟩,by rw [c0,hL,if_neg i,if_neg a0,if_neg b0,hO,f0];simp only [Option.map_map];congr 1;funext r;simp⟩ (by dsimp only;omega)) Zu leA
   refine oo 4 ?_;refine bW zeroValue234 fun n3=> ?_
   refine rn [0,9] ?_;refine X.kt 75 ?_ rfl (by simpa using he);refine rn [2,0,1,2,3,4,5,0] ?_;refine Zq (q) func113 (T9 results113) ⟨_,rfl,.inr ⟨by rw [c0,hL,if_neg i,if_neg a0,if_neg b0,hO];rfl,ln,cl,e,he,rfl,rfl⟩⟩
 obtain rfl:k=s.size:=by omega
 refine rn [7,0,2] ?_;refine Zq (rsH tkC 5 234 a c (o)::q) func113 (T9 results113) ⟨_,rfl,.inl ⟨o,a,c,by rw [c0,lex_end (by omega)];simp,rfl,rfl⟩⟩
end Go.Proofs.YtflkjkhijcdbaaaGreat
