/- Contracts of functions, proved by walking their code. -/
import Derived.Test.YtflkjkhijcdbaaaGreatBc
import Derived.Test.YtflkjkhijcdbaaaGreatRows
import Derived.KernelRfl
set_option maxRecDepth 100000
set_option linter.unusedVariables false
set_option linter.unusedSimpArgs false
namespace Go.Proofs.YtflkjkhijcdbaaaGreat
open Go Go.RowKit Wx Go.Proofs.Tryz
def tbl:Tr:=(.n none (.n none (.n (some (.mk (.int .i64) false 1 none)) (.n none (.n none (.n none (.n none .e (.n (some (.mk (.strct [(189,0)]) true 1 none)) .e .e)) (.n (some (.mk .ptr false 1 none)) .e .e)) (.n (some (.mk (.strct [(3,0),(3,1),(4,2),(39,3),(44,4),(4,5),(2,6),(2,7),(45,8)]) true 9 (some ([(0,1),(1,1),(2,1),(3,1),(4,1),(5,1),(6,1),(7,1),(8,1)], [.int .i64 0,.int .i64 0,.bool false,.int .i64 0,.slice none 0 0,.bool false,.int .i64 0,.int .i64 0,.slice none 0 0])))) .e .e)) (.n (some (.mk (.slc 2) false 1 none)) (.n (some (.mk (.int .i64) false 1 none)) (.n none .e (.n (some (.mk (.strct [(39,0)]) true 1 (some ([(0,1)], [.int .i64 0])))) .e .e)) .e) (.n (some (.mk (.strct [(9,0),(3,1),(53,2)]) true 3 (some ([(0,1),(1,1),(2,1)], [.string ⟨#[]⟩,.int .i64 0,.slice none 0 0])))) .e (.n (some (.mk (.int .i64) false 1 none)) .e .e)))) (.n none (.n none (.n none (.n (some (.mk (.slc 23) false 1 none)) .e .e) (.n (some (.mk (.int .i64) false 1 none)) .e (.n (some (.mk (.int .i64) false 1 none)) .e .e))) .e) (.n (some (.mk (.strct [(25,0),(25,1),(25,2),(25,3),(25,4)]) true 5 (some ([(0,1),(1,1),(2,1),(3,1),(4,1)], [.slice none 0 0,.slice none 0 0,.slice none 0 0,.slice none 0 0,.slice none 0 0])))) (.n none .e (.n (some (.mk (.strct [(3,0),(3,1)]) true 2 (some ([(0,1),(1,1)], [.int .i64 0,.int .i64 0])))) .e .e)) .e))) (.n (some (.mk (.int .u8) false 1 none)) (.n (some (.mk .str false 1 none)) (.n none (.n (some (.mk .ptr false 1 none)) .e (.n none (.n (some (.mk (.slc 229) false 1 none)) .e .e) .e)) (.n none (.n none (.n (some (.mk (.strct [(98,0),(3,8),(47,9)]) true 18 (some ([(0,8),(8,1),(9,9)], [.pointer none,.slice none 0 0,.pointer none,.slice none 0 0,.int .i64 0,.int .i64 0,.int .i64 0,.int .i64 0,.int .i64 0,.int .i64 0,.int .i64 0,.bool false,.int .i64 0,.slice none 0 0,.bool false,.int .i64 0,.int .i64 0,.slice none 0 0])))) .e .e) .e) (.n none (.n none (.n (some (.mk .other false 1 none)) .e .e) .e) (.n (some (.mk (.slc 53) false 1 none)) .e .e)))) (.n (some (.mk (.slc 9) false 1 none)) (.n (some (.mk (.strct [(38,0),(39,1),(3,2),(3,3)]) true 4 (some ([(0,1),(1,1),(2,1),(3,1)], [.int .i64 0,.int .i64 0,.int .i64 0,.int .i64 0])))) .e .e) (.n (some (.mk (.slc 5) false 1 none)) .e (.n (some (.mk (.int .i64) false 1 none)) .e .e)))) (.n none (.n (some (.mk (.int .i32) false 1 none)) (.n (some (.mk (.slc 47) false 1 none)) .e (.n (some (.mk (.strct [(3,0),(99,1),(23,2),(3,3),(22,4)]) true 5 (some ([(0,1),(1,1),(2,1),(3,1),(4,1)], [.int .i64 0,.int .i64 0,.slice none 0 0,.int .i64 0,.slice none 0 0])))) .e (.n (some (.mk (.strct [(227,0),(107,1),(9,3),(2,4),(53,5)]) true 6 (some ([(0,1),(1,2),(3,1),(4,1),(5,1)], [.int .i64 0,.int .i64 0,.int .i64 0,.string ⟨#[]⟩,.int .i64 0,.slice none 0 0])))) .e .e))) (.n (some (.mk (.slc 126) false 1 none)) (.n (some (.mk .other true 4 none)) .e .e) (.n none (.n none (.n (some (.mk (.strct []) true 0 (some ([], [])))) .e .e) .e) (.n (some (.mk (.strct [(9,0),(3,1),(3,2)]) true 3 (some ([(0,1),(1,1),(2,1)], [.string ⟨#[]⟩,.int .i64 0,.int .i64 0])))) .e .e)))) (.n (some (.mk (.strct [(23,0),(22,1),(3,2),(3,3),(22,4),(24,5),(3,6),(3,7),(27,8)]) true 13 (some ([(0,1),(1,1),(2,1),(3,1),(4,1),(5,1),(6,1),(7,1),(8,5)], [.slice none 0 0,.slice none 0 0,.int .i64 0,.int .i64 0,.slice none 0 0,.slice none 0 0,.int .i64 0,.int .i64 0,.slice none 0 0,.slice none 0 0,.slice none 0 0,.slice none 0 0,.slice none 0 0])))) (.n (some (.mk (.slc 50) false 1 none)) .e (.n none (.n (some (.mk (.slc 191) false 1 none)) .e .e) .e)) (.n none (.n none .e (.n (some (.mk (.slc 234) false 1 none)) .e .e)) (.n none (.n (some (.mk (.strct [(22,0)]) true 1 none)) .e .e) .e)))))) (.n (some (.mk (.int .i64) false 1 none)) (.n (some (.mk .bool false 1 none)) (.n none (.n none (.n none .e (.n (some (.mk (.slc 116) false 1 none)) .e .e)) (.n (some (.mk (.int .i64) false 1 none)) (.n none .e (.n (some (.mk (.strct [(2,0),(3,1),(44,2)]) true 3 (some ([(0,1),(1,1),(2,1)], [.int .i64 0,.int .i64 0,.slice none 0 0])))) .e .e)) (.n none (.n (some (.mk (.strct [(4,0),(22,1),(173,2),(174,3)]) true 4 (some ([(0,1),(1,1),(2,1),(3,1)], [.bool false,.slice none 0 0,.slice none 0 0,.slice none 0 0])))) .e .e) (.n (some (.mk (.strct [(29,0),(238,13),(2,14),(3,15),(3,16),(107,17),(3,19)]) true 20 (some ([(0,13),(13,1),(14,1),(15,1),(16,1),(17,2),(19,1)], [.slice none 0 0,.slice none 0 0,.int .i64 0,.int .i64 0,.slice none 0 0,.slice none 0 0,.int .i64 0,.int .i64 0,.slice none 0 0,.slice none 0 0,.slice none 0 0,.slice none 0 0,.slice none 0 0,.slice none 0 0,.int .i64 0,.int .i64 0,.int .i64 0,.int .i64 0,.int .i64 0,.int .i64 0])))) .e .e)))) (.n (some (.mk (.slc 55) false 1 none)) (.n none .e (.n none (.n (some (.mk (.strct [(94,0),(3,1),(3,2)]) true 3 (some ([(0,1),(1,1),(2,1)], [.pointer none,.int .i64 0,.int .i64 0])))) .e .e) (.n (some (.mk (.int .i64) false 1 none)) .e .e))) (.n none .e (.n (some (.mk (.int .i64) false 1 none)) .e .e)))) (.n none (.n none (.n none (.n (some (.mk (.slc 142) false 1 none)) .e .e) .e) (.n none .e (.n (some (.mk (.strct [(3,0),(99,1),(23,2),(114,3),(22,4)]) true 5 (some ([(0,1),(1,1),(2,1),(3,1),(4,1)], [.int .i64 0,.int .i64 0,.slice none 0 0,.slice none 0 0,.slice none 0 0])))) (.n (some (.mk (.strct [(178,0),(3,1),(3,2)]) true 3 (some ([(0,1),(1,1),(2,1)], [.slice none 0 0,.int .i64 0,.int .i64 0])))) (.n (some (.mk (.strct [(305,0),(306,1)]) true 2 (some ([(0,1),(1,1)], [.map none,.map none])))) .e .e) .e) .e))) (.n none (.n (some (.mk (.slc 140) false 1 none)) (.n none (.n (some (.mk (.strct [(3,0),(4,1),(2,2)]) true 3 (some ([(0,1),(1,1),(2,1)], [.int .i64 0,.bool false,.int .i64 0])))) .e .e) .e) .e) (.n none .e (.n (some (.mk (.strct [(120,0),(2,1),(9,2),(3,3),(4,4),(121,5),(122,6)]) true 7 (some ([(0,1),(1,1),(2,1),(3,1),(4,1),(5,1),(6,1)], [.int .i64 0,.int .i64 0,.string ⟨#[]⟩,.int .i64 0,.bool false,.int .i64 0,.slice none 0 0])))) .e .e))))) (.n none (.n none (.n none (.n (some (.mk (.int .i64) false 1 none)) (.n (some (.mk (.slc 22) false 1 none)) .e .e) (.n (some (.mk (.strct [(94,0),(23,1),(95,2),(96,3),(41,4)]) true 8 (some ([(0,1),(1,1),(2,1),(3,1),(4,4)], [.pointer none,.slice none 0 0,.pointer none,.slice none 0 0,.int .i64 0,.int .i64 0,.int .i64 0,.int .i64 0])))) .e (.n (some (.mk (.strct [(221,0),(3,1),(4,2)]) true 3 (some ([(0,1),(1,1),(2,1)], [.slice none 0 0,.int .i64 0,.bool false])))) .e .e))) (.n (some (.mk (.strct [(48,0),(3,1),(3,2)]) true 3 (some ([(0,1),(1,1),(2,1)], [.int .i64 0,.int .i64 0,.int .i64 0])))) (.n none (.n (some (.mk .ptr false 1 none)) .e .e) .e) (.n (some (.mk (.slc 146) false 1 none)) (.n (some (.mk (.strct [(23,0)]) true 1 none)) (.n (some (.mk .other false 1 none)) .e .e) .e) .e))) (.n none (.n none .e (.n none .e (.n (some (.mk (.strct [(232,0),(9,1),(2,2),(107,3)]) true 5 (some ([(0,1),(1,1),(2,1),(3,2)], [.int .i64 0,.string ⟨#[]⟩,.int .i64 0,.int .i64 0,.int .i64 0])))) .e .e))) (.n (some (.mk .other true 2 none)) .e (.n (some (.mk (.slc 124) false 1 none)) .e .e)))) (.n none (.n (some (.mk (.slc 3) false 1 none)) (.n (some (.mk (.int .i64) false 1 none)) (.n (some (.mk (.strct [(29,0),(23,13),(22,14),(66,15),(67,16),(22,17),(68,18),(41,19)]) true 23 (some ([(0,13),(13,1),(14,1),(15,1),(16,1),(17,1),(18,1),(19,4)], [.slice none 0 0,.slice none 0 0,.int .i64 0,.int .i64 0,.slice none 0 0,.slice none 0 0,.int .i64 0,.int .i64 0,.slice none 0 0,.slice none 0 0,.slice none 0 0,.slice none 0 0,.slice none 0 0,.slice none 0 0,.slice none 0 0,.slice none 0 0,.slice none 0 0,.slice none 0 0,.slice none 0 0,.int .i64 0,.int .i64 0,.int .i64 0,.int .i64 0])))) .e .e) .e) .e) (.n none (.n none (.n none (.n (some (.mk (.strct [(3,0),(3,1),(23,2),(53,3),(22,4)]) true 5 (some ([(0,1),(1,1),(2,1),(3,1),(4,1)], [.int .i64 0,.int .i64 0,.slice none 0 0,.slice none 0 0,.slice none 0 0])))) .e .e) .e) (.n none (.n (some (.mk (.slc 180) false 1 none)) .e .e) (.n (some (.mk (.slc 245) false 1 none)) .e .e))) (.n none (.n (some (.mk .ptr false 1 none)) .e .e) (.n (some (.mk (.strct [(119,0),(107,1),(9,3),(9,4),(124,5),(124,12),(53,19),(53,20),(3,21),(3,22),(3,23),(4,24)]) true 25 (some ([(0,1),(1,2),(3,1),(4,1),(5,7),(12,7),(19,1),(20,1),(21,1),(22,1),(23,1),(24,1)], [.int .i64 0,.int .i64 0,.int .i64 0,.string ⟨#[]⟩,.string ⟨#[]⟩,.int .i64 0,.int .i64 0,.string ⟨#[]⟩,.int .i64 0,.bool false,.int .i64 0,.slice none 0 0,.int .i64 0,.int .i64 0,.string ⟨#[]⟩,.int .i64 0,.bool false,.int .i64 0,.slice none 0 0,.slice none 0 0,.slice none 0 0,.int .i64 0,.int .i64 0,.int .i64 0,.bool false])))) .e .e)))))))
theorem Vc:tbl.ok prog id:=⟨trivial,⟨trivial,⟨⟨underlying3,isAgg3,sizeOf3,trivial⟩,⟨trivial,⟨trivial,⟨trivial,⟨trivial,trivial,⟨⟨⟨_,underlying191,rfl⟩,isAgg191,sizeOf191,trivial⟩,trivial,trivial⟩⟩,⟨⟨⟨_,underlying95⟩,isAgg95,sizeOf95,trivial⟩,trivial,trivial⟩⟩,⟨⟨⟨_,underlying47,rfl⟩,isAgg47,sizeOf47,⟨zeroValue47,_,underlying47,by kernel_rfl⟩⟩,trivial,trivial⟩⟩,⟨⟨underlying23,isAgg23,sizeOf23,trivial⟩,⟨⟨underlying39,isAgg39,sizeOf39,trivial⟩,⟨trivial,trivial,⟨⟨⟨_,underlying199,rfl⟩,isAgg199,sizeOf199,⟨zeroValue199,_,underlying199,by kernel_rfl⟩⟩,trivial,trivial⟩⟩,trivial⟩,⟨⟨⟨_,underlying55,rfl⟩,isAgg55,sizeOf55,⟨zeroValue55,_,underlying55,by kernel_rfl⟩⟩,trivial,⟨⟨underlying119,isAgg119,sizeOf119,trivial⟩,trivial,trivial⟩⟩⟩⟩,⟨trivial,⟨trivial,⟨trivial,⟨⟨underlying67,isAgg67,sizeOf67,trivial⟩,trivial,trivial⟩,⟨⟨underlying99,isAgg99,sizeOf99,trivial⟩,trivial,⟨⟨underlying227,isAgg227,sizeOf227,trivial⟩,trivial,trivial⟩⟩⟩,trivial⟩,⟨⟨⟨_,underlying27,rfl⟩,isAgg27,sizeOf27,⟨zeroValue27,_,underlying27,by kernel_rfl⟩⟩,⟨trivial,trivial,⟨⟨⟨_,underlying107,rfl⟩,isAgg107,sizeOf107,⟨zeroValue107,_,underlying107,by kernel_rfl⟩⟩,trivial,trivial⟩⟩,trivial⟩⟩⟩,⟨⟨underlying5,isAgg5,sizeOf5,trivial⟩,⟨⟨underlying9,isAgg9,sizeOf9,trivial⟩,⟨trivial,⟨⟨⟨_,underlying33⟩,isAgg33,sizeOf33,trivial⟩,trivial,⟨trivial,⟨⟨underlying161,isAgg161,sizeOf161,trivial⟩,trivial,trivial⟩,trivial⟩⟩,⟨trivial,⟨trivial,⟨⟨⟨_,underlying145,rfl⟩,isAgg145,sizeOf145,⟨zeroValue145,_,underlying145,by kernel_rfl⟩⟩,trivial,trivial⟩,trivial⟩,⟨trivial,⟨trivial,⟨⟨⟨_,underlying305,rfl⟩,isAgg305,sizeOf305,trivial⟩,trivial,trivial⟩,trivial⟩,⟨⟨underlying241,isAgg241,sizeOf241,trivial⟩,trivial,trivial⟩⟩⟩⟩,⟨⟨underlying25,isAgg25,sizeOf25,trivial⟩,⟨⟨⟨_,underlying41,rfl⟩,isAgg41,sizeOf41,⟨zeroValue41,_,underlying41,by kernel_rfl⟩⟩,trivial,trivial⟩,⟨⟨underlying57,isAgg57,sizeOf57,trivial⟩,trivial,⟨⟨underlying121,isAgg121,sizeOf121,trivial⟩,trivial,trivial⟩⟩⟩⟩,⟨trivial,⟨⟨underlying21,isAgg21,sizeOf21,trivial⟩,⟨⟨underlying37,isAgg37,sizeOf37,trivial⟩,trivial,⟨⟨⟨_,underlying101,rfl⟩,isAgg101,sizeOf101,⟨zeroValue101,_,underlying101,by kernel_rfl⟩⟩,trivial,⟨⟨⟨_,underlying229,rfl⟩,isAgg229,sizeOf229,⟨zeroValue229,_,underlying229,by kernel_rfl⟩⟩,trivial,trivial⟩⟩⟩,⟨⟨underlying53,isAgg53,sizeOf53,trivial⟩,⟨⟨⟨_,underlying85,rfl⟩,isAgg85,sizeOf85,trivial⟩,trivial,trivial⟩,⟨trivial,⟨trivial,⟨⟨⟨_,underlying309,rfl⟩,isAgg309,sizeOf309,⟨zeroValue309,_,underlying309,by kernel_rfl⟩⟩,trivial,trivial⟩,trivial⟩,⟨⟨⟨_,underlying245,rfl⟩,isAgg245,sizeOf245,⟨zeroValue245,_,underlying245,by kernel_rfl⟩⟩,trivial,trivial⟩⟩⟩⟩,⟨⟨⟨_,underlying29,rfl⟩,isAgg29,sizeOf29,⟨zeroValue29,_,underlying29,by kernel_rfl⟩⟩,⟨⟨underlying45,isAgg45,sizeOf45,trivial⟩,trivial,⟨trivial,⟨⟨underlying173,isAgg173,sizeOf173,trivial⟩,trivial,trivial⟩,trivial⟩⟩,⟨trivial,⟨trivial,trivial,⟨⟨underlying221,isAgg221,sizeOf221,trivial⟩,trivial,trivial⟩⟩,⟨trivial,⟨⟨⟨_,underlying189,rfl⟩,isAgg189,sizeOf189,trivial⟩,trivial,trivial⟩,trivial⟩⟩⟩⟩⟩⟩,⟨⟨underlying2,isAgg2,sizeOf2,trivial⟩,⟨⟨underlying4,isAgg4,sizeOf4,trivial⟩,⟨trivial,⟨trivial,⟨trivial,trivial,⟨⟨underlying96,isAgg96,sizeOf96,trivial⟩,trivial,trivial⟩⟩,⟨⟨underlying48,isAgg48,sizeOf48,trivial⟩,⟨trivial,trivial,⟨⟨⟨_,underlying208,rfl⟩,isAgg208,sizeOf208,⟨zeroValue208,_,underlying208,by kernel_rfl⟩⟩,trivial,trivial⟩⟩,⟨trivial,⟨⟨⟨_,underlying176,rfl⟩,isAgg176,sizeOf176,⟨zeroValue176,_,underlying176,by kernel_rfl⟩⟩,trivial,trivial⟩,⟨⟨⟨_,underlying240,rfl⟩,isAgg240,sizeOf240,⟨zeroValue240,_,underlying240,by kernel_rfl⟩⟩,trivial,trivial⟩⟩⟩⟩,⟨⟨underlying24,isAgg24,sizeOf24,trivial⟩,⟨trivial,trivial,⟨trivial,⟨⟨⟨_,underlying168,rfl⟩,isAgg168,sizeOf168,⟨zeroValue168,_,underlying168,by kernel_rfl⟩⟩,trivial,trivial⟩,⟨⟨underlying232,isAgg232,sizeOf232,trivial⟩,trivial,trivial⟩⟩⟩,⟨trivial,trivial,⟨⟨underlying120,isAgg120,sizeOf120,trivial⟩,trivial,trivial⟩⟩⟩⟩,⟨trivial,⟨trivial,⟨trivial,⟨⟨underlying68,isAgg68,sizeOf68,trivial⟩,trivial,trivial⟩,trivial⟩,⟨trivial,trivial,⟨⟨⟨_,underlying116,rfl⟩,isAgg116,sizeOf116,⟨zeroValue116,_,underlying116,by kernel_rfl⟩⟩,⟨⟨⟨_,underlying180,rfl⟩,isAgg180,sizeOf180,⟨zeroValue180,_,underlying180,by kernel_rfl⟩⟩,⟨⟨⟨_,underlying308,rfl⟩,isAgg308,sizeOf308,⟨zeroValue308,_,underlying308,by kernel_rfl⟩⟩,trivial,trivial⟩,trivial⟩,trivial⟩⟩⟩,⟨trivial,⟨⟨underlying44,isAgg44,sizeOf44,trivial⟩,⟨trivial,⟨⟨⟨_,underlying140,rfl⟩,isAgg140,sizeOf140,⟨zeroValue140,_,underlying140,by kernel_rfl⟩⟩,trivial,trivial⟩,trivial⟩,trivial⟩,⟨trivial,trivial,⟨⟨⟨_,underlying124,rfl⟩,isAgg124,sizeOf124,⟨zeroValue124,_,underlying124,by kernel_rfl⟩⟩,trivial,trivial⟩⟩⟩⟩⟩,⟨trivial,⟨trivial,⟨trivial,⟨⟨underlying34,isAgg34,sizeOf34,trivial⟩,⟨⟨underlying66,isAgg66,sizeOf66,trivial⟩,trivial,trivial⟩,⟨⟨⟨_,underlying98,rfl⟩,isAgg98,sizeOf98,⟨zeroValue98,_,underlying98,by kernel_rfl⟩⟩,trivial,⟨⟨⟨_,underlying226,rfl⟩,isAgg226,sizeOf226,⟨zeroValue226,_,underlying226,by kernel_rfl⟩⟩,trivial,trivial⟩⟩⟩,⟨⟨⟨_,underlying50,rfl⟩,isAgg50,sizeOf50,⟨zeroValue50,_,underlying50,by kernel_rfl⟩⟩,⟨trivial,⟨⟨⟨_,underlying146⟩,isAgg146,sizeOf146,trivial⟩,trivial,trivial⟩,trivial⟩,⟨⟨underlying114,isAgg114,sizeOf114,trivial⟩,⟨⟨⟨_,underlying178,rfl⟩,isAgg178,sizeOf178,trivial⟩,⟨⟨⟨_,underlying306,rfl⟩,isAgg306,sizeOf306,trivial⟩,trivial,trivial⟩,trivial⟩,trivial⟩⟩⟩,⟨trivial,⟨trivial,trivial,⟨trivial,trivial,⟨⟨⟨_,underlying234,rfl⟩,isAgg234,sizeOf234,⟨zeroValue234,_,underlying234,by kernel_rfl⟩⟩,trivial,trivial⟩⟩⟩,⟨⟨⟨_,underlying58,rfl⟩,isAgg58,sizeOf58,trivial⟩,trivial,⟨⟨underlying122,isAgg122,sizeOf122,trivial⟩,trivial,trivial⟩⟩⟩⟩,⟨trivial,⟨⟨underlying22,isAgg22,sizeOf22,trivial⟩,⟨⟨underlying38,isAgg38,sizeOf38,trivial⟩,⟨⟨⟨_,underlying70,rfl⟩,isAgg70,sizeOf70,⟨zeroValue70,_,underlying70,by kernel_rfl⟩⟩,trivial,trivial⟩,trivial⟩,trivial⟩,⟨trivial,⟨trivial,⟨trivial,⟨⟨⟨_,underlying142,rfl⟩,isAgg142,sizeOf142,⟨zeroValue142,_,underlying142,by kernel_rfl⟩⟩,trivial,trivial⟩,trivial⟩,⟨trivial,⟨⟨underlying174,isAgg174,sizeOf174,trivial⟩,trivial,trivial⟩,⟨⟨underlying238,isAgg238,sizeOf238,trivial⟩,trivial,trivial⟩⟩⟩,⟨trivial,⟨⟨⟨_,underlying94⟩,isAgg94,sizeOf94,trivial⟩,trivial,trivial⟩,⟨⟨⟨_,underlying126,rfl⟩,isAgg126,sizeOf126,⟨zeroValue126,_,underlying126,by kernel_rfl⟩⟩,trivial,trivial⟩⟩⟩⟩⟩⟩⟩
section
variable {G:World}{f:Fc}{Q:Yr}{k k':List Item}{p p':PE}{c:List Prop}{ds:List Deferred}{cs:List Frame}{q:List HP}{ops l ops' l':List Oper}{pk:PE}{L:Rds}{n n':Nat}{done done':List Nat}
theorem xx (m:Nat)(K:X prog G f Q k' p' ds cs q)(h:stn tbl f.n m .code k p []=some ⟨.code,k',p',c⟩:=by exact rfl)(hc:Jx c:=by repeat (first|exact trivial|refine Vl (by first|omega|(simp;done)|(simp;omega)) ?_)):X prog G f Q k p ds cs q:=stXX Vc m h hc K
theorem xo (m:Nat)(K:XO prog G f Q ops'.toArray k' l' p' ds cs q)(h:stn tbl f.n m .code k p []=some ⟨.ops ops' l',k',p',c⟩:=by exact rfl)(hc:Jx c:=by repeat (first|exact trivial|refine Vl (by first|omega|(simp;done)|(simp;omega)) ?_)):X prog G f Q k p ds cs q:=stXO Vc m h hc K
theorem ox (m:Nat)(K:X prog G f Q k' p' ds cs q)(h:stn tbl f.n m (.ops ops l) k p []=some ⟨.code,k',p',c⟩:=by exact rfl)(hc:Jx c:=by repeat (first|exact trivial|refine Vl (by first|omega|(simp;done)|(simp;omega)) ?_)):XO prog G f Q ops.toArray k l p ds cs q:=stOX Vc m h hc K
theorem oo (m:Nat)(K:XO prog G f Q ops'.toArray k' l' p' ds cs q)(h:stn tbl f.n m (.ops ops l) k p []=some ⟨.ops ops' l',k',p',c⟩:=by exact rfl)(hc:Jx c:=by repeat (first|exact trivial|refine Vl (by first|omega|(simp;done)|(simp;omega)) ?_)):XO prog G f Q ops.toArray k l p ds cs q:=stOO Vc m h hc K
theorem dd (is:List Nat)(K:XD prog G f Q ops k pk L n' done' p' ds cs q)(h:sdn tbl f.n ops is n done p []=some ⟨n',done',p',c⟩:=by exact rfl)(hc:Jx c:=by repeat (first|exact trivial|refine Vl (by first|omega|(simp;done)|(simp;omega)) ?_)):XD prog G f Q ops k pk L n done p ds cs q:=stDD Vc is h hc K
variable {rest:List Oper}{d:Tmp}{t ty:TypeId}{pos:String}{af:Array Edge}{gd:Option (Nat×Bool)}{x y:Operand}{A:Addr}{v:Value}{b o sz:Nat}{l vs:List Value}{t':TypeId}{fz:Nat×Nat}{r:List HP}
theorem ld (K:XO prog G f Q ops.toArray k rest ((d,v)::p) ds cs q)(hx:evp p x=some (.pointer (some A)):=by rfl)(hc:Cl q A v:=by exact clA)
 (hw:Wt ops p ⟨some d,.load t x,ty,pos,af,gd⟩=some true:=by rfl) (hd:Nat.blt d f.n=true:=by rfl) (ht:tbl.lf t=true:=by rfl):
 XO prog G f Q ops.toArray k (⟨some d,.load t x,ty,pos,af,gd⟩::rest) p ds cs q:= .ld (Cc Vc ht) K hx hc hw hd
theorem ldA (K:XO prog G f Q ops.toArray k rest ((d,.agg (Wx.sub l o sz).toArray)::p) ds cs q)(ht:tbl.ag t=some sz:=by rfl)(hx:evp p x=some (.pointer (some ⟨b,o,none⟩)):=by rfl)(hh:Has q b (.cells l.toArray t' fz):=by exact Qt)(hv:Nat.ble (o+sz) l.length=true:=by rfl)
 (hw:Wt ops p ⟨some d,.load t x,ty,pos,af,gd⟩=some true:=by rfl) (hd:Nat.blt d f.n=true:=by rfl):
 XO prog G f Q ops.toArray k (⟨some d,.load t x,ty,pos,af,gd⟩::rest) p ds cs q:= .ldA (Qx Vc ht).1 (Qx Vc ht).2 K hx hh hv hw hd
theorem ldD (i:Nat)(K:XD prog G f Q ops k pk ((i,b,o,v)::L) n (i::done) ((d,v)::p) ds cs q)
 (ho:ops[i]? =some ⟨some d,.load t x,ty,pos,af,gd⟩:=by rfl) (hx:evp p x=some (.pointer (some ⟨b,o,none⟩)):=by rfl) (hc:Cl q ⟨b,o,none⟩ v:=by exact clA)
 (hr:rdy ops done i=true:=by rfl) (hw:Wt ops p ⟨some d,.load t x,ty,pos,af,gd⟩=some true:=by rfl) (hd:Nat.blt d f.n=true:=by rfl) (ht:tbl.lf t=true:=by rfl):XD prog G f Q ops k pk L (n+1) done p ds cs q:= .ld i (Cc Vc ht) K ho hx hc hr hw hd
theorem Ji (i:Nat)(K:XD prog G f Q ops k pk (rdA i b o (Wx.sub l o sz)++L) n (i::done) ((d,.agg (Wx.sub l o sz).toArray)::p) ds cs q)
 (ho:ops[i]? =some ⟨some d,.load t x,ty,pos,af,gd⟩:=by rfl) (ht:tbl.ag t=some sz:=by rfl) (hx:evp p x=some (.pointer (some ⟨b,o,none⟩)):=by rfl) (hh:Has q b (.cells l.toArray t' fz):=by exact Qt) (hv:Nat.ble (o+sz) l.length=true:=by rfl)
 (hr:rdy ops done i=true:=by rfl) (hw:Wt ops p ⟨some d,.load t x,ty,pos,af,gd⟩=some true:=by rfl) (hd:Nat.blt d f.n=true:=by rfl):XD prog G f Q ops k pk L (n+1) done p ds cs q:= .loadA i ho hx (Qx Vc ht).1 (Qx Vc ht).2 hh hv K hr hw hd
theorem st (K:XO prog G f Q ops.toArray k rest p ds cs (pto b (.cells (Nb l o v).toArray t' (0,0))::r))(hx:evp p x=some (.pointer (some ⟨b,o,none⟩)):=by rfl)(hy:evp p y=some v:=by rfl)
 (hv:v.cells= #[v]:=by rfl) (h1:v.oneCell'=true:=by rfl) (hq:Le q (pto b (.cells l.toArray t' (0,0))::r):=by exact Zk) (ho:Nat.blt o l.length=true:=by rfl)
 (hw:Wt ops p ⟨none,.store t x y,ty,pos,af,gd⟩=some true:=by rfl) (hs:tbl.s1 t=true:=by rfl):XO prog G f Q ops.toArray k (⟨none,.store t x y,ty,pos,af,gd⟩::rest) p ds cs q:= .st Vc hs K hx hy hv h1 hq ho hw
theorem stA (K:XO prog G f Q ops.toArray k rest p ds cs (pto b (.cells (U1 l o vs).toArray t' (0,0))::r))(hs:tbl.ag t=some sz:=by rfl)(hx:evp p x=some (.pointer (some ⟨b,o,none⟩)):=by rfl)(hy:evp p y=some (.agg vs.toArray):=by rfl)
 (hl:vs.length=sz:=by rfl) (h1:vs.all (·.oneCell')=true:=by rfl) (hq:Le q (pto b (.cells l.toArray t' (0,0))::r):=by exact Zk) (ho:Nat.ble (o+sz) l.length=true:=by rfl)
 (hw:Wt ops p ⟨none,.store t x y,ty,pos,af,gd⟩=some true:=by rfl):XO prog G f Q ops.toArray k (⟨none,.store t x y,ty,pos,af,gd⟩::rest) p ds cs q:= .stA Vc hs K hx hy hl h1 hq ho hw
theorem stD (i:Nat)(K:XD prog G f Q ops k pk (cut ⟨none,.store t x y,ty,pos,af,gd⟩ L) n (i::done) p ds cs (pto b (.cells (Nb l o v).toArray t' (0,0))::r))
 (ho:ops[i]? =some ⟨none,.store t x y,ty,pos,af,gd⟩:=by rfl) (hx:evp p x=some (.pointer (some ⟨b,o,none⟩)):=by rfl) (hy:evp p y=some v:=by rfl)
 (hv:v.cells= #[v]:=by rfl) (h1:v.oneCell'=true:=by rfl) (hq:Le q (pto b (.cells l.toArray t' (0,0))::r):=by exact Zk) (ho2:Nat.blt o l.length=true:=by rfl)
 (hh:HL (pto b (.cells (Nb l o v).toArray t' (0,0))::r) (cut ⟨none,.store t x y,ty,pos,af,gd⟩ L):=by exact hlA)
 (h2:Uw ops done i=true:=by rfl) (hr:rdy ops done i=true:=by rfl) (hw:Wt ops p ⟨none,.store t x y,ty,pos,af,gd⟩=some true:=by rfl) (hs:tbl.s1 t=true:=by rfl):XD prog G f Q ops k pk L (n+1) done p ds cs q:= .st i Vc hs K ho hx hy hv h1 hq ho2 hh h2 hr hw
theorem V1 (i:Nat)(K:XD prog G f Q ops k pk (cut ⟨none,.store t x y,ty,pos,af,gd⟩ L) n (i::done) p ds cs (pto b (.cells (U1 l o vs).toArray t' (0,0))::r))
 (ho:ops[i]? =some ⟨none,.store t x y,ty,pos,af,gd⟩:=by rfl) (hs:tbl.ag t=some sz:=by rfl) (hx:evp p x=some (.pointer (some ⟨b,o,none⟩)):=by rfl) (hy:evp p y=some (.agg vs.toArray):=by rfl)
 (hl:vs.length=sz:=by rfl) (h1:vs.all (·.oneCell')=true:=by rfl) (hq:Le q (pto b (.cells l.toArray t' (0,0))::r):=by exact Zk) (ho2:Nat.ble (o+sz) l.length=true:=by rfl)
 (hh:HL (pto b (.cells (U1 l o vs).toArray t' (0,0))::r) (cut ⟨none,.store t x y,ty,pos,af,gd⟩ L):=by exact hlA)
 (h2:Uw ops done i=true:=by rfl) (hr:rdy ops done i=true:=by rfl) (hw:Wt ops p ⟨none,.store t x y,ty,pos,af,gd⟩=some true:=by rfl):XD prog G f Q ops k pk L (n+1) done p ds cs q:= .stA i Vc hs K ho hx hy hl h1 hq ho2 hh h2 hr hw
theorem rsL {t b o sz:Nat}{l:List Value}{t':TypeId}{fz:Nat×Nat}(hh:Has q b (.cells l.toArray t' fz))(ht:tbl.ag t=some sz)(hv:Nat.ble (o+sz) l.length=true):LV Tryz.prog G q t ⟨b,o,none⟩ (.agg (Wx.sub l o sz).toArray):=LV.agg (Qx Vc ht).1 (Qx Vc ht).2 hh hv
theorem rA_ {p:PE}{fd:Func}{a0 t0 b0 o0 z0:Nat}{l0:List Value}{u0:TypeId}{f0:Nat×Nat}(h:fd.results= [.cell a0 t0].toArray)(p0:lkp p a0=some (.pointer (some ⟨b0,o0,none⟩)):=by rfl)(h0:Has q b0 (.cells l0.toArray u0 f0):=by exact Qt)(t_0:tbl.ag t0=some z0:=by rfl)(v_0:Nat.ble (o0+z0) l0.length=true:=by rfl)(tm:Array Value)(w:World)(ag:Agr tm p)(s:St G w q):(results fd tm).run Tryz.prog w= .ok (.agg (Wx.sub l0 o0 z0).toArray) w:=R4 h (ResOk.cell p0 (rsL h0 t_0 v_0) ResOk.nil) tm w ag s
theorem I6 {p:PE}{fd:Func}{a0 t0 b0 o0 z0:Nat}{l0:List Value}{u0:TypeId}{f0:Nat×Nat}{a1 t1 b1 o1 z1:Nat}{l1:List Value}{u1:TypeId}{f1:Nat×Nat}(h:fd.results= [.cell a0 t0,.cell a1 t1].toArray)(p0:lkp p a0=some (.pointer (some ⟨b0,o0,none⟩)):=by rfl)(h0:Has q b0 (.cells l0.toArray u0 f0):=by exact Qt)(t_0:tbl.ag t0=some z0:=by rfl)(v_0:Nat.ble (o0+z0) l0.length=true:=by rfl)(p1:lkp p a1=some (.pointer (some ⟨b1,o1,none⟩)):=by rfl)(h1:Has q b1 (.cells l1.toArray u1 f1):=by exact Qt)(t_1:tbl.ag t1=some z1:=by rfl)(v_1:Nat.ble (o1+z1) l1.length=true:=by rfl)(tm:Array Value)(w:World)(ag:Agr tm p)(s:St G w q):(results fd tm).run Tryz.prog w= .ok ((.tuple [.agg (Wx.sub l0 o0 z0).toArray,.agg (Wx.sub l1 o1 z1).toArray].toArray)) w:=Dr h (ResOk.cell p0 (rsL h0 t_0 v_0) (ResOk.cell p1 (rsL h1 t_1 v_1) ResOk.nil)) tm w ag s
theorem H9 {p:PE}{fd:Func}{a0 t0 b0 o0 z0:Nat}{l0:List Value}{u0:TypeId}{f0:Nat×Nat}{a1:Nat}{v1:Value}(h:fd.results= [.cell a0 t0,.tmp a1].toArray)(p0:lkp p a0=some (.pointer (some ⟨b0,o0,none⟩)):=by rfl)(h0:Has q b0 (.cells l0.toArray u0 f0):=by exact Qt)(t_0:tbl.ag t0=some z0:=by rfl)(v_0:Nat.ble (o0+z0) l0.length=true:=by rfl)(p1:lkp p a1=some v1:=by rfl)(tm:Array Value)(w:World)(ag:Agr tm p)(s:St G w q):(results fd tm).run Tryz.prog w= .ok ((.tuple [.agg (Wx.sub l0 o0 z0).toArray,v1].toArray)) w:=Dr h (ResOk.cell p0 (rsL h0 t_0 v_0) (ResOk.tmp p1 ResOk.nil)) tm w ag s
theorem Gf {p:PE}{fd:Func}{a0 t0 b0 o0 z0:Nat}{l0:List Value}{u0:TypeId}{f0:Nat×Nat}{a1 t1 b1 o1 z1:Nat}{l1:List Value}{u1:TypeId}{f1:Nat×Nat}{a2:Nat}{v2:Value}(h:fd.results= [.cell a0 t0,.cell a1 t1,.tmp a2].toArray)(p0:lkp p a0=some (.pointer (some ⟨b0,o0,none⟩)):=by rfl)(h0:Has q b0 (.cells l0.toArray u0 f0):=by exact Qt)(t_0:tbl.ag t0=some z0:=by rfl)(v_0:Nat.ble (o0+z0) l0.length=true:=by rfl)(p1:lkp p a1=some (.pointer (some ⟨b1,o1,none⟩)):=by rfl)(h1:Has q b1 (.cells l1.toArray u1 f1):=by exact Qt)(t_1:tbl.ag t1=some z1:=by rfl)(v_1:Nat.ble (o1+z1) l1.length=true:=by rfl)(p2:lkp p a2=some v2:=by rfl)(tm:Array Value)(w:World)(ag:Agr tm p)(s:St G w q):(results fd tm).run Tryz.prog w= .ok ((.tuple [.agg (Wx.sub l0 o0 z0).toArray,.agg (Wx.sub l1 o1 z1).toArray,v2].toArray)) w:=Dr h (ResOk.cell p0 (rsL h0 t_0 v_0) (ResOk.cell p1 (rsL h1 t_1 v_1) (ResOk.tmp p2 ResOk.nil))) tm w ag s
theorem Td {p:PE}{fd:Func}{a0:Nat}{v0:Value}{a1 t1 b1 o1 z1:Nat}{l1:List Value}{u1:TypeId}{f1:Nat×Nat}{a2:Nat}{v2:Value}(h:fd.results= [.tmp a0,.cell a1 t1,.tmp a2].toArray)(p0:lkp p a0=some v0:=by rfl)(p1:lkp p a1=some (.pointer (some ⟨b1,o1,none⟩)):=by rfl)(h1:Has q b1 (.cells l1.toArray u1 f1):=by exact Qt)(t_1:tbl.ag t1=some z1:=by rfl)(v_1:Nat.ble (o1+z1) l1.length=true:=by rfl)(p2:lkp p a2=some v2:=by rfl)(tm:Array Value)(w:World)(ag:Agr tm p)(s:St G w q):(results fd tm).run Tryz.prog w= .ok ((.tuple [v0,.agg (Wx.sub l1 o1 z1).toArray,v2].toArray)) w:=Dr h (ResOk.tmp p0 (ResOk.cell p1 (rsL h1 t_1 v_1) (ResOk.tmp p2 ResOk.nil))) tm w ag s
theorem R6 {p:PE}{fd:Func}{a0 t0 b0 o0 z0:Nat}{l0:List Value}{u0:TypeId}{f0:Nat×Nat}{a1:Nat}{v1:Value}{a2:Nat}{v2:Value}(h:fd.results= [.cell a0 t0,.tmp a1,.tmp a2].toArray)(p0:lkp p a0=some (.pointer (some ⟨b0,o0,none⟩)):=by rfl)(h0:Has q b0 (.cells l0.toArray u0 f0):=by exact Qt)(t_0:tbl.ag t0=some z0:=by rfl)(v_0:Nat.ble (o0+z0) l0.length=true:=by rfl)(p1:lkp p a1=some v1:=by rfl)(p2:lkp p a2=some v2:=by rfl)(tm:Array Value)(w:World)(ag:Agr tm p)(s:St G w q):(results fd tm).run Tryz.prog w= .ok ((.tuple [.agg (Wx.sub l0 o0 z0).toArray,v1,v2].toArray)) w:=Dr h (ResOk.cell p0 (rsL h0 t_0 v_0) (ResOk.tmp p1 (ResOk.tmp p2 ResOk.nil))) tm w ag s
theorem kx {k1 k2:List Item}{p1 p2:PE}{c1:List Prop}{b1:Bool}(s m:Nat)(K:X Tryz.prog G f Q k2 p2 ds cs q)(h:lkp p1 s=some (.bool b1):=by rfl)(e:b1=false:=by exact kw)(h2:stn tbl f.n m .code k1 ((s,.bool false)::p1) []=some ⟨.code,k2,p2,c1⟩:=by exact rfl)(hc:Jx c1:=by repeat (first|exact trivial|refine Vl (by first|omega|(simp;done)|(simp;omega)) ?_)):X Tryz.prog G f Q k1 p1 ds cs q:=Wy s (xx m K h2 hc) h e
theorem ol {o1 l1:List Oper}{o2 r2:List Oper}{k1 k2:List Item}{p1 p2:PE}{c1:List Prop}{d1:Tmp}{t1 ty1:TypeId}{ps1:String}{af1:Array Edge}{gd1:Option (Nat×Bool)}{x1:Operand}{A1:Addr}{v1:Value}(m:Nat)(K:XO Tryz.prog G f Q o2.toArray k2 r2 ((d1,v1)::p2) ds cs q)(h:stn tbl f.n m (.ops o1 l1) k1 p1 []=some ⟨.ops o2 (⟨some d1,.load t1 x1,ty1,ps1,af1,gd1⟩::r2),k2,p2,c1⟩:=by exact rfl)(hc0:Jx c1:=by repeat (first|exact trivial|refine Vl (by first|omega|(simp;done)|(simp;omega)) ?_))(hx:evp p2 x1=some (.pointer (some A1)):=by rfl)(hc:Cl q A1 v1:=by exact clA)(hw:Wt o2 p2 ⟨some d1,.load t1 x1,ty1,ps1,af1,gd1⟩=some true:=by rfl)(hd:Nat.blt d1 f.n=true:=by rfl)(ht:tbl.lf t1=true:=by rfl):XO Tryz.prog G f Q o1.toArray k1 l1 p1 ds cs q:=oo m (ld K hx hc hw hd ht) h hc0
theorem xj {o2 r2:List Oper}{k1 k2:List Item}{p1 p2:PE}{c1:List Prop}{d1:Tmp}{t1 ty1:TypeId}{ps1:String}{af1:Array Edge}{gd1:Option (Nat×Bool)}{x1:Operand}{A1:Addr}{v1:Value}(m:Nat)(K:XO Tryz.prog G f Q o2.toArray k2 r2 ((d1,v1)::p2) ds cs q)(h:stn tbl f.n m .code k1 p1 []=some ⟨.ops o2 (⟨some d1,.load t1 x1,ty1,ps1,af1,gd1⟩::r2),k2,p2,c1⟩:=by exact rfl)(hc0:Jx c1:=by repeat (first|exact trivial|refine Vl (by first|omega|(simp;done)|(simp;omega)) ?_))(hx:evp p2 x1=some (.pointer (some A1)):=by rfl)(hc:Cl q A1 v1:=by exact clA)(hw:Wt o2 p2 ⟨some d1,.load t1 x1,ty1,ps1,af1,gd1⟩=some true:=by rfl)(hd:Nat.blt d1 f.n=true:=by rfl)(ht:tbl.lf t1=true:=by rfl):X Tryz.prog G f Q k1 p1 ds cs q:=xo m (ld K hx hc hw hd ht) h hc0
theorem dl {n0 n1:Nat}{dn0 dn1:List Nat}{p1 p2:PE}{c1:List Prop}{d1:Tmp}{t1 ty1:TypeId}{ps1:String}{af1:Array Edge}{gd1:Option (Nat×Bool)}{x1:Operand}{b1 s1:Nat}{v1:Value}(is:List Nat)(i:Nat)(K:XD Tryz.prog G f Q ops k pk ((i,b1,s1,v1)::L) n1 (i::dn1) ((d1,v1)::p2) ds cs q)(h:sdn tbl f.n ops is n0 dn0 p1 []=some ⟨n1+1,dn1,p2,c1⟩:=by exact rfl)(hc0:Jx c1:=by repeat (first|exact trivial|refine Vl (by first|omega|(simp;done)|(simp;omega)) ?_))
 (ho:ops[i]? =some ⟨some d1,.load t1 x1,ty1,ps1,af1,gd1⟩:=by rfl) (hx:evp p2 x1=some (.pointer (some ⟨b1,s1,none⟩)):=by rfl) (hc:Cl q ⟨b1,s1,none⟩ v1:=by exact clA) (hr:rdy ops dn1 i=true:=by rfl) (hw:Wt ops p2 ⟨some d1,.load t1 x1,ty1,ps1,af1,gd1⟩=some true:=by rfl) (hd:Nat.blt d1 f.n=true:=by rfl) (ht:tbl.lf t1=true:=by rfl):XD Tryz.prog G f Q ops k pk L n0 dn0 p1 ds cs q:=dd is (ldD i K ho hx hc hr hw hd ht) h hc0
theorem Tryz.mixed:prog.follows .mixedOrders=true:=by kernel_rfl
theorem drw {id:Nat}(x:XD prog G f Q ops k [] [] ops.length [] p ds cs q)(h1:okR ops=true:=by kernel_rfl)(h2:S4 ops=true:=by kernel_rfl)(h3:Tx ops []=true:=by rfl):X prog G f Q (.code (.region id ops.toArray true)::k) p ds cs q:= .draw [] Tryz.mixed h1 h2 h3 x
end
abbrev I64:Int→Value:=Value.int .i64
structure Tk where
 k:Int
 t:ByteArray
 n:Int
 ln:Int
 cl:Int
def tkC (x:Tk):List Value:= [.int .i64 x.k,.string x.t,.int .i64 x.n,.int .i64 x.ln,.int .i64 x.cl]
def Pq (c:UInt8):Bool:=decide (97≤c.toNat) && decide (c.toNat≤122)
def Qm (c:UInt8):Bool:=decide (48≤c.toNat) && decide (c.toNat≤57)
def Mc (c:UInt8):Bool:=Pq c||Qm c
def wordsS:List Bs:= [[118,97,114], [97,114,114,97,121], [109,117,116,101,120], [99,111,110,100], [99,104,97,110], [116,104,114,101,97,100], [108,101,116], [105,102], [101,108,115,101], [119,104,105,108,101], [108,111,99,107], [117,110,108,111,99,107], [119,97,105,116], [115,105,103,110,97,108], [97,108,108], [115,101,110,100], [114,101,99,118], [115,112,97,119,110], [106,111,105,110], [112,114,105,110,116]]
def signsS:List Bs:= [[61,61], [33,61], [60,61], [38,38], [124,124], [59], [40], [41], [123], [125], [91], [93], [61], [60], [43], [45], [42], [47], [37], [33]]
def kwS (w:Bs):Bool:=wordsS.any (· ==w)
def K9 (w:Bs):Int:=w.foldl (fun n c=>n*10+((c.toNat:Int) - 48)) 0
def Gu (w:Bs):Option Int:=if w.all Qm && decide (w.length≤10) then (if K9 w≤2147483647∧(w.length=1∨w.getD 0 0≠48) then some (K9 w) else none) else none
def H8 (l:Bs):Nat:=(l.takeWhile Mc).length
def E5 (l:Bs):Option (Int×Bs×Int):=
 let w:=l.take (H8 l)
 if 0<H8 l∧Qm (l.getD 0 0)=true then (match Gu w with|some x=>some (2,w,x)|none=>none)
 else if 0<H8 l∧kwS w=true then some (3,w,0)
 else if 16<H8 l then none
 else if 0<H8 l then some (1,w,0)
 else match signsS.find? (fun s=>s==l.take s.length) with
  |some s=>some (4,s,0)
  |none=>none
def Ky:Nat→Bs→Int→Int→Option (List Tk)
 |0,_,_,_=>none
 |_+1, [],_,_=>some []
 |f+1,c::r,ln,cl=>
  if c=10 then Ky f r (ln+1) 1
  else if c=32∨c=9∨c=13 then Ky f r ln (cl+1)
  else if c=35 then Ky f ((c::r).dropWhile (· !=10)) ln (cl+((c::r).takeWhile (· !=10)).length)
  else match E5 (c::r) with
   |none=>none
   |some (k,w,n)=>(Ky f ((c::r).drop w.length) ln (cl+w.length)).map (⟨k,ba w,n,ln,cl⟩:: ·)
inductive PEx where
 |mk (k n:Int) (nm:ByteArray) (slot:Int) (loc:Bool) (op:Int) (args:List PEx)
inductive PStm where
 |mk (k ln cl:Int) (nm wt:ByteArray) (e ix:PEx) (body els:List PStm) (id slot other:Int) (loc:Bool)
structure PDec where
 k:Int
 ln:Int
 cl:Int
 nm:ByteArray
 n:Int
 body:List PStm
def PEx.z:PEx:= .mk 0 0 em 0 false 0 []
def isW (s:Bs):List Tk→Bool
 |t::_=>bs t.t==s && decide (3≤t.k)
 | []=>false
def tkW (s:Bs)(ts:List Tk):Option (List Tk):=if isW s ts=true then some ts.tail else none
def Vy (s:Bs)(ts:List Tk):Option (Unit×List Tk):=if isW s ts=true then some ((),ts.tail) else none
def bnd {α β:Type}(A:Option (α×List Tk))(K:α→List Tk→Option β):Option β:=match A with
 |none=>none
 |some (x,r)=>K x r
def Q3:List Tk→Option (ByteArray×List Tk)
 |t::r=>if t.k=1 then some (t.t,r) else none
 | []=>none
def Jg:List Tk→Option (Int×List Tk)
 |t::r=>if t.k=2 then some (t.n,r) else none
 | []=>none
def rankL:List Int:= [0,1,2,3,3,3,3,4,4,5,5,5]
def signL:List Bs:= [[], [124,124], [38,38], [61,61], [33,61], [60], [60,61], [43], [45], [42], [47], [37]]
def Tc (n:Int)(ts:List Tk):List Nat→Nat
 | []=>0
 |op::r=>if rankL.getD op 0=n∧isW (signL.getD op []) ts=true then op else Tc n ts r
def Ux (n:Int)(ts:List Tk):Nat:=Tc n ts [1,2,3,4,5,6,7,8,9,10,11]
mutual
def Vq:Nat→Int→List Tk→Option (PEx×List Tk)
 |0,_,_=>none
 |f+1,n,ts=>if 5<n then unS f ts else match Vq f (n+1) ts with
  |none=>none
  |some (e,r)=>Mv f n e r
def Mv:Nat→Int→PEx→List Tk→Option (PEx×List Tk)
 |0,_,_,_=>none
 |f+1,n,e,ts=>if Ux n ts=0 then some (e,ts) else match Vq f (n+1) ts.tail with
  |none=>none
  |some (x,r)=>if n=3 then some (.mk 6 0 em 0 false (Ux n ts) [e,x],r) else Mv f n (.mk 6 0 em 0 false (Ux n ts) [e,x]) r
def unS:Nat→List Tk→Option (PEx×List Tk)
 |0,_=>none
 |f+1,ts=>match tkW [45] ts with
  |some r=>(match unS f r with
   |none=>none
   |some (e,r2)=>some (.mk 4 0 em 0 false 0 [e],r2))
  |none=>match tkW [33] ts with
   |some r=>(match unS f r with
    |none=>none
    |some (e,r2)=>some (.mk 5 0 em 0 false 0 [e],r2))
   |none=>Uu f ts
def Uu:Nat→List Tk→Option (PEx×List Tk)
 |0,_=>none
 |f+1,ts=>match tkW [40] ts with
  |some r=>(match Vq f 1 r with
   |none=>none
   |some (e,r2)=>match tkW [41] r2 with
    |none=>none
    |some r3=>some (e,r3))
  |none=>match Jg ts with
   |some (n,r)=>some (.mk 1 n em 0 false 0 [],r)
   |none=>match Q3 ts with
    |none=>none
    |some (nm,r)=>match tkW [91] r with
     |none=>some (.mk 2 0 nm 0 false 0 [],r)
     |some r2=>match Vq f 1 r2 with
      |none=>none
      |some (e,r3)=>match tkW [93] r3 with
       |none=>none
       |some r4=>some (.mk 3 0 nm 0 false 0 [e],r4)
end
def kindL:List Bs:= [[], [108,101,116], [], [], [105,102], [119,104,105,108,101], [108,111,99,107], [117,110,108,111,99,107], [119,97,105,116], [115,105,103,110,97,108], [97,108,108], [115,101,110,100], [114,101,99,118], [115,112,97,119,110], [106,111,105,110], [112,114,105,110,116]]
def Q5 (L:List Bs)(ts:List Tk):Nat→Nat
 |0=>0
 |k+1=>if L.getD (k+1) []≠ []∧isW (L.getD (k+1) []) ts=true then k+1 else Q5 L ts k
def Vu (ts:List Tk):Nat:=Q5 kindL ts 15
def Zr:List Tk→Int×Int
 |t::_=>(t.ln,t.cl)
 | []=>(0,0)
def Un (f:Nat)(k:Int)(p:Int×Int)(nm:ByteArray)(ts:List Tk):Option (PStm×List Tk):=
 if k=0 then (if isW [91] ts=true then bnd (Vq f 1 ts.tail) fun ix r=>bnd (Vy [93] r) fun _ r=>bnd (Vy [61] r) fun _ r=>bnd (Vq f 1 r) fun e r=>bnd (Vy [59] r) fun _ r=>some (.mk 3 p.1 p.2 nm em e ix [] [] 0 0 0 false,r)
  else bnd (Vy [61] ts) fun _ r=>bnd (Vq f 1 r) fun e r=>bnd (Vy [59] r) fun _ r=>some (.mk 2 p.1 p.2 nm em e .z [] [] 0 0 0 false,r))
 else if k=1 then bnd (Vy [61] ts) fun _ r=>bnd (Vq f 1 r) fun e r=>bnd (Vy [59] r) fun _ r=>some (.mk k p.1 p.2 nm em e .z [] [] 0 0 0 false,r)
 else if k=8∨k=12 then bnd (Q3 ts) fun wt r=>bnd (Vy [59] r) fun _ r=>some (.mk k p.1 p.2 nm wt .z .z [] [] 0 0 0 false,r)
 else if k=11∨k=15 then bnd (Vq f 1 ts) fun e r=>bnd (Vy [59] r) fun _ r=>some (.mk k p.1 p.2 nm em e .z [] [] 0 0 0 false,r)
 else bnd (Vy [59] ts) fun _ r=>some (.mk k p.1 p.2 nm em .z .z [] [] 0 0 0 false,r)
mutual
def Q0:Nat→List Tk→Option (PStm×List Tk)
 |0,_=>none
 |f+1,ts=>
  if Vu ts=4∨Vu ts=5 then bnd (Vq f 1 ts.tail) fun e r=>bnd (Hg f r) fun b r=>
   if Vu ts=4∧isW [101,108,115,101] r=true then bnd (Hg f r.tail) fun b2 r=>some (.mk (Vu ts) (Zr ts).1 (Zr ts).2 em em e .z b b2 0 0 0 false,r)
   else some (.mk (Vu ts) (Zr ts).1 (Zr ts).2 em em e .z b [] 0 0 0 false,r)
  else if Vu ts=14∨Vu ts=15 then Un f (Vu ts) (Zr ts) em ts.tail
  else bnd (Q3 (if 0<Vu ts then ts.tail else ts)) fun nm r=>Un f (Vu ts) (Zr ts) nm r
def Hg:Nat→List Tk→Option (List PStm×List Tk)
 |0,_=>none
 |f+1,ts=>bnd (Vy [123] ts) fun _ r=>bnd (Ue f r) fun l r=>bnd (Vy [125] r) fun _ r=>some (l,r)
def Ue:Nat→List Tk→Option (List PStm×List Tk)
 |0,_=>none
 |f+1,ts=>if isW [125] ts=true then some ([],ts) else bnd (Q0 f ts) fun s r=>bnd (Ue f r) fun l r=>some (s::l,r)
end
def declL:List Bs:= [[], [118,97,114], [97,114,114,97,121], [109,117,116,101,120], [99,111,110,100], [99,104,97,110], [116,104,114,101,97,100]]
def dkS (ts:List Tk):Nat:=Q5 declL ts 6
def Dl (k:Nat)(ts:List Tk):Option (Int×List Tk):=
 if k=1 then bnd (Vy [61] ts) fun _ r=>if isW [45] r=true then bnd (Jg r.tail) fun n r=>some (-n,r) else Jg r
 else if k=2∨k=5 then Jg ts else some (0,ts)
def K5 (f:Nat)(ts:List Tk):Option (PDec×List Tk):=
 if dkS ts=0 then none else bnd (Q3 ts.tail) fun nm r=>
  if dkS ts=6 then bnd (Hg f r) fun b r=>some (⟨dkS ts,(Zr ts).1,(Zr ts).2,nm,0,b⟩,r)
  else bnd (Dl (dkS ts) r) fun n r=>bnd (Vy [59] r) fun _ r=>some (⟨dkS ts,(Zr ts).1,(Zr ts).2,nm,n, []⟩,r)
def U4 (g:Nat):Nat→List Tk→Option (List PDec)
 |0,_=>none
 |f+1,ts=>if ts= [] then some [] else bnd (K5 g ts) fun d r=>(U4 g f r).map (d:: ·)
mutual
def PEx.dep:PEx→Nat
 | .mk _ _ _ _ _ _ args=>Yh args+1
def Yh:List PEx→Nat
 | []=>0
 |e::r=>max e.dep (Yh r)
end
mutual
def PStm.deep:PStm→Nat→Bool
 | .mk _ _ _ _ _ e ix body els _ _ _ _,n=>decide (24<n)||decide (24<e.dep)||decide (24<ix.dep)||Yf body (n+1)||Yf els (n+1)
def Yf:List PStm→Nat→Bool
 | [],_=>false
 |s::r,n=>s.deep n||Yf r n
end
def Q2 (l:Bs):Option (List PDec):=
 if 65536<l.length then none else match Ky (l.length+1) l 1 1 with
  |none=>none
  |some ts=>match U4 (10*ts.length+20) (ts.length+1) ts with
   |none=>none
   |some ds=>if ds.any (fun d=>Yf d.body 1)=true then none else some ds
inductive Ex where
 |mk (k n:Int) (nm:ByteArray) (slot:Int) (loc:Bool) (op:Int) (args:List Ex) (aa:Option Addr) (ac:Nat)
def exC:Ex→List Value
 | .mk k n nm slot loc op args aa ac=> [.int .i64 k,.int .i64 n,.string nm,.int .i64 slot,.bool loc,.int .i64 op,.slice aa args.length ac]
inductive Stm where
 |mk (k ln cl:Int) (nm wt:ByteArray) (e ix:Ex) (body els:List Stm) (ba:Option Addr) (bc:Nat) (ea:Option Addr) (ec:Nat) (id slot other:Int) (loc:Bool)
def stC:Stm→List Value
 | .mk k ln cl nm wt e ix body els ba bc ea ec id slot other loc=> [.int .i64 k,.int .i64 ln,.int .i64 cl,.string nm,.string wt]++(exC e++(exC ix++ [.slice ba body.length bc,.slice ea els.length ec,.int .i64 id,.int .i64 slot,.int .i64 other,.bool loc]))
structure Dec where
 k:Int
 ln:Int
 cl:Int
 nm:ByteArray
 n:Int
 body:List Stm
 ba:Option Addr
 bc:Nat
def dcC (d:Dec):List Value:= [.int .i64 d.k,.int .i64 d.ln,.int .i64 d.cl,.string d.nm,.int .i64 d.n,.slice d.ba d.body.length d.bc]
theorem Z4 (e:Ex):(exC e).length=7:=by cases e;rfl
theorem Z9 (s:Stm):(stC s).length=25:=by cases s;simp [stC,Z4]
theorem Fv (e:Ex):(exC e).all (·.oneCell')=true:=by cases e;rfl
theorem Hl (s:Stm):(stC s).all (·.oneCell')=true:=by cases s;simp only [stC,List.all_append,Fv];rfl
mutual
def Ex.er:Ex→PEx
 | .mk k n nm slot loc op args _ _=> .mk k n nm slot loc op (Z3 args)
def Z3:List Ex→List PEx
 | []=> []
 |e::r=>e.er::Z3 r
end
mutual
def Stm.er:Stm→PStm
 | .mk k ln cl nm wt e ix body els _ _ _ _ id slot other loc=> .mk k ln cl nm wt e.er ix.er (Zj body) (Zj els) id slot other loc
def Zj:List Stm→List PStm
 | []=> []
 |s::r=>s.er::Zj r
end
def Dec.er (d:Dec):PDec:=⟨d.k,d.ln,d.cl,d.nm,d.n,Zj d.body⟩
mutual
def Ex.At (M:Hp):Ex→Prop
 | .mk _ _ _ _ _ _ args aa ac=>SlAt M aa ac args.length (args.flatMap exC)∧Ex.Ats M args
def Ex.Ats (M:Hp):List Ex→Prop
 | []=>True
 |e::r=>e.At M∧Ex.Ats M r
end
mutual
def Stm.At (M:Hp):Stm→Prop
 | .mk _ _ _ _ _ e ix body els ba bc ea ec _ _ _ _=>e.At M∧ix.At M∧(SlAt M ba bc body.length (body.flatMap stC)∧Stm.Ats M body)∧SlAt M ea ec els.length (els.flatMap stC)∧Stm.Ats M els
def Stm.Ats (M:Hp):List Stm→Prop
 | []=>True
 |s::r=>s.At M∧Stm.Ats M r
end
mutual
theorem Ex.At.mono {M M':Hp}(l:Hle M M'): ∀ {e:Ex},e.At M→e.At M'
 | .mk ..,⟨h,k⟩=>⟨h.mono l,Ex.Ats.mono l k⟩
theorem Ex.Ats.mono {M M':Hp}(l:Hle M M'): ∀ {e:List Ex},Ex.Ats M e→Ex.Ats M' e
 | [],_=>trivial
 |_::_,⟨h,k⟩=>⟨Ex.At.mono l h,Ex.Ats.mono l k⟩
end
mutual
theorem Stm.At.mono {M M':Hp}(l:Hle M M'): ∀ {e:Stm},e.At M→e.At M'
 | .mk ..,⟨h1,h2,⟨h3,h4⟩,h5,h6⟩=>⟨h1.mono l,h2.mono l,⟨h3.mono l,Stm.Ats.mono l h4⟩,h5.mono l,Stm.Ats.mono l h6⟩
theorem Stm.Ats.mono {M M':Hp}(l:Hle M M'): ∀ {e:List Stm},Stm.Ats M e→Stm.Ats M' e
 | [],_=>trivial
 |_::_,⟨h,k⟩=>⟨Stm.At.mono l h,Stm.Ats.mono l k⟩
end
theorem Y4 {M:Hp}: ∀ {l:List Ex},Ex.Ats M l↔ ∀ e∈l,e.At M
 | []=>by simp [Ex.Ats]
 |e::r=>by simp [Ex.Ats,Y4 (l:=r)]
theorem Vb {M:Hp}: ∀ {l:List Stm},Stm.Ats M l↔ ∀ e∈l,e.At M
 | []=>by simp [Stm.Ats]
 |e::r=>by simp [Stm.Ats,Vb (l:=r)]
theorem Yg: ∀ l:List Ex,Z3 l=l.map Ex.er
 | []=>rfl
 |e::r=>by simp [Z3,Yg r]
theorem Yn: ∀ l:List Stm,Zj l=l.map Stm.er
 | []=>rfl
 |e::r=>by simp [Zj,Yn r]
theorem W8 (l:List Ex):(Z3 l).length=l.length:=by rw [Yg];simp
theorem Zn (l:List Stm):(Zj l).length=l.length:=by rw [Yn];simp
mutual
def Ex.sz:Ex→Nat
 | .mk _ _ _ _ _ _ args _ _=>Qn args+1
def Qn:List Ex→Nat
 | []=>0
 |e::r=>e.sz+Qn r
end
mutual
def Stm.sz:Stm→Nat
 | .mk _ _ _ _ _ _ _ body els _ _ _ _ _ _ _ _=>Zh body+Zh els+1
def Zh:List Stm→Nat
 | []=>0
 |s::r=>s.sz+Zh r
end
theorem Vk {e:Ex}: ∀ {l:List Ex},e∈l→e.sz≤Qn l
 |x::r,h=>by
  rcases List.mem_cons.1 h with rfl|h
  · simp [Qn]
  have:=Vk h;simp only [Qn];omega
theorem Uz {e:Stm}: ∀ {l:List Stm},e∈l→e.sz≤Zh l
 |x::r,h=>by
  rcases List.mem_cons.1 h with rfl|h
  · simp [Zh]
  have:=Uz h;simp only [Zh];omega
def exM (e:Ex):HP:=lst (fun M=>e.At M) fun l h=>Ex.At.mono l h
def exsM (l:List Ex):HP:=lst (fun M=>Ex.Ats M l) fun l h=>Ex.Ats.mono l h
def stM (s:Stm):HP:=lst (fun M=>s.At M) fun l h=>Stm.At.mono l h
def stsM (l:List Stm):HP:=lst (fun M=>Stm.Ats M l) fun l h=>Stm.Ats.mono l h
def BlkAt (M:Hp)(a:Option Addr)(c:Nat)(l:List Stm):Prop:=SlAt M a c l.length (l.flatMap stC)∧Stm.Ats M l
theorem BlkAt.mono {a:Option Addr}{c:Nat}{l:List Stm}{M M':Hp}(e:Hle M M')(h:BlkAt M a c l):BlkAt M' a c l:=⟨h.1.mono e,h.2.mono e⟩
def blM (a:Option Addr)(c:Nat)(l:List Stm):HP:=lst (fun M=>BlkAt M a c l) BlkAt.mono
def Dec.At (M:Hp)(d:Dec):Prop:=BlkAt M d.ba d.bc d.body
theorem Dec.At.mono {d:Dec}{M M':Hp}(e:Hle M M')(h:d.At M):d.At M':=BlkAt.mono e h
def Decs.At (M:Hp)(l:List Dec):Prop:= ∀ d∈l,d.At M
theorem Decs.At.mono {l:List Dec}{M M':Hp}(e:Hle M M')(h:Decs.At M l):Decs.At M' l:=fun d hd=>(h d hd).mono e
def dcM (d:Dec):HP:=lst (fun M=>d.At M) Dec.At.mono
def dcsM (l:List Dec):HP:=lst (fun M=>Decs.At M l) Decs.At.mono
section
variable {q q0:List HP}{a:Option Addr}{c ty:Nat}{l:List Ex}{m:List Stm}
theorem Kn.ex1 {k n:Int}{nm:ByteArray}{slot:Int}{loc:Bool}{op:Int}{e:Ex}(h:Kn q fun M=>e.At M):Kn (lst (fun M=>SlAt M a c 1 ([e].flatMap exC)) SlAt.mono::q) fun M=>(Ex.mk k n nm slot loc op [e] a c).At M:=
 (Kn.here.and h.there).imp fun M h=>⟨h.1,h.2,trivial⟩
theorem Kn.ex2 {k n:Int}{nm:ByteArray}{slot:Int}{loc:Bool}{op:Int}{e e2:Ex}(h:Kn q fun M=>e.At M)(h2:Kn q fun M=>e2.At M):Kn (lst (fun M=>SlAt M a c 2 ([e,e2].flatMap exC)) SlAt.mono::q) fun M=>(Ex.mk k n nm slot loc op [e,e2] a c).At M:=
 (Kn.here.and (h.there.and h2.there)).imp fun M h=>⟨h.1,h.2.1,h.2.2,trivial⟩
theorem Kn.exM {e:Ex}:Kn (exM e::q) fun M=>e.At M:=Kn.here
theorem Kn.stsM:Kn (stsM m::q) fun M=>Stm.Ats M m:=Kn.here
theorem Kn.stM {s:Stm}:Kn (stM s::q) fun M=>s.At M:=Kn.here
theorem Kn.dcM {s:Dec}:Kn (dcM s::q) fun M=>s.At M:=Kn.here
theorem Kn.dcsM {s:List Dec}:Kn (dcsM s::q) fun M=>Decs.At M s:=Kn.here
theorem Le.ex0 (k n:Int)(nm:ByteArray)(slot:Int)(loc:Bool)(op:Int):Le q (Go.Proofs.YtflkjkhijcdbaaaGreat.exM (Ex.mk k n nm slot loc op [] none 0)::q):=Kn.add (fun M _ _=>⟨SlAt.nil M,trivial⟩)
theorem Ki:Le q (Go.Proofs.YtflkjkhijcdbaaaGreat.stsM []::q):=Kn.add (fun _ _ _=>trivial)
theorem Hc {s:Stm}:Le (Go.Proofs.YtflkjkhijcdbaaaGreat.stsM m::Go.Proofs.YtflkjkhijcdbaaaGreat.stM s::q) (Go.Proofs.YtflkjkhijcdbaaaGreat.stsM (m++ [s])::q):=by
 have h:Kn (Go.Proofs.YtflkjkhijcdbaaaGreat.stsM m::Go.Proofs.YtflkjkhijcdbaaaGreat.stM s::q) fun M=>Stm.Ats M (m++ [s]):=(Kn.stsM.and Kn.stM.there).imp fun M h=>Vb.2 fun x hx=>by
  rcases List.mem_append.1 hx with hx|hx
  · exact Vb.1 h.1 x hx
  rw [List.mem_singleton.1 hx];exact h.2
 exact Le.trans (Kn.add (mn:=fun l h=>Stm.Ats.mono l h) h) (Le.cons _ ((Le.drop _ _).trans (Le.drop _ _)))
theorem Lg:Le q (Go.Proofs.YtflkjkhijcdbaaaGreat.dcsM []::q):=Kn.add (fun _ _ _ d hd=>by cases hd)
theorem C7 {s:Dec}{m:List Dec}:Le (Go.Proofs.YtflkjkhijcdbaaaGreat.dcsM m::Go.Proofs.YtflkjkhijcdbaaaGreat.dcM s::q) (Go.Proofs.YtflkjkhijcdbaaaGreat.dcsM (m++ [s])::q):=by
 have h:Kn (Go.Proofs.YtflkjkhijcdbaaaGreat.dcsM m::Go.Proofs.YtflkjkhijcdbaaaGreat.dcM s::q) fun M=>Decs.At M (m++ [s]):=(Kn.dcsM.and Kn.dcM.there).imp fun M h x hx=>by
  rcases List.mem_append.1 hx with hx|hx
  · exact h.1 x hx
  rw [List.mem_singleton.1 hx];exact h.2
 exact Le.trans (Kn.add (mn:=Decs.At.mono) h) (Le.cons _ ((Le.drop _ _).trans (Le.drop _ _)))
theorem Kn.blk (h:Kn q fun M=>Stm.Ats M m):Kn (lst (fun M=>SlAt M a c m.length (m.flatMap stC)) SlAt.mono::q) fun M=>BlkAt M a c m:=Kn.here.and h.there
end
theorem isW_at {L:List Tk}{s:Bs}{n:Nat}(h:n<L.length):isW s (L.drop n)=(bs L[n].t==s && decide (3≤L[n].k)):=by rw [List.drop_eq_getElem_cons h];rfl
theorem So {L:List Tk}{s:Bs}{n:Nat}(h:L.length≤n):isW s (L.drop n)=false:=by rw [List.drop_eq_nil_of_le h];rfl
theorem Pz {L:List Tk}{s:Bs}{n:Nat}(h:isW s (L.drop n)=true):n<L.length:=by
 rcases Nat.lt_or_ge n L.length with k|k
 · exact k
 rw [So k] at h;cases h
theorem gD {α:Type}{l:List α}{i:Nat}{d:α}(h:i<l.length):l.getD i d=l[i]:=by simp [List.getD,List.getElem?_eq_getElem h]
theorem sEq {a b:ByteArray}:a.toList=b.toList↔bs a=bs b:=by rw [ByteArray.toList_eq,ByteArray.toList_eq];rfl
theorem sNe {a b:ByteArray}(h: ¬a.toList=b.toList):(bs a==bs b)=false:=by rw [beq_eq_false_iff_ne];exact fun e=>h (sEq.2 e)
theorem sTr {a b:ByteArray}(h:a.toList=b.toList):(bs a==bs b)=true:=by rw [beq_iff_eq];exact sEq.1 h
theorem tail_drop {L:List Tk}{n:Nat}:(L.drop n).tail=L.drop (n+1):=by rw [List.tail_drop]
def Out {α:Type}(L:List Tk)(bad:Bool)(sp:Option (α×List Tk))(x:α)(n:Nat)(bad':Bool):Prop:=(bad'=false∧bad=false∧sp=some (x,L.drop n))∨(bad'=true∧(bad=true∨sp=none))
abbrev rdH (p:Nat)(la:Option Addr)(lc:Nat)(L:List Tk)(n:Nat)(bad:Bool):HP:=pto p (.cells [.slice la L.length lc,.int .i64 (n:Int),.bool bad].toArray 226 (0,0))
section
variable {P:Program}{G:World}{fr:Fc}{Q:Yr}{todo k:List Item}{p:PE}{ds:List Deferred}{cs:List Frame}{q q0:List HP}{ops lo:List Oper}{a:Option Addr}{c:Nat}{e x:Ex}{m:List Stm}{kd n:Int}{nm:ByteArray}{slot:Int}{loc:Bool}{op:Int}
theorem Pe (K:X P G fr Q todo p ds cs (exM (.mk kd n nm slot loc op [e] a c)::q0))(hq:Le q (rsH exC 7 124 a c [e]::q0):=by exact Zk)(he:Kn q0 fun M=>e.At M:=by exact knA):X P G fr Q todo p ds cs q:= .frzR (Kn.ex1 he) K hq
theorem X.fzE2 (K:X P G fr Q todo p ds cs (exM (.mk kd n nm slot loc op [e,x] a c)::q0))(hq:Le q (rsH exC 7 124 a c [e,x]::q0):=by exact Zk)(he:Kn q0 fun M=>e.At M:=by exact knA)(hx:Kn q0 fun M=>x.At M:=by exact knA):X P G fr Q todo p ds cs q:= .frzR (Kn.ex2 he hx) K hq
theorem X.fzB (K:X P G fr Q todo p ds cs (blM a c m::q0))(hq:Le q (rsH stC 25 126 a c m::q0):=by exact Zk)(h:Kn q0 fun M=>Stm.Ats M m:=by exact knA):X P G fr Q todo p ds cs q:= .frzR (Kn.blk h) K hq
end
end Go.Proofs.YtflkjkhijcdbaaaGreat
namespace Go.Proofs.YtflkjkhijcdbaaaGreat
open Go Go.RowKit Wx Go.Proofs.Tryz
attribute [local irreducible] Wx.lsH Wx.rsH Wx.stars
section
variable {G:World}{q pre:List HP}{a la A:Option Addr}{c lc p n:Nat}{bad:Bool}{s:ByteArray}{L:List Tk}{r:Int}
theorem Ge (hr:Has q p (.cells [.slice la L.length lc,.int .i64 (n:Int),.bool bad].toArray 226 (0,0)))(hL:Sees q la (L.flatMap tkC))(hn:L.length≤65536):CallF prog G 147 [.pointer (some ⟨p,0,none⟩),.string s] (q) (Ret fun v q'=>v= .bool (!bad && isW (bs s) (L.drop n))∧q'=q):=by
 refine CallF.of func147 ntmps147 rfl (fun F cs=> ?_)
 have hlen:=Zv (f:=tkC) (sz:=5) (fun _=>rfl) L
 refine xx 5 ?_;refine drw ?_;refine dd [0,1,2] ?_;refine ldD 3 ?_ (hc:=(Cl.of (hr.le leA) rfl))
 refine J7 4 rfl (Pu.not rfl) ?_;refine dd [5] ?_;refine XD.part 10 rfl (fun h1=> ?_) (fun h1=> ?_)
 · replace h1:=sp h1
   refine dd [6,7,8] ?_;refine ldD 9 ?_ (hc:=(Cl.of (hr.le leA) rfl))
   refine dd [10,11,12] ?_;refine ldD 13 ?_ (hc:=(Cl.of (hr.le leA) rfl))
   refine dd [14,15,16,17] ?_;refine XD.part 22 rfl (fun h2=> ?_) (fun h2=> ?_)
   · replace h2:=sp h2
     refine dd [18,19,20] ?_;refine ldD 21 ?_ (hc:=(Cl.of (hr.le leA) rfl))
     refine dd [22,23,24] ?_;refine ldD 25 ?_ (hc:=(Cl.of (hr.le leA) rfl))
     refine Km hL (by rw [hlen];omega) (fun b1 o1 e1=> ?_)
     have hs1:=hL;rw [e1] at hs1
     refine XD.know 26 (.slice (some ⟨b1,o1,none⟩) L.length lc) rfl (by rw [e1]) ?_
     refine dl [26,27] 28 ?_;refine dd [29,30,31,32] ?_;refine XD.part 37 rfl (fun h3=> ?_) (fun h3=> ?_)
     · replace h3:=sp h3
       refine dd [33,34,35] ?_;refine ldD 36 ?_ (hc:=(Cl.of (hr.le leA) rfl))
       refine dd [37,38,39] ?_;refine ldD 40 ?_ (hc:=(Cl.of (hr.le leA) rfl))
       refine XD.know 41 (.slice (some ⟨b1,o1,none⟩) L.length lc) rfl (by rw [e1]) ?_
       refine dl [41,42] 43 ?_;refine dd [44,45,46] ?_;refine XD.nil ?_;refine Zq (q) func147 (Zg results147 rfl) ⟨_,rfl,congrArg Value.bool (by rw [isW_at (by omega),h1,sTr h3];rfl),rfl⟩
     replace h3:=sp h3
     refine dd [33,34,35,36,37,38,39,40,41,42,43,44,45,46] ?_;refine XD.nil ?_;refine Zq (q) func147 (Zg results147 rfl) ⟨_,rfl,congrArg Value.bool (by rw [isW_at (by omega),sNe h3];simp),rfl⟩
   replace h2:=sp h2
   refine dd [18,19,20,21,22,23,24,25,26,27,28,29,30,31,32,33,34,35,36,37,38,39,40,41,42,43,44,45,46] ?_;refine XD.nil ?_;refine Zq (q) func147 (Zg results147 rfl) ⟨_,rfl,congrArg Value.bool (by rw [So (by omega)];simp),rfl⟩
 replace h1:=sp h1
 refine dd [6,7,8,9,10,11,12,13,14,15,16,17,18,19,20,21,22,23,24,25,26,27,28,29,30,31,32,33,34,35,36,37,38,39,40,41,42,43,44,45,46] ?_;refine XD.nil ?_;refine Zq (q) func147 (Zg results147 rfl) ⟨_,rfl,congrArg Value.bool (by simp_all),rfl⟩
variable {w:Bs}
theorem Uv (hL:Sees q la (L.flatMap tkC))(hn:L.length≤65536):CallF prog G 150 [.pointer (some ⟨p,0,none⟩),.string (ba w)] (rdH p la lc L n bad::q) (Ret fun v q'=>(v= .bool true∧(bad=false∧isW w (L.drop n)=true∧n<L.length)∧q'=rdH p la lc L (n+1) bad::q)∨(v= .bool false∧(bad=true∨isW w (L.drop n)=false)∧q'=rdH p la lc L n bad::q)):=by
 refine CallF.of func150 ntmps150 rfl (fun F cs=> ?_)
 refine xo 9 ?_;refine XO.cR call147 (Ge (n:=n) (bad:=bad) Qt (hL.le leA) hn) ?_
 refine Zt (Pu.not rfl) ?_;refine ox 1 ?_;refine X.part 8 rfl (fun h1=> ?_) (fun h1=> ?_)
 · refine xx 5 ?_;refine Zq (rdH p la lc L n bad::q) func150 (Zg results150 rfl) ⟨_,rfl,.inr ⟨rfl,by rw [Ud] at h1;cases bad<;>simp_all,rfl⟩⟩
 have h2:bad=false∧isW w (L.drop n)=true:=by rw [Ud] at h1;cases bad<;>simp_all
 have hlt:=Pz h2.2
 refine xj 7 ?_;refine oo 3 ?_;refine st ?_;refine ox 5 ?_;refine Zq (rdH p la lc L (n+1) bad::q) func150 (Zg results150 rfl) ⟨_,rfl,.inl ⟨rfl,⟨h2.1,h2.2,hlt⟩,rfl⟩⟩
theorem Y1 (hL:Sees q la (L.flatMap tkC))(hn:L.length≤65536)(hnL:n≤L.length):CallF prog G 149 [.pointer (some ⟨p,0,none⟩),.string (ba w)] (rdH p la lc L n bad::q) (Ret fun v q'=> ∃ n' bad',v= .tuple #[]∧q'=rdH p la lc L n' bad'::q∧n≤n'∧n'≤L.length∧Out L bad (Vy w (L.drop n)) () n' bad'):=by
 refine CallF.of func149 ntmps149 rfl (fun F cs=> ?_)
 refine xo 4 ?_;refine Zf call150 leA (Uv (hL.le leA) hn) ?_;rintro _ _ (⟨rfl,⟨hb,hw,hlt⟩,rfl⟩|⟨rfl,hw,rfl⟩)
 · refine ox 4 ?_;refine Z7 (rdH p la lc L (n+1) bad::q) func149 (Vg results149) ⟨_,rfl,n+1,bad,rfl,rfl,by omega,by omega,.inl ⟨hb,hb,by unfold Vy;rw [if_pos hw,tail_drop]⟩⟩
 refine oo 7 ?_;refine st ?_;refine ox 1 ?_;refine Z7 (rdH p la lc L n true::q) func149 (Vg results149) ⟨_,rfl,n,true,rfl,rfl,Nat.le_refl _,hnL,.inr ⟨rfl,hw.imp id fun h=>by unfold Vy;rw [if_neg (by rw [h];decide)]⟩⟩
theorem Bw {L:List Tk}{n:Nat}(h:n<L.length):Q3 (L.drop n)=if L[n].k=1 then some (L[n].t,L.drop (n+1)) else none:=by rw [List.drop_eq_getElem_cons h];rfl
theorem D7 {L:List Tk}{n:Nat}(h:L.length≤n):Q3 (L.drop n)=none:=by rw [List.drop_eq_nil_of_le h];rfl
theorem Jh (hL:Sees q la (L.flatMap tkC))(hn:L.length≤65536)(hnL:n≤L.length):CallF prog G 148 [.pointer (some ⟨p,0,none⟩)] (rdH p la lc L n bad::q) (Ret fun v q'=> ∃ (x:ByteArray) (n':Nat) (bad':Bool),v= .string x∧q'=rdH p la lc L n' bad'::q∧(n≤n'∧(x=em∨ ∃ t∈L,x=t.t))∧n'≤L.length∧Out L bad (Q3 (L.drop n)) x n' bad'):=by
 refine CallF.of func148 ntmps148 rfl (fun F cs=> ?_)
 have hlen:=Zv (f:=tkC) (sz:=5) (fun _=>rfl) L
 refine xx 6 ?_;refine drw ?_;refine dl [0,1,2] 3 ?_;refine dd [4] ?_;refine XD.part 7 rfl (fun h1=> ?_) (fun h1=> ?_)
 · replace h1:=sp h1
   refine dd [5,6,7,8,9,10,11,12,13,14,15,16,17,18,19,20,21,22,23,24,25,26,27,28,29] ?_;refine XD.nil ?_;refine xo 6 ?_;refine st ?_;refine ox 5 ?_;refine Zq (rdH p la lc L n true::q) func148 (Zg results148 rfl) ⟨_,rfl,em,n,true,rfl,rfl,⟨Nat.le_refl _,.inl rfl⟩,hnL,.inr ⟨rfl,.inl h1⟩⟩
 replace h1:=sp h1
 refine dl [5,6,7] 8 ?_;refine dl [9,10,11] 12 ?_;refine dd [13,14,15,16] ?_;refine XD.part 19 rfl (fun h2=> ?_) (fun h2=> ?_)
 · replace h2:=sp h2
   refine dd [17,18,19,20,21,22,23,24,25,26,27,28,29] ?_;refine XD.nil ?_;refine xo 6 ?_;refine st ?_;refine ox 5 ?_;refine Zq (rdH p la lc L n true::q) func148 (Zg results148 rfl) ⟨_,rfl,em,n,true,rfl,rfl,⟨Nat.le_refl _,.inl rfl⟩,hnL,.inr ⟨rfl,.inr (D7 (by omega))⟩⟩
 replace h2:=sp h2
 refine dl [17,18,19] 20 ?_;refine dl [21,22,23] 24 ?_
 have hlt:n<L.length:=by omega
 refine Km hL (by rw [hlen];omega) (fun b1 o1 e1=> ?_)
 have hs1:=hL;rw [e1] at hs1
 refine XD.know 23 (.slice (some ⟨b1,o1,none⟩) L.length lc) rfl (by rw [e1]) ?_
 refine dl [25,26] 27 ?_;refine dd [28,29] ?_;refine XD.nil ?_;refine X.part 32 rfl (fun h3=> ?_) (fun h3=> ?_)
 · replace h3:=sp h3
   refine xo 6 ?_;refine st ?_;refine ox 5 ?_;refine Zq (rdH p la lc L n true::q) func148 (Zg results148 rfl) ⟨_,rfl,em,n,true,rfl,rfl,⟨Nat.le_refl _,.inl rfl⟩,hnL,.inr ⟨rfl,.inr (by rw [Bw (by omega),if_neg h3])⟩⟩
 replace h3:=sp h3
 refine xj 7 ?_;refine oo 3 ?_;refine st ?_;refine ox 2 ?_;refine drw ?_;refine dl [0,1,2] 3 ?_;refine dl [4,5,6] 7 ?_;refine dd [8] ?_;refine XD.know 46 (.slice (some ⟨b1,o1,none⟩) L.length lc) rfl (by rw [e1]) ?_
 refine dd [9,10] ?_;refine ldD 11 ?_ (hc:=(Cl.el (n:=n) hs1 leA (fun _=>rfl) hlt (by omega) rfl))
 refine dd [12] ?_;refine XD.nil ?_;refine Zq (rdH p la lc L (n+1) bad::q) func148 (Zg results148 rfl) ⟨_,rfl,L[n].t,n+1,bad,rfl,rfl,⟨by omega,.inr ⟨_,List.getElem_mem hlt,rfl⟩⟩,by omega,.inl ⟨h1,h1,by rw [Bw hlt,if_pos h3]⟩⟩
theorem Gp {L:List Tk}{n:Nat}(h:n<L.length):Jg (L.drop n)=if L[n].k=2 then some (L[n].n,L.drop (n+1)) else none:=by rw [List.drop_eq_getElem_cons h];rfl
theorem Ox {L:List Tk}{n:Nat}(h:L.length≤n):Jg (L.drop n)=none:=by rw [List.drop_eq_nil_of_le h];rfl
theorem J4 (hL:Sees q la (L.flatMap tkC))(hn:L.length≤65536)(hnL:n≤L.length):CallF prog G 151 [.pointer (some ⟨p,0,none⟩)] (rdH p la lc L n bad::q) (Ret fun v q'=> ∃ (x:Int) (n':Nat) (bad':Bool),v= .int .i64 x∧q'=rdH p la lc L n' bad'::q∧(n≤n'∧(x=0∨ ∃ t∈L,x=t.n))∧n'≤L.length∧Out L bad (Jg (L.drop n)) x n' bad'):=by
 refine CallF.of func151 ntmps151 rfl (fun F cs=> ?_)
 have hlen:=Zv (f:=tkC) (sz:=5) (fun _=>rfl) L
 refine xx 6 ?_;refine drw ?_;refine dl [0,1,2] 3 ?_;refine dd [4] ?_;refine XD.part 7 rfl (fun h1=> ?_) (fun h1=> ?_)
 · replace h1:=sp h1
   refine dd [5,6,7,8,9,10,11,12,13,14,15,16,17,18,19,20,21,22,23,24,25,26,27,28,29] ?_;refine XD.nil ?_;refine xo 6 ?_;refine st ?_;refine ox 5 ?_;refine Zq (rdH p la lc L n true::q) func151 (Zg results151 rfl) ⟨_,rfl,0,n,true,rfl,rfl,⟨Nat.le_refl _,.inl rfl⟩,hnL,.inr ⟨rfl,.inl h1⟩⟩
 replace h1:=sp h1
 refine dl [5,6,7] 8 ?_;refine dl [9,10,11] 12 ?_;refine dd [13,14,15,16] ?_;refine XD.part 19 rfl (fun h2=> ?_) (fun h2=> ?_)
 · replace h2:=sp h2
   refine dd [17,18,19,20,21,22,23,24,25,26,27,28,29] ?_;refine XD.nil ?_;refine xo 6 ?_;refine st ?_;refine ox 5 ?_;refine Zq (rdH p la lc L n true::q) func151 (Zg results151 rfl) ⟨_,rfl,0,n,true,rfl,rfl,⟨Nat.le_refl _,.inl rfl⟩,hnL,.inr ⟨rfl,.inr (Ox (by omega))⟩⟩
 replace h2:=sp h2
 refine dl [17,18,19] 20 ?_;refine dl [21,22,23] 24 ?_
 have hlt:n<L.length:=by omega
 refine Km hL (by rw [hlen];omega) (fun b1 o1 e1=> ?_)
 have hs1:=hL;rw [e1] at hs1
 refine XD.know 23 (.slice (some ⟨b1,o1,none⟩) L.length lc) rfl (by rw [e1]) ?_
 refine dl [25,26] 27 ?_;refine dd [28,29] ?_;refine XD.nil ?_;refine X.part 32 rfl (fun h3=> ?_) (fun h3=> ?_)
 · replace h3:=sp h3
   refine xo 6 ?_;refine st ?_;refine ox 5 ?_;refine Zq (rdH p la lc L n true::q) func151 (Zg results151 rfl) ⟨_,rfl,0,n,true,rfl,rfl,⟨Nat.le_refl _,.inl rfl⟩,hnL,.inr ⟨rfl,.inr (by rw [Gp (by omega),if_neg h3])⟩⟩
 replace h3:=sp h3
 refine xj 7 ?_;refine oo 3 ?_;refine st ?_;refine ox 2 ?_;refine drw ?_;refine dl [0,1,2] 3 ?_;refine dl [4,5,6] 7 ?_;refine dd [8] ?_;refine XD.know 46 (.slice (some ⟨b1,o1,none⟩) L.length lc) rfl (by rw [e1]) ?_
 refine dd [9,10] ?_;refine ldD 11 ?_ (hc:=(Cl.el (n:=n) hs1 leA (fun _=>rfl) hlt (by omega) rfl))
 refine dd [12] ?_;refine XD.nil ?_;refine Zq (rdH p la lc L (n+1) bad::q) func151 (Zg results151 rfl) ⟨_,rfl,L[n].n,n+1,bad,rfl,rfl,⟨by omega,.inr ⟨_,List.getElem_mem hlt,rfl⟩⟩,by omega,.inl ⟨h1,h1,by rw [Gp hlt,if_pos h3]⟩⟩
end
section
variable {G:World}{q pre:List HP}{a la A:Option Addr}{c lc p n:Nat}{bad:Bool}{s:ByteArray}{L:List Tk}{r:Int}
theorem pos_ok (hL:Sees q la (L.flatMap tkC))(hn:L.length≤65536):CallF prog G 146 [.pointer (some ⟨p,0,none⟩)] (rdH p la lc L n bad::q) (Ret fun v q'=>v= .agg [.int .i64 (Zr (L.drop n)).1,.int .i64 (Zr (L.drop n)).2].toArray∧q'=rdH p la lc L n bad::q):=by
 refine CallF.of func146 ntmps146 rfl (fun F cs=> ?_)
 have hlen:=Zv (f:=tkC) (sz:=5) (fun _=>rfl) L
 refine xo 2 ?_;refine XO.al zeroValue107 fun n1=> ?_
 refine ox 3 ?_;refine drw ?_;refine dl [0,1,2] 3 ?_;refine dl [4,5,6] 7 ?_;refine dd [8,9] ?_;refine XD.nil ?_;refine X.part 12 rfl (fun h1=> ?_) (fun h1=> ?_)
 · replace h1:=sp h1
   refine xo 4 ?_;refine stA ?_;refine ox 1 ?_;refine Zq (rdH p la lc L n bad::q) func146 (rA_ results146) ⟨_,rfl,by rw [List.drop_eq_nil_of_le (by omega)];rfl,rfl⟩
 replace h1:=sp h1
 refine xx 3 ?_;refine drw ?_;refine dl [0,1,2] 3 ?_;refine dl [4,5,6] 7 ?_
 have hlt:n<L.length:=by omega
 refine Km hL (by rw [hlen];omega) (fun b1 o1 e1=> ?_)
 have hs1:=hL;rw [e1] at hs1
 refine XD.know 17 (.slice (some ⟨b1,o1,none⟩) L.length lc) rfl (by rw [e1]) ?_
 refine dd [8,9] ?_;refine XD.rdCs 10 (us:= [.int .i64 L[n].ln,.int .i64 L[n].cl]) rfl rfl isAgg107 sizeOf107 rfl (fun k v hk=>by match k,hk with|0,hk=>cases hk;exact Cl.row (n:=n) hs1 leA (fun _=>rfl) hlt rfl 3 _ rfl|1,hk=>cases hk;exact Cl.row (n:=n) hs1 leA (fun _=>rfl) hlt rfl 4 _ rfl) ?_
 refine V1 11 ?_;refine XD.nil ?_;refine Zq (rdH p la lc L n bad::q) func146 (rA_ results146) ⟨_,rfl,by rw [List.drop_eq_getElem_cons hlt];rfl,rfl⟩
theorem Wn:(prog.info? 9).map (fun i=>(i.zero,i.size,i.bytes))=some (some (.string ⟨#[]⟩),1,16):=by kernel_rfl
theorem Kv:(prog.info? 3).map (fun i=>(i.zero,i.size,i.bytes))=some (some (.int .i64 0),1,8):=by kernel_rfl
theorem rank_ok (hr:c<12):CallF prog G 209 [.int .i64 (c:Int)] (q) (Ret fun v q'=>v= .int .i64 (rankL.getD c 0)∧q'=q):=by
 refine CallF.of func209 ntmps209 rfl (fun F cs=> ?_)
 refine xo 6 ?_;refine XO.ef (Y0 I64 rankL underlying22 Kv rfl rfl rfl rfl rfl rfl (fun _=>rfl)) ?_
 rintro _ _ ⟨g,rfl,rfl⟩
 have hlt:c<rankL.length:=by show c<12;omega
 refine oo 2 ?_;refine ld ?_ (hc:=(Cl.e1 (n:=c) (Sees.lsH _) Zk hlt (by omega)))
 refine ox 2 ?_;refine Zq (q) func209 (Zg results209 rfl) ⟨_,rfl,by rw [gD hlt],rfl⟩
theorem sign_ok (hr:c<12):CallF prog G 210 [.int .i64 (c:Int)] (q) (Ret fun v q'=>v= .string (ba (signL.getD c []))∧q'=q):=by
 refine CallF.of func210 ntmps210 rfl (fun F cs=> ?_)
 refine xo 6 ?_;refine XO.ef (Y0 (fun w:Bs=>Value.string (ba w)) signL underlying25 Wn rfl rfl rfl rfl rfl rfl (fun _=>rfl)) ?_
 rintro _ _ ⟨g,rfl,rfl⟩
 have hlt:c<signL.length:=by show c<12;omega
 refine oo 2 ?_;refine ld ?_ (hc:=(Cl.e1 (n:=c) (Sees.lsH _) Zk hlt (by omega)))
 refine ox 2 ?_;refine Zq (q) func210 (Zg results210 rfl) ⟨_,rfl,by rw [gD hlt],rfl⟩
theorem Bk {r:Int}{ts:List Tk}{s:Nat}(h:s≤11):Tc r ts (List.range' s (12 - s))=if rankL.getD s 0=r∧isW (signL.getD s []) ts=true then s else Tc r ts (List.range' (s+1) (12 - (s+1))):=by
 rw [show 12 - s=(12 - (s+1))+1 by omega,List.range'_succ];rfl
theorem Gc {L:List Tk}{n:Nat}{r:Int}: ∀ {l:List Nat},Tc r (L.drop n) l≠0→n<L.length
 | [],h=>absurd rfl h
 |o::l,h=>by
  unfold Tc at h
  split at h
  · rename_i k;exact Pz k.2
  exact Gc h
theorem Si (hr:Has q p (.cells [.slice la L.length lc,.int .i64 (n:Int),.bool bad].toArray 226 (0,0)))(hL:Sees q la (L.flatMap tkC))(hn:L.length≤65536):CallF prog G 207 [.pointer (some ⟨p,0,none⟩),.int .i64 r] (q) (Ret fun v q'=>v= .int .i64 (if bad=true then 0 else Ux r (L.drop n):Nat)∧q'=q):=by
 refine CallF.of func207 ntmps207 rfl (fun F cs=> ?_)
 refine xx 10 ?_;refine X.at (X.loop (fun (s:Nat)=>1≤s∧s≤12∧(bad=false→Ux r (L.drop n)=Tc r (L.drop n) (List.range' s (12 - s)))) (fun s=> [(5,.int .i64 (s:Int)),(0,.pointer (some ⟨p,0,none⟩)),(1,.int .i64 r),(4,.int .i64 0)]) (fun s=>(q++F)) (fun s=>12 - s) (fun s hi_ ih=> ?_) 1 ⟨Nat.le_refl _,by omega,fun _=>rfl⟩) Zd leA
 try dsimp only at hi_ ih⊢
 obtain ⟨hs1,hs2,hsn⟩:=hi_
 refine xx 6 ?_;refine X.part 7 rfl (fun h0=> ?_) (fun h0=> ?_)
 · replace h0:=sp h0
   have hs3:s≤11:=by omega
   refine xo 7 ?_;refine XO.cR call209 (rank_ok (c:=s) (by omega)) ?_
   refine oo 3 ?_;refine Zm [14,5,0,1,4] ?_
   apply Zp 5 19 14 rfl
   · intro g1 M1;have h1:=sp g1
     refine oo 2 ?_;refine XO.cR call210 (sign_ok (c:=s) (by omega)) ?_
     refine XO.cR call147 (Ge (s:=ba (signL.getD s [])) (hr.le leA) (hL.le leA) hn) ?_
     refine oo 1 ?_;exact Zz M1 ⟨Wz g1,Zw⟩
   · intro g1 M1;have h1:=sp g1
     refine oo 5 ?_;exact Zz M1 ⟨Wj g1,Zw⟩
   refine ox 1 ?_;refine X.part 19 rfl (fun h1=> ?_) (fun h1=> ?_)
   · replace h1:=sp h1
     refine xx 6 ?_;refine Zq (q) func207 (Zg results207 rfl) ⟨_,rfl,by rw [if_neg (by rw [h1.2.1];decide),hsn h1.2.1,Bk (by omega),if_pos ⟨h1.1,h1.2.2⟩],rfl⟩
   replace h1:=sp h1
   refine xx 8 ?_;refine X.at (ih (s+1) ⟨by omega,by omega,fun hb=>by rw [hsn hb,Bk (by omega),if_neg (fun k=>by rw [Ud] at h1;simp_all)]⟩ (by omega)) Zd leA
 replace h0:=sp h0
 refine xx 6 ?_;refine Zq (q) func207 (Zg results207 rfl) ⟨_,rfl,by obtain rfl:s=12:=(by omega);cases bad with|true=>rfl|false=>rw [hsn rfl];rfl,rfl⟩
end
section
variable {L:List Tk}{bad b1 b2 b3 b4:Bool}{f g n n1 n2 n3 n4:Nat}{x y:PEx}{nm:ByteArray}{z:Int}{r:Int}{S:Option (PEx×List Tk)}
theorem Out.up {α β:Type}{sp:Option (α×List Tk)}{sq:Option (β×List Tk)}{x:α}{y:β}(h:Out L bad sp x n b1)(h1:bad=false→ ∀ r,sp=some (x,r)→sq=some (y,r))(h2:bad=false→sp=none→sq=none):Out L bad sq y n b1:=by
 rcases h with ⟨e1,e2,e3⟩|⟨e1,e2⟩
 · exact .inl ⟨e1,e2,h1 e2 _ e3⟩
 refine .inr ⟨e1,?_⟩
 cases hb:bad with
 |true=>exact .inl rfl
 |false=>exact .inr (h2 hb (e2.resolve_left (by rw [hb];decide)))
theorem Out.seq {α β γ:Type}{sp:Option (α×List Tk)}{sq:Option (β×List Tk)}{st:Option (γ×List Tk)}{x:α}{y:β}{w:γ}(h:Out L bad sp x n b1)(k:Out L b1 sq y n2 b2)(h1:bad=false→sp=none→st=none)
 (h2:bad=false→sp=some (x,L.drop n)→sq=none→st=none) (h3:bad=false→sp=some (x,L.drop n)→ ∀ r,sq=some (y,r)→st=some (w,r)):Out L bad st w n2 b2:=by
 rcases h with ⟨e1,e2,e3⟩|⟨e1,e2⟩
 · subst e1
   rcases k with ⟨k1,_,k3⟩|⟨k1,k2⟩
   · exact .inl ⟨k1,e2,h3 e2 e3 _ k3⟩
   exact .inr ⟨k1,.inr (h2 e2 e3 (k2.resolve_left (by decide)))⟩
 subst e1
 rcases k with ⟨_,k2,_⟩|⟨k1,_⟩
 · cases k2
 refine .inr ⟨k1,?_⟩
 cases hb:bad with
 |true=>exact .inl rfl
 |false=>exact .inr (h1 hb (e2.resolve_left (by rw [hb];decide)))
theorem Out.isBad {α:Type}{sp:Option (α×List Tk)}{x:α}(h:Out L true sp x n b1):b1=true:=by
 rcases h with ⟨_,h,_⟩|⟨h,_⟩
 · cases h
 exact h
theorem Out.bnd {α β:Type}{A:Option (α×List Tk)}{K:α→List Tk→Option (β×List Tk)}{x:α}{y:β}(h:Out L bad A x n b1)(k:Out L b1 (K x (L.drop n)) y n2 b2):Out L bad (Go.Proofs.YtflkjkhijcdbaaaGreat.bnd A K) y n2 b2:=
 h.seq k (fun _ h=>by rw [h];rfl) (fun _ h k=>by rw [h];exact k) (fun _ h r k=>by rw [h];exact k)
theorem Out.ret {α:Type}{x:α}:Out L bad (some (x,L.drop n)) x n bad:=by cases bad;exact .inl ⟨rfl,rfl,rfl⟩;exact .inr ⟨rfl,.inl rfl⟩
theorem Out.any {α:Type}{x:α}{A:Option (α×List Tk)}:Out L true A x n true:= .inr ⟨rfl,.inl rfl⟩
theorem Mz {s:Bs}(h:isW s (L.drop n)=true):tkW s (L.drop n)=some (L.drop (n+1)):=by unfold tkW;rw [if_pos h,tail_drop]
theorem J2 {s:Bs}(h:isW s (L.drop n)=false):tkW s (L.drop n)=none:=by unfold tkW;rw [if_neg (by rw [h];decide)]
theorem Bx {s:Bs}{ts r:List Tk}:Vy s ts=some ((),r)↔tkW s ts=some r:=by
 unfold Vy tkW;split<;>simp
theorem By {s:Bs}{ts:List Tk}:Vy s ts=none↔tkW s ts=none:=by
 unfold Vy tkW;split<;>simp
theorem un_neg (hw:isW [45] (L.drop n)=true)(ho:Out L false (unS f (L.drop (n+1))) x n2 b2):Out L false (unS (f+1) (L.drop n)) (.mk 4 0 em 0 false 0 [x]) n2 b2:=
 ho.up (fun _ r h=>by simp only [unS,Mz hw,h]) (fun _ h=>by simp only [unS,Mz hw,h])
theorem un_not (h1:isW [45] (L.drop n)=false)(hw:isW [33] (L.drop n)=true)(ho:Out L false (unS f (L.drop (n+1))) x n2 b2):Out L false (unS (f+1) (L.drop n)) (.mk 5 0 em 0 false 0 [x]) n2 b2:=
 ho.up (fun _ r h=>by simp only [unS,J2 h1,Mz hw,h]) (fun _ h=>by simp only [unS,J2 h1,Mz hw,h])
theorem un_prim (h1:bad=true∨isW [45] (L.drop n)=false)(h2:bad=true∨isW [33] (L.drop n)=false)(ho:Out L bad (Uu f (L.drop n)) x n2 b2):Out L bad (unS (f+1) (L.drop n)) x n2 b2:=
 ho.up (fun hb r h=>by simp only [unS,J2 (h1.resolve_left (by rw [hb];decide)),J2 (h2.resolve_left (by rw [hb];decide)),h]) (fun hb h=>by simp only [unS,J2 (h1.resolve_left (by rw [hb];decide)),J2 (h2.resolve_left (by rw [hb];decide)),h])
theorem prim_par (hw:isW [40] (L.drop n)=true)(ho:Out L false (Vq f 1 (L.drop (n+1))) x n2 b2)(h2:Out L b2 (Vy [41] (L.drop n2)) () n3 b3):Out L false (Uu (f+1) (L.drop n)) x n3 b3:=
 ho.seq h2 (fun _ h=>by simp only [Uu,Mz hw,h]) (fun _ h k=>by simp only [Uu,Mz hw,h,By.1 k]) (fun _ h r k=>by simp only [Uu,Mz hw,h,Bx.1 k])
theorem Bq {ts:List Tk}(h: ∀ t r,ts=t::r→t.k≠2):Jg ts=none:=by
 cases ts with
 |nil=>rfl
 |cons t r=>exact if_neg (h t r rfl)
theorem A5 {ts:List Tk}{t:Tk}{r:List Tk}(e:ts=t::r)(h:t.k=2):Jg ts=some (t.n,r):=by subst e;exact if_pos h
theorem prim_num (h1:bad=true∨isW [40] (L.drop n)=false)(hlt:n<L.length)(hk:L[n].k=2)(ho:Out L bad (Jg (L.drop n)) z n2 b2):Out L bad (Uu (f+1) (L.drop n)) (.mk 1 z em 0 false 0 []) n2 b2:=
 ho.up (fun hb r h=>by simp only [Uu,J2 (h1.resolve_left (by rw [hb];decide)),h]) (fun hb h=>by rw [A5 (List.drop_eq_getElem_cons hlt) hk] at h;cases h)
theorem Oq (h1:bad=true∨isW [40] (L.drop n)=false)(hk: ∀ h:n<L.length,L[n].k≠2)(ho:Out L bad (Q3 (L.drop n)) nm n2 b2)(h2:b2=true∨isW [91] (L.drop n2)=false):Out L bad (Uu (f+1) (L.drop n)) (.mk 2 0 nm 0 false 0 []) n2 b2:=by
 have hn:Jg (L.drop n)=none:=Bq fun t r e=>by
  have hlt:n<L.length:=by rcases Nat.lt_or_ge n L.length with h|h;exact h;rw [List.drop_eq_nil_of_le h] at e;cases e
  rw [List.drop_eq_getElem_cons hlt] at e;cases e;exact hk hlt
 rcases ho with ⟨e1,e2,e3⟩|⟨e1,e2⟩
 · refine .inl ⟨e1,e2,?_⟩
   simp only [Uu,J2 (h1.resolve_left (by rw [e2];decide)),hn,e3,J2 (h2.resolve_left (by rw [e1];decide))]
 refine .inr ⟨e1,?_⟩
 cases hb:bad with
 |true=>exact .inl rfl
 |false=>simp only [Uu,J2 (h1.resolve_left (by rw [hb];decide)),hn,e2.resolve_left (by rw [hb];decide)];exact .inr trivial
theorem Oz (h1:bad=true∨isW [40] (L.drop n)=false)(hk: ∀ h:n<L.length,L[n].k≠2)(ho:Out L bad (Q3 (L.drop n)) nm n2 false)(hw:isW [91] (L.drop n2)=true)
 (h3:Out L false (Vq f 1 (L.drop (n2+1))) x n3 b3) (h4:Out L b3 (Vy [93] (L.drop n3)) () n4 b4):Out L bad (Uu (f+1) (L.drop n)) (.mk 3 0 nm 0 false 0 [x]) n4 b4:=by
 have hn:Jg (L.drop n)=none:=Bq fun t r e=>by
  have hlt:n<L.length:=by rcases Nat.lt_or_ge n L.length with h|h;exact h;rw [List.drop_eq_nil_of_le h] at e;cases e
  rw [List.drop_eq_getElem_cons hlt] at e;cases e;exact hk hlt
 rcases ho with ⟨_,e2,e3⟩|⟨e1,_⟩
 · subst e2
   have h1':=h1.resolve_left (by decide)
   exact h3.seq h4 (fun _ h=>by simp only [Uu,J2 h1',hn,e3,Mz hw,h]) (fun _ h k=>by simp only [Uu,J2 h1',hn,e3,Mz hw,h,By.1 k]) (fun _ h r k=>by simp only [Uu,J2 h1',hn,e3,Mz hw,h,Bx.1 k])
 cases e1
theorem expr_un (ho:Out L bad (unS f (L.drop n)) x n2 b2):Out L bad (Vq (f+1) 6 (L.drop n)) x n2 b2:=
 ho.up (fun _ r h=>by simp only [Vq,if_pos (show (5:Int)<6 by decide),h]) (fun _ h=>by simp only [Vq,if_pos (show (5:Int)<6 by decide),h])
def More (L:List Tk)(bad:Bool)(S:Option (PEx×List Tk))(g:Nat)(r:Int)(x:PEx)(n:Nat)(b:Bool):Prop:=(b=false∧bad=false∧S=Mv g r x (L.drop n))∨(b=true∧(bad=true∨S=none))
theorem More.first (hr:r≤5)(ho:Out L bad (Vq f (r+1) (L.drop n)) x n1 b1):More L bad (Vq (f+1) r (L.drop n)) f r x n1 b1:=by
 rcases ho with ⟨e1,e2,e3⟩|⟨e1,e2⟩
 · exact .inl ⟨e1,e2,by simp only [Vq,if_neg (show ¬ (5:Int)<r by omega),e3]⟩
 exact .inr ⟨e1,e2.imp id fun h=>by simp only [Vq,if_neg (show ¬ (5:Int)<r by omega),h]⟩
theorem More.over (h:More L bad S (g+1) r x n1 b1)(h0:b1=true∨Ux r (L.drop n1)=0):Out L bad S x n1 b1:=by
 rcases h with ⟨e1,e2,e3⟩|⟨e1,e2⟩
 · exact .inl ⟨e1,e2,by rw [e3];simp only [Mv,if_pos (h0.resolve_left (by rw [e1];decide))]⟩
 exact .inr ⟨e1,e2⟩
theorem More.go (h:More L bad S (g+1) r x n1 false)(h0:Ux r (L.drop n1)≠0)(ho:Out L false (Vq g (r+1) (L.drop (n1+1))) y n2 b2)(h3:r≠3):More L bad S g r (.mk 6 0 em 0 false (Ux r (L.drop n1)) [x,y]) n2 b2:=by
 rcases h with ⟨_,e2,e3⟩|⟨e1,_⟩
 · rcases ho with ⟨k1,_,k3⟩|⟨k1,k2⟩
   · exact .inl ⟨k1,e2,by rw [e3];simp only [Mv,if_neg h0,tail_drop,k3,if_neg h3]⟩
   exact .inr ⟨k1,.inr (by rw [e3];simp only [Mv,if_neg h0,tail_drop,k2.resolve_left (by decide)])⟩
 cases e1
theorem More.three (h:More L bad S (g+1) 3 x n1 false)(h0:Ux 3 (L.drop n1)≠0)(ho:Out L false (Vq g 4 (L.drop (n1+1))) y n2 b2):Out L bad S (.mk 6 0 em 0 false (Ux 3 (L.drop n1)) [x,y]) n2 b2:=by
 rcases h with ⟨_,e2,e3⟩|⟨e1,_⟩
 · rcases ho with ⟨k1,_,k3⟩|⟨k1,k2⟩
   · exact .inl ⟨k1,e2,by rw [e3];simp only [Mv,if_neg h0,tail_drop,show ((3:Int)+1)=4 from rfl,k3,if_pos]⟩
   exact .inr ⟨k1,.inr (by rw [e3];simp only [Mv,if_neg h0,tail_drop,show ((3:Int)+1)=4 from rfl,k2.resolve_left (by decide)])⟩
 cases e1
end
def Ft (G:World)(la:Option Addr)(lc:Nat)(L:List Tk)(f:Nat):Prop:= ∀ {p n:Nat} {q:List HP} {bad:Bool} (r:Nat),Sees q la (L.flatMap tkC)→1≤r→r≤6→n≤L.length→10*(L.length - n)+9≤f+r→
 CallF prog G 201 [.pointer (some ⟨p,0,none⟩),.int .i64 (r:Int)] (rdH p la lc L n bad::q) (Ret fun v q'=> ∃ (e:Ex) (n':Nat) (bad':Bool),v= .agg (exC e).toArray∧q'=rdH p la lc L n' bad'::exM e::q∧n≤n'∧n'≤L.length∧Out L bad (Vq f r (L.drop n)) e.er n' bad')
def RdUn (G:World)(la:Option Addr)(lc:Nat)(L:List Tk)(f:Nat):Prop:= ∀ {p n:Nat} {q:List HP} {bad:Bool},Sees q la (L.flatMap tkC)→n≤L.length→10*(L.length - n)+2≤f→
 CallF prog G 206 [.pointer (some ⟨p,0,none⟩)] (rdH p la lc L n bad::q) (Ret fun v q'=> ∃ (e:Ex) (n':Nat) (bad':Bool),v= .agg (exC e).toArray∧q'=rdH p la lc L n' bad'::exM e::q∧n≤n'∧n'≤L.length∧Out L bad (unS f (L.drop n)) e.er n' bad')
def RdPrim (G:World)(la:Option Addr)(lc:Nat)(L:List Tk)(f:Nat):Prop:= ∀ {p n:Nat} {q:List HP} {bad:Bool},Sees q la (L.flatMap tkC)→n≤L.length→10*(L.length - n)+1≤f→
 CallF prog G 208 [.pointer (some ⟨p,0,none⟩)] (rdH p la lc L n bad::q) (Ret fun v q'=> ∃ (e:Ex) (n':Nat) (bad':Bool),v= .agg (exC e).toArray∧q'=rdH p la lc L n' bad'::exM e::q∧n≤n'∧n'≤L.length∧Out L bad (Uu f (L.drop n)) e.er n' bad')
theorem Um:(prog.info? 124).map (fun i=>(i.zero,i.size,i.bytes))=some (some (.agg #[.int .i64 0,.int .i64 0,.string ⟨#[]⟩,.int .i64 0,.bool false,.int .i64 0,.slice none 0 0]),7,80):=by kernel_rfl
section
variable {G:World}{q pre:List HP}{a la A:Option Addr}{c lc p n:Nat}{bad:Bool}{s:ByteArray}{L:List Tk}{r:Int}
variable {f:Nat}
theorem un_step (IHu:RdUn G la lc L f)(IHp:RdPrim G la lc L f)(hL:Sees q la (L.flatMap tkC))(hn:L.length≤65536)(hnL:n≤L.length)(hfu:10*(L.length - n)+2≤f+1):CallF prog G 206 [.pointer (some ⟨p,0,none⟩)] (rdH p la lc L n bad::q) (Ret fun v q'=> ∃ (e:Ex) (n':Nat) (bad':Bool),v= .agg (exC e).toArray∧q'=rdH p la lc L n' bad'::exM e::q∧n≤n'∧n'≤L.length∧Out L bad (unS (f+1) (L.drop n)) e.er n' bad'):=by
 refine CallF.of func206 ntmps206 rfl (fun F cs=> ?_)
 refine xo 2 ?_;refine XO.al zeroValue124 fun n1=> ?_
 refine oo 5 ?_;refine Zf call150 leA (Uv (w:= [45]) (hL.le leA) hn) ?_
 rintro _ _ (⟨rfl,⟨hb1,hw1,hlt1⟩,rfl⟩|⟨rfl,hw1,rfl⟩)
 · refine oo 5 ?_;refine Zf call206 leA (IHu (hL.le leA) (by omega) (by omega)) ?_
   rintro _ _ ⟨⟨k1,z1,s1,l1,o1,p1,y1,u1,w1⟩,m2,b2,rfl,rfl,hm2,hM2,ho2⟩
   refine XO.ef (Yj exC underlying122 Um rfl rfl Z4 rfl) ?_;rintro _ _ ⟨g,rfl,rfl⟩
   refine oo 1 ?_;refine stA ?_;refine ox 1 ?_
   subst hb1
   refine Pe (kd:=4) (n:=0) (nm:=em) (slot:=0) (loc:=false) (op:=0) ?_
   refine Zq (rdH p la lc L m2 b2::exM (.mk 4 0 em 0 false 0 [(.mk k1 z1 s1 l1 o1 p1 y1 u1 w1)] (some ⟨g,0,none⟩) 1)::q) func206 (rA_ results206) ⟨_,rfl,.mk 4 0 em 0 false 0 [(.mk k1 z1 s1 l1 o1 p1 y1 u1 w1)] (some ⟨g,0,none⟩) 1,m2,b2,rfl,rfl,by omega,hM2,un_neg hw1 ho2⟩
 refine oo 7 ?_;refine Zf call150 leA (Uv (w:= [33]) (hL.le leA) hn) ?_
 rintro _ _ (⟨rfl,⟨hb2,hw2,hlt2⟩,rfl⟩|⟨rfl,hw2,rfl⟩)
 · refine oo 5 ?_;refine Zf call206 leA (IHu (hL.le leA) (by omega) (by omega)) ?_
   rintro _ _ ⟨⟨k1,z1,s1,l1,o1,p1,y1,u1,w1⟩,m2,b2,rfl,rfl,hm2,hM2,ho2⟩
   refine XO.ef (Yj exC underlying122 Um rfl rfl Z4 rfl) ?_;rintro _ _ ⟨g,rfl,rfl⟩
   refine oo 1 ?_;refine stA ?_;refine ox 1 ?_
   subst hb2
   replace hw1:=hw1.resolve_left (by decide)
   refine Pe (kd:=5) (n:=0) (nm:=em) (slot:=0) (loc:=false) (op:=0) ?_
   refine Zq (rdH p la lc L m2 b2::exM (.mk 5 0 em 0 false 0 [(.mk k1 z1 s1 l1 o1 p1 y1 u1 w1)] (some ⟨g,0,none⟩) 1)::q) func206 (rA_ results206) ⟨_,rfl,.mk 5 0 em 0 false 0 [(.mk k1 z1 s1 l1 o1 p1 y1 u1 w1)] (some ⟨g,0,none⟩) 1,m2,b2,rfl,rfl,by omega,hM2,un_not hw1 hw2 ho2⟩
 refine oo 6 ?_;refine Zf call208 leA (IHp (hL.le leA) (by omega) (by omega)) ?_
 rintro _ _ ⟨⟨k1,z1,s1,l1,o1,p1,y1,u1,w1⟩,m2,b2,rfl,rfl,hm2,hM2,ho2⟩
 refine stA ?_;refine ox 1 ?_;refine Zq (rdH p la lc L m2 b2::exM (.mk k1 z1 s1 l1 o1 p1 y1 u1 w1)::q) func206 (rA_ results206) ⟨_,rfl,(.mk k1 z1 s1 l1 o1 p1 y1 u1 w1),m2,b2,rfl,rfl,hm2,hM2,un_prim hw1 hw2 ho2⟩
theorem I9 (IHe:Ft G la lc L f)(hL:Sees q la (L.flatMap tkC))(hn:L.length≤65536)(hnL:n≤L.length)(hfu:10*(L.length - n)+1≤f+1):CallF prog G 208 [.pointer (some ⟨p,0,none⟩)] (rdH p la lc L n bad::q) (Ret fun v q'=> ∃ (e:Ex) (n':Nat) (bad':Bool),v= .agg (exC e).toArray∧q'=rdH p la lc L n' bad'::exM e::q∧n≤n'∧n'≤L.length∧Out L bad (Uu (f+1) (L.drop n)) e.er n' bad'):=by
 refine CallF.of func208 ntmps208 rfl (fun F cs=> ?_)
 have hlen:=Zv (f:=tkC) (sz:=5) (fun _=>rfl) L
 refine xo 2 ?_;refine XO.al zeroValue124 fun n1=> ?_
 refine oo 5 ?_;refine Zf call150 leA (Uv (w:= [40]) (hL.le leA) hn) ?_
 rintro _ _ (⟨rfl,⟨hb1,hw1,hlt1⟩,rfl⟩|⟨rfl,hw1,rfl⟩)
 · refine oo 5 ?_;refine Zf call201 leA (IHe 1 (hL.le leA) (by omega) (by omega) (by omega) (by omega)) ?_
   rintro _ _ ⟨⟨k1,z1,s1,l1,o1,p1,y1,u1,w1⟩,m3,b3,rfl,rfl,hm3,hM3,ho3⟩
   refine XO.al zeroValue124 fun n2=> ?_
   refine stA ?_;refine oo 4 ?_;refine Zf call149 leA (Y1 (w:= [41]) (hL.le leA) hn hM3) ?_
   rintro _ _ ⟨m4,b4,rfl,rfl,hm4,hM4,ho4⟩
   refine oo 3 ?_;refine ldA ?_;refine stA ?_;refine ox 1 ?_
   subst hb1
   refine Zq (rdH p la lc L m4 b4::exM (.mk k1 z1 s1 l1 o1 p1 y1 u1 w1)::q) func208 (rA_ results208) ⟨_,rfl,(.mk k1 z1 s1 l1 o1 p1 y1 u1 w1),m4,b4,rfl,rfl,by omega,hM4,prim_par hw1 ho3 ho4⟩
 refine ox 5 ?_;refine drw ?_;refine dl [0,1,2] 3 ?_;refine dl [4,5,6] 7 ?_;refine dd [8,9,10] ?_;refine XD.part 22 rfl (fun h1=> ?_) (fun h1=> ?_)
 focus
  replace h1:=sp h1
  refine dl [11,12,13] 14 ?_;refine dl [15,16,17] 18 ?_;refine Km hL (by rw [hlen];omega) (fun b1 o1 e1=> ?_)
  have hs1:=hL;rw [e1] at hs1
  refine XD.know 26 (.slice (some ⟨b1,o1,none⟩) L.length lc) rfl (by rw [e1]) ?_
  refine dl [19,20] 21 ?_;refine dd [22,23] ?_;refine XD.nil ?_;refine X.part 35 rfl (fun h2=> ?_) (fun h2=> ?_)
  · replace h2:=sp h2
    refine xo 4 ?_;refine Zf call151 leA (J4 (hL.le leA) hn hnL) ?_;rintro _ _ ⟨z,m2,b2,rfl,rfl,⟨hm2,_⟩,hM2,ho2⟩
    refine oo 1 ?_;refine stA ?_;refine ox 1 ?_;refine X.le (Le.ex0 1 z em 0 false 0) ?_;refine Zq (rdH p la lc L m2 b2::exM (.mk 1 z em 0 false 0 [] none 0)::q) func208 (rA_ results208) ⟨_,rfl,.mk 1 z em 0 false 0 [] none 0,m2,b2,rfl,rfl,hm2,hM2,prim_num hw1 (by omega) h2 ho2⟩
  replace h2:=sp h2
  refine xo 5 ?_;refine Zf call148 leA (Jh (hL.le leA) hn hnL) ?_;rintro _ _ ⟨nm,m2,b2,rfl,rfl,⟨hm2,_⟩,hM2,ho2⟩
  refine oo 1 ?_;refine XO.al zeroValue124 fun n2=> ?_
  refine stA ?_;refine oo 5 ?_
  have hk: ∀ h:n<L.length,L[n].k≠2:=fun _=>h2
 rotate_left
 focus
  replace h1:=sp h1
  refine dd [11,12,13,14,15,16,17,18,19,20,21,22,23] ?_;refine XD.nil ?_;refine xo 5 ?_;refine Zf call148 leA (Jh (hL.le leA) hn hnL) ?_;rintro _ _ ⟨nm,m2,b2,rfl,rfl,⟨hm2,_⟩,hM2,ho2⟩
  refine oo 1 ?_;refine XO.al zeroValue124 fun n2=> ?_
  refine stA ?_;refine oo 5 ?_
  have hk: ∀ h:n<L.length,L[n].k≠2:=fun h=>absurd h (by omega)
 all_goals
  refine Zf call150 leA (Uv (w:= [91]) (hL.le leA) hn) ?_
  rintro _ _ (⟨rfl,⟨hb2,hw2,hlt2⟩,rfl⟩|⟨rfl,hw2,rfl⟩)
  · refine oo 5 ?_;refine st ?_;refine oo 4 ?_
    subst hb2
    refine Zf call201 leA (IHe 1 (hL.le leA) (by omega) (by omega) (by omega) (by omega)) ?_
    rintro _ _ ⟨⟨k1,z1,s1,l1,o1,p1,y1,u1,w1⟩,m3,b3,rfl,rfl,hm3,hM3,ho3⟩
    refine XO.ef (Yj exC underlying122 Um rfl rfl Z4 rfl) ?_;rintro _ _ ⟨g,rfl,rfl⟩
    refine oo 1 ?_;refine st ?_;refine oo 3 ?_;refine Zf call149 leA (Y1 (w:= [93]) (hL.le leA) hn hM3) ?_
    rintro _ _ ⟨m4,b4,rfl,rfl,hm4,hM4,ho4⟩
    refine oo 3 ?_;refine ldA ?_;refine stA ?_;refine ox 1 ?_;refine Pe (kd:=3) (n:=0) (nm:=nm) (slot:=0) (loc:=false) (op:=0) ?_
    refine Zq (rdH p la lc L m4 b4::exM (.mk 3 0 nm 0 false 0 [(.mk k1 z1 s1 l1 o1 p1 y1 u1 w1)] (some ⟨g,0,none⟩) 1)::q) func208 (rA_ results208) ⟨_,rfl,.mk 3 0 nm 0 false 0 [(.mk k1 z1 s1 l1 o1 p1 y1 u1 w1)] (some ⟨g,0,none⟩) 1,m4,b4,rfl,rfl,by omega,hM4,Oz hw1 hk ho2 hw2 ho3 ho4⟩
  refine oo 5 ?_;refine ldA ?_;refine stA ?_;refine ox 1 ?_;refine X.le (Le.ex0 2 0 nm 0 false 0) ?_;refine Zq (rdH p la lc L m2 b2::exM (.mk 2 0 nm 0 false 0 [] none 0)::q) func208 (rA_ results208) ⟨_,rfl,.mk 2 0 nm 0 false 0 [] none 0,m2,b2,rfl,rfl,hm2,hM2,Oq hw1 hk ho2 hw2⟩
set_option maxHeartbeats 1000000 in
theorem Ou {r:Nat}(IHu:RdUn G la lc L f)(IHe: ∀ g,g≤f→Ft G la lc L g)(hL:Sees q la (L.flatMap tkC))(hn:L.length≤65536)(hnL:n≤L.length)(h1r:1≤r)(h6r:r≤6)(hfu:10*(L.length - n)+9≤f+1+r):CallF prog G 201 [.pointer (some ⟨p,0,none⟩),.int .i64 (r:Int)] (rdH p la lc L n bad::q) (Ret fun v q'=> ∃ (e:Ex) (n':Nat) (bad':Bool),v= .agg (exC e).toArray∧q'=rdH p la lc L n' bad'::exM e::q∧n≤n'∧n'≤L.length∧Out L bad (Vq (f+1) r (L.drop n)) e.er n' bad'):=by
 refine CallF.of func201 ntmps201 rfl (fun F cs=> ?_)
 refine xo 2 ?_;refine XO.al zeroValue124 fun n1=> ?_
 refine ox 7 ?_;refine X.part 8 rfl (fun h0=> ?_) (fun h0=> ?_)
 · replace h0:=sp h0;obtain rfl:r=6:=by omega
   refine xo 4 ?_;refine Zf call206 leA (IHu (hL.le leA) (by omega) (by omega)) ?_
   rintro _ _ ⟨⟨k1,z1,s1,l1,o1,p1,y1,u1,w1⟩,m2,b2,rfl,rfl,hm2,hM2,ho2⟩
   refine stA ?_;refine ox 1 ?_;refine Zq (rdH p la lc L m2 b2::exM (.mk k1 z1 s1 l1 o1 p1 y1 u1 w1)::q) func201 (rA_ results201) ⟨_,rfl,(.mk k1 z1 s1 l1 o1 p1 y1 u1 w1),m2,b2,rfl,rfl,hm2,hM2,expr_un ho2⟩
 replace h0:=sp h0;have h5r:r≤5:=by omega
 refine xo 7 ?_;refine Zf call201 leA (IHe f (Nat.le_refl _) (r+1) (hL.le leA) (by omega) (by omega) (by omega) (by omega)) ?_
 rintro _ _ ⟨⟨k1,z1,s1,l1,o1,p1,y1,u1,w1⟩,m2,b2,rfl,rfl,hm2,hM2,ho2⟩
 refine XO.al zeroValue124 fun n2=> ?_
 refine stA ?_;refine ox 3 ?_
 have hS:=More.first (by omega) ho2
 generalize Vq (f+1) (r:Int) (L.drop n)=S at hS⊢
 refine X.at (X.loop (fun (s:Ex×Nat×Bool×Nat)=>n≤s.2.1∧s.2.1≤L.length∧s.2.2.2≤f∧10*(L.length - s.2.1)+1≤s.2.2.2∧More L bad S s.2.2.2 r s.1.er s.2.1 s.2.2.1) (fun s=> [(0,.pointer (some ⟨p,0,none⟩)),(1,.int .i64 (r:Int)),(4,.pointer (some ⟨n1,0,none⟩)),(5,.pointer (some ⟨n2,0,none⟩))]) (fun s=>rdH p la lc L s.2.1 s.2.2.1::pto n2 (.cells (exC s.1).toArray 124 (0,0))::pto n1 (.cells [.int .i64 0,.int .i64 0,.string ⟨#[]⟩,.int .i64 0,.bool false,.int .i64 0,.slice none 0 0].toArray 124 (0,0))::exM s.1::(q++F)) (fun s=>L.length - s.2.1) (fun s hi_ ih=> ?_) ((.mk k1 z1 s1 l1 o1 p1 y1 u1 w1),m2,b2,f) ⟨hm2,hM2,Nat.le_refl _,by dsimp only;omega,hS⟩) Zd leA
 try dsimp only at hi_ ih⊢
 obtain ⟨hi1,hi2,hi3,hi4,hi5⟩:=hi_
 obtain ⟨⟨k1,z1,s1,l1,o1,p1,y1,u1,w1⟩,m1,b1,g⟩:=s;dsimp only at*;clear ho2 hS
 obtain ⟨g,rfl⟩: ∃ g2,g=g2+1:=⟨g - 1,by omega⟩
 refine xo 5 ?_;refine XO.cR call207 (Si (n:=m1) (bad:=b1) (r:=(r:Int)) Qt (hL.le leA) hn) ?_
 refine ox 2 ?_;refine X.part 18 rfl (fun h1=> ?_) (fun h1=> ?_)
 · replace h1:=sp h1;obtain rfl:b1=false:=by cases b1 with|false=>rfl|true=>(rw [if_pos rfl] at h1;exact absurd h1 (by decide))
   replace h1:Ux r (L.drop m1)≠0:=fun k=>by rw [if_neg (by decide),k] at h1;exact absurd h1 (by decide)
   have hlt:=Gc h1
   refine xo 7 ?_;refine XO.cR call207 (Si (n:=m1) (bad:=false) (r:=(r:Int)) Qt (hL.le leA) hn) ?_
   refine XO.know 21 (.int .i64 (Ux r (L.drop m1):Nat)) rfl (rfl) ?_;refine ol 7 ?_;refine oo 3 ?_;refine st ?_;refine ox 2 ?_;refine drw ?_;refine dd [0] ?_;refine Ji 1 ?_;refine dd [2,3,4] ?_;refine Y5 5 call201 leA (IHe g (by omega) (r+1) (n:=m1+1) (bad:=false) (hL.le leA) (by omega) (by omega) (by omega) (by omega)) ?_
   rintro _ _ ⟨⟨k2,z2,s2,l2,o2,p2,y2,u2,w2⟩,m3,b3,rfl,rfl,hm3,hM3,ho3⟩
   refine ⟨hlA,?_⟩
   refine XD.ef 6 rfl (Ef.litR2 (u:=(.mk k1 z1 s1 l1 o1 p1 y1 u1 w1)) (v:=(.mk k2 z2 s2 l2 o2 p2 y2 u2 w2)) exC underlying122 Um rfl rfl Z4 rfl rfl) ?_
   rintro _ _ ⟨g3,rfl,rfl⟩
   refine ⟨trivial,?_⟩
   refine dd [7] ?_;refine V1 8 ?_;refine XD.nil ?_;refine xx 5 ?_;refine X.fzE2 (kd:=6) (n:=0) (nm:=em) (slot:=0) (loc:=false) (op:=(Ux r (L.drop m1):Nat)) ?_
   refine X.part 38 rfl (fun h3=> ?_) (fun h3=> ?_)
   · replace h3:=sp h3;obtain rfl:r=3:=by omega
     refine xo 3 ?_;refine ldA ?_;refine stA ?_;refine ox 1 ?_;refine Zq (rdH p la lc L m3 b3::exM (.mk 6 0 em 0 false (Ux (3:Nat) (L.drop m1):Nat) [(.mk k1 z1 s1 l1 o1 p1 y1 u1 w1),(.mk k2 z2 s2 l2 o2 p2 y2 u2 w2)] (some ⟨g3,0,none⟩) 2)::q) func201 (rA_ results201) ⟨_,rfl,(.mk 6 0 em 0 false (Ux (3:Nat) (L.drop m1):Nat) [(.mk k1 z1 s1 l1 o1 p1 y1 u1 w1),(.mk k2 z2 s2 l2 o2 p2 y2 u2 w2)] (some ⟨g3,0,none⟩) 2),m3,b3,rfl,rfl,by omega,hM3,hi5.three h1 ho3⟩
   replace h3:=sp h3
   refine xx 3 ?_;refine X.at (ih ((.mk 6 0 em 0 false (Ux r (L.drop m1):Nat) [(.mk k1 z1 s1 l1 o1 p1 y1 u1 w1),(.mk k2 z2 s2 l2 o2 p2 y2 u2 w2)] (some ⟨g3,0,none⟩) 2),m3,b3,g) ⟨by dsimp only;omega,hM3,by dsimp only;omega,by dsimp only;omega,hi5.go h1 ho3 (by omega)⟩ (by dsimp only;omega)) Zd leA
 replace h1:=sp h1
 refine xo 4 ?_;refine ldA ?_;refine stA ?_;refine ox 1 ?_;refine Zq (rdH p la lc L m1 b1::exM (.mk k1 z1 s1 l1 o1 p1 y1 u1 w1)::q) func201 (rA_ results201) ⟨_,rfl,(.mk k1 z1 s1 l1 o1 p1 y1 u1 w1),m1,b1,rfl,rfl,hi1,hi2,hi5.over (by cases b1 with|true=>exact .inl rfl|false=>rw [if_neg (by decide)] at h1;exact .inr (by omega))⟩
theorem I4 {G:World}{la:Option Addr}{lc:Nat}{L:List Tk}(hn:L.length≤65536): ∀ f,Ft G la lc L f∧RdUn G la lc L f∧RdPrim G la lc L f:=by
 intro f
 induction f using Nat.strongRecOn with
 |ind f ih=>
  cases f with
  |zero=>exact ⟨fun r hL h1 h6 hnL hfu=>by omega,fun hL hnL hfu=>by omega,fun hL hnL hfu=>by omega⟩
  |succ f=>
   have h:=ih f (Nat.lt_succ_self _)
   exact ⟨fun r hL h1 h6 hnL hfu=>Ou h.2.1 (fun g hg=>(ih g (by omega)).1) hL hn hnL h1 h6 hfu,fun hL hnL hfu=>un_step h.2.1 h.2.2 hL hn hnL hfu,fun hL hnL hfu=>I9 h.1 hL hn hnL hfu⟩
end
end Go.Proofs.YtflkjkhijcdbaaaGreat
