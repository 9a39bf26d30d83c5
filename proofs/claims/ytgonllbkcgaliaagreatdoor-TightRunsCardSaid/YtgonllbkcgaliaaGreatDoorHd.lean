/- Contracts of functions, proved by walking their code. -/
import Derived.Test.YtgonllbkcgaliaaGreatDoorHc
import Derived.Test.YtgonllbkcgaliaaGreatDoorRows
import Derived.KernelRfl
set_option maxRecDepth 100000
set_option linter.unusedVariables false
set_option linter.unusedSimpArgs false
namespace Go.Proofs.YtgonllbkcgaliaaGreatDoor
open Go Go.RowKit Wx Go.Proofs.Tryz
def tbl:Tr:=(.n none (.n none (.n (some (.mk (.int .i64) false 1 none)) (.n none (.n none (.n none (.n none (.n (some (.mk .ptr false 1 none)) .e .e) (.n (some (.mk (.int .i64) false 1 none)) .e .e)) (.n none .e (.n (some (.mk (.slc 326) false 1 none)) .e .e))) .e) (.n (some (.mk (.slc 3) false 1 none)) (.n none (.n none .e (.n (some (.mk (.strct [(59,0),(197,13),(2,14),(3,15),(3,16),(87,17),(3,19)]) true 20 (some ([(0,13),(13,1),(14,1),(15,1),(16,1),(17,2),(19,1)], [.slice none 0 0,.slice none 0 0,.int .i64 0,.int .i64 0,.slice none 0 0,.slice none 0 0,.int .i64 0,.int .i64 0,.slice none 0 0,.slice none 0 0,.slice none 0 0,.slice none 0 0,.slice none 0 0,.slice none 0 0,.int .i64 0,.int .i64 0,.int .i64 0,.int .i64 0,.int .i64 0,.int .i64 0])))) .e .e)) (.n (some (.mk (.slc 217) false 1 none)) (.n none (.n (some (.mk .fn false 1 none)) .e .e) .e) .e)) (.n (some (.mk (.slc 9) false 1 none)) (.n (some (.mk (.strct [(3,0),(3,1)]) true 2 (some ([(0,1),(1,1)], [.int .i64 0,.int .i64 0])))) .e (.n (some (.mk (.strct [(211,0),(2,1),(9,2),(3,3),(4,4),(212,5),(213,6)]) true 7 (some ([(0,1),(1,1),(2,1),(3,1),(4,1),(5,1),(6,1)], [.int .i64 0,.int .i64 0,.string ⟨#[]⟩,.int .i64 0,.bool false,.int .i64 0,.slice none 0 0])))) .e .e)) .e))) (.n none (.n none (.n (some (.mk (.int .i64) false 1 none)) (.n (some (.mk (.strct [(3,0),(3,1),(22,2),(22,3)]) true 4 (some ([(0,1),(1,1),(2,1),(3,1)], [.int .i64 0,.int .i64 0,.slice none 0 0,.slice none 0 0])))) .e .e) .e) (.n (some (.mk (.strct [(43,0),(45,1),(48,4),(2,8),(49,9)]) true 10 (some ([(0,1),(1,3),(4,4),(8,1),(9,1)], [.int .i64 0,.int .i64 0,.bool false,.int .i64 0,.int .i64 0,.int .i64 0,.int .i64 0,.int .i64 0,.int .i64 0,.int .i64 0])))) (.n none .e (.n (some (.mk (.int .i64) false 1 none)) .e .e)) (.n (some (.mk .ptr false 1 none)) .e .e))) (.n none (.n (some (.mk (.int .i64) false 1 none)) (.n none (.n (some (.mk (.strct [(32,0),(23,1)]) true 2 (some ([(0,1),(1,1)], [.slice none 0 0,.slice none 0 0])))) .e .e) .e) (.n none (.n (some (.mk .ptr false 1 none)) .e .e) .e)) (.n (some (.mk (.strct [(22,0),(23,1),(3,2),(3,3),(23,4),(54,5),(3,6),(3,7),(57,8)]) true 13 (some ([(0,1),(1,1),(2,1),(3,1),(4,1),(5,1),(6,1),(7,1),(8,5)], [.slice none 0 0,.slice none 0 0,.int .i64 0,.int .i64 0,.slice none 0 0,.slice none 0 0,.int .i64 0,.int .i64 0,.slice none 0 0,.slice none 0 0,.slice none 0 0,.slice none 0 0,.slice none 0 0])))) (.n none (.n (some (.mk (.strct [(49,0)]) true 1 (some ([(0,1)], [.int .i64 0])))) .e .e) .e) .e)))) (.n (some (.mk (.int .u8) false 1 none)) (.n (some (.mk .str false 1 none)) (.n none (.n none (.n (some (.mk .other true 2 none)) .e (.n (some (.mk (.strct [(191,0),(9,1),(2,2),(87,3)]) true 5 (some ([(0,1),(1,1),(2,1),(3,2)], [.int .i64 0,.string ⟨#[]⟩,.int .i64 0,.int .i64 0,.int .i64 0])))) .e .e)) .e) (.n (some (.mk (.int .i64) false 1 none)) .e (.n none (.n none (.n (some (.mk (.strct [(9,0),(3,1)]) true 2 (some ([(0,1),(1,1)], [.string ⟨#[]⟩,.int .i64 0])))) .e .e) .e) (.n (some (.mk .fn false 1 none)) .e .e)))) (.n none (.n none .e (.n (some (.mk (.strct [(9,0),(3,1),(103,2)]) true 3 (some ([(0,1),(1,1),(2,1)], [.string ⟨#[]⟩,.int .i64 0,.slice none 0 0])))) (.n (some (.mk .fn false 1 none)) .e .e) .e)) (.n (some (.mk (.strct [(55,0),(55,1),(55,2),(55,3),(55,4)]) true 5 none)) (.n none .e (.n (some (.mk (.strct [(210,0),(87,1),(9,3),(9,4),(215,5),(215,12),(103,19),(103,20),(3,21),(3,22),(3,23),(4,24)]) true 25 (some ([(0,1),(1,2),(3,1),(4,1),(5,7),(12,7),(19,1),(20,1),(21,1),(22,1),(23,1),(24,1)], [.int .i64 0,.int .i64 0,.int .i64 0,.string ⟨#[]⟩,.string ⟨#[]⟩,.int .i64 0,.int .i64 0,.string ⟨#[]⟩,.int .i64 0,.bool false,.int .i64 0,.slice none 0 0,.int .i64 0,.int .i64 0,.string ⟨#[]⟩,.int .i64 0,.bool false,.int .i64 0,.slice none 0 0,.slice none 0 0,.slice none 0 0,.int .i64 0,.int .i64 0,.int .i64 0,.bool false])))) .e .e)) (.n none (.n (some (.mk (.strct [(180,0),(3,1),(4,2)]) true 3 (some ([(0,1),(1,1),(2,1)], [.slice none 0 0,.int .i64 0,.bool false])))) .e .e) (.n (some (.mk .other true 70 none)) .e .e))))) (.n none (.n none (.n none (.n none .e (.n (some (.mk (.slc 204) false 1 none)) .e .e)) (.n (some (.mk .fn false 1 none)) .e .e)) (.n (some (.mk (.slc 65) false 1 none)) (.n none .e (.n (some (.mk (.slc 215) false 1 none)) .e .e)) .e)) (.n none (.n (some (.mk (.strct [(3,0),(4,1),(2,2)]) true 3 (some ([(0,1),(1,1),(2,1)], [.int .i64 0,.bool false,.int .i64 0])))) .e .e) (.n none (.n none (.n (some (.mk .fn false 1 none)) .e .e) (.n (some (.mk (.slc 23) false 1 none)) .e .e)) .e))))) (.n (some (.mk (.int .i64) false 1 none)) (.n (some (.mk .bool false 1 none)) (.n none (.n none (.n (some (.mk (.slc 48) false 1 none)) .e (.n (some (.mk (.strct [(34,0),(23,4)]) true 5 (some ([(0,4),(4,1)], [.string ⟨#[]⟩,.int .i64 0,.slice none 0 0,.slice none 0 0,.slice none 0 0])))) .e .e)) (.n (some (.mk (.strct [(46,0),(3,1),(3,2),(2,3)]) true 4 (some ([(0,1),(1,1),(2,1),(3,1)], [.int .i64 0,.int .i64 0,.int .i64 0,.int .i64 0])))) .e .e)) (.n (some (.mk (.slc 34) false 1 none)) (.n none (.n none (.n (some (.mk .other true 3 none)) .e .e) (.n (some (.mk (.slc 103) false 1 none)) .e .e)) .e) (.n none .e (.n (some (.mk (.strct [(22,0)]) true 1 (some ([(0,1)], [.slice none 0 0])))) .e (.n (some (.mk (.strct [(3,0),(3,1)]) true 2 (some ([(0,1),(1,1)], [.int .i64 0,.int .i64 0])))) .e .e))))) (.n none (.n none (.n none .e (.n none (.n (some (.mk .fn false 1 none)) .e .e) (.n (some (.mk (.strct [(59,0),(22,13),(23,14),(221,15),(222,16),(23,17),(223,18),(226,19)]) true 23 (some ([(0,13),(13,1),(14,1),(15,1),(16,1),(17,1),(18,1),(19,4)], [.slice none 0 0,.slice none 0 0,.int .i64 0,.int .i64 0,.slice none 0 0,.slice none 0 0,.int .i64 0,.int .i64 0,.slice none 0 0,.slice none 0 0,.slice none 0 0,.slice none 0 0,.slice none 0 0,.slice none 0 0,.slice none 0 0,.slice none 0 0,.slice none 0 0,.slice none 0 0,.slice none 0 0,.int .i64 0,.int .i64 0,.int .i64 0,.int .i64 0])))) .e .e))) (.n none (.n none .e (.n (some (.mk (.int .i64) false 1 none)) .e .e)) (.n none (.n (some (.mk (.slc 193) false 1 none)) .e .e) .e))) (.n none (.n none (.n none .e (.n (some (.mk (.strct [(9,0),(3,1),(3,2)]) true 3 (some ([(0,1),(1,1),(2,1)], [.string ⟨#[]⟩,.int .i64 0,.int .i64 0])))) .e .e)) (.n none (.n (some (.mk (.slc 3) false 1 none)) .e .e) .e)) (.n none (.n none .e (.n (some (.mk (.strct [(2,0),(3,1),(218,2)]) true 3 (some ([(0,1),(1,1),(2,1)], [.int .i64 0,.int .i64 0,.slice none 0 0])))) .e .e)) (.n none (.n (some (.mk (.strct [(186,0),(87,1),(9,3),(2,4),(103,5)]) true 6 (some ([(0,1),(1,2),(3,1),(4,1),(5,1)], [.int .i64 0,.int .i64 0,.int .i64 0,.string ⟨#[]⟩,.int .i64 0,.slice none 0 0])))) .e .e) .e))))) (.n none (.n none (.n none (.n (some (.mk (.strct [(9,0),(3,1),(32,2),(23,3)]) true 4 (some ([(0,1),(1,1),(2,1),(3,1)], [.string ⟨#[]⟩,.int .i64 0,.slice none 0 0,.slice none 0 0])))) (.n none (.n (some (.mk (.slc 188) false 1 none)) .e .e) .e) (.n none .e (.n (some (.mk (.strct [(224,0),(49,1),(3,2),(3,3)]) true 4 none)) .e .e))) (.n none (.n none .e (.n (some (.mk (.int .i64) false 1 none)) .e .e)) (.n none (.n none (.n (some (.mk .other true 70 none)) .e .e) .e) .e))) (.n (some (.mk (.strct [(22,0),(23,1),(23,2),(3,3),(3,4),(24,5)]) true 6 (some ([(0,1),(1,1),(2,1),(3,1),(4,1),(5,1)], [.slice none 0 0,.slice none 0 0,.slice none 0 0,.int .i64 0,.int .i64 0,.slice none 0 0])))) (.n none .e (.n (some (.mk (.slc 4) false 1 none)) .e .e)) (.n none (.n none .e (.n (some (.mk (.slc 45) false 1 none)) .e .e)) (.n (some (.mk (.strct [(120,0),(115,1),(67,2),(22,6)]) true 7 (some ([(0,1),(1,1),(2,4),(6,1)], [.slice none 0 0,.pointer none,.int .i64 0,.int .i64 0,.slice none 0 0,.slice none 0 0,.slice none 0 0])))) (.n (some (.mk (.int .i64) false 1 none)) .e .e) .e)))) (.n none (.n (some (.mk (.slc 2) false 1 none)) (.n (some (.mk (.slc 51) false 1 none)) .e .e) (.n (some (.mk (.slc 105) false 1 none)) (.n none (.n none (.n (some (.mk (.strct [(9,0),(4,1),(4,2),(4,3)]) true 4 (some ([(0,1),(1,1),(2,1),(3,1)], [.string ⟨#[]⟩,.bool false,.bool false,.bool false])))) .e .e) .e) .e) .e)) (.n none (.n (some (.mk (.int .i64) false 1 none)) .e (.n none .e (.n (some (.mk .fn false 1 none)) .e .e))) (.n none (.n none (.n (some (.mk .other true 35 none)) .e .e) (.n (some (.mk (.slc 22) false 1 none)) .e .e)) .e))))))
theorem V6:tbl.ok prog id:=⟨trivial,⟨trivial,⟨⟨underlying3,isAgg3,sizeOf3,trivial⟩,⟨trivial,⟨trivial,⟨trivial,⟨trivial,⟨⟨⟨_,underlying127⟩,isAgg127,sizeOf127,trivial⟩,trivial,trivial⟩,⟨⟨underlying191,isAgg191,sizeOf191,trivial⟩,trivial,trivial⟩⟩,⟨trivial,trivial,⟨⟨underlying223,isAgg223,sizeOf223,trivial⟩,trivial,trivial⟩⟩⟩,trivial⟩,⟨⟨underlying23,isAgg23,sizeOf23,trivial⟩,⟨trivial,⟨trivial,trivial,⟨⟨⟨_,underlying199,rfl⟩,isAgg199,sizeOf199,⟨zeroValue199,_,underlying199,by kernel_rfl⟩⟩,trivial,trivial⟩⟩,⟨⟨underlying103,isAgg103,sizeOf103,trivial⟩,⟨trivial,⟨⟨⟨_,_,_,underlying295⟩,isAgg295,sizeOf295,trivial⟩,trivial,trivial⟩,trivial⟩,trivial⟩⟩,⟨⟨underlying55,isAgg55,sizeOf55,trivial⟩,⟨⟨⟨_,underlying87,rfl⟩,isAgg87,sizeOf87,⟨zeroValue87,_,underlying87,by kernel_rfl⟩⟩,trivial,⟨⟨⟨_,underlying215,rfl⟩,isAgg215,sizeOf215,⟨zeroValue215,_,underlying215,by kernel_rfl⟩⟩,trivial,trivial⟩⟩,trivial⟩⟩⟩,⟨trivial,⟨trivial,⟨⟨underlying35,isAgg35,sizeOf35,trivial⟩,⟨⟨⟨_,underlying67,rfl⟩,isAgg67,sizeOf67,⟨zeroValue67,_,underlying67,by kernel_rfl⟩⟩,trivial,trivial⟩,trivial⟩,⟨⟨⟨_,underlying51,rfl⟩,isAgg51,sizeOf51,⟨zeroValue51,_,underlying51,by kernel_rfl⟩⟩,⟨trivial,trivial,⟨⟨underlying211,isAgg211,sizeOf211,trivial⟩,trivial,trivial⟩⟩,⟨⟨⟨_,underlying115⟩,isAgg115,sizeOf115,trivial⟩,trivial,trivial⟩⟩⟩,⟨trivial,⟨⟨underlying43,isAgg43,sizeOf43,trivial⟩,⟨trivial,⟨⟨⟨_,underlying139,rfl⟩,isAgg139,sizeOf139,⟨zeroValue139,_,underlying139,by kernel_rfl⟩⟩,trivial,trivial⟩,trivial⟩,⟨trivial,⟨⟨⟨_,underlying171⟩,isAgg171,sizeOf171,trivial⟩,trivial,trivial⟩,trivial⟩⟩,⟨⟨⟨_,underlying59,rfl⟩,isAgg59,sizeOf59,⟨zeroValue59,_,underlying59,by kernel_rfl⟩⟩,⟨trivial,⟨⟨⟨_,underlying155,rfl⟩,isAgg155,sizeOf155,⟨zeroValue155,_,underlying155,by kernel_rfl⟩⟩,trivial,trivial⟩,trivial⟩,trivial⟩⟩⟩⟩,⟨⟨underlying5,isAgg5,sizeOf5,trivial⟩,⟨⟨underlying9,isAgg9,sizeOf9,trivial⟩,⟨trivial,⟨trivial,⟨⟨⟨_,underlying65,rfl⟩,isAgg65,sizeOf65,trivial⟩,trivial,⟨⟨⟨_,underlying193,rfl⟩,isAgg193,sizeOf193,⟨zeroValue193,_,underlying193,by kernel_rfl⟩⟩,trivial,trivial⟩⟩,trivial⟩,⟨⟨underlying49,isAgg49,sizeOf49,trivial⟩,trivial,⟨trivial,⟨trivial,⟨⟨⟨_,underlying305,rfl⟩,isAgg305,sizeOf305,⟨zeroValue305,_,underlying305,by kernel_rfl⟩⟩,trivial,trivial⟩,trivial⟩,⟨⟨⟨_,_,_,underlying241⟩,isAgg241,sizeOf241,trivial⟩,trivial,trivial⟩⟩⟩⟩,⟨trivial,⟨trivial,trivial,⟨⟨⟨_,underlying105,rfl⟩,isAgg105,sizeOf105,⟨zeroValue105,_,underlying105,by kernel_rfl⟩⟩,⟨⟨⟨_,_,_,underlying169⟩,isAgg169,sizeOf169,trivial⟩,trivial,trivial⟩,trivial⟩⟩,⟨⟨⟨_,underlying57,rfl⟩,isAgg57,sizeOf57,trivial⟩,⟨trivial,trivial,⟨⟨⟨_,underlying217,rfl⟩,isAgg217,sizeOf217,⟨zeroValue217,_,underlying217,by kernel_rfl⟩⟩,trivial,trivial⟩⟩,⟨trivial,⟨⟨⟨_,underlying185,rfl⟩,isAgg185,sizeOf185,⟨zeroValue185,_,underlying185,by kernel_rfl⟩⟩,trivial,trivial⟩,⟨⟨⟨_,underlying249,rfl⟩,isAgg249,sizeOf249,trivial⟩,trivial,trivial⟩⟩⟩⟩⟩,⟨trivial,⟨trivial,⟨trivial,⟨trivial,trivial,⟨⟨underlying197,isAgg197,sizeOf197,trivial⟩,trivial,trivial⟩⟩,⟨⟨⟨_,_,_,underlying101⟩,isAgg101,sizeOf101,trivial⟩,trivial,trivial⟩⟩,⟨⟨underlying53,isAgg53,sizeOf53,trivial⟩,⟨trivial,trivial,⟨⟨underlying213,isAgg213,sizeOf213,trivial⟩,trivial,trivial⟩⟩,trivial⟩⟩,⟨trivial,⟨⟨⟨_,underlying45,rfl⟩,isAgg45,sizeOf45,⟨zeroValue45,_,underlying45,by kernel_rfl⟩⟩,trivial,trivial⟩,⟨trivial,⟨trivial,⟨⟨⟨_,_,_,underlying157⟩,isAgg157,sizeOf157,trivial⟩,trivial,trivial⟩,⟨⟨underlying221,isAgg221,sizeOf221,trivial⟩,trivial,trivial⟩⟩,trivial⟩⟩⟩⟩⟩,⟨⟨underlying2,isAgg2,sizeOf2,trivial⟩,⟨⟨underlying4,isAgg4,sizeOf4,trivial⟩,⟨trivial,⟨trivial,⟨⟨underlying32,isAgg32,sizeOf32,trivial⟩,trivial,⟨⟨⟨_,underlying96,rfl⟩,isAgg96,sizeOf96,⟨zeroValue96,_,underlying96,by kernel_rfl⟩⟩,trivial,trivial⟩⟩,⟨⟨⟨_,underlying48,rfl⟩,isAgg48,sizeOf48,⟨zeroValue48,_,underlying48,by kernel_rfl⟩⟩,trivial,trivial⟩⟩,⟨⟨underlying24,isAgg24,sizeOf24,trivial⟩,⟨trivial,⟨trivial,⟨⟨⟨_,underlying136,rfl⟩,isAgg136,sizeOf136,trivial⟩,trivial,trivial⟩,⟨⟨underlying200,isAgg200,sizeOf200,trivial⟩,trivial,trivial⟩⟩,trivial⟩,⟨trivial,trivial,⟨⟨⟨_,underlying120,rfl⟩,isAgg120,sizeOf120,⟨zeroValue120,_,underlying120,by kernel_rfl⟩⟩,trivial,⟨⟨⟨_,underlying248,rfl⟩,isAgg248,sizeOf248,⟨zeroValue248,_,underlying248,by kernel_rfl⟩⟩,trivial,trivial⟩⟩⟩⟩⟩,⟨trivial,⟨trivial,⟨trivial,trivial,⟨trivial,⟨⟨⟨_,_,_,underlying164⟩,isAgg164,sizeOf164,trivial⟩,trivial,trivial⟩,⟨⟨⟨_,underlying228,rfl⟩,isAgg228,sizeOf228,⟨zeroValue228,_,underlying228,by kernel_rfl⟩⟩,trivial,trivial⟩⟩⟩,⟨trivial,⟨trivial,trivial,⟨⟨underlying212,isAgg212,sizeOf212,trivial⟩,trivial,trivial⟩⟩,⟨trivial,⟨⟨underlying180,isAgg180,sizeOf180,trivial⟩,trivial,trivial⟩,trivial⟩⟩⟩,⟨trivial,⟨trivial,⟨trivial,trivial,⟨⟨⟨_,underlying204,rfl⟩,isAgg204,sizeOf204,⟨zeroValue204,_,underlying204,by kernel_rfl⟩⟩,trivial,trivial⟩⟩,⟨trivial,⟨⟨underlying172,isAgg172,sizeOf172,trivial⟩,trivial,trivial⟩,trivial⟩⟩,⟨trivial,⟨trivial,trivial,⟨⟨⟨_,underlying220,rfl⟩,isAgg220,sizeOf220,⟨zeroValue220,_,underlying220,by kernel_rfl⟩⟩,trivial,trivial⟩⟩,⟨trivial,⟨⟨⟨_,underlying188,rfl⟩,isAgg188,sizeOf188,⟨zeroValue188,_,underlying188,by kernel_rfl⟩⟩,trivial,trivial⟩,trivial⟩⟩⟩⟩⟩,⟨trivial,⟨trivial,⟨trivial,⟨⟨⟨_,underlying34,rfl⟩,isAgg34,sizeOf34,⟨zeroValue34,_,underlying34,by kernel_rfl⟩⟩,⟨trivial,⟨⟨underlying130,isAgg130,sizeOf130,trivial⟩,trivial,trivial⟩,trivial⟩,⟨trivial,trivial,⟨⟨⟨_,underlying226,rfl⟩,isAgg226,sizeOf226,trivial⟩,trivial,trivial⟩⟩⟩,⟨trivial,⟨trivial,trivial,⟨⟨underlying210,isAgg210,sizeOf210,trivial⟩,trivial,trivial⟩⟩,⟨trivial,⟨trivial,⟨⟨⟨_,underlying306,rfl⟩,isAgg306,sizeOf306,trivial⟩,trivial,trivial⟩,trivial⟩,trivial⟩⟩⟩,⟨⟨⟨_,underlying26,rfl⟩,isAgg26,sizeOf26,⟨zeroValue26,_,underlying26,by kernel_rfl⟩⟩,⟨trivial,trivial,⟨⟨underlying106,isAgg106,sizeOf106,trivial⟩,trivial,trivial⟩⟩,⟨trivial,⟨trivial,trivial,⟨⟨underlying218,isAgg218,sizeOf218,trivial⟩,trivial,trivial⟩⟩,⟨⟨⟨_,underlying122,rfl⟩,isAgg122,sizeOf122,⟨zeroValue122,_,underlying122,by kernel_rfl⟩⟩,⟨⟨underlying186,isAgg186,sizeOf186,trivial⟩,trivial,trivial⟩,trivial⟩⟩⟩⟩,⟨trivial,⟨⟨underlying22,isAgg22,sizeOf22,trivial⟩,⟨⟨underlying38,isAgg38,sizeOf38,trivial⟩,trivial,trivial⟩,⟨⟨underlying54,isAgg54,sizeOf54,trivial⟩,⟨trivial,⟨trivial,⟨⟨⟨_,underlying278,rfl⟩,isAgg278,sizeOf278,⟨zeroValue278,_,underlying278,by kernel_rfl⟩⟩,trivial,trivial⟩,trivial⟩,trivial⟩,trivial⟩⟩,⟨trivial,⟨⟨underlying46,isAgg46,sizeOf46,trivial⟩,trivial,⟨trivial,trivial,⟨⟨⟨_,_,_,underlying238⟩,isAgg238,sizeOf238,trivial⟩,trivial,trivial⟩⟩⟩,⟨trivial,⟨trivial,⟨⟨⟨_,underlying158,rfl⟩,isAgg158,sizeOf158,trivial⟩,trivial,trivial⟩,⟨⟨underlying222,isAgg222,sizeOf222,trivial⟩,trivial,trivial⟩⟩,trivial⟩⟩⟩⟩⟩⟩
section
variable {G:World}{f:Fc}{Q:Y3}{k k':List Item}{p p':PE}{c:List Prop}{ds:List Deferred}{cs:List Frame}{q:List HP}{ops l ops' l':List Oper}{pk:PE}{L:Rds}{n n':Nat}{done done':List Nat}
theorem xx (m:Nat)(K:X prog G f Q k' p' ds cs q)(h:stn tbl f.n m .code k p []=some ⟨.code,k',p',c⟩:=by exact rfl)(hc:Kd c:=by repeat (first|exact trivial|refine Uw (by first|omega|(simp;done)|(simp;omega)) ?_)):X prog G f Q k p ds cs q:=stXX V6 m h hc K
theorem xo (m:Nat)(K:XO prog G f Q ops'.toArray k' l' p' ds cs q)(h:stn tbl f.n m .code k p []=some ⟨.ops ops' l',k',p',c⟩:=by exact rfl)(hc:Kd c:=by repeat (first|exact trivial|refine Uw (by first|omega|(simp;done)|(simp;omega)) ?_)):X prog G f Q k p ds cs q:=stXO V6 m h hc K
theorem ox (m:Nat)(K:X prog G f Q k' p' ds cs q)(h:stn tbl f.n m (.ops ops l) k p []=some ⟨.code,k',p',c⟩:=by exact rfl)(hc:Kd c:=by repeat (first|exact trivial|refine Uw (by first|omega|(simp;done)|(simp;omega)) ?_)):XO prog G f Q ops.toArray k l p ds cs q:=stOX V6 m h hc K
theorem oo (m:Nat)(K:XO prog G f Q ops'.toArray k' l' p' ds cs q)(h:stn tbl f.n m (.ops ops l) k p []=some ⟨.ops ops' l',k',p',c⟩:=by exact rfl)(hc:Kd c:=by repeat (first|exact trivial|refine Uw (by first|omega|(simp;done)|(simp;omega)) ?_)):XO prog G f Q ops.toArray k l p ds cs q:=stOO V6 m h hc K
theorem dd (is:List Nat)(K:XD prog G f Q ops k pk L n' done' p' ds cs q)(h:sdn tbl f.n ops is n done p []=some ⟨n',done',p',c⟩:=by exact rfl)(hc:Kd c:=by repeat (first|exact trivial|refine Uw (by first|omega|(simp;done)|(simp;omega)) ?_)):XD prog G f Q ops k pk L n done p ds cs q:=stDD V6 is h hc K
variable {rest:List Oper}{d:Tmp}{t ty:TypeId}{pos:String}{af:Array Edge}{gd:Option (Nat×Bool)}{x y:Operand}{A:Addr}{v:Value}{b o sz:Nat}{l vs:List Value}{t':TypeId}{fz:Nat×Nat}{r:List HP}
theorem ld (K:XO prog G f Q ops.toArray k rest ((d,v)::p) ds cs q)(hx:evp p x=some (.pointer (some A)):=by rfl)(hc:Cl q A v:=by exact clA)
 (hw:Wt ops p ⟨some d,.load t x,ty,pos,af,gd⟩=some true:=by rfl) (hd:Nat.blt d f.n=true:=by rfl) (ht:tbl.lf t=true:=by rfl):
 XO prog G f Q ops.toArray k (⟨some d,.load t x,ty,pos,af,gd⟩::rest) p ds cs q:= .ld (L7 V6 ht) K hx hc hw hd
theorem ldA (K:XO prog G f Q ops.toArray k rest ((d,.agg (Wx.sub l o sz).toArray)::p) ds cs q)(ht:tbl.ag t=some sz:=by rfl)(hx:evp p x=some (.pointer (some ⟨b,o,none⟩)):=by rfl)(hh:Has q b (.cells l.toArray t' fz):=by exact Vd)(hv:Nat.ble (o+sz) l.length=true:=by rfl)
 (hw:Wt ops p ⟨some d,.load t x,ty,pos,af,gd⟩=some true:=by rfl) (hd:Nat.blt d f.n=true:=by rfl):
 XO prog G f Q ops.toArray k (⟨some d,.load t x,ty,pos,af,gd⟩::rest) p ds cs q:= .ldA (Jx V6 ht).1 (Jx V6 ht).2 K hx hh hv hw hd
theorem ldD (i:Nat)(K:XD prog G f Q ops k pk ((i,b,o,v)::L) n (i::done) ((d,v)::p) ds cs q)
 (ho:ops[i]? =some ⟨some d,.load t x,ty,pos,af,gd⟩:=by rfl) (hx:evp p x=some (.pointer (some ⟨b,o,none⟩)):=by rfl) (hc:Cl q ⟨b,o,none⟩ v:=by exact clA)
 (hr:rdy ops done i=true:=by rfl) (hw:Wt ops p ⟨some d,.load t x,ty,pos,af,gd⟩=some true:=by rfl) (hd:Nat.blt d f.n=true:=by rfl) (ht:tbl.lf t=true:=by rfl):XD prog G f Q ops k pk L (n+1) done p ds cs q:= .ld i (L7 V6 ht) K ho hx hc hr hw hd
theorem Yw (i:Nat)(K:XD prog G f Q ops k pk (rdA i b o (Wx.sub l o sz)++L) n (i::done) ((d,.agg (Wx.sub l o sz).toArray)::p) ds cs q)
 (ho:ops[i]? =some ⟨some d,.load t x,ty,pos,af,gd⟩:=by rfl) (ht:tbl.ag t=some sz:=by rfl) (hx:evp p x=some (.pointer (some ⟨b,o,none⟩)):=by rfl) (hh:Has q b (.cells l.toArray t' fz):=by exact Vd) (hv:Nat.ble (o+sz) l.length=true:=by rfl)
 (hr:rdy ops done i=true:=by rfl) (hw:Wt ops p ⟨some d,.load t x,ty,pos,af,gd⟩=some true:=by rfl) (hd:Nat.blt d f.n=true:=by rfl):XD prog G f Q ops k pk L (n+1) done p ds cs q:= .loadA i ho hx (Jx V6 ht).1 (Jx V6 ht).2 hh hv K hr hw hd
theorem st (K:XO prog G f Q ops.toArray k rest p ds cs (pto b (.cells (R7 l o v).toArray t' (0,0))::r))(hx:evp p x=some (.pointer (some ⟨b,o,none⟩)):=by rfl)(hy:evp p y=some v:=by rfl)
 (hv:v.cells= #[v]:=by rfl) (h1:v.oneCell'=true:=by rfl) (hq:Le q (pto b (.cells l.toArray t' (0,0))::r):=by exact Zj) (ho:Nat.blt o l.length=true:=by rfl)
 (hw:Wt ops p ⟨none,.store t x y,ty,pos,af,gd⟩=some true:=by rfl) (hs:tbl.s1 t=true:=by rfl):XO prog G f Q ops.toArray k (⟨none,.store t x y,ty,pos,af,gd⟩::rest) p ds cs q:= .st V6 hs K hx hy hv h1 hq ho hw
theorem stA (K:XO prog G f Q ops.toArray k rest p ds cs (pto b (.cells (Hq l o vs).toArray t' (0,0))::r))(hs:tbl.ag t=some sz:=by rfl)(hx:evp p x=some (.pointer (some ⟨b,o,none⟩)):=by rfl)(hy:evp p y=some (.agg vs.toArray):=by rfl)
 (hl:vs.length=sz:=by rfl) (h1:vs.all (·.oneCell')=true:=by rfl) (hq:Le q (pto b (.cells l.toArray t' (0,0))::r):=by exact Zj) (ho:Nat.ble (o+sz) l.length=true:=by rfl)
 (hw:Wt ops p ⟨none,.store t x y,ty,pos,af,gd⟩=some true:=by rfl):XO prog G f Q ops.toArray k (⟨none,.store t x y,ty,pos,af,gd⟩::rest) p ds cs q:= .stA V6 hs K hx hy hl h1 hq ho hw
theorem stD (i:Nat)(K:XD prog G f Q ops k pk (cut ⟨none,.store t x y,ty,pos,af,gd⟩ L) n (i::done) p ds cs (pto b (.cells (R7 l o v).toArray t' (0,0))::r))
 (ho:ops[i]? =some ⟨none,.store t x y,ty,pos,af,gd⟩:=by rfl) (hx:evp p x=some (.pointer (some ⟨b,o,none⟩)):=by rfl) (hy:evp p y=some v:=by rfl)
 (hv:v.cells= #[v]:=by rfl) (h1:v.oneCell'=true:=by rfl) (hq:Le q (pto b (.cells l.toArray t' (0,0))::r):=by exact Zj) (ho2:Nat.blt o l.length=true:=by rfl)
 (hh:HL (pto b (.cells (R7 l o v).toArray t' (0,0))::r) (cut ⟨none,.store t x y,ty,pos,af,gd⟩ L):=by exact hlA)
 (h2:Uc ops done i=true:=by rfl) (hr:rdy ops done i=true:=by rfl) (hw:Wt ops p ⟨none,.store t x y,ty,pos,af,gd⟩=some true:=by rfl) (hs:tbl.s1 t=true:=by rfl):XD prog G f Q ops k pk L (n+1) done p ds cs q:= .st i V6 hs K ho hx hy hv h1 hq ho2 hh h2 hr hw
theorem Yr (i:Nat)(K:XD prog G f Q ops k pk (cut ⟨none,.store t x y,ty,pos,af,gd⟩ L) n (i::done) p ds cs (pto b (.cells (Hq l o vs).toArray t' (0,0))::r))
 (ho:ops[i]? =some ⟨none,.store t x y,ty,pos,af,gd⟩:=by rfl) (hs:tbl.ag t=some sz:=by rfl) (hx:evp p x=some (.pointer (some ⟨b,o,none⟩)):=by rfl) (hy:evp p y=some (.agg vs.toArray):=by rfl)
 (hl:vs.length=sz:=by rfl) (h1:vs.all (·.oneCell')=true:=by rfl) (hq:Le q (pto b (.cells l.toArray t' (0,0))::r):=by exact Zj) (ho2:Nat.ble (o+sz) l.length=true:=by rfl)
 (hh:HL (pto b (.cells (Hq l o vs).toArray t' (0,0))::r) (cut ⟨none,.store t x y,ty,pos,af,gd⟩ L):=by exact hlA)
 (h2:Uc ops done i=true:=by rfl) (hr:rdy ops done i=true:=by rfl) (hw:Wt ops p ⟨none,.store t x y,ty,pos,af,gd⟩=some true:=by rfl):XD prog G f Q ops k pk L (n+1) done p ds cs q:= .stA i V6 hs K ho hx hy hl h1 hq ho2 hh h2 hr hw
theorem rsL {t b o sz:Nat}{l:List Value}{t':TypeId}{fz:Nat×Nat}(hh:Has q b (.cells l.toArray t' fz))(ht:tbl.ag t=some sz)(hv:Nat.ble (o+sz) l.length=true):LV Tryz.prog G q t ⟨b,o,none⟩ (.agg (Wx.sub l o sz).toArray):=LV.agg (Jx V6 ht).1 (Jx V6 ht).2 hh hv
theorem rA_ {p:PE}{fd:Func}{a0 t0 b0 o0 z0:Nat}{l0:List Value}{u0:TypeId}{f0:Nat×Nat}(h:fd.results= [.cell a0 t0].toArray)(p0:lkp p a0=some (.pointer (some ⟨b0,o0,none⟩)):=by rfl)(h0:Has q b0 (.cells l0.toArray u0 f0):=by exact Vd)(t_0:tbl.ag t0=some z0:=by rfl)(v_0:Nat.ble (o0+z0) l0.length=true:=by rfl)(tm:Array Value)(w:World)(ag:Agr tm p)(s:St G w q):(results fd tm).run Tryz.prog w= .ok (.agg (Wx.sub l0 o0 z0).toArray) w:=resC1 h (ResOk.cell p0 (rsL h0 t_0 v_0) ResOk.nil) tm w ag s
theorem Zqt {p:PE}{fd:Func}{a0 t0 b0 o0 z0:Nat}{l0:List Value}{u0:TypeId}{f0:Nat×Nat}{a1 t1 b1 o1 z1:Nat}{l1:List Value}{u1:TypeId}{f1:Nat×Nat}(h:fd.results= [.cell a0 t0,.cell a1 t1].toArray)(p0:lkp p a0=some (.pointer (some ⟨b0,o0,none⟩)):=by rfl)(h0:Has q b0 (.cells l0.toArray u0 f0):=by exact Vd)(t_0:tbl.ag t0=some z0:=by rfl)(v_0:Nat.ble (o0+z0) l0.length=true:=by rfl)(p1:lkp p a1=some (.pointer (some ⟨b1,o1,none⟩)):=by rfl)(h1:Has q b1 (.cells l1.toArray u1 f1):=by exact Vd)(t_1:tbl.ag t1=some z1:=by rfl)(v_1:Nat.ble (o1+z1) l1.length=true:=by rfl)(tm:Array Value)(w:World)(ag:Agr tm p)(s:St G w q):(results fd tm).run Tryz.prog w= .ok ((.tuple [.agg (Wx.sub l0 o0 z0).toArray,.agg (Wx.sub l1 o1 z1).toArray].toArray)) w:=Pd h (ResOk.cell p0 (rsL h0 t_0 v_0) (ResOk.cell p1 (rsL h1 t_1 v_1) ResOk.nil)) tm w ag s
theorem Hd {p:PE}{fd:Func}{a0 t0 b0 o0 z0:Nat}{l0:List Value}{u0:TypeId}{f0:Nat×Nat}{a1:Nat}{v1:Value}(h:fd.results= [.cell a0 t0,.tmp a1].toArray)(p0:lkp p a0=some (.pointer (some ⟨b0,o0,none⟩)):=by rfl)(h0:Has q b0 (.cells l0.toArray u0 f0):=by exact Vd)(t_0:tbl.ag t0=some z0:=by rfl)(v_0:Nat.ble (o0+z0) l0.length=true:=by rfl)(p1:lkp p a1=some v1:=by rfl)(tm:Array Value)(w:World)(ag:Agr tm p)(s:St G w q):(results fd tm).run Tryz.prog w= .ok ((.tuple [.agg (Wx.sub l0 o0 z0).toArray,v1].toArray)) w:=Pd h (ResOk.cell p0 (rsL h0 t_0 v_0) (ResOk.tmp p1 ResOk.nil)) tm w ag s
theorem Tg {p:PE}{fd:Func}{a0 t0 b0 o0 z0:Nat}{l0:List Value}{u0:TypeId}{f0:Nat×Nat}{a1 t1 b1 o1 z1:Nat}{l1:List Value}{u1:TypeId}{f1:Nat×Nat}{a2:Nat}{v2:Value}(h:fd.results= [.cell a0 t0,.cell a1 t1,.tmp a2].toArray)(p0:lkp p a0=some (.pointer (some ⟨b0,o0,none⟩)):=by rfl)(h0:Has q b0 (.cells l0.toArray u0 f0):=by exact Vd)(t_0:tbl.ag t0=some z0:=by rfl)(v_0:Nat.ble (o0+z0) l0.length=true:=by rfl)(p1:lkp p a1=some (.pointer (some ⟨b1,o1,none⟩)):=by rfl)(h1:Has q b1 (.cells l1.toArray u1 f1):=by exact Vd)(t_1:tbl.ag t1=some z1:=by rfl)(v_1:Nat.ble (o1+z1) l1.length=true:=by rfl)(p2:lkp p a2=some v2:=by rfl)(tm:Array Value)(w:World)(ag:Agr tm p)(s:St G w q):(results fd tm).run Tryz.prog w= .ok ((.tuple [.agg (Wx.sub l0 o0 z0).toArray,.agg (Wx.sub l1 o1 z1).toArray,v2].toArray)) w:=Pd h (ResOk.cell p0 (rsL h0 t_0 v_0) (ResOk.cell p1 (rsL h1 t_1 v_1) (ResOk.tmp p2 ResOk.nil))) tm w ag s
theorem B6 {p:PE}{fd:Func}{a0:Nat}{v0:Value}{a1 t1 b1 o1 z1:Nat}{l1:List Value}{u1:TypeId}{f1:Nat×Nat}{a2:Nat}{v2:Value}(h:fd.results= [.tmp a0,.cell a1 t1,.tmp a2].toArray)(p0:lkp p a0=some v0:=by rfl)(p1:lkp p a1=some (.pointer (some ⟨b1,o1,none⟩)):=by rfl)(h1:Has q b1 (.cells l1.toArray u1 f1):=by exact Vd)(t_1:tbl.ag t1=some z1:=by rfl)(v_1:Nat.ble (o1+z1) l1.length=true:=by rfl)(p2:lkp p a2=some v2:=by rfl)(tm:Array Value)(w:World)(ag:Agr tm p)(s:St G w q):(results fd tm).run Tryz.prog w= .ok ((.tuple [v0,.agg (Wx.sub l1 o1 z1).toArray,v2].toArray)) w:=Pd h (ResOk.tmp p0 (ResOk.cell p1 (rsL h1 t_1 v_1) (ResOk.tmp p2 ResOk.nil))) tm w ag s
theorem Er {p:PE}{fd:Func}{a0 t0 b0 o0 z0:Nat}{l0:List Value}{u0:TypeId}{f0:Nat×Nat}{a1:Nat}{v1:Value}{a2:Nat}{v2:Value}(h:fd.results= [.cell a0 t0,.tmp a1,.tmp a2].toArray)(p0:lkp p a0=some (.pointer (some ⟨b0,o0,none⟩)):=by rfl)(h0:Has q b0 (.cells l0.toArray u0 f0):=by exact Vd)(t_0:tbl.ag t0=some z0:=by rfl)(v_0:Nat.ble (o0+z0) l0.length=true:=by rfl)(p1:lkp p a1=some v1:=by rfl)(p2:lkp p a2=some v2:=by rfl)(tm:Array Value)(w:World)(ag:Agr tm p)(s:St G w q):(results fd tm).run Tryz.prog w= .ok ((.tuple [.agg (Wx.sub l0 o0 z0).toArray,v1,v2].toArray)) w:=Pd h (ResOk.cell p0 (rsL h0 t_0 v_0) (ResOk.tmp p1 (ResOk.tmp p2 ResOk.nil))) tm w ag s
theorem kx {k1 k2:List Item}{p1 p2:PE}{c1:List Prop}{b1:Bool}(s m:Nat)(K:X Tryz.prog G f Q k2 p2 ds cs q)(h:lkp p1 s=some (.bool b1):=by rfl)(e:b1=false:=by exact kw)(h2:stn tbl f.n m .code k1 ((s,.bool false)::p1) []=some ⟨.code,k2,p2,c1⟩:=by exact rfl)(hc:Kd c1:=by repeat (first|exact trivial|refine Uw (by first|omega|(simp;done)|(simp;omega)) ?_)):X Tryz.prog G f Q k1 p1 ds cs q:=W0 s (xx m K h2 hc) h e
theorem ol {o1 l1:List Oper}{o2 r2:List Oper}{k1 k2:List Item}{p1 p2:PE}{c1:List Prop}{d1:Tmp}{t1 ty1:TypeId}{ps1:String}{af1:Array Edge}{gd1:Option (Nat×Bool)}{x1:Operand}{A1:Addr}{v1:Value}(m:Nat)(K:XO Tryz.prog G f Q o2.toArray k2 r2 ((d1,v1)::p2) ds cs q)(h:stn tbl f.n m (.ops o1 l1) k1 p1 []=some ⟨.ops o2 (⟨some d1,.load t1 x1,ty1,ps1,af1,gd1⟩::r2),k2,p2,c1⟩:=by exact rfl)(hc0:Kd c1:=by repeat (first|exact trivial|refine Uw (by first|omega|(simp;done)|(simp;omega)) ?_))(hx:evp p2 x1=some (.pointer (some A1)):=by rfl)(hc:Cl q A1 v1:=by exact clA)(hw:Wt o2 p2 ⟨some d1,.load t1 x1,ty1,ps1,af1,gd1⟩=some true:=by rfl)(hd:Nat.blt d1 f.n=true:=by rfl)(ht:tbl.lf t1=true:=by rfl):XO Tryz.prog G f Q o1.toArray k1 l1 p1 ds cs q:=oo m (ld K hx hc hw hd ht) h hc0
theorem xl {o2 r2:List Oper}{k1 k2:List Item}{p1 p2:PE}{c1:List Prop}{d1:Tmp}{t1 ty1:TypeId}{ps1:String}{af1:Array Edge}{gd1:Option (Nat×Bool)}{x1:Operand}{A1:Addr}{v1:Value}(m:Nat)(K:XO Tryz.prog G f Q o2.toArray k2 r2 ((d1,v1)::p2) ds cs q)(h:stn tbl f.n m .code k1 p1 []=some ⟨.ops o2 (⟨some d1,.load t1 x1,ty1,ps1,af1,gd1⟩::r2),k2,p2,c1⟩:=by exact rfl)(hc0:Kd c1:=by repeat (first|exact trivial|refine Uw (by first|omega|(simp;done)|(simp;omega)) ?_))(hx:evp p2 x1=some (.pointer (some A1)):=by rfl)(hc:Cl q A1 v1:=by exact clA)(hw:Wt o2 p2 ⟨some d1,.load t1 x1,ty1,ps1,af1,gd1⟩=some true:=by rfl)(hd:Nat.blt d1 f.n=true:=by rfl)(ht:tbl.lf t1=true:=by rfl):X Tryz.prog G f Q k1 p1 ds cs q:=xo m (ld K hx hc hw hd ht) h hc0
theorem dl {n0 n1:Nat}{dn0 dn1:List Nat}{p1 p2:PE}{c1:List Prop}{d1:Tmp}{t1 ty1:TypeId}{ps1:String}{af1:Array Edge}{gd1:Option (Nat×Bool)}{x1:Operand}{b1 s1:Nat}{v1:Value}(is:List Nat)(i:Nat)(K:XD Tryz.prog G f Q ops k pk ((i,b1,s1,v1)::L) n1 (i::dn1) ((d1,v1)::p2) ds cs q)(h:sdn tbl f.n ops is n0 dn0 p1 []=some ⟨n1+1,dn1,p2,c1⟩:=by exact rfl)(hc0:Kd c1:=by repeat (first|exact trivial|refine Uw (by first|omega|(simp;done)|(simp;omega)) ?_))
 (ho:ops[i]? =some ⟨some d1,.load t1 x1,ty1,ps1,af1,gd1⟩:=by rfl) (hx:evp p2 x1=some (.pointer (some ⟨b1,s1,none⟩)):=by rfl) (hc:Cl q ⟨b1,s1,none⟩ v1:=by exact clA) (hr:rdy ops dn1 i=true:=by rfl) (hw:Wt ops p2 ⟨some d1,.load t1 x1,ty1,ps1,af1,gd1⟩=some true:=by rfl) (hd:Nat.blt d1 f.n=true:=by rfl) (ht:tbl.lf t1=true:=by rfl):XD Tryz.prog G f Q ops k pk L n0 dn0 p1 ds cs q:=dd is (ldD i K ho hx hc hr hw hd ht) h hc0
theorem Tryz.mixed:prog.follows .mixedOrders=true:=by kernel_rfl
theorem drw {id:Nat}(x:XD prog G f Q ops k [] [] ops.length [] p ds cs q)(h1:okR ops=true:=by kernel_rfl)(h2:Xn ops=true:=by kernel_rfl)(h3:Bw ops []=true:=by rfl):X prog G f Q (.code (.region id ops.toArray true)::k) p ds cs q:= .draw [] Tryz.mixed h1 h2 h3 x
end
structure Ins where
 c:Int
 a:Int
 b:Int
 n:Int
def Zx (i:Ins):List Value:= [.int .i64 i.c,.int .i64 i.a,.int .i64 i.b,.int .i64 i.n]
structure Cod where
 name:ByteArray
 locals:Int
 ins:List Ins
 lines:List Int
 ia:Option Addr
 ic:Nat
 la:Option Addr
 lc:Nat
def Y2 (x:Cod):List Value:= [.string x.name,.int .i64 x.locals,.slice x.ia x.ins.length x.ic,.slice x.la x.lines.length x.lc]
structure Mdl where
 vars:List Int
 arrays:List Int
 chans:List Int
 mutexes:Int
 conds:Int
 threads:List Cod
 va:Option Addr
 vc:Nat
 aa:Option Addr
 ac:Nat
 ca:Option Addr
 cc:Nat
 ta:Option Addr
 tc:Nat
def Wo (m:Mdl):List Value:= [.slice m.va m.vars.length m.vc,.slice m.aa m.arrays.length m.ac,.slice m.ca m.chans.length m.cc,.int .i64 m.mutexes,.int .i64 m.conds,.slice m.ta m.threads.length m.tc]
abbrev I64:Int→Value:=Value.int .i64
structure CodQ (q:List HP) (x:Cod):Prop where
 i:Sees q x.ia (x.ins.flatMap Zx)
 l:Sees q x.la (x.lines.map I64)
 n:x.name.size≤9223372036854775807
 ni:x.ins.length≤9223372036854775807
 nl:x.lines.length≤9223372036854775807
structure MdlQ (q:List HP) (m:Mdl):Prop where
 v:Sees q m.va (m.vars.map I64)
 a:Sees q m.aa (m.arrays.map I64)
 c:Sees q m.ca (m.chans.map I64)
 t:Sees q m.ta (m.threads.flatMap Y2)
 x: ∀ x∈m.threads,CodQ q x
 nv:m.vars.length≤9223372036854775807
 na:m.arrays.length≤9223372036854775807
 nc:m.chans.length≤9223372036854775807
 nt:m.threads.length≤9223372036854775807
 ka:m.arrays.length≤m.ac
theorem CodQ.le {q q':List HP}{x:Cod}(h:CodQ q' x)(k:Le q q'):CodQ q x:=⟨h.i.le k,h.l.le k,h.n,h.ni,h.nl⟩
theorem MdlQ.le {q q':List HP}{m:Mdl}(h:MdlQ q' m)(k:Le q q'):MdlQ q m:=⟨h.v.le k,h.a.le k,h.c.le k,h.t.le k,fun x hx=>(h.x x hx).le k,h.nv,h.na,h.nc,h.nt,h.ka⟩
def nmA (c:Int):Bool:=decide ((2≤c∧c≤7)∨(19≤c∧c≤21)∨(23≤c∧c≤31))
def Jk (i:Ins):Prop:=(1≤i.c∧i.c≤34)∧(if nmA i.c=true then 0≤i.a∧i.a≤65535 else i.a=0)∧(if i.c=26 then 0≤i.b∧i.b≤65535 else i.b=0)∧(if i.c=1 then -2147483648≤i.n∧i.n≤2147483647 else i.n=0)
instance (i:Ins):Decidable (Jk i):=by unfold Jk;infer_instance
def Yn (n lo hi:Int):Prop:=lo≤n∧n≤hi
instance (n lo hi:Int):Decidable (Yn n lo hi):=by unfold Yn;infer_instance
def Dx (x:Cod):Prop:=Yn x.name.size 1 16∧Yn x.locals 0 32∧(x.ins.length:Int)=x.lines.length∧((x.ins.length:Int)≤65536∧ ∀ i∈x.ins,Jk i)∧((x.lines.length:Int)≤65536∧ ∀ n∈x.lines,Yn n 0 65536)
instance (x:Cod):Decidable (Dx x):=by unfold Dx;infer_instance
def Nw (m:Mdl):Prop:=Yn m.mutexes 0 64∧Yn m.conds 0 64∧((m.vars.length:Int)≤64∧ ∀ n∈m.vars,Yn n (-2147483648) 2147483647)∧((m.arrays.length:Int)≤64∧ ∀ n∈m.arrays,Yn n 0 256)∧((m.chans.length:Int)≤64∧ ∀ n∈m.chans,Yn n 1 16)∧((m.threads.length:Int)≤64∧ ∀ x∈m.threads,Dx x)
instance (m:Mdl):Decidable (Nw m):=by unfold Nw;infer_instance
def Tb (m:Mdl):Int:=if Nw m then 0 else 2
theorem Hi {m:Mdl}:Tb m=0↔Nw m:=by unfold Tb;split<;>simp_all
def cdC (x:ByteArray×Int):List Value:= [.string x.1,.int .i64 x.2]
def Be:List Int:= [0,3,1,1,1,1,1,1,0,0,0,0,0,0,0,0,0,0,0,1,1,1,0,1,1,1,2,1,1,1,1,1,0,0,0]
theorem whatL_at: ∀ k:Fin 35,1≤k.val→((Be[k.val]'k.isLt==1||Be[k.val]'k.isLt==2)=nmA k.val)∧((Be[k.val]'k.isLt==2)=decide ((k.val:Int)=26))∧((Be[k.val]'k.isLt==3)=decide ((k.val:Int)=1)):=by decide
theorem Rr {α:Type}{p:α→Bool}{l:List α}{n:Nat}(h:n<l.length):(l.take (n+1)).any p=((l.take n).any p||p l[n]):=by
 rw [List.take_succ_eq_append_getElem h,List.any_append];simp
theorem Ay {α:Type}{p:α→Bool}{l:List α}{n:Nat}(h:n<l.length)(hp:p l[n]=true):l.any p=true:=List.any_eq_true.2 ⟨_,List.getElem_mem h,hp⟩
end Go.Proofs.YtgonllbkcgaliaaGreatDoor
namespace Go.Proofs.YtgonllbkcgaliaaGreatDoor
open Go Go.RowKit Wx Go.Proofs.Tryz
attribute [local irreducible] Wx.lsH Wx.rsH Wx.stars
def GC (q:List HP):Prop:= ∃ L:List (ByteArray×Int),L.map (·.2)=Be∧Sees q (some ⟨1,0,none⟩) (L.flatMap cdC)
theorem GC.le {q q':List HP}(h:GC q')(k:Le q q'):GC q:=let ⟨L,h1,h2⟩:=h;⟨L,h1,h2.le k⟩
section
variable {G:World}{q:List HP}{a b A:Option Addr}{c d C p p0 p1 p2 i:Nat}{lo hi n:Int}{fv:Value}
theorem J9 (h1:Cl q ⟨p1,0,none⟩ (.int .i64 lo))(h2:Cl q ⟨p2,0,none⟩ (.int .i64 hi)):CallF prog G 128 [.int .i64 n,.pointer (some ⟨p1,0,none⟩),.pointer (some ⟨p2,0,none⟩)] (q) (Ret fun v q'=>v= .bool (decide (Yn n lo hi))∧q'=q):=by
 refine CallF.of func128 ntmps128 rfl (fun F cs=> ?_)
 refine xo 6 ?_;refine ld ?_ (hc:=(h1.le leA))
 refine oo 3 ?_;refine Zg [8,4,0,2] ?_
 apply Zf 4 12 8 rfl
 · intro g1 M1;have h1:=sp g1
   refine oo 1 ?_;refine ld ?_ (hc:=(h2.le leA))
   refine oo 2 ?_;exact Zz M1 ⟨Yi g1,Zv⟩
 · intro g1 M1;have h1:=sp g1
   refine oo 4 ?_;exact Zz M1 ⟨Yl g1,Zv⟩
 refine ox 2 ?_;refine Zq (q) func128 (Zu results128 rfl) ⟨_,rfl,congrArg Value.bool (by rw [Bool.eq_iff_iff,decide_eq_true_iff];unfold Yn;simp),rfl⟩
theorem J4:CallF prog G 82 [.int .i64 lo,.int .i64 hi] ([]) (Ret fun v q'=> ∃ p1 p2,v= .func (.func 128) [].toArray [.pointer (some ⟨p1,0,none⟩),.pointer (some ⟨p2,0,none⟩)].toArray∧q'= [pto p1 (.cells [.int .i64 lo].toArray 3 (0,0)),pto p2 (.cells [.int .i64 hi].toArray 3 (0,0))]):=by
 refine CallF.of func82 ntmps82 rfl (fun F cs=> ?_)
 refine xo 2 ?_;refine Zl fun n1=> ?_
 refine Zl fun n2=> ?_
 refine ox 7 ?_;refine Zq [pto n1 (.cells [.int .i64 lo].toArray 3 (0,0)),pto n2 (.cells [.int .i64 hi].toArray 3 (0,0))] func82 (Zu results82 rfl) ⟨_,rfl,n1,n2,rfl,rfl⟩
theorem Te {l:List Int}(h1:Cl q ⟨p1,0,none⟩ (.int .i64 lo))(h2:Cl q ⟨p2,0,none⟩ (.int .i64 hi)):Rdr prog G (.func (.func 128) [].toArray [.pointer (some ⟨p1,0,none⟩),.pointer (some ⟨p2,0,none⟩)].toArray) I64 (fun x=> .bool (decide (Yn x lo hi))) q l:=
 fun q1 h x _=>J8 call128 (J9 (h1.le h) (h2.le h))
theorem Ml:CallF prog G 84 [.int .i64 n] (q) (Ret fun v q'=>v= .bool (decide (Yn n (-2147483648) 2147483647))∧q'=q):=by
 refine CallF.of func84 ntmps84 rfl (fun F cs=> ?_)
 refine xo 9 ?_;refine Zg [5,2,0] ?_
 apply Zf 3 8 5 rfl
 · intro g1 M1;have h1:=sp g1
   refine oo 3 ?_;exact Zz M1 ⟨Yi g1,Zv⟩
 · intro g1 M1;have h1:=sp g1
   refine oo 3 ?_;exact Zz M1 ⟨Yl g1,Zv⟩
 refine ox 2 ?_;refine Zq (q) func84 (Zu results84 rfl) ⟨_,rfl,congrArg Value.bool (by rw [Bool.eq_iff_iff,decide_eq_true_iff];unfold Yn;simp),rfl⟩
theorem Cx {l:List Int}:Rdr prog G (.func (.func 84) #[] #[]) I64 (fun x=> .bool (decide (Yn x (-2147483648) 2147483647))) q l:=
 fun q1 h x _=>Q0 call84 Ml
set_option maxHeartbeats 1000000 in
theorem Fx {l:List Int}{u:Int→Bool}(hs:Sees q a (l.map I64))(hn:l.length≤9223372036854775807)(hp:Rdr prog G fv I64 (fun x=> .bool (u x)) q l):CallF prog G 111 [.slice a l.length c,fv] (q) (Ret fun v q'=> ∃ k:Int,v= .int .i64 k∧decide (0≤k)=l.any u∧q'=q):=by
 refine CallF.of func111 ntmps111 rfl (fun F cs=> ?_)
 have hlen:(l.map I64).length=l.length:=by simp
 refine xx 12 ?_;refine X.at (X.loop (fun (s:Nat×Option Addr)=>s.1≤l.length∧s.2=a∧(l.take s.1).any u=false) (fun s=> [(0,.slice s.2 l.length c),(1,fv),(7,.int .i64 (l.length:Int)),(8,.int .i64 (s.1:Int))]) (fun s=>q++F) (fun s=>l.length - s.1) (fun s hi_ ih=> ?_) (0,a) ⟨by dsimp only;omega,rfl,rfl⟩) Zp leA
 try dsimp only at hi_ ih⊢
 obtain ⟨hi1,rfl,hi2⟩:=hi_
 obtain ⟨s,a⟩:=s;dsimp only at*
 refine xx 5 ?_;refine X.part 9 rfl (fun h0=> ?_) (fun h0=> ?_)
 · replace h0:=sp h0
   have hi0:s<l.length:=by omega
   refine Jw hs (by rw [hlen];omega) (fun b1 o1 e_=> ?_);subst e_
   refine xl 15 ?_;refine Nh (hp _ leA _ (List.getElem_mem hi0)) ?_;refine ox 1 ?_;refine X.part 16 rfl (fun h1=> ?_) (fun h1=> ?_)
   · replace h1:=sp h1
     refine xx 6 ?_;refine Zq (q) func111 (Zu results111 rfl) ⟨_,rfl,_,rfl,by rw [Ay hi0 h1];exact decide_eq_true (by omega),rfl⟩
   replace h1:=sp h1
   refine xx 7 ?_;refine X.at (ih (s+1,some ⟨b1,o1,none⟩) ⟨by dsimp only;omega,rfl,by dsimp only;rw [Rr hi0,hi2,h1];rfl⟩ (by dsimp only;omega)) Zp leA
 replace h0:=sp h0
 refine xx 6 ?_
 rw [List.take_of_length_le (show l.length≤s by omega)] at hi2
 refine Zq (q) func111 (Zu results111 rfl) ⟨_,rfl,_,rfl,by rw [hi2];rfl,rfl⟩
theorem Tn {l:List Int}{u:Int→Bool}(hs:Sees q a (l.map I64))(hn:l.length≤9223372036854775807)(hp:Rdr prog G fv I64 (fun x=> .bool (u x)) q l):CallF prog G 74 [.slice a l.length c,fv] (q) (Ret fun v q'=>v= .bool (l.any u)∧q'=q):=by
 refine CallF.of func74 ntmps74 rfl (fun F cs=> ?_)
 refine xo 8 ?_;refine Zh call111 (Le.refl _) (Fx (hs.le leA) hn (hp.le leA)) ?_;rintro _ _ ⟨k,rfl,hk,rfl⟩
 refine ox 3 ?_;refine Zq (q) func74 (Zu results74 rfl) ⟨_,rfl,congrArg Value.bool hk,rfl⟩
theorem Ab {l:List Int}{x:Int}{u:Int→Bool}(hx:x∈l)(h1:Cl q ⟨p,0,none⟩ fv)(hp:Rdr prog G fv I64 (fun x=> .bool (u x)) q l):CallF prog G 129 [.int .i64 x,.pointer (some ⟨p,0,none⟩)] (q) (Ret fun v q'=>v= .bool (!u x)∧q'=q):=by
 refine CallF.of func129 ntmps129 rfl (fun F cs=> ?_)
 refine xo 6 ?_;refine ld ?_ (hc:=(h1.le leA))
 refine oo 1 ?_;refine Nh (hp _ leA _ hx) ?_;refine Zc (Pu.not rfl) ?_;refine ox 2 ?_;refine Zq (q) func129 (Zu results129 rfl) ⟨_,rfl,rfl,rfl⟩
theorem Ll {l:List Int}{u:Int→Bool}(hs:Sees q a (l.map I64))(hn:l.length≤9223372036854775807)(hp:Rdr prog G fv I64 (fun x=> .bool (u x)) q l)(ho:fv.cells= #[fv]):CallF prog G 83 [.slice a l.length c,.int .i64 hi,fv] (q) (Ret fun v q'=>v= .bool (decide ((l.length:Int)≤hi∧ ∀ x∈l,u x=true))∧q'=q):=by
 refine CallF.of func83 ntmps83 rfl (fun F cs=> ?_)
 refine xo 2 ?_;refine Zl fun n1=> ?_
 rw [ho]
 refine oo 9 ?_;refine Zg [11,6,5,0] ?_
 apply Zf 5 16 11 rfl
 · intro g1 M1;have h1:=sp g1
   refine oo 2 ?_;refine XO.cR call74 (Tn (u:=fun x=> !u x) (hs.le leA) hn (fun q1 h1 x hx=>H6 call129 (Ab hx ((Cl.of (l:= [fv]) Vd rfl).le h1) (hp.le (h1.trans leA))))) ?_
   refine Zc (Pu.not rfl) ?_;refine oo 1 ?_;exact Zz M1 ⟨Yi g1,Zv⟩
 · intro g1 M1;have h1:=sp g1
   refine oo 5 ?_;exact Zz M1 ⟨Yl g1,Zv⟩
 refine ox 2 ?_;refine Zq (q) func83 (Zu results83 rfl) ⟨_,rfl,congrArg Value.bool (by rw [Bool.eq_iff_iff];simp),rfl⟩
set_option maxHeartbeats 1000000 in
theorem C6 {l:List Int}{u:Int→Bool}(hs:Sees q a (l.map I64))(hn:l.length≤9223372036854775807)(hp:Rdr prog G fv I64 (fun x=> .bool (u x)) q l):CallF prog G 165 [.slice a l.length c,fv] (q) (Ret fun v q'=> ∃ k:Int,v= .int .i64 k∧decide (0≤k)=l.any u∧q'=q):=by
 refine CallF.of func165 ntmps165 rfl (fun F cs=> ?_)
 have hlen:(l.map I64).length=l.length:=by simp
 refine xx 12 ?_;refine X.at (X.loop (fun (s:Nat×Option Addr)=>s.1≤l.length∧s.2=a∧(l.take s.1).any u=false) (fun s=> [(0,.slice s.2 l.length c),(1,fv),(7,.int .i64 (l.length:Int)),(8,.int .i64 (s.1:Int))]) (fun s=>q++F) (fun s=>l.length - s.1) (fun s hi_ ih=> ?_) (0,a) ⟨by dsimp only;omega,rfl,rfl⟩) Zp leA
 try dsimp only at hi_ ih⊢
 obtain ⟨hi1,rfl,hi2⟩:=hi_
 obtain ⟨s,a⟩:=s;dsimp only at*
 refine xx 5 ?_;refine X.part 9 rfl (fun h0=> ?_) (fun h0=> ?_)
 · replace h0:=sp h0
   have hi0:s<l.length:=by omega
   refine Jw hs (by rw [hlen];omega) (fun b1 o1 e_=> ?_);subst e_
   refine xl 15 ?_;refine Nh (hp _ leA _ (List.getElem_mem hi0)) ?_;refine ox 1 ?_;refine X.part 16 rfl (fun h1=> ?_) (fun h1=> ?_)
   · replace h1:=sp h1
     refine xx 6 ?_;refine Zq (q) func165 (Zu results165 rfl) ⟨_,rfl,_,rfl,by rw [Ay hi0 h1];exact decide_eq_true (by omega),rfl⟩
   replace h1:=sp h1
   refine xx 7 ?_;refine X.at (ih (s+1,some ⟨b1,o1,none⟩) ⟨by dsimp only;omega,rfl,by dsimp only;rw [Rr hi0,hi2,h1];rfl⟩ (by dsimp only;omega)) Zp leA
 replace h0:=sp h0
 refine xx 6 ?_
 rw [List.take_of_length_le (show l.length≤s by omega)] at hi2
 refine Zq (q) func165 (Zu results165 rfl) ⟨_,rfl,_,rfl,by rw [hi2];rfl,rfl⟩
theorem Ld {l:List Int}{u:Int→Bool}(hs:Sees q a (l.map I64))(hn:l.length≤9223372036854775807)(hp:Rdr prog G fv I64 (fun x=> .bool (u x)) q l):CallF prog G 130 [.slice a l.length c,fv] (q) (Ret fun v q'=>v= .bool (l.any u)∧q'=q):=by
 refine CallF.of func130 ntmps130 rfl (fun F cs=> ?_)
 refine xo 8 ?_;refine Zh call165 (Le.refl _) (C6 (hs.le leA) hn (hp.le leA)) ?_;rintro _ _ ⟨k,rfl,hk,rfl⟩
 refine ox 3 ?_;refine Zq (q) func130 (Zu results130 rfl) ⟨_,rfl,congrArg Value.bool hk,rfl⟩
theorem I1 {l:List Int}{x:Int}{u:Int→Bool}(hx:x∈l)(h1:Cl q ⟨p,0,none⟩ fv)(hp:Rdr prog G fv I64 (fun x=> .bool (u x)) q l):CallF prog G 131 [.int .i64 x,.pointer (some ⟨p,0,none⟩)] (q) (Ret fun v q'=>v= .bool (!u x)∧q'=q):=by
 refine CallF.of func131 ntmps131 rfl (fun F cs=> ?_)
 refine xo 6 ?_;refine ld ?_ (hc:=(h1.le leA))
 refine oo 1 ?_;refine Nh (hp _ leA _ hx) ?_;refine Zc (Pu.not rfl) ?_;refine ox 2 ?_;refine Zq (q) func131 (Zu results131 rfl) ⟨_,rfl,rfl,rfl⟩
theorem Bt {l:List Int}{u:Int→Bool}(hs:Sees q a (l.map I64))(hn:l.length≤9223372036854775807)(hp:Rdr prog G fv I64 (fun x=> .bool (u x)) q l)(ho:fv.cells= #[fv]):CallF prog G 85 [.slice a l.length c,.int .i64 hi,fv] (q) (Ret fun v q'=>v= .bool (decide ((l.length:Int)≤hi∧ ∀ x∈l,u x=true))∧q'=q):=by
 refine CallF.of func85 ntmps85 rfl (fun F cs=> ?_)
 refine xo 2 ?_;refine Zl fun n1=> ?_
 rw [ho]
 refine oo 9 ?_;refine Zg [11,6,5,0] ?_
 apply Zf 5 16 11 rfl
 · intro g1 M1;have h1:=sp g1
   refine oo 2 ?_;refine XO.cR call130 (Ld (u:=fun x=> !u x) (hs.le leA) hn (fun q1 h1 x hx=>H6 call131 (I1 hx ((Cl.of (l:= [fv]) Vd rfl).le h1) (hp.le (h1.trans leA))))) ?_
   refine Zc (Pu.not rfl) ?_;refine oo 1 ?_;exact Zz M1 ⟨Yi g1,Zv⟩
 · intro g1 M1;have h1:=sp g1
   refine oo 5 ?_;exact Zz M1 ⟨Yl g1,Zv⟩
 refine ox 2 ?_;refine Zq (q) func85 (Zu results85 rfl) ⟨_,rfl,congrArg Value.bool (by rw [Bool.eq_iff_iff];simp),rfl⟩
set_option maxHeartbeats 1000000 in
theorem Gf {l:List Cod}{u:Cod→Bool}(hs:Sees q a (l.flatMap Y2))(hn:l.length≤9223372036854775807)(hp:Rdr prog G fv (fun x=> .agg (Y2 x).toArray) (fun x=> .bool (u x)) q l):CallF prog G 166 [.slice a l.length c,fv] (q) (Ret fun v q'=> ∃ k:Int,v= .int .i64 k∧decide (0≤k)=l.any u∧q'=q):=by
 refine CallF.of func166 ntmps166 rfl (fun F cs=> ?_)
 have hlen:=Zb (f:=Y2) (sz:=4) (fun _=>rfl) l
 refine xx 12 ?_;refine X.at (X.loop (fun (s:Nat×Option Addr)=>s.1≤l.length∧s.2=a∧(l.take s.1).any u=false) (fun s=> [(0,.slice s.2 l.length c),(1,fv),(7,.int .i64 (l.length:Int)),(8,.int .i64 (s.1:Int))]) (fun s=>q++F) (fun s=>l.length - s.1) (fun s hi_ ih=> ?_) (0,a) ⟨by dsimp only;omega,rfl,rfl⟩) Zp leA
 try dsimp only at hi_ ih⊢
 obtain ⟨hi1,rfl,hi2⟩:=hi_
 obtain ⟨s,a⟩:=s;dsimp only at*
 refine xx 5 ?_;refine X.part 9 rfl (fun h0=> ?_) (fun h0=> ?_)
 · replace h0:=sp h0
   have hi0:s<l.length:=by omega
   refine Jw hs (by rw [hlen];omega) (fun b1 o1 e_=> ?_);subst e_
   refine xo 15 ?_;refine Wm (n:=s) isAgg34 sizeOf34 hs hi0 ?_
   refine Nh (hp _ leA _ (List.getElem_mem hi0)) ?_;refine ox 1 ?_;refine X.part 16 rfl (fun h1=> ?_) (fun h1=> ?_)
   · replace h1:=sp h1
     refine xx 6 ?_;refine Zq (q) func166 (Zu results166 rfl) ⟨_,rfl,_,rfl,by rw [Ay hi0 h1];exact decide_eq_true (by omega),rfl⟩
   replace h1:=sp h1
   refine xx 7 ?_;refine X.at (ih (s+1,some ⟨b1,o1,none⟩) ⟨by dsimp only;omega,rfl,by dsimp only;rw [Rr hi0,hi2,h1];rfl⟩ (by dsimp only;omega)) Zp leA
 replace h0:=sp h0
 refine xx 6 ?_
 rw [List.take_of_length_le (show l.length≤s by omega)] at hi2
 refine Zq (q) func166 (Zu results166 rfl) ⟨_,rfl,_,rfl,by rw [hi2];rfl,rfl⟩
theorem Ak {l:List Cod}{u:Cod→Bool}(hs:Sees q a (l.flatMap Y2))(hn:l.length≤9223372036854775807)(hp:Rdr prog G fv (fun x=> .agg (Y2 x).toArray) (fun x=> .bool (u x)) q l):CallF prog G 132 [.slice a l.length c,fv] (q) (Ret fun v q'=>v= .bool (l.any u)∧q'=q):=by
 refine CallF.of func132 ntmps132 rfl (fun F cs=> ?_)
 refine xo 8 ?_;refine Zh call166 (Le.refl _) (Gf (hs.le leA) hn (hp.le leA)) ?_;rintro _ _ ⟨k,rfl,hk,rfl⟩
 refine ox 3 ?_;refine Zq (q) func132 (Zu results132 rfl) ⟨_,rfl,congrArg Value.bool hk,rfl⟩
theorem La {l:List Cod}{x:Cod}{u:Cod→Bool}(hx:x∈l)(h1:Cl q ⟨p,0,none⟩ fv)(hp:Rdr prog G fv (fun x=> .agg (Y2 x).toArray) (fun x=> .bool (u x)) q l):CallF prog G 133 [.agg (Y2 x).toArray,.pointer (some ⟨p,0,none⟩)] (q) (Ret fun v q'=>v= .bool (!u x)∧q'=q):=by
 refine CallF.of func133 ntmps133 rfl (fun F cs=> ?_)
 refine xo 2 ?_;refine Zl fun n1=> ?_
 refine oo 4 ?_;refine ld ?_ (hc:=(h1.le leA))
 refine ldA ?_;refine Nh (hp _ leA _ hx) ?_;refine Zc (Pu.not rfl) ?_;refine ox 2 ?_;refine Zq (q) func133 (Zu results133 rfl) ⟨_,rfl,rfl,rfl⟩
theorem I0 {l:List Cod}{u:Cod→Bool}(hs:Sees q a (l.flatMap Y2))(hn:l.length≤9223372036854775807)(hp:Rdr prog G fv (fun x=> .agg (Y2 x).toArray) (fun x=> .bool (u x)) q l)(ho:fv.cells= #[fv]):CallF prog G 86 [.slice a l.length c,.int .i64 hi,fv] (q) (Ret fun v q'=>v= .bool (decide ((l.length:Int)≤hi∧ ∀ x∈l,u x=true))∧q'=q):=by
 refine CallF.of func86 ntmps86 rfl (fun F cs=> ?_)
 refine xo 2 ?_;refine Zl fun n1=> ?_
 rw [ho]
 refine oo 9 ?_;refine Zg [11,6,5,0] ?_
 apply Zf 5 16 11 rfl
 · intro g1 M1;have h1:=sp g1
   refine oo 2 ?_;refine XO.cR call132 (Ak (u:=fun x=> !u x) (hs.le leA) hn (fun q1 h1 x hx=>H6 call133 (La hx ((Cl.of (l:= [fv]) Vd rfl).le h1) (hp.le (h1.trans leA))))) ?_
   refine Zc (Pu.not rfl) ?_;refine oo 1 ?_;exact Zz M1 ⟨Yi g1,Zv⟩
 · intro g1 M1;have h1:=sp g1
   refine oo 5 ?_;exact Zz M1 ⟨Yl g1,Zv⟩
 refine ox 2 ?_;refine Zq (q) func86 (Zu results86 rfl) ⟨_,rfl,congrArg Value.bool (by rw [Bool.eq_iff_iff];simp),rfl⟩
set_option maxHeartbeats 1000000 in
theorem C7 {l:List Ins}{u:Ins→Bool}(hs:Sees q a (l.flatMap Zx))(hn:l.length≤9223372036854775807)(hp:Rdr prog G fv (fun x=> .agg (Zx x).toArray) (fun x=> .bool (u x)) q l):CallF prog G 197 [.slice a l.length c,fv] (q) (Ret fun v q'=> ∃ k:Int,v= .int .i64 k∧decide (0≤k)=l.any u∧q'=q):=by
 refine CallF.of func197 ntmps197 rfl (fun F cs=> ?_)
 have hlen:=Zb (f:=Zx) (sz:=4) (fun _=>rfl) l
 refine xx 12 ?_;refine X.at (X.loop (fun (s:Nat×Option Addr)=>s.1≤l.length∧s.2=a∧(l.take s.1).any u=false) (fun s=> [(0,.slice s.2 l.length c),(1,fv),(7,.int .i64 (l.length:Int)),(8,.int .i64 (s.1:Int))]) (fun s=>q++F) (fun s=>l.length - s.1) (fun s hi_ ih=> ?_) (0,a) ⟨by dsimp only;omega,rfl,rfl⟩) Zp leA
 try dsimp only at hi_ ih⊢
 obtain ⟨hi1,rfl,hi2⟩:=hi_
 obtain ⟨s,a⟩:=s;dsimp only at*
 refine xx 5 ?_;refine X.part 9 rfl (fun h0=> ?_) (fun h0=> ?_)
 · replace h0:=sp h0
   have hi0:s<l.length:=by omega
   refine Jw hs (by rw [hlen];omega) (fun b1 o1 e_=> ?_);subst e_
   refine xo 15 ?_;refine Wm (n:=s) isAgg48 sizeOf48 hs hi0 ?_
   refine Nh (hp _ leA _ (List.getElem_mem hi0)) ?_;refine ox 1 ?_;refine X.part 16 rfl (fun h1=> ?_) (fun h1=> ?_)
   · replace h1:=sp h1
     refine xx 6 ?_;refine Zq (q) func197 (Zu results197 rfl) ⟨_,rfl,_,rfl,by rw [Ay hi0 h1];exact decide_eq_true (by omega),rfl⟩
   replace h1:=sp h1
   refine xx 7 ?_;refine X.at (ih (s+1,some ⟨b1,o1,none⟩) ⟨by dsimp only;omega,rfl,by dsimp only;rw [Rr hi0,hi2,h1];rfl⟩ (by dsimp only;omega)) Zp leA
 replace h0:=sp h0
 refine xx 6 ?_
 rw [List.take_of_length_le (show l.length≤s by omega)] at hi2
 refine Zq (q) func197 (Zu results197 rfl) ⟨_,rfl,_,rfl,by rw [hi2];rfl,rfl⟩
theorem Lc {l:List Ins}{u:Ins→Bool}(hs:Sees q a (l.flatMap Zx))(hn:l.length≤9223372036854775807)(hp:Rdr prog G fv (fun x=> .agg (Zx x).toArray) (fun x=> .bool (u x)) q l):CallF prog G 167 [.slice a l.length c,fv] (q) (Ret fun v q'=>v= .bool (l.any u)∧q'=q):=by
 refine CallF.of func167 ntmps167 rfl (fun F cs=> ?_)
 refine xo 8 ?_;refine Zh call197 (Le.refl _) (C7 (hs.le leA) hn (hp.le leA)) ?_;rintro _ _ ⟨k,rfl,hk,rfl⟩
 refine ox 3 ?_;refine Zq (q) func167 (Zu results167 rfl) ⟨_,rfl,congrArg Value.bool hk,rfl⟩
theorem I2 {l:List Ins}{x:Ins}{u:Ins→Bool}(hx:x∈l)(h1:Cl q ⟨p,0,none⟩ fv)(hp:Rdr prog G fv (fun x=> .agg (Zx x).toArray) (fun x=> .bool (u x)) q l):CallF prog G 168 [.agg (Zx x).toArray,.pointer (some ⟨p,0,none⟩)] (q) (Ret fun v q'=>v= .bool (!u x)∧q'=q):=by
 refine CallF.of func168 ntmps168 rfl (fun F cs=> ?_)
 refine xo 2 ?_;refine Zl fun n1=> ?_
 refine oo 4 ?_;refine ld ?_ (hc:=(h1.le leA))
 refine ldA ?_;refine Nh (hp _ leA _ hx) ?_;refine Zc (Pu.not rfl) ?_;refine ox 2 ?_;refine Zq (q) func168 (Zu results168 rfl) ⟨_,rfl,rfl,rfl⟩
theorem Zzi {l:List Ins}{u:Ins→Bool}(hs:Sees q a (l.flatMap Zx))(hn:l.length≤9223372036854775807)(hp:Rdr prog G fv (fun x=> .agg (Zx x).toArray) (fun x=> .bool (u x)) q l)(ho:fv.cells= #[fv]):CallF prog G 134 [.slice a l.length c,.int .i64 hi,fv] (q) (Ret fun v q'=>v= .bool (decide ((l.length:Int)≤hi∧ ∀ x∈l,u x=true))∧q'=q):=by
 refine CallF.of func134 ntmps134 rfl (fun F cs=> ?_)
 refine xo 2 ?_;refine Zl fun n1=> ?_
 rw [ho]
 refine oo 9 ?_;refine Zg [11,6,5,0] ?_
 apply Zf 5 16 11 rfl
 · intro g1 M1;have h1:=sp g1
   refine oo 2 ?_;refine XO.cR call167 (Lc (u:=fun x=> !u x) (hs.le leA) hn (fun q1 h1 x hx=>H6 call168 (I2 hx ((Cl.of (l:= [fv]) Vd rfl).le h1) (hp.le (h1.trans leA))))) ?_
   refine Zc (Pu.not rfl) ?_;refine oo 1 ?_;exact Zz M1 ⟨Yi g1,Zv⟩
 · intro g1 M1;have h1:=sp g1
   refine oo 5 ?_;exact Zz M1 ⟨Yl g1,Zv⟩
 refine ox 2 ?_;refine Zq (q) func134 (Zu results134 rfl) ⟨_,rfl,congrArg Value.bool (by rw [Bool.eq_iff_iff];simp),rfl⟩
end
section
variable {G:World}{q:List HP}{a b A:Option Addr}{c d C p p0 p1 p2 i:Nat}{lo hi n cd:Int}{fv:Value}{x:Ins}{t:Cod}{m:Mdl}
theorem what_at {L:List (ByteArray×Int)}(h:L.map (·.2)=Be){k:Nat}(hk:k<L.length)(h1:1≤k):k<35∧((L[k].2==1||L[k].2==2)=nmA k)∧((L[k].2==2)=decide ((k:Int)=26))∧((L[k].2==3)=decide ((k:Int)=1)):=by
 have hl:L.length=35:=by rw [←List.length_map (f:=fun x:ByteArray×Int=>x.2),h];rfl
 have hk2:k<35:=by omega
 have e:L[k].2=Be[k]'hk2:=by
  have:=List.getElem_map (fun x:ByteArray×Int=>x.2) (l:=L) (i:=k) (h:=by simpa using hk)
  rw [←this];simp only [h];rfl
 rw [e]
 exact ⟨hk2,whatL_at ⟨k,hk2⟩ h1⟩
theorem Ea {bb:Bool}:CallF prog G 170 [.int .i64 n,.bool bb] (q) (Ret fun v q'=>v= .bool (decide (if bb=true then 0≤n∧n≤65535 else n=0))∧q'=q):=by
 refine CallF.of func170 ntmps170 rfl (fun F cs=> ?_)
 refine xx 9 ?_;refine X.part 5 rfl (fun h1=> ?_) (fun h1=> ?_)
 focus
  replace h1:=sp h1
  refine xo 6 ?_;refine Zg [8,4,0] ?_
  apply Zf 3 11 8 rfl
  · intro g2 M2;have h2:=sp g2
    refine oo 3 ?_;exact Zz M2 ⟨Yi g2,Zv⟩
  · intro g2 M2;have h2:=sp g2
    refine oo 3 ?_;exact Zz M2 ⟨Yl g2,Zv⟩
  refine ox 2 ?_
 rotate_left
 focus
  replace h1:=sp h1
  refine xx 8 ?_
 all_goals
  refine Zq (q) func170 (Zu results170 rfl) ⟨_,rfl,congrArg Value.bool (by rw [Bool.eq_iff_iff,decide_eq_true_iff];simp_all),rfl⟩
set_option maxHeartbeats 1000000 in
theorem Zzv (g:GC q):CallF prog G 169 [.int .i64 cd] (q) (Ret fun v q'=>((¬ (1≤cd∧cd≤34)∧v= .tuple [.agg #[.string ⟨#[]⟩,.bool false,.bool false,.bool false],.bool false].toArray)∨((1≤cd∧cd≤34)∧ ∃ s,v= .tuple [.agg [.string s,.bool (nmA cd),.bool (decide (cd=26)),.bool (decide (cd=1))].toArray,.bool true].toArray))∧q'=q):=by
 refine CallF.of func169 ntmps169 rfl (fun F cs=> ?_)
 obtain ⟨L,hL,hs⟩:=g
 have hl:L.length=35:=by rw [←List.length_map (f:=fun x:ByteArray×Int=>x.2),hL];rfl
 refine xo 2 ?_;refine Zm zeroValue278 fun n1=> ?_
 refine oo 8 ?_;refine Zg [7,3,2,0] ?_
 apply Zw 3 10 7 rfl
 · intro g1 M1;have h1:=sp g1
   refine oo 3 ?_;exact Zz M1 ⟨orF g1,Zv⟩
 · intro g1 M1;have h1:=sp g1
   refine oo 3 ?_;exact Zz M1 ⟨orT g1,Zv⟩
 refine ox 1 ?_;refine X.part 10 rfl (fun h1=> ?_) (fun h1=> ?_)
 · replace h1:=sp h1
   refine xo 4 ?_;refine stA ?_;refine ox 2 ?_;refine Zq (q) func169 (Hd results169) ⟨_,rfl,.inl ⟨by omega,rfl⟩,rfl⟩
 replace h1:=sp h1
 refine xo 5 ?_
 have hr:1≤cd∧cd≤34:=(by omega)
 obtain ⟨_,w1,w2,w3⟩:=what_at hL (k:=cd.toNat) (by omega) (by omega);rw [show ((cd.toNat:Nat):Int)=cd by omega] at w1 w2 w3
 refine Zc (Td rfl rfl underlying306 sizeOf305 (by omega) (by omega)) ?_
 refine Wm (n:=cd.toNat) isAgg305 sizeOf305 hs (by omega) ?_
 refine Zm zeroValue305 fun n2=> ?_
 refine stA ?_;refine ol 4 ?_;refine ol 1 ?_;refine oo 2 ?_;refine Zg [20,16,4,3,2] ?_
 apply Zw 4 24 20 rfl
 · intro g2 M2;have h2:=sp g2
   refine ol 1 ?_;refine oo 2 ?_;exact Zz M2 ⟨orF g2,Zv⟩
 · intro g2 M2;have h2:=sp g2
   refine oo 4 ?_;exact Zz M2 ⟨orT g2,Zv⟩
 refine ol 1 ?_;refine ol 2 ?_;refine oo 2 ?_;refine stA ?_;refine ox 2 ?_;refine Zq (q) func169 (Hd results169) ⟨_,rfl,.inr ⟨hr,(L[cd.toNat]'(by omega)).1,by rw [←w1,←w2,←w3];rfl⟩,rfl⟩
set_option maxHeartbeats 2000000 in
theorem Zzk (g:GC q):CallF prog G 135 [.agg (Zx x).toArray] (q) (Ret fun v q'=>v= .bool (decide (Jk x))∧q'=q):=by
 refine CallF.of func135 ntmps135 rfl (fun F cs=> ?_)
 obtain ⟨xc,xa,xb,xn⟩:=x;simp only [Zx]
 refine xo 2 ?_;refine Zl fun n1=> ?_
 refine ol 5 ?_;refine Zh call169 (Le.refl _) (Zzv (cd:=xc) (g.le leA)) ?_
 rintro _ _ ⟨(⟨hr,rfl⟩|⟨hr,s,rfl⟩),rfl⟩
 iterate 2
  focus
   refine oo 3 ?_;refine Zm zeroValue278 fun n2=> ?_
   refine stA ?_;refine oo 6 ?_;refine Zc (Pu.not rfl) ?_;refine oo 1 ?_;refine Zg [13,3,2,1] ?_
   apply Zw 7 20 13 rfl
   · intro g1 M1;have h1:=sp g1
     refine ol 1 ?_;refine ol 1 ?_;refine XO.cR call170 (Ea) ?_;refine Zc (Pu.not rfl) ?_;refine oo 1 ?_;exact Zz M1 ⟨orF g1,Zv⟩
   · intro g1 M1;have h1:=sp g1
     refine oo 7 ?_;exact Zz M1 ⟨orT g1,Zv⟩
   refine oo 1 ?_;refine Zg [21,3,2,1] ?_
   apply Zw 7 28 21 rfl
   · intro g1 M1;have h1:=sp g1
     refine ol 1 ?_;refine ol 1 ?_;refine XO.cR call170 (Ea) ?_;refine Zc (Pu.not rfl) ?_;refine oo 1 ?_;exact Zz M1 ⟨orF g1,Zv⟩
   · intro g1 M1;have h1:=sp g1
     refine oo 7 ?_;exact Zz M1 ⟨orT g1,Zv⟩
   refine ox 1 ?_
  rotate_left
 · refine X.part 28 rfl (fun h1=> ?_) (fun h1=> ?_)
   focus
    replace h1:=sp h1
    refine xx 5 ?_
   rotate_left
   focus
    replace h1:=sp h1
    refine xl 6 ?_;refine ox 1 ?_;refine X.part 30 rfl (fun h2=> ?_) (fun h2=> ?_)
    focus
     replace h2:=sp h2
     refine xl 4 ?_;refine XO.cR call84 (Ml) ?_;refine ox 2 ?_
    rotate_left
    focus
     replace h2:=sp h2
     refine xl 5 ?_;refine ox 3 ?_
   all_goals
    refine Zq (q) func135 (Zu results135 rfl) ⟨_,rfl,congrArg Value.bool (by rw [Bool.eq_iff_iff];simp only [decide_eq_true_eq,Bool.false_eq_true,Jk];first|(simp_all;done)|(simp_all;omega)|(simp;intro k;exact absurd k hr)),rfl⟩
 refine X.part 28 rfl (fun h1=> ?_) (fun h1=> ?_)
 focus
  replace h1:=sp h1
  refine xx 5 ?_
 rotate_left
 focus
  replace h1:=sp h1
  refine xl 6 ?_;refine ox 1 ?_;refine X.part 30 rfl (fun h2=> ?_) (fun h2=> ?_)
  focus
   replace h2:=sp h2
   refine xl 4 ?_;refine XO.cR call84 (Ml) ?_;refine ox 2 ?_
  rotate_left
  focus
   replace h2:=sp h2
   refine xl 5 ?_;refine ox 3 ?_
 all_goals
  refine Zq (q) func135 (Zu results135 rfl) ⟨_,rfl,congrArg Value.bool (by rw [Bool.eq_iff_iff];simp only [decide_eq_true_eq,Bool.false_eq_true,Jk];first|(simp_all [Yn];done)|(by_cases e1:nmA xc=true<;>by_cases e2:xc=26<;>by_cases e3:xc=1<;>simp_all [Yn]<;>omega)),rfl⟩
theorem Im {l:List Ins}(g:GC q):Rdr prog G (.func (.func 135) #[] #[]) (fun x=> .agg (Zx x).toArray) (fun x=> .bool (decide (Jk x))) q l:=
 fun q1 h x _=>Q0 call135 (Zzk (g.le h))
end
section
variable {G:World}{q:List HP}{a b A:Option Addr}{c d C p p0 p1 p2 i:Nat}{lo hi n cd:Int}{fv:Value}{x:Ins}{t:Cod}{m:Mdl}
set_option maxHeartbeats 2000000 in
theorem Ch (g:GC q)(hq:CodQ q t):CallF prog G 87 [.agg (Y2 t).toArray] (q) (Ret fun v q'=>v= .bool (decide (Dx t))∧q'=q):=by
 refine CallF.of func87 ntmps87 rfl (fun F cs=> ?_)
 have hn:=hq.n;have hni:=hq.ni;have hnl:=hq.nl
 refine xo 2 ?_;refine Zl fun n1=> ?_
 refine ox 3 ?_;refine drw ?_;refine dl [1] 2 ?_;refine dd [3] ?_;refine Qd 0 call82 (J4) ?_;rintro _ _ ⟨pa1,pb1,rfl,rfl⟩ _ e_;simp only [ca,na] at e_;subst e_
 refine ⟨hlA,?_⟩
 refine Fo 4 (J8 call128 (J9 (p1:=pa1) (p2:=pb1) (lo:=1) (hi:=16) (Cl.of (l:= [.int .i64 1]) Vd rfl) (Cl.of (l:= [.int .i64 16]) Vd rfl))) ?_
 refine dd [5] ?_;refine XD.part 8 rfl (fun h1=> ?_) (fun h1=> ?_)
 focus
  replace h1:=sp h1
  refine dl [7] 8 ?_;refine Qd 6 call82 (J4) ?_;rintro _ _ ⟨pa2,pb2,rfl,rfl⟩ _ e_;simp only [ca,na] at e_;subst e_
  refine ⟨hlA,?_⟩
  refine Fo 9 (J8 call128 (J9 (p1:=pa2) (p2:=pb2) (lo:=0) (hi:=32) (Cl.of (l:= [.int .i64 0]) Vd rfl) (Cl.of (l:= [.int .i64 32]) Vd rfl))) ?_
  refine dd [10,11] ?_;refine XD.part 14 rfl (fun h2=> ?_) (fun h2=> ?_)
  focus
   replace h2:=sp h2
   refine dl [12] 13 ?_;refine dl [14,15] 16 ?_;refine dd [17,18,19,20] ?_;refine XD.part 23 rfl (fun h3=> ?_) (fun h3=> ?_)
   focus
    replace h3:=sp h3
    refine dl [21] 22 ?_;refine Z8 23 call134 (Zzi (u:=fun x=>decide (Jk x)) (hq.i.le leA) hq.ni ((Im g).le leA) rfl) ?_
    refine dd [24,25] ?_;refine XD.part 28 rfl (fun h4=> ?_) (fun h4=> ?_)
    focus
     replace h4:=sp h4
     refine dl [26] 27 ?_;refine Qd 28 call82 (J4) ?_;rintro _ _ ⟨pa3,pb3,rfl,rfl⟩ _ e_;simp only [ca,na] at e_;subst e_
     refine ⟨hlA,?_⟩
     refine Z8 29 call85 (Bt (u:=fun x=>decide (Yn x 0 65536)) (hq.l.le leA) hq.nl (Te (p1:=pa3) (p2:=pb3) (lo:=0) (hi:=65536) (Cl.of (l:= [.int .i64 0]) Vd rfl) (Cl.of (l:= [.int .i64 65536]) Vd rfl)) rfl) ?_
     refine dd [30,31] ?_
    rotate_left
    focus
     replace h4:=sp h4
     refine dd [26,27,28,29,30,31] ?_
   rotate_left 2
   focus
    replace h3:=sp h3
    refine dd [21,22,23,24,25,26,27,28,29,30,31] ?_
  rotate_left 3
  focus
   replace h2:=sp h2
   refine dd [12,13,14,15,16,17,18,19,20,21,22,23,24,25,26,27,28,29,30,31] ?_
 rotate_left 4
 focus
  replace h1:=sp h1
  refine dd [6,7,8,9,10,11,12,13,14,15,16,17,18,19,20,21,22,23,24,25,26,27,28,29,30,31] ?_
 all_goals
  refine XD.nil ?_;refine Zq (q) func87 (Zu results87 rfl) ⟨_,rfl,congrArg Value.bool (by first|(rw [Bool.eq_iff_iff];simp only [decide_eq_true_eq,Bool.false_eq_true,Dx];simp_all;done)|((first|(symm;rw [decide_eq_false_iff_not];done)|(rw [decide_eq_false_iff_not])|(symm;rw [decide_eq_false_iff_not]));rintro ⟨k1,k2,k3,k4,k5⟩;exact absurd k4 (by assumption))),rfl⟩
set_option maxHeartbeats 4000000 in
theorem Si (g:GC q)(hq:MdlQ q m):CallF prog G 54 [.agg (Wo m).toArray] (q) (Ret fun v q'=>v= .int .i64 (Tb m)∧q'=q):=by
 refine CallF.of func54 ntmps54 rfl (fun F cs=> ?_)
 have hnv:=hq.nv;have hna:=hq.na;have hnc:=hq.nc;have hnt:=hq.nt
 refine xo 2 ?_;refine Zl fun n1=> ?_
 refine oo 4 ?_;refine V3 call82 (J4) ?_;rintro _ _ ⟨pa4,pb4,rfl,rfl⟩ _ e_;simp only [ca,na] at e_;subst e_
 refine ox 4 ?_;refine drw ?_;refine dl [0,1] 2 ?_;refine Fo 3 (J8 call128 (J9 (p1:=pa4) (p2:=pb4) (lo:=0) (hi:=64) (Cl.of (l:= [.int .i64 0]) Vd rfl) (Cl.of (l:= [.int .i64 64]) Vd rfl))) ?_
 refine Vb 4 rfl (Pu.not rfl) ?_;refine dd [5] ?_;refine XD.part 10 rfl (fun h1=> ?_) (fun h1=> ?_)
 focus
  replace h1:=sp h1
  refine dd [6,7,8,9,10,11,12,13,14,15,16,17,18,19,20,21,22,23,24,25,26,27,28,29,30,31,32,33,34,35,36,37] ?_;refine XD.nil ?_;refine xx 5 ?_
 rotate_left
 focus
  replace h1:=sp h1
  refine dl [6,7] 8 ?_;refine Fo 9 (J8 call128 (J9 (p1:=pa4) (p2:=pb4) (lo:=0) (hi:=64) (Cl.of (l:= [.int .i64 0]) Vd rfl) (Cl.of (l:= [.int .i64 64]) Vd rfl))) ?_
  refine Vb 10 rfl (Pu.not rfl) ?_;refine dd [11,12] ?_;refine XD.part 17 rfl (fun h2=> ?_) (fun h2=> ?_)
  focus
   replace h2:=sp h2
   refine dd [13,14,15,16,17,18,19,20,21,22,23,24,25,26,27,28,29,30,31,32,33,34,35,36,37] ?_;refine XD.nil ?_;refine xx 5 ?_
  rotate_left
  focus
   replace h2:=sp h2
   refine dl [13] 14 ?_;refine Z8 15 call83 (Ll (u:=fun x=>decide (Yn x (-2147483648) 2147483647)) (hq.v.le leA) hq.nv Cx rfl) ?_
   refine Vb 16 rfl (Pu.not rfl) ?_;refine dd [17,18] ?_;refine XD.part 23 rfl (fun h3=> ?_) (fun h3=> ?_)
   focus
    replace h3:=sp h3
    refine dd [19,20,21,22,23,24,25,26,27,28,29,30,31,32,33,34,35,36,37] ?_;refine XD.nil ?_;refine xx 5 ?_
   rotate_left
   focus
    replace h3:=sp h3
    refine dl [19] 20 ?_;refine Qd 21 call82 (J4) ?_;rintro _ _ ⟨pa5,pb5,rfl,rfl⟩ _ e_;simp only [ca,na] at e_;subst e_
    refine ⟨hlA,?_⟩
    refine Z8 22 call85 (Bt (u:=fun x=>decide (Yn x 0 256)) (hq.a.le leA) hq.na (Te (p1:=pa5) (p2:=pb5) (lo:=0) (hi:=256) (Cl.of (l:= [.int .i64 0]) Vd rfl) (Cl.of (l:= [.int .i64 256]) Vd rfl)) rfl) ?_
    refine Vb 23 rfl (Pu.not rfl) ?_;refine dd [24,25] ?_;refine XD.part 30 rfl (fun h4=> ?_) (fun h4=> ?_)
    focus
     replace h4:=sp h4
     refine dd [26,27,28,29,30,31,32,33,34,35,36,37] ?_;refine XD.nil ?_;refine xx 5 ?_
    rotate_left
    focus
     replace h4:=sp h4
     refine dl [26] 27 ?_;refine Qd 28 call82 (J4) ?_;rintro _ _ ⟨pa6,pb6,rfl,rfl⟩ _ e_;simp only [ca,na] at e_;subst e_
     refine ⟨hlA,?_⟩
     refine Z8 29 call85 (Bt (u:=fun x=>decide (Yn x 1 16)) (hq.c.le leA) hq.nc (Te (p1:=pa6) (p2:=pb6) (lo:=1) (hi:=16) (Cl.of (l:= [.int .i64 1]) Vd rfl) (Cl.of (l:= [.int .i64 16]) Vd rfl)) rfl) ?_
     refine Vb 30 rfl (Pu.not rfl) ?_;refine dd [31,32] ?_;refine XD.part 37 rfl (fun h5=> ?_) (fun h5=> ?_)
     focus
      replace h5:=sp h5
      refine dd [33,34,35,36,37] ?_;refine XD.nil ?_;refine xx 5 ?_
     rotate_left
     focus
      replace h5:=sp h5
      refine dl [33] 34 ?_;refine Z8 35 call86 (I0 (u:=fun x=>decide (Dx x)) (hq.t.le leA) hq.nt (fun q1 h1 x hx=>Q0 call87 (Ch (g.le (h1.trans leA)) ((hq.x x hx).le (h1.trans leA)))) rfl) ?_
      refine Vb 36 rfl (Pu.not rfl) ?_;refine dd [37] ?_;refine XD.nil ?_;refine X.part 42 rfl (fun h6=> ?_) (fun h6=> ?_)
      focus
       replace h6:=sp h6
       refine xx 5 ?_
      rotate_left
      focus
       replace h6:=sp h6
       refine xx 6 ?_
 all_goals
  refine Zq (q) func54 (Zu results54 rfl) ⟨_,rfl,congrArg (Value.int _) (by unfold Tb;split<;>(rename_i hm;unfold Nw at hm;simp_all)),rfl⟩
end
theorem Tryz.info3:(prog.info? 3).map (fun i=>(i.zero,i.size,i.bytes))=some (some (.int .i64 0),1,8):=by kernel_rfl
abbrev Bl:=Int×Int×Int×Int
def Z5 (c:Int):Int×Int:=
 if c≤3∨c=30 then (0,1) else if c=4∨c=8∨c=9∨c=22 then (1,1) else if 10≤c∧c≤18 then (2,1) else if c=7 then (2,0) else if c=5∨c=6∨c=20∨c=21∨c=29∨c=33 then (1,0) else (0,0)
theorem Tq (c:Int):0≤(Z5 c).1∧0≤(Z5 c).2:=by
 unfold Z5
 split; · decide
 split; · decide
 split; · decide
 split; · decide
 split<;>decide
def Jc (i:Bl)(a:Nat):List Int:=
 if i.1=34 then [] else if i.1=19 then [i.2.1] else if i.1=20∨i.1=21 then if i.2.1=a+1 then [i.2.1] else [i.2.1,a+1] else [(a:Int)+1]
def zI:Bl:=(0,0,0,0)
def Vl (ins:List Bl)(a:Nat)(d:Int):Int×Int:=
 let i:=ins.getD a zI
 if d<(Z5 i.1).1∨d - (Z5 i.1).1+(Z5 i.1).2>25 then (0,173)
 else if (i.1=23∨i.1=34)∧d≠0 then (0,175)
 else if ∃ x∈Jc i a,(ins.length:Int)≤x then (0,172) else (d - (Z5 i.1).1+(Z5 i.1).2,0)
def dAt (D:List Int)(i:Nat):Int:=D.getD i (-1)
def Ug (b:Int):List Int→List Int→Option (List Int)
 |D, []=>some D
 |D,x::r=>if 0≤dAt D x.toNat∧dAt D x.toNat≠b then none else Ug b (D.set x.toNat b) r
abbrev Mx (D:List Int)(dn:List Bool)(i:Nat):Prop:=0≤dAt D i∧dn.getD i false=false
def Kj (D:List Int)(dn:List Bool):Option Nat:=(List.range D.length).find? fun i=>decide (Mx D dn i)
def Kq (ins:List Bl):Nat→List Int→List Bool→List Int×Int
 |0,D,_=>(D,0)
 |k+1,D,dn=>match Kj D dn with
  |none=>(D,0)
  |some a=>if (Vl ins a (dAt D a)).2≠0 then ([],(Vl ins a (dAt D a)).2) else match Ug (Vl ins a (dAt D a)).1 D (Jc (ins.getD a zI) a) with
   |none=>([],174)
   |some D'=>Kq ins k D' (dn.set a true)
theorem Ko {D:List Int}{dn:List Bool}{a:Nat}(h:Kj D dn=some a):a<D.length∧Mx D dn a∧ ∀ j,j<a→ ¬Mx D dn j:=by
 unfold Kj at h
 have h1:=List.find?_some h
 have h2:=List.mem_of_find?_eq_some h
 refine ⟨by simpa using h2,of_decide_eq_true h1,fun j hj hop=> ?_⟩
 obtain ⟨_,as1,bs1,e,hn⟩:=List.find?_eq_some_iff_append.1 h
 have hl:as1.length=a:=by
  have h3:(List.range D.length)[as1.length]? =some a:=by rw [e];simp
  have h4:as1.length<D.length:=by have:=congrArg List.length e;simp at this;omega
  rw [List.getElem?_eq_getElem (by simpa using h4)] at h3
  simpa using h3
 have hm:j∈as1:=by
  have h3:as1[j]? =some j:=by
   have h5:(List.range D.length)[j]? =as1[j]? :=by rw [e,List.getElem?_append_left (by omega)]
   rw [←h5]
   have h4:a<D.length:=by simpa using h2
   rw [List.getElem?_eq_getElem (by simp;omega)];simp
  exact List.mem_of_getElem? h3
 have:=hn j hm
 rw [decide_eq_true hop] at this;cases this
theorem Dq {D:List Int}{dn:List Bool}(h:Kj D dn=none): ∀ j,j<D.length→ ¬Mx D dn j:=by
 intro j hj hop
 have:=List.find?_eq_none.1 h j (by simpa using hj)
 exact this (decide_eq_true hop)
theorem Zzz {D:List Int}{dn:List Bool}{a:Nat}(h1:a<D.length)(h2:Mx D dn a)(h3: ∀ j,j<D.length→Mx D dn j→a≤j):Kj D dn=some a:=by
 cases h:Kj D dn with
 |none=>exact absurd h2 (Dq h a h1)
 |some b=>
  obtain ⟨k1,k2,k3⟩:=Ko h
  have:=h3 b k1 k2
  rcases Nat.lt_or_ge a b with h4|h4
  · exact absurd h2 (k3 a h4)
  rw [show b=a by omega]
theorem Fv {D:List Int}{dn:List Bool}(h: ∀ j,j<D.length→ ¬Mx D dn j):Kj D dn=none:=by
 cases h1:Kj D dn with
 |none=>rfl
 |some b=>obtain ⟨k1,k2,_⟩:=Ko h1;exact absurd k2 (h b k1)
theorem Mb {D:List Int}{i j:Nat}{b:Int}(hi:i<D.length):dAt (D.set i b) j=if j=i then b else dAt D j:=by
 unfold dAt
 simp only [List.getD_eq_getElem?_getD,List.getElem?_set]
 by_cases h:j=i
 · subst h;simp [hi]
 have h': ¬i=j:=fun e=>h e.symm
 simp [h,h']
theorem B1 {b:Int}(hb:0≤b): ∀ {l D D':List Int},(∀ x∈l,0≤x∧x<(D.length:Int))→Ug b D l=some D'→D'.length=D.length∧(∀ j,0≤dAt D j→dAt D' j=dAt D j)∧(∀ x∈l,dAt D' x.toNat=b)∧ ∀ j,0≤dAt D' j→0≤dAt D j∨(j:Int)∈l
 | [],D,D',_,h=>by cases h;exact ⟨rfl,fun _ _=>rfl,by simp,fun j h=> .inl h⟩
 |x::r,D,D',hx,h=>by
  unfold Ug at h
  split at h
  · cases h
  rename_i hc
  obtain ⟨hx0,hx1⟩:=hx x (List.mem_cons_self ..)
  have hxl:x.toNat<D.length:=by omega
  obtain ⟨k1,k2,k3,k4⟩:=B1 hb (l:=r) (D:=D.set x.toNat b) (fun y hy=>by rw [List.length_set];exact hx y (List.mem_cons_of_mem _ hy)) h
  have e:=fun j=>Mb (D:=D) (i:=x.toNat) (j:=j) (b:=b) hxl
  refine ⟨by rw [k1,List.length_set],fun j hj=> ?_,fun y hy=> ?_,fun j hj=> ?_⟩
  · have h1:0≤dAt (D.set x.toNat b) j:=by rw [e];split<;>omega
    rw [k2 j h1,e]
    split
    · rename_i e1
      subst e1
      rcases Decidable.em (dAt D x.toNat=b) with h2|h2
      · exact h2.symm
      exact absurd ⟨hj,h2⟩ hc
    rfl
  · rcases List.mem_cons.1 hy with rfl|hy
    · have h1:0≤dAt (D.set y.toNat b) y.toNat:=by rw [e,if_pos rfl];exact hb
      rw [k2 _ h1,e,if_pos rfl]
    exact k3 y hy
  rcases k4 j hj with h1|h1
  · rw [e] at h1
    split at h1
    · rename_i e1;right;rw [e1];simp;left;omega
    exact .inl h1
  exact .inr (List.mem_cons_of_mem _ h1)
def Goes (ins:List Bl)(D:List Int)(a:Nat):Prop:=(Vl ins a (dAt D a)).2=0∧ ∀ x∈Jc (ins.getD a zI) a,dAt D x.toNat=(Vl ins a (dAt D a)).1
theorem J6 {ins:List Bl}{a:Nat}{d:Int}(h:(Vl ins a d).2=0):(∀ x∈Jc (ins.getD a zI) a,x<(ins.length:Int))∧(0≤d→0≤(Vl ins a d).1)∧ ¬d<(Z5 (ins.getD a zI).1).1:=by
 unfold Vl at h⊢
 simp only at h⊢
 split at h
 · cases h
 rename_i h1
 split at h
 · cases h
 rename_i h2
 split at h
 · cases h
 rename_i h3
 rw [if_neg h1,if_neg h2,if_neg h3]
 refine ⟨fun x hx=> ?_,fun hd=> ?_,fun h4=>h1 (.inl h4)⟩
 · rcases Int.lt_or_le x ins.length with h4|h4
   · exact h4
   exact absurd ⟨x,hx,h4⟩ h3
 have:=Tq (ins.getD a zI).1
 dsimp only;omega
theorem Gr {ins:List Bl}(hA: ∀ i∈ins,(i.1=19∨i.1=20∨i.1=21)→0≤i.2.1): ∀ (k:Nat) (D:List Int) (dn:List Bool),D.length=ins.length→dn.length=ins.length→(dn.filter (· ==false)).length≤k→
 (∀ a,a<ins.length→dn.getD a false=true→0≤dAt D a∧Goes ins D a)→(Kq ins k D dn).2=0→(Kq ins k D dn).1.length=ins.length∧(∀ a,0≤dAt D a→dAt (Kq ins k D dn).1 a=dAt D a)∧ ∀ a,a<ins.length→0≤dAt (Kq ins k D dn).1 a→Goes ins (Kq ins k D dn).1 a:=by
 have noF: ∀ dn:List Bool,(dn.filter (· ==false)).length=0→ ∀ a,a<dn.length→dn.getD a false=true:=by
  intro dn h a ha
  have h1:=List.eq_nil_of_length_eq_zero h
  rw [List.filter_eq_nil_iff] at h1
  have:=h1 dn[a] (List.getElem_mem ha)
  simp [List.getD,ha]
  simpa using this
 have cnt: ∀ (dn:List Bool) (a:Nat),a<dn.length→dn.getD a false=false→((dn.set a true).filter (· ==false)).length+1=(dn.filter (· ==false)).length:=by
  intro dn
  induction dn with
  |nil=>intro a h;simp at h
  |cons x r ih=>
   intro a ha h
   cases a with
   |zero=>simp at h;subst h;simp
   |succ a=>
    have:=ih a (by simpa using ha) (by simpa using h)
    cases x
    · simp only [List.set_cons_succ,List.filter_cons,beq_self_eq_true,if_true,List.length_cons];omega
    simpa using this
 intro k
 induction k with
 |zero=>
  intro D dn h1 h2 h3 h4 _
  refine ⟨h1,fun a _=>rfl,fun a ha _=>(h4 a ha (noF dn (by omega) a (by omega))).2⟩
 |succ k ih=>
  intro D dn h1 h2 h3 h4 h5
  unfold Kq at h5⊢
  split at h5
  · rename_i hn
    refine ⟨h1,fun a _=>rfl,fun a ha hd=> ?_⟩
    have hno:=Dq hn a (by omega)
    have:dn.getD a false=true:=by
     cases hb:dn.getD a false with
     |true=>rfl
     |false=>exact absurd ⟨hd,hb⟩ hno
    exact (h4 a ha this).2
  rename_i a ha
  obtain ⟨k1,⟨k2,k3⟩,_⟩:=Ko ha
  split at h5
  · rename_i h6;exact absurd h5 h6
  rename_i h6
  have h6':(Vl ins a (dAt D a)).2=0:=by omega
  rw [if_neg h6]
  split at h5
  · cases h5
  rename_i D' hv
  obtain ⟨n1,n2,n3⟩:=J6 h6'
  have hx: ∀ x∈Jc (ins.getD a zI) a,0≤x∧x<(D.length:Int):=fun x hx=>by
   refine ⟨?_,by rw [h1];exact n1 x hx⟩
   unfold Jc at hx
   have hmem:ins.getD a zI∈ins:=by
    have:ins.getD a zI=ins[a]'(by omega):=by simp [List.getD,show a<ins.length by omega]
    rw [this];exact List.getElem_mem _
   have hAi:=hA _ hmem
   split at hx
   · simp at hx
   split at hx
   · rename_i e;rw [List.mem_singleton.1 hx];exact hAi (.inl e)
   split at hx
   · rename_i e
     have h7:=hAi (by omega)
     split at hx
     · rw [List.mem_singleton.1 hx];exact h7
     rcases List.mem_cons.1 hx with rfl|hx
     · exact h7
     rw [List.mem_singleton.1 hx];omega
   simp at hx;omega
  obtain ⟨v1,v2,v3,v4⟩:=B1 (n2 k2) hx hv
  have hal:a<ins.length:=by omega
  obtain ⟨r1,r2,r3⟩:=ih D' (dn.set a true) (by omega) (by rw [List.length_set];exact h2) (by have:=cnt dn a (by omega) k3;omega) (fun b hb hdb=>by
   have hbD:0≤dAt D b∧((Vl ins b (dAt D b)).2=0∧ ∀ x∈Jc (ins.getD b zI) b,dAt D' x.toNat=(Vl ins b (dAt D b)).1):=by
    by_cases e:b=a
    · subst e;exact ⟨k2,h6',v3⟩
    have:dn.getD b false=true:=by
     simp only [List.getD_eq_getElem?_getD,List.getElem?_set,show ¬a=b from fun x=>e x.symm,if_false] at hdb
     simpa [List.getD_eq_getElem?_getD] using hdb
    obtain ⟨g1,g2,g3⟩:=h4 b hb this
    refine ⟨g1,g2,fun x hx=> ?_⟩
    have h8:=g3 x hx
    have h9:0≤dAt D x.toNat:=by rw [h8];exact (J6 g2).2.1 g1
    rw [v2 _ h9];exact h8
   obtain ⟨g1,g2,g3⟩:=hbD
   have e2:=v2 b g1
   refine ⟨by rw [e2];exact g1,by rw [e2];exact g2,fun x hx=>by rw [e2];exact g3 x hx⟩) h5
  refine ⟨r1,fun b hb=> ?_,r3⟩
  have:=v2 b hb
  rw [r2 b (by rw [this];exact hb),this]
def Ins.t (i:Ins):Bl:=(i.c,i.a,i.b,i.n)
def efC (x:Int×Int):List Value:= [.int .i64 x.1,.int .i64 x.2]
def effL:List (Int×Int):= [(0,0),(0,1),(0,1),(0,1),(1,1),(1,0),(1,0),(2,0),(1,1),(1,1),(2,1),(2,1),(2,1),(2,1),(2,1),(2,1),(2,1),(2,1),(2,1),(0,0),(1,0),(1,0),(1,1),(0,0),(0,0),(0,0),(0,0),(0,0),(0,0),(1,0),(0,1),(0,0),(0,0),(1,0),(0,0)]
theorem effL_at: ∀ k:Fin 35,1≤k.val→effL[k.val]'k.isLt=Z5 k.val:=by decide
def GE (q:List HP):Prop:=Sees q (some ⟨0,0,none⟩) (effL.flatMap efC)
theorem GE.le {q q':List HP}(h:GE q')(k:Le q q'):GE q:=Sees.le h k
section
variable {G:World}{q pre:List HP}{a b A:Option Addr}{c d C p p0 p1 p2 i:Nat}{lo hi n cd dep:Int}{fv:Value}{x y:Ins}{t:Cod}{m:Mdl}{at_:Int}
set_option maxHeartbeats 1000000 in
theorem REffect_ok:CallF prog G 65 [.int .i64 cd] (q) (Ret fun v q'=>v=(if 1≤cd∧cd≤34 then .tuple [.int .i64 (Z5 cd).1,.int .i64 (Z5 cd).2,.bool true].toArray else .tuple [.int .i64 0,.int .i64 0,.bool false].toArray)∧q'=q):=by
 refine CallF.of func65 ntmps65 rfl (fun F cs=> ?_)
 refine xo 13 ?_;refine Zg [8,4,3,2,0] ?_
 apply Zw 3 11 8 rfl
 · intro g1 M1;have h1:=sp g1
   refine oo 3 ?_;exact Zz M1 ⟨orF g1,Zv⟩
 · intro g1 M1;have h1:=sp g1
   refine oo 3 ?_;exact Zz M1 ⟨orT g1,Zv⟩
 refine ox 2 ?_;refine X.part 5 rfl (fun h1=> ?_) (fun h1=> ?_)
 · replace h1:=sp h1
   refine xx 7 ?_;refine Zq (q) func65 (res3 results65 rfl rfl rfl) ⟨_,rfl,by rw [if_neg (by omega)],rfl⟩
 replace h1:=sp h1
 refine xo 6 ?_;refine Zg [15,4,3,2,0] ?_
 apply Zw 3 18 15 rfl
 · intro g2 M2;have h2:=sp g2
   refine oo 3 ?_;exact Zz M2 ⟨orF g2,Zv⟩
 · intro g2 M2;have h2:=sp g2
   refine oo 3 ?_;exact Zz M2 ⟨orT g2,Zv⟩
 refine ox 2 ?_;refine X.part 12 rfl (fun h2=> ?_) (fun h2=> ?_)
 focus
  replace h2:=sp h2
  refine xx 7 ?_
 rotate_left
 focus
  replace h2:=sp h2
  refine xo 6 ?_;refine Zg [22,4,3,2,0] ?_
  apply Zw 3 25 22 rfl
  · intro g3 M3;have h3:=sp g3
    refine oo 3 ?_;exact Zz M3 ⟨orF g3,Zv⟩
  · intro g3 M3;have h3:=sp g3
    refine oo 3 ?_;exact Zz M3 ⟨orT g3,Zv⟩
  refine oo 1 ?_;refine Zg [26,4,3,2,0] ?_
  apply Zw 3 29 26 rfl
  · intro g3 M3;have h3:=sp g3
    refine oo 3 ?_;exact Zz M3 ⟨orF g3,Zv⟩
  · intro g3 M3;have h3:=sp g3
    refine oo 3 ?_;exact Zz M3 ⟨orT g3,Zv⟩
  refine oo 1 ?_;refine Zg [30,4,3,2,0] ?_
  apply Zw 3 33 30 rfl
  · intro g3 M3;have h3:=sp g3
    refine oo 3 ?_;exact Zz M3 ⟨orF g3,Zv⟩
  · intro g3 M3;have h3:=sp g3
    refine oo 3 ?_;exact Zz M3 ⟨orT g3,Zv⟩
  refine ox 2 ?_;refine X.part 19 rfl (fun h3=> ?_) (fun h3=> ?_)
  focus
   replace h3:=sp h3
   refine xx 7 ?_
  rotate_left
  focus
   replace h3:=sp h3
   refine xo 6 ?_;refine Zg [37,4,3,2,0] ?_
   apply Zf 3 40 37 rfl
   · intro g4 M4;have h4:=sp g4
     refine oo 3 ?_;exact Zz M4 ⟨Yi g4,Zv⟩
   · intro g4 M4;have h4:=sp g4
     refine oo 3 ?_;exact Zz M4 ⟨Yl g4,Zv⟩
   refine ox 2 ?_;refine X.part 34 rfl (fun h4=> ?_) (fun h4=> ?_)
   focus
    replace h4:=sp h4
    refine xx 7 ?_
   rotate_left
   focus
    replace h4:=sp h4
    refine xx 7 ?_;refine X.part 41 rfl (fun h5=> ?_) (fun h5=> ?_)
    focus
     replace h5:=sp h5
     refine xx 7 ?_
    rotate_left
    focus
     replace h5:=sp h5
     refine xo 6 ?_;refine Zg [47,4,3,2,0] ?_
     apply Zw 3 50 47 rfl
     · intro g6 M6;have h6:=sp g6
       refine oo 3 ?_;exact Zz M6 ⟨orF g6,Zv⟩
     · intro g6 M6;have h6:=sp g6
       refine oo 3 ?_;exact Zz M6 ⟨orT g6,Zv⟩
     refine oo 1 ?_;refine Zg [51,4,3,2,0] ?_
     apply Zw 3 54 51 rfl
     · intro g6 M6;have h6:=sp g6
       refine oo 3 ?_;exact Zz M6 ⟨orF g6,Zv⟩
     · intro g6 M6;have h6:=sp g6
       refine oo 3 ?_;exact Zz M6 ⟨orT g6,Zv⟩
     refine oo 1 ?_;refine Zg [55,4,3,2,0] ?_
     apply Zw 3 58 55 rfl
     · intro g6 M6;have h6:=sp g6
       refine oo 3 ?_;exact Zz M6 ⟨orF g6,Zv⟩
     · intro g6 M6;have h6:=sp g6
       refine oo 3 ?_;exact Zz M6 ⟨orT g6,Zv⟩
     refine oo 1 ?_;refine Zg [59,4,3,2,0] ?_
     apply Zw 3 62 59 rfl
     · intro g6 M6;have h6:=sp g6
       refine oo 3 ?_;exact Zz M6 ⟨orF g6,Zv⟩
     · intro g6 M6;have h6:=sp g6
       refine oo 3 ?_;exact Zz M6 ⟨orT g6,Zv⟩
     refine oo 1 ?_;refine Zg [63,4,3,2,0] ?_
     apply Zw 3 66 63 rfl
     · intro g6 M6;have h6:=sp g6
       refine oo 3 ?_;exact Zz M6 ⟨orF g6,Zv⟩
     · intro g6 M6;have h6:=sp g6
       refine oo 3 ?_;exact Zz M6 ⟨orT g6,Zv⟩
     refine ox 2 ?_;refine X.part 44 rfl (fun h6=> ?_) (fun h6=> ?_)
     focus
      replace h6:=sp h6
      refine xx 7 ?_
     rotate_left
     focus
      replace h6:=sp h6
      refine xx 9 ?_
 all_goals
  refine Zq (q) func65 (res3 results65 rfl rfl rfl) ⟨_,rfl,by rw [if_pos (by omega)];unfold Z5;(repeat' split)<;>first|rfl|omega,rfl⟩
def nxt (x:Ins)(at_:Int):List Int:=if x.c=34 then [] else if x.c=19 then [x.a] else if x.c=20∨x.c=21 then if x.a=at_+1 then [x.a] else [x.a,at_+1] else [at_+1]
theorem Ee (x:Ins)(k:Nat):nxt x k=Jc x.t k:=rfl
def ivs (n:Int):List Value:= [.int .i64 n]
theorem Ie {y:Nat}{J:Nat→HP}{Jf:HP→Prop}(hat:0≤at_∧at_≤1000000000000)
 (hy: ∀ i (h:i<((nxt x at_).map ivs).length),CallV prog G (.func (.yield y) #[] #[]) ((nxt x at_).map ivs)[i] (J i:: [im p1 (.cells (Zx x).toArray 48 (0,0)),im p2 (.cells [.int .i64 at_].toArray 3 (0,0))]) (Ret fun v q=>(v= .bool true∧q=J (i+1):: [im p1 (.cells (Zx x).toArray 48 (0,0)),im p2 (.cells [.int .i64 at_].toArray 3 (0,0))])∨(v= .bool false∧ ∃ A,Jf A∧q=A:: [im p1 (.cells (Zx x).toArray 48 (0,0)),im p2 (.cells [.int .i64 at_].toArray 3 (0,0))]))):
 CallF prog G 138 [.func (.yield y) #[] #[],.pointer (some ⟨p1,0,none⟩),.pointer (some ⟨p2,0,none⟩)] (J 0:: [im p1 (.cells (Zx x).toArray 48 (0,0)),im p2 (.cells [.int .i64 at_].toArray 3 (0,0))]) (Ret fun _ q=>q=J (nxt x at_).length:: [im p1 (.cells (Zx x).toArray 48 (0,0)),im p2 (.cells [.int .i64 at_].toArray 3 (0,0))]∨ ∃ A,Jf A∧q=A:: [im p1 (.cells (Zx x).toArray 48 (0,0)),im p2 (.cells [.int .i64 at_].toArray 3 (0,0))]):=by
 refine CallF.of func138 ntmps138 rfl (fun F cs=> ?_)
 refine xl 4 ?_;refine ox 7 ?_;refine X.part 6 rfl (fun h1=> ?_) (fun h1=> ?_)
 · replace h1:=sp h1;have hN:nxt x at_= []:=by unfold nxt;rw [if_pos h1]
   refine xx 1 ?_;refine Zq (J 0:: [im p1 (.cells (Zx x).toArray 48 (0,0)),im p2 (.cells [.int .i64 at_].toArray 3 (0,0))]) func138 (V4 results138) ⟨_,rfl,.inl (by rw [hN];rfl)⟩
 replace h1:=sp h1
 refine xx 6 ?_;refine X.part 8 rfl (fun h2=> ?_) (fun h2=> ?_)
 · replace h2:=sp h2;have hN:nxt x at_= [x.a]:=by unfold nxt;rw [if_neg h1,if_pos h2]
   rw [hN] at hy;have Y0:=hy 0 (by simp)
   refine xl 5 ?_;refine XO.cV (Y0) ?_;rintro _ _ (⟨rfl,rfl⟩|⟨rfl,A,hA,rfl⟩) _ e_<;>simp only [ca,na] at e_<;>subst e_
   · refine ox 1 ?_;refine Zq (J 1:: [im p1 (.cells (Zx x).toArray 48 (0,0)),im p2 (.cells [.int .i64 at_].toArray 3 (0,0))]) func138 (V4 results138) ⟨_,rfl,.inl (by rw [hN];rfl)⟩
   refine ox 1 ?_;refine Zq (A:: [im p1 (.cells (Zx x).toArray 48 (0,0)),im p2 (.cells [.int .i64 at_].toArray 3 (0,0))]) func138 (V4 results138) ⟨_,rfl,.inr ⟨A,hA,rfl⟩⟩
 replace h2:=sp h2
 refine xx 7 ?_;refine X.part 14 rfl (fun h3=> ?_) (fun h3=> ?_)
 · replace h3:=sp h3
   refine xl 7 ?_
   have h3:x.c=20∨x.c=21:= .inl h3
   rcases Decidable.em (x.a=at_+1) with h5|h5
   focus
    have hN:nxt x at_= [x.a]:=by unfold nxt;rw [if_neg h1,if_neg h2,if_pos h3,if_pos h5]
    rw [hN] at hy;have Y0:=hy 0 (by simp)
    refine XO.cV (Y0) ?_;rintro _ _ (⟨rfl,rfl⟩|⟨rfl,A,hA,rfl⟩) _ e_<;>simp only [ca,na] at e_<;>subst e_
    · refine Zc (Pu.not rfl) ?_;refine oo 1 ?_;refine Y4 22 ?_;refine ol 1 ?_;refine ld ?_;refine ox 4 ?_;refine X.know 28 (.bool true) rfl (congrArg Value.bool (by rw [beq_iff_eq];exact h5)) ?_
      refine xx 1 ?_;refine Zq (J 1:: [im p1 (.cells (Zx x).toArray 48 (0,0)),im p2 (.cells [.int .i64 at_].toArray 3 (0,0))]) func138 (V4 results138) ⟨_,rfl,.inl (by rw [hN];rfl)⟩
   rotate_left
   focus
    have hN:nxt x at_= [x.a,at_+1]:=by unfold nxt;rw [if_neg h1,if_neg h2,if_pos h3,if_neg h5]
    rw [hN] at hy;have Y0:=hy 0 (by simp);have Y1:=hy 1 (by simp)
    refine XO.cV (Y0) ?_;rintro _ _ (⟨rfl,rfl⟩|⟨rfl,A,hA,rfl⟩) _ e_<;>simp only [ca,na] at e_<;>subst e_
    · refine Zc (Pu.not rfl) ?_;refine oo 1 ?_;refine Y4 22 ?_;refine ol 1 ?_;refine ld ?_;refine ox 4 ?_;refine X.know 28 (.bool false) rfl (congrArg Value.bool (by rw [beq_eq_false_iff_ne];exact h5)) ?_
      refine xl 5 ?_;refine oo 1 ?_;refine XO.cV (Y1) ?_;rintro _ _ (⟨rfl,rfl⟩|⟨rfl,A,hA,rfl⟩) _ e_<;>simp only [ca,na] at e_<;>subst e_
      · refine ox 1 ?_;refine Yo (J 2:: [im p1 (.cells (Zx x).toArray 48 (0,0)),im p2 (.cells [.int .i64 at_].toArray 3 (0,0))]) func138 (V4 results138) ⟨_,rfl,.inl (by rw [hN];rfl)⟩
      refine ox 1 ?_;refine Yo (A:: [im p1 (.cells (Zx x).toArray 48 (0,0)),im p2 (.cells [.int .i64 at_].toArray 3 (0,0))]) func138 (V4 results138) ⟨_,rfl,.inr ⟨A,hA,rfl⟩⟩
   all_goals
    refine Zc (Pu.not rfl) ?_;refine oo 1 ?_;refine XO.kt 22 ?_;refine ox 8 ?_;refine Zq (A:: [im p1 (.cells (Zx x).toArray 48 (0,0)),im p2 (.cells [.int .i64 at_].toArray 3 (0,0))]) func138 (V4 results138) ⟨_,rfl,.inr ⟨A,hA,rfl⟩⟩
 replace h3:=sp h3
 refine xx 5 ?_;refine X.part 14 rfl (fun h4=> ?_) (fun h4=> ?_)
 · replace h4:=sp h4
   have h3:x.c=20∨x.c=21:= .inr h4
   rcases Decidable.em (x.a=at_+1) with h5|h5
   focus
    have hN:nxt x at_= [x.a]:=by unfold nxt;rw [if_neg h1,if_neg h2,if_pos h3,if_pos h5]
    rw [hN] at hy;have Y0:=hy 0 (by simp)
    refine xl 5 ?_;refine XO.cV (Y0) ?_;rintro _ _ (⟨rfl,rfl⟩|⟨rfl,A,hA,rfl⟩) _ e_<;>simp only [ca,na] at e_<;>subst e_
    · refine Zc (Pu.not rfl) ?_;refine oo 1 ?_;refine Y4 22 ?_;refine ol 1 ?_;refine ld ?_;refine ox 4 ?_;refine X.know 28 (.bool true) rfl (congrArg Value.bool (by rw [beq_iff_eq];exact h5)) ?_
      refine xx 1 ?_;refine Zq (J 1:: [im p1 (.cells (Zx x).toArray 48 (0,0)),im p2 (.cells [.int .i64 at_].toArray 3 (0,0))]) func138 (V4 results138) ⟨_,rfl,.inl (by rw [hN];rfl)⟩
   rotate_left
   focus
    have hN:nxt x at_= [x.a,at_+1]:=by unfold nxt;rw [if_neg h1,if_neg h2,if_pos h3,if_neg h5]
    rw [hN] at hy;have Y0:=hy 0 (by simp);have Y1:=hy 1 (by simp)
    refine xl 5 ?_;refine XO.cV (Y0) ?_;rintro _ _ (⟨rfl,rfl⟩|⟨rfl,A,hA,rfl⟩) _ e_<;>simp only [ca,na] at e_<;>subst e_
    · refine Zc (Pu.not rfl) ?_;refine oo 1 ?_;refine Y4 22 ?_;refine ol 1 ?_;refine ld ?_;refine ox 4 ?_;refine X.know 28 (.bool false) rfl (congrArg Value.bool (by rw [beq_eq_false_iff_ne];exact h5)) ?_
      refine xl 5 ?_;refine oo 1 ?_;refine XO.cV (Y1) ?_;rintro _ _ (⟨rfl,rfl⟩|⟨rfl,A,hA,rfl⟩) _ e_<;>simp only [ca,na] at e_<;>subst e_
      · refine ox 1 ?_;refine Yo (J 2:: [im p1 (.cells (Zx x).toArray 48 (0,0)),im p2 (.cells [.int .i64 at_].toArray 3 (0,0))]) func138 (V4 results138) ⟨_,rfl,.inl (by rw [hN];rfl)⟩
      refine ox 1 ?_;refine Yo (A:: [im p1 (.cells (Zx x).toArray 48 (0,0)),im p2 (.cells [.int .i64 at_].toArray 3 (0,0))]) func138 (V4 results138) ⟨_,rfl,.inr ⟨A,hA,rfl⟩⟩
   all_goals
    refine Zc (Pu.not rfl) ?_;refine oo 1 ?_;refine XO.kt 22 ?_;refine ox 8 ?_;refine Zq (A:: [im p1 (.cells (Zx x).toArray 48 (0,0)),im p2 (.cells [.int .i64 at_].toArray 3 (0,0))]) func138 (V4 results138) ⟨_,rfl,.inr ⟨A,hA,rfl⟩⟩
 replace h4:=sp h4
 have hN:nxt x at_= [at_+1]:=by unfold nxt;rw [if_neg h1,if_neg h2,if_neg (by omega)]
 rw [hN] at hy;have Y0:=hy 0 (by simp)
 refine xl 5 ?_;refine oo 1 ?_;refine XO.cV (Y0) ?_;rintro _ _ (⟨rfl,rfl⟩|⟨rfl,A,hA,rfl⟩) _ e_<;>simp only [ca,na] at e_<;>subst e_
 · refine ox 1 ?_;refine Yo (J 1:: [im p1 (.cells (Zx x).toArray 48 (0,0)),im p2 (.cells [.int .i64 at_].toArray 3 (0,0))]) func138 (V4 results138) ⟨_,rfl,.inl (by rw [hN];rfl)⟩
 refine ox 1 ?_;refine Yo (A:: [im p1 (.cells (Zx x).toArray 48 (0,0)),im p2 (.cells [.int .i64 at_].toArray 3 (0,0))]) func138 (V4 results138) ⟨_,rfl,.inr ⟨A,hA,rfl⟩⟩
theorem Dy (hat:0≤at_∧at_≤1000000000000):Iter prog G (.func (.func 138) [].toArray [.pointer (some ⟨p1,0,none⟩),.pointer (some ⟨p2,0,none⟩)].toArray) ((nxt x at_).map ivs) [im p1 (.cells (Zx x).toArray 48 (0,0)),im p2 (.cells [.int .i64 at_].toArray 3 (0,0))]:=by
 intro y J Jf hy
 rw [List.length_map]
 exact J8 call138 (Ie (G:=G) (p1:=p1) (p2:=p2) (J:=J) (Jf:=Jf) hat hy)
theorem G8:CallF prog G 92 [.agg (Zx x).toArray,.int .i64 at_] ([]) (Ret fun v q'=> ∃ p1 p2,v= .func (.func 138) [].toArray [.pointer (some ⟨p1,0,none⟩),.pointer (some ⟨p2,0,none⟩)].toArray∧q'= [pto p1 (.cells (Zx x).toArray 48 (0,0)),pto p2 (.cells [.int .i64 at_].toArray 3 (0,0))]):=by
 refine CallF.of func92 ntmps92 rfl (fun F cs=> ?_)
 refine xo 2 ?_;refine Zl fun n1=> ?_
 refine Zl fun n2=> ?_
 refine ox 7 ?_;refine Zq [pto n1 (.cells (Zx x).toArray 48 (0,0)),pto n2 (.cells [.int .i64 at_].toArray 3 (0,0))] func92 (Zu results92 rfl) ⟨_,rfl,n1,n2,rfl,rfl⟩
end
def Vw (m:Mdl)(t:Cod)(c:Int):Option Int:=
 if c=2∨c=5 then some m.vars.length else if c=3∨c=6 then some t.locals else if c=4∨c=7 then some m.arrays.length else if c=19∨c=20∨c=21 then some t.ins.length
 else if c=24∨c=25 then some m.mutexes else if c=26∨c=27∨c=28 then some m.conds else if c=29∨c=30 then some m.chans.length else if c=31 then some m.threads.length else none
def Kz (m:Mdl)(t:Cod)(i:Ins):Prop:=(∀ n,Vw m t i.c=some n→i.a<n)∧(i.c=26→i.b<m.mutexes)
instance (m:Mdl) (t:Cod) (i:Ins):Decidable (Kz m t i):=by
 unfold Kz
 have:Decidable (∀ n,Vw m t i.c=some n→i.a<n):=match Vw m t i.c with
  |none=> .isTrue (fun n h=>by cases h)
  |some k=>if h:i.a<k then .isTrue (fun n e=>by cases e;exact h) else .isFalse (fun e=>h (e k rfl))
 infer_instance
def cntL:List (Int×Value×Nat):= [(2,.func (.func 171) #[] #[],0),(5,.func (.func 171) #[] #[],1),(3,.func (.func 172) #[] #[],2),(6,.func (.func 172) #[] #[],3),(4,.func (.func 173) #[] #[],4),(7,.func (.func 173) #[] #[],5),(19,.func (.func 174) #[] #[],6),(20,.func (.func 174) #[] #[],7),(21,.func (.func 174) #[] #[],8),(24,.func (.func 175) #[] #[],9),(25,.func (.func 175) #[] #[],10),(26,.func (.func 176) #[] #[],11),(27,.func (.func 176) #[] #[],12),(28,.func (.func 176) #[] #[],13),(29,.func (.func 177) #[] #[],14),(30,.func (.func 177) #[] #[],15),(31,.func (.func 178) #[] #[],16)]
def H1 (e:Int×Value×Nat):MapEntry:= { key:= .int .i64 e.1,val:=e.2.1,born:=e.2.2 }
theorem cnt_none {m:Mdl}{t:Cod}{c:Int}(h: ∀ e∈cntL,e.1≠c):Vw m t c=none:=by
 simp only [cntL,List.mem_cons,forall_eq_or_imp,List.not_mem_nil,false_imp_iff,implies_true,and_true] at h
 unfold Vw
 (repeat' split)<;>first|rfl|omega
section
variable {G:World}{q pre:List HP}{a b A:Option Addr}{c d C p p0 p1 p2 i:Nat}{lo hi n cd dep:Int}{fv:Value}{x y:Ins}{t:Cod}{m:Mdl}{at_:Int}
variable {pm om pt ot:Nat}
theorem Xi (hm:CellsAt q pm om (Wo m))(ht:CellsAt q pt ot (Y2 t)):CallF prog G 171 [.pointer (some ⟨pm,om,none⟩),.pointer (some ⟨pt,ot,none⟩)] (q) (Ret fun v q'=>v= .int .i64 (m.vars.length:Int)∧q'=q):=by
 refine CallF.of func171 ntmps171 rfl (fun F cs=> ?_)
 refine xo 9 ?_;refine ld ?_ (hc:=((hm 0 _ rfl).le leA))
 refine ox 3 ?_;refine Zq (q) func171 (Zu results171 rfl) ⟨_,rfl,rfl,rfl⟩
theorem Xr (hm:CellsAt q pm om (Wo m))(ht:CellsAt q pt ot (Y2 t)):CallF prog G 172 [.pointer (some ⟨pm,om,none⟩),.pointer (some ⟨pt,ot,none⟩)] (q) (Ret fun v q'=>v= .int .i64 t.locals∧q'=q):=by
 refine CallF.of func172 ntmps172 rfl (fun F cs=> ?_)
 refine xo 9 ?_;refine ld ?_ (hc:=((ht 1 _ rfl).le leA))
 refine ox 2 ?_;refine Zq (q) func172 (Zu results172 rfl) ⟨_,rfl,rfl,rfl⟩
theorem Xt (hm:CellsAt q pm om (Wo m))(ht:CellsAt q pt ot (Y2 t)):CallF prog G 173 [.pointer (some ⟨pm,om,none⟩),.pointer (some ⟨pt,ot,none⟩)] (q) (Ret fun v q'=>v= .int .i64 (m.arrays.length:Int)∧q'=q):=by
 refine CallF.of func173 ntmps173 rfl (fun F cs=> ?_)
 refine xo 9 ?_;refine ld ?_ (hc:=((hm 1 _ rfl).le leA))
 refine ox 3 ?_;refine Zq (q) func173 (Zu results173 rfl) ⟨_,rfl,rfl,rfl⟩
theorem cnt4_ok (hm:CellsAt q pm om (Wo m))(ht:CellsAt q pt ot (Y2 t)):CallF prog G 174 [.pointer (some ⟨pm,om,none⟩),.pointer (some ⟨pt,ot,none⟩)] (q) (Ret fun v q'=>v= .int .i64 (t.ins.length:Int)∧q'=q):=by
 refine CallF.of func174 ntmps174 rfl (fun F cs=> ?_)
 refine xo 9 ?_;refine ld ?_ (hc:=((ht 2 _ rfl).le leA))
 refine ox 3 ?_;refine Zq (q) func174 (Zu results174 rfl) ⟨_,rfl,rfl,rfl⟩
theorem Xc (hm:CellsAt q pm om (Wo m))(ht:CellsAt q pt ot (Y2 t)):CallF prog G 175 [.pointer (some ⟨pm,om,none⟩),.pointer (some ⟨pt,ot,none⟩)] (q) (Ret fun v q'=>v= .int .i64 m.mutexes∧q'=q):=by
 refine CallF.of func175 ntmps175 rfl (fun F cs=> ?_)
 refine xo 9 ?_;refine ld ?_ (hc:=((hm 3 _ rfl).le leA))
 refine ox 2 ?_;refine Zq (q) func175 (Zu results175 rfl) ⟨_,rfl,rfl,rfl⟩
theorem Aw (hm:CellsAt q pm om (Wo m))(ht:CellsAt q pt ot (Y2 t)):CallF prog G 176 [.pointer (some ⟨pm,om,none⟩),.pointer (some ⟨pt,ot,none⟩)] (q) (Ret fun v q'=>v= .int .i64 m.conds∧q'=q):=by
 refine CallF.of func176 ntmps176 rfl (fun F cs=> ?_)
 refine xo 9 ?_;refine ld ?_ (hc:=((hm 4 _ rfl).le leA))
 refine ox 2 ?_;refine Zq (q) func176 (Zu results176 rfl) ⟨_,rfl,rfl,rfl⟩
theorem Xd (hm:CellsAt q pm om (Wo m))(ht:CellsAt q pt ot (Y2 t)):CallF prog G 177 [.pointer (some ⟨pm,om,none⟩),.pointer (some ⟨pt,ot,none⟩)] (q) (Ret fun v q'=>v= .int .i64 (m.chans.length:Int)∧q'=q):=by
 refine CallF.of func177 ntmps177 rfl (fun F cs=> ?_)
 refine xo 9 ?_;refine ld ?_ (hc:=((hm 2 _ rfl).le leA))
 refine ox 3 ?_;refine Zq (q) func177 (Zu results177 rfl) ⟨_,rfl,rfl,rfl⟩
theorem cnt8_ok (hm:CellsAt q pm om (Wo m))(ht:CellsAt q pt ot (Y2 t)):CallF prog G 178 [.pointer (some ⟨pm,om,none⟩),.pointer (some ⟨pt,ot,none⟩)] (q) (Ret fun v q'=>v= .int .i64 (m.threads.length:Int)∧q'=q):=by
 refine CallF.of func178 ntmps178 rfl (fun F cs=> ?_)
 refine xo 9 ?_;refine ld ?_ (hc:=((hm 5 _ rfl).le leA))
 refine ox 3 ?_;refine Zq (q) func178 (Zu results178 rfl) ⟨_,rfl,rfl,rfl⟩
theorem Xu {e:Int×Value×Nat}(h:e∈cntL): ∃ (f:Nat) (n:Int),e.2.1= .func (.func f) #[] #[]∧Vw m t e.1=some n∧(CellsAt q pm om (Wo m)→CellsAt q pt ot (Y2 t)→CallV prog G (.func (.func f) #[] #[]) [.pointer (some ⟨pm,om,none⟩),.pointer (some ⟨pt,ot,none⟩)] q (Ret fun v q'=>v= .int .i64 n∧q'=q)):=by
 simp only [cntL,List.mem_cons,List.not_mem_nil,or_false] at h
 rcases h with rfl|rfl|rfl|rfl|rfl|rfl|rfl|rfl|rfl|rfl|rfl|rfl|rfl|rfl|rfl|rfl|rfl
 · exact ⟨171,(m.vars.length:Int),rfl,by simp [Vw],fun h1 h2=>Z7 call171 (Xi h1 h2)⟩
 · exact ⟨171,(m.vars.length:Int),rfl,by simp [Vw],fun h1 h2=>Z7 call171 (Xi h1 h2)⟩
 · exact ⟨172,t.locals,rfl,by simp [Vw],fun h1 h2=>Z7 call172 (Xr h1 h2)⟩
 · exact ⟨172,t.locals,rfl,by simp [Vw],fun h1 h2=>Z7 call172 (Xr h1 h2)⟩
 · exact ⟨173,(m.arrays.length:Int),rfl,by simp [Vw],fun h1 h2=>Z7 call173 (Xt h1 h2)⟩
 · exact ⟨173,(m.arrays.length:Int),rfl,by simp [Vw],fun h1 h2=>Z7 call173 (Xt h1 h2)⟩
 rotate_left
 rotate_left
 rotate_left
 · exact ⟨175,m.mutexes,rfl,by simp [Vw],fun h1 h2=>Z7 call175 (Xc h1 h2)⟩
 · exact ⟨175,m.mutexes,rfl,by simp [Vw],fun h1 h2=>Z7 call175 (Xc h1 h2)⟩
 · exact ⟨176,m.conds,rfl,by simp [Vw],fun h1 h2=>Z7 call176 (Aw h1 h2)⟩
 · exact ⟨176,m.conds,rfl,by simp [Vw],fun h1 h2=>Z7 call176 (Aw h1 h2)⟩
 · exact ⟨176,m.conds,rfl,by simp [Vw],fun h1 h2=>Z7 call176 (Aw h1 h2)⟩
 · exact ⟨177,(m.chans.length:Int),rfl,by simp [Vw],fun h1 h2=>Z7 call177 (Xd h1 h2)⟩
 · exact ⟨177,(m.chans.length:Int),rfl,by simp [Vw],fun h1 h2=>Z7 call177 (Xd h1 h2)⟩
 · exact ⟨178,(m.threads.length:Int),rfl,by simp [Vw],fun h1 h2=>Z7 call178 (cnt8_ok h1 h2)⟩
 all_goals
  exact ⟨174,(t.ins.length:Int),rfl,by simp [Vw],fun h1 h2=>Z7 call174 (cnt4_ok h1 h2)⟩
set_option maxHeartbeats 1000000 in
theorem Zzn:CallF prog G 136 [] ([]) (Ret fun v q'=> ∃ n,v= .map (some n)∧q'= [pto n (.map (cntL.map H1).toArray 17)]):=by
 refine CallF.of func136 ntmps136 rfl (fun F cs=> ?_)
 refine xo 38 ?_;refine XO.ef (Ef.makeMap) ?_;rintro _ _ ⟨n1,rfl,rfl⟩
 refine oo 1 ?_;refine XO.ef0 (Ef.insert (es:= []) underlying239 underlying46 rfl rfl rfl Zj (by rfl)) ?_
 rintro _ _ ⟨rfl,rfl⟩
 refine oo 1 ?_;refine XO.ef0 (Ef.insert (es:=((cntL.take 1).map H1)) underlying239 underlying46 rfl rfl rfl Zj (by rfl)) ?_
 rintro _ _ ⟨rfl,rfl⟩
 refine oo 1 ?_;refine XO.ef0 (Ef.insert (es:=((cntL.take 2).map H1)) underlying239 underlying46 rfl rfl rfl Zj (by rfl)) ?_
 rintro _ _ ⟨rfl,rfl⟩
 refine oo 1 ?_;refine XO.ef0 (Ef.insert (es:=((cntL.take 3).map H1)) underlying239 underlying46 rfl rfl rfl Zj (by rfl)) ?_
 rintro _ _ ⟨rfl,rfl⟩
 refine oo 1 ?_;refine XO.ef0 (Ef.insert (es:=((cntL.take 4).map H1)) underlying239 underlying46 rfl rfl rfl Zj (by rfl)) ?_
 rintro _ _ ⟨rfl,rfl⟩
 refine oo 1 ?_;refine XO.ef0 (Ef.insert (es:=((cntL.take 5).map H1)) underlying239 underlying46 rfl rfl rfl Zj (by rfl)) ?_
 rintro _ _ ⟨rfl,rfl⟩
 refine oo 1 ?_;refine XO.ef0 (Ef.insert (es:=((cntL.take 6).map H1)) underlying239 underlying46 rfl rfl rfl Zj (by rfl)) ?_
 rintro _ _ ⟨rfl,rfl⟩
 refine oo 1 ?_;refine XO.ef0 (Ef.insert (es:=((cntL.take 7).map H1)) underlying239 underlying46 rfl rfl rfl Zj (by rfl)) ?_
 rintro _ _ ⟨rfl,rfl⟩
 refine oo 1 ?_;refine XO.ef0 (Ef.insert (es:=((cntL.take 8).map H1)) underlying239 underlying46 rfl rfl rfl Zj (by rfl)) ?_
 rintro _ _ ⟨rfl,rfl⟩
 refine oo 1 ?_;refine XO.ef0 (Ef.insert (es:=((cntL.take 9).map H1)) underlying239 underlying46 rfl rfl rfl Zj (by rfl)) ?_
 rintro _ _ ⟨rfl,rfl⟩
 refine oo 1 ?_;refine XO.ef0 (Ef.insert (es:=((cntL.take 10).map H1)) underlying239 underlying46 rfl rfl rfl Zj (by rfl)) ?_
 rintro _ _ ⟨rfl,rfl⟩
 refine oo 1 ?_;refine XO.ef0 (Ef.insert (es:=((cntL.take 11).map H1)) underlying239 underlying46 rfl rfl rfl Zj (by rfl)) ?_
 rintro _ _ ⟨rfl,rfl⟩
 refine oo 1 ?_;refine XO.ef0 (Ef.insert (es:=((cntL.take 12).map H1)) underlying239 underlying46 rfl rfl rfl Zj (by rfl)) ?_
 rintro _ _ ⟨rfl,rfl⟩
 refine oo 1 ?_;refine XO.ef0 (Ef.insert (es:=((cntL.take 13).map H1)) underlying239 underlying46 rfl rfl rfl Zj (by rfl)) ?_
 rintro _ _ ⟨rfl,rfl⟩
 refine oo 1 ?_;refine XO.ef0 (Ef.insert (es:=((cntL.take 14).map H1)) underlying239 underlying46 rfl rfl rfl Zj (by rfl)) ?_
 rintro _ _ ⟨rfl,rfl⟩
 refine oo 1 ?_;refine XO.ef0 (Ef.insert (es:=((cntL.take 15).map H1)) underlying239 underlying46 rfl rfl rfl Zj (by rfl)) ?_
 rintro _ _ ⟨rfl,rfl⟩
 refine oo 1 ?_;refine XO.ef0 (Ef.insert (es:=((cntL.take 16).map H1)) underlying239 underlying46 rfl rfl rfl Zj (by rfl)) ?_
 rintro _ _ ⟨rfl,rfl⟩
 refine ox 3 ?_;refine Zq [pto n1 (.map (cntL.map H1).toArray 17)] func136 (Zu results136 rfl) ⟨_,rfl,n1,rfl,rfl⟩
theorem cnt_call {e:Int×Value×Nat}{f:Nat}{n:Int}(h:e∈cntL)(h1:e.2.1= .func (.func f) #[] #[])(h2:Vw m t e.1=some n)(h3:CellsAt q pm om (Wo m))(h4:CellsAt q pt ot (Y2 t)):CallV prog G (.func (.func f) #[] #[]) [.pointer (some ⟨pm,om,none⟩),.pointer (some ⟨pt,ot,none⟩)] q (Ret fun v q'=>v= .int .i64 n∧q'=q):=by
 obtain ⟨f',n',k1,k2,k3⟩:=Xu (G:=G) (q:=q) (m:=m) (t:=t) (pm:=pm) (om:=om) (pt:=pt) (ot:=ot) h
 rw [h2] at k2;obtain rfl:=Option.some.inj k2
 have e1:=h1.symm.trans k1
 cases e1;exact k3 h3 h4
set_option maxHeartbeats 2000000 in
theorem P1 (hm:CellsAt q pm om (Wo m))(ht:CellsAt q pt ot (Y2 t))(hq:CodQ q t):CallF prog G 88 [.pointer (some ⟨pm,om,none⟩),.pointer (some ⟨pt,ot,none⟩)] (q) (Ret fun v q'=>v= .bool (decide (∀ x∈t.ins,Kz m t x))∧q'=q):=by
 refine CallF.of func88 ntmps88 rfl (fun F cs=> ?_)
 have hs:=hq.i;have hni:=hq.ni;have hlen:=Zb (f:=Zx) (sz:=4) (fun _=>rfl) t.ins
 refine xo 6 ?_;refine V3 call136 (Zzn) ?_;rintro _ _ ⟨nm,rfl,rfl⟩ _ e_;simp only [ca,na] at e_;subst e_
 refine oo 8 ?_;refine ld ?_ (hc:=((ht 2 _ rfl).le leA))
 refine ox 4 ?_;refine X.at (X.loop (fun (s:Nat×Option Addr)=>s.1≤t.ins.length∧s.2=t.ia∧ ∀ i (h:i<t.ins.length),i<s.1→Kz m t t.ins[i]) (fun s=> [(15,.int .i64 (s.1:Int)),(13,.slice s.2 t.ins.length t.ic),(14,.int .i64 (t.ins.length:Int)),(0,.pointer (some ⟨pm,om,none⟩)),(1,.pointer (some ⟨pt,ot,none⟩)),(5,.map (some nm))]) (fun s=>pto nm (.map (cntL.map H1).toArray 17)::(q++F)) (fun s=>t.ins.length - s.1) (fun s hi_ ih=> ?_) (0,t.ia) ⟨by dsimp only;omega,rfl,fun i _ k=>by dsimp only at k;omega⟩) Zp leA
 try dsimp only at hi_ ih⊢
 obtain ⟨hi1,hia,hi2⟩:=hi_
 obtain ⟨s,ia⟩:=s;dsimp only at*
 refine xx 5 ?_;refine X.part 16 rfl (fun h0=> ?_) (fun h0=> ?_)
 · replace h0:=sp h0;have hi0:s<t.ins.length:=(by omega)
   refine Jw hs (by rw [hlen];omega) (fun b1 o1 eA=> ?_)
   have hsA:=hs;rw [eA] at hsA;obtain rfl:ia=some ⟨b1,o1,none⟩:=hia.trans eA
   refine xo 7 ?_;refine Wm (n:=s) isAgg48 sizeOf48 hsA hi0 ?_
   refine Zm zeroValue48 fun n1=> ?_
   refine stA ?_;refine ol 6 ?_;obtain ⟨aF,hF,hA⟩:=Dk (kd:= .i64) (c:=t.ins[s].c) cntL 0
   refine XO.rd (Rd.lookup (es:=cntL.map H1) (clock:=17) underlying239 underlying46 rfl rfl Zj zeroValue241 hF) ?_
   rcases hA with ⟨rfl,hno⟩|⟨jF,eF,rfl,hmem,hec⟩
   focus
    have hcn:=cnt_none (m:=m) (t:=t) hno
    refine XO.know 22 (.nilFunc) rfl (rfl) ?_;refine ox 3 ?_;refine drw ?_;refine dd [0] ?_;refine Vb 1 rfl (W4 rfl underlying241) ?_;refine dd [2,3,4,5,6,7,8,9,10] ?_;refine XD.nil ?_;refine xx 3 ?_;refine drw ?_;refine dl [0] 1 ?_;refine dd [2,3] ?_;refine XD.part 37 rfl (fun h1=> ?_) (fun h1=> ?_)
    focus
     replace h1:=sp h1
     refine dl [4] 5 ?_;refine dd [6,7,8] ?_;refine ldD 9 ?_ (hc:=((hm 3 _ rfl).le leA))
     refine dd [10,11] ?_;refine XD.nil ?_;refine X.part 45 rfl (fun h2=> ?_) (fun h2=> ?_)
     · replace h2:=sp h2
       refine xx 5 ?_;refine Zq (q) func88 (Zu results88 rfl) ⟨_,rfl,congrArg Value.bool (by symm;rw [decide_eq_false_iff_not];intro ka;have kk:=ka _ (List.getElem_mem hi0);first|(have:=kk.2 (by omega);omega)|(have:=kk.1 _ hf2;omega)),rfl⟩
     replace h2:=sp h2
    rotate_left
    focus
     replace h1:=sp h1
     refine dd [4,5,6,7,8,9,10,11] ?_;refine XD.nil ?_
    all_goals
     refine xx 7 ?_
     have hsl:Kz m t t.ins[s]:=⟨(fun n e=>by rw [hcn] at e;cases e),fun e=>by omega⟩
   rotate_left 2
   focus
    obtain ⟨fF,nF,hf1,hf2,hf3⟩:=Xu (G:=G) (m:=m) (t:=t) (q:=q) (pm:=pm) (om:=om) (pt:=pt) (ot:=ot) hmem;rw [hec] at hf2
    refine XO.know 22 (.func (.func fF) #[] #[]) rfl (by exact hf1) ?_
    refine ox 3 ?_;refine drw ?_;refine dd [0] ?_;refine Vb 1 rfl (Kb rfl underlying241) ?_;refine dl [2,3] 4 ?_;refine dd [5,6,7] ?_;refine Fo 8 ((cnt_call hmem hf1 (hec ▸ hf2)) (hm.le leA) (ht.le leA)) ?_;refine dd [9,10] ?_;refine XD.nil ?_;refine X.part 33 rfl (fun h1=> ?_) (fun h1=> ?_)
    · replace h1:=sp h1
      refine xx 5 ?_;refine Zq (q) func88 (Zu results88 rfl) ⟨_,rfl,congrArg Value.bool (by symm;rw [decide_eq_false_iff_not];intro ka;have kk:=ka _ (List.getElem_mem hi0);first|(have:=kk.2 (by omega);omega)|(have:=kk.1 _ hf2;omega)),rfl⟩
    replace h1:=sp h1
    refine xx 3 ?_;refine drw ?_;refine dl [0] 1 ?_;refine dd [2,3] ?_;refine XD.part 37 rfl (fun h2=> ?_) (fun h2=> ?_)
    focus
     replace h2:=sp h2
     refine dl [4] 5 ?_;refine dd [6,7,8] ?_;refine ldD 9 ?_ (hc:=((hm 3 _ rfl).le leA))
     refine dd [10,11] ?_;refine XD.nil ?_;refine X.part 45 rfl (fun h3=> ?_) (fun h3=> ?_)
     · replace h3:=sp h3
       refine xx 5 ?_;refine Zq (q) func88 (Zu results88 rfl) ⟨_,rfl,congrArg Value.bool (by symm;rw [decide_eq_false_iff_not];intro ka;have kk:=ka _ (List.getElem_mem hi0);first|(have:=kk.2 (by omega);omega)|(have:=kk.1 _ hf2;omega)),rfl⟩
     replace h3:=sp h3
    rotate_left
    focus
     replace h2:=sp h2
     refine dd [4,5,6,7,8,9,10,11] ?_;refine XD.nil ?_
    all_goals
     refine xx 7 ?_
     have hsl:Kz m t t.ins[s]:=⟨(fun n e=>by rw [hf2] at e;cases e;omega),fun e=>by omega⟩
   all_goals
    refine X.at (ih (s+1,some ⟨b1,o1,none⟩) ⟨by dsimp only;omega,eA.symm,fun i hh k=>by rcases Nat.lt_or_ge i s with e|e;exact hi2 i hh e;obtain rfl:i=s:=(by dsimp only at k;omega);exact hsl⟩ (by dsimp only;omega)) Zp leA
 replace h0:=sp h0
 refine xx 6 ?_;refine Zq (q) func88 (Zu results88 rfl) ⟨_,rfl,congrArg Value.bool (by symm;rw [decide_eq_true_iff];intro x hx;obtain ⟨k,hk,rfl⟩:=List.getElem_of_mem hx;exact hi2 k hk (by omega)),rfl⟩
end
section
variable {G:World}{q pre:List HP}{a b A:Option Addr}{c d C p p0 p1 p2 i:Nat}{lo hi n cd dep:Int}{fv:Value}{x y:Ins}{t:Cod}{m:Mdl}{at_:Int}
variable {pm om pt ot n:Nat}
theorem Aj (c:Int):(Z5 c).1≤2∧(Z5 c).2≤1:=by
 unfold Z5
 (repeat' split)<;>decide
def Ur (t:Cod):List Bl:=t.ins.map Ins.t
theorem Uo {t:Cod}{n:Nat}(h:n<t.ins.length):(Ur t).getD n zI=(t.ins[n]).t:=by
 unfold Ur;rw [List.getD_eq_getElem?_getD,List.getElem?_map,List.getElem?_eq_getElem h];rfl
theorem We (t:Cod):(Ur t).length=t.ins.length:=by simp [Ur]
set_option maxHeartbeats 2000000 in
theorem look_ok (g:GE q)(ht:CellsAt q pt ot (Y2 t))(hq:CodQ q t)(hc: ∀ x∈t.ins,1≤x.c∧x.c≤34)(hL:t.ins.length≤65536)(hn:n<t.ins.length)(hd:0≤dep∧dep≤1000000):CallF prog G 91 [.pointer (some ⟨pt,ot,none⟩),.int .i64 (n:Int),.int .i64 dep] (q) (Ret fun v q'=>v= .tuple [.int .i64 (Vl (Ur t) n dep).1,.int .i64 (Vl (Ur t) n dep).2].toArray∧q'=q):=by
 refine CallF.of func91 ntmps91 rfl (fun F cs=> ?_)
 have hs:=hq.i;have hlen:=Zb (f:=Zx) (sz:=4) (fun _=>rfl) t.ins
 have hcx:=hc _ (List.getElem_mem hn);have hnn:=Tq t.ins[n].c
 have hk:t.ins[n].c.toNat<effL.length:=by show _<35;omega
 have hef:effL[t.ins[n].c.toNat]=Z5 t.ins[n].c:=by
  have e:=effL_at ⟨t.ins[n].c.toNat,hk⟩ (by show 1≤t.ins[n].c.toNat;omega)
  have e1:((t.ins[n].c.toNat:Nat):Int)=t.ins[n].c:=by omega
  dsimp only at e;rw [e1] at e;exact e
 have hle:(Z5 t.ins[n].c).1≤2∧(Z5 t.ins[n].c).2≤1:=Aj _
 refine xo 2 ?_;refine Zl fun n1=> ?_
 refine Zm zeroValue3 fun n2=> ?_
 refine Zm zeroValue35 fun n3=> ?_
 refine ol 3 ?_;refine oo 2 ?_;refine ld ?_ (hc:=((ht 2 _ rfl).le leA))
 refine oo 1 ?_;refine Y6 hs (by rw [hlen];omega) (fun b1 o1 e1=> ?_)
 have hs1:=hs;rw [e1] at hs1
 refine XO.know 15 (.slice (some ⟨b1,o1,none⟩) t.ins.length t.ic) rfl (by rw [e1]) ?_
 refine oo 1 ?_;refine Wm (n:=n) isAgg48 sizeOf48 hs1 hn ?_
 refine Zm zeroValue48 fun n4=> ?_
 refine stA ?_;refine ol 4 ?_;refine Zc (Td rfl rfl underlying249 sizeOf248 (by omega) (by omega)) ?_
 refine Wm (n:=t.ins[n].c.toNat) isAgg248 sizeOf248 g hk ?_
 refine XO.know 22 (.agg (efC (Z5 t.ins[n].c)).toArray) rfl (by rw [hef]) ?_
 refine Zm zeroValue248 fun n5=> ?_
 refine stA ?_;refine ol 5 ?_;refine ol 2 ?_;refine ol 8 ?_;refine oo 2 ?_;refine Zg [34,10,8,7,6,3,1,2] ?_
 apply Zw 3 37 34 rfl
 · intro g1 M1;have h1:=sp g1
   refine oo 3 ?_;exact Zz M1 ⟨orF g1,Zv⟩
 · intro g1 M1;have h1:=sp g1
   refine oo 3 ?_;exact Zz M1 ⟨orT g1,Zv⟩
 refine ox 1 ?_;refine X.part 37 rfl (fun h1=> ?_) (fun h1=> ?_)
 · replace h1:=sp h1
   refine xo 3 ?_;refine st ?_;refine st ?_;refine ox 1 ?_
   have hO:Vl (Ur t) n dep=(0,173):=by unfold Vl;rw [Uo hn];dsimp only [Ins.t];rw [if_pos (by omega)]
   refine Zq (q) func91 (Pd results91 (ResOk.cell rfl (LV.cell isAgg3 clA) (ResOk.cell rfl (LV.cell isAgg35 clA) ResOk.nil))) ⟨_,rfl,by rw [hO],rfl⟩
 replace h1:=sp h1
 refine xl 6 ?_;refine oo 2 ?_;refine Zg [41,10,8,7,6,3,1,2] ?_
 apply Zw 4 45 41 rfl
 · intro g2 M2;have h2:=sp g2
   refine ol 1 ?_;refine oo 2 ?_;exact Zz M2 ⟨orF g2,Zv⟩
 · intro g2 M2;have h2:=sp g2
   refine oo 4 ?_;exact Zz M2 ⟨orT g2,Zv⟩
 refine oo 1 ?_;refine Zg [46,10,8,7,6,3,1,2] ?_
 apply Zf 3 49 46 rfl
 · intro g2 M2;have h2:=sp g2
   refine oo 3 ?_;exact Zz M2 ⟨Yi g2,Zv⟩
 · intro g2 M2;have h2:=sp g2
   refine oo 3 ?_;exact Zz M2 ⟨Yl g2,Zv⟩
 refine ox 1 ?_;refine X.part 49 rfl (fun h2=> ?_) (fun h2=> ?_)
 · replace h2:=sp h2
   refine xo 3 ?_;refine st ?_;refine st ?_;refine ox 1 ?_
   have hO:Vl (Ur t) n dep=(0,175):=by unfold Vl;rw [Uo hn];dsimp only [Ins.t];rw [if_neg (by omega),if_pos (by omega)]
   refine Zq (q) func91 (Pd results91 (ResOk.cell rfl (LV.cell isAgg3 clA) (ResOk.cell rfl (LV.cell isAgg35 clA) ResOk.nil))) ⟨_,rfl,by rw [hO],rfl⟩
 replace h2:=sp h2
 refine xo 5 ?_;refine ldA ?_;refine oo 1 ?_;refine V3 call92 (G8) ?_;rintro _ _ ⟨p1,p2,rfl,rfl⟩ _ e_;simp only [ca,na] at e_;subst e_
 refine ox 2 ?_;refine X.le (q':=pto p1 (.cells (Zx t.ins[n]).toArray 48 (0,0))::_) Zj (X.freeze ?_)
 refine X.le (q':=pto p2 (.cells [.int .i64 (n:Int)].toArray 3 (0,0))::_) Zj (X.freeze ?_)
 refine X.range [im p1 (.cells (Zx t.ins[n]).toArray 48 (0,0)),im p2 (.cells [.int .i64 (n:Int)].toArray 3 (0,0))] (fun k=>Wx.pure (∀ j (h:j<(nxt t.ins[n] (n:Int)).length),j<k→(nxt t.ins[n] (n:Int))[j]<t.ins.length)::pto n1 (.cells [.pointer (some ⟨pt,ot,none⟩)].toArray 127 (0,0))::pto n2 (.cells [.int .i64 (0)].toArray 3 (0,0))::pto n3 (.cells [.int .i64 (0)].toArray 35 (0,0))::pto n4 (.cells (Zx t.ins[n]).toArray 48 (0,0))::pto n5 (.cells (efC (Z5 t.ins[n].c)).toArray 248 (0,0))::q) (fun e qs=>e= .ret∧qs=Wx.pure (∃ x∈nxt t.ins[n] (n:Int),(t.ins.length:Int)≤x)::pto n1 (.cells [.pointer (some ⟨pt,ot,none⟩)].toArray 127 (0,0))::pto n2 (.cells [.int .i64 (0)].toArray 3 (0,0))::pto n3 (.cells [.int .i64 (172)].toArray 35 (0,0))::pto n4 (.cells (Zx t.ins[n]).toArray 48 (0,0))::pto n5 (.cells (efC (Z5 t.ins[n].c)).toArray 248 (0,0))::q) (F:=F) (Dy (x:=t.ins[n]) ⟨by omega,by omega⟩) rfl ?_ (by intro x hx;obtain ⟨y,_,rfl⟩:=List.mem_map.1 hx;rfl) rfl (by rw [func91];rfl) rfl (fun i hi l2 rec F0 cs0=> ?_) (fun r=> ?_) (fun r c2 qs2 hJ=> ?_)
 · refine Le.trans (b:= [im p1 (.cells (Zx t.ins[n]).toArray 48 (0,0)),im p2 (.cells [.int .i64 (n:Int)].toArray 3 (0,0))]++((Wx.pure (∀ j (h:j<(nxt t.ins[n] (n:Int)).length),j<0→(nxt t.ins[n] (n:Int))[j]<t.ins.length)::pto n1 (.cells [.pointer (some ⟨pt,ot,none⟩)].toArray 127 (0,0))::pto n2 (.cells [.int .i64 (0)].toArray 3 (0,0))::pto n3 (.cells [.int .i64 (0)].toArray 35 (0,0))::pto n4 (.cells (Zx t.ins[n]).toArray 48 (0,0))::pto n5 (.cells (efC (Z5 t.ins[n].c)).toArray 248 (0,0))::q)++F)) ?_ (F5 _ _ _)
   simp only [ca,na];refine Le.pick Zj (Le.pick Zj (Le.trans ?_ (Jh (fun j h k=>absurd k (Nat.not_lt_zero j)) _)));exact leB
 · have hi':i<(nxt t.ins[n] (n:Int)).length:=by simpa using hi
   rw [List.getElem_map]
   simp only [Cw,ivs]
   simp only [ca,na]
   refine X.le (q':=Wx.pure (∀ j (h:j<(nxt t.ins[n] (n:Int)).length),j<i→(nxt t.ins[n] (n:Int))[j]<t.ins.length)::_) Zj (X.pure (fun hP=> ?_))
   refine xx 3 ?_;refine X.beginRound rfl leA ?_;refine xl 4 ?_;refine oo 2 ?_;refine ld ?_ (hc:=((ht 2 _ rfl).le leA))
   refine ox 3 ?_;refine X.part 60 rfl (fun k1=> ?_) (fun k1=> ?_)
   · replace k1:=sp k1
     refine xo 3 ?_;refine st ?_;refine st ?_;refine ox 1 ?_;refine X.ret ⟨rfl,rfl,_,⟨rfl,rfl⟩,?_⟩
     simp only [ca,na]
     refine Le.pick Zj (Le.trans ?_ (Jh (show ∃ x∈nxt t.ins[n] (n:Int),(t.ins.length:Int)≤x from ⟨_,List.getElem_mem hi',by omega⟩) _));exact leA
   replace k1:=sp k1
   refine xx 3 ?_;refine X.fall ⟨rfl,rfl,?_⟩
   simp only [ca,na]
   refine Le.pick Zj (Le.trans ?_ (Jh (show (∀ j (h:j<(nxt t.ins[n] (n:Int)).length),j<i+1→(nxt t.ins[n] (n:Int))[j]<t.ins.length) from fun j h k=>by rcases Nat.lt_or_ge j i with e|e;exact hP j h e;obtain rfl:j=i:=(by omega);omega) _));exact leA
 focus
  simp only [ca,na]
  rw [List.length_map]
  refine X.le (q':=Wx.pure (∀ j (h:j<(nxt t.ins[n] (n:Int)).length),j<(nxt t.ins[n] (n:Int)).length→(nxt t.ins[n] (n:Int))[j]<t.ins.length)::_) Zj (X.pure (fun hP=> ?_))
  refine xo 4 ?_;refine st ?_;refine st ?_;refine ox 1 ?_
  have hO:Vl (Ur t) n dep=(dep - (Z5 t.ins[n].c).1+(Z5 t.ins[n].c).2,0):=by
   have hF: ¬∃ x∈Jc t.ins[n].t n,((Ur t).length:Int)≤x:=by
    rintro ⟨x,hx,hx2⟩;rw [We] at hx2;rw [←Ee] at hx;obtain ⟨j,hj,rfl⟩:=List.getElem_of_mem hx;have:=hP j hj hj;omega
   unfold Vl;rw [Uo hn];dsimp only [Ins.t];rw [if_neg (by omega),if_neg (by omega)];exact if_neg hF
 rotate_left
 focus
  obtain ⟨rfl,rfl⟩:=hJ
  simp only [ca,na]
  refine X.le (q':=Wx.pure (∃ x∈nxt t.ins[n] (n:Int),(t.ins.length:Int)≤x)::_) Zj (X.pure (fun hP=> ?_))
  have hO:Vl (Ur t) n dep=(0,172):=by
   have hF: ∃ x∈Jc t.ins[n].t n,((Ur t).length:Int)≤x:=by rw [We,←Ee];exact hP
   unfold Vl;rw [Uo hn];dsimp only [Ins.t];rw [if_neg (by omega),if_neg (by omega)];exact if_pos hF
 all_goals
  refine X.ret ⟨rfl,F4 ?_⟩
  exact Lv.ret (q':=q) func91 (Pd results91 (ResOk.cell rfl (LV.cell isAgg3 clA) (ResOk.cell rfl (LV.cell isAgg35 clA) ResOk.nil))) ⟨_,rfl,by rw [hO],rfl⟩ leB
end
end Go.Proofs.YtgonllbkcgaliaaGreatDoor
