/- Contracts of functions, proved by walking their code. -/
import Derived.Test.YtgonllbkcgaliaaGreatDoorVc
import Derived.Test.YtgonllbkcgaliaaGreatDoorRows
import Derived.KernelRfl
set_option maxRecDepth 100000
set_option linter.unusedVariables false
set_option linter.unusedSimpArgs false
namespace Go.Proofs.YtgonllbkcgaliaaGreatDoor
open Go Go.RowKit Wx Go.Proofs.Tryz
def tbl:Tr:=(.n none (.n none (.n (some (.mk (.int .i64) false 1 none)) (.n none (.n none (.n none (.n none (.n (some (.mk .ptr false 1 none)) .e .e) (.n (some (.mk (.int .i64) false 1 none)) .e .e)) (.n none .e (.n (some (.mk (.slc 326) false 1 none)) .e .e))) .e) (.n (some (.mk (.slc 3) false 1 none)) (.n none (.n none .e (.n (some (.mk (.strct [(59,0),(197,13),(2,14),(3,15),(3,16),(87,17),(3,19)]) true 20 (some ([(0,13),(13,1),(14,1),(15,1),(16,1),(17,2),(19,1)], [.slice none 0 0,.slice none 0 0,.int .i64 0,.int .i64 0,.slice none 0 0,.slice none 0 0,.int .i64 0,.int .i64 0,.slice none 0 0,.slice none 0 0,.slice none 0 0,.slice none 0 0,.slice none 0 0,.slice none 0 0,.int .i64 0,.int .i64 0,.int .i64 0,.int .i64 0,.int .i64 0,.int .i64 0])))) .e .e)) (.n (some (.mk (.slc 217) false 1 none)) (.n none (.n (some (.mk .fn false 1 none)) .e .e) .e) .e)) (.n (some (.mk (.slc 9) false 1 none)) (.n (some (.mk (.strct [(3,0),(3,1)]) true 2 (some ([(0,1),(1,1)], [.int .i64 0,.int .i64 0])))) .e (.n (some (.mk (.strct [(211,0),(2,1),(9,2),(3,3),(4,4),(212,5),(213,6)]) true 7 (some ([(0,1),(1,1),(2,1),(3,1),(4,1),(5,1),(6,1)], [.int .i64 0,.int .i64 0,.string ⟨#[]⟩,.int .i64 0,.bool false,.int .i64 0,.slice none 0 0])))) .e .e)) .e))) (.n none (.n none (.n (some (.mk (.int .i64) false 1 none)) (.n (some (.mk (.strct [(3,0),(3,1),(22,2),(22,3)]) true 4 (some ([(0,1),(1,1),(2,1),(3,1)], [.int .i64 0,.int .i64 0,.slice none 0 0,.slice none 0 0])))) .e .e) .e) (.n (some (.mk (.strct [(43,0),(45,1),(48,4),(2,8),(49,9)]) true 10 (some ([(0,1),(1,3),(4,4),(8,1),(9,1)], [.int .i64 0,.int .i64 0,.bool false,.int .i64 0,.int .i64 0,.int .i64 0,.int .i64 0,.int .i64 0,.int .i64 0,.int .i64 0])))) (.n none .e (.n (some (.mk (.int .i64) false 1 none)) .e .e)) (.n (some (.mk .ptr false 1 none)) .e .e))) (.n none (.n (some (.mk (.int .i64) false 1 none)) (.n none (.n (some (.mk (.strct [(32,0),(23,1)]) true 2 (some ([(0,1),(1,1)], [.slice none 0 0,.slice none 0 0])))) .e .e) .e) (.n none (.n (some (.mk .ptr false 1 none)) .e .e) .e)) (.n (some (.mk (.strct [(22,0),(23,1),(3,2),(3,3),(23,4),(54,5),(3,6),(3,7),(57,8)]) true 13 (some ([(0,1),(1,1),(2,1),(3,1),(4,1),(5,1),(6,1),(7,1),(8,5)], [.slice none 0 0,.slice none 0 0,.int .i64 0,.int .i64 0,.slice none 0 0,.slice none 0 0,.int .i64 0,.int .i64 0,.slice none 0 0,.slice none 0 0,.slice none 0 0,.slice none 0 0,.slice none 0 0])))) (.n none (.n (some (.mk (.strct [(49,0)]) true 1 (some ([(0,1)], [.int .i64 0])))) .e .e) .e) .e)))) (.n (some (.mk (.int .u8) false 1 none)) (.n (some (.mk .str false 1 none)) (.n none (.n none (.n (some (.mk .other true 2 none)) .e (.n (some (.mk (.strct [(191,0),(9,1),(2,2),(87,3)]) true 5 (some ([(0,1),(1,1),(2,1),(3,2)], [.int .i64 0,.string ⟨#[]⟩,.int .i64 0,.int .i64 0,.int .i64 0])))) .e .e)) .e) (.n (some (.mk (.int .i64) false 1 none)) .e (.n none (.n none (.n (some (.mk (.strct [(9,0),(3,1)]) true 2 (some ([(0,1),(1,1)], [.string ⟨#[]⟩,.int .i64 0])))) .e .e) .e) (.n (some (.mk .fn false 1 none)) .e .e)))) (.n none (.n none .e (.n (some (.mk (.strct [(9,0),(3,1),(103,2)]) true 3 (some ([(0,1),(1,1),(2,1)], [.string ⟨#[]⟩,.int .i64 0,.slice none 0 0])))) (.n (some (.mk .fn false 1 none)) .e .e) .e)) (.n (some (.mk (.strct [(55,0),(55,1),(55,2),(55,3),(55,4)]) true 5 none)) (.n none .e (.n (some (.mk (.strct [(210,0),(87,1),(9,3),(9,4),(215,5),(215,12),(103,19),(103,20),(3,21),(3,22),(3,23),(4,24)]) true 25 (some ([(0,1),(1,2),(3,1),(4,1),(5,7),(12,7),(19,1),(20,1),(21,1),(22,1),(23,1),(24,1)], [.int .i64 0,.int .i64 0,.int .i64 0,.string ⟨#[]⟩,.string ⟨#[]⟩,.int .i64 0,.int .i64 0,.string ⟨#[]⟩,.int .i64 0,.bool false,.int .i64 0,.slice none 0 0,.int .i64 0,.int .i64 0,.string ⟨#[]⟩,.int .i64 0,.bool false,.int .i64 0,.slice none 0 0,.slice none 0 0,.slice none 0 0,.int .i64 0,.int .i64 0,.int .i64 0,.bool false])))) .e .e)) (.n none (.n (some (.mk (.strct [(180,0),(3,1),(4,2)]) true 3 (some ([(0,1),(1,1),(2,1)], [.slice none 0 0,.int .i64 0,.bool false])))) .e .e) (.n (some (.mk .other true 70 none)) .e .e))))) (.n none (.n none (.n none (.n none .e (.n (some (.mk (.slc 204) false 1 none)) .e .e)) (.n (some (.mk .fn false 1 none)) .e .e)) (.n (some (.mk (.slc 65) false 1 none)) (.n none .e (.n (some (.mk (.slc 215) false 1 none)) .e .e)) .e)) (.n none (.n (some (.mk (.strct [(3,0),(4,1),(2,2)]) true 3 (some ([(0,1),(1,1),(2,1)], [.int .i64 0,.bool false,.int .i64 0])))) .e .e) (.n none (.n none (.n (some (.mk .fn false 1 none)) .e .e) (.n (some (.mk (.slc 23) false 1 none)) .e .e)) .e))))) (.n (some (.mk (.int .i64) false 1 none)) (.n (some (.mk .bool false 1 none)) (.n none (.n none (.n (some (.mk (.slc 48) false 1 none)) .e (.n (some (.mk (.strct [(34,0),(23,4)]) true 5 (some ([(0,4),(4,1)], [.string ⟨#[]⟩,.int .i64 0,.slice none 0 0,.slice none 0 0,.slice none 0 0])))) .e .e)) (.n (some (.mk (.strct [(46,0),(3,1),(3,2),(2,3)]) true 4 (some ([(0,1),(1,1),(2,1),(3,1)], [.int .i64 0,.int .i64 0,.int .i64 0,.int .i64 0])))) .e .e)) (.n (some (.mk (.slc 34) false 1 none)) (.n none (.n none (.n (some (.mk .other true 3 none)) .e .e) (.n (some (.mk (.slc 103) false 1 none)) .e .e)) .e) (.n none .e (.n (some (.mk (.strct [(22,0)]) true 1 (some ([(0,1)], [.slice none 0 0])))) .e (.n (some (.mk (.strct [(3,0),(3,1)]) true 2 (some ([(0,1),(1,1)], [.int .i64 0,.int .i64 0])))) .e .e))))) (.n none (.n none (.n none .e (.n none (.n (some (.mk .fn false 1 none)) .e .e) (.n (some (.mk (.strct [(59,0),(22,13),(23,14),(221,15),(222,16),(23,17),(223,18),(226,19)]) true 23 (some ([(0,13),(13,1),(14,1),(15,1),(16,1),(17,1),(18,1),(19,4)], [.slice none 0 0,.slice none 0 0,.int .i64 0,.int .i64 0,.slice none 0 0,.slice none 0 0,.int .i64 0,.int .i64 0,.slice none 0 0,.slice none 0 0,.slice none 0 0,.slice none 0 0,.slice none 0 0,.slice none 0 0,.slice none 0 0,.slice none 0 0,.slice none 0 0,.slice none 0 0,.slice none 0 0,.int .i64 0,.int .i64 0,.int .i64 0,.int .i64 0])))) .e .e))) (.n none (.n none .e (.n (some (.mk (.int .i64) false 1 none)) .e .e)) (.n none (.n (some (.mk (.slc 193) false 1 none)) .e .e) .e))) (.n none (.n none (.n none .e (.n (some (.mk (.strct [(9,0),(3,1),(3,2)]) true 3 (some ([(0,1),(1,1),(2,1)], [.string ⟨#[]⟩,.int .i64 0,.int .i64 0])))) .e .e)) (.n none (.n (some (.mk (.slc 3) false 1 none)) .e .e) .e)) (.n none (.n none .e (.n (some (.mk (.strct [(2,0),(3,1),(218,2)]) true 3 (some ([(0,1),(1,1),(2,1)], [.int .i64 0,.int .i64 0,.slice none 0 0])))) .e .e)) (.n none (.n (some (.mk (.strct [(186,0),(87,1),(9,3),(2,4),(103,5)]) true 6 (some ([(0,1),(1,2),(3,1),(4,1),(5,1)], [.int .i64 0,.int .i64 0,.int .i64 0,.string ⟨#[]⟩,.int .i64 0,.slice none 0 0])))) .e .e) .e))))) (.n none (.n none (.n none (.n (some (.mk (.strct [(9,0),(3,1),(32,2),(23,3)]) true 4 (some ([(0,1),(1,1),(2,1),(3,1)], [.string ⟨#[]⟩,.int .i64 0,.slice none 0 0,.slice none 0 0])))) (.n none (.n (some (.mk (.slc 188) false 1 none)) .e .e) .e) (.n none .e (.n (some (.mk (.strct [(224,0),(49,1),(3,2),(3,3)]) true 4 none)) .e .e))) (.n none (.n none .e (.n (some (.mk (.int .i64) false 1 none)) .e .e)) (.n none (.n none (.n (some (.mk .other true 70 none)) .e .e) .e) .e))) (.n (some (.mk (.strct [(22,0),(23,1),(23,2),(3,3),(3,4),(24,5)]) true 6 (some ([(0,1),(1,1),(2,1),(3,1),(4,1),(5,1)], [.slice none 0 0,.slice none 0 0,.slice none 0 0,.int .i64 0,.int .i64 0,.slice none 0 0])))) (.n none .e (.n (some (.mk (.slc 4) false 1 none)) .e .e)) (.n none (.n none .e (.n (some (.mk (.slc 45) false 1 none)) .e .e)) (.n (some (.mk (.strct [(120,0),(115,1),(67,2),(22,6)]) true 7 (some ([(0,1),(1,1),(2,4),(6,1)], [.slice none 0 0,.pointer none,.int .i64 0,.int .i64 0,.slice none 0 0,.slice none 0 0,.slice none 0 0])))) (.n (some (.mk (.int .i64) false 1 none)) .e .e) .e)))) (.n none (.n (some (.mk (.slc 2) false 1 none)) (.n (some (.mk (.slc 51) false 1 none)) .e .e) (.n (some (.mk (.slc 105) false 1 none)) (.n none (.n none (.n (some (.mk (.strct [(9,0),(4,1),(4,2),(4,3)]) true 4 (some ([(0,1),(1,1),(2,1),(3,1)], [.string ⟨#[]⟩,.bool false,.bool false,.bool false])))) .e .e) .e) .e) .e)) (.n none (.n (some (.mk (.int .i64) false 1 none)) .e (.n none .e (.n (some (.mk .fn false 1 none)) .e .e))) (.n none (.n none (.n (some (.mk .other true 35 none)) .e .e) (.n (some (.mk (.slc 22) false 1 none)) .e .e)) .e))))))
theorem Uz:tbl.ok prog id:=⟨trivial,⟨trivial,⟨⟨underlying3,isAgg3,sizeOf3,trivial⟩,⟨trivial,⟨trivial,⟨trivial,⟨trivial,⟨⟨⟨_,underlying127⟩,isAgg127,sizeOf127,trivial⟩,trivial,trivial⟩,⟨⟨underlying191,isAgg191,sizeOf191,trivial⟩,trivial,trivial⟩⟩,⟨trivial,trivial,⟨⟨underlying223,isAgg223,sizeOf223,trivial⟩,trivial,trivial⟩⟩⟩,trivial⟩,⟨⟨underlying23,isAgg23,sizeOf23,trivial⟩,⟨trivial,⟨trivial,trivial,⟨⟨⟨_,underlying199,rfl⟩,isAgg199,sizeOf199,⟨zeroValue199,_,underlying199,by kernel_rfl⟩⟩,trivial,trivial⟩⟩,⟨⟨underlying103,isAgg103,sizeOf103,trivial⟩,⟨trivial,⟨⟨⟨_,_,_,underlying295⟩,isAgg295,sizeOf295,trivial⟩,trivial,trivial⟩,trivial⟩,trivial⟩⟩,⟨⟨underlying55,isAgg55,sizeOf55,trivial⟩,⟨⟨⟨_,underlying87,rfl⟩,isAgg87,sizeOf87,⟨zeroValue87,_,underlying87,by kernel_rfl⟩⟩,trivial,⟨⟨⟨_,underlying215,rfl⟩,isAgg215,sizeOf215,⟨zeroValue215,_,underlying215,by kernel_rfl⟩⟩,trivial,trivial⟩⟩,trivial⟩⟩⟩,⟨trivial,⟨trivial,⟨⟨underlying35,isAgg35,sizeOf35,trivial⟩,⟨⟨⟨_,underlying67,rfl⟩,isAgg67,sizeOf67,⟨zeroValue67,_,underlying67,by kernel_rfl⟩⟩,trivial,trivial⟩,trivial⟩,⟨⟨⟨_,underlying51,rfl⟩,isAgg51,sizeOf51,⟨zeroValue51,_,underlying51,by kernel_rfl⟩⟩,⟨trivial,trivial,⟨⟨underlying211,isAgg211,sizeOf211,trivial⟩,trivial,trivial⟩⟩,⟨⟨⟨_,underlying115⟩,isAgg115,sizeOf115,trivial⟩,trivial,trivial⟩⟩⟩,⟨trivial,⟨⟨underlying43,isAgg43,sizeOf43,trivial⟩,⟨trivial,⟨⟨⟨_,underlying139,rfl⟩,isAgg139,sizeOf139,⟨zeroValue139,_,underlying139,by kernel_rfl⟩⟩,trivial,trivial⟩,trivial⟩,⟨trivial,⟨⟨⟨_,underlying171⟩,isAgg171,sizeOf171,trivial⟩,trivial,trivial⟩,trivial⟩⟩,⟨⟨⟨_,underlying59,rfl⟩,isAgg59,sizeOf59,⟨zeroValue59,_,underlying59,by kernel_rfl⟩⟩,⟨trivial,⟨⟨⟨_,underlying155,rfl⟩,isAgg155,sizeOf155,⟨zeroValue155,_,underlying155,by kernel_rfl⟩⟩,trivial,trivial⟩,trivial⟩,trivial⟩⟩⟩⟩,⟨⟨underlying5,isAgg5,sizeOf5,trivial⟩,⟨⟨underlying9,isAgg9,sizeOf9,trivial⟩,⟨trivial,⟨trivial,⟨⟨⟨_,underlying65,rfl⟩,isAgg65,sizeOf65,trivial⟩,trivial,⟨⟨⟨_,underlying193,rfl⟩,isAgg193,sizeOf193,⟨zeroValue193,_,underlying193,by kernel_rfl⟩⟩,trivial,trivial⟩⟩,trivial⟩,⟨⟨underlying49,isAgg49,sizeOf49,trivial⟩,trivial,⟨trivial,⟨trivial,⟨⟨⟨_,underlying305,rfl⟩,isAgg305,sizeOf305,⟨zeroValue305,_,underlying305,by kernel_rfl⟩⟩,trivial,trivial⟩,trivial⟩,⟨⟨⟨_,_,_,underlying241⟩,isAgg241,sizeOf241,trivial⟩,trivial,trivial⟩⟩⟩⟩,⟨trivial,⟨trivial,trivial,⟨⟨⟨_,underlying105,rfl⟩,isAgg105,sizeOf105,⟨zeroValue105,_,underlying105,by kernel_rfl⟩⟩,⟨⟨⟨_,_,_,underlying169⟩,isAgg169,sizeOf169,trivial⟩,trivial,trivial⟩,trivial⟩⟩,⟨⟨⟨_,underlying57,rfl⟩,isAgg57,sizeOf57,trivial⟩,⟨trivial,trivial,⟨⟨⟨_,underlying217,rfl⟩,isAgg217,sizeOf217,⟨zeroValue217,_,underlying217,by kernel_rfl⟩⟩,trivial,trivial⟩⟩,⟨trivial,⟨⟨⟨_,underlying185,rfl⟩,isAgg185,sizeOf185,⟨zeroValue185,_,underlying185,by kernel_rfl⟩⟩,trivial,trivial⟩,⟨⟨⟨_,underlying249,rfl⟩,isAgg249,sizeOf249,trivial⟩,trivial,trivial⟩⟩⟩⟩⟩,⟨trivial,⟨trivial,⟨trivial,⟨trivial,trivial,⟨⟨underlying197,isAgg197,sizeOf197,trivial⟩,trivial,trivial⟩⟩,⟨⟨⟨_,_,_,underlying101⟩,isAgg101,sizeOf101,trivial⟩,trivial,trivial⟩⟩,⟨⟨underlying53,isAgg53,sizeOf53,trivial⟩,⟨trivial,trivial,⟨⟨underlying213,isAgg213,sizeOf213,trivial⟩,trivial,trivial⟩⟩,trivial⟩⟩,⟨trivial,⟨⟨⟨_,underlying45,rfl⟩,isAgg45,sizeOf45,⟨zeroValue45,_,underlying45,by kernel_rfl⟩⟩,trivial,trivial⟩,⟨trivial,⟨trivial,⟨⟨⟨_,_,_,underlying157⟩,isAgg157,sizeOf157,trivial⟩,trivial,trivial⟩,⟨⟨underlying221,isAgg221,sizeOf221,trivial⟩,trivial,trivial⟩⟩,trivial⟩⟩⟩⟩⟩,⟨⟨underlying2,isAgg2,sizeOf2,trivial⟩,⟨⟨underlying4,isAgg4,sizeOf4,trivial⟩,⟨trivial,⟨trivial,⟨⟨underlying32,isAgg32,sizeOf32,trivial⟩,trivial,⟨⟨⟨_,underlying96,rfl⟩,isAgg96,sizeOf96,⟨zeroValue96,_,underlying96,by kernel_rfl⟩⟩,trivial,trivial⟩⟩,⟨⟨⟨_,underlying48,rfl⟩,isAgg48,sizeOf48,⟨zeroValue48,_,underlying48,by kernel_rfl⟩⟩,trivial,trivial⟩⟩,⟨⟨underlying24,isAgg24,sizeOf24,trivial⟩,⟨trivial,⟨trivial,⟨⟨⟨_,underlying136,rfl⟩,isAgg136,sizeOf136,trivial⟩,trivial,trivial⟩,⟨⟨underlying200,isAgg200,sizeOf200,trivial⟩,trivial,trivial⟩⟩,trivial⟩,⟨trivial,trivial,⟨⟨⟨_,underlying120,rfl⟩,isAgg120,sizeOf120,⟨zeroValue120,_,underlying120,by kernel_rfl⟩⟩,trivial,⟨⟨⟨_,underlying248,rfl⟩,isAgg248,sizeOf248,⟨zeroValue248,_,underlying248,by kernel_rfl⟩⟩,trivial,trivial⟩⟩⟩⟩⟩,⟨trivial,⟨trivial,⟨trivial,trivial,⟨trivial,⟨⟨⟨_,_,_,underlying164⟩,isAgg164,sizeOf164,trivial⟩,trivial,trivial⟩,⟨⟨⟨_,underlying228,rfl⟩,isAgg228,sizeOf228,⟨zeroValue228,_,underlying228,by kernel_rfl⟩⟩,trivial,trivial⟩⟩⟩,⟨trivial,⟨trivial,trivial,⟨⟨underlying212,isAgg212,sizeOf212,trivial⟩,trivial,trivial⟩⟩,⟨trivial,⟨⟨underlying180,isAgg180,sizeOf180,trivial⟩,trivial,trivial⟩,trivial⟩⟩⟩,⟨trivial,⟨trivial,⟨trivial,trivial,⟨⟨⟨_,underlying204,rfl⟩,isAgg204,sizeOf204,⟨zeroValue204,_,underlying204,by kernel_rfl⟩⟩,trivial,trivial⟩⟩,⟨trivial,⟨⟨underlying172,isAgg172,sizeOf172,trivial⟩,trivial,trivial⟩,trivial⟩⟩,⟨trivial,⟨trivial,trivial,⟨⟨⟨_,underlying220,rfl⟩,isAgg220,sizeOf220,⟨zeroValue220,_,underlying220,by kernel_rfl⟩⟩,trivial,trivial⟩⟩,⟨trivial,⟨⟨⟨_,underlying188,rfl⟩,isAgg188,sizeOf188,⟨zeroValue188,_,underlying188,by kernel_rfl⟩⟩,trivial,trivial⟩,trivial⟩⟩⟩⟩⟩,⟨trivial,⟨trivial,⟨trivial,⟨⟨⟨_,underlying34,rfl⟩,isAgg34,sizeOf34,⟨zeroValue34,_,underlying34,by kernel_rfl⟩⟩,⟨trivial,⟨⟨underlying130,isAgg130,sizeOf130,trivial⟩,trivial,trivial⟩,trivial⟩,⟨trivial,trivial,⟨⟨⟨_,underlying226,rfl⟩,isAgg226,sizeOf226,trivial⟩,trivial,trivial⟩⟩⟩,⟨trivial,⟨trivial,trivial,⟨⟨underlying210,isAgg210,sizeOf210,trivial⟩,trivial,trivial⟩⟩,⟨trivial,⟨trivial,⟨⟨⟨_,underlying306,rfl⟩,isAgg306,sizeOf306,trivial⟩,trivial,trivial⟩,trivial⟩,trivial⟩⟩⟩,⟨⟨⟨_,underlying26,rfl⟩,isAgg26,sizeOf26,⟨zeroValue26,_,underlying26,by kernel_rfl⟩⟩,⟨trivial,trivial,⟨⟨underlying106,isAgg106,sizeOf106,trivial⟩,trivial,trivial⟩⟩,⟨trivial,⟨trivial,trivial,⟨⟨underlying218,isAgg218,sizeOf218,trivial⟩,trivial,trivial⟩⟩,⟨⟨⟨_,underlying122,rfl⟩,isAgg122,sizeOf122,⟨zeroValue122,_,underlying122,by kernel_rfl⟩⟩,⟨⟨underlying186,isAgg186,sizeOf186,trivial⟩,trivial,trivial⟩,trivial⟩⟩⟩⟩,⟨trivial,⟨⟨underlying22,isAgg22,sizeOf22,trivial⟩,⟨⟨underlying38,isAgg38,sizeOf38,trivial⟩,trivial,trivial⟩,⟨⟨underlying54,isAgg54,sizeOf54,trivial⟩,⟨trivial,⟨trivial,⟨⟨⟨_,underlying278,rfl⟩,isAgg278,sizeOf278,⟨zeroValue278,_,underlying278,by kernel_rfl⟩⟩,trivial,trivial⟩,trivial⟩,trivial⟩,trivial⟩⟩,⟨trivial,⟨⟨underlying46,isAgg46,sizeOf46,trivial⟩,trivial,⟨trivial,trivial,⟨⟨⟨_,_,_,underlying238⟩,isAgg238,sizeOf238,trivial⟩,trivial,trivial⟩⟩⟩,⟨trivial,⟨trivial,⟨⟨⟨_,underlying158,rfl⟩,isAgg158,sizeOf158,trivial⟩,trivial,trivial⟩,⟨⟨underlying222,isAgg222,sizeOf222,trivial⟩,trivial,trivial⟩⟩,trivial⟩⟩⟩⟩⟩⟩
section
variable {G:World}{f:Fc}{Q:Y9}{k k':List Item}{p p':PE}{c:List Prop}{ds:List Deferred}{cs:List Frame}{q:List HP}{ops l ops' l':List Oper}{pk:PE}{L:Rds}{n n':Nat}{done done':List Nat}
theorem xx (m:Nat)(K:X prog G f Q k' p' ds cs q)(h:stn tbl f.n m .code k p []=some ⟨.code,k',p',c⟩:=by exact rfl)(hc:Hm c:=by repeat (first|exact trivial|refine Ke (by first|omega|(simp;done)|(simp;omega)) ?_)):X prog G f Q k p ds cs q:=stXX Uz m h hc K
theorem xo (m:Nat)(K:XO prog G f Q ops'.toArray k' l' p' ds cs q)(h:stn tbl f.n m .code k p []=some ⟨.ops ops' l',k',p',c⟩:=by exact rfl)(hc:Hm c:=by repeat (first|exact trivial|refine Ke (by first|omega|(simp;done)|(simp;omega)) ?_)):X prog G f Q k p ds cs q:=stXO Uz m h hc K
theorem ox (m:Nat)(K:X prog G f Q k' p' ds cs q)(h:stn tbl f.n m (.ops ops l) k p []=some ⟨.code,k',p',c⟩:=by exact rfl)(hc:Hm c:=by repeat (first|exact trivial|refine Ke (by first|omega|(simp;done)|(simp;omega)) ?_)):XO prog G f Q ops.toArray k l p ds cs q:=stOX Uz m h hc K
theorem oo (m:Nat)(K:XO prog G f Q ops'.toArray k' l' p' ds cs q)(h:stn tbl f.n m (.ops ops l) k p []=some ⟨.ops ops' l',k',p',c⟩:=by exact rfl)(hc:Hm c:=by repeat (first|exact trivial|refine Ke (by first|omega|(simp;done)|(simp;omega)) ?_)):XO prog G f Q ops.toArray k l p ds cs q:=stOO Uz m h hc K
theorem dd (is:List Nat)(K:XD prog G f Q ops k pk L n' done' p' ds cs q)(h:sdn tbl f.n ops is n done p []=some ⟨n',done',p',c⟩:=by exact rfl)(hc:Hm c:=by repeat (first|exact trivial|refine Ke (by first|omega|(simp;done)|(simp;omega)) ?_)):XD prog G f Q ops k pk L n done p ds cs q:=stDD Uz is h hc K
variable {rest:List Oper}{d:Tmp}{t ty:TypeId}{pos:String}{af:Array Edge}{gd:Option (Nat×Bool)}{x y:Operand}{A:Addr}{v:Value}{b o sz:Nat}{l vs:List Value}{t':TypeId}{fz:Nat×Nat}{r:List HP}
theorem ld (K:XO prog G f Q ops.toArray k rest ((d,v)::p) ds cs q)(hx:evp p x=some (.pointer (some A)):=by rfl)(hc:Cl q A v:=by exact clA)
 (hw:Wt ops p ⟨some d,.load t x,ty,pos,af,gd⟩=some true:=by rfl) (hd:Nat.blt d f.n=true:=by rfl) (ht:tbl.lf t=true:=by rfl):
 XO prog G f Q ops.toArray k (⟨some d,.load t x,ty,pos,af,gd⟩::rest) p ds cs q:= .ld (Ct Uz ht) K hx hc hw hd
theorem ldA (K:XO prog G f Q ops.toArray k rest ((d,.agg (Wx.sub l o sz).toArray)::p) ds cs q)(ht:tbl.ag t=some sz:=by rfl)(hx:evp p x=some (.pointer (some ⟨b,o,none⟩)):=by rfl)(hh:Has q b (.cells l.toArray t' fz):=by exact Vr)(hv:Nat.ble (o+sz) l.length=true:=by rfl)
 (hw:Wt ops p ⟨some d,.load t x,ty,pos,af,gd⟩=some true:=by rfl) (hd:Nat.blt d f.n=true:=by rfl):
 XO prog G f Q ops.toArray k (⟨some d,.load t x,ty,pos,af,gd⟩::rest) p ds cs q:= .ldA (Q0 Uz ht).1 (Q0 Uz ht).2 K hx hh hv hw hd
theorem ldD (i:Nat)(K:XD prog G f Q ops k pk ((i,b,o,v)::L) n (i::done) ((d,v)::p) ds cs q)
 (ho:ops[i]? =some ⟨some d,.load t x,ty,pos,af,gd⟩:=by rfl) (hx:evp p x=some (.pointer (some ⟨b,o,none⟩)):=by rfl) (hc:Cl q ⟨b,o,none⟩ v:=by exact clA)
 (hr:rdy ops done i=true:=by rfl) (hw:Wt ops p ⟨some d,.load t x,ty,pos,af,gd⟩=some true:=by rfl) (hd:Nat.blt d f.n=true:=by rfl) (ht:tbl.lf t=true:=by rfl):XD prog G f Q ops k pk L (n+1) done p ds cs q:= .ld i (Ct Uz ht) K ho hx hc hr hw hd
theorem Z4 (i:Nat)(K:XD prog G f Q ops k pk (rdA i b o (Wx.sub l o sz)++L) n (i::done) ((d,.agg (Wx.sub l o sz).toArray)::p) ds cs q)
 (ho:ops[i]? =some ⟨some d,.load t x,ty,pos,af,gd⟩:=by rfl) (ht:tbl.ag t=some sz:=by rfl) (hx:evp p x=some (.pointer (some ⟨b,o,none⟩)):=by rfl) (hh:Has q b (.cells l.toArray t' fz):=by exact Vr) (hv:Nat.ble (o+sz) l.length=true:=by rfl)
 (hr:rdy ops done i=true:=by rfl) (hw:Wt ops p ⟨some d,.load t x,ty,pos,af,gd⟩=some true:=by rfl) (hd:Nat.blt d f.n=true:=by rfl):XD prog G f Q ops k pk L (n+1) done p ds cs q:= .loadA i ho hx (Q0 Uz ht).1 (Q0 Uz ht).2 hh hv K hr hw hd
theorem st (K:XO prog G f Q ops.toArray k rest p ds cs (pto b (.cells (Ti l o v).toArray t' (0,0))::r))(hx:evp p x=some (.pointer (some ⟨b,o,none⟩)):=by rfl)(hy:evp p y=some v:=by rfl)
 (hv:v.cells= #[v]:=by rfl) (h1:v.oneCell'=true:=by rfl) (hq:Le q (pto b (.cells l.toArray t' (0,0))::r):=by exact Zw) (ho:Nat.blt o l.length=true:=by rfl)
 (hw:Wt ops p ⟨none,.store t x y,ty,pos,af,gd⟩=some true:=by rfl) (hs:tbl.s1 t=true:=by rfl):XO prog G f Q ops.toArray k (⟨none,.store t x y,ty,pos,af,gd⟩::rest) p ds cs q:= .st Uz hs K hx hy hv h1 hq ho hw
theorem stA (K:XO prog G f Q ops.toArray k rest p ds cs (pto b (.cells (Kv l o vs).toArray t' (0,0))::r))(hs:tbl.ag t=some sz:=by rfl)(hx:evp p x=some (.pointer (some ⟨b,o,none⟩)):=by rfl)(hy:evp p y=some (.agg vs.toArray):=by rfl)
 (hl:vs.length=sz:=by rfl) (h1:vs.all (·.oneCell')=true:=by rfl) (hq:Le q (pto b (.cells l.toArray t' (0,0))::r):=by exact Zw) (ho:Nat.ble (o+sz) l.length=true:=by rfl)
 (hw:Wt ops p ⟨none,.store t x y,ty,pos,af,gd⟩=some true:=by rfl):XO prog G f Q ops.toArray k (⟨none,.store t x y,ty,pos,af,gd⟩::rest) p ds cs q:= .stA Uz hs K hx hy hl h1 hq ho hw
theorem stD (i:Nat)(K:XD prog G f Q ops k pk (cut ⟨none,.store t x y,ty,pos,af,gd⟩ L) n (i::done) p ds cs (pto b (.cells (Ti l o v).toArray t' (0,0))::r))
 (ho:ops[i]? =some ⟨none,.store t x y,ty,pos,af,gd⟩:=by rfl) (hx:evp p x=some (.pointer (some ⟨b,o,none⟩)):=by rfl) (hy:evp p y=some v:=by rfl)
 (hv:v.cells= #[v]:=by rfl) (h1:v.oneCell'=true:=by rfl) (hq:Le q (pto b (.cells l.toArray t' (0,0))::r):=by exact Zw) (ho2:Nat.blt o l.length=true:=by rfl)
 (hh:HL (pto b (.cells (Ti l o v).toArray t' (0,0))::r) (cut ⟨none,.store t x y,ty,pos,af,gd⟩ L):=by exact hlA)
 (h2:Ua ops done i=true:=by rfl) (hr:rdy ops done i=true:=by rfl) (hw:Wt ops p ⟨none,.store t x y,ty,pos,af,gd⟩=some true:=by rfl) (hs:tbl.s1 t=true:=by rfl):XD prog G f Q ops k pk L (n+1) done p ds cs q:= .st i Uz hs K ho hx hy hv h1 hq ho2 hh h2 hr hw
theorem Z9 (i:Nat)(K:XD prog G f Q ops k pk (cut ⟨none,.store t x y,ty,pos,af,gd⟩ L) n (i::done) p ds cs (pto b (.cells (Kv l o vs).toArray t' (0,0))::r))
 (ho:ops[i]? =some ⟨none,.store t x y,ty,pos,af,gd⟩:=by rfl) (hs:tbl.ag t=some sz:=by rfl) (hx:evp p x=some (.pointer (some ⟨b,o,none⟩)):=by rfl) (hy:evp p y=some (.agg vs.toArray):=by rfl)
 (hl:vs.length=sz:=by rfl) (h1:vs.all (·.oneCell')=true:=by rfl) (hq:Le q (pto b (.cells l.toArray t' (0,0))::r):=by exact Zw) (ho2:Nat.ble (o+sz) l.length=true:=by rfl)
 (hh:HL (pto b (.cells (Kv l o vs).toArray t' (0,0))::r) (cut ⟨none,.store t x y,ty,pos,af,gd⟩ L):=by exact hlA)
 (h2:Ua ops done i=true:=by rfl) (hr:rdy ops done i=true:=by rfl) (hw:Wt ops p ⟨none,.store t x y,ty,pos,af,gd⟩=some true:=by rfl):XD prog G f Q ops k pk L (n+1) done p ds cs q:= .stA i Uz hs K ho hx hy hl h1 hq ho2 hh h2 hr hw
theorem rsL {t b o sz:Nat}{l:List Value}{t':TypeId}{fz:Nat×Nat}(hh:Has q b (.cells l.toArray t' fz))(ht:tbl.ag t=some sz)(hv:Nat.ble (o+sz) l.length=true):LV Tryz.prog G q t ⟨b,o,none⟩ (.agg (Wx.sub l o sz).toArray):=LV.agg (Q0 Uz ht).1 (Q0 Uz ht).2 hh hv
theorem rA_ {p:PE}{fd:Func}{a0 t0 b0 o0 z0:Nat}{l0:List Value}{u0:TypeId}{f0:Nat×Nat}(h:fd.results= [.cell a0 t0].toArray)(p0:lkp p a0=some (.pointer (some ⟨b0,o0,none⟩)):=by rfl)(h0:Has q b0 (.cells l0.toArray u0 f0):=by exact Vr)(t_0:tbl.ag t0=some z0:=by rfl)(v_0:Nat.ble (o0+z0) l0.length=true:=by rfl)(tm:Array Value)(w:World)(ag:Agr tm p)(s:St G w q):(results fd tm).run Tryz.prog w= .ok (.agg (Wx.sub l0 o0 z0).toArray) w:=resC1 h (ResOk.cell p0 (rsL h0 t_0 v_0) ResOk.nil) tm w ag s
theorem Ut {p:PE}{fd:Func}{a0 t0 b0 o0 z0:Nat}{l0:List Value}{u0:TypeId}{f0:Nat×Nat}{a1 t1 b1 o1 z1:Nat}{l1:List Value}{u1:TypeId}{f1:Nat×Nat}(h:fd.results= [.cell a0 t0,.cell a1 t1].toArray)(p0:lkp p a0=some (.pointer (some ⟨b0,o0,none⟩)):=by rfl)(h0:Has q b0 (.cells l0.toArray u0 f0):=by exact Vr)(t_0:tbl.ag t0=some z0:=by rfl)(v_0:Nat.ble (o0+z0) l0.length=true:=by rfl)(p1:lkp p a1=some (.pointer (some ⟨b1,o1,none⟩)):=by rfl)(h1:Has q b1 (.cells l1.toArray u1 f1):=by exact Vr)(t_1:tbl.ag t1=some z1:=by rfl)(v_1:Nat.ble (o1+z1) l1.length=true:=by rfl)(tm:Array Value)(w:World)(ag:Agr tm p)(s:St G w q):(results fd tm).run Tryz.prog w= .ok ((.tuple [.agg (Wx.sub l0 o0 z0).toArray,.agg (Wx.sub l1 o1 z1).toArray].toArray)) w:=Gr h (ResOk.cell p0 (rsL h0 t_0 v_0) (ResOk.cell p1 (rsL h1 t_1 v_1) ResOk.nil)) tm w ag s
theorem Te {p:PE}{fd:Func}{a0 t0 b0 o0 z0:Nat}{l0:List Value}{u0:TypeId}{f0:Nat×Nat}{a1:Nat}{v1:Value}(h:fd.results= [.cell a0 t0,.tmp a1].toArray)(p0:lkp p a0=some (.pointer (some ⟨b0,o0,none⟩)):=by rfl)(h0:Has q b0 (.cells l0.toArray u0 f0):=by exact Vr)(t_0:tbl.ag t0=some z0:=by rfl)(v_0:Nat.ble (o0+z0) l0.length=true:=by rfl)(p1:lkp p a1=some v1:=by rfl)(tm:Array Value)(w:World)(ag:Agr tm p)(s:St G w q):(results fd tm).run Tryz.prog w= .ok ((.tuple [.agg (Wx.sub l0 o0 z0).toArray,v1].toArray)) w:=Gr h (ResOk.cell p0 (rsL h0 t_0 v_0) (ResOk.tmp p1 ResOk.nil)) tm w ag s
theorem M9 {p:PE}{fd:Func}{a0 t0 b0 o0 z0:Nat}{l0:List Value}{u0:TypeId}{f0:Nat×Nat}{a1 t1 b1 o1 z1:Nat}{l1:List Value}{u1:TypeId}{f1:Nat×Nat}{a2:Nat}{v2:Value}(h:fd.results= [.cell a0 t0,.cell a1 t1,.tmp a2].toArray)(p0:lkp p a0=some (.pointer (some ⟨b0,o0,none⟩)):=by rfl)(h0:Has q b0 (.cells l0.toArray u0 f0):=by exact Vr)(t_0:tbl.ag t0=some z0:=by rfl)(v_0:Nat.ble (o0+z0) l0.length=true:=by rfl)(p1:lkp p a1=some (.pointer (some ⟨b1,o1,none⟩)):=by rfl)(h1:Has q b1 (.cells l1.toArray u1 f1):=by exact Vr)(t_1:tbl.ag t1=some z1:=by rfl)(v_1:Nat.ble (o1+z1) l1.length=true:=by rfl)(p2:lkp p a2=some v2:=by rfl)(tm:Array Value)(w:World)(ag:Agr tm p)(s:St G w q):(results fd tm).run Tryz.prog w= .ok ((.tuple [.agg (Wx.sub l0 o0 z0).toArray,.agg (Wx.sub l1 o1 z1).toArray,v2].toArray)) w:=Gr h (ResOk.cell p0 (rsL h0 t_0 v_0) (ResOk.cell p1 (rsL h1 t_1 v_1) (ResOk.tmp p2 ResOk.nil))) tm w ag s
theorem Rn {p:PE}{fd:Func}{a0:Nat}{v0:Value}{a1 t1 b1 o1 z1:Nat}{l1:List Value}{u1:TypeId}{f1:Nat×Nat}{a2:Nat}{v2:Value}(h:fd.results= [.tmp a0,.cell a1 t1,.tmp a2].toArray)(p0:lkp p a0=some v0:=by rfl)(p1:lkp p a1=some (.pointer (some ⟨b1,o1,none⟩)):=by rfl)(h1:Has q b1 (.cells l1.toArray u1 f1):=by exact Vr)(t_1:tbl.ag t1=some z1:=by rfl)(v_1:Nat.ble (o1+z1) l1.length=true:=by rfl)(p2:lkp p a2=some v2:=by rfl)(tm:Array Value)(w:World)(ag:Agr tm p)(s:St G w q):(results fd tm).run Tryz.prog w= .ok ((.tuple [v0,.agg (Wx.sub l1 o1 z1).toArray,v2].toArray)) w:=Gr h (ResOk.tmp p0 (ResOk.cell p1 (rsL h1 t_1 v_1) (ResOk.tmp p2 ResOk.nil))) tm w ag s
theorem B0 {p:PE}{fd:Func}{a0 t0 b0 o0 z0:Nat}{l0:List Value}{u0:TypeId}{f0:Nat×Nat}{a1:Nat}{v1:Value}{a2:Nat}{v2:Value}(h:fd.results= [.cell a0 t0,.tmp a1,.tmp a2].toArray)(p0:lkp p a0=some (.pointer (some ⟨b0,o0,none⟩)):=by rfl)(h0:Has q b0 (.cells l0.toArray u0 f0):=by exact Vr)(t_0:tbl.ag t0=some z0:=by rfl)(v_0:Nat.ble (o0+z0) l0.length=true:=by rfl)(p1:lkp p a1=some v1:=by rfl)(p2:lkp p a2=some v2:=by rfl)(tm:Array Value)(w:World)(ag:Agr tm p)(s:St G w q):(results fd tm).run Tryz.prog w= .ok ((.tuple [.agg (Wx.sub l0 o0 z0).toArray,v1,v2].toArray)) w:=Gr h (ResOk.cell p0 (rsL h0 t_0 v_0) (ResOk.tmp p1 (ResOk.tmp p2 ResOk.nil))) tm w ag s
theorem Tryz.mixed:prog.follows .mixedOrders=true:=by kernel_rfl
theorem drw {id:Nat}(x:XD prog G f Q ops k [] [] ops.length [] p ds cs q)(h1:okR ops=true:=by kernel_rfl)(h2:Sk ops=true:=by kernel_rfl)(h3:T1 ops []=true:=by rfl):X prog G f Q (.code (.region id ops.toArray true)::k) p ds cs q:= .draw [] Tryz.mixed h1 h2 h3 x
end
structure Ins where
 c:Int
 a:Int
 b:Int
 n:Int
def Zr (i:Ins):List Value:= [.int .i64 i.c,.int .i64 i.a,.int .i64 i.b,.int .i64 i.n]
structure Cod where
 name:ByteArray
 locals:Int
 ins:List Ins
 lines:List Int
 ia:Option Addr
 ic:Nat
 la:Option Addr
 lc:Nat
def Wk (x:Cod):List Value:= [.string x.name,.int .i64 x.locals,.slice x.ia x.ins.length x.ic,.slice x.la x.lines.length x.lc]
structure Mdl where
 vars:List Int
 arrays:List Int
 chans:List Int
 mutexes:Int
 conds:Int
 threads:List Cod
 va:Option Addr
 vc:Nat
 aa:Option Addr
 ac:Nat
 ca:Option Addr
 cc:Nat
 ta:Option Addr
 tc:Nat
def Wp (m:Mdl):List Value:= [.slice m.va m.vars.length m.vc,.slice m.aa m.arrays.length m.ac,.slice m.ca m.chans.length m.cc,.int .i64 m.mutexes,.int .i64 m.conds,.slice m.ta m.threads.length m.tc]
abbrev I64:Int→Value:=Value.int .i64
structure CodQ (q:List HP) (x:Cod):Prop where
 i:Sees q x.ia (x.ins.flatMap Zr)
 l:Sees q x.la (x.lines.map I64)
 n:x.name.size≤9223372036854775807
 ni:x.ins.length≤9223372036854775807
 nl:x.lines.length≤9223372036854775807
structure MdlQ (q:List HP) (m:Mdl):Prop where
 v:Sees q m.va (m.vars.map I64)
 a:Sees q m.aa (m.arrays.map I64)
 c:Sees q m.ca (m.chans.map I64)
 t:Sees q m.ta (m.threads.flatMap Wk)
 x: ∀ x∈m.threads,CodQ q x
 nv:m.vars.length≤9223372036854775807
 na:m.arrays.length≤9223372036854775807
 nc:m.chans.length≤9223372036854775807
 nt:m.threads.length≤9223372036854775807
 ka:m.arrays.length≤m.ac
theorem CodQ.le {q q':List HP}{x:Cod}(h:CodQ q' x)(k:Le q q'):CodQ q x:=⟨h.i.le k,h.l.le k,h.n,h.ni,h.nl⟩
theorem MdlQ.le {q q':List HP}{m:Mdl}(h:MdlQ q' m)(k:Le q q'):MdlQ q m:=⟨h.v.le k,h.a.le k,h.c.le k,h.t.le k,fun x hx=>(h.x x hx).le k,h.nv,h.na,h.nc,h.nt,h.ka⟩
def nmA (c:Int):Bool:=decide ((2≤c∧c≤7)∨(19≤c∧c≤21)∨(23≤c∧c≤31))
def U7 (i:Ins):Prop:=(1≤i.c∧i.c≤34)∧(if nmA i.c=true then 0≤i.a∧i.a≤65535 else i.a=0)∧(if i.c=26 then 0≤i.b∧i.b≤65535 else i.b=0)∧(if i.c=1 then -2147483648≤i.n∧i.n≤2147483647 else i.n=0)
instance (i:Ins):Decidable (U7 i):=by unfold U7;infer_instance
def Z8 (n lo hi:Int):Prop:=lo≤n∧n≤hi
instance (n lo hi:Int):Decidable (Z8 n lo hi):=by unfold Z8;infer_instance
def Nj (x:Cod):Prop:=Z8 x.name.size 1 16∧Z8 x.locals 0 32∧(x.ins.length:Int)=x.lines.length∧((x.ins.length:Int)≤65536∧ ∀ i∈x.ins,U7 i)∧((x.lines.length:Int)≤65536∧ ∀ n∈x.lines,Z8 n 0 65536)
instance (x:Cod):Decidable (Nj x):=by unfold Nj;infer_instance
def Hd (m:Mdl):Prop:=Z8 m.mutexes 0 64∧Z8 m.conds 0 64∧((m.vars.length:Int)≤64∧ ∀ n∈m.vars,Z8 n (-2147483648) 2147483647)∧((m.arrays.length:Int)≤64∧ ∀ n∈m.arrays,Z8 n 0 256)∧((m.chans.length:Int)≤64∧ ∀ n∈m.chans,Z8 n 1 16)∧((m.threads.length:Int)≤64∧ ∀ x∈m.threads,Nj x)
instance (m:Mdl):Decidable (Hd m):=by unfold Hd;infer_instance
def Q9 (m:Mdl):Int:=if Hd m then 0 else 2
theorem Dq {m:Mdl}:Q9 m=0↔Hd m:=by unfold Q9;split<;>simp_all
def cdC (x:ByteArray×Int):List Value:= [.string x.1,.int .i64 x.2]
def Rx:List Int:= [0,3,1,1,1,1,1,1,0,0,0,0,0,0,0,0,0,0,0,1,1,1,0,1,1,1,2,1,1,1,1,1,0,0,0]
theorem whatL_at: ∀ k:Fin 35,1≤k.val→((Rx[k.val]'k.isLt==1||Rx[k.val]'k.isLt==2)=nmA k.val)∧((Rx[k.val]'k.isLt==2)=decide ((k.val:Int)=26))∧((Rx[k.val]'k.isLt==3)=decide ((k.val:Int)=1)):=by decide
theorem Tj {α:Type}{p:α→Bool}{l:List α}{n:Nat}(h:n<l.length):(l.take (n+1)).any p=((l.take n).any p||p l[n]):=by
 rw [List.take_succ_eq_append_getElem h,List.any_append];simp
theorem Fr {α:Type}{p:α→Bool}{l:List α}{n:Nat}(h:n<l.length)(hp:p l[n]=true):l.any p=true:=List.any_eq_true.2 ⟨_,List.getElem_mem h,hp⟩
end Go.Proofs.YtgonllbkcgaliaaGreatDoor
namespace Go.Proofs.YtgonllbkcgaliaaGreatDoor
open Go Go.RowKit Wx Go.Proofs.Tryz
attribute [local irreducible] Wx.lsH Wx.rsH Wx.stars
def GC (q:List HP):Prop:= ∃ L:List (ByteArray×Int),L.map (·.2)=Rx∧Sees q (some ⟨1,0,none⟩) (L.flatMap cdC)
theorem GC.le {q q':List HP}(h:GC q')(k:Le q q'):GC q:=let ⟨L,h1,h2⟩:=h;⟨L,h1,h2.le k⟩
section
variable {G:World}{q:List HP}{a b A:Option Addr}{c d C p p0 p1 p2 i:Nat}{lo hi n:Int}{fv:Value}
theorem Jg (h1:Cl q ⟨p1,0,none⟩ (.int .i64 lo))(h2:Cl q ⟨p2,0,none⟩ (.int .i64 hi)):CallF prog G 128 [.int .i64 n,.pointer (some ⟨p1,0,none⟩),.pointer (some ⟨p2,0,none⟩)] (q) (Ret fun v q'=>v= .bool (decide (Z8 n lo hi))∧q'=q):=by
 refine CallF.of func128 ntmps128 rfl (fun F cs=> ?_)
 refine xo 6 ?_;refine ld ?_ (hc:=(h1.le leA))
 refine oo 3 ?_;refine Zf [8,4,0,2] ?_
 apply Zg 4 12 8 rfl
 · intro g1 M1;have h1:=sp g1
   refine oo 1 ?_;refine ld ?_ (hc:=(h2.le leA))
   refine oo 2 ?_;exact Zz M1 ⟨Yd g1,Zv⟩
 · intro g1 M1;have h1:=sp g1
   refine oo 4 ?_;exact Zz M1 ⟨Yc g1,Zv⟩
 refine ox 2 ?_;refine Zq (q) func128 (Zp results128 rfl) ⟨_,rfl,congrArg Value.bool (by rw [Bool.eq_iff_iff,decide_eq_true_iff];unfold Z8;simp),rfl⟩
theorem Jw:CallF prog G 82 [.int .i64 lo,.int .i64 hi] ([]) (Ret fun v q'=> ∃ p1 p2,v= .func (.func 128) [].toArray [.pointer (some ⟨p1,0,none⟩),.pointer (some ⟨p2,0,none⟩)].toArray∧q'= [pto p1 (.cells [.int .i64 lo].toArray 3 (0,0)),pto p2 (.cells [.int .i64 hi].toArray 3 (0,0))]):=by
 refine CallF.of func82 ntmps82 rfl (fun F cs=> ?_)
 refine xo 2 ?_;refine Zb fun n1=> ?_
 refine Zb fun n2=> ?_
 refine ox 7 ?_;refine Zq [pto n1 (.cells [.int .i64 lo].toArray 3 (0,0)),pto n2 (.cells [.int .i64 hi].toArray 3 (0,0))] func82 (Zp results82 rfl) ⟨_,rfl,n1,n2,rfl,rfl⟩
theorem Ng {l:List Int}(h1:Cl q ⟨p1,0,none⟩ (.int .i64 lo))(h2:Cl q ⟨p2,0,none⟩ (.int .i64 hi)):Rdr prog G (.func (.func 128) [].toArray [.pointer (some ⟨p1,0,none⟩),.pointer (some ⟨p2,0,none⟩)].toArray) I64 (fun x=> .bool (decide (Z8 x lo hi))) q l:=
 fun q1 h x _=>Jb call128 (Jg (h1.le h) (h2.le h))
theorem Hl:CallF prog G 84 [.int .i64 n] (q) (Ret fun v q'=>v= .bool (decide (Z8 n (-2147483648) 2147483647))∧q'=q):=by
 refine CallF.of func84 ntmps84 rfl (fun F cs=> ?_)
 refine xo 9 ?_;refine Zf [5,2,0] ?_
 apply Zg 3 8 5 rfl
 · intro g1 M1;have h1:=sp g1
   refine oo 3 ?_;exact Zz M1 ⟨Yd g1,Zv⟩
 · intro g1 M1;have h1:=sp g1
   refine oo 3 ?_;exact Zz M1 ⟨Yc g1,Zv⟩
 refine ox 2 ?_;refine Zq (q) func84 (Zp results84 rfl) ⟨_,rfl,congrArg Value.bool (by rw [Bool.eq_iff_iff,decide_eq_true_iff];unfold Z8;simp),rfl⟩
theorem E3 {l:List Int}:Rdr prog G (.func (.func 84) #[] #[]) I64 (fun x=> .bool (decide (Z8 x (-2147483648) 2147483647))) q l:=
 fun q1 h x _=>Mo call84 Hl
set_option maxHeartbeats 1000000 in
theorem Dv {l:List Int}{u:Int→Bool}(hs:Sees q a (l.map I64))(hn:l.length≤9223372036854775807)(hp:Rdr prog G fv I64 (fun x=> .bool (u x)) q l):CallF prog G 111 [.slice a l.length c,fv] (q) (Ret fun v q'=> ∃ k:Int,v= .int .i64 k∧decide (0≤k)=l.any u∧q'=q):=by
 refine CallF.of func111 ntmps111 rfl (fun F cs=> ?_)
 have hlen:(l.map I64).length=l.length:=by simp
 refine xx 12 ?_;refine X.at (X.loop (fun (s:Nat×Option Addr)=>s.1≤l.length∧s.2=a∧(l.take s.1).any u=false) (fun s=> [(0,.slice s.2 l.length c),(1,fv),(7,.int .i64 (l.length:Int)),(8,.int .i64 (s.1:Int))]) (fun s=>q++F) (fun s=>l.length - s.1) (fun s hi_ ih=> ?_) (0,a) ⟨by dsimp only;omega,rfl,rfl⟩) Zt leA
 try dsimp only at hi_ ih⊢
 obtain ⟨hi1,rfl,hi2⟩:=hi_
 obtain ⟨s,a⟩:=s;dsimp only at*
 refine xx 5 ?_;refine X.part 9 rfl (fun h0=> ?_) (fun h0=> ?_)
 · replace h0:=sp h0
   have hi0:s<l.length:=by omega
   refine Hr hs (by rw [hlen];omega) (fun b1 o1 e_=> ?_);subst e_
   refine xo 15 ?_;refine ld ?_;refine H9 (hp _ leA _ (List.getElem_mem hi0)) ?_;refine ox 1 ?_;refine X.part 16 rfl (fun h1=> ?_) (fun h1=> ?_)
   · replace h1:=sp h1
     refine xx 6 ?_;refine Zq (q) func111 (Zp results111 rfl) ⟨_,rfl,_,rfl,by rw [Fr hi0 h1];exact decide_eq_true (by omega),rfl⟩
   replace h1:=sp h1
   refine xx 7 ?_;refine X.at (ih (s+1,some ⟨b1,o1,none⟩) ⟨by dsimp only;omega,rfl,by dsimp only;rw [Tj hi0,hi2,h1];rfl⟩ (by dsimp only;omega)) Zt leA
 replace h0:=sp h0
 refine xx 6 ?_
 rw [List.take_of_length_le (show l.length≤s by omega)] at hi2
 refine Zq (q) func111 (Zp results111 rfl) ⟨_,rfl,_,rfl,by rw [hi2];rfl,rfl⟩
theorem Nz {l:List Int}{u:Int→Bool}(hs:Sees q a (l.map I64))(hn:l.length≤9223372036854775807)(hp:Rdr prog G fv I64 (fun x=> .bool (u x)) q l):CallF prog G 74 [.slice a l.length c,fv] (q) (Ret fun v q'=>v= .bool (l.any u)∧q'=q):=by
 refine CallF.of func74 ntmps74 rfl (fun F cs=> ?_)
 refine xo 8 ?_;refine Zh call111 (Le.refl _) (Dv (hs.le leA) hn (hp.le leA)) ?_;rintro _ _ ⟨k,rfl,hk,rfl⟩
 refine ox 3 ?_;refine Zq (q) func74 (Zp results74 rfl) ⟨_,rfl,congrArg Value.bool hk,rfl⟩
theorem Fi {l:List Int}{x:Int}{u:Int→Bool}(hx:x∈l)(h1:Cl q ⟨p,0,none⟩ fv)(hp:Rdr prog G fv I64 (fun x=> .bool (u x)) q l):CallF prog G 129 [.int .i64 x,.pointer (some ⟨p,0,none⟩)] (q) (Ret fun v q'=>v= .bool (!u x)∧q'=q):=by
 refine CallF.of func129 ntmps129 rfl (fun F cs=> ?_)
 refine xo 6 ?_;refine ld ?_ (hc:=(h1.le leA))
 refine oo 1 ?_;refine H9 (hp _ leA _ hx) ?_;refine Zn (Pu.not rfl) ?_;refine ox 2 ?_;refine Zq (q) func129 (Zp results129 rfl) ⟨_,rfl,rfl,rfl⟩
theorem Ch {l:List Int}{u:Int→Bool}(hs:Sees q a (l.map I64))(hn:l.length≤9223372036854775807)(hp:Rdr prog G fv I64 (fun x=> .bool (u x)) q l)(ho:fv.cells= #[fv]):CallF prog G 83 [.slice a l.length c,.int .i64 hi,fv] (q) (Ret fun v q'=>v= .bool (decide ((l.length:Int)≤hi∧ ∀ x∈l,u x=true))∧q'=q):=by
 refine CallF.of func83 ntmps83 rfl (fun F cs=> ?_)
 refine xo 2 ?_;refine Zb fun n1=> ?_
 rw [ho]
 refine oo 9 ?_;refine Zf [11,6,5,0] ?_
 apply Zg 5 16 11 rfl
 · intro g1 M1;have h1:=sp g1
   refine oo 2 ?_;refine XO.cR call74 (Nz (u:=fun x=> !u x) (hs.le leA) hn (fun q1 h1 x hx=>Ms call129 (Fi hx ((Cl.of (l:= [fv]) Vr rfl).le h1) (hp.le (h1.trans leA))))) ?_
   refine Zn (Pu.not rfl) ?_;refine oo 1 ?_;exact Zz M1 ⟨Yd g1,Zv⟩
 · intro g1 M1;have h1:=sp g1
   refine oo 5 ?_;exact Zz M1 ⟨Yc g1,Zv⟩
 refine ox 2 ?_;refine Zq (q) func83 (Zp results83 rfl) ⟨_,rfl,congrArg Value.bool (by rw [Bool.eq_iff_iff];simp),rfl⟩
set_option maxHeartbeats 1000000 in
theorem Fy {l:List Int}{u:Int→Bool}(hs:Sees q a (l.map I64))(hn:l.length≤9223372036854775807)(hp:Rdr prog G fv I64 (fun x=> .bool (u x)) q l):CallF prog G 165 [.slice a l.length c,fv] (q) (Ret fun v q'=> ∃ k:Int,v= .int .i64 k∧decide (0≤k)=l.any u∧q'=q):=by
 refine CallF.of func165 ntmps165 rfl (fun F cs=> ?_)
 have hlen:(l.map I64).length=l.length:=by simp
 refine xx 12 ?_;refine X.at (X.loop (fun (s:Nat×Option Addr)=>s.1≤l.length∧s.2=a∧(l.take s.1).any u=false) (fun s=> [(0,.slice s.2 l.length c),(1,fv),(7,.int .i64 (l.length:Int)),(8,.int .i64 (s.1:Int))]) (fun s=>q++F) (fun s=>l.length - s.1) (fun s hi_ ih=> ?_) (0,a) ⟨by dsimp only;omega,rfl,rfl⟩) Zt leA
 try dsimp only at hi_ ih⊢
 obtain ⟨hi1,rfl,hi2⟩:=hi_
 obtain ⟨s,a⟩:=s;dsimp only at*
 refine xx 5 ?_;refine X.part 9 rfl (fun h0=> ?_) (fun h0=> ?_)
 · replace h0:=sp h0
   have hi0:s<l.length:=by omega
   refine Hr hs (by rw [hlen];omega) (fun b1 o1 e_=> ?_);subst e_
   refine xo 15 ?_;refine ld ?_;refine H9 (hp _ leA _ (List.getElem_mem hi0)) ?_;refine ox 1 ?_;refine X.part 16 rfl (fun h1=> ?_) (fun h1=> ?_)
   · replace h1:=sp h1
     refine xx 6 ?_;refine Zq (q) func165 (Zp results165 rfl) ⟨_,rfl,_,rfl,by rw [Fr hi0 h1];exact decide_eq_true (by omega),rfl⟩
   replace h1:=sp h1
   refine xx 7 ?_;refine X.at (ih (s+1,some ⟨b1,o1,none⟩) ⟨by dsimp only;omega,rfl,by dsimp only;rw [Tj hi0,hi2,h1];rfl⟩ (by dsimp only;omega)) Zt leA
 replace h0:=sp h0
 refine xx 6 ?_
 rw [List.take_of_length_le (show l.length≤s by omega)] at hi2
 refine Zq (q) func165 (Zp results165 rfl) ⟨_,rfl,_,rfl,by rw [hi2];rfl,rfl⟩
theorem Cf {l:List Int}{u:Int→Bool}(hs:Sees q a (l.map I64))(hn:l.length≤9223372036854775807)(hp:Rdr prog G fv I64 (fun x=> .bool (u x)) q l):CallF prog G 130 [.slice a l.length c,fv] (q) (Ret fun v q'=>v= .bool (l.any u)∧q'=q):=by
 refine CallF.of func130 ntmps130 rfl (fun F cs=> ?_)
 refine xo 8 ?_;refine Zh call165 (Le.refl _) (Fy (hs.le leA) hn (hp.le leA)) ?_;rintro _ _ ⟨k,rfl,hk,rfl⟩
 refine ox 3 ?_;refine Zq (q) func130 (Zp results130 rfl) ⟨_,rfl,congrArg Value.bool hk,rfl⟩
theorem Pg {l:List Int}{x:Int}{u:Int→Bool}(hx:x∈l)(h1:Cl q ⟨p,0,none⟩ fv)(hp:Rdr prog G fv I64 (fun x=> .bool (u x)) q l):CallF prog G 131 [.int .i64 x,.pointer (some ⟨p,0,none⟩)] (q) (Ret fun v q'=>v= .bool (!u x)∧q'=q):=by
 refine CallF.of func131 ntmps131 rfl (fun F cs=> ?_)
 refine xo 6 ?_;refine ld ?_ (hc:=(h1.le leA))
 refine oo 1 ?_;refine H9 (hp _ leA _ hx) ?_;refine Zn (Pu.not rfl) ?_;refine ox 2 ?_;refine Zq (q) func131 (Zp results131 rfl) ⟨_,rfl,rfl,rfl⟩
theorem T9 {l:List Int}{u:Int→Bool}(hs:Sees q a (l.map I64))(hn:l.length≤9223372036854775807)(hp:Rdr prog G fv I64 (fun x=> .bool (u x)) q l)(ho:fv.cells= #[fv]):CallF prog G 85 [.slice a l.length c,.int .i64 hi,fv] (q) (Ret fun v q'=>v= .bool (decide ((l.length:Int)≤hi∧ ∀ x∈l,u x=true))∧q'=q):=by
 refine CallF.of func85 ntmps85 rfl (fun F cs=> ?_)
 refine xo 2 ?_;refine Zb fun n1=> ?_
 rw [ho]
 refine oo 9 ?_;refine Zf [11,6,5,0] ?_
 apply Zg 5 16 11 rfl
 · intro g1 M1;have h1:=sp g1
   refine oo 2 ?_;refine XO.cR call130 (Cf (u:=fun x=> !u x) (hs.le leA) hn (fun q1 h1 x hx=>Ms call131 (Pg hx ((Cl.of (l:= [fv]) Vr rfl).le h1) (hp.le (h1.trans leA))))) ?_
   refine Zn (Pu.not rfl) ?_;refine oo 1 ?_;exact Zz M1 ⟨Yd g1,Zv⟩
 · intro g1 M1;have h1:=sp g1
   refine oo 5 ?_;exact Zz M1 ⟨Yc g1,Zv⟩
 refine ox 2 ?_;refine Zq (q) func85 (Zp results85 rfl) ⟨_,rfl,congrArg Value.bool (by rw [Bool.eq_iff_iff];simp),rfl⟩
set_option maxHeartbeats 1000000 in
theorem Ev {l:List Cod}{u:Cod→Bool}(hs:Sees q a (l.flatMap Wk))(hn:l.length≤9223372036854775807)(hp:Rdr prog G fv (fun x=> .agg (Wk x).toArray) (fun x=> .bool (u x)) q l):CallF prog G 166 [.slice a l.length c,fv] (q) (Ret fun v q'=> ∃ k:Int,v= .int .i64 k∧decide (0≤k)=l.any u∧q'=q):=by
 refine CallF.of func166 ntmps166 rfl (fun F cs=> ?_)
 have hlen:=Zm (f:=Wk) (sz:=4) (fun _=>rfl) l
 refine xx 12 ?_;refine X.at (X.loop (fun (s:Nat×Option Addr)=>s.1≤l.length∧s.2=a∧(l.take s.1).any u=false) (fun s=> [(0,.slice s.2 l.length c),(1,fv),(7,.int .i64 (l.length:Int)),(8,.int .i64 (s.1:Int))]) (fun s=>q++F) (fun s=>l.length - s.1) (fun s hi_ ih=> ?_) (0,a) ⟨by dsimp only;omega,rfl,rfl⟩) Zt leA
 try dsimp only at hi_ ih⊢
 obtain ⟨hi1,rfl,hi2⟩:=hi_
 obtain ⟨s,a⟩:=s;dsimp only at*
 refine xx 5 ?_;refine X.part 9 rfl (fun h0=> ?_) (fun h0=> ?_)
 · replace h0:=sp h0
   have hi0:s<l.length:=by omega
   refine Hr hs (by rw [hlen];omega) (fun b1 o1 e_=> ?_);subst e_
   refine xo 15 ?_;refine Wn (n:=s) isAgg34 sizeOf34 hs hi0 ?_
   refine H9 (hp _ leA _ (List.getElem_mem hi0)) ?_;refine ox 1 ?_;refine X.part 16 rfl (fun h1=> ?_) (fun h1=> ?_)
   · replace h1:=sp h1
     refine xx 6 ?_;refine Zq (q) func166 (Zp results166 rfl) ⟨_,rfl,_,rfl,by rw [Fr hi0 h1];exact decide_eq_true (by omega),rfl⟩
   replace h1:=sp h1
   refine xx 7 ?_;refine X.at (ih (s+1,some ⟨b1,o1,none⟩) ⟨by dsimp only;omega,rfl,by dsimp only;rw [Tj hi0,hi2,h1];rfl⟩ (by dsimp only;omega)) Zt leA
 replace h0:=sp h0
 refine xx 6 ?_
 rw [List.take_of_length_le (show l.length≤s by omega)] at hi2
 refine Zq (q) func166 (Zp results166 rfl) ⟨_,rfl,_,rfl,by rw [hi2];rfl,rfl⟩
theorem Fp {l:List Cod}{u:Cod→Bool}(hs:Sees q a (l.flatMap Wk))(hn:l.length≤9223372036854775807)(hp:Rdr prog G fv (fun x=> .agg (Wk x).toArray) (fun x=> .bool (u x)) q l):CallF prog G 132 [.slice a l.length c,fv] (q) (Ret fun v q'=>v= .bool (l.any u)∧q'=q):=by
 refine CallF.of func132 ntmps132 rfl (fun F cs=> ?_)
 refine xo 8 ?_;refine Zh call166 (Le.refl _) (Ev (hs.le leA) hn (hp.le leA)) ?_;rintro _ _ ⟨k,rfl,hk,rfl⟩
 refine ox 3 ?_;refine Zq (q) func132 (Zp results132 rfl) ⟨_,rfl,congrArg Value.bool hk,rfl⟩
theorem Cm {l:List Cod}{x:Cod}{u:Cod→Bool}(hx:x∈l)(h1:Cl q ⟨p,0,none⟩ fv)(hp:Rdr prog G fv (fun x=> .agg (Wk x).toArray) (fun x=> .bool (u x)) q l):CallF prog G 133 [.agg (Wk x).toArray,.pointer (some ⟨p,0,none⟩)] (q) (Ret fun v q'=>v= .bool (!u x)∧q'=q):=by
 refine CallF.of func133 ntmps133 rfl (fun F cs=> ?_)
 refine xo 2 ?_;refine Zb fun n1=> ?_
 refine oo 4 ?_;refine ld ?_ (hc:=(h1.le leA))
 refine ldA ?_;refine H9 (hp _ leA _ hx) ?_;refine Zn (Pu.not rfl) ?_;refine ox 2 ?_;refine Zq (q) func133 (Zp results133 rfl) ⟨_,rfl,rfl,rfl⟩
theorem Pf {l:List Cod}{u:Cod→Bool}(hs:Sees q a (l.flatMap Wk))(hn:l.length≤9223372036854775807)(hp:Rdr prog G fv (fun x=> .agg (Wk x).toArray) (fun x=> .bool (u x)) q l)(ho:fv.cells= #[fv]):CallF prog G 86 [.slice a l.length c,.int .i64 hi,fv] (q) (Ret fun v q'=>v= .bool (decide ((l.length:Int)≤hi∧ ∀ x∈l,u x=true))∧q'=q):=by
 refine CallF.of func86 ntmps86 rfl (fun F cs=> ?_)
 refine xo 2 ?_;refine Zb fun n1=> ?_
 rw [ho]
 refine oo 9 ?_;refine Zf [11,6,5,0] ?_
 apply Zg 5 16 11 rfl
 · intro g1 M1;have h1:=sp g1
   refine oo 2 ?_;refine XO.cR call132 (Fp (u:=fun x=> !u x) (hs.le leA) hn (fun q1 h1 x hx=>Ms call133 (Cm hx ((Cl.of (l:= [fv]) Vr rfl).le h1) (hp.le (h1.trans leA))))) ?_
   refine Zn (Pu.not rfl) ?_;refine oo 1 ?_;exact Zz M1 ⟨Yd g1,Zv⟩
 · intro g1 M1;have h1:=sp g1
   refine oo 5 ?_;exact Zz M1 ⟨Yc g1,Zv⟩
 refine ox 2 ?_;refine Zq (q) func86 (Zp results86 rfl) ⟨_,rfl,congrArg Value.bool (by rw [Bool.eq_iff_iff];simp),rfl⟩
set_option maxHeartbeats 1000000 in
theorem Fb {l:List Ins}{u:Ins→Bool}(hs:Sees q a (l.flatMap Zr))(hn:l.length≤9223372036854775807)(hp:Rdr prog G fv (fun x=> .agg (Zr x).toArray) (fun x=> .bool (u x)) q l):CallF prog G 197 [.slice a l.length c,fv] (q) (Ret fun v q'=> ∃ k:Int,v= .int .i64 k∧decide (0≤k)=l.any u∧q'=q):=by
 refine CallF.of func197 ntmps197 rfl (fun F cs=> ?_)
 have hlen:=Zm (f:=Zr) (sz:=4) (fun _=>rfl) l
 refine xx 12 ?_;refine X.at (X.loop (fun (s:Nat×Option Addr)=>s.1≤l.length∧s.2=a∧(l.take s.1).any u=false) (fun s=> [(0,.slice s.2 l.length c),(1,fv),(7,.int .i64 (l.length:Int)),(8,.int .i64 (s.1:Int))]) (fun s=>q++F) (fun s=>l.length - s.1) (fun s hi_ ih=> ?_) (0,a) ⟨by dsimp only;omega,rfl,rfl⟩) Zt leA
 try dsimp only at hi_ ih⊢
 obtain ⟨hi1,rfl,hi2⟩:=hi_
 obtain ⟨s,a⟩:=s;dsimp only at*
 refine xx 5 ?_;refine X.part 9 rfl (fun h0=> ?_) (fun h0=> ?_)
 · replace h0:=sp h0
   have hi0:s<l.length:=by omega
   refine Hr hs (by rw [hlen];omega) (fun b1 o1 e_=> ?_);subst e_
   refine xo 15 ?_;refine Wn (n:=s) isAgg48 sizeOf48 hs hi0 ?_
   refine H9 (hp _ leA _ (List.getElem_mem hi0)) ?_;refine ox 1 ?_;refine X.part 16 rfl (fun h1=> ?_) (fun h1=> ?_)
   · replace h1:=sp h1
     refine xx 6 ?_;refine Zq (q) func197 (Zp results197 rfl) ⟨_,rfl,_,rfl,by rw [Fr hi0 h1];exact decide_eq_true (by omega),rfl⟩
   replace h1:=sp h1
   refine xx 7 ?_;refine X.at (ih (s+1,some ⟨b1,o1,none⟩) ⟨by dsimp only;omega,rfl,by dsimp only;rw [Tj hi0,hi2,h1];rfl⟩ (by dsimp only;omega)) Zt leA
 replace h0:=sp h0
 refine xx 6 ?_
 rw [List.take_of_length_le (show l.length≤s by omega)] at hi2
 refine Zq (q) func197 (Zp results197 rfl) ⟨_,rfl,_,rfl,by rw [hi2];rfl,rfl⟩
theorem Cg {l:List Ins}{u:Ins→Bool}(hs:Sees q a (l.flatMap Zr))(hn:l.length≤9223372036854775807)(hp:Rdr prog G fv (fun x=> .agg (Zr x).toArray) (fun x=> .bool (u x)) q l):CallF prog G 167 [.slice a l.length c,fv] (q) (Ret fun v q'=>v= .bool (l.any u)∧q'=q):=by
 refine CallF.of func167 ntmps167 rfl (fun F cs=> ?_)
 refine xo 8 ?_;refine Zh call197 (Le.refl _) (Fb (hs.le leA) hn (hp.le leA)) ?_;rintro _ _ ⟨k,rfl,hk,rfl⟩
 refine ox 3 ?_;refine Zq (q) func167 (Zp results167 rfl) ⟨_,rfl,congrArg Value.bool hk,rfl⟩
theorem Ph {l:List Ins}{x:Ins}{u:Ins→Bool}(hx:x∈l)(h1:Cl q ⟨p,0,none⟩ fv)(hp:Rdr prog G fv (fun x=> .agg (Zr x).toArray) (fun x=> .bool (u x)) q l):CallF prog G 168 [.agg (Zr x).toArray,.pointer (some ⟨p,0,none⟩)] (q) (Ret fun v q'=>v= .bool (!u x)∧q'=q):=by
 refine CallF.of func168 ntmps168 rfl (fun F cs=> ?_)
 refine xo 2 ?_;refine Zb fun n1=> ?_
 refine oo 4 ?_;refine ld ?_ (hc:=(h1.le leA))
 refine ldA ?_;refine H9 (hp _ leA _ hx) ?_;refine Zn (Pu.not rfl) ?_;refine ox 2 ?_;refine Zq (q) func168 (Zp results168 rfl) ⟨_,rfl,rfl,rfl⟩
theorem Ow {l:List Ins}{u:Ins→Bool}(hs:Sees q a (l.flatMap Zr))(hn:l.length≤9223372036854775807)(hp:Rdr prog G fv (fun x=> .agg (Zr x).toArray) (fun x=> .bool (u x)) q l)(ho:fv.cells= #[fv]):CallF prog G 134 [.slice a l.length c,.int .i64 hi,fv] (q) (Ret fun v q'=>v= .bool (decide ((l.length:Int)≤hi∧ ∀ x∈l,u x=true))∧q'=q):=by
 refine CallF.of func134 ntmps134 rfl (fun F cs=> ?_)
 refine xo 2 ?_;refine Zb fun n1=> ?_
 rw [ho]
 refine oo 9 ?_;refine Zf [11,6,5,0] ?_
 apply Zg 5 16 11 rfl
 · intro g1 M1;have h1:=sp g1
   refine oo 2 ?_;refine XO.cR call167 (Cg (u:=fun x=> !u x) (hs.le leA) hn (fun q1 h1 x hx=>Ms call168 (Ph hx ((Cl.of (l:= [fv]) Vr rfl).le h1) (hp.le (h1.trans leA))))) ?_
   refine Zn (Pu.not rfl) ?_;refine oo 1 ?_;exact Zz M1 ⟨Yd g1,Zv⟩
 · intro g1 M1;have h1:=sp g1
   refine oo 5 ?_;exact Zz M1 ⟨Yc g1,Zv⟩
 refine ox 2 ?_;refine Zq (q) func134 (Zp results134 rfl) ⟨_,rfl,congrArg Value.bool (by rw [Bool.eq_iff_iff];simp),rfl⟩
end
section
variable {G:World}{q:List HP}{a b A:Option Addr}{c d C p p0 p1 p2 i:Nat}{lo hi n cd:Int}{fv:Value}{x:Ins}{t:Cod}{m:Mdl}
theorem what_at {L:List (ByteArray×Int)}(h:L.map (·.2)=Rx){k:Nat}(hk:k<L.length)(h1:1≤k):k<35∧((L[k].2==1||L[k].2==2)=nmA k)∧((L[k].2==2)=decide ((k:Int)=26))∧((L[k].2==3)=decide ((k:Int)=1)):=by
 have hl:L.length=35:=by rw [←List.length_map (f:=fun x:ByteArray×Int=>x.2),h];rfl
 have hk2:k<35:=by omega
 have e:L[k].2=Rx[k]'hk2:=by
  have:=List.getElem_map (fun x:ByteArray×Int=>x.2) (l:=L) (i:=k) (h:=by simpa using hk)
  rw [←this];simp only [h];rfl
 rw [e]
 exact ⟨hk2,whatL_at ⟨k,hk2⟩ h1⟩
theorem Hq {bb:Bool}:CallF prog G 170 [.int .i64 n,.bool bb] (q) (Ret fun v q'=>v= .bool (decide (if bb=true then 0≤n∧n≤65535 else n=0))∧q'=q):=by
 refine CallF.of func170 ntmps170 rfl (fun F cs=> ?_)
 refine xx 9 ?_;refine X.part 5 rfl (fun h1=> ?_) (fun h1=> ?_)
 focus
  replace h1:=sp h1
  refine xo 6 ?_;refine Zf [8,4,0] ?_
  apply Zg 3 11 8 rfl
  · intro g2 M2;have h2:=sp g2
    refine oo 3 ?_;exact Zz M2 ⟨Yd g2,Zv⟩
  · intro g2 M2;have h2:=sp g2
    refine oo 3 ?_;exact Zz M2 ⟨Yc g2,Zv⟩
  refine ox 2 ?_
 rotate_left
 focus
  replace h1:=sp h1
  refine xx 8 ?_
 all_goals
  refine Zq (q) func170 (Zp results170 rfl) ⟨_,rfl,congrArg Value.bool (by rw [Bool.eq_iff_iff,decide_eq_true_iff];simp_all),rfl⟩
set_option maxHeartbeats 1000000 in
theorem I2 (g:GC q):CallF prog G 169 [.int .i64 cd] (q) (Ret fun v q'=>((¬ (1≤cd∧cd≤34)∧v= .tuple [.agg #[.string ⟨#[]⟩,.bool false,.bool false,.bool false],.bool false].toArray)∨((1≤cd∧cd≤34)∧ ∃ s,v= .tuple [.agg [.string s,.bool (nmA cd),.bool (decide (cd=26)),.bool (decide (cd=1))].toArray,.bool true].toArray))∧q'=q):=by
 refine CallF.of func169 ntmps169 rfl (fun F cs=> ?_)
 obtain ⟨L,hL,hs⟩:=g
 have hl:L.length=35:=by rw [←List.length_map (f:=fun x:ByteArray×Int=>x.2),hL];rfl
 refine xo 2 ?_;refine Zy zeroValue278 fun n1=> ?_
 refine oo 8 ?_;refine Zf [7,3,2,0] ?_
 apply Zx 3 10 7 rfl
 · intro g1 M1;have h1:=sp g1
   refine oo 3 ?_;exact Zz M1 ⟨orF g1,Zv⟩
 · intro g1 M1;have h1:=sp g1
   refine oo 3 ?_;exact Zz M1 ⟨orT g1,Zv⟩
 refine ox 1 ?_;refine X.part 10 rfl (fun h1=> ?_) (fun h1=> ?_)
 · replace h1:=sp h1
   refine xo 4 ?_;refine stA ?_;refine ox 2 ?_;refine Zq (q) func169 (Te results169) ⟨_,rfl,.inl ⟨by omega,rfl⟩,rfl⟩
 replace h1:=sp h1
 refine xo 5 ?_
 have hr:1≤cd∧cd≤34:=(by omega)
 obtain ⟨_,w1,w2,w3⟩:=what_at hL (k:=cd.toNat) (by omega) (by omega);rw [show ((cd.toNat:Nat):Int)=cd by omega] at w1 w2 w3
 refine Zn (V5 rfl rfl underlying306 sizeOf305 (by omega) (by omega)) ?_
 refine Wn (n:=cd.toNat) isAgg305 sizeOf305 hs (by omega) ?_
 refine Zy zeroValue305 fun n2=> ?_
 refine stA ?_;refine oo 4 ?_;refine ld ?_;refine oo 1 ?_;refine ld ?_;refine oo 2 ?_;refine Zf [20,16,4,3,2] ?_
 apply Zx 4 24 20 rfl
 · intro g2 M2;have h2:=sp g2
   refine oo 1 ?_;refine ld ?_;refine oo 2 ?_;exact Zz M2 ⟨orF g2,Zv⟩
 · intro g2 M2;have h2:=sp g2
   refine oo 4 ?_;exact Zz M2 ⟨orT g2,Zv⟩
 refine oo 1 ?_;refine ld ?_;refine oo 2 ?_;refine ld ?_;refine oo 2 ?_;refine stA ?_;refine ox 2 ?_;refine Zq (q) func169 (Te results169) ⟨_,rfl,.inr ⟨hr,(L[cd.toNat]'(by omega)).1,by rw [←w1,←w2,←w3];rfl⟩,rfl⟩
set_option maxHeartbeats 2000000 in
theorem I1 (g:GC q):CallF prog G 135 [.agg (Zr x).toArray] (q) (Ret fun v q'=>v= .bool (decide (U7 x))∧q'=q):=by
 refine CallF.of func135 ntmps135 rfl (fun F cs=> ?_)
 obtain ⟨xc,xa,xb,xn⟩:=x;simp only [Zr]
 refine xo 2 ?_;refine Zb fun n1=> ?_
 refine oo 5 ?_;refine ld ?_;refine Zh call169 (Le.refl _) (I2 (cd:=xc) (g.le leA)) ?_
 rintro _ _ ⟨(⟨hr,rfl⟩|⟨hr,s,rfl⟩),rfl⟩
 · refine oo 3 ?_;refine Zy zeroValue278 fun n2=> ?_
   refine stA ?_;refine oo 6 ?_;refine Zn (Pu.not rfl) ?_;refine oo 1 ?_;refine Zf [13,3,2,1] ?_
   apply Zx 7 20 13 rfl
   · intro g1 M1;have h1:=sp g1
     refine oo 1 ?_;refine ld ?_;refine oo 1 ?_;refine ld ?_;refine XO.cR call170 (Hq) ?_;refine Zn (Pu.not rfl) ?_;refine oo 1 ?_;exact Zz M1 ⟨orF g1,Zv⟩
   · intro g1 M1;have h1:=sp g1
     refine oo 7 ?_;exact Zz M1 ⟨orT g1,Zv⟩
   refine oo 1 ?_;refine Zf [21,3,2,1] ?_
   apply Zx 7 28 21 rfl
   · intro g1 M1;have h1:=sp g1
     refine oo 1 ?_;refine ld ?_;refine oo 1 ?_;refine ld ?_;refine XO.cR call170 (Hq) ?_;refine Zn (Pu.not rfl) ?_;refine oo 1 ?_;exact Zz M1 ⟨orF g1,Zv⟩
   · intro g1 M1;have h1:=sp g1
     refine oo 7 ?_;exact Zz M1 ⟨orT g1,Zv⟩
   refine ox 1 ?_;refine X.part 28 rfl (fun h1=> ?_) (fun h1=> ?_)
   focus
    replace h1:=sp h1
    refine xx 5 ?_
   rotate_left
   focus
    replace h1:=sp h1
    refine xo 6 ?_;refine ld ?_;refine ox 1 ?_;refine X.part 30 rfl (fun h2=> ?_) (fun h2=> ?_)
    focus
     replace h2:=sp h2
     refine xo 4 ?_;refine ld ?_;refine XO.cR call84 (Hl) ?_;refine ox 2 ?_
    rotate_left
    focus
     replace h2:=sp h2
     refine xo 5 ?_;refine ld ?_;refine ox 3 ?_
   all_goals
    refine Zq (q) func135 (Zp results135 rfl) ⟨_,rfl,congrArg Value.bool (by rw [Bool.eq_iff_iff];simp only [decide_eq_true_eq,Bool.false_eq_true,U7];first|(simp_all;done)|(simp_all;omega)|(simp;intro k;exact absurd k hr)),rfl⟩
 refine oo 3 ?_;refine Zy zeroValue278 fun n3=> ?_
 refine stA ?_;refine oo 6 ?_;refine Zn (Pu.not rfl) ?_;refine oo 1 ?_;refine Zf [13,3,2,1] ?_
 apply Zx 7 20 13 rfl
 · intro g1 M1;have h1:=sp g1
   refine oo 1 ?_;refine ld ?_;refine oo 1 ?_;refine ld ?_;refine XO.cR call170 (Hq) ?_;refine Zn (Pu.not rfl) ?_;refine oo 1 ?_;exact Zz M1 ⟨orF g1,Zv⟩
 · intro g1 M1;have h1:=sp g1
   refine oo 7 ?_;exact Zz M1 ⟨orT g1,Zv⟩
 refine oo 1 ?_;refine Zf [21,3,2,1] ?_
 apply Zx 7 28 21 rfl
 · intro g1 M1;have h1:=sp g1
   refine oo 1 ?_;refine ld ?_;refine oo 1 ?_;refine ld ?_;refine XO.cR call170 (Hq) ?_;refine Zn (Pu.not rfl) ?_;refine oo 1 ?_;exact Zz M1 ⟨orF g1,Zv⟩
 · intro g1 M1;have h1:=sp g1
   refine oo 7 ?_;exact Zz M1 ⟨orT g1,Zv⟩
 refine ox 1 ?_;refine X.part 28 rfl (fun h1=> ?_) (fun h1=> ?_)
 focus
  replace h1:=sp h1
  refine xx 5 ?_
 rotate_left
 focus
  replace h1:=sp h1
  refine xo 6 ?_;refine ld ?_;refine ox 1 ?_;refine X.part 30 rfl (fun h2=> ?_) (fun h2=> ?_)
  focus
   replace h2:=sp h2
   refine xo 4 ?_;refine ld ?_;refine XO.cR call84 (Hl) ?_;refine ox 2 ?_
  rotate_left
  focus
   replace h2:=sp h2
   refine xo 5 ?_;refine ld ?_;refine ox 3 ?_
 all_goals
  refine Zq (q) func135 (Zp results135 rfl) ⟨_,rfl,congrArg Value.bool (by rw [Bool.eq_iff_iff];simp only [decide_eq_true_eq,Bool.false_eq_true,U7];first|(simp_all [Z8];done)|(by_cases e1:nmA xc=true<;>by_cases e2:xc=26<;>by_cases e3:xc=1<;>simp_all [Z8]<;>omega)),rfl⟩
theorem A8 {l:List Ins}(g:GC q):Rdr prog G (.func (.func 135) #[] #[]) (fun x=> .agg (Zr x).toArray) (fun x=> .bool (decide (U7 x))) q l:=
 fun q1 h x _=>Mo call135 (I1 (g.le h))
end
section
variable {G:World}{q:List HP}{a b A:Option Addr}{c d C p p0 p1 p2 i:Nat}{lo hi n cd:Int}{fv:Value}{x:Ins}{t:Cod}{m:Mdl}
set_option maxHeartbeats 2000000 in
theorem E6 (g:GC q)(hq:CodQ q t):CallF prog G 87 [.agg (Wk t).toArray] (q) (Ret fun v q'=>v= .bool (decide (Nj t))∧q'=q):=by
 refine CallF.of func87 ntmps87 rfl (fun F cs=> ?_)
 have hn:=hq.n;have hni:=hq.ni;have hnl:=hq.nl
 refine xo 2 ?_;refine Zb fun n1=> ?_
 refine ox 3 ?_;refine drw ?_;refine dd [1] ?_;refine ldD 2 ?_;refine dd [3] ?_;refine Qy 0 call82 (Jw) ?_;rintro _ _ ⟨pa1,pb1,rfl,rfl⟩ _ e_;simp only [ca,na] at e_;subst e_
 refine ⟨hlA,?_⟩
 refine Dc 4 (Jb call128 (Jg (p1:=pa1) (p2:=pb1) (lo:=1) (hi:=16) (Cl.of (l:= [.int .i64 1]) Vr rfl) (Cl.of (l:= [.int .i64 16]) Vr rfl))) ?_
 refine dd [5] ?_;refine XD.part 8 rfl (fun h1=> ?_) (fun h1=> ?_)
 focus
  replace h1:=sp h1
  refine dd [7] ?_;refine ldD 8 ?_;refine Qy 6 call82 (Jw) ?_;rintro _ _ ⟨pa2,pb2,rfl,rfl⟩ _ e_;simp only [ca,na] at e_;subst e_
  refine ⟨hlA,?_⟩
  refine Dc 9 (Jb call128 (Jg (p1:=pa2) (p2:=pb2) (lo:=0) (hi:=32) (Cl.of (l:= [.int .i64 0]) Vr rfl) (Cl.of (l:= [.int .i64 32]) Vr rfl))) ?_
  refine dd [10,11] ?_;refine XD.part 14 rfl (fun h2=> ?_) (fun h2=> ?_)
  focus
   replace h2:=sp h2
   refine dd [12] ?_;refine ldD 13 ?_;refine dd [14,15] ?_;refine ldD 16 ?_;refine dd [17,18,19,20] ?_;refine XD.part 23 rfl (fun h3=> ?_) (fun h3=> ?_)
   focus
    replace h3:=sp h3
    refine dd [21] ?_;refine ldD 22 ?_;refine Z7 23 call134 (Ow (u:=fun x=>decide (U7 x)) (hq.i.le leA) hq.ni ((A8 g).le leA) rfl) ?_
    refine dd [24,25] ?_;refine XD.part 28 rfl (fun h4=> ?_) (fun h4=> ?_)
    focus
     replace h4:=sp h4
     refine dd [26] ?_;refine ldD 27 ?_;refine Qy 28 call82 (Jw) ?_;rintro _ _ ⟨pa3,pb3,rfl,rfl⟩ _ e_;simp only [ca,na] at e_;subst e_
     refine ⟨hlA,?_⟩
     refine Z7 29 call85 (T9 (u:=fun x=>decide (Z8 x 0 65536)) (hq.l.le leA) hq.nl (Ng (p1:=pa3) (p2:=pb3) (lo:=0) (hi:=65536) (Cl.of (l:= [.int .i64 0]) Vr rfl) (Cl.of (l:= [.int .i64 65536]) Vr rfl)) rfl) ?_
     refine dd [30,31] ?_
    rotate_left
    focus
     replace h4:=sp h4
     refine dd [26,27,28,29,30,31] ?_
   rotate_left 2
   focus
    replace h3:=sp h3
    refine dd [21,22,23,24,25,26,27,28,29,30,31] ?_
  rotate_left 3
  focus
   replace h2:=sp h2
   refine dd [12,13,14,15,16,17,18,19,20,21,22,23,24,25,26,27,28,29,30,31] ?_
 rotate_left 4
 focus
  replace h1:=sp h1
  refine dd [6,7,8,9,10,11,12,13,14,15,16,17,18,19,20,21,22,23,24,25,26,27,28,29,30,31] ?_
 all_goals
  refine XD.nil ?_;refine Zq (q) func87 (Zp results87 rfl) ⟨_,rfl,congrArg Value.bool (by first|(rw [Bool.eq_iff_iff];simp only [decide_eq_true_eq,Bool.false_eq_true,Nj];simp_all;done)|((first|(symm;rw [decide_eq_false_iff_not];done)|(rw [decide_eq_false_iff_not])|(symm;rw [decide_eq_false_iff_not]));rintro ⟨k1,k2,k3,k4,k5⟩;exact absurd k4 (by assumption))),rfl⟩
set_option maxHeartbeats 4000000 in
theorem Ab (g:GC q)(hq:MdlQ q m):CallF prog G 54 [.agg (Wp m).toArray] (q) (Ret fun v q'=>v= .int .i64 (Q9 m)∧q'=q):=by
 refine CallF.of func54 ntmps54 rfl (fun F cs=> ?_)
 have hnv:=hq.nv;have hna:=hq.na;have hnc:=hq.nc;have hnt:=hq.nt
 refine xo 2 ?_;refine Zb fun n1=> ?_
 refine oo 4 ?_;refine V8 call82 (Jw) ?_;rintro _ _ ⟨pa4,pb4,rfl,rfl⟩ _ e_;simp only [ca,na] at e_;subst e_
 refine ox 4 ?_;refine drw ?_;refine dd [0,1] ?_;refine ldD 2 ?_;refine Dc 3 (Jb call128 (Jg (p1:=pa4) (p2:=pb4) (lo:=0) (hi:=64) (Cl.of (l:= [.int .i64 0]) Vr rfl) (Cl.of (l:= [.int .i64 64]) Vr rfl))) ?_
 refine Wm 4 rfl (Pu.not rfl) ?_;refine dd [5] ?_;refine XD.part 10 rfl (fun h1=> ?_) (fun h1=> ?_)
 focus
  replace h1:=sp h1
  refine dd [6,7,8,9,10,11,12,13,14,15,16,17,18,19,20,21,22,23,24,25,26,27,28,29,30,31,32,33,34,35,36,37] ?_;refine XD.nil ?_;refine xx 5 ?_
 rotate_left
 focus
  replace h1:=sp h1
  refine dd [6,7] ?_;refine ldD 8 ?_;refine Dc 9 (Jb call128 (Jg (p1:=pa4) (p2:=pb4) (lo:=0) (hi:=64) (Cl.of (l:= [.int .i64 0]) Vr rfl) (Cl.of (l:= [.int .i64 64]) Vr rfl))) ?_
  refine Wm 10 rfl (Pu.not rfl) ?_;refine dd [11,12] ?_;refine XD.part 17 rfl (fun h2=> ?_) (fun h2=> ?_)
  focus
   replace h2:=sp h2
   refine dd [13,14,15,16,17,18,19,20,21,22,23,24,25,26,27,28,29,30,31,32,33,34,35,36,37] ?_;refine XD.nil ?_;refine xx 5 ?_
  rotate_left
  focus
   replace h2:=sp h2
   refine dd [13] ?_;refine ldD 14 ?_;refine Z7 15 call83 (Ch (u:=fun x=>decide (Z8 x (-2147483648) 2147483647)) (hq.v.le leA) hq.nv E3 rfl) ?_
   refine Wm 16 rfl (Pu.not rfl) ?_;refine dd [17,18] ?_;refine XD.part 23 rfl (fun h3=> ?_) (fun h3=> ?_)
   focus
    replace h3:=sp h3
    refine dd [19,20,21,22,23,24,25,26,27,28,29,30,31,32,33,34,35,36,37] ?_;refine XD.nil ?_;refine xx 5 ?_
   rotate_left
   focus
    replace h3:=sp h3
    refine dd [19] ?_;refine ldD 20 ?_;refine Qy 21 call82 (Jw) ?_;rintro _ _ ⟨pa5,pb5,rfl,rfl⟩ _ e_;simp only [ca,na] at e_;subst e_
    refine ⟨hlA,?_⟩
    refine Z7 22 call85 (T9 (u:=fun x=>decide (Z8 x 0 256)) (hq.a.le leA) hq.na (Ng (p1:=pa5) (p2:=pb5) (lo:=0) (hi:=256) (Cl.of (l:= [.int .i64 0]) Vr rfl) (Cl.of (l:= [.int .i64 256]) Vr rfl)) rfl) ?_
    refine Wm 23 rfl (Pu.not rfl) ?_;refine dd [24,25] ?_;refine XD.part 30 rfl (fun h4=> ?_) (fun h4=> ?_)
    focus
     replace h4:=sp h4
     refine dd [26,27,28,29,30,31,32,33,34,35,36,37] ?_;refine XD.nil ?_;refine xx 5 ?_
    rotate_left
    focus
     replace h4:=sp h4
     refine dd [26] ?_;refine ldD 27 ?_;refine Qy 28 call82 (Jw) ?_;rintro _ _ ⟨pa6,pb6,rfl,rfl⟩ _ e_;simp only [ca,na] at e_;subst e_
     refine ⟨hlA,?_⟩
     refine Z7 29 call85 (T9 (u:=fun x=>decide (Z8 x 1 16)) (hq.c.le leA) hq.nc (Ng (p1:=pa6) (p2:=pb6) (lo:=1) (hi:=16) (Cl.of (l:= [.int .i64 1]) Vr rfl) (Cl.of (l:= [.int .i64 16]) Vr rfl)) rfl) ?_
     refine Wm 30 rfl (Pu.not rfl) ?_;refine dd [31,32] ?_;refine XD.part 37 rfl (fun h5=> ?_) (fun h5=> ?_)
     focus
      replace h5:=sp h5
      refine dd [33,34,35,36,37] ?_;refine XD.nil ?_;refine xx 5 ?_
     rotate_left
     focus
      replace h5:=sp h5
      refine dd [33] ?_;refine ldD 34 ?_;refine Z7 35 call86 (Pf (u:=fun x=>decide (Nj x)) (hq.t.le leA) hq.nt (fun q1 h1 x hx=>Mo call87 (E6 (g.le (h1.trans leA)) ((hq.x x hx).le (h1.trans leA)))) rfl) ?_
      refine Wm 36 rfl (Pu.not rfl) ?_;refine dd [37] ?_;refine XD.nil ?_;refine X.part 42 rfl (fun h6=> ?_) (fun h6=> ?_)
      focus
       replace h6:=sp h6
       refine xx 5 ?_
      rotate_left
      focus
       replace h6:=sp h6
       refine xx 6 ?_
 all_goals
  refine Zq (q) func54 (Zp results54 rfl) ⟨_,rfl,congrArg (Value.int _) (by unfold Q9;split<;>(rename_i hm;unfold Hd at hm;simp_all)),rfl⟩
end
theorem Tryz.info9:(prog.info? 9).map (fun i=>(i.zero,i.size,i.bytes))=some (some (.string ⟨#[]⟩),1,16):=by kernel_rfl
def nameB:List ByteArray:= [⟨#[]⟩,⟨#[112,117,115,104]⟩,⟨#[118,97,114]⟩,⟨#[108,111,99,97,108]⟩,⟨#[99,101,108,108]⟩,⟨#[115,101,116,118,97,114]⟩,⟨#[115,101,116,108,111,99,97,108]⟩,⟨#[115,101,116,99,101,108,108]⟩,⟨#[110,101,103]⟩,⟨#[110,111,116]⟩,⟨#[101,113]⟩,⟨#[110,101]⟩,⟨#[108,116]⟩,⟨#[108,101]⟩,⟨#[97,100,100]⟩,⟨#[115,117,98]⟩,⟨#[109,117,108]⟩,⟨#[100,105,118]⟩,⟨#[109,111,100]⟩,⟨#[106,117,109,112]⟩,⟨#[106,117,109,112,122]⟩,⟨#[106,117,109,112,110,122]⟩,⟨#[98,111,111,108]⟩,⟨#[109,97,114,107]⟩,⟨#[108,111,99,107]⟩,⟨#[117,110,108,111,99,107]⟩,⟨#[119,97,105,116]⟩,⟨#[115,105,103,110,97,108]⟩,⟨#[97,108,108]⟩,⟨#[115,101,110,100]⟩,⟨#[114,101,99,118]⟩,⟨#[115,112,97,119,110]⟩,⟨#[106,111,105,110]⟩,⟨#[112,114,105,110,116]⟩,⟨#[101,110,100]⟩]
theorem nameB_at: ∀ k:Fin 35,1≤k.val→((nameB[k.val]'k.isLt).data.size≠0):=by decide
theorem I8 (b:ByteArray):(b.toList==(⟨#[]⟩:ByteArray).toList)=decide (b.data.size=0):=by
 have e: ∀ b:ByteArray,b.toList=b.data.toList:=fun b=>ByteArray.toList_eq b
 rw [e,e,Bool.eq_iff_iff,beq_iff_eq,decide_eq_true_iff]
 constructor
 · intro h;have:=congrArg List.length h;simpa using this
 intro h;exact List.eq_nil_of_length_eq_zero (by simpa using h)
section
variable {G:World}{q:List HP}{a b A:Option Addr}{c d C p p0 p1 p2 i:Nat}{lo hi n cd:Int}{fv:Value}{x:Ins}{t:Cod}{m:Mdl}
theorem Vm:CallF prog G 109 [.int .i64 n,.int .i64 lo,.int .i64 hi] (q) (Ret fun v q'=>v= .bool (decide (Z8 n lo hi))∧q'=q):=by
 refine CallF.of func109 ntmps109 rfl (fun F cs=> ?_)
 refine xo 10 ?_;refine Zf [10,6,0,2] ?_
 apply Zg 4 14 10 rfl
 · intro g1 M1;have h1:=sp g1
   refine oo 4 ?_;exact Zz M1 ⟨Yd g1,Zv⟩
 · intro g1 M1;have h1:=sp g1
   refine oo 4 ?_;exact Zz M1 ⟨Yc g1,Zv⟩
 refine ox 2 ?_;refine Zq (q) func109 (Zp results109 rfl) ⟨_,rfl,congrArg Value.bool (by rw [Bool.eq_iff_iff,decide_eq_true_iff];unfold Z8;simp),rfl⟩
set_option maxHeartbeats 1000000 in
theorem Uses_ok:CallF prog G 195 [.int .i64 cd] (q) (Ret fun v q'=>v= .tuple [.bool (nmA cd),.bool (cd==26),.bool (cd==1)].toArray∧q'=q):=by
 refine CallF.of func195 ntmps195 rfl (fun F cs=> ?_)
 refine xo 11 ?_;refine Zf [8,4,3,2,0] ?_
 apply Zg 3 11 8 rfl
 · intro g1 M1;have h1:=sp g1
   refine oo 3 ?_;exact Zz M1 ⟨Yd g1,Zv⟩
 · intro g1 M1;have h1:=sp g1
   refine oo 3 ?_;exact Zz M1 ⟨Yc g1,Zv⟩
 refine oo 1 ?_;refine Zf [12,4,3,2,0] ?_
 apply Zx 7 19 12 rfl
 · intro g1 M1;have h1:=sp g1
   refine oo 3 ?_;refine Zf [15,12,4,3,2,0] ?_
   apply Zg 3 18 15 rfl
   · intro g2 M2;have h2:=sp g2
     refine oo 3 ?_;exact Zz M2 ⟨Yd g2,Zv⟩
   · intro g2 M2;have h2:=sp g2
     refine oo 3 ?_;exact Zz M2 ⟨Yc g2,Zv⟩
   refine oo 1 ?_;exact Zz M1 ⟨orF g1,Zv⟩
 · intro g1 M1;have h1:=sp g1
   refine oo 7 ?_;exact Zz M1 ⟨orT g1,Zv⟩
 refine oo 1 ?_;refine Zf [20,4,3,2,0] ?_
 apply Zx 7 27 20 rfl
 · intro g1 M1;have h1:=sp g1
   refine oo 3 ?_;refine Zf [23,20,4,3,2,0] ?_
   apply Zg 3 26 23 rfl
   · intro g2 M2;have h2:=sp g2
     refine oo 3 ?_;exact Zz M2 ⟨Yd g2,Zv⟩
   · intro g2 M2;have h2:=sp g2
     refine oo 3 ?_;exact Zz M2 ⟨Yc g2,Zv⟩
   refine oo 1 ?_;exact Zz M1 ⟨orF g1,Zv⟩
 · intro g1 M1;have h1:=sp g1
   refine oo 7 ?_;exact Zz M1 ⟨orT g1,Zv⟩
 refine ox 13 ?_;refine Zq (q) func195 (res3 results195 rfl rfl rfl) ⟨_,rfl,(by have e: ∀ {x y:Bool},(x=true↔y=true)→x=y:=(fun {x y} h=>Bool.eq_iff_iff.2 h);refine congrArg (fun z=>Value.tuple [Value.bool z,_,_].toArray) (e ?_);unfold nmA;rw [decide_eq_true_iff];simp;try omega),rfl⟩
set_option maxHeartbeats 1000000 in
theorem Name_ok:CallF prog G 196 [.int .i64 cd] (q) (Ret fun v q'=> ∃ s:ByteArray,v= .string s∧(s.data.size=0↔ ¬ (1≤cd∧cd≤34))∧q'=q):=by
 refine CallF.of func196 ntmps196 rfl (fun F cs=> ?_)
 refine xo 10 ?_;refine Zf [5,2,0] ?_
 apply Zx 3 8 5 rfl
 · intro g1 M1;have h1:=sp g1
   refine oo 3 ?_;exact Zz M1 ⟨orF g1,Zv⟩
 · intro g1 M1;have h1:=sp g1
   refine oo 3 ?_;exact Zz M1 ⟨orT g1,Zv⟩
 refine ox 1 ?_;refine X.part 8 rfl (fun h1=> ?_) (fun h1=> ?_)
 · replace h1:=sp h1
   refine xx 5 ?_;refine Zq (q) func196 (Zp results196 rfl) ⟨_,rfl,_,rfl,⟨fun _ k=>by omega,fun _=>rfl⟩,rfl⟩
 replace h1:=sp h1
 refine xo 4 ?_
 have hr:1≤cd∧cd≤34:=(by omega)
 refine XO.ef (Yj Value.string nameB underlying55 Tryz.info9 rfl (by kernel_rfl) (by kernel_rfl) rfl rfl rfl (fun _=>rfl)) ?_
 rintro _ _ ⟨g1,rfl,rfl⟩
 have hs:Sees [lsH Value.string 9 (some ⟨g1,0,none⟩) 35 nameB] (some ⟨g1,0,none⟩) (nameB.map Value.string):=Sees.lsH []
 have hk:cd.toNat<nameB.length:=(show cd.toNat<35 by omega)
 refine oo 2 ?_;refine ld ?_ (hc:=(Cl.e1 (n:=cd.toNat) hs leA hk (by omega)))
 refine ox 2 ?_;refine Zq (q) func196 (Zp results196 rfl) ⟨_,rfl,nameB[cd.toNat],rfl,⟨fun k=>absurd k (nameB_at ⟨cd.toNat,hk⟩ (by show 1≤cd.toNat;omega)),fun k=>absurd hr k⟩,rfl⟩
set_option maxHeartbeats 2000000 in
theorem Right_ok:CallF prog G 163 [.agg (Zr x).toArray] (q) (Ret fun v q'=>v= .bool (decide (U7 x))∧q'=q):=by
 refine CallF.of func163 ntmps163 rfl (fun F cs=> ?_)
 obtain ⟨xc,xa,xb,xn⟩:=x;simp only [Zr]
 refine xo 2 ?_;refine Zb fun n1=> ?_
 refine oo 5 ?_;refine ld ?_;refine XO.cR call195 (Uses_ok) ?_;refine oo 12 ?_;refine ld ?_;refine Zh call196 (Le.refl _) (Name_ok) ?_;rintro _ _ ⟨s,rfl,hn,rfl⟩
 have he:=I8 s
 refine oo 1 ?_;refine XO.know 16 (.bool (decide (s.data.size=0))) rfl (by rw [he]) ?_
 refine oo 1 ?_;refine Zf [17,5,4,3,2,1] ?_
 apply Zx 8 25 17 rfl
 · intro g1 M1;have h1:=sp g1
   refine oo 1 ?_;refine Zn (Pu.not rfl) ?_;refine oo 1 ?_;refine Zf [20,17,5,4,3,2,1] ?_
   apply Zg 4 24 20 rfl
   · intro g2 M2;have h2:=sp g2
     refine oo 1 ?_;refine ld ?_;refine oo 2 ?_;exact Zz M2 ⟨Yd g2,Zv⟩
   · intro g2 M2;have h2:=sp g2
     refine oo 4 ?_;exact Zz M2 ⟨Yc g2,Zv⟩
   refine oo 1 ?_;exact Zz M1 ⟨orF g1,Zv⟩
 · intro g1 M1;have h1:=sp g1
   refine oo 8 ?_;exact Zz M1 ⟨orT g1,Zv⟩
 refine oo 1 ?_;refine Zf [26,5,4,2,1] ?_
 apply Zx 8 34 26 rfl
 · intro g1 M1;have h1:=sp g1
   refine oo 1 ?_;refine Zn (Pu.not rfl) ?_;refine oo 1 ?_;refine Zf [29,26,5,4,2,1] ?_
   apply Zg 4 33 29 rfl
   · intro g2 M2;have h2:=sp g2
     refine oo 1 ?_;refine ld ?_;refine oo 2 ?_;exact Zz M2 ⟨Yd g2,Zv⟩
   · intro g2 M2;have h2:=sp g2
     refine oo 4 ?_;exact Zz M2 ⟨Yc g2,Zv⟩
   refine oo 1 ?_;exact Zz M1 ⟨orF g1,Zv⟩
 · intro g1 M1;have h1:=sp g1
   refine oo 8 ?_;exact Zz M1 ⟨orT g1,Zv⟩
 refine oo 1 ?_;refine Zf [35,5,2,1] ?_
 apply Zx 8 43 35 rfl
 · intro g1 M1;have h1:=sp g1
   refine oo 1 ?_;refine Zn (Pu.not rfl) ?_;refine oo 1 ?_;refine Zf [38,35,5,2,1] ?_
   apply Zg 4 42 38 rfl
   · intro g2 M2;have h2:=sp g2
     refine oo 1 ?_;refine ld ?_;refine oo 2 ?_;exact Zz M2 ⟨Yd g2,Zv⟩
   · intro g2 M2;have h2:=sp g2
     refine oo 4 ?_;exact Zz M2 ⟨Yc g2,Zv⟩
   refine oo 1 ?_;exact Zz M1 ⟨orF g1,Zv⟩
 · intro g1 M1;have h1:=sp g1
   refine oo 8 ?_;exact Zz M1 ⟨orT g1,Zv⟩
 refine ox 1 ?_;refine X.part 43 rfl (fun h1=> ?_) (fun h1=> ?_)
 focus
  replace h1:=sp h1
  refine xx 5 ?_
 rotate_left
 focus
  replace h1:=sp h1
  refine xo 5 ?_;refine ld ?_;refine XO.cR call109 (Vm) ?_;refine oo 1 ?_;refine Zf [47,2,1] ?_
  apply Zg 4 51 47 rfl
  · intro g2 M2;have h2:=sp g2
    refine oo 1 ?_;refine ld ?_;refine XO.cR call109 (Vm) ?_;refine oo 1 ?_;exact Zz M2 ⟨Yd g2,Zv⟩
  · intro g2 M2;have h2:=sp g2
    refine oo 4 ?_;exact Zz M2 ⟨Yc g2,Zv⟩
  refine oo 1 ?_;refine Zf [52,2,1] ?_
  apply Zg 4 56 52 rfl
  · intro g2 M2;have h2:=sp g2
    refine oo 1 ?_;refine ld ?_;refine XO.cR call109 (Vm) ?_;refine oo 1 ?_;exact Zz M2 ⟨Yd g2,Zv⟩
  · intro g2 M2;have h2:=sp g2
    refine oo 4 ?_;exact Zz M2 ⟨Yc g2,Zv⟩
  refine ox 2 ?_
 all_goals
  refine Zq (q) func163 (Zp results163 rfl) ⟨_,rfl,congrArg Value.bool (by rw [Bool.eq_iff_iff];simp only [decide_eq_true_eq,Bool.false_eq_true,U7];first|(simp_all;done)|(simp only [Bool.and_eq_true,decide_eq_true_eq];simp only [Z8];obtain ⟨⟨⟨h1a,h1b⟩,h1c⟩,h1d⟩:=h1;have hr:=Classical.byContradiction (fun k=>h1a (hn.2 k));rcases h1b with e1|e1<;>rcases h1c with e2|e2<;>rcases h1d with e3|e3<;>(repeat' split)<;>first|omega|contradiction)|(by_cases e1:nmA xc=true<;>by_cases e2:xc=26<;>by_cases e3:xc=1<;>simp_all [Z8]<;>omega)),rfl⟩
set_option maxHeartbeats 2000000 in
theorem rcode_ok (hq:CodQ q t):CallF prog G 110 [.agg (Wk t).toArray] (q) (Ret fun v q'=>v= .bool (decide (Nj t))∧q'=q):=by
 refine CallF.of func110 ntmps110 rfl (fun F cs=> ?_)
 have hn:=hq.n;have hni:=hq.ni;have hnl:=hq.nl;have hs:=hq.i;have hl:=hq.l;have hleni:=Zm (f:=Zr) (sz:=4) (fun _=>rfl) t.ins;have hlenl:(t.lines.map I64).length=t.lines.length:=(by simp)
 refine xo 2 ?_;refine Zb fun n1=> ?_
 refine oo 6 ?_;refine ld ?_;refine oo 3 ?_;refine Zf [8,2,1] ?_
 apply Zx 5 13 8 rfl
 · intro g1 M1;have h1:=sp g1
   refine oo 1 ?_;refine ld ?_;refine oo 3 ?_;exact Zz M1 ⟨orF g1,Zv⟩
 · intro g1 M1;have h1:=sp g1
   refine oo 5 ?_;exact Zz M1 ⟨orT g1,Zv⟩
 refine oo 1 ?_;refine Zf [14,2,1] ?_
 apply Zx 5 19 14 rfl
 · intro g1 M1;have h1:=sp g1
   refine oo 1 ?_;refine ld ?_;refine XO.cR call109 (Vm) ?_;refine Zn (Pu.not rfl) ?_;refine oo 1 ?_;exact Zz M1 ⟨orF g1,Zv⟩
 · intro g1 M1;have h1:=sp g1
   refine oo 5 ?_;exact Zz M1 ⟨orT g1,Zv⟩
 refine oo 1 ?_;refine Zf [20,2,1] ?_
 apply Zx 5 25 20 rfl
 · intro g1 M1;have h1:=sp g1
   refine oo 1 ?_;refine ld ?_;refine oo 3 ?_;exact Zz M1 ⟨orF g1,Zv⟩
 · intro g1 M1;have h1:=sp g1
   refine oo 5 ?_;exact Zz M1 ⟨orT g1,Zv⟩
 refine oo 1 ?_;refine Zf [26,2,1] ?_
 apply Zx 8 34 26 rfl
 · intro g1 M1;have h1:=sp g1
   refine oo 1 ?_;refine ld ?_;refine oo 2 ?_;refine ld ?_;refine oo 3 ?_;exact Zz M1 ⟨orF g1,Zv⟩
 · intro g1 M1;have h1:=sp g1
   refine oo 8 ?_;exact Zz M1 ⟨orT g1,Zv⟩
 refine ox 1 ?_;refine X.part 34 rfl (fun h1=> ?_) (fun h1=> ?_)
 · replace h1:=sp h1
   refine xx 5 ?_;refine Zq (q) func110 (Zp results110 rfl) ⟨_,rfl,congrArg Value.bool (by symm;rw [decide_eq_false_iff_not];rintro ⟨⟨k1,k2⟩,⟨k3,k4⟩,k5,⟨k6,k7⟩,k8,k9⟩;simp only [Z8] at*;omega),rfl⟩
 replace h1:=sp h1
 refine xx 8 ?_;refine X.at (X.loop (fun (s:Nat)=>s≤t.ins.length∧(∀ i (h:i<t.ins.length),i<s→U7 t.ins[i])∧(∀ i (h:i<t.lines.length),i<s→Z8 t.lines[i] 0 65536)) (fun s=> [(3,.int .i64 (s:Int)),(1,.pointer (some ⟨n1,0,none⟩))]) (fun s=>pto n1 (.cells (Wk t).toArray 34 (0,0))::(q++F)) (fun s=>t.ins.length - s) (fun s hi_ ih=> ?_) 0 ⟨by omega,fun i _ k=>by omega,fun i _ k=>by omega⟩) Zt leA
 try dsimp only at hi_ ih⊢
 obtain ⟨hi1,hi2,hi3⟩:=hi_
 refine xo 5 ?_;refine ld ?_;refine ox 3 ?_;refine X.part 39 rfl (fun h0=> ?_) (fun h0=> ?_)
 · replace h0:=sp h0;have hi0:s<t.ins.length:=(by omega)
   refine xo 7 ?_;refine ld ?_;refine Yz hs (by rw [hleni];omega) (fun b1 o1 eI=> ?_)
   have hsA:=hs;rw [eI] at hsA
   refine XO.know 43 (.slice (some ⟨b1,o1,none⟩) t.ins.length t.ic) rfl (by rw [eI]) ?_
   refine oo 2 ?_;refine Wn (n:=s) isAgg48 sizeOf48 hsA hi0 ?_
   refine XO.cR call163 (Right_ok (x:=t.ins[s])) ?_
   refine Zn (Pu.not rfl) ?_;refine oo 1 ?_;refine Zf [49,3,1] ?_
   apply Zx 8 57 49 rfl
   · intro g2 M2;have h2:=sp g2
     refine oo 1 ?_;refine ld ?_;refine Yz hl (by rw [hlenl];omega) (fun b2 o2 eL=> ?_)
     have hlA:=hl;rw [eL] at hlA
     refine XO.know 51 (.slice (some ⟨b2,o2,none⟩) t.lines.length t.lc) rfl (by rw [eL]) ?_
     refine oo 2 ?_;refine ld ?_ (hc:=(Cl.e1 (g:=I64) (n:=s) hlA leA (by omega) rfl))
     refine XO.cR call109 (Vm) ?_;refine Zn (Pu.not rfl) ?_;refine oo 1 ?_;exact Zz M2 ⟨orF g2,Zv⟩
   · intro g2 M2;have h2:=sp g2
     refine oo 8 ?_;exact Zz M2 ⟨orT g2,Zv⟩
   refine ox 1 ?_;refine X.part 57 rfl (fun h2=> ?_) (fun h2=> ?_)
   · replace h2:=sp h2
     refine xx 5 ?_;refine Zq (q) func110 (Zp results110 rfl) ⟨_,rfl,congrArg Value.bool (by symm;rw [decide_eq_false_iff_not];rintro ⟨⟨k1,k2⟩,⟨k3,k4⟩,k5,⟨k6,k7⟩,k8,k9⟩;rcases h2 with h|h;exact h (k7 _ (List.getElem_mem _));exact h (k9 _ (List.getElem_mem _))),rfl⟩
   replace h2:=sp h2
   refine xx 8 ?_;refine X.at (ih (s+1) ⟨by omega,fun i hh k=>by rcases Nat.lt_or_ge i s with e|e;exact hi2 i hh e;obtain rfl:i=s:=(by omega);exact h2.1,fun i hh k=>by rcases Nat.lt_or_ge i s with e|e;exact hi3 i hh e;obtain rfl:i=s:=(by omega);exact h2.2⟩ (by omega)) Zt leA
 replace h0:=sp h0
 refine xx 6 ?_
 have hll:t.ins.length=t.lines.length:=by omega
 refine Zq (q) func110 (Zp results110 rfl) ⟨_,rfl,congrArg Value.bool (by symm;rw [decide_eq_true_iff];simp only [Z8] at h1;exact ⟨⟨by omega,by omega⟩,⟨by omega,by omega⟩,by omega,⟨by omega,fun i hm=>by obtain ⟨k,hk,rfl⟩:=List.getElem_of_mem hm;exact hi2 k hk (by omega)⟩,by omega,fun i hm=>by obtain ⟨k,hk,rfl⟩:=List.getElem_of_mem hm;exact hi3 k hk (by omega)⟩),rfl⟩
set_option maxHeartbeats 4000000 in
theorem Ob (hq:MdlQ q m):CallF prog G 73 [.agg (Wp m).toArray] (q) (Ret fun v q'=>v= .int .i64 (Q9 m)∧q'=q):=by
 refine CallF.of func73 ntmps73 rfl (fun F cs=> ?_)
 have hnv:=hq.nv;have hna:=hq.na;have hnc:=hq.nc;have hnt:=hq.nt;have hv:=hq.v;have ha:=hq.a;have hc:=hq.c;have ht:=hq.t
 have hlv:(m.vars.map I64).length=m.vars.length:=(by simp);have hla:(m.arrays.map I64).length=m.arrays.length:=(by simp);have hlc:(m.chans.map I64).length=m.chans.length:=(by simp);have hlt:=Zm (f:=Wk) (sz:=4) (fun _=>rfl) m.threads
 refine xo 2 ?_;refine Zb fun n1=> ?_
 refine oo 6 ?_;refine ld ?_;refine oo 3 ?_;refine Zf [11,2,1] ?_
 apply Zx 5 16 11 rfl
 · intro g1 M1;have h1:=sp g1
   refine oo 1 ?_;refine ld ?_;refine oo 3 ?_;exact Zz M1 ⟨orF g1,Zv⟩
 · intro g1 M1;have h1:=sp g1
   refine oo 5 ?_;exact Zz M1 ⟨orT g1,Zv⟩
 refine oo 1 ?_;refine Zf [17,2,1] ?_
 apply Zx 5 22 17 rfl
 · intro g1 M1;have h1:=sp g1
   refine oo 1 ?_;refine ld ?_;refine oo 3 ?_;exact Zz M1 ⟨orF g1,Zv⟩
 · intro g1 M1;have h1:=sp g1
   refine oo 5 ?_;exact Zz M1 ⟨orT g1,Zv⟩
 refine oo 1 ?_;refine Zf [23,2,1] ?_
 apply Zx 5 28 23 rfl
 · intro g1 M1;have h1:=sp g1
   refine oo 1 ?_;refine ld ?_;refine oo 3 ?_;exact Zz M1 ⟨orF g1,Zv⟩
 · intro g1 M1;have h1:=sp g1
   refine oo 5 ?_;exact Zz M1 ⟨orT g1,Zv⟩
 refine oo 1 ?_;refine Zf [29,2,1] ?_
 apply Zx 5 34 29 rfl
 · intro g1 M1;have h1:=sp g1
   refine oo 1 ?_;refine ld ?_;refine XO.cR call109 (Vm) ?_;refine Zn (Pu.not rfl) ?_;refine oo 1 ?_;exact Zz M1 ⟨orF g1,Zv⟩
 · intro g1 M1;have h1:=sp g1
   refine oo 5 ?_;exact Zz M1 ⟨orT g1,Zv⟩
 refine oo 1 ?_;refine Zf [35,2,1] ?_
 apply Zx 5 40 35 rfl
 · intro g1 M1;have h1:=sp g1
   refine oo 1 ?_;refine ld ?_;refine XO.cR call109 (Vm) ?_;refine Zn (Pu.not rfl) ?_;refine oo 1 ?_;exact Zz M1 ⟨orF g1,Zv⟩
 · intro g1 M1;have h1:=sp g1
   refine oo 5 ?_;exact Zz M1 ⟨orT g1,Zv⟩
 refine ox 1 ?_;refine X.part 40 rfl (fun h1=> ?_) (fun h1=> ?_)
 · replace h1:=sp h1
   refine xx 5 ?_;refine Zq (q) func73 (Zp results73 rfl) ⟨_,rfl,congrArg (Value.int _) (by symm;unfold Q9;rw [if_neg];rintro ⟨⟨k1,k2⟩,⟨k3,k4⟩,⟨k5,k6⟩,⟨k7,k8⟩,⟨k9,k10⟩,k11,k12⟩;simp only [Z8] at h1;omega),rfl⟩
 replace h1:=sp h1
 refine xx 8 ?_;refine X.at (X.loop (fun (s:Nat)=>s≤m.vars.length∧ ∀ i (h:i<m.vars.length),i<s→Z8 m.vars[i] (-2147483648) 2147483647) (fun s=> [(3,.int .i64 (s:Int)),(1,.pointer (some ⟨n1,0,none⟩))]) (fun s=>pto n1 (.cells (Wp m).toArray 26 (0,0))::(q++F)) (fun s=>m.vars.length - s) (fun s hi_ ih0=> ?_) 0 ⟨by omega,fun i _ k=>by omega⟩) Zt leA
 try dsimp only at hi_ ih0⊢
 obtain ⟨hi1,hi2⟩:=hi_
 refine xo 5 ?_;refine ld ?_;refine ox 3 ?_;refine X.part 45 rfl (fun h0=> ?_) (fun h0=> ?_)
 · replace h0:=sp h0;have hi0:s<m.vars.length:=(by omega)
   refine xo 7 ?_;refine ld ?_;refine Yz hv (by rw [hlv];omega) (fun b1 o1 eI=> ?_)
   have hsA:=hv;rw [eI] at hsA
   refine XO.know 49 (.slice (some ⟨b1,o1,none⟩) m.vars.length m.vc) rfl (by rw [eI]) ?_
   refine oo 2 ?_;refine ld ?_ (hc:=(Cl.e1 (g:=I64) (n:=s) hsA leA hi0 rfl))
   refine XO.cR call109 (Vm) ?_;refine Zn (Pu.not rfl) ?_;refine ox 1 ?_;refine X.part 54 rfl (fun h2=> ?_) (fun h2=> ?_)
   · replace h2:=sp h2
     refine xx 5 ?_;refine Zq (q) func73 (Zp results73 rfl) ⟨_,rfl,congrArg (Value.int _) (by symm;unfold Q9;rw [if_neg];rintro ⟨⟨k1,k2⟩,⟨k3,k4⟩,⟨k5,k6⟩,⟨k7,k8⟩,⟨k9,k10⟩,k11,k12⟩;exact h2 (k6 _ (List.getElem_mem _))),rfl⟩
   replace h2:=sp h2
   refine xx 8 ?_;refine X.at (ih0 (s+1) ⟨by omega,fun i hh k=>by rcases Nat.lt_or_ge i s with e|e;exact hi2 i hh e;obtain rfl:i=s:=(by omega);exact h2⟩ (by omega)) Zt leA
 replace h0:=sp h0
 have H0: ∀ z∈m.vars,Z8 z (-2147483648) 2147483647:=fun z hm=>by obtain ⟨k,hk,rfl⟩:=List.getElem_of_mem hm;exact hi2 k hk (by omega)
 refine xx 8 ?_;refine X.at (X.loop (fun (s:Nat)=>s≤m.arrays.length∧ ∀ i (h:i<m.arrays.length),i<s→Z8 m.arrays[i] 0 256) (fun s=> [(4,.int .i64 (s:Int)),(1,.pointer (some ⟨n1,0,none⟩))]) (fun s=>pto n1 (.cells (Wp m).toArray 26 (0,0))::(q++F)) (fun s=>m.arrays.length - s) (fun s hi_ ih1=> ?_) 0 ⟨by omega,fun i _ k=>by omega⟩) Zt leA
 try dsimp only at hi_ ih1⊢
 obtain ⟨hi1,hi2⟩:=hi_
 refine xo 5 ?_;refine ld ?_;refine ox 3 ?_;refine X.part 59 rfl (fun h0=> ?_) (fun h0=> ?_)
 · replace h0:=sp h0;have hi0:s<m.arrays.length:=(by omega)
   refine xo 7 ?_;refine ld ?_;refine Yz ha (by rw [hla];omega) (fun b1 o1 eI=> ?_)
   have hsA:=ha;rw [eI] at hsA
   refine XO.know 63 (.slice (some ⟨b1,o1,none⟩) m.arrays.length m.ac) rfl (by rw [eI]) ?_
   refine oo 2 ?_;refine ld ?_ (hc:=(Cl.e1 (g:=I64) (n:=s) hsA leA hi0 rfl))
   refine XO.cR call109 (Vm) ?_;refine Zn (Pu.not rfl) ?_;refine ox 1 ?_;refine X.part 68 rfl (fun h2=> ?_) (fun h2=> ?_)
   · replace h2:=sp h2
     refine xx 5 ?_;refine Zq (q) func73 (Zp results73 rfl) ⟨_,rfl,congrArg (Value.int _) (by symm;unfold Q9;rw [if_neg];rintro ⟨⟨k1,k2⟩,⟨k3,k4⟩,⟨k5,k6⟩,⟨k7,k8⟩,⟨k9,k10⟩,k11,k12⟩;exact h2 (k8 _ (List.getElem_mem _))),rfl⟩
   replace h2:=sp h2
   refine xx 8 ?_;refine X.at (ih1 (s+1) ⟨by omega,fun i hh k=>by rcases Nat.lt_or_ge i s with e|e;exact hi2 i hh e;obtain rfl:i=s:=(by omega);exact h2⟩ (by omega)) Zt leA
 replace h0:=sp h0
 have H1: ∀ z∈m.arrays,Z8 z 0 256:=fun z hm=>by obtain ⟨k,hk,rfl⟩:=List.getElem_of_mem hm;exact hi2 k hk (by omega)
 refine xx 8 ?_;refine X.at (X.loop (fun (s:Nat)=>s≤m.chans.length∧ ∀ i (h:i<m.chans.length),i<s→Z8 m.chans[i] 1 16) (fun s=> [(5,.int .i64 (s:Int)),(1,.pointer (some ⟨n1,0,none⟩))]) (fun s=>pto n1 (.cells (Wp m).toArray 26 (0,0))::(q++F)) (fun s=>m.chans.length - s) (fun s hi_ ih2=> ?_) 0 ⟨by omega,fun i _ k=>by omega⟩) Zt leA
 try dsimp only at hi_ ih2⊢
 obtain ⟨hi1,hi2⟩:=hi_
 refine xo 5 ?_;refine ld ?_;refine ox 3 ?_;refine X.part 73 rfl (fun h0=> ?_) (fun h0=> ?_)
 · replace h0:=sp h0;have hi0:s<m.chans.length:=(by omega)
   refine xo 7 ?_;refine ld ?_;refine Yz hc (by rw [hlc];omega) (fun b1 o1 eI=> ?_)
   have hsA:=hc;rw [eI] at hsA
   refine XO.know 77 (.slice (some ⟨b1,o1,none⟩) m.chans.length m.cc) rfl (by rw [eI]) ?_
   refine oo 2 ?_;refine ld ?_ (hc:=(Cl.e1 (g:=I64) (n:=s) hsA leA hi0 rfl))
   refine XO.cR call109 (Vm) ?_;refine Zn (Pu.not rfl) ?_;refine ox 1 ?_;refine X.part 82 rfl (fun h2=> ?_) (fun h2=> ?_)
   · replace h2:=sp h2
     refine xx 5 ?_;refine Zq (q) func73 (Zp results73 rfl) ⟨_,rfl,congrArg (Value.int _) (by symm;unfold Q9;rw [if_neg];rintro ⟨⟨k1,k2⟩,⟨k3,k4⟩,⟨k5,k6⟩,⟨k7,k8⟩,⟨k9,k10⟩,k11,k12⟩;exact h2 (k10 _ (List.getElem_mem _))),rfl⟩
   replace h2:=sp h2
   refine xx 8 ?_;refine X.at (ih2 (s+1) ⟨by omega,fun i hh k=>by rcases Nat.lt_or_ge i s with e|e;exact hi2 i hh e;obtain rfl:i=s:=(by omega);exact h2⟩ (by omega)) Zt leA
 replace h0:=sp h0
 have H2: ∀ z∈m.chans,Z8 z 1 16:=fun z hm=>by obtain ⟨k,hk,rfl⟩:=List.getElem_of_mem hm;exact hi2 k hk (by omega)
 refine xx 8 ?_;refine X.at (X.loop (fun (s:Nat)=>s≤m.threads.length∧ ∀ i (h:i<m.threads.length),i<s→Nj m.threads[i]) (fun s=> [(6,.int .i64 (s:Int)),(1,.pointer (some ⟨n1,0,none⟩))]) (fun s=>pto n1 (.cells (Wp m).toArray 26 (0,0))::(q++F)) (fun s=>m.threads.length - s) (fun s hi_ ih3=> ?_) 0 ⟨by omega,fun i _ k=>by omega⟩) Zt leA
 try dsimp only at hi_ ih3⊢
 obtain ⟨hi1,hi2⟩:=hi_
 refine xo 5 ?_;refine ld ?_;refine ox 3 ?_;refine X.part 87 rfl (fun h0=> ?_) (fun h0=> ?_)
 · replace h0:=sp h0;have hi0:s<m.threads.length:=(by omega)
   refine xo 7 ?_;refine ld ?_;refine Yz ht (by rw [hlt];omega) (fun b1 o1 eI=> ?_)
   have hsA:=ht;rw [eI] at hsA
   refine XO.know 91 (.slice (some ⟨b1,o1,none⟩) m.threads.length m.tc) rfl (by rw [eI]) ?_
   refine oo 2 ?_;refine Wn (n:=s) isAgg34 sizeOf34 hsA hi0 ?_
   refine XO.cR call110 (rcode_ok ((hq.x _ (List.getElem_mem hi0)).le leA)) ?_;refine Zn (Pu.not rfl) ?_;refine ox 1 ?_;refine X.part 96 rfl (fun h2=> ?_) (fun h2=> ?_)
   · replace h2:=sp h2
     refine xx 5 ?_;refine Zq (q) func73 (Zp results73 rfl) ⟨_,rfl,congrArg (Value.int _) (by symm;unfold Q9;rw [if_neg];rintro ⟨⟨k1,k2⟩,⟨k3,k4⟩,⟨k5,k6⟩,⟨k7,k8⟩,⟨k9,k10⟩,k11,k12⟩;exact h2 (k12 _ (List.getElem_mem _))),rfl⟩
   replace h2:=sp h2
   refine xx 8 ?_;refine X.at (ih3 (s+1) ⟨by omega,fun i hh k=>by rcases Nat.lt_or_ge i s with e|e;exact hi2 i hh e;obtain rfl:i=s:=(by omega);exact h2⟩ (by omega)) Zt leA
 replace h0:=sp h0
 have H3: ∀ z∈m.threads,Nj z:=fun z hm=>by obtain ⟨k,hk,rfl⟩:=List.getElem_of_mem hm;exact hi2 k hk (by omega)
 refine xx 6 ?_;refine Zq (q) func73 (Zp results73 rfl) ⟨_,rfl,congrArg (Value.int _) (by symm;unfold Q9;rw [if_pos];simp only [Z8] at h1;exact ⟨⟨by omega,by omega⟩,⟨by omega,by omega⟩,⟨by omega,H0⟩,⟨by omega,H1⟩,⟨by omega,H2⟩,by omega,H3⟩),rfl⟩
end
theorem Tryz.info3:(prog.info? 3).map (fun i=>(i.zero,i.size,i.bytes))=some (some (.int .i64 0),1,8):=by kernel_rfl
abbrev Tp:=Int×Int×Int×Int
def Yh (c:Int):Int×Int:=
 if c≤3∨c=30 then (0,1) else if c=4∨c=8∨c=9∨c=22 then (1,1) else if 10≤c∧c≤18 then (2,1) else if c=7 then (2,0) else if c=5∨c=6∨c=20∨c=21∨c=29∨c=33 then (1,0) else (0,0)
theorem Mr (c:Int):0≤(Yh c).1∧0≤(Yh c).2:=by
 unfold Yh
 split; · decide
 split; · decide
 split; · decide
 split; · decide
 split<;>decide
def Qw (i:Tp)(a:Nat):List Int:=
 if i.1=34 then [] else if i.1=19 then [i.2.1] else if i.1=20∨i.1=21 then if i.2.1=a+1 then [i.2.1] else [i.2.1,a+1] else [(a:Int)+1]
def zI:Tp:=(0,0,0,0)
def Wo (ins:List Tp)(a:Nat)(d:Int):Int×Int:=
 let i:=ins.getD a zI
 if d<(Yh i.1).1∨d - (Yh i.1).1+(Yh i.1).2>25 then (0,173)
 else if (i.1=23∨i.1=34)∧d≠0 then (0,175)
 else if ∃ x∈Qw i a,(ins.length:Int)≤x then (0,172) else (d - (Yh i.1).1+(Yh i.1).2,0)
def dAt (D:List Int)(i:Nat):Int:=D.getD i (-1)
def Vy (b:Int):List Int→List Int→Option (List Int)
 |D, []=>some D
 |D,x::r=>if 0≤dAt D x.toNat∧dAt D x.toNat≠b then none else Vy b (D.set x.toNat b) r
abbrev Qh (D:List Int)(dn:List Bool)(i:Nat):Prop:=0≤dAt D i∧dn.getD i false=false
def Ur (D:List Int)(dn:List Bool):Option Nat:=(List.range D.length).find? fun i=>decide (Qh D dn i)
def Je (ins:List Tp):Nat→List Int→List Bool→List Int×Int
 |0,D,_=>(D,0)
 |k+1,D,dn=>match Ur D dn with
  |none=>(D,0)
  |some a=>if (Wo ins a (dAt D a)).2≠0 then ([],(Wo ins a (dAt D a)).2) else match Vy (Wo ins a (dAt D a)).1 D (Qw (ins.getD a zI) a) with
   |none=>([],174)
   |some D'=>Je ins k D' (dn.set a true)
theorem Qo {D:List Int}{dn:List Bool}{a:Nat}(h:Ur D dn=some a):a<D.length∧Qh D dn a∧ ∀ j,j<a→ ¬Qh D dn j:=by
 unfold Ur at h
 have h1:=List.find?_some h
 have h2:=List.mem_of_find?_eq_some h
 refine ⟨by simpa using h2,of_decide_eq_true h1,fun j hj hop=> ?_⟩
 obtain ⟨_,as1,bs1,e,hn⟩:=List.find?_eq_some_iff_append.1 h
 have hl:as1.length=a:=by
  have h3:(List.range D.length)[as1.length]? =some a:=by rw [e];simp
  have h4:as1.length<D.length:=by have:=congrArg List.length e;simp at this;omega
  rw [List.getElem?_eq_getElem (by simpa using h4)] at h3
  simpa using h3
 have hm:j∈as1:=by
  have h3:as1[j]? =some j:=by
   have h5:(List.range D.length)[j]? =as1[j]? :=by rw [e,List.getElem?_append_left (by omega)]
   rw [←h5]
   have h4:a<D.length:=by simpa using h2
   rw [List.getElem?_eq_getElem (by simp;omega)];simp
  exact List.mem_of_getElem? h3
 have:=hn j hm
 rw [decide_eq_true hop] at this;cases this
theorem Rt {D:List Int}{dn:List Bool}(h:Ur D dn=none): ∀ j,j<D.length→ ¬Qh D dn j:=by
 intro j hj hop
 have:=List.find?_eq_none.1 h j (by simpa using hj)
 exact this (decide_eq_true hop)
theorem El {D:List Int}{dn:List Bool}{a:Nat}(h1:a<D.length)(h2:Qh D dn a)(h3: ∀ j,j<D.length→Qh D dn j→a≤j):Ur D dn=some a:=by
 cases h:Ur D dn with
 |none=>exact absurd h2 (Rt h a h1)
 |some b=>
  obtain ⟨k1,k2,k3⟩:=Qo h
  have:=h3 b k1 k2
  rcases Nat.lt_or_ge a b with h4|h4
  · exact absurd h2 (k3 a h4)
  rw [show b=a by omega]
theorem H7 {D:List Int}{dn:List Bool}(h: ∀ j,j<D.length→ ¬Qh D dn j):Ur D dn=none:=by
 cases h1:Ur D dn with
 |none=>rfl
 |some b=>obtain ⟨k1,k2,_⟩:=Qo h1;exact absurd k2 (h b k1)
theorem Hx {D:List Int}{i j:Nat}{b:Int}(hi:i<D.length):dAt (D.set i b) j=if j=i then b else dAt D j:=by
 unfold dAt
 simp only [List.getD_eq_getElem?_getD,List.getElem?_set]
 by_cases h:j=i
 · subst h;simp [hi]
 have h': ¬i=j:=fun e=>h e.symm
 simp [h,h']
theorem Rb {b:Int}(hb:0≤b): ∀ {l D D':List Int},(∀ x∈l,0≤x∧x<(D.length:Int))→Vy b D l=some D'→D'.length=D.length∧(∀ j,0≤dAt D j→dAt D' j=dAt D j)∧(∀ x∈l,dAt D' x.toNat=b)∧ ∀ j,0≤dAt D' j→0≤dAt D j∨(j:Int)∈l
 | [],D,D',_,h=>by cases h;exact ⟨rfl,fun _ _=>rfl,by simp,fun j h=> .inl h⟩
 |x::r,D,D',hx,h=>by
  unfold Vy at h
  split at h
  · cases h
  rename_i hc
  obtain ⟨hx0,hx1⟩:=hx x (List.mem_cons_self ..)
  have hxl:x.toNat<D.length:=by omega
  obtain ⟨k1,k2,k3,k4⟩:=Rb hb (l:=r) (D:=D.set x.toNat b) (fun y hy=>by rw [List.length_set];exact hx y (List.mem_cons_of_mem _ hy)) h
  have e:=fun j=>Hx (D:=D) (i:=x.toNat) (j:=j) (b:=b) hxl
  refine ⟨by rw [k1,List.length_set],fun j hj=> ?_,fun y hy=> ?_,fun j hj=> ?_⟩
  · have h1:0≤dAt (D.set x.toNat b) j:=by rw [e];split<;>omega
    rw [k2 j h1,e]
    split
    · rename_i e1
      subst e1
      rcases Decidable.em (dAt D x.toNat=b) with h2|h2
      · exact h2.symm
      exact absurd ⟨hj,h2⟩ hc
    rfl
  · rcases List.mem_cons.1 hy with rfl|hy
    · have h1:0≤dAt (D.set y.toNat b) y.toNat:=by rw [e,if_pos rfl];exact hb
      rw [k2 _ h1,e,if_pos rfl]
    exact k3 y hy
  rcases k4 j hj with h1|h1
  · rw [e] at h1
    split at h1
    · rename_i e1;right;rw [e1];simp;left;omega
    exact .inl h1
  exact .inr (List.mem_cons_of_mem _ h1)
def Goes (ins:List Tp)(D:List Int)(a:Nat):Prop:=(Wo ins a (dAt D a)).2=0∧ ∀ x∈Qw (ins.getD a zI) a,dAt D x.toNat=(Wo ins a (dAt D a)).1
theorem Qg {ins:List Tp}{a:Nat}{d:Int}(h:(Wo ins a d).2=0):(∀ x∈Qw (ins.getD a zI) a,x<(ins.length:Int))∧(0≤d→0≤(Wo ins a d).1)∧ ¬d<(Yh (ins.getD a zI).1).1:=by
 unfold Wo at h⊢
 simp only at h⊢
 split at h
 · cases h
 rename_i h1
 split at h
 · cases h
 rename_i h2
 split at h
 · cases h
 rename_i h3
 rw [if_neg h1,if_neg h2,if_neg h3]
 refine ⟨fun x hx=> ?_,fun hd=> ?_,fun h4=>h1 (.inl h4)⟩
 · rcases Int.lt_or_le x ins.length with h4|h4
   · exact h4
   exact absurd ⟨x,hx,h4⟩ h3
 have:=Mr (ins.getD a zI).1
 dsimp only;omega
theorem Iz {ins:List Tp}(hA: ∀ i∈ins,(i.1=19∨i.1=20∨i.1=21)→0≤i.2.1): ∀ (k:Nat) (D:List Int) (dn:List Bool),D.length=ins.length→dn.length=ins.length→(dn.filter (· ==false)).length≤k→
 (∀ a,a<ins.length→dn.getD a false=true→0≤dAt D a∧Goes ins D a)→(Je ins k D dn).2=0→(Je ins k D dn).1.length=ins.length∧(∀ a,0≤dAt D a→dAt (Je ins k D dn).1 a=dAt D a)∧ ∀ a,a<ins.length→0≤dAt (Je ins k D dn).1 a→Goes ins (Je ins k D dn).1 a:=by
 have noF: ∀ dn:List Bool,(dn.filter (· ==false)).length=0→ ∀ a,a<dn.length→dn.getD a false=true:=by
  intro dn h a ha
  have h1:=List.eq_nil_of_length_eq_zero h
  rw [List.filter_eq_nil_iff] at h1
  have:=h1 dn[a] (List.getElem_mem ha)
  simp [List.getD,ha]
  simpa using this
 have cnt: ∀ (dn:List Bool) (a:Nat),a<dn.length→dn.getD a false=false→((dn.set a true).filter (· ==false)).length+1=(dn.filter (· ==false)).length:=by
  intro dn
  induction dn with
  |nil=>intro a h;simp at h
  |cons x r ih=>
   intro a ha h
   cases a with
   |zero=>simp at h;subst h;simp
   |succ a=>
    have:=ih a (by simpa using ha) (by simpa using h)
    cases x
    · simp only [List.set_cons_succ,List.filter_cons,beq_self_eq_true,if_true,List.length_cons];omega
    simpa using this
 intro k
 induction k with
 |zero=>
  intro D dn h1 h2 h3 h4 _
  refine ⟨h1,fun a _=>rfl,fun a ha _=>(h4 a ha (noF dn (by omega) a (by omega))).2⟩
 |succ k ih=>
  intro D dn h1 h2 h3 h4 h5
  unfold Je at h5⊢
  split at h5
  · rename_i hn
    refine ⟨h1,fun a _=>rfl,fun a ha hd=> ?_⟩
    have hno:=Rt hn a (by omega)
    have:dn.getD a false=true:=by
     cases hb:dn.getD a false with
     |true=>rfl
     |false=>exact absurd ⟨hd,hb⟩ hno
    exact (h4 a ha this).2
  rename_i a ha
  obtain ⟨k1,⟨k2,k3⟩,_⟩:=Qo ha
  split at h5
  · rename_i h6;exact absurd h5 h6
  rename_i h6
  have h6':(Wo ins a (dAt D a)).2=0:=by omega
  rw [if_neg h6]
  split at h5
  · cases h5
  rename_i D' hv
  obtain ⟨n1,n2,n3⟩:=Qg h6'
  have hx: ∀ x∈Qw (ins.getD a zI) a,0≤x∧x<(D.length:Int):=fun x hx=>by
   refine ⟨?_,by rw [h1];exact n1 x hx⟩
   unfold Qw at hx
   have hmem:ins.getD a zI∈ins:=by
    have:ins.getD a zI=ins[a]'(by omega):=by simp [List.getD,show a<ins.length by omega]
    rw [this];exact List.getElem_mem _
   have hAi:=hA _ hmem
   split at hx
   · simp at hx
   split at hx
   · rename_i e;rw [List.mem_singleton.1 hx];exact hAi (.inl e)
   split at hx
   · rename_i e
     have h7:=hAi (by omega)
     split at hx
     · rw [List.mem_singleton.1 hx];exact h7
     rcases List.mem_cons.1 hx with rfl|hx
     · exact h7
     rw [List.mem_singleton.1 hx];omega
   simp at hx;omega
  obtain ⟨v1,v2,v3,v4⟩:=Rb (n2 k2) hx hv
  have hal:a<ins.length:=by omega
  obtain ⟨r1,r2,r3⟩:=ih D' (dn.set a true) (by omega) (by rw [List.length_set];exact h2) (by have:=cnt dn a (by omega) k3;omega) (fun b hb hdb=>by
   have hbD:0≤dAt D b∧((Wo ins b (dAt D b)).2=0∧ ∀ x∈Qw (ins.getD b zI) b,dAt D' x.toNat=(Wo ins b (dAt D b)).1):=by
    by_cases e:b=a
    · subst e;exact ⟨k2,h6',v3⟩
    have:dn.getD b false=true:=by
     simp only [List.getD_eq_getElem?_getD,List.getElem?_set,show ¬a=b from fun x=>e x.symm,if_false] at hdb
     simpa [List.getD_eq_getElem?_getD] using hdb
    obtain ⟨g1,g2,g3⟩:=h4 b hb this
    refine ⟨g1,g2,fun x hx=> ?_⟩
    have h8:=g3 x hx
    have h9:0≤dAt D x.toNat:=by rw [h8];exact (Qg g2).2.1 g1
    rw [v2 _ h9];exact h8
   obtain ⟨g1,g2,g3⟩:=hbD
   have e2:=v2 b g1
   refine ⟨by rw [e2];exact g1,by rw [e2];exact g2,fun x hx=>by rw [e2];exact g3 x hx⟩) h5
  refine ⟨r1,fun b hb=> ?_,r3⟩
  have:=v2 b hb
  rw [r2 b (by rw [this];exact hb),this]
def Ins.t (i:Ins):Tp:=(i.c,i.a,i.b,i.n)
def efC (x:Int×Int):List Value:= [.int .i64 x.1,.int .i64 x.2]
def effL:List (Int×Int):= [(0,0),(0,1),(0,1),(0,1),(1,1),(1,0),(1,0),(2,0),(1,1),(1,1),(2,1),(2,1),(2,1),(2,1),(2,1),(2,1),(2,1),(2,1),(2,1),(0,0),(1,0),(1,0),(1,1),(0,0),(0,0),(0,0),(0,0),(0,0),(0,0),(1,0),(0,1),(0,0),(0,0),(1,0),(0,0)]
theorem effL_at: ∀ k:Fin 35,1≤k.val→effL[k.val]'k.isLt=Yh k.val:=by decide
def GE (q:List HP):Prop:=Sees q (some ⟨0,0,none⟩) (effL.flatMap efC)
theorem GE.le {q q':List HP}(h:GE q')(k:Le q q'):GE q:=Sees.le h k
section
variable {G:World}{q pre:List HP}{a b A:Option Addr}{c d C p p0 p1 p2 i:Nat}{lo hi n cd dep:Int}{fv:Value}{x y:Ins}{t:Cod}{m:Mdl}{at_:Int}
set_option maxHeartbeats 1000000 in
theorem Pp:CallF prog G 65 [.int .i64 cd] (q) (Ret fun v q'=>v=(if 1≤cd∧cd≤34 then .tuple [.int .i64 (Yh cd).1,.int .i64 (Yh cd).2,.bool true].toArray else .tuple [.int .i64 0,.int .i64 0,.bool false].toArray)∧q'=q):=by
 refine CallF.of func65 ntmps65 rfl (fun F cs=> ?_)
 refine xo 13 ?_;refine Zf [8,4,3,2,0] ?_
 apply Zx 3 11 8 rfl
 · intro g1 M1;have h1:=sp g1
   refine oo 3 ?_;exact Zz M1 ⟨orF g1,Zv⟩
 · intro g1 M1;have h1:=sp g1
   refine oo 3 ?_;exact Zz M1 ⟨orT g1,Zv⟩
 refine ox 2 ?_;refine X.part 5 rfl (fun h1=> ?_) (fun h1=> ?_)
 · replace h1:=sp h1
   refine xx 7 ?_;refine Zq (q) func65 (res3 results65 rfl rfl rfl) ⟨_,rfl,by rw [if_neg (by omega)],rfl⟩
 replace h1:=sp h1
 refine xo 6 ?_;refine Zf [15,4,3,2,0] ?_
 apply Zx 3 18 15 rfl
 · intro g2 M2;have h2:=sp g2
   refine oo 3 ?_;exact Zz M2 ⟨orF g2,Zv⟩
 · intro g2 M2;have h2:=sp g2
   refine oo 3 ?_;exact Zz M2 ⟨orT g2,Zv⟩
 refine ox 2 ?_;refine X.part 12 rfl (fun h2=> ?_) (fun h2=> ?_)
 focus
  replace h2:=sp h2
  refine xx 7 ?_
 rotate_left
 focus
  replace h2:=sp h2
  refine xo 6 ?_;refine Zf [22,4,3,2,0] ?_
  apply Zx 3 25 22 rfl
  · intro g3 M3;have h3:=sp g3
    refine oo 3 ?_;exact Zz M3 ⟨orF g3,Zv⟩
  · intro g3 M3;have h3:=sp g3
    refine oo 3 ?_;exact Zz M3 ⟨orT g3,Zv⟩
  refine oo 1 ?_;refine Zf [26,4,3,2,0] ?_
  apply Zx 3 29 26 rfl
  · intro g3 M3;have h3:=sp g3
    refine oo 3 ?_;exact Zz M3 ⟨orF g3,Zv⟩
  · intro g3 M3;have h3:=sp g3
    refine oo 3 ?_;exact Zz M3 ⟨orT g3,Zv⟩
  refine oo 1 ?_;refine Zf [30,4,3,2,0] ?_
  apply Zx 3 33 30 rfl
  · intro g3 M3;have h3:=sp g3
    refine oo 3 ?_;exact Zz M3 ⟨orF g3,Zv⟩
  · intro g3 M3;have h3:=sp g3
    refine oo 3 ?_;exact Zz M3 ⟨orT g3,Zv⟩
  refine ox 2 ?_;refine X.part 19 rfl (fun h3=> ?_) (fun h3=> ?_)
  focus
   replace h3:=sp h3
   refine xx 7 ?_
  rotate_left
  focus
   replace h3:=sp h3
   refine xo 6 ?_;refine Zf [37,4,3,2,0] ?_
   apply Zg 3 40 37 rfl
   · intro g4 M4;have h4:=sp g4
     refine oo 3 ?_;exact Zz M4 ⟨Yd g4,Zv⟩
   · intro g4 M4;have h4:=sp g4
     refine oo 3 ?_;exact Zz M4 ⟨Yc g4,Zv⟩
   refine ox 2 ?_;refine X.part 34 rfl (fun h4=> ?_) (fun h4=> ?_)
   focus
    replace h4:=sp h4
    refine xx 7 ?_
   rotate_left
   focus
    replace h4:=sp h4
    refine xx 7 ?_;refine X.part 41 rfl (fun h5=> ?_) (fun h5=> ?_)
    focus
     replace h5:=sp h5
     refine xx 7 ?_
    rotate_left
    focus
     replace h5:=sp h5
     refine xo 6 ?_;refine Zf [47,4,3,2,0] ?_
     apply Zx 3 50 47 rfl
     · intro g6 M6;have h6:=sp g6
       refine oo 3 ?_;exact Zz M6 ⟨orF g6,Zv⟩
     · intro g6 M6;have h6:=sp g6
       refine oo 3 ?_;exact Zz M6 ⟨orT g6,Zv⟩
     refine oo 1 ?_;refine Zf [51,4,3,2,0] ?_
     apply Zx 3 54 51 rfl
     · intro g6 M6;have h6:=sp g6
       refine oo 3 ?_;exact Zz M6 ⟨orF g6,Zv⟩
     · intro g6 M6;have h6:=sp g6
       refine oo 3 ?_;exact Zz M6 ⟨orT g6,Zv⟩
     refine oo 1 ?_;refine Zf [55,4,3,2,0] ?_
     apply Zx 3 58 55 rfl
     · intro g6 M6;have h6:=sp g6
       refine oo 3 ?_;exact Zz M6 ⟨orF g6,Zv⟩
     · intro g6 M6;have h6:=sp g6
       refine oo 3 ?_;exact Zz M6 ⟨orT g6,Zv⟩
     refine oo 1 ?_;refine Zf [59,4,3,2,0] ?_
     apply Zx 3 62 59 rfl
     · intro g6 M6;have h6:=sp g6
       refine oo 3 ?_;exact Zz M6 ⟨orF g6,Zv⟩
     · intro g6 M6;have h6:=sp g6
       refine oo 3 ?_;exact Zz M6 ⟨orT g6,Zv⟩
     refine oo 1 ?_;refine Zf [63,4,3,2,0] ?_
     apply Zx 3 66 63 rfl
     · intro g6 M6;have h6:=sp g6
       refine oo 3 ?_;exact Zz M6 ⟨orF g6,Zv⟩
     · intro g6 M6;have h6:=sp g6
       refine oo 3 ?_;exact Zz M6 ⟨orT g6,Zv⟩
     refine ox 2 ?_;refine X.part 44 rfl (fun h6=> ?_) (fun h6=> ?_)
     focus
      replace h6:=sp h6
      refine xx 7 ?_
     rotate_left
     focus
      replace h6:=sp h6
      refine xx 9 ?_
 all_goals
  refine Zq (q) func65 (res3 results65 rfl rfl rfl) ⟨_,rfl,by rw [if_pos (by omega)];unfold Yh;(repeat' split)<;>first|rfl|omega,rfl⟩
def nxt (x:Ins)(at_:Int):List Int:=if x.c=34 then [] else if x.c=19 then [x.a] else if x.c=20∨x.c=21 then if x.a=at_+1 then [x.a] else [x.a,at_+1] else [at_+1]
theorem Nn (x:Ins)(k:Nat):nxt x k=Qw x.t k:=rfl
def ivs (n:Int):List Value:= [.int .i64 n]
theorem Pb {y:Nat}{J:Nat→HP}{Jf:HP→Prop}(hat:0≤at_∧at_≤1000000000000)
 (hy: ∀ i (h:i<((nxt x at_).map ivs).length),CallV prog G (.func (.yield y) #[] #[]) ((nxt x at_).map ivs)[i] (J i:: [im p1 (.cells (Zr x).toArray 48 (0,0)),im p2 (.cells [.int .i64 at_].toArray 3 (0,0))]) (Ret fun v q=>(v= .bool true∧q=J (i+1):: [im p1 (.cells (Zr x).toArray 48 (0,0)),im p2 (.cells [.int .i64 at_].toArray 3 (0,0))])∨(v= .bool false∧ ∃ A,Jf A∧q=A:: [im p1 (.cells (Zr x).toArray 48 (0,0)),im p2 (.cells [.int .i64 at_].toArray 3 (0,0))]))):
 CallF prog G 138 [.func (.yield y) #[] #[],.pointer (some ⟨p1,0,none⟩),.pointer (some ⟨p2,0,none⟩)] (J 0:: [im p1 (.cells (Zr x).toArray 48 (0,0)),im p2 (.cells [.int .i64 at_].toArray 3 (0,0))]) (Ret fun _ q=>q=J (nxt x at_).length:: [im p1 (.cells (Zr x).toArray 48 (0,0)),im p2 (.cells [.int .i64 at_].toArray 3 (0,0))]∨ ∃ A,Jf A∧q=A:: [im p1 (.cells (Zr x).toArray 48 (0,0)),im p2 (.cells [.int .i64 at_].toArray 3 (0,0))]):=by
 refine CallF.of func138 ntmps138 rfl (fun F cs=> ?_)
 refine xo 4 ?_;refine ld ?_;refine ox 7 ?_;refine X.part 6 rfl (fun h1=> ?_) (fun h1=> ?_)
 · replace h1:=sp h1;have hN:nxt x at_= []:=by unfold nxt;rw [if_pos h1]
   refine xx 1 ?_;refine Zq (J 0:: [im p1 (.cells (Zr x).toArray 48 (0,0)),im p2 (.cells [.int .i64 at_].toArray 3 (0,0))]) func138 (U1 results138) ⟨_,rfl,.inl (by rw [hN];rfl)⟩
 replace h1:=sp h1
 refine xx 6 ?_;refine X.part 8 rfl (fun h2=> ?_) (fun h2=> ?_)
 · replace h2:=sp h2;have hN:nxt x at_= [x.a]:=by unfold nxt;rw [if_neg h1,if_pos h2]
   rw [hN] at hy;have Y0:=hy 0 (by simp)
   refine xo 5 ?_;refine ld ?_;refine XO.cV (Y0) ?_;rintro _ _ (⟨rfl,rfl⟩|⟨rfl,A,hA,rfl⟩) _ e_<;>simp only [ca,na] at e_<;>subst e_
   · refine ox 1 ?_;refine Zq (J 1:: [im p1 (.cells (Zr x).toArray 48 (0,0)),im p2 (.cells [.int .i64 at_].toArray 3 (0,0))]) func138 (U1 results138) ⟨_,rfl,.inl (by rw [hN];rfl)⟩
   refine ox 1 ?_;refine Zq (A:: [im p1 (.cells (Zr x).toArray 48 (0,0)),im p2 (.cells [.int .i64 at_].toArray 3 (0,0))]) func138 (U1 results138) ⟨_,rfl,.inr ⟨A,hA,rfl⟩⟩
 replace h2:=sp h2
 refine xx 7 ?_;refine X.part 14 rfl (fun h3=> ?_) (fun h3=> ?_)
 · replace h3:=sp h3
   refine xo 7 ?_;refine ld ?_
   have h3:x.c=20∨x.c=21:= .inl h3
   rcases Decidable.em (x.a=at_+1) with h5|h5
   focus
    have hN:nxt x at_= [x.a]:=by unfold nxt;rw [if_neg h1,if_neg h2,if_pos h3,if_pos h5]
    rw [hN] at hy;have Y0:=hy 0 (by simp)
    refine XO.cV (Y0) ?_;rintro _ _ (⟨rfl,rfl⟩|⟨rfl,A,hA,rfl⟩) _ e_<;>simp only [ca,na] at e_<;>subst e_
    · refine Zn (Pu.not rfl) ?_;refine oo 1 ?_;refine Wh 22 ?_;refine oo 1 ?_;refine ld ?_;refine ld ?_;refine ox 4 ?_;refine X.know 28 (.bool true) rfl (congrArg Value.bool (by rw [beq_iff_eq];exact h5)) ?_
      refine xx 1 ?_;refine Zq (J 1:: [im p1 (.cells (Zr x).toArray 48 (0,0)),im p2 (.cells [.int .i64 at_].toArray 3 (0,0))]) func138 (U1 results138) ⟨_,rfl,.inl (by rw [hN];rfl)⟩
   rotate_left
   focus
    have hN:nxt x at_= [x.a,at_+1]:=by unfold nxt;rw [if_neg h1,if_neg h2,if_pos h3,if_neg h5]
    rw [hN] at hy;have Y0:=hy 0 (by simp);have Y1:=hy 1 (by simp)
    refine XO.cV (Y0) ?_;rintro _ _ (⟨rfl,rfl⟩|⟨rfl,A,hA,rfl⟩) _ e_<;>simp only [ca,na] at e_<;>subst e_
    · refine Zn (Pu.not rfl) ?_;refine oo 1 ?_;refine Wh 22 ?_;refine oo 1 ?_;refine ld ?_;refine ld ?_;refine ox 4 ?_;refine X.know 28 (.bool false) rfl (congrArg Value.bool (by rw [beq_eq_false_iff_ne];exact h5)) ?_
      refine xo 5 ?_;refine ld ?_;refine oo 1 ?_;refine XO.cV (Y1) ?_;rintro _ _ (⟨rfl,rfl⟩|⟨rfl,A,hA,rfl⟩) _ e_<;>simp only [ca,na] at e_<;>subst e_
      · refine ox 1 ?_;refine Wr (J 2:: [im p1 (.cells (Zr x).toArray 48 (0,0)),im p2 (.cells [.int .i64 at_].toArray 3 (0,0))]) func138 (U1 results138) ⟨_,rfl,.inl (by rw [hN];rfl)⟩
      refine ox 1 ?_;refine Wr (A:: [im p1 (.cells (Zr x).toArray 48 (0,0)),im p2 (.cells [.int .i64 at_].toArray 3 (0,0))]) func138 (U1 results138) ⟨_,rfl,.inr ⟨A,hA,rfl⟩⟩
   all_goals
    refine Zn (Pu.not rfl) ?_;refine oo 1 ?_;refine XO.kt 22 ?_;refine ox 8 ?_;refine Zq (A:: [im p1 (.cells (Zr x).toArray 48 (0,0)),im p2 (.cells [.int .i64 at_].toArray 3 (0,0))]) func138 (U1 results138) ⟨_,rfl,.inr ⟨A,hA,rfl⟩⟩
 replace h3:=sp h3
 refine xx 5 ?_;refine X.part 14 rfl (fun h4=> ?_) (fun h4=> ?_)
 · replace h4:=sp h4
   have h3:x.c=20∨x.c=21:= .inr h4
   rcases Decidable.em (x.a=at_+1) with h5|h5
   focus
    have hN:nxt x at_= [x.a]:=by unfold nxt;rw [if_neg h1,if_neg h2,if_pos h3,if_pos h5]
    rw [hN] at hy;have Y0:=hy 0 (by simp)
    refine xo 5 ?_;refine ld ?_;refine XO.cV (Y0) ?_;rintro _ _ (⟨rfl,rfl⟩|⟨rfl,A,hA,rfl⟩) _ e_<;>simp only [ca,na] at e_<;>subst e_
    · refine Zn (Pu.not rfl) ?_;refine oo 1 ?_;refine Wh 22 ?_;refine oo 1 ?_;refine ld ?_;refine ld ?_;refine ox 4 ?_;refine X.know 28 (.bool true) rfl (congrArg Value.bool (by rw [beq_iff_eq];exact h5)) ?_
      refine xx 1 ?_;refine Zq (J 1:: [im p1 (.cells (Zr x).toArray 48 (0,0)),im p2 (.cells [.int .i64 at_].toArray 3 (0,0))]) func138 (U1 results138) ⟨_,rfl,.inl (by rw [hN];rfl)⟩
   rotate_left
   focus
    have hN:nxt x at_= [x.a,at_+1]:=by unfold nxt;rw [if_neg h1,if_neg h2,if_pos h3,if_neg h5]
    rw [hN] at hy;have Y0:=hy 0 (by simp);have Y1:=hy 1 (by simp)
    refine xo 5 ?_;refine ld ?_;refine XO.cV (Y0) ?_;rintro _ _ (⟨rfl,rfl⟩|⟨rfl,A,hA,rfl⟩) _ e_<;>simp only [ca,na] at e_<;>subst e_
    · refine Zn (Pu.not rfl) ?_;refine oo 1 ?_;refine Wh 22 ?_;refine oo 1 ?_;refine ld ?_;refine ld ?_;refine ox 4 ?_;refine X.know 28 (.bool false) rfl (congrArg Value.bool (by rw [beq_eq_false_iff_ne];exact h5)) ?_
      refine xo 5 ?_;refine ld ?_;refine oo 1 ?_;refine XO.cV (Y1) ?_;rintro _ _ (⟨rfl,rfl⟩|⟨rfl,A,hA,rfl⟩) _ e_<;>simp only [ca,na] at e_<;>subst e_
      · refine ox 1 ?_;refine Wr (J 2:: [im p1 (.cells (Zr x).toArray 48 (0,0)),im p2 (.cells [.int .i64 at_].toArray 3 (0,0))]) func138 (U1 results138) ⟨_,rfl,.inl (by rw [hN];rfl)⟩
      refine ox 1 ?_;refine Wr (A:: [im p1 (.cells (Zr x).toArray 48 (0,0)),im p2 (.cells [.int .i64 at_].toArray 3 (0,0))]) func138 (U1 results138) ⟨_,rfl,.inr ⟨A,hA,rfl⟩⟩
   all_goals
    refine Zn (Pu.not rfl) ?_;refine oo 1 ?_;refine XO.kt 22 ?_;refine ox 8 ?_;refine Zq (A:: [im p1 (.cells (Zr x).toArray 48 (0,0)),im p2 (.cells [.int .i64 at_].toArray 3 (0,0))]) func138 (U1 results138) ⟨_,rfl,.inr ⟨A,hA,rfl⟩⟩
 replace h4:=sp h4
 have hN:nxt x at_= [at_+1]:=by unfold nxt;rw [if_neg h1,if_neg h2,if_neg (by omega)]
 rw [hN] at hy;have Y0:=hy 0 (by simp)
 refine xo 5 ?_;refine ld ?_;refine oo 1 ?_;refine XO.cV (Y0) ?_;rintro _ _ (⟨rfl,rfl⟩|⟨rfl,A,hA,rfl⟩) _ e_<;>simp only [ca,na] at e_<;>subst e_
 · refine ox 1 ?_;refine Wr (J 1:: [im p1 (.cells (Zr x).toArray 48 (0,0)),im p2 (.cells [.int .i64 at_].toArray 3 (0,0))]) func138 (U1 results138) ⟨_,rfl,.inl (by rw [hN];rfl)⟩
 refine ox 1 ?_;refine Wr (A:: [im p1 (.cells (Zr x).toArray 48 (0,0)),im p2 (.cells [.int .i64 at_].toArray 3 (0,0))]) func138 (U1 results138) ⟨_,rfl,.inr ⟨A,hA,rfl⟩⟩
theorem R0 (hat:0≤at_∧at_≤1000000000000):Iter prog G (.func (.func 138) [].toArray [.pointer (some ⟨p1,0,none⟩),.pointer (some ⟨p2,0,none⟩)].toArray) ((nxt x at_).map ivs) [im p1 (.cells (Zr x).toArray 48 (0,0)),im p2 (.cells [.int .i64 at_].toArray 3 (0,0))]:=by
 intro y J Jf hy
 rw [List.length_map]
 exact Jb call138 (Pb (G:=G) (p1:=p1) (p2:=p2) (J:=J) (Jf:=Jf) hat hy)
theorem E0:CallF prog G 92 [.agg (Zr x).toArray,.int .i64 at_] ([]) (Ret fun v q'=> ∃ p1 p2,v= .func (.func 138) [].toArray [.pointer (some ⟨p1,0,none⟩),.pointer (some ⟨p2,0,none⟩)].toArray∧q'= [pto p1 (.cells (Zr x).toArray 48 (0,0)),pto p2 (.cells [.int .i64 at_].toArray 3 (0,0))]):=by
 refine CallF.of func92 ntmps92 rfl (fun F cs=> ?_)
 refine xo 2 ?_;refine Zb fun n1=> ?_
 refine Zb fun n2=> ?_
 refine ox 7 ?_;refine Zq [pto n1 (.cells (Zr x).toArray 48 (0,0)),pto n2 (.cells [.int .i64 at_].toArray 3 (0,0))] func92 (Zp results92 rfl) ⟨_,rfl,n1,n2,rfl,rfl⟩
theorem Ci (hat:0≤at_∧at_≤1000000000000):CallF prog G 44 [.agg (Zr x).toArray,.int .i64 at_] (q) (Ret fun v q'=> ∃ a' c',v= .slice a' (nxt x at_).length c'∧q'=lsH I64 3 a' c' (nxt x at_)::q):=by
 refine CallF.of func44 ntmps44 rfl (fun F cs=> ?_)
 refine xo 2 ?_;refine Zb fun n1=> ?_
 refine oo 6 ?_;refine ld ?_;refine ox 7 ?_;refine X.part 7 rfl (fun h1=> ?_) (fun h1=> ?_)
 · replace h1:=sp h1
   refine xx 5 ?_
   have hN:nxt x at_= []:=by unfold nxt;(repeat' split)<;>first|rfl|omega
   refine Zq (lsH I64 3 none 0 (nxt x at_)::q) func44 (Zp results44 rfl) ⟨_,by rw [hN];rfl,none,0,rfl,rfl⟩ (by rw [hN];exact (leA).trans (Yw _ _ _))
 replace h1:=sp h1
 refine xx 6 ?_;refine X.part 9 rfl (fun h2=> ?_) (fun h2=> ?_)
 focus
  replace h2:=sp h2
  refine xo 4 ?_;refine ld ?_;refine XO.ef (Yj I64 ([x.a]) underlying23 Tryz.info3 rfl rfl rfl rfl rfl rfl (fun _=>rfl)) ?_
  rintro _ _ ⟨g1,rfl,rfl⟩
  refine ox 2 ?_
  have hN:nxt x at_= [x.a]:=by unfold nxt;(repeat' split)<;>first|rfl|omega
 rotate_left
 focus
  replace h2:=sp h2
  refine xx 7 ?_;refine X.part 14 rfl (fun h3=> ?_) (fun h3=> ?_)
  · replace h3:=sp h3
    refine xo 7 ?_;refine ld ?_;refine ox 4 ?_;refine X.part 21 rfl (fun h4=> ?_) (fun h4=> ?_)
    · replace h4:=sp h4
      refine xo 4 ?_;refine ld ?_;refine XO.ef (Yj I64 ([x.a]) underlying23 Tryz.info3 rfl rfl rfl rfl rfl rfl (fun _=>rfl)) ?_
      rintro _ _ ⟨g1,rfl,rfl⟩
      refine ox 2 ?_
      have hN:nxt x at_= [x.a]:=by unfold nxt;(repeat' split)<;>first|rfl|omega
      refine Zq (lsH I64 3 (some ⟨g1,0,none⟩) 1 (nxt x at_)::q) func44 (Zp results44 rfl) ⟨_,by rw [hN];rfl,_,_,rfl,rfl⟩ (by rw [hN];exact leA)
    replace h4:=sp h4
    refine xo 5 ?_;refine ld ?_;refine oo 2 ?_;refine XO.ef (Yj I64 ([x.a,at_+1]) underlying23 Tryz.info3 rfl rfl rfl rfl rfl rfl (fun _=>rfl)) ?_
    rintro _ _ ⟨g1,rfl,rfl⟩
    refine ox 2 ?_
    have hN:nxt x at_= [x.a,at_+1]:=by unfold nxt;(repeat' split)<;>first|rfl|omega
    refine Zq (lsH I64 3 (some ⟨g1,0,none⟩) 2 (nxt x at_)::q) func44 (Zp results44 rfl) ⟨_,by rw [hN];rfl,_,_,rfl,rfl⟩ (by rw [hN];exact leA)
  replace h3:=sp h3
  refine xx 5 ?_;refine X.part 14 rfl (fun h4=> ?_) (fun h4=> ?_)
  · replace h4:=sp h4
    refine xo 5 ?_;refine ld ?_;refine ox 4 ?_;refine X.part 21 rfl (fun h5=> ?_) (fun h5=> ?_)
    · replace h5:=sp h5
      refine xo 4 ?_;refine ld ?_;refine XO.ef (Yj I64 ([x.a]) underlying23 Tryz.info3 rfl rfl rfl rfl rfl rfl (fun _=>rfl)) ?_
      rintro _ _ ⟨g1,rfl,rfl⟩
      refine ox 2 ?_
      have hN:nxt x at_= [x.a]:=by unfold nxt;(repeat' split)<;>first|rfl|omega
      refine Zq (lsH I64 3 (some ⟨g1,0,none⟩) 1 (nxt x at_)::q) func44 (Zp results44 rfl) ⟨_,by rw [hN];rfl,_,_,rfl,rfl⟩ (by rw [hN];exact leA)
    replace h5:=sp h5
    refine xo 5 ?_;refine ld ?_;refine oo 2 ?_;refine XO.ef (Yj I64 ([x.a,at_+1]) underlying23 Tryz.info3 rfl rfl rfl rfl rfl rfl (fun _=>rfl)) ?_
    rintro _ _ ⟨g1,rfl,rfl⟩
    refine ox 2 ?_
    have hN:nxt x at_= [x.a,at_+1]:=by unfold nxt;(repeat' split)<;>first|rfl|omega
    refine Zq (lsH I64 3 (some ⟨g1,0,none⟩) 2 (nxt x at_)::q) func44 (Zp results44 rfl) ⟨_,by rw [hN];rfl,_,_,rfl,rfl⟩ (by rw [hN];exact leA)
  replace h4:=sp h4
  refine xo 7 ?_;refine XO.ef (Yj I64 ([at_+1]) underlying23 Tryz.info3 rfl rfl rfl rfl rfl rfl (fun _=>rfl)) ?_
  rintro _ _ ⟨g1,rfl,rfl⟩
  refine ox 2 ?_
  have hN:nxt x at_= [at_+1]:=by unfold nxt;(repeat' split)<;>first|rfl|omega
 all_goals
  refine Zq (lsH I64 3 (some ⟨g1,0,none⟩) 1 (nxt x at_)::q) func44 (Zp results44 rfl) ⟨_,by rw [hN];rfl,_,_,rfl,rfl⟩ (by rw [hN];exact leA)
end
end Go.Proofs.YtgonllbkcgaliaaGreatDoor
