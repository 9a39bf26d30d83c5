/- Contracts of functions, proved by walking their code, and the logic that they need: what the last text reaches. -/
import Derived.Test.YtbeeplmgcdnadaaGreatDoorPc
import Derived.Test.YtbeeplmgcdnadaaGreatDoorRows
import Derived.KernelRfl
set_option maxRecDepth 100000
set_option linter.unusedVariables false
set_option linter.unusedSimpArgs false
namespace Go.Proofs.YtbeeplmgcdnadaaGreatDoor
open Go Go.RowKit Wx
def tbl : Tr := (.n none (.n none (.n (some (.mk (.int .i64) false 1 none)) (.n none (.n none (.n none (.n (some (.mk (.int .i64) false 1 none)) (.n (some (.mk .ptr false 1 none)) .e .e) (.n (some (.mk (.int .i64) false 1 none)) .e .e)) (.n (some (.mk (.slc 217) false 1 none)) .e (.n (some (.mk (.slc 326) false 1 none)) .e .e))) (.n (some (.mk (.strct [(9, 0), (3, 1), (45, 2), (23, 3)]) true 4 (some ([(0, 1), (1, 1), (2, 1), (3, 1)], [.string ⟨#[]⟩, .int .i64 0, .slice none 0 0, .slice none 0 0])))) .e .e)) (.n (some (.mk (.slc 3) false 1 none)) (.n none (.n none (.n (some (.mk (.strct [(45, 0), (23, 1)]) true 2 (some ([(0, 1), (1, 1)], [.slice none 0 0, .slice none 0 0])))) .e .e) (.n (some (.mk (.strct [(38, 0), (197, 13), (2, 14), (3, 15), (3, 16), (87, 17), (3, 19)]) true 20 (some ([(0, 13), (13, 1), (14, 1), (15, 1), (16, 1), (17, 2), (19, 1)], [.slice none 0 0, .slice none 0 0, .int .i64 0, .int .i64 0, .slice none 0 0, .slice none 0 0, .int .i64 0, .int .i64 0, .slice none 0 0, .slice none 0 0, .slice none 0 0, .slice none 0 0, .slice none 0 0, .slice none 0 0, .int .i64 0, .int .i64 0, .int .i64 0, .int .i64 0, .int .i64 0, .int .i64 0])))) .e .e)) .e) (.n none (.n (some (.mk (.strct [(3, 0), (3, 1)]) true 2 (some ([(0, 1), (1, 1)], [.int .i64 0, .int .i64 0])))) (.n (some (.mk (.strct [(66, 0)]) true 1 (some ([(0, 1)], [.int .i64 0])))) .e .e) (.n (some (.mk (.strct [(211, 0), (2, 1), (9, 2), (3, 3), (4, 4), (212, 5), (213, 6)]) true 7 (some ([(0, 1), (1, 1), (2, 1), (3, 1), (4, 1), (5, 1), (6, 1)], [.int .i64 0, .int .i64 0, .string ⟨#[]⟩, .int .i64 0, .bool false, .int .i64 0, .slice none 0 0])))) .e .e)) .e))) (.n none (.n none .e (.n none (.n none .e (.n (some (.mk (.int .i64) false 1 none)) .e .e)) .e)) (.n none (.n none .e (.n none (.n (some (.mk .ptr false 1 none)) (.n (some (.mk .fn false 1 none)) .e .e) .e) .e)) (.n none .e (.n (some (.mk (.strct [(47, 0), (23, 4)]) true 5 (some ([(0, 4), (4, 1)], [.string ⟨#[]⟩, .int .i64 0, .slice none 0 0, .slice none 0 0, .slice none 0 0])))) .e .e))))) (.n (some (.mk (.int .u8) false 1 none)) (.n (some (.mk .str false 1 none)) (.n none (.n (some (.mk (.slc 97) false 1 none)) (.n (some (.mk (.strct [(63, 0), (3, 1), (3, 2), (2, 3)]) true 4 (some ([(0, 1), (1, 1), (2, 1), (3, 1)], [.int .i64 0, .int .i64 0, .int .i64 0, .int .i64 0])))) .e (.n (some (.mk (.strct [(191, 0), (9, 1), (2, 2), (87, 3)]) true 5 (some ([(0, 1), (1, 1), (2, 1), (3, 2)], [.int .i64 0, .string ⟨#[]⟩, .int .i64 0, .int .i64 0, .int .i64 0])))) .e .e)) (.n (some (.mk (.strct [(9, 0), (3, 1), (95, 2)]) true 3 (some ([(0, 1), (1, 1), (2, 1)], [.string ⟨#[]⟩, .int .i64 0, .slice none 0 0])))) .e .e)) (.n (some (.mk (.strct [(3, 0), (3, 1), (22, 2), (22, 3)]) true 4 (some ([(0, 1), (1, 1), (2, 1), (3, 1)], [.int .i64 0, .int .i64 0, .slice none 0 0, .slice none 0 0])))) .e (.n none (.n none (.n (some (.mk (.strct [(9, 0), (3, 1)]) true 2 (some ([(0, 1), (1, 1)], [.string ⟨#[]⟩, .int .i64 0])))) .e .e) .e) (.n (some (.mk .fn false 1 none)) .e .e)))) (.n none (.n none .e (.n none (.n (some (.mk .fn false 1 none)) .e .e) .e)) (.n none (.n none (.n (some (.mk .fn false 1 none)) .e .e) (.n (some (.mk (.strct [(210, 0), (87, 1), (9, 3), (9, 4), (215, 5), (215, 12), (95, 19), (95, 20), (3, 21), (3, 22), (3, 23), (4, 24)]) true 25 (some ([(0, 1), (1, 2), (3, 1), (4, 1), (5, 7), (12, 7), (19, 1), (20, 1), (21, 1), (22, 1), (23, 1), (24, 1)], [.int .i64 0, .int .i64 0, .int .i64 0, .string ⟨#[]⟩, .string ⟨#[]⟩, .int .i64 0, .int .i64 0, .string ⟨#[]⟩, .int .i64 0, .bool false, .int .i64 0, .slice none 0 0, .int .i64 0, .int .i64 0, .string ⟨#[]⟩, .int .i64 0, .bool false, .int .i64 0, .slice none 0 0, .slice none 0 0, .slice none 0 0, .int .i64 0, .int .i64 0, .int .i64 0, .bool false])))) .e .e)) (.n none (.n (some (.mk (.strct [(180, 0), (3, 1), (4, 2)]) true 3 (some ([(0, 1), (1, 1), (2, 1)], [.slice none 0 0, .int .i64 0, .bool false])))) .e .e) (.n (some (.mk .other true 70 none)) .e .e))))) (.n none (.n none (.n none (.n none .e (.n (some (.mk (.slc 204) false 1 none)) .e .e)) .e) (.n none (.n none .e (.n (some (.mk (.slc 215) false 1 none)) .e .e)) .e)) (.n none (.n (some (.mk (.slc 65) false 1 none)) .e (.n (some (.mk .ptr false 1 none)) .e .e)) (.n none (.n (some (.mk .fn false 1 none)) .e (.n (some (.mk (.slc 23) false 1 none)) .e .e)) .e))))) (.n (some (.mk (.int .i64) false 1 none)) (.n (some (.mk .bool false 1 none)) (.n none (.n none (.n (some (.mk (.slc 44) false 1 none)) .e .e) .e) (.n (some (.mk (.slc 47) false 1 none)) (.n none (.n none .e (.n (some (.mk (.slc 95) false 1 none)) .e .e)) .e) (.n none .e (.n none .e (.n (some (.mk (.strct [(3, 0), (3, 1)]) true 2 (some ([(0, 1), (1, 1)], [.int .i64 0, .int .i64 0])))) .e .e))))) (.n none (.n none (.n (some (.mk (.strct [(34, 0), (34, 1), (34, 2), (34, 3), (34, 4)]) true 5 none)) (.n (some (.mk (.strct [(60, 0), (62, 1), (65, 4), (2, 8), (66, 9)]) true 10 (some ([(0, 1), (1, 3), (4, 4), (8, 1), (9, 1)], [.int .i64 0, .int .i64 0, .bool false, .int .i64 0, .int .i64 0, .int .i64 0, .int .i64 0, .int .i64 0, .int .i64 0, .int .i64 0])))) .e .e) (.n none (.n (some (.mk .fn false 1 none)) .e .e) (.n (some (.mk (.strct [(38, 0), (22, 13), (23, 14), (221, 15), (222, 16), (23, 17), (223, 18), (226, 19)]) true 23 (some ([(0, 13), (13, 1), (14, 1), (15, 1), (16, 1), (17, 1), (18, 1), (19, 4)], [.slice none 0 0, .slice none 0 0, .int .i64 0, .int .i64 0, .slice none 0 0, .slice none 0 0, .int .i64 0, .int .i64 0, .slice none 0 0, .slice none 0 0, .slice none 0 0, .slice none 0 0, .slice none 0 0, .slice none 0 0, .slice none 0 0, .slice none 0 0, .slice none 0 0, .slice none 0 0, .slice none 0 0, .int .i64 0, .int .i64 0, .int .i64 0, .int .i64 0])))) .e .e))) (.n none (.n none .e (.n (some (.mk (.int .i64) false 1 none)) .e .e)) (.n (some (.mk (.strct [(114, 0), (109, 1), (49, 2), (22, 6)]) true 7 (some ([(0, 1), (1, 1), (2, 4), (6, 1)], [.slice none 0 0, .pointer none, .int .i64 0, .int .i64 0, .slice none 0 0, .slice none 0 0, .slice none 0 0])))) (.n (some (.mk (.slc 193) false 1 none)) .e .e) .e))) (.n none (.n (some (.mk .other true 2 none)) (.n (some (.mk (.slc 68) false 1 none)) .e (.n (some (.mk (.strct [(9, 0), (3, 1), (3, 2)]) true 3 (some ([(0, 1), (1, 1), (2, 1)], [.string ⟨#[]⟩, .int .i64 0, .int .i64 0])))) .e .e)) (.n none (.n (some (.mk (.slc 3) false 1 none)) .e .e) .e)) (.n (some (.mk (.int .i64) false 1 none)) (.n none .e (.n (some (.mk (.strct [(2, 0), (3, 1), (218, 2)]) true 3 (some ([(0, 1), (1, 1), (2, 1)], [.int .i64 0, .int .i64 0, .slice none 0 0])))) .e .e)) (.n none (.n (some (.mk (.strct [(186, 0), (87, 1), (9, 3), (2, 4), (95, 5)]) true 6 (some ([(0, 1), (1, 2), (3, 1), (4, 1), (5, 1)], [.int .i64 0, .int .i64 0, .int .i64 0, .string ⟨#[]⟩, .int .i64 0, .slice none 0 0])))) .e .e) .e))))) (.n none (.n none (.n none (.n (some (.mk (.slc 9) false 1 none)) (.n (some (.mk (.int .i64) false 1 none)) (.n (some (.mk (.slc 188) false 1 none)) .e .e) .e) (.n (some (.mk (.slc 4) false 1 none)) (.n (some (.mk .other true 3 none)) .e .e) (.n (some (.mk (.strct [(224, 0), (66, 1), (3, 2), (3, 3)]) true 4 none)) .e .e))) (.n none (.n none .e (.n (some (.mk (.int .i64) false 1 none)) .e .e)) (.n (some (.mk (.strct [(22, 0)]) true 1 (some ([(0, 1)], [.slice none 0 0])))) (.n none (.n (some (.mk .other true 70 none)) .e .e) .e) .e))) (.n (some (.mk (.strct [(22, 0), (23, 1), (23, 2), (3, 3), (3, 4), (24, 5)]) true 6 (some ([(0, 1), (1, 1), (2, 1), (3, 1), (4, 1), (5, 1)], [.slice none 0 0, .slice none 0 0, .slice none 0 0, .int .i64 0, .int .i64 0, .slice none 0 0])))) .e (.n none (.n none (.n (some (.mk .other true 35 none)) .e .e) (.n (some (.mk (.slc 62) false 1 none)) .e .e)) (.n none (.n (some (.mk (.int .i64) false 1 none)) .e .e) .e)))) (.n none (.n (some (.mk (.slc 2) false 1 none)) (.n (some (.mk (.strct [(22, 0), (23, 1), (3, 2), (3, 3), (23, 4), (33, 5), (3, 6), (3, 7), (36, 8)]) true 13 (some ([(0, 1), (1, 1), (2, 1), (3, 1), (4, 1), (5, 1), (6, 1), (7, 1), (8, 5)], [.slice none 0 0, .slice none 0 0, .int .i64 0, .int .i64 0, .slice none 0 0, .slice none 0 0, .int .i64 0, .int .i64 0, .slice none 0 0, .slice none 0 0, .slice none 0 0, .slice none 0 0, .slice none 0 0])))) .e .e) (.n (some (.mk (.int .i64) false 1 none)) (.n none (.n none (.n (some (.mk (.strct [(9, 0), (4, 1), (4, 2), (4, 3)]) true 4 (some ([(0, 1), (1, 1), (2, 1), (3, 1)], [.string ⟨#[]⟩, .bool false, .bool false, .bool false])))) .e .e) .e) .e) .e)) (.n none (.n none .e (.n none .e (.n (some (.mk .fn false 1 none)) .e .e))) (.n (some (.mk (.strct [(3, 0), (4, 1), (2, 2)]) true 3 (some ([(0, 1), (1, 1), (2, 1)], [.int .i64 0, .bool false, .int .i64 0])))) (.n none .e (.n (some (.mk (.slc 22) false 1 none)) .e .e)) .e))))))
theorem tbl_ok : tbl.ok Tryz.prog id := ⟨trivial, ⟨trivial, ⟨⟨Tryz.underlying3, Tryz.isAgg3, Tryz.sizeOf3, trivial⟩, ⟨trivial, ⟨trivial, ⟨trivial, ⟨⟨Tryz.underlying63, Tryz.isAgg63, Tryz.sizeOf63, trivial⟩, ⟨⟨⟨_, Tryz.underlying127⟩, Tryz.isAgg127, Tryz.sizeOf127, trivial⟩, trivial, trivial⟩, ⟨⟨Tryz.underlying191, Tryz.isAgg191, Tryz.sizeOf191, trivial⟩, trivial, trivial⟩⟩, ⟨⟨Tryz.underlying95, Tryz.isAgg95, Tryz.sizeOf95, trivial⟩, trivial, ⟨⟨Tryz.underlying223, Tryz.isAgg223, Tryz.sizeOf223, trivial⟩, trivial, trivial⟩⟩⟩, ⟨⟨⟨_, Tryz.underlying47, rfl⟩, Tryz.isAgg47, Tryz.sizeOf47, ⟨Tryz.zeroValue47, _, Tryz.underlying47, by kernel_rfl⟩⟩, trivial, trivial⟩⟩, ⟨⟨Tryz.underlying23, Tryz.isAgg23, Tryz.sizeOf23, trivial⟩, ⟨trivial, ⟨trivial, ⟨⟨⟨_, Tryz.underlying135, rfl⟩, Tryz.isAgg135, Tryz.sizeOf135, ⟨Tryz.zeroValue135, _, Tryz.underlying135, by kernel_rfl⟩⟩, trivial, trivial⟩, ⟨⟨⟨_, Tryz.underlying199, rfl⟩, Tryz.isAgg199, Tryz.sizeOf199, ⟨Tryz.zeroValue199, _, Tryz.underlying199, by kernel_rfl⟩⟩, trivial, trivial⟩⟩, trivial⟩, ⟨trivial, ⟨⟨⟨_, Tryz.underlying87, rfl⟩, Tryz.isAgg87, Tryz.sizeOf87, ⟨Tryz.zeroValue87, _, Tryz.underlying87, by kernel_rfl⟩⟩, ⟨⟨⟨_, Tryz.underlying151, rfl⟩, Tryz.isAgg151, Tryz.sizeOf151, ⟨Tryz.zeroValue151, _, Tryz.underlying151, by kernel_rfl⟩⟩, trivial, trivial⟩, ⟨⟨⟨_, Tryz.underlying215, rfl⟩, Tryz.isAgg215, Tryz.sizeOf215, ⟨Tryz.zeroValue215, _, Tryz.underlying215, by kernel_rfl⟩⟩, trivial, trivial⟩⟩, trivial⟩⟩⟩, ⟨trivial, ⟨trivial, trivial, ⟨trivial, ⟨trivial, trivial, ⟨⟨Tryz.underlying211, Tryz.isAgg211, Tryz.sizeOf211, trivial⟩, trivial, trivial⟩⟩, trivial⟩⟩, ⟨trivial, ⟨trivial, trivial, ⟨trivial, ⟨⟨⟨_, Tryz.underlying171⟩, Tryz.isAgg171, Tryz.sizeOf171, trivial⟩, ⟨⟨⟨_, _, _, Tryz.underlying299⟩, Tryz.isAgg299, Tryz.sizeOf299, trivial⟩, trivial, trivial⟩, trivial⟩, trivial⟩⟩, ⟨trivial, trivial, ⟨⟨⟨_, Tryz.underlying123, rfl⟩, Tryz.isAgg123, Tryz.sizeOf123, ⟨Tryz.zeroValue123, _, Tryz.underlying123, by kernel_rfl⟩⟩, trivial, trivial⟩⟩⟩⟩⟩, ⟨⟨Tryz.underlying5, Tryz.isAgg5, Tryz.sizeOf5, trivial⟩, ⟨⟨Tryz.underlying9, Tryz.isAgg9, Tryz.sizeOf9, trivial⟩, ⟨trivial, ⟨⟨Tryz.underlying33, Tryz.isAgg33, Tryz.sizeOf33, trivial⟩, ⟨⟨⟨_, Tryz.underlying65, rfl⟩, Tryz.isAgg65, Tryz.sizeOf65, ⟨Tryz.zeroValue65, _, Tryz.underlying65, by kernel_rfl⟩⟩, trivial, ⟨⟨⟨_, Tryz.underlying193, rfl⟩, Tryz.isAgg193, Tryz.sizeOf193, ⟨Tryz.zeroValue193, _, Tryz.underlying193, by kernel_rfl⟩⟩, trivial, trivial⟩⟩, ⟨⟨⟨_, Tryz.underlying97, rfl⟩, Tryz.isAgg97, Tryz.sizeOf97, ⟨Tryz.zeroValue97, _, Tryz.underlying97, by kernel_rfl⟩⟩, trivial, trivial⟩⟩, ⟨⟨⟨_, Tryz.underlying49, rfl⟩, Tryz.isAgg49, Tryz.sizeOf49, ⟨Tryz.zeroValue49, _, Tryz.underlying49, by kernel_rfl⟩⟩, trivial, ⟨trivial, ⟨trivial, ⟨⟨⟨_, Tryz.underlying305, rfl⟩, Tryz.isAgg305, Tryz.sizeOf305, ⟨Tryz.zeroValue305, _, Tryz.underlying305, by kernel_rfl⟩⟩, trivial, trivial⟩, trivial⟩, ⟨⟨⟨_, _, _, Tryz.underlying241⟩, Tryz.isAgg241, Tryz.sizeOf241, trivial⟩, trivial, trivial⟩⟩⟩⟩, ⟨trivial, ⟨trivial, trivial, ⟨trivial, ⟨⟨⟨_, _, _, Tryz.underlying169⟩, Tryz.isAgg169, Tryz.sizeOf169, trivial⟩, trivial, trivial⟩, trivial⟩⟩, ⟨trivial, ⟨trivial, ⟨⟨⟨_, _, _, Tryz.underlying153⟩, Tryz.isAgg153, Tryz.sizeOf153, trivial⟩, trivial, trivial⟩, ⟨⟨⟨_, Tryz.underlying217, rfl⟩, Tryz.isAgg217, Tryz.sizeOf217, ⟨Tryz.zeroValue217, _, Tryz.underlying217, by kernel_rfl⟩⟩, trivial, trivial⟩⟩, ⟨trivial, ⟨⟨⟨_, Tryz.underlying185, rfl⟩, Tryz.isAgg185, Tryz.sizeOf185, ⟨Tryz.zeroValue185, _, Tryz.underlying185, by kernel_rfl⟩⟩, trivial, trivial⟩, ⟨⟨⟨_, Tryz.underlying249, rfl⟩, Tryz.isAgg249, Tryz.sizeOf249, trivial⟩, trivial, trivial⟩⟩⟩⟩⟩, ⟨trivial, ⟨trivial, ⟨trivial, ⟨trivial, trivial, ⟨⟨Tryz.underlying197, Tryz.isAgg197, Tryz.sizeOf197, trivial⟩, trivial, trivial⟩⟩, trivial⟩, ⟨trivial, ⟨trivial, trivial, ⟨⟨Tryz.underlying213, Tryz.isAgg213, Tryz.sizeOf213, trivial⟩, trivial, trivial⟩⟩, trivial⟩⟩, ⟨trivial, ⟨⟨Tryz.underlying45, Tryz.isAgg45, Tryz.sizeOf45, trivial⟩, trivial, ⟨⟨⟨_, Tryz.underlying109⟩, Tryz.isAgg109, Tryz.sizeOf109, trivial⟩, trivial, trivial⟩⟩, ⟨trivial, ⟨⟨⟨_, _, _, Tryz.underlying93⟩, Tryz.isAgg93, Tryz.sizeOf93, trivial⟩, trivial, ⟨⟨Tryz.underlying221, Tryz.isAgg221, Tryz.sizeOf221, trivial⟩, trivial, trivial⟩⟩, trivial⟩⟩⟩⟩⟩, ⟨⟨Tryz.underlying2, Tryz.isAgg2, Tryz.sizeOf2, trivial⟩, ⟨⟨Tryz.underlying4, Tryz.isAgg4, Tryz.sizeOf4, trivial⟩, ⟨trivial, ⟨trivial, ⟨⟨Tryz.underlying32, Tryz.isAgg32, Tryz.sizeOf32, trivial⟩, trivial, trivial⟩, trivial⟩, ⟨⟨Tryz.underlying24, Tryz.isAgg24, Tryz.sizeOf24, trivial⟩, ⟨trivial, ⟨trivial, trivial, ⟨⟨Tryz.underlying200, Tryz.isAgg200, Tryz.sizeOf200, trivial⟩, trivial, trivial⟩⟩, trivial⟩, ⟨trivial, trivial, ⟨trivial, trivial, ⟨⟨⟨_, Tryz.underlying248, rfl⟩, Tryz.isAgg248, Tryz.sizeOf248, ⟨Tryz.zeroValue248, _, Tryz.underlying248, by kernel_rfl⟩⟩, trivial, trivial⟩⟩⟩⟩⟩, ⟨trivial, ⟨trivial, ⟨⟨⟨_, Tryz.underlying36, rfl⟩, Tryz.isAgg36, Tryz.sizeOf36, trivial⟩, ⟨⟨⟨_, Tryz.underlying68, rfl⟩, Tryz.isAgg68, Tryz.sizeOf68, ⟨Tryz.zeroValue68, _, Tryz.underlying68, by kernel_rfl⟩⟩, trivial, trivial⟩, ⟨trivial, ⟨⟨⟨_, _, _, Tryz.underlying164⟩, Tryz.isAgg164, Tryz.sizeOf164, trivial⟩, trivial, trivial⟩, ⟨⟨⟨_, Tryz.underlying228, rfl⟩, Tryz.isAgg228, Tryz.sizeOf228, ⟨Tryz.zeroValue228, _, Tryz.underlying228, by kernel_rfl⟩⟩, trivial, trivial⟩⟩⟩, ⟨trivial, ⟨trivial, trivial, ⟨⟨Tryz.underlying212, Tryz.isAgg212, Tryz.sizeOf212, trivial⟩, trivial, trivial⟩⟩, ⟨⟨⟨_, Tryz.underlying116, rfl⟩, Tryz.isAgg116, Tryz.sizeOf116, ⟨Tryz.zeroValue116, _, Tryz.underlying116, by kernel_rfl⟩⟩, ⟨⟨Tryz.underlying180, Tryz.isAgg180, Tryz.sizeOf180, trivial⟩, trivial, trivial⟩, trivial⟩⟩⟩, ⟨trivial, ⟨⟨⟨_, Tryz.underlying44, rfl⟩, Tryz.isAgg44, Tryz.sizeOf44, trivial⟩, ⟨⟨Tryz.underlying76, Tryz.isAgg76, Tryz.sizeOf76, trivial⟩, trivial, ⟨⟨⟨_, Tryz.underlying204, rfl⟩, Tryz.isAgg204, Tryz.sizeOf204, ⟨Tryz.zeroValue204, _, Tryz.underlying204, by kernel_rfl⟩⟩, trivial, trivial⟩⟩, ⟨trivial, ⟨⟨Tryz.underlying172, Tryz.isAgg172, Tryz.sizeOf172, trivial⟩, trivial, trivial⟩, trivial⟩⟩, ⟨⟨Tryz.underlying60, Tryz.isAgg60, Tryz.sizeOf60, trivial⟩, ⟨trivial, trivial, ⟨⟨⟨_, Tryz.underlying220, rfl⟩, Tryz.isAgg220, Tryz.sizeOf220, ⟨Tryz.zeroValue220, _, Tryz.underlying220, by kernel_rfl⟩⟩, trivial, trivial⟩⟩, ⟨trivial, ⟨⟨⟨_, Tryz.underlying188, rfl⟩, Tryz.isAgg188, Tryz.sizeOf188, ⟨Tryz.zeroValue188, _, Tryz.underlying188, by kernel_rfl⟩⟩, trivial, trivial⟩, trivial⟩⟩⟩⟩⟩, ⟨trivial, ⟨trivial, ⟨trivial, ⟨⟨Tryz.underlying34, Tryz.isAgg34, Tryz.sizeOf34, trivial⟩, ⟨⟨Tryz.underlying66, Tryz.isAgg66, Tryz.sizeOf66, trivial⟩, ⟨⟨Tryz.underlying130, Tryz.isAgg130, Tryz.sizeOf130, trivial⟩, trivial, trivial⟩, trivial⟩, ⟨⟨Tryz.underlying98, Tryz.isAgg98, Tryz.sizeOf98, trivial⟩, ⟨⟨⟨_, Tryz.underlying162, rfl⟩, Tryz.isAgg162, Tryz.sizeOf162, trivial⟩, trivial, trivial⟩, ⟨⟨⟨_, Tryz.underlying226, rfl⟩, Tryz.isAgg226, Tryz.sizeOf226, trivial⟩, trivial, trivial⟩⟩⟩, ⟨trivial, ⟨trivial, trivial, ⟨⟨Tryz.underlying210, Tryz.isAgg210, Tryz.sizeOf210, trivial⟩, trivial, trivial⟩⟩, ⟨⟨⟨_, Tryz.underlying114, rfl⟩, Tryz.isAgg114, Tryz.sizeOf114, ⟨Tryz.zeroValue114, _, Tryz.underlying114, by kernel_rfl⟩⟩, ⟨trivial, ⟨⟨⟨_, Tryz.underlying306, rfl⟩, Tryz.isAgg306, Tryz.sizeOf306, trivial⟩, trivial, trivial⟩, trivial⟩, trivial⟩⟩⟩, ⟨⟨⟨_, Tryz.underlying26, rfl⟩, Tryz.isAgg26, Tryz.sizeOf26, ⟨Tryz.zeroValue26, _, Tryz.underlying26, by kernel_rfl⟩⟩, trivial, ⟨trivial, ⟨trivial, ⟨⟨⟨_, Tryz.underlying154, rfl⟩, Tryz.isAgg154, Tryz.sizeOf154, trivial⟩, trivial, trivial⟩, ⟨⟨Tryz.underlying218, Tryz.isAgg218, Tryz.sizeOf218, trivial⟩, trivial, trivial⟩⟩, ⟨trivial, ⟨⟨Tryz.underlying186, Tryz.isAgg186, Tryz.sizeOf186, trivial⟩, trivial, trivial⟩, trivial⟩⟩⟩⟩, ⟨trivial, ⟨⟨Tryz.underlying22, Tryz.isAgg22, Tryz.sizeOf22, trivial⟩, ⟨⟨⟨_, Tryz.underlying38, rfl⟩, Tryz.isAgg38, Tryz.sizeOf38, ⟨Tryz.zeroValue38, _, Tryz.underlying38, by kernel_rfl⟩⟩, trivial, trivial⟩, ⟨⟨Tryz.underlying54, Tryz.isAgg54, Tryz.sizeOf54, trivial⟩, ⟨trivial, ⟨trivial, ⟨⟨⟨_, Tryz.underlying278, rfl⟩, Tryz.isAgg278, Tryz.sizeOf278, ⟨Tryz.zeroValue278, _, Tryz.underlying278, by kernel_rfl⟩⟩, trivial, trivial⟩, trivial⟩, trivial⟩, trivial⟩⟩, ⟨trivial, ⟨trivial, trivial, ⟨trivial, trivial, ⟨⟨⟨_, _, _, Tryz.underlying238⟩, Tryz.isAgg238, Tryz.sizeOf238, trivial⟩, trivial, trivial⟩⟩⟩, ⟨⟨⟨_, Tryz.underlying62, rfl⟩, Tryz.isAgg62, Tryz.sizeOf62, ⟨Tryz.zeroValue62, _, Tryz.underlying62, by kernel_rfl⟩⟩, ⟨trivial, trivial, ⟨⟨Tryz.underlying222, Tryz.isAgg222, Tryz.sizeOf222, trivial⟩, trivial, trivial⟩⟩, trivial⟩⟩⟩⟩⟩⟩
section
variable {G : World} {f : Fc} {Q : Post} {k k' : List Item} {p p' : PE} {c : List Prop} {ds : List Deferred} {cs : List Frame} {q : List HP} {ops l ops' l' : List Oper} {pk : PE} {L : Rds} {n n' : Nat} {done done' : List Nat}
theorem xx (m : Nat) (K : X Tryz.prog G f Q k' p' ds cs q) (h : stn tbl f.n m .code k p [] = some ⟨.code, k', p', c⟩ := by exact rfl) (hc : AllP c := by repeat (first | exact trivial | refine allP_cons (by first | omega | (simp; done) | (simp; omega)) ?_)) : X Tryz.prog G f Q k p ds cs q := stXX tbl_ok m h hc K
theorem xo (m : Nat) (K : XO Tryz.prog G f Q ops'.toArray k' l' p' ds cs q) (h : stn tbl f.n m .code k p [] = some ⟨.ops ops' l', k', p', c⟩ := by exact rfl) (hc : AllP c := by repeat (first | exact trivial | refine allP_cons (by first | omega | (simp; done) | (simp; omega)) ?_)) : X Tryz.prog G f Q k p ds cs q := stXO tbl_ok m h hc K
theorem ox (m : Nat) (K : X Tryz.prog G f Q k' p' ds cs q) (h : stn tbl f.n m (.ops ops l) k p [] = some ⟨.code, k', p', c⟩ := by exact rfl) (hc : AllP c := by repeat (first | exact trivial | refine allP_cons (by first | omega | (simp; done) | (simp; omega)) ?_)) : XO Tryz.prog G f Q ops.toArray k l p ds cs q := stOX tbl_ok m h hc K
theorem oo (m : Nat) (K : XO Tryz.prog G f Q ops'.toArray k' l' p' ds cs q) (h : stn tbl f.n m (.ops ops l) k p [] = some ⟨.ops ops' l', k', p', c⟩ := by exact rfl) (hc : AllP c := by repeat (first | exact trivial | refine allP_cons (by first | omega | (simp; done) | (simp; omega)) ?_)) : XO Tryz.prog G f Q ops.toArray k l p ds cs q := stOO tbl_ok m h hc K
theorem dd (is : List Nat) (K : XD Tryz.prog G f Q ops k pk L n' done' p' ds cs q) (h : sdn tbl f.n ops is n done p [] = some ⟨n', done', p', c⟩ := by exact rfl) (hc : AllP c := by repeat (first | exact trivial | refine allP_cons (by first | omega | (simp; done) | (simp; omega)) ?_)) : XD Tryz.prog G f Q ops k pk L n done p ds cs q := stDD tbl_ok is h hc K
variable {rest : List Oper} {d : Tmp} {t ty : TypeId} {pos : String} {af : Array Edge} {gd : Option (Nat × Bool)} {x y : Operand} {A : Addr} {v : Value} {b o sz : Nat} {l vs : List Value} {t' : TypeId} {fz : Nat × Nat} {r : List HP}
theorem ld (K : XO Tryz.prog G f Q ops.toArray k rest ((d, v) :: p) ds cs q) (hx : evp p x = some (.pointer (some A)) := by rfl) (hc : Cl q A v := by exact clA)
 (hw : Wt ops p ⟨some d, .load t x, ty, pos, af, gd⟩ = some true := by rfl) (hd : Nat.blt d f.n = true := by rfl) (ht : tbl.lf t = true := by rfl) :
 XO Tryz.prog G f Q ops.toArray k (⟨some d, .load t x, ty, pos, af, gd⟩ :: rest) p ds cs q := .ld (Tr.lf_ok tbl_ok ht) K hx hc hw hd
theorem ldA (K : XO Tryz.prog G f Q ops.toArray k rest ((d, .agg (Wx.sub l o sz).toArray) :: p) ds cs q) (ht : tbl.ag t = some sz := by rfl) (hx : evp p x = some (.pointer (some ⟨b, o, none⟩)) := by rfl) (hh : Has q b (.cells l.toArray t' fz) := by exact hasA) (hv : Nat.ble (o + sz) l.length = true := by rfl)
 (hw : Wt ops p ⟨some d, .load t x, ty, pos, af, gd⟩ = some true := by rfl) (hd : Nat.blt d f.n = true := by rfl) :
 XO Tryz.prog G f Q ops.toArray k (⟨some d, .load t x, ty, pos, af, gd⟩ :: rest) p ds cs q := .ldA (Tr.ag_ok tbl_ok ht).1 (Tr.ag_ok tbl_ok ht).2 K hx hh hv hw hd
theorem ldD (i : Nat) (K : XD Tryz.prog G f Q ops k pk ((i, b, o, v) :: L) n (i :: done) ((d, v) :: p) ds cs q)
 (ho : ops[i]? = some ⟨some d, .load t x, ty, pos, af, gd⟩ := by rfl) (hx : evp p x = some (.pointer (some ⟨b, o, none⟩)) := by rfl) (hc : Cl q ⟨b, o, none⟩ v := by exact clA)
 (hr : rdy ops done i = true := by rfl) (hw : Wt ops p ⟨some d, .load t x, ty, pos, af, gd⟩ = some true := by rfl) (hd : Nat.blt d f.n = true := by rfl) (ht : tbl.lf t = true := by rfl) : XD Tryz.prog G f Q ops k pk L (n + 1) done p ds cs q := .ld i (Tr.lf_ok tbl_ok ht) K ho hx hc hr hw hd
theorem ldAD (i : Nat) (K : XD Tryz.prog G f Q ops k pk (rdA i b o (Wx.sub l o sz) ++ L) n (i :: done) ((d, .agg (Wx.sub l o sz).toArray) :: p) ds cs q)
 (ho : ops[i]? = some ⟨some d, .load t x, ty, pos, af, gd⟩ := by rfl) (ht : tbl.ag t = some sz := by rfl) (hx : evp p x = some (.pointer (some ⟨b, o, none⟩)) := by rfl) (hh : Has q b (.cells l.toArray t' fz) := by exact hasA) (hv : Nat.ble (o + sz) l.length = true := by rfl)
 (hr : rdy ops done i = true := by rfl) (hw : Wt ops p ⟨some d, .load t x, ty, pos, af, gd⟩ = some true := by rfl) (hd : Nat.blt d f.n = true := by rfl) : XD Tryz.prog G f Q ops k pk L (n + 1) done p ds cs q := .loadA i ho hx (Tr.ag_ok tbl_ok ht).1 (Tr.ag_ok tbl_ok ht).2 hh hv K hr hw hd
theorem st (K : XO Tryz.prog G f Q ops.toArray k rest p ds cs (pto b (.cells (setl l o v).toArray t' (0, 0)) :: r)) (hx : evp p x = some (.pointer (some ⟨b, o, none⟩)) := by rfl) (hy : evp p y = some v := by rfl)
 (hv : v.cells = #[v] := by rfl) (h1 : v.oneCell' = true := by rfl) (hq : Le q (pto b (.cells l.toArray t' (0, 0)) :: r) := by exact fndA) (ho : Nat.blt o l.length = true := by rfl)
 (hw : Wt ops p ⟨none, .store t x y, ty, pos, af, gd⟩ = some true := by rfl) (hs : tbl.s1 t = true := by rfl) : XO Tryz.prog G f Q ops.toArray k (⟨none, .store t x y, ty, pos, af, gd⟩ :: rest) p ds cs q := .st tbl_ok hs K hx hy hv h1 hq ho hw
theorem stA (K : XO Tryz.prog G f Q ops.toArray k rest p ds cs (pto b (.cells (splice l o vs).toArray t' (0, 0)) :: r)) (hs : tbl.ag t = some sz := by rfl) (hx : evp p x = some (.pointer (some ⟨b, o, none⟩)) := by rfl) (hy : evp p y = some (.agg vs.toArray) := by rfl)
 (hl : vs.length = sz := by rfl) (h1 : vs.all (·.oneCell') = true := by rfl) (hq : Le q (pto b (.cells l.toArray t' (0, 0)) :: r) := by exact fndA) (ho : Nat.ble (o + sz) l.length = true := by rfl)
 (hw : Wt ops p ⟨none, .store t x y, ty, pos, af, gd⟩ = some true := by rfl) : XO Tryz.prog G f Q ops.toArray k (⟨none, .store t x y, ty, pos, af, gd⟩ :: rest) p ds cs q := .stA tbl_ok hs K hx hy hl h1 hq ho hw
theorem stD (i : Nat) (K : XD Tryz.prog G f Q ops k pk (cut ⟨none, .store t x y, ty, pos, af, gd⟩ L) n (i :: done) p ds cs (pto b (.cells (setl l o v).toArray t' (0, 0)) :: r))
 (ho : ops[i]? = some ⟨none, .store t x y, ty, pos, af, gd⟩ := by rfl) (hx : evp p x = some (.pointer (some ⟨b, o, none⟩)) := by rfl) (hy : evp p y = some v := by rfl)
 (hv : v.cells = #[v] := by rfl) (h1 : v.oneCell' = true := by rfl) (hq : Le q (pto b (.cells l.toArray t' (0, 0)) :: r) := by exact fndA) (ho2 : Nat.blt o l.length = true := by rfl)
 (hh : HL (pto b (.cells (setl l o v).toArray t' (0, 0)) :: r) (cut ⟨none, .store t x y, ty, pos, af, gd⟩ L) := by exact hlA)
 (h2 : onlyR ops done i = true := by rfl) (hr : rdy ops done i = true := by rfl) (hw : Wt ops p ⟨none, .store t x y, ty, pos, af, gd⟩ = some true := by rfl) (hs : tbl.s1 t = true := by rfl) : XD Tryz.prog G f Q ops k pk L (n + 1) done p ds cs q := .st i tbl_ok hs K ho hx hy hv h1 hq ho2 hh h2 hr hw
theorem stAD (i : Nat) (K : XD Tryz.prog G f Q ops k pk (cut ⟨none, .store t x y, ty, pos, af, gd⟩ L) n (i :: done) p ds cs (pto b (.cells (splice l o vs).toArray t' (0, 0)) :: r))
 (ho : ops[i]? = some ⟨none, .store t x y, ty, pos, af, gd⟩ := by rfl) (hs : tbl.ag t = some sz := by rfl) (hx : evp p x = some (.pointer (some ⟨b, o, none⟩)) := by rfl) (hy : evp p y = some (.agg vs.toArray) := by rfl)
 (hl : vs.length = sz := by rfl) (h1 : vs.all (·.oneCell') = true := by rfl) (hq : Le q (pto b (.cells l.toArray t' (0, 0)) :: r) := by exact fndA) (ho2 : Nat.ble (o + sz) l.length = true := by rfl)
 (hh : HL (pto b (.cells (splice l o vs).toArray t' (0, 0)) :: r) (cut ⟨none, .store t x y, ty, pos, af, gd⟩ L) := by exact hlA)
 (h2 : onlyR ops done i = true := by rfl) (hr : rdy ops done i = true := by rfl) (hw : Wt ops p ⟨none, .store t x y, ty, pos, af, gd⟩ = some true := by rfl) : XD Tryz.prog G f Q ops k pk L (n + 1) done p ds cs q := .stA i tbl_ok hs K ho hx hy hl h1 hq ho2 hh h2 hr hw
theorem Tryz.mixed : Tryz.prog.follows .mixedOrders = true := by kernel_rfl
theorem drw {id : Nat} (x : XD Tryz.prog G f Q ops k [] [] ops.length [] p ds cs q) (h1 : okR ops = true := by kernel_rfl) (h2 : edgesIn ops = true := by kernel_rfl) (h3 : pkFree ops [] = true := by rfl) : X Tryz.prog G f Q (.code (.region id ops.toArray true) :: k) p ds cs q := .draw [] Tryz.mixed h1 h2 h3 x
end
structure Ins where
 c : Int
 a : Int
 b : Int
 n : Int
def insC (i : Ins) : List Value := [.int .i64 i.c, .int .i64 i.a, .int .i64 i.b, .int .i64 i.n]
structure Cod where
 name : ByteArray
 locals : Int
 ins : List Ins
 lines : List Int
 ia : Option Addr
 ic : Nat
 la : Option Addr
 lc : Nat
def codC (x : Cod) : List Value := [.string x.name, .int .i64 x.locals, .slice x.ia x.ins.length x.ic, .slice x.la x.lines.length x.lc]
structure Mdl where
 vars : List Int
 arrays : List Int
 chans : List Int
 mutexes : Int
 conds : Int
 threads : List Cod
 va : Option Addr
 vc : Nat
 aa : Option Addr
 ac : Nat
 ca : Option Addr
 cc : Nat
 ta : Option Addr
 tc : Nat
def mdlC (m : Mdl) : List Value := [.slice m.va m.vars.length m.vc, .slice m.aa m.arrays.length m.ac, .slice m.ca m.chans.length m.cc, .int .i64 m.mutexes, .int .i64 m.conds, .slice m.ta m.threads.length m.tc]
abbrev I64 : Int → Value := Value.int .i64
structure CodQ (q : List HP) (x : Cod) : Prop where
 i : Sees q x.ia (x.ins.flatMap insC)
 l : Sees q x.la (x.lines.map I64)
 n : x.name.size ≤ 9223372036854775807
 ni : x.ins.length ≤ 9223372036854775807
 nl : x.lines.length ≤ 9223372036854775807
structure MdlQ (q : List HP) (m : Mdl) : Prop where
 v : Sees q m.va (m.vars.map I64)
 a : Sees q m.aa (m.arrays.map I64)
 c : Sees q m.ca (m.chans.map I64)
 t : Sees q m.ta (m.threads.flatMap codC)
 x : ∀ x ∈ m.threads, CodQ q x
 nv : m.vars.length ≤ 9223372036854775807
 na : m.arrays.length ≤ 9223372036854775807
 nc : m.chans.length ≤ 9223372036854775807
 nt : m.threads.length ≤ 9223372036854775807
 ka : m.arrays.length ≤ m.ac
theorem CodQ.le {q q' : List HP} {x : Cod} (h : CodQ q' x) (k : Le q q') : CodQ q x := ⟨h.i.le k, h.l.le k, h.n, h.ni, h.nl⟩
theorem MdlQ.le {q q' : List HP} {m : Mdl} (h : MdlQ q' m) (k : Le q q') : MdlQ q m := ⟨h.v.le k, h.a.le k, h.c.le k, h.t.le k, fun x hx => (h.x x hx).le k, h.nv, h.na, h.nc, h.nt, h.ka⟩
def nmA (c : Int) : Bool := decide ((2 ≤ c ∧ c ≤ 7) ∨ (19 ≤ c ∧ c ≤ 21) ∨ (23 ≤ c ∧ c ≤ 31))
def insOk (i : Ins) : Prop := (1 ≤ i.c ∧ i.c ≤ 34) ∧ (if nmA i.c = true then 0 ≤ i.a ∧ i.a ≤ 65535 else i.a = 0) ∧ (if i.c = 26 then 0 ≤ i.b ∧ i.b ≤ 65535 else i.b = 0) ∧ (if i.c = 1 then -2147483648 ≤ i.n ∧ i.n ≤ 2147483647 else i.n = 0)
instance (i : Ins) : Decidable (insOk i) := by unfold insOk; infer_instance
def within (n lo hi : Int) : Prop := lo ≤ n ∧ n ≤ hi
instance (n lo hi : Int) : Decidable (within n lo hi) := by unfold within; infer_instance
def codOk (x : Cod) : Prop := within x.name.size 1 16 ∧ within x.locals 0 32 ∧ (x.ins.length : Int) = x.lines.length ∧ ((x.ins.length : Int) ≤ 65536 ∧ ∀ i ∈ x.ins, insOk i) ∧ ((x.lines.length : Int) ≤ 65536 ∧ ∀ n ∈ x.lines, within n 0 65536)
instance (x : Cod) : Decidable (codOk x) := by unfold codOk; infer_instance
def mdlOk (m : Mdl) : Prop := within m.mutexes 0 64 ∧ within m.conds 0 64 ∧ ((m.vars.length : Int) ≤ 64 ∧ ∀ n ∈ m.vars, within n (-2147483648) 2147483647) ∧ ((m.arrays.length : Int) ≤ 64 ∧ ∀ n ∈ m.arrays, within n 0 256) ∧ ((m.chans.length : Int) ≤ 64 ∧ ∀ n ∈ m.chans, within n 1 16) ∧ ((m.threads.length : Int) ≤ 64 ∧ ∀ x ∈ m.threads, codOk x)
instance (m : Mdl) : Decidable (mdlOk m) := by unfold mdlOk; infer_instance
def mchk (m : Mdl) : Int := if mdlOk m then 0 else 2
theorem mchk_iff {m : Mdl} : mchk m = 0 ↔ mdlOk m := by unfold mchk; split <;> simp_all
def cdC (x : ByteArray × Int) : List Value := [.string x.1, .int .i64 x.2]
def whatL : List Int := [0, 3, 1, 1, 1, 1, 1, 1, 0, 0, 0, 0, 0, 0, 0, 0, 0, 0, 0, 1, 1, 1, 0, 1, 1, 1, 2, 1, 1, 1, 1, 1, 0, 0, 0]
theorem whatL_at : ∀ k : Fin 35, 1 ≤ k.val → ((whatL[k.val]'k.isLt == 1 || whatL[k.val]'k.isLt == 2) = nmA k.val) ∧ ((whatL[k.val]'k.isLt == 2) = decide ((k.val : Int) = 26)) ∧ ((whatL[k.val]'k.isLt == 3) = decide ((k.val : Int) = 1)) := by decide
theorem any_take {α : Type} {p : α → Bool} {l : List α} {n : Nat} (h : n < l.length) : (l.take (n + 1)).any p = ((l.take n).any p || p l[n]) := by
 rw [List.take_succ_eq_append_getElem h, List.any_append]; simp
theorem any_at {α : Type} {p : α → Bool} {l : List α} {n : Nat} (h : n < l.length) (hp : p l[n] = true) : l.any p = true := List.any_eq_true.2 ⟨_, List.getElem_mem h, hp⟩
end Go.Proofs.YtbeeplmgcdnadaaGreatDoor
set_option maxRecDepth 100000
set_option linter.unusedVariables false
set_option linter.unusedSimpArgs false
namespace Go.Proofs.YtbeeplmgcdnadaaGreatDoor
open Go Go.RowKit Wx
attribute [local irreducible] Wx.lsH Wx.rsH Wx.stars
def GC (q : List HP) : Prop := ∃ L : List (ByteArray × Int), L.map (·.2) = whatL ∧ Sees q (some ⟨1, 0, none⟩) (L.flatMap cdC)
theorem GC.le {q q' : List HP} (h : GC q') (k : Le q q') : GC q := let ⟨L, h1, h2⟩ := h; ⟨L, h1, h2.le k⟩
section
variable {G : World} {q : List HP} {a b A : Option Addr} {c d C p p0 p1 p2 i : Nat} {lo hi n : Int} {fv : Value}
theorem within1_ok (h1 : Cl q ⟨p1, 0, none⟩ (.int .i64 lo)) (h2 : Cl q ⟨p2, 0, none⟩ (.int .i64 hi)) : CallF Tryz.prog G 128 [.int .i64 n, .pointer (some ⟨p1, 0, none⟩), .pointer (some ⟨p2, 0, none⟩)] (q) (Ret fun v q' => v = .bool (decide (within n lo hi)) ∧ q' = q) := by
 refine CallF.of Tryz.func128 Tryz.ntmps128 rfl (fun F cs => ?_)
 refine xo 6 ?_; refine ld ?_ (hc := (h1.le leA))
 refine oo 3 ?_; refine XO.sb [8, 4, 0, 2] ?_
 apply XO.cutAnd 4 12 8 rfl
 · intro g1 M1; have h1 := sp g1
   refine oo 1 ?_; refine ld ?_ (hc := (h2.le leA))
   refine oo 2 ?_; exact XO.fin M1 ⟨andT g1, subB⟩
 · intro g1 M1; have h1 := sp g1
   refine oo 4 ?_; exact XO.fin M1 ⟨andF g1, subB⟩
 refine ox 2 ?_; refine X.retL (q) Tryz.func128 (res1 Tryz.results128 rfl) ⟨_, rfl, congrArg Value.bool (by rw [Bool.eq_iff_iff, decide_eq_true_iff]; unfold within; simp), rfl⟩
theorem within_ok  : CallF Tryz.prog G 82 [.int .i64 lo, .int .i64 hi] ([]) (Ret fun v q' => ∃ p1 p2, v = .func (.func 128) [].toArray [.pointer (some ⟨p1, 0, none⟩), .pointer (some ⟨p2, 0, none⟩)].toArray ∧ q' = [pto p1 (.cells [.int .i64 lo].toArray 3 (0, 0)), pto p2 (.cells [.int .i64 hi].toArray 3 (0, 0))]) := by
 refine CallF.of Tryz.func82 Tryz.ntmps82 rfl (fun F cs => ?_)
 refine xo 2 ?_; refine XO.bx fun n1 => ?_
 refine XO.bx fun n2 => ?_
 refine ox 7 ?_; refine X.retL [pto n1 (.cells [.int .i64 lo].toArray 3 (0, 0)), pto n2 (.cells [.int .i64 hi].toArray 3 (0, 0))] Tryz.func82 (res1 Tryz.results82 rfl) ⟨_, rfl, n1, n2, rfl, rfl⟩
theorem within_rdr {l : List Int} (h1 : Cl q ⟨p1, 0, none⟩ (.int .i64 lo)) (h2 : Cl q ⟨p2, 0, none⟩ (.int .i64 hi)) : Rdr Tryz.prog G (.func (.func 128) [].toArray [.pointer (some ⟨p1, 0, none⟩), .pointer (some ⟨p2, 0, none⟩)].toArray) I64 (fun x => .bool (decide (within x lo hi))) q l :=
 fun q1 h x _ => CallV.c12 Tryz.call128 (within1_ok (h1.le h) (h2.le h))
theorem valueMay_ok  : CallF Tryz.prog G 84 [.int .i64 n] (q) (Ret fun v q' => v = .bool (decide (within n (-2147483648) 2147483647)) ∧ q' = q) := by
 refine CallF.of Tryz.func84 Tryz.ntmps84 rfl (fun F cs => ?_)
 refine xo 9 ?_; refine XO.sb [5, 2, 0] ?_
 apply XO.cutAnd 3 8 5 rfl
 · intro g1 M1; have h1 := sp g1
   refine oo 3 ?_; exact XO.fin M1 ⟨andT g1, subB⟩
 · intro g1 M1; have h1 := sp g1
   refine oo 3 ?_; exact XO.fin M1 ⟨andF g1, subB⟩
 refine ox 2 ?_; refine X.retL (q) Tryz.func84 (res1 Tryz.results84 rfl) ⟨_, rfl, congrArg Value.bool (by rw [Bool.eq_iff_iff, decide_eq_true_iff]; unfold within; simp), rfl⟩
theorem valueMay_rdr {l : List Int} : Rdr Tryz.prog G (.func (.func 84) #[] #[]) I64 (fun x => .bool (decide (within x (-2147483648) 2147483647))) q l :=
 fun q1 h x _ => CallV.c10 Tryz.call84 valueMay_ok
set_option maxHeartbeats 1000000 in
theorem indexFint64_ok {l : List Int} {u : Int → Bool} (hs : Sees q a (l.map I64)) (hn : l.length ≤ 9223372036854775807) (hp : Rdr Tryz.prog G fv I64 (fun x => .bool (u x)) q l) : CallF Tryz.prog G 108 [.slice a l.length c, fv] (q) (Ret fun v q' => ∃ k : Int, v = .int .i64 k ∧ decide (0 ≤ k) = l.any u ∧ q' = q) := by
 refine CallF.of Tryz.func108 Tryz.ntmps108 rfl (fun F cs => ?_)
 have hlen : (l.map I64).length = l.length := by simp
 refine xx 12 ?_; refine X.at (X.loop (fun (s : Nat × Option Addr) => s.1 ≤ l.length ∧ s.2 = a ∧ (l.take s.1).any u = false) (fun s => [(0, .slice s.2 l.length c), (1, fv), (7, .int .i64 (l.length : Int)), (8, .int .i64 (s.1 : Int))]) (fun s => q ++ F) (fun s => l.length - s.1) (fun s hi_ ih => ?_) (0, a) ⟨by dsimp only; omega, rfl, rfl⟩) subA leA
 try dsimp only at hi_ ih ⊢
 obtain ⟨hi1, rfl, hi2⟩ := hi_
 obtain ⟨s, a⟩ := s; dsimp only at *
 refine xx 5 ?_; refine X.part 9 rfl (fun h0 => ?_) (fun h0 => ?_)
 · replace h0 := sp h0
   have hi0 : s < l.length := by omega
   refine X.adr hs (by rw [hlen]; omega) (fun b1 o1 e_ => ?_); subst e_
   refine xo 15 ?_; refine ld ?_; refine XO.cRV (hp _ leA _ (List.getElem_mem hi0)) ?_; refine ox 1 ?_; refine X.part 16 rfl (fun h1 => ?_) (fun h1 => ?_)
   · replace h1 := sp h1
     refine xx 6 ?_; refine X.retL (q) Tryz.func108 (res1 Tryz.results108 rfl) ⟨_, rfl, _, rfl, by rw [any_at hi0 h1]; exact decide_eq_true (by omega), rfl⟩
   replace h1 := sp h1
   refine xx 7 ?_; refine X.at (ih (s + 1, some ⟨b1, o1, none⟩) ⟨by dsimp only; omega, rfl, by dsimp only; rw [any_take hi0, hi2, h1]; rfl⟩ (by dsimp only; omega)) subA leA
 replace h0 := sp h0
 refine xx 6 ?_
 rw [List.take_of_length_le (show l.length ≤ s by omega)] at hi2
 refine X.retL (q) Tryz.func108 (res1 Tryz.results108 rfl) ⟨_, rfl, _, rfl, by rw [hi2]; rfl, rfl⟩
theorem contFint64_ok {l : List Int} {u : Int → Bool} (hs : Sees q a (l.map I64)) (hn : l.length ≤ 9223372036854775807) (hp : Rdr Tryz.prog G fv I64 (fun x => .bool (u x)) q l) : CallF Tryz.prog G 72 [.slice a l.length c, fv] (q) (Ret fun v q' => v = .bool (l.any u) ∧ q' = q) := by
 refine CallF.of Tryz.func72 Tryz.ntmps72 rfl (fun F cs => ?_)
 refine xo 8 ?_; refine XO.cX Tryz.call108 (Le.refl _) (indexFint64_ok (hs.le leA) hn (hp.le leA)) ?_; rintro _ _ ⟨k, rfl, hk, rfl⟩
 refine ox 3 ?_; refine X.retL (q) Tryz.func72 (res1 Tryz.results72 rfl) ⟨_, rfl, congrArg Value.bool hk, rfl⟩
theorem all1int64_ok {l : List Int} {x : Int} {u : Int → Bool} (hx : x ∈ l) (h1 : Cl q ⟨p, 0, none⟩ fv) (hp : Rdr Tryz.prog G fv I64 (fun x => .bool (u x)) q l) : CallF Tryz.prog G 129 [.int .i64 x, .pointer (some ⟨p, 0, none⟩)] (q) (Ret fun v q' => v = .bool (!u x) ∧ q' = q) := by
 refine CallF.of Tryz.func129 Tryz.ntmps129 rfl (fun F cs => ?_)
 refine xo 6 ?_; refine ld ?_ (hc := (h1.le leA))
 refine oo 1 ?_; refine XO.cRV (hp _ leA _ hx) ?_; refine XO.pu (Pu.not rfl) ?_; refine ox 2 ?_; refine X.retL (q) Tryz.func129 (res1 Tryz.results129 rfl) ⟨_, rfl, rfl, rfl⟩
theorem allint64_ok {l : List Int} {u : Int → Bool} (hs : Sees q a (l.map I64)) (hn : l.length ≤ 9223372036854775807) (hp : Rdr Tryz.prog G fv I64 (fun x => .bool (u x)) q l) (ho : fv.cells = #[fv]) : CallF Tryz.prog G 83 [.slice a l.length c, .int .i64 hi, fv] (q) (Ret fun v q' => v = .bool (decide ((l.length : Int) ≤ hi ∧ ∀ x ∈ l, u x = true)) ∧ q' = q) := by
 refine CallF.of Tryz.func83 Tryz.ntmps83 rfl (fun F cs => ?_)
 refine xo 2 ?_; refine XO.bx fun n1 => ?_
 rw [ho]
 refine oo 9 ?_; refine XO.sb [11, 6, 5, 0] ?_
 apply XO.cutAnd 5 16 11 rfl
 · intro g1 M1; have h1 := sp g1
   refine oo 2 ?_; refine XO.cR Tryz.call72 (contFint64_ok (u := fun x => !u x) (hs.le leA) hn (fun q1 h1 x hx => CallV.c11 Tryz.call129 (all1int64_ok hx ((Cl.of (l := [fv]) hasA rfl).le h1) (hp.le (h1.trans leA))))) ?_
   refine XO.pu (Pu.not rfl) ?_; refine oo 1 ?_; exact XO.fin M1 ⟨andT g1, subB⟩
 · intro g1 M1; have h1 := sp g1
   refine oo 5 ?_; exact XO.fin M1 ⟨andF g1, subB⟩
 refine ox 2 ?_; refine X.retL (q) Tryz.func83 (res1 Tryz.results83 rfl) ⟨_, rfl, congrArg Value.bool (by rw [Bool.eq_iff_iff]; simp), rfl⟩
set_option maxHeartbeats 1000000 in
theorem indexFint_ok {l : List Int} {u : Int → Bool} (hs : Sees q a (l.map I64)) (hn : l.length ≤ 9223372036854775807) (hp : Rdr Tryz.prog G fv I64 (fun x => .bool (u x)) q l) : CallF Tryz.prog G 165 [.slice a l.length c, fv] (q) (Ret fun v q' => ∃ k : Int, v = .int .i64 k ∧ decide (0 ≤ k) = l.any u ∧ q' = q) := by
 refine CallF.of Tryz.func165 Tryz.ntmps165 rfl (fun F cs => ?_)
 have hlen : (l.map I64).length = l.length := by simp
 refine xx 12 ?_; refine X.at (X.loop (fun (s : Nat × Option Addr) => s.1 ≤ l.length ∧ s.2 = a ∧ (l.take s.1).any u = false) (fun s => [(0, .slice s.2 l.length c), (1, fv), (7, .int .i64 (l.length : Int)), (8, .int .i64 (s.1 : Int))]) (fun s => q ++ F) (fun s => l.length - s.1) (fun s hi_ ih => ?_) (0, a) ⟨by dsimp only; omega, rfl, rfl⟩) subA leA
 try dsimp only at hi_ ih ⊢
 obtain ⟨hi1, rfl, hi2⟩ := hi_
 obtain ⟨s, a⟩ := s; dsimp only at *
 refine xx 5 ?_; refine X.part 9 rfl (fun h0 => ?_) (fun h0 => ?_)
 · replace h0 := sp h0
   have hi0 : s < l.length := by omega
   refine X.adr hs (by rw [hlen]; omega) (fun b1 o1 e_ => ?_); subst e_
   refine xo 15 ?_; refine ld ?_; refine XO.cRV (hp _ leA _ (List.getElem_mem hi0)) ?_; refine ox 1 ?_; refine X.part 16 rfl (fun h1 => ?_) (fun h1 => ?_)
   · replace h1 := sp h1
     refine xx 6 ?_; refine X.retL (q) Tryz.func165 (res1 Tryz.results165 rfl) ⟨_, rfl, _, rfl, by rw [any_at hi0 h1]; exact decide_eq_true (by omega), rfl⟩
   replace h1 := sp h1
   refine xx 7 ?_; refine X.at (ih (s + 1, some ⟨b1, o1, none⟩) ⟨by dsimp only; omega, rfl, by dsimp only; rw [any_take hi0, hi2, h1]; rfl⟩ (by dsimp only; omega)) subA leA
 replace h0 := sp h0
 refine xx 6 ?_
 rw [List.take_of_length_le (show l.length ≤ s by omega)] at hi2
 refine X.retL (q) Tryz.func165 (res1 Tryz.results165 rfl) ⟨_, rfl, _, rfl, by rw [hi2]; rfl, rfl⟩
theorem contFint_ok {l : List Int} {u : Int → Bool} (hs : Sees q a (l.map I64)) (hn : l.length ≤ 9223372036854775807) (hp : Rdr Tryz.prog G fv I64 (fun x => .bool (u x)) q l) : CallF Tryz.prog G 130 [.slice a l.length c, fv] (q) (Ret fun v q' => v = .bool (l.any u) ∧ q' = q) := by
 refine CallF.of Tryz.func130 Tryz.ntmps130 rfl (fun F cs => ?_)
 refine xo 8 ?_; refine XO.cX Tryz.call165 (Le.refl _) (indexFint_ok (hs.le leA) hn (hp.le leA)) ?_; rintro _ _ ⟨k, rfl, hk, rfl⟩
 refine ox 3 ?_; refine X.retL (q) Tryz.func130 (res1 Tryz.results130 rfl) ⟨_, rfl, congrArg Value.bool hk, rfl⟩
theorem all1int_ok {l : List Int} {x : Int} {u : Int → Bool} (hx : x ∈ l) (h1 : Cl q ⟨p, 0, none⟩ fv) (hp : Rdr Tryz.prog G fv I64 (fun x => .bool (u x)) q l) : CallF Tryz.prog G 131 [.int .i64 x, .pointer (some ⟨p, 0, none⟩)] (q) (Ret fun v q' => v = .bool (!u x) ∧ q' = q) := by
 refine CallF.of Tryz.func131 Tryz.ntmps131 rfl (fun F cs => ?_)
 refine xo 6 ?_; refine ld ?_ (hc := (h1.le leA))
 refine oo 1 ?_; refine XO.cRV (hp _ leA _ hx) ?_; refine XO.pu (Pu.not rfl) ?_; refine ox 2 ?_; refine X.retL (q) Tryz.func131 (res1 Tryz.results131 rfl) ⟨_, rfl, rfl, rfl⟩
theorem allint_ok {l : List Int} {u : Int → Bool} (hs : Sees q a (l.map I64)) (hn : l.length ≤ 9223372036854775807) (hp : Rdr Tryz.prog G fv I64 (fun x => .bool (u x)) q l) (ho : fv.cells = #[fv]) : CallF Tryz.prog G 85 [.slice a l.length c, .int .i64 hi, fv] (q) (Ret fun v q' => v = .bool (decide ((l.length : Int) ≤ hi ∧ ∀ x ∈ l, u x = true)) ∧ q' = q) := by
 refine CallF.of Tryz.func85 Tryz.ntmps85 rfl (fun F cs => ?_)
 refine xo 2 ?_; refine XO.bx fun n1 => ?_
 rw [ho]
 refine oo 9 ?_; refine XO.sb [11, 6, 5, 0] ?_
 apply XO.cutAnd 5 16 11 rfl
 · intro g1 M1; have h1 := sp g1
   refine oo 2 ?_; refine XO.cR Tryz.call130 (contFint_ok (u := fun x => !u x) (hs.le leA) hn (fun q1 h1 x hx => CallV.c11 Tryz.call131 (all1int_ok hx ((Cl.of (l := [fv]) hasA rfl).le h1) (hp.le (h1.trans leA))))) ?_
   refine XO.pu (Pu.not rfl) ?_; refine oo 1 ?_; exact XO.fin M1 ⟨andT g1, subB⟩
 · intro g1 M1; have h1 := sp g1
   refine oo 5 ?_; exact XO.fin M1 ⟨andF g1, subB⟩
 refine ox 2 ?_; refine X.retL (q) Tryz.func85 (res1 Tryz.results85 rfl) ⟨_, rfl, congrArg Value.bool (by rw [Bool.eq_iff_iff]; simp), rfl⟩
set_option maxHeartbeats 1000000 in
theorem indexFCode_ok {l : List Cod} {u : Cod → Bool} (hs : Sees q a (l.flatMap codC)) (hn : l.length ≤ 9223372036854775807) (hp : Rdr Tryz.prog G fv (fun x => .agg (codC x).toArray) (fun x => .bool (u x)) q l) : CallF Tryz.prog G 166 [.slice a l.length c, fv] (q) (Ret fun v q' => ∃ k : Int, v = .int .i64 k ∧ decide (0 ≤ k) = l.any u ∧ q' = q) := by
 refine CallF.of Tryz.func166 Tryz.ntmps166 rfl (fun F cs => ?_)
 have hlen := flatMap_len (f := codC) (sz := 4) (fun _ => rfl) l
 refine xx 12 ?_; refine X.at (X.loop (fun (s : Nat × Option Addr) => s.1 ≤ l.length ∧ s.2 = a ∧ (l.take s.1).any u = false) (fun s => [(0, .slice s.2 l.length c), (1, fv), (7, .int .i64 (l.length : Int)), (8, .int .i64 (s.1 : Int))]) (fun s => q ++ F) (fun s => l.length - s.1) (fun s hi_ ih => ?_) (0, a) ⟨by dsimp only; omega, rfl, rfl⟩) subA leA
 try dsimp only at hi_ ih ⊢
 obtain ⟨hi1, rfl, hi2⟩ := hi_
 obtain ⟨s, a⟩ := s; dsimp only at *
 refine xx 5 ?_; refine X.part 9 rfl (fun h0 => ?_) (fun h0 => ?_)
 · replace h0 := sp h0
   have hi0 : s < l.length := by omega
   refine X.adr hs (by rw [hlen]; omega) (fun b1 o1 e_ => ?_); subst e_
   refine xo 15 ?_; refine XO.ldS (n := s) Tryz.isAgg47 Tryz.sizeOf47 hs hi0 ?_
   refine XO.cRV (hp _ leA _ (List.getElem_mem hi0)) ?_; refine ox 1 ?_; refine X.part 16 rfl (fun h1 => ?_) (fun h1 => ?_)
   · replace h1 := sp h1
     refine xx 6 ?_; refine X.retL (q) Tryz.func166 (res1 Tryz.results166 rfl) ⟨_, rfl, _, rfl, by rw [any_at hi0 h1]; exact decide_eq_true (by omega), rfl⟩
   replace h1 := sp h1
   refine xx 7 ?_; refine X.at (ih (s + 1, some ⟨b1, o1, none⟩) ⟨by dsimp only; omega, rfl, by dsimp only; rw [any_take hi0, hi2, h1]; rfl⟩ (by dsimp only; omega)) subA leA
 replace h0 := sp h0
 refine xx 6 ?_
 rw [List.take_of_length_le (show l.length ≤ s by omega)] at hi2
 refine X.retL (q) Tryz.func166 (res1 Tryz.results166 rfl) ⟨_, rfl, _, rfl, by rw [hi2]; rfl, rfl⟩
theorem contFCode_ok {l : List Cod} {u : Cod → Bool} (hs : Sees q a (l.flatMap codC)) (hn : l.length ≤ 9223372036854775807) (hp : Rdr Tryz.prog G fv (fun x => .agg (codC x).toArray) (fun x => .bool (u x)) q l) : CallF Tryz.prog G 132 [.slice a l.length c, fv] (q) (Ret fun v q' => v = .bool (l.any u) ∧ q' = q) := by
 refine CallF.of Tryz.func132 Tryz.ntmps132 rfl (fun F cs => ?_)
 refine xo 8 ?_; refine XO.cX Tryz.call166 (Le.refl _) (indexFCode_ok (hs.le leA) hn (hp.le leA)) ?_; rintro _ _ ⟨k, rfl, hk, rfl⟩
 refine ox 3 ?_; refine X.retL (q) Tryz.func132 (res1 Tryz.results132 rfl) ⟨_, rfl, congrArg Value.bool hk, rfl⟩
theorem all1Code_ok {l : List Cod} {x : Cod} {u : Cod → Bool} (hx : x ∈ l) (h1 : Cl q ⟨p, 0, none⟩ fv) (hp : Rdr Tryz.prog G fv (fun x => .agg (codC x).toArray) (fun x => .bool (u x)) q l) : CallF Tryz.prog G 133 [.agg (codC x).toArray, .pointer (some ⟨p, 0, none⟩)] (q) (Ret fun v q' => v = .bool (!u x) ∧ q' = q) := by
 refine CallF.of Tryz.func133 Tryz.ntmps133 rfl (fun F cs => ?_)
 refine xo 2 ?_; refine XO.bx fun n1 => ?_
 refine oo 4 ?_; refine ld ?_ (hc := (h1.le leA))
 refine ldA ?_; refine XO.cRV (hp _ leA _ hx) ?_; refine XO.pu (Pu.not rfl) ?_; refine ox 2 ?_; refine X.retL (q) Tryz.func133 (res1 Tryz.results133 rfl) ⟨_, rfl, rfl, rfl⟩
theorem allCode_ok {l : List Cod} {u : Cod → Bool} (hs : Sees q a (l.flatMap codC)) (hn : l.length ≤ 9223372036854775807) (hp : Rdr Tryz.prog G fv (fun x => .agg (codC x).toArray) (fun x => .bool (u x)) q l) (ho : fv.cells = #[fv]) : CallF Tryz.prog G 86 [.slice a l.length c, .int .i64 hi, fv] (q) (Ret fun v q' => v = .bool (decide ((l.length : Int) ≤ hi ∧ ∀ x ∈ l, u x = true)) ∧ q' = q) := by
 refine CallF.of Tryz.func86 Tryz.ntmps86 rfl (fun F cs => ?_)
 refine xo 2 ?_; refine XO.bx fun n1 => ?_
 rw [ho]
 refine oo 9 ?_; refine XO.sb [11, 6, 5, 0] ?_
 apply XO.cutAnd 5 16 11 rfl
 · intro g1 M1; have h1 := sp g1
   refine oo 2 ?_; refine XO.cR Tryz.call132 (contFCode_ok (u := fun x => !u x) (hs.le leA) hn (fun q1 h1 x hx => CallV.c11 Tryz.call133 (all1Code_ok hx ((Cl.of (l := [fv]) hasA rfl).le h1) (hp.le (h1.trans leA))))) ?_
   refine XO.pu (Pu.not rfl) ?_; refine oo 1 ?_; exact XO.fin M1 ⟨andT g1, subB⟩
 · intro g1 M1; have h1 := sp g1
   refine oo 5 ?_; exact XO.fin M1 ⟨andF g1, subB⟩
 refine ox 2 ?_; refine X.retL (q) Tryz.func86 (res1 Tryz.results86 rfl) ⟨_, rfl, congrArg Value.bool (by rw [Bool.eq_iff_iff]; simp), rfl⟩
set_option maxHeartbeats 1000000 in
theorem indexFIns_ok {l : List Ins} {u : Ins → Bool} (hs : Sees q a (l.flatMap insC)) (hn : l.length ≤ 9223372036854775807) (hp : Rdr Tryz.prog G fv (fun x => .agg (insC x).toArray) (fun x => .bool (u x)) q l) : CallF Tryz.prog G 197 [.slice a l.length c, fv] (q) (Ret fun v q' => ∃ k : Int, v = .int .i64 k ∧ decide (0 ≤ k) = l.any u ∧ q' = q) := by
 refine CallF.of Tryz.func197 Tryz.ntmps197 rfl (fun F cs => ?_)
 have hlen := flatMap_len (f := insC) (sz := 4) (fun _ => rfl) l
 refine xx 12 ?_; refine X.at (X.loop (fun (s : Nat × Option Addr) => s.1 ≤ l.length ∧ s.2 = a ∧ (l.take s.1).any u = false) (fun s => [(0, .slice s.2 l.length c), (1, fv), (7, .int .i64 (l.length : Int)), (8, .int .i64 (s.1 : Int))]) (fun s => q ++ F) (fun s => l.length - s.1) (fun s hi_ ih => ?_) (0, a) ⟨by dsimp only; omega, rfl, rfl⟩) subA leA
 try dsimp only at hi_ ih ⊢
 obtain ⟨hi1, rfl, hi2⟩ := hi_
 obtain ⟨s, a⟩ := s; dsimp only at *
 refine xx 5 ?_; refine X.part 9 rfl (fun h0 => ?_) (fun h0 => ?_)
 · replace h0 := sp h0
   have hi0 : s < l.length := by omega
   refine X.adr hs (by rw [hlen]; omega) (fun b1 o1 e_ => ?_); subst e_
   refine xo 15 ?_; refine XO.ldS (n := s) Tryz.isAgg65 Tryz.sizeOf65 hs hi0 ?_
   refine XO.cRV (hp _ leA _ (List.getElem_mem hi0)) ?_; refine ox 1 ?_; refine X.part 16 rfl (fun h1 => ?_) (fun h1 => ?_)
   · replace h1 := sp h1
     refine xx 6 ?_; refine X.retL (q) Tryz.func197 (res1 Tryz.results197 rfl) ⟨_, rfl, _, rfl, by rw [any_at hi0 h1]; exact decide_eq_true (by omega), rfl⟩
   replace h1 := sp h1
   refine xx 7 ?_; refine X.at (ih (s + 1, some ⟨b1, o1, none⟩) ⟨by dsimp only; omega, rfl, by dsimp only; rw [any_take hi0, hi2, h1]; rfl⟩ (by dsimp only; omega)) subA leA
 replace h0 := sp h0
 refine xx 6 ?_
 rw [List.take_of_length_le (show l.length ≤ s by omega)] at hi2
 refine X.retL (q) Tryz.func197 (res1 Tryz.results197 rfl) ⟨_, rfl, _, rfl, by rw [hi2]; rfl, rfl⟩
theorem contFIns_ok {l : List Ins} {u : Ins → Bool} (hs : Sees q a (l.flatMap insC)) (hn : l.length ≤ 9223372036854775807) (hp : Rdr Tryz.prog G fv (fun x => .agg (insC x).toArray) (fun x => .bool (u x)) q l) : CallF Tryz.prog G 167 [.slice a l.length c, fv] (q) (Ret fun v q' => v = .bool (l.any u) ∧ q' = q) := by
 refine CallF.of Tryz.func167 Tryz.ntmps167 rfl (fun F cs => ?_)
 refine xo 8 ?_; refine XO.cX Tryz.call197 (Le.refl _) (indexFIns_ok (hs.le leA) hn (hp.le leA)) ?_; rintro _ _ ⟨k, rfl, hk, rfl⟩
 refine ox 3 ?_; refine X.retL (q) Tryz.func167 (res1 Tryz.results167 rfl) ⟨_, rfl, congrArg Value.bool hk, rfl⟩
theorem all1Ins_ok {l : List Ins} {x : Ins} {u : Ins → Bool} (hx : x ∈ l) (h1 : Cl q ⟨p, 0, none⟩ fv) (hp : Rdr Tryz.prog G fv (fun x => .agg (insC x).toArray) (fun x => .bool (u x)) q l) : CallF Tryz.prog G 168 [.agg (insC x).toArray, .pointer (some ⟨p, 0, none⟩)] (q) (Ret fun v q' => v = .bool (!u x) ∧ q' = q) := by
 refine CallF.of Tryz.func168 Tryz.ntmps168 rfl (fun F cs => ?_)
 refine xo 2 ?_; refine XO.bx fun n1 => ?_
 refine oo 4 ?_; refine ld ?_ (hc := (h1.le leA))
 refine ldA ?_; refine XO.cRV (hp _ leA _ hx) ?_; refine XO.pu (Pu.not rfl) ?_; refine ox 2 ?_; refine X.retL (q) Tryz.func168 (res1 Tryz.results168 rfl) ⟨_, rfl, rfl, rfl⟩
theorem allIns_ok {l : List Ins} {u : Ins → Bool} (hs : Sees q a (l.flatMap insC)) (hn : l.length ≤ 9223372036854775807) (hp : Rdr Tryz.prog G fv (fun x => .agg (insC x).toArray) (fun x => .bool (u x)) q l) (ho : fv.cells = #[fv]) : CallF Tryz.prog G 134 [.slice a l.length c, .int .i64 hi, fv] (q) (Ret fun v q' => v = .bool (decide ((l.length : Int) ≤ hi ∧ ∀ x ∈ l, u x = true)) ∧ q' = q) := by
 refine CallF.of Tryz.func134 Tryz.ntmps134 rfl (fun F cs => ?_)
 refine xo 2 ?_; refine XO.bx fun n1 => ?_
 rw [ho]
 refine oo 9 ?_; refine XO.sb [11, 6, 5, 0] ?_
 apply XO.cutAnd 5 16 11 rfl
 · intro g1 M1; have h1 := sp g1
   refine oo 2 ?_; refine XO.cR Tryz.call167 (contFIns_ok (u := fun x => !u x) (hs.le leA) hn (fun q1 h1 x hx => CallV.c11 Tryz.call168 (all1Ins_ok hx ((Cl.of (l := [fv]) hasA rfl).le h1) (hp.le (h1.trans leA))))) ?_
   refine XO.pu (Pu.not rfl) ?_; refine oo 1 ?_; exact XO.fin M1 ⟨andT g1, subB⟩
 · intro g1 M1; have h1 := sp g1
   refine oo 5 ?_; exact XO.fin M1 ⟨andF g1, subB⟩
 refine ox 2 ?_; refine X.retL (q) Tryz.func134 (res1 Tryz.results134 rfl) ⟨_, rfl, congrArg Value.bool (by rw [Bool.eq_iff_iff]; simp), rfl⟩
end
section
variable {G : World} {q : List HP} {a b A : Option Addr} {c d C p p0 p1 p2 i : Nat} {lo hi n cd : Int} {fv : Value} {x : Ins} {t : Cod} {m : Mdl}
theorem what_at {L : List (ByteArray × Int)} (h : L.map (·.2) = whatL) {k : Nat} (hk : k < L.length) (h1 : 1 ≤ k) : k < 35 ∧ ((L[k].2 == 1 || L[k].2 == 2) = nmA k) ∧ ((L[k].2 == 2) = decide ((k : Int) = 26)) ∧ ((L[k].2 == 3) = decide ((k : Int) = 1)) := by
 have hl : L.length = 35 := by rw [← List.length_map (f := fun x : ByteArray × Int => x.2), h]; rfl
 have hk2 : k < 35 := by omega
 have e : L[k].2 = whatL[k]'hk2 := by
  have := List.getElem_map (fun x : ByteArray × Int => x.2) (l := L) (i := k) (h := by simpa using hk)
  rw [← this]; simp only [h]; rfl
 rw [e]
 exact ⟨hk2, whatL_at ⟨k, hk2⟩ h1⟩
theorem partMay_ok {bb : Bool} : CallF Tryz.prog G 170 [.int .i64 n, .bool bb] (q) (Ret fun v q' => v = .bool (decide (if bb = true then 0 ≤ n ∧ n ≤ 65535 else n = 0)) ∧ q' = q) := by
 refine CallF.of Tryz.func170 Tryz.ntmps170 rfl (fun F cs => ?_)
 refine xx 9 ?_; refine X.part 5 rfl (fun h1 => ?_) (fun h1 => ?_)
 · replace h1 := sp h1
   refine xo 6 ?_; refine XO.sb [8, 4, 0] ?_
   apply XO.cutAnd 3 11 8 rfl
   · intro g2 M2; have h2 := sp g2
     refine oo 3 ?_; exact XO.fin M2 ⟨andT g2, subB⟩
   · intro g2 M2; have h2 := sp g2
     refine oo 3 ?_; exact XO.fin M2 ⟨andF g2, subB⟩
   refine ox 2 ?_; refine X.retL (q) Tryz.func170 (res1 Tryz.results170 rfl) ⟨_, rfl, congrArg Value.bool (by rw [Bool.eq_iff_iff, decide_eq_true_iff]; simp_all), rfl⟩
 replace h1 := sp h1
 refine xx 8 ?_; refine X.retL (q) Tryz.func170 (res1 Tryz.results170 rfl) ⟨_, rfl, congrArg Value.bool (by rw [Bool.eq_iff_iff, decide_eq_true_iff]; simp_all), rfl⟩
set_option maxHeartbeats 1000000 in
theorem formOf_ok (g : GC q) : CallF Tryz.prog G 169 [.int .i64 cd] (q) (Ret fun v q' => ((¬ (1 ≤ cd ∧ cd ≤ 34) ∧ v = .tuple [.agg #[.string ⟨#[]⟩, .bool false, .bool false, .bool false], .bool false].toArray) ∨ ((1 ≤ cd ∧ cd ≤ 34) ∧ ∃ s, v = .tuple [.agg [.string s, .bool (nmA cd), .bool (decide (cd = 26)), .bool (decide (cd = 1))].toArray, .bool true].toArray)) ∧ q' = q) := by
 refine CallF.of Tryz.func169 Tryz.ntmps169 rfl (fun F cs => ?_)
 obtain ⟨L, hL, hs⟩ := g
 have hl : L.length = 35 := by rw [← List.length_map (f := fun x : ByteArray × Int => x.2), hL]; rfl
 refine xo 2 ?_; refine XO.al Tryz.zeroValue278 fun n1 => ?_
 refine oo 8 ?_; refine XO.sb [7, 3, 2, 0] ?_
 apply XO.cutOr 3 10 7 rfl
 · intro g1 M1; have h1 := sp g1
   refine oo 3 ?_; exact XO.fin M1 ⟨orF g1, subB⟩
 · intro g1 M1; have h1 := sp g1
   refine oo 3 ?_; exact XO.fin M1 ⟨orT g1, subB⟩
 refine ox 1 ?_; refine X.part 10 rfl (fun h1 => ?_) (fun h1 => ?_)
 · replace h1 := sp h1
   refine xo 4 ?_; refine stA ?_; refine ox 2 ?_; refine X.retL (q) Tryz.func169 (resC Tryz.results169 (ResOk.cell rfl (LV.agg Tryz.isAgg278 Tryz.sizeOf278 hasA rfl) (ResOk.tmp rfl ResOk.nil))) ⟨_, rfl, .inl ⟨by omega, rfl⟩, rfl⟩
 replace h1 := sp h1
 refine xo 5 ?_
 have hr : 1 ≤ cd ∧ cd ≤ 34 := (by omega)
 obtain ⟨_, w1, w2, w3⟩ := what_at hL (k := cd.toNat) (by omega) (by omega); rw [show ((cd.toNat : Nat) : Int) = cd by omega] at w1 w2 w3
 refine XO.pu (Pu.indexAddrA rfl rfl Tryz.underlying306 Tryz.sizeOf305 (by omega) (by omega)) ?_
 refine XO.ldS (n := cd.toNat) Tryz.isAgg305 Tryz.sizeOf305 hs (by omega) ?_
 refine XO.al Tryz.zeroValue305 fun n2 => ?_
 refine stA ?_; refine oo 4 ?_; refine ld ?_; refine oo 1 ?_; refine ld ?_; refine oo 2 ?_; refine XO.sb [20, 16, 4, 3, 2] ?_
 apply XO.cutOr 4 24 20 rfl
 · intro g2 M2; have h2 := sp g2
   refine oo 1 ?_; refine ld ?_; refine oo 2 ?_; exact XO.fin M2 ⟨orF g2, subB⟩
 · intro g2 M2; have h2 := sp g2
   refine oo 4 ?_; exact XO.fin M2 ⟨orT g2, subB⟩
 refine oo 1 ?_; refine ld ?_; refine oo 2 ?_; refine ld ?_; refine oo 2 ?_; refine stA ?_; refine ox 2 ?_; refine X.sb [3, 2] ?_; refine X.retL (q) Tryz.func169 (resC Tryz.results169 (ResOk.cell rfl (LV.agg Tryz.isAgg278 Tryz.sizeOf278 hasA rfl) (ResOk.tmp rfl ResOk.nil))) ⟨_, rfl, .inr ⟨hr, (L[cd.toNat]'(by omega)).1, by rw [← w1, ← w2, ← w3]; rfl⟩, rfl⟩
set_option maxHeartbeats 2000000 in
theorem insMay_ok (g : GC q) : CallF Tryz.prog G 135 [.agg (insC x).toArray] (q) (Ret fun v q' => v = .bool (decide (insOk x)) ∧ q' = q) := by
 refine CallF.of Tryz.func135 Tryz.ntmps135 rfl (fun F cs => ?_)
 obtain ⟨xc, xa, xb, xn⟩ := x; simp only [insC]
 refine xo 2 ?_; refine XO.bx fun n1 => ?_
 refine oo 5 ?_; refine ld ?_; refine XO.cX Tryz.call169 (Le.refl _) (formOf_ok (cd := xc) (g.le leA)) ?_
 rintro _ _ ⟨(⟨hr, rfl⟩ | ⟨hr, s, rfl⟩), rfl⟩
 · refine oo 3 ?_; refine XO.al Tryz.zeroValue278 fun n2 => ?_
   refine stA ?_; refine oo 6 ?_; refine XO.pu (Pu.not rfl) ?_; refine oo 1 ?_; refine XO.sb [13, 3, 2, 1] ?_
   apply XO.cutOr 7 20 13 rfl
   · intro g1 M1; have h1 := sp g1
     refine oo 1 ?_; refine ld ?_; refine oo 1 ?_; refine ld ?_; refine XO.cR Tryz.call170 (partMay_ok) ?_; refine XO.pu (Pu.not rfl) ?_; refine oo 1 ?_; exact XO.fin M1 ⟨orF g1, subB⟩
   · intro g1 M1; have h1 := sp g1
     refine oo 7 ?_; exact XO.fin M1 ⟨orT g1, subB⟩
   refine oo 1 ?_; refine XO.sb [21, 3, 2, 1] ?_
   apply XO.cutOr 7 28 21 rfl
   · intro g1 M1; have h1 := sp g1
     refine oo 1 ?_; refine ld ?_; refine oo 1 ?_; refine ld ?_; refine XO.cR Tryz.call170 (partMay_ok) ?_; refine XO.pu (Pu.not rfl) ?_; refine oo 1 ?_; exact XO.fin M1 ⟨orF g1, subB⟩
   · intro g1 M1; have h1 := sp g1
     refine oo 7 ?_; exact XO.fin M1 ⟨orT g1, subB⟩
   refine ox 1 ?_; refine X.part 28 rfl (fun h1 => ?_) (fun h1 => ?_)
   · replace h1 := sp h1
     refine xx 5 ?_; refine X.retL (q) Tryz.func135 (res1 Tryz.results135 rfl) ⟨_, rfl, congrArg Value.bool (by rw [Bool.eq_iff_iff]; simp only [decide_eq_true_eq, Bool.false_eq_true, insOk]; first | (simp_all; done) | (simp_all; omega) | (simp; intro k; exact absurd k hr)), rfl⟩
   replace h1 := sp h1
   refine xo 6 ?_; refine ld ?_; refine ox 1 ?_; refine X.sb [30, 2, 1] ?_; refine X.part 30 rfl (fun h2 => ?_) (fun h2 => ?_)
   · replace h2 := sp h2
     refine xo 4 ?_; refine ld ?_; refine XO.cR Tryz.call84 (valueMay_ok) ?_; refine ox 2 ?_; refine X.retL (q) Tryz.func135 (res1 Tryz.results135 rfl) ⟨_, rfl, congrArg Value.bool (by rw [Bool.eq_iff_iff]; simp only [decide_eq_true_eq, Bool.false_eq_true, insOk]; first | (simp_all; done) | (simp_all; omega) | (simp; intro k; exact absurd k hr)), rfl⟩
   replace h2 := sp h2
   refine xo 5 ?_; refine ld ?_; refine ox 3 ?_; refine X.retL (q) Tryz.func135 (res1 Tryz.results135 rfl) ⟨_, rfl, congrArg Value.bool (by rw [Bool.eq_iff_iff]; simp only [decide_eq_true_eq, Bool.false_eq_true, insOk]; first | (simp_all; done) | (simp_all; omega) | (simp; intro k; exact absurd k hr)), rfl⟩
 refine oo 3 ?_; refine XO.al Tryz.zeroValue278 fun n3 => ?_
 refine stA ?_; refine oo 6 ?_; refine XO.pu (Pu.not rfl) ?_; refine oo 1 ?_; refine XO.sb [13, 3, 2, 1] ?_
 apply XO.cutOr 7 20 13 rfl
 · intro g1 M1; have h1 := sp g1
   refine oo 1 ?_; refine ld ?_; refine oo 1 ?_; refine ld ?_; refine XO.cR Tryz.call170 (partMay_ok) ?_; refine XO.pu (Pu.not rfl) ?_; refine oo 1 ?_; exact XO.fin M1 ⟨orF g1, subB⟩
 · intro g1 M1; have h1 := sp g1
   refine oo 7 ?_; exact XO.fin M1 ⟨orT g1, subB⟩
 refine oo 1 ?_; refine XO.sb [21, 3, 2, 1] ?_
 apply XO.cutOr 7 28 21 rfl
 · intro g1 M1; have h1 := sp g1
   refine oo 1 ?_; refine ld ?_; refine oo 1 ?_; refine ld ?_; refine XO.cR Tryz.call170 (partMay_ok) ?_; refine XO.pu (Pu.not rfl) ?_; refine oo 1 ?_; exact XO.fin M1 ⟨orF g1, subB⟩
 · intro g1 M1; have h1 := sp g1
   refine oo 7 ?_; exact XO.fin M1 ⟨orT g1, subB⟩
 refine ox 1 ?_; refine X.part 28 rfl (fun h1 => ?_) (fun h1 => ?_)
 · replace h1 := sp h1
   refine xx 5 ?_; refine X.retL (q) Tryz.func135 (res1 Tryz.results135 rfl) ⟨_, rfl, congrArg Value.bool (by rw [Bool.eq_iff_iff]; simp only [decide_eq_true_eq, Bool.false_eq_true, insOk]; first | (simp_all [within]; done) | (by_cases e1 : nmA xc = true <;> by_cases e2 : xc = 26 <;> by_cases e3 : xc = 1 <;> simp_all [within] <;> omega)), rfl⟩
 replace h1 := sp h1
 refine xo 6 ?_; refine ld ?_; refine ox 1 ?_; refine X.sb [30, 2, 1] ?_; refine X.part 30 rfl (fun h2 => ?_) (fun h2 => ?_)
 · replace h2 := sp h2
   refine xo 4 ?_; refine ld ?_; refine XO.cR Tryz.call84 (valueMay_ok) ?_; refine ox 2 ?_; refine X.retL (q) Tryz.func135 (res1 Tryz.results135 rfl) ⟨_, rfl, congrArg Value.bool (by rw [Bool.eq_iff_iff]; simp only [decide_eq_true_eq, Bool.false_eq_true, insOk]; first | (simp_all [within]; done) | (by_cases e1 : nmA xc = true <;> by_cases e2 : xc = 26 <;> by_cases e3 : xc = 1 <;> simp_all [within] <;> omega)), rfl⟩
 replace h2 := sp h2
 refine xo 5 ?_; refine ld ?_; refine ox 3 ?_; refine X.retL (q) Tryz.func135 (res1 Tryz.results135 rfl) ⟨_, rfl, congrArg Value.bool (by rw [Bool.eq_iff_iff]; simp only [decide_eq_true_eq, Bool.false_eq_true, insOk]; first | (simp_all [within]; done) | (by_cases e1 : nmA xc = true <;> by_cases e2 : xc = 26 <;> by_cases e3 : xc = 1 <;> simp_all [within] <;> omega)), rfl⟩
theorem insMay_rdr {l : List Ins} (g : GC q) : Rdr Tryz.prog G (.func (.func 135) #[] #[]) (fun x => .agg (insC x).toArray) (fun x => .bool (decide (insOk x))) q l :=
 fun q1 h x _ => CallV.c10 Tryz.call135 (insMay_ok (g.le h))
end
section
variable {G : World} {q : List HP} {a b A : Option Addr} {c d C p p0 p1 p2 i : Nat} {lo hi n cd : Int} {fv : Value} {x : Ins} {t : Cod} {m : Mdl}
set_option maxHeartbeats 2000000 in
theorem threadMay_ok (g : GC q) (hq : CodQ q t) : CallF Tryz.prog G 87 [.agg (codC t).toArray] (q) (Ret fun v q' => v = .bool (decide (codOk t)) ∧ q' = q) := by
 refine CallF.of Tryz.func87 Tryz.ntmps87 rfl (fun F cs => ?_)
 have hn := hq.n; have hni := hq.ni; have hnl := hq.nl
 refine xo 2 ?_; refine XO.bx fun n1 => ?_
 refine ox 3 ?_; refine drw ?_; refine dd [1] ?_; refine ldD 2 ?_; refine dd [3] ?_; refine XD.cF 0 Tryz.call82 (within_ok) ?_; rintro _ _ ⟨pa1, pb1, rfl, rfl⟩ _ e_; simp only [ca, na] at e_; subst e_
 refine ⟨hlA, ?_⟩
 refine XD.cRV 4 (CallV.c12 Tryz.call128 (within1_ok (p1 := pa1) (p2 := pb1) (lo := 1) (hi := 16) (Cl.of (l := [.int .i64 1]) hasA rfl) (Cl.of (l := [.int .i64 16]) hasA rfl))) ?_
 refine dd [5] ?_; refine XD.part 8 rfl (fun h1 => ?_) (fun h1 => ?_)
 · replace h1 := sp h1
   refine dd [7] ?_; refine ldD 8 ?_; refine XD.cF 6 Tryz.call82 (within_ok) ?_; rintro _ _ ⟨pa2, pb2, rfl, rfl⟩ _ e_; simp only [ca, na] at e_; subst e_
   refine ⟨hlA, ?_⟩
   refine XD.cRV 9 (CallV.c12 Tryz.call128 (within1_ok (p1 := pa2) (p2 := pb2) (lo := 0) (hi := 32) (Cl.of (l := [.int .i64 0]) hasA rfl) (Cl.of (l := [.int .i64 32]) hasA rfl))) ?_
   refine dd [10, 11] ?_; refine XD.part 14 rfl (fun h2 => ?_) (fun h2 => ?_)
   · replace h2 := sp h2
     refine dd [12] ?_; refine ldD 13 ?_; refine dd [14, 15] ?_; refine ldD 16 ?_; refine dd [17, 18, 19, 20] ?_; refine XD.part 23 rfl (fun h3 => ?_) (fun h3 => ?_)
     · replace h3 := sp h3
       refine dd [21] ?_; refine ldD 22 ?_; refine XD.cRL 23 Tryz.call134 (allIns_ok (u := fun x => decide (insOk x)) (hq.i.le leA) hq.ni ((insMay_rdr g).le leA) rfl) ?_
       refine dd [24, 25] ?_; refine XD.part 28 rfl (fun h4 => ?_) (fun h4 => ?_)
       · replace h4 := sp h4
         refine dd [26] ?_; refine ldD 27 ?_; refine XD.cF 28 Tryz.call82 (within_ok) ?_; rintro _ _ ⟨pa3, pb3, rfl, rfl⟩ _ e_; simp only [ca, na] at e_; subst e_
         refine ⟨hlA, ?_⟩
         refine XD.cRL 29 Tryz.call85 (allint_ok (u := fun x => decide (within x 0 65536)) (hq.l.le leA) hq.nl (within_rdr (p1 := pa3) (p2 := pb3) (lo := 0) (hi := 65536) (Cl.of (l := [.int .i64 0]) hasA rfl) (Cl.of (l := [.int .i64 65536]) hasA rfl)) rfl) ?_
         refine dd [30, 31] ?_; refine XD.nil ?_; refine X.retL (q) Tryz.func87 (res1 Tryz.results87 rfl) ⟨_, rfl, congrArg Value.bool (by first | (rw [Bool.eq_iff_iff]; simp only [decide_eq_true_eq, Bool.false_eq_true, codOk]; simp_all; done) | ((first | (symm; rw [decide_eq_false_iff_not]; done) | (rw [decide_eq_false_iff_not]) | (symm; rw [decide_eq_false_iff_not])); rintro ⟨k1, k2, k3, k4, k5⟩; exact absurd k4 (by assumption))), rfl⟩
       replace h4 := sp h4
       refine dd [26, 27, 28, 29, 30, 31] ?_; refine XD.nil ?_; refine X.retL (q) Tryz.func87 (res1 Tryz.results87 rfl) ⟨_, rfl, congrArg Value.bool (by first | (rw [Bool.eq_iff_iff]; simp only [decide_eq_true_eq, Bool.false_eq_true, codOk]; simp_all; done) | ((first | (symm; rw [decide_eq_false_iff_not]; done) | (rw [decide_eq_false_iff_not]) | (symm; rw [decide_eq_false_iff_not])); rintro ⟨k1, k2, k3, k4, k5⟩; exact absurd k4 (by assumption))), rfl⟩
     replace h3 := sp h3
     refine dd [21, 22, 23, 24, 25, 26, 27, 28, 29, 30, 31] ?_; refine XD.nil ?_; refine X.retL (q) Tryz.func87 (res1 Tryz.results87 rfl) ⟨_, rfl, congrArg Value.bool (by first | (rw [Bool.eq_iff_iff]; simp only [decide_eq_true_eq, Bool.false_eq_true, codOk]; simp_all; done) | ((first | (symm; rw [decide_eq_false_iff_not]; done) | (rw [decide_eq_false_iff_not]) | (symm; rw [decide_eq_false_iff_not])); rintro ⟨k1, k2, k3, k4, k5⟩; exact absurd k4 (by assumption))), rfl⟩
   replace h2 := sp h2
   refine dd [12, 13, 14, 15, 16, 17, 18, 19, 20, 21, 22, 23, 24, 25, 26, 27, 28, 29, 30, 31] ?_; refine XD.nil ?_; refine X.retL (q) Tryz.func87 (res1 Tryz.results87 rfl) ⟨_, rfl, congrArg Value.bool (by first | (rw [Bool.eq_iff_iff]; simp only [decide_eq_true_eq, Bool.false_eq_true, codOk]; simp_all; done) | ((first | (symm; rw [decide_eq_false_iff_not]; done) | (rw [decide_eq_false_iff_not]) | (symm; rw [decide_eq_false_iff_not])); rintro ⟨k1, k2, k3, k4, k5⟩; exact absurd k4 (by assumption))), rfl⟩
 replace h1 := sp h1
 refine dd [6, 7, 8, 9, 10, 11, 12, 13, 14, 15, 16, 17, 18, 19, 20, 21, 22, 23, 24, 25, 26, 27, 28, 29, 30, 31] ?_; refine XD.nil ?_; refine X.retL (q) Tryz.func87 (res1 Tryz.results87 rfl) ⟨_, rfl, congrArg Value.bool (by first | (rw [Bool.eq_iff_iff]; simp only [decide_eq_true_eq, Bool.false_eq_true, codOk]; simp_all; done) | ((first | (symm; rw [decide_eq_false_iff_not]; done) | (rw [decide_eq_false_iff_not]) | (symm; rw [decide_eq_false_iff_not])); rintro ⟨k1, k2, k3, k4, k5⟩; exact absurd k4 (by assumption))), rfl⟩
set_option maxHeartbeats 4000000 in
theorem Check_ok (g : GC q) (hq : MdlQ q m) : CallF Tryz.prog G 54 [.agg (mdlC m).toArray] (q) (Ret fun v q' => v = .int .i64 (mchk m) ∧ q' = q) := by
 refine CallF.of Tryz.func54 Tryz.ntmps54 rfl (fun F cs => ?_)
 have hnv := hq.nv; have hna := hq.na; have hnc := hq.nc; have hnt := hq.nt
 refine xo 2 ?_; refine XO.bx fun n1 => ?_
 refine oo 4 ?_; refine XO.cF Tryz.call82 (within_ok) ?_; rintro _ _ ⟨pa4, pb4, rfl, rfl⟩ _ e_; simp only [ca, na] at e_; subst e_
 refine ox 4 ?_; refine drw ?_; refine dd [0, 1] ?_; refine ldD 2 ?_; refine XD.cRV 3 (CallV.c12 Tryz.call128 (within1_ok (p1 := pa4) (p2 := pb4) (lo := 0) (hi := 64) (Cl.of (l := [.int .i64 0]) hasA rfl) (Cl.of (l := [.int .i64 64]) hasA rfl))) ?_
 refine XD.pu 4 rfl (Pu.not rfl) ?_; refine dd [5] ?_; refine XD.part 10 rfl (fun h1 => ?_) (fun h1 => ?_)
 · replace h1 := sp h1
   refine dd [6, 7, 8, 9, 10, 11, 12, 13, 14, 15, 16, 17, 18, 19, 20, 21, 22, 23, 24, 25, 26, 27, 28, 29, 30, 31, 32, 33, 34, 35, 36, 37] ?_; refine XD.nil ?_; refine xx 5 ?_; refine X.sb [2] ?_; refine X.retL (q) Tryz.func54 (res1 Tryz.results54 rfl) ⟨_, rfl, congrArg (Value.int _) (by unfold mchk; split <;> (rename_i hm; unfold mdlOk at hm; simp_all)), rfl⟩
 replace h1 := sp h1
 refine dd [6, 7] ?_; refine ldD 8 ?_; refine XD.cRV 9 (CallV.c12 Tryz.call128 (within1_ok (p1 := pa4) (p2 := pb4) (lo := 0) (hi := 64) (Cl.of (l := [.int .i64 0]) hasA rfl) (Cl.of (l := [.int .i64 64]) hasA rfl))) ?_
 refine XD.pu 10 rfl (Pu.not rfl) ?_; refine dd [11, 12] ?_; refine XD.part 17 rfl (fun h2 => ?_) (fun h2 => ?_)
 · replace h2 := sp h2
   refine dd [13, 14, 15, 16, 17, 18, 19, 20, 21, 22, 23, 24, 25, 26, 27, 28, 29, 30, 31, 32, 33, 34, 35, 36, 37] ?_; refine XD.nil ?_; refine xx 5 ?_; refine X.sb [2] ?_; refine X.retL (q) Tryz.func54 (res1 Tryz.results54 rfl) ⟨_, rfl, congrArg (Value.int _) (by unfold mchk; split <;> (rename_i hm; unfold mdlOk at hm; simp_all)), rfl⟩
 replace h2 := sp h2
 refine dd [13] ?_; refine ldD 14 ?_; refine XD.cRL 15 Tryz.call83 (allint64_ok (u := fun x => decide (within x (-2147483648) 2147483647)) (hq.v.le leA) hq.nv valueMay_rdr rfl) ?_
 refine XD.pu 16 rfl (Pu.not rfl) ?_; refine dd [17, 18] ?_; refine XD.part 23 rfl (fun h3 => ?_) (fun h3 => ?_)
 · replace h3 := sp h3
   refine dd [19, 20, 21, 22, 23, 24, 25, 26, 27, 28, 29, 30, 31, 32, 33, 34, 35, 36, 37] ?_; refine XD.nil ?_; refine xx 5 ?_; refine X.sb [2] ?_; refine X.retL (q) Tryz.func54 (res1 Tryz.results54 rfl) ⟨_, rfl, congrArg (Value.int _) (by unfold mchk; split <;> (rename_i hm; unfold mdlOk at hm; simp_all)), rfl⟩
 replace h3 := sp h3
 refine dd [19] ?_; refine ldD 20 ?_; refine XD.cF 21 Tryz.call82 (within_ok) ?_; rintro _ _ ⟨pa5, pb5, rfl, rfl⟩ _ e_; simp only [ca, na] at e_; subst e_
 refine ⟨hlA, ?_⟩
 refine XD.cRL 22 Tryz.call85 (allint_ok (u := fun x => decide (within x 0 256)) (hq.a.le leA) hq.na (within_rdr (p1 := pa5) (p2 := pb5) (lo := 0) (hi := 256) (Cl.of (l := [.int .i64 0]) hasA rfl) (Cl.of (l := [.int .i64 256]) hasA rfl)) rfl) ?_
 refine XD.pu 23 rfl (Pu.not rfl) ?_; refine dd [24, 25] ?_; refine XD.part 30 rfl (fun h4 => ?_) (fun h4 => ?_)
 · replace h4 := sp h4
   refine dd [26, 27, 28, 29, 30, 31, 32, 33, 34, 35, 36, 37] ?_; refine XD.nil ?_; refine xx 5 ?_; refine X.sb [2] ?_; refine X.retL (q) Tryz.func54 (res1 Tryz.results54 rfl) ⟨_, rfl, congrArg (Value.int _) (by unfold mchk; split <;> (rename_i hm; unfold mdlOk at hm; simp_all)), rfl⟩
 replace h4 := sp h4
 refine dd [26] ?_; refine ldD 27 ?_; refine XD.cF 28 Tryz.call82 (within_ok) ?_; rintro _ _ ⟨pa6, pb6, rfl, rfl⟩ _ e_; simp only [ca, na] at e_; subst e_
 refine ⟨hlA, ?_⟩
 refine XD.cRL 29 Tryz.call85 (allint_ok (u := fun x => decide (within x 1 16)) (hq.c.le leA) hq.nc (within_rdr (p1 := pa6) (p2 := pb6) (lo := 1) (hi := 16) (Cl.of (l := [.int .i64 1]) hasA rfl) (Cl.of (l := [.int .i64 16]) hasA rfl)) rfl) ?_
 refine XD.pu 30 rfl (Pu.not rfl) ?_; refine dd [31, 32] ?_; refine XD.part 37 rfl (fun h5 => ?_) (fun h5 => ?_)
 · replace h5 := sp h5
   refine dd [33, 34, 35, 36, 37] ?_; refine XD.nil ?_; refine xx 5 ?_; refine X.sb [2] ?_; refine X.retL (q) Tryz.func54 (res1 Tryz.results54 rfl) ⟨_, rfl, congrArg (Value.int _) (by unfold mchk; split <;> (rename_i hm; unfold mdlOk at hm; simp_all)), rfl⟩
 replace h5 := sp h5
 refine dd [33] ?_; refine ldD 34 ?_; refine XD.cRL 35 Tryz.call86 (allCode_ok (u := fun x => decide (codOk x)) (hq.t.le leA) hq.nt (fun q1 h1 x hx => CallV.c10 Tryz.call87 (threadMay_ok (g.le (h1.trans leA)) ((hq.x x hx).le (h1.trans leA)))) rfl) ?_
 refine XD.pu 36 rfl (Pu.not rfl) ?_; refine dd [37] ?_; refine XD.nil ?_; refine X.part 42 rfl (fun h6 => ?_) (fun h6 => ?_)
 · replace h6 := sp h6
   refine xx 5 ?_; refine X.sb [2] ?_; refine X.retL (q) Tryz.func54 (res1 Tryz.results54 rfl) ⟨_, rfl, congrArg (Value.int _) (by unfold mchk; split <;> (rename_i hm; unfold mdlOk at hm; simp_all)), rfl⟩
 replace h6 := sp h6
 refine xx 6 ?_; refine X.sb [2] ?_; refine X.retL (q) Tryz.func54 (res1 Tryz.results54 rfl) ⟨_, rfl, congrArg (Value.int _) (by unfold mchk; split <;> (rename_i hm; unfold mdlOk at hm; simp_all)), rfl⟩
end
theorem Tryz.info3 : (Tryz.prog.info? 3).map (fun i => (i.zero, i.size, i.bytes)) = some (some (.int .i64 0), 1, 8) := by kernel_rfl
abbrev InsT := Int × Int × Int × Int
def effS (c : Int) : Int × Int :=
 if c ≤ 3 ∨ c = 30 then (0, 1) else if c = 4 ∨ c = 8 ∨ c = 9 ∨ c = 22 then (1, 1) else if 10 ≤ c ∧ c ≤ 18 then (2, 1) else if c = 7 then (2, 0) else if c = 5 ∨ c = 6 ∨ c = 20 ∨ c = 21 ∨ c = 29 ∨ c = 33 then (1, 0) else (0, 0)
theorem effS_nn (c : Int) : 0 ≤ (effS c).1 ∧ 0 ≤ (effS c).2 := by
 unfold effS
 split; · decide
 split; · decide
 split; · decide
 split; · decide
 split <;> decide
def nextS (i : InsT) (a : Nat) : List Int :=
 if i.1 = 34 then [] else if i.1 = 19 then [i.2.1] else if i.1 = 20 ∨ i.1 = 21 then if i.2.1 = a + 1 then [i.2.1] else [i.2.1, a + 1] else [(a : Int) + 1]
def zI : InsT := (0, 0, 0, 0)
def oneS (ins : List InsT) (a : Nat) (d : Int) : Int × Int :=
 let i := ins.getD a zI
 if d < (effS i.1).1 ∨ d - (effS i.1).1 + (effS i.1).2 > 25 then (0, 173)
 else if (i.1 = 23 ∨ i.1 = 34) ∧ d ≠ 0 then (0, 175)
 else if ∃ x ∈ nextS i a, (ins.length : Int) ≤ x then (0, 172) else (d - (effS i.1).1 + (effS i.1).2, 0)
def dAt (D : List Int) (i : Nat) : Int := D.getD i (-1)
def visitS (b : Int) : List Int → List Int → Option (List Int)
 | D, [] => some D
 | D, x :: r => if 0 ≤ dAt D x.toNat ∧ dAt D x.toNat ≠ b then none else visitS b (D.set x.toNat b) r
abbrev isOpen (D : List Int) (dn : List Bool) (i : Nat) : Prop := 0 ≤ dAt D i ∧ dn.getD i false = false
def leastS (D : List Int) (dn : List Bool) : Option Nat := (List.range D.length).find? fun i => decide (isOpen D dn i)
def thrS (ins : List InsT) : Nat → List Int → List Bool → List Int × Int
 | 0, D, _ => (D, 0)
 | k + 1, D, dn => match leastS D dn with
  | none => (D, 0)
  | some a => if (oneS ins a (dAt D a)).2 ≠ 0 then ([], (oneS ins a (dAt D a)).2) else match visitS (oneS ins a (dAt D a)).1 D (nextS (ins.getD a zI) a) with
   | none => ([], 174)
   | some D' => thrS ins k D' (dn.set a true)
theorem leastS_some {D : List Int} {dn : List Bool} {a : Nat} (h : leastS D dn = some a) : a < D.length ∧ isOpen D dn a ∧ ∀ j, j < a → ¬ isOpen D dn j := by
 unfold leastS at h
 have h1 := List.find?_some h
 have h2 := List.mem_of_find?_eq_some h
 refine ⟨by simpa using h2, of_decide_eq_true h1, fun j hj hop => ?_⟩
 obtain ⟨_, as1, bs1, e, hn⟩ := List.find?_eq_some_iff_append.1 h
 have hl : as1.length = a := by
  have h3 : (List.range D.length)[as1.length]? = some a := by rw [e]; simp
  have h4 : as1.length < D.length := by have := congrArg List.length e; simp at this; omega
  rw [List.getElem?_eq_getElem (by simpa using h4)] at h3
  simpa using h3
 have hm : j ∈ as1 := by
  have h3 : as1[j]? = some j := by
   have h5 : (List.range D.length)[j]? = as1[j]? := by rw [e, List.getElem?_append_left (by omega)]
   rw [← h5]
   have h4 : a < D.length := by simpa using h2
   rw [List.getElem?_eq_getElem (by simp; omega)]; simp
  exact List.mem_of_getElem? h3
 have := hn j hm
 rw [decide_eq_true hop] at this; cases this
theorem leastS_none {D : List Int} {dn : List Bool} (h : leastS D dn = none) : ∀ j, j < D.length → ¬ isOpen D dn j := by
 intro j hj hop
 have := List.find?_eq_none.1 h j (by simpa using hj)
 exact this (decide_eq_true hop)
theorem leastS_of {D : List Int} {dn : List Bool} {a : Nat} (h1 : a < D.length) (h2 : isOpen D dn a) (h3 : ∀ j, j < D.length → isOpen D dn j → a ≤ j) : leastS D dn = some a := by
 cases h : leastS D dn with
 | none => exact absurd h2 (leastS_none h a h1)
 | some b =>
  obtain ⟨k1, k2, k3⟩ := leastS_some h
  have := h3 b k1 k2
  rcases Nat.lt_or_ge a b with h4 | h4
  · exact absurd h2 (k3 a h4)
  rw [show b = a by omega]
theorem leastS_of_none {D : List Int} {dn : List Bool} (h : ∀ j, j < D.length → ¬ isOpen D dn j) : leastS D dn = none := by
 cases h1 : leastS D dn with
 | none => rfl
 | some b => obtain ⟨k1, k2, _⟩ := leastS_some h1; exact absurd k2 (h b k1)
theorem dAt_set {D : List Int} {i j : Nat} {b : Int} (hi : i < D.length) : dAt (D.set i b) j = if j = i then b else dAt D j := by
 unfold dAt
 simp only [List.getD_eq_getElem?_getD, List.getElem?_set]
 by_cases h : j = i
 · subst h; simp [hi]
 have h' : ¬ i = j := fun e => h e.symm
 simp [h, h']
theorem visitS_some {b : Int} (hb : 0 ≤ b) : ∀ {l D D' : List Int}, (∀ x ∈ l, 0 ≤ x ∧ x < (D.length : Int)) → visitS b D l = some D' → D'.length = D.length ∧ (∀ j, 0 ≤ dAt D j → dAt D' j = dAt D j) ∧ (∀ x ∈ l, dAt D' x.toNat = b) ∧ ∀ j, 0 ≤ dAt D' j → 0 ≤ dAt D j ∨ (j : Int) ∈ l
 | [], D, D', _, h => by cases h; exact ⟨rfl, fun _ _ => rfl, by simp, fun j h => .inl h⟩
 | x :: r, D, D', hx, h => by
  unfold visitS at h
  split at h
  · cases h
  rename_i hc
  obtain ⟨hx0, hx1⟩ := hx x (List.mem_cons_self ..)
  have hxl : x.toNat < D.length := by omega
  obtain ⟨k1, k2, k3, k4⟩ := visitS_some hb (l := r) (D := D.set x.toNat b) (fun y hy => by rw [List.length_set]; exact hx y (List.mem_cons_of_mem _ hy)) h
  have e := fun j => dAt_set (D := D) (i := x.toNat) (j := j) (b := b) hxl
  refine ⟨by rw [k1, List.length_set], fun j hj => ?_, fun y hy => ?_, fun j hj => ?_⟩
  · have h1 : 0 ≤ dAt (D.set x.toNat b) j := by rw [e]; split <;> omega
    rw [k2 j h1, e]
    split
    · rename_i e1
      subst e1
      rcases Decidable.em (dAt D x.toNat = b) with h2 | h2
      · exact h2.symm
      exact absurd ⟨hj, h2⟩ hc
    rfl
  · rcases List.mem_cons.1 hy with rfl | hy
    · have h1 : 0 ≤ dAt (D.set y.toNat b) y.toNat := by rw [e, if_pos rfl]; exact hb
      rw [k2 _ h1, e, if_pos rfl]
    exact k3 y hy
  rcases k4 j hj with h1 | h1
  · rw [e] at h1
    split at h1
    · rename_i e1; right; rw [e1]; simp; left; omega
    exact .inl h1
  exact .inr (List.mem_cons_of_mem _ h1)
def Goes (ins : List InsT) (D : List Int) (a : Nat) : Prop := (oneS ins a (dAt D a)).2 = 0 ∧ ∀ x ∈ nextS (ins.getD a zI) a, dAt D x.toNat = (oneS ins a (dAt D a)).1
theorem oneS_next {ins : List InsT} {a : Nat} {d : Int} (h : (oneS ins a d).2 = 0) : (∀ x ∈ nextS (ins.getD a zI) a, x < (ins.length : Int)) ∧ (0 ≤ d → 0 ≤ (oneS ins a d).1) ∧ ¬ d < (effS (ins.getD a zI).1).1 := by
 unfold oneS at h ⊢
 simp only at h ⊢
 split at h
 · cases h
 rename_i h1
 split at h
 · cases h
 rename_i h2
 split at h
 · cases h
 rename_i h3
 rw [if_neg h1, if_neg h2, if_neg h3]
 refine ⟨fun x hx => ?_, fun hd => ?_, fun h4 => h1 (.inl h4)⟩
 · rcases Int.lt_or_le x ins.length with h4 | h4
   · exact h4
   exact absurd ⟨x, hx, h4⟩ h3
 have := effS_nn (ins.getD a zI).1
 dsimp only; omega
theorem thrS_goes {ins : List InsT} (hA : ∀ i ∈ ins, (i.1 = 19 ∨ i.1 = 20 ∨ i.1 = 21) → 0 ≤ i.2.1) : ∀ (k : Nat) (D : List Int) (dn : List Bool), D.length = ins.length → dn.length = ins.length → (dn.filter (· == false)).length ≤ k →
 (∀ a, a < ins.length → dn.getD a false = true → 0 ≤ dAt D a ∧ Goes ins D a) → (thrS ins k D dn).2 = 0 → (thrS ins k D dn).1.length = ins.length ∧ (∀ a, 0 ≤ dAt D a → dAt (thrS ins k D dn).1 a = dAt D a) ∧ ∀ a, a < ins.length → 0 ≤ dAt (thrS ins k D dn).1 a → Goes ins (thrS ins k D dn).1 a := by
 have noF : ∀ dn : List Bool, (dn.filter (· == false)).length = 0 → ∀ a, a < dn.length → dn.getD a false = true := by
  intro dn h a ha
  have h1 := List.eq_nil_of_length_eq_zero h
  rw [List.filter_eq_nil_iff] at h1
  have := h1 dn[a] (List.getElem_mem ha)
  simp [List.getD, ha]
  simpa using this
 have cnt : ∀ (dn : List Bool) (a : Nat), a < dn.length → dn.getD a false = false → ((dn.set a true).filter (· == false)).length + 1 = (dn.filter (· == false)).length := by
  intro dn
  induction dn with
  | nil => intro a h; simp at h
  | cons x r ih =>
   intro a ha h
   cases a with
   | zero => simp at h; subst h; simp
   | succ a =>
    have := ih a (by simpa using ha) (by simpa using h)
    cases x
    · simp only [List.set_cons_succ, List.filter_cons, beq_self_eq_true, if_true, List.length_cons]; omega
    simpa using this
 intro k
 induction k with
 | zero =>
  intro D dn h1 h2 h3 h4 _
  refine ⟨h1, fun a _ => rfl, fun a ha _ => (h4 a ha (noF dn (by omega) a (by omega))).2⟩
 | succ k ih =>
  intro D dn h1 h2 h3 h4 h5
  unfold thrS at h5 ⊢
  split at h5
  · rename_i hn
    refine ⟨h1, fun a _ => rfl, fun a ha hd => ?_⟩
    have hno := leastS_none hn a (by omega)
    have : dn.getD a false = true := by
     cases hb : dn.getD a false with
     | true => rfl
     | false => exact absurd ⟨hd, hb⟩ hno
    exact (h4 a ha this).2
  rename_i a ha
  obtain ⟨k1, ⟨k2, k3⟩, _⟩ := leastS_some ha
  split at h5
  · rename_i h6; exact absurd h5 h6
  rename_i h6
  have h6' : (oneS ins a (dAt D a)).2 = 0 := by omega
  rw [if_neg h6]
  split at h5
  · cases h5
  rename_i D' hv
  obtain ⟨n1, n2, n3⟩ := oneS_next h6'
  have hx : ∀ x ∈ nextS (ins.getD a zI) a, 0 ≤ x ∧ x < (D.length : Int) := fun x hx => by
   refine ⟨?_, by rw [h1]; exact n1 x hx⟩
   unfold nextS at hx
   have hmem : ins.getD a zI ∈ ins := by
    have : ins.getD a zI = ins[a]'(by omega) := by simp [List.getD, show a < ins.length by omega]
    rw [this]; exact List.getElem_mem _
   have hAi := hA _ hmem
   split at hx
   · simp at hx
   split at hx
   · rename_i e; rw [List.mem_singleton.1 hx]; exact hAi (.inl e)
   split at hx
   · rename_i e
     have h7 := hAi (by omega)
     split at hx
     · rw [List.mem_singleton.1 hx]; exact h7
     rcases List.mem_cons.1 hx with rfl | hx
     · exact h7
     rw [List.mem_singleton.1 hx]; omega
   simp at hx; omega
  obtain ⟨v1, v2, v3, v4⟩ := visitS_some (n2 k2) hx hv
  have hal : a < ins.length := by omega
  obtain ⟨r1, r2, r3⟩ := ih D' (dn.set a true) (by omega) (by rw [List.length_set]; exact h2) (by have := cnt dn a (by omega) k3; omega) (fun b hb hdb => by
   have hbD : 0 ≤ dAt D b ∧ ((oneS ins b (dAt D b)).2 = 0 ∧ ∀ x ∈ nextS (ins.getD b zI) b, dAt D' x.toNat = (oneS ins b (dAt D b)).1) := by
    by_cases e : b = a
    · subst e; exact ⟨k2, h6', v3⟩
    have : dn.getD b false = true := by
     simp only [List.getD_eq_getElem?_getD, List.getElem?_set, show ¬ a = b from fun x => e x.symm, if_false] at hdb
     simpa [List.getD_eq_getElem?_getD] using hdb
    obtain ⟨g1, g2, g3⟩ := h4 b hb this
    refine ⟨g1, g2, fun x hx => ?_⟩
    have h8 := g3 x hx
    have h9 : 0 ≤ dAt D x.toNat := by rw [h8]; exact (oneS_next g2).2.1 g1
    rw [v2 _ h9]; exact h8
   obtain ⟨g1, g2, g3⟩ := hbD
   have e2 := v2 b g1
   refine ⟨by rw [e2]; exact g1, by rw [e2]; exact g2, fun x hx => by rw [e2]; exact g3 x hx⟩) h5
  refine ⟨r1, fun b hb => ?_, r3⟩
  have := v2 b hb
  rw [r2 b (by rw [this]; exact hb), this]
def Ins.t (i : Ins) : InsT := (i.c, i.a, i.b, i.n)
def efC (x : Int × Int) : List Value := [.int .i64 x.1, .int .i64 x.2]
def effL : List (Int × Int) := [(0, 0), (0, 1), (0, 1), (0, 1), (1, 1), (1, 0), (1, 0), (2, 0), (1, 1), (1, 1), (2, 1), (2, 1), (2, 1), (2, 1), (2, 1), (2, 1), (2, 1), (2, 1), (2, 1), (0, 0), (1, 0), (1, 0), (1, 1), (0, 0), (0, 0), (0, 0), (0, 0), (0, 0), (0, 0), (1, 0), (0, 1), (0, 0), (0, 0), (1, 0), (0, 0)]
theorem effL_at : ∀ k : Fin 35, 1 ≤ k.val → effL[k.val]'k.isLt = effS k.val := by decide
def GE (q : List HP) : Prop := Sees q (some ⟨0, 0, none⟩) (effL.flatMap efC)
theorem GE.le {q q' : List HP} (h : GE q') (k : Le q q') : GE q := Sees.le h k
section
variable {G : World} {q pre : List HP} {a b A : Option Addr} {c d C p p0 p1 p2 i : Nat} {lo hi n cd dep : Int} {fv : Value} {x y : Ins} {t : Cod} {m : Mdl} {at_ : Int}
set_option maxHeartbeats 1000000 in
theorem REffect_ok  : CallF Tryz.prog G 63 [.int .i64 cd] (q) (Ret fun v q' => v = (if 1 ≤ cd ∧ cd ≤ 34 then .tuple [.int .i64 (effS cd).1, .int .i64 (effS cd).2, .bool true].toArray else .tuple [.int .i64 0, .int .i64 0, .bool false].toArray) ∧ q' = q) := by
 refine CallF.of Tryz.func63 Tryz.ntmps63 rfl (fun F cs => ?_)
 refine xo 13 ?_; refine XO.sb [8, 4, 3, 2, 0] ?_
 apply XO.cutOr 3 11 8 rfl
 · intro g1 M1; have h1 := sp g1
   refine oo 3 ?_; exact XO.fin M1 ⟨orF g1, subB⟩
 · intro g1 M1; have h1 := sp g1
   refine oo 3 ?_; exact XO.fin M1 ⟨orT g1, subB⟩
 refine ox 2 ?_; refine X.part 5 rfl (fun h1 => ?_) (fun h1 => ?_)
 · replace h1 := sp h1
   refine xx 7 ?_; refine X.retL (q) Tryz.func63 (res3 Tryz.results63 rfl rfl rfl) ⟨_, rfl, by rw [if_neg (by omega)], rfl⟩
 replace h1 := sp h1
 refine xo 6 ?_; refine XO.sb [15, 4, 3, 2, 0] ?_
 apply XO.cutOr 3 18 15 rfl
 · intro g2 M2; have h2 := sp g2
   refine oo 3 ?_; exact XO.fin M2 ⟨orF g2, subB⟩
 · intro g2 M2; have h2 := sp g2
   refine oo 3 ?_; exact XO.fin M2 ⟨orT g2, subB⟩
 refine ox 2 ?_; refine X.part 12 rfl (fun h2 => ?_) (fun h2 => ?_)
 · replace h2 := sp h2
   refine xx 7 ?_; refine X.retL (q) Tryz.func63 (res3 Tryz.results63 rfl rfl rfl) ⟨_, rfl, by rw [if_pos (by omega)]; unfold effS; (repeat' split) <;> first | rfl | omega, rfl⟩
 replace h2 := sp h2
 refine xo 6 ?_; refine XO.sb [22, 4, 3, 2, 0] ?_
 apply XO.cutOr 3 25 22 rfl
 · intro g3 M3; have h3 := sp g3
   refine oo 3 ?_; exact XO.fin M3 ⟨orF g3, subB⟩
 · intro g3 M3; have h3 := sp g3
   refine oo 3 ?_; exact XO.fin M3 ⟨orT g3, subB⟩
 refine oo 1 ?_; refine XO.sb [26, 4, 3, 2, 0] ?_
 apply XO.cutOr 3 29 26 rfl
 · intro g3 M3; have h3 := sp g3
   refine oo 3 ?_; exact XO.fin M3 ⟨orF g3, subB⟩
 · intro g3 M3; have h3 := sp g3
   refine oo 3 ?_; exact XO.fin M3 ⟨orT g3, subB⟩
 refine oo 1 ?_; refine XO.sb [30, 4, 3, 2, 0] ?_
 apply XO.cutOr 3 33 30 rfl
 · intro g3 M3; have h3 := sp g3
   refine oo 3 ?_; exact XO.fin M3 ⟨orF g3, subB⟩
 · intro g3 M3; have h3 := sp g3
   refine oo 3 ?_; exact XO.fin M3 ⟨orT g3, subB⟩
 refine ox 2 ?_; refine X.sb [19, 4, 3, 2, 0] ?_; refine X.part 19 rfl (fun h3 => ?_) (fun h3 => ?_)
 · replace h3 := sp h3
   refine xx 7 ?_; refine X.retL (q) Tryz.func63 (res3 Tryz.results63 rfl rfl rfl) ⟨_, rfl, by rw [if_pos (by omega)]; unfold effS; (repeat' split) <;> first | rfl | omega, rfl⟩
 replace h3 := sp h3
 refine xo 6 ?_; refine XO.sb [37, 4, 3, 2, 0] ?_
 apply XO.cutAnd 3 40 37 rfl
 · intro g4 M4; have h4 := sp g4
   refine oo 3 ?_; exact XO.fin M4 ⟨andT g4, subB⟩
 · intro g4 M4; have h4 := sp g4
   refine oo 3 ?_; exact XO.fin M4 ⟨andF g4, subB⟩
 refine ox 2 ?_; refine X.part 34 rfl (fun h4 => ?_) (fun h4 => ?_)
 · replace h4 := sp h4
   refine xx 7 ?_; refine X.retL (q) Tryz.func63 (res3 Tryz.results63 rfl rfl rfl) ⟨_, rfl, by rw [if_pos (by omega)]; unfold effS; (repeat' split) <;> first | rfl | omega, rfl⟩
 replace h4 := sp h4
 refine xx 7 ?_; refine X.part 41 rfl (fun h5 => ?_) (fun h5 => ?_)
 · replace h5 := sp h5
   refine xx 7 ?_; refine X.retL (q) Tryz.func63 (res3 Tryz.results63 rfl rfl rfl) ⟨_, rfl, by rw [if_pos (by omega)]; unfold effS; (repeat' split) <;> first | rfl | omega, rfl⟩
 replace h5 := sp h5
 refine xo 6 ?_; refine XO.sb [47, 4, 3, 2, 0] ?_
 apply XO.cutOr 3 50 47 rfl
 · intro g6 M6; have h6 := sp g6
   refine oo 3 ?_; exact XO.fin M6 ⟨orF g6, subB⟩
 · intro g6 M6; have h6 := sp g6
   refine oo 3 ?_; exact XO.fin M6 ⟨orT g6, subB⟩
 refine oo 1 ?_; refine XO.sb [51, 4, 3, 2, 0] ?_
 apply XO.cutOr 3 54 51 rfl
 · intro g6 M6; have h6 := sp g6
   refine oo 3 ?_; exact XO.fin M6 ⟨orF g6, subB⟩
 · intro g6 M6; have h6 := sp g6
   refine oo 3 ?_; exact XO.fin M6 ⟨orT g6, subB⟩
 refine oo 1 ?_; refine XO.sb [55, 4, 3, 2, 0] ?_
 apply XO.cutOr 3 58 55 rfl
 · intro g6 M6; have h6 := sp g6
   refine oo 3 ?_; exact XO.fin M6 ⟨orF g6, subB⟩
 · intro g6 M6; have h6 := sp g6
   refine oo 3 ?_; exact XO.fin M6 ⟨orT g6, subB⟩
 refine oo 1 ?_; refine XO.sb [59, 4, 3, 2, 0] ?_
 apply XO.cutOr 3 62 59 rfl
 · intro g6 M6; have h6 := sp g6
   refine oo 3 ?_; exact XO.fin M6 ⟨orF g6, subB⟩
 · intro g6 M6; have h6 := sp g6
   refine oo 3 ?_; exact XO.fin M6 ⟨orT g6, subB⟩
 refine oo 1 ?_; refine XO.sb [63, 4, 3, 2, 0] ?_
 apply XO.cutOr 3 66 63 rfl
 · intro g6 M6; have h6 := sp g6
   refine oo 3 ?_; exact XO.fin M6 ⟨orF g6, subB⟩
 · intro g6 M6; have h6 := sp g6
   refine oo 3 ?_; exact XO.fin M6 ⟨orT g6, subB⟩
 refine ox 2 ?_; refine X.sb [44, 4, 3, 2] ?_; refine X.part 44 rfl (fun h6 => ?_) (fun h6 => ?_)
 · replace h6 := sp h6
   refine xx 7 ?_; refine X.retL (q) Tryz.func63 (res3 Tryz.results63 rfl rfl rfl) ⟨_, rfl, by rw [if_pos (by omega)]; unfold effS; (repeat' split) <;> first | rfl | omega, rfl⟩
 replace h6 := sp h6
 refine xx 9 ?_; refine X.retL (q) Tryz.func63 (res3 Tryz.results63 rfl rfl rfl) ⟨_, rfl, by rw [if_pos (by omega)]; unfold effS; (repeat' split) <;> first | rfl | omega, rfl⟩
def nxt (x : Ins) (at_ : Int) : List Int := if x.c = 34 then [] else if x.c = 19 then [x.a] else if x.c = 20 ∨ x.c = 21 then if x.a = at_ + 1 then [x.a] else [x.a, at_ + 1] else [at_ + 1]
theorem nxt_eq (x : Ins) (k : Nat) : nxt x k = nextS x.t k := rfl
def ivs (n : Int) : List Value := [.int .i64 n]
theorem behindF_ok {y : Nat} {J : Nat → HP} {Jf : HP → Prop} (hat : 0 ≤ at_ ∧ at_ ≤ 1000000000000)
 (hy : ∀ i (h : i < ((nxt x at_).map ivs).length), CallV Tryz.prog G (.func (.yield y) #[] #[]) ((nxt x at_).map ivs)[i] (J i :: [im p1 (.cells (insC x).toArray 65 (0, 0)), im p2 (.cells [.int .i64 at_].toArray 3 (0, 0))]) (Ret fun v q => (v = .bool true ∧ q = J (i + 1) :: [im p1 (.cells (insC x).toArray 65 (0, 0)), im p2 (.cells [.int .i64 at_].toArray 3 (0, 0))]) ∨ (v = .bool false ∧ ∃ A, Jf A ∧ q = A :: [im p1 (.cells (insC x).toArray 65 (0, 0)), im p2 (.cells [.int .i64 at_].toArray 3 (0, 0))]))) :
 CallF Tryz.prog G 138 [.func (.yield y) #[] #[], .pointer (some ⟨p1, 0, none⟩), .pointer (some ⟨p2, 0, none⟩)] (J 0 :: [im p1 (.cells (insC x).toArray 65 (0, 0)), im p2 (.cells [.int .i64 at_].toArray 3 (0, 0))]) (Ret fun _ q => q = J (nxt x at_).length :: [im p1 (.cells (insC x).toArray 65 (0, 0)), im p2 (.cells [.int .i64 at_].toArray 3 (0, 0))] ∨ ∃ A, Jf A ∧ q = A :: [im p1 (.cells (insC x).toArray 65 (0, 0)), im p2 (.cells [.int .i64 at_].toArray 3 (0, 0))]) := by
 refine CallF.of Tryz.func138 Tryz.ntmps138 rfl (fun F cs => ?_)
 refine xo 4 ?_; refine ld ?_; refine ox 7 ?_; refine X.part 6 rfl (fun h1 => ?_) (fun h1 => ?_)
 · replace h1 := sp h1; have hN : nxt x at_ = [] := by unfold nxt; rw [if_pos h1]
   refine xx 1 ?_; refine X.retL (J 0 :: [im p1 (.cells (insC x).toArray 65 (0, 0)), im p2 (.cells [.int .i64 at_].toArray 3 (0, 0))]) Tryz.func138 (res0 Tryz.results138) ⟨_, rfl, .inl (by rw [hN]; rfl)⟩
 replace h1 := sp h1
 refine xx 6 ?_; refine X.part 8 rfl (fun h2 => ?_) (fun h2 => ?_)
 · replace h2 := sp h2; have hN : nxt x at_ = [x.a] := by unfold nxt; rw [if_neg h1, if_pos h2]
   rw [hN] at hy; have Y0 := hy 0 (by simp)
   refine xo 5 ?_; refine ld ?_; refine XO.cV (Y0) ?_; rintro _ _ (⟨rfl, rfl⟩ | ⟨rfl, A, hA, rfl⟩) _ e_ <;> simp only [ca, na] at e_ <;> subst e_
   · refine ox 1 ?_; refine X.retL (J 1 :: [im p1 (.cells (insC x).toArray 65 (0, 0)), im p2 (.cells [.int .i64 at_].toArray 3 (0, 0))]) Tryz.func138 (res0 Tryz.results138) ⟨_, rfl, .inl (by rw [hN]; rfl)⟩
   refine ox 1 ?_; refine X.retL (A :: [im p1 (.cells (insC x).toArray 65 (0, 0)), im p2 (.cells [.int .i64 at_].toArray 3 (0, 0))]) Tryz.func138 (res0 Tryz.results138) ⟨_, rfl, .inr ⟨A, hA, rfl⟩⟩
 replace h2 := sp h2
 refine xx 7 ?_; refine X.part 14 rfl (fun h3 => ?_) (fun h3 => ?_)
 · replace h3 := sp h3
   refine xo 7 ?_; refine ld ?_
   have h3 : x.c = 20 ∨ x.c = 21 := .inl h3
   rcases Decidable.em (x.a = at_ + 1) with h5 | h5
   · have hN : nxt x at_ = [x.a] := by unfold nxt; rw [if_neg h1, if_neg h2, if_pos h3, if_pos h5]
     rw [hN] at hy; have Y0 := hy 0 (by simp)
     refine XO.cV (Y0) ?_; rintro _ _ (⟨rfl, rfl⟩ | ⟨rfl, A, hA, rfl⟩) _ e_ <;> simp only [ca, na] at e_ <;> subst e_
     · refine XO.pu (Pu.not rfl) ?_; refine oo 1 ?_; refine XO.kf 22 ?_; refine oo 1 ?_; refine ld ?_; refine ld ?_; refine ox 4 ?_; refine X.sb [28, 0, 2] ?_; refine X.know 28 (.bool true) rfl (congrArg Value.bool (by rw [beq_iff_eq]; exact h5)) ?_
       refine xx 1 ?_; refine X.retL (J 1 :: [im p1 (.cells (insC x).toArray 65 (0, 0)), im p2 (.cells [.int .i64 at_].toArray 3 (0, 0))]) Tryz.func138 (res0 Tryz.results138) ⟨_, rfl, .inl (by rw [hN]; rfl)⟩
     refine XO.pu (Pu.not rfl) ?_; refine oo 1 ?_; refine XO.kt 22 ?_; refine ox 8 ?_; refine X.sb [0, 2] ?_; refine X.retL (A :: [im p1 (.cells (insC x).toArray 65 (0, 0)), im p2 (.cells [.int .i64 at_].toArray 3 (0, 0))]) Tryz.func138 (res0 Tryz.results138) ⟨_, rfl, .inr ⟨A, hA, rfl⟩⟩
   have hN : nxt x at_ = [x.a, at_ + 1] := by unfold nxt; rw [if_neg h1, if_neg h2, if_pos h3, if_neg h5]
   rw [hN] at hy; have Y0 := hy 0 (by simp); have Y1 := hy 1 (by simp)
   refine XO.cV (Y0) ?_; rintro _ _ (⟨rfl, rfl⟩ | ⟨rfl, A, hA, rfl⟩) _ e_ <;> simp only [ca, na] at e_ <;> subst e_
   · refine XO.pu (Pu.not rfl) ?_; refine oo 1 ?_; refine XO.kf 22 ?_; refine oo 1 ?_; refine ld ?_; refine ld ?_; refine ox 4 ?_; refine X.sb [28, 0, 2] ?_; refine X.know 28 (.bool false) rfl (congrArg Value.bool (by rw [beq_eq_false_iff_ne]; exact h5)) ?_
     refine xo 5 ?_; refine ld ?_; refine oo 1 ?_; refine XO.cV (Y1) ?_; rintro _ _ (⟨rfl, rfl⟩ | ⟨rfl, A, hA, rfl⟩) _ e_ <;> simp only [ca, na] at e_ <;> subst e_
     · refine ox 1 ?_; refine X.fallL (J 2 :: [im p1 (.cells (insC x).toArray 65 (0, 0)), im p2 (.cells [.int .i64 at_].toArray 3 (0, 0))]) Tryz.func138 (res0 Tryz.results138) ⟨_, rfl, .inl (by rw [hN]; rfl)⟩
     refine ox 1 ?_; refine X.fallL (A :: [im p1 (.cells (insC x).toArray 65 (0, 0)), im p2 (.cells [.int .i64 at_].toArray 3 (0, 0))]) Tryz.func138 (res0 Tryz.results138) ⟨_, rfl, .inr ⟨A, hA, rfl⟩⟩
   refine XO.pu (Pu.not rfl) ?_; refine oo 1 ?_; refine XO.kt 22 ?_; refine ox 8 ?_; refine X.sb [0, 2] ?_; refine X.retL (A :: [im p1 (.cells (insC x).toArray 65 (0, 0)), im p2 (.cells [.int .i64 at_].toArray 3 (0, 0))]) Tryz.func138 (res0 Tryz.results138) ⟨_, rfl, .inr ⟨A, hA, rfl⟩⟩
 replace h3 := sp h3
 refine xx 5 ?_; refine X.part 14 rfl (fun h4 => ?_) (fun h4 => ?_)
 · replace h4 := sp h4
   have h3 : x.c = 20 ∨ x.c = 21 := .inr h4
   rcases Decidable.em (x.a = at_ + 1) with h5 | h5
   · have hN : nxt x at_ = [x.a] := by unfold nxt; rw [if_neg h1, if_neg h2, if_pos h3, if_pos h5]
     rw [hN] at hy; have Y0 := hy 0 (by simp)
     refine xo 5 ?_; refine ld ?_; refine XO.cV (Y0) ?_; rintro _ _ (⟨rfl, rfl⟩ | ⟨rfl, A, hA, rfl⟩) _ e_ <;> simp only [ca, na] at e_ <;> subst e_
     · refine XO.pu (Pu.not rfl) ?_; refine oo 1 ?_; refine XO.kf 22 ?_; refine oo 1 ?_; refine ld ?_; refine ld ?_; refine ox 4 ?_; refine X.sb [28, 0, 2] ?_; refine X.know 28 (.bool true) rfl (congrArg Value.bool (by rw [beq_iff_eq]; exact h5)) ?_
       refine xx 1 ?_; refine X.retL (J 1 :: [im p1 (.cells (insC x).toArray 65 (0, 0)), im p2 (.cells [.int .i64 at_].toArray 3 (0, 0))]) Tryz.func138 (res0 Tryz.results138) ⟨_, rfl, .inl (by rw [hN]; rfl)⟩
     refine XO.pu (Pu.not rfl) ?_; refine oo 1 ?_; refine XO.kt 22 ?_; refine ox 8 ?_; refine X.sb [0, 2] ?_; refine X.retL (A :: [im p1 (.cells (insC x).toArray 65 (0, 0)), im p2 (.cells [.int .i64 at_].toArray 3 (0, 0))]) Tryz.func138 (res0 Tryz.results138) ⟨_, rfl, .inr ⟨A, hA, rfl⟩⟩
   have hN : nxt x at_ = [x.a, at_ + 1] := by unfold nxt; rw [if_neg h1, if_neg h2, if_pos h3, if_neg h5]
   rw [hN] at hy; have Y0 := hy 0 (by simp); have Y1 := hy 1 (by simp)
   refine xo 5 ?_; refine ld ?_; refine XO.cV (Y0) ?_; rintro _ _ (⟨rfl, rfl⟩ | ⟨rfl, A, hA, rfl⟩) _ e_ <;> simp only [ca, na] at e_ <;> subst e_
   · refine XO.pu (Pu.not rfl) ?_; refine oo 1 ?_; refine XO.kf 22 ?_; refine oo 1 ?_; refine ld ?_; refine ld ?_; refine ox 4 ?_; refine X.sb [28, 0, 2] ?_; refine X.know 28 (.bool false) rfl (congrArg Value.bool (by rw [beq_eq_false_iff_ne]; exact h5)) ?_
     refine xo 5 ?_; refine ld ?_; refine oo 1 ?_; refine XO.cV (Y1) ?_; rintro _ _ (⟨rfl, rfl⟩ | ⟨rfl, A, hA, rfl⟩) _ e_ <;> simp only [ca, na] at e_ <;> subst e_
     · refine ox 1 ?_; refine X.fallL (J 2 :: [im p1 (.cells (insC x).toArray 65 (0, 0)), im p2 (.cells [.int .i64 at_].toArray 3 (0, 0))]) Tryz.func138 (res0 Tryz.results138) ⟨_, rfl, .inl (by rw [hN]; rfl)⟩
     refine ox 1 ?_; refine X.fallL (A :: [im p1 (.cells (insC x).toArray 65 (0, 0)), im p2 (.cells [.int .i64 at_].toArray 3 (0, 0))]) Tryz.func138 (res0 Tryz.results138) ⟨_, rfl, .inr ⟨A, hA, rfl⟩⟩
   refine XO.pu (Pu.not rfl) ?_; refine oo 1 ?_; refine XO.kt 22 ?_; refine ox 8 ?_; refine X.sb [0, 2] ?_; refine X.retL (A :: [im p1 (.cells (insC x).toArray 65 (0, 0)), im p2 (.cells [.int .i64 at_].toArray 3 (0, 0))]) Tryz.func138 (res0 Tryz.results138) ⟨_, rfl, .inr ⟨A, hA, rfl⟩⟩
 replace h4 := sp h4
 have hN : nxt x at_ = [at_ + 1] := by unfold nxt; rw [if_neg h1, if_neg h2, if_neg (by omega)]
 rw [hN] at hy; have Y0 := hy 0 (by simp)
 refine xo 5 ?_; refine ld ?_; refine oo 1 ?_; refine XO.cV (Y0) ?_; rintro _ _ (⟨rfl, rfl⟩ | ⟨rfl, A, hA, rfl⟩) _ e_ <;> simp only [ca, na] at e_ <;> subst e_
 · refine ox 1 ?_; refine X.sb [] ?_; refine X.fallL (J 1 :: [im p1 (.cells (insC x).toArray 65 (0, 0)), im p2 (.cells [.int .i64 at_].toArray 3 (0, 0))]) Tryz.func138 (res0 Tryz.results138) ⟨_, rfl, .inl (by rw [hN]; rfl)⟩
 refine ox 1 ?_; refine X.sb [] ?_; refine X.fallL (A :: [im p1 (.cells (insC x).toArray 65 (0, 0)), im p2 (.cells [.int .i64 at_].toArray 3 (0, 0))]) Tryz.func138 (res0 Tryz.results138) ⟨_, rfl, .inr ⟨A, hA, rfl⟩⟩
theorem behind_iter (hat : 0 ≤ at_ ∧ at_ ≤ 1000000000000) : Iter Tryz.prog G (.func (.func 138) [].toArray [.pointer (some ⟨p1, 0, none⟩), .pointer (some ⟨p2, 0, none⟩)].toArray) ((nxt x at_).map ivs) [im p1 (.cells (insC x).toArray 65 (0, 0)), im p2 (.cells [.int .i64 at_].toArray 3 (0, 0))] := by
 intro y J Jf hy
 rw [List.length_map]
 exact CallV.c12 Tryz.call138 (behindF_ok (G := G) (p1 := p1) (p2 := p2) (J := J) (Jf := Jf) hat hy)
theorem behind_ok  : CallF Tryz.prog G 92 [.agg (insC x).toArray, .int .i64 at_] ([]) (Ret fun v q' => ∃ p1 p2, v = .func (.func 138) [].toArray [.pointer (some ⟨p1, 0, none⟩), .pointer (some ⟨p2, 0, none⟩)].toArray ∧ q' = [pto p1 (.cells (insC x).toArray 65 (0, 0)), pto p2 (.cells [.int .i64 at_].toArray 3 (0, 0))]) := by
 refine CallF.of Tryz.func92 Tryz.ntmps92 rfl (fun F cs => ?_)
 refine xo 2 ?_; refine XO.bx fun n1 => ?_
 refine XO.bx fun n2 => ?_
 refine ox 7 ?_; refine X.retL [pto n1 (.cells (insC x).toArray 65 (0, 0)), pto n2 (.cells [.int .i64 at_].toArray 3 (0, 0))] Tryz.func92 (res1 Tryz.results92 rfl) ⟨_, rfl, n1, n2, rfl, rfl⟩
end
def cntOf (m : Mdl) (t : Cod) (c : Int) : Option Int :=
 if c = 2 ∨ c = 5 then some m.vars.length else if c = 3 ∨ c = 6 then some t.locals else if c = 4 ∨ c = 7 then some m.arrays.length else if c = 19 ∨ c = 20 ∨ c = 21 then some t.ins.length
 else if c = 24 ∨ c = 25 then some m.mutexes else if c = 26 ∨ c = 27 ∨ c = 28 then some m.conds else if c = 29 ∨ c = 30 then some m.chans.length else if c = 31 then some m.threads.length else none
def slotOk (m : Mdl) (t : Cod) (i : Ins) : Prop := (∀ n, cntOf m t i.c = some n → i.a < n) ∧ (i.c = 26 → i.b < m.mutexes)
instance (m : Mdl) (t : Cod) (i : Ins) : Decidable (slotOk m t i) := by
 unfold slotOk
 have : Decidable (∀ n, cntOf m t i.c = some n → i.a < n) := match cntOf m t i.c with
  | none => .isTrue (fun n h => by cases h)
  | some k => if h : i.a < k then .isTrue (fun n e => by cases e; exact h) else .isFalse (fun e => h (e k rfl))
 infer_instance
def cntL : List (Int × Value × Nat) := [(2, .func (.func 171) #[] #[], 0), (5, .func (.func 171) #[] #[], 1), (3, .func (.func 172) #[] #[], 2), (6, .func (.func 172) #[] #[], 3), (4, .func (.func 173) #[] #[], 4), (7, .func (.func 173) #[] #[], 5), (19, .func (.func 174) #[] #[], 6), (20, .func (.func 174) #[] #[], 7), (21, .func (.func 174) #[] #[], 8), (24, .func (.func 175) #[] #[], 9), (25, .func (.func 175) #[] #[], 10), (26, .func (.func 176) #[] #[], 11), (27, .func (.func 176) #[] #[], 12), (28, .func (.func 176) #[] #[], 13), (29, .func (.func 177) #[] #[], 14), (30, .func (.func 177) #[] #[], 15), (31, .func (.func 178) #[] #[], 16)]
def cntE (e : Int × Value × Nat) : MapEntry := { key := .int .i64 e.1, val := e.2.1, born := e.2.2 }
theorem cnt_none {m : Mdl} {t : Cod} {c : Int} (h : ∀ e ∈ cntL, e.1 ≠ c) : cntOf m t c = none := by
 simp only [cntL, List.mem_cons, forall_eq_or_imp, List.not_mem_nil, false_imp_iff, implies_true, and_true] at h
 unfold cntOf
 (repeat' split) <;> first | rfl | omega
section
variable {G : World} {q pre : List HP} {a b A : Option Addr} {c d C p p0 p1 p2 i : Nat} {lo hi n cd dep : Int} {fv : Value} {x y : Ins} {t : Cod} {m : Mdl} {at_ : Int}
variable {pm om pt ot : Nat}
theorem cnt1_ok (hm : CellsAt q pm om (mdlC m)) (ht : CellsAt q pt ot (codC t)) : CallF Tryz.prog G 171 [.pointer (some ⟨pm, om, none⟩), .pointer (some ⟨pt, ot, none⟩)] (q) (Ret fun v q' => v = .int .i64 (m.vars.length : Int) ∧ q' = q) := by
 refine CallF.of Tryz.func171 Tryz.ntmps171 rfl (fun F cs => ?_)
 refine xo 9 ?_; refine ld ?_ (hc := ((hm 0 _ rfl).le leA))
 refine ox 3 ?_; refine X.retL (q) Tryz.func171 (res1 Tryz.results171 rfl) ⟨_, rfl, rfl, rfl⟩
theorem cnt2_ok (hm : CellsAt q pm om (mdlC m)) (ht : CellsAt q pt ot (codC t)) : CallF Tryz.prog G 172 [.pointer (some ⟨pm, om, none⟩), .pointer (some ⟨pt, ot, none⟩)] (q) (Ret fun v q' => v = .int .i64 t.locals ∧ q' = q) := by
 refine CallF.of Tryz.func172 Tryz.ntmps172 rfl (fun F cs => ?_)
 refine xo 9 ?_; refine ld ?_ (hc := ((ht 1 _ rfl).le leA))
 refine ox 2 ?_; refine X.retL (q) Tryz.func172 (res1 Tryz.results172 rfl) ⟨_, rfl, rfl, rfl⟩
theorem cnt3_ok (hm : CellsAt q pm om (mdlC m)) (ht : CellsAt q pt ot (codC t)) : CallF Tryz.prog G 173 [.pointer (some ⟨pm, om, none⟩), .pointer (some ⟨pt, ot, none⟩)] (q) (Ret fun v q' => v = .int .i64 (m.arrays.length : Int) ∧ q' = q) := by
 refine CallF.of Tryz.func173 Tryz.ntmps173 rfl (fun F cs => ?_)
 refine xo 9 ?_; refine ld ?_ (hc := ((hm 1 _ rfl).le leA))
 refine ox 3 ?_; refine X.retL (q) Tryz.func173 (res1 Tryz.results173 rfl) ⟨_, rfl, rfl, rfl⟩
theorem cnt4_ok (hm : CellsAt q pm om (mdlC m)) (ht : CellsAt q pt ot (codC t)) : CallF Tryz.prog G 174 [.pointer (some ⟨pm, om, none⟩), .pointer (some ⟨pt, ot, none⟩)] (q) (Ret fun v q' => v = .int .i64 (t.ins.length : Int) ∧ q' = q) := by
 refine CallF.of Tryz.func174 Tryz.ntmps174 rfl (fun F cs => ?_)
 refine xo 9 ?_; refine ld ?_ (hc := ((ht 2 _ rfl).le leA))
 refine ox 3 ?_; refine X.retL (q) Tryz.func174 (res1 Tryz.results174 rfl) ⟨_, rfl, rfl, rfl⟩
theorem cnt5_ok (hm : CellsAt q pm om (mdlC m)) (ht : CellsAt q pt ot (codC t)) : CallF Tryz.prog G 175 [.pointer (some ⟨pm, om, none⟩), .pointer (some ⟨pt, ot, none⟩)] (q) (Ret fun v q' => v = .int .i64 m.mutexes ∧ q' = q) := by
 refine CallF.of Tryz.func175 Tryz.ntmps175 rfl (fun F cs => ?_)
 refine xo 9 ?_; refine ld ?_ (hc := ((hm 3 _ rfl).le leA))
 refine ox 2 ?_; refine X.retL (q) Tryz.func175 (res1 Tryz.results175 rfl) ⟨_, rfl, rfl, rfl⟩
theorem cnt6_ok (hm : CellsAt q pm om (mdlC m)) (ht : CellsAt q pt ot (codC t)) : CallF Tryz.prog G 176 [.pointer (some ⟨pm, om, none⟩), .pointer (some ⟨pt, ot, none⟩)] (q) (Ret fun v q' => v = .int .i64 m.conds ∧ q' = q) := by
 refine CallF.of Tryz.func176 Tryz.ntmps176 rfl (fun F cs => ?_)
 refine xo 9 ?_; refine ld ?_ (hc := ((hm 4 _ rfl).le leA))
 refine ox 2 ?_; refine X.retL (q) Tryz.func176 (res1 Tryz.results176 rfl) ⟨_, rfl, rfl, rfl⟩
theorem cnt7_ok (hm : CellsAt q pm om (mdlC m)) (ht : CellsAt q pt ot (codC t)) : CallF Tryz.prog G 177 [.pointer (some ⟨pm, om, none⟩), .pointer (some ⟨pt, ot, none⟩)] (q) (Ret fun v q' => v = .int .i64 (m.chans.length : Int) ∧ q' = q) := by
 refine CallF.of Tryz.func177 Tryz.ntmps177 rfl (fun F cs => ?_)
 refine xo 9 ?_; refine ld ?_ (hc := ((hm 2 _ rfl).le leA))
 refine ox 3 ?_; refine X.retL (q) Tryz.func177 (res1 Tryz.results177 rfl) ⟨_, rfl, rfl, rfl⟩
theorem cnt8_ok (hm : CellsAt q pm om (mdlC m)) (ht : CellsAt q pt ot (codC t)) : CallF Tryz.prog G 178 [.pointer (some ⟨pm, om, none⟩), .pointer (some ⟨pt, ot, none⟩)] (q) (Ret fun v q' => v = .int .i64 (m.threads.length : Int) ∧ q' = q) := by
 refine CallF.of Tryz.func178 Tryz.ntmps178 rfl (fun F cs => ?_)
 refine xo 9 ?_; refine ld ?_ (hc := ((hm 5 _ rfl).le leA))
 refine ox 3 ?_; refine X.retL (q) Tryz.func178 (res1 Tryz.results178 rfl) ⟨_, rfl, rfl, rfl⟩
theorem cnt_mem {e : Int × Value × Nat} (h : e ∈ cntL) : ∃ (f : Nat) (n : Int), e.2.1 = .func (.func f) #[] #[] ∧ cntOf m t e.1 = some n ∧ (CellsAt q pm om (mdlC m) → CellsAt q pt ot (codC t) → CallV Tryz.prog G (.func (.func f) #[] #[]) [.pointer (some ⟨pm, om, none⟩), .pointer (some ⟨pt, ot, none⟩)] q (Ret fun v q' => v = .int .i64 n ∧ q' = q)) := by
 simp only [cntL, List.mem_cons, List.not_mem_nil, or_false] at h
 rcases h with rfl | rfl | rfl | rfl | rfl | rfl | rfl | rfl | rfl | rfl | rfl | rfl | rfl | rfl | rfl | rfl | rfl
 · exact ⟨171, (m.vars.length : Int), rfl, by simp [cntOf], fun h1 h2 => CallV.c20 Tryz.call171 (cnt1_ok h1 h2)⟩
 · exact ⟨171, (m.vars.length : Int), rfl, by simp [cntOf], fun h1 h2 => CallV.c20 Tryz.call171 (cnt1_ok h1 h2)⟩
 · exact ⟨172, t.locals, rfl, by simp [cntOf], fun h1 h2 => CallV.c20 Tryz.call172 (cnt2_ok h1 h2)⟩
 · exact ⟨172, t.locals, rfl, by simp [cntOf], fun h1 h2 => CallV.c20 Tryz.call172 (cnt2_ok h1 h2)⟩
 · exact ⟨173, (m.arrays.length : Int), rfl, by simp [cntOf], fun h1 h2 => CallV.c20 Tryz.call173 (cnt3_ok h1 h2)⟩
 · exact ⟨173, (m.arrays.length : Int), rfl, by simp [cntOf], fun h1 h2 => CallV.c20 Tryz.call173 (cnt3_ok h1 h2)⟩
 · exact ⟨174, (t.ins.length : Int), rfl, by simp [cntOf], fun h1 h2 => CallV.c20 Tryz.call174 (cnt4_ok h1 h2)⟩
 · exact ⟨174, (t.ins.length : Int), rfl, by simp [cntOf], fun h1 h2 => CallV.c20 Tryz.call174 (cnt4_ok h1 h2)⟩
 · exact ⟨174, (t.ins.length : Int), rfl, by simp [cntOf], fun h1 h2 => CallV.c20 Tryz.call174 (cnt4_ok h1 h2)⟩
 · exact ⟨175, m.mutexes, rfl, by simp [cntOf], fun h1 h2 => CallV.c20 Tryz.call175 (cnt5_ok h1 h2)⟩
 · exact ⟨175, m.mutexes, rfl, by simp [cntOf], fun h1 h2 => CallV.c20 Tryz.call175 (cnt5_ok h1 h2)⟩
 · exact ⟨176, m.conds, rfl, by simp [cntOf], fun h1 h2 => CallV.c20 Tryz.call176 (cnt6_ok h1 h2)⟩
 · exact ⟨176, m.conds, rfl, by simp [cntOf], fun h1 h2 => CallV.c20 Tryz.call176 (cnt6_ok h1 h2)⟩
 · exact ⟨176, m.conds, rfl, by simp [cntOf], fun h1 h2 => CallV.c20 Tryz.call176 (cnt6_ok h1 h2)⟩
 · exact ⟨177, (m.chans.length : Int), rfl, by simp [cntOf], fun h1 h2 => CallV.c20 Tryz.call177 (cnt7_ok h1 h2)⟩
 · exact ⟨177, (m.chans.length : Int), rfl, by simp [cntOf], fun h1 h2 => CallV.c20 Tryz.call177 (cnt7_ok h1 h2)⟩
 exact ⟨178, (m.threads.length : Int), rfl, by simp [cntOf], fun h1 h2 => CallV.c20 Tryz.call178 (cnt8_ok h1 h2)⟩
set_option maxHeartbeats 1000000 in
theorem counts_ok  : CallF Tryz.prog G 136 [] ([]) (Ret fun v q' => ∃ n, v = .map (some n) ∧ q' = [pto n (.map (cntL.map cntE).toArray 17)]) := by
 refine CallF.of Tryz.func136 Tryz.ntmps136 rfl (fun F cs => ?_)
 refine xo 38 ?_; refine XO.ef (Ef.makeMap) ?_; rintro _ _ ⟨n1, rfl, rfl⟩
 refine oo 1 ?_; refine XO.ef0 (Ef.insert (es := []) Tryz.underlying239 Tryz.underlying63 rfl rfl rfl fndA (by rfl)) ?_
 rintro _ _ ⟨rfl, rfl⟩
 refine oo 1 ?_; refine XO.ef0 (Ef.insert (es := ((cntL.take 1).map cntE)) Tryz.underlying239 Tryz.underlying63 rfl rfl rfl fndA (by rfl)) ?_
 rintro _ _ ⟨rfl, rfl⟩
 refine oo 1 ?_; refine XO.ef0 (Ef.insert (es := ((cntL.take 2).map cntE)) Tryz.underlying239 Tryz.underlying63 rfl rfl rfl fndA (by rfl)) ?_
 rintro _ _ ⟨rfl, rfl⟩
 refine oo 1 ?_; refine XO.ef0 (Ef.insert (es := ((cntL.take 3).map cntE)) Tryz.underlying239 Tryz.underlying63 rfl rfl rfl fndA (by rfl)) ?_
 rintro _ _ ⟨rfl, rfl⟩
 refine oo 1 ?_; refine XO.ef0 (Ef.insert (es := ((cntL.take 4).map cntE)) Tryz.underlying239 Tryz.underlying63 rfl rfl rfl fndA (by rfl)) ?_
 rintro _ _ ⟨rfl, rfl⟩
 refine oo 1 ?_; refine XO.ef0 (Ef.insert (es := ((cntL.take 5).map cntE)) Tryz.underlying239 Tryz.underlying63 rfl rfl rfl fndA (by rfl)) ?_
 rintro _ _ ⟨rfl, rfl⟩
 refine oo 1 ?_; refine XO.ef0 (Ef.insert (es := ((cntL.take 6).map cntE)) Tryz.underlying239 Tryz.underlying63 rfl rfl rfl fndA (by rfl)) ?_
 rintro _ _ ⟨rfl, rfl⟩
 refine oo 1 ?_; refine XO.ef0 (Ef.insert (es := ((cntL.take 7).map cntE)) Tryz.underlying239 Tryz.underlying63 rfl rfl rfl fndA (by rfl)) ?_
 rintro _ _ ⟨rfl, rfl⟩
 refine oo 1 ?_; refine XO.ef0 (Ef.insert (es := ((cntL.take 8).map cntE)) Tryz.underlying239 Tryz.underlying63 rfl rfl rfl fndA (by rfl)) ?_
 rintro _ _ ⟨rfl, rfl⟩
 refine oo 1 ?_; refine XO.ef0 (Ef.insert (es := ((cntL.take 9).map cntE)) Tryz.underlying239 Tryz.underlying63 rfl rfl rfl fndA (by rfl)) ?_
 rintro _ _ ⟨rfl, rfl⟩
 refine oo 1 ?_; refine XO.ef0 (Ef.insert (es := ((cntL.take 10).map cntE)) Tryz.underlying239 Tryz.underlying63 rfl rfl rfl fndA (by rfl)) ?_
 rintro _ _ ⟨rfl, rfl⟩
 refine oo 1 ?_; refine XO.ef0 (Ef.insert (es := ((cntL.take 11).map cntE)) Tryz.underlying239 Tryz.underlying63 rfl rfl rfl fndA (by rfl)) ?_
 rintro _ _ ⟨rfl, rfl⟩
 refine oo 1 ?_; refine XO.ef0 (Ef.insert (es := ((cntL.take 12).map cntE)) Tryz.underlying239 Tryz.underlying63 rfl rfl rfl fndA (by rfl)) ?_
 rintro _ _ ⟨rfl, rfl⟩
 refine oo 1 ?_; refine XO.ef0 (Ef.insert (es := ((cntL.take 13).map cntE)) Tryz.underlying239 Tryz.underlying63 rfl rfl rfl fndA (by rfl)) ?_
 rintro _ _ ⟨rfl, rfl⟩
 refine oo 1 ?_; refine XO.ef0 (Ef.insert (es := ((cntL.take 14).map cntE)) Tryz.underlying239 Tryz.underlying63 rfl rfl rfl fndA (by rfl)) ?_
 rintro _ _ ⟨rfl, rfl⟩
 refine oo 1 ?_; refine XO.ef0 (Ef.insert (es := ((cntL.take 15).map cntE)) Tryz.underlying239 Tryz.underlying63 rfl rfl rfl fndA (by rfl)) ?_
 rintro _ _ ⟨rfl, rfl⟩
 refine oo 1 ?_; refine XO.ef0 (Ef.insert (es := ((cntL.take 16).map cntE)) Tryz.underlying239 Tryz.underlying63 rfl rfl rfl fndA (by rfl)) ?_
 rintro _ _ ⟨rfl, rfl⟩
 refine ox 3 ?_; refine X.sb [0] ?_; refine X.retL [pto n1 (.map (cntL.map cntE).toArray 17)] Tryz.func136 (res1 Tryz.results136 rfl) ⟨_, rfl, n1, rfl, rfl⟩
theorem cnt_call {e : Int × Value × Nat} {f : Nat} {n : Int} (h : e ∈ cntL) (h1 : e.2.1 = .func (.func f) #[] #[]) (h2 : cntOf m t e.1 = some n) (h3 : CellsAt q pm om (mdlC m)) (h4 : CellsAt q pt ot (codC t)) : CallV Tryz.prog G (.func (.func f) #[] #[]) [.pointer (some ⟨pm, om, none⟩), .pointer (some ⟨pt, ot, none⟩)] q (Ret fun v q' => v = .int .i64 n ∧ q' = q) := by
 obtain ⟨f', n', k1, k2, k3⟩ := cnt_mem (G := G) (q := q) (m := m) (t := t) (pm := pm) (om := om) (pt := pt) (ot := ot) h
 rw [h2] at k2; obtain rfl := Option.some.inj k2
 have e1 := h1.symm.trans k1
 cases e1; exact k3 h3 h4
set_option maxHeartbeats 2000000 in
theorem namesMay_ok (hm : CellsAt q pm om (mdlC m)) (ht : CellsAt q pt ot (codC t)) (hq : CodQ q t) : CallF Tryz.prog G 88 [.pointer (some ⟨pm, om, none⟩), .pointer (some ⟨pt, ot, none⟩)] (q) (Ret fun v q' => v = .bool (decide (∀ x ∈ t.ins, slotOk m t x)) ∧ q' = q) := by
 refine CallF.of Tryz.func88 Tryz.ntmps88 rfl (fun F cs => ?_)
 have hs := hq.i; have hni := hq.ni; have hlen := flatMap_len (f := insC) (sz := 4) (fun _ => rfl) t.ins
 refine xo 6 ?_; refine XO.cF Tryz.call136 (counts_ok) ?_; rintro _ _ ⟨nm, rfl, rfl⟩ _ e_; simp only [ca, na] at e_; subst e_
 refine oo 8 ?_; refine ld ?_ (hc := ((ht 2 _ rfl).le leA))
 refine ox 4 ?_; refine X.at (X.loop (fun (s : Nat × Option Addr) => s.1 ≤ t.ins.length ∧ s.2 = t.ia ∧ ∀ i (h : i < t.ins.length), i < s.1 → slotOk m t t.ins[i]) (fun s => [(15, .int .i64 (s.1 : Int)), (13, .slice s.2 t.ins.length t.ic), (14, .int .i64 (t.ins.length : Int)), (0, .pointer (some ⟨pm, om, none⟩)), (1, .pointer (some ⟨pt, ot, none⟩)), (5, .map (some nm))]) (fun s => pto nm (.map (cntL.map cntE).toArray 17) :: (q ++ F)) (fun s => t.ins.length - s.1) (fun s hi_ ih => ?_) (0, t.ia) ⟨by dsimp only; omega, rfl, fun i _ k => by dsimp only at k; omega⟩) subA leA
 try dsimp only at hi_ ih ⊢
 obtain ⟨hi1, hia, hi2⟩ := hi_
 obtain ⟨s, ia⟩ := s; dsimp only at *
 refine xx 5 ?_; refine X.part 16 rfl (fun h0 => ?_) (fun h0 => ?_)
 · replace h0 := sp h0; have hi0 : s < t.ins.length := (by omega)
   refine X.adr hs (by rw [hlen]; omega) (fun b1 o1 eA => ?_)
   have hsA := hs; rw [eA] at hsA; obtain rfl : ia = some ⟨b1, o1, none⟩ := hia.trans eA
   refine xo 7 ?_; refine XO.ldS (n := s) Tryz.isAgg65 Tryz.sizeOf65 hsA hi0 ?_
   refine XO.al Tryz.zeroValue65 fun n1 => ?_
   refine stA ?_; refine oo 6 ?_; refine ld ?_; obtain ⟨aF, hF, hA⟩ := findNow_int (kd := .i64) (c := t.ins[s].c) cntL 0
   refine XO.rd (Rd.lookup (es := cntL.map cntE) (clock := 17) Tryz.underlying239 Tryz.underlying63 rfl rfl fndA Tryz.zeroValue241 hF) ?_
   rcases hA with ⟨rfl, hno⟩ | ⟨jF, eF, rfl, hmem, hec⟩
   · have hcn := cnt_none (m := m) (t := t) hno
     refine XO.know 22 (.nilFunc) rfl (rfl) ?_; refine ox 3 ?_; refine drw ?_; refine dd [0] ?_; refine XD.pu 1 rfl (Pu.neqFNil0 rfl Tryz.underlying241) ?_; refine dd [2, 3, 4, 5, 6, 7, 8, 9, 10] ?_; refine XD.nil ?_; refine xx 3 ?_; refine X.sb [7, 15, 13, 14, 0, 1, 5] ?_; refine drw ?_; refine dd [0] ?_; refine ldD 1 ?_; refine dd [2, 3] ?_; refine XD.part 37 rfl (fun h1 => ?_) (fun h1 => ?_)
     · replace h1 := sp h1
       refine dd [4] ?_; refine ldD 5 ?_; refine dd [6, 7, 8] ?_; refine ldD 9 ?_ (hc := ((hm 3 _ rfl).le leA))
       refine dd [10, 11] ?_; refine XD.nil ?_; refine X.part 45 rfl (fun h2 => ?_) (fun h2 => ?_)
       · replace h2 := sp h2
         refine xx 5 ?_; refine X.retL (q) Tryz.func88 (res1 Tryz.results88 rfl) ⟨_, rfl, congrArg Value.bool (by symm; rw [decide_eq_false_iff_not]; intro ka; have kk := ka _ (List.getElem_mem hi0); first | (have := kk.2 (by omega); omega) | (have := kk.1 _ hf2; omega)), rfl⟩
       replace h2 := sp h2
       refine xx 7 ?_
       have hsl : slotOk m t t.ins[s] := ⟨(fun n e => by rw [hcn] at e; cases e), fun e => by omega⟩
       refine X.at (ih (s + 1, some ⟨b1, o1, none⟩) ⟨by dsimp only; omega, eA.symm, fun i hh k => by rcases Nat.lt_or_ge i s with e | e; exact hi2 i hh e; obtain rfl : i = s := (by dsimp only at k; omega); exact hsl⟩ (by dsimp only; omega)) subA leA
     replace h1 := sp h1
     refine dd [4, 5, 6, 7, 8, 9, 10, 11] ?_; refine XD.nil ?_; refine xx 7 ?_
     have hsl : slotOk m t t.ins[s] := ⟨(fun n e => by rw [hcn] at e; cases e), fun e => by omega⟩
     refine X.at (ih (s + 1, some ⟨b1, o1, none⟩) ⟨by dsimp only; omega, eA.symm, fun i hh k => by rcases Nat.lt_or_ge i s with e | e; exact hi2 i hh e; obtain rfl : i = s := (by dsimp only at k; omega); exact hsl⟩ (by dsimp only; omega)) subA leA
   obtain ⟨fF, nF, hf1, hf2, hf3⟩ := cnt_mem (G := G) (m := m) (t := t) (q := q) (pm := pm) (om := om) (pt := pt) (ot := ot) hmem; rw [hec] at hf2
   refine XO.know 22 (.func (.func fF) #[] #[]) rfl (by exact hf1) ?_
   refine ox 3 ?_; refine drw ?_; refine dd [0] ?_; refine XD.pu 1 rfl (Pu.neqFNil rfl Tryz.underlying241) ?_; refine dd [2, 3] ?_; refine ldD 4 ?_; refine dd [5, 6, 7] ?_; refine XD.cRV 8 ((cnt_call hmem hf1 (hec ▸ hf2)) (hm.le leA) (ht.le leA)) ?_; refine dd [9, 10] ?_; refine XD.nil ?_; refine X.part 33 rfl (fun h1 => ?_) (fun h1 => ?_)
   · replace h1 := sp h1
     refine xx 5 ?_; refine X.sb [4, 7, 15, 13, 14, 0, 1, 5] ?_; refine X.retL (q) Tryz.func88 (res1 Tryz.results88 rfl) ⟨_, rfl, congrArg Value.bool (by symm; rw [decide_eq_false_iff_not]; intro ka; have kk := ka _ (List.getElem_mem hi0); first | (have := kk.2 (by omega); omega) | (have := kk.1 _ hf2; omega)), rfl⟩
   replace h1 := sp h1
   refine xx 3 ?_; refine X.sb [7, 15, 13, 14, 0, 1, 5] ?_; refine drw ?_; refine dd [0] ?_; refine ldD 1 ?_; refine dd [2, 3] ?_; refine XD.part 37 rfl (fun h2 => ?_) (fun h2 => ?_)
   · replace h2 := sp h2
     refine dd [4] ?_; refine ldD 5 ?_; refine dd [6, 7, 8] ?_; refine ldD 9 ?_ (hc := ((hm 3 _ rfl).le leA))
     refine dd [10, 11] ?_; refine XD.nil ?_; refine X.part 45 rfl (fun h3 => ?_) (fun h3 => ?_)
     · replace h3 := sp h3
       refine xx 5 ?_; refine X.retL (q) Tryz.func88 (res1 Tryz.results88 rfl) ⟨_, rfl, congrArg Value.bool (by symm; rw [decide_eq_false_iff_not]; intro ka; have kk := ka _ (List.getElem_mem hi0); first | (have := kk.2 (by omega); omega) | (have := kk.1 _ hf2; omega)), rfl⟩
     replace h3 := sp h3
     refine xx 7 ?_
     have hsl : slotOk m t t.ins[s] := ⟨(fun n e => by rw [hf2] at e; cases e; omega), fun e => by omega⟩
     refine X.at (ih (s + 1, some ⟨b1, o1, none⟩) ⟨by dsimp only; omega, eA.symm, fun i hh k => by rcases Nat.lt_or_ge i s with e | e; exact hi2 i hh e; obtain rfl : i = s := (by dsimp only at k; omega); exact hsl⟩ (by dsimp only; omega)) subA leA
   replace h2 := sp h2
   refine dd [4, 5, 6, 7, 8, 9, 10, 11] ?_; refine XD.nil ?_; refine xx 7 ?_
   have hsl : slotOk m t t.ins[s] := ⟨(fun n e => by rw [hf2] at e; cases e; omega), fun e => by omega⟩
   refine X.at (ih (s + 1, some ⟨b1, o1, none⟩) ⟨by dsimp only; omega, eA.symm, fun i hh k => by rcases Nat.lt_or_ge i s with e | e; exact hi2 i hh e; obtain rfl : i = s := (by dsimp only at k; omega); exact hsl⟩ (by dsimp only; omega)) subA leA
 replace h0 := sp h0
 refine xx 6 ?_; refine X.retL (q) Tryz.func88 (res1 Tryz.results88 rfl) ⟨_, rfl, congrArg Value.bool (by symm; rw [decide_eq_true_iff]; intro x hx; obtain ⟨k, hk, rfl⟩ := List.getElem_of_mem hx; exact hi2 k hk (by omega)), rfl⟩
end
end Go.Proofs.YtbeeplmgcdnadaaGreatDoor
