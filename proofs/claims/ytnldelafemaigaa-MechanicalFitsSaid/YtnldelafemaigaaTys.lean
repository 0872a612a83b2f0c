/- The types of the program, as the engine reads them: written by a program (tys.py) out of the translation; each row is checked by the kernel. -/
import Derived.Test.YtnldelafemaigaaProg
import Derived.Test.YtnldelafemaigaaEngOps
import Derived.KernelRfl
namespace Go.Proofs.Ytnldelafemaigaa
namespace Eng

def ty3 : TI := ⟨.int .i64, false, 1, 8, .int .i64 0⟩
def ty4 : TI := ⟨.bool, false, 1, 1, .bool false⟩
def ty9 : TI := ⟨.str, false, 1, 16, .string ByteArray.empty⟩
def ty5 : TI := ⟨.int .u8, false, 1, 1, .int .u8 0⟩
def ty2 : TI := ⟨.int .i64, false, 1, 8, .int .i64 0⟩
def ty6 : TI := ⟨.int .u8, false, 1, 1, .int .u8 0⟩
def ty7 : TI := ⟨.struct [(0, 2), (1, 3), (2, 4), (3, 6)], true, 4, 24, .agg #[.int .i64 0, .int .i64 0, .bool false, .int .u8 0]⟩
def ty8 : TI := ⟨.struct [(0, 2), (1, 3), (2, 4), (3, 6)], true, 4, 24, .agg #[.int .i64 0, .int .i64 0, .bool false, .int .u8 0]⟩
def ty10 : TI := ⟨.str, false, 1, 16, .string ByteArray.empty⟩
def ty11 : TI := ⟨.str, false, 1, 16, .string ByteArray.empty⟩
def ty12 : TI := ⟨.int .u64, false, 1, 8, .int .u64 0⟩
def ty13 : TI := ⟨.struct [(0, 9), (1, 12)], true, 2, 24, .agg #[.string ByteArray.empty, .int .u64 0]⟩
def ty14 : TI := ⟨.struct [(0, 9), (1, 12)], true, 2, 24, .agg #[.string ByteArray.empty, .int .u64 0]⟩
def ty15 : TI := ⟨.ptr 117, false, 1, 8, .pointer none⟩
def ty16 : TI := ⟨.ptr 120, false, 1, 8, .pointer none⟩
def ty17 : TI := ⟨.ptr 129, false, 1, 8, .pointer none⟩
def ty18 : TI := ⟨.struct [(0, 17)], true, 1, 8, .agg #[.pointer none]⟩
def ty19 : TI := ⟨.struct [(0, 17)], true, 1, 8, .agg #[.pointer none]⟩
def ty20 : TI := ⟨.other, false, 1, 16, .nilIface⟩
def ty21 : TI := ⟨.int .i32, false, 1, 4, .int .i32 0⟩
def ty22 : TI := ⟨.slice 30, false, 1, 24, .slice none 0 0⟩
def ty24 : TI := ⟨.slice 3, false, 1, 24, .slice none 0 0⟩
def ty29 : TI := ⟨.struct [(0, 3), (1, 3), (2, 3)], true, 3, 24, .agg #[.int .i64 0, .int .i64 0, .int .i64 0]⟩
def ty30 : TI := ⟨.struct [(0, 3), (1, 3), (2, 3)], true, 3, 24, .agg #[.int .i64 0, .int .i64 0, .int .i64 0]⟩
def ty32 : TI := ⟨.slice 57, false, 1, 24, .slice none 0 0⟩
def ty33 : TI := ⟨.slice 65, false, 1, 24, .slice none 0 0⟩
def ty34 : TI := ⟨.struct [(0, 9), (1, 3), (2, 3), (3, 3), (4, 3), (5, 3), (6, 3), (7, 3), (8, 3), (9, 3), (10, 3), (11, 3), (12, 3), (13, 3), (14, 3), (15, 3), (16, 3), (17, 3), (18, 3), (19, 3), (20, 32), (21, 33)], true, 22, 216, .agg #[.string ByteArray.empty, .int .i64 0, .int .i64 0, .int .i64 0, .int .i64 0, .int .i64 0, .int .i64 0, .int .i64 0, .int .i64 0, .int .i64 0, .int .i64 0, .int .i64 0, .int .i64 0, .int .i64 0, .int .i64 0, .int .i64 0, .int .i64 0, .int .i64 0, .int .i64 0, .int .i64 0, .slice none 0 0, .slice none 0 0]⟩
def ty35 : TI := ⟨.struct [(0, 9), (1, 3), (2, 3), (3, 3), (4, 3), (5, 3), (6, 3), (7, 3), (8, 3), (9, 3), (10, 3), (11, 3), (12, 3), (13, 3), (14, 3), (15, 3), (16, 3), (17, 3), (18, 3), (19, 3), (20, 32), (21, 33)], true, 22, 216, .agg #[.string ByteArray.empty, .int .i64 0, .int .i64 0, .int .i64 0, .int .i64 0, .int .i64 0, .int .i64 0, .int .i64 0, .int .i64 0, .int .i64 0, .int .i64 0, .int .i64 0, .int .i64 0, .int .i64 0, .int .i64 0, .int .i64 0, .int .i64 0, .int .i64 0, .int .i64 0, .int .i64 0, .slice none 0 0, .slice none 0 0]⟩
def ty36 : TI := ⟨.struct [(0, 24), (1, 24), (2, 24), (3, 3), (4, 9)], true, 5, 96, .agg #[.slice none 0 0, .slice none 0 0, .slice none 0 0, .int .i64 0, .string ByteArray.empty]⟩
def ty37 : TI := ⟨.struct [(0, 24), (1, 24), (2, 24), (3, 3), (4, 9)], true, 5, 96, .agg #[.slice none 0 0, .slice none 0 0, .slice none 0 0, .int .i64 0, .string ByteArray.empty]⟩
def ty38 : TI := ⟨.int .i64, false, 1, 8, .int .i64 0⟩
def ty47 : TI := ⟨.arr 9 4, true, 9, 9, .agg #[.bool false, .bool false, .bool false, .bool false, .bool false, .bool false, .bool false, .bool false, .bool false]⟩
def ty56 : TI := ⟨.struct [(0, 9), (1, 3), (2, 3), (3, 24), (4, 3), (5, 24)], true, 6, 88, .agg #[.string ByteArray.empty, .int .i64 0, .int .i64 0, .slice none 0 0, .int .i64 0, .slice none 0 0]⟩
def ty57 : TI := ⟨.struct [(0, 9), (1, 3), (2, 3), (3, 24), (4, 3), (5, 24)], true, 6, 88, .agg #[.string ByteArray.empty, .int .i64 0, .int .i64 0, .slice none 0 0, .int .i64 0, .slice none 0 0]⟩
def ty62 : TI := ⟨.arr 3 24, true, 3, 72, .agg #[.slice none 0 0, .slice none 0 0, .slice none 0 0]⟩
def ty64 : TI := ⟨.struct [(0, 3), (1, 3), (2, 3), (3, 3), (4, 3), (5, 3)], true, 6, 48, .agg #[.int .i64 0, .int .i64 0, .int .i64 0, .int .i64 0, .int .i64 0, .int .i64 0]⟩
def ty65 : TI := ⟨.struct [(0, 3), (1, 3), (2, 3), (3, 3), (4, 3), (5, 3)], true, 6, 48, .agg #[.int .i64 0, .int .i64 0, .int .i64 0, .int .i64 0, .int .i64 0, .int .i64 0]⟩
def ty70 : TI := ⟨.arr 4 3, true, 4, 32, .agg #[.int .i64 0, .int .i64 0, .int .i64 0, .int .i64 0]⟩
def ty75 : TI := ⟨.int .u64, false, 1, 8, .int .u64 0⟩
def ty78 : TI := ⟨.slice 9, false, 1, 24, .slice none 0 0⟩
def ty81 : TI := ⟨.arr 81 4, true, 81, 81, .agg (List.replicate 81 (.bool false)).toArray⟩
def ty83 : TI := ⟨.map 9 4, false, 1, 8, .map none⟩
def ty84 : TI := ⟨.map 3 4, false, 1, 8, .map none⟩
def ty89 : TI := ⟨.int .i64, false, 1, 8, .int .i64 0⟩
def ty98 : TI := ⟨.int .u32, false, 1, 4, .int .u32 0⟩
def ty100 : TI := ⟨.int .u64, false, 1, 8, .int .u64 0⟩
def ty105 : TI := ⟨.int .u64, false, 1, 8, .int .u64 0⟩
def ty109 : TI := ⟨.ptr 3, false, 1, 8, .pointer none⟩
def ty112 : TI := ⟨.ptr 105, false, 1, 8, .pointer none⟩
def ty116 : TI := ⟨.struct [(0, 17), (1, 17), (2, 17), (3, 9)], true, 4, 40, .agg #[.pointer none, .pointer none, .pointer none, .string ByteArray.empty]⟩
def ty117 : TI := ⟨.struct [(0, 17), (1, 17), (2, 17), (3, 9)], true, 4, 40, .agg #[.pointer none, .pointer none, .pointer none, .string ByteArray.empty]⟩
def ty118 : TI := ⟨.arr 0 16, true, 0, 0, .agg #[]⟩
def ty119 : TI := ⟨.struct [(0, 118)], true, 0, 0, .agg #[]⟩
def ty120 : TI := ⟨.struct [(0, 118)], true, 0, 0, .agg #[]⟩
def ty122 : TI := ⟨.int .u8, false, 1, 1, .int .u8 0⟩
def ty123 : TI := ⟨.int .u8, false, 1, 1, .int .u8 0⟩
def ty125 : TI := ⟨.ptr 5, false, 1, 8, .pointer none⟩
def ty126 : TI := ⟨.int .i32, false, 1, 4, .int .i32 0⟩
def ty127 : TI := ⟨.int .i32, false, 1, 4, .int .i32 0⟩
def ty128 : TI := ⟨.struct [(0, 12), (1, 12), (2, 98), (3, 122), (4, 5), (5, 5), (6, 123), (7, 124), (8, 125), (9, 126), (10, 127)], true, 11, 48, .agg #[.int .u64 0, .int .u64 0, .int .u32 0, .int .u8 0, .int .u8 0, .int .u8 0, .int .u8 0, .nilFunc, .pointer none, .int .i32 0, .int .i32 0]⟩
def ty129 : TI := ⟨.struct [(0, 12), (1, 12), (2, 98), (3, 122), (4, 5), (5, 5), (6, 123), (7, 124), (8, 125), (9, 126), (10, 127)], true, 11, 48, .agg #[.int .u64 0, .int .u64 0, .int .u32 0, .int .u8 0, .int .u8 0, .int .u8 0, .int .u8 0, .nilFunc, .pointer none, .int .i32 0, .int .i32 0]⟩
def tys : TyTab := [(3, ty3), (4, ty4), (9, ty9), (5, ty5), (2, ty2), (6, ty6), (7, ty7), (8, ty8), (10, ty10), (11, ty11), (12, ty12), (13, ty13), (14, ty14), (15, ty15), (16, ty16), (17, ty17), (18, ty18), (19, ty19), (20, ty20), (21, ty21), (22, ty22), (24, ty24), (29, ty29), (30, ty30), (32, ty32), (33, ty33), (34, ty34), (35, ty35), (36, ty36), (37, ty37), (38, ty38), (47, ty47), (56, ty56), (57, ty57), (62, ty62), (64, ty64), (65, ty65), (70, ty70), (75, ty75), (78, ty78), (81, ty81), (83, ty83), (84, ty84), (89, ty89), (98, ty98), (100, ty100), (105, ty105), (109, ty109), (112, ty112), (116, ty116), (117, ty117), (118, ty118), (119, ty119), (120, ty120), (122, ty122), (123, ty123), (125, ty125), (126, ty126), (127, ty127), (128, ty128), (129, ty129)]
theorem te3 : TyEntry Try.prog 3 ty3 := ⟨⟨_, Try.underlying3, rfl, rfl⟩, by kernel_rfl⟩
theorem te4 : TyEntry Try.prog 4 ty4 := ⟨⟨_, Try.underlying4, trivial, rfl⟩, by kernel_rfl⟩
theorem te9 : TyEntry Try.prog 9 ty9 := ⟨⟨_, Try.underlying9, trivial, rfl⟩, by kernel_rfl⟩
theorem te5 : TyEntry Try.prog 5 ty5 := ⟨⟨_, Try.underlying5, rfl, rfl⟩, by kernel_rfl⟩
theorem te2 : TyEntry Try.prog 2 ty2 := ⟨⟨_, Try.underlying2, rfl, rfl⟩, by kernel_rfl⟩
theorem te6 : TyEntry Try.prog 6 ty6 := ⟨⟨_, Try.underlying6, rfl, rfl⟩, by kernel_rfl⟩
theorem te7 : TyEntry Try.prog 7 ty7 := ⟨⟨_, Try.underlying7, rfl, rfl⟩, by kernel_rfl⟩
theorem te8 : TyEntry Try.prog 8 ty8 := ⟨⟨_, Try.underlying8, rfl, rfl⟩, by kernel_rfl⟩
theorem te10 : TyEntry Try.prog 10 ty10 := ⟨⟨_, Try.underlying10, trivial, rfl⟩, by kernel_rfl⟩
theorem te11 : TyEntry Try.prog 11 ty11 := ⟨⟨_, Try.underlying11, trivial, rfl⟩, by kernel_rfl⟩
theorem te12 : TyEntry Try.prog 12 ty12 := ⟨⟨_, Try.underlying12, rfl, rfl⟩, by kernel_rfl⟩
theorem te13 : TyEntry Try.prog 13 ty13 := ⟨⟨_, Try.underlying13, rfl, rfl⟩, by kernel_rfl⟩
theorem te14 : TyEntry Try.prog 14 ty14 := ⟨⟨_, Try.underlying14, rfl, rfl⟩, by kernel_rfl⟩
theorem te15 : TyEntry Try.prog 15 ty15 := ⟨⟨_, Try.underlying15, rfl, rfl⟩, by kernel_rfl⟩
theorem te16 : TyEntry Try.prog 16 ty16 := ⟨⟨_, Try.underlying16, rfl, rfl⟩, by kernel_rfl⟩
theorem te17 : TyEntry Try.prog 17 ty17 := ⟨⟨_, Try.underlying17, rfl, rfl⟩, by kernel_rfl⟩
theorem te18 : TyEntry Try.prog 18 ty18 := ⟨⟨_, Try.underlying18, rfl, rfl⟩, by kernel_rfl⟩
theorem te19 : TyEntry Try.prog 19 ty19 := ⟨⟨_, Try.underlying19, rfl, rfl⟩, by kernel_rfl⟩
theorem te20 : TyEntry Try.prog 20 ty20 := ⟨⟨_, Try.underlying20, trivial, rfl⟩, by kernel_rfl⟩
theorem te21 : TyEntry Try.prog 21 ty21 := ⟨⟨_, Try.underlying21, rfl, rfl⟩, by kernel_rfl⟩
theorem te22 : TyEntry Try.prog 22 ty22 := ⟨⟨_, Try.underlying22, rfl, rfl⟩, by kernel_rfl⟩
theorem te24 : TyEntry Try.prog 24 ty24 := ⟨⟨_, Try.underlying24, rfl, rfl⟩, by kernel_rfl⟩
theorem te29 : TyEntry Try.prog 29 ty29 := ⟨⟨_, Try.underlying29, rfl, rfl⟩, by kernel_rfl⟩
theorem te30 : TyEntry Try.prog 30 ty30 := ⟨⟨_, Try.underlying30, rfl, rfl⟩, by kernel_rfl⟩
theorem te32 : TyEntry Try.prog 32 ty32 := ⟨⟨_, Try.underlying32, rfl, rfl⟩, by kernel_rfl⟩
theorem te33 : TyEntry Try.prog 33 ty33 := ⟨⟨_, Try.underlying33, rfl, rfl⟩, by kernel_rfl⟩
theorem te34 : TyEntry Try.prog 34 ty34 := ⟨⟨_, Try.underlying34, rfl, rfl⟩, by kernel_rfl⟩
theorem te35 : TyEntry Try.prog 35 ty35 := ⟨⟨_, Try.underlying35, rfl, rfl⟩, by kernel_rfl⟩
theorem te36 : TyEntry Try.prog 36 ty36 := ⟨⟨_, Try.underlying36, rfl, rfl⟩, by kernel_rfl⟩
theorem te37 : TyEntry Try.prog 37 ty37 := ⟨⟨_, Try.underlying37, rfl, rfl⟩, by kernel_rfl⟩
theorem te38 : TyEntry Try.prog 38 ty38 := ⟨⟨_, Try.underlying38, rfl, rfl⟩, by kernel_rfl⟩
theorem te47 : TyEntry Try.prog 47 ty47 := ⟨⟨_, Try.underlying47, ⟨rfl, rfl⟩, rfl⟩, by kernel_rfl⟩
theorem te56 : TyEntry Try.prog 56 ty56 := ⟨⟨_, Try.underlying56, rfl, rfl⟩, by kernel_rfl⟩
theorem te57 : TyEntry Try.prog 57 ty57 := ⟨⟨_, Try.underlying57, rfl, rfl⟩, by kernel_rfl⟩
theorem te62 : TyEntry Try.prog 62 ty62 := ⟨⟨_, Try.underlying62, ⟨rfl, rfl⟩, rfl⟩, by kernel_rfl⟩
theorem te64 : TyEntry Try.prog 64 ty64 := ⟨⟨_, Try.underlying64, rfl, rfl⟩, by kernel_rfl⟩
theorem te65 : TyEntry Try.prog 65 ty65 := ⟨⟨_, Try.underlying65, rfl, rfl⟩, by kernel_rfl⟩
theorem te70 : TyEntry Try.prog 70 ty70 := ⟨⟨_, Try.underlying70, ⟨rfl, rfl⟩, rfl⟩, by kernel_rfl⟩
theorem te75 : TyEntry Try.prog 75 ty75 := ⟨⟨_, Try.underlying75, rfl, rfl⟩, by kernel_rfl⟩
theorem te78 : TyEntry Try.prog 78 ty78 := ⟨⟨_, Try.underlying78, rfl, rfl⟩, by kernel_rfl⟩
theorem te81 : TyEntry Try.prog 81 ty81 := ⟨⟨_, Try.underlying81, ⟨rfl, rfl⟩, rfl⟩, by kernel_rfl⟩
theorem te83 : TyEntry Try.prog 83 ty83 := ⟨⟨_, Try.underlying83, ⟨rfl, rfl⟩, rfl⟩, by kernel_rfl⟩
theorem te84 : TyEntry Try.prog 84 ty84 := ⟨⟨_, Try.underlying84, ⟨rfl, rfl⟩, rfl⟩, by kernel_rfl⟩
theorem te89 : TyEntry Try.prog 89 ty89 := ⟨⟨_, Try.underlying89, rfl, rfl⟩, by kernel_rfl⟩
theorem te98 : TyEntry Try.prog 98 ty98 := ⟨⟨_, Try.underlying98, rfl, rfl⟩, by kernel_rfl⟩
theorem te100 : TyEntry Try.prog 100 ty100 := ⟨⟨_, Try.underlying100, rfl, rfl⟩, by kernel_rfl⟩
theorem te105 : TyEntry Try.prog 105 ty105 := ⟨⟨_, Try.underlying105, rfl, rfl⟩, by kernel_rfl⟩
theorem te109 : TyEntry Try.prog 109 ty109 := ⟨⟨_, Try.underlying109, rfl, rfl⟩, by kernel_rfl⟩
theorem te112 : TyEntry Try.prog 112 ty112 := ⟨⟨_, Try.underlying112, rfl, rfl⟩, by kernel_rfl⟩
theorem te116 : TyEntry Try.prog 116 ty116 := ⟨⟨_, Try.underlying116, rfl, rfl⟩, by kernel_rfl⟩
theorem te117 : TyEntry Try.prog 117 ty117 := ⟨⟨_, Try.underlying117, rfl, rfl⟩, by kernel_rfl⟩
theorem te118 : TyEntry Try.prog 118 ty118 := ⟨⟨_, Try.underlying118, ⟨rfl, rfl⟩, rfl⟩, by kernel_rfl⟩
theorem te119 : TyEntry Try.prog 119 ty119 := ⟨⟨_, Try.underlying119, rfl, rfl⟩, by kernel_rfl⟩
theorem te120 : TyEntry Try.prog 120 ty120 := ⟨⟨_, Try.underlying120, rfl, rfl⟩, by kernel_rfl⟩
theorem te122 : TyEntry Try.prog 122 ty122 := ⟨⟨_, Try.underlying122, rfl, rfl⟩, by kernel_rfl⟩
theorem te123 : TyEntry Try.prog 123 ty123 := ⟨⟨_, Try.underlying123, rfl, rfl⟩, by kernel_rfl⟩
theorem te125 : TyEntry Try.prog 125 ty125 := ⟨⟨_, Try.underlying125, rfl, rfl⟩, by kernel_rfl⟩
theorem te126 : TyEntry Try.prog 126 ty126 := ⟨⟨_, Try.underlying126, rfl, rfl⟩, by kernel_rfl⟩
theorem te127 : TyEntry Try.prog 127 ty127 := ⟨⟨_, Try.underlying127, rfl, rfl⟩, by kernel_rfl⟩
theorem te128 : TyEntry Try.prog 128 ty128 := ⟨⟨_, Try.underlying128, rfl, rfl⟩, by kernel_rfl⟩
theorem te129 : TyEntry Try.prog 129 ty129 := ⟨⟨_, Try.underlying129, rfl, rfl⟩, by kernel_rfl⟩
theorem tys_ok : ∀ x ∈ tys, TyEntry Try.prog x.1 x.2 := by
  intro x hx
  simp only [tys, List.mem_cons, List.not_mem_nil, or_false] at hx
  rcases hx with rfl | rfl | rfl | rfl | rfl | rfl | rfl | rfl | rfl | rfl | rfl | rfl | rfl | rfl | rfl | rfl | rfl | rfl | rfl | rfl | rfl | rfl | rfl | rfl | rfl | rfl | rfl | rfl | rfl | rfl | rfl | rfl | rfl | rfl | rfl | rfl | rfl | rfl | rfl | rfl | rfl | rfl | rfl | rfl | rfl | rfl | rfl | rfl | rfl | rfl | rfl | rfl | rfl | rfl | rfl | rfl | rfl | rfl | rfl | rfl | rfl
  · exact te3
  · exact te4
  · exact te9
  · exact te5
  · exact te2
  · exact te6
  · exact te7
  · exact te8
  · exact te10
  · exact te11
  · exact te12
  · exact te13
  · exact te14
  · exact te15
  · exact te16
  · exact te17
  · exact te18
  · exact te19
  · exact te20
  · exact te21
  · exact te22
  · exact te24
  · exact te29
  · exact te30
  · exact te32
  · exact te33
  · exact te34
  · exact te35
  · exact te36
  · exact te37
  · exact te38
  · exact te47
  · exact te56
  · exact te57
  · exact te62
  · exact te64
  · exact te65
  · exact te70
  · exact te75
  · exact te78
  · exact te81
  · exact te83
  · exact te84
  · exact te89
  · exact te98
  · exact te100
  · exact te105
  · exact te109
  · exact te112
  · exact te116
  · exact te117
  · exact te118
  · exact te119
  · exact te120
  · exact te122
  · exact te123
  · exact te125
  · exact te126
  · exact te127
  · exact te128
  · exact te129
instance : TyOk Try.prog tys := ⟨tys_ok⟩
end Eng
end Go.Proofs.Ytnldelafemaigaa

