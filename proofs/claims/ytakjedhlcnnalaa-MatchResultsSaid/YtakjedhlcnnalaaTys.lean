/- The types of the program, as the engine reads them: written by a program (tys.py) out of the translation; each row is checked by the kernel. -/
import Derived.Test.YtakjedhlcnnalaaProg
import Derived.Test.YtakjedhlcnnalaaEngOps
import Derived.KernelRfl
namespace Go.Proofs.Ytakjedhlcnnalaa
namespace Eng

def ty3 : TI := ⟨.int .i64, false, 1, 8, .int .i64 0⟩
def ty4 : TI := ⟨.bool, false, 1, 1, .bool false⟩
def ty9 : TI := ⟨.str, false, 1, 16, .string ByteArray.empty⟩
def ty5 : TI := ⟨.int .u8, false, 1, 1, .int .u8 0⟩
def ty2 : TI := ⟨.int .i64, false, 1, 8, .int .i64 0⟩
def ty6 : TI := ⟨.int .u8, false, 1, 1, .int .u8 0⟩
def ty7 : TI := ⟨.struct [(0, 2), (1, 3), (2, 4), (3, 6)], true, 4, 24, .agg #[.int .i64 0, .int .i64 0, .bool false, .int .u8 0]⟩
def ty8 : TI := ⟨.struct [(0, 2), (1, 3), (2, 4), (3, 6)], true, 4, 24, .agg #[.int .i64 0, .int .i64 0, .bool false, .int .u8 0]⟩
def ty10 : TI := ⟨.str, false, 1, 16, .string ByteArray.empty⟩
def ty11 : TI := ⟨.str, false, 1, 16, .string ByteArray.empty⟩
def ty12 : TI := ⟨.int .u64, false, 1, 8, .int .u64 0⟩
def ty13 : TI := ⟨.struct [(0, 9), (1, 12)], true, 2, 24, .agg #[.string ByteArray.empty, .int .u64 0]⟩
def ty14 : TI := ⟨.struct [(0, 9), (1, 12)], true, 2, 24, .agg #[.string ByteArray.empty, .int .u64 0]⟩
def ty15 : TI := ⟨.ptr 112, false, 1, 8, .pointer none⟩
def ty16 : TI := ⟨.ptr 115, false, 1, 8, .pointer none⟩
def ty17 : TI := ⟨.ptr 124, false, 1, 8, .pointer none⟩
def ty18 : TI := ⟨.struct [(0, 17)], true, 1, 8, .agg #[.pointer none]⟩
def ty19 : TI := ⟨.struct [(0, 17)], true, 1, 8, .agg #[.pointer none]⟩
def ty20 : TI := ⟨.other, false, 1, 16, .nilIface⟩
def ty21 : TI := ⟨.int .i32, false, 1, 4, .int .i32 0⟩
def ty22 : TI := ⟨.slice 3, false, 1, 24, .slice none 0 0⟩
def ty24 : TI := ⟨.slice 80, false, 1, 24, .slice none 0 0⟩
def ty25 : TI := ⟨.slice 40, false, 1, 24, .slice none 0 0⟩
def ty26 : TI := ⟨.struct [(0, 9), (1, 3), (2, 3), (3, 3), (4, 3), (5, 3), (6, 3), (7, 3), (8, 3), (9, 3), (10, 3), (11, 3), (12, 3), (13, 3), (14, 3), (15, 3), (16, 3), (17, 3), (18, 3), (19, 3), (20, 24), (21, 25)], true, 22, 216, .agg #[.string ByteArray.empty, .int .i64 0, .int .i64 0, .int .i64 0, .int .i64 0, .int .i64 0, .int .i64 0, .int .i64 0, .int .i64 0, .int .i64 0, .int .i64 0, .int .i64 0, .int .i64 0, .int .i64 0, .int .i64 0, .int .i64 0, .int .i64 0, .int .i64 0, .int .i64 0, .int .i64 0, .slice none 0 0, .slice none 0 0]⟩
def ty27 : TI := ⟨.struct [(0, 9), (1, 3), (2, 3), (3, 3), (4, 3), (5, 3), (6, 3), (7, 3), (8, 3), (9, 3), (10, 3), (11, 3), (12, 3), (13, 3), (14, 3), (15, 3), (16, 3), (17, 3), (18, 3), (19, 3), (20, 24), (21, 25)], true, 22, 216, .agg #[.string ByteArray.empty, .int .i64 0, .int .i64 0, .int .i64 0, .int .i64 0, .int .i64 0, .int .i64 0, .int .i64 0, .int .i64 0, .int .i64 0, .int .i64 0, .int .i64 0, .int .i64 0, .int .i64 0, .int .i64 0, .int .i64 0, .int .i64 0, .int .i64 0, .int .i64 0, .int .i64 0, .slice none 0 0, .slice none 0 0]⟩
def ty28 : TI := ⟨.struct [(0, 22), (1, 22)], true, 2, 48, .agg #[.slice none 0 0, .slice none 0 0]⟩
def ty29 : TI := ⟨.struct [(0, 22), (1, 22)], true, 2, 48, .agg #[.slice none 0 0, .slice none 0 0]⟩
def ty30 : TI := ⟨.struct [(0, 22), (1, 22), (2, 22), (3, 3), (4, 9)], true, 5, 96, .agg #[.slice none 0 0, .slice none 0 0, .slice none 0 0, .int .i64 0, .string ByteArray.empty]⟩
def ty31 : TI := ⟨.struct [(0, 22), (1, 22), (2, 22), (3, 3), (4, 9)], true, 5, 96, .agg #[.slice none 0 0, .slice none 0 0, .slice none 0 0, .int .i64 0, .string ByteArray.empty]⟩
def ty32 : TI := ⟨.int .i64, false, 1, 8, .int .i64 0⟩
def ty39 : TI := ⟨.struct [(0, 3), (1, 3), (2, 3), (3, 3), (4, 3), (5, 3)], true, 6, 48, .agg #[.int .i64 0, .int .i64 0, .int .i64 0, .int .i64 0, .int .i64 0, .int .i64 0]⟩
def ty40 : TI := ⟨.struct [(0, 3), (1, 3), (2, 3), (3, 3), (4, 3), (5, 3)], true, 6, 48, .agg #[.int .i64 0, .int .i64 0, .int .i64 0, .int .i64 0, .int .i64 0, .int .i64 0]⟩
def ty56 : TI := ⟨.int .u64, false, 1, 8, .int .u64 0⟩
def ty62 : TI := ⟨.int .i64, false, 1, 8, .int .i64 0⟩
def ty71 : TI := ⟨.int .u32, false, 1, 4, .int .u32 0⟩
def ty73 : TI := ⟨.int .u64, false, 1, 8, .int .u64 0⟩
def ty79 : TI := ⟨.struct [(0, 9), (1, 3), (2, 3), (3, 22), (4, 3), (5, 22)], true, 6, 88, .agg #[.string ByteArray.empty, .int .i64 0, .int .i64 0, .slice none 0 0, .int .i64 0, .slice none 0 0]⟩
def ty80 : TI := ⟨.struct [(0, 9), (1, 3), (2, 3), (3, 22), (4, 3), (5, 22)], true, 6, 88, .agg #[.string ByteArray.empty, .int .i64 0, .int .i64 0, .slice none 0 0, .int .i64 0, .slice none 0 0]⟩
def ty87 : TI := ⟨.slice 9, false, 1, 24, .slice none 0 0⟩
def ty89 : TI := ⟨.int .u64, false, 1, 8, .int .u64 0⟩
def ty93 : TI := ⟨.ptr 3, false, 1, 8, .pointer none⟩
def ty96 : TI := ⟨.map 9 4, false, 1, 8, .map none⟩
def ty97 : TI := ⟨.map 3 4, false, 1, 8, .map none⟩
def ty102 : TI := ⟨.arr 81 4, true, 81, 81, .agg (List.replicate 81 (.bool false)).toArray⟩
def ty105 : TI := ⟨.ptr 89, false, 1, 8, .pointer none⟩
def ty111 : TI := ⟨.struct [(0, 17), (1, 17), (2, 17), (3, 9)], true, 4, 40, .agg #[.pointer none, .pointer none, .pointer none, .string ByteArray.empty]⟩
def ty112 : TI := ⟨.struct [(0, 17), (1, 17), (2, 17), (3, 9)], true, 4, 40, .agg #[.pointer none, .pointer none, .pointer none, .string ByteArray.empty]⟩
def ty113 : TI := ⟨.arr 0 16, true, 0, 0, .agg #[]⟩
def ty114 : TI := ⟨.struct [(0, 113)], true, 0, 0, .agg #[]⟩
def ty115 : TI := ⟨.struct [(0, 113)], true, 0, 0, .agg #[]⟩
def ty117 : TI := ⟨.int .u8, false, 1, 1, .int .u8 0⟩
def ty118 : TI := ⟨.int .u8, false, 1, 1, .int .u8 0⟩
def ty120 : TI := ⟨.ptr 5, false, 1, 8, .pointer none⟩
def ty121 : TI := ⟨.int .i32, false, 1, 4, .int .i32 0⟩
def ty122 : TI := ⟨.int .i32, false, 1, 4, .int .i32 0⟩
def ty123 : TI := ⟨.struct [(0, 12), (1, 12), (2, 71), (3, 117), (4, 5), (5, 5), (6, 118), (7, 119), (8, 120), (9, 121), (10, 122)], true, 11, 48, .agg #[.int .u64 0, .int .u64 0, .int .u32 0, .int .u8 0, .int .u8 0, .int .u8 0, .int .u8 0, .nilFunc, .pointer none, .int .i32 0, .int .i32 0]⟩
def ty124 : TI := ⟨.struct [(0, 12), (1, 12), (2, 71), (3, 117), (4, 5), (5, 5), (6, 118), (7, 119), (8, 120), (9, 121), (10, 122)], true, 11, 48, .agg #[.int .u64 0, .int .u64 0, .int .u32 0, .int .u8 0, .int .u8 0, .int .u8 0, .int .u8 0, .nilFunc, .pointer none, .int .i32 0, .int .i32 0]⟩
def tys : TyTab := [(3, ty3), (4, ty4), (9, ty9), (5, ty5), (2, ty2), (6, ty6), (7, ty7), (8, ty8), (10, ty10), (11, ty11), (12, ty12), (13, ty13), (14, ty14), (15, ty15), (16, ty16), (17, ty17), (18, ty18), (19, ty19), (20, ty20), (21, ty21), (22, ty22), (24, ty24), (25, ty25), (26, ty26), (27, ty27), (28, ty28), (29, ty29), (30, ty30), (31, ty31), (32, ty32), (39, ty39), (40, ty40), (56, ty56), (62, ty62), (71, ty71), (73, ty73), (79, ty79), (80, ty80), (87, ty87), (89, ty89), (93, ty93), (96, ty96), (97, ty97), (102, ty102), (105, ty105), (111, ty111), (112, ty112), (113, ty113), (114, ty114), (115, ty115), (117, ty117), (118, ty118), (120, ty120), (121, ty121), (122, ty122), (123, ty123), (124, ty124)]
theorem te3 : TyEntry Try.prog 3 ty3 := ⟨⟨_, Try.underlying3, rfl, rfl⟩, by kernel_rfl⟩
theorem te4 : TyEntry Try.prog 4 ty4 := ⟨⟨_, Try.underlying4, trivial, rfl⟩, by kernel_rfl⟩
theorem te9 : TyEntry Try.prog 9 ty9 := ⟨⟨_, Try.underlying9, trivial, rfl⟩, by kernel_rfl⟩
theorem te5 : TyEntry Try.prog 5 ty5 := ⟨⟨_, Try.underlying5, rfl, rfl⟩, by kernel_rfl⟩
theorem te2 : TyEntry Try.prog 2 ty2 := ⟨⟨_, Try.underlying2, rfl, rfl⟩, by kernel_rfl⟩
theorem te6 : TyEntry Try.prog 6 ty6 := ⟨⟨_, Try.underlying6, rfl, rfl⟩, by kernel_rfl⟩
theorem te7 : TyEntry Try.prog 7 ty7 := ⟨⟨_, Try.underlying7, rfl, rfl⟩, by kernel_rfl⟩
theorem te8 : TyEntry Try.prog 8 ty8 := ⟨⟨_, Try.underlying8, rfl, rfl⟩, by kernel_rfl⟩
theorem te10 : TyEntry Try.prog 10 ty10 := ⟨⟨_, Try.underlying10, trivial, rfl⟩, by kernel_rfl⟩
theorem te11 : TyEntry Try.prog 11 ty11 := ⟨⟨_, Try.underlying11, trivial, rfl⟩, by kernel_rfl⟩
theorem te12 : TyEntry Try.prog 12 ty12 := ⟨⟨_, Try.underlying12, rfl, rfl⟩, by kernel_rfl⟩
theorem te13 : TyEntry Try.prog 13 ty13 := ⟨⟨_, Try.underlying13, rfl, rfl⟩, by kernel_rfl⟩
theorem te14 : TyEntry Try.prog 14 ty14 := ⟨⟨_, Try.underlying14, rfl, rfl⟩, by kernel_rfl⟩
theorem te15 : TyEntry Try.prog 15 ty15 := ⟨⟨_, Try.underlying15, rfl, rfl⟩, by kernel_rfl⟩
theorem te16 : TyEntry Try.prog 16 ty16 := ⟨⟨_, Try.underlying16, rfl, rfl⟩, by kernel_rfl⟩
theorem te17 : TyEntry Try.prog 17 ty17 := ⟨⟨_, Try.underlying17, rfl, rfl⟩, by kernel_rfl⟩
theorem te18 : TyEntry Try.prog 18 ty18 := ⟨⟨_, Try.underlying18, rfl, rfl⟩, by kernel_rfl⟩
theorem te19 : TyEntry Try.prog 19 ty19 := ⟨⟨_, Try.underlying19, rfl, rfl⟩, by kernel_rfl⟩
theorem te20 : TyEntry Try.prog 20 ty20 := ⟨⟨_, Try.underlying20, trivial, rfl⟩, by kernel_rfl⟩
theorem te21 : TyEntry Try.prog 21 ty21 := ⟨⟨_, Try.underlying21, rfl, rfl⟩, by kernel_rfl⟩
theorem te22 : TyEntry Try.prog 22 ty22 := ⟨⟨_, Try.underlying22, rfl, rfl⟩, by kernel_rfl⟩
theorem te24 : TyEntry Try.prog 24 ty24 := ⟨⟨_, Try.underlying24, rfl, rfl⟩, by kernel_rfl⟩
theorem te25 : TyEntry Try.prog 25 ty25 := ⟨⟨_, Try.underlying25, rfl, rfl⟩, by kernel_rfl⟩
theorem te26 : TyEntry Try.prog 26 ty26 := ⟨⟨_, Try.underlying26, rfl, rfl⟩, by kernel_rfl⟩
theorem te27 : TyEntry Try.prog 27 ty27 := ⟨⟨_, Try.underlying27, rfl, rfl⟩, by kernel_rfl⟩
theorem te28 : TyEntry Try.prog 28 ty28 := ⟨⟨_, Try.underlying28, rfl, rfl⟩, by kernel_rfl⟩
theorem te29 : TyEntry Try.prog 29 ty29 := ⟨⟨_, Try.underlying29, rfl, rfl⟩, by kernel_rfl⟩
theorem te30 : TyEntry Try.prog 30 ty30 := ⟨⟨_, Try.underlying30, rfl, rfl⟩, by kernel_rfl⟩
theorem te31 : TyEntry Try.prog 31 ty31 := ⟨⟨_, Try.underlying31, rfl, rfl⟩, by kernel_rfl⟩
theorem te32 : TyEntry Try.prog 32 ty32 := ⟨⟨_, Try.underlying32, rfl, rfl⟩, by kernel_rfl⟩
theorem te39 : TyEntry Try.prog 39 ty39 := ⟨⟨_, Try.underlying39, rfl, rfl⟩, by kernel_rfl⟩
theorem te40 : TyEntry Try.prog 40 ty40 := ⟨⟨_, Try.underlying40, rfl, rfl⟩, by kernel_rfl⟩
theorem te56 : TyEntry Try.prog 56 ty56 := ⟨⟨_, Try.underlying56, rfl, rfl⟩, by kernel_rfl⟩
theorem te62 : TyEntry Try.prog 62 ty62 := ⟨⟨_, Try.underlying62, rfl, rfl⟩, by kernel_rfl⟩
theorem te71 : TyEntry Try.prog 71 ty71 := ⟨⟨_, Try.underlying71, rfl, rfl⟩, by kernel_rfl⟩
theorem te73 : TyEntry Try.prog 73 ty73 := ⟨⟨_, Try.underlying73, rfl, rfl⟩, by kernel_rfl⟩
theorem te79 : TyEntry Try.prog 79 ty79 := ⟨⟨_, Try.underlying79, rfl, rfl⟩, by kernel_rfl⟩
theorem te80 : TyEntry Try.prog 80 ty80 := ⟨⟨_, Try.underlying80, rfl, rfl⟩, by kernel_rfl⟩
theorem te87 : TyEntry Try.prog 87 ty87 := ⟨⟨_, Try.underlying87, rfl, rfl⟩, by kernel_rfl⟩
theorem te89 : TyEntry Try.prog 89 ty89 := ⟨⟨_, Try.underlying89, rfl, rfl⟩, by kernel_rfl⟩
theorem te93 : TyEntry Try.prog 93 ty93 := ⟨⟨_, Try.underlying93, rfl, rfl⟩, by kernel_rfl⟩
theorem te96 : TyEntry Try.prog 96 ty96 := ⟨⟨_, Try.underlying96, ⟨rfl, rfl⟩, rfl⟩, by kernel_rfl⟩
theorem te97 : TyEntry Try.prog 97 ty97 := ⟨⟨_, Try.underlying97, ⟨rfl, rfl⟩, rfl⟩, by kernel_rfl⟩
theorem te102 : TyEntry Try.prog 102 ty102 := ⟨⟨_, Try.underlying102, ⟨rfl, rfl⟩, rfl⟩, by kernel_rfl⟩
theorem te105 : TyEntry Try.prog 105 ty105 := ⟨⟨_, Try.underlying105, rfl, rfl⟩, by kernel_rfl⟩
theorem te111 : TyEntry Try.prog 111 ty111 := ⟨⟨_, Try.underlying111, rfl, rfl⟩, by kernel_rfl⟩
theorem te112 : TyEntry Try.prog 112 ty112 := ⟨⟨_, Try.underlying112, rfl, rfl⟩, by kernel_rfl⟩
theorem te113 : TyEntry Try.prog 113 ty113 := ⟨⟨_, Try.underlying113, ⟨rfl, rfl⟩, rfl⟩, by kernel_rfl⟩
theorem te114 : TyEntry Try.prog 114 ty114 := ⟨⟨_, Try.underlying114, rfl, rfl⟩, by kernel_rfl⟩
theorem te115 : TyEntry Try.prog 115 ty115 := ⟨⟨_, Try.underlying115, rfl, rfl⟩, by kernel_rfl⟩
theorem te117 : TyEntry Try.prog 117 ty117 := ⟨⟨_, Try.underlying117, rfl, rfl⟩, by kernel_rfl⟩
theorem te118 : TyEntry Try.prog 118 ty118 := ⟨⟨_, Try.underlying118, rfl, rfl⟩, by kernel_rfl⟩
theorem te120 : TyEntry Try.prog 120 ty120 := ⟨⟨_, Try.underlying120, rfl, rfl⟩, by kernel_rfl⟩
theorem te121 : TyEntry Try.prog 121 ty121 := ⟨⟨_, Try.underlying121, rfl, rfl⟩, by kernel_rfl⟩
theorem te122 : TyEntry Try.prog 122 ty122 := ⟨⟨_, Try.underlying122, rfl, rfl⟩, by kernel_rfl⟩
theorem te123 : TyEntry Try.prog 123 ty123 := ⟨⟨_, Try.underlying123, rfl, rfl⟩, by kernel_rfl⟩
theorem te124 : TyEntry Try.prog 124 ty124 := ⟨⟨_, Try.underlying124, rfl, rfl⟩, by kernel_rfl⟩
theorem tys_ok : ∀ x ∈ tys, TyEntry Try.prog x.1 x.2 := by
  intro x hx
  simp only [tys, List.mem_cons, List.not_mem_nil, or_false] at hx
  rcases hx with rfl | rfl | rfl | rfl | rfl | rfl | rfl | rfl | rfl | rfl | rfl | rfl | rfl | rfl | rfl | rfl | rfl | rfl | rfl | rfl | rfl | rfl | rfl | rfl | rfl | rfl | rfl | rfl | rfl | rfl | rfl | rfl | rfl | rfl | rfl | rfl | rfl | rfl | rfl | rfl | rfl | rfl | rfl | rfl | rfl | rfl | rfl | rfl | rfl | rfl | rfl | rfl | rfl | rfl | rfl | rfl | rfl
  · exact te3
  · exact te4
  · exact te9
  · exact te5
  · exact te2
  · exact te6
  · exact te7
  · exact te8
  · exact te10
  · exact te11
  · exact te12
  · exact te13
  · exact te14
  · exact te15
  · exact te16
  · exact te17
  · exact te18
  · exact te19
  · exact te20
  · exact te21
  · exact te22
  · exact te24
  · exact te25
  · exact te26
  · exact te27
  · exact te28
  · exact te29
  · exact te30
  · exact te31
  · exact te32
  · exact te39
  · exact te40
  · exact te56
  · exact te62
  · exact te71
  · exact te73
  · exact te79
  · exact te80
  · exact te87
  · exact te89
  · exact te93
  · exact te96
  · exact te97
  · exact te102
  · exact te105
  · exact te111
  · exact te112
  · exact te113
  · exact te114
  · exact te115
  · exact te117
  · exact te118
  · exact te120
  · exact te121
  · exact te122
  · exact te123
  · exact te124
instance : TyOk Try.prog tys := ⟨tys_ok⟩
end Eng
end Go.Proofs.Ytakjedhlcnnalaa

