/- The types of the program, as the engine reads them: written by a program (tys.py) out of the translation; each row is checked by the kernel. -/
import Derived.Test.YtkopdlglenejmaaProg
import Derived.Test.YtkopdlglenejmaaEngOps
import Derived.KernelRfl
namespace Go.Proofs.Ytkopdlglenejmaa
namespace Eng

def ty3 : TI := ⟨.int .i64, false, 1, 8, .int .i64 0⟩
def ty4 : TI := ⟨.bool, false, 1, 1, .bool false⟩
def ty9 : TI := ⟨.str, false, 1, 16, .string ByteArray.empty⟩
def ty5 : TI := ⟨.int .u8, false, 1, 1, .int .u8 0⟩
def ty2 : TI := ⟨.int .i64, false, 1, 8, .int .i64 0⟩
def ty6 : TI := ⟨.int .u8, false, 1, 1, .int .u8 0⟩
def ty7 : TI := ⟨.struct [(0, 2), (1, 3), (2, 4), (3, 6)], true, 4, 24, .agg #[.int .i64 0, .int .i64 0, .bool false, .int .u8 0]⟩
def ty8 : TI := ⟨.struct [(0, 2), (1, 3), (2, 4), (3, 6)], true, 4, 24, .agg #[.int .i64 0, .int .i64 0, .bool false, .int .u8 0]⟩
def ty10 : TI := ⟨.str, false, 1, 16, .string ByteArray.empty⟩
def ty11 : TI := ⟨.str, false, 1, 16, .string ByteArray.empty⟩
def ty12 : TI := ⟨.int .u64, false, 1, 8, .int .u64 0⟩
def ty13 : TI := ⟨.struct [(0, 9), (1, 12)], true, 2, 24, .agg #[.string ByteArray.empty, .int .u64 0]⟩
def ty14 : TI := ⟨.struct [(0, 9), (1, 12)], true, 2, 24, .agg #[.string ByteArray.empty, .int .u64 0]⟩
def ty15 : TI := ⟨.ptr 120, false, 1, 8, .pointer none⟩
def ty16 : TI := ⟨.ptr 123, false, 1, 8, .pointer none⟩
def ty17 : TI := ⟨.ptr 132, false, 1, 8, .pointer none⟩
def ty18 : TI := ⟨.struct [(0, 17)], true, 1, 8, .agg #[.pointer none]⟩
def ty19 : TI := ⟨.struct [(0, 17)], true, 1, 8, .agg #[.pointer none]⟩
def ty20 : TI := ⟨.other, false, 1, 16, .nilIface⟩
def ty21 : TI := ⟨.int .i32, false, 1, 4, .int .i32 0⟩
def ty22 : TI := ⟨.slice 47, false, 1, 24, .slice none 0 0⟩
def ty23 : TI := ⟨.slice 70, false, 1, 24, .slice none 0 0⟩
def ty24 : TI := ⟨.struct [(0, 9), (1, 3), (2, 3), (3, 3), (4, 3), (5, 3), (6, 3), (7, 3), (8, 3), (9, 3), (10, 3), (11, 3), (12, 3), (13, 3), (14, 3), (15, 3), (16, 3), (17, 3), (18, 3), (19, 3), (20, 22), (21, 23)], true, 22, 216, .agg #[.string ByteArray.empty, .int .i64 0, .int .i64 0, .int .i64 0, .int .i64 0, .int .i64 0, .int .i64 0, .int .i64 0, .int .i64 0, .int .i64 0, .int .i64 0, .int .i64 0, .int .i64 0, .int .i64 0, .int .i64 0, .int .i64 0, .int .i64 0, .int .i64 0, .int .i64 0, .int .i64 0, .slice none 0 0, .slice none 0 0]⟩
def ty25 : TI := ⟨.struct [(0, 9), (1, 3), (2, 3), (3, 3), (4, 3), (5, 3), (6, 3), (7, 3), (8, 3), (9, 3), (10, 3), (11, 3), (12, 3), (13, 3), (14, 3), (15, 3), (16, 3), (17, 3), (18, 3), (19, 3), (20, 22), (21, 23)], true, 22, 216, .agg #[.string ByteArray.empty, .int .i64 0, .int .i64 0, .int .i64 0, .int .i64 0, .int .i64 0, .int .i64 0, .int .i64 0, .int .i64 0, .int .i64 0, .int .i64 0, .int .i64 0, .int .i64 0, .int .i64 0, .int .i64 0, .int .i64 0, .int .i64 0, .int .i64 0, .int .i64 0, .int .i64 0, .slice none 0 0, .slice none 0 0]⟩
def ty26 : TI := ⟨.int .u64, false, 1, 8, .int .u64 0⟩
def ty29 : TI := ⟨.slice 3, false, 1, 24, .slice none 0 0⟩
def ty30 : TI := ⟨.struct [(0, 29), (1, 29), (2, 29), (3, 3), (4, 9)], true, 5, 96, .agg #[.slice none 0 0, .slice none 0 0, .slice none 0 0, .int .i64 0, .string ByteArray.empty]⟩
def ty31 : TI := ⟨.struct [(0, 29), (1, 29), (2, 29), (3, 3), (4, 9)], true, 5, 96, .agg #[.slice none 0 0, .slice none 0 0, .slice none 0 0, .int .i64 0, .string ByteArray.empty]⟩
def ty32 : TI := ⟨.int .i64, false, 1, 8, .int .i64 0⟩
def ty44 : TI := ⟨.slice 29, false, 1, 24, .slice none 0 0⟩
def ty46 : TI := ⟨.struct [(0, 9), (1, 3), (2, 3), (3, 29), (4, 3), (5, 29)], true, 6, 88, .agg #[.string ByteArray.empty, .int .i64 0, .int .i64 0, .slice none 0 0, .int .i64 0, .slice none 0 0]⟩
def ty47 : TI := ⟨.struct [(0, 9), (1, 3), (2, 3), (3, 29), (4, 3), (5, 29)], true, 6, 88, .agg #[.string ByteArray.empty, .int .i64 0, .int .i64 0, .slice none 0 0, .int .i64 0, .slice none 0 0]⟩
def ty49 : TI := ⟨.ptr 73, false, 1, 8, .pointer none⟩
def ty52 : TI := ⟨.ptr 75, false, 1, 8, .pointer none⟩
def ty65 : TI := ⟨.slice 9, false, 1, 24, .slice none 0 0⟩
def ty69 : TI := ⟨.struct [(0, 3), (1, 3), (2, 3), (3, 3), (4, 3), (5, 3)], true, 6, 48, .agg #[.int .i64 0, .int .i64 0, .int .i64 0, .int .i64 0, .int .i64 0, .int .i64 0]⟩
def ty70 : TI := ⟨.struct [(0, 3), (1, 3), (2, 3), (3, 3), (4, 3), (5, 3)], true, 6, 48, .agg #[.int .i64 0, .int .i64 0, .int .i64 0, .int .i64 0, .int .i64 0, .int .i64 0]⟩
def ty72 : TI := ⟨.struct [(0, 26), (1, 3)], true, 2, 16, .agg #[.int .u64 0, .int .i64 0]⟩
def ty73 : TI := ⟨.struct [(0, 26), (1, 3)], true, 2, 16, .agg #[.int .u64 0, .int .i64 0]⟩
def ty74 : TI := ⟨.struct [(0, 26), (1, 3)], true, 2, 16, .agg #[.int .u64 0, .int .i64 0]⟩
def ty75 : TI := ⟨.struct [(0, 26), (1, 3)], true, 2, 16, .agg #[.int .u64 0, .int .i64 0]⟩
def ty80 : TI := ⟨.arr 81 4, true, 81, 81, .agg (List.replicate 81 (.bool false)).toArray⟩
def ty87 : TI := ⟨.map 9 4, false, 1, 8, .map none⟩
def ty88 : TI := ⟨.map 3 4, false, 1, 8, .map none⟩
def ty96 : TI := ⟨.int .u64, false, 1, 8, .int .u64 0⟩
def ty98 : TI := ⟨.int .i64, false, 1, 8, .int .i64 0⟩
def ty107 : TI := ⟨.int .u32, false, 1, 4, .int .u32 0⟩
def ty109 : TI := ⟨.int .u64, false, 1, 8, .int .u64 0⟩
def ty112 : TI := ⟨.ptr 3, false, 1, 8, .pointer none⟩
def ty115 : TI := ⟨.ptr 109, false, 1, 8, .pointer none⟩
def ty119 : TI := ⟨.struct [(0, 17), (1, 17), (2, 17), (3, 9)], true, 4, 40, .agg #[.pointer none, .pointer none, .pointer none, .string ByteArray.empty]⟩
def ty120 : TI := ⟨.struct [(0, 17), (1, 17), (2, 17), (3, 9)], true, 4, 40, .agg #[.pointer none, .pointer none, .pointer none, .string ByteArray.empty]⟩
def ty121 : TI := ⟨.arr 0 16, true, 0, 0, .agg #[]⟩
def ty122 : TI := ⟨.struct [(0, 121)], true, 0, 0, .agg #[]⟩
def ty123 : TI := ⟨.struct [(0, 121)], true, 0, 0, .agg #[]⟩
def ty125 : TI := ⟨.int .u8, false, 1, 1, .int .u8 0⟩
def ty126 : TI := ⟨.int .u8, false, 1, 1, .int .u8 0⟩
def ty128 : TI := ⟨.ptr 5, false, 1, 8, .pointer none⟩
def ty129 : TI := ⟨.int .i32, false, 1, 4, .int .i32 0⟩
def ty130 : TI := ⟨.int .i32, false, 1, 4, .int .i32 0⟩
def ty131 : TI := ⟨.struct [(0, 12), (1, 12), (2, 107), (3, 125), (4, 5), (5, 5), (6, 126), (7, 127), (8, 128), (9, 129), (10, 130)], true, 11, 48, .agg #[.int .u64 0, .int .u64 0, .int .u32 0, .int .u8 0, .int .u8 0, .int .u8 0, .int .u8 0, .nilFunc, .pointer none, .int .i32 0, .int .i32 0]⟩
def ty132 : TI := ⟨.struct [(0, 12), (1, 12), (2, 107), (3, 125), (4, 5), (5, 5), (6, 126), (7, 127), (8, 128), (9, 129), (10, 130)], true, 11, 48, .agg #[.int .u64 0, .int .u64 0, .int .u32 0, .int .u8 0, .int .u8 0, .int .u8 0, .int .u8 0, .nilFunc, .pointer none, .int .i32 0, .int .i32 0]⟩
def tys : TyTab := [(3, ty3), (4, ty4), (9, ty9), (5, ty5), (2, ty2), (6, ty6), (7, ty7), (8, ty8), (10, ty10), (11, ty11), (12, ty12), (13, ty13), (14, ty14), (15, ty15), (16, ty16), (17, ty17), (18, ty18), (19, ty19), (20, ty20), (21, ty21), (22, ty22), (23, ty23), (24, ty24), (25, ty25), (26, ty26), (29, ty29), (30, ty30), (31, ty31), (32, ty32), (44, ty44), (46, ty46), (47, ty47), (49, ty49), (52, ty52), (65, ty65), (69, ty69), (70, ty70), (72, ty72), (73, ty73), (74, ty74), (75, ty75), (80, ty80), (87, ty87), (88, ty88), (96, ty96), (98, ty98), (107, ty107), (109, ty109), (112, ty112), (115, ty115), (119, ty119), (120, ty120), (121, ty121), (122, ty122), (123, ty123), (125, ty125), (126, ty126), (128, ty128), (129, ty129), (130, ty130), (131, ty131), (132, ty132)]
theorem te3 : TyEntry Try.prog 3 ty3 := ⟨⟨_, Try.underlying3, rfl, rfl⟩, by kernel_rfl⟩
theorem te4 : TyEntry Try.prog 4 ty4 := ⟨⟨_, Try.underlying4, trivial, rfl⟩, by kernel_rfl⟩
theorem te9 : TyEntry Try.prog 9 ty9 := ⟨⟨_, Try.underlying9, trivial, rfl⟩, by kernel_rfl⟩
theorem te5 : TyEntry Try.prog 5 ty5 := ⟨⟨_, Try.underlying5, rfl, rfl⟩, by kernel_rfl⟩
theorem te2 : TyEntry Try.prog 2 ty2 := ⟨⟨_, Try.underlying2, rfl, rfl⟩, by kernel_rfl⟩
theorem te6 : TyEntry Try.prog 6 ty6 := ⟨⟨_, Try.underlying6, rfl, rfl⟩, by kernel_rfl⟩
theorem te7 : TyEntry Try.prog 7 ty7 := ⟨⟨_, Try.underlying7, rfl, rfl⟩, by kernel_rfl⟩
theorem te8 : TyEntry Try.prog 8 ty8 := ⟨⟨_, Try.underlying8, rfl, rfl⟩, by kernel_rfl⟩
theorem te10 : TyEntry Try.prog 10 ty10 := ⟨⟨_, Try.underlying10, trivial, rfl⟩, by kernel_rfl⟩
theorem te11 : TyEntry Try.prog 11 ty11 := ⟨⟨_, Try.underlying11, trivial, rfl⟩, by kernel_rfl⟩
theorem te12 : TyEntry Try.prog 12 ty12 := ⟨⟨_, Try.underlying12, rfl, rfl⟩, by kernel_rfl⟩
theorem te13 : TyEntry Try.prog 13 ty13 := ⟨⟨_, Try.underlying13, rfl, rfl⟩, by kernel_rfl⟩
theorem te14 : TyEntry Try.prog 14 ty14 := ⟨⟨_, Try.underlying14, rfl, rfl⟩, by kernel_rfl⟩
theorem te15 : TyEntry Try.prog 15 ty15 := ⟨⟨_, Try.underlying15, rfl, rfl⟩, by kernel_rfl⟩
theorem te16 : TyEntry Try.prog 16 ty16 := ⟨⟨_, Try.underlying16, rfl, rfl⟩, by kernel_rfl⟩
theorem te17 : TyEntry Try.prog 17 ty17 := ⟨⟨_, Try.underlying17, rfl, rfl⟩, by kernel_rfl⟩
theorem te18 : TyEntry Try.prog 18 ty18 := ⟨⟨_, Try.underlying18, rfl, rfl⟩, by kernel_rfl⟩
theorem te19 : TyEntry Try.prog 19 ty19 := ⟨⟨_, Try.underlying19, rfl, rfl⟩, by kernel_rfl⟩
theorem te20 : TyEntry Try.prog 20 ty20 := ⟨⟨_, Try.underlying20, trivial, rfl⟩, by kernel_rfl⟩
theorem te21 : TyEntry Try.prog 21 ty21 := ⟨⟨_, Try.underlying21, rfl, rfl⟩, by kernel_rfl⟩
theorem te22 : TyEntry Try.prog 22 ty22 := ⟨⟨_, Try.underlying22, rfl, rfl⟩, by kernel_rfl⟩
theorem te23 : TyEntry Try.prog 23 ty23 := ⟨⟨_, Try.underlying23, rfl, rfl⟩, by kernel_rfl⟩
theorem te24 : TyEntry Try.prog 24 ty24 := ⟨⟨_, Try.underlying24, rfl, rfl⟩, by kernel_rfl⟩
theorem te25 : TyEntry Try.prog 25 ty25 := ⟨⟨_, Try.underlying25, rfl, rfl⟩, by kernel_rfl⟩
theorem te26 : TyEntry Try.prog 26 ty26 := ⟨⟨_, Try.underlying26, rfl, rfl⟩, by kernel_rfl⟩
theorem te29 : TyEntry Try.prog 29 ty29 := ⟨⟨_, Try.underlying29, rfl, rfl⟩, by kernel_rfl⟩
theorem te30 : TyEntry Try.prog 30 ty30 := ⟨⟨_, Try.underlying30, rfl, rfl⟩, by kernel_rfl⟩
theorem te31 : TyEntry Try.prog 31 ty31 := ⟨⟨_, Try.underlying31, rfl, rfl⟩, by kernel_rfl⟩
theorem te32 : TyEntry Try.prog 32 ty32 := ⟨⟨_, Try.underlying32, rfl, rfl⟩, by kernel_rfl⟩
theorem te44 : TyEntry Try.prog 44 ty44 := ⟨⟨_, Try.underlying44, rfl, rfl⟩, by kernel_rfl⟩
theorem te46 : TyEntry Try.prog 46 ty46 := ⟨⟨_, Try.underlying46, rfl, rfl⟩, by kernel_rfl⟩
theorem te47 : TyEntry Try.prog 47 ty47 := ⟨⟨_, Try.underlying47, rfl, rfl⟩, by kernel_rfl⟩
theorem te49 : TyEntry Try.prog 49 ty49 := ⟨⟨_, Try.underlying49, rfl, rfl⟩, by kernel_rfl⟩
theorem te52 : TyEntry Try.prog 52 ty52 := ⟨⟨_, Try.underlying52, rfl, rfl⟩, by kernel_rfl⟩
theorem te65 : TyEntry Try.prog 65 ty65 := ⟨⟨_, Try.underlying65, rfl, rfl⟩, by kernel_rfl⟩
theorem te69 : TyEntry Try.prog 69 ty69 := ⟨⟨_, Try.underlying69, rfl, rfl⟩, by kernel_rfl⟩
theorem te70 : TyEntry Try.prog 70 ty70 := ⟨⟨_, Try.underlying70, rfl, rfl⟩, by kernel_rfl⟩
theorem te72 : TyEntry Try.prog 72 ty72 := ⟨⟨_, Try.underlying72, rfl, rfl⟩, by kernel_rfl⟩
theorem te73 : TyEntry Try.prog 73 ty73 := ⟨⟨_, Try.underlying73, rfl, rfl⟩, by kernel_rfl⟩
theorem te74 : TyEntry Try.prog 74 ty74 := ⟨⟨_, Try.underlying74, rfl, rfl⟩, by kernel_rfl⟩
theorem te75 : TyEntry Try.prog 75 ty75 := ⟨⟨_, Try.underlying75, rfl, rfl⟩, by kernel_rfl⟩
theorem te80 : TyEntry Try.prog 80 ty80 := ⟨⟨_, Try.underlying80, ⟨rfl, rfl⟩, rfl⟩, by kernel_rfl⟩
theorem te87 : TyEntry Try.prog 87 ty87 := ⟨⟨_, Try.underlying87, ⟨rfl, rfl⟩, rfl⟩, by kernel_rfl⟩
theorem te88 : TyEntry Try.prog 88 ty88 := ⟨⟨_, Try.underlying88, ⟨rfl, rfl⟩, rfl⟩, by kernel_rfl⟩
theorem te96 : TyEntry Try.prog 96 ty96 := ⟨⟨_, Try.underlying96, rfl, rfl⟩, by kernel_rfl⟩
theorem te98 : TyEntry Try.prog 98 ty98 := ⟨⟨_, Try.underlying98, rfl, rfl⟩, by kernel_rfl⟩
theorem te107 : TyEntry Try.prog 107 ty107 := ⟨⟨_, Try.underlying107, rfl, rfl⟩, by kernel_rfl⟩
theorem te109 : TyEntry Try.prog 109 ty109 := ⟨⟨_, Try.underlying109, rfl, rfl⟩, by kernel_rfl⟩
theorem te112 : TyEntry Try.prog 112 ty112 := ⟨⟨_, Try.underlying112, rfl, rfl⟩, by kernel_rfl⟩
theorem te115 : TyEntry Try.prog 115 ty115 := ⟨⟨_, Try.underlying115, rfl, rfl⟩, by kernel_rfl⟩
theorem te119 : TyEntry Try.prog 119 ty119 := ⟨⟨_, Try.underlying119, rfl, rfl⟩, by kernel_rfl⟩
theorem te120 : TyEntry Try.prog 120 ty120 := ⟨⟨_, Try.underlying120, rfl, rfl⟩, by kernel_rfl⟩
theorem te121 : TyEntry Try.prog 121 ty121 := ⟨⟨_, Try.underlying121, ⟨rfl, rfl⟩, rfl⟩, by kernel_rfl⟩
theorem te122 : TyEntry Try.prog 122 ty122 := ⟨⟨_, Try.underlying122, rfl, rfl⟩, by kernel_rfl⟩
theorem te123 : TyEntry Try.prog 123 ty123 := ⟨⟨_, Try.underlying123, rfl, rfl⟩, by kernel_rfl⟩
theorem te125 : TyEntry Try.prog 125 ty125 := ⟨⟨_, Try.underlying125, rfl, rfl⟩, by kernel_rfl⟩
theorem te126 : TyEntry Try.prog 126 ty126 := ⟨⟨_, Try.underlying126, rfl, rfl⟩, by kernel_rfl⟩
theorem te128 : TyEntry Try.prog 128 ty128 := ⟨⟨_, Try.underlying128, rfl, rfl⟩, by kernel_rfl⟩
theorem te129 : TyEntry Try.prog 129 ty129 := ⟨⟨_, Try.underlying129, rfl, rfl⟩, by kernel_rfl⟩
theorem te130 : TyEntry Try.prog 130 ty130 := ⟨⟨_, Try.underlying130, rfl, rfl⟩, by kernel_rfl⟩
theorem te131 : TyEntry Try.prog 131 ty131 := ⟨⟨_, Try.underlying131, rfl, rfl⟩, by kernel_rfl⟩
theorem te132 : TyEntry Try.prog 132 ty132 := ⟨⟨_, Try.underlying132, rfl, rfl⟩, by kernel_rfl⟩
theorem tys_ok : ∀ x ∈ tys, TyEntry Try.prog x.1 x.2 := by
  intro x hx
  simp only [tys, List.mem_cons, List.not_mem_nil, or_false] at hx
  rcases hx with rfl | rfl | rfl | rfl | rfl | rfl | rfl | rfl | rfl | rfl | rfl | rfl | rfl | rfl | rfl | rfl | rfl | rfl | rfl | rfl | rfl | rfl | rfl | rfl | rfl | rfl | rfl | rfl | rfl | rfl | rfl | rfl | rfl | rfl | rfl | rfl | rfl | rfl | rfl | rfl | rfl | rfl | rfl | rfl | rfl | rfl | rfl | rfl | rfl | rfl | rfl | rfl | rfl | rfl | rfl | rfl | rfl | rfl | rfl | rfl | rfl | rfl
  · exact te3
  · exact te4
  · exact te9
  · exact te5
  · exact te2
  · exact te6
  · exact te7
  · exact te8
  · exact te10
  · exact te11
  · exact te12
  · exact te13
  · exact te14
  · exact te15
  · exact te16
  · exact te17
  · exact te18
  · exact te19
  · exact te20
  · exact te21
  · exact te22
  · exact te23
  · exact te24
  · exact te25
  · exact te26
  · exact te29
  · exact te30
  · exact te31
  · exact te32
  · exact te44
  · exact te46
  · exact te47
  · exact te49
  · exact te52
  · exact te65
  · exact te69
  · exact te70
  · exact te72
  · exact te73
  · exact te74
  · exact te75
  · exact te80
  · exact te87
  · exact te88
  · exact te96
  · exact te98
  · exact te107
  · exact te109
  · exact te112
  · exact te115
  · exact te119
  · exact te120
  · exact te121
  · exact te122
  · exact te123
  · exact te125
  · exact te126
  · exact te128
  · exact te129
  · exact te130
  · exact te131
  · exact te132
instance : TyOk Try.prog tys := ⟨tys_ok⟩
end Eng
end Go.Proofs.Ytkopdlglenejmaa

