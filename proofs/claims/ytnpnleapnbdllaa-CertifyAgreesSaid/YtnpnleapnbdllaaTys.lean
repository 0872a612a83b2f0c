/- The types of the program, as the engine reads them: written by a program (tys.py) out of the translation; each row is checked by the kernel. -/
import Derived.Test.YtnpnleapnbdllaaProg
import Derived.Test.YtnpnleapnbdllaaEngOps
import Derived.KernelRfl
namespace Go.Proofs.Ytnpnleapnbdllaa
namespace Eng

def ty3 : TI := ⟨.int .i64, false, 1, 8, .int .i64 0⟩
def ty4 : TI := ⟨.bool, false, 1, 1, .bool false⟩
def ty9 : TI := ⟨.str, false, 1, 16, .string ByteArray.empty⟩
def ty5 : TI := ⟨.int .u8, false, 1, 1, .int .u8 0⟩
def ty2 : TI := ⟨.int .i64, false, 1, 8, .int .i64 0⟩
def ty6 : TI := ⟨.int .u8, false, 1, 1, .int .u8 0⟩
def ty7 : TI := ⟨.struct [(0, 2), (1, 3), (2, 4), (3, 6)], true, 4, 24, .agg #[.int .i64 0, .int .i64 0, .bool false, .int .u8 0]⟩
def ty8 : TI := ⟨.struct [(0, 2), (1, 3), (2, 4), (3, 6)], true, 4, 24, .agg #[.int .i64 0, .int .i64 0, .bool false, .int .u8 0]⟩
def ty10 : TI := ⟨.str, false, 1, 16, .string ByteArray.empty⟩
def ty11 : TI := ⟨.str, false, 1, 16, .string ByteArray.empty⟩
def ty12 : TI := ⟨.int .u64, false, 1, 8, .int .u64 0⟩
def ty13 : TI := ⟨.struct [(0, 9), (1, 12)], true, 2, 24, .agg #[.string ByteArray.empty, .int .u64 0]⟩
def ty14 : TI := ⟨.struct [(0, 9), (1, 12)], true, 2, 24, .agg #[.string ByteArray.empty, .int .u64 0]⟩
def ty15 : TI := ⟨.ptr 122, false, 1, 8, .pointer none⟩
def ty16 : TI := ⟨.ptr 125, false, 1, 8, .pointer none⟩
def ty17 : TI := ⟨.ptr 134, false, 1, 8, .pointer none⟩
def ty18 : TI := ⟨.struct [(0, 17)], true, 1, 8, .agg #[.pointer none]⟩
def ty19 : TI := ⟨.struct [(0, 17)], true, 1, 8, .agg #[.pointer none]⟩
def ty20 : TI := ⟨.other, false, 1, 16, .nilIface⟩
def ty21 : TI := ⟨.int .i32, false, 1, 4, .int .i32 0⟩
def ty22 : TI := ⟨.slice 81, false, 1, 24, .slice none 0 0⟩
def ty23 : TI := ⟨.slice 63, false, 1, 24, .slice none 0 0⟩
def ty24 : TI := ⟨.struct [(0, 9), (1, 3), (2, 3), (3, 3), (4, 3), (5, 3), (6, 3), (7, 3), (8, 3), (9, 3), (10, 3), (11, 3), (12, 3), (13, 3), (14, 3), (15, 3), (16, 3), (17, 3), (18, 3), (19, 3), (20, 22), (21, 23)], true, 22, 216, .agg #[.string ByteArray.empty, .int .i64 0, .int .i64 0, .int .i64 0, .int .i64 0, .int .i64 0, .int .i64 0, .int .i64 0, .int .i64 0, .int .i64 0, .int .i64 0, .int .i64 0, .int .i64 0, .int .i64 0, .int .i64 0, .int .i64 0, .int .i64 0, .int .i64 0, .int .i64 0, .int .i64 0, .slice none 0 0, .slice none 0 0]⟩
def ty25 : TI := ⟨.struct [(0, 9), (1, 3), (2, 3), (3, 3), (4, 3), (5, 3), (6, 3), (7, 3), (8, 3), (9, 3), (10, 3), (11, 3), (12, 3), (13, 3), (14, 3), (15, 3), (16, 3), (17, 3), (18, 3), (19, 3), (20, 22), (21, 23)], true, 22, 216, .agg #[.string ByteArray.empty, .int .i64 0, .int .i64 0, .int .i64 0, .int .i64 0, .int .i64 0, .int .i64 0, .int .i64 0, .int .i64 0, .int .i64 0, .int .i64 0, .int .i64 0, .int .i64 0, .int .i64 0, .int .i64 0, .int .i64 0, .int .i64 0, .int .i64 0, .int .i64 0, .int .i64 0, .slice none 0 0, .slice none 0 0]⟩
def ty26 : TI := ⟨.slice 42, false, 1, 24, .slice none 0 0⟩
def ty28 : TI := ⟨.slice 3, false, 1, 24, .slice none 0 0⟩
def ty29 : TI := ⟨.struct [(0, 28), (1, 28), (2, 28), (3, 3), (4, 9)], true, 5, 96, .agg #[.slice none 0 0, .slice none 0 0, .slice none 0 0, .int .i64 0, .string ByteArray.empty]⟩
def ty30 : TI := ⟨.struct [(0, 28), (1, 28), (2, 28), (3, 3), (4, 9)], true, 5, 96, .agg #[.slice none 0 0, .slice none 0 0, .slice none 0 0, .int .i64 0, .string ByteArray.empty]⟩
def ty31 : TI := ⟨.int .i64, false, 1, 8, .int .i64 0⟩
def ty41 : TI := ⟨.struct [(0, 3), (1, 3), (2, 3)], true, 3, 24, .agg #[.int .i64 0, .int .i64 0, .int .i64 0]⟩
def ty42 : TI := ⟨.struct [(0, 3), (1, 3), (2, 3)], true, 3, 24, .agg #[.int .i64 0, .int .i64 0, .int .i64 0]⟩
def ty48 : TI := ⟨.slice 51, false, 1, 24, .slice none 0 0⟩
def ty50 : TI := ⟨.struct [(0, 3), (1, 30), (6, 4)], true, 7, 112, .agg #[.int .i64 0, .slice none 0 0, .slice none 0 0, .slice none 0 0, .int .i64 0, .string ByteArray.empty, .bool false]⟩
def ty51 : TI := ⟨.struct [(0, 3), (1, 30), (6, 4)], true, 7, 112, .agg #[.int .i64 0, .slice none 0 0, .slice none 0 0, .slice none 0 0, .int .i64 0, .string ByteArray.empty, .bool false]⟩
def ty57 : TI := ⟨.arr 9 4, true, 9, 9, .agg #[.bool false, .bool false, .bool false, .bool false, .bool false, .bool false, .bool false, .bool false, .bool false]⟩
def ty61 : TI := ⟨.arr 3 28, true, 3, 72, .agg #[.slice none 0 0, .slice none 0 0, .slice none 0 0]⟩
def ty62 : TI := ⟨.struct [(0, 3), (1, 3), (2, 3), (3, 3), (4, 3), (5, 3)], true, 6, 48, .agg #[.int .i64 0, .int .i64 0, .int .i64 0, .int .i64 0, .int .i64 0, .int .i64 0]⟩
def ty63 : TI := ⟨.struct [(0, 3), (1, 3), (2, 3), (3, 3), (4, 3), (5, 3)], true, 6, 48, .agg #[.int .i64 0, .int .i64 0, .int .i64 0, .int .i64 0, .int .i64 0, .int .i64 0]⟩
def ty67 : TI := ⟨.slice 9, false, 1, 24, .slice none 0 0⟩
def ty74 : TI := ⟨.arr 4 3, true, 4, 32, .agg #[.int .i64 0, .int .i64 0, .int .i64 0, .int .i64 0]⟩
def ty79 : TI := ⟨.int .u64, false, 1, 8, .int .u64 0⟩
def ty80 : TI := ⟨.struct [(0, 9), (1, 3), (2, 3), (3, 28), (4, 3), (5, 28)], true, 6, 88, .agg #[.string ByteArray.empty, .int .i64 0, .int .i64 0, .slice none 0 0, .int .i64 0, .slice none 0 0]⟩
def ty81 : TI := ⟨.struct [(0, 9), (1, 3), (2, 3), (3, 28), (4, 3), (5, 28)], true, 6, 88, .agg #[.string ByteArray.empty, .int .i64 0, .int .i64 0, .slice none 0 0, .int .i64 0, .slice none 0 0]⟩
def ty90 : TI := ⟨.map 9 4, false, 1, 8, .map none⟩
def ty91 : TI := ⟨.map 3 4, false, 1, 8, .map none⟩
def ty93 : TI := ⟨.int .i64, false, 1, 8, .int .i64 0⟩
def ty102 : TI := ⟨.int .u32, false, 1, 4, .int .u32 0⟩
def ty104 : TI := ⟨.int .u64, false, 1, 8, .int .u64 0⟩
def ty106 : TI := ⟨.arr 81 4, true, 81, 81, .agg (List.replicate 81 (.bool false)).toArray⟩
def ty110 : TI := ⟨.int .u64, false, 1, 8, .int .u64 0⟩
def ty114 : TI := ⟨.ptr 3, false, 1, 8, .pointer none⟩
def ty117 : TI := ⟨.ptr 110, false, 1, 8, .pointer none⟩
def ty121 : TI := ⟨.struct [(0, 17), (1, 17), (2, 17), (3, 9)], true, 4, 40, .agg #[.pointer none, .pointer none, .pointer none, .string ByteArray.empty]⟩
def ty122 : TI := ⟨.struct [(0, 17), (1, 17), (2, 17), (3, 9)], true, 4, 40, .agg #[.pointer none, .pointer none, .pointer none, .string ByteArray.empty]⟩
def ty123 : TI := ⟨.arr 0 16, true, 0, 0, .agg #[]⟩
def ty124 : TI := ⟨.struct [(0, 123)], true, 0, 0, .agg #[]⟩
def ty125 : TI := ⟨.struct [(0, 123)], true, 0, 0, .agg #[]⟩
def ty127 : TI := ⟨.int .u8, false, 1, 1, .int .u8 0⟩
def ty128 : TI := ⟨.int .u8, false, 1, 1, .int .u8 0⟩
def ty130 : TI := ⟨.ptr 5, false, 1, 8, .pointer none⟩
def ty131 : TI := ⟨.int .i32, false, 1, 4, .int .i32 0⟩
def ty132 : TI := ⟨.int .i32, false, 1, 4, .int .i32 0⟩
def ty133 : TI := ⟨.struct [(0, 12), (1, 12), (2, 102), (3, 127), (4, 5), (5, 5), (6, 128), (7, 129), (8, 130), (9, 131), (10, 132)], true, 11, 48, .agg #[.int .u64 0, .int .u64 0, .int .u32 0, .int .u8 0, .int .u8 0, .int .u8 0, .int .u8 0, .nilFunc, .pointer none, .int .i32 0, .int .i32 0]⟩
def ty134 : TI := ⟨.struct [(0, 12), (1, 12), (2, 102), (3, 127), (4, 5), (5, 5), (6, 128), (7, 129), (8, 130), (9, 131), (10, 132)], true, 11, 48, .agg #[.int .u64 0, .int .u64 0, .int .u32 0, .int .u8 0, .int .u8 0, .int .u8 0, .int .u8 0, .nilFunc, .pointer none, .int .i32 0, .int .i32 0]⟩
def tys : TyTab := [(3, ty3), (4, ty4), (9, ty9), (5, ty5), (2, ty2), (6, ty6), (7, ty7), (8, ty8), (10, ty10), (11, ty11), (12, ty12), (13, ty13), (14, ty14), (15, ty15), (16, ty16), (17, ty17), (18, ty18), (19, ty19), (20, ty20), (21, ty21), (22, ty22), (23, ty23), (24, ty24), (25, ty25), (26, ty26), (28, ty28), (29, ty29), (30, ty30), (31, ty31), (41, ty41), (42, ty42), (48, ty48), (50, ty50), (51, ty51), (57, ty57), (61, ty61), (62, ty62), (63, ty63), (67, ty67), (74, ty74), (79, ty79), (80, ty80), (81, ty81), (90, ty90), (91, ty91), (93, ty93), (102, ty102), (104, ty104), (106, ty106), (110, ty110), (114, ty114), (117, ty117), (121, ty121), (122, ty122), (123, ty123), (124, ty124), (125, ty125), (127, ty127), (128, ty128), (130, ty130), (131, ty131), (132, ty132), (133, ty133), (134, ty134)]
theorem te3 : TyEntry Try.prog 3 ty3 := ⟨⟨_, Try.underlying3, rfl, rfl⟩, by kernel_rfl⟩
theorem te4 : TyEntry Try.prog 4 ty4 := ⟨⟨_, Try.underlying4, trivial, rfl⟩, by kernel_rfl⟩
theorem te9 : TyEntry Try.prog 9 ty9 := ⟨⟨_, Try.underlying9, trivial, rfl⟩, by kernel_rfl⟩
theorem te5 : TyEntry Try.prog 5 ty5 := ⟨⟨_, Try.underlying5, rfl, rfl⟩, by kernel_rfl⟩
theorem te2 : TyEntry Try.prog 2 ty2 := ⟨⟨_, Try.underlying2, rfl, rfl⟩, by kernel_rfl⟩
theorem te6 : TyEntry Try.prog 6 ty6 := ⟨⟨_, Try.underlying6, rfl, rfl⟩, by kernel_rfl⟩
theorem te7 : TyEntry Try.prog 7 ty7 := ⟨⟨_, Try.underlying7, rfl, rfl⟩, by kernel_rfl⟩
theorem te8 : TyEntry Try.prog 8 ty8 := ⟨⟨_, Try.underlying8, rfl, rfl⟩, by kernel_rfl⟩
theorem te10 : TyEntry Try.prog 10 ty10 := ⟨⟨_, Try.underlying10, trivial, rfl⟩, by kernel_rfl⟩
theorem te11 : TyEntry Try.prog 11 ty11 := ⟨⟨_, Try.underlying11, trivial, rfl⟩, by kernel_rfl⟩
theorem te12 : TyEntry Try.prog 12 ty12 := ⟨⟨_, Try.underlying12, rfl, rfl⟩, by kernel_rfl⟩
theorem te13 : TyEntry Try.prog 13 ty13 := ⟨⟨_, Try.underlying13, rfl, rfl⟩, by kernel_rfl⟩
theorem te14 : TyEntry Try.prog 14 ty14 := ⟨⟨_, Try.underlying14, rfl, rfl⟩, by kernel_rfl⟩
theorem te15 : TyEntry Try.prog 15 ty15 := ⟨⟨_, Try.underlying15, rfl, rfl⟩, by kernel_rfl⟩
theorem te16 : TyEntry Try.prog 16 ty16 := ⟨⟨_, Try.underlying16, rfl, rfl⟩, by kernel_rfl⟩
theorem te17 : TyEntry Try.prog 17 ty17 := ⟨⟨_, Try.underlying17, rfl, rfl⟩, by kernel_rfl⟩
theorem te18 : TyEntry Try.prog 18 ty18 := ⟨⟨_, Try.underlying18, rfl, rfl⟩, by kernel_rfl⟩
theorem te19 : TyEntry Try.prog 19 ty19 := ⟨⟨_, Try.underlying19, rfl, rfl⟩, by kernel_rfl⟩
theorem te20 : TyEntry Try.prog 20 ty20 := ⟨⟨_, Try.underlying20, trivial, rfl⟩, by kernel_rfl⟩
theorem te21 : TyEntry Try.prog 21 ty21 := ⟨⟨_, Try.underlying21, rfl, rfl⟩, by kernel_rfl⟩
theorem te22 : TyEntry Try.prog 22 ty22 := ⟨⟨_, Try.underlying22, rfl, rfl⟩, by kernel_rfl⟩
theorem te23 : TyEntry Try.prog 23 ty23 := ⟨⟨_, Try.underlying23, rfl, rfl⟩, by kernel_rfl⟩
theorem te24 : TyEntry Try.prog 24 ty24 := ⟨⟨_, Try.underlying24, rfl, rfl⟩, by kernel_rfl⟩
theorem te25 : TyEntry Try.prog 25 ty25 := ⟨⟨_, Try.underlying25, rfl, rfl⟩, by kernel_rfl⟩
theorem te26 : TyEntry Try.prog 26 ty26 := ⟨⟨_, Try.underlying26, rfl, rfl⟩, by kernel_rfl⟩
theorem te28 : TyEntry Try.prog 28 ty28 := ⟨⟨_, Try.underlying28, rfl, rfl⟩, by kernel_rfl⟩
theorem te29 : TyEntry Try.prog 29 ty29 := ⟨⟨_, Try.underlying29, rfl, rfl⟩, by kernel_rfl⟩
theorem te30 : TyEntry Try.prog 30 ty30 := ⟨⟨_, Try.underlying30, rfl, rfl⟩, by kernel_rfl⟩
theorem te31 : TyEntry Try.prog 31 ty31 := ⟨⟨_, Try.underlying31, rfl, rfl⟩, by kernel_rfl⟩
theorem te41 : TyEntry Try.prog 41 ty41 := ⟨⟨_, Try.underlying41, rfl, rfl⟩, by kernel_rfl⟩
theorem te42 : TyEntry Try.prog 42 ty42 := ⟨⟨_, Try.underlying42, rfl, rfl⟩, by kernel_rfl⟩
theorem te48 : TyEntry Try.prog 48 ty48 := ⟨⟨_, Try.underlying48, rfl, rfl⟩, by kernel_rfl⟩
theorem te50 : TyEntry Try.prog 50 ty50 := ⟨⟨_, Try.underlying50, rfl, rfl⟩, by kernel_rfl⟩
theorem te51 : TyEntry Try.prog 51 ty51 := ⟨⟨_, Try.underlying51, rfl, rfl⟩, by kernel_rfl⟩
theorem te57 : TyEntry Try.prog 57 ty57 := ⟨⟨_, Try.underlying57, ⟨rfl, rfl⟩, rfl⟩, by kernel_rfl⟩
theorem te61 : TyEntry Try.prog 61 ty61 := ⟨⟨_, Try.underlying61, ⟨rfl, rfl⟩, rfl⟩, by kernel_rfl⟩
theorem te62 : TyEntry Try.prog 62 ty62 := ⟨⟨_, Try.underlying62, rfl, rfl⟩, by kernel_rfl⟩
theorem te63 : TyEntry Try.prog 63 ty63 := ⟨⟨_, Try.underlying63, rfl, rfl⟩, by kernel_rfl⟩
theorem te67 : TyEntry Try.prog 67 ty67 := ⟨⟨_, Try.underlying67, rfl, rfl⟩, by kernel_rfl⟩
theorem te74 : TyEntry Try.prog 74 ty74 := ⟨⟨_, Try.underlying74, ⟨rfl, rfl⟩, rfl⟩, by kernel_rfl⟩
theorem te79 : TyEntry Try.prog 79 ty79 := ⟨⟨_, Try.underlying79, rfl, rfl⟩, by kernel_rfl⟩
theorem te80 : TyEntry Try.prog 80 ty80 := ⟨⟨_, Try.underlying80, rfl, rfl⟩, by kernel_rfl⟩
theorem te81 : TyEntry Try.prog 81 ty81 := ⟨⟨_, Try.underlying81, rfl, rfl⟩, by kernel_rfl⟩
theorem te90 : TyEntry Try.prog 90 ty90 := ⟨⟨_, Try.underlying90, ⟨rfl, rfl⟩, rfl⟩, by kernel_rfl⟩
theorem te91 : TyEntry Try.prog 91 ty91 := ⟨⟨_, Try.underlying91, ⟨rfl, rfl⟩, rfl⟩, by kernel_rfl⟩
theorem te93 : TyEntry Try.prog 93 ty93 := ⟨⟨_, Try.underlying93, rfl, rfl⟩, by kernel_rfl⟩
theorem te102 : TyEntry Try.prog 102 ty102 := ⟨⟨_, Try.underlying102, rfl, rfl⟩, by kernel_rfl⟩
theorem te104 : TyEntry Try.prog 104 ty104 := ⟨⟨_, Try.underlying104, rfl, rfl⟩, by kernel_rfl⟩
theorem te106 : TyEntry Try.prog 106 ty106 := ⟨⟨_, Try.underlying106, ⟨rfl, rfl⟩, rfl⟩, by kernel_rfl⟩
theorem te110 : TyEntry Try.prog 110 ty110 := ⟨⟨_, Try.underlying110, rfl, rfl⟩, by kernel_rfl⟩
theorem te114 : TyEntry Try.prog 114 ty114 := ⟨⟨_, Try.underlying114, rfl, rfl⟩, by kernel_rfl⟩
theorem te117 : TyEntry Try.prog 117 ty117 := ⟨⟨_, Try.underlying117, rfl, rfl⟩, by kernel_rfl⟩
theorem te121 : TyEntry Try.prog 121 ty121 := ⟨⟨_, Try.underlying121, rfl, rfl⟩, by kernel_rfl⟩
theorem te122 : TyEntry Try.prog 122 ty122 := ⟨⟨_, Try.underlying122, rfl, rfl⟩, by kernel_rfl⟩
theorem te123 : TyEntry Try.prog 123 ty123 := ⟨⟨_, Try.underlying123, ⟨rfl, rfl⟩, rfl⟩, by kernel_rfl⟩
theorem te124 : TyEntry Try.prog 124 ty124 := ⟨⟨_, Try.underlying124, rfl, rfl⟩, by kernel_rfl⟩
theorem te125 : TyEntry Try.prog 125 ty125 := ⟨⟨_, Try.underlying125, rfl, rfl⟩, by kernel_rfl⟩
theorem te127 : TyEntry Try.prog 127 ty127 := ⟨⟨_, Try.underlying127, rfl, rfl⟩, by kernel_rfl⟩
theorem te128 : TyEntry Try.prog 128 ty128 := ⟨⟨_, Try.underlying128, rfl, rfl⟩, by kernel_rfl⟩
theorem te130 : TyEntry Try.prog 130 ty130 := ⟨⟨_, Try.underlying130, rfl, rfl⟩, by kernel_rfl⟩
theorem te131 : TyEntry Try.prog 131 ty131 := ⟨⟨_, Try.underlying131, rfl, rfl⟩, by kernel_rfl⟩
theorem te132 : TyEntry Try.prog 132 ty132 := ⟨⟨_, Try.underlying132, rfl, rfl⟩, by kernel_rfl⟩
theorem te133 : TyEntry Try.prog 133 ty133 := ⟨⟨_, Try.underlying133, rfl, rfl⟩, by kernel_rfl⟩
theorem te134 : TyEntry Try.prog 134 ty134 := ⟨⟨_, Try.underlying134, rfl, rfl⟩, by kernel_rfl⟩
theorem tys_ok : ∀ x ∈ tys, TyEntry Try.prog x.1 x.2 := by
  intro x hx
  simp only [tys, List.mem_cons, List.not_mem_nil, or_false] at hx
  rcases hx with rfl | rfl | rfl | rfl | rfl | rfl | rfl | rfl | rfl | rfl | rfl | rfl | rfl | rfl | rfl | rfl | rfl | rfl | rfl | rfl | rfl | rfl | rfl | rfl | rfl | rfl | rfl | rfl | rfl | rfl | rfl | rfl | rfl | rfl | rfl | rfl | rfl | rfl | rfl | rfl | rfl | rfl | rfl | rfl | rfl | rfl | rfl | rfl | rfl | rfl | rfl | rfl | rfl | rfl | rfl | rfl | rfl | rfl | rfl | rfl | rfl | rfl | rfl | rfl
  · exact te3
  · exact te4
  · exact te9
  · exact te5
  · exact te2
  · exact te6
  · exact te7
  · exact te8
  · exact te10
  · exact te11
  · exact te12
  · exact te13
  · exact te14
  · exact te15
  · exact te16
  · exact te17
  · exact te18
  · exact te19
  · exact te20
  · exact te21
  · exact te22
  · exact te23
  · exact te24
  · exact te25
  · exact te26
  · exact te28
  · exact te29
  · exact te30
  · exact te31
  · exact te41
  · exact te42
  · exact te48
  · exact te50
  · exact te51
  · exact te57
  · exact te61
  · exact te62
  · exact te63
  · exact te67
  · exact te74
  · exact te79
  · exact te80
  · exact te81
  · exact te90
  · exact te91
  · exact te93
  · exact te102
  · exact te104
  · exact te106
  · exact te110
  · exact te114
  · exact te117
  · exact te121
  · exact te122
  · exact te123
  · exact te124
  · exact te125
  · exact te127
  · exact te128
  · exact te130
  · exact te131
  · exact te132
  · exact te133
  · exact te134
instance : TyOk Try.prog tys := ⟨tys_ok⟩
end Eng
end Go.Proofs.Ytnpnleapnbdllaa

