/- The types of the program, as the engine reads them: written by a program (tys.py) out of the translation; each row is checked by the kernel. -/
import Derived.Test.YthejjlakmkdkeaaProg
import Derived.Test.YthejjlakmkdkeaaEngOps
import Derived.KernelRfl
namespace Go.Proofs.Ythejjlakmkdkeaa
namespace Eng

def ty3 : TI := ⟨.int .i64, false, 1, 8, .int .i64 0⟩
def ty4 : TI := ⟨.bool, false, 1, 1, .bool false⟩
def ty9 : TI := ⟨.str, false, 1, 16, .string ByteArray.empty⟩
def ty5 : TI := ⟨.int .u8, false, 1, 1, .int .u8 0⟩
def ty2 : TI := ⟨.int .i64, false, 1, 8, .int .i64 0⟩
def ty6 : TI := ⟨.int .u8, false, 1, 1, .int .u8 0⟩
def ty7 : TI := ⟨.struct [(0, 2), (1, 3), (2, 4), (3, 6)], true, 4, 24, .agg #[.int .i64 0, .int .i64 0, .bool false, .int .u8 0]⟩
def ty8 : TI := ⟨.struct [(0, 2), (1, 3), (2, 4), (3, 6)], true, 4, 24, .agg #[.int .i64 0, .int .i64 0, .bool false, .int .u8 0]⟩
def ty10 : TI := ⟨.str, false, 1, 16, .string ByteArray.empty⟩
def ty11 : TI := ⟨.str, false, 1, 16, .string ByteArray.empty⟩
def ty12 : TI := ⟨.int .u64, false, 1, 8, .int .u64 0⟩
def ty13 : TI := ⟨.struct [(0, 9), (1, 12)], true, 2, 24, .agg #[.string ByteArray.empty, .int .u64 0]⟩
def ty14 : TI := ⟨.struct [(0, 9), (1, 12)], true, 2, 24, .agg #[.string ByteArray.empty, .int .u64 0]⟩
def ty15 : TI := ⟨.ptr 75, false, 1, 8, .pointer none⟩
def ty16 : TI := ⟨.ptr 78, false, 1, 8, .pointer none⟩
def ty17 : TI := ⟨.ptr 86, false, 1, 8, .pointer none⟩
def ty18 : TI := ⟨.struct [(0, 17)], true, 1, 8, .agg #[.pointer none]⟩
def ty19 : TI := ⟨.struct [(0, 17)], true, 1, 8, .agg #[.pointer none]⟩
def ty20 : TI := ⟨.other, false, 1, 16, .nilIface⟩
def ty21 : TI := ⟨.int .i32, false, 1, 4, .int .i32 0⟩
def ty22 : TI := ⟨.slice 3, false, 1, 24, .slice none 0 0⟩
def ty23 : TI := ⟨.ptr 40, false, 1, 8, .pointer none⟩
def ty25 : TI := ⟨.ptr 42, false, 1, 8, .pointer none⟩
def ty29 : TI := ⟨.int .i64, false, 1, 8, .int .i64 0⟩
def ty33 : TI := ⟨.slice 36, false, 1, 24, .slice none 0 0⟩
def ty36 : TI := ⟨.arr 2 3, true, 2, 16, .agg #[.int .i64 0, .int .i64 0]⟩
def ty38 : TI := ⟨.map 3 4, false, 1, 8, .map none⟩
def ty39 : TI := ⟨.struct [(0, 3), (1, 3), (2, 38)], true, 3, 24, .agg #[.int .i64 0, .int .i64 0, .map none]⟩
def ty40 : TI := ⟨.struct [(0, 3), (1, 3), (2, 38)], true, 3, 24, .agg #[.int .i64 0, .int .i64 0, .map none]⟩
def ty41 : TI := ⟨.struct [(0, 3), (1, 22)], true, 2, 32, .agg #[.int .i64 0, .slice none 0 0]⟩
def ty42 : TI := ⟨.struct [(0, 3), (1, 22)], true, 2, 32, .agg #[.int .i64 0, .slice none 0 0]⟩
def ty51 : TI := ⟨.int .u64, false, 1, 8, .int .u64 0⟩
def ty53 : TI := ⟨.int .i64, false, 1, 8, .int .i64 0⟩
def ty61 : TI := ⟨.int .u32, false, 1, 4, .int .u32 0⟩
def ty63 : TI := ⟨.int .u64, false, 1, 8, .int .u64 0⟩
def ty64 : TI := ⟨.int .u64, false, 1, 8, .int .u64 0⟩
def ty68 : TI := ⟨.ptr 3, false, 1, 8, .pointer none⟩
def ty70 : TI := ⟨.ptr 64, false, 1, 8, .pointer none⟩
def ty74 : TI := ⟨.struct [(0, 17), (1, 17), (2, 17), (3, 9)], true, 4, 40, .agg #[.pointer none, .pointer none, .pointer none, .string ByteArray.empty]⟩
def ty75 : TI := ⟨.struct [(0, 17), (1, 17), (2, 17), (3, 9)], true, 4, 40, .agg #[.pointer none, .pointer none, .pointer none, .string ByteArray.empty]⟩
def ty76 : TI := ⟨.arr 0 16, true, 0, 0, .agg #[]⟩
def ty77 : TI := ⟨.struct [(0, 76)], true, 0, 0, .agg #[]⟩
def ty78 : TI := ⟨.struct [(0, 76)], true, 0, 0, .agg #[]⟩
def ty79 : TI := ⟨.int .u8, false, 1, 1, .int .u8 0⟩
def ty80 : TI := ⟨.int .u8, false, 1, 1, .int .u8 0⟩
def ty82 : TI := ⟨.ptr 5, false, 1, 8, .pointer none⟩
def ty83 : TI := ⟨.int .i32, false, 1, 4, .int .i32 0⟩
def ty84 : TI := ⟨.int .i32, false, 1, 4, .int .i32 0⟩
def ty85 : TI := ⟨.struct [(0, 12), (1, 12), (2, 61), (3, 79), (4, 5), (5, 5), (6, 80), (7, 81), (8, 82), (9, 83), (10, 84)], true, 11, 48, .agg #[.int .u64 0, .int .u64 0, .int .u32 0, .int .u8 0, .int .u8 0, .int .u8 0, .int .u8 0, .nilFunc, .pointer none, .int .i32 0, .int .i32 0]⟩
def ty86 : TI := ⟨.struct [(0, 12), (1, 12), (2, 61), (3, 79), (4, 5), (5, 5), (6, 80), (7, 81), (8, 82), (9, 83), (10, 84)], true, 11, 48, .agg #[.int .u64 0, .int .u64 0, .int .u32 0, .int .u8 0, .int .u8 0, .int .u8 0, .int .u8 0, .nilFunc, .pointer none, .int .i32 0, .int .i32 0]⟩
def tys : TyTab := [(3, ty3), (4, ty4), (9, ty9), (5, ty5), (2, ty2), (6, ty6), (7, ty7), (8, ty8), (10, ty10), (11, ty11), (12, ty12), (13, ty13), (14, ty14), (15, ty15), (16, ty16), (17, ty17), (18, ty18), (19, ty19), (20, ty20), (21, ty21), (22, ty22), (23, ty23), (25, ty25), (29, ty29), (33, ty33), (36, ty36), (38, ty38), (39, ty39), (40, ty40), (41, ty41), (42, ty42), (51, ty51), (53, ty53), (61, ty61), (63, ty63), (64, ty64), (68, ty68), (70, ty70), (74, ty74), (75, ty75), (76, ty76), (77, ty77), (78, ty78), (79, ty79), (80, ty80), (82, ty82), (83, ty83), (84, ty84), (85, ty85), (86, ty86)]
theorem te3 : TyEntry Try.prog 3 ty3 := ⟨⟨_, Try.underlying3, rfl, rfl⟩, by kernel_rfl⟩
theorem te4 : TyEntry Try.prog 4 ty4 := ⟨⟨_, Try.underlying4, trivial, rfl⟩, by kernel_rfl⟩
theorem te9 : TyEntry Try.prog 9 ty9 := ⟨⟨_, Try.underlying9, trivial, rfl⟩, by kernel_rfl⟩
theorem te5 : TyEntry Try.prog 5 ty5 := ⟨⟨_, Try.underlying5, rfl, rfl⟩, by kernel_rfl⟩
theorem te2 : TyEntry Try.prog 2 ty2 := ⟨⟨_, Try.underlying2, rfl, rfl⟩, by kernel_rfl⟩
theorem te6 : TyEntry Try.prog 6 ty6 := ⟨⟨_, Try.underlying6, rfl, rfl⟩, by kernel_rfl⟩
theorem te7 : TyEntry Try.prog 7 ty7 := ⟨⟨_, Try.underlying7, rfl, rfl⟩, by kernel_rfl⟩
theorem te8 : TyEntry Try.prog 8 ty8 := ⟨⟨_, Try.underlying8, rfl, rfl⟩, by kernel_rfl⟩
theorem te10 : TyEntry Try.prog 10 ty10 := ⟨⟨_, Try.underlying10, trivial, rfl⟩, by kernel_rfl⟩
theorem te11 : TyEntry Try.prog 11 ty11 := ⟨⟨_, Try.underlying11, trivial, rfl⟩, by kernel_rfl⟩
theorem te12 : TyEntry Try.prog 12 ty12 := ⟨⟨_, Try.underlying12, rfl, rfl⟩, by kernel_rfl⟩
theorem te13 : TyEntry Try.prog 13 ty13 := ⟨⟨_, Try.underlying13, rfl, rfl⟩, by kernel_rfl⟩
theorem te14 : TyEntry Try.prog 14 ty14 := ⟨⟨_, Try.underlying14, rfl, rfl⟩, by kernel_rfl⟩
theorem te15 : TyEntry Try.prog 15 ty15 := ⟨⟨_, Try.underlying15, rfl, rfl⟩, by kernel_rfl⟩
theorem te16 : TyEntry Try.prog 16 ty16 := ⟨⟨_, Try.underlying16, rfl, rfl⟩, by kernel_rfl⟩
theorem te17 : TyEntry Try.prog 17 ty17 := ⟨⟨_, Try.underlying17, rfl, rfl⟩, by kernel_rfl⟩
theorem te18 : TyEntry Try.prog 18 ty18 := ⟨⟨_, Try.underlying18, rfl, rfl⟩, by kernel_rfl⟩
theorem te19 : TyEntry Try.prog 19 ty19 := ⟨⟨_, Try.underlying19, rfl, rfl⟩, by kernel_rfl⟩
theorem te20 : TyEntry Try.prog 20 ty20 := ⟨⟨_, Try.underlying20, trivial, rfl⟩, by kernel_rfl⟩
theorem te21 : TyEntry Try.prog 21 ty21 := ⟨⟨_, Try.underlying21, rfl, rfl⟩, by kernel_rfl⟩
theorem te22 : TyEntry Try.prog 22 ty22 := ⟨⟨_, Try.underlying22, rfl, rfl⟩, by kernel_rfl⟩
theorem te23 : TyEntry Try.prog 23 ty23 := ⟨⟨_, Try.underlying23, rfl, rfl⟩, by kernel_rfl⟩
theorem te25 : TyEntry Try.prog 25 ty25 := ⟨⟨_, Try.underlying25, rfl, rfl⟩, by kernel_rfl⟩
theorem te29 : TyEntry Try.prog 29 ty29 := ⟨⟨_, Try.underlying29, rfl, rfl⟩, by kernel_rfl⟩
theorem te33 : TyEntry Try.prog 33 ty33 := ⟨⟨_, Try.underlying33, rfl, rfl⟩, by kernel_rfl⟩
theorem te36 : TyEntry Try.prog 36 ty36 := ⟨⟨_, Try.underlying36, ⟨rfl, rfl⟩, rfl⟩, by kernel_rfl⟩
theorem te38 : TyEntry Try.prog 38 ty38 := ⟨⟨_, Try.underlying38, ⟨rfl, rfl⟩, rfl⟩, by kernel_rfl⟩
theorem te39 : TyEntry Try.prog 39 ty39 := ⟨⟨_, Try.underlying39, rfl, rfl⟩, by kernel_rfl⟩
theorem te40 : TyEntry Try.prog 40 ty40 := ⟨⟨_, Try.underlying40, rfl, rfl⟩, by kernel_rfl⟩
theorem te41 : TyEntry Try.prog 41 ty41 := ⟨⟨_, Try.underlying41, rfl, rfl⟩, by kernel_rfl⟩
theorem te42 : TyEntry Try.prog 42 ty42 := ⟨⟨_, Try.underlying42, rfl, rfl⟩, by kernel_rfl⟩
theorem te51 : TyEntry Try.prog 51 ty51 := ⟨⟨_, Try.underlying51, rfl, rfl⟩, by kernel_rfl⟩
theorem te53 : TyEntry Try.prog 53 ty53 := ⟨⟨_, Try.underlying53, rfl, rfl⟩, by kernel_rfl⟩
theorem te61 : TyEntry Try.prog 61 ty61 := ⟨⟨_, Try.underlying61, rfl, rfl⟩, by kernel_rfl⟩
theorem te63 : TyEntry Try.prog 63 ty63 := ⟨⟨_, Try.underlying63, rfl, rfl⟩, by kernel_rfl⟩
theorem te64 : TyEntry Try.prog 64 ty64 := ⟨⟨_, Try.underlying64, rfl, rfl⟩, by kernel_rfl⟩
theorem te68 : TyEntry Try.prog 68 ty68 := ⟨⟨_, Try.underlying68, rfl, rfl⟩, by kernel_rfl⟩
theorem te70 : TyEntry Try.prog 70 ty70 := ⟨⟨_, Try.underlying70, rfl, rfl⟩, by kernel_rfl⟩
theorem te74 : TyEntry Try.prog 74 ty74 := ⟨⟨_, Try.underlying74, rfl, rfl⟩, by kernel_rfl⟩
theorem te75 : TyEntry Try.prog 75 ty75 := ⟨⟨_, Try.underlying75, rfl, rfl⟩, by kernel_rfl⟩
theorem te76 : TyEntry Try.prog 76 ty76 := ⟨⟨_, Try.underlying76, ⟨rfl, rfl⟩, rfl⟩, by kernel_rfl⟩
theorem te77 : TyEntry Try.prog 77 ty77 := ⟨⟨_, Try.underlying77, rfl, rfl⟩, by kernel_rfl⟩
theorem te78 : TyEntry Try.prog 78 ty78 := ⟨⟨_, Try.underlying78, rfl, rfl⟩, by kernel_rfl⟩
theorem te79 : TyEntry Try.prog 79 ty79 := ⟨⟨_, Try.underlying79, rfl, rfl⟩, by kernel_rfl⟩
theorem te80 : TyEntry Try.prog 80 ty80 := ⟨⟨_, Try.underlying80, rfl, rfl⟩, by kernel_rfl⟩
theorem te82 : TyEntry Try.prog 82 ty82 := ⟨⟨_, Try.underlying82, rfl, rfl⟩, by kernel_rfl⟩
theorem te83 : TyEntry Try.prog 83 ty83 := ⟨⟨_, Try.underlying83, rfl, rfl⟩, by kernel_rfl⟩
theorem te84 : TyEntry Try.prog 84 ty84 := ⟨⟨_, Try.underlying84, rfl, rfl⟩, by kernel_rfl⟩
theorem te85 : TyEntry Try.prog 85 ty85 := ⟨⟨_, Try.underlying85, rfl, rfl⟩, by kernel_rfl⟩
theorem te86 : TyEntry Try.prog 86 ty86 := ⟨⟨_, Try.underlying86, rfl, rfl⟩, by kernel_rfl⟩
theorem tys_ok : ∀ x ∈ tys, TyEntry Try.prog x.1 x.2 := by
  intro x hx
  simp only [tys, List.mem_cons, List.not_mem_nil, or_false] at hx
  rcases hx with rfl | rfl | rfl | rfl | rfl | rfl | rfl | rfl | rfl | rfl | rfl | rfl | rfl | rfl | rfl | rfl | rfl | rfl | rfl | rfl | rfl | rfl | rfl | rfl | rfl | rfl | rfl | rfl | rfl | rfl | rfl | rfl | rfl | rfl | rfl | rfl | rfl | rfl | rfl | rfl | rfl | rfl | rfl | rfl | rfl | rfl | rfl | rfl | rfl | rfl
  · exact te3
  · exact te4
  · exact te9
  · exact te5
  · exact te2
  · exact te6
  · exact te7
  · exact te8
  · exact te10
  · exact te11
  · exact te12
  · exact te13
  · exact te14
  · exact te15
  · exact te16
  · exact te17
  · exact te18
  · exact te19
  · exact te20
  · exact te21
  · exact te22
  · exact te23
  · exact te25
  · exact te29
  · exact te33
  · exact te36
  · exact te38
  · exact te39
  · exact te40
  · exact te41
  · exact te42
  · exact te51
  · exact te53
  · exact te61
  · exact te63
  · exact te64
  · exact te68
  · exact te70
  · exact te74
  · exact te75
  · exact te76
  · exact te77
  · exact te78
  · exact te79
  · exact te80
  · exact te82
  · exact te83
  · exact te84
  · exact te85
  · exact te86
instance : TyOk Try.prog tys := ⟨tys_ok⟩
end Eng
end Go.Proofs.Ythejjlakmkdkeaa

