/- The types of the program, as the engine reads them: written by a program (tys.py) out of the translation; each row is checked by the kernel. -/
import Derived.Test.YtadnflbohflckaaProg
import Derived.Test.YtadnflbohflckaaEngOps
import Derived.KernelRfl
namespace Go.Proofs.Ytadnflbohflckaa
namespace Eng

def ty3 : TI := ⟨.int .i64, false, 1, 8, .int .i64 0⟩
def ty4 : TI := ⟨.bool, false, 1, 1, .bool false⟩
def ty9 : TI := ⟨.str, false, 1, 16, .string ByteArray.empty⟩
def ty5 : TI := ⟨.int .u8, false, 1, 1, .int .u8 0⟩
def ty2 : TI := ⟨.int .i64, false, 1, 8, .int .i64 0⟩
def ty6 : TI := ⟨.int .u8, false, 1, 1, .int .u8 0⟩
def ty7 : TI := ⟨.struct [(0, 2), (1, 3), (2, 4), (3, 6)], true, 4, 24, .agg #[.int .i64 0, .int .i64 0, .bool false, .int .u8 0]⟩
def ty8 : TI := ⟨.struct [(0, 2), (1, 3), (2, 4), (3, 6)], true, 4, 24, .agg #[.int .i64 0, .int .i64 0, .bool false, .int .u8 0]⟩
def ty10 : TI := ⟨.str, false, 1, 16, .string ByteArray.empty⟩
def ty11 : TI := ⟨.str, false, 1, 16, .string ByteArray.empty⟩
def ty12 : TI := ⟨.int .u64, false, 1, 8, .int .u64 0⟩
def ty13 : TI := ⟨.struct [(0, 9), (1, 12)], true, 2, 24, .agg #[.string ByteArray.empty, .int .u64 0]⟩
def ty14 : TI := ⟨.struct [(0, 9), (1, 12)], true, 2, 24, .agg #[.string ByteArray.empty, .int .u64 0]⟩
def ty15 : TI := ⟨.ptr 83, false, 1, 8, .pointer none⟩
def ty16 : TI := ⟨.ptr 86, false, 1, 8, .pointer none⟩
def ty17 : TI := ⟨.ptr 94, false, 1, 8, .pointer none⟩
def ty18 : TI := ⟨.struct [(0, 17)], true, 1, 8, .agg #[.pointer none]⟩
def ty19 : TI := ⟨.struct [(0, 17)], true, 1, 8, .agg #[.pointer none]⟩
def ty20 : TI := ⟨.other, false, 1, 16, .nilIface⟩
def ty21 : TI := ⟨.int .i32, false, 1, 4, .int .i32 0⟩
def ty22 : TI := ⟨.slice 31, false, 1, 24, .slice none 0 0⟩
def ty24 : TI := ⟨.ptr 47, false, 1, 8, .pointer none⟩
def ty26 : TI := ⟨.ptr 49, false, 1, 8, .pointer none⟩
def ty28 : TI := ⟨.int .i64, false, 1, 8, .int .i64 0⟩
def ty30 : TI := ⟨.struct [(0, 9), (1, 9), (2, 3)], true, 3, 40, .agg #[.string ByteArray.empty, .string ByteArray.empty, .int .i64 0]⟩
def ty31 : TI := ⟨.struct [(0, 9), (1, 9), (2, 3)], true, 3, 40, .agg #[.string ByteArray.empty, .string ByteArray.empty, .int .i64 0]⟩
def ty34 : TI := ⟨.slice 37, false, 1, 24, .slice none 0 0⟩
def ty36 : TI := ⟨.struct [(0, 9), (1, 3)], true, 2, 24, .agg #[.string ByteArray.empty, .int .i64 0]⟩
def ty37 : TI := ⟨.struct [(0, 9), (1, 3)], true, 2, 24, .agg #[.string ByteArray.empty, .int .i64 0]⟩
def ty45 : TI := ⟨.map 9 3, false, 1, 8, .map none⟩
def ty46 : TI := ⟨.struct [(0, 45), (1, 3)], true, 2, 16, .agg #[.map none, .int .i64 0]⟩
def ty47 : TI := ⟨.struct [(0, 45), (1, 3)], true, 2, 16, .agg #[.map none, .int .i64 0]⟩
def ty48 : TI := ⟨.struct [(0, 34), (1, 3)], true, 2, 32, .agg #[.slice none 0 0, .int .i64 0]⟩
def ty49 : TI := ⟨.struct [(0, 34), (1, 3)], true, 2, 32, .agg #[.slice none 0 0, .int .i64 0]⟩
def ty53 : TI := ⟨.slice 9, false, 1, 24, .slice none 0 0⟩
def ty59 : TI := ⟨.int .u64, false, 1, 8, .int .u64 0⟩
def ty61 : TI := ⟨.int .i64, false, 1, 8, .int .i64 0⟩
def ty69 : TI := ⟨.int .u32, false, 1, 4, .int .u32 0⟩
def ty71 : TI := ⟨.int .u64, false, 1, 8, .int .u64 0⟩
def ty72 : TI := ⟨.int .u64, false, 1, 8, .int .u64 0⟩
def ty76 : TI := ⟨.ptr 3, false, 1, 8, .pointer none⟩
def ty78 : TI := ⟨.ptr 72, false, 1, 8, .pointer none⟩
def ty82 : TI := ⟨.struct [(0, 17), (1, 17), (2, 17), (3, 9)], true, 4, 40, .agg #[.pointer none, .pointer none, .pointer none, .string ByteArray.empty]⟩
def ty83 : TI := ⟨.struct [(0, 17), (1, 17), (2, 17), (3, 9)], true, 4, 40, .agg #[.pointer none, .pointer none, .pointer none, .string ByteArray.empty]⟩
def ty84 : TI := ⟨.arr 0 16, true, 0, 0, .agg #[]⟩
def ty85 : TI := ⟨.struct [(0, 84)], true, 0, 0, .agg #[]⟩
def ty86 : TI := ⟨.struct [(0, 84)], true, 0, 0, .agg #[]⟩
def ty87 : TI := ⟨.int .u8, false, 1, 1, .int .u8 0⟩
def ty88 : TI := ⟨.int .u8, false, 1, 1, .int .u8 0⟩
def ty90 : TI := ⟨.ptr 5, false, 1, 8, .pointer none⟩
def ty91 : TI := ⟨.int .i32, false, 1, 4, .int .i32 0⟩
def ty92 : TI := ⟨.int .i32, false, 1, 4, .int .i32 0⟩
def ty93 : TI := ⟨.struct [(0, 12), (1, 12), (2, 69), (3, 87), (4, 5), (5, 5), (6, 88), (7, 89), (8, 90), (9, 91), (10, 92)], true, 11, 48, .agg #[.int .u64 0, .int .u64 0, .int .u32 0, .int .u8 0, .int .u8 0, .int .u8 0, .int .u8 0, .nilFunc, .pointer none, .int .i32 0, .int .i32 0]⟩
def ty94 : TI := ⟨.struct [(0, 12), (1, 12), (2, 69), (3, 87), (4, 5), (5, 5), (6, 88), (7, 89), (8, 90), (9, 91), (10, 92)], true, 11, 48, .agg #[.int .u64 0, .int .u64 0, .int .u32 0, .int .u8 0, .int .u8 0, .int .u8 0, .int .u8 0, .nilFunc, .pointer none, .int .i32 0, .int .i32 0]⟩
def tys : TyTab := [(3, ty3), (4, ty4), (9, ty9), (5, ty5), (2, ty2), (6, ty6), (7, ty7), (8, ty8), (10, ty10), (11, ty11), (12, ty12), (13, ty13), (14, ty14), (15, ty15), (16, ty16), (17, ty17), (18, ty18), (19, ty19), (20, ty20), (21, ty21), (22, ty22), (24, ty24), (26, ty26), (28, ty28), (30, ty30), (31, ty31), (34, ty34), (36, ty36), (37, ty37), (45, ty45), (46, ty46), (47, ty47), (48, ty48), (49, ty49), (53, ty53), (59, ty59), (61, ty61), (69, ty69), (71, ty71), (72, ty72), (76, ty76), (78, ty78), (82, ty82), (83, ty83), (84, ty84), (85, ty85), (86, ty86), (87, ty87), (88, ty88), (90, ty90), (91, ty91), (92, ty92), (93, ty93), (94, ty94)]
theorem te3 : TyEntry Try.prog 3 ty3 := ⟨⟨_, Try.underlying3, rfl, rfl⟩, by kernel_rfl⟩
theorem te4 : TyEntry Try.prog 4 ty4 := ⟨⟨_, Try.underlying4, trivial, rfl⟩, by kernel_rfl⟩
theorem te9 : TyEntry Try.prog 9 ty9 := ⟨⟨_, Try.underlying9, trivial, rfl⟩, by kernel_rfl⟩
theorem te5 : TyEntry Try.prog 5 ty5 := ⟨⟨_, Try.underlying5, rfl, rfl⟩, by kernel_rfl⟩
theorem te2 : TyEntry Try.prog 2 ty2 := ⟨⟨_, Try.underlying2, rfl, rfl⟩, by kernel_rfl⟩
theorem te6 : TyEntry Try.prog 6 ty6 := ⟨⟨_, Try.underlying6, rfl, rfl⟩, by kernel_rfl⟩
theorem te7 : TyEntry Try.prog 7 ty7 := ⟨⟨_, Try.underlying7, rfl, rfl⟩, by kernel_rfl⟩
theorem te8 : TyEntry Try.prog 8 ty8 := ⟨⟨_, Try.underlying8, rfl, rfl⟩, by kernel_rfl⟩
theorem te10 : TyEntry Try.prog 10 ty10 := ⟨⟨_, Try.underlying10, trivial, rfl⟩, by kernel_rfl⟩
theorem te11 : TyEntry Try.prog 11 ty11 := ⟨⟨_, Try.underlying11, trivial, rfl⟩, by kernel_rfl⟩
theorem te12 : TyEntry Try.prog 12 ty12 := ⟨⟨_, Try.underlying12, rfl, rfl⟩, by kernel_rfl⟩
theorem te13 : TyEntry Try.prog 13 ty13 := ⟨⟨_, Try.underlying13, rfl, rfl⟩, by kernel_rfl⟩
theorem te14 : TyEntry Try.prog 14 ty14 := ⟨⟨_, Try.underlying14, rfl, rfl⟩, by kernel_rfl⟩
theorem te15 : TyEntry Try.prog 15 ty15 := ⟨⟨_, Try.underlying15, rfl, rfl⟩, by kernel_rfl⟩
theorem te16 : TyEntry Try.prog 16 ty16 := ⟨⟨_, Try.underlying16, rfl, rfl⟩, by kernel_rfl⟩
theorem te17 : TyEntry Try.prog 17 ty17 := ⟨⟨_, Try.underlying17, rfl, rfl⟩, by kernel_rfl⟩
theorem te18 : TyEntry Try.prog 18 ty18 := ⟨⟨_, Try.underlying18, rfl, rfl⟩, by kernel_rfl⟩
theorem te19 : TyEntry Try.prog 19 ty19 := ⟨⟨_, Try.underlying19, rfl, rfl⟩, by kernel_rfl⟩
theorem te20 : TyEntry Try.prog 20 ty20 := ⟨⟨_, Try.underlying20, trivial, rfl⟩, by kernel_rfl⟩
theorem te21 : TyEntry Try.prog 21 ty21 := ⟨⟨_, Try.underlying21, rfl, rfl⟩, by kernel_rfl⟩
theorem te22 : TyEntry Try.prog 22 ty22 := ⟨⟨_, Try.underlying22, rfl, rfl⟩, by kernel_rfl⟩
theorem te24 : TyEntry Try.prog 24 ty24 := ⟨⟨_, Try.underlying24, rfl, rfl⟩, by kernel_rfl⟩
theorem te26 : TyEntry Try.prog 26 ty26 := ⟨⟨_, Try.underlying26, rfl, rfl⟩, by kernel_rfl⟩
theorem te28 : TyEntry Try.prog 28 ty28 := ⟨⟨_, Try.underlying28, rfl, rfl⟩, by kernel_rfl⟩
theorem te30 : TyEntry Try.prog 30 ty30 := ⟨⟨_, Try.underlying30, rfl, rfl⟩, by kernel_rfl⟩
theorem te31 : TyEntry Try.prog 31 ty31 := ⟨⟨_, Try.underlying31, rfl, rfl⟩, by kernel_rfl⟩
theorem te34 : TyEntry Try.prog 34 ty34 := ⟨⟨_, Try.underlying34, rfl, rfl⟩, by kernel_rfl⟩
theorem te36 : TyEntry Try.prog 36 ty36 := ⟨⟨_, Try.underlying36, rfl, rfl⟩, by kernel_rfl⟩
theorem te37 : TyEntry Try.prog 37 ty37 := ⟨⟨_, Try.underlying37, rfl, rfl⟩, by kernel_rfl⟩
theorem te45 : TyEntry Try.prog 45 ty45 := ⟨⟨_, Try.underlying45, ⟨rfl, rfl⟩, rfl⟩, by kernel_rfl⟩
theorem te46 : TyEntry Try.prog 46 ty46 := ⟨⟨_, Try.underlying46, rfl, rfl⟩, by kernel_rfl⟩
theorem te47 : TyEntry Try.prog 47 ty47 := ⟨⟨_, Try.underlying47, rfl, rfl⟩, by kernel_rfl⟩
theorem te48 : TyEntry Try.prog 48 ty48 := ⟨⟨_, Try.underlying48, rfl, rfl⟩, by kernel_rfl⟩
theorem te49 : TyEntry Try.prog 49 ty49 := ⟨⟨_, Try.underlying49, rfl, rfl⟩, by kernel_rfl⟩
theorem te53 : TyEntry Try.prog 53 ty53 := ⟨⟨_, Try.underlying53, rfl, rfl⟩, by kernel_rfl⟩
theorem te59 : TyEntry Try.prog 59 ty59 := ⟨⟨_, Try.underlying59, rfl, rfl⟩, by kernel_rfl⟩
theorem te61 : TyEntry Try.prog 61 ty61 := ⟨⟨_, Try.underlying61, rfl, rfl⟩, by kernel_rfl⟩
theorem te69 : TyEntry Try.prog 69 ty69 := ⟨⟨_, Try.underlying69, rfl, rfl⟩, by kernel_rfl⟩
theorem te71 : TyEntry Try.prog 71 ty71 := ⟨⟨_, Try.underlying71, rfl, rfl⟩, by kernel_rfl⟩
theorem te72 : TyEntry Try.prog 72 ty72 := ⟨⟨_, Try.underlying72, rfl, rfl⟩, by kernel_rfl⟩
theorem te76 : TyEntry Try.prog 76 ty76 := ⟨⟨_, Try.underlying76, rfl, rfl⟩, by kernel_rfl⟩
theorem te78 : TyEntry Try.prog 78 ty78 := ⟨⟨_, Try.underlying78, rfl, rfl⟩, by kernel_rfl⟩
theorem te82 : TyEntry Try.prog 82 ty82 := ⟨⟨_, Try.underlying82, rfl, rfl⟩, by kernel_rfl⟩
theorem te83 : TyEntry Try.prog 83 ty83 := ⟨⟨_, Try.underlying83, rfl, rfl⟩, by kernel_rfl⟩
theorem te84 : TyEntry Try.prog 84 ty84 := ⟨⟨_, Try.underlying84, ⟨rfl, rfl⟩, rfl⟩, by kernel_rfl⟩
theorem te85 : TyEntry Try.prog 85 ty85 := ⟨⟨_, Try.underlying85, rfl, rfl⟩, by kernel_rfl⟩
theorem te86 : TyEntry Try.prog 86 ty86 := ⟨⟨_, Try.underlying86, rfl, rfl⟩, by kernel_rfl⟩
theorem te87 : TyEntry Try.prog 87 ty87 := ⟨⟨_, Try.underlying87, rfl, rfl⟩, by kernel_rfl⟩
theorem te88 : TyEntry Try.prog 88 ty88 := ⟨⟨_, Try.underlying88, rfl, rfl⟩, by kernel_rfl⟩
theorem te90 : TyEntry Try.prog 90 ty90 := ⟨⟨_, Try.underlying90, rfl, rfl⟩, by kernel_rfl⟩
theorem te91 : TyEntry Try.prog 91 ty91 := ⟨⟨_, Try.underlying91, rfl, rfl⟩, by kernel_rfl⟩
theorem te92 : TyEntry Try.prog 92 ty92 := ⟨⟨_, Try.underlying92, rfl, rfl⟩, by kernel_rfl⟩
theorem te93 : TyEntry Try.prog 93 ty93 := ⟨⟨_, Try.underlying93, rfl, rfl⟩, by kernel_rfl⟩
theorem te94 : TyEntry Try.prog 94 ty94 := ⟨⟨_, Try.underlying94, rfl, rfl⟩, by kernel_rfl⟩
theorem tys_ok : ∀ x ∈ tys, TyEntry Try.prog x.1 x.2 := by
  intro x hx
  simp only [tys, List.mem_cons, List.not_mem_nil, or_false] at hx
  rcases hx with rfl | rfl | rfl | rfl | rfl | rfl | rfl | rfl | rfl | rfl | rfl | rfl | rfl | rfl | rfl | rfl | rfl | rfl | rfl | rfl | rfl | rfl | rfl | rfl | rfl | rfl | rfl | rfl | rfl | rfl | rfl | rfl | rfl | rfl | rfl | rfl | rfl | rfl | rfl | rfl | rfl | rfl | rfl | rfl | rfl | rfl | rfl | rfl | rfl | rfl | rfl | rfl | rfl | rfl
  · exact te3
  · exact te4
  · exact te9
  · exact te5
  · exact te2
  · exact te6
  · exact te7
  · exact te8
  · exact te10
  · exact te11
  · exact te12
  · exact te13
  · exact te14
  · exact te15
  · exact te16
  · exact te17
  · exact te18
  · exact te19
  · exact te20
  · exact te21
  · exact te22
  · exact te24
  · exact te26
  · exact te28
  · exact te30
  · exact te31
  · exact te34
  · exact te36
  · exact te37
  · exact te45
  · exact te46
  · exact te47
  · exact te48
  · exact te49
  · exact te53
  · exact te59
  · exact te61
  · exact te69
  · exact te71
  · exact te72
  · exact te76
  · exact te78
  · exact te82
  · exact te83
  · exact te84
  · exact te85
  · exact te86
  · exact te87
  · exact te88
  · exact te90
  · exact te91
  · exact te92
  · exact te93
  · exact te94
instance : TyOk Try.prog tys := ⟨tys_ok⟩
end Eng
end Go.Proofs.Ytadnflbohflckaa

