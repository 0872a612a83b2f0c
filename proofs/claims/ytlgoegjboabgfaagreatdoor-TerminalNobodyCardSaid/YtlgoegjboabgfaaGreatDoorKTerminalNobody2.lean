/- What the claim rests on, part 2: models of the functions in plain Lean and walks through their code; printed by programs. -/
import Derived.Test.YtlgoegjboabgfaaGreatDoorProg
import Derived.KernelRfl
import Derived.Shelf.Strings.Builder1
import Derived.Shelf.Strings.Builder2
import Derived.Shelf.Strings.OnBuilder
import Derived.Shelf.Small.Bits
import Derived.Shelf.Small.Strs
import Derived.Shelf.Small.Wraps
import Derived.Shelf.Strings.BuilderF
import Derived.Shelf.Strings.BuilderK
import Derived.Shelf.Strconv.Itoa0
import Derived.Shelf.Strconv.Itoa1
import Derived.Shelf.LaysM
import Derived.Shelf.Strconv.Itoa2
import Derived.Shelf.Strconv.Itoa3
import Derived.Shelf.Strings.Search1
import Derived.Shelf.Sort.Plain
import Derived.Shelf.Strings.Prefix
import Derived.Shelf.Bits.Mul64
import Derived.Shelf.Strings.Repeat
import Derived.Shelf.Slices.Turned
import Derived.Shelf.Slices.Equal
import Derived.Ground.Names2Prog
import Derived.Shelf.Slices.Clone
import Derived.Shelf.Slices.SearchI
import Derived.Shelf.Slices.In.SortNone
import Derived.Shelf.Slices.Empties2
import Derived.Lib.SlKeysI
import Derived.Lib.EndianBits
import Derived.Test.YtlgoegjboabgfaaGreatDoorKTerminalNobody1
set_option linter.unusedVariables false
set_option linter.unusedSimpArgs false
namespace Go.Proofs.YtlgoegjboabgfaaGreatDoor
namespace Eng
def ty3 : TI := ⟨.int .i64, false, 1, 8, .int .i64 0⟩
def ty4 : TI := ⟨.bool, false, 1, 1, .bool false⟩
def ty9 : TI := ⟨.str, false, 1, 16, .string ByteArray.empty⟩
def ty5 : TI := ⟨.int .u8, false, 1, 1, .int .u8 0⟩
def ty2 : TI := ⟨.int .i64, false, 1, 8, .int .i64 0⟩
def ty6 : TI := ⟨.int .u8, false, 1, 1, .int .u8 0⟩
def ty7 : TI := ⟨.struct [(0, 2), (1, 3), (2, 4), (3, 6)], true, 4, 24, .agg #[.int .i64 0, .int .i64 0, .bool false, .int .u8 0]⟩
def ty8 : TI := ⟨.struct [(0, 2), (1, 3), (2, 4), (3, 6)], true, 4, 24, .agg #[.int .i64 0, .int .i64 0, .bool false, .int .u8 0]⟩
def ty10 : TI := ⟨.str, false, 1, 16, .string ByteArray.empty⟩
def ty11 : TI := ⟨.str, false, 1, 16, .string ByteArray.empty⟩
def ty12 : TI := ⟨.int .u64, false, 1, 8, .int .u64 0⟩
def ty13 : TI := ⟨.struct [(0, 9), (1, 12)], true, 2, 24, .agg #[.string ByteArray.empty, .int .u64 0]⟩
def ty14 : TI := ⟨.struct [(0, 9), (1, 12)], true, 2, 24, .agg #[.string ByteArray.empty, .int .u64 0]⟩
def ty15 : TI := ⟨.ptr 300, false, 1, 8, .pointer none⟩
def ty16 : TI := ⟨.ptr 303, false, 1, 8, .pointer none⟩
def ty17 : TI := ⟨.ptr 310, false, 1, 8, .pointer none⟩
def ty18 : TI := ⟨.struct [(0, 17)], true, 1, 8, .agg #[.pointer none]⟩
def ty19 : TI := ⟨.struct [(0, 17)], true, 1, 8, .agg #[.pointer none]⟩
def ty20 : TI := ⟨.other, false, 1, 16, .nilIface⟩
def ty21 : TI := ⟨.int .i32, false, 1, 4, .int .i32 0⟩
def ty22 : TI := ⟨.int .u16, false, 1, 2, .int .u16 0⟩
def ty23 : TI := ⟨.ptr 95, false, 1, 8, .pointer none⟩
def ty25 : TI := ⟨.int .u64, false, 1, 8, .int .u64 0⟩
def ty26 : TI := ⟨.int .i64, false, 1, 8, .int .i64 0⟩
def ty28 : TI := ⟨.slice 122, false, 1, 24, .slice none 0 0⟩
def ty29 : TI := ⟨.slice 102, false, 1, 24, .slice none 0 0⟩
def ty30 : TI := ⟨.struct [(0, 9), (1, 3), (2, 3), (3, 3), (4, 3), (5, 3), (6, 3), (7, 3), (8, 3), (9, 3), (10, 3), (11, 3), (12, 3), (13, 3), (14, 3), (15, 3), (16, 3), (17, 3), (18, 3), (19, 3), (20, 28), (21, 29)], true, 22, 216, .agg #[.string ByteArray.empty, .int .i64 0, .int .i64 0, .int .i64 0, .int .i64 0, .int .i64 0, .int .i64 0, .int .i64 0, .int .i64 0, .int .i64 0, .int .i64 0, .int .i64 0, .int .i64 0, .int .i64 0, .int .i64 0, .int .i64 0, .int .i64 0, .int .i64 0, .int .i64 0, .int .i64 0, .slice none 0 0, .slice none 0 0]⟩
def ty31 : TI := ⟨.struct [(0, 9), (1, 3), (2, 3), (3, 3), (4, 3), (5, 3), (6, 3), (7, 3), (8, 3), (9, 3), (10, 3), (11, 3), (12, 3), (13, 3), (14, 3), (15, 3), (16, 3), (17, 3), (18, 3), (19, 3), (20, 28), (21, 29)], true, 22, 216, .agg #[.string ByteArray.empty, .int .i64 0, .int .i64 0, .int .i64 0, .int .i64 0, .int .i64 0, .int .i64 0, .int .i64 0, .int .i64 0, .int .i64 0, .int .i64 0, .int .i64 0, .int .i64 0, .int .i64 0, .int .i64 0, .int .i64 0, .int .i64 0, .int .i64 0, .int .i64 0, .int .i64 0, .slice none 0 0, .slice none 0 0]⟩
def ty33 : TI := ⟨.struct [(0, 9), (1, 9), (2, 9), (3, 3), (4, 3), (5, 3), (6, 25)], true, 7, 80, .agg #[.string ByteArray.empty, .string ByteArray.empty, .string ByteArray.empty, .int .i64 0, .int .i64 0, .int .i64 0, .int .u64 0]⟩
def ty34 : TI := ⟨.struct [(0, 9), (1, 9), (2, 9), (3, 3), (4, 3), (5, 3), (6, 25)], true, 7, 80, .agg #[.string ByteArray.empty, .string ByteArray.empty, .string ByteArray.empty, .int .i64 0, .int .i64 0, .int .i64 0, .int .u64 0]⟩
def ty42 : TI := ⟨.slice 53, false, 1, 24, .slice none 0 0⟩
def ty46 : TI := ⟨.arr 2 25, true, 2, 16, .agg #[.int .u64 0, .int .u64 0]⟩
def ty49 : TI := ⟨.slice 142, false, 1, 24, .slice none 0 0⟩
def ty50 : TI := ⟨.struct [(0, 49), (1, 4), (2, 3), (3, 3)], true, 4, 48, .agg #[.slice none 0 0, .bool false, .int .i64 0, .int .i64 0]⟩
def ty51 : TI := ⟨.struct [(0, 49), (1, 4), (2, 3), (3, 3)], true, 4, 48, .agg #[.slice none 0 0, .bool false, .int .i64 0, .int .i64 0]⟩
def ty52 : TI := ⟨.struct [(0, 9), (1, 9), (2, 51), (6, 9), (7, 3), (8, 3), (9, 3), (10, 3), (11, 3), (12, 3), (13, 4)], true, 14, 152, .agg #[.string ByteArray.empty, .string ByteArray.empty, .slice none 0 0, .bool false, .int .i64 0, .int .i64 0, .string ByteArray.empty, .int .i64 0, .int .i64 0, .int .i64 0, .int .i64 0, .int .i64 0, .int .i64 0, .bool false]⟩
def ty53 : TI := ⟨.struct [(0, 9), (1, 9), (2, 51), (6, 9), (7, 3), (8, 3), (9, 3), (10, 3), (11, 3), (12, 3), (13, 4)], true, 14, 152, .agg #[.string ByteArray.empty, .string ByteArray.empty, .slice none 0 0, .bool false, .int .i64 0, .int .i64 0, .string ByteArray.empty, .int .i64 0, .int .i64 0, .int .i64 0, .int .i64 0, .int .i64 0, .int .i64 0, .bool false]⟩
def ty58 : TI := ⟨.slice 63, false, 1, 24, .slice none 0 0⟩
def ty61 : TI := ⟨.slice 9, false, 1, 24, .slice none 0 0⟩
def ty62 : TI := ⟨.struct [(0, 3), (1, 9), (2, 9), (3, 3), (4, 3), (5, 3), (6, 3), (7, 34)], true, 14, 152, .agg #[.int .i64 0, .string ByteArray.empty, .string ByteArray.empty, .int .i64 0, .int .i64 0, .int .i64 0, .int .i64 0, .string ByteArray.empty, .string ByteArray.empty, .string ByteArray.empty, .int .i64 0, .int .i64 0, .int .i64 0, .int .u64 0]⟩
def ty63 : TI := ⟨.struct [(0, 3), (1, 9), (2, 9), (3, 3), (4, 3), (5, 3), (6, 3), (7, 34)], true, 14, 152, .agg #[.int .i64 0, .string ByteArray.empty, .string ByteArray.empty, .int .i64 0, .int .i64 0, .int .i64 0, .int .i64 0, .string ByteArray.empty, .string ByteArray.empty, .string ByteArray.empty, .int .i64 0, .int .i64 0, .int .i64 0, .int .u64 0]⟩
def ty66 : TI := ⟨.slice 42, false, 1, 24, .slice none 0 0⟩
def ty68 : TI := ⟨.slice 125, false, 1, 24, .slice none 0 0⟩
def ty69 : TI := ⟨.struct [(0, 31), (22, 3), (23, 25), (24, 3), (25, 25), (26, 68)], true, 27, 272, .agg #[.string ByteArray.empty, .int .i64 0, .int .i64 0, .int .i64 0, .int .i64 0, .int .i64 0, .int .i64 0, .int .i64 0, .int .i64 0, .int .i64 0, .int .i64 0, .int .i64 0, .int .i64 0, .int .i64 0, .int .i64 0, .int .i64 0, .int .i64 0, .int .i64 0, .int .i64 0, .int .i64 0, .slice none 0 0, .slice none 0 0, .int .i64 0, .int .u64 0, .int .i64 0, .int .u64 0, .slice none 0 0]⟩
def ty70 : TI := ⟨.struct [(0, 31), (22, 3), (23, 25), (24, 3), (25, 25), (26, 68)], true, 27, 272, .agg #[.string ByteArray.empty, .int .i64 0, .int .i64 0, .int .i64 0, .int .i64 0, .int .i64 0, .int .i64 0, .int .i64 0, .int .i64 0, .int .i64 0, .int .i64 0, .int .i64 0, .int .i64 0, .int .i64 0, .int .i64 0, .int .i64 0, .int .i64 0, .int .i64 0, .int .i64 0, .int .i64 0, .slice none 0 0, .slice none 0 0, .int .i64 0, .int .u64 0, .int .i64 0, .int .u64 0, .slice none 0 0]⟩
def ty72 : TI := ⟨.ptr 127, false, 1, 8, .pointer none⟩
def ty74 : TI := ⟨.slice 34, false, 1, 24, .slice none 0 0⟩
def ty77 : TI := ⟨.other, false, 1, 8, .nilFunc⟩
def ty86 : TI := ⟨.slice 4, false, 1, 24, .slice none 0 0⟩
def ty88 : TI := ⟨.slice 31, false, 1, 24, .slice none 0 0⟩
def ty89 : TI := ⟨.map 9 3, false, 1, 8, .map none⟩
def ty90 : TI := ⟨.struct [(0, 88), (1, 42), (2, 89)], true, 3, 56, .agg #[.slice none 0 0, .slice none 0 0, .map none]⟩
def ty91 : TI := ⟨.struct [(0, 88), (1, 42), (2, 89)], true, 3, 56, .agg #[.slice none 0 0, .slice none 0 0, .map none]⟩
def ty92 : TI := ⟨.ptr 130, false, 1, 8, .pointer none⟩
def ty93 : TI := ⟨.arr 33 92, true, 33, 264, .agg (List.replicate 33 (.pointer none)).toArray⟩
def ty94 : TI := ⟨.struct [(0, 91), (3, 25), (4, 93)], true, 37, 328, .agg #[.slice none 0 0, .slice none 0 0, .map none, .int .u64 0, .pointer none, .pointer none, .pointer none, .pointer none, .pointer none, .pointer none, .pointer none, .pointer none, .pointer none, .pointer none, .pointer none, .pointer none, .pointer none, .pointer none, .pointer none, .pointer none, .pointer none, .pointer none, .pointer none, .pointer none, .pointer none, .pointer none, .pointer none, .pointer none, .pointer none, .pointer none, .pointer none, .pointer none, .pointer none, .pointer none, .pointer none, .pointer none, .pointer none]⟩
def ty95 : TI := ⟨.struct [(0, 91), (3, 25), (4, 93)], true, 37, 328, .agg #[.slice none 0 0, .slice none 0 0, .map none, .int .u64 0, .pointer none, .pointer none, .pointer none, .pointer none, .pointer none, .pointer none, .pointer none, .pointer none, .pointer none, .pointer none, .pointer none, .pointer none, .pointer none, .pointer none, .pointer none, .pointer none, .pointer none, .pointer none, .pointer none, .pointer none, .pointer none, .pointer none, .pointer none, .pointer none, .pointer none, .pointer none, .pointer none, .pointer none, .pointer none, .pointer none, .pointer none, .pointer none, .pointer none]⟩
def ty99 : TI := ⟨.ptr 31, false, 1, 8, .pointer none⟩
def ty101 : TI := ⟨.struct [(0, 3), (1, 3), (2, 3), (3, 3), (4, 3), (5, 3)], true, 6, 48, .agg #[.int .i64 0, .int .i64 0, .int .i64 0, .int .i64 0, .int .i64 0, .int .i64 0]⟩
def ty102 : TI := ⟨.struct [(0, 3), (1, 3), (2, 3), (3, 3), (4, 3), (5, 3)], true, 6, 48, .agg #[.int .i64 0, .int .i64 0, .int .i64 0, .int .i64 0, .int .i64 0, .int .i64 0]⟩
def ty109 : TI := ⟨.ptr 53, false, 1, 8, .pointer none⟩
def ty111 : TI := ⟨.slice 3, false, 1, 24, .slice none 0 0⟩
def ty121 : TI := ⟨.struct [(0, 9), (1, 3), (2, 3), (3, 111), (4, 3), (5, 111)], true, 6, 88, .agg #[.string ByteArray.empty, .int .i64 0, .int .i64 0, .slice none 0 0, .int .i64 0, .slice none 0 0]⟩
def ty122 : TI := ⟨.struct [(0, 9), (1, 3), (2, 3), (3, 111), (4, 3), (5, 111)], true, 6, 88, .agg #[.string ByteArray.empty, .int .i64 0, .int .i64 0, .slice none 0 0, .int .i64 0, .slice none 0 0]⟩
def ty124 : TI := ⟨.struct [(0, 3), (1, 9), (2, 3), (3, 3)], true, 4, 40, .agg #[.int .i64 0, .string ByteArray.empty, .int .i64 0, .int .i64 0]⟩
def ty125 : TI := ⟨.struct [(0, 3), (1, 9), (2, 3), (3, 3)], true, 4, 40, .agg #[.int .i64 0, .string ByteArray.empty, .int .i64 0, .int .i64 0]⟩
def ty126 : TI := ⟨.struct [(0, 3), (1, 3), (2, 3), (3, 25), (4, 4), (5, 77), (6, 74), (7, 111)], true, 8, 96, .agg #[.int .i64 0, .int .i64 0, .int .i64 0, .int .u64 0, .bool false, .nilFunc, .slice none 0 0, .slice none 0 0]⟩
def ty127 : TI := ⟨.struct [(0, 3), (1, 3), (2, 3), (3, 25), (4, 4), (5, 77), (6, 74), (7, 111)], true, 8, 96, .agg #[.int .i64 0, .int .i64 0, .int .i64 0, .int .u64 0, .bool false, .nilFunc, .slice none 0 0, .slice none 0 0]⟩
def ty128 : TI := ⟨.map 3 4, false, 1, 8, .map none⟩
def ty129 : TI := ⟨.struct [(0, 3), (1, 3), (2, 128)], true, 3, 24, .agg #[.int .i64 0, .int .i64 0, .map none]⟩
def ty130 : TI := ⟨.struct [(0, 3), (1, 3), (2, 128)], true, 3, 24, .agg #[.int .i64 0, .int .i64 0, .map none]⟩
def ty134 : TI := ⟨.ptr 91, false, 1, 8, .pointer none⟩
def ty139 : TI := ⟨.ptr 122, false, 1, 8, .pointer none⟩
def ty141 : TI := ⟨.struct [(0, 111), (1, 111)], true, 2, 48, .agg #[.slice none 0 0, .slice none 0 0]⟩
def ty142 : TI := ⟨.struct [(0, 111), (1, 111)], true, 2, 48, .agg #[.slice none 0 0, .slice none 0 0]⟩
def ty150 : TI := ⟨.int .u64, false, 1, 8, .int .u64 0⟩
def ty157 : TI := ⟨.ptr 142, false, 1, 8, .pointer none⟩
def ty159 : TI := ⟨.slice 5, false, 1, 24, .slice none 0 0⟩
def ty160 : TI := ⟨.ptr 210, false, 1, 8, .pointer none⟩
def ty164 : TI := ⟨.ptr 166, false, 1, 8, .pointer none⟩
def ty165 : TI := ⟨.struct [(0, 9), (1, 3), (2, 9), (3, 3), (4, 4)], true, 5, 56, .agg #[.string ByteArray.empty, .int .i64 0, .string ByteArray.empty, .int .i64 0, .bool false]⟩
def ty166 : TI := ⟨.struct [(0, 9), (1, 3), (2, 9), (3, 3), (4, 4)], true, 5, 56, .agg #[.string ByteArray.empty, .int .i64 0, .string ByteArray.empty, .int .i64 0, .bool false]⟩
def ty174 : TI := ⟨.map 9 4, false, 1, 8, .map none⟩
def ty178 : TI := ⟨.ptr 180, false, 1, 8, .pointer none⟩
def ty179 : TI := ⟨.struct [(0, 178), (1, 159)], true, 2, 32, .agg #[.pointer none, .slice none 0 0]⟩
def ty180 : TI := ⟨.struct [(0, 178), (1, 159)], true, 2, 32, .agg #[.pointer none, .slice none 0 0]⟩
def ty181 : TI := ⟨.other, false, 1, 16, .nilIface⟩
def ty182 : TI := ⟨.other, false, 1, 16, .nilIface⟩
def ty188 : TI := ⟨.ptr 227, false, 1, 8, .pointer none⟩
def ty191 : TI := ⟨.int .u32, false, 1, 4, .int .u32 0⟩
def ty206 : TI := ⟨.arr 3 9, true, 3, 48, .agg #[.string ByteArray.empty, .string ByteArray.empty, .string ByteArray.empty]⟩
def ty208 : TI := ⟨.arr 3 3, true, 3, 24, .agg #[.int .i64 0, .int .i64 0, .int .i64 0]⟩
def ty209 : TI := ⟨.struct [(0, 159)], true, 1, 24, .agg #[.slice none 0 0]⟩
def ty210 : TI := ⟨.struct [(0, 159)], true, 1, 24, .agg #[.slice none 0 0]⟩
def ty216 : TI := ⟨.arr 12 3, true, 12, 96, .agg #[.int .i64 0, .int .i64 0, .int .i64 0, .int .i64 0, .int .i64 0, .int .i64 0, .int .i64 0, .int .i64 0, .int .i64 0, .int .i64 0, .int .i64 0, .int .i64 0]⟩
def ty221 : TI := ⟨.ptr 5, false, 1, 8, .pointer none⟩
def ty226 : TI := ⟨.struct [(0, 25), (1, 3)], true, 2, 16, .agg #[.int .u64 0, .int .i64 0]⟩
def ty227 : TI := ⟨.struct [(0, 25), (1, 3)], true, 2, 16, .agg #[.int .u64 0, .int .i64 0]⟩
def ty234 : TI := ⟨.slice 191, false, 1, 24, .slice none 0 0⟩
def ty235 : TI := ⟨.struct [(0, 234)], true, 1, 24, .agg #[.slice none 0 0]⟩
def ty236 : TI := ⟨.struct [(0, 234)], true, 1, 24, .agg #[.slice none 0 0]⟩
def ty240 : TI := ⟨.ptr 111, false, 1, 8, .pointer none⟩
def ty241 : TI := ⟨.slice 240, false, 1, 24, .slice none 0 0⟩
def ty261 : TI := ⟨.arr 24 5, true, 24, 24, .agg (List.replicate 24 (.int .u8 0)).toArray⟩
def ty267 : TI := ⟨.arr 81 4, true, 81, 81, .agg (List.replicate 81 (.bool false)).toArray⟩
def ty279 : TI := ⟨.arr 20 25, true, 20, 160, .agg (List.replicate 20 (.int .u64 0)).toArray⟩
def ty280 : TI := ⟨.arr 65 5, true, 65, 65, .agg (List.replicate 65 (.int .u8 0)).toArray⟩
def ty282 : TI := ⟨.int .i64, false, 1, 8, .int .i64 0⟩
def ty290 : TI := ⟨.int .u64, false, 1, 8, .int .u64 0⟩
def ty293 : TI := ⟨.ptr 3, false, 1, 8, .pointer none⟩
def ty295 : TI := ⟨.arr 32 5, true, 32, 32, .agg (List.replicate 32 (.int .u8 0)).toArray⟩
def ty296 : TI := ⟨.arr 64 5, true, 64, 64, .agg (List.replicate 64 (.int .u8 0)).toArray⟩
def ty297 : TI := ⟨.ptr 290, false, 1, 8, .pointer none⟩
def ty299 : TI := ⟨.struct [(0, 17), (1, 17), (2, 17), (3, 9)], true, 4, 40, .agg #[.pointer none, .pointer none, .pointer none, .string ByteArray.empty]⟩
def ty300 : TI := ⟨.struct [(0, 17), (1, 17), (2, 17), (3, 9)], true, 4, 40, .agg #[.pointer none, .pointer none, .pointer none, .string ByteArray.empty]⟩
def ty301 : TI := ⟨.arr 0 16, true, 0, 0, .agg #[]⟩
def ty302 : TI := ⟨.struct [(0, 301)], true, 0, 0, .agg #[]⟩
def ty303 : TI := ⟨.struct [(0, 301)], true, 0, 0, .agg #[]⟩
def ty304 : TI := ⟨.int .u8, false, 1, 1, .int .u8 0⟩
def ty305 : TI := ⟨.int .u8, false, 1, 1, .int .u8 0⟩
def ty307 : TI := ⟨.int .i32, false, 1, 4, .int .i32 0⟩
def ty308 : TI := ⟨.int .i32, false, 1, 4, .int .i32 0⟩
def ty309 : TI := ⟨.struct [(0, 12), (1, 12), (2, 191), (3, 304), (4, 5), (5, 5), (6, 305), (7, 306), (8, 221), (9, 307), (10, 308)], true, 11, 48, .agg #[.int .u64 0, .int .u64 0, .int .u32 0, .int .u8 0, .int .u8 0, .int .u8 0, .int .u8 0, .nilFunc, .pointer none, .int .i32 0, .int .i32 0]⟩
def ty310 : TI := ⟨.struct [(0, 12), (1, 12), (2, 191), (3, 304), (4, 5), (5, 5), (6, 305), (7, 306), (8, 221), (9, 307), (10, 308)], true, 11, 48, .agg #[.int .u64 0, .int .u64 0, .int .u32 0, .int .u8 0, .int .u8 0, .int .u8 0, .int .u8 0, .nilFunc, .pointer none, .int .i32 0, .int .i32 0]⟩
def tys : TyTab := [(3, ty3), (4, ty4), (9, ty9), (5, ty5), (2, ty2), (6, ty6), (7, ty7), (8, ty8), (10, ty10), (11, ty11), (12, ty12), (13, ty13), (14, ty14), (15, ty15), (16, ty16), (17, ty17), (18, ty18), (19, ty19), (20, ty20), (21, ty21), (22, ty22), (23, ty23), (25, ty25), (26, ty26), (28, ty28), (29, ty29), (30, ty30), (31, ty31), (33, ty33), (34, ty34), (42, ty42), (46, ty46), (49, ty49), (50, ty50), (51, ty51), (52, ty52), (53, ty53), (58, ty58), (61, ty61), (62, ty62), (63, ty63), (66, ty66), (68, ty68), (69, ty69), (70, ty70), (72, ty72), (74, ty74), (77, ty77), (86, ty86), (88, ty88), (89, ty89), (90, ty90), (91, ty91), (92, ty92), (93, ty93), (94, ty94), (95, ty95), (99, ty99), (101, ty101), (102, ty102), (109, ty109), (111, ty111), (121, ty121), (122, ty122), (124, ty124), (125, ty125), (126, ty126), (127, ty127), (128, ty128), (129, ty129), (130, ty130), (134, ty134), (139, ty139), (141, ty141), (142, ty142), (150, ty150), (157, ty157), (159, ty159), (160, ty160), (164, ty164), (165, ty165), (166, ty166), (174, ty174), (178, ty178), (179, ty179), (180, ty180), (181, ty181), (182, ty182), (188, ty188), (191, ty191), (206, ty206), (208, ty208), (209, ty209), (210, ty210), (216, ty216), (221, ty221), (226, ty226), (227, ty227), (234, ty234), (235, ty235), (236, ty236), (240, ty240), (241, ty241), (261, ty261), (267, ty267), (279, ty279), (280, ty280), (282, ty282), (290, ty290), (293, ty293), (295, ty295), (296, ty296), (297, ty297), (299, ty299), (300, ty300), (301, ty301), (302, ty302), (303, ty303), (304, ty304), (305, ty305), (307, ty307), (308, ty308), (309, ty309), (310, ty310)]
theorem te3 : TyEntry Tryz.prog 3 ty3 := ⟨⟨_, Tryz.underlying3, rfl, rfl⟩, by kernel_rfl⟩
theorem te4 : TyEntry Tryz.prog 4 ty4 := ⟨⟨_, Tryz.underlying4, trivial, rfl⟩, by kernel_rfl⟩
theorem te9 : TyEntry Tryz.prog 9 ty9 := ⟨⟨_, Tryz.underlying9, trivial, rfl⟩, by kernel_rfl⟩
theorem te5 : TyEntry Tryz.prog 5 ty5 := ⟨⟨_, Tryz.underlying5, rfl, rfl⟩, by kernel_rfl⟩
theorem te2 : TyEntry Tryz.prog 2 ty2 := ⟨⟨_, Tryz.underlying2, rfl, rfl⟩, by kernel_rfl⟩
theorem te6 : TyEntry Tryz.prog 6 ty6 := ⟨⟨_, Tryz.underlying6, rfl, rfl⟩, by kernel_rfl⟩
theorem te7 : TyEntry Tryz.prog 7 ty7 := ⟨⟨_, Tryz.underlying7, rfl, rfl⟩, by kernel_rfl⟩
theorem te8 : TyEntry Tryz.prog 8 ty8 := ⟨⟨_, Tryz.underlying8, rfl, rfl⟩, by kernel_rfl⟩
theorem te10 : TyEntry Tryz.prog 10 ty10 := ⟨⟨_, Tryz.underlying10, trivial, rfl⟩, by kernel_rfl⟩
theorem te11 : TyEntry Tryz.prog 11 ty11 := ⟨⟨_, Tryz.underlying11, trivial, rfl⟩, by kernel_rfl⟩
theorem te12 : TyEntry Tryz.prog 12 ty12 := ⟨⟨_, Tryz.underlying12, rfl, rfl⟩, by kernel_rfl⟩
theorem te13 : TyEntry Tryz.prog 13 ty13 := ⟨⟨_, Tryz.underlying13, rfl, rfl⟩, by kernel_rfl⟩
theorem te14 : TyEntry Tryz.prog 14 ty14 := ⟨⟨_, Tryz.underlying14, rfl, rfl⟩, by kernel_rfl⟩
theorem te15 : TyEntry Tryz.prog 15 ty15 := ⟨⟨_, Tryz.underlying15, rfl, rfl⟩, by kernel_rfl⟩
theorem te16 : TyEntry Tryz.prog 16 ty16 := ⟨⟨_, Tryz.underlying16, rfl, rfl⟩, by kernel_rfl⟩
theorem te17 : TyEntry Tryz.prog 17 ty17 := ⟨⟨_, Tryz.underlying17, rfl, rfl⟩, by kernel_rfl⟩
theorem te18 : TyEntry Tryz.prog 18 ty18 := ⟨⟨_, Tryz.underlying18, rfl, rfl⟩, by kernel_rfl⟩
theorem te19 : TyEntry Tryz.prog 19 ty19 := ⟨⟨_, Tryz.underlying19, rfl, rfl⟩, by kernel_rfl⟩
theorem te20 : TyEntry Tryz.prog 20 ty20 := ⟨⟨_, Tryz.underlying20, trivial, rfl⟩, by kernel_rfl⟩
theorem te21 : TyEntry Tryz.prog 21 ty21 := ⟨⟨_, Tryz.underlying21, rfl, rfl⟩, by kernel_rfl⟩
theorem te22 : TyEntry Tryz.prog 22 ty22 := ⟨⟨_, Tryz.underlying22, rfl, rfl⟩, by kernel_rfl⟩
theorem te23 : TyEntry Tryz.prog 23 ty23 := ⟨⟨_, Tryz.underlying23, rfl, rfl⟩, by kernel_rfl⟩
theorem te25 : TyEntry Tryz.prog 25 ty25 := ⟨⟨_, Tryz.underlying25, rfl, rfl⟩, by kernel_rfl⟩
theorem te26 : TyEntry Tryz.prog 26 ty26 := ⟨⟨_, Tryz.underlying26, rfl, rfl⟩, by kernel_rfl⟩
theorem te28 : TyEntry Tryz.prog 28 ty28 := ⟨⟨_, Tryz.underlying28, rfl, rfl⟩, by kernel_rfl⟩
theorem te29 : TyEntry Tryz.prog 29 ty29 := ⟨⟨_, Tryz.underlying29, rfl, rfl⟩, by kernel_rfl⟩
theorem te30 : TyEntry Tryz.prog 30 ty30 := ⟨⟨_, Tryz.underlying30, rfl, rfl⟩, by kernel_rfl⟩
theorem te31 : TyEntry Tryz.prog 31 ty31 := ⟨⟨_, Tryz.underlying31, rfl, rfl⟩, by kernel_rfl⟩
theorem te33 : TyEntry Tryz.prog 33 ty33 := ⟨⟨_, Tryz.underlying33, rfl, rfl⟩, by kernel_rfl⟩
theorem te34 : TyEntry Tryz.prog 34 ty34 := ⟨⟨_, Tryz.underlying34, rfl, rfl⟩, by kernel_rfl⟩
theorem te42 : TyEntry Tryz.prog 42 ty42 := ⟨⟨_, Tryz.underlying42, rfl, rfl⟩, by kernel_rfl⟩
theorem te46 : TyEntry Tryz.prog 46 ty46 := ⟨⟨_, Tryz.underlying46, ⟨rfl, rfl⟩, rfl⟩, by kernel_rfl⟩
theorem te49 : TyEntry Tryz.prog 49 ty49 := ⟨⟨_, Tryz.underlying49, rfl, rfl⟩, by kernel_rfl⟩
theorem te50 : TyEntry Tryz.prog 50 ty50 := ⟨⟨_, Tryz.underlying50, rfl, rfl⟩, by kernel_rfl⟩
theorem te51 : TyEntry Tryz.prog 51 ty51 := ⟨⟨_, Tryz.underlying51, rfl, rfl⟩, by kernel_rfl⟩
theorem te52 : TyEntry Tryz.prog 52 ty52 := ⟨⟨_, Tryz.underlying52, rfl, rfl⟩, by kernel_rfl⟩
theorem te53 : TyEntry Tryz.prog 53 ty53 := ⟨⟨_, Tryz.underlying53, rfl, rfl⟩, by kernel_rfl⟩
theorem te58 : TyEntry Tryz.prog 58 ty58 := ⟨⟨_, Tryz.underlying58, rfl, rfl⟩, by kernel_rfl⟩
theorem te61 : TyEntry Tryz.prog 61 ty61 := ⟨⟨_, Tryz.underlying61, rfl, rfl⟩, by kernel_rfl⟩
theorem te62 : TyEntry Tryz.prog 62 ty62 := ⟨⟨_, Tryz.underlying62, rfl, rfl⟩, by kernel_rfl⟩
theorem te63 : TyEntry Tryz.prog 63 ty63 := ⟨⟨_, Tryz.underlying63, rfl, rfl⟩, by kernel_rfl⟩
theorem te66 : TyEntry Tryz.prog 66 ty66 := ⟨⟨_, Tryz.underlying66, rfl, rfl⟩, by kernel_rfl⟩
theorem te68 : TyEntry Tryz.prog 68 ty68 := ⟨⟨_, Tryz.underlying68, rfl, rfl⟩, by kernel_rfl⟩
theorem te69 : TyEntry Tryz.prog 69 ty69 := ⟨⟨_, Tryz.underlying69, rfl, rfl⟩, by kernel_rfl⟩
theorem te70 : TyEntry Tryz.prog 70 ty70 := ⟨⟨_, Tryz.underlying70, rfl, rfl⟩, by kernel_rfl⟩
theorem te72 : TyEntry Tryz.prog 72 ty72 := ⟨⟨_, Tryz.underlying72, rfl, rfl⟩, by kernel_rfl⟩
theorem te74 : TyEntry Tryz.prog 74 ty74 := ⟨⟨_, Tryz.underlying74, rfl, rfl⟩, by kernel_rfl⟩
theorem te77 : TyEntry Tryz.prog 77 ty77 := ⟨⟨_, Tryz.underlying77, trivial, rfl⟩, by kernel_rfl⟩
theorem te86 : TyEntry Tryz.prog 86 ty86 := ⟨⟨_, Tryz.underlying86, rfl, rfl⟩, by kernel_rfl⟩
theorem te88 : TyEntry Tryz.prog 88 ty88 := ⟨⟨_, Tryz.underlying88, rfl, rfl⟩, by kernel_rfl⟩
theorem te89 : TyEntry Tryz.prog 89 ty89 := ⟨⟨_, Tryz.underlying89, ⟨rfl, rfl⟩, rfl⟩, by kernel_rfl⟩
theorem te90 : TyEntry Tryz.prog 90 ty90 := ⟨⟨_, Tryz.underlying90, rfl, rfl⟩, by kernel_rfl⟩
theorem te91 : TyEntry Tryz.prog 91 ty91 := ⟨⟨_, Tryz.underlying91, rfl, rfl⟩, by kernel_rfl⟩
theorem te92 : TyEntry Tryz.prog 92 ty92 := ⟨⟨_, Tryz.underlying92, rfl, rfl⟩, by kernel_rfl⟩
theorem te93 : TyEntry Tryz.prog 93 ty93 := ⟨⟨_, Tryz.underlying93, ⟨rfl, rfl⟩, rfl⟩, by kernel_rfl⟩
theorem te94 : TyEntry Tryz.prog 94 ty94 := ⟨⟨_, Tryz.underlying94, rfl, rfl⟩, by kernel_rfl⟩
theorem te95 : TyEntry Tryz.prog 95 ty95 := ⟨⟨_, Tryz.underlying95, rfl, rfl⟩, by kernel_rfl⟩
theorem te99 : TyEntry Tryz.prog 99 ty99 := ⟨⟨_, Tryz.underlying99, rfl, rfl⟩, by kernel_rfl⟩
theorem te101 : TyEntry Tryz.prog 101 ty101 := ⟨⟨_, Tryz.underlying101, rfl, rfl⟩, by kernel_rfl⟩
theorem te102 : TyEntry Tryz.prog 102 ty102 := ⟨⟨_, Tryz.underlying102, rfl, rfl⟩, by kernel_rfl⟩
theorem te109 : TyEntry Tryz.prog 109 ty109 := ⟨⟨_, Tryz.underlying109, rfl, rfl⟩, by kernel_rfl⟩
theorem te111 : TyEntry Tryz.prog 111 ty111 := ⟨⟨_, Tryz.underlying111, rfl, rfl⟩, by kernel_rfl⟩
theorem te121 : TyEntry Tryz.prog 121 ty121 := ⟨⟨_, Tryz.underlying121, rfl, rfl⟩, by kernel_rfl⟩
theorem te122 : TyEntry Tryz.prog 122 ty122 := ⟨⟨_, Tryz.underlying122, rfl, rfl⟩, by kernel_rfl⟩
theorem te124 : TyEntry Tryz.prog 124 ty124 := ⟨⟨_, Tryz.underlying124, rfl, rfl⟩, by kernel_rfl⟩
theorem te125 : TyEntry Tryz.prog 125 ty125 := ⟨⟨_, Tryz.underlying125, rfl, rfl⟩, by kernel_rfl⟩
theorem te126 : TyEntry Tryz.prog 126 ty126 := ⟨⟨_, Tryz.underlying126, rfl, rfl⟩, by kernel_rfl⟩
theorem te127 : TyEntry Tryz.prog 127 ty127 := ⟨⟨_, Tryz.underlying127, rfl, rfl⟩, by kernel_rfl⟩
theorem te128 : TyEntry Tryz.prog 128 ty128 := ⟨⟨_, Tryz.underlying128, ⟨rfl, rfl⟩, rfl⟩, by kernel_rfl⟩
theorem te129 : TyEntry Tryz.prog 129 ty129 := ⟨⟨_, Tryz.underlying129, rfl, rfl⟩, by kernel_rfl⟩
theorem te130 : TyEntry Tryz.prog 130 ty130 := ⟨⟨_, Tryz.underlying130, rfl, rfl⟩, by kernel_rfl⟩
theorem te134 : TyEntry Tryz.prog 134 ty134 := ⟨⟨_, Tryz.underlying134, rfl, rfl⟩, by kernel_rfl⟩
theorem te139 : TyEntry Tryz.prog 139 ty139 := ⟨⟨_, Tryz.underlying139, rfl, rfl⟩, by kernel_rfl⟩
theorem te141 : TyEntry Tryz.prog 141 ty141 := ⟨⟨_, Tryz.underlying141, rfl, rfl⟩, by kernel_rfl⟩
theorem te142 : TyEntry Tryz.prog 142 ty142 := ⟨⟨_, Tryz.underlying142, rfl, rfl⟩, by kernel_rfl⟩
theorem te150 : TyEntry Tryz.prog 150 ty150 := ⟨⟨_, Tryz.underlying150, rfl, rfl⟩, by kernel_rfl⟩
theorem te157 : TyEntry Tryz.prog 157 ty157 := ⟨⟨_, Tryz.underlying157, rfl, rfl⟩, by kernel_rfl⟩
theorem te159 : TyEntry Tryz.prog 159 ty159 := ⟨⟨_, Tryz.underlying159, rfl, rfl⟩, by kernel_rfl⟩
theorem te160 : TyEntry Tryz.prog 160 ty160 := ⟨⟨_, Tryz.underlying160, rfl, rfl⟩, by kernel_rfl⟩
theorem te164 : TyEntry Tryz.prog 164 ty164 := ⟨⟨_, Tryz.underlying164, rfl, rfl⟩, by kernel_rfl⟩
theorem te165 : TyEntry Tryz.prog 165 ty165 := ⟨⟨_, Tryz.underlying165, rfl, rfl⟩, by kernel_rfl⟩
theorem te166 : TyEntry Tryz.prog 166 ty166 := ⟨⟨_, Tryz.underlying166, rfl, rfl⟩, by kernel_rfl⟩
theorem te174 : TyEntry Tryz.prog 174 ty174 := ⟨⟨_, Tryz.underlying174, ⟨rfl, rfl⟩, rfl⟩, by kernel_rfl⟩
theorem te178 : TyEntry Tryz.prog 178 ty178 := ⟨⟨_, Tryz.underlying178, rfl, rfl⟩, by kernel_rfl⟩
theorem te179 : TyEntry Tryz.prog 179 ty179 := ⟨⟨_, Tryz.underlying179, rfl, rfl⟩, by kernel_rfl⟩
theorem te180 : TyEntry Tryz.prog 180 ty180 := ⟨⟨_, Tryz.underlying180, rfl, rfl⟩, by kernel_rfl⟩
theorem te181 : TyEntry Tryz.prog 181 ty181 := ⟨⟨_, Tryz.underlying181, trivial, rfl⟩, by kernel_rfl⟩
theorem te182 : TyEntry Tryz.prog 182 ty182 := ⟨⟨_, Tryz.underlying182, trivial, rfl⟩, by kernel_rfl⟩
theorem te188 : TyEntry Tryz.prog 188 ty188 := ⟨⟨_, Tryz.underlying188, rfl, rfl⟩, by kernel_rfl⟩
theorem te191 : TyEntry Tryz.prog 191 ty191 := ⟨⟨_, Tryz.underlying191, rfl, rfl⟩, by kernel_rfl⟩
theorem te206 : TyEntry Tryz.prog 206 ty206 := ⟨⟨_, Tryz.underlying206, ⟨rfl, rfl⟩, rfl⟩, by kernel_rfl⟩
theorem te208 : TyEntry Tryz.prog 208 ty208 := ⟨⟨_, Tryz.underlying208, ⟨rfl, rfl⟩, rfl⟩, by kernel_rfl⟩
theorem te209 : TyEntry Tryz.prog 209 ty209 := ⟨⟨_, Tryz.underlying209, rfl, rfl⟩, by kernel_rfl⟩
theorem te210 : TyEntry Tryz.prog 210 ty210 := ⟨⟨_, Tryz.underlying210, rfl, rfl⟩, by kernel_rfl⟩
theorem te216 : TyEntry Tryz.prog 216 ty216 := ⟨⟨_, Tryz.underlying216, ⟨rfl, rfl⟩, rfl⟩, by kernel_rfl⟩
theorem te221 : TyEntry Tryz.prog 221 ty221 := ⟨⟨_, Tryz.underlying221, rfl, rfl⟩, by kernel_rfl⟩
theorem te226 : TyEntry Tryz.prog 226 ty226 := ⟨⟨_, Tryz.underlying226, rfl, rfl⟩, by kernel_rfl⟩
theorem te227 : TyEntry Tryz.prog 227 ty227 := ⟨⟨_, Tryz.underlying227, rfl, rfl⟩, by kernel_rfl⟩
theorem te234 : TyEntry Tryz.prog 234 ty234 := ⟨⟨_, Tryz.underlying234, rfl, rfl⟩, by kernel_rfl⟩
theorem te235 : TyEntry Tryz.prog 235 ty235 := ⟨⟨_, Tryz.underlying235, rfl, rfl⟩, by kernel_rfl⟩
theorem te236 : TyEntry Tryz.prog 236 ty236 := ⟨⟨_, Tryz.underlying236, rfl, rfl⟩, by kernel_rfl⟩
theorem te240 : TyEntry Tryz.prog 240 ty240 := ⟨⟨_, Tryz.underlying240, rfl, rfl⟩, by kernel_rfl⟩
theorem te241 : TyEntry Tryz.prog 241 ty241 := ⟨⟨_, Tryz.underlying241, rfl, rfl⟩, by kernel_rfl⟩
theorem te261 : TyEntry Tryz.prog 261 ty261 := ⟨⟨_, Tryz.underlying261, ⟨rfl, rfl⟩, rfl⟩, by kernel_rfl⟩
theorem te267 : TyEntry Tryz.prog 267 ty267 := ⟨⟨_, Tryz.underlying267, ⟨rfl, rfl⟩, rfl⟩, by kernel_rfl⟩
theorem te279 : TyEntry Tryz.prog 279 ty279 := ⟨⟨_, Tryz.underlying279, ⟨rfl, rfl⟩, rfl⟩, by kernel_rfl⟩
theorem te280 : TyEntry Tryz.prog 280 ty280 := ⟨⟨_, Tryz.underlying280, ⟨rfl, rfl⟩, rfl⟩, by kernel_rfl⟩
theorem te282 : TyEntry Tryz.prog 282 ty282 := ⟨⟨_, Tryz.underlying282, rfl, rfl⟩, by kernel_rfl⟩
theorem te290 : TyEntry Tryz.prog 290 ty290 := ⟨⟨_, Tryz.underlying290, rfl, rfl⟩, by kernel_rfl⟩
theorem te293 : TyEntry Tryz.prog 293 ty293 := ⟨⟨_, Tryz.underlying293, rfl, rfl⟩, by kernel_rfl⟩
theorem te295 : TyEntry Tryz.prog 295 ty295 := ⟨⟨_, Tryz.underlying295, ⟨rfl, rfl⟩, rfl⟩, by kernel_rfl⟩
theorem te296 : TyEntry Tryz.prog 296 ty296 := ⟨⟨_, Tryz.underlying296, ⟨rfl, rfl⟩, rfl⟩, by kernel_rfl⟩
theorem te297 : TyEntry Tryz.prog 297 ty297 := ⟨⟨_, Tryz.underlying297, rfl, rfl⟩, by kernel_rfl⟩
theorem te299 : TyEntry Tryz.prog 299 ty299 := ⟨⟨_, Tryz.underlying299, rfl, rfl⟩, by kernel_rfl⟩
theorem te300 : TyEntry Tryz.prog 300 ty300 := ⟨⟨_, Tryz.underlying300, rfl, rfl⟩, by kernel_rfl⟩
theorem te301 : TyEntry Tryz.prog 301 ty301 := ⟨⟨_, Tryz.underlying301, ⟨rfl, rfl⟩, rfl⟩, by kernel_rfl⟩
theorem te302 : TyEntry Tryz.prog 302 ty302 := ⟨⟨_, Tryz.underlying302, rfl, rfl⟩, by kernel_rfl⟩
theorem te303 : TyEntry Tryz.prog 303 ty303 := ⟨⟨_, Tryz.underlying303, rfl, rfl⟩, by kernel_rfl⟩
theorem te304 : TyEntry Tryz.prog 304 ty304 := ⟨⟨_, Tryz.underlying304, rfl, rfl⟩, by kernel_rfl⟩
theorem te305 : TyEntry Tryz.prog 305 ty305 := ⟨⟨_, Tryz.underlying305, rfl, rfl⟩, by kernel_rfl⟩
theorem te307 : TyEntry Tryz.prog 307 ty307 := ⟨⟨_, Tryz.underlying307, rfl, rfl⟩, by kernel_rfl⟩
theorem te308 : TyEntry Tryz.prog 308 ty308 := ⟨⟨_, Tryz.underlying308, rfl, rfl⟩, by kernel_rfl⟩
theorem te309 : TyEntry Tryz.prog 309 ty309 := ⟨⟨_, Tryz.underlying309, rfl, rfl⟩, by kernel_rfl⟩
theorem te310 : TyEntry Tryz.prog 310 ty310 := ⟨⟨_, Tryz.underlying310, rfl, rfl⟩, by kernel_rfl⟩
theorem tys_ok : ∀ x ∈ tys, TyEntry Tryz.prog x.1 x.2 := by
  intro x hx
  simp only [tys, List.mem_cons, List.not_mem_nil, or_false] at hx
  rcases hx with rfl | rfl | rfl | rfl | rfl | rfl | rfl | rfl | rfl | rfl | rfl | rfl | rfl | rfl | rfl | rfl | rfl | rfl | rfl | rfl | rfl | rfl | rfl | rfl | rfl | rfl | rfl | rfl | rfl | rfl | rfl | rfl | rfl | rfl | rfl | rfl | rfl | rfl | rfl | rfl | rfl | rfl | rfl | rfl | rfl | rfl | rfl | rfl | rfl | rfl | rfl | rfl | rfl | rfl | rfl | rfl | rfl | rfl | rfl | rfl | rfl | rfl | rfl | rfl | rfl | rfl | rfl | rfl | rfl | rfl | rfl | rfl | rfl | rfl | rfl | rfl | rfl | rfl | rfl | rfl | rfl | rfl | rfl | rfl | rfl | rfl | rfl | rfl | rfl | rfl | rfl | rfl | rfl | rfl | rfl | rfl | rfl | rfl | rfl | rfl | rfl | rfl | rfl | rfl | rfl | rfl | rfl | rfl | rfl | rfl | rfl | rfl | rfl | rfl | rfl | rfl | rfl | rfl | rfl | rfl | rfl | rfl | rfl | rfl
  · exact te3
  · exact te4
  · exact te9
  · exact te5
  · exact te2
  · exact te6
  · exact te7
  · exact te8
  · exact te10
  · exact te11
  · exact te12
  · exact te13
  · exact te14
  · exact te15
  · exact te16
  · exact te17
  · exact te18
  · exact te19
  · exact te20
  · exact te21
  · exact te22
  · exact te23
  · exact te25
  · exact te26
  · exact te28
  · exact te29
  · exact te30
  · exact te31
  · exact te33
  · exact te34
  · exact te42
  · exact te46
  · exact te49
  · exact te50
  · exact te51
  · exact te52
  · exact te53
  · exact te58
  · exact te61
  · exact te62
  · exact te63
  · exact te66
  · exact te68
  · exact te69
  · exact te70
  · exact te72
  · exact te74
  · exact te77
  · exact te86
  · exact te88
  · exact te89
  · exact te90
  · exact te91
  · exact te92
  · exact te93
  · exact te94
  · exact te95
  · exact te99
  · exact te101
  · exact te102
  · exact te109
  · exact te111
  · exact te121
  · exact te122
  · exact te124
  · exact te125
  · exact te126
  · exact te127
  · exact te128
  · exact te129
  · exact te130
  · exact te134
  · exact te139
  · exact te141
  · exact te142
  · exact te150
  · exact te157
  · exact te159
  · exact te160
  · exact te164
  · exact te165
  · exact te166
  · exact te174
  · exact te178
  · exact te179
  · exact te180
  · exact te181
  · exact te182
  · exact te188
  · exact te191
  · exact te206
  · exact te208
  · exact te209
  · exact te210
  · exact te216
  · exact te221
  · exact te226
  · exact te227
  · exact te234
  · exact te235
  · exact te236
  · exact te240
  · exact te241
  · exact te261
  · exact te267
  · exact te279
  · exact te280
  · exact te282
  · exact te290
  · exact te293
  · exact te295
  · exact te296
  · exact te297
  · exact te299
  · exact te300
  · exact te301
  · exact te302
  · exact te303
  · exact te304
  · exact te305
  · exact te307
  · exact te308
  · exact te309
  · exact te310
instance : TyOk Tryz.prog tys := ⟨tys_ok⟩
end Eng
end Go.Proofs.YtlgoegjboabgfaaGreatDoor
namespace Go.Proofs.YtlgoegjboabgfaaGreatDoor
open Eng
theorem cb12 : Callable Tryz.prog 12 := ⟨_, Tryz.func12, rfl, by kernel_rfl⟩
theorem cb13 : Callable Tryz.prog 13 := ⟨_, Tryz.func13, rfl, by kernel_rfl⟩
theorem cb15 : Callable Tryz.prog 15 := ⟨_, Tryz.func15, rfl, by kernel_rfl⟩
theorem cb16 : Callable Tryz.prog 16 := ⟨_, Tryz.func16, rfl, by kernel_rfl⟩
theorem cb21 : Callable Tryz.prog 21 := ⟨_, Tryz.func21, rfl, by kernel_rfl⟩
theorem cb22 : Callable Tryz.prog 22 := ⟨_, Tryz.func22, rfl, by kernel_rfl⟩
theorem cb26 : Callable Tryz.prog 26 := ⟨_, Tryz.func26, rfl, by kernel_rfl⟩
theorem cb30 : Callable Tryz.prog 30 := ⟨_, Tryz.func30, rfl, by kernel_rfl⟩
theorem cb31 : Callable Tryz.prog 31 := ⟨_, Tryz.func31, rfl, by kernel_rfl⟩
theorem cb33 : Callable Tryz.prog 33 := ⟨_, Tryz.func33, rfl, by kernel_rfl⟩
theorem cb34 : Callable Tryz.prog 34 := ⟨_, Tryz.func34, rfl, by kernel_rfl⟩
theorem cb35 : Callable Tryz.prog 35 := ⟨_, Tryz.func35, rfl, by kernel_rfl⟩
theorem cb36 : Callable Tryz.prog 36 := ⟨_, Tryz.func36, rfl, by kernel_rfl⟩
theorem cb37 : Callable Tryz.prog 37 := ⟨_, Tryz.func37, rfl, by kernel_rfl⟩
theorem cb38 : Callable Tryz.prog 38 := ⟨_, Tryz.func38, rfl, by kernel_rfl⟩
theorem cb41 : Callable Tryz.prog 41 := ⟨_, Tryz.func41, rfl, by kernel_rfl⟩
theorem cb42 : Callable Tryz.prog 42 := ⟨_, Tryz.func42, rfl, by kernel_rfl⟩
theorem cb43 : Callable Tryz.prog 43 := ⟨_, Tryz.func43, rfl, by kernel_rfl⟩
theorem cb44 : Callable Tryz.prog 44 := ⟨_, Tryz.func44, rfl, by kernel_rfl⟩
theorem cb45 : Callable Tryz.prog 45 := ⟨_, Tryz.func45, rfl, by kernel_rfl⟩
theorem cb46 : Callable Tryz.prog 46 := ⟨_, Tryz.func46, rfl, by kernel_rfl⟩
theorem cb47 : Callable Tryz.prog 47 := ⟨_, Tryz.func47, rfl, by kernel_rfl⟩
theorem cb48 : Callable Tryz.prog 48 := ⟨_, Tryz.func48, rfl, by kernel_rfl⟩
theorem cb49 : Callable Tryz.prog 49 := ⟨_, Tryz.func49, rfl, by kernel_rfl⟩
theorem cb50 : Callable Tryz.prog 50 := ⟨_, Tryz.func50, rfl, by kernel_rfl⟩
theorem cb53 : Callable Tryz.prog 53 := ⟨_, Tryz.func53, rfl, by kernel_rfl⟩
theorem cb55 : Callable Tryz.prog 55 := ⟨_, Tryz.func55, rfl, by kernel_rfl⟩
theorem cb56 : Callable Tryz.prog 56 := ⟨_, Tryz.func56, rfl, by kernel_rfl⟩
theorem cb57 : Callable Tryz.prog 57 := ⟨_, Tryz.func57, rfl, by kernel_rfl⟩
theorem cb58 : Callable Tryz.prog 58 := ⟨_, Tryz.func58, rfl, by kernel_rfl⟩
theorem cb61 : Callable Tryz.prog 61 := ⟨_, Tryz.func61, rfl, by kernel_rfl⟩
theorem cb62 : Callable Tryz.prog 62 := ⟨_, Tryz.func62, rfl, by kernel_rfl⟩
theorem cb63 : Callable Tryz.prog 63 := ⟨_, Tryz.func63, rfl, by kernel_rfl⟩
theorem cb64 : Callable Tryz.prog 64 := ⟨_, Tryz.func64, rfl, by kernel_rfl⟩
theorem cb65 : Callable Tryz.prog 65 := ⟨_, Tryz.func65, rfl, by kernel_rfl⟩
theorem cb66 : Callable Tryz.prog 66 := ⟨_, Tryz.func66, rfl, by kernel_rfl⟩
theorem cb67 : Callable Tryz.prog 67 := ⟨_, Tryz.func67, rfl, by kernel_rfl⟩
theorem cb68 : Callable Tryz.prog 68 := ⟨_, Tryz.func68, rfl, by kernel_rfl⟩
theorem cb69 : Callable Tryz.prog 69 := ⟨_, Tryz.func69, rfl, by kernel_rfl⟩
theorem cb70 : Callable Tryz.prog 70 := ⟨_, Tryz.func70, rfl, by kernel_rfl⟩
theorem cb71 : Callable Tryz.prog 71 := ⟨_, Tryz.func71, rfl, by kernel_rfl⟩
theorem cb72 : Callable Tryz.prog 72 := ⟨_, Tryz.func72, rfl, by kernel_rfl⟩
theorem cb73 : Callable Tryz.prog 73 := ⟨_, Tryz.func73, rfl, by kernel_rfl⟩
theorem cb74 : Callable Tryz.prog 74 := ⟨_, Tryz.func74, rfl, by kernel_rfl⟩
theorem cb75 : Callable Tryz.prog 75 := ⟨_, Tryz.func75, rfl, by kernel_rfl⟩
theorem cb76 : Callable Tryz.prog 76 := ⟨_, Tryz.func76, rfl, by kernel_rfl⟩
theorem cb77 : Callable Tryz.prog 77 := ⟨_, Tryz.func77, rfl, by kernel_rfl⟩
theorem cb78 : Callable Tryz.prog 78 := ⟨_, Tryz.func78, rfl, by kernel_rfl⟩
theorem cb79 : Callable Tryz.prog 79 := ⟨_, Tryz.func79, rfl, by kernel_rfl⟩
theorem cb80 : Callable Tryz.prog 80 := ⟨_, Tryz.func80, rfl, by kernel_rfl⟩
theorem cb81 : Callable Tryz.prog 81 := ⟨_, Tryz.func81, rfl, by kernel_rfl⟩
theorem cb82 : Callable Tryz.prog 82 := ⟨_, Tryz.func82, rfl, by kernel_rfl⟩
theorem cb83 : Callable Tryz.prog 83 := ⟨_, Tryz.func83, rfl, by kernel_rfl⟩
theorem cb84 : Callable Tryz.prog 84 := ⟨_, Tryz.func84, rfl, by kernel_rfl⟩
theorem cb85 : Callable Tryz.prog 85 := ⟨_, Tryz.func85, rfl, by kernel_rfl⟩
theorem cb86 : Callable Tryz.prog 86 := ⟨_, Tryz.func86, rfl, by kernel_rfl⟩
theorem cb88 : Callable Tryz.prog 88 := ⟨_, Tryz.func88, rfl, by kernel_rfl⟩
theorem cb89 : Callable Tryz.prog 89 := ⟨_, Tryz.func89, rfl, by kernel_rfl⟩
theorem cb90 : Callable Tryz.prog 90 := ⟨_, Tryz.func90, rfl, by kernel_rfl⟩
theorem cb91 : Callable Tryz.prog 91 := ⟨_, Tryz.func91, rfl, by kernel_rfl⟩
theorem cb92 : Callable Tryz.prog 92 := ⟨_, Tryz.func92, rfl, by kernel_rfl⟩
theorem cb93 : Callable Tryz.prog 93 := ⟨_, Tryz.func93, rfl, by kernel_rfl⟩
theorem cb94 : Callable Tryz.prog 94 := ⟨_, Tryz.func94, rfl, by kernel_rfl⟩
theorem cb95 : Callable Tryz.prog 95 := ⟨_, Tryz.func95, rfl, by kernel_rfl⟩
theorem cb96 : Callable Tryz.prog 96 := ⟨_, Tryz.func96, rfl, by kernel_rfl⟩
theorem cb97 : Callable Tryz.prog 97 := ⟨_, Tryz.func97, rfl, by kernel_rfl⟩
theorem cb98 : Callable Tryz.prog 98 := ⟨_, Tryz.func98, rfl, by kernel_rfl⟩
theorem cb100 : Callable Tryz.prog 100 := ⟨_, Tryz.func100, rfl, by kernel_rfl⟩
theorem cb101 : Callable Tryz.prog 101 := ⟨_, Tryz.func101, rfl, by kernel_rfl⟩
theorem cb102 : Callable Tryz.prog 102 := ⟨_, Tryz.func102, rfl, by kernel_rfl⟩
theorem cb103 : Callable Tryz.prog 103 := ⟨_, Tryz.func103, rfl, by kernel_rfl⟩
theorem cb104 : Callable Tryz.prog 104 := ⟨_, Tryz.func104, rfl, by kernel_rfl⟩
theorem cb105 : Callable Tryz.prog 105 := ⟨_, Tryz.func105, rfl, by kernel_rfl⟩
theorem cb109 : Callable Tryz.prog 109 := ⟨_, Tryz.func109, rfl, by kernel_rfl⟩
theorem cb110 : Callable Tryz.prog 110 := ⟨_, Tryz.func110, rfl, by kernel_rfl⟩
theorem cb111 : Callable Tryz.prog 111 := ⟨_, Tryz.func111, rfl, by kernel_rfl⟩
theorem cb112 : Callable Tryz.prog 112 := ⟨_, Tryz.func112, rfl, by kernel_rfl⟩
theorem cb114 : Callable Tryz.prog 114 := ⟨_, Tryz.func114, rfl, by kernel_rfl⟩
theorem cb115 : Callable Tryz.prog 115 := ⟨_, Tryz.func115, rfl, by kernel_rfl⟩
theorem cb116 : Callable Tryz.prog 116 := ⟨_, Tryz.func116, rfl, by kernel_rfl⟩
theorem cb117 : Callable Tryz.prog 117 := ⟨_, Tryz.func117, rfl, by kernel_rfl⟩
theorem cb118 : Callable Tryz.prog 118 := ⟨_, Tryz.func118, rfl, by kernel_rfl⟩
theorem cb119 : Callable Tryz.prog 119 := ⟨_, Tryz.func119, rfl, by kernel_rfl⟩
theorem cb120 : Callable Tryz.prog 120 := ⟨_, Tryz.func120, rfl, by kernel_rfl⟩
theorem cb121 : Callable Tryz.prog 121 := ⟨_, Tryz.func121, rfl, by kernel_rfl⟩
theorem cb122 : Callable Tryz.prog 122 := ⟨_, Tryz.func122, rfl, by kernel_rfl⟩
theorem cb123 : Callable Tryz.prog 123 := ⟨_, Tryz.func123, rfl, by kernel_rfl⟩
theorem cb124 : Callable Tryz.prog 124 := ⟨_, Tryz.func124, rfl, by kernel_rfl⟩
theorem cb125 : Callable Tryz.prog 125 := ⟨_, Tryz.func125, rfl, by kernel_rfl⟩
theorem cb126 : Callable Tryz.prog 126 := ⟨_, Tryz.func126, rfl, by kernel_rfl⟩
theorem cb127 : Callable Tryz.prog 127 := ⟨_, Tryz.func127, rfl, by kernel_rfl⟩
theorem cb128 : Callable Tryz.prog 128 := ⟨_, Tryz.func128, rfl, by kernel_rfl⟩
theorem cb129 : Callable Tryz.prog 129 := ⟨_, Tryz.func129, rfl, by kernel_rfl⟩
theorem cb130 : Callable Tryz.prog 130 := ⟨_, Tryz.func130, rfl, by kernel_rfl⟩
theorem cb131 : Callable Tryz.prog 131 := ⟨_, Tryz.func131, rfl, by kernel_rfl⟩
theorem cb132 : Callable Tryz.prog 132 := ⟨_, Tryz.func132, rfl, by kernel_rfl⟩
theorem cb133 : Callable Tryz.prog 133 := ⟨_, Tryz.func133, rfl, by kernel_rfl⟩
theorem cb134 : Callable Tryz.prog 134 := ⟨_, Tryz.func134, rfl, by kernel_rfl⟩
theorem cb135 : Callable Tryz.prog 135 := ⟨_, Tryz.func135, rfl, by kernel_rfl⟩
theorem cb136 : Callable Tryz.prog 136 := ⟨_, Tryz.func136, rfl, by kernel_rfl⟩
theorem cb137 : Callable Tryz.prog 137 := ⟨_, Tryz.func137, rfl, by kernel_rfl⟩
theorem cb138 : Callable Tryz.prog 138 := ⟨_, Tryz.func138, rfl, by kernel_rfl⟩
theorem cb140 : Callable Tryz.prog 140 := ⟨_, Tryz.func140, rfl, by kernel_rfl⟩
theorem cb141 : Callable Tryz.prog 141 := ⟨_, Tryz.func141, rfl, by kernel_rfl⟩
theorem cb142 : Callable Tryz.prog 142 := ⟨_, Tryz.func142, rfl, by kernel_rfl⟩
theorem cb143 : Callable Tryz.prog 143 := ⟨_, Tryz.func143, rfl, by kernel_rfl⟩
theorem cb147 : Callable Tryz.prog 147 := ⟨_, Tryz.func147, rfl, by kernel_rfl⟩
theorem cb148 : Callable Tryz.prog 148 := ⟨_, Tryz.func148, rfl, by kernel_rfl⟩
theorem cb149 : Callable Tryz.prog 149 := ⟨_, Tryz.func149, rfl, by kernel_rfl⟩
theorem cb150 : Callable Tryz.prog 150 := ⟨_, Tryz.func150, rfl, by kernel_rfl⟩
theorem cb151 : Callable Tryz.prog 151 := ⟨_, Tryz.func151, rfl, by kernel_rfl⟩
theorem cb152 : Callable Tryz.prog 152 := ⟨_, Tryz.func152, rfl, by kernel_rfl⟩
theorem cb153 : Callable Tryz.prog 153 := ⟨_, Tryz.func153, rfl, by kernel_rfl⟩
theorem cb154 : Callable Tryz.prog 154 := ⟨_, Tryz.func154, rfl, by kernel_rfl⟩
theorem cb155 : Callable Tryz.prog 155 := ⟨_, Tryz.func155, rfl, by kernel_rfl⟩
theorem cb156 : Callable Tryz.prog 156 := ⟨_, Tryz.func156, rfl, by kernel_rfl⟩
theorem cb157 : Callable Tryz.prog 157 := ⟨_, Tryz.func157, rfl, by kernel_rfl⟩
theorem cb158 : Callable Tryz.prog 158 := ⟨_, Tryz.func158, rfl, by kernel_rfl⟩
theorem cb159 : Callable Tryz.prog 159 := ⟨_, Tryz.func159, rfl, by kernel_rfl⟩
theorem cb160 : Callable Tryz.prog 160 := ⟨_, Tryz.func160, rfl, by kernel_rfl⟩
theorem cb162 : Callable Tryz.prog 162 := ⟨_, Tryz.func162, rfl, by kernel_rfl⟩
theorem cb163 : Callable Tryz.prog 163 := ⟨_, Tryz.func163, rfl, by kernel_rfl⟩
theorem cb170 : Callable Tryz.prog 170 := ⟨_, Tryz.func170, rfl, by kernel_rfl⟩
theorem cb171 : Callable Tryz.prog 171 := ⟨_, Tryz.func171, rfl, by kernel_rfl⟩
theorem cb172 : Callable Tryz.prog 172 := ⟨_, Tryz.func172, rfl, by kernel_rfl⟩
theorem cb173 : Callable Tryz.prog 173 := ⟨_, Tryz.func173, rfl, by kernel_rfl⟩
theorem cb174 : Callable Tryz.prog 174 := ⟨_, Tryz.func174, rfl, by kernel_rfl⟩
theorem cb175 : Callable Tryz.prog 175 := ⟨_, Tryz.func175, rfl, by kernel_rfl⟩
theorem cb176 : Callable Tryz.prog 176 := ⟨_, Tryz.func176, rfl, by kernel_rfl⟩
theorem cb177 : Callable Tryz.prog 177 := ⟨_, Tryz.func177, rfl, by kernel_rfl⟩
theorem cb178 : Callable Tryz.prog 178 := ⟨_, Tryz.func178, rfl, by kernel_rfl⟩
theorem cb179 : Callable Tryz.prog 179 := ⟨_, Tryz.func179, rfl, by kernel_rfl⟩
theorem cb180 : Callable Tryz.prog 180 := ⟨_, Tryz.func180, rfl, by kernel_rfl⟩
theorem cb181 : Callable Tryz.prog 181 := ⟨_, Tryz.func181, rfl, by kernel_rfl⟩
theorem cb183 : Callable Tryz.prog 183 := ⟨_, Tryz.func183, rfl, by kernel_rfl⟩
theorem cb190 : Callable Tryz.prog 190 := ⟨_, Tryz.func190, rfl, by kernel_rfl⟩
theorem cb193 : Callable Tryz.prog 193 := ⟨_, Tryz.func193, rfl, by kernel_rfl⟩
theorem cb194 : Callable Tryz.prog 194 := ⟨_, Tryz.func194, rfl, by kernel_rfl⟩
theorem cb195 : Callable Tryz.prog 195 := ⟨_, Tryz.func195, rfl, by kernel_rfl⟩
theorem cb196 : Callable Tryz.prog 196 := ⟨_, Tryz.func196, rfl, by kernel_rfl⟩
theorem cb198 : Callable Tryz.prog 198 := ⟨_, Tryz.func198, rfl, by kernel_rfl⟩
theorem cb200 : Callable Tryz.prog 200 := ⟨_, Tryz.func200, rfl, by kernel_rfl⟩
end Go.Proofs.YtlgoegjboabgfaaGreatDoor
namespace Go.Proofs
open Go.Shelf
def Tryz.lays156_ren : Go.Shelf.Ren := ⟨fun | 156 => 76 | 165 => 106 | 166 => 107 | 169 => 108 | 240 => 145 | 241 => 146 | 276 => 165 | 277 => 166 | n => n, fun | 31 => 61 | 9 => 9 | 3 => 3 | 4 => 4 | 0 => 0 | 20 => 20 | 72 => 180 | 76 => 183 | 70 => 178 | 37 => 159 | 75 => 182 | 127 => 221 | 164 => 245 | 5 => 5 | 80 => 185 | n => n, fun | n => n⟩
theorem Tryz.lays156 : Go.Proofs.Lays.n156 Tryz.prog Tryz.lays156_ren := {
  mixed := by kernel_rfl
  f156 := Tryz.func76.trans (congrArg some (by kernel_rfl))
  f165 := Tryz.func106.trans (congrArg some (by kernel_rfl))
  f166 := Tryz.func107.trans (congrArg some (by kernel_rfl))
  f169 := Tryz.func108.trans (congrArg some (by kernel_rfl))
  f240 := Tryz.func145.trans (congrArg some (by kernel_rfl))
  f241 := Tryz.func146.trans (congrArg some (by kernel_rfl))
  f276 := Tryz.func165.trans (congrArg some (by kernel_rfl))
  f277 := Tryz.func166.trans (congrArg some (by kernel_rfl))
  t0 := Tryz.underlying0
  a0 := Tryz.isAgg0
  z0 := Tryz.sizeOf0
  v0 := Tryz.zeroValue0
  t3 := Tryz.underlying3
  a3 := Tryz.isAgg3
  z3 := Tryz.sizeOf3
  v3 := Tryz.zeroValue3
  t4 := Tryz.underlying4
  a4 := Tryz.isAgg4
  z4 := Tryz.sizeOf4
  v4 := Tryz.zeroValue4
  t9 := Tryz.underlying9
  a9 := Tryz.isAgg9
  z9 := Tryz.sizeOf9
  v9 := Tryz.zeroValue9
  t20 := Tryz.underlying20
  a20 := Tryz.isAgg20
  z20 := Tryz.sizeOf20
  v20 := Tryz.zeroValue20
  t31 := Tryz.underlying61
  a31 := Tryz.isAgg61
  z31 := Tryz.sizeOf61
  v31 := Tryz.zeroValue61
  t37 := Tryz.underlying159
  a37 := Tryz.isAgg159
  z37 := Tryz.sizeOf159
  v37 := Tryz.zeroValue159
  t70 := Tryz.underlying178
  a70 := Tryz.isAgg178
  z70 := Tryz.sizeOf178
  v70 := Tryz.zeroValue178
  t72 := Tryz.underlying180
  a72 := Tryz.isAgg180
  z72 := Tryz.sizeOf180
  v72 := Tryz.zeroValue180
  t75 := Tryz.underlying182
  a75 := Tryz.isAgg182
  z75 := Tryz.sizeOf182
  v75 := Tryz.zeroValue182
  t76 := Tryz.underlying183
  a76 := Tryz.isAgg183
  z76 := Tryz.sizeOf183
  v76 := Tryz.zeroValue183
  t127 := Tryz.underlying221
  a127 := Tryz.isAgg221
  z127 := Tryz.sizeOf221
  v127 := Tryz.zeroValue221
  t164 := Tryz.underlying245
  a164 := Tryz.isAgg245
  z164 := Tryz.sizeOf245
  v164 := Tryz.zeroValue245 }
theorem Tryz.Builder_Extra_156 : Builder.Extra Tryz.prog Tryz.lays156_ren := {
  sizeBuilder := by kernel_rfl
  liesBuilder := by kernel_rfl
  t5 := Tryz.underlying5
  a5 := Tryz.isAgg5
  z5 := Tryz.sizeOf5
  v5 := Tryz.zeroValue5
  infoByte := by kernel_rfl
  cellsByte := by kernel_rfl
  sizeByte := by kernel_rfl
  neB5 := by decide }
open Go.RowKit in
/-- strings.Join: "Join concatenates the elements of its first argument to create a single string. The separator string sep is placed between elements in the resulting string.": HOWEVER MANY ELEMENTS. Below the heap's end the world is as it was. (LAID: no walk: one application.) -/
theorem Tryz.strings_Join (bk o c : Nat) (xs : List ByteArray) (sep : ByteArray) (w : World) (hcells : ∀ (j : Nat) x, xs[j]? = some x → w.cell? ⟨bk, o + j, none⟩ = some (.string x)) (hbk : bk < w.heap.size) (hN : xs.length ≤ 140737488355328) (hcap : xs.length ≤ c) (hlen : (Lib.join (xs.map (·.data.toList)) sep.data.toList).length ≤ 140737488355328) :
    Calls Tryz.prog 76 #[.slice (some ⟨bk, o, none⟩) xs.length c, .string sep] w fun e w' => e = .returned (.string ⟨(Lib.join (xs.map (·.data.toList)) sep.data.toList).toArray⟩) ∧ Below w.heap.size w w' := Any.strings_Join Tryz.lays156 Tryz.Builder_Extra_156 bk o c xs sep w hcells hbk hN hcap hlen
def Tryz.lays137_ren : Go.Shelf.Ren := ⟨fun | 137 => 132 | 217 => 161 | 266 => 182 | n => n, fun | 9 => 9 | 5 => 5 | 3 => 3 | n => n, fun | n => n⟩
theorem Tryz.lays137 : Go.Proofs.Lays.n137 Tryz.prog Tryz.lays137_ren := {
  mixed := by kernel_rfl
  f137 := Tryz.func132.trans (congrArg some (by kernel_rfl))
  f217 := Tryz.func161.trans (congrArg some (by kernel_rfl))
  f266 := Tryz.func182.trans (congrArg some (by kernel_rfl))
  t3 := Tryz.underlying3
  a3 := Tryz.isAgg3
  z3 := Tryz.sizeOf3
  v3 := Tryz.zeroValue3
  t5 := Tryz.underlying5
  a5 := Tryz.isAgg5
  z5 := Tryz.sizeOf5
  v5 := Tryz.zeroValue5
  t9 := Tryz.underlying9
  a9 := Tryz.isAgg9
  z9 := Tryz.sizeOf9
  v9 := Tryz.zeroValue9 }
open Go.RowKit in
/-- strings.IndexByte: "IndexByte returns the index of the first instance of c in s, or -1 if c is not present in s.": IT RETURNS 'Lib.indexByte s c'; the world is as it was. (LAID: no walk: one application.) -/
theorem Tryz.strings_IndexByte (s : ByteArray) (c : Int) (w : World) :
    Calls Tryz.prog 132 #[.string s, .int .u8 c] w fun e w' => e = .returned (.int .i64 (Lib.indexByte s.data.toList c.toNat.toUInt8)) ∧ w' = w := Any.strings_IndexByte Tryz.lays137 s c w
def Tryz.laysM171_ren : Go.Shelf.Ren := ⟨fun | 171 => 105 | 243 => 144 | 246 => 164 | 283 => 184 | 284 => 185 | 285 => 186 | 286 => 187 | 129 => 202 | 317 => 201 | 318 => 203 | 319 => 204 | 320 => 205 | 337 => 220 | 338 => 221 | n => n, fun | 3 => 3 | 9 => 9 | 2 => 2 | 4 => 4 | 171 => 261 | 0 => 0 | 53 => 25 | 37 => 159 | 5 => 5 | 173 => 263 | 212 => 279 | 51 => 191 | 20 => 20 | 213 => 280 | 46 => 150 | 232 => 295 | 233 => 296 | n => n, fun | 17 => 2 | 18 => 3 | 19 => 4 | n => n⟩
theorem Tryz.laysM171 : Go.Proofs.LaysM.n171 Tryz.prog Tryz.laysM171_ren := {
  mixed := by kernel_rfl
  f129 := Tryz.func202.trans (congrArg some (by kernel_rfl))
  f171 := Tryz.func105.trans (congrArg some (by kernel_rfl))
  f243 := Tryz.func144.trans (congrArg some (by kernel_rfl))
  f246 := Tryz.func164.trans (congrArg some (by kernel_rfl))
  f283 := Tryz.func184.trans (congrArg some (by kernel_rfl))
  f284 := Tryz.func185.trans (congrArg some (by kernel_rfl))
  f285 := Tryz.func186.trans (congrArg some (by kernel_rfl))
  f286 := Tryz.func187.trans (congrArg some (by kernel_rfl))
  f317 := Tryz.func201.trans (congrArg some (by kernel_rfl))
  f318 := Tryz.func203.trans (congrArg some (by kernel_rfl))
  f319 := Tryz.func204.trans (congrArg some (by kernel_rfl))
  f320 := Tryz.func205.trans (congrArg some (by kernel_rfl))
  f337 := Tryz.func220.trans (congrArg some (by kernel_rfl))
  f338 := Tryz.func221.trans (congrArg some (by kernel_rfl))
  t0 := Tryz.underlying0
  a0 := Tryz.isAgg0
  z0 := Tryz.sizeOf0
  v0 := Tryz.zeroValue0
  t2 := Tryz.underlying2
  a2 := Tryz.isAgg2
  z2 := Tryz.sizeOf2
  v2 := Tryz.zeroValue2
  t3 := Tryz.underlying3
  a3 := Tryz.isAgg3
  z3 := Tryz.sizeOf3
  v3 := Tryz.zeroValue3
  t4 := Tryz.underlying4
  a4 := Tryz.isAgg4
  z4 := Tryz.sizeOf4
  v4 := Tryz.zeroValue4
  t5 := Tryz.underlying5
  a5 := Tryz.isAgg5
  z5 := Tryz.sizeOf5
  v5 := Tryz.zeroValue5
  t9 := Tryz.underlying9
  a9 := Tryz.isAgg9
  z9 := Tryz.sizeOf9
  v9 := Tryz.zeroValue9
  t20 := Tryz.underlying20
  a20 := Tryz.isAgg20
  z20 := Tryz.sizeOf20
  v20 := Tryz.zeroValue20
  t37 := Tryz.underlying159
  a37 := Tryz.isAgg159
  z37 := Tryz.sizeOf159
  v37 := Tryz.zeroValue159
  t46 := Tryz.underlying150
  a46 := Tryz.isAgg150
  z46 := Tryz.sizeOf150
  v46 := Tryz.zeroValue150
  t51 := Tryz.underlying191
  a51 := Tryz.isAgg191
  z51 := Tryz.sizeOf191
  v51 := Tryz.zeroValue191
  t53 := Tryz.underlying25
  a53 := Tryz.isAgg25
  z53 := Tryz.sizeOf25
  v53 := Tryz.zeroValue25
  t171 := Tryz.underlying261
  a171 := Tryz.isAgg261
  z171 := Tryz.sizeOf261
  v171 := Tryz.zeroValue261
  t173 := Tryz.underlying263
  a173 := Tryz.isAgg263
  z173 := Tryz.sizeOf263
  v173 := Tryz.zeroValue263
  t212 := Tryz.underlying279
  a212 := Tryz.isAgg279
  z212 := Tryz.sizeOf279
  v212 := Tryz.zeroValue279
  t213 := Tryz.underlying280
  a213 := Tryz.isAgg280
  z213 := Tryz.sizeOf280
  t232 := Tryz.underlying295
  a232 := Tryz.isAgg295
  z232 := Tryz.sizeOf295
  v232 := Tryz.zeroValue295
  t233 := Tryz.underlying296
  a233 := Tryz.isAgg296
  z233 := Tryz.sizeOf296
  v233 := Tryz.zeroValue296
  g17 := by kernel_rfl
  g18 := by kernel_rfl
  g19 := by kernel_rfl
  i0 := by kernel_rfl
  i2 := by kernel_rfl
  i3 := by kernel_rfl
  i4 := by kernel_rfl
  i5 := by kernel_rfl
  i9 := by kernel_rfl
  i20 := by kernel_rfl
  i37 := by kernel_rfl
  i46 := by kernel_rfl
  i51 := by kernel_rfl
  i53 := by kernel_rfl
  i171 := by kernel_rfl
  i173 := by kernel_rfl
  i212 := by kernel_rfl
  i232 := by kernel_rfl
  i233 := by kernel_rfl
  m17 := by kernel_rfl
  m18 := by kernel_rfl
  m19 := by kernel_rfl }
open Go.RowKit Go.Sort Go.Lib in
/-- strconv.Itoa: "Itoa is equivalent to FormatInt(int64(i), 10).": i's DECIMAL NUMERAL ('Lib.itoa': a '-' where i is negative, then the digits), FOR EVERY int. The world behind the call: the world before it, new blocks behind the heap (the library's 'var a [24]byte'), draws. (LAID: no walk: one application.) -/
theorem Tryz.strconv_Itoa (n : Int) (h0 : -9223372036854775808 ≤ n) (h1 : n ≤ 9223372036854775807) (w : World) (htab : Lib.TabIs Tryz.prog w "internal/strconv.uint64pow10" .u64 Lib.pow10Tab) :
    Calls Tryz.prog 105 #[.int .i64 n] w fun e w' => e = .returned (.string ⟨(Lib.itoa n).toArray⟩) ∧ ∃ k os, w' = grow (w.drewN k) os := Any.strconv_Itoa Tryz.laysM171 n h0 h1 w htab
def Tryz.lays171_ren : Go.Shelf.Ren := ⟨fun | 171 => 105 | 243 => 144 | 246 => 164 | 283 => 184 | 284 => 185 | 285 => 186 | 286 => 187 | 129 => 202 | 317 => 201 | 318 => 203 | 319 => 204 | 320 => 205 | 337 => 220 | 338 => 221 | n => n, fun | 3 => 3 | 9 => 9 | 2 => 2 | 4 => 4 | 171 => 261 | 0 => 0 | 53 => 25 | 37 => 159 | 5 => 5 | 173 => 263 | 212 => 279 | 51 => 191 | 20 => 20 | 213 => 280 | 46 => 150 | 232 => 295 | 233 => 296 | n => n, fun | 17 => 2 | 18 => 3 | 19 => 4 | n => n⟩
theorem Tryz.lays171 : Go.Proofs.Lays.n171 Tryz.prog Tryz.lays171_ren := {
  mixed := by kernel_rfl
  f129 := Tryz.func202.trans (congrArg some (by kernel_rfl))
  f171 := Tryz.func105.trans (congrArg some (by kernel_rfl))
  f243 := Tryz.func144.trans (congrArg some (by kernel_rfl))
  f246 := Tryz.func164.trans (congrArg some (by kernel_rfl))
  f283 := Tryz.func184.trans (congrArg some (by kernel_rfl))
  f284 := Tryz.func185.trans (congrArg some (by kernel_rfl))
  f285 := Tryz.func186.trans (congrArg some (by kernel_rfl))
  f286 := Tryz.func187.trans (congrArg some (by kernel_rfl))
  f317 := Tryz.func201.trans (congrArg some (by kernel_rfl))
  f318 := Tryz.func203.trans (congrArg some (by kernel_rfl))
  f319 := Tryz.func204.trans (congrArg some (by kernel_rfl))
  f320 := Tryz.func205.trans (congrArg some (by kernel_rfl))
  f337 := Tryz.func220.trans (congrArg some (by kernel_rfl))
  f338 := Tryz.func221.trans (congrArg some (by kernel_rfl))
  t0 := Tryz.underlying0
  a0 := Tryz.isAgg0
  z0 := Tryz.sizeOf0
  v0 := Tryz.zeroValue0
  t2 := Tryz.underlying2
  a2 := Tryz.isAgg2
  z2 := Tryz.sizeOf2
  v2 := Tryz.zeroValue2
  t3 := Tryz.underlying3
  a3 := Tryz.isAgg3
  z3 := Tryz.sizeOf3
  v3 := Tryz.zeroValue3
  t4 := Tryz.underlying4
  a4 := Tryz.isAgg4
  z4 := Tryz.sizeOf4
  v4 := Tryz.zeroValue4
  t5 := Tryz.underlying5
  a5 := Tryz.isAgg5
  z5 := Tryz.sizeOf5
  v5 := Tryz.zeroValue5
  t9 := Tryz.underlying9
  a9 := Tryz.isAgg9
  z9 := Tryz.sizeOf9
  v9 := Tryz.zeroValue9
  t20 := Tryz.underlying20
  a20 := Tryz.isAgg20
  z20 := Tryz.sizeOf20
  v20 := Tryz.zeroValue20
  t37 := Tryz.underlying159
  a37 := Tryz.isAgg159
  z37 := Tryz.sizeOf159
  v37 := Tryz.zeroValue159
  t46 := Tryz.underlying150
  a46 := Tryz.isAgg150
  z46 := Tryz.sizeOf150
  v46 := Tryz.zeroValue150
  t51 := Tryz.underlying191
  a51 := Tryz.isAgg191
  z51 := Tryz.sizeOf191
  v51 := Tryz.zeroValue191
  t53 := Tryz.underlying25
  a53 := Tryz.isAgg25
  z53 := Tryz.sizeOf25
  v53 := Tryz.zeroValue25
  t171 := Tryz.underlying261
  a171 := Tryz.isAgg261
  z171 := Tryz.sizeOf261
  v171 := Tryz.zeroValue261
  t173 := Tryz.underlying263
  a173 := Tryz.isAgg263
  z173 := Tryz.sizeOf263
  v173 := Tryz.zeroValue263
  t212 := Tryz.underlying279
  a212 := Tryz.isAgg279
  z212 := Tryz.sizeOf279
  v212 := Tryz.zeroValue279
  t213 := Tryz.underlying280
  a213 := Tryz.isAgg280
  z213 := Tryz.sizeOf280
  t232 := Tryz.underlying295
  a232 := Tryz.isAgg295
  z232 := Tryz.sizeOf295
  v232 := Tryz.zeroValue295
  t233 := Tryz.underlying296
  a233 := Tryz.isAgg296
  z233 := Tryz.sizeOf296
  v233 := Tryz.zeroValue296
  g17 := by kernel_rfl
  g18 := by kernel_rfl
  g19 := by kernel_rfl }
open Go.RowKit Go.Sort Go.Lib in
/-- THE ROAD WITHOUT THE TABLE: 0 <= i < 100: NO PREMISE ON THE WORLD, AND THE WORLD IS AS IT WAS: a row that keeps its argument in that range need list no table ('laid = []'). (LAID: no walk: one application.) -/
theorem Tryz.strconv_Itoa_small (i : Nat) (hi : i < 100) (w : World) :
    Calls Tryz.prog 105 #[.int .i64 i] w fun e w' => e = .returned (.string ⟨(Lib.decDigits i).toArray⟩) ∧ w' = w := Any.strconv_Itoa_small Tryz.lays171 i hi w
def Tryz.lays189_ren : Go.Shelf.Ren := ⟨fun | 189 => 176 | 125 => 192 | 257 => 191 | 128 => 215 | 129 => 202 | 294 => 206 | 295 => 207 | 296 => 208 | 297 => 209 | 298 => 210 | 299 => 211 | 216 => 212 | 300 => 213 | 301 => 214 | 328 => 222 | 329 => 223 | 330 => 224 | 331 => 225 | 332 => 226 | 215 => 227 | 343 => 228 | n => n, fun | 28 => 111 | 3 => 3 | 46 => 150 | 0 => 0 | 51 => 191 | 53 => 25 | 4 => 4 | 183 => 283 | 182 => 282 | 131 => 153 | 5 => 5 | 9 => 9 | 218 => 290 | 222 => 293 | 228 => 297 | 229 => 40 | n => n, fun | n => n⟩
theorem Tryz.lays189 : Go.Proofs.Lays.n189 Tryz.prog Tryz.lays189_ren := {
  mixed := by kernel_rfl
  f125 := Tryz.func192.trans (congrArg some (by kernel_rfl))
  f128 := Tryz.func215.trans (congrArg some (by kernel_rfl))
  f129 := Tryz.func202.trans (congrArg some (by kernel_rfl))
  f189 := Tryz.func176.trans (congrArg some (by kernel_rfl))
  f215 := Tryz.func227.trans (congrArg some (by kernel_rfl))
  f216 := Tryz.func212.trans (congrArg some (by kernel_rfl))
  f257 := Tryz.func191.trans (congrArg some (by kernel_rfl))
  f294 := Tryz.func206.trans (congrArg some (by kernel_rfl))
  f295 := Tryz.func207.trans (congrArg some (by kernel_rfl))
  f296 := Tryz.func208.trans (congrArg some (by kernel_rfl))
  f297 := Tryz.func209.trans (congrArg some (by kernel_rfl))
  f298 := Tryz.func210.trans (congrArg some (by kernel_rfl))
  f299 := Tryz.func211.trans (congrArg some (by kernel_rfl))
  f300 := Tryz.func213.trans (congrArg some (by kernel_rfl))
  f301 := Tryz.func214.trans (congrArg some (by kernel_rfl))
  f328 := Tryz.func222.trans (congrArg some (by kernel_rfl))
  f329 := Tryz.func223.trans (congrArg some (by kernel_rfl))
  f330 := Tryz.func224.trans (congrArg some (by kernel_rfl))
  f331 := Tryz.func225.trans (congrArg some (by kernel_rfl))
  f332 := Tryz.func226.trans (congrArg some (by kernel_rfl))
  f343 := Tryz.func228.trans (congrArg some (by kernel_rfl))
  t0 := Tryz.underlying0
  a0 := Tryz.isAgg0
  z0 := Tryz.sizeOf0
  v0 := Tryz.zeroValue0
  t3 := Tryz.underlying3
  a3 := Tryz.isAgg3
  z3 := Tryz.sizeOf3
  v3 := Tryz.zeroValue3
  t4 := Tryz.underlying4
  a4 := Tryz.isAgg4
  z4 := Tryz.sizeOf4
  v4 := Tryz.zeroValue4
  t5 := Tryz.underlying5
  a5 := Tryz.isAgg5
  z5 := Tryz.sizeOf5
  v5 := Tryz.zeroValue5
  t9 := Tryz.underlying9
  a9 := Tryz.isAgg9
  z9 := Tryz.sizeOf9
  v9 := Tryz.zeroValue9
  t28 := Tryz.underlying111
  a28 := Tryz.isAgg111
  z28 := Tryz.sizeOf111
  v28 := Tryz.zeroValue111
  t46 := Tryz.underlying150
  a46 := Tryz.isAgg150
  z46 := Tryz.sizeOf150
  v46 := Tryz.zeroValue150
  t51 := Tryz.underlying191
  a51 := Tryz.isAgg191
  z51 := Tryz.sizeOf191
  v51 := Tryz.zeroValue191
  t53 := Tryz.underlying25
  a53 := Tryz.isAgg25
  z53 := Tryz.sizeOf25
  v53 := Tryz.zeroValue25
  t131 := Tryz.underlying153
  a131 := Tryz.isAgg153
  z131 := Tryz.sizeOf153
  v131 := Tryz.zeroValue153
  t182 := Tryz.underlying282
  a182 := Tryz.isAgg282
  z182 := Tryz.sizeOf282
  v182 := Tryz.zeroValue282
  t183 := Tryz.underlying283
  a183 := Tryz.isAgg283
  z183 := Tryz.sizeOf283
  v183 := Tryz.zeroValue283
  t218 := Tryz.underlying290
  a218 := Tryz.isAgg290
  z218 := Tryz.sizeOf290
  v218 := Tryz.zeroValue290
  t222 := Tryz.underlying293
  a222 := Tryz.isAgg293
  z222 := Tryz.sizeOf293
  v222 := Tryz.zeroValue293
  t228 := Tryz.underlying297
  a228 := Tryz.isAgg297
  z228 := Tryz.sizeOf297
  v228 := Tryz.zeroValue297
  t229 := Tryz.underlying40
  a229 := Tryz.isAgg40
  z229 := Tryz.sizeOf40
  v229 := Tryz.zeroValue40 }
open Go.Sort Go.RowKit in
theorem Tryz.slices_Sort_int (blk off cap : Nat) (zs : List Int) (w : World) (hH : Holds (Value.int .i64) w blk off zs.toArray) (hblk : blk < w.heap.size) (hsz : zs.length < 4611686018427387904) :
    Calls Tryz.prog 176 #[.slice (some ⟨blk, off, none⟩) zs.length cap] w fun e w' =>
      e = .returned (.tuple #[]) ∧ ∃ n os, w' = grow (putRow (Value.int .i64) (Sort.ahead w n) blk off (zs.mergeSort fun x y => decide (x ≤ y)).toArray) os := Any.slices_Sort_int Tryz.lays189 blk off cap zs w hH hblk hsz
def Tryz.lays264_ren : Go.Shelf.Ren := ⟨fun | 264 => 123 | n => n, fun | 53 => 25 | 46 => 150 | n => n, fun | n => n⟩
theorem Tryz.lays264 : Go.Proofs.Lays.n264 Tryz.prog Tryz.lays264_ren := {
  mixed := by kernel_rfl
  f264 := Tryz.func123.trans (congrArg some (by kernel_rfl))
  t46 := Tryz.underlying150
  a46 := Tryz.isAgg150
  z46 := Tryz.sizeOf150
  v46 := Tryz.zeroValue150
  t53 := Tryz.underlying25
  a53 := Tryz.isAgg25
  z53 := Tryz.sizeOf25
  v53 := Tryz.zeroValue25 }
open Go.RowKit Go.Lib in
theorem Tryz.bits_Mul64 (x y : Nat) (hx : x < 18446744073709551616) (hy : y < 18446744073709551616) (w : World) :
    Calls Tryz.prog 123 #[.int .u64 x, .int .u64 y] w fun e w' => e = .returned (.tuple #[.int .u64 ((x * y / 18446744073709551616 : Nat) : Int), .int .u64 ((x * y % 18446744073709551616 : Nat) : Int)]) ∧ w' = w := Any.bits_Mul64 Tryz.lays264 x y hx hy w
def Tryz.lays105_ren : Go.Shelf.Ren := ⟨fun | 105 => 147 | 212 => 167 | 99 => 168 | 165 => 106 | 166 => 107 | 170 => 169 | 169 => 108 | 263 => 188 | 264 => 123 | 206 => 189 | 240 => 145 | 241 => 146 | 276 => 165 | 277 => 166 | n => n, fun | 9 => 9 | 3 => 3 | 4 => 4 | 20 => 20 | 0 => 0 | 46 => 150 | 109 => 248 | 5 => 5 | 72 => 180 | 76 => 183 | 51 => 191 | 146 => 265 | 53 => 25 | 148 => 200 | 70 => 178 | 37 => 159 | 75 => 182 | 127 => 221 | 164 => 245 | 80 => 185 | n => n, fun | n => n⟩
theorem Tryz.lays105 : Go.Proofs.Lays.n105 Tryz.prog Tryz.lays105_ren := {
  mixed := by kernel_rfl
  f99 := Tryz.func168.trans (congrArg some (by kernel_rfl))
  f105 := Tryz.func147.trans (congrArg some (by kernel_rfl))
  f165 := Tryz.func106.trans (congrArg some (by kernel_rfl))
  f166 := Tryz.func107.trans (congrArg some (by kernel_rfl))
  f169 := Tryz.func108.trans (congrArg some (by kernel_rfl))
  f170 := Tryz.func169.trans (congrArg some (by kernel_rfl))
  f206 := Tryz.func189.trans (congrArg some (by kernel_rfl))
  f212 := Tryz.func167.trans (congrArg some (by kernel_rfl))
  f240 := Tryz.func145.trans (congrArg some (by kernel_rfl))
  f241 := Tryz.func146.trans (congrArg some (by kernel_rfl))
  f263 := Tryz.func188.trans (congrArg some (by kernel_rfl))
  f264 := Tryz.func123.trans (congrArg some (by kernel_rfl))
  f276 := Tryz.func165.trans (congrArg some (by kernel_rfl))
  f277 := Tryz.func166.trans (congrArg some (by kernel_rfl))
  t0 := Tryz.underlying0
  a0 := Tryz.isAgg0
  z0 := Tryz.sizeOf0
  v0 := Tryz.zeroValue0
  t3 := Tryz.underlying3
  a3 := Tryz.isAgg3
  z3 := Tryz.sizeOf3
  v3 := Tryz.zeroValue3
  t4 := Tryz.underlying4
  a4 := Tryz.isAgg4
  z4 := Tryz.sizeOf4
  v4 := Tryz.zeroValue4
  t5 := Tryz.underlying5
  a5 := Tryz.isAgg5
  z5 := Tryz.sizeOf5
  v5 := Tryz.zeroValue5
  t9 := Tryz.underlying9
  a9 := Tryz.isAgg9
  z9 := Tryz.sizeOf9
  v9 := Tryz.zeroValue9
  t20 := Tryz.underlying20
  a20 := Tryz.isAgg20
  z20 := Tryz.sizeOf20
  v20 := Tryz.zeroValue20
  t37 := Tryz.underlying159
  a37 := Tryz.isAgg159
  z37 := Tryz.sizeOf159
  v37 := Tryz.zeroValue159
  t46 := Tryz.underlying150
  a46 := Tryz.isAgg150
  z46 := Tryz.sizeOf150
  v46 := Tryz.zeroValue150
  t51 := Tryz.underlying191
  a51 := Tryz.isAgg191
  z51 := Tryz.sizeOf191
  v51 := Tryz.zeroValue191
  t53 := Tryz.underlying25
  a53 := Tryz.isAgg25
  z53 := Tryz.sizeOf25
  v53 := Tryz.zeroValue25
  t70 := Tryz.underlying178
  a70 := Tryz.isAgg178
  z70 := Tryz.sizeOf178
  v70 := Tryz.zeroValue178
  t72 := Tryz.underlying180
  a72 := Tryz.isAgg180
  z72 := Tryz.sizeOf180
  v72 := Tryz.zeroValue180
  t75 := Tryz.underlying182
  a75 := Tryz.isAgg182
  z75 := Tryz.sizeOf182
  v75 := Tryz.zeroValue182
  t76 := Tryz.underlying183
  a76 := Tryz.isAgg183
  z76 := Tryz.sizeOf183
  v76 := Tryz.zeroValue183
  t109 := Tryz.underlying248
  a109 := Tryz.isAgg248
  z109 := Tryz.sizeOf248
  v109 := Tryz.zeroValue248
  t127 := Tryz.underlying221
  a127 := Tryz.isAgg221
  z127 := Tryz.sizeOf221
  v127 := Tryz.zeroValue221
  t146 := Tryz.underlying265
  a146 := Tryz.isAgg265
  z146 := Tryz.sizeOf265
  v146 := Tryz.zeroValue265
  t148 := Tryz.underlying200
  a148 := Tryz.isAgg200
  z148 := Tryz.sizeOf200
  v148 := Tryz.zeroValue200
  t164 := Tryz.underlying245
  a164 := Tryz.isAgg245
  z164 := Tryz.sizeOf245
  v164 := Tryz.zeroValue245 }
theorem Tryz.Builder_Extra_105 : Builder.Extra Tryz.prog Tryz.lays105_ren := {
  sizeBuilder := by kernel_rfl
  liesBuilder := by kernel_rfl
  t5 := Tryz.underlying5
  a5 := Tryz.isAgg5
  z5 := Tryz.sizeOf5
  v5 := Tryz.zeroValue5
  infoByte := by kernel_rfl
  cellsByte := by kernel_rfl
  sizeByte := by kernel_rfl
  neB5 := by decide }
open Go.RowKit Go.Lib in
/-- **strings.Repeat: count ≥ 0, the result within one allocation: count copies of s.** (LAID: no walk: one application.) -/
theorem Tryz.strings_Repeat (s : ByteArray) (c : Nat) (w : World) (hc : c ≤ 9223372036854775807) (hlen : s.size * c ≤ 140737488355328) :
    Calls Tryz.prog 147 #[.string s, .int .i64 c] w fun e w' => e = .returned (.string ⟨(Lib.repeatL s.data.toList c).toArray⟩) ∧ Below w.heap.size w w' := Any.strings_Repeat Tryz.lays105 Tryz.Builder_Extra_105 s c w hc hlen
open Go.RowKit Go.Sort in
/-- .. and plain. (LAID: no walk: one application.) -/
theorem Tryz.slices_Sort_int_none (p : Option Addr) (cap : Nat) (w : World) :
    Calls Tryz.prog 176 #[.slice p 0 cap] w fun e w' => e = .returned (.tuple #[]) ∧ w' = w := Any.slices_Sort_int_none Tryz.lays189 p cap w
end Go.Proofs
namespace Go.Proofs.YtlgoegjboabgfaaGreatDoor
open Eng
theorem encZ_map : ∀ z : List Int, z.map encZ = z.flatMap intE
  | [] => rfl
  | a :: z => by rw [List.map_cons, encZ_map z]; rfl
theorem sortI {m : Mem} {τ σk : Sig} {sv : Value} {ks : List Int} (hown : OwnS 3 1 sv (ks.flatMap intE) σk) (hsz : ks.length < 4611686018427387904) :
    CallsS Tryz.prog 176 [sv].toArray (σk ++ τ) m fun _ σ' m' => m' = m ∧ ∃ σk', σ' = σk' ++ τ ∧ OwnS 3 1 sv ((ks.mergeSort leI).flatMap intE) σk' := by
  have hx : (ks.flatMap intE).length = ks.length := by rw [flatMap_len intE_len, Nat.mul_one]
  have hl2 : (ks.mergeSort leI).length = ks.length := (List.mergeSort_perm ks leI).length_eq
  generalize hxs : ks.flatMap intE = xs at hown hx
  cases hown with
  | nil =>
    have h0 : ks = [] := List.eq_nil_of_length_eq_zero (by simpa using hx.symm)
    subst h0
    intro g W hC
    exact (Tryz.slices_Sort_int_none none 0 W).mono fun e W' ⟨h1, h2⟩ => by
      subst h2
      exact ⟨_, _, m, h1, hC, Le.refl m, rfl, [], rfl, by simp only [List.mergeSort_nil, List.flatMap_nil]; exact .nil⟩
  | row B n cap xs hn hle hcm =>
    have hnl : n = ks.length := by omega
    subst hnl
    subst hxs
    have hs := CallsS.sorted (P := Tryz.prog) (m := m) (enc := encZ) (F := 176) (B := B) (e := 3) (cap := cap) (cap' := cap) (ss := ks) (ss' := ks.mergeSort leI) (τ := τ)
      (by simp) (fun w hH hb => Tryz.slices_Sort_int B 0 cap ks w hH hb hsz)
    rw [encZ_map] at hs
    refine hs.mono fun v σ' m' _ ⟨h1, h2⟩ => ⟨h2, [(B, Row 3 1 cap ((ks.mergeSort leI).flatMap intE))], ?_, ?_⟩
    · rw [h1, encZ_map]; rfl
    · exact .row B ks.length cap _ (by rw [flatMap_len intE_len, Nat.mul_one, hl2, Nat.mul_one]) hle hcm
theorem q1 (ad : Addr) (k : Nat) : ad.add k = (ad.add (k * 1)).add 0 := by rw [Nat.mul_one]; exact (add_zero' _).symm
theorem all_intE : ∀ l : List Int, (l.flatMap intE).all (·.oneCell') = true
  | [] => rfl
  | x :: l => by rw [List.flatMap_cons, List.all_append, all_intE l]; rfl
theorem eq_of_get {a b : List Int} (hl : a.length = b.length) (h : ∀ j, j < a.length → a[j]? = b[j]?) : a = b := List.ext_getElem? fun j => by
  by_cases hj : j < a.length
  · exact h j hj
  · rw [List.getElem?_eq_none (by omega), List.getElem?_eq_none (by omega)]
theorem cloneI {m : Mem} {v : Value} {l : List Int} (h : RL m intE 1 v l) (hl : l.length ≤ 100000) : CallsS Tryz.prog 73 [v].toArray [] m fun r σ' m' => m' = m ∧ OwnS 3 1 r (l.flatMap intE) σ' := by
  obtain ⟨a, cap, rfl, hx1, hx2, hx3, hx4, hx5⟩ := h
  refine enter Tryz.func73 Tryz.ntmps73 rfl rfl ?_
  refine SWP_seq (SWP_region (pL rfl rfl (SL_nil (nx (SWP_seq (SWP_seq (SWP_region (pL rfl rfl ?_))))))))
  refine pu (v := .bool a.isNone) rfl rfl ?_
  refine bsp 4 rfl (fun b4 => ?_) (fun b4 => ?_)
  · skip
    refine SL_nil (nx (SWP_ct rfl (SWP_seq (SWP_region (pL rfl rfl (SL_nil (nx (SWP_ret (nr ?_)))))))))
    refine fin [_] ⟨rfl, trivial⟩ ?_
    have ha : a = none := by
      cases a with
      | none => rfl
      | some ad => cases b4
    have hl0 := (hx4 ha).1
    have e : l = [] := List.eq_nil_of_length_eq_zero hl0
    subst e
    exact ⟨rfl, .nil⟩
  refine SL_nil (nx (SWP_cf rfl (SWP_skip (nx (SWP_seq (SWP_region ?_))))))
  refine bs rfl rfl rfl rfl rfl (fun B5 => ?_)
  refine SL_imp (row_nil _ 1) ?_
  obtain ⟨ad, rfl⟩ : ∃ ad, a = some ad := by
    cases a with
    | none => cases b4
    | some ad => exact ⟨ad, rfl⟩
  refine pL rfl rfl ?_
  refine ap (e := 3) (size := 1) (bytes := 8) (k := l.length) rfl rfl rfl rfl rfl rfl rfl (.row B5 0 0 [] rfl (Nat.le_refl _) (Nat.zero_le _)) (.refl _) rfl (Rd.of_at (hx5 ad rfl)) (by rw [flatMap_len intE_len]) (all_intE l) (by simp; omega) rfl rfl (fun v7 σ7 hown7 => ?_)
  refine pu rfl rfl (SL_nil (nx (SWP_ret ?_)))
  refine fin [_] ⟨rfl, trivial⟩ ?_
  exact ⟨rfl, by rw [List.append_nil]; exact hown7⟩
theorem equalI {m : Mem} {v w : Value} {a b : List Int} (h : RL m intE 1 v a) (h' : RL m intE 1 w b) (hl : a.length ≤ 100000) : PureCall Tryz.prog 154 [v, w] m (.bool (decide (a = b))) := by
  refine CallsS.pure ?_
  obtain ⟨a', cap, rfl⟩ := h.len
  obtain ⟨b', cap', rfl⟩ := h'.len
  refine enter Tryz.func154 Tryz.ntmps154 rfl rfl ?_
  refine SWP_seq (SWP_region (pB rfl rfl (SL_nil (nx (SWP_seq (SWP_seq (SWP_region (pL rfl rfl (pu rfl rfl (pL rfl rfl (pu rfl rfl ?_)))))))))))
  refine pc rfl rfl (fun c10 => ?_) (fun c10 => ?_)
  · skip
    refine SL_nil (nx (SWP_ct rfl (SWP_seq (SWP_region (pB rfl rfl (SL_nil (nx (SWP_ret (nr ?_)))))))))
    refine fin [_] ⟨rfl, trivial⟩ ?_
    exact congrArg Value.bool (decide_eq_false fun e => by subst e; omega).symm
  refine SL_nil (nx (SWP_cf rfl (SWP_skip (nx (SWP_seq (SWP_seq (SWP_region (pL rfl rfl (pu rfl rfl (pI rfl rfl (SL_nil ?_)))))))))))
  refine nx (SWP_block ?_)
  refine SWP_loop [4, 5, 13, 14, 15, 16, 17, 18, 19, 20, 21, 22, 23, 24, 25] [13]
      (fun vs σ' m' => ∃ (i : Nat), vs = [.int .i64 (i : Nat)] ∧ i ≤ a.length ∧ (∀ j, j < i → a[j]? = b[j]?) ∧ σ' = [] ∧ m = m')
      (fun vs => a.length - nOf (vs.getD 0 undef)) rfl ?_ ?_
  · exact ⟨0, rfl, by omega, fun j hj => (by omega), rfl, rfl⟩
  intro u0 vs0 σ0 m0 hJ0 _
  obtain ⟨i, rfl, hi, hsame, rfl, rfl⟩ := hJ0
  refine SWP_seq (SWP_region ?_)
  refine pc rfl rfl (fun c14 => ?_) (fun c14 => ?_)
  · skip
    refine SL_nil (nx (SWP_seq (SWP_ct rfl (SWP_skip (nx (SWP_seq (SWP_block (SWP_seq (SWP_region (pI rfl rfl (pI rfl rfl ?_)))))))))))
    refine SL_nil (nx (SWP_seq ?_))
    obtain ⟨x, hx⟩ : ∃ x, a[i]? = some x := ⟨_, List.getElem?_eq_getElem (by omega)⟩
    obtain ⟨y, hy⟩ : ∃ y, b[i]? = some y := ⟨_, List.getElem?_eq_getElem (by omega)⟩
    obtain ⟨ad, cap2, e1, hat⟩ := RL.at1 intE_len h hx
    cases e1
    obtain ⟨ad', cap3, e2, hat'⟩ := RL.at1 intE_len h' hy
    cases e2
    refine SWP_draws (by kernel_rfl) (by kernel_rfl) ?_
    refine pL rfl rfl (pI rfl rfl ?_)
    refine ia (es := 1) rfl rfl rfl (Nat.mul_one _) rfl rfl (by omega) rfl ?_
    refine ldA (v := .int .i64 _) rfl hat rfl rfl ?_
    refine pL rfl rfl (pI rfl rfl ?_)
    refine ia (es := 1) rfl rfl rfl (Nat.mul_one _) rfl rfl (by omega) rfl ?_
    refine ldA (v := .int .i64 _) rfl hat' rfl rfl ?_
    refine pc rfl rfl (fun c24 => ?_) (fun c24 => ?_)
    · skip
      refine SL_nil (nx (SWP_ct rfl (SWP_seq (SWP_region (pB rfl rfl (SL_nil (nx (SWP_ret (br (nr (nr ?_)))))))))))
      refine br (nr ?_)
      refine fin [_] ⟨rfl, trivial⟩ ?_
      exact congrArg Value.bool (decide_eq_false fun e => by subst e; rw [hx] at hy; cases hy; omega).symm
    refine SL_nil (nx (SWP_cf rfl (SWP_skip (nb (nx (SWP_region ?_))))))
    refine pw rfl rfl (w64 (by omega) (by omega)) ?_
    refine pI rfl rfl (SL_nil (nx ?_))
    refine ⟨by repeat (first | exact Under.upds rfl (Under.hav _ _ _) | exact Under.hav _ _ _ | refine Under.upd rfl ?_), ?_, ?_⟩
    · refine ⟨i + 1, rfl, by omega, fun j hj => ?_, rfl, rfl⟩
      by_cases e : j = i
      · subst e
        rw [hx, hy, show x = y by omega]
      · exact hsame j (by omega)
    · simp only [L_vals, List.map, List.getD]; show a.length - (i + 1) < a.length - i; omega
  refine SL_nil (nx (SWP_seq (SWP_cf rfl (SWP_exit (ne (ne (be rfl (nx (SWP_seq (SWP_region (pB rfl rfl ?_)))))))))))
  refine SL_nil (nx (SWP_ret ?_))
  refine fin [_] ⟨rfl, trivial⟩ ?_
  exact congrArg Value.bool (decide_eq_true (eq_of_get (by omega) fun j hj => hsame j (by omega))).symm
section
variable {mode n : Int} {a b : List Int}
end
end Go.Proofs.YtlgoegjboabgfaaGreatDoor
namespace Go.Proofs.YtlgoegjboabgfaaGreatDoor
open Eng
def nameCh (b : UInt8) : Bool := decide ((97 ≤ b.toNat ∧ b.toNat ≤ 122) ∨ (48 ≤ b.toNat ∧ b.toNat ≤ 57) ∨ b.toNat = 45)
def nameFirst (l : List UInt8) : Bool := match l with | b :: _ => decide (97 ≤ b.toNat ∧ b.toNat ≤ 122) | [] => false
def nameB (s : ByteArray) : Bool := decide (1 ≤ s.size ∧ s.size ≤ 24) && nameFirst s.data.toList && s.data.toList.all nameCh
theorem bytes_at (s : ByteArray) (k : Nat) (h : k < s.size) : ∃ b, s.data.toList[k]? = some b := ⟨_, List.getElem?_eq_getElem (by simpa using h)⟩
theorem nameFirst_at {s : ByteArray} {b : UInt8} (h : s.data.toList[0]? = some b) : nameFirst s.data.toList = decide (97 ≤ b.toNat ∧ b.toNat ≤ 122) := by
  cases hl : s.data.toList with
  | nil => rw [hl] at h; cases h
  | cons c l =>
    rw [hl] at h
    simp at h
    subst h
    rfl
theorem all_snoc {α : Type} {p : α → Bool} {l : List α} {k : Nat} {b : α} (h : l[k]? = some b) : (l.take (k + 1)).all p = ((l.take k).all p && p b) := by
  have hk := (List.getElem?_eq_some_iff.1 h)
  rw [List.take_succ_eq_append_getElem hk.1, hk.2, List.all_append]
  simp
theorem all_no {α : Type} {p : α → Bool} {l : List α} {k : Nat} {b : α} (h : l[k]? = some b) (hb : p b = false) : l.all p = false := by
  cases ha : l.all p with
  | false => rfl
  | true =>
    rw [List.all_eq_true.1 ha b (List.mem_of_getElem? h)] at hb
    cases hb
theorem size_list (s : ByteArray) : s.data.toList.length = s.size := by simp
theorem name_size {s : ByteArray} (h : ¬ (1 ≤ s.size ∧ s.size ≤ 24)) : false = nameB s := by
  unfold nameB; rw [decide_eq_false h]; rfl
theorem name_first {s : ByteArray} {b : UInt8} (hb : s.data.toList[0]? = some b) (h : ¬ (97 ≤ b.toNat ∧ b.toNat ≤ 122)) : false = nameB s := by
  unfold nameB; rw [nameFirst_at hb, decide_eq_false h, Bool.and_false]; rfl
theorem name_ch {s : ByteArray} {k : Nat} {b : UInt8} (hb : s.data.toList[k]? = some b) (h : ¬ ((97 ≤ b.toNat ∧ b.toNat ≤ 122) ∨ (48 ≤ b.toNat ∧ b.toNat ≤ 57) ∨ b.toNat = 45)) : false = nameB s := by
  unfold nameB; rw [all_no hb (decide_eq_false h), Bool.and_false]
theorem name_yes {s : ByteArray} {k : Nat} {b : UInt8} (hb : s.data.toList[0]? = some b) (h1 : 1 ≤ s.size ∧ s.size ≤ 24) (h2 : 97 ≤ b.toNat ∧ b.toNat ≤ 122) (h3 : (s.data.toList.take k).all nameCh = true) (hk : s.size ≤ k) : true = nameB s := by
  unfold nameB
  rw [List.take_of_length_le (by rw [size_list]; exact hk)] at h3
  rw [nameFirst_at hb, decide_eq_true h1, decide_eq_true h2, h3]; rfl
theorem name_next {s : ByteArray} {k : Nat} {b : UInt8} (hb : s.data.toList[k]? = some b) (h : (s.data.toList.take k).all nameCh = true) (hc : (97 ≤ b.toNat ∧ b.toNat ≤ 122) ∨ (48 ≤ b.toNat ∧ b.toNat ≤ 57) ∨ b.toNat = 45) : (s.data.toList.take (k + 1)).all nameCh = true := by
  rw [all_snoc hb, h]
  exact decide_eq_true hc
theorem nameImpl {m : Mem} (s : ByteArray) : PureCall Tryz.prog 64 [.string s] m (.bool (nameB s)) := by
  refine CallsS.pure ?_
  refine enter Tryz.func64 Tryz.ntmps64 rfl rfl ?_
  refine SWP_seq (SWP_region (pB rfl rfl (SL_nil (nx (SWP_seq (SWP_seq (SWP_region (pS rfl rfl (pu rfl rfl ?_)))))))))
  refine pc rfl rfl (fun c7 => ?_) (fun c7 => ?_)
  · skip
    refine pB rfl rfl (SL_no rfl rfl (SL_no rfl rfl (SL_no rfl rfl (pB rfl rfl (pB rfl rfl (SL_no rfl rfl (SL_no rfl rfl (SL_no rfl rfl (pB rfl rfl (pB rfl rfl (SL_no rfl rfl ?_)))))))))))
    refine SL_no rfl rfl (SL_no rfl rfl (pB rfl rfl (SL_nil (nx (SWP_ct rfl (SWP_seq (SWP_region (pB rfl rfl (SL_nil (nx (SWP_ret ?_)))))))))))
    refine nr ?_
    refine fin [_] ⟨rfl, trivial⟩ ?_
    exact congrArg Value.bool (name_size (by omega))
  refine pB rfl rfl (SL_yes rfl (pS rfl rfl (SL_yes rfl (pu rfl rfl (SL_yes rfl ?_)))))
  refine pc rfl rfl (fun c11 => ?_) (fun c11 => ?_)
  · skip
    refine pB rfl rfl (pB rfl rfl (SL_no rfl rfl (SL_no rfl rfl (SL_no rfl rfl (pB rfl rfl (pB rfl rfl (SL_no rfl rfl (SL_no rfl rfl (SL_no rfl rfl (pB rfl rfl (SL_nil ?_)))))))))))
    refine nx (SWP_ct rfl (SWP_seq (SWP_region (pB rfl rfl (SL_nil (nx (SWP_ret (nr ?_))))))))
    refine fin [_] ⟨rfl, trivial⟩ ?_
    exact congrArg Value.bool (name_size (by omega))
  refine pB rfl rfl (pB rfl rfl (SL_yes rfl (pS rfl rfl (SL_yes rfl ?_))))
  obtain ⟨b0, hb0⟩ := bytes_at s 0 (by omega)
  refine ixs (k := 0) rfl rfl rfl hb0 rfl ?_
  refine SL_yes rfl ?_
  refine pc rfl rfl (fun c16 => ?_) (fun c16 => ?_)
  · skip
    refine pB rfl rfl (pB rfl rfl (SL_no rfl rfl (SL_no rfl rfl (SL_no rfl rfl (pB rfl rfl (SL_nil (nx (SWP_ct rfl (SWP_seq (SWP_region (pB rfl rfl ?_)))))))))))
    refine SL_nil (nx (SWP_ret (nr ?_)))
    refine fin [_] ⟨rfl, trivial⟩ ?_
    exact congrArg Value.bool (name_first hb0 (by omega))
  refine pB rfl rfl (pB rfl rfl (SL_yes rfl (pS rfl rfl (SL_yes rfl ?_))))
  refine ixs (k := 0) rfl rfl rfl hb0 rfl ?_
  refine SL_yes rfl ?_
  refine pc rfl rfl (fun c21 => ?_) (fun c21 => ?_)
  · skip
    refine pB rfl rfl (SL_nil (nx (SWP_ct rfl (SWP_seq (SWP_region (pB rfl rfl (SL_nil (nx (SWP_ret (nr ?_))))))))))
    refine fin [_] ⟨rfl, trivial⟩ ?_
    exact congrArg Value.bool (name_first hb0 (by omega))
  refine pB rfl rfl (SL_nil (nx (SWP_cf rfl (SWP_skip (nx (SWP_seq (SWP_seq (SWP_region (pS rfl rfl (pu rfl rfl (pI rfl rfl ?_)))))))))))
  refine SL_nil (nx (SWP_block ?_))
  refine SWP_loop [2, 3, 4, 25, 26, 27, 28, 29, 30, 31, 32, 33, 34, 35, 36, 37, 38, 39, 40, 41, 42, 43, 44, 45, 46, 47, 48, 49] [3, 25]
      (fun vs σ' m' => ∃ k v3, k ≤ s.size ∧ vs = [v3, .int .i64 (k : Nat)] ∧ (s.data.toList.take k).all nameCh = true ∧ σ' = [] ∧ m = m')
      (fun vs => s.size - nOf (vs.getD 1 undef)) rfl ?_ ?_
  · exact ⟨0, _, by omega, rfl, by simp, rfl, rfl⟩
  intro u0 vs0 σ0 m0 hJ0 _
  obtain ⟨k, v3, hk, rfl, hall, rfl, rfl⟩ := hJ0
  refine SWP_seq (SWP_region ?_)
  refine pc rfl rfl (fun c26 => ?_) (fun c26 => ?_)
  · skip
    refine SL_nil (nx (SWP_seq (SWP_ct rfl (SWP_skip (nx (SWP_seq (SWP_block (SWP_seq (SWP_region (pI rfl rfl (pI rfl rfl ?_)))))))))))
    refine SL_nil (nx (SWP_seq (SWP_region (pS rfl rfl (pI rfl rfl ?_)))))
    obtain ⟨b, hb⟩ := bytes_at s k (by omega)
    refine ixs (k := k) rfl rfl rfl hb rfl ?_
    refine pI rfl rfl (SL_nil (nx (SWP_seq (SWP_region (pI rfl rfl ?_)))))
    refine pc rfl rfl (fun c32 => ?_) (fun c32 => ?_)
    · skip
      refine pB rfl rfl (SL_no rfl rfl (SL_no rfl rfl (pB rfl rfl (pB rfl rfl (SL_yes rfl (pI rfl rfl (SL_yes rfl ?_)))))))
      refine pc rfl rfl (fun c39 => ?_) (fun c39 => ?_)
      · skip
        refine SL_yes rfl (pB rfl rfl (SL_no rfl rfl (SL_no rfl rfl (SL_yes rfl (pB rfl rfl (pB rfl rfl (pB rfl rfl (SL_yes rfl (pI rfl rfl (SL_yes rfl ?_))))))))))
        refine pc rfl rfl (fun c47 => ?_) (fun c47 => ?_)
        · skip
          refine pB rfl rfl (SL_nil (nx (SWP_ct rfl (SWP_seq (SWP_region (pB rfl rfl (SL_nil (nx (SWP_ret (br (nr ?_)))))))))))
          refine nr (br (nr ?_))
          refine fin [_] ⟨rfl, trivial⟩ ?_
          exact congrArg Value.bool (name_ch hb (by omega))
        refine pB rfl rfl (SL_nil (nx (SWP_cf rfl (SWP_skip (nb (nx (SWP_region ?_)))))))
        refine pw rfl rfl (w64 (by omega) (by omega)) ?_
        refine pI rfl rfl (SL_nil (nx ?_))
        refine ⟨by repeat (first | exact Under.upds rfl (Under.hav _ _ _) | exact Under.hav _ _ _ | refine Under.upd rfl ?_), ?_, ?_⟩
        · exact ⟨k + 1, _, by omega, rfl, name_next hb hall (by omega), rfl, rfl⟩
        · simp only [L_vals, List.map, List.getD]; show s.size - (k + 1) < s.size - k; omega
      refine SL_yes rfl (pB rfl rfl (SL_yes rfl (pI rfl rfl (SL_yes rfl ?_))))
      refine pc rfl rfl (fun c42 => ?_) (fun c42 => ?_)
      · skip
        refine SL_yes rfl (pB rfl rfl (pB rfl rfl (pB rfl rfl (SL_yes rfl (pI rfl rfl (SL_yes rfl ?_))))))
        refine pc rfl rfl (fun c47 => ?_) (fun c47 => ?_)
        · skip
          refine pB rfl rfl (SL_nil (nx (SWP_ct rfl (SWP_seq (SWP_region (pB rfl rfl (SL_nil (nx (SWP_ret (br (nr ?_)))))))))))
          refine nr (br (nr ?_))
          refine fin [_] ⟨rfl, trivial⟩ ?_
          exact congrArg Value.bool (name_ch hb (by omega))
        refine pB rfl rfl (SL_nil (nx (SWP_cf rfl (SWP_skip (nb (nx (SWP_region ?_)))))))
        refine pw rfl rfl (w64 (by omega) (by omega)) ?_
        refine pI rfl rfl (SL_nil (nx ?_))
        refine ⟨by repeat (first | exact Under.upds rfl (Under.hav _ _ _) | exact Under.hav _ _ _ | refine Under.upd rfl ?_), ?_, ?_⟩
        · exact ⟨k + 1, _, by omega, rfl, name_next hb hall (by omega), rfl, rfl⟩
        · simp only [L_vals, List.map, List.getD]; show s.size - (k + 1) < s.size - k; omega
      refine SL_yes rfl (pB rfl rfl (pB rfl rfl (pB rfl rfl (SL_no rfl rfl (SL_no rfl rfl (pB rfl rfl (SL_nil (nx (SWP_cf rfl (SWP_skip (nb ?_)))))))))))
      refine nx (SWP_region ?_)
      refine pw rfl rfl (w64 (by omega) (by omega)) ?_
      refine pI rfl rfl (SL_nil (nx ?_))
      refine ⟨by repeat (first | exact Under.upds rfl (Under.hav _ _ _) | exact Under.hav _ _ _ | refine Under.upd rfl ?_), ?_, ?_⟩
      · exact ⟨k + 1, _, by omega, rfl, name_next hb hall (by omega), rfl, rfl⟩
      · simp only [L_vals, List.map, List.getD]; show s.size - (k + 1) < s.size - k; omega
    refine pB rfl rfl (SL_yes rfl (pI rfl rfl (SL_yes rfl ?_)))
    refine pc rfl rfl (fun c35 => ?_) (fun c35 => ?_)
    · skip
      refine pB rfl rfl (pB rfl rfl (SL_yes rfl (pI rfl rfl (SL_yes rfl ?_))))
      refine pc rfl rfl (fun c39 => ?_) (fun c39 => ?_)
      · skip
        refine SL_yes rfl (pB rfl rfl (SL_no rfl rfl (SL_no rfl rfl (SL_yes rfl (pB rfl rfl (pB rfl rfl (pB rfl rfl (SL_yes rfl (pI rfl rfl (SL_yes rfl ?_))))))))))
        refine pc rfl rfl (fun c47 => ?_) (fun c47 => ?_)
        · skip
          refine pB rfl rfl (SL_nil (nx (SWP_ct rfl (SWP_seq (SWP_region (pB rfl rfl (SL_nil (nx (SWP_ret (br (nr ?_)))))))))))
          refine nr (br (nr ?_))
          refine fin [_] ⟨rfl, trivial⟩ ?_
          exact congrArg Value.bool (name_ch hb (by omega))
        refine pB rfl rfl (SL_nil (nx (SWP_cf rfl (SWP_skip (nb (nx (SWP_region ?_)))))))
        refine pw rfl rfl (w64 (by omega) (by omega)) ?_
        refine pI rfl rfl (SL_nil (nx ?_))
        refine ⟨by repeat (first | exact Under.upds rfl (Under.hav _ _ _) | exact Under.hav _ _ _ | refine Under.upd rfl ?_), ?_, ?_⟩
        · exact ⟨k + 1, _, by omega, rfl, name_next hb hall (by omega), rfl, rfl⟩
        · simp only [L_vals, List.map, List.getD]; show s.size - (k + 1) < s.size - k; omega
      refine SL_yes rfl (pB rfl rfl (SL_yes rfl (pI rfl rfl (SL_yes rfl ?_))))
      refine pc rfl rfl (fun c42 => ?_) (fun c42 => ?_)
      · skip
        refine SL_yes rfl (pB rfl rfl (pB rfl rfl (pB rfl rfl (SL_yes rfl (pI rfl rfl (SL_yes rfl ?_))))))
        refine pc rfl rfl (fun c47 => ?_) (fun c47 => ?_)
        · skip
          refine pB rfl rfl (SL_nil (nx (SWP_ct rfl (SWP_seq (SWP_region (pB rfl rfl (SL_nil (nx (SWP_ret (br (nr ?_)))))))))))
          refine nr (br (nr ?_))
          refine fin [_] ⟨rfl, trivial⟩ ?_
          exact congrArg Value.bool (name_ch hb (by omega))
        refine pB rfl rfl (SL_nil (nx (SWP_cf rfl (SWP_skip (nb (nx (SWP_region ?_)))))))
        refine pw rfl rfl (w64 (by omega) (by omega)) ?_
        refine pI rfl rfl (SL_nil (nx ?_))
        refine ⟨by repeat (first | exact Under.upds rfl (Under.hav _ _ _) | exact Under.hav _ _ _ | refine Under.upd rfl ?_), ?_, ?_⟩
        · exact ⟨k + 1, _, by omega, rfl, name_next hb hall (by omega), rfl, rfl⟩
        · simp only [L_vals, List.map, List.getD]; show s.size - (k + 1) < s.size - k; omega
      refine SL_yes rfl (pB rfl rfl (pB rfl rfl (pB rfl rfl (SL_no rfl rfl (SL_no rfl rfl (pB rfl rfl (SL_nil (nx (SWP_cf rfl (SWP_skip (nb ?_)))))))))))
      refine nx (SWP_region ?_)
      refine pw rfl rfl (w64 (by omega) (by omega)) ?_
      refine pI rfl rfl (SL_nil (nx ?_))
      refine ⟨by repeat (first | exact Under.upds rfl (Under.hav _ _ _) | exact Under.hav _ _ _ | refine Under.upd rfl ?_), ?_, ?_⟩
      · exact ⟨k + 1, _, by omega, rfl, name_next hb hall (by omega), rfl, rfl⟩
      · simp only [L_vals, List.map, List.getD]; show s.size - (k + 1) < s.size - k; omega
    refine pB rfl rfl (pB rfl rfl (SL_no rfl rfl (SL_no rfl rfl (SL_no rfl rfl (SL_no rfl rfl (SL_no rfl rfl (SL_no rfl rfl (pB rfl rfl (pB rfl rfl (SL_no rfl rfl (SL_no rfl rfl ?_)))))))))))
    refine pB rfl rfl (SL_nil (nx (SWP_cf rfl (SWP_skip (nb (nx (SWP_region ?_)))))))
    refine pw rfl rfl (w64 (by omega) (by omega)) ?_
    refine pI rfl rfl (SL_nil (nx ?_))
    refine ⟨by repeat (first | exact Under.upds rfl (Under.hav _ _ _) | exact Under.hav _ _ _ | refine Under.upd rfl ?_), ?_, ?_⟩
    · exact ⟨k + 1, _, by omega, rfl, name_next hb hall (by omega), rfl, rfl⟩
    · simp only [L_vals, List.map, List.getD]; show s.size - (k + 1) < s.size - k; omega
  refine SL_nil (nx (SWP_seq (SWP_cf rfl (SWP_exit (ne (ne (be rfl (nx (SWP_seq (SWP_region (pB rfl rfl ?_)))))))))))
  refine SL_nil (nx (SWP_ret ?_))
  refine fin [_] ⟨rfl, trivial⟩ ?_
  exact congrArg Value.bool (name_yes hb0 (by omega) (by omega) hall (by omega))
end Go.Proofs.YtlgoegjboabgfaaGreatDoor
namespace Go.Proofs.YtlgoegjboabgfaaGreatDoor
open Eng
structure Tier where
  main : Int
  bonus : Int
  extra : Int
  mode : Int
  kind : Int
  value : Int
deriving DecidableEq
def Tier.enc (t : Tier) : List Value := [.int .i64 t.main, .int .i64 t.bonus, .int .i64 t.extra, .int .i64 t.mode, .int .i64 t.kind, .int .i64 t.value]
def Tier.val (t : Tier) : Value := .agg #[.int .i64 t.main, .int .i64 t.bonus, .int .i64 t.extra, .int .i64 t.mode, .int .i64 t.kind, .int .i64 t.value]
theorem Tier.enc_len (t : Tier) : t.enc.length = 6 := rfl
structure Addon where
  name : ByteArray
  kind : Int
  price : Int
  fa : Option Addr
  fc : Nat
  factors : List Int
  digits : Int
  pa : Option Addr
  pc : Nat
  prizes : List Int
def Addon.enc (a : Addon) : List Value := [.string a.name, .int .i64 a.kind, .int .i64 a.price, .slice a.fa a.factors.length a.fc, .int .i64 a.digits, .slice a.pa a.prizes.length a.pc]
def Addon.val (a : Addon) : Value := .agg #[.string a.name, .int .i64 a.kind, .int .i64 a.price, .slice a.fa a.factors.length a.fc, .int .i64 a.digits, .slice a.pa a.prizes.length a.pc]
theorem Addon.enc_len (a : Addon) : a.enc.length = 6 := rfl
def Addon.In (m : Mem) (a : Addon) : Prop := RL m intE 1 (.slice a.fa a.factors.length a.fc) a.factors ∧ RL m intE 1 (.slice a.pa a.prizes.length a.pc) a.prizes
theorem Addon.In.mono {m m' : Mem} {a : Addon} (h : a.In m) (hl : Le m m') : a.In m' := ⟨h.1.mono hl, h.2.mono hl⟩
structure Game where
  name : ByteArray
  kind : Int
  price : Int
  main : Int
  of : Int
  bonus : Int
  bonusOf : Int
  extra : Int
  draws : Int
  system : Int
  days : Int
  minute : Int
  close : Int
  cancel : Int
  expiry : Int
  pool : Int
  reserve : Int
  round : Int
  cap : Int
  rolls : Int
  aa : Option Addr
  ac : Nat
  addons : List Addon
  ta : Option Addr
  tc : Nat
  tiers : List Tier
def Game.val (g : Game) : Value := .agg #[.string g.name, .int .i64 g.kind, .int .i64 g.price, .int .i64 g.main, .int .i64 g.of, .int .i64 g.bonus, .int .i64 g.bonusOf, .int .i64 g.extra, .int .i64 g.draws, .int .i64 g.system, .int .i64 g.days, .int .i64 g.minute, .int .i64 g.close, .int .i64 g.cancel, .int .i64 g.expiry, .int .i64 g.pool, .int .i64 g.reserve, .int .i64 g.round, .int .i64 g.cap, .int .i64 g.rolls, .slice g.aa g.addons.length g.ac, .slice g.ta g.tiers.length g.tc]
structure Game.In (m : Mem) (g : Game) : Prop where
  ads : RL m Addon.enc 6 (.slice g.aa g.addons.length g.ac) g.addons
  each : ∀ a ∈ g.addons, a.In m
  trs : RL m Tier.enc 6 (.slice g.ta g.tiers.length g.tc) g.tiers
theorem Game.In.mono {m m' : Mem} {g : Game} (h : g.In m) (hl : Le m m') : g.In m' := ⟨h.ads.mono hl, fun a ha => (h.each a ha).mono hl, h.trs.mono hl⟩
theorem Eng.RL.atA {α : Type} {m : Mem} {e : α → List Value} {size k n c : Nat} {a : Option Addr} {l : List α} {x : α} (he : ∀ x, (e x).length = size) (h : RL m e size (.slice a n c) l) (hk : l[k]? = some x) : ∃ ad, a = some ad ∧ n = l.length ∧ At m (ad.add (k * size)) (e x) := by
  obtain ⟨ad, cap, h1, h2⟩ := RL.at_ he h hk
  injection h1 with e1 e2
  exact ⟨ad, e1, e2, h2⟩
theorem Eng.RL.atI {m : Mem} {k n c : Nat} {a : Option Addr} {l : List Int} {x : Int} (h : RL m intE 1 (.slice a n c) l) (hk : l[k]? = some x) : ∃ ad, a = some ad ∧ n = l.length ∧ At m (ad.add k) (intE x) := by
  have := Eng.RL.atA intE_len h hk
  simpa using this
structure MxOk (g : Game) : Prop where
  h1 : 1 ≤ g.price ∧ g.price ≤ 1000000
  h2 : 1 ≤ g.main ∧ g.main ≤ 10
  h3 : g.kind = 2 → 2 ≤ g.of ∧ g.of ≤ 10
  h4 : g.kind ≠ 2 → g.main ≤ g.of ∧ g.of ≤ 80
  h5 : 0 ≤ g.bonus
  h6 : g.kind = 2 → g.bonus ≤ 0
  h7 : g.kind ≠ 2 → g.bonus ≤ 4
  h8 : g.bonus = 0 → g.bonusOf = 0
  h9 : g.bonus ≠ 0 → g.bonus ≤ g.bonusOf ∧ g.bonusOf ≤ 80
  h10 : 0 ≤ g.extra
  h11 : g.kind = 2 → g.extra ≤ 0
  h12 : g.kind ≠ 2 → g.extra ≤ 4 ∧ g.main + g.extra ≤ g.of
  h13 : 1 ≤ g.draws ∧ g.draws ≤ 32
  h14 : g.main ≤ g.system
  h15 : g.kind = 2 → g.system ≤ g.main
  h16 : g.kind ≠ 2 → g.system ≤ 14 ∧ g.system ≤ g.of
structure TmOk (g : Game) : Prop where
  h1 : 1 ≤ g.days ∧ g.days ≤ 127
  h2 : 0 ≤ g.minute ∧ g.minute ≤ 1439
  h3 : 0 ≤ g.close ∧ g.close ≤ 1440
  h4 : 0 ≤ g.cancel ∧ g.cancel ≤ 10080
  h5 : 1 ≤ g.expiry ∧ g.expiry ≤ 3660
  h6 : 0 ≤ g.pool ∧ g.pool ≤ 10000
  h7 : 0 ≤ g.reserve ∧ g.reserve ≤ 10000
  h8 : 1 ≤ g.round ∧ g.round ≤ 1000000
  h9 : 0 ≤ g.cap ∧ g.cap ≤ 1000000000000
  h10 : 0 ≤ g.rolls ∧ g.rolls ≤ 64
open Classical in
noncomputable def okE (p : Prop) (a b : Int) : Int := if p then a else b
theorem okE_t {p : Prop} {a b : Int} (h : p) : okE p a b = a := if_pos h
theorem okE_f {p : Prop} {a b : Int} (h : ¬ p) : okE p a b = b := if_neg h
def allErr (lo hi : Int) (l : List Int) : Int := if ∀ x ∈ l, lo ≤ x ∧ x ≤ hi then 0 else 2
def addonErr (a : Addon) : Int :=
  if nameB a.name = false then 4
  else if a.kind ≠ 1 ∧ a.kind ≠ 2 then 7
  else if ¬ (0 ≤ a.price ∧ a.price ≤ 1000000) then 2
  else if a.kind = 1 then
    if a.digits ≠ 0 ∨ 0 < a.prizes.length then 7
    else if ¬ (1 ≤ a.factors.length ∧ a.factors.length ≤ 8) then 3
    else allErr 1 100 a.factors
  else if 0 < a.factors.length then 7
  else if ¬ (1 ≤ a.digits ∧ a.digits ≤ 8) then 2
  else if (a.prizes.length : Int) ≠ a.digits then 3
  else allErr 0 1000000000 a.prizes
def addonsFrom (pre : List Addon) : List Addon → Int
  | [] => 0
  | a :: l => if addonErr a ≠ 0 then addonErr a else if ∃ b ∈ pre, b.name = a.name ∨ b.kind = a.kind then 6 else addonsFrom (pre ++ [a]) l
def addonsErr (l : List Addon) : Int := if 4 < l.length then 3 else addonsFrom [] l
def hitsErr (kind gm gb ge : Int) (t : Tier) : Int :=
  if kind = 2 then
    if ¬ (1 ≤ t.mode ∧ t.mode ≤ 4) then 7
    else if t.bonus ≠ 0 ∨ t.extra ≠ 0 ∨ (t.mode ≤ 2 ∧ t.main ≠ 0) ∨ (3 ≤ t.mode ∧ ¬ (1 ≤ t.main ∧ t.main ≤ gm)) then 2
    else 0
  else if t.mode ≠ 0 then 7
  else if ¬ (0 ≤ t.main ∧ t.main ≤ gm) ∨ ¬ (0 ≤ t.bonus ∧ t.bonus ≤ gb) ∨ ¬ (0 ≤ t.extra ∧ t.extra ≤ ge) ∨ (t.main = 0 ∧ t.bonus = 0 ∧ t.extra = 0) then 2
  else 0
def tierErr (g : Game) (t : Tier) : Int :=
  if hitsErr g.kind g.main g.bonus g.extra t ≠ 0 then hitsErr g.kind g.main g.bonus g.extra t
  else if t.kind ≠ 1 ∧ t.kind ≠ 2 ∧ t.kind ≠ 3 then 7
  else if ¬ (0 ≤ t.value ∧ t.value ≤ 1000000000) then 2
  else 0
def effM (g : Game) (t : Tier) : Int := if (t.mode = 3 ∨ t.mode = 4) ∧ t.main = g.main then 1 else t.mode
def covP (g : Game) (a b : Tier) : Prop := (g.kind = 1 ∧ a.main ≤ b.main ∧ a.bonus ≤ b.bonus ∧ a.extra ≤ b.extra) ∨ (g.kind ≠ 1 ∧ (effM g b = 1 ∨ (effM g a = effM g b ∧ a.main ≤ b.main)))
instance (g : Game) (a b : Tier) : Decidable (covP g a b) := by unfold covP; infer_instance
def tiersFrom (g : Game) (pre : List Tier) : List Tier → Int
  | [] => 0
  | t :: l => if tierErr g t ≠ 0 then tierErr g t else if ∃ b ∈ pre, covP g b t then 6 else tiersFrom g (pre ++ [t]) l
def tiersErr (g : Game) : Int := if ¬ (1 ≤ g.tiers.length ∧ g.tiers.length ≤ 12) then 3 else tiersFrom g [] g.tiers
noncomputable def gameErr (g : Game) : Int :=
  if nameB g.name = false then 4
  else if g.kind ≠ 1 ∧ g.kind ≠ 2 then 7
  else okE (MxOk g ∧ TmOk g) (if addonsErr g.addons ≠ 0 then addonsErr g.addons else tiersErr g) 2
theorem addonsFrom_at {pre l : List Addon} {i : Nat} {a : Addon} (h : l[i]? = some a) : addonsFrom pre (l.drop i) = if addonErr a ≠ 0 then addonErr a else if ∃ b ∈ pre, b.name = a.name ∨ b.kind = a.kind then 6 else addonsFrom (pre ++ [a]) (l.drop (i + 1)) := by
  have hk := List.getElem?_eq_some_iff.1 h
  rw [List.drop_eq_getElem_cons hk.1, hk.2]; rfl
theorem tiersFrom_at {g : Game} {pre l : List Tier} {i : Nat} {a : Tier} (h : l[i]? = some a) : tiersFrom g pre (l.drop i) = if tierErr g a ≠ 0 then tierErr g a else if ∃ b ∈ pre, covP g b a then 6 else tiersFrom g (pre ++ [a]) (l.drop (i + 1)) := by
  have hk := List.getElem?_eq_some_iff.1 h
  rw [List.drop_eq_getElem_cons hk.1, hk.2]; rfl
theorem take_snocA {α : Type} {x : α} {S : List α} {i : Nat} (hx : S[i]? = some x) : S.take (i + 1) = S.take i ++ [x] := by
  have hk := List.getElem?_eq_some_iff.1 hx
  rw [List.take_succ_eq_append_getElem hk.1, hk.2]
theorem emptyS {s : ByteArray} {p : Prop} (hs : s = ByteArray.empty) (h : p) : s = ByteArray.empty ↔ p := ⟨fun _ => h, fun _ => hs⟩
theorem fullS {s : ByteArray} {p : Prop} (hs : s ≠ ByteArray.empty) (h : ¬ p) : s = ByteArray.empty ↔ p := ⟨fun h' => absurd h' hs, fun h' => absurd h' h⟩
end Go.Proofs.YtlgoegjboabgfaaGreatDoor
namespace Go.Proofs.YtlgoegjboabgfaaGreatDoor
open Eng
theorem withinI {m : Mem} (n lo hi : Int) : PureCall Tryz.prog 101 [.int .i64 n, .int .i64 lo, .int .i64 hi] m (.bool (decide (lo ≤ n ∧ n ≤ hi))) := by
  refine CallsS.pure ?_
  refine enter Tryz.func101 Tryz.ntmps101 rfl rfl ?_
  refine SWP_seq (SWP_region (pB rfl rfl (SL_nil (nx (SWP_seq (SWP_region (pI rfl rfl (pI rfl rfl ?_))))))))
  refine pc rfl rfl (fun c9 => ?_) (fun c9 => ?_)
  · skip
    refine pB rfl rfl (SL_yes rfl (pI rfl rfl (SL_yes rfl (pI rfl rfl (SL_yes rfl (pu rfl rfl (pB rfl rfl (pB rfl rfl (SL_nil (nx (SWP_ret ?_)))))))))))
    refine fin [_] ⟨rfl, trivial⟩ ?_
    exact congrArg Value.bool (decide_eq_decide.2 ⟨fun h => ⟨by omega, h⟩, fun h => h.2⟩)
  refine pB rfl rfl (SL_no rfl rfl (SL_no rfl rfl (SL_no rfl rfl (pB rfl rfl (pB rfl rfl (SL_nil (nx (SWP_ret ?_))))))))
  refine fin [_] ⟨rfl, trivial⟩ ?_
  exact (congrArg Value.bool (decide_eq_false (by omega))).symm
theorem checkAllI {m : Mem} {v : Value} {l : List Int} (h : RL m intE 1 v l) (hl : l.length ≤ 1000) (lo hi : Int) : PureCall Tryz.prog 140 [v, .int .i64 lo, .int .i64 hi] m (.int .i64 (allErr lo hi l)) := by
  refine CallsS.pure ?_
  obtain ⟨pa, pcap, rfl⟩ := h.len
  refine enter Tryz.func140 Tryz.ntmps140 rfl rfl ?_
  refine SWP_seq (SWP_region (pI rfl rfl (SL_nil (nx (SWP_seq (SWP_seq (SWP_region (pL rfl rfl (pu rfl rfl (pI rfl rfl (SL_nil ?_)))))))))))
  refine nx (SWP_block ?_)
  refine SWP_loop [6, 8, 11, 12, 13, 14, 15, 16, 17, 18, 19, 20] [11]
      (fun vs σ' m' => ∃ (i : Nat), vs = [.int .i64 (i : Nat)] ∧ i ≤ l.length ∧ (∀ x ∈ l.take i, lo ≤ x ∧ x ≤ hi) ∧ σ' = [] ∧ m = m')
      (fun vs => l.length - nOf (vs.getD 0 undef)) rfl ?_ ?_
  · exact ⟨0, rfl, by omega, by simp, rfl, rfl⟩
  intro u0 vs0 σ0 m0 hJ0 _
  obtain ⟨i, rfl, hi, hall, rfl, rfl⟩ := hJ0
  refine SWP_seq (SWP_region ?_)
  refine pc rfl rfl (fun c12 => ?_) (fun c12 => ?_)
  · skip
    refine SL_nil (nx (SWP_seq (SWP_ct rfl (SWP_skip (nx (SWP_seq (SWP_block (SWP_seq ?_))))))))
    obtain ⟨x, hx⟩ : ∃ x, l[i]? = some x := ⟨_, List.getElem?_eq_getElem (by omega)⟩
    obtain ⟨ad, rfl, _, hat⟩ := h.atI hx
    refine SWP_region ?_
    refine ia (es := 1) rfl rfl rfl (Nat.mul_one _) rfl rfl (by omega) rfl ?_
    refine ldA (v := .int .i64 _) rfl (by assumption) rfl rfl ?_
    refine pI rfl rfl (SL_nil (nx (SWP_seq (SWP_region (pI rfl rfl (pI rfl rfl (pI rfl rfl ?_)))))))
    refine SL_pcall rfl rfl cb101 (withinI _ _ _) rfl ?_
    refine psp 18 rfl (fun c18 => ?_) (fun c18 => ?_)
    · skip
      refine pB rfl rfl (SL_nil (nx (SWP_cf rfl (SWP_skip (nb (nx (SWP_region ?_)))))))
      refine pw rfl rfl (w64 (by omega) (by omega)) ?_
      refine pI rfl rfl (SL_nil (nx ?_))
      refine ⟨by repeat (first | exact Under.upds rfl (Under.hav _ _ _) | exact Under.hav _ _ _ | refine Under.upd rfl ?_), ?_, ?_⟩
      · refine ⟨i + 1, rfl, by omega, fun y hy => ?_, rfl, rfl⟩
        rw [take_snocA hx] at hy
        rcases List.mem_append.1 hy with hy | hy
        · exact hall y hy
        · rw [List.mem_singleton.1 hy]; omega
      · simp only [L_vals, List.map, List.getD]; show l.length - (i + 1) < l.length - i; omega
    refine pB rfl rfl (SL_nil (nx (SWP_ct rfl (SWP_seq (SWP_region (pI rfl rfl (SL_nil (nx (SWP_ret (br (nr ?_)))))))))))
    refine nr (br (nr ?_))
    refine fin [_] ⟨rfl, trivial⟩ ?_
    refine congrArg (Value.int .i64) ?_
    unfold allErr
    rw [if_neg fun h => by have := h x (List.mem_of_getElem? hx); omega]
  refine SL_nil (nx (SWP_seq (SWP_cf rfl (SWP_exit (ne (ne (be rfl (nx (SWP_seq (SWP_region (pI rfl rfl ?_)))))))))))
  refine SL_nil (nx (SWP_ret ?_))
  refine fin [_] ⟨rfl, trivial⟩ ?_
  refine congrArg (Value.int .i64) ?_
  have e : i = l.length := by omega
  rw [e, List.take_length] at hall
  unfold allErr
  rw [if_pos hall]
theorem badTermsI {m : Mem} (g : Game) : CallsS Tryz.prog 66 [g.val].toArray [] m fun r σ' m' => σ' = [] ∧ m' = m ∧ ∃ s, r = .string s ∧ (s = ByteArray.empty ↔ TmOk g) := by
  refine CallsS.ghost (R' := fun r σ' m' => m' = m ∧ ∃ s, r = .string s ∧ (s = ByteArray.empty ↔ TmOk g)) ?_ ?h2
  case h2 =>
    rintro r σ' m' ⟨rfl, hr⟩ g0 W hC
    exact ⟨_, m', hC.sublist (List.nil_sublist _), Le.refl _, rfl, rfl, hr⟩
  dsimp only [Game.val]
  refine enter Tryz.func66 Tryz.ntmps66 rfl rfl ?_
  refine SWP_seq (SWP_region ?_)
  refine bx (v := .agg _) rfl rfl (fun B1 => ?_)
  refine pS rfl rfl (SL_nil (nx (SWP_seq (SWP_block (SWP_seq (SWP_region (pu rfl rfl ?_)))))))
  refine lw (v := .int .i64 _) B1 10 rfl rfl rfl rfl ?_
  refine SL_pcall rfl rfl cb101 (withinI _ _ _) rfl ?_
  refine psp 6 rfl (fun c6 => ?_) (fun c6 => ?_)
  · skip
    refine pB rfl rfl (pB rfl rfl (SL_nil (nx (SWP_cf rfl (SWP_seq (SWP_region (pu rfl rfl ?_)))))))
    refine lw (v := .int .i64 _) B1 11 rfl rfl rfl rfl ?_
    refine SL_pcall rfl rfl cb101 (withinI _ _ _) rfl ?_
    refine psp 11 rfl (fun c11 => ?_) (fun c11 => ?_)
    · skip
      refine pB rfl rfl (pB rfl rfl (SL_nil (nx (SWP_cf rfl (SWP_seq (SWP_region (pu rfl rfl ?_)))))))
      refine lw (v := .int .i64 _) B1 12 rfl rfl rfl rfl ?_
      refine SL_pcall rfl rfl cb101 (withinI _ _ _) rfl ?_
      refine psp 16 rfl (fun c16 => ?_) (fun c16 => ?_)
      · skip
        refine pB rfl rfl (pB rfl rfl (SL_nil (nx (SWP_cf rfl (SWP_seq (SWP_region (pu rfl rfl ?_)))))))
        refine lw (v := .int .i64 _) B1 13 rfl rfl rfl rfl ?_
        refine SL_pcall rfl rfl cb101 (withinI _ _ _) rfl ?_
        refine psp 21 rfl (fun c21 => ?_) (fun c21 => ?_)
        · skip
          refine pB rfl rfl (pB rfl rfl (SL_nil (nx (SWP_cf rfl (SWP_seq (SWP_region (pu rfl rfl ?_)))))))
          refine lw (v := .int .i64 _) B1 14 rfl rfl rfl rfl ?_
          refine SL_pcall rfl rfl cb101 (withinI _ _ _) rfl ?_
          refine psp 26 rfl (fun c26 => ?_) (fun c26 => ?_)
          · skip
            refine pB rfl rfl (pB rfl rfl (SL_nil (nx (SWP_cf rfl (SWP_seq (SWP_region (pu rfl rfl ?_)))))))
            refine lw (v := .int .i64 _) B1 15 rfl rfl rfl rfl ?_
            refine SL_pcall rfl rfl cb101 (withinI _ _ _) rfl ?_
            refine psp 31 rfl (fun c31 => ?_) (fun c31 => ?_)
            · skip
              refine pB rfl rfl (pB rfl rfl (SL_nil (nx (SWP_cf rfl (SWP_seq (SWP_region (pu rfl rfl ?_)))))))
              refine lw (v := .int .i64 _) B1 16 rfl rfl rfl rfl ?_
              refine SL_pcall rfl rfl cb101 (withinI _ _ _) rfl ?_
              refine psp 36 rfl (fun c36 => ?_) (fun c36 => ?_)
              · skip
                refine pB rfl rfl (pB rfl rfl (SL_nil (nx (SWP_cf rfl (SWP_seq (SWP_region (pu rfl rfl ?_)))))))
                refine lw (v := .int .i64 _) B1 17 rfl rfl rfl rfl ?_
                refine SL_pcall rfl rfl cb101 (withinI _ _ _) rfl ?_
                refine psp 41 rfl (fun c41 => ?_) (fun c41 => ?_)
                · skip
                  refine pB rfl rfl (pB rfl rfl (SL_nil (nx (SWP_cf rfl (SWP_seq (SWP_region (pu rfl rfl ?_)))))))
                  refine lw (v := .int .i64 _) B1 18 rfl rfl rfl rfl ?_
                  refine SL_pcall rfl rfl cb101 (withinI _ _ _) rfl ?_
                  refine psp 46 rfl (fun c46 => ?_) (fun c46 => ?_)
                  · skip
                    refine pB rfl rfl (pB rfl rfl (SL_nil (nx (SWP_cf rfl (SWP_seq (SWP_region (pu rfl rfl ?_)))))))
                    refine lw (v := .int .i64 _) B1 19 rfl rfl rfl rfl ?_
                    refine SL_pcall rfl rfl cb101 (withinI _ _ _) rfl ?_
                    refine psp 51 rfl (fun c51 => ?_) (fun c51 => ?_)
                    · skip
                      refine pB rfl rfl (pB rfl rfl (SL_nil (nx (SWP_cf rfl (SWP_skip (nb (nx (SWP_seq (SWP_region (pS rfl rfl (SL_nil ?_)))))))))))
                      refine nx (SWP_ret ?_)
                      refine fin [_] ⟨rfl, trivial⟩ ?_
                      refine ⟨rfl, ?_⟩
                      refine ⟨_, rfl, ?_⟩
                      exact emptyS rfl ⟨by omega, by omega, by omega, by omega, by omega, by omega, by omega, by omega, by omega, by omega⟩
                    refine pB rfl rfl (pB rfl rfl (SL_nil (nx (SWP_ct rfl (SWP_seq (SWP_region (pS rfl rfl (SL_nil (nx (SWP_ret (br ?_)))))))))))
                    refine nr ?_
                    refine fin [_] ⟨rfl, trivial⟩ ?_
                    refine ⟨rfl, ?_⟩
                    refine ⟨_, rfl, ?_⟩
                    exact fullS (by decide +kernel) (fun h => by have := h.h1; have := h.h2; have := h.h3; have := h.h4; have := h.h5; have := h.h6; have := h.h7; have := h.h8; have := h.h9; have := h.h10; omega)
                  refine pB rfl rfl (pB rfl rfl (SL_nil (nx (SWP_ct rfl (SWP_seq (SWP_region (pS rfl rfl (SL_nil (nx (SWP_ret (br ?_)))))))))))
                  refine nr ?_
                  refine fin [_] ⟨rfl, trivial⟩ ?_
                  refine ⟨rfl, ?_⟩
                  refine ⟨_, rfl, ?_⟩
                  exact fullS (by decide +kernel) (fun h => by have := h.h1; have := h.h2; have := h.h3; have := h.h4; have := h.h5; have := h.h6; have := h.h7; have := h.h8; have := h.h9; have := h.h10; omega)
                refine pB rfl rfl (pB rfl rfl (SL_nil (nx (SWP_ct rfl (SWP_seq (SWP_region (pS rfl rfl (SL_nil (nx (SWP_ret (br ?_)))))))))))
                refine nr ?_
                refine fin [_] ⟨rfl, trivial⟩ ?_
                refine ⟨rfl, ?_⟩
                refine ⟨_, rfl, ?_⟩
                exact fullS (by decide +kernel) (fun h => by have := h.h1; have := h.h2; have := h.h3; have := h.h4; have := h.h5; have := h.h6; have := h.h7; have := h.h8; have := h.h9; have := h.h10; omega)
              refine pB rfl rfl (pB rfl rfl (SL_nil (nx (SWP_ct rfl (SWP_seq (SWP_region (pS rfl rfl (SL_nil (nx (SWP_ret (br ?_)))))))))))
              refine nr ?_
              refine fin [_] ⟨rfl, trivial⟩ ?_
              refine ⟨rfl, ?_⟩
              refine ⟨_, rfl, ?_⟩
              exact fullS (by decide +kernel) (fun h => by have := h.h1; have := h.h2; have := h.h3; have := h.h4; have := h.h5; have := h.h6; have := h.h7; have := h.h8; have := h.h9; have := h.h10; omega)
            refine pB rfl rfl (pB rfl rfl (SL_nil (nx (SWP_ct rfl (SWP_seq (SWP_region (pS rfl rfl (SL_nil (nx (SWP_ret (br ?_)))))))))))
            refine nr ?_
            refine fin [_] ⟨rfl, trivial⟩ ?_
            refine ⟨rfl, ?_⟩
            refine ⟨_, rfl, ?_⟩
            exact fullS (by decide +kernel) (fun h => by have := h.h1; have := h.h2; have := h.h3; have := h.h4; have := h.h5; have := h.h6; have := h.h7; have := h.h8; have := h.h9; have := h.h10; omega)
          refine pB rfl rfl (pB rfl rfl (SL_nil (nx (SWP_ct rfl (SWP_seq (SWP_region (pS rfl rfl (SL_nil (nx (SWP_ret (br ?_)))))))))))
          refine nr ?_
          refine fin [_] ⟨rfl, trivial⟩ ?_
          refine ⟨rfl, ?_⟩
          refine ⟨_, rfl, ?_⟩
          exact fullS (by decide +kernel) (fun h => by have := h.h1; have := h.h2; have := h.h3; have := h.h4; have := h.h5; have := h.h6; have := h.h7; have := h.h8; have := h.h9; have := h.h10; omega)
        refine pB rfl rfl (pB rfl rfl (SL_nil (nx (SWP_ct rfl (SWP_seq (SWP_region (pS rfl rfl (SL_nil (nx (SWP_ret (br ?_)))))))))))
        refine nr ?_
        refine fin [_] ⟨rfl, trivial⟩ ?_
        refine ⟨rfl, ?_⟩
        refine ⟨_, rfl, ?_⟩
        exact fullS (by decide +kernel) (fun h => by have := h.h1; have := h.h2; have := h.h3; have := h.h4; have := h.h5; have := h.h6; have := h.h7; have := h.h8; have := h.h9; have := h.h10; omega)
      refine pB rfl rfl (pB rfl rfl (SL_nil (nx (SWP_ct rfl (SWP_seq (SWP_region (pS rfl rfl (SL_nil (nx (SWP_ret (br ?_)))))))))))
      refine nr ?_
      refine fin [_] ⟨rfl, trivial⟩ ?_
      refine ⟨rfl, ?_⟩
      refine ⟨_, rfl, ?_⟩
      exact fullS (by decide +kernel) (fun h => by have := h.h1; have := h.h2; have := h.h3; have := h.h4; have := h.h5; have := h.h6; have := h.h7; have := h.h8; have := h.h9; have := h.h10; omega)
    refine pB rfl rfl (pB rfl rfl (SL_nil (nx (SWP_ct rfl (SWP_seq (SWP_region (pS rfl rfl (SL_nil (nx (SWP_ret (br ?_)))))))))))
    refine nr ?_
    refine fin [_] ⟨rfl, trivial⟩ ?_
    refine ⟨rfl, ?_⟩
    refine ⟨_, rfl, ?_⟩
    exact fullS (by decide +kernel) (fun h => by have := h.h1; have := h.h2; have := h.h3; have := h.h4; have := h.h5; have := h.h6; have := h.h7; have := h.h8; have := h.h9; have := h.h10; omega)
  refine pB rfl rfl (pB rfl rfl (SL_nil (nx (SWP_ct rfl (SWP_seq (SWP_region (pS rfl rfl (SL_nil (nx (SWP_ret (br ?_)))))))))))
  refine nr ?_
  refine fin [_] ⟨rfl, trivial⟩ ?_
  refine ⟨rfl, ?_⟩
  refine ⟨_, rfl, ?_⟩
  exact fullS (by decide +kernel) (fun h => by have := h.h1; have := h.h2; have := h.h3; have := h.h4; have := h.h5; have := h.h6; have := h.h7; have := h.h8; have := h.h9; have := h.h10; omega)
theorem badMatrixI {m : Mem} (g : Game) : CallsS Tryz.prog 65 [g.val].toArray [] m fun r σ' m' => σ' = [] ∧ m' = m ∧ ∃ s, r = .string s ∧ (s = ByteArray.empty ↔ MxOk g) := by
  refine CallsS.ghost (R' := fun r σ' m' => m' = m ∧ ∃ s, r = .string s ∧ (s = ByteArray.empty ↔ MxOk g)) ?_ ?h2
  case h2 =>
    rintro r σ' m' ⟨rfl, hr⟩ g0 W hC
    exact ⟨_, m', hC.sublist (List.nil_sublist _), Le.refl _, rfl, rfl, hr⟩
  dsimp only [Game.val]
  refine enter Tryz.func65 Tryz.ntmps65 rfl rfl ?_
  refine SWP_seq (SWP_region ?_)
  refine bx (v := .agg _) rfl rfl (fun B1 => ?_)
  refine pS rfl rfl (SL_nil (nx (SWP_seq (SWP_region (pu rfl rfl ?_)))))
  refine lw (v := .int .i64 _) B1 1 rfl rfl rfl rfl ?_
  refine pc rfl rfl (fun c13 => ?_) (fun c13 => ?_)
  · skip
    refine pB rfl rfl (SL_nil (nx (SWP_seq (SWP_region (pu rfl rfl ?_)))))
    refine lw (v := .int .i64 _) B1 3 rfl rfl rfl rfl ?_
    refine pI rfl rfl (pI rfl rfl (pI rfl rfl (pI rfl rfl (SL_nil (nx (SWP_seq (SWP_region (pu rfl rfl ?_))))))))
    refine lw (v := .int .i64 _) B1 4 rfl rfl rfl rfl ?_
    refine pu rfl rfl (pI rfl rfl (SL_nil (nx (SWP_seq (SWP_seq (SWP_region (pB rfl rfl (SL_nil (nx (SWP_ct rfl (SWP_seq ?_)))))))))))
    refine SWP_region (pI rfl rfl (pI rfl rfl (pI rfl rfl (pI rfl rfl (SL_nil (nx (SWP_region (pu rfl rfl ?_))))))))
    refine lw (v := .int .i64 _) B1 3 rfl rfl rfl rfl ?_
    refine pI rfl rfl (SL_nil (nx (SWP_seq (SWP_region (pI rfl rfl (pI rfl rfl (SL_nil (nx (SWP_seq (SWP_seq (SWP_region ?_)))))))))))
    refine pu rfl rfl ?_
    refine lw (v := .int .i64 _) B1 5 rfl rfl rfl rfl ?_
    refine pc rfl rfl (fun c24 => ?_) (fun c24 => ?_)
    · skip
      refine SL_nil (nx (SWP_ct rfl (SWP_region (pu rfl rfl ?_))))
      refine lw (v := .int .i64 _) B1 5 rfl rfl rfl rfl ?_
      refine pI rfl rfl (pI rfl rfl (SL_nil (nx (SWP_seq (SWP_block (SWP_seq (SWP_region (pu rfl rfl ?_))))))))
      refine lw (v := .int .i64 _) B1 2 rfl rfl rfl rfl ?_
      refine SL_pcall rfl rfl cb101 (withinI _ _ _) rfl ?_
      refine psp 30 rfl (fun c30 => ?_) (fun c30 => ?_)
      · skip
        refine pB rfl rfl (pB rfl rfl (SL_nil (nx (SWP_cf rfl (SWP_seq (SWP_region (pu rfl rfl ?_)))))))
        refine lw (v := .int .i64 _) B1 3 rfl rfl rfl rfl ?_
        refine SL_pcall rfl rfl cb101 (withinI _ _ _) rfl ?_
        refine psp 35 rfl (fun c35 => ?_) (fun c35 => ?_)
        · skip
          refine pB rfl rfl (pB rfl rfl (SL_nil (nx (SWP_cf rfl (SWP_seq (SWP_region (pu rfl rfl ?_)))))))
          refine lw (v := .int .i64 _) B1 4 rfl rfl rfl rfl ?_
          refine pI rfl rfl (pI rfl rfl ?_)
          refine SL_pcall rfl rfl cb101 (withinI _ _ _) rfl ?_
          refine psp 42 rfl (fun c42 => ?_) (fun c42 => ?_)
          · skip
            refine pB rfl rfl (pB rfl rfl (SL_nil (nx (SWP_cf rfl (SWP_seq (SWP_region (pu rfl rfl ?_)))))))
            refine lw (v := .int .i64 _) B1 5 rfl rfl rfl rfl ?_
            refine pI rfl rfl ?_
            refine SL_pcall rfl rfl cb101 (withinI _ _ _) rfl ?_
            refine psp 48 rfl (fun c48 => ?_) (fun c48 => ?_)
            · skip
              refine pB rfl rfl (pB rfl rfl (SL_nil (nx (SWP_cf rfl (SWP_seq (SWP_region (pu rfl rfl ?_)))))))
              refine lw (v := .int .i64 _) B1 6 rfl rfl rfl rfl ?_
              refine pI rfl rfl (pI rfl rfl ?_)
              refine SL_pcall rfl rfl cb101 (withinI _ _ _) rfl ?_
              refine psp 55 rfl (fun c55 => ?_) (fun c55 => ?_)
              · skip
                refine pB rfl rfl (pB rfl rfl (SL_nil (nx (SWP_cf rfl (SWP_seq (SWP_seq (SWP_region (pu rfl rfl ?_))))))))
                refine lw (v := .int .i64 _) B1 7 rfl rfl rfl rfl ?_
                refine pI rfl rfl ?_
                refine SL_pcall rfl rfl cb101 (withinI _ _ _) rfl ?_
                refine psp 61 rfl (fun c61 => ?_) (fun c61 => ?_)
                · skip
                  refine pB rfl rfl (pB rfl rfl (SL_nil (nx (SWP_cf rfl (SWP_region (pB rfl rfl (pB rfl rfl (pB rfl rfl (SL_no rfl rfl (SL_no rfl rfl (SL_no rfl rfl ?_)))))))))))
                  refine SL_no rfl rfl (SL_no rfl rfl (SL_no rfl rfl (SL_no rfl rfl (SL_no rfl rfl (pB rfl rfl (pB rfl rfl (SL_nil (nx (SWP_cf rfl (SWP_seq (SWP_region ?_)))))))))))
                  refine pu rfl rfl ?_
                  refine lw (v := .int .i64 _) B1 8 rfl rfl rfl rfl ?_
                  refine SL_pcall rfl rfl cb101 (withinI _ _ _) rfl ?_
                  refine psp 78 rfl (fun c78 => ?_) (fun c78 => ?_)
                  · skip
                    refine pB rfl rfl (pB rfl rfl (SL_nil (nx (SWP_cf rfl (SWP_seq (SWP_region (pu rfl rfl ?_)))))))
                    refine lw (v := .int .i64 _) B1 9 rfl rfl rfl rfl ?_
                    refine pu rfl rfl ?_
                    refine lw (v := .int .i64 _) B1 3 rfl rfl rfl rfl ?_
                    refine pI rfl rfl ?_
                    refine SL_pcall rfl rfl cb101 (withinI _ _ _) rfl ?_
                    refine psp 86 rfl (fun c86 => ?_) (fun c86 => ?_)
                    · skip
                      refine pB rfl rfl (pB rfl rfl (SL_nil (nx (SWP_cf rfl (SWP_skip (nb (nx (SWP_seq (SWP_region (pS rfl rfl (SL_nil ?_)))))))))))
                      refine nx (SWP_ret ?_)
                      refine fin [_] ⟨rfl, trivial⟩ ?_
                      refine ⟨rfl, ?_⟩
                      refine ⟨_, rfl, ?_⟩
                      exact emptyS rfl ⟨by omega, by omega, by omega, by omega, by omega, by omega, by omega, by omega, by omega, by omega, by omega, by omega, by omega, by omega, by omega, by omega⟩
                    refine pB rfl rfl (pB rfl rfl (SL_nil (nx (SWP_ct rfl (SWP_seq (SWP_region (pS rfl rfl (SL_nil (nx (SWP_ret (br ?_)))))))))))
                    refine nr ?_
                    refine fin [_] ⟨rfl, trivial⟩ ?_
                    refine ⟨rfl, ?_⟩
                    refine ⟨_, rfl, ?_⟩
                    exact fullS (by decide +kernel) (fun h => by have := h.h1; have := h.h2; have := h.h3; have := h.h4; have := h.h5; have := h.h6; have := h.h7; have := h.h8; have := h.h9; have := h.h10; have := h.h11; have := h.h12; have := h.h13; have := h.h14; have := h.h15; have := h.h16; omega)
                  refine pB rfl rfl (pB rfl rfl (SL_nil (nx (SWP_ct rfl (SWP_seq (SWP_region (pS rfl rfl (SL_nil (nx (SWP_ret (br ?_)))))))))))
                  refine nr ?_
                  refine fin [_] ⟨rfl, trivial⟩ ?_
                  refine ⟨rfl, ?_⟩
                  refine ⟨_, rfl, ?_⟩
                  exact fullS (by decide +kernel) (fun h => by have := h.h1; have := h.h2; have := h.h3; have := h.h4; have := h.h5; have := h.h6; have := h.h7; have := h.h8; have := h.h9; have := h.h10; have := h.h11; have := h.h12; have := h.h13; have := h.h14; have := h.h15; have := h.h16; omega)
                refine pB rfl rfl (pB rfl rfl (SL_nil (nx (SWP_ct rfl (SWP_skip (nx (SWP_ct rfl (SWP_seq (SWP_region (pS rfl rfl (SL_nil ?_)))))))))))
                refine nx (SWP_ret (br (nr ?_)))
                refine fin [_] ⟨rfl, trivial⟩ ?_
                refine ⟨rfl, ?_⟩
                refine ⟨_, rfl, ?_⟩
                exact fullS (by decide +kernel) (fun h => by have := h.h1; have := h.h2; have := h.h3; have := h.h4; have := h.h5; have := h.h6; have := h.h7; have := h.h8; have := h.h9; have := h.h10; have := h.h11; have := h.h12; have := h.h13; have := h.h14; have := h.h15; have := h.h16; omega)
              refine pB rfl rfl (pB rfl rfl (SL_nil (nx (SWP_ct rfl (SWP_seq (SWP_region (pS rfl rfl (SL_nil (nx (SWP_ret (br ?_)))))))))))
              refine nr ?_
              refine fin [_] ⟨rfl, trivial⟩ ?_
              refine ⟨rfl, ?_⟩
              refine ⟨_, rfl, ?_⟩
              exact fullS (by decide +kernel) (fun h => by have := h.h1; have := h.h2; have := h.h3; have := h.h4; have := h.h5; have := h.h6; have := h.h7; have := h.h8; have := h.h9; have := h.h10; have := h.h11; have := h.h12; have := h.h13; have := h.h14; have := h.h15; have := h.h16; omega)
            refine pB rfl rfl (pB rfl rfl (SL_nil (nx (SWP_ct rfl (SWP_seq (SWP_region (pS rfl rfl (SL_nil (nx (SWP_ret (br ?_)))))))))))
            refine nr ?_
            refine fin [_] ⟨rfl, trivial⟩ ?_
            refine ⟨rfl, ?_⟩
            refine ⟨_, rfl, ?_⟩
            exact fullS (by decide +kernel) (fun h => by have := h.h1; have := h.h2; have := h.h3; have := h.h4; have := h.h5; have := h.h6; have := h.h7; have := h.h8; have := h.h9; have := h.h10; have := h.h11; have := h.h12; have := h.h13; have := h.h14; have := h.h15; have := h.h16; omega)
          refine pB rfl rfl (pB rfl rfl (SL_nil (nx (SWP_ct rfl (SWP_seq (SWP_region (pS rfl rfl (SL_nil (nx (SWP_ret (br ?_)))))))))))
          refine nr ?_
          refine fin [_] ⟨rfl, trivial⟩ ?_
          refine ⟨rfl, ?_⟩
          refine ⟨_, rfl, ?_⟩
          exact fullS (by decide +kernel) (fun h => by have := h.h1; have := h.h2; have := h.h3; have := h.h4; have := h.h5; have := h.h6; have := h.h7; have := h.h8; have := h.h9; have := h.h10; have := h.h11; have := h.h12; have := h.h13; have := h.h14; have := h.h15; have := h.h16; omega)
        refine pB rfl rfl (pB rfl rfl (SL_nil (nx (SWP_ct rfl (SWP_seq (SWP_region (pS rfl rfl (SL_nil (nx (SWP_ret (br ?_)))))))))))
        refine nr ?_
        refine fin [_] ⟨rfl, trivial⟩ ?_
        refine ⟨rfl, ?_⟩
        refine ⟨_, rfl, ?_⟩
        exact fullS (by decide +kernel) (fun h => by have := h.h1; have := h.h2; have := h.h3; have := h.h4; have := h.h5; have := h.h6; have := h.h7; have := h.h8; have := h.h9; have := h.h10; have := h.h11; have := h.h12; have := h.h13; have := h.h14; have := h.h15; have := h.h16; omega)
      refine pB rfl rfl (pB rfl rfl (SL_nil (nx (SWP_ct rfl (SWP_seq (SWP_region (pS rfl rfl (SL_nil (nx (SWP_ret (br ?_)))))))))))
      refine nr ?_
      refine fin [_] ⟨rfl, trivial⟩ ?_
      refine ⟨rfl, ?_⟩
      refine ⟨_, rfl, ?_⟩
      exact fullS (by decide +kernel) (fun h => by have := h.h1; have := h.h2; have := h.h3; have := h.h4; have := h.h5; have := h.h6; have := h.h7; have := h.h8; have := h.h9; have := h.h10; have := h.h11; have := h.h12; have := h.h13; have := h.h14; have := h.h15; have := h.h16; omega)
    refine SL_nil (nx (SWP_cf rfl (SWP_skip (nx (SWP_seq (SWP_block (SWP_seq (SWP_region (pu rfl rfl ?_)))))))))
    refine lw (v := .int .i64 _) B1 2 rfl rfl rfl rfl ?_
    refine SL_pcall rfl rfl cb101 (withinI _ _ _) rfl ?_
    refine psp 30 rfl (fun c30 => ?_) (fun c30 => ?_)
    · skip
      refine pB rfl rfl (pB rfl rfl (SL_nil (nx (SWP_cf rfl (SWP_seq (SWP_region (pu rfl rfl ?_)))))))
      refine lw (v := .int .i64 _) B1 3 rfl rfl rfl rfl ?_
      refine SL_pcall rfl rfl cb101 (withinI _ _ _) rfl ?_
      refine psp 35 rfl (fun c35 => ?_) (fun c35 => ?_)
      · skip
        refine pB rfl rfl (pB rfl rfl (SL_nil (nx (SWP_cf rfl (SWP_seq (SWP_region (pu rfl rfl ?_)))))))
        refine lw (v := .int .i64 _) B1 4 rfl rfl rfl rfl ?_
        refine pI rfl rfl (pI rfl rfl ?_)
        refine SL_pcall rfl rfl cb101 (withinI _ _ _) rfl ?_
        refine psp 42 rfl (fun c42 => ?_) (fun c42 => ?_)
        · skip
          refine pB rfl rfl (pB rfl rfl (SL_nil (nx (SWP_cf rfl (SWP_seq (SWP_region (pu rfl rfl ?_)))))))
          refine lw (v := .int .i64 _) B1 5 rfl rfl rfl rfl ?_
          refine pI rfl rfl ?_
          refine SL_pcall rfl rfl cb101 (withinI _ _ _) rfl ?_
          refine psp 48 rfl (fun c48 => ?_) (fun c48 => ?_)
          · skip
            refine pB rfl rfl (pB rfl rfl (SL_nil (nx (SWP_cf rfl (SWP_seq (SWP_region (pu rfl rfl ?_)))))))
            refine lw (v := .int .i64 _) B1 6 rfl rfl rfl rfl ?_
            refine pI rfl rfl (pI rfl rfl ?_)
            refine SL_pcall rfl rfl cb101 (withinI _ _ _) rfl ?_
            refine psp 55 rfl (fun c55 => ?_) (fun c55 => ?_)
            · skip
              refine pB rfl rfl (pB rfl rfl (SL_nil (nx (SWP_cf rfl (SWP_seq (SWP_seq (SWP_region (pu rfl rfl ?_))))))))
              refine lw (v := .int .i64 _) B1 7 rfl rfl rfl rfl ?_
              refine pI rfl rfl ?_
              refine SL_pcall rfl rfl cb101 (withinI _ _ _) rfl ?_
              refine psp 61 rfl (fun c61 => ?_) (fun c61 => ?_)
              · skip
                refine pB rfl rfl (pB rfl rfl (SL_nil (nx (SWP_cf rfl (SWP_region (pB rfl rfl (pB rfl rfl (pB rfl rfl (SL_no rfl rfl (SL_no rfl rfl (SL_no rfl rfl ?_)))))))))))
                refine SL_no rfl rfl (SL_no rfl rfl (SL_no rfl rfl (SL_no rfl rfl (SL_no rfl rfl (pB rfl rfl (pB rfl rfl (SL_nil (nx (SWP_cf rfl (SWP_seq (SWP_region ?_)))))))))))
                refine pu rfl rfl ?_
                refine lw (v := .int .i64 _) B1 8 rfl rfl rfl rfl ?_
                refine SL_pcall rfl rfl cb101 (withinI _ _ _) rfl ?_
                refine psp 78 rfl (fun c78 => ?_) (fun c78 => ?_)
                · skip
                  refine pB rfl rfl (pB rfl rfl (SL_nil (nx (SWP_cf rfl (SWP_seq (SWP_region (pu rfl rfl ?_)))))))
                  refine lw (v := .int .i64 _) B1 9 rfl rfl rfl rfl ?_
                  refine pu rfl rfl ?_
                  refine lw (v := .int .i64 _) B1 3 rfl rfl rfl rfl ?_
                  refine pI rfl rfl ?_
                  refine SL_pcall rfl rfl cb101 (withinI _ _ _) rfl ?_
                  refine psp 86 rfl (fun c86 => ?_) (fun c86 => ?_)
                  · skip
                    refine pB rfl rfl (pB rfl rfl (SL_nil (nx (SWP_cf rfl (SWP_skip (nb (nx (SWP_seq (SWP_region (pS rfl rfl (SL_nil ?_)))))))))))
                    refine nx (SWP_ret ?_)
                    refine fin [_] ⟨rfl, trivial⟩ ?_
                    refine ⟨rfl, ?_⟩
                    refine ⟨_, rfl, ?_⟩
                    exact emptyS rfl ⟨by omega, by omega, by omega, by omega, by omega, by omega, by omega, by omega, by omega, by omega, by omega, by omega, by omega, by omega, by omega, by omega⟩
                  refine pB rfl rfl (pB rfl rfl (SL_nil (nx (SWP_ct rfl (SWP_seq (SWP_region (pS rfl rfl (SL_nil (nx (SWP_ret (br ?_)))))))))))
                  refine nr ?_
                  refine fin [_] ⟨rfl, trivial⟩ ?_
                  refine ⟨rfl, ?_⟩
                  refine ⟨_, rfl, ?_⟩
                  exact fullS (by decide +kernel) (fun h => by have := h.h1; have := h.h2; have := h.h3; have := h.h4; have := h.h5; have := h.h6; have := h.h7; have := h.h8; have := h.h9; have := h.h10; have := h.h11; have := h.h12; have := h.h13; have := h.h14; have := h.h15; have := h.h16; omega)
                refine pB rfl rfl (pB rfl rfl (SL_nil (nx (SWP_ct rfl (SWP_seq (SWP_region (pS rfl rfl (SL_nil (nx (SWP_ret (br ?_)))))))))))
                refine nr ?_
                refine fin [_] ⟨rfl, trivial⟩ ?_
                refine ⟨rfl, ?_⟩
                refine ⟨_, rfl, ?_⟩
                exact fullS (by decide +kernel) (fun h => by have := h.h1; have := h.h2; have := h.h3; have := h.h4; have := h.h5; have := h.h6; have := h.h7; have := h.h8; have := h.h9; have := h.h10; have := h.h11; have := h.h12; have := h.h13; have := h.h14; have := h.h15; have := h.h16; omega)
              refine pB rfl rfl (pB rfl rfl (SL_nil (nx (SWP_ct rfl (SWP_skip (nx (SWP_ct rfl (SWP_seq (SWP_region (pS rfl rfl (SL_nil ?_)))))))))))
              refine nx (SWP_ret (br (nr ?_)))
              refine fin [_] ⟨rfl, trivial⟩ ?_
              refine ⟨rfl, ?_⟩
              refine ⟨_, rfl, ?_⟩
              exact fullS (by decide +kernel) (fun h => by have := h.h1; have := h.h2; have := h.h3; have := h.h4; have := h.h5; have := h.h6; have := h.h7; have := h.h8; have := h.h9; have := h.h10; have := h.h11; have := h.h12; have := h.h13; have := h.h14; have := h.h15; have := h.h16; omega)
            refine pB rfl rfl (pB rfl rfl (SL_nil (nx (SWP_ct rfl (SWP_seq (SWP_region (pS rfl rfl (SL_nil (nx (SWP_ret (br ?_)))))))))))
            refine nr ?_
            refine fin [_] ⟨rfl, trivial⟩ ?_
            refine ⟨rfl, ?_⟩
            refine ⟨_, rfl, ?_⟩
            exact fullS (by decide +kernel) (fun h => by have := h.h1; have := h.h2; have := h.h3; have := h.h4; have := h.h5; have := h.h6; have := h.h7; have := h.h8; have := h.h9; have := h.h10; have := h.h11; have := h.h12; have := h.h13; have := h.h14; have := h.h15; have := h.h16; omega)
          refine pB rfl rfl (pB rfl rfl (SL_nil (nx (SWP_ct rfl (SWP_seq (SWP_region (pS rfl rfl (SL_nil (nx (SWP_ret (br ?_)))))))))))
          refine nr ?_
          refine fin [_] ⟨rfl, trivial⟩ ?_
          refine ⟨rfl, ?_⟩
          refine ⟨_, rfl, ?_⟩
          exact fullS (by decide +kernel) (fun h => by have := h.h1; have := h.h2; have := h.h3; have := h.h4; have := h.h5; have := h.h6; have := h.h7; have := h.h8; have := h.h9; have := h.h10; have := h.h11; have := h.h12; have := h.h13; have := h.h14; have := h.h15; have := h.h16; omega)
        refine pB rfl rfl (pB rfl rfl (SL_nil (nx (SWP_ct rfl (SWP_seq (SWP_region (pS rfl rfl (SL_nil (nx (SWP_ret (br ?_)))))))))))
        refine nr ?_
        refine fin [_] ⟨rfl, trivial⟩ ?_
        refine ⟨rfl, ?_⟩
        refine ⟨_, rfl, ?_⟩
        exact fullS (by decide +kernel) (fun h => by have := h.h1; have := h.h2; have := h.h3; have := h.h4; have := h.h5; have := h.h6; have := h.h7; have := h.h8; have := h.h9; have := h.h10; have := h.h11; have := h.h12; have := h.h13; have := h.h14; have := h.h15; have := h.h16; omega)
      refine pB rfl rfl (pB rfl rfl (SL_nil (nx (SWP_ct rfl (SWP_seq (SWP_region (pS rfl rfl (SL_nil (nx (SWP_ret (br ?_)))))))))))
      refine nr ?_
      refine fin [_] ⟨rfl, trivial⟩ ?_
      refine ⟨rfl, ?_⟩
      refine ⟨_, rfl, ?_⟩
      exact fullS (by decide +kernel) (fun h => by have := h.h1; have := h.h2; have := h.h3; have := h.h4; have := h.h5; have := h.h6; have := h.h7; have := h.h8; have := h.h9; have := h.h10; have := h.h11; have := h.h12; have := h.h13; have := h.h14; have := h.h15; have := h.h16; omega)
    refine pB rfl rfl (pB rfl rfl (SL_nil (nx (SWP_ct rfl (SWP_seq (SWP_region (pS rfl rfl (SL_nil (nx (SWP_ret (br ?_)))))))))))
    refine nr ?_
    refine fin [_] ⟨rfl, trivial⟩ ?_
    refine ⟨rfl, ?_⟩
    refine ⟨_, rfl, ?_⟩
    exact fullS (by decide +kernel) (fun h => by have := h.h1; have := h.h2; have := h.h3; have := h.h4; have := h.h5; have := h.h6; have := h.h7; have := h.h8; have := h.h9; have := h.h10; have := h.h11; have := h.h12; have := h.h13; have := h.h14; have := h.h15; have := h.h16; omega)
  refine pB rfl rfl (SL_nil (nx (SWP_seq (SWP_region (pu rfl rfl ?_)))))
  refine lw (v := .int .i64 _) B1 3 rfl rfl rfl rfl ?_
  refine pI rfl rfl (pI rfl rfl (pI rfl rfl (pI rfl rfl (SL_nil (nx (SWP_seq (SWP_region (pu rfl rfl ?_))))))))
  refine lw (v := .int .i64 _) B1 4 rfl rfl rfl rfl ?_
  refine pu rfl rfl (pI rfl rfl (SL_nil (nx (SWP_seq (SWP_seq (SWP_region (pB rfl rfl (SL_nil (nx (SWP_cf rfl (SWP_skip ?_)))))))))))
  refine nx (SWP_seq (SWP_region (pI rfl rfl (pI rfl rfl (SL_nil (nx (SWP_seq (SWP_seq (SWP_region (pu rfl rfl ?_))))))))))
  refine lw (v := .int .i64 _) B1 5 rfl rfl rfl rfl ?_
  refine pc rfl rfl (fun c24 => ?_) (fun c24 => ?_)
  · skip
    refine SL_nil (nx (SWP_ct rfl (SWP_region (pu rfl rfl ?_))))
    refine lw (v := .int .i64 _) B1 5 rfl rfl rfl rfl ?_
    refine pI rfl rfl (pI rfl rfl (SL_nil (nx (SWP_seq (SWP_block (SWP_seq (SWP_region (pu rfl rfl ?_))))))))
    refine lw (v := .int .i64 _) B1 2 rfl rfl rfl rfl ?_
    refine SL_pcall rfl rfl cb101 (withinI _ _ _) rfl ?_
    refine psp 30 rfl (fun c30 => ?_) (fun c30 => ?_)
    · skip
      refine pB rfl rfl (pB rfl rfl (SL_nil (nx (SWP_cf rfl (SWP_seq (SWP_region (pu rfl rfl ?_)))))))
      refine lw (v := .int .i64 _) B1 3 rfl rfl rfl rfl ?_
      refine SL_pcall rfl rfl cb101 (withinI _ _ _) rfl ?_
      refine psp 35 rfl (fun c35 => ?_) (fun c35 => ?_)
      · skip
        refine pB rfl rfl (pB rfl rfl (SL_nil (nx (SWP_cf rfl (SWP_seq (SWP_region (pu rfl rfl ?_)))))))
        refine lw (v := .int .i64 _) B1 4 rfl rfl rfl rfl ?_
        refine pI rfl rfl (pI rfl rfl ?_)
        refine SL_pcall rfl rfl cb101 (withinI _ _ _) rfl ?_
        refine psp 42 rfl (fun c42 => ?_) (fun c42 => ?_)
        · skip
          refine pB rfl rfl (pB rfl rfl (SL_nil (nx (SWP_cf rfl (SWP_seq (SWP_region (pu rfl rfl ?_)))))))
          refine lw (v := .int .i64 _) B1 5 rfl rfl rfl rfl ?_
          refine pI rfl rfl ?_
          refine SL_pcall rfl rfl cb101 (withinI _ _ _) rfl ?_
          refine psp 48 rfl (fun c48 => ?_) (fun c48 => ?_)
          · skip
            refine pB rfl rfl (pB rfl rfl (SL_nil (nx (SWP_cf rfl (SWP_seq (SWP_region (pu rfl rfl ?_)))))))
            refine lw (v := .int .i64 _) B1 6 rfl rfl rfl rfl ?_
            refine pI rfl rfl (pI rfl rfl ?_)
            refine SL_pcall rfl rfl cb101 (withinI _ _ _) rfl ?_
            refine psp 55 rfl (fun c55 => ?_) (fun c55 => ?_)
            · skip
              refine pB rfl rfl (pB rfl rfl (SL_nil (nx (SWP_cf rfl (SWP_seq (SWP_seq (SWP_region (pu rfl rfl ?_))))))))
              refine lw (v := .int .i64 _) B1 7 rfl rfl rfl rfl ?_
              refine pI rfl rfl ?_
              refine SL_pcall rfl rfl cb101 (withinI _ _ _) rfl ?_
              refine psp 61 rfl (fun c61 => ?_) (fun c61 => ?_)
              · skip
                refine pB rfl rfl (pB rfl rfl (SL_nil (nx (SWP_cf rfl (SWP_region (pB rfl rfl (pB rfl rfl (pB rfl rfl (SL_yes rfl (pu rfl rfl (SL_yes rfl ?_)))))))))))
                refine lw (v := .int .i64 _) B1 3 rfl rfl rfl rfl ?_
                refine SL_yes rfl (pu rfl rfl (SL_yes rfl ?_))
                refine lw (v := .int .i64 _) B1 7 rfl rfl rfl rfl ?_
                refine SL_yes rfl ?_
                refine pw rfl rfl (w64 (by omega) (by omega)) ?_
                refine SL_yes rfl (pu rfl rfl (SL_yes rfl ?_))
                refine lw (v := .int .i64 _) B1 4 rfl rfl rfl rfl ?_
                refine SL_yes rfl ?_
                refine pc rfl rfl (fun c73 => ?_) (fun c73 => ?_)
                · skip
                  refine pB rfl rfl (pB rfl rfl (SL_nil (nx (SWP_ct rfl (SWP_seq (SWP_region (pS rfl rfl (SL_nil (nx (SWP_ret (br ?_)))))))))))
                  refine nr ?_
                  refine fin [_] ⟨rfl, trivial⟩ ?_
                  refine ⟨rfl, ?_⟩
                  refine ⟨_, rfl, ?_⟩
                  exact fullS (by decide +kernel) (fun h => by have := h.h1; have := h.h2; have := h.h3; have := h.h4; have := h.h5; have := h.h6; have := h.h7; have := h.h8; have := h.h9; have := h.h10; have := h.h11; have := h.h12; have := h.h13; have := h.h14; have := h.h15; have := h.h16; omega)
                refine pB rfl rfl (pB rfl rfl (SL_nil (nx (SWP_cf rfl (SWP_seq (SWP_region (pu rfl rfl ?_)))))))
                refine lw (v := .int .i64 _) B1 8 rfl rfl rfl rfl ?_
                refine SL_pcall rfl rfl cb101 (withinI _ _ _) rfl ?_
                refine psp 78 rfl (fun c78 => ?_) (fun c78 => ?_)
                · skip
                  refine pB rfl rfl (pB rfl rfl (SL_nil (nx (SWP_cf rfl (SWP_seq (SWP_region (pu rfl rfl ?_)))))))
                  refine lw (v := .int .i64 _) B1 9 rfl rfl rfl rfl ?_
                  refine pu rfl rfl ?_
                  refine lw (v := .int .i64 _) B1 3 rfl rfl rfl rfl ?_
                  refine pI rfl rfl ?_
                  refine SL_pcall rfl rfl cb101 (withinI _ _ _) rfl ?_
                  refine psp 86 rfl (fun c86 => ?_) (fun c86 => ?_)
                  · skip
                    refine pB rfl rfl (pB rfl rfl (SL_nil (nx (SWP_cf rfl (SWP_skip (nb (nx (SWP_seq (SWP_region (pS rfl rfl (SL_nil ?_)))))))))))
                    refine nx (SWP_ret ?_)
                    refine fin [_] ⟨rfl, trivial⟩ ?_
                    refine ⟨rfl, ?_⟩
                    refine ⟨_, rfl, ?_⟩
                    exact emptyS rfl ⟨by omega, by omega, by omega, by omega, by omega, by omega, by omega, by omega, by omega, by omega, by omega, by omega, by omega, by omega, by omega, by omega⟩
                  refine pB rfl rfl (pB rfl rfl (SL_nil (nx (SWP_ct rfl (SWP_seq (SWP_region (pS rfl rfl (SL_nil (nx (SWP_ret (br ?_)))))))))))
                  refine nr ?_
                  refine fin [_] ⟨rfl, trivial⟩ ?_
                  refine ⟨rfl, ?_⟩
                  refine ⟨_, rfl, ?_⟩
                  exact fullS (by decide +kernel) (fun h => by have := h.h1; have := h.h2; have := h.h3; have := h.h4; have := h.h5; have := h.h6; have := h.h7; have := h.h8; have := h.h9; have := h.h10; have := h.h11; have := h.h12; have := h.h13; have := h.h14; have := h.h15; have := h.h16; omega)
                refine pB rfl rfl (pB rfl rfl (SL_nil (nx (SWP_ct rfl (SWP_seq (SWP_region (pS rfl rfl (SL_nil (nx (SWP_ret (br ?_)))))))))))
                refine nr ?_
                refine fin [_] ⟨rfl, trivial⟩ ?_
                refine ⟨rfl, ?_⟩
                refine ⟨_, rfl, ?_⟩
                exact fullS (by decide +kernel) (fun h => by have := h.h1; have := h.h2; have := h.h3; have := h.h4; have := h.h5; have := h.h6; have := h.h7; have := h.h8; have := h.h9; have := h.h10; have := h.h11; have := h.h12; have := h.h13; have := h.h14; have := h.h15; have := h.h16; omega)
              refine pB rfl rfl (pB rfl rfl (SL_nil (nx (SWP_ct rfl (SWP_skip (nx (SWP_ct rfl (SWP_seq (SWP_region (pS rfl rfl (SL_nil ?_)))))))))))
              refine nx (SWP_ret (br (nr ?_)))
              refine fin [_] ⟨rfl, trivial⟩ ?_
              refine ⟨rfl, ?_⟩
              refine ⟨_, rfl, ?_⟩
              exact fullS (by decide +kernel) (fun h => by have := h.h1; have := h.h2; have := h.h3; have := h.h4; have := h.h5; have := h.h6; have := h.h7; have := h.h8; have := h.h9; have := h.h10; have := h.h11; have := h.h12; have := h.h13; have := h.h14; have := h.h15; have := h.h16; omega)
            refine pB rfl rfl (pB rfl rfl (SL_nil (nx (SWP_ct rfl (SWP_seq (SWP_region (pS rfl rfl (SL_nil (nx (SWP_ret (br ?_)))))))))))
            refine nr ?_
            refine fin [_] ⟨rfl, trivial⟩ ?_
            refine ⟨rfl, ?_⟩
            refine ⟨_, rfl, ?_⟩
            exact fullS (by decide +kernel) (fun h => by have := h.h1; have := h.h2; have := h.h3; have := h.h4; have := h.h5; have := h.h6; have := h.h7; have := h.h8; have := h.h9; have := h.h10; have := h.h11; have := h.h12; have := h.h13; have := h.h14; have := h.h15; have := h.h16; omega)
          refine pB rfl rfl (pB rfl rfl (SL_nil (nx (SWP_ct rfl (SWP_seq (SWP_region (pS rfl rfl (SL_nil (nx (SWP_ret (br ?_)))))))))))
          refine nr ?_
          refine fin [_] ⟨rfl, trivial⟩ ?_
          refine ⟨rfl, ?_⟩
          refine ⟨_, rfl, ?_⟩
          exact fullS (by decide +kernel) (fun h => by have := h.h1; have := h.h2; have := h.h3; have := h.h4; have := h.h5; have := h.h6; have := h.h7; have := h.h8; have := h.h9; have := h.h10; have := h.h11; have := h.h12; have := h.h13; have := h.h14; have := h.h15; have := h.h16; omega)
        refine pB rfl rfl (pB rfl rfl (SL_nil (nx (SWP_ct rfl (SWP_seq (SWP_region (pS rfl rfl (SL_nil (nx (SWP_ret (br ?_)))))))))))
        refine nr ?_
        refine fin [_] ⟨rfl, trivial⟩ ?_
        refine ⟨rfl, ?_⟩
        refine ⟨_, rfl, ?_⟩
        exact fullS (by decide +kernel) (fun h => by have := h.h1; have := h.h2; have := h.h3; have := h.h4; have := h.h5; have := h.h6; have := h.h7; have := h.h8; have := h.h9; have := h.h10; have := h.h11; have := h.h12; have := h.h13; have := h.h14; have := h.h15; have := h.h16; omega)
      refine pB rfl rfl (pB rfl rfl (SL_nil (nx (SWP_ct rfl (SWP_seq (SWP_region (pS rfl rfl (SL_nil (nx (SWP_ret (br ?_)))))))))))
      refine nr ?_
      refine fin [_] ⟨rfl, trivial⟩ ?_
      refine ⟨rfl, ?_⟩
      refine ⟨_, rfl, ?_⟩
      exact fullS (by decide +kernel) (fun h => by have := h.h1; have := h.h2; have := h.h3; have := h.h4; have := h.h5; have := h.h6; have := h.h7; have := h.h8; have := h.h9; have := h.h10; have := h.h11; have := h.h12; have := h.h13; have := h.h14; have := h.h15; have := h.h16; omega)
    refine pB rfl rfl (pB rfl rfl (SL_nil (nx (SWP_ct rfl (SWP_seq (SWP_region (pS rfl rfl (SL_nil (nx (SWP_ret (br ?_)))))))))))
    refine nr ?_
    refine fin [_] ⟨rfl, trivial⟩ ?_
    refine ⟨rfl, ?_⟩
    refine ⟨_, rfl, ?_⟩
    exact fullS (by decide +kernel) (fun h => by have := h.h1; have := h.h2; have := h.h3; have := h.h4; have := h.h5; have := h.h6; have := h.h7; have := h.h8; have := h.h9; have := h.h10; have := h.h11; have := h.h12; have := h.h13; have := h.h14; have := h.h15; have := h.h16; omega)
  refine SL_nil (nx (SWP_cf rfl (SWP_skip (nx (SWP_seq (SWP_block (SWP_seq (SWP_region (pu rfl rfl ?_)))))))))
  refine lw (v := .int .i64 _) B1 2 rfl rfl rfl rfl ?_
  refine SL_pcall rfl rfl cb101 (withinI _ _ _) rfl ?_
  refine psp 30 rfl (fun c30 => ?_) (fun c30 => ?_)
  · skip
    refine pB rfl rfl (pB rfl rfl (SL_nil (nx (SWP_cf rfl (SWP_seq (SWP_region (pu rfl rfl ?_)))))))
    refine lw (v := .int .i64 _) B1 3 rfl rfl rfl rfl ?_
    refine SL_pcall rfl rfl cb101 (withinI _ _ _) rfl ?_
    refine psp 35 rfl (fun c35 => ?_) (fun c35 => ?_)
    · skip
      refine pB rfl rfl (pB rfl rfl (SL_nil (nx (SWP_cf rfl (SWP_seq (SWP_region (pu rfl rfl ?_)))))))
      refine lw (v := .int .i64 _) B1 4 rfl rfl rfl rfl ?_
      refine pI rfl rfl (pI rfl rfl ?_)
      refine SL_pcall rfl rfl cb101 (withinI _ _ _) rfl ?_
      refine psp 42 rfl (fun c42 => ?_) (fun c42 => ?_)
      · skip
        refine pB rfl rfl (pB rfl rfl (SL_nil (nx (SWP_cf rfl (SWP_seq (SWP_region (pu rfl rfl ?_)))))))
        refine lw (v := .int .i64 _) B1 5 rfl rfl rfl rfl ?_
        refine pI rfl rfl ?_
        refine SL_pcall rfl rfl cb101 (withinI _ _ _) rfl ?_
        refine psp 48 rfl (fun c48 => ?_) (fun c48 => ?_)
        · skip
          refine pB rfl rfl (pB rfl rfl (SL_nil (nx (SWP_cf rfl (SWP_seq (SWP_region (pu rfl rfl ?_)))))))
          refine lw (v := .int .i64 _) B1 6 rfl rfl rfl rfl ?_
          refine pI rfl rfl (pI rfl rfl ?_)
          refine SL_pcall rfl rfl cb101 (withinI _ _ _) rfl ?_
          refine psp 55 rfl (fun c55 => ?_) (fun c55 => ?_)
          · skip
            refine pB rfl rfl (pB rfl rfl (SL_nil (nx (SWP_cf rfl (SWP_seq (SWP_seq (SWP_region (pu rfl rfl ?_))))))))
            refine lw (v := .int .i64 _) B1 7 rfl rfl rfl rfl ?_
            refine pI rfl rfl ?_
            refine SL_pcall rfl rfl cb101 (withinI _ _ _) rfl ?_
            refine psp 61 rfl (fun c61 => ?_) (fun c61 => ?_)
            · skip
              refine pB rfl rfl (pB rfl rfl (SL_nil (nx (SWP_cf rfl (SWP_region (pB rfl rfl (pB rfl rfl (pB rfl rfl (SL_yes rfl (pu rfl rfl (SL_yes rfl ?_)))))))))))
              refine lw (v := .int .i64 _) B1 3 rfl rfl rfl rfl ?_
              refine SL_yes rfl (pu rfl rfl (SL_yes rfl ?_))
              refine lw (v := .int .i64 _) B1 7 rfl rfl rfl rfl ?_
              refine SL_yes rfl ?_
              refine pw rfl rfl (w64 (by omega) (by omega)) ?_
              refine SL_yes rfl (pu rfl rfl (SL_yes rfl ?_))
              refine lw (v := .int .i64 _) B1 4 rfl rfl rfl rfl ?_
              refine SL_yes rfl ?_
              refine pc rfl rfl (fun c73 => ?_) (fun c73 => ?_)
              · skip
                refine pB rfl rfl (pB rfl rfl (SL_nil (nx (SWP_ct rfl (SWP_seq (SWP_region (pS rfl rfl (SL_nil (nx (SWP_ret (br ?_)))))))))))
                refine nr ?_
                refine fin [_] ⟨rfl, trivial⟩ ?_
                refine ⟨rfl, ?_⟩
                refine ⟨_, rfl, ?_⟩
                exact fullS (by decide +kernel) (fun h => by have := h.h1; have := h.h2; have := h.h3; have := h.h4; have := h.h5; have := h.h6; have := h.h7; have := h.h8; have := h.h9; have := h.h10; have := h.h11; have := h.h12; have := h.h13; have := h.h14; have := h.h15; have := h.h16; omega)
              refine pB rfl rfl (pB rfl rfl (SL_nil (nx (SWP_cf rfl (SWP_seq (SWP_region (pu rfl rfl ?_)))))))
              refine lw (v := .int .i64 _) B1 8 rfl rfl rfl rfl ?_
              refine SL_pcall rfl rfl cb101 (withinI _ _ _) rfl ?_
              refine psp 78 rfl (fun c78 => ?_) (fun c78 => ?_)
              · skip
                refine pB rfl rfl (pB rfl rfl (SL_nil (nx (SWP_cf rfl (SWP_seq (SWP_region (pu rfl rfl ?_)))))))
                refine lw (v := .int .i64 _) B1 9 rfl rfl rfl rfl ?_
                refine pu rfl rfl ?_
                refine lw (v := .int .i64 _) B1 3 rfl rfl rfl rfl ?_
                refine pI rfl rfl ?_
                refine SL_pcall rfl rfl cb101 (withinI _ _ _) rfl ?_
                refine psp 86 rfl (fun c86 => ?_) (fun c86 => ?_)
                · skip
                  refine pB rfl rfl (pB rfl rfl (SL_nil (nx (SWP_cf rfl (SWP_skip (nb (nx (SWP_seq (SWP_region (pS rfl rfl (SL_nil ?_)))))))))))
                  refine nx (SWP_ret ?_)
                  refine fin [_] ⟨rfl, trivial⟩ ?_
                  refine ⟨rfl, ?_⟩
                  refine ⟨_, rfl, ?_⟩
                  exact emptyS rfl ⟨by omega, by omega, by omega, by omega, by omega, by omega, by omega, by omega, by omega, by omega, by omega, by omega, by omega, by omega, by omega, by omega⟩
                refine pB rfl rfl (pB rfl rfl (SL_nil (nx (SWP_ct rfl (SWP_seq (SWP_region (pS rfl rfl (SL_nil (nx (SWP_ret (br ?_)))))))))))
                refine nr ?_
                refine fin [_] ⟨rfl, trivial⟩ ?_
                refine ⟨rfl, ?_⟩
                refine ⟨_, rfl, ?_⟩
                exact fullS (by decide +kernel) (fun h => by have := h.h1; have := h.h2; have := h.h3; have := h.h4; have := h.h5; have := h.h6; have := h.h7; have := h.h8; have := h.h9; have := h.h10; have := h.h11; have := h.h12; have := h.h13; have := h.h14; have := h.h15; have := h.h16; omega)
              refine pB rfl rfl (pB rfl rfl (SL_nil (nx (SWP_ct rfl (SWP_seq (SWP_region (pS rfl rfl (SL_nil (nx (SWP_ret (br ?_)))))))))))
              refine nr ?_
              refine fin [_] ⟨rfl, trivial⟩ ?_
              refine ⟨rfl, ?_⟩
              refine ⟨_, rfl, ?_⟩
              exact fullS (by decide +kernel) (fun h => by have := h.h1; have := h.h2; have := h.h3; have := h.h4; have := h.h5; have := h.h6; have := h.h7; have := h.h8; have := h.h9; have := h.h10; have := h.h11; have := h.h12; have := h.h13; have := h.h14; have := h.h15; have := h.h16; omega)
            refine pB rfl rfl (pB rfl rfl (SL_nil (nx (SWP_ct rfl (SWP_skip (nx (SWP_ct rfl (SWP_seq (SWP_region (pS rfl rfl (SL_nil ?_)))))))))))
            refine nx (SWP_ret (br (nr ?_)))
            refine fin [_] ⟨rfl, trivial⟩ ?_
            refine ⟨rfl, ?_⟩
            refine ⟨_, rfl, ?_⟩
            exact fullS (by decide +kernel) (fun h => by have := h.h1; have := h.h2; have := h.h3; have := h.h4; have := h.h5; have := h.h6; have := h.h7; have := h.h8; have := h.h9; have := h.h10; have := h.h11; have := h.h12; have := h.h13; have := h.h14; have := h.h15; have := h.h16; omega)
          refine pB rfl rfl (pB rfl rfl (SL_nil (nx (SWP_ct rfl (SWP_seq (SWP_region (pS rfl rfl (SL_nil (nx (SWP_ret (br ?_)))))))))))
          refine nr ?_
          refine fin [_] ⟨rfl, trivial⟩ ?_
          refine ⟨rfl, ?_⟩
          refine ⟨_, rfl, ?_⟩
          exact fullS (by decide +kernel) (fun h => by have := h.h1; have := h.h2; have := h.h3; have := h.h4; have := h.h5; have := h.h6; have := h.h7; have := h.h8; have := h.h9; have := h.h10; have := h.h11; have := h.h12; have := h.h13; have := h.h14; have := h.h15; have := h.h16; omega)
        refine pB rfl rfl (pB rfl rfl (SL_nil (nx (SWP_ct rfl (SWP_seq (SWP_region (pS rfl rfl (SL_nil (nx (SWP_ret (br ?_)))))))))))
        refine nr ?_
        refine fin [_] ⟨rfl, trivial⟩ ?_
        refine ⟨rfl, ?_⟩
        refine ⟨_, rfl, ?_⟩
        exact fullS (by decide +kernel) (fun h => by have := h.h1; have := h.h2; have := h.h3; have := h.h4; have := h.h5; have := h.h6; have := h.h7; have := h.h8; have := h.h9; have := h.h10; have := h.h11; have := h.h12; have := h.h13; have := h.h14; have := h.h15; have := h.h16; omega)
      refine pB rfl rfl (pB rfl rfl (SL_nil (nx (SWP_ct rfl (SWP_seq (SWP_region (pS rfl rfl (SL_nil (nx (SWP_ret (br ?_)))))))))))
      refine nr ?_
      refine fin [_] ⟨rfl, trivial⟩ ?_
      refine ⟨rfl, ?_⟩
      refine ⟨_, rfl, ?_⟩
      exact fullS (by decide +kernel) (fun h => by have := h.h1; have := h.h2; have := h.h3; have := h.h4; have := h.h5; have := h.h6; have := h.h7; have := h.h8; have := h.h9; have := h.h10; have := h.h11; have := h.h12; have := h.h13; have := h.h14; have := h.h15; have := h.h16; omega)
    refine pB rfl rfl (pB rfl rfl (SL_nil (nx (SWP_ct rfl (SWP_seq (SWP_region (pS rfl rfl (SL_nil (nx (SWP_ret (br ?_)))))))))))
    refine nr ?_
    refine fin [_] ⟨rfl, trivial⟩ ?_
    refine ⟨rfl, ?_⟩
    refine ⟨_, rfl, ?_⟩
    exact fullS (by decide +kernel) (fun h => by have := h.h1; have := h.h2; have := h.h3; have := h.h4; have := h.h5; have := h.h6; have := h.h7; have := h.h8; have := h.h9; have := h.h10; have := h.h11; have := h.h12; have := h.h13; have := h.h14; have := h.h15; have := h.h16; omega)
  refine pB rfl rfl (pB rfl rfl (SL_nil (nx (SWP_ct rfl (SWP_seq (SWP_region (pS rfl rfl (SL_nil (nx (SWP_ret (br ?_)))))))))))
  refine nr ?_
  refine fin [_] ⟨rfl, trivial⟩ ?_
  refine ⟨rfl, ?_⟩
  refine ⟨_, rfl, ?_⟩
  exact fullS (by decide +kernel) (fun h => by have := h.h1; have := h.h2; have := h.h3; have := h.h4; have := h.h5; have := h.h6; have := h.h7; have := h.h8; have := h.h9; have := h.h10; have := h.h11; have := h.h12; have := h.h13; have := h.h14; have := h.h15; have := h.h16; omega)
end Go.Proofs.YtlgoegjboabgfaaGreatDoor
namespace Go.Proofs.YtlgoegjboabgfaaGreatDoor
open Eng
theorem aE4 {a : Addon} (h : nameB a.name = false) : 4 = addonErr a := by unfold addonErr; rw [if_pos h]
theorem aE7 {a : Addon} (h : nameB a.name = true) (hk : a.kind ≠ 1 ∧ a.kind ≠ 2) : 7 = addonErr a := by unfold addonErr; rw [if_neg (by rw [h]; exact Bool.noConfusion), if_pos hk]
theorem aE2 {a : Addon} (h : nameB a.name = true) (hk : ¬ (a.kind ≠ 1 ∧ a.kind ≠ 2)) (hp : ¬ (0 ≤ a.price ∧ a.price ≤ 1000000)) : 2 = addonErr a := by unfold addonErr; rw [if_neg (by rw [h]; exact Bool.noConfusion), if_neg hk, if_pos hp]
theorem aEf {a : Addon} (h : nameB a.name = true) (hk : a.kind = 1) (hp : 0 ≤ a.price ∧ a.price ≤ 1000000) : addonErr a = if a.digits ≠ 0 ∨ 0 < a.prizes.length then 7 else if ¬ (1 ≤ a.factors.length ∧ a.factors.length ≤ 8) then 3 else allErr 1 100 a.factors := by unfold addonErr; rw [if_neg (by rw [h]; exact Bool.noConfusion), if_neg (by omega), if_neg (by omega), if_pos hk]
theorem aEs {a : Addon} (h : nameB a.name = true) (hk : a.kind = 2) (hp : 0 ≤ a.price ∧ a.price ≤ 1000000) : addonErr a = if 0 < a.factors.length then 7 else if ¬ (1 ≤ a.digits ∧ a.digits ≤ 8) then 2 else if (a.prizes.length : Int) ≠ a.digits then 3 else allErr 0 1000000000 a.prizes := by unfold addonErr; rw [if_neg (by rw [h]; exact Bool.noConfusion), if_neg (by omega), if_neg (by omega), if_neg (by omega)]
theorem checkAddonI {m : Mem} {a : Addon} (h : a.In m) : PureCall Tryz.prog 102 [a.val] m (.int .i64 (addonErr a)) := by
  refine CallsS.pure ?_
  dsimp only [Addon.val]
  refine enter Tryz.func102 Tryz.ntmps102 rfl rfl ?_
  refine SWP_seq (SWP_region ?_)
  refine bx (v := .agg _) rfl rfl (fun B1 => ?_)
  refine pI rfl rfl (SL_nil (nx (SWP_seq (SWP_seq (SWP_region (pu rfl rfl ?_))))))
  refine lw (v := .string _) B1 0 rfl rfl rfl rfl ?_
  refine SL_pcall rfl rfl cb64 (nameImpl _) rfl ?_
  refine bsp 5 rfl (fun b5 => ?_) (fun b5 => ?_)
  · skip
    refine pB rfl rfl (SL_nil (nx (SWP_cf rfl (SWP_skip (nx (SWP_seq (SWP_seq (SWP_region (pu rfl rfl ?_)))))))))
    refine lw (v := .int .i64 _) B1 1 rfl rfl rfl rfl ?_
    refine pc rfl rfl (fun c9 => ?_) (fun c9 => ?_)
    · skip
      refine pB rfl rfl (SL_yes rfl (pu rfl rfl (SL_yes rfl ?_)))
      refine lw (v := .int .i64 _) B1 1 rfl rfl rfl rfl ?_
      refine SL_yes rfl ?_
      refine pc rfl rfl (fun c13 => ?_) (fun c13 => ?_)
      · skip
        refine pB rfl rfl (SL_nil (nx (SWP_ct rfl (SWP_seq (SWP_region (pI rfl rfl (SL_nil (nx (SWP_ret (nr ?_))))))))))
        refine fin [_] ⟨rfl, trivial⟩ ?_
        refine congrArg (Value.int .i64) ?_
        exact aE7 b5 (by omega)
      refine pB rfl rfl (SL_nil (nx (SWP_cf rfl (SWP_skip (nx (SWP_seq (SWP_seq (SWP_region (pu rfl rfl ?_)))))))))
      refine lw (v := .int .i64 _) B1 2 rfl rfl rfl rfl ?_
      refine SL_pcall rfl rfl cb101 (withinI _ _ _) rfl ?_
      refine psp 17 rfl (fun c17 => ?_) (fun c17 => ?_)
      · skip
        refine pB rfl rfl (SL_nil (nx (SWP_cf rfl (SWP_skip (nx (SWP_seq (SWP_seq (SWP_region (pu rfl rfl ?_)))))))))
        refine lw (v := .int .i64 _) B1 1 rfl rfl rfl rfl ?_
        refine pc rfl rfl (fun c21 => ?_) (fun c21 => ?_)
        · skip
          refine SL_nil (nx (SWP_ct rfl (SWP_seq (SWP_seq (SWP_region (pu rfl rfl ?_))))))
          refine lw (v := .int .i64 _) B1 4 rfl rfl rfl rfl ?_
          refine pc rfl rfl (fun c24 => ?_) (fun c24 => ?_)
          · skip
            refine pB rfl rfl (SL_no rfl rfl (SL_no rfl rfl (SL_no rfl rfl (SL_no rfl rfl (pB rfl rfl (SL_nil (nx (SWP_ct rfl (SWP_seq (SWP_region (pI rfl rfl ?_)))))))))))
            refine SL_nil (nx (SWP_ret (nr (nr ?_))))
            refine fin [_] ⟨rfl, trivial⟩ ?_
            refine congrArg (Value.int .i64) ?_
            (exfalso; omega)
          refine pB rfl rfl (SL_yes rfl (pu rfl rfl (SL_yes rfl ?_)))
          refine lw (v := .slice _ _ _) B1 5 rfl rfl rfl rfl ?_
          refine SL_yes rfl (pu rfl rfl (SL_yes rfl ?_))
          refine pc rfl rfl (fun c29 => ?_) (fun c29 => ?_)
          · skip
            refine pB rfl rfl (SL_nil (nx (SWP_ct rfl (SWP_seq (SWP_region (pI rfl rfl (SL_nil (nx (SWP_ret (nr (nr ?_)))))))))))
            refine fin [_] ⟨rfl, trivial⟩ ?_
            refine congrArg (Value.int .i64) ?_
            (exfalso; omega)
          refine pB rfl rfl (SL_nil (nx (SWP_cf rfl (SWP_skip (nx (SWP_seq (SWP_seq (SWP_region (pu rfl rfl ?_)))))))))
          refine lw (v := .slice _ _ _) B1 3 rfl rfl rfl rfl ?_
          refine pu rfl rfl ?_
          refine SL_pcall rfl rfl cb101 (withinI _ _ _) rfl ?_
          refine psp 34 rfl (fun c34 => ?_) (fun c34 => ?_)
          · skip
            refine pB rfl rfl (SL_nil (nx (SWP_cf rfl (SWP_skip (nx (SWP_seq (SWP_region (pu rfl rfl ?_))))))))
            refine lw (v := .slice _ _ _) B1 3 rfl rfl rfl rfl ?_
            refine SL_pcall rfl rfl cb140 (checkAllI h.1 (by omega) 1 100) rfl ?_
            refine pI rfl rfl (SL_nil (nx (SWP_ret (nr ?_))))
            refine fin [_] ⟨rfl, trivial⟩ ?_
            refine congrArg (Value.int .i64) ?_
            (exfalso; omega)
          refine pB rfl rfl (SL_nil (nx (SWP_ct rfl (SWP_seq (SWP_region (pI rfl rfl (SL_nil (nx (SWP_ret (nr (nr ?_)))))))))))
          refine fin [_] ⟨rfl, trivial⟩ ?_
          refine congrArg (Value.int .i64) ?_
          (exfalso; omega)
        refine SL_nil (nx (SWP_cf rfl (SWP_skip (nx (SWP_seq (SWP_seq (SWP_region (pu rfl rfl ?_))))))))
        refine lw (v := .slice _ _ _) B1 3 rfl rfl rfl rfl ?_
        refine pu rfl rfl ?_
        refine pc rfl rfl (fun c42 => ?_) (fun c42 => ?_)
        · skip
          refine SL_nil (nx (SWP_ct rfl (SWP_seq (SWP_region (pI rfl rfl (SL_nil (nx (SWP_ret (nr ?_)))))))))
          refine fin [_] ⟨rfl, trivial⟩ ?_
          refine congrArg (Value.int .i64) ?_
          (rw [aEs b5 (by omega) (by omega)]; first | rw [if_pos (by omega)] | rw [if_neg (by omega), if_pos (by omega)] | rw [if_neg (by omega), if_neg (by omega), if_pos (by omega)] | rw [if_neg (by omega), if_neg (by omega), if_neg (by omega)])
        refine SL_nil (nx (SWP_cf rfl (SWP_skip (nx (SWP_seq (SWP_seq (SWP_region (pu rfl rfl ?_))))))))
        refine lw (v := .int .i64 _) B1 4 rfl rfl rfl rfl ?_
        refine SL_pcall rfl rfl cb101 (withinI _ _ _) rfl ?_
        refine psp 45 rfl (fun c45 => ?_) (fun c45 => ?_)
        · skip
          refine pB rfl rfl (SL_nil (nx (SWP_cf rfl (SWP_skip (nx (SWP_seq (SWP_seq (SWP_region (pu rfl rfl ?_)))))))))
          refine lw (v := .slice _ _ _) B1 5 rfl rfl rfl rfl ?_
          refine pu rfl rfl (pu rfl rfl ?_)
          refine lw (v := .int .i64 _) B1 4 rfl rfl rfl rfl ?_
          refine pc rfl rfl (fun c52 => ?_) (fun c52 => ?_)
          · skip
            refine SL_nil (nx (SWP_ct rfl (SWP_seq (SWP_region (pI rfl rfl (SL_nil (nx (SWP_ret (nr ?_)))))))))
            refine fin [_] ⟨rfl, trivial⟩ ?_
            refine congrArg (Value.int .i64) ?_
            (rw [aEs b5 (by omega) (by omega)]; first | rw [if_pos (by omega)] | rw [if_neg (by omega), if_pos (by omega)] | rw [if_neg (by omega), if_neg (by omega), if_pos (by omega)] | rw [if_neg (by omega), if_neg (by omega), if_neg (by omega)])
          refine SL_nil (nx (SWP_cf rfl (SWP_skip (nx (SWP_seq (SWP_region (pu rfl rfl ?_)))))))
          refine lw (v := .slice _ _ _) B1 5 rfl rfl rfl rfl ?_
          refine SL_pcall rfl rfl cb140 (checkAllI h.2 (by omega) 0 1000000000) rfl ?_
          refine pI rfl rfl (SL_nil (nx (SWP_ret ?_)))
          refine fin [_] ⟨rfl, trivial⟩ ?_
          refine congrArg (Value.int .i64) ?_
          (rw [aEs b5 (by omega) (by omega)]; first | rw [if_pos (by omega)] | rw [if_neg (by omega), if_pos (by omega)] | rw [if_neg (by omega), if_neg (by omega), if_pos (by omega)] | rw [if_neg (by omega), if_neg (by omega), if_neg (by omega)])
        refine pB rfl rfl (SL_nil (nx (SWP_ct rfl (SWP_seq (SWP_region (pI rfl rfl (SL_nil (nx (SWP_ret (nr ?_))))))))))
        refine fin [_] ⟨rfl, trivial⟩ ?_
        refine congrArg (Value.int .i64) ?_
        (rw [aEs b5 (by omega) (by omega)]; first | rw [if_pos (by omega)] | rw [if_neg (by omega), if_pos (by omega)] | rw [if_neg (by omega), if_neg (by omega), if_pos (by omega)] | rw [if_neg (by omega), if_neg (by omega), if_neg (by omega)])
      refine pB rfl rfl (SL_nil (nx (SWP_ct rfl (SWP_seq (SWP_region (pI rfl rfl (SL_nil (nx (SWP_ret (nr ?_))))))))))
      refine fin [_] ⟨rfl, trivial⟩ ?_
      refine congrArg (Value.int .i64) ?_
      exact aE2 b5 (by omega) (by omega)
    refine pB rfl rfl (SL_no rfl rfl (SL_no rfl rfl (SL_no rfl rfl (pB rfl rfl (SL_nil (nx (SWP_cf rfl (SWP_skip (nx (SWP_seq (SWP_seq ?_)))))))))))
    refine SWP_region (pu rfl rfl ?_)
    refine lw (v := .int .i64 _) B1 2 rfl rfl rfl rfl ?_
    refine SL_pcall rfl rfl cb101 (withinI _ _ _) rfl ?_
    refine psp 17 rfl (fun c17 => ?_) (fun c17 => ?_)
    · skip
      refine pB rfl rfl (SL_nil (nx (SWP_cf rfl (SWP_skip (nx (SWP_seq (SWP_seq (SWP_region (pu rfl rfl ?_)))))))))
      refine lw (v := .int .i64 _) B1 1 rfl rfl rfl rfl ?_
      refine pc rfl rfl (fun c21 => ?_) (fun c21 => ?_)
      · skip
        refine SL_nil (nx (SWP_ct rfl (SWP_seq (SWP_seq (SWP_region (pu rfl rfl ?_))))))
        refine lw (v := .int .i64 _) B1 4 rfl rfl rfl rfl ?_
        refine pc rfl rfl (fun c24 => ?_) (fun c24 => ?_)
        · skip
          refine pB rfl rfl (SL_no rfl rfl (SL_no rfl rfl (SL_no rfl rfl (SL_no rfl rfl (pB rfl rfl (SL_nil (nx (SWP_ct rfl (SWP_seq (SWP_region (pI rfl rfl ?_)))))))))))
          refine SL_nil (nx (SWP_ret (nr (nr ?_))))
          refine fin [_] ⟨rfl, trivial⟩ ?_
          refine congrArg (Value.int .i64) ?_
          (rw [aEf b5 (by omega) (by omega)]; first | rw [if_pos (by omega)] | rw [if_neg (by omega), if_pos (by omega)] | rw [if_neg (by omega), if_neg (by omega)])
        refine pB rfl rfl (SL_yes rfl (pu rfl rfl (SL_yes rfl ?_)))
        refine lw (v := .slice _ _ _) B1 5 rfl rfl rfl rfl ?_
        refine SL_yes rfl (pu rfl rfl (SL_yes rfl ?_))
        refine pc rfl rfl (fun c29 => ?_) (fun c29 => ?_)
        · skip
          refine pB rfl rfl (SL_nil (nx (SWP_ct rfl (SWP_seq (SWP_region (pI rfl rfl (SL_nil (nx (SWP_ret (nr (nr ?_)))))))))))
          refine fin [_] ⟨rfl, trivial⟩ ?_
          refine congrArg (Value.int .i64) ?_
          (rw [aEf b5 (by omega) (by omega)]; first | rw [if_pos (by omega)] | rw [if_neg (by omega), if_pos (by omega)] | rw [if_neg (by omega), if_neg (by omega)])
        refine pB rfl rfl (SL_nil (nx (SWP_cf rfl (SWP_skip (nx (SWP_seq (SWP_seq (SWP_region (pu rfl rfl ?_)))))))))
        refine lw (v := .slice _ _ _) B1 3 rfl rfl rfl rfl ?_
        refine pu rfl rfl ?_
        refine SL_pcall rfl rfl cb101 (withinI _ _ _) rfl ?_
        refine psp 34 rfl (fun c34 => ?_) (fun c34 => ?_)
        · skip
          refine pB rfl rfl (SL_nil (nx (SWP_cf rfl (SWP_skip (nx (SWP_seq (SWP_region (pu rfl rfl ?_))))))))
          refine lw (v := .slice _ _ _) B1 3 rfl rfl rfl rfl ?_
          refine SL_pcall rfl rfl cb140 (checkAllI h.1 (by omega) 1 100) rfl ?_
          refine pI rfl rfl (SL_nil (nx (SWP_ret (nr ?_))))
          refine fin [_] ⟨rfl, trivial⟩ ?_
          refine congrArg (Value.int .i64) ?_
          (rw [aEf b5 (by omega) (by omega)]; first | rw [if_pos (by omega)] | rw [if_neg (by omega), if_pos (by omega)] | rw [if_neg (by omega), if_neg (by omega)])
        refine pB rfl rfl (SL_nil (nx (SWP_ct rfl (SWP_seq (SWP_region (pI rfl rfl (SL_nil (nx (SWP_ret (nr (nr ?_)))))))))))
        refine fin [_] ⟨rfl, trivial⟩ ?_
        refine congrArg (Value.int .i64) ?_
        (rw [aEf b5 (by omega) (by omega)]; first | rw [if_pos (by omega)] | rw [if_neg (by omega), if_pos (by omega)] | rw [if_neg (by omega), if_neg (by omega)])
      refine SL_nil (nx (SWP_cf rfl (SWP_skip (nx (SWP_seq (SWP_seq (SWP_region (pu rfl rfl ?_))))))))
      refine lw (v := .slice _ _ _) B1 3 rfl rfl rfl rfl ?_
      refine pu rfl rfl ?_
      refine pc rfl rfl (fun c42 => ?_) (fun c42 => ?_)
      · skip
        refine SL_nil (nx (SWP_ct rfl (SWP_seq (SWP_region (pI rfl rfl (SL_nil (nx (SWP_ret (nr ?_)))))))))
        refine fin [_] ⟨rfl, trivial⟩ ?_
        refine congrArg (Value.int .i64) ?_
        (exfalso; omega)
      refine SL_nil (nx (SWP_cf rfl (SWP_skip (nx (SWP_seq (SWP_seq (SWP_region (pu rfl rfl ?_))))))))
      refine lw (v := .int .i64 _) B1 4 rfl rfl rfl rfl ?_
      refine SL_pcall rfl rfl cb101 (withinI _ _ _) rfl ?_
      refine psp 45 rfl (fun c45 => ?_) (fun c45 => ?_)
      · skip
        refine pB rfl rfl (SL_nil (nx (SWP_cf rfl (SWP_skip (nx (SWP_seq (SWP_seq (SWP_region (pu rfl rfl ?_)))))))))
        refine lw (v := .slice _ _ _) B1 5 rfl rfl rfl rfl ?_
        refine pu rfl rfl (pu rfl rfl ?_)
        refine lw (v := .int .i64 _) B1 4 rfl rfl rfl rfl ?_
        refine pc rfl rfl (fun c52 => ?_) (fun c52 => ?_)
        · skip
          refine SL_nil (nx (SWP_ct rfl (SWP_seq (SWP_region (pI rfl rfl (SL_nil (nx (SWP_ret (nr ?_)))))))))
          refine fin [_] ⟨rfl, trivial⟩ ?_
          refine congrArg (Value.int .i64) ?_
          (exfalso; omega)
        refine SL_nil (nx (SWP_cf rfl (SWP_skip (nx (SWP_seq (SWP_region (pu rfl rfl ?_)))))))
        refine lw (v := .slice _ _ _) B1 5 rfl rfl rfl rfl ?_
        refine SL_pcall rfl rfl cb140 (checkAllI h.2 (by omega) 0 1000000000) rfl ?_
        refine pI rfl rfl (SL_nil (nx (SWP_ret ?_)))
        refine fin [_] ⟨rfl, trivial⟩ ?_
        refine congrArg (Value.int .i64) ?_
        (exfalso; omega)
      refine pB rfl rfl (SL_nil (nx (SWP_ct rfl (SWP_seq (SWP_region (pI rfl rfl (SL_nil (nx (SWP_ret (nr ?_))))))))))
      refine fin [_] ⟨rfl, trivial⟩ ?_
      refine congrArg (Value.int .i64) ?_
      (exfalso; omega)
    refine pB rfl rfl (SL_nil (nx (SWP_ct rfl (SWP_seq (SWP_region (pI rfl rfl (SL_nil (nx (SWP_ret (nr ?_))))))))))
    refine fin [_] ⟨rfl, trivial⟩ ?_
    refine congrArg (Value.int .i64) ?_
    exact aE2 b5 (by omega) (by omega)
  refine pB rfl rfl (SL_nil (nx (SWP_ct rfl (SWP_seq (SWP_region (pI rfl rfl (SL_nil (nx (SWP_ret (nr ?_))))))))))
  refine fin [_] ⟨rfl, trivial⟩ ?_
  refine congrArg (Value.int .i64) ?_
  exact aE4 b5
theorem checkChooseI {m : Mem} (g : Game) (t : Tier) (hk : g.kind ≠ 2) : PureCall Tryz.prog 141 [g.val, t.val] m (.int .i64 (hitsErr g.kind g.main g.bonus g.extra t)) := by
  refine CallsS.pure ?_
  dsimp only [Game.val, Tier.val]
  refine enter Tryz.func141 Tryz.ntmps141 rfl rfl ?_
  refine SWP_seq (SWP_region ?_)
  refine bx (v := .agg _) rfl rfl (fun B2 => ?_)
  refine bx (v := .agg _) rfl rfl (fun B3 => ?_)
  refine pI rfl rfl (SL_nil (nx (SWP_seq (SWP_seq (SWP_region (pu rfl rfl ?_))))))
  refine lw (v := .int .i64 _) B3 3 rfl rfl rfl rfl ?_
  refine pc rfl rfl (fun c7 => ?_) (fun c7 => ?_)
  · skip
    refine SL_nil (nx (SWP_ct rfl (SWP_seq (SWP_region (pI rfl rfl (SL_nil (nx (SWP_ret (nr ?_)))))))))
    refine fin [_] ⟨rfl, trivial⟩ ?_
    refine congrArg (Value.int .i64) ?_
    unfold hitsErr
    rw [if_neg hk]
    rw [if_pos (by omega)]
  refine SL_nil (nx (SWP_cf rfl (SWP_skip (nx (SWP_seq (SWP_seq (SWP_region (pu rfl rfl ?_))))))))
  refine lw (v := .int .i64 _) B3 0 rfl rfl rfl rfl ?_
  refine pu rfl rfl ?_
  refine lw (v := .int .i64 _) B2 3 rfl rfl rfl rfl ?_
  refine SL_pcall rfl rfl cb101 (withinI _ _ _) rfl ?_
  refine psp 12 rfl (fun c12 => ?_) (fun c12 => ?_)
  · skip
    refine pB rfl rfl (pB rfl rfl (SL_yes rfl (pu rfl rfl (SL_yes rfl ?_))))
    refine lw (v := .int .i64 _) B3 1 rfl rfl rfl rfl ?_
    refine SL_yes rfl (pu rfl rfl (SL_yes rfl ?_))
    refine lw (v := .int .i64 _) B2 5 rfl rfl rfl rfl ?_
    refine SL_yes rfl ?_
    refine SL_pcall rfl rfl cb101 (withinI _ _ _) rfl ?_
    refine psp 19 rfl (fun c19 => ?_) (fun c19 => ?_)
    · skip
      refine SL_yes rfl (pB rfl rfl (pB rfl rfl (pB rfl rfl (SL_yes rfl (pu rfl rfl (SL_yes rfl ?_))))))
      refine lw (v := .int .i64 _) B3 2 rfl rfl rfl rfl ?_
      refine SL_yes rfl (pu rfl rfl (SL_yes rfl ?_))
      refine lw (v := .int .i64 _) B2 7 rfl rfl rfl rfl ?_
      refine SL_yes rfl ?_
      refine SL_pcall rfl rfl cb101 (withinI _ _ _) rfl ?_
      refine psp 27 rfl (fun c27 => ?_) (fun c27 => ?_)
      · skip
        refine SL_yes rfl (pB rfl rfl (pB rfl rfl (SL_nil (nx (SWP_cf rfl (SWP_skip (nx (SWP_seq (SWP_seq (SWP_region (pu rfl rfl ?_)))))))))))
        refine lw (v := .int .i64 _) B3 0 rfl rfl rfl rfl ?_
        refine pc rfl rfl (fun c32 => ?_) (fun c32 => ?_)
        · skip
          refine pB rfl rfl (SL_yes rfl (pu rfl rfl (SL_yes rfl ?_)))
          refine lw (v := .int .i64 _) B3 1 rfl rfl rfl rfl ?_
          refine SL_yes rfl ?_
          refine pc rfl rfl (fun c36 => ?_) (fun c36 => ?_)
          · skip
            refine pB rfl rfl (pB rfl rfl (SL_yes rfl (pu rfl rfl (SL_yes rfl ?_))))
            refine lw (v := .int .i64 _) B3 2 rfl rfl rfl rfl ?_
            refine SL_yes rfl ?_
            refine pc rfl rfl (fun c41 => ?_) (fun c41 => ?_)
            · skip
              refine pB rfl rfl (SL_nil (nx (SWP_ct rfl (SWP_seq (SWP_region (pI rfl rfl (SL_nil (nx (SWP_ret (nr ?_))))))))))
              refine fin [_] ⟨rfl, trivial⟩ ?_
              refine congrArg (Value.int .i64) ?_
              unfold hitsErr
              rw [if_neg hk]
              rw [if_neg (by omega), if_pos (by omega)]
            refine pB rfl rfl (SL_nil (nx (SWP_cf rfl (SWP_skip (nx (SWP_seq (SWP_region (pI rfl rfl (SL_nil (nx (SWP_ret ?_)))))))))))
            refine fin [_] ⟨rfl, trivial⟩ ?_
            refine congrArg (Value.int .i64) ?_
            unfold hitsErr
            rw [if_neg hk]
            rw [if_neg (by omega), if_neg (by omega)]
          refine pB rfl rfl (pB rfl rfl (SL_no rfl rfl (SL_no rfl rfl (SL_no rfl rfl (pB rfl rfl (SL_nil (nx (SWP_cf rfl (SWP_skip (nx (SWP_seq ?_)))))))))))
          refine SWP_region (pI rfl rfl (SL_nil (nx (SWP_ret ?_))))
          refine fin [_] ⟨rfl, trivial⟩ ?_
          refine congrArg (Value.int .i64) ?_
          unfold hitsErr
          rw [if_neg hk]
          rw [if_neg (by omega), if_neg (by omega)]
        refine pB rfl rfl (SL_no rfl rfl (SL_no rfl rfl (SL_no rfl rfl (pB rfl rfl (pB rfl rfl (SL_no rfl rfl (SL_no rfl rfl (SL_no rfl rfl (pB rfl rfl (SL_nil (nx ?_)))))))))))
        refine SWP_cf rfl (SWP_skip (nx (SWP_seq (SWP_region (pI rfl rfl (SL_nil (nx (SWP_ret ?_))))))))
        refine fin [_] ⟨rfl, trivial⟩ ?_
        refine congrArg (Value.int .i64) ?_
        unfold hitsErr
        rw [if_neg hk]
        rw [if_neg (by omega), if_neg (by omega)]
      refine SL_yes rfl (pB rfl rfl (pB rfl rfl (SL_nil (nx (SWP_ct rfl (SWP_seq (SWP_region (pI rfl rfl (SL_nil (nx (SWP_ret ?_)))))))))))
      refine nr ?_
      refine fin [_] ⟨rfl, trivial⟩ ?_
      refine congrArg (Value.int .i64) ?_
      unfold hitsErr
      rw [if_neg hk]
      rw [if_neg (by omega), if_pos (by omega)]
    refine SL_yes rfl (pB rfl rfl (pB rfl rfl (pB rfl rfl (SL_no rfl rfl (SL_no rfl rfl (SL_no rfl rfl (SL_no rfl rfl (SL_no rfl rfl (SL_no rfl rfl (pB rfl rfl (SL_nil ?_)))))))))))
    refine nx (SWP_ct rfl (SWP_seq (SWP_region (pI rfl rfl (SL_nil (nx (SWP_ret (nr ?_))))))))
    refine fin [_] ⟨rfl, trivial⟩ ?_
    refine congrArg (Value.int .i64) ?_
    unfold hitsErr
    rw [if_neg hk]
    rw [if_neg (by omega), if_pos (by omega)]
  refine pB rfl rfl (pB rfl rfl (SL_no rfl rfl (SL_no rfl rfl (SL_no rfl rfl (SL_no rfl rfl (SL_no rfl rfl (SL_no rfl rfl (pB rfl rfl (pB rfl rfl (SL_no rfl rfl (SL_no rfl rfl ?_)))))))))))
  refine SL_no rfl rfl (SL_no rfl rfl (SL_no rfl rfl (SL_no rfl rfl (pB rfl rfl (SL_nil (nx (SWP_ct rfl (SWP_seq (SWP_region (pI rfl rfl (SL_nil ?_)))))))))))
  refine nx (SWP_ret (nr ?_))
  refine fin [_] ⟨rfl, trivial⟩ ?_
  refine congrArg (Value.int .i64) ?_
  unfold hitsErr
  rw [if_neg hk]
  rw [if_neg (by omega), if_pos (by omega)]
theorem checkDigitsI {m : Mem} (g : Game) (t : Tier) (hk : g.kind = 2) : PureCall Tryz.prog 142 [g.val, t.val] m (.int .i64 (hitsErr g.kind g.main g.bonus g.extra t)) := by
  refine CallsS.pure ?_
  dsimp only [Game.val, Tier.val]
  refine enter Tryz.func142 Tryz.ntmps142 rfl rfl ?_
  refine SWP_seq (SWP_region ?_)
  refine bx (v := .agg _) rfl rfl (fun B2 => ?_)
  refine bx (v := .agg _) rfl rfl (fun B3 => ?_)
  refine pI rfl rfl (SL_nil (nx (SWP_seq (SWP_region (pI rfl rfl (pI rfl rfl (SL_nil (nx (SWP_seq (SWP_seq (SWP_region ?_)))))))))))
  refine pu rfl rfl ?_
  refine lw (v := .int .i64 _) B3 3 rfl rfl rfl rfl ?_
  refine SL_nil (nx (SWP_block (SWP_seq (SWP_seq (SWP_region ?_)))))
  refine pc rfl rfl (fun c10 => ?_) (fun c10 => ?_)
  · skip
    refine pB rfl rfl (SL_nil (nx (SWP_ct rfl (SWP_skip (nx (SWP_ct rfl (SWP_skip (nb (nx (SWP_seq (SWP_seq ?_)))))))))))
    refine SWP_region (pu rfl rfl ?_)
    refine lw (v := .int .i64 _) B3 1 rfl rfl rfl rfl ?_
    refine pc rfl rfl (fun c19 => ?_) (fun c19 => ?_)
    · skip
      refine pB rfl rfl (SL_no rfl rfl (SL_no rfl rfl (SL_no rfl rfl (pB rfl rfl (pB rfl rfl (SL_no rfl rfl (SL_no rfl rfl (SL_no rfl rfl (SL_no rfl rfl (SL_no rfl rfl (SL_no rfl rfl ?_)))))))))))
      refine pB rfl rfl (SL_nil (nx (SWP_ct rfl (SWP_seq (SWP_region (pI rfl rfl (SL_nil (nx (SWP_ret (nr ?_))))))))))
      refine fin [_] ⟨rfl, trivial⟩ ?_
      refine congrArg (Value.int .i64) ?_
      unfold hitsErr
      rw [if_pos hk]
      rw [if_neg (by omega), if_pos (by omega)]
    refine pB rfl rfl (SL_yes rfl (pu rfl rfl (SL_yes rfl ?_)))
    refine lw (v := .int .i64 _) B3 2 rfl rfl rfl rfl ?_
    refine SL_yes rfl ?_
    refine pc rfl rfl (fun c23 => ?_) (fun c23 => ?_)
    · skip
      refine pB rfl rfl (pB rfl rfl (SL_no rfl rfl (SL_no rfl rfl (SL_no rfl rfl (SL_no rfl rfl (SL_no rfl rfl (SL_no rfl rfl (pB rfl rfl (SL_nil (nx (SWP_ct rfl ?_)))))))))))
      refine SWP_seq (SWP_region (pI rfl rfl (SL_nil (nx (SWP_ret (nr ?_))))))
      refine fin [_] ⟨rfl, trivial⟩ ?_
      refine congrArg (Value.int .i64) ?_
      unfold hitsErr
      rw [if_pos hk]
      rw [if_neg (by omega), if_pos (by omega)]
    refine pB rfl rfl (pB rfl rfl (SL_yes rfl (pu rfl rfl (SL_yes rfl ?_))))
    refine lw (v := .int .i64 _) B3 0 rfl rfl rfl rfl ?_
    refine SL_yes rfl (pI rfl rfl (SL_yes rfl (pI rfl rfl (SL_yes rfl ?_))))
    refine SL_pcall rfl rfl cb101 (withinI _ _ _) rfl ?_
    refine psp 30 rfl (fun c30 => ?_) (fun c30 => ?_)
    · skip
      refine SL_yes rfl (pB rfl rfl (pB rfl rfl (SL_nil (nx (SWP_cf rfl (SWP_skip (nx (SWP_seq (SWP_region (pI rfl rfl (SL_nil ?_)))))))))))
      refine nx (SWP_ret ?_)
      refine fin [_] ⟨rfl, trivial⟩ ?_
      refine congrArg (Value.int .i64) ?_
      unfold hitsErr
      rw [if_pos hk]
      rw [if_neg (by omega), if_neg (by omega)]
    refine SL_yes rfl (pB rfl rfl (pB rfl rfl (SL_nil (nx (SWP_ct rfl (SWP_seq (SWP_region (pI rfl rfl (SL_nil (nx (SWP_ret ?_)))))))))))
    refine nr ?_
    refine fin [_] ⟨rfl, trivial⟩ ?_
    refine congrArg (Value.int .i64) ?_
    unfold hitsErr
    rw [if_pos hk]
    rw [if_neg (by omega), if_pos (by omega)]
  refine pB rfl rfl (SL_nil (nx (SWP_cf rfl (SWP_region ?_))))
  refine pc rfl rfl (fun c11 => ?_) (fun c11 => ?_)
  · skip
    refine pB rfl rfl (SL_nil (nx (SWP_ct rfl (SWP_skip (nb (nx (SWP_seq (SWP_seq (SWP_region (pu rfl rfl ?_))))))))))
    refine lw (v := .int .i64 _) B3 1 rfl rfl rfl rfl ?_
    refine pc rfl rfl (fun c19 => ?_) (fun c19 => ?_)
    · skip
      refine pB rfl rfl (SL_no rfl rfl (SL_no rfl rfl (SL_no rfl rfl (pB rfl rfl (pB rfl rfl (SL_no rfl rfl (SL_no rfl rfl (SL_no rfl rfl (SL_no rfl rfl (SL_no rfl rfl (SL_no rfl rfl ?_)))))))))))
      refine pB rfl rfl (SL_nil (nx (SWP_ct rfl (SWP_seq (SWP_region (pI rfl rfl (SL_nil (nx (SWP_ret (nr ?_))))))))))
      refine fin [_] ⟨rfl, trivial⟩ ?_
      refine congrArg (Value.int .i64) ?_
      unfold hitsErr
      rw [if_pos hk]
      rw [if_neg (by omega), if_pos (by omega)]
    refine pB rfl rfl (SL_yes rfl (pu rfl rfl (SL_yes rfl ?_)))
    refine lw (v := .int .i64 _) B3 2 rfl rfl rfl rfl ?_
    refine SL_yes rfl ?_
    refine pc rfl rfl (fun c23 => ?_) (fun c23 => ?_)
    · skip
      refine pB rfl rfl (pB rfl rfl (SL_no rfl rfl (SL_no rfl rfl (SL_no rfl rfl (SL_no rfl rfl (SL_no rfl rfl (SL_no rfl rfl (pB rfl rfl (SL_nil (nx (SWP_ct rfl ?_)))))))))))
      refine SWP_seq (SWP_region (pI rfl rfl (SL_nil (nx (SWP_ret (nr ?_))))))
      refine fin [_] ⟨rfl, trivial⟩ ?_
      refine congrArg (Value.int .i64) ?_
      unfold hitsErr
      rw [if_pos hk]
      rw [if_neg (by omega), if_pos (by omega)]
    refine pB rfl rfl (pB rfl rfl (SL_yes rfl (pu rfl rfl (SL_yes rfl ?_))))
    refine lw (v := .int .i64 _) B3 0 rfl rfl rfl rfl ?_
    refine SL_yes rfl (pI rfl rfl (SL_yes rfl (pI rfl rfl (SL_yes rfl ?_))))
    refine SL_pcall rfl rfl cb101 (withinI _ _ _) rfl ?_
    refine psp 30 rfl (fun c30 => ?_) (fun c30 => ?_)
    · skip
      refine SL_yes rfl (pB rfl rfl (pB rfl rfl (SL_nil (nx (SWP_cf rfl (SWP_skip (nx (SWP_seq (SWP_region (pI rfl rfl (SL_nil ?_)))))))))))
      refine nx (SWP_ret ?_)
      refine fin [_] ⟨rfl, trivial⟩ ?_
      refine congrArg (Value.int .i64) ?_
      unfold hitsErr
      rw [if_pos hk]
      rw [if_neg (by omega), if_neg (by omega)]
    refine SL_yes rfl (pB rfl rfl (pB rfl rfl (SL_nil (nx (SWP_ct rfl (SWP_seq (SWP_region (pI rfl rfl (SL_nil (nx (SWP_ret ?_)))))))))))
    refine nr ?_
    refine fin [_] ⟨rfl, trivial⟩ ?_
    refine congrArg (Value.int .i64) ?_
    unfold hitsErr
    rw [if_pos hk]
    rw [if_neg (by omega), if_pos (by omega)]
  refine pB rfl rfl (SL_nil (nx (SWP_cf rfl (SWP_seq (SWP_seq (SWP_region ?_))))))
  refine pc rfl rfl (fun c13 => ?_) (fun c13 => ?_)
  · skip
    refine pB rfl rfl (SL_nil (nx (SWP_ct rfl (SWP_skip (nx (SWP_ct rfl ?_))))))
    refine SWP_draws (by kernel_rfl) (by kernel_rfl) ?_
    refine pu rfl rfl ?_
    refine lw (v := .int .i64 _) B2 3 rfl rfl rfl rfl ?_
    refine pI rfl rfl (pI rfl rfl (SL_nil (nb (nx (SWP_seq (SWP_seq (SWP_region (pu rfl rfl ?_))))))))
    refine lw (v := .int .i64 _) B3 1 rfl rfl rfl rfl ?_
    refine pc rfl rfl (fun c19 => ?_) (fun c19 => ?_)
    · skip
      refine pB rfl rfl (SL_no rfl rfl (SL_no rfl rfl (SL_no rfl rfl (pB rfl rfl (pB rfl rfl (SL_no rfl rfl (SL_no rfl rfl (SL_no rfl rfl (SL_no rfl rfl (SL_no rfl rfl (SL_no rfl rfl ?_)))))))))))
      refine pB rfl rfl (SL_nil (nx (SWP_ct rfl (SWP_seq (SWP_region (pI rfl rfl (SL_nil (nx (SWP_ret (nr ?_))))))))))
      refine fin [_] ⟨rfl, trivial⟩ ?_
      refine congrArg (Value.int .i64) ?_
      unfold hitsErr
      rw [if_pos hk]
      rw [if_neg (by omega), if_pos (by omega)]
    refine pB rfl rfl (SL_yes rfl (pu rfl rfl (SL_yes rfl ?_)))
    refine lw (v := .int .i64 _) B3 2 rfl rfl rfl rfl ?_
    refine SL_yes rfl ?_
    refine pc rfl rfl (fun c23 => ?_) (fun c23 => ?_)
    · skip
      refine pB rfl rfl (pB rfl rfl (SL_no rfl rfl (SL_no rfl rfl (SL_no rfl rfl (SL_no rfl rfl (SL_no rfl rfl (SL_no rfl rfl (pB rfl rfl (SL_nil (nx (SWP_ct rfl ?_)))))))))))
      refine SWP_seq (SWP_region (pI rfl rfl (SL_nil (nx (SWP_ret (nr ?_))))))
      refine fin [_] ⟨rfl, trivial⟩ ?_
      refine congrArg (Value.int .i64) ?_
      unfold hitsErr
      rw [if_pos hk]
      rw [if_neg (by omega), if_pos (by omega)]
    refine pB rfl rfl (pB rfl rfl (SL_yes rfl (pu rfl rfl (SL_yes rfl ?_))))
    refine lw (v := .int .i64 _) B3 0 rfl rfl rfl rfl ?_
    refine SL_yes rfl (pI rfl rfl (SL_yes rfl (pI rfl rfl (SL_yes rfl ?_))))
    refine SL_pcall rfl rfl cb101 (withinI _ _ _) rfl ?_
    refine psp 30 rfl (fun c30 => ?_) (fun c30 => ?_)
    · skip
      refine SL_yes rfl (pB rfl rfl (pB rfl rfl (SL_nil (nx (SWP_cf rfl (SWP_skip (nx (SWP_seq (SWP_region (pI rfl rfl (SL_nil ?_)))))))))))
      refine nx (SWP_ret ?_)
      refine fin [_] ⟨rfl, trivial⟩ ?_
      refine congrArg (Value.int .i64) ?_
      unfold hitsErr
      rw [if_pos hk]
      rw [if_neg (by omega), if_neg (by omega)]
    refine SL_yes rfl (pB rfl rfl (pB rfl rfl (SL_nil (nx (SWP_ct rfl (SWP_seq (SWP_region (pI rfl rfl (SL_nil (nx (SWP_ret ?_)))))))))))
    refine nr ?_
    refine fin [_] ⟨rfl, trivial⟩ ?_
    refine congrArg (Value.int .i64) ?_
    unfold hitsErr
    rw [if_pos hk]
    rw [if_neg (by omega), if_pos (by omega)]
  refine pB rfl rfl (SL_nil (nx (SWP_cf rfl (SWP_region ?_))))
  refine pc rfl rfl (fun c14 => ?_) (fun c14 => ?_)
  · skip
    refine pB rfl rfl (SL_nil (nx (SWP_ct rfl ?_)))
    refine SWP_draws (by kernel_rfl) (by kernel_rfl) ?_
    refine pu rfl rfl ?_
    refine lw (v := .int .i64 _) B2 3 rfl rfl rfl rfl ?_
    refine pI rfl rfl (pI rfl rfl (SL_nil (nb (nx (SWP_seq (SWP_seq (SWP_region (pu rfl rfl ?_))))))))
    refine lw (v := .int .i64 _) B3 1 rfl rfl rfl rfl ?_
    refine pc rfl rfl (fun c19 => ?_) (fun c19 => ?_)
    · skip
      refine pB rfl rfl (SL_no rfl rfl (SL_no rfl rfl (SL_no rfl rfl (pB rfl rfl (pB rfl rfl (SL_no rfl rfl (SL_no rfl rfl (SL_no rfl rfl (SL_no rfl rfl (SL_no rfl rfl (SL_no rfl rfl ?_)))))))))))
      refine pB rfl rfl (SL_nil (nx (SWP_ct rfl (SWP_seq (SWP_region (pI rfl rfl (SL_nil (nx (SWP_ret (nr ?_))))))))))
      refine fin [_] ⟨rfl, trivial⟩ ?_
      refine congrArg (Value.int .i64) ?_
      unfold hitsErr
      rw [if_pos hk]
      rw [if_neg (by omega), if_pos (by omega)]
    refine pB rfl rfl (SL_yes rfl (pu rfl rfl (SL_yes rfl ?_)))
    refine lw (v := .int .i64 _) B3 2 rfl rfl rfl rfl ?_
    refine SL_yes rfl ?_
    refine pc rfl rfl (fun c23 => ?_) (fun c23 => ?_)
    · skip
      refine pB rfl rfl (pB rfl rfl (SL_no rfl rfl (SL_no rfl rfl (SL_no rfl rfl (SL_no rfl rfl (SL_no rfl rfl (SL_no rfl rfl (pB rfl rfl (SL_nil (nx (SWP_ct rfl ?_)))))))))))
      refine SWP_seq (SWP_region (pI rfl rfl (SL_nil (nx (SWP_ret (nr ?_))))))
      refine fin [_] ⟨rfl, trivial⟩ ?_
      refine congrArg (Value.int .i64) ?_
      unfold hitsErr
      rw [if_pos hk]
      rw [if_neg (by omega), if_pos (by omega)]
    refine pB rfl rfl (pB rfl rfl (SL_yes rfl (pu rfl rfl (SL_yes rfl ?_))))
    refine lw (v := .int .i64 _) B3 0 rfl rfl rfl rfl ?_
    refine SL_yes rfl (pI rfl rfl (SL_yes rfl (pI rfl rfl (SL_yes rfl ?_))))
    refine SL_pcall rfl rfl cb101 (withinI _ _ _) rfl ?_
    refine psp 30 rfl (fun c30 => ?_) (fun c30 => ?_)
    · skip
      refine SL_yes rfl (pB rfl rfl (pB rfl rfl (SL_nil (nx (SWP_cf rfl (SWP_skip (nx (SWP_seq (SWP_region (pI rfl rfl (SL_nil ?_)))))))))))
      refine nx (SWP_ret ?_)
      refine fin [_] ⟨rfl, trivial⟩ ?_
      refine congrArg (Value.int .i64) ?_
      unfold hitsErr
      rw [if_pos hk]
      rw [if_neg (by omega), if_neg (by omega)]
    refine SL_yes rfl (pB rfl rfl (pB rfl rfl (SL_nil (nx (SWP_ct rfl (SWP_seq (SWP_region (pI rfl rfl (SL_nil (nx (SWP_ret ?_)))))))))))
    refine nr ?_
    refine fin [_] ⟨rfl, trivial⟩ ?_
    refine congrArg (Value.int .i64) ?_
    unfold hitsErr
    rw [if_pos hk]
    rw [if_neg (by omega), if_pos (by omega)]
  refine pB rfl rfl (SL_nil (nx (SWP_cf rfl (SWP_seq (SWP_region (pI rfl rfl (SL_nil (nx (SWP_ret (br (nr ?_)))))))))))
  refine fin [_] ⟨rfl, trivial⟩ ?_
  refine congrArg (Value.int .i64) ?_
  unfold hitsErr
  rw [if_pos hk]
  rw [if_pos (by omega)]
theorem checkTierI {m : Mem} (g : Game) (t : Tier) : PureCall Tryz.prog 103 [g.val, t.val] m (.int .i64 (tierErr g t)) := by
  refine CallsS.pure ?_
  dsimp only [Game.val, Tier.val]
  refine enter Tryz.func103 Tryz.ntmps103 rfl rfl ?_
  refine SWP_seq (SWP_region ?_)
  refine bx (v := .agg _) rfl rfl (fun B2 => ?_)
  refine bx (v := .agg _) rfl rfl (fun B3 => ?_)
  refine pI rfl rfl (SL_nil (nx (SWP_seq (SWP_region (pu rfl rfl (SL_nil (nx (SWP_seq (SWP_seq (SWP_region (pu rfl rfl ?_)))))))))))
  refine lw (v := .int .i64 _) B2 1 rfl rfl rfl rfl ?_
  refine pc rfl rfl (fun c9 => ?_) (fun c9 => ?_)
  · skip
    refine SL_nil (nx (SWP_ct rfl (SWP_region (pu rfl rfl (SL_nil (nx (SWP_seq (SWP_seq (SWP_region (pu rfl rfl ?_))))))))))
    refine lw (v := .agg _) B2 0 rfl rfl rfl rfl ?_
    refine lw (v := .agg _) B3 0 rfl rfl rfl rfl ?_
    refine SL_pcall rfl rfl cb142 (checkDigitsI g t (by omega)) rfl ?_
    refine pI rfl rfl (SL_nil (nx (SWP_seq (SWP_region (pI rfl rfl ?_)))))
    refine pc rfl rfl (fun c15 => ?_) (fun c15 => ?_)
    · skip
      refine SL_nil (nx (SWP_ct rfl (SWP_seq (SWP_region (pI rfl rfl (pI rfl rfl (SL_nil (nx (SWP_ret (nr ?_))))))))))
      refine fin [_] ⟨rfl, trivial⟩ ?_
      refine congrArg (Value.int .i64) ?_
      unfold tierErr
      rw [if_pos (by omega)]
    refine SL_nil (nx (SWP_cf rfl (SWP_skip (nx (SWP_seq (SWP_seq (SWP_region (pu rfl rfl ?_))))))))
    refine lw (v := .int .i64 _) B3 4 rfl rfl rfl rfl ?_
    refine pc rfl rfl (fun c19 => ?_) (fun c19 => ?_)
    · skip
      refine pB rfl rfl (SL_yes rfl (pu rfl rfl (SL_yes rfl ?_)))
      refine lw (v := .int .i64 _) B3 4 rfl rfl rfl rfl ?_
      refine SL_yes rfl ?_
      refine pc rfl rfl (fun c23 => ?_) (fun c23 => ?_)
      · skip
        refine pB rfl rfl (pB rfl rfl (SL_yes rfl (pu rfl rfl (SL_yes rfl ?_))))
        refine lw (v := .int .i64 _) B3 4 rfl rfl rfl rfl ?_
        refine SL_yes rfl ?_
        refine pc rfl rfl (fun c28 => ?_) (fun c28 => ?_)
        · skip
          refine pB rfl rfl (SL_nil (nx (SWP_ct rfl (SWP_seq (SWP_region (pI rfl rfl (SL_nil (nx (SWP_ret (nr ?_))))))))))
          refine fin [_] ⟨rfl, trivial⟩ ?_
          refine congrArg (Value.int .i64) ?_
          unfold tierErr
          rw [if_neg (by omega), if_pos (by omega)]
        refine pB rfl rfl (SL_nil (nx (SWP_cf rfl (SWP_skip (nx (SWP_seq (SWP_seq (SWP_region (pu rfl rfl ?_)))))))))
        refine lw (v := .int .i64 _) B3 5 rfl rfl rfl rfl ?_
        refine SL_pcall rfl rfl cb101 (withinI _ _ _) rfl ?_
        refine psp 32 rfl (fun c32 => ?_) (fun c32 => ?_)
        · skip
          refine pB rfl rfl (SL_nil (nx (SWP_cf rfl (SWP_skip (nx (SWP_seq (SWP_region (pI rfl rfl (SL_nil (nx (SWP_ret ?_)))))))))))
          refine fin [_] ⟨rfl, trivial⟩ ?_
          refine congrArg (Value.int .i64) ?_
          unfold tierErr
          rw [if_neg (by omega), if_neg (by omega), if_neg (by omega)]
        refine pB rfl rfl (SL_nil (nx (SWP_ct rfl (SWP_seq (SWP_region (pI rfl rfl (SL_nil (nx (SWP_ret (nr ?_))))))))))
        refine fin [_] ⟨rfl, trivial⟩ ?_
        refine congrArg (Value.int .i64) ?_
        unfold tierErr
        rw [if_neg (by omega), if_neg (by omega), if_pos (by omega)]
      refine pB rfl rfl (pB rfl rfl (SL_no rfl rfl (SL_no rfl rfl (SL_no rfl rfl (pB rfl rfl (SL_nil (nx (SWP_cf rfl (SWP_skip (nx (SWP_seq ?_)))))))))))
      refine SWP_seq (SWP_region (pu rfl rfl ?_))
      refine lw (v := .int .i64 _) B3 5 rfl rfl rfl rfl ?_
      refine SL_pcall rfl rfl cb101 (withinI _ _ _) rfl ?_
      refine psp 32 rfl (fun c32 => ?_) (fun c32 => ?_)
      · skip
        refine pB rfl rfl (SL_nil (nx (SWP_cf rfl (SWP_skip (nx (SWP_seq (SWP_region (pI rfl rfl (SL_nil (nx (SWP_ret ?_)))))))))))
        refine fin [_] ⟨rfl, trivial⟩ ?_
        refine congrArg (Value.int .i64) ?_
        unfold tierErr
        rw [if_neg (by omega), if_neg (by omega), if_neg (by omega)]
      refine pB rfl rfl (SL_nil (nx (SWP_ct rfl (SWP_seq (SWP_region (pI rfl rfl (SL_nil (nx (SWP_ret (nr ?_))))))))))
      refine fin [_] ⟨rfl, trivial⟩ ?_
      refine congrArg (Value.int .i64) ?_
      unfold tierErr
      rw [if_neg (by omega), if_neg (by omega), if_pos (by omega)]
    refine pB rfl rfl (SL_no rfl rfl (SL_no rfl rfl (SL_no rfl rfl (pB rfl rfl (pB rfl rfl (SL_no rfl rfl (SL_no rfl rfl (SL_no rfl rfl (pB rfl rfl (SL_nil (nx ?_)))))))))))
    refine SWP_cf rfl (SWP_skip (nx (SWP_seq (SWP_seq (SWP_region (pu rfl rfl ?_))))))
    refine lw (v := .int .i64 _) B3 5 rfl rfl rfl rfl ?_
    refine SL_pcall rfl rfl cb101 (withinI _ _ _) rfl ?_
    refine psp 32 rfl (fun c32 => ?_) (fun c32 => ?_)
    · skip
      refine pB rfl rfl (SL_nil (nx (SWP_cf rfl (SWP_skip (nx (SWP_seq (SWP_region (pI rfl rfl (SL_nil (nx (SWP_ret ?_)))))))))))
      refine fin [_] ⟨rfl, trivial⟩ ?_
      refine congrArg (Value.int .i64) ?_
      unfold tierErr
      rw [if_neg (by omega), if_neg (by omega), if_neg (by omega)]
    refine pB rfl rfl (SL_nil (nx (SWP_ct rfl (SWP_seq (SWP_region (pI rfl rfl (SL_nil (nx (SWP_ret (nr ?_))))))))))
    refine fin [_] ⟨rfl, trivial⟩ ?_
    refine congrArg (Value.int .i64) ?_
    unfold tierErr
    rw [if_neg (by omega), if_neg (by omega), if_pos (by omega)]
  refine SL_nil (nx (SWP_cf rfl (SWP_skip (nx (SWP_seq (SWP_seq (SWP_region (pu rfl rfl ?_))))))))
  refine lw (v := .agg _) B2 0 rfl rfl rfl rfl ?_
  refine lw (v := .agg _) B3 0 rfl rfl rfl rfl ?_
  refine SL_pcall rfl rfl cb141 (checkChooseI g t (by omega)) rfl ?_
  refine pI rfl rfl (SL_nil (nx (SWP_seq (SWP_region (pI rfl rfl ?_)))))
  refine pc rfl rfl (fun c15 => ?_) (fun c15 => ?_)
  · skip
    refine SL_nil (nx (SWP_ct rfl (SWP_seq (SWP_region (pI rfl rfl (pI rfl rfl (SL_nil (nx (SWP_ret (nr ?_))))))))))
    refine fin [_] ⟨rfl, trivial⟩ ?_
    refine congrArg (Value.int .i64) ?_
    unfold tierErr
    rw [if_pos (by omega)]
  refine SL_nil (nx (SWP_cf rfl (SWP_skip (nx (SWP_seq (SWP_seq (SWP_region (pu rfl rfl ?_))))))))
  refine lw (v := .int .i64 _) B3 4 rfl rfl rfl rfl ?_
  refine pc rfl rfl (fun c19 => ?_) (fun c19 => ?_)
  · skip
    refine pB rfl rfl (SL_yes rfl (pu rfl rfl (SL_yes rfl ?_)))
    refine lw (v := .int .i64 _) B3 4 rfl rfl rfl rfl ?_
    refine SL_yes rfl ?_
    refine pc rfl rfl (fun c23 => ?_) (fun c23 => ?_)
    · skip
      refine pB rfl rfl (pB rfl rfl (SL_yes rfl (pu rfl rfl (SL_yes rfl ?_))))
      refine lw (v := .int .i64 _) B3 4 rfl rfl rfl rfl ?_
      refine SL_yes rfl ?_
      refine pc rfl rfl (fun c28 => ?_) (fun c28 => ?_)
      · skip
        refine pB rfl rfl (SL_nil (nx (SWP_ct rfl (SWP_seq (SWP_region (pI rfl rfl (SL_nil (nx (SWP_ret (nr ?_))))))))))
        refine fin [_] ⟨rfl, trivial⟩ ?_
        refine congrArg (Value.int .i64) ?_
        unfold tierErr
        rw [if_neg (by omega), if_pos (by omega)]
      refine pB rfl rfl (SL_nil (nx (SWP_cf rfl (SWP_skip (nx (SWP_seq (SWP_seq (SWP_region (pu rfl rfl ?_)))))))))
      refine lw (v := .int .i64 _) B3 5 rfl rfl rfl rfl ?_
      refine SL_pcall rfl rfl cb101 (withinI _ _ _) rfl ?_
      refine psp 32 rfl (fun c32 => ?_) (fun c32 => ?_)
      · skip
        refine pB rfl rfl (SL_nil (nx (SWP_cf rfl (SWP_skip (nx (SWP_seq (SWP_region (pI rfl rfl (SL_nil (nx (SWP_ret ?_)))))))))))
        refine fin [_] ⟨rfl, trivial⟩ ?_
        refine congrArg (Value.int .i64) ?_
        unfold tierErr
        rw [if_neg (by omega), if_neg (by omega), if_neg (by omega)]
      refine pB rfl rfl (SL_nil (nx (SWP_ct rfl (SWP_seq (SWP_region (pI rfl rfl (SL_nil (nx (SWP_ret (nr ?_))))))))))
      refine fin [_] ⟨rfl, trivial⟩ ?_
      refine congrArg (Value.int .i64) ?_
      unfold tierErr
      rw [if_neg (by omega), if_neg (by omega), if_pos (by omega)]
    refine pB rfl rfl (pB rfl rfl (SL_no rfl rfl (SL_no rfl rfl (SL_no rfl rfl (pB rfl rfl (SL_nil (nx (SWP_cf rfl (SWP_skip (nx (SWP_seq ?_)))))))))))
    refine SWP_seq (SWP_region (pu rfl rfl ?_))
    refine lw (v := .int .i64 _) B3 5 rfl rfl rfl rfl ?_
    refine SL_pcall rfl rfl cb101 (withinI _ _ _) rfl ?_
    refine psp 32 rfl (fun c32 => ?_) (fun c32 => ?_)
    · skip
      refine pB rfl rfl (SL_nil (nx (SWP_cf rfl (SWP_skip (nx (SWP_seq (SWP_region (pI rfl rfl (SL_nil (nx (SWP_ret ?_)))))))))))
      refine fin [_] ⟨rfl, trivial⟩ ?_
      refine congrArg (Value.int .i64) ?_
      unfold tierErr
      rw [if_neg (by omega), if_neg (by omega), if_neg (by omega)]
    refine pB rfl rfl (SL_nil (nx (SWP_ct rfl (SWP_seq (SWP_region (pI rfl rfl (SL_nil (nx (SWP_ret (nr ?_))))))))))
    refine fin [_] ⟨rfl, trivial⟩ ?_
    refine congrArg (Value.int .i64) ?_
    unfold tierErr
    rw [if_neg (by omega), if_neg (by omega), if_pos (by omega)]
  refine pB rfl rfl (SL_no rfl rfl (SL_no rfl rfl (SL_no rfl rfl (pB rfl rfl (pB rfl rfl (SL_no rfl rfl (SL_no rfl rfl (SL_no rfl rfl (pB rfl rfl (SL_nil (nx ?_)))))))))))
  refine SWP_cf rfl (SWP_skip (nx (SWP_seq (SWP_seq (SWP_region (pu rfl rfl ?_))))))
  refine lw (v := .int .i64 _) B3 5 rfl rfl rfl rfl ?_
  refine SL_pcall rfl rfl cb101 (withinI _ _ _) rfl ?_
  refine psp 32 rfl (fun c32 => ?_) (fun c32 => ?_)
  · skip
    refine pB rfl rfl (SL_nil (nx (SWP_cf rfl (SWP_skip (nx (SWP_seq (SWP_region (pI rfl rfl (SL_nil (nx (SWP_ret ?_)))))))))))
    refine fin [_] ⟨rfl, trivial⟩ ?_
    refine congrArg (Value.int .i64) ?_
    unfold tierErr
    rw [if_neg (by omega), if_neg (by omega), if_neg (by omega)]
  refine pB rfl rfl (SL_nil (nx (SWP_ct rfl (SWP_seq (SWP_region (pI rfl rfl (SL_nil (nx (SWP_ret (nr ?_))))))))))
  refine fin [_] ⟨rfl, trivial⟩ ?_
  refine congrArg (Value.int .i64) ?_
  unfold tierErr
  rw [if_neg (by omega), if_neg (by omega), if_pos (by omega)]
theorem effModeI {m : Mem} (g : Game) (t : Tier) : PureCall Tryz.prog 143 [g.val, t.val] m (.int .i64 (effM g t)) := by
  refine CallsS.pure ?_
  dsimp only [Game.val, Tier.val]
  refine enter Tryz.func143 Tryz.ntmps143 rfl rfl ?_
  refine SWP_seq (SWP_region ?_)
  refine bx (v := .agg _) rfl rfl (fun B2 => ?_)
  refine bx (v := .agg _) rfl rfl (fun B3 => ?_)
  refine pI rfl rfl (SL_nil (nx (SWP_seq (SWP_seq (SWP_region (pu rfl rfl ?_))))))
  refine lw (v := .int .i64 _) B3 3 rfl rfl rfl rfl ?_
  refine pc rfl rfl (fun c7 => ?_) (fun c7 => ?_)
  · skip
    refine pB rfl rfl (SL_no rfl rfl (SL_no rfl rfl (SL_no rfl rfl (pB rfl rfl (pB rfl rfl (SL_yes rfl (pu rfl rfl (SL_yes rfl ?_))))))))
    refine lw (v := .int .i64 _) B3 0 rfl rfl rfl rfl ?_
    refine SL_yes rfl (pu rfl rfl (SL_yes rfl ?_))
    refine lw (v := .int .i64 _) B2 3 rfl rfl rfl rfl ?_
    refine SL_yes rfl ?_
    refine pc rfl rfl (fun c18 => ?_) (fun c18 => ?_)
    · skip
      refine pB rfl rfl (SL_nil (nx (SWP_ct rfl (SWP_seq (SWP_region (pI rfl rfl (SL_nil (nx (SWP_ret (nr ?_))))))))))
      refine fin [_] ⟨rfl, trivial⟩ ?_
      refine congrArg (Value.int .i64) ?_
      unfold effM
      rw [if_pos (by omega)]
    refine pB rfl rfl (SL_nil (nx (SWP_cf rfl (SWP_skip (nx (SWP_seq (SWP_region (pu rfl rfl ?_))))))))
    refine lw (v := .int .i64 _) B3 3 rfl rfl rfl rfl ?_
    refine pI rfl rfl (SL_nil (nx (SWP_ret ?_)))
    refine fin [_] ⟨rfl, trivial⟩ ?_
    refine congrArg (Value.int .i64) ?_
    unfold effM
    rw [if_neg (by omega)]
  refine pB rfl rfl (SL_yes rfl (pu rfl rfl (SL_yes rfl ?_)))
  refine lw (v := .int .i64 _) B3 3 rfl rfl rfl rfl ?_
  refine SL_yes rfl ?_
  refine pc rfl rfl (fun c11 => ?_) (fun c11 => ?_)
  · skip
    refine pB rfl rfl (pB rfl rfl (SL_yes rfl (pu rfl rfl (SL_yes rfl ?_))))
    refine lw (v := .int .i64 _) B3 0 rfl rfl rfl rfl ?_
    refine SL_yes rfl (pu rfl rfl (SL_yes rfl ?_))
    refine lw (v := .int .i64 _) B2 3 rfl rfl rfl rfl ?_
    refine SL_yes rfl ?_
    refine pc rfl rfl (fun c18 => ?_) (fun c18 => ?_)
    · skip
      refine pB rfl rfl (SL_nil (nx (SWP_ct rfl (SWP_seq (SWP_region (pI rfl rfl (SL_nil (nx (SWP_ret (nr ?_))))))))))
      refine fin [_] ⟨rfl, trivial⟩ ?_
      refine congrArg (Value.int .i64) ?_
      unfold effM
      rw [if_pos (by omega)]
    refine pB rfl rfl (SL_nil (nx (SWP_cf rfl (SWP_skip (nx (SWP_seq (SWP_region (pu rfl rfl ?_))))))))
    refine lw (v := .int .i64 _) B3 3 rfl rfl rfl rfl ?_
    refine pI rfl rfl (SL_nil (nx (SWP_ret ?_)))
    refine fin [_] ⟨rfl, trivial⟩ ?_
    refine congrArg (Value.int .i64) ?_
    unfold effM
    rw [if_neg (by omega)]
  refine pB rfl rfl (pB rfl rfl (SL_no rfl rfl (SL_no rfl rfl (SL_no rfl rfl (SL_no rfl rfl (SL_no rfl rfl (pB rfl rfl (SL_nil (nx (SWP_cf rfl (SWP_skip ?_)))))))))))
  refine nx (SWP_seq (SWP_region (pu rfl rfl ?_)))
  refine lw (v := .int .i64 _) B3 3 rfl rfl rfl rfl ?_
  refine pI rfl rfl (SL_nil (nx (SWP_ret ?_)))
  refine fin [_] ⟨rfl, trivial⟩ ?_
  refine congrArg (Value.int .i64) ?_
  unfold effM
  rw [if_neg (by omega)]
theorem coversI {m : Mem} (g : Game) (a b : Tier) : PureCall Tryz.prog 104 [g.val, a.val, b.val] m (.bool (decide (covP g a b))) := by
  refine CallsS.pure ?_
  dsimp only [Game.val, Tier.val]
  refine enter Tryz.func104 Tryz.ntmps104 rfl rfl ?_
  refine SWP_seq (SWP_region ?_)
  refine bx (v := .agg _) rfl rfl (fun B3 => ?_)
  refine bx (v := .agg _) rfl rfl (fun B4 => ?_)
  refine bx (v := .agg _) rfl rfl (fun B5 => ?_)
  refine pB rfl rfl (SL_nil (nx (SWP_seq (SWP_seq (SWP_region (pu rfl rfl ?_))))))
  refine lw (v := .int .i64 _) B3 1 rfl rfl rfl rfl ?_
  refine pc rfl rfl (fun c11 => ?_) (fun c11 => ?_)
  · skip
    refine SL_nil (nx (SWP_ct rfl (SWP_seq (SWP_region (pu rfl rfl ?_)))))
    refine lw (v := .int .i64 _) B4 0 rfl rfl rfl rfl ?_
    refine pu rfl rfl ?_
    refine lw (v := .int .i64 _) B5 0 rfl rfl rfl rfl ?_
    refine pc rfl rfl (fun c16 => ?_) (fun c16 => ?_)
    · skip
      refine pB rfl rfl (SL_yes rfl (pu rfl rfl (SL_yes rfl ?_)))
      refine lw (v := .int .i64 _) B4 1 rfl rfl rfl rfl ?_
      refine SL_yes rfl (pu rfl rfl (SL_yes rfl ?_))
      refine lw (v := .int .i64 _) B5 1 rfl rfl rfl rfl ?_
      refine SL_yes rfl ?_
      refine pc rfl rfl (fun c22 => ?_) (fun c22 => ?_)
      · skip
        refine pB rfl rfl (pB rfl rfl (SL_yes rfl (pu rfl rfl (SL_yes rfl ?_))))
        refine lw (v := .int .i64 _) B4 2 rfl rfl rfl rfl ?_
        refine SL_yes rfl (pu rfl rfl (SL_yes rfl ?_))
        refine lw (v := .int .i64 _) B5 2 rfl rfl rfl rfl ?_
        refine SL_yes rfl (pu rfl rfl (pB rfl rfl (pB rfl rfl (SL_nil (nx (SWP_ret (nr ?_)))))))
        refine fin [_] ⟨rfl, trivial⟩ ?_
        refine congrArg Value.bool ?_
        exact decide_eq_decide.2 (by unfold covP; omega)
      refine pB rfl rfl (pB rfl rfl (SL_no rfl rfl (SL_no rfl rfl (SL_no rfl rfl (SL_no rfl rfl (SL_no rfl rfl (pB rfl rfl (pB rfl rfl (SL_nil (nx (SWP_ret ?_)))))))))))
      refine nr ?_
      refine fin [_] ⟨rfl, trivial⟩ ?_
      refine congrArg Value.bool ?_
      exact (decide_eq_false (by unfold covP; omega)).symm
    refine pB rfl rfl (SL_no rfl rfl (SL_no rfl rfl (SL_no rfl rfl (SL_no rfl rfl (SL_no rfl rfl (pB rfl rfl (pB rfl rfl (SL_no rfl rfl (SL_no rfl rfl (SL_no rfl rfl (SL_no rfl rfl ?_)))))))))))
    refine SL_no rfl rfl (pB rfl rfl (pB rfl rfl (SL_nil (nx (SWP_ret (nr ?_))))))
    refine fin [_] ⟨rfl, trivial⟩ ?_
    refine congrArg Value.bool ?_
    exact (decide_eq_false (by unfold covP; omega)).symm
  refine SL_nil (nx (SWP_cf rfl (SWP_skip (nx (SWP_seq ?_)))))
  refine SWP_draws (by kernel_rfl) (by kernel_rfl) ?_
  refine lw (v := .agg _) B3 0 rfl rfl rfl rfl ?_
  refine lw (v := .agg _) B4 0 rfl rfl rfl rfl ?_
  refine SL_pcall rfl rfl cb143 (effModeI g a) rfl ?_
  refine lw (v := .agg _) B3 0 rfl rfl rfl rfl ?_
  refine lw (v := .agg _) B5 0 rfl rfl rfl rfl ?_
  refine SL_pcall rfl rfl cb143 (effModeI g b) rfl ?_
  refine pI rfl rfl (pI rfl rfl (SL_nil (nx (SWP_seq (SWP_seq (SWP_region (pI rfl rfl ?_)))))))
  refine pc rfl rfl (fun c38 => ?_) (fun c38 => ?_)
  · skip
    refine SL_nil (nx (SWP_ct rfl (SWP_seq (SWP_region (pB rfl rfl (SL_nil (nx (SWP_ret (nr ?_)))))))))
    refine fin [_] ⟨rfl, trivial⟩ ?_
    refine congrArg Value.bool ?_
    exact (decide_eq_true (by unfold covP; omega)).symm
  refine SL_nil (nx (SWP_cf rfl (SWP_skip (nx (SWP_seq (SWP_region (pI rfl rfl (pI rfl rfl ?_))))))))
  refine pc rfl rfl (fun c41 => ?_) (fun c41 => ?_)
  · skip
    refine pB rfl rfl (SL_yes rfl (pu rfl rfl (SL_yes rfl ?_)))
    refine lw (v := .int .i64 _) B4 0 rfl rfl rfl rfl ?_
    refine SL_yes rfl (pu rfl rfl (SL_yes rfl ?_))
    refine lw (v := .int .i64 _) B5 0 rfl rfl rfl rfl ?_
    refine SL_yes rfl (pu rfl rfl (pB rfl rfl (pB rfl rfl (SL_nil (nx (SWP_ret ?_))))))
    refine fin [_] ⟨rfl, trivial⟩ ?_
    refine congrArg Value.bool ?_
    exact decide_eq_decide.2 (by unfold covP; omega)
  refine pB rfl rfl (SL_no rfl rfl (SL_no rfl rfl (SL_no rfl rfl (SL_no rfl rfl (SL_no rfl rfl (pB rfl rfl (pB rfl rfl (SL_nil (nx (SWP_ret ?_))))))))))
  refine fin [_] ⟨rfl, trivial⟩ ?_
  refine congrArg Value.bool ?_
  exact (decide_eq_false (by unfold covP; omega)).symm
abbrev sV (s : ByteArray) : Value := .string s
abbrev iK (i : Int) : Value := .int .i64 i
abbrev bV (b : Bool) : Value := .bool b
theorem lookB {α : Type} [DecidableEq α] (k : α) (l : List (α × Bool)) : ((mlook k l).map bV).getD (.bool false) = .bool ((mlook k l).getD false) := by cases mlook k l <;> rfl
theorem putB {α : Type} [DecidableEq α] (k k' : α) (v : Bool) : ∀ (l : List (α × Bool)), (mlook k' (mput k v l)).getD false = if k' = k then v else (mlook k' l).getD false
  | [] => by
    unfold mput mlook
    by_cases h : k' = k <;> simp [h, mlook]
  | p :: l => by
    unfold mput
    by_cases h : k = p.1
    · rw [if_pos h]
      simp only [mlook]
      by_cases e : k' = k
      · rw [if_pos e, if_pos e]; rfl
      · rw [if_neg e, if_neg e, if_neg (fun e2 => e (e2.trans h.symm))]
    · rw [if_neg h]
      simp only [mlook]
      by_cases e : k' = p.1
      · rw [if_pos e, if_pos e, if_neg (fun e2 => h (e2.symm.trans e))]
      · rw [if_neg e, if_neg e]
        exact putB k k' v l
set_option maxRecDepth 100000 in
theorem checkAddonsI {m : Mem} {va : Option Addr} {vc : Nat} {l : List Addon} (h : RL m Addon.enc 6 (.slice va l.length vc) l) (hin : ∀ a ∈ l, a.In m) : PureCall Tryz.prog 67 [.slice va l.length vc] m (.int .i64 (addonsErr l)) := by
  refine CallsS.pure ?_
  refine enter Tryz.func67 Tryz.ntmps67 rfl rfl ?_
  refine SWP_seq (SWP_region (pI rfl rfl (SL_nil (nx (SWP_seq (SWP_seq (SWP_region (pL rfl rfl (pu rfl rfl ?_)))))))))
  refine pc rfl rfl (fun c10 => ?_) (fun c10 => ?_)
  · skip
    refine SL_nil (nx (SWP_ct rfl (SWP_seq (SWP_region (pI rfl rfl (SL_nil (nx (SWP_ret (nr ?_)))))))))
    refine fin [_] ⟨rfl, trivial⟩ ?_
    refine congrArg (Value.int .i64) ?_
    unfold addonsErr
    rw [if_pos (by omega)]
  refine SL_nil (nx (SWP_cf rfl (SWP_skip (nx (SWP_seq (SWP_region ?_))))))
  refine mk (kc := sV) (vc := bV) rfl (fun MN => ?_)
  refine mk (kc := iK) (vc := bV) rfl (fun MK => ?_)
  refine pu (v := .map _) rfl rfl ?_
  refine pu (v := .map _) rfl rfl ?_
  refine SL_nil (nx (SWP_seq (SWP_seq (SWP_region (pL rfl rfl (pu rfl rfl (pI rfl rfl (SL_nil (nx (SWP_block ?_))))))))))
  refine SWP_loop [2, 6, 7, 15, 16, 17, 18, 19, 20, 21, 22, 23, 24, 25, 26, 27, 28, 29, 30, 31, 32, 33, 34, 35, 36, 37, 38, 39, 40] [15]
      (fun vs σ' m' => ∃ (i : Nat) (ln : List (ByteArray × Bool)) (lk2 : List (Int × Bool)), vs = [.int .i64 (i : Nat)] ∧ i ≤ l.length ∧ addonsErr l = addonsFrom (l.take i) (l.drop i) ∧ (∀ k, (mlook k ln).getD false = decide (∃ b ∈ l.take i, b.name = k)) ∧ (∀ k, (mlook k lk2).getD false = decide (∃ b ∈ l.take i, b.kind = k)) ∧ σ' = [(MK, MapC iK bV lk2), (MN, MapC sV bV ln)] ∧ m = m')
      (fun vs => l.length - nOf (vs.getD 0 undef)) rfl ?_ ?_
  · refine ⟨0, [], [], rfl, by omega, ?_, fun k => by simp [mlook], fun k => by simp [mlook], rfl, rfl⟩
    unfold addonsErr
    rw [if_neg (by omega)]; rfl
  intro u0 vs0 σ0 m0 hJ0 _
  obtain ⟨i, ln, lk2, rfl, hi, hres, hnm, hkd, rfl, rfl⟩ := hJ0
  refine SWP_seq (SWP_region ?_)
  refine pc rfl rfl (fun c16 => ?_) (fun c16 => ?_)
  · skip
    refine SL_nil (nx (SWP_seq (SWP_ct rfl (SWP_skip (nx (SWP_seq (SWP_block (SWP_seq ?_))))))))
    obtain ⟨a, ha⟩ : ∃ a, l[i]? = some a := ⟨_, List.getElem?_eq_getElem (by omega)⟩
    obtain ⟨ad, had, _, hat⟩ := h.atA Addon.enc_len ha
    rw [had]
    rw [addonsFrom_at ha] at hres
    refine SWP_region ?_
    refine ia (es := 6) rfl rfl rfl rfl rfl rfl (by omega) rfl ?_
    refine ldA (v := .agg _) rfl (by assumption) rfl rfl ?_
    refine al rfl rfl (fun B6 => ?_)
    refine sw (v := .agg _) B6 0 rfl rfl rfl rfl rfl rfl rfl ?_
    refine SL_nil (nx (SWP_seq (SWP_seq (SWP_region ?_))))
    refine lw (v := .agg _) B6 0 rfl rfl rfl rfl ?_
    refine SL_pcall rfl rfl cb102 (checkAddonI (hin a (List.mem_of_getElem? ha))) rfl ?_
    refine pI rfl rfl (SL_nil (nx (SWP_seq (SWP_region (pI rfl rfl ?_)))))
    refine pc rfl rfl (fun c22 => ?_) (fun c22 => ?_)
    · skip
      refine SL_nil (nx (SWP_ct rfl (SWP_seq (SWP_region (pI rfl rfl (pI rfl rfl (SL_nil (nx (SWP_ret (nr (br ?_)))))))))))
      refine nr (nr (br (nr ?_)))
      refine fin [_] ⟨rfl, trivial⟩ ?_
      refine congrArg (Value.int .i64) ?_
      rw [hres, if_pos (by omega)]
    refine SL_nil (nx (SWP_cf rfl (SWP_skip (nx (SWP_seq (SWP_seq ?_))))))
    rw [if_neg (by omega)] at hres
    refine SWP_region ?_
    refine pu (v := .map _) rfl rfl ?_
    refine pu rfl rfl ?_
    refine lw (v := .string _) B6 0 rfl rfl rfl rfl ?_
    refine lk (kc := sV) (vc := bV) (a := a.name) (l := ln) rfl rfl rfl keyStr rfl rfl (.tail _ (.tail _ (.head _))) (lookB _ ln) rfl ?_
    refine bsp 27 rfl (fun b27 => ?_) (fun b27 => ?_)
    · skip
      refine pB rfl rfl (SL_no rfl rfl (SL_no rfl rfl (SL_no rfl rfl (SL_no rfl rfl (pB rfl rfl (SL_nil (nx (SWP_ct rfl (SWP_seq (SWP_region (pI rfl rfl ?_)))))))))))
      refine SL_nil (nx (SWP_ret (nr (br (nr (nr (br (nr ?_))))))))
      refine fin [_] ⟨rfl, trivial⟩ ?_
      refine congrArg (Value.int .i64) ?_
      rw [hnm] at b27
      obtain ⟨b, hb, e⟩ := of_decide_eq_true b27
      rw [hres, if_pos ⟨b, hb, .inl e⟩]
    refine pB rfl rfl (SL_yes rfl ?_)
    refine pu (v := .map _) rfl rfl ?_
    refine SL_yes rfl (pu rfl rfl (SL_yes rfl ?_))
    refine lw (v := .int .i64 _) B6 1 rfl rfl rfl rfl ?_
    refine SL_yes rfl ?_
    refine lk (kc := iK) (vc := bV) (a := a.kind) (l := lk2) rfl rfl rfl (keyInt .i64) rfl rfl (.tail _ (.head _)) (lookB _ lk2) rfl ?_
    refine bsp 32 rfl (fun b32 => ?_) (fun b32 => ?_)
    · skip
      refine pB rfl rfl (SL_nil (nx (SWP_ct rfl (SWP_seq (SWP_region (pI rfl rfl (SL_nil (nx (SWP_ret (nr (br ?_)))))))))))
      refine nr (nr (br (nr ?_)))
      refine fin [_] ⟨rfl, trivial⟩ ?_
      refine congrArg (Value.int .i64) ?_
      rw [hkd] at b32
      obtain ⟨b, hb, e⟩ := of_decide_eq_true b32
      rw [hres, if_pos ⟨b, hb, .inr e⟩]
    refine pB rfl rfl (SL_nil (nx (SWP_cf rfl (SWP_skip (nx ?_)))))
    have hno : ¬ ∃ b ∈ l.take i, b.name = a.name ∨ b.kind = a.kind := by
      rintro ⟨b, hb, e | e⟩
      · rw [hnm] at b27
        exact of_decide_eq_false b27 ⟨b, hb, e⟩
      · rw [hkd] at b32
        exact of_decide_eq_false b32 ⟨b, hb, e⟩
    refine SWP_drawn [_] [0, 1, 2, 3, 4, 5, 6, 7] (by kernel_rfl) (by kernel_rfl) (Sub.cons2 _ (Sub.nil _)) ?_
    refine pu (v := .map _) rfl rfl ?_
    refine pu rfl rfl ?_
    refine lw (v := .string _) B6 0 rfl rfl rfl rfl ?_
    refine pu (v := .map _) rfl rfl ?_
    refine pu rfl rfl ?_
    refine lw (v := .int .i64 _) B6 1 rfl rfl rfl rfl ?_
    refine mu (kc := sV) (vc := bV) (a := a.name) (b := true) (l := ln) (σ₁ := [_, _]) rfl rfl keyStr rfl rfl rfl rfl ?_
    refine mu (kc := iK) (vc := bV) (a := a.kind) (b := true) (l := lk2) (σ₁ := [_]) rfl rfl (keyInt .i64) rfl rfl rfl rfl ?_
    refine SL_nil (nb (nx ?_))
    refine SWP_weak (List.sublist_cons_self _ _) ?_
    refine SWP_region ?_
    refine pw rfl rfl (w64 (by omega) (by omega)) ?_
    refine pI rfl rfl (SL_nil (nx ?_))
    refine ⟨by repeat (first | exact Under.upds rfl (Under.hav _ _ _) | exact Under.hav _ _ _ | refine Under.upd rfl ?_), ?_, ?_⟩
    · refine ⟨i + 1, mput a.name true ln, mput a.kind true lk2, rfl, by omega, ?_, fun k => ?_, fun k => ?_, rfl, rfl⟩
      · rw [hres, if_neg hno, take_snocA ha]
      · rw [putB, hnm, take_snocA ha]
        by_cases e : k = a.name <;> simp [e, eq_comm]
      · rw [putB, hkd, take_snocA ha]
        by_cases e : k = a.kind <;> simp [e, eq_comm]
    · simp only [L_vals, List.map, List.getD]; show l.length - (i + 1) < l.length - i; omega
  refine SL_nil (nx (SWP_seq (SWP_cf rfl (SWP_exit (ne (ne (be rfl (nx (SWP_seq (SWP_region (pI rfl rfl ?_)))))))))))
  refine SL_nil (nx (SWP_ret ?_))
  refine fin [_] ⟨rfl, trivial⟩ ?_
  refine congrArg (Value.int .i64) ?_
  have e : i = l.length := by omega
  rw [hres, e, List.drop_length]; rfl
end Go.Proofs.YtlgoegjboabgfaaGreatDoor
namespace Go.Proofs.YtlgoegjboabgfaaGreatDoor
open Eng
theorem Eng.RL.capI {α : Type} {m : Mem} {en : α → List Value} {size n c : Nat} {a : Option Addr} {l : List α} (h : RL m en size (.slice a n c) l) : l.length ≤ c ∧ n = l.length := by
  obtain ⟨a', cap, e, _, h2, _⟩ := h
  cases e
  exact ⟨h2, rfl⟩
def Game.enc (g : Game) : List Value := [.string g.name, .int .i64 g.kind, .int .i64 g.price, .int .i64 g.main, .int .i64 g.of, .int .i64 g.bonus, .int .i64 g.bonusOf, .int .i64 g.extra, .int .i64 g.draws, .int .i64 g.system, .int .i64 g.days, .int .i64 g.minute, .int .i64 g.close, .int .i64 g.cancel, .int .i64 g.expiry, .int .i64 g.pool, .int .i64 g.reserve, .int .i64 g.round, .int .i64 g.cap, .int .i64 g.rolls, .slice g.aa g.addons.length g.ac, .slice g.ta g.tiers.length g.tc]
set_option maxRecDepth 100000 in
theorem checkTiersI {m : Mem} {g : Game} (hin : g.In m) : PureCall Tryz.prog 68 [g.val] m (.int .i64 (tiersErr g)) := by
  refine CallsS.pure ?_
  obtain ⟨hcap, _⟩ := hin.trs.capI
  dsimp only [Game.val]
  refine enter Tryz.func68 Tryz.ntmps68 rfl rfl ?_
  refine SWP_seq (SWP_region ?_)
  refine bx (v := .agg _) rfl rfl (fun B1 => ?_)
  refine pI rfl rfl (SL_nil (nx (SWP_scope (SWP_seq (SWP_seq (SWP_region (pu rfl rfl ?_)))))))
  refine lw (v := .slice _ _ _) B1 21 rfl rfl rfl rfl ?_
  refine pu rfl rfl ?_
  refine SL_pcall rfl rfl cb101 (withinI _ _ _) rfl ?_
  refine psp 11 rfl (fun c11 => ?_) (fun c11 => ?_)
  · skip
    refine pB rfl rfl (SL_nil (nx (SWP_cf rfl (SWP_skip (nx (SWP_seq (SWP_region (pI rfl rfl (SL_nil (nx (SWP_seq ?_)))))))))))
    refine SWP_label (nx (SWP_seq (SWP_seq (SWP_region (pu rfl rfl ?_)))))
    refine lw (v := .slice _ _ _) B1 21 rfl rfl rfl rfl ?_
    refine pu rfl rfl (pI rfl rfl (SL_nil (nx (SWP_block ?_))))
    refine SWP_loop [3, 4, 5, 7, 16, 17, 18, 19, 20, 21, 22, 23, 24, 25, 26, 27, 28, 29, 30, 31, 32, 33, 34, 35, 36, 37, 38, 39, 40] [3, 16]
        (fun vs σ' m' => ∃ (i : Nat), vs = [.int .i64 0, .int .i64 (i : Nat)] ∧ i ≤ g.tiers.length ∧ tiersErr g = tiersFrom g (g.tiers.take i) (g.tiers.drop i) ∧ σ' = [(B1, Cells 31 g.enc)] ∧ m = m')
        (fun vs => g.tiers.length - nOf (vs.getD 1 undef)) rfl ?_ ?_
    · refine ⟨0, rfl, by omega, ?_, rfl, rfl⟩
      unfold tiersErr
      rw [if_neg (by omega)]; rfl
    intro u0 vs0 σ0 m0 hJ0 _
    obtain ⟨i, rfl, hi, hres, rfl, rfl⟩ := hJ0
    dsimp only [Game.enc]
    refine SWP_seq (SWP_region ?_)
    refine pc rfl rfl (fun c17 => ?_) (fun c17 => ?_)
    · skip
      refine SL_nil (nx (SWP_seq (SWP_ct rfl (SWP_skip (nx (SWP_seq (SWP_block (SWP_seq ?_))))))))
      obtain ⟨t, ht⟩ : ∃ t, g.tiers[i]? = some t := ⟨_, List.getElem?_eq_getElem (by omega)⟩
      obtain ⟨ad, had, _, hat⟩ := hin.trs.atA Tier.enc_len ht
      rw [tiersFrom_at ht] at hres
      refine SWP_region (pI rfl rfl ?_)
      rw [had]
      refine ia (es := 6) rfl rfl rfl rfl rfl rfl (by omega) rfl ?_
      rw [← had]
      refine ldA (v := .agg _) rfl (by assumption) rfl rfl ?_
      refine al rfl rfl (fun B5 => ?_)
      refine pI rfl rfl ?_
      refine sw (v := .agg _) B5 0 rfl rfl rfl rfl rfl rfl rfl ?_
      refine SL_nil (nx (SWP_seq (SWP_seq (SWP_region ?_))))
      refine lw (v := .agg _) B1 0 rfl rfl rfl rfl ?_
      refine lw (v := .agg _) B5 0 rfl rfl rfl rfl ?_
      refine SL_pcall rfl rfl cb103 (checkTierI g t) rfl ?_
      refine pI rfl rfl (SL_nil (nx (SWP_seq (SWP_region (pI rfl rfl ?_)))))
      refine pc rfl rfl (fun c25 => ?_) (fun c25 => ?_)
      · skip
        refine SL_nil (nx (SWP_ct rfl (SWP_exit (ne (bo rfl (ne (ne (be rfl (nx (SWP_seq (SWP_region ?_)))))))))))
        refine pI rfl rfl (pI rfl rfl (SL_nil (nx (SWP_ret (sr ?_)))))
        refine fin [_] ⟨rfl, trivial⟩ ?_
        refine congrArg (Value.int .i64) ?_
        rw [hres, if_pos (by omega)]
      refine SL_nil (nx (SWP_cf rfl (SWP_skip (nx (SWP_seq ?_)))))
      rw [if_neg (by omega)] at hres
      have ht0 : tierErr g t = 0 := by omega
      rw [ht0]
      refine SWP_region (pu rfl rfl ?_)
      refine lw (v := .slice _ _ _) B1 21 rfl rfl rfl rfl ?_
      refine pI rfl rfl ?_
      refine slh (size := 6) rfl rfl rfl rfl rfl (by omega) (by omega) rfl ?_
      have hsub := RL.sub Tier.enc_len hin.trs (Nat.zero_le i) (by omega)
      rw [List.drop_zero] at hsub
      obtain ⟨pa, pcap, hsl⟩ := hsub.len
      rw [Int.toNat_natCast, hsl]
      rw [hsl] at hsub
      have hlt : (g.tiers.take i).length = i := by rw [List.length_take]; omega
      refine pu rfl rfl (pI rfl rfl (SL_nil (nx (SWP_block ?_))))
      refine SWP_loop [3, 7, 31, 32, 33, 34, 35, 36, 37, 38, 39] [3, 31]
          (fun vs σ' m' => ∃ (k : Nat), vs = [.int .i64 0, .int .i64 (k : Nat)] ∧ k ≤ i ∧ (∀ b ∈ (g.tiers.take i).take k, ¬ covP g b t) ∧ σ' = [(B5, Cells 102 t.enc), (B1, Cells 31 g.enc)] ∧ m = m')
          (fun vs => i - nOf (vs.getD 1 undef)) rfl ?_ ?_
      · exact ⟨0, rfl, by omega, by simp, rfl, rfl⟩
      intro u1 vs1 σ1 m1 hJ1 _
      obtain ⟨k, rfl, hk, hcv, rfl, rfl⟩ := hJ1
      dsimp only [Game.enc, Tier.enc]
      refine SWP_seq (SWP_region ?_)
      refine pc rfl rfl (fun c32 => ?_) (fun c32 => ?_)
      · skip
        refine SL_nil (nx (SWP_seq (SWP_ct rfl (SWP_skip (nx (SWP_seq (SWP_block (SWP_seq ?_))))))))
        obtain ⟨u, hu⟩ : ∃ u, (g.tiers.take i)[k]? = some u := ⟨_, List.getElem?_eq_getElem (by omega)⟩
        obtain ⟨ad2, rfl, _, hat2⟩ := hsub.atA Tier.enc_len hu
        refine SWP_region ?_
        refine ia (es := 6) rfl rfl rfl rfl rfl rfl (by omega) rfl ?_
        refine ldA (v := .agg _) rfl (by assumption) rfl rfl ?_
        refine al rfl rfl (fun B7 => ?_)
        refine sw (v := .agg _) B7 0 rfl rfl rfl rfl rfl rfl rfl ?_
        refine SL_nil (nx (SWP_seq (SWP_region ?_)))
        refine lw (v := .agg _) B1 0 rfl rfl rfl rfl ?_
        refine lw (v := .agg _) B7 0 rfl rfl rfl rfl ?_
        refine lw (v := .agg _) B5 0 rfl rfl rfl rfl ?_
        refine SL_pcall rfl rfl cb104 (coversI g u t) rfl ?_
        refine psp 38 rfl (fun c38 => ?_) (fun c38 => ?_)
        · skip
          refine SL_nil (nx (SWP_ct rfl (SWP_seq (SWP_region (pI rfl rfl (SL_nil (nx (SWP_exit (bo rfl (ne (ne ?_)))))))))))
          refine bo rfl (bo rfl (ne (ne (be rfl (nx (SWP_seq (SWP_region (pI rfl rfl (pI rfl rfl (SL_nil (nx ?_)))))))))))
          refine SWP_ret (sr ?_)
          refine fin [_] ⟨rfl, trivial⟩ ?_
          refine congrArg (Value.int .i64) ?_
          rw [hres, if_pos ⟨u, List.mem_of_getElem? hu, c38⟩]
        refine SL_nil (nx (SWP_cf rfl (SWP_skip (nb (nx ?_)))))
        refine SWP_weak (List.sublist_cons_self _ _) ?_
        refine SWP_region ?_
        refine pw rfl rfl (w64 (by omega) (by omega)) ?_
        refine pI rfl rfl (SL_nil (nx ?_))
        refine ⟨by repeat (first | exact Under.upds rfl (Under.hav _ _ _) | exact Under.hav _ _ _ | refine Under.upd rfl ?_ | refine Under.upds rfl ?_ | refine Under.hav2 rfl ?_), ?_, ?_⟩
        · refine ⟨k + 1, rfl, by omega, fun b hb => ?_, rfl, rfl⟩
          rw [take_snocA hu] at hb
          rcases List.mem_append.1 hb with hb | hb
          · exact hcv b hb
          · rw [List.mem_singleton.1 hb]; exact c38
        · simp only [L_vals, List.map, List.getD]; show i - (k + 1) < i - k; omega
      refine SL_nil (nx (SWP_seq (SWP_cf rfl (SWP_exit (ne (ne (be rfl (nb (nx ?_)))))))))
      refine SWP_weak (List.sublist_cons_self _ _) ?_
      refine SWP_region ?_
      refine pw rfl rfl (w64 (by omega) (by omega)) ?_
      refine pI rfl rfl (SL_nil (nx ?_))
      refine ⟨by repeat (first | exact Under.upds rfl (Under.hav _ _ _) | exact Under.hav _ _ _ | refine Under.upd rfl ?_ | refine Under.upds rfl ?_ | refine Under.hav2 rfl ?_), ?_, ?_⟩
      · refine ⟨i + 1, rfl, by omega, ?_, rfl, rfl⟩
        have e : k = i := by omega
        rw [e, List.take_take, Nat.min_self] at hcv
        rw [hres, if_neg (by rintro ⟨b, hb, hc⟩; exact hcv b hb hc), take_snocA ht]
      · simp only [L_vals, List.map, List.getD]; show g.tiers.length - (i + 1) < g.tiers.length - i; omega
    refine SL_nil (nx (SWP_seq (SWP_cf rfl (SWP_exit (ne (ne (be rfl (nx (SWP_seq (SWP_region (pI rfl rfl ?_)))))))))))
    refine pI rfl rfl (SL_nil (nx (SWP_ret (sr ?_))))
    refine fin [_] ⟨rfl, trivial⟩ ?_
    refine congrArg (Value.int .i64) ?_
    have e : i = g.tiers.length := by omega
    rw [hres, e, List.drop_length]; rfl
  refine pB rfl rfl (SL_nil (nx (SWP_ct rfl (SWP_seq (SWP_region (pI rfl rfl (SL_nil (nx (SWP_ret (nr (sr ?_)))))))))))
  refine fin [_] ⟨rfl, trivial⟩ ?_
  refine congrArg (Value.int .i64) ?_
  unfold tiersErr
  rw [if_pos (by omega)]
set_option maxRecDepth 100000 in
theorem checkI {m : Mem} {g : Game} (hin : g.In m) : CallsS Tryz.prog 42 [g.val].toArray [] m fun r σ' m' => σ' = [] ∧ m' = m ∧ ∃ s, r = .tuple #[.int .i64 (gameErr g), .string s] := by
  refine CallsS.ghost (R' := fun r σ' m' => m' = m ∧ ∃ s, r = .tuple #[.int .i64 (gameErr g), .string s]) ?_ ?h2
  case h2 =>
    rintro r σ' m' ⟨rfl, hr⟩ g0 W hC
    exact ⟨_, m', hC.sublist (List.nil_sublist _), Le.refl _, rfl, rfl, hr⟩
  dsimp only [Game.val]
  refine enter Tryz.func42 Tryz.ntmps42 rfl rfl ?_
  refine SWP_seq (SWP_region ?_)
  refine bx (v := .agg _) rfl rfl (fun B1 => ?_)
  refine pI rfl rfl (pS rfl rfl (SL_nil (nx (SWP_seq (SWP_seq (SWP_region (pu rfl rfl ?_)))))))
  refine lw (v := .string _) B1 0 rfl rfl rfl rfl ?_
  refine SL_pcall rfl rfl cb64 (nameImpl _) rfl ?_
  refine bsp 10 rfl (fun b10 => ?_) (fun b10 => ?_)
  · skip
    refine pB rfl rfl (SL_nil (nx (SWP_cf rfl (SWP_skip (nx (SWP_seq (SWP_seq (SWP_region (pu rfl rfl ?_)))))))))
    refine lw (v := .int .i64 _) B1 1 rfl rfl rfl rfl ?_
    refine pc rfl rfl (fun c14 => ?_) (fun c14 => ?_)
    · skip
      refine pB rfl rfl (SL_yes rfl (pu rfl rfl (SL_yes rfl ?_)))
      refine lw (v := .int .i64 _) B1 1 rfl rfl rfl rfl ?_
      refine SL_yes rfl ?_
      refine pc rfl rfl (fun c18 => ?_) (fun c18 => ?_)
      · skip
        refine pB rfl rfl (SL_nil (nx (SWP_ct rfl (SWP_seq (SWP_region (pI rfl rfl (pS rfl rfl (SL_nil (nx (SWP_ret (nr ?_)))))))))))
        refine fin [_, _] ⟨rfl, rfl, trivial⟩ ?_
        refine ⟨rfl, ?_⟩
        have hge : gameErr g = 7 := by
          unfold gameErr
          rw [if_neg (by rw [b10]; exact Bool.noConfusion), if_pos (by omega)]
        rw [hge]
        exact ⟨_, rfl⟩
      refine pB rfl rfl (SL_nil (nx (SWP_cf rfl (SWP_skip (nx (SWP_seq (SWP_seq (SWP_region ?_))))))))
      refine lw (v := .agg _) B1 0 rfl rfl rfl rfl ?_
      refine SL_call rfl rfl cb65 (CallsS.frame0 (badMatrixI g)) rfl (fun v5_1 σ5_1 m5_1 hl5_1 hR5_1 => ?_)
      obtain ⟨σ₁, rfl, rfl, hm5_1, s1, rfl, hs1⟩ := hR5_1
      have hn5_1 := hm5_1.symm
      subst hn5_1
      refine pS rfl rfl (SL_nil (nx (SWP_seq (SWP_region (pS rfl rfl ?_)))))
      refine pc rfl rfl (fun c23 => ?_) (fun c23 => ?_)
      · skip
        refine SL_nil (nx (SWP_ct rfl (SWP_seq (SWP_region (pS rfl rfl (pI rfl rfl (pS rfl rfl (SL_nil (nx (SWP_ret (nr ?_)))))))))))
        refine fin [_, _] ⟨rfl, rfl, trivial⟩ ?_
        refine ⟨rfl, ?_⟩
        have hge : gameErr g = 2 := by
          unfold gameErr
          rw [if_neg (by rw [b10]; exact Bool.noConfusion), if_neg (by omega), okE_f (fun h => c23 (hs1.2 h.1))]
        rw [hge]
        exact ⟨_, rfl⟩
      refine SL_nil (nx (SWP_cf rfl (SWP_skip (nx (SWP_seq (SWP_seq (SWP_region ?_)))))))
      refine lw (v := .agg _) B1 0 rfl rfl rfl rfl ?_
      refine SL_call rfl rfl cb66 (CallsS.frame0 (badTermsI g)) rfl (fun v8_1 σ8_1 m8_1 hl8_1 hR8_1 => ?_)
      obtain ⟨σ₁, rfl, rfl, hm8_1, s2, rfl, hs2⟩ := hR8_1
      have hn8_1 := hm8_1.symm
      subst hn8_1
      refine pS rfl rfl (SL_nil (nx (SWP_seq (SWP_region (pS rfl rfl ?_)))))
      refine pc rfl rfl (fun c28 => ?_) (fun c28 => ?_)
      · skip
        refine SL_nil (nx (SWP_ct rfl (SWP_seq (SWP_region (pS rfl rfl (pI rfl rfl (pS rfl rfl (SL_nil (nx (SWP_ret (nr ?_)))))))))))
        refine fin [_, _] ⟨rfl, rfl, trivial⟩ ?_
        refine ⟨rfl, ?_⟩
        have hge : gameErr g = 2 := by
          unfold gameErr
          rw [if_neg (by rw [b10]; exact Bool.noConfusion), if_neg (by omega), okE_f (fun h => c28 (hs2.2 h.2))]
        rw [hge]
        exact ⟨_, rfl⟩
      refine SL_nil (nx (SWP_cf rfl (SWP_skip (nx (SWP_seq (SWP_seq (SWP_region (pu rfl rfl ?_))))))))
      refine lw (v := .slice _ _ _) B1 20 rfl rfl rfl rfl ?_
      refine SL_pcall rfl rfl cb67 (checkAddonsI hin.ads hin.each) rfl ?_
      refine pI rfl rfl (SL_nil (nx (SWP_seq (SWP_region (pI rfl rfl ?_)))))
      refine pc rfl rfl (fun c34 => ?_) (fun c34 => ?_)
      · skip
        refine SL_nil (nx (SWP_ct rfl (SWP_seq (SWP_region (pI rfl rfl (pI rfl rfl (pS rfl rfl (SL_nil (nx (SWP_ret (nr ?_)))))))))))
        refine fin [_, _] ⟨rfl, rfl, trivial⟩ ?_
        refine ⟨rfl, ?_⟩
        have hge : gameErr g = addonsErr g.addons := by
          unfold gameErr
          rw [if_neg (by rw [b10]; exact Bool.noConfusion), if_neg (by omega), okE_t ⟨hs1.1 (Classical.not_not.1 c23), hs2.1 (Classical.not_not.1 c28)⟩, if_pos c34]
        rw [hge]
        exact ⟨_, rfl⟩
      refine SL_nil (nx (SWP_cf rfl (SWP_skip (nx (SWP_seq (SWP_seq (SWP_region ?_)))))))
      refine lw (v := .agg _) B1 0 rfl rfl rfl rfl ?_
      refine SL_pcall rfl rfl cb68 (checkTiersI hin) rfl ?_
      refine pI rfl rfl (SL_nil (nx (SWP_seq (SWP_region (pI rfl rfl ?_)))))
      refine pc rfl rfl (fun c39 => ?_) (fun c39 => ?_)
      · skip
        refine SL_nil (nx (SWP_ct rfl (SWP_seq (SWP_region (pI rfl rfl (pI rfl rfl (pS rfl rfl (SL_nil (nx (SWP_ret (nr ?_)))))))))))
        refine fin [_, _] ⟨rfl, rfl, trivial⟩ ?_
        refine ⟨rfl, ?_⟩
        have hge : gameErr g = tiersErr g := by
          unfold gameErr
          rw [if_neg (by rw [b10]; exact Bool.noConfusion), if_neg (by omega), okE_t ⟨hs1.1 (Classical.not_not.1 c23), hs2.1 (Classical.not_not.1 c28)⟩, if_neg c34]
        rw [hge]
        exact ⟨_, rfl⟩
      refine SL_nil (nx (SWP_cf rfl (SWP_skip (nx (SWP_seq (SWP_region (pI rfl rfl (pS rfl rfl (SL_nil (nx (SWP_ret ?_)))))))))))
      refine fin [_, _] ⟨rfl, rfl, trivial⟩ ?_
      refine ⟨rfl, ?_⟩
      have hge : gameErr g = 0 := by
        unfold gameErr
        rw [if_neg (by rw [b10]; exact Bool.noConfusion), if_neg (by omega), okE_t ⟨hs1.1 (Classical.not_not.1 c23), hs2.1 (Classical.not_not.1 c28)⟩, if_neg c34]; omega
      rw [hge]
      exact ⟨_, rfl⟩
    refine pB rfl rfl (SL_no rfl rfl (SL_no rfl rfl (SL_no rfl rfl (pB rfl rfl (SL_nil (nx (SWP_cf rfl (SWP_skip (nx (SWP_seq (SWP_seq ?_)))))))))))
    refine SWP_region ?_
    refine lw (v := .agg _) B1 0 rfl rfl rfl rfl ?_
    refine SL_call rfl rfl cb65 (CallsS.frame0 (badMatrixI g)) rfl (fun v5_1 σ5_1 m5_1 hl5_1 hR5_1 => ?_)
    obtain ⟨σ₁, rfl, rfl, hm5_1, s1, rfl, hs1⟩ := hR5_1
    have hn5_1 := hm5_1.symm
    subst hn5_1
    refine pS rfl rfl (SL_nil (nx (SWP_seq (SWP_region (pS rfl rfl ?_)))))
    refine pc rfl rfl (fun c23 => ?_) (fun c23 => ?_)
    · skip
      refine SL_nil (nx (SWP_ct rfl (SWP_seq (SWP_region (pS rfl rfl (pI rfl rfl (pS rfl rfl (SL_nil (nx (SWP_ret (nr ?_)))))))))))
      refine fin [_, _] ⟨rfl, rfl, trivial⟩ ?_
      refine ⟨rfl, ?_⟩
      have hge : gameErr g = 2 := by
        unfold gameErr
        rw [if_neg (by rw [b10]; exact Bool.noConfusion), if_neg (by omega), okE_f (fun h => c23 (hs1.2 h.1))]
      rw [hge]
      exact ⟨_, rfl⟩
    refine SL_nil (nx (SWP_cf rfl (SWP_skip (nx (SWP_seq (SWP_seq (SWP_region ?_)))))))
    refine lw (v := .agg _) B1 0 rfl rfl rfl rfl ?_
    refine SL_call rfl rfl cb66 (CallsS.frame0 (badTermsI g)) rfl (fun v8_1 σ8_1 m8_1 hl8_1 hR8_1 => ?_)
    obtain ⟨σ₁, rfl, rfl, hm8_1, s2, rfl, hs2⟩ := hR8_1
    have hn8_1 := hm8_1.symm
    subst hn8_1
    refine pS rfl rfl (SL_nil (nx (SWP_seq (SWP_region (pS rfl rfl ?_)))))
    refine pc rfl rfl (fun c28 => ?_) (fun c28 => ?_)
    · skip
      refine SL_nil (nx (SWP_ct rfl (SWP_seq (SWP_region (pS rfl rfl (pI rfl rfl (pS rfl rfl (SL_nil (nx (SWP_ret (nr ?_)))))))))))
      refine fin [_, _] ⟨rfl, rfl, trivial⟩ ?_
      refine ⟨rfl, ?_⟩
      have hge : gameErr g = 2 := by
        unfold gameErr
        rw [if_neg (by rw [b10]; exact Bool.noConfusion), if_neg (by omega), okE_f (fun h => c28 (hs2.2 h.2))]
      rw [hge]
      exact ⟨_, rfl⟩
    refine SL_nil (nx (SWP_cf rfl (SWP_skip (nx (SWP_seq (SWP_seq (SWP_region (pu rfl rfl ?_))))))))
    refine lw (v := .slice _ _ _) B1 20 rfl rfl rfl rfl ?_
    refine SL_pcall rfl rfl cb67 (checkAddonsI hin.ads hin.each) rfl ?_
    refine pI rfl rfl (SL_nil (nx (SWP_seq (SWP_region (pI rfl rfl ?_)))))
    refine pc rfl rfl (fun c34 => ?_) (fun c34 => ?_)
    · skip
      refine SL_nil (nx (SWP_ct rfl (SWP_seq (SWP_region (pI rfl rfl (pI rfl rfl (pS rfl rfl (SL_nil (nx (SWP_ret (nr ?_)))))))))))
      refine fin [_, _] ⟨rfl, rfl, trivial⟩ ?_
      refine ⟨rfl, ?_⟩
      have hge : gameErr g = addonsErr g.addons := by
        unfold gameErr
        rw [if_neg (by rw [b10]; exact Bool.noConfusion), if_neg (by omega), okE_t ⟨hs1.1 (Classical.not_not.1 c23), hs2.1 (Classical.not_not.1 c28)⟩, if_pos c34]
      rw [hge]
      exact ⟨_, rfl⟩
    refine SL_nil (nx (SWP_cf rfl (SWP_skip (nx (SWP_seq (SWP_seq (SWP_region ?_)))))))
    refine lw (v := .agg _) B1 0 rfl rfl rfl rfl ?_
    refine SL_pcall rfl rfl cb68 (checkTiersI hin) rfl ?_
    refine pI rfl rfl (SL_nil (nx (SWP_seq (SWP_region (pI rfl rfl ?_)))))
    refine pc rfl rfl (fun c39 => ?_) (fun c39 => ?_)
    · skip
      refine SL_nil (nx (SWP_ct rfl (SWP_seq (SWP_region (pI rfl rfl (pI rfl rfl (pS rfl rfl (SL_nil (nx (SWP_ret (nr ?_)))))))))))
      refine fin [_, _] ⟨rfl, rfl, trivial⟩ ?_
      refine ⟨rfl, ?_⟩
      have hge : gameErr g = tiersErr g := by
        unfold gameErr
        rw [if_neg (by rw [b10]; exact Bool.noConfusion), if_neg (by omega), okE_t ⟨hs1.1 (Classical.not_not.1 c23), hs2.1 (Classical.not_not.1 c28)⟩, if_neg c34]
      rw [hge]
      exact ⟨_, rfl⟩
    refine SL_nil (nx (SWP_cf rfl (SWP_skip (nx (SWP_seq (SWP_region (pI rfl rfl (pS rfl rfl (SL_nil (nx (SWP_ret ?_)))))))))))
    refine fin [_, _] ⟨rfl, rfl, trivial⟩ ?_
    refine ⟨rfl, ?_⟩
    have hge : gameErr g = 0 := by
      unfold gameErr
      rw [if_neg (by rw [b10]; exact Bool.noConfusion), if_neg (by omega), okE_t ⟨hs1.1 (Classical.not_not.1 c23), hs2.1 (Classical.not_not.1 c28)⟩, if_neg c34]; omega
    rw [hge]
    exact ⟨_, rfl⟩
  refine pB rfl rfl (SL_nil (nx (SWP_ct rfl (SWP_seq (SWP_region (pI rfl rfl (pS rfl rfl (SL_nil (nx (SWP_ret (nr ?_)))))))))))
  refine fin [_, _] ⟨rfl, rfl, trivial⟩ ?_
  refine ⟨rfl, ?_⟩
  have hge : gameErr g = 4 := by
    unfold gameErr
    rw [if_pos b10]
  rw [hge]
  exact ⟨_, rfl⟩
end Go.Proofs.YtlgoegjboabgfaaGreatDoor
namespace Go.Proofs.YtlgoegjboabgfaaGreatDoor
open Eng
def sE (s : ByteArray) : List Value := [.string s]
theorem sE_len (s : ByteArray) : (sE s).length = 1 := rfl
end Go.Proofs.YtlgoegjboabgfaaGreatDoor
namespace Go.Proofs.YtlgoegjboabgfaaGreatDoor
open Eng
theorem Eng.RL.small {α : Type} {m : Mem} {en : α → List Value} {size : Nat} {v : Value} {l : List α} (h : RL m en size v l) : l.length ≤ 9223372036854775807 := by
  obtain ⟨a, cap, _, _, h2, h3, _⟩ := h
  unfold maxLen at h3
  omega
structure Line where
  ma : Option Addr
  mc : Nat
  main : List Int
  ba : Option Addr
  bc : Nat
  bonus : List Int
def Line.val (l : Line) : Value := .agg #[.slice l.ma l.main.length l.mc, .slice l.ba l.bonus.length l.bc]
def Line.enc (l : Line) : List Value := [.slice l.ma l.main.length l.mc, .slice l.ba l.bonus.length l.bc]
structure Line.In (m : Mem) (l : Line) : Prop where
  mn : RL m intE 1 (.slice l.ma l.main.length l.mc) l.main
  bn : RL m intE 1 (.slice l.ba l.bonus.length l.bc) l.bonus
theorem Line.In.mono {m m' : Mem} {l : Line} (h : l.In m) (hl : Le m m') : l.In m' := ⟨h.mn.mono hl, h.bn.mono hl⟩
def allIn (lo hi : Int) (l : List Int) : Prop := ∀ x ∈ l, lo ≤ x ∧ x ≤ hi
instance (lo hi : Int) (l : List Int) : Decidable (allIn lo hi l) := by unfold allIn; infer_instance
noncomputable def lineErr (g : Game) (l : Line) : Int :=
  if gameErr g ≠ 0 then gameErr g
  else if (l.main.length : Int) ≠ g.main ∨ (l.bonus.length : Int) ≠ g.bonus then 3
  else if ¬ allIn (if g.kind = 2 then 0 else 1) (if g.kind = 2 then g.of - 1 else g.of) l.main ∨ ¬ allIn 1 g.bonusOf l.bonus then 2
  else if (g.kind ≠ 2 ∧ ¬ l.main.Nodup) ∨ ¬ l.bonus.Nodup then 6
  else 0
structure GameOk (g : Game) : Prop where
  name : nameB g.name = true
  kind : g.kind = 1 ∨ g.kind = 2
  mx : MxOk g
  tm : TmOk g
  ad : addonsErr g.addons = 0
  tr : tiersErr g = 0
theorem gameOk {g : Game} (h : gameErr g = 0) : GameOk g := by
  unfold gameErr at h
  split at h
  · cases h
  · split at h
    · cases h
    · rename_i h1 h2
      by_cases hok : MxOk g ∧ TmOk g
      · rw [okE_t hok] at h
        split at h
        · rename_i h3; exact absurd h h3
        · rename_i h3
          exact ⟨by simpa using h1, by omega, hok.1, hok.2, Classical.not_not.1 h3, h⟩
      · rw [okE_f hok] at h; cases h
theorem allIn_snoc {lo hi x : Int} {l : List Int} {i : Nat} (hx : l[i]? = some x) (h : allIn lo hi (l.take i)) (h' : lo ≤ x ∧ x ≤ hi) : allIn lo hi (l.take (i + 1)) := fun y hy => by
  rw [take_snocA hx] at hy
  rcases List.mem_append.1 hy with hy | hy
  · exact h y hy
  · rw [List.mem_singleton.1 hy]; exact h'
theorem insideI {m : Mem} {v : Value} {l : List Int} (h : RL m intE 1 v l) (lo hi : Int) : PureCall Tryz.prog 151 [v, .int .i64 lo, .int .i64 hi] m (.bool (decide (allIn lo hi l))) := by
  refine CallsS.pure ?_
  have hsm := h.small
  obtain ⟨pa, pcap, rfl⟩ := h.len
  refine enter Tryz.func151 Tryz.ntmps151 rfl rfl ?_
  refine SWP_seq (SWP_region (pB rfl rfl (SL_nil (nx (SWP_seq (SWP_seq (SWP_region (pL rfl rfl (pu rfl rfl (pI rfl rfl (SL_nil ?_)))))))))))
  refine nx (SWP_block ?_)
  refine SWP_loop [6, 8, 11, 12, 13, 14, 15, 16, 17, 18, 19, 20, 21, 22, 23] [11]
      (fun vs σ' m' => ∃ (i : Nat), vs = [.int .i64 (i : Nat)] ∧ i ≤ l.length ∧ allIn lo hi (l.take i) ∧ σ' = [] ∧ m = m')
      (fun vs => l.length - nOf (vs.getD 0 undef)) rfl ?_ ?_
  · exact ⟨0, rfl, by omega, fun x h => (by cases h), rfl, rfl⟩
  intro u0 vs0 σ0 m0 hJ0 _
  obtain ⟨i, rfl, hi, hall, rfl, rfl⟩ := hJ0
  refine SWP_seq (SWP_region ?_)
  refine pc rfl rfl (fun c12 => ?_) (fun c12 => ?_)
  · skip
    refine SL_nil (nx (SWP_seq (SWP_ct rfl (SWP_skip (nx (SWP_seq (SWP_block (SWP_seq ?_))))))))
    obtain ⟨x, hx⟩ : ∃ x, l[i]? = some x := ⟨_, List.getElem?_eq_getElem (by omega)⟩
    obtain ⟨ad, e0, _, hat⟩ := h.atI hx
    cases e0
    refine SWP_region ?_
    refine ia (es := 1) rfl rfl rfl (Nat.mul_one _) rfl rfl (by omega) rfl ?_
    refine ldA (v := .int .i64 _) rfl (by assumption) rfl rfl ?_
    refine pI rfl rfl (SL_nil (nx (SWP_seq (SWP_region (pI rfl rfl (pI rfl rfl ?_))))))
    refine pc rfl rfl (fun c17 => ?_) (fun c17 => ?_)
    · skip
      refine pB rfl rfl (SL_no rfl rfl (SL_no rfl rfl (SL_no rfl rfl (pB rfl rfl (SL_nil (nx (SWP_ct rfl (SWP_seq (SWP_region (pB rfl rfl (SL_nil ?_)))))))))))
      refine nx (SWP_ret (br (nr (nr (br (nr ?_))))))
      refine fin [_] ⟨rfl, trivial⟩ ?_
      exact congrArg Value.bool (decide_eq_false fun h => by have := h x (List.mem_of_getElem? hx); omega).symm
    refine pB rfl rfl (SL_yes rfl (pI rfl rfl (SL_yes rfl (pI rfl rfl (SL_yes rfl ?_)))))
    refine pc rfl rfl (fun c21 => ?_) (fun c21 => ?_)
    · skip
      refine pB rfl rfl (SL_nil (nx (SWP_ct rfl (SWP_seq (SWP_region (pB rfl rfl (SL_nil (nx (SWP_ret (br (nr ?_)))))))))))
      refine nr (br (nr ?_))
      refine fin [_] ⟨rfl, trivial⟩ ?_
      exact congrArg Value.bool (decide_eq_false fun h => by have := h x (List.mem_of_getElem? hx); omega).symm
    refine pB rfl rfl (SL_nil (nx (SWP_cf rfl (SWP_skip (nb (nx (SWP_region ?_)))))))
    refine pw rfl rfl (w64 (by omega) (by omega)) ?_
    refine pI rfl rfl (SL_nil (nx ?_))
    refine ⟨by repeat (first | exact Under.upds rfl (Under.hav _ _ _) | exact Under.hav _ _ _ | refine Under.upd rfl ?_), ?_, ?_⟩
    · exact ⟨i + 1, rfl, by omega, allIn_snoc hx hall (by omega), rfl, rfl⟩
    · simp only [L_vals, List.map, List.getD]; show l.length - (i + 1) < l.length - i; omega
  refine SL_nil (nx (SWP_seq (SWP_cf rfl (SWP_exit (ne (ne (be rfl (nx (SWP_seq (SWP_region (pB rfl rfl ?_)))))))))))
  refine SL_nil (nx (SWP_ret ?_))
  refine fin [_] ⟨rfl, trivial⟩ ?_
  (refine congrArg Value.bool (decide_eq_true ?_).symm; rw [List.take_of_length_le (by omega)] at hall; exact hall)
theorem indexI {m : Mem} {v : Value} {l : List Int} (h : RL m intE 1 v l) (x : Int) : CallsS Tryz.prog 190 [v, .int .i64 x].toArray [] m fun r σ' m' => σ' = [] ∧ m' = m ∧ ∃ k : Int, r = .int .i64 k ∧ (0 ≤ k ↔ x ∈ l) := by
  refine CallsS.forget (R := fun r => ∃ k : Int, r = .int .i64 k ∧ (0 ≤ k ↔ x ∈ l)) ?_
  have hsm := h.small
  obtain ⟨pa, pcap, rfl⟩ := h.len
  refine enter Tryz.func190 Tryz.ntmps190 rfl rfl ?_
  refine SWP_seq (SWP_region (pI rfl rfl (SL_nil (nx (SWP_seq (SWP_seq (SWP_region (pL rfl rfl (pu rfl rfl (pI rfl rfl (SL_nil ?_)))))))))))
  refine nx (SWP_block ?_)
  refine SWP_loop [4, 5, 8, 9, 10, 11, 12, 13, 14, 15, 16, 17, 18] [8]
      (fun vs σ' m' => ∃ (i : Nat), vs = [.int .i64 (i : Nat)] ∧ i ≤ l.length ∧ x ∉ l.take i ∧ σ' = [] ∧ m = m')
      (fun vs => l.length - nOf (vs.getD 0 undef)) rfl ?_ ?_
  · exact ⟨0, rfl, by omega, by simp, rfl, rfl⟩
  intro u0 vs0 σ0 m0 hJ0 _
  obtain ⟨i, rfl, hi, hno, rfl, rfl⟩ := hJ0
  refine SWP_seq (SWP_region ?_)
  refine pc rfl rfl (fun c9 => ?_) (fun c9 => ?_)
  · skip
    refine SL_nil (nx (SWP_seq (SWP_ct rfl (SWP_skip (nx (SWP_seq (SWP_block (SWP_seq ?_))))))))
    obtain ⟨y, hy⟩ : ∃ y, l[i]? = some y := ⟨_, List.getElem?_eq_getElem (by omega)⟩
    obtain ⟨ad, e0, _, hat⟩ := h.atI hy
    cases e0
    refine SWP_region (pI rfl rfl (pI rfl rfl (SL_nil (nx (SWP_seq (SWP_region (pI rfl rfl (pL rfl rfl (pI rfl rfl ?_)))))))))
    refine ia (es := 1) rfl rfl rfl (Nat.mul_one _) rfl rfl (by omega) rfl ?_
    refine ldA (v := .int .i64 _) rfl (by assumption) rfl rfl ?_
    refine pc rfl rfl (fun c16 => ?_) (fun c16 => ?_)
    · skip
      refine SL_nil (nx (SWP_ct rfl (SWP_seq (SWP_region (pI rfl rfl (pI rfl rfl (SL_nil (nx (SWP_ret (br (nr ?_)))))))))))
      refine nr (br (nr ?_))
      refine fin [_] ⟨rfl, trivial⟩ ?_
      exact ⟨_, rfl, fun _ => by rw [c16]; exact List.mem_of_getElem? hy, fun _ => by omega⟩
    refine SL_nil (nx (SWP_cf rfl (SWP_skip (nb (nx (SWP_region ?_))))))
    refine pw rfl rfl (w64 (by omega) (by omega)) ?_
    refine pI rfl rfl (SL_nil (nx ?_))
    refine ⟨by repeat (first | exact Under.upds rfl (Under.hav _ _ _) | exact Under.hav _ _ _ | refine Under.upd rfl ?_), ?_, ?_⟩
    · refine ⟨i + 1, rfl, by omega, fun hm => ?_, rfl, rfl⟩
      rw [take_snocA hy] at hm
      rcases List.mem_append.1 hm with hm | hm
      · exact hno hm
      · rw [List.mem_singleton] at hm; exact c16 hm
    · simp only [L_vals, List.map, List.getD]; show l.length - (i + 1) < l.length - i; omega
  refine SL_nil (nx (SWP_seq (SWP_cf rfl (SWP_exit (ne (ne (be rfl (nx (SWP_seq (SWP_region (pI rfl rfl ?_)))))))))))
  refine SL_nil (nx (SWP_ret ?_))
  refine fin [_] ⟨rfl, trivial⟩ ?_
  refine ⟨_, rfl, fun h => by omega, fun hm => ?_⟩
  rw [List.take_of_length_le (by omega)] at hno
  exact absurd hm hno
theorem containsI {m : Mem} {v : Value} {l : List Int} (h : RL m intE 1 v l) (x : Int) : PureCall Tryz.prog 174 [v, .int .i64 x] m (.bool (decide (x ∈ l))) := by
  refine CallsS.pure ?_
  refine enter Tryz.func174 Tryz.ntmps174 rfl rfl ?_
  refine SWP_seq (SWP_region (pB rfl rfl (SL_nil (nx (SWP_seq (SWP_region (pu rfl rfl (pI rfl rfl ?_))))))))
  refine SL_call rfl rfl cb190 (indexI h x) rfl (fun v1_2 σ1_2 m1_2 hl1_2 hR1_2 => ?_)
  obtain ⟨rfl, hm1_2, k, rfl, hk⟩ := hR1_2
  have hn1_2 := hm1_2.symm
  subst hn1_2
  refine pu rfl rfl (pB rfl rfl (SL_nil (nx (SWP_ret ?_))))
  refine fin [_] ⟨rfl, trivial⟩ ?_
  exact congrArg Value.bool (decide_eq_decide.2 hk)
theorem nodup_snoc {l : List Int} {x : Int} {i : Nat} (hx : l[i]? = some x) : (l.take (i + 1)).Nodup ↔ (l.take i).Nodup ∧ x ∉ l.take i := by
  rw [take_snocA hx, List.nodup_append]
  constructor
  · exact fun h => ⟨h.1, fun hm => h.2.2 x hm x (by simp) rfl⟩
  · exact fun h => ⟨h.1, by simp, fun a ha b hb e => by simp only [List.mem_singleton] at hb; subst hb; subst e; exact h.2 ha⟩
theorem not_nodup_take {l : List Int} {x : Int} {i : Nat} (hx : l[i]? = some x) (h : x ∈ l.take i) : ¬ l.Nodup := fun hn => ((nodup_snoc hx).1 (hn.sublist (List.take_sublist _ _))).2 h
theorem repeatedI {m : Mem} {v : Value} {l : List Int} (h : RL m intE 1 v l) : PureCall Tryz.prog 152 [v] m (.bool (decide (¬ l.Nodup))) := by
  refine CallsS.pure ?_
  have hsm := h.small
  obtain ⟨pa, pcap, rfl⟩ := h.len
  obtain ⟨hcp, _⟩ := h.capI
  refine enter Tryz.func152 Tryz.ntmps152 rfl rfl ?_
  refine SWP_seq (SWP_region (pB rfl rfl (SL_nil (nx (SWP_seq (SWP_seq (SWP_region (pL rfl rfl (pu rfl rfl (pI rfl rfl (SL_nil ?_)))))))))))
  refine nx (SWP_block ?_)
  refine SWP_loop [2, 3, 4, 7, 8, 9, 10, 11, 12, 13, 14, 15, 16, 17] [7]
      (fun vs σ' m' => ∃ (i : Nat), vs = [.int .i64 (i : Nat)] ∧ i ≤ l.length ∧ (l.take i).Nodup ∧ σ' = [] ∧ m = m')
      (fun vs => l.length - nOf (vs.getD 0 undef)) rfl ?_ ?_
  · exact ⟨0, rfl, by omega, by simp, rfl, rfl⟩
  intro u0 vs0 σ0 m0 hJ0 _
  obtain ⟨i, rfl, hi, hnd, rfl, rfl⟩ := hJ0
  refine SWP_seq (SWP_region ?_)
  refine pc rfl rfl (fun c8 => ?_) (fun c8 => ?_)
  · skip
    refine SL_nil (nx (SWP_seq (SWP_ct rfl (SWP_skip (nx (SWP_seq (SWP_block (SWP_seq ?_))))))))
    obtain ⟨x, hx⟩ : ∃ x, l[i]? = some x := ⟨_, List.getElem?_eq_getElem (by omega)⟩
    obtain ⟨ad, e0, _, hat⟩ := h.atI hx
    cases e0
    refine SWP_region (pI rfl rfl ?_)
    refine ia (es := 1) rfl rfl rfl (Nat.mul_one _) rfl rfl (by omega) rfl ?_
    refine ldA (v := .int .i64 _) rfl (by assumption) rfl rfl ?_
    refine pI rfl rfl (pI rfl rfl (SL_nil (nx (SWP_seq (SWP_region (pL rfl rfl (pI rfl rfl ?_)))))))
    refine slh (size := 1) rfl rfl rfl rfl rfl (by omega) (by omega) rfl ?_
    have hsub := RL.sub intE_len h (Nat.zero_le i) (by omega)
    rw [List.drop_zero] at hsub
    rw [Int.toNat_natCast]
    refine pI rfl rfl ?_
    refine SL_pcall rfl rfl cb174 (containsI hsub x) rfl ?_
    refine psp 16 rfl (fun c16 => ?_) (fun c16 => ?_)
    · skip
      refine SL_nil (nx (SWP_ct rfl (SWP_seq (SWP_region (pB rfl rfl (SL_nil (nx (SWP_ret (br (nr (nr ?_)))))))))))
      refine br (nr ?_)
      refine fin [_] ⟨rfl, trivial⟩ ?_
      exact congrArg Value.bool (decide_eq_true (not_nodup_take hx c16)).symm
    refine SL_nil (nx (SWP_cf rfl (SWP_skip (nb (nx (SWP_region ?_))))))
    refine pw rfl rfl (w64 (by omega) (by omega)) ?_
    refine pI rfl rfl (SL_nil (nx ?_))
    refine ⟨by repeat (first | exact Under.upds rfl (Under.hav _ _ _) | exact Under.hav _ _ _ | refine Under.upd rfl ?_), ?_, ?_⟩
    · exact ⟨i + 1, rfl, by omega, (nodup_snoc hx).2 ⟨hnd, c16⟩, rfl, rfl⟩
    · simp only [L_vals, List.map, List.getD]; show l.length - (i + 1) < l.length - i; omega
  refine SL_nil (nx (SWP_seq (SWP_cf rfl (SWP_exit (ne (ne (be rfl (nx (SWP_seq (SWP_region (pB rfl rfl ?_)))))))))))
  refine SL_nil (nx (SWP_ret ?_))
  refine fin [_] ⟨rfl, trivial⟩ ?_
  refine congrArg Value.bool (decide_eq_false ?_).symm
  rw [List.take_of_length_le (by omega)] at hnd
  exact Classical.not_not.2 hnd
set_option maxRecDepth 100000 in
theorem lineI {m : Mem} {g : Game} {l : Line} (hin : g.In m) (hl : l.In m) : PureCall Tryz.prog 118 [g.val, l.val] m (.int .i64 (lineErr g l)) := by
  refine CallsS.pure ?_
  dsimp only [Game.val, Line.val]
  refine enter Tryz.func118 Tryz.ntmps118 rfl rfl ?_
  refine SWP_seq (SWP_region ?_)
  refine bx (v := .agg _) rfl rfl (fun B2 => ?_)
  refine bx (v := .agg _) rfl rfl (fun B3 => ?_)
  refine pI rfl rfl (SL_nil (nx (SWP_seq (SWP_seq (SWP_region ?_)))))
  refine lw (v := .agg _) B2 0 rfl rfl rfl rfl ?_
  refine SL_call rfl rfl cb42 (CallsS.frame0 (checkI hin)) rfl (fun v1_1 σ1_1 m1_1 hl1_1 hR1_1 => ?_)
  obtain ⟨σc, rfl, rfl, hm1_1, s, rfl⟩ := hR1_1
  have hn1_1 := hm1_1.symm
  subst hn1_1
  refine pu rfl rfl (pI rfl rfl (pS rfl rfl (pI rfl rfl (pS rfl rfl (SL_nil (nx (SWP_seq (SWP_region (pI rfl rfl ?_)))))))))
  refine pc rfl rfl (fun c16 => ?_) (fun c16 => ?_)
  · skip
    refine SL_nil (nx (SWP_ct rfl (SWP_seq (SWP_region (pI rfl rfl (pI rfl rfl (SL_nil (nx (SWP_ret (nr ?_))))))))))
    refine fin [_] ⟨rfl, trivial⟩ ?_
    refine congrArg (Value.int .i64) ?_
    unfold lineErr
    rw [if_pos (by omega)]
  refine SL_nil (nx (SWP_cf rfl (SWP_skip (nx ?_))))
  refine SWP_merge1 [4, 18, 19, 20, 21, 22, 23, 24, 25, 26, 27, 28, 29, 30, 31] []
      (fun vs σ' m' => vs = [] ∧ (l.main.length : Int) = g.main ∧ (l.bonus.length : Int) = g.bonus ∧ σ' = [(B3, Cells 142 l.enc), (B2, Cells 31 g.enc)] ∧ m = m')
      rfl ?_ ?_
  · skip
    refine SWP_seq (SWP_region (pu rfl rfl ?_))
    refine lw (v := .slice _ _ _) B3 0 rfl rfl rfl rfl ?_
    refine pu rfl rfl (pu rfl rfl ?_)
    refine lw (v := .int .i64 _) B2 3 rfl rfl rfl rfl ?_
    refine pc rfl rfl (fun c23 => ?_) (fun c23 => ?_)
    · skip
      refine pB rfl rfl (SL_no rfl rfl (SL_no rfl rfl (SL_no rfl rfl (SL_no rfl rfl (SL_no rfl rfl (SL_no rfl rfl (pB rfl rfl (SL_nil (nx (SWP_ct rfl (SWP_seq ?_)))))))))))
      refine SWP_region (pI rfl rfl (SL_nil (nx (SWP_ret (nr ?_)))))
      refine fin [_] ⟨rfl, trivial⟩ ?_
      refine congrArg (Value.int .i64) ?_
      unfold lineErr
      rw [if_neg (by omega), if_pos (by omega)]
    refine pB rfl rfl (SL_yes rfl (pu rfl rfl (SL_yes rfl ?_)))
    refine lw (v := .slice _ _ _) B3 1 rfl rfl rfl rfl ?_
    refine SL_yes rfl (pu rfl rfl (SL_yes rfl (pu rfl rfl (SL_yes rfl ?_))))
    refine lw (v := .int .i64 _) B2 5 rfl rfl rfl rfl ?_
    refine SL_yes rfl ?_
    refine pc rfl rfl (fun c30 => ?_) (fun c30 => ?_)
    · skip
      refine pB rfl rfl (SL_nil (nx (SWP_ct rfl (SWP_seq (SWP_region (pI rfl rfl (SL_nil (nx (SWP_ret (nr ?_))))))))))
      refine fin [_] ⟨rfl, trivial⟩ ?_
      refine congrArg (Value.int .i64) ?_
      unfold lineErr
      rw [if_neg (by omega), if_pos (by omega)]
    refine pB rfl rfl (SL_nil (nx (SWP_cf rfl (SWP_skip (nx ?_)))))
    refine ⟨by repeat (first | with_reducible exact Under.refl _ _ | exact Under.upds rfl (Under.hav _ _ _) | exact Under.hav _ _ _ | refine Under.upd rfl ?_ | refine Under.upds rfl ?_ | refine Under.hav2 rfl ?_), ?_⟩
    exact ⟨rfl, by omega, by omega, rfl, rfl⟩
  intro uM0 vM0 σM0 mM0 hM0 _
  obtain ⟨rfl, hm1, hm2, rfl, rfl⟩ := hM0
  have hz : gameErr g = 0 := by omega
  have hok := gameOk hz
  dsimp only [Line.enc, Game.enc]
  refine SWP_seq (SWP_region (pu rfl rfl ?_))
  refine lw (v := .int .i64 _) B2 1 rfl rfl rfl rfl ?_
  refine pu rfl rfl (pB rfl rfl (SL_nil (nx (SWP_seq ?_))))
  refine SWP_draws (by kernel_rfl) (by kernel_rfl) ?_
  refine pu rfl rfl ?_
  refine lw (v := .int .i64 _) B2 4 rfl rfl rfl rfl ?_
  refine pI rfl rfl (pI rfl rfl (SL_nil (nx ?_)))
  refine SWP_merge1 [8, 9, 37, 38, 39, 40] [8, 9]
      (fun vs σ' m' => vs = [.int .i64 (if g.kind = 2 then 0 else 1), .int .i64 (if g.kind = 2 then g.of - 1 else g.of)] ∧ σ' = [(B3, Cells 142 l.enc), (B2, Cells 31 g.enc)] ∧ m = m')
      rfl ?_ ?_
  · skip
    refine SWP_seq (SWP_region ?_)
    refine pu (v := .bool (decide (g.kind = 2))) rfl rfl ?_
    refine psp 37 rfl (fun c37 => ?_) (fun c37 => ?_)
    · skip
      refine SL_nil (nx (SWP_ct rfl ?_))
      refine SWP_draws (by kernel_rfl) (by kernel_rfl) ?_
      refine pu rfl rfl ?_
      refine lw (v := .int .i64 _) B2 4 rfl rfl rfl rfl ?_
      refine pw rfl rfl (w64 (by have := hok.mx.h3; have := hok.mx.h4; omega) (by have := hok.mx.h3; have := hok.mx.h4; omega)) ?_
      refine pI rfl rfl (pI rfl rfl (SL_nil (nx ?_)))
      refine ⟨by repeat (first | with_reducible exact Under.refl _ _ | exact Under.upds rfl (Under.hav _ _ _) | exact Under.hav _ _ _ | refine Under.upd rfl ?_ | refine Under.upds rfl ?_ | refine Under.hav2 rfl ?_), ?_⟩
      refine ⟨?_, rfl, rfl⟩
      (rw [if_pos c37, if_pos c37]; rfl)
    refine SL_nil (nx (SWP_cf rfl (SWP_skip (nx ?_))))
    refine ⟨by repeat (first | with_reducible exact Under.refl _ _ | exact Under.upds rfl (Under.hav _ _ _) | exact Under.hav _ _ _ | refine Under.upd rfl ?_ | refine Under.upds rfl ?_ | refine Under.hav2 rfl ?_), ?_⟩
    refine ⟨?_, rfl, rfl⟩
    (rw [if_neg c37, if_neg c37]; rfl)
  intro uM1 vM1 σM1 mM1 hM1 _
  obtain ⟨rfl, rfl, rfl⟩ := hM1
  dsimp only [Line.enc, Game.enc]
  refine SWP_merge1 [4, 41, 42, 43, 44, 45, 46, 47, 48, 49, 50, 51, 52, 53, 54] []
      (fun vs σ' m' => vs = [] ∧ (allIn (if g.kind = 2 then 0 else 1) (if g.kind = 2 then g.of - 1 else g.of) l.main ∧ allIn 1 g.bonusOf l.bonus) ∧ σ' = [(B3, Cells 142 l.enc), (B2, Cells 31 g.enc)] ∧ m = m')
      rfl ?_ ?_
  · skip
    refine SWP_seq (SWP_region (pu rfl rfl ?_))
    refine lw (v := .slice _ _ _) B3 0 rfl rfl rfl rfl ?_
    refine pI rfl rfl (pI rfl rfl ?_)
    refine SL_pcall rfl rfl cb151 (insideI hl.mn _ _) rfl ?_
    refine psp 45 rfl (fun c45 => ?_) (fun c45 => ?_)
    · skip
      refine pB rfl rfl (pB rfl rfl (SL_yes rfl (pu rfl rfl (SL_yes rfl ?_))))
      refine lw (v := .slice _ _ _) B3 1 rfl rfl rfl rfl ?_
      refine SL_yes rfl (pu rfl rfl (SL_yes rfl ?_))
      refine lw (v := .int .i64 _) B2 6 rfl rfl rfl rfl ?_
      refine SL_yes rfl ?_
      refine SL_pcall rfl rfl cb151 (insideI hl.bn _ _) rfl ?_
      refine psp 52 rfl (fun c52 => ?_) (fun c52 => ?_)
      · skip
        refine SL_yes rfl (pB rfl rfl (pB rfl rfl (SL_nil (nx (SWP_cf rfl (SWP_skip (nx ?_)))))))
        refine ⟨by repeat (first | with_reducible exact Under.refl _ _ | exact Under.upds rfl (Under.hav _ _ _) | exact Under.hav _ _ _ | refine Under.upd rfl ?_ | refine Under.upds rfl ?_ | refine Under.hav2 rfl ?_), ?_⟩
        exact ⟨rfl, ⟨c45, c52⟩, rfl, rfl⟩
      refine SL_yes rfl (pB rfl rfl (pB rfl rfl (SL_nil (nx (SWP_ct rfl (SWP_seq (SWP_region (pI rfl rfl (SL_nil (nx (SWP_ret ?_)))))))))))
      refine nr ?_
      refine fin [_] ⟨rfl, trivial⟩ ?_
      refine congrArg (Value.int .i64) ?_
      unfold lineErr
      rw [if_neg (by omega), if_neg (by omega), if_pos (.inr c52)]
    refine pB rfl rfl (pB rfl rfl (SL_no rfl rfl (SL_no rfl rfl (SL_no rfl rfl (SL_no rfl rfl (SL_no rfl rfl (SL_no rfl rfl (pB rfl rfl (SL_nil (nx (SWP_ct rfl ?_)))))))))))
    refine SWP_seq (SWP_region (pI rfl rfl (SL_nil (nx (SWP_ret (nr ?_))))))
    refine fin [_] ⟨rfl, trivial⟩ ?_
    refine congrArg (Value.int .i64) ?_
    unfold lineErr
    rw [if_neg (by omega), if_neg (by omega), if_pos (.inl c45)]
  intro uM2 vM2 σM2 mM2 hM2 _
  obtain ⟨rfl, hai, rfl, rfl⟩ := hM2
  dsimp only [Line.enc, Game.enc]
  refine SWP_seq (SWP_seq (SWP_region ?_))
  refine pu (v := .bool (decide (g.kind = 2))) rfl rfl ?_
  refine psp 55 rfl (fun c55 => ?_) (fun c55 => ?_)
  · skip
    refine pB rfl rfl (pB rfl rfl (SL_no rfl rfl (SL_no rfl rfl (SL_no rfl rfl (pB rfl rfl (pB rfl rfl (SL_yes rfl (pu rfl rfl (SL_yes rfl ?_)))))))))
    refine lw (v := .slice _ _ _) B3 1 rfl rfl rfl rfl ?_
    refine SL_yes rfl ?_
    refine SL_pcall rfl rfl cb152 (repeatedI hl.bn) rfl ?_
    refine psp 65 rfl (fun c65 => ?_) (fun c65 => ?_)
    · skip
      refine pB rfl rfl (SL_nil (nx (SWP_ct rfl (SWP_seq (SWP_region (pI rfl rfl (SL_nil (nx (SWP_ret (nr ?_))))))))))
      refine fin [_] ⟨rfl, trivial⟩ ?_
      refine congrArg (Value.int .i64) ?_
      unfold lineErr
      rw [if_neg (by omega), if_neg (by omega), if_neg (fun h => h.elim (fun h => h hai.1) (fun h => h hai.2))]
      exact (if_pos (.inr (by assumption))).symm
    refine pB rfl rfl (SL_nil (nx (SWP_cf rfl (SWP_skip (nx (SWP_seq (SWP_region (pI rfl rfl (SL_nil (nx (SWP_ret ?_)))))))))))
    refine fin [_] ⟨rfl, trivial⟩ ?_
    refine congrArg (Value.int .i64) ?_
    unfold lineErr
    rw [if_neg (by omega), if_neg (by omega), if_neg (fun h => h.elim (fun h => h hai.1) (fun h => h hai.2))]
    exact (if_neg (fun h => h.elim (fun h => by first | exact absurd h.2 (by assumption) | exact absurd h.1 (by omega)) (by assumption))).symm
  refine pB rfl rfl (pB rfl rfl (SL_yes rfl (pu rfl rfl (SL_yes rfl ?_))))
  refine lw (v := .slice _ _ _) B3 0 rfl rfl rfl rfl ?_
  refine SL_yes rfl ?_
  refine SL_pcall rfl rfl cb152 (repeatedI hl.mn) rfl ?_
  refine psp 60 rfl (fun c60 => ?_) (fun c60 => ?_)
  · skip
    refine pB rfl rfl (pB rfl rfl (SL_no rfl rfl (SL_no rfl rfl (SL_no rfl rfl (pB rfl rfl (SL_nil (nx (SWP_ct rfl (SWP_seq (SWP_region (pI rfl rfl ?_)))))))))))
    refine SL_nil (nx (SWP_ret (nr ?_)))
    refine fin [_] ⟨rfl, trivial⟩ ?_
    refine congrArg (Value.int .i64) ?_
    unfold lineErr
    rw [if_neg (by omega), if_neg (by omega), if_neg (fun h => h.elim (fun h => h hai.1) (fun h => h hai.2))]
    exact (if_pos (.inl ⟨by omega, by assumption⟩)).symm
  refine pB rfl rfl (pB rfl rfl (SL_yes rfl (pu rfl rfl (SL_yes rfl ?_))))
  refine lw (v := .slice _ _ _) B3 1 rfl rfl rfl rfl ?_
  refine SL_yes rfl ?_
  refine SL_pcall rfl rfl cb152 (repeatedI hl.bn) rfl ?_
  refine psp 65 rfl (fun c65 => ?_) (fun c65 => ?_)
  · skip
    refine pB rfl rfl (SL_nil (nx (SWP_ct rfl (SWP_seq (SWP_region (pI rfl rfl (SL_nil (nx (SWP_ret (nr ?_))))))))))
    refine fin [_] ⟨rfl, trivial⟩ ?_
    refine congrArg (Value.int .i64) ?_
    unfold lineErr
    rw [if_neg (by omega), if_neg (by omega), if_neg (fun h => h.elim (fun h => h hai.1) (fun h => h hai.2))]
    exact (if_pos (.inr (by assumption))).symm
  refine pB rfl rfl (SL_nil (nx (SWP_cf rfl (SWP_skip (nx (SWP_seq (SWP_region (pI rfl rfl (SL_nil (nx (SWP_ret ?_)))))))))))
  refine fin [_] ⟨rfl, trivial⟩ ?_
  refine congrArg (Value.int .i64) ?_
  unfold lineErr
  rw [if_neg (by omega), if_neg (by omega), if_neg (fun h => h.elim (fun h => h hai.1) (fun h => h hai.2))]
  exact (if_neg (fun h => h.elim (fun h => by first | exact absurd h.2 (by assumption) | exact absurd h.1 (by omega)) (by assumption))).symm
end Go.Proofs.YtlgoegjboabgfaaGreatDoor
namespace Go.Proofs.YtlgoegjboabgfaaGreatDoor
open Eng
theorem wrapU (x : Int) : IntKind.u64.wrap x = x % 18446744073709551616 := by simp [IntKind.wrap, IntKind.bits, IntKind.signed]
theorem wrapV (x : Int) : IntKind.u32.wrap x = x % 4294967296 := by simp [IntKind.wrap, IntKind.bits, IntKind.signed]
def u32E (x : Int) : List Value := [.int .u32 x]
theorem u32E_len (x : Int) : (u32E x).length = 1 := rfl
theorem all_u32E : ∀ l : List Int, (l.flatMap u32E).all (·.oneCell') = true
  | [] => rfl
  | x :: l => by rw [List.flatMap_cons, List.all_append, all_u32E l]; rfl
theorem Eng.RL.atV {m : Mem} {k n c : Nat} {a : Option Addr} {l : List Int} {x : Int} (h : RL m u32E 1 (.slice a n c) l) (hk : l[k]? = some x) : ∃ ad, a = some ad ∧ n = l.length ∧ At m (ad.add k) (u32E x) := by
  have := Eng.RL.atA u32E_len h hk
  simpa using this
theorem getDV {l : List Int} {i : Nat} {x : Int} (h : l[i]? = some x) : l.getD i 0 = x := by rw [List.getD_eq_getElem?_getD, h]; rfl
def valL : List Int → Int
  | [] => 0
  | a :: l => a + 4294967296 * valL l
def okL (l : List Int) : Prop := ∀ x ∈ l, 0 ≤ x ∧ x < 4294967296
theorem okL_cons {a : Int} {l : List Int} : okL (a :: l) ↔ (0 ≤ a ∧ a < 4294967296) ∧ okL l := by
  unfold okL; simp
theorem okL_take {l : List Int} (h : okL l) (n : Nat) : okL (l.take n) := fun x hx => h x (List.mem_of_mem_take hx)
def natL (N : Int) : List Int := if N = 0 then [] else if N < 4294967296 then [N] else [N % 4294967296, N / 4294967296]
theorem natL_len (N : Int) : (natL N).length ≤ 2 := by
  unfold natL
  split
  · simp
  · split <;> simp
theorem valL_natL (N : Int) : valL (natL N) = N := by
  unfold natL
  split
  · rename_i h; rw [h]; rfl
  · split
    · show N + 4294967296 * 0 = N; omega
    · show N % 4294967296 + 4294967296 * (N / 4294967296 + 4294967296 * 0) = N; omega
theorem okL_natL {N : Int} (h : 0 ≤ N) (h' : N < 18446744073709551616) : okL (natL N) := by
  unfold natL okL
  intro x hx
  split at hx
  · cases hx
  · split at hx
    · rw [List.mem_singleton] at hx; omega
    · rcases List.mem_cons.1 hx with hx | hx
      · omega
      · rw [List.mem_singleton] at hx; omega
def tidyL (l : List Int) : Prop := l = [] ∨ l.getD (l.length - 1) 0 ≠ 0
theorem tidy_pos : ∀ {l : List Int}, okL l → l ≠ [] → tidyL l → 1 ≤ valL l
  | [], _, h, _ => absurd rfl h
  | [a], h, _, ht => by
    rcases ht with ht | ht
    · cases ht
    · have h1 := (okL_cons.1 h).1
      have ht' : a ≠ 0 := ht
      show 1 ≤ a + 4294967296 * 0; omega
  | a :: b :: l, h, _, ht => by
    have h1 := (okL_cons.1 h).1
    have h2 : 1 ≤ valL (b :: l) := tidy_pos (okL_cons.1 h).2 (fun e => by cases e) (by
      rcases ht with ht | ht
      · cases ht
      · refine .inr ?_
        simpa using ht)
    show 1 ≤ a + 4294967296 * valL (b :: l); omega
theorem natL_of {l : List Int} (h : okL l) (ht : tidyL l) {N : Int} (hv : valL l = N) (hN : N < 18446744073709551616) : l = natL N := by
  match l, h, ht, hv with
  | [], _, _, hv => rw [← hv]; rfl
  | [a], h, ht, hv =>
    have h1 := tidy_pos h (fun e => by cases e) ht
    have h2 := (okL_cons.1 h).1
    have h3 : a + 4294967296 * 0 = N := hv
    unfold natL
    rw [if_neg (by omega), if_pos (by omega)]
    rw [show a = N by omega]
  | [a, b], h, ht, hv =>
    have h1 := (okL_cons.1 h).1
    have h2 := (okL_cons.1 (okL_cons.1 h).2).1
    have hb : b ≠ 0 := by
      rcases ht with ht | ht
      · cases ht
      · exact ht
    have h3 : a + 4294967296 * (b + 4294967296 * 0) = N := hv
    unfold natL
    rw [if_neg (by omega), if_neg (by omega), show a = N % 4294967296 by omega, show b = N / 4294967296 by omega]
  | a :: b :: c :: l, h, ht, hv =>
    have h1 := (okL_cons.1 h).1
    have h2 := (okL_cons.1 (okL_cons.1 h).2).1
    have h3 : 1 ≤ valL (c :: l) := tidy_pos (okL_cons.1 (okL_cons.1 h).2).2 (fun e => by cases e) (by
      rcases ht with ht | ht
      · cases ht
      · refine .inr ?_
        simpa using ht)
    have h4 : a + 4294967296 * (b + 4294967296 * valL (c :: l)) = N := hv
    omega
theorem tidy_natL {N : Int} (h : 0 ≤ N) : tidyL (natL N) := by
  unfold natL tidyL
  split
  · exact .inl rfl
  · split
    · refine .inr ?_; show N ≠ 0; assumption
    · refine .inr ?_; show N / 4294967296 ≠ 0; omega
def trimN (l : List Int) : Nat → Nat
  | 0 => 0
  | k + 1 => if l.getD k 0 = 0 then trimN l k else k + 1
theorem trimN_le (l : List Int) : ∀ k, trimN l k ≤ k
  | 0 => Nat.le_refl _
  | k + 1 => by
    unfold trimN
    have := trimN_le l k
    split <;> omega
def trimL (l : List Int) : List Int := l.take (trimN l l.length)
theorem trimN_tidy (l : List Int) : ∀ k, k ≤ l.length → tidyL (l.take (trimN l k))
  | 0, _ => .inl (by simp [trimN])
  | k + 1, h => by
    unfold trimN
    split
    · exact trimN_tidy l k (by omega)
    · rename_i h0
      refine .inr ?_
      rw [List.length_take, show min (k + 1) l.length - 1 = k by omega, List.getD_eq_getElem?_getD, List.getElem?_take, if_pos (by omega), ← List.getD_eq_getElem?_getD]
      exact h0
theorem valL_snoc : ∀ (l : List Int), valL (l ++ [0]) = valL l
  | [] => rfl
  | a :: l => by show a + 4294967296 * valL (l ++ [0]) = _; rw [valL_snoc l]; rfl
theorem trimN_val (l : List Int) : ∀ k, k ≤ l.length → valL (l.take (trimN l k)) = valL (l.take k)
  | 0, _ => rfl
  | k + 1, h => by
    unfold trimN
    split
    · rename_i h0
      obtain ⟨x, hx⟩ : ∃ x, l[k]? = some x := ⟨_, List.getElem?_eq_getElem (by omega)⟩
      have hx0 : x = 0 := by rw [← getDV hx]; exact h0
      rw [trimN_val l k (by omega), take_snocA hx, hx0, valL_snoc]
    · rfl
theorem trim_nat {l : List Int} (h : okL l) {N : Int} (hv : valL l = N) (hN : N < 18446744073709551616) : trimL l = natL N :=
  natL_of (okL_take h _) (trimN_tidy l _ (Nat.le_refl _)) (by
    rw [trimN_val l _ (Nat.le_refl _), List.take_length]; exact hv) hN
theorem trimN_pred {l : List Int} {k : Nat} (h0 : 0 < k) (h : l.getD (k - 1) 0 = 0) : trimN l k = trimN l (k - 1) := by
  cases k with
  | zero => omega
  | succ k => exact if_pos h
theorem trimN_stop {l : List Int} {k : Nat} (h0 : 0 < k) (h : l.getD (k - 1) 0 ≠ 0) : trimN l k = k := by
  cases k with
  | zero => omega
  | succ k => exact if_neg h
def trimV (a : Option Addr) (l : List Int) : Value := if trimN l l.length = 0 then .slice none 0 0 else sliced a 0 (trimN l l.length) (trimN l l.length) 1
theorem trim_RL {m : Mem} {a : Option Addr} {c : Nat} {l : List Int} (h : RL m u32E 1 (.slice a l.length c) l) : RL m u32E 1 (trimV a l) (trimL l) := by
  obtain ⟨a', c', e, hc⟩ := h.full
  cases e
  unfold trimV trimL
  have hle := trimN_le l l.length
  by_cases h0 : trimN l l.length = 0
  · rw [if_pos h0, h0, List.take_zero]; exact RL.nil _ _
  · rw [if_neg h0]
    have := RL.sub3 (lo := 0) (hi := trimN l l.length) (mx := trimN l l.length) u32E_len h (by omega) hle (Nat.le_refl _) (by omega)
    rwa [List.drop_zero] at this
theorem trimI {m : Mem} {a : Option Addr} {c : Nat} {l : List Int} (h : RL m u32E 1 (.slice a l.length c) l) : PureCall Tryz.prog 193 [.slice a l.length c] m (.agg #[trimV a l]) := by
  refine CallsS.pure ?_
  have hsm := h.small
  obtain ⟨a0, c0, e0, hcap⟩ := h.full
  cases e0
  refine enter Tryz.func193 Tryz.ntmps193 rfl rfl ?_
  refine SWP_seq (SWP_region ?_)
  refine al rfl rfl (fun B2 => ?_)
  refine SL_nil (nx (SWP_seq (SWP_region (pL rfl rfl (pu rfl rfl (pI rfl rfl (SL_nil (nx (SWP_seq (SWP_block ?_))))))))))
  refine SWP_loop [3, 6, 7, 8, 9, 10, 11, 12, 13, 14, 15, 16, 17] [3]
      (fun vs σ' m' => ∃ (k : Nat), vs = [.int .i64 (k : Nat)] ∧ k ≤ l.length ∧ trimN l l.length = trimN l k ∧ σ' = [(B2, Cells 236 [.slice none 0 0])] ∧ m = m')
      (fun vs => nOf (vs.getD 0 undef)) rfl ?_ ?_
  · exact ⟨l.length, rfl, Nat.le_refl _, rfl, rfl, rfl⟩
  intro u0 vs0 σ0 m0 hJ0 _
  obtain ⟨k, rfl, hk, hT, rfl, rfl⟩ := hJ0
  refine SWP_seq (SWP_seq (SWP_region (pI rfl rfl ?_)))
  refine pc rfl rfl (fun c7 => ?_) (fun c7 => ?_)
  · skip
    refine pB rfl rfl (SL_yes rfl (pL rfl rfl (SL_yes rfl (pI rfl rfl (SL_yes rfl ?_)))))
    refine pw rfl rfl (w64 (by omega) (by omega)) ?_
    have h0k : 0 < k := by omega
    rw [show (k : Int) - 1 = ((k - 1 : Nat) : Int) by omega]
    obtain ⟨x, hx⟩ : ∃ z, l[k - 1]? = some z := ⟨_, List.getElem?_eq_getElem (by omega)⟩
    obtain ⟨adx, ex, _, hatx⟩ := h.atV hx
    cases ex
    have gx := getDV hx
    refine SL_yes rfl ?_
    refine ia (es := 1) rfl rfl rfl (Nat.mul_one _) rfl rfl (by omega) rfl ?_
    refine SL_yes rfl ?_
    refine ldA (v := .int .u32 _) rfl hatx rfl rfl ?_
    refine SL_yes rfl ?_
    refine pc rfl rfl (fun c14 => ?_) (fun c14 => ?_)
    · skip
      refine pB rfl rfl (SL_nil (nx (SWP_ct rfl (SWP_skip (nx (SWP_block (SWP_region (pI rfl rfl ?_))))))))
      refine pw rfl rfl (w64 (by omega) (by omega)) ?_
      rw [show (k : Int) - 1 = ((k - 1 : Nat) : Int) by omega]
      refine pI rfl rfl (SL_nil (nb (nx ?_)))
      refine ⟨by repeat (first | exact Under.upds rfl (Under.hav _ _ _) | exact Under.hav _ _ _ | refine Under.upd rfl ?_), ?_, ?_⟩
      · exact ⟨k - 1, rfl, by omega, hT.trans (trimN_pred h0k (gx.trans (by omega))), rfl, rfl⟩
      · simp only [L_vals, List.map, List.getD]; show k - 1 < k; omega
    refine pB rfl rfl (SL_nil (nx (SWP_cf rfl (SWP_exit (ne (ne (be rfl (nx (SWP_seq (SWP_seq (SWP_region ?_)))))))))))
    refine pI rfl rfl ?_
    refine pc rfl rfl (fun c19 => ?_) (fun c19 => ?_)
    · skip
      refine SL_nil (nx (SWP_ct rfl (SWP_seq (SWP_region (pA rfl rfl ?_)))))
      refine sw (v := .agg _) B2 0 rfl rfl rfl rfl rfl rfl rfl ?_
      refine SL_nil (nx (SWP_ret (nr ?_)))
      refine fin [_] ⟨⟨_, _, rfl, Rd.of_cells (MemO.mem (B := B2)), rfl⟩, trivial⟩ ?_
      omega
    refine SL_nil (nx (SWP_cf rfl (SWP_skip (nx (SWP_seq (SWP_region (pL rfl rfl (pI rfl rfl (pI rfl rfl ?_)))))))))
    refine shm (size := 1) rfl rfl rfl rfl rfl rfl (by omega) (by omega) (by omega) rfl ?_
    rw [Int.toNat_natCast]
    refine pu (v := .agg #[sliced _ 0 k k 1]) rfl rfl ?_
    refine sw (v := .agg _) B2 0 rfl rfl rfl rfl rfl rfl rfl ?_
    refine SL_nil (nx (SWP_ret ?_))
    refine fin [_] ⟨⟨_, _, rfl, Rd.of_cells (MemO.mem (B := B2)), rfl⟩, trivial⟩ ?_
    have hT2 : trimN l l.length = k := hT.trans (trimN_stop h0k (by rw [gx]; assumption))
    unfold trimV
    rw [hT2, if_neg (by omega)]
    rfl
  refine pB rfl rfl (SL_no rfl rfl (SL_no rfl rfl (SL_no rfl rfl (SL_no rfl rfl (SL_no rfl rfl (SL_no rfl rfl (pB rfl rfl (SL_nil (nx (SWP_cf rfl (SWP_exit ?_)))))))))))
  refine ne (ne (be rfl (nx (SWP_seq (SWP_seq (SWP_region (pI rfl rfl ?_)))))))
  refine pc rfl rfl (fun c19 => ?_) (fun c19 => ?_)
  · skip
    refine SL_nil (nx (SWP_ct rfl (SWP_seq (SWP_region (pA rfl rfl ?_)))))
    refine sw (v := .agg _) B2 0 rfl rfl rfl rfl rfl rfl rfl ?_
    refine SL_nil (nx (SWP_ret (nr ?_)))
    refine fin [_] ⟨⟨_, _, rfl, Rd.of_cells (MemO.mem (B := B2)), rfl⟩, trivial⟩ ?_
    have hk0 : k = 0 := by omega
    have e : trimN l l.length = 0 := by rw [hT, hk0]; rfl
    unfold trimV
    rw [if_pos e]
    rfl
  refine SL_nil (nx (SWP_cf rfl (SWP_skip (nx (SWP_seq (SWP_region (pL rfl rfl (pI rfl rfl (pI rfl rfl ?_)))))))))
  refine shm (size := 1) rfl rfl rfl rfl rfl rfl (by omega) (by omega) (by omega) rfl ?_
  rw [Int.toNat_natCast]
  refine pu (v := .agg #[sliced _ 0 k k 1]) rfl rfl ?_
  refine sw (v := .agg _) B2 0 rfl rfl rfl rfl rfl rfl rfl ?_
  refine SL_nil (nx (SWP_ret ?_))
  refine fin [_] ⟨⟨_, _, rfl, Rd.of_cells (MemO.mem (B := B2)), rfl⟩, trivial⟩ ?_
  omega
end Go.Proofs.YtlgoegjboabgfaaGreatDoor
namespace Go.Proofs.YtlgoegjboabgfaaGreatDoor
open Eng
theorem or_lo {y x : Int} (hy₀ : 0 ≤ y) (hy : y < 4294967296) (hx₀ : 0 ≤ x) (hx : x % 4294967296 = 0) (hx₁ : x < 18446744073709551616) : bits .or .u64 y x = y + x := u64_or32 y x hy₀ hy hx₀ hx hx₁
theorem or_hi {y x : Int} (hy₀ : 0 ≤ y) (hy : y < 4294967296) (hx₀ : 0 ≤ x) (hx : x % 4294967296 = 0) (hx₁ : x < 18446744073709551616) : bits .or .u64 x y = x + y :=
  bits_join .u64 64 (by decide) wraps_u64 32 x y hx₀ hx hx₁ hy₀ hy (by omega)
theorem fdiv32 {N : Int} (h : 0 ≤ N) : N.fdiv (2 ^ (min (32 : Int).toNat IntKind.u64.bits)) = N / 4294967296 := by
  show N.fdiv 4294967296 = _
  exact Int.fdiv_eq_ediv_of_nonneg _ (by decide)
def divS (D : Int) : List Int → List Int × Int
  | [] => ([], 0)
  | a :: l => (((divS D l).2 * 4294967296 + a) / D :: (divS D l).1, ((divS D l).2 * 4294967296 + a) % D)
theorem divS_ok {D : Int} (hD : 1 ≤ D) (hD' : D < 4294967296) : ∀ {l : List Int}, okL l → okL (divS D l).1 ∧ (0 ≤ (divS D l).2 ∧ (divS D l).2 < D) ∧ valL (divS D l).1 * D + (divS D l).2 = valL l ∧ (divS D l).1.length = l.length
  | [], _ => ⟨(fun _ h => by cases h), ⟨Int.le_refl _, (by show (0 : Int) < D; omega)⟩, (by show 0 * D + 0 = 0; omega), rfl⟩
  | a :: l, h => by
    obtain ⟨h1, h2, h3, h4⟩ := divS_ok hD hD' (okL_cons.1 h).2
    have ha := (okL_cons.1 h).1
    have h0 : 0 ≤ (divS D l).2 * 4294967296 + a := by omega
    have hlt : (divS D l).2 * 4294967296 + a < 4294967296 * D := by omega
    have hr0 : 0 ≤ ((divS D l).2 * 4294967296 + a) % D := Int.emod_nonneg _ (by omega)
    have hr1 : ((divS D l).2 * 4294967296 + a) % D < D := Int.emod_lt_of_pos _ (by omega)
    have hq0 : 0 ≤ ((divS D l).2 * 4294967296 + a) / D := Int.ediv_nonneg h0 (by omega)
    have hq1 : ((divS D l).2 * 4294967296 + a) / D < 4294967296 := Int.ediv_lt_of_lt_mul (by omega) hlt
    have hqr : D * (((divS D l).2 * 4294967296 + a) / D) + ((divS D l).2 * 4294967296 + a) % D = (divS D l).2 * 4294967296 + a := Int.mul_ediv_add_emod _ _
    refine ⟨okL_cons.2 ⟨⟨hq0, hq1⟩, h1⟩, ⟨hr0, hr1⟩, ?_, by show (divS D l).1.length + 1 = _; rw [h4]; rfl⟩
    show (((divS D l).2 * 4294967296 + a) / D + 4294967296 * valL (divS D l).1) * D + ((divS D l).2 * 4294967296 + a) % D = a + 4294967296 * valL l
    rw [← h3, Int.add_mul, Int.mul_add, Int.mul_comm (((divS D l).2 * 4294967296 + a) / D) D, Int.mul_assoc]
    omega
theorem divS_at {D : Int} {l : List Int} {i : Nat} {x : Int} (h : l[i]? = some x) : divS D (l.drop i) = (((divS D (l.drop (i + 1))).2 * 4294967296 + x) / D :: (divS D (l.drop (i + 1))).1, ((divS D (l.drop (i + 1))).2 * 4294967296 + x) % D) := by
  obtain ⟨h1, h2⟩ := List.getElem?_eq_some_iff.1 h
  rw [List.drop_eq_getElem_cons h1, h2]; rfl
theorem div_set {l q : List Int} {i : Nat} {x y : Int} (h : l[i]? = some x) : (l.take (i + 1) ++ q).set i y = l.take i ++ (y :: q) := by
  have hi := (List.getElem?_eq_some_iff.1 h).1
  rw [take_snocA h, List.append_assoc, List.set_append, if_neg (by rw [List.length_take]; omega), List.length_take, show i - min i l.length = 0 by omega]
  rfl
theorem div_get {l q : List Int} {i : Nat} {x : Int} (h : l[i]? = some x) : (l.take (i + 1) ++ q)[i]? = some x := by
  have hi := (List.getElem?_eq_some_iff.1 h).1
  rw [List.getElem?_append_left (by rw [List.length_take]; omega), List.getElem?_take, if_pos (by omega)]; exact h
theorem okL_at {l : List Int} (h : okL l) {i : Nat} {x : Int} (hx : l[i]? = some x) : 0 ≤ x ∧ x < 4294967296 := h x (List.mem_of_getElem? hx)
theorem okL_drop {l : List Int} (h : okL l) (n : Nat) : okL (l.drop n) := fun x hx => h x (List.mem_of_mem_drop hx)
theorem trimV_form {m : Mem} {a : Option Addr} {c : Nat} {l : List Int} (h : RL m u32E 1 (.slice a l.length c) l) : ∃ a' c', trimV a l = .slice a' (trimL l).length c' := (trim_RL h).len
theorem ofI {m : Mem} {N : Int} (h0 : 0 ≤ N) (h1 : N < 18446744073709551616) : CallsS Tryz.prog 178 [.int .u64 N].toArray [] m fun r σ' m' => σ' = [] ∧ ∃ a c, r = .agg #[.slice a (natL N).length c] ∧ RL m' u32E 1 (.slice a (natL N).length c) (natL N) := by
  refine CallsS.ghost (R' := fun r σ' m' => ∃ a c, r = .agg #[.slice a (natL N).length c] ∧ RL m' u32E 1 (.slice a (natL N).length c) (natL N)) ?_ ?h2
  case h2 =>
    rintro r σ' m' hr g0 W hC
    exact ⟨_, m', hC.sublist (List.nil_sublist _), Le.refl _, rfl, hr⟩
  refine enter Tryz.func178 Tryz.ntmps178 rfl rfl ?_
  refine SWP_seq (SWP_region ?_)
  refine al rfl rfl (fun B2 => ?_)
  refine SL_nil (nx (SWP_seq (SWP_region (pI rfl rfl ?_))))
  refine pu (v := .int .u32 (IntKind.u32.wrap N)) rfl rfl ?_
  rw [wrapV]
  refine pI rfl rfl ?_
  refine pshr rfl rfl (by decide) (fdiv32 h0) rfl ?_
  refine pu (v := .int .u32 (IntKind.u32.wrap (N / 4294967296))) rfl rfl ?_
  rw [wrapV, show N / 4294967296 % 4294967296 = N / 4294967296 by omega]
  refine bs (cs := ([N % 4294967296, N / 4294967296] : List Int).flatMap u32E) rfl rfl rfl rfl rfl (fun B8 => ?_)
  refine SL_freeze (fun m8 hl8 hat8 => ?_)
  have hR8 := RL.of_at u32E_len [N % 4294967296, N / 4294967296] rfl rfl hat8
  have hT : trimL [N % 4294967296, N / 4294967296] = natL N := trim_nat (okL_cons.2 ⟨by omega, okL_cons.2 ⟨by omega, fun _ h => by cases h⟩⟩) (show N % 4294967296 + 4294967296 * (N / 4294967296 + 4294967296 * 0) = N by omega) h1
  have hw := trim_RL hR8
  obtain ⟨a', c', hwf⟩ := trimV_form hR8
  rw [hT] at hw hwf
  rw [hwf] at hw
  refine SL_pcall rfl rfl cb193 (trimI hR8) rfl ?_
  rw [hwf]
  refine sw (v := .agg _) B2 0 rfl rfl rfl rfl rfl rfl rfl ?_
  refine SL_nil (nx (SWP_ret ?_))
  refine fin [_] ⟨⟨_, _, rfl, Rd.of_cells (MemO.mem (B := B2)), rfl⟩, trivial⟩ ?_
  exact ⟨a', c', rfl, hw⟩
theorem validI {m : Mem} {a : Option Addr} {c : Nat} {l : List Int} (h : RL m u32E 1 (.slice a l.length c) l) (hl : l.length ≤ 64) (ht : tidyL l) : PureCall Tryz.prog 194 [.agg #[.slice a l.length c]] m (.bool true) := by
  refine CallsS.pure ?_
  refine enter Tryz.func194 Tryz.ntmps194 rfl rfl ?_
  refine SWP_seq (SWP_region ?_)
  refine bx (v := .agg _) rfl rfl (fun B1 => ?_)
  refine pB rfl rfl (SL_nil (nx (SWP_seq (SWP_region (pu rfl rfl ?_)))))
  refine lw (v := .slice _ _ _) B1 0 rfl rfl rfl rfl ?_
  refine pu rfl rfl (pI rfl rfl (SL_nil (nx (SWP_seq (SWP_region (pI rfl rfl ?_))))))
  refine pt rfl rfl (by omega) ?_
  refine pB rfl rfl (SL_yes rfl (pI rfl rfl (SL_yes rfl ?_)))
  refine pc rfl rfl (fun c11 => ?_) (fun c11 => ?_)
  · skip
    refine SL_yes rfl (pB rfl rfl (SL_no rfl rfl (SL_no rfl rfl (SL_no rfl rfl (SL_no rfl rfl (SL_no rfl rfl (SL_no rfl rfl (SL_no rfl rfl (SL_yes rfl (pB rfl rfl (pB rfl rfl ?_)))))))))))
    refine pB rfl rfl (SL_nil (nx (SWP_ret ?_)))
    refine fin [_] ⟨rfl, trivial⟩ ?_
    rfl
  refine SL_yes rfl (pB rfl rfl (SL_yes rfl (pu rfl rfl (SL_yes rfl ?_))))
  refine lw (v := .slice _ _ _) B1 0 rfl rfl rfl rfl ?_
  refine SL_yes rfl (pI rfl rfl (SL_yes rfl ?_))
  refine pw rfl rfl (w64 (by omega) (by omega)) ?_
  rw [show (l.length : Int) - 1 = ((l.length - 1 : Nat) : Int) by omega]
  obtain ⟨x, hx⟩ : ∃ z, l[l.length - 1]? = some z := ⟨_, List.getElem?_eq_getElem (by omega)⟩
  obtain ⟨adx, ex, _, hatx⟩ := h.atV hx
  cases ex
  have gx := getDV hx
  refine SL_yes rfl ?_
  refine ia (es := 1) rfl rfl rfl (Nat.mul_one _) rfl rfl (by omega) rfl ?_
  refine SL_yes rfl ?_
  refine ldA (v := .int .u32 _) rfl hatx rfl rfl ?_
  refine SL_yes rfl ?_
  refine pt rfl rfl (fun hh => (ht.resolve_left (fun e => by rw [e] at hx; cases hx)) (gx.trans hh)) ?_
  refine SL_yes rfl (pB rfl rfl (pB rfl rfl (pB rfl rfl (SL_nil (nx (SWP_ret ?_))))))
  refine fin [_] ⟨rfl, trivial⟩ ?_
  rfl
theorem boundI {m : Mem} {a : Option Addr} {c : Nat} {l : List Int} (h : RL m u32E 1 (.slice a l.length c) l) (hl : (trimL l).length ≤ 64) : PureCall Tryz.prog 195 [.slice a l.length c] m (.tuple #[.agg #[trimV a l], .int .i64 0]) := by
  refine CallsS.pure ?_
  obtain ⟨a', c', hwf⟩ := trimV_form h
  rw [hwf]
  refine enter Tryz.func195 Tryz.ntmps195 rfl rfl ?_
  refine SWP_seq (SWP_region ?_)
  refine al rfl rfl (fun B2 => ?_)
  refine pI rfl rfl (SL_nil (nx (SWP_seq (SWP_region (pL rfl rfl ?_)))))
  refine SL_pcall rfl rfl cb193 (trimI h) rfl ?_
  rw [hwf]
  refine al rfl rfl (fun B4 => ?_)
  refine sw (v := .agg _) B4 0 rfl rfl rfl rfl rfl rfl rfl ?_
  refine SL_nil (nx (SWP_seq (SWP_seq (SWP_region (pu rfl rfl ?_)))))
  refine lw (v := .slice _ _ _) B4 0 rfl rfl rfl rfl ?_
  refine pu rfl rfl ?_
  refine pn rfl rfl (by omega) ?_
  refine SL_nil (nx (SWP_cf rfl (SWP_skip (nx (SWP_seq (SWP_region ?_))))))
  refine lw (v := .agg _) B4 0 rfl rfl rfl rfl ?_
  refine sw (v := .agg _) B2 0 rfl rfl rfl rfl rfl rfl rfl ?_
  refine pI rfl rfl (SL_nil (nx (SWP_ret ?_)))
  refine fin [_, _] ⟨⟨_, _, rfl, Rd.of_cells (MemO.mem (B := B2)), rfl⟩, rfl, trivial⟩ ?_
  rfl
theorem cmpI {m : Mem} {a b : Option Addr} {c d : Nat} {l : List Int} {D : Int} (h : RL m u32E 1 (.slice a l.length c) l) (h' : RL m u32E 1 (.slice b ([D] : List Int).length d) [D]) (hok : okL l) (ht : tidyL l) (hD : 1 ≤ D ∧ D < 4294967296) (hge : D ≤ valL l) : CallsS Tryz.prog 196 [.slice a l.length c, .slice b ([D] : List Int).length d].toArray [] m fun r σ' m' => ∃ z, r = .int .i64 z ∧ ¬ z < 0 := by
  have e1 : ([D] : List Int).length = 1 := rfl
  rw [e1]
  obtain ⟨adD, eD, _, hatD⟩ := h'.atV (show ([D] : List Int)[0]? = some D from rfl)
  cases eD
  refine enter Tryz.func196 Tryz.ntmps196 rfl rfl ?_
  refine SWP_seq (SWP_region (pI rfl rfl (SL_nil (nx (SWP_seq (SWP_seq (SWP_region (pL rfl rfl (pu rfl rfl (pL rfl rfl (pu rfl rfl ?_)))))))))))
  refine pc rfl rfl (fun c10 => ?_) (fun c10 => ?_)
  · skip
    refine SL_nil (nx (SWP_ct rfl (SWP_seq (SWP_seq (SWP_region (pL rfl rfl (pu rfl rfl (pL rfl rfl (pu rfl rfl ?_)))))))))
    refine pc rfl rfl (fun c15 => ?_) (fun c15 => ?_)
    · skip
      refine SL_nil (nx (SWP_ct rfl (SWP_seq (SWP_region (pI rfl rfl (SL_nil (nx (SWP_ret (nr (nr ?_))))))))))
      refine fin [_] ⟨rfl, trivial⟩ ?_
      have hl0 : l = [] := List.eq_nil_of_length_eq_zero (by omega)
      rw [hl0] at hge
      have e0 : valL [] = 0 := rfl
      omega
    refine SL_nil (nx (SWP_cf rfl (SWP_skip (nx (SWP_seq (SWP_region (pI rfl rfl (SL_nil (nx (SWP_ret (nr ?_)))))))))))
    refine fin [_] ⟨rfl, trivial⟩ ?_
    exact ⟨1, rfl, by omega⟩
  refine SL_nil (nx (SWP_cf rfl (SWP_skip (nx (SWP_seq (SWP_seq ?_))))))
  obtain ⟨x, hx⟩ : ∃ z, l[0]? = some z := ⟨_, List.getElem?_eq_getElem (by omega)⟩
  obtain ⟨adx, ex, _, hatx⟩ := h.atV hx
  cases ex
  have hlx : l = [x] := by
    have hl1 : l.length = 1 := by omega
    match l, hl1, hx with
    | [y], _, hx => simpa using hx
  have hvx : valL l = x := by rw [hlx]; show x + 4294967296 * 0 = x; omega
  have hl1 : l.length = 1 := by omega
  rw [hl1]
  refine SWP_region (pL rfl rfl (pu rfl rfl ?_))
  refine pw (x := 0) rfl rfl (w64 (by omega) (by omega)) ?_
  refine pI rfl rfl (SL_nil (nx (SWP_block ?_)))
  refine SWP_loop [4, 5, 19, 20, 21, 22, 23, 24, 25, 26, 27, 28, 29, 30, 31, 32, 33, 34, 35, 36, 37, 38, 39, 40] [5]
      (fun vs σ' m' => ∃ (i : Int), vs = [.int .i64 i] ∧ (i = 0 ∨ i = -1) ∧ σ' = [] ∧ m = m')
      (fun vs => (match vs.getD 0 undef with | .int _ n => (n + 1).toNat | _ => 0)) rfl ?_ ?_
  · exact ⟨0, rfl, .inl rfl, rfl, rfl⟩
  intro u0 vs0 σ0 m0 hJ0 _
  obtain ⟨i, rfl, hi, rfl, rfl⟩ := hJ0
  refine SWP_seq (SWP_seq (SWP_region (pI rfl rfl ?_)))
  refine pc rfl rfl (fun c20 => ?_) (fun c20 => ?_)
  · skip
    refine SL_nil (nx (SWP_ct rfl (SWP_skip (nx (SWP_seq (SWP_block (SWP_seq (SWP_seq ?_))))))))
    obtain rfl : i = 0 := by omega
    refine SWP_draws (by kernel_rfl) (by kernel_rfl) ?_
    refine pL rfl rfl (pI rfl rfl ?_)
    refine ia (es := 1) (ea := 0) (k := 0) rfl rfl rfl rfl rfl rfl (by omega) rfl ?_
    refine ldA (v := .int .u32 _) rfl hatx rfl rfl ?_
    refine pL rfl rfl (pI rfl rfl ?_)
    refine ia (es := 1) (ea := 0) (k := 0) rfl rfl rfl rfl rfl rfl (by omega) rfl ?_
    refine ldA (v := .int .u32 _) rfl hatD rfl rfl ?_
    refine pc rfl rfl (fun c31 => ?_) (fun c31 => ?_)
    · skip
      refine SL_nil (nx (SWP_ct rfl (SWP_seq (SWP_region (pI rfl rfl (SL_nil (nx (SWP_ret (nr (br (nr ?_)))))))))))
      refine nr (br (nr ?_))
      refine fin [_] ⟨rfl, trivial⟩ ?_
      omega
    refine SL_nil (nx (SWP_cf rfl (SWP_skip (nx (SWP_seq ?_)))))
    refine SWP_draws (by kernel_rfl) (by kernel_rfl) ?_
    refine pL rfl rfl (pI rfl rfl ?_)
    refine ia (es := 1) (ea := 0) (k := 0) rfl rfl rfl rfl rfl rfl (by omega) rfl ?_
    refine ldA (v := .int .u32 _) rfl hatx rfl rfl ?_
    refine pL rfl rfl (pI rfl rfl ?_)
    refine ia (es := 1) (ea := 0) (k := 0) rfl rfl rfl rfl rfl rfl (by omega) rfl ?_
    refine ldA (v := .int .u32 _) rfl hatD rfl rfl ?_
    refine pc rfl rfl (fun c40 => ?_) (fun c40 => ?_)
    · skip
      refine SL_nil (nx (SWP_ct rfl (SWP_seq (SWP_region (pI rfl rfl (SL_nil (nx (SWP_ret (br (nr (nr ?_)))))))))))
      refine br (nr ?_)
      refine fin [_] ⟨rfl, trivial⟩ ?_
      exact ⟨1, rfl, by omega⟩
    refine SL_nil (nx (SWP_cf rfl (SWP_skip (nb (nx (SWP_region (pI rfl rfl ?_)))))))
    refine pw rfl rfl (w64 (by omega) (by omega)) ?_
    refine pI rfl rfl (SL_nil (nx ?_))
    refine ⟨by repeat (first | exact Under.upds rfl (Under.hav _ _ _) | exact Under.hav _ _ _ | refine Under.upd rfl ?_), ?_, ?_⟩
    · exact ⟨-1, rfl, .inr rfl, rfl, rfl⟩
    · simp only [L_vals, List.map, List.getD]; show ((-1 : Int) + 1).toNat < ((0 : Int) + 1).toNat; decide
  refine SL_nil (nx (SWP_cf rfl (SWP_exit (ne (ne (be rfl (nx (SWP_seq (SWP_region (pI rfl rfl (SL_nil ?_)))))))))))
  refine nx (SWP_ret ?_)
  refine fin [_] ⟨rfl, trivial⟩ ?_
  exact ⟨0, rfl, by omega⟩
set_option maxRecDepth 100000 in
theorem divSI {m : Mem} {a : Option Addr} {c : Nat} {l : List Int} {D : Int} {σe : Sig} (hok : okL l) (hD : 1 ≤ D ∧ D < 4294967296) (hl : l.length ≤ 64) (hown : OwnS 191 1 (.slice a l.length c) (l.flatMap u32E) σe) :
    CallsS Tryz.prog 198 [.slice a l.length c, .int .u32 D].toArray σe m fun r σ' m' => r = .int .u32 (divS D l).2 ∧ OwnS 191 1 (.slice a l.length c) ((divS D l).1.flatMap u32E) σ' ∧ m' = m := by
  refine enter Tryz.func198 Tryz.ntmps198 rfl rfl ?_
  refine SWP_seq (SWP_region (pI rfl rfl (SL_nil (nx (SWP_seq (SWP_region (pI rfl rfl (SL_nil (nx (SWP_seq (SWP_seq ?_)))))))))))
  refine SWP_region (pL rfl rfl (pu rfl rfl ?_))
  refine pw rfl rfl (w64 (by omega) (by omega)) ?_
  refine pI rfl rfl (SL_nil (nx (SWP_block ?_)))
  refine SWP_loop [5, 6, 10, 11, 12, 13, 14, 15, 16, 17, 18, 19, 20, 21, 22, 23, 24, 25, 26, 27, 28, 29, 30, 31, 32, 33] [5, 6]
      (fun vs σ' m' => ∃ (j : Int), vs = [.int .u64 (divS D (l.drop j.toNat)).2, .int .i64 (j - 1)] ∧ 0 ≤ j ∧ j ≤ l.length ∧ OwnS 191 1 (.slice a l.length c) ((l.take j.toNat ++ (divS D (l.drop j.toNat)).1).flatMap u32E) σ' ∧ m = m')
      (fun vs => (match vs.getD 1 undef with | .int _ n => (n + 1).toNat | _ => 0)) rfl ?_ ?_
  · refine ⟨l.length, ?_, by omega, by omega, ?_, rfl⟩
    · rw [Int.toNat_natCast, List.drop_length]; rfl
    · rw [Int.toNat_natCast, List.drop_length, List.take_length]; show OwnS _ _ _ ((l ++ []).flatMap u32E) _; rw [List.append_nil]; exact hown
  intro u0 vs0 σ0 m0 hJ0 _
  clear hown
  obtain ⟨j, rfl, hj0, hjl, hown, rfl⟩ := hJ0
  refine SWP_seq (SWP_seq (SWP_region (pI rfl rfl ?_)))
  refine pc rfl rfl (fun c11 => ?_) (fun c11 => ?_)
  · skip
    refine SL_nil (nx (SWP_ct rfl (SWP_skip (nx (SWP_seq (SWP_block (SWP_seq ?_)))))))
    obtain ⟨i, rfl⟩ : ∃ i : Nat, j = (i : Int) + 1 := ⟨(j - 1).toNat, by omega⟩
    rw [show (i : Int) + 1 - 1 = (i : Int) by omega]
    obtain ⟨x, hx⟩ : ∃ z, l[i]? = some z := ⟨_, List.getElem?_eq_getElem (by omega)⟩
    have hxr := okL_at hok hx
    rw [show ((i : Int) + 1).toNat = i + 1 by omega] at hown
    rw [show ((i : Int) + 1).toNat = i + 1 by omega]
    obtain ⟨d1, d2, d3, d4⟩ := divS_ok hD.1 hD.2 (okL_drop hok (i + 1))
    obtain ⟨ad0, e0, _, _, hrd⟩ := hown.atN (by omega) u32E_len (div_get (q := (divS D (l.drop (i + 1))).1) hx)
    cases e0
    have hq0 : 0 ≤ ((divS D (l.drop (i + 1))).2 * 4294967296 + x) / D := Int.ediv_nonneg (by omega) (by omega)
    have hq1 : ((divS D (l.drop (i + 1))).2 * 4294967296 + x) / D < 4294967296 := Int.ediv_lt_of_lt_mul (by omega) (by omega)
    have hr0 : 0 ≤ ((divS D (l.drop (i + 1))).2 * 4294967296 + x) % D := Int.emod_nonneg _ (by omega)
    have hr1 : ((divS D (l.drop (i + 1))).2 * 4294967296 + x) % D < D := Int.emod_lt_of_pos _ (by omega)
    refine SWP_region (pI rfl rfl ?_)
    refine pshl rfl rfl (by decide) (show IntKind.u64.wrap ((divS D (l.drop (i + 1))).2 * 4294967296) = (divS D (l.drop (i + 1))).2 * 4294967296 by rw [wrapU]; omega) rfl ?_
    refine pL rfl rfl (pI rfl rfl ?_)
    refine ia (es := 1) rfl rfl rfl (Nat.mul_one _) rfl rfl (by omega) rfl ?_
    refine ldO (off := 0) (hrd _ _ (fun q hq => by simp [hq])) rfl (q1 _ _) rfl rfl ?_
    refine pw rfl rfl (by rw [wrapU]; omega) ?_
    refine pu (v := .int .u64 (bits .or .u64 ((divS D (l.drop (i + 1))).2 * 4294967296) x)) rfl rfl ?_
    rw [or_hi (by omega) (by omega) (by omega) (by omega) (by omega)]
    refine pI rfl rfl (SL_nil (nx (SWP_seq (SWP_region (pL rfl rfl (pI rfl rfl (pI rfl rfl (pI rfl rfl ?_))))))))
    refine pw rfl rfl (by rw [wrapU]; omega) ?_
    refine pqu rfl rfl (by omega) (show IntKind.u64.wrap (((divS D (l.drop (i + 1))).2 * 4294967296 + x).tdiv D) = ((divS D (l.drop (i + 1))).2 * 4294967296 + x) / D by rw [Int.tdiv_eq_ediv_of_nonneg (by omega), wrapU]; omega) rfl ?_
    refine pw rfl rfl (by rw [wrapV]; omega) ?_
    refine ia (es := 1) rfl rfl rfl (Nat.mul_one _) rfl rfl (by omega) rfl ?_
    refine stL (σe := σ0) (τ := []) (k := i) (b := x) (b' := ((divS D (l.drop (i + 1))).2 * 4294967296 + x) / D) (off := 0) u32E_len rfl hown (by simp) (div_get hx) rfl (q1 _ _) rfl rfl (by show 0 + 1 ≤ 1; omega) rfl rfl (fun σ2 hown2 => ?_)
    rw [List.append_nil]
    rw [div_set hx] at hown2
    refine SL_nil (nx (SWP_region (pI rfl rfl (pI rfl rfl ?_))))
    refine pw rfl rfl (by rw [wrapU]; omega) ?_
    refine prm rfl rfl (by omega) (show ((divS D (l.drop (i + 1))).2 * 4294967296 + x).tmod D = ((divS D (l.drop (i + 1))).2 * 4294967296 + x) % D from Int.tmod_eq_emod_of_nonneg (by omega)) rfl ?_
    refine pI rfl rfl (SL_nil (nb (nx (SWP_region (pI rfl rfl ?_)))))
    refine pw rfl rfl (w64 (by omega) (by omega)) ?_
    refine pI rfl rfl (SL_nil (nx ?_))
    refine ⟨by repeat (first | exact Under.upds rfl (Under.hav _ _ _) | exact Under.hav _ _ _ | refine Under.upd rfl ?_), ?_, ?_⟩
    · refine ⟨i, ?_, by omega, by omega, ?_, rfl⟩
      · rw [Int.toNat_natCast, divS_at hx]; rfl
      · rw [Int.toNat_natCast, divS_at hx]; exact hown2
    · simp only [L_vals, List.map, List.getD]; show ((i : Int) - 1 + 1).toNat < ((i : Int) + 1).toNat; omega
  refine SL_nil (nx (SWP_cf rfl (SWP_exit (ne (ne (be rfl (nx (SWP_seq ?_))))))))
  obtain rfl : j = 0 := by omega
  rw [show ((0 : Int)).toNat = 0 from rfl] at hown
  rw [show ((0 : Int)).toNat = 0 from rfl]
  rw [List.drop_zero]
  rw [List.drop_zero, List.take_zero, List.nil_append] at hown
  obtain ⟨d1, d2, d3, d4⟩ := divS_ok hD.1 hD.2 hok
  refine SWP_region (pI rfl rfl ?_)
  refine pw rfl rfl (by rw [wrapV]; omega) ?_
  refine pI rfl rfl (SL_nil (nx (SWP_ret ?_)))
  refine fin [_] ⟨rfl, trivial⟩ ?_
  exact ⟨rfl, hown, rfl⟩
end Go.Proofs.YtlgoegjboabgfaaGreatDoor
