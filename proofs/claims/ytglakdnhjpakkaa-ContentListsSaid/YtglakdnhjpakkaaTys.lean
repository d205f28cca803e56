/- The types of this seat's program, as a table. Written by gen_tys.py. -/
import Derived.Test.YtglakdnhjpakkaaMem
import Derived.Test.YtglakdnhjpakkaaProg
import Derived.KernelRfl
namespace Go.Proofs.Ytglakdnhjpakkaa.K
open Go
set_option linter.unusedVariables false
theorem ty2 : TI.Is Try.prog 2 ⟨.int .i64, 1, 8, [.int .i64 0]⟩ :=
  TI.Is.of (z := .int .i64 0) Try.underlying2 (by kernel_rfl) rfl rfl
theorem ty3 : TI.Is Try.prog 3 ⟨.int .i64, 1, 8, [.int .i64 0]⟩ :=
  TI.Is.of (z := .int .i64 0) Try.underlying3 (by kernel_rfl) rfl rfl
theorem ty4 : TI.Is Try.prog 4 ⟨.bool, 1, 1, [.bool false]⟩ :=
  TI.Is.of (z := .bool false) Try.underlying4 (by kernel_rfl) rfl rfl
theorem ty5 : TI.Is Try.prog 5 ⟨.int .u8, 1, 1, [.int .u8 0]⟩ :=
  TI.Is.of (z := .int .u8 0) Try.underlying5 (by kernel_rfl) rfl rfl
theorem ty6 : TI.Is Try.prog 6 ⟨.int .u8, 1, 1, [.int .u8 0]⟩ :=
  TI.Is.of (z := .int .u8 0) Try.underlying6 (by kernel_rfl) rfl rfl
theorem ty7 : TI.Is Try.prog 7 ⟨.struct [(0, 2), (1, 3), (2, 4), (3, 6)], 4, 24, [.int .i64 0, .int .i64 0, .bool false, .int .u8 0]⟩ :=
  TI.Is.of (z := .agg #[.int .i64 0, .int .i64 0, .bool false, .int .u8 0]) ⟨_, Try.underlying7, rfl⟩ (by kernel_rfl) rfl rfl
theorem ty8 : TI.Is Try.prog 8 ⟨.struct [(0, 2), (1, 3), (2, 4), (3, 6)], 4, 24, [.int .i64 0, .int .i64 0, .bool false, .int .u8 0]⟩ :=
  TI.Is.of (z := .agg #[.int .i64 0, .int .i64 0, .bool false, .int .u8 0]) ⟨_, Try.underlying8, rfl⟩ (by kernel_rfl) rfl rfl
theorem ty9 : TI.Is Try.prog 9 ⟨.str, 1, 16, [.str []]⟩ :=
  TI.Is.of (z := .string .empty) Try.underlying9 (by kernel_rfl) rfl rfl
theorem ty10 : TI.Is Try.prog 10 ⟨.str, 1, 16, [.str []]⟩ :=
  TI.Is.of (z := .string .empty) Try.underlying10 (by kernel_rfl) rfl rfl
theorem ty11 : TI.Is Try.prog 11 ⟨.str, 1, 16, [.str []]⟩ :=
  TI.Is.of (z := .string .empty) Try.underlying11 (by kernel_rfl) rfl rfl
theorem ty12 : TI.Is Try.prog 12 ⟨.int .u64, 1, 8, [.int .u64 0]⟩ :=
  TI.Is.of (z := .int .u64 0) Try.underlying12 (by kernel_rfl) rfl rfl
theorem ty13 : TI.Is Try.prog 13 ⟨.struct [(0, 9), (1, 12)], 2, 24, [.str [], .int .u64 0]⟩ :=
  TI.Is.of (z := .agg #[.string .empty, .int .u64 0]) ⟨_, Try.underlying13, rfl⟩ (by kernel_rfl) rfl rfl
theorem ty14 : TI.Is Try.prog 14 ⟨.struct [(0, 9), (1, 12)], 2, 24, [.str [], .int .u64 0]⟩ :=
  TI.Is.of (z := .agg #[.string .empty, .int .u64 0]) ⟨_, Try.underlying14, rfl⟩ (by kernel_rfl) rfl rfl
theorem ty21 : TI.Is Try.prog 21 ⟨.int .i32, 1, 4, [.int .i32 0]⟩ :=
  TI.Is.of (z := .int .i32 0) Try.underlying21 (by kernel_rfl) rfl rfl
theorem ty27 : TI.Is Try.prog 27 ⟨.slice 42, 1, 24, [.sl 2 []]⟩ :=
  TI.Is.of (z := .slice none 0 0) Try.underlying27 (by kernel_rfl) rfl rfl
theorem ty28 : TI.Is Try.prog 28 ⟨.slice 9, 1, 24, [.sl 1 []]⟩ :=
  TI.Is.of (z := .slice none 0 0) Try.underlying28 (by kernel_rfl) rfl rfl
theorem ty29 : TI.Is Try.prog 29 ⟨.slice 51, 1, 24, [.sl 3 []]⟩ :=
  TI.Is.of (z := .slice none 0 0) Try.underlying29 (by kernel_rfl) rfl rfl
theorem ty34 : TI.Is Try.prog 34 ⟨.slice 3, 1, 24, [.ints .i64 []]⟩ :=
  TI.Is.of (z := .slice none 0 0) Try.underlying34 (by kernel_rfl) rfl rfl
theorem ty37 : TI.Is Try.prog 37 ⟨.int .i64, 1, 8, [.int .i64 0]⟩ :=
  TI.Is.of (z := .int .i64 0) Try.underlying37 (by kernel_rfl) rfl rfl
theorem ty41 : TI.Is Try.prog 41 ⟨.struct [(0, 9), (1, 9)], 2, 32, [.str [], .str []]⟩ :=
  TI.Is.of (z := .agg #[.string .empty, .string .empty]) ⟨_, Try.underlying41, rfl⟩ (by kernel_rfl) rfl rfl
theorem ty42 : TI.Is Try.prog 42 ⟨.struct [(0, 9), (1, 9)], 2, 32, [.str [], .str []]⟩ :=
  TI.Is.of (z := .agg #[.string .empty, .string .empty]) ⟨_, Try.underlying42, rfl⟩ (by kernel_rfl) rfl rfl
theorem ty47 : TI.Is Try.prog 47 ⟨.array 5 9, 5, 80, [.str [], .str [], .str [], .str [], .str []]⟩ :=
  TI.Is.of (z := .agg #[.string .empty, .string .empty, .string .empty, .string .empty, .string .empty]) Try.underlying47 (by kernel_rfl) rfl rfl
theorem ty50 : TI.Is Try.prog 50 ⟨.struct [(0, 9), (1, 3), (2, 3)], 3, 32, [.str [], .int .i64 0, .int .i64 0]⟩ :=
  TI.Is.of (z := .agg #[.string .empty, .int .i64 0, .int .i64 0]) ⟨_, Try.underlying50, rfl⟩ (by kernel_rfl) rfl rfl
theorem ty51 : TI.Is Try.prog 51 ⟨.struct [(0, 9), (1, 3), (2, 3)], 3, 32, [.str [], .int .i64 0, .int .i64 0]⟩ :=
  TI.Is.of (z := .agg #[.string .empty, .int .i64 0, .int .i64 0]) ⟨_, Try.underlying51, rfl⟩ (by kernel_rfl) rfl rfl
theorem ty57 : TI.Is Try.prog 57 ⟨.int .u64, 1, 8, [.int .u64 0]⟩ :=
  TI.Is.of (z := .int .u64 0) Try.underlying57 (by kernel_rfl) rfl rfl
theorem ty58 : TI.Is Try.prog 58 ⟨.int .u32, 1, 4, [.int .u32 0]⟩ :=
  TI.Is.of (z := .int .u32 0) Try.underlying58 (by kernel_rfl) rfl rfl
theorem ty68 : TI.Is Try.prog 68 ⟨.int .u8, 1, 1, [.int .u8 0]⟩ :=
  TI.Is.of (z := .int .u8 0) Try.underlying68 (by kernel_rfl) rfl rfl
theorem ty69 : TI.Is Try.prog 69 ⟨.int .u8, 1, 1, [.int .u8 0]⟩ :=
  TI.Is.of (z := .int .u8 0) Try.underlying69 (by kernel_rfl) rfl rfl
theorem ty72 : TI.Is Try.prog 72 ⟨.int .i32, 1, 4, [.int .i32 0]⟩ :=
  TI.Is.of (z := .int .i32 0) Try.underlying72 (by kernel_rfl) rfl rfl
theorem ty73 : TI.Is Try.prog 73 ⟨.int .i32, 1, 4, [.int .i32 0]⟩ :=
  TI.Is.of (z := .int .i32 0) Try.underlying73 (by kernel_rfl) rfl rfl
def τtab : List (Nat × TI) := [(2, ⟨.int .i64, 1, 8, [.int .i64 0]⟩), (3, ⟨.int .i64, 1, 8, [.int .i64 0]⟩), (4, ⟨.bool, 1, 1, [.bool false]⟩), (5, ⟨.int .u8, 1, 1, [.int .u8 0]⟩), (6, ⟨.int .u8, 1, 1, [.int .u8 0]⟩), (7, ⟨.struct [(0, 2), (1, 3), (2, 4), (3, 6)], 4, 24, [.int .i64 0, .int .i64 0, .bool false, .int .u8 0]⟩), (8, ⟨.struct [(0, 2), (1, 3), (2, 4), (3, 6)], 4, 24, [.int .i64 0, .int .i64 0, .bool false, .int .u8 0]⟩), (9, ⟨.str, 1, 16, [.str []]⟩), (10, ⟨.str, 1, 16, [.str []]⟩), (11, ⟨.str, 1, 16, [.str []]⟩), (12, ⟨.int .u64, 1, 8, [.int .u64 0]⟩), (13, ⟨.struct [(0, 9), (1, 12)], 2, 24, [.str [], .int .u64 0]⟩), (14, ⟨.struct [(0, 9), (1, 12)], 2, 24, [.str [], .int .u64 0]⟩), (21, ⟨.int .i32, 1, 4, [.int .i32 0]⟩), (27, ⟨.slice 42, 1, 24, [.sl 2 []]⟩), (28, ⟨.slice 9, 1, 24, [.sl 1 []]⟩), (29, ⟨.slice 51, 1, 24, [.sl 3 []]⟩), (34, ⟨.slice 3, 1, 24, [.ints .i64 []]⟩), (37, ⟨.int .i64, 1, 8, [.int .i64 0]⟩), (41, ⟨.struct [(0, 9), (1, 9)], 2, 32, [.str [], .str []]⟩), (42, ⟨.struct [(0, 9), (1, 9)], 2, 32, [.str [], .str []]⟩), (47, ⟨.array 5 9, 5, 80, [.str [], .str [], .str [], .str [], .str []]⟩), (50, ⟨.struct [(0, 9), (1, 3), (2, 3)], 3, 32, [.str [], .int .i64 0, .int .i64 0]⟩), (51, ⟨.struct [(0, 9), (1, 3), (2, 3)], 3, 32, [.str [], .int .i64 0, .int .i64 0]⟩), (57, ⟨.int .u64, 1, 8, [.int .u64 0]⟩), (58, ⟨.int .u32, 1, 4, [.int .u32 0]⟩), (68, ⟨.int .u8, 1, 1, [.int .u8 0]⟩), (69, ⟨.int .u8, 1, 1, [.int .u8 0]⟩), (72, ⟨.int .i32, 1, 4, [.int .i32 0]⟩), (73, ⟨.int .i32, 1, 4, [.int .i32 0]⟩)]
def τ : Tys Try.prog := ⟨τtab, all_cons ty2 <| all_cons ty3 <| all_cons ty4 <| all_cons ty5 <| all_cons ty6 <| all_cons ty7 <| all_cons ty8 <| all_cons ty9 <| all_cons ty10 <| all_cons ty11 <| all_cons ty12 <| all_cons ty13 <| all_cons ty14 <| all_cons ty21 <| all_cons ty27 <| all_cons ty28 <| all_cons ty29 <| all_cons ty34 <| all_cons ty37 <| all_cons ty41 <| all_cons ty42 <| all_cons ty47 <| all_cons ty50 <| all_cons ty51 <| all_cons ty57 <| all_cons ty58 <| all_cons ty68 <| all_cons ty69 <| all_cons ty72 <| all_cons ty73 <| all_nil⟩
end Go.Proofs.Ytglakdnhjpakkaa.K
