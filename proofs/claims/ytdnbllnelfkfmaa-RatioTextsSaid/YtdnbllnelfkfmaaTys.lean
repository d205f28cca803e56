/- The types of this seat's program, as a table. Written by gen_tys.py. -/
import Derived.Test.YtdnbllnelfkfmaaMem
import Derived.Test.YtdnbllnelfkfmaaProg
import Derived.KernelRfl
namespace Go.Proofs.Ytdnbllnelfkfmaa.K
open Go
set_option linter.unusedVariables false
theorem ty2 : TI.Is Try.prog 2 ⟨.int .i64, 1, 8, [.int .i64 0]⟩ :=
  TI.Is.of (z := .int .i64 0) Try.underlying2 (by kernel_rfl) rfl rfl
theorem ty3 : TI.Is Try.prog 3 ⟨.int .i64, 1, 8, [.int .i64 0]⟩ :=
  TI.Is.of (z := .int .i64 0) Try.underlying3 (by kernel_rfl) rfl rfl
theorem ty4 : TI.Is Try.prog 4 ⟨.bool, 1, 1, [.bool false]⟩ :=
  TI.Is.of (z := .bool false) Try.underlying4 (by kernel_rfl) rfl rfl
theorem ty5 : TI.Is Try.prog 5 ⟨.int .u8, 1, 1, [.int .u8 0]⟩ :=
  TI.Is.of (z := .int .u8 0) Try.underlying5 (by kernel_rfl) rfl rfl
theorem ty6 : TI.Is Try.prog 6 ⟨.int .u8, 1, 1, [.int .u8 0]⟩ :=
  TI.Is.of (z := .int .u8 0) Try.underlying6 (by kernel_rfl) rfl rfl
theorem ty7 : TI.Is Try.prog 7 ⟨.struct [(0, 2), (1, 3), (2, 4), (3, 6)], 4, 24, [.int .i64 0, .int .i64 0, .bool false, .int .u8 0]⟩ :=
  TI.Is.of (z := .agg #[.int .i64 0, .int .i64 0, .bool false, .int .u8 0]) ⟨_, Try.underlying7, rfl⟩ (by kernel_rfl) rfl rfl
theorem ty8 : TI.Is Try.prog 8 ⟨.struct [(0, 2), (1, 3), (2, 4), (3, 6)], 4, 24, [.int .i64 0, .int .i64 0, .bool false, .int .u8 0]⟩ :=
  TI.Is.of (z := .agg #[.int .i64 0, .int .i64 0, .bool false, .int .u8 0]) ⟨_, Try.underlying8, rfl⟩ (by kernel_rfl) rfl rfl
theorem ty9 : TI.Is Try.prog 9 ⟨.str, 1, 16, [.str []]⟩ :=
  TI.Is.of (z := .string .empty) Try.underlying9 (by kernel_rfl) rfl rfl
theorem ty10 : TI.Is Try.prog 10 ⟨.str, 1, 16, [.str []]⟩ :=
  TI.Is.of (z := .string .empty) Try.underlying10 (by kernel_rfl) rfl rfl
theorem ty11 : TI.Is Try.prog 11 ⟨.str, 1, 16, [.str []]⟩ :=
  TI.Is.of (z := .string .empty) Try.underlying11 (by kernel_rfl) rfl rfl
theorem ty12 : TI.Is Try.prog 12 ⟨.int .u64, 1, 8, [.int .u64 0]⟩ :=
  TI.Is.of (z := .int .u64 0) Try.underlying12 (by kernel_rfl) rfl rfl
theorem ty13 : TI.Is Try.prog 13 ⟨.struct [(0, 9), (1, 12)], 2, 24, [.str [], .int .u64 0]⟩ :=
  TI.Is.of (z := .agg #[.string .empty, .int .u64 0]) ⟨_, Try.underlying13, rfl⟩ (by kernel_rfl) rfl rfl
theorem ty14 : TI.Is Try.prog 14 ⟨.struct [(0, 9), (1, 12)], 2, 24, [.str [], .int .u64 0]⟩ :=
  TI.Is.of (z := .agg #[.string .empty, .int .u64 0]) ⟨_, Try.underlying14, rfl⟩ (by kernel_rfl) rfl rfl
theorem ty21 : TI.Is Try.prog 21 ⟨.int .i32, 1, 4, [.int .i32 0]⟩ :=
  TI.Is.of (z := .int .i32 0) Try.underlying21 (by kernel_rfl) rfl rfl
theorem ty22 : TI.Is Try.prog 22 ⟨.slice 69, 1, 24, [.ints .u32 []]⟩ :=
  TI.Is.of (z := .slice none 0 0) Try.underlying22 (by kernel_rfl) rfl rfl
theorem ty23 : TI.Is Try.prog 23 ⟨.slice 69, 1, 24, [.ints .u32 []]⟩ :=
  TI.Is.of (z := .slice none 0 0) Try.underlying23 (by kernel_rfl) rfl rfl
theorem ty24 : TI.Is Try.prog 24 ⟨.struct [(0, 4), (1, 23)], 2, 32, [.bool false, .ints .u32 []]⟩ :=
  TI.Is.of (z := .agg #[.bool false, .slice none 0 0]) ⟨_, Try.underlying24, rfl⟩ (by kernel_rfl) rfl rfl
theorem ty25 : TI.Is Try.prog 25 ⟨.struct [(0, 4), (1, 23)], 2, 32, [.bool false, .ints .u32 []]⟩ :=
  TI.Is.of (z := .agg #[.bool false, .slice none 0 0]) ⟨_, Try.underlying25, rfl⟩ (by kernel_rfl) rfl rfl
theorem ty26 : TI.Is Try.prog 26 ⟨.struct [(0, 25), (2, 23)], 3, 56, [.bool false, .ints .u32 [], .ints .u32 []]⟩ :=
  TI.Is.of (z := .agg #[.bool false, .slice none 0 0, .slice none 0 0]) ⟨_, Try.underlying26, rfl⟩ (by kernel_rfl) rfl rfl
theorem ty27 : TI.Is Try.prog 27 ⟨.struct [(0, 25), (2, 23)], 3, 56, [.bool false, .ints .u32 [], .ints .u32 []]⟩ :=
  TI.Is.of (z := .agg #[.bool false, .slice none 0 0, .slice none 0 0]) ⟨_, Try.underlying27, rfl⟩ (by kernel_rfl) rfl rfl
theorem ty33 : TI.Is Try.prog 33 ⟨.slice 27, 1, 24, [.sl 3 []]⟩ :=
  TI.Is.of (z := .slice none 0 0) Try.underlying33 (by kernel_rfl) rfl rfl
theorem ty46 : TI.Is Try.prog 46 ⟨.int .i64, 1, 8, [.int .i64 0]⟩ :=
  TI.Is.of (z := .int .i64 0) Try.underlying46 (by kernel_rfl) rfl rfl
theorem ty58 : TI.Is Try.prog 58 ⟨.int .u64, 1, 8, [.int .u64 0]⟩ :=
  TI.Is.of (z := .int .u64 0) Try.underlying58 (by kernel_rfl) rfl rfl
theorem ty69 : TI.Is Try.prog 69 ⟨.int .u32, 1, 4, [.int .u32 0]⟩ :=
  TI.Is.of (z := .int .u32 0) Try.underlying69 (by kernel_rfl) rfl rfl
theorem ty80 : TI.Is Try.prog 80 ⟨.int .u64, 1, 8, [.int .u64 0]⟩ :=
  TI.Is.of (z := .int .u64 0) Try.underlying80 (by kernel_rfl) rfl rfl
theorem ty105 : TI.Is Try.prog 105 ⟨.int .u8, 1, 1, [.int .u8 0]⟩ :=
  TI.Is.of (z := .int .u8 0) Try.underlying105 (by kernel_rfl) rfl rfl
theorem ty106 : TI.Is Try.prog 106 ⟨.int .u8, 1, 1, [.int .u8 0]⟩ :=
  TI.Is.of (z := .int .u8 0) Try.underlying106 (by kernel_rfl) rfl rfl
theorem ty109 : TI.Is Try.prog 109 ⟨.int .i32, 1, 4, [.int .i32 0]⟩ :=
  TI.Is.of (z := .int .i32 0) Try.underlying109 (by kernel_rfl) rfl rfl
theorem ty110 : TI.Is Try.prog 110 ⟨.int .i32, 1, 4, [.int .i32 0]⟩ :=
  TI.Is.of (z := .int .i32 0) Try.underlying110 (by kernel_rfl) rfl rfl
def τtab : List (Nat × TI) := [(2, ⟨.int .i64, 1, 8, [.int .i64 0]⟩), (3, ⟨.int .i64, 1, 8, [.int .i64 0]⟩), (4, ⟨.bool, 1, 1, [.bool false]⟩), (5, ⟨.int .u8, 1, 1, [.int .u8 0]⟩), (6, ⟨.int .u8, 1, 1, [.int .u8 0]⟩), (7, ⟨.struct [(0, 2), (1, 3), (2, 4), (3, 6)], 4, 24, [.int .i64 0, .int .i64 0, .bool false, .int .u8 0]⟩), (8, ⟨.struct [(0, 2), (1, 3), (2, 4), (3, 6)], 4, 24, [.int .i64 0, .int .i64 0, .bool false, .int .u8 0]⟩), (9, ⟨.str, 1, 16, [.str []]⟩), (10, ⟨.str, 1, 16, [.str []]⟩), (11, ⟨.str, 1, 16, [.str []]⟩), (12, ⟨.int .u64, 1, 8, [.int .u64 0]⟩), (13, ⟨.struct [(0, 9), (1, 12)], 2, 24, [.str [], .int .u64 0]⟩), (14, ⟨.struct [(0, 9), (1, 12)], 2, 24, [.str [], .int .u64 0]⟩), (21, ⟨.int .i32, 1, 4, [.int .i32 0]⟩), (22, ⟨.slice 69, 1, 24, [.ints .u32 []]⟩), (23, ⟨.slice 69, 1, 24, [.ints .u32 []]⟩), (24, ⟨.struct [(0, 4), (1, 23)], 2, 32, [.bool false, .ints .u32 []]⟩), (25, ⟨.struct [(0, 4), (1, 23)], 2, 32, [.bool false, .ints .u32 []]⟩), (26, ⟨.struct [(0, 25), (2, 23)], 3, 56, [.bool false, .ints .u32 [], .ints .u32 []]⟩), (27, ⟨.struct [(0, 25), (2, 23)], 3, 56, [.bool false, .ints .u32 [], .ints .u32 []]⟩), (33, ⟨.slice 27, 1, 24, [.sl 3 []]⟩), (46, ⟨.int .i64, 1, 8, [.int .i64 0]⟩), (58, ⟨.int .u64, 1, 8, [.int .u64 0]⟩), (69, ⟨.int .u32, 1, 4, [.int .u32 0]⟩), (80, ⟨.int .u64, 1, 8, [.int .u64 0]⟩), (105, ⟨.int .u8, 1, 1, [.int .u8 0]⟩), (106, ⟨.int .u8, 1, 1, [.int .u8 0]⟩), (109, ⟨.int .i32, 1, 4, [.int .i32 0]⟩), (110, ⟨.int .i32, 1, 4, [.int .i32 0]⟩)]
def τ : Tys Try.prog := ⟨τtab, all_cons ty2 <| all_cons ty3 <| all_cons ty4 <| all_cons ty5 <| all_cons ty6 <| all_cons ty7 <| all_cons ty8 <| all_cons ty9 <| all_cons ty10 <| all_cons ty11 <| all_cons ty12 <| all_cons ty13 <| all_cons ty14 <| all_cons ty21 <| all_cons ty22 <| all_cons ty23 <| all_cons ty24 <| all_cons ty25 <| all_cons ty26 <| all_cons ty27 <| all_cons ty33 <| all_cons ty46 <| all_cons ty58 <| all_cons ty69 <| all_cons ty80 <| all_cons ty105 <| all_cons ty106 <| all_cons ty109 <| all_cons ty110 <| all_nil⟩
end Go.Proofs.Ytdnbllnelfkfmaa.K
