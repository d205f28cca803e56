/- The types of this seat's program, as a table. Written by gen_tys.py. -/
import Derived.Test.YtgdejiajiljipaaDoorMem
import Derived.Test.YtgdejiajiljipaaDoorProg
import Derived.KernelRfl
namespace Go.Proofs.YtgdejiajiljipaaDoor.K
open Go
set_option linter.unusedVariables false
theorem ty2 : TI.Is Tryd.prog 2 ⟨.int .i64, 1, 8, [.int .i64 0]⟩ :=
  TI.Is.of (z := .int .i64 0) Tryd.underlying2 (by kernel_rfl) rfl rfl
theorem ty3 : TI.Is Tryd.prog 3 ⟨.int .i64, 1, 8, [.int .i64 0]⟩ :=
  TI.Is.of (z := .int .i64 0) Tryd.underlying3 (by kernel_rfl) rfl rfl
theorem ty4 : TI.Is Tryd.prog 4 ⟨.bool, 1, 1, [.bool false]⟩ :=
  TI.Is.of (z := .bool false) Tryd.underlying4 (by kernel_rfl) rfl rfl
theorem ty5 : TI.Is Tryd.prog 5 ⟨.int .u8, 1, 1, [.int .u8 0]⟩ :=
  TI.Is.of (z := .int .u8 0) Tryd.underlying5 (by kernel_rfl) rfl rfl
theorem ty6 : TI.Is Tryd.prog 6 ⟨.int .u8, 1, 1, [.int .u8 0]⟩ :=
  TI.Is.of (z := .int .u8 0) Tryd.underlying6 (by kernel_rfl) rfl rfl
theorem ty7 : TI.Is Tryd.prog 7 ⟨.struct [(0, 2), (1, 3), (2, 4), (3, 6)], 4, 24, [.int .i64 0, .int .i64 0, .bool false, .int .u8 0]⟩ :=
  TI.Is.of (z := .agg #[.int .i64 0, .int .i64 0, .bool false, .int .u8 0]) ⟨_, Tryd.underlying7, rfl⟩ (by kernel_rfl) rfl rfl
theorem ty8 : TI.Is Tryd.prog 8 ⟨.struct [(0, 2), (1, 3), (2, 4), (3, 6)], 4, 24, [.int .i64 0, .int .i64 0, .bool false, .int .u8 0]⟩ :=
  TI.Is.of (z := .agg #[.int .i64 0, .int .i64 0, .bool false, .int .u8 0]) ⟨_, Tryd.underlying8, rfl⟩ (by kernel_rfl) rfl rfl
theorem ty9 : TI.Is Tryd.prog 9 ⟨.str, 1, 16, [.str []]⟩ :=
  TI.Is.of (z := .string .empty) Tryd.underlying9 (by kernel_rfl) rfl rfl
theorem ty10 : TI.Is Tryd.prog 10 ⟨.str, 1, 16, [.str []]⟩ :=
  TI.Is.of (z := .string .empty) Tryd.underlying10 (by kernel_rfl) rfl rfl
theorem ty11 : TI.Is Tryd.prog 11 ⟨.str, 1, 16, [.str []]⟩ :=
  TI.Is.of (z := .string .empty) Tryd.underlying11 (by kernel_rfl) rfl rfl
theorem ty12 : TI.Is Tryd.prog 12 ⟨.int .u64, 1, 8, [.int .u64 0]⟩ :=
  TI.Is.of (z := .int .u64 0) Tryd.underlying12 (by kernel_rfl) rfl rfl
theorem ty13 : TI.Is Tryd.prog 13 ⟨.struct [(0, 9), (1, 12)], 2, 24, [.str [], .int .u64 0]⟩ :=
  TI.Is.of (z := .agg #[.string .empty, .int .u64 0]) ⟨_, Tryd.underlying13, rfl⟩ (by kernel_rfl) rfl rfl
theorem ty14 : TI.Is Tryd.prog 14 ⟨.struct [(0, 9), (1, 12)], 2, 24, [.str [], .int .u64 0]⟩ :=
  TI.Is.of (z := .agg #[.string .empty, .int .u64 0]) ⟨_, Tryd.underlying14, rfl⟩ (by kernel_rfl) rfl rfl
theorem ty21 : TI.Is Tryd.prog 21 ⟨.int .i32, 1, 4, [.int .i32 0]⟩ :=
  TI.Is.of (z := .int .i32 0) Tryd.underlying21 (by kernel_rfl) rfl rfl
theorem ty22 : TI.Is Tryd.prog 22 ⟨.slice 90, 1, 24, [.ints .u32 []]⟩ :=
  TI.Is.of (z := .slice none 0 0) Tryd.underlying22 (by kernel_rfl) rfl rfl
theorem ty23 : TI.Is Tryd.prog 23 ⟨.slice 90, 1, 24, [.ints .u32 []]⟩ :=
  TI.Is.of (z := .slice none 0 0) Tryd.underlying23 (by kernel_rfl) rfl rfl
theorem ty24 : TI.Is Tryd.prog 24 ⟨.struct [(0, 4), (1, 23)], 2, 32, [.bool false, .ints .u32 []]⟩ :=
  TI.Is.of (z := .agg #[.bool false, .slice none 0 0]) ⟨_, Tryd.underlying24, rfl⟩ (by kernel_rfl) rfl rfl
theorem ty25 : TI.Is Tryd.prog 25 ⟨.struct [(0, 4), (1, 23)], 2, 32, [.bool false, .ints .u32 []]⟩ :=
  TI.Is.of (z := .agg #[.bool false, .slice none 0 0]) ⟨_, Tryd.underlying25, rfl⟩ (by kernel_rfl) rfl rfl
theorem ty26 : TI.Is Tryd.prog 26 ⟨.struct [(0, 25), (2, 23)], 3, 56, [.bool false, .ints .u32 [], .ints .u32 []]⟩ :=
  TI.Is.of (z := .agg #[.bool false, .slice none 0 0, .slice none 0 0]) ⟨_, Tryd.underlying26, rfl⟩ (by kernel_rfl) rfl rfl
theorem ty27 : TI.Is Tryd.prog 27 ⟨.struct [(0, 25), (2, 23)], 3, 56, [.bool false, .ints .u32 [], .ints .u32 []]⟩ :=
  TI.Is.of (z := .agg #[.bool false, .slice none 0 0, .slice none 0 0]) ⟨_, Tryd.underlying27, rfl⟩ (by kernel_rfl) rfl rfl
theorem ty28 : TI.Is Tryd.prog 28 ⟨.struct [(0, 27), (3, 27)], 6, 112, [.bool false, .ints .u32 [], .ints .u32 [], .bool false, .ints .u32 [], .ints .u32 []]⟩ :=
  TI.Is.of (z := .agg #[.bool false, .slice none 0 0, .slice none 0 0, .bool false, .slice none 0 0, .slice none 0 0]) ⟨_, Tryd.underlying28, rfl⟩ (by kernel_rfl) rfl rfl
theorem ty29 : TI.Is Tryd.prog 29 ⟨.struct [(0, 27), (3, 27)], 6, 112, [.bool false, .ints .u32 [], .ints .u32 [], .bool false, .ints .u32 [], .ints .u32 []]⟩ :=
  TI.Is.of (z := .agg #[.bool false, .slice none 0 0, .slice none 0 0, .bool false, .slice none 0 0, .slice none 0 0]) ⟨_, Tryd.underlying29, rfl⟩ (by kernel_rfl) rfl rfl
theorem ty34 : TI.Is Tryd.prog 34 ⟨.int .i64, 1, 8, [.int .i64 0]⟩ :=
  TI.Is.of (z := .int .i64 0) Tryd.underlying34 (by kernel_rfl) rfl rfl
theorem ty40 : TI.Is Tryd.prog 40 ⟨.slice 3, 1, 24, [.ints .i64 []]⟩ :=
  TI.Is.of (z := .slice none 0 0) Tryd.underlying40 (by kernel_rfl) rfl rfl
theorem ty50 : TI.Is Tryd.prog 50 ⟨.slice 29, 1, 24, [.sl 6 []]⟩ :=
  TI.Is.of (z := .slice none 0 0) Tryd.underlying50 (by kernel_rfl) rfl rfl
theorem ty75 : TI.Is Tryd.prog 75 ⟨.int .u64, 1, 8, [.int .u64 0]⟩ :=
  TI.Is.of (z := .int .u64 0) Tryd.underlying75 (by kernel_rfl) rfl rfl
theorem ty84 : TI.Is Tryd.prog 84 ⟨.slice 40, 1, 24, [.sl 1 []]⟩ :=
  TI.Is.of (z := .slice none 0 0) Tryd.underlying84 (by kernel_rfl) rfl rfl
theorem ty90 : TI.Is Tryd.prog 90 ⟨.int .u32, 1, 4, [.int .u32 0]⟩ :=
  TI.Is.of (z := .int .u32 0) Tryd.underlying90 (by kernel_rfl) rfl rfl
theorem ty91 : TI.Is Tryd.prog 91 ⟨.int .u64, 1, 8, [.int .u64 0]⟩ :=
  TI.Is.of (z := .int .u64 0) Tryd.underlying91 (by kernel_rfl) rfl rfl
theorem ty94 : TI.Is Tryd.prog 94 ⟨.slice 5, 1, 24, [.ints .u8 []]⟩ :=
  TI.Is.of (z := .slice none 0 0) Tryd.underlying94 (by kernel_rfl) rfl rfl
theorem ty126 : TI.Is Tryd.prog 126 ⟨.int .u8, 1, 1, [.int .u8 0]⟩ :=
  TI.Is.of (z := .int .u8 0) Tryd.underlying126 (by kernel_rfl) rfl rfl
theorem ty127 : TI.Is Tryd.prog 127 ⟨.int .u8, 1, 1, [.int .u8 0]⟩ :=
  TI.Is.of (z := .int .u8 0) Tryd.underlying127 (by kernel_rfl) rfl rfl
theorem ty130 : TI.Is Tryd.prog 130 ⟨.int .i32, 1, 4, [.int .i32 0]⟩ :=
  TI.Is.of (z := .int .i32 0) Tryd.underlying130 (by kernel_rfl) rfl rfl
theorem ty131 : TI.Is Tryd.prog 131 ⟨.int .i32, 1, 4, [.int .i32 0]⟩ :=
  TI.Is.of (z := .int .i32 0) Tryd.underlying131 (by kernel_rfl) rfl rfl
def τtab : List (Nat × TI) := [(2, ⟨.int .i64, 1, 8, [.int .i64 0]⟩), (3, ⟨.int .i64, 1, 8, [.int .i64 0]⟩), (4, ⟨.bool, 1, 1, [.bool false]⟩), (5, ⟨.int .u8, 1, 1, [.int .u8 0]⟩), (6, ⟨.int .u8, 1, 1, [.int .u8 0]⟩), (7, ⟨.struct [(0, 2), (1, 3), (2, 4), (3, 6)], 4, 24, [.int .i64 0, .int .i64 0, .bool false, .int .u8 0]⟩), (8, ⟨.struct [(0, 2), (1, 3), (2, 4), (3, 6)], 4, 24, [.int .i64 0, .int .i64 0, .bool false, .int .u8 0]⟩), (9, ⟨.str, 1, 16, [.str []]⟩), (10, ⟨.str, 1, 16, [.str []]⟩), (11, ⟨.str, 1, 16, [.str []]⟩), (12, ⟨.int .u64, 1, 8, [.int .u64 0]⟩), (13, ⟨.struct [(0, 9), (1, 12)], 2, 24, [.str [], .int .u64 0]⟩), (14, ⟨.struct [(0, 9), (1, 12)], 2, 24, [.str [], .int .u64 0]⟩), (21, ⟨.int .i32, 1, 4, [.int .i32 0]⟩), (22, ⟨.slice 90, 1, 24, [.ints .u32 []]⟩), (23, ⟨.slice 90, 1, 24, [.ints .u32 []]⟩), (24, ⟨.struct [(0, 4), (1, 23)], 2, 32, [.bool false, .ints .u32 []]⟩), (25, ⟨.struct [(0, 4), (1, 23)], 2, 32, [.bool false, .ints .u32 []]⟩), (26, ⟨.struct [(0, 25), (2, 23)], 3, 56, [.bool false, .ints .u32 [], .ints .u32 []]⟩), (27, ⟨.struct [(0, 25), (2, 23)], 3, 56, [.bool false, .ints .u32 [], .ints .u32 []]⟩), (28, ⟨.struct [(0, 27), (3, 27)], 6, 112, [.bool false, .ints .u32 [], .ints .u32 [], .bool false, .ints .u32 [], .ints .u32 []]⟩), (29, ⟨.struct [(0, 27), (3, 27)], 6, 112, [.bool false, .ints .u32 [], .ints .u32 [], .bool false, .ints .u32 [], .ints .u32 []]⟩), (34, ⟨.int .i64, 1, 8, [.int .i64 0]⟩), (40, ⟨.slice 3, 1, 24, [.ints .i64 []]⟩), (50, ⟨.slice 29, 1, 24, [.sl 6 []]⟩), (75, ⟨.int .u64, 1, 8, [.int .u64 0]⟩), (84, ⟨.slice 40, 1, 24, [.sl 1 []]⟩), (90, ⟨.int .u32, 1, 4, [.int .u32 0]⟩), (91, ⟨.int .u64, 1, 8, [.int .u64 0]⟩), (94, ⟨.slice 5, 1, 24, [.ints .u8 []]⟩), (126, ⟨.int .u8, 1, 1, [.int .u8 0]⟩), (127, ⟨.int .u8, 1, 1, [.int .u8 0]⟩), (130, ⟨.int .i32, 1, 4, [.int .i32 0]⟩), (131, ⟨.int .i32, 1, 4, [.int .i32 0]⟩)]
def τ : Tys Tryd.prog := ⟨τtab, all_cons ty2 <| all_cons ty3 <| all_cons ty4 <| all_cons ty5 <| all_cons ty6 <| all_cons ty7 <| all_cons ty8 <| all_cons ty9 <| all_cons ty10 <| all_cons ty11 <| all_cons ty12 <| all_cons ty13 <| all_cons ty14 <| all_cons ty21 <| all_cons ty22 <| all_cons ty23 <| all_cons ty24 <| all_cons ty25 <| all_cons ty26 <| all_cons ty27 <| all_cons ty28 <| all_cons ty29 <| all_cons ty34 <| all_cons ty40 <| all_cons ty50 <| all_cons ty75 <| all_cons ty84 <| all_cons ty90 <| all_cons ty91 <| all_cons ty94 <| all_cons ty126 <| all_cons ty127 <| all_cons ty130 <| all_cons ty131 <| all_nil⟩
end Go.Proofs.YtgdejiajiljipaaDoor.K
