/- The types of this seat's program, as a table. Written by gen_tys.py. -/
import Derived.Test.YtfbpkohfpipliaaGreatDoorMem
import Derived.Test.YtfbpkohfpipliaaGreatDoorProg
import Derived.KernelRfl
namespace Go.Proofs.YtfbpkohfpipliaaGreatDoor.K
open Go
set_option linter.unusedVariables false
theorem ty2 : TI.Is Tryz.prog 2 ⟨.int .i64, 1, 8, [.int .i64 0]⟩ :=
  TI.Is.of (z := .int .i64 0) Tryz.underlying2 (by kernel_rfl) rfl rfl
theorem ty3 : TI.Is Tryz.prog 3 ⟨.int .i64, 1, 8, [.int .i64 0]⟩ :=
  TI.Is.of (z := .int .i64 0) Tryz.underlying3 (by kernel_rfl) rfl rfl
theorem ty4 : TI.Is Tryz.prog 4 ⟨.bool, 1, 1, [.bool false]⟩ :=
  TI.Is.of (z := .bool false) Tryz.underlying4 (by kernel_rfl) rfl rfl
theorem ty5 : TI.Is Tryz.prog 5 ⟨.int .u8, 1, 1, [.int .u8 0]⟩ :=
  TI.Is.of (z := .int .u8 0) Tryz.underlying5 (by kernel_rfl) rfl rfl
theorem ty6 : TI.Is Tryz.prog 6 ⟨.int .u8, 1, 1, [.int .u8 0]⟩ :=
  TI.Is.of (z := .int .u8 0) Tryz.underlying6 (by kernel_rfl) rfl rfl
theorem ty7 : TI.Is Tryz.prog 7 ⟨.struct [(0, 2), (1, 3), (2, 4), (3, 6)], 4, 24, [.int .i64 0, .int .i64 0, .bool false, .int .u8 0]⟩ :=
  TI.Is.of (z := .agg #[.int .i64 0, .int .i64 0, .bool false, .int .u8 0]) ⟨_, Tryz.underlying7, rfl⟩ (by kernel_rfl) rfl rfl
theorem ty8 : TI.Is Tryz.prog 8 ⟨.struct [(0, 2), (1, 3), (2, 4), (3, 6)], 4, 24, [.int .i64 0, .int .i64 0, .bool false, .int .u8 0]⟩ :=
  TI.Is.of (z := .agg #[.int .i64 0, .int .i64 0, .bool false, .int .u8 0]) ⟨_, Tryz.underlying8, rfl⟩ (by kernel_rfl) rfl rfl
theorem ty9 : TI.Is Tryz.prog 9 ⟨.str, 1, 16, [.str []]⟩ :=
  TI.Is.of (z := .string .empty) Tryz.underlying9 (by kernel_rfl) rfl rfl
theorem ty10 : TI.Is Tryz.prog 10 ⟨.str, 1, 16, [.str []]⟩ :=
  TI.Is.of (z := .string .empty) Tryz.underlying10 (by kernel_rfl) rfl rfl
theorem ty11 : TI.Is Tryz.prog 11 ⟨.str, 1, 16, [.str []]⟩ :=
  TI.Is.of (z := .string .empty) Tryz.underlying11 (by kernel_rfl) rfl rfl
theorem ty12 : TI.Is Tryz.prog 12 ⟨.int .u64, 1, 8, [.int .u64 0]⟩ :=
  TI.Is.of (z := .int .u64 0) Tryz.underlying12 (by kernel_rfl) rfl rfl
theorem ty13 : TI.Is Tryz.prog 13 ⟨.struct [(0, 9), (1, 12)], 2, 24, [.str [], .int .u64 0]⟩ :=
  TI.Is.of (z := .agg #[.string .empty, .int .u64 0]) ⟨_, Tryz.underlying13, rfl⟩ (by kernel_rfl) rfl rfl
theorem ty14 : TI.Is Tryz.prog 14 ⟨.struct [(0, 9), (1, 12)], 2, 24, [.str [], .int .u64 0]⟩ :=
  TI.Is.of (z := .agg #[.string .empty, .int .u64 0]) ⟨_, Tryz.underlying14, rfl⟩ (by kernel_rfl) rfl rfl
theorem ty21 : TI.Is Tryz.prog 21 ⟨.int .i32, 1, 4, [.int .i32 0]⟩ :=
  TI.Is.of (z := .int .i32 0) Tryz.underlying21 (by kernel_rfl) rfl rfl
theorem ty22 : TI.Is Tryz.prog 22 ⟨.slice 67, 1, 24, [.ints .u32 []]⟩ :=
  TI.Is.of (z := .slice none 0 0) Tryz.underlying22 (by kernel_rfl) rfl rfl
theorem ty23 : TI.Is Tryz.prog 23 ⟨.slice 67, 1, 24, [.ints .u32 []]⟩ :=
  TI.Is.of (z := .slice none 0 0) Tryz.underlying23 (by kernel_rfl) rfl rfl
theorem ty24 : TI.Is Tryz.prog 24 ⟨.struct [(0, 4), (1, 23)], 2, 32, [.bool false, .ints .u32 []]⟩ :=
  TI.Is.of (z := .agg #[.bool false, .slice none 0 0]) ⟨_, Tryz.underlying24, rfl⟩ (by kernel_rfl) rfl rfl
theorem ty25 : TI.Is Tryz.prog 25 ⟨.struct [(0, 4), (1, 23)], 2, 32, [.bool false, .ints .u32 []]⟩ :=
  TI.Is.of (z := .agg #[.bool false, .slice none 0 0]) ⟨_, Tryz.underlying25, rfl⟩ (by kernel_rfl) rfl rfl
theorem ty26 : TI.Is Tryz.prog 26 ⟨.struct [(0, 25), (2, 23)], 3, 56, [.bool false, .ints .u32 [], .ints .u32 []]⟩ :=
  TI.Is.of (z := .agg #[.bool false, .slice none 0 0, .slice none 0 0]) ⟨_, Tryz.underlying26, rfl⟩ (by kernel_rfl) rfl rfl
theorem ty27 : TI.Is Tryz.prog 27 ⟨.struct [(0, 25), (2, 23)], 3, 56, [.bool false, .ints .u32 [], .ints .u32 []]⟩ :=
  TI.Is.of (z := .agg #[.bool false, .slice none 0 0, .slice none 0 0]) ⟨_, Tryz.underlying27, rfl⟩ (by kernel_rfl) rfl rfl
theorem ty28 : TI.Is Tryz.prog 28 ⟨.struct [(0, 27), (3, 27)], 6, 112, [.bool false, .ints .u32 [], .ints .u32 [], .bool false, .ints .u32 [], .ints .u32 []]⟩ :=
  TI.Is.of (z := .agg #[.bool false, .slice none 0 0, .slice none 0 0, .bool false, .slice none 0 0, .slice none 0 0]) ⟨_, Tryz.underlying28, rfl⟩ (by kernel_rfl) rfl rfl
theorem ty29 : TI.Is Tryz.prog 29 ⟨.struct [(0, 27), (3, 27)], 6, 112, [.bool false, .ints .u32 [], .ints .u32 [], .bool false, .ints .u32 [], .ints .u32 []]⟩ :=
  TI.Is.of (z := .agg #[.bool false, .slice none 0 0, .slice none 0 0, .bool false, .slice none 0 0, .slice none 0 0]) ⟨_, Tryz.underlying29, rfl⟩ (by kernel_rfl) rfl rfl
theorem ty42 : TI.Is Tryz.prog 42 ⟨.slice 27, 1, 24, [.sl 3 []]⟩ :=
  TI.Is.of (z := .slice none 0 0) Tryz.underlying42 (by kernel_rfl) rfl rfl
theorem ty65 : TI.Is Tryz.prog 65 ⟨.int .u64, 1, 8, [.int .u64 0]⟩ :=
  TI.Is.of (z := .int .u64 0) Tryz.underlying65 (by kernel_rfl) rfl rfl
theorem ty67 : TI.Is Tryz.prog 67 ⟨.int .u32, 1, 4, [.int .u32 0]⟩ :=
  TI.Is.of (z := .int .u32 0) Tryz.underlying67 (by kernel_rfl) rfl rfl
theorem ty74 : TI.Is Tryz.prog 74 ⟨.int .u64, 1, 8, [.int .u64 0]⟩ :=
  TI.Is.of (z := .int .u64 0) Tryz.underlying74 (by kernel_rfl) rfl rfl
theorem ty83 : TI.Is Tryz.prog 83 ⟨.slice 5, 1, 24, [.ints .u8 []]⟩ :=
  TI.Is.of (z := .slice none 0 0) Tryz.underlying83 (by kernel_rfl) rfl rfl
theorem ty117 : TI.Is Tryz.prog 117 ⟨.int .u8, 1, 1, [.int .u8 0]⟩ :=
  TI.Is.of (z := .int .u8 0) Tryz.underlying117 (by kernel_rfl) rfl rfl
theorem ty118 : TI.Is Tryz.prog 118 ⟨.int .u8, 1, 1, [.int .u8 0]⟩ :=
  TI.Is.of (z := .int .u8 0) Tryz.underlying118 (by kernel_rfl) rfl rfl
theorem ty121 : TI.Is Tryz.prog 121 ⟨.int .i32, 1, 4, [.int .i32 0]⟩ :=
  TI.Is.of (z := .int .i32 0) Tryz.underlying121 (by kernel_rfl) rfl rfl
theorem ty122 : TI.Is Tryz.prog 122 ⟨.int .i32, 1, 4, [.int .i32 0]⟩ :=
  TI.Is.of (z := .int .i32 0) Tryz.underlying122 (by kernel_rfl) rfl rfl
def τtab : List (Nat × TI) := [(2, ⟨.int .i64, 1, 8, [.int .i64 0]⟩), (3, ⟨.int .i64, 1, 8, [.int .i64 0]⟩), (4, ⟨.bool, 1, 1, [.bool false]⟩), (5, ⟨.int .u8, 1, 1, [.int .u8 0]⟩), (6, ⟨.int .u8, 1, 1, [.int .u8 0]⟩), (7, ⟨.struct [(0, 2), (1, 3), (2, 4), (3, 6)], 4, 24, [.int .i64 0, .int .i64 0, .bool false, .int .u8 0]⟩), (8, ⟨.struct [(0, 2), (1, 3), (2, 4), (3, 6)], 4, 24, [.int .i64 0, .int .i64 0, .bool false, .int .u8 0]⟩), (9, ⟨.str, 1, 16, [.str []]⟩), (10, ⟨.str, 1, 16, [.str []]⟩), (11, ⟨.str, 1, 16, [.str []]⟩), (12, ⟨.int .u64, 1, 8, [.int .u64 0]⟩), (13, ⟨.struct [(0, 9), (1, 12)], 2, 24, [.str [], .int .u64 0]⟩), (14, ⟨.struct [(0, 9), (1, 12)], 2, 24, [.str [], .int .u64 0]⟩), (21, ⟨.int .i32, 1, 4, [.int .i32 0]⟩), (22, ⟨.slice 67, 1, 24, [.ints .u32 []]⟩), (23, ⟨.slice 67, 1, 24, [.ints .u32 []]⟩), (24, ⟨.struct [(0, 4), (1, 23)], 2, 32, [.bool false, .ints .u32 []]⟩), (25, ⟨.struct [(0, 4), (1, 23)], 2, 32, [.bool false, .ints .u32 []]⟩), (26, ⟨.struct [(0, 25), (2, 23)], 3, 56, [.bool false, .ints .u32 [], .ints .u32 []]⟩), (27, ⟨.struct [(0, 25), (2, 23)], 3, 56, [.bool false, .ints .u32 [], .ints .u32 []]⟩), (28, ⟨.struct [(0, 27), (3, 27)], 6, 112, [.bool false, .ints .u32 [], .ints .u32 [], .bool false, .ints .u32 [], .ints .u32 []]⟩), (29, ⟨.struct [(0, 27), (3, 27)], 6, 112, [.bool false, .ints .u32 [], .ints .u32 [], .bool false, .ints .u32 [], .ints .u32 []]⟩), (42, ⟨.slice 27, 1, 24, [.sl 3 []]⟩), (65, ⟨.int .u64, 1, 8, [.int .u64 0]⟩), (67, ⟨.int .u32, 1, 4, [.int .u32 0]⟩), (74, ⟨.int .u64, 1, 8, [.int .u64 0]⟩), (83, ⟨.slice 5, 1, 24, [.ints .u8 []]⟩), (117, ⟨.int .u8, 1, 1, [.int .u8 0]⟩), (118, ⟨.int .u8, 1, 1, [.int .u8 0]⟩), (121, ⟨.int .i32, 1, 4, [.int .i32 0]⟩), (122, ⟨.int .i32, 1, 4, [.int .i32 0]⟩)]
def τ : Tys Tryz.prog := ⟨τtab, all_cons ty2 <| all_cons ty3 <| all_cons ty4 <| all_cons ty5 <| all_cons ty6 <| all_cons ty7 <| all_cons ty8 <| all_cons ty9 <| all_cons ty10 <| all_cons ty11 <| all_cons ty12 <| all_cons ty13 <| all_cons ty14 <| all_cons ty21 <| all_cons ty22 <| all_cons ty23 <| all_cons ty24 <| all_cons ty25 <| all_cons ty26 <| all_cons ty27 <| all_cons ty28 <| all_cons ty29 <| all_cons ty42 <| all_cons ty65 <| all_cons ty67 <| all_cons ty74 <| all_cons ty83 <| all_cons ty117 <| all_cons ty118 <| all_cons ty121 <| all_cons ty122 <| all_nil⟩
end Go.Proofs.YtfbpkohfpipliaaGreatDoor.K
