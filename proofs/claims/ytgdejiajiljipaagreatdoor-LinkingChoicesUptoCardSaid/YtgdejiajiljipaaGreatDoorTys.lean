/- The types of this seat's program, as a table. Written by gen_tys.py. -/
import Derived.Test.YtgdejiajiljipaaGreatDoorMem
import Derived.Test.YtgdejiajiljipaaGreatDoorProg
import Derived.KernelRfl
namespace Go.Proofs.YtgdejiajiljipaaGreatDoor.K
open Go
set_option linter.unusedVariables false
theorem ty2 : TI.Is Tryz.prog 2 ⟨.int .i64, 1, 8, [.int .i64 0]⟩ :=
  TI.Is.of (z := .int .i64 0) Tryz.underlying2 (by kernel_rfl) rfl rfl
theorem ty3 : TI.Is Tryz.prog 3 ⟨.int .i64, 1, 8, [.int .i64 0]⟩ :=
  TI.Is.of (z := .int .i64 0) Tryz.underlying3 (by kernel_rfl) rfl rfl
theorem ty4 : TI.Is Tryz.prog 4 ⟨.bool, 1, 1, [.bool false]⟩ :=
  TI.Is.of (z := .bool false) Tryz.underlying4 (by kernel_rfl) rfl rfl
theorem ty5 : TI.Is Tryz.prog 5 ⟨.int .u8, 1, 1, [.int .u8 0]⟩ :=
  TI.Is.of (z := .int .u8 0) Tryz.underlying5 (by kernel_rfl) rfl rfl
theorem ty6 : TI.Is Tryz.prog 6 ⟨.int .u8, 1, 1, [.int .u8 0]⟩ :=
  TI.Is.of (z := .int .u8 0) Tryz.underlying6 (by kernel_rfl) rfl rfl
theorem ty7 : TI.Is Tryz.prog 7 ⟨.struct [(0, 2), (1, 3), (2, 4), (3, 6)], 4, 24, [.int .i64 0, .int .i64 0, .bool false, .int .u8 0]⟩ :=
  TI.Is.of (z := .agg #[.int .i64 0, .int .i64 0, .bool false, .int .u8 0]) ⟨_, Tryz.underlying7, rfl⟩ (by kernel_rfl) rfl rfl
theorem ty8 : TI.Is Tryz.prog 8 ⟨.struct [(0, 2), (1, 3), (2, 4), (3, 6)], 4, 24, [.int .i64 0, .int .i64 0, .bool false, .int .u8 0]⟩ :=
  TI.Is.of (z := .agg #[.int .i64 0, .int .i64 0, .bool false, .int .u8 0]) ⟨_, Tryz.underlying8, rfl⟩ (by kernel_rfl) rfl rfl
theorem ty9 : TI.Is Tryz.prog 9 ⟨.str, 1, 16, [.str []]⟩ :=
  TI.Is.of (z := .string .empty) Tryz.underlying9 (by kernel_rfl) rfl rfl
theorem ty10 : TI.Is Tryz.prog 10 ⟨.str, 1, 16, [.str []]⟩ :=
  TI.Is.of (z := .string .empty) Tryz.underlying10 (by kernel_rfl) rfl rfl
theorem ty11 : TI.Is Tryz.prog 11 ⟨.str, 1, 16, [.str []]⟩ :=
  TI.Is.of (z := .string .empty) Tryz.underlying11 (by kernel_rfl) rfl rfl
theorem ty12 : TI.Is Tryz.prog 12 ⟨.int .u64, 1, 8, [.int .u64 0]⟩ :=
  TI.Is.of (z := .int .u64 0) Tryz.underlying12 (by kernel_rfl) rfl rfl
theorem ty13 : TI.Is Tryz.prog 13 ⟨.struct [(0, 9), (1, 12)], 2, 24, [.str [], .int .u64 0]⟩ :=
  TI.Is.of (z := .agg #[.string .empty, .int .u64 0]) ⟨_, Tryz.underlying13, rfl⟩ (by kernel_rfl) rfl rfl
theorem ty14 : TI.Is Tryz.prog 14 ⟨.struct [(0, 9), (1, 12)], 2, 24, [.str [], .int .u64 0]⟩ :=
  TI.Is.of (z := .agg #[.string .empty, .int .u64 0]) ⟨_, Tryz.underlying14, rfl⟩ (by kernel_rfl) rfl rfl
theorem ty21 : TI.Is Tryz.prog 21 ⟨.int .i32, 1, 4, [.int .i32 0]⟩ :=
  TI.Is.of (z := .int .i32 0) Tryz.underlying21 (by kernel_rfl) rfl rfl
theorem ty22 : TI.Is Tryz.prog 22 ⟨.slice 80, 1, 24, [.ints .u32 []]⟩ :=
  TI.Is.of (z := .slice none 0 0) Tryz.underlying22 (by kernel_rfl) rfl rfl
theorem ty23 : TI.Is Tryz.prog 23 ⟨.slice 80, 1, 24, [.ints .u32 []]⟩ :=
  TI.Is.of (z := .slice none 0 0) Tryz.underlying23 (by kernel_rfl) rfl rfl
theorem ty24 : TI.Is Tryz.prog 24 ⟨.struct [(0, 4), (1, 23)], 2, 32, [.bool false, .ints .u32 []]⟩ :=
  TI.Is.of (z := .agg #[.bool false, .slice none 0 0]) ⟨_, Tryz.underlying24, rfl⟩ (by kernel_rfl) rfl rfl
theorem ty25 : TI.Is Tryz.prog 25 ⟨.struct [(0, 4), (1, 23)], 2, 32, [.bool false, .ints .u32 []]⟩ :=
  TI.Is.of (z := .agg #[.bool false, .slice none 0 0]) ⟨_, Tryz.underlying25, rfl⟩ (by kernel_rfl) rfl rfl
theorem ty26 : TI.Is Tryz.prog 26 ⟨.struct [(0, 25), (2, 23)], 3, 56, [.bool false, .ints .u32 [], .ints .u32 []]⟩ :=
  TI.Is.of (z := .agg #[.bool false, .slice none 0 0, .slice none 0 0]) ⟨_, Tryz.underlying26, rfl⟩ (by kernel_rfl) rfl rfl
theorem ty27 : TI.Is Tryz.prog 27 ⟨.struct [(0, 25), (2, 23)], 3, 56, [.bool false, .ints .u32 [], .ints .u32 []]⟩ :=
  TI.Is.of (z := .agg #[.bool false, .slice none 0 0, .slice none 0 0]) ⟨_, Tryz.underlying27, rfl⟩ (by kernel_rfl) rfl rfl
theorem ty28 : TI.Is Tryz.prog 28 ⟨.struct [(0, 27), (3, 27)], 6, 112, [.bool false, .ints .u32 [], .ints .u32 [], .bool false, .ints .u32 [], .ints .u32 []]⟩ :=
  TI.Is.of (z := .agg #[.bool false, .slice none 0 0, .slice none 0 0, .bool false, .slice none 0 0, .slice none 0 0]) ⟨_, Tryz.underlying28, rfl⟩ (by kernel_rfl) rfl rfl
theorem ty29 : TI.Is Tryz.prog 29 ⟨.struct [(0, 27), (3, 27)], 6, 112, [.bool false, .ints .u32 [], .ints .u32 [], .bool false, .ints .u32 [], .ints .u32 []]⟩ :=
  TI.Is.of (z := .agg #[.bool false, .slice none 0 0, .slice none 0 0, .bool false, .slice none 0 0, .slice none 0 0]) ⟨_, Tryz.underlying29, rfl⟩ (by kernel_rfl) rfl rfl
theorem ty30 : TI.Is Tryz.prog 30 ⟨.int .i64, 1, 8, [.int .i64 0]⟩ :=
  TI.Is.of (z := .int .i64 0) Tryz.underlying30 (by kernel_rfl) rfl rfl
theorem ty40 : TI.Is Tryz.prog 40 ⟨.slice 3, 1, 24, [.ints .i64 []]⟩ :=
  TI.Is.of (z := .slice none 0 0) Tryz.underlying40 (by kernel_rfl) rfl rfl
theorem ty45 : TI.Is Tryz.prog 45 ⟨.slice 29, 1, 24, [.sl 6 []]⟩ :=
  TI.Is.of (z := .slice none 0 0) Tryz.underlying45 (by kernel_rfl) rfl rfl
theorem ty80 : TI.Is Tryz.prog 80 ⟨.int .u32, 1, 4, [.int .u32 0]⟩ :=
  TI.Is.of (z := .int .u32 0) Tryz.underlying80 (by kernel_rfl) rfl rfl
theorem ty85 : TI.Is Tryz.prog 85 ⟨.int .u64, 1, 8, [.int .u64 0]⟩ :=
  TI.Is.of (z := .int .u64 0) Tryz.underlying85 (by kernel_rfl) rfl rfl
theorem ty87 : TI.Is Tryz.prog 87 ⟨.slice 40, 1, 24, [.sl 1 []]⟩ :=
  TI.Is.of (z := .slice none 0 0) Tryz.underlying87 (by kernel_rfl) rfl rfl
theorem ty93 : TI.Is Tryz.prog 93 ⟨.int .u64, 1, 8, [.int .u64 0]⟩ :=
  TI.Is.of (z := .int .u64 0) Tryz.underlying93 (by kernel_rfl) rfl rfl
theorem ty98 : TI.Is Tryz.prog 98 ⟨.slice 5, 1, 24, [.ints .u8 []]⟩ :=
  TI.Is.of (z := .slice none 0 0) Tryz.underlying98 (by kernel_rfl) rfl rfl
theorem ty132 : TI.Is Tryz.prog 132 ⟨.int .u8, 1, 1, [.int .u8 0]⟩ :=
  TI.Is.of (z := .int .u8 0) Tryz.underlying132 (by kernel_rfl) rfl rfl
theorem ty133 : TI.Is Tryz.prog 133 ⟨.int .u8, 1, 1, [.int .u8 0]⟩ :=
  TI.Is.of (z := .int .u8 0) Tryz.underlying133 (by kernel_rfl) rfl rfl
theorem ty136 : TI.Is Tryz.prog 136 ⟨.int .i32, 1, 4, [.int .i32 0]⟩ :=
  TI.Is.of (z := .int .i32 0) Tryz.underlying136 (by kernel_rfl) rfl rfl
theorem ty137 : TI.Is Tryz.prog 137 ⟨.int .i32, 1, 4, [.int .i32 0]⟩ :=
  TI.Is.of (z := .int .i32 0) Tryz.underlying137 (by kernel_rfl) rfl rfl
def τtab : List (Nat × TI) := [(2, ⟨.int .i64, 1, 8, [.int .i64 0]⟩), (3, ⟨.int .i64, 1, 8, [.int .i64 0]⟩), (4, ⟨.bool, 1, 1, [.bool false]⟩), (5, ⟨.int .u8, 1, 1, [.int .u8 0]⟩), (6, ⟨.int .u8, 1, 1, [.int .u8 0]⟩), (7, ⟨.struct [(0, 2), (1, 3), (2, 4), (3, 6)], 4, 24, [.int .i64 0, .int .i64 0, .bool false, .int .u8 0]⟩), (8, ⟨.struct [(0, 2), (1, 3), (2, 4), (3, 6)], 4, 24, [.int .i64 0, .int .i64 0, .bool false, .int .u8 0]⟩), (9, ⟨.str, 1, 16, [.str []]⟩), (10, ⟨.str, 1, 16, [.str []]⟩), (11, ⟨.str, 1, 16, [.str []]⟩), (12, ⟨.int .u64, 1, 8, [.int .u64 0]⟩), (13, ⟨.struct [(0, 9), (1, 12)], 2, 24, [.str [], .int .u64 0]⟩), (14, ⟨.struct [(0, 9), (1, 12)], 2, 24, [.str [], .int .u64 0]⟩), (21, ⟨.int .i32, 1, 4, [.int .i32 0]⟩), (22, ⟨.slice 80, 1, 24, [.ints .u32 []]⟩), (23, ⟨.slice 80, 1, 24, [.ints .u32 []]⟩), (24, ⟨.struct [(0, 4), (1, 23)], 2, 32, [.bool false, .ints .u32 []]⟩), (25, ⟨.struct [(0, 4), (1, 23)], 2, 32, [.bool false, .ints .u32 []]⟩), (26, ⟨.struct [(0, 25), (2, 23)], 3, 56, [.bool false, .ints .u32 [], .ints .u32 []]⟩), (27, ⟨.struct [(0, 25), (2, 23)], 3, 56, [.bool false, .ints .u32 [], .ints .u32 []]⟩), (28, ⟨.struct [(0, 27), (3, 27)], 6, 112, [.bool false, .ints .u32 [], .ints .u32 [], .bool false, .ints .u32 [], .ints .u32 []]⟩), (29, ⟨.struct [(0, 27), (3, 27)], 6, 112, [.bool false, .ints .u32 [], .ints .u32 [], .bool false, .ints .u32 [], .ints .u32 []]⟩), (30, ⟨.int .i64, 1, 8, [.int .i64 0]⟩), (40, ⟨.slice 3, 1, 24, [.ints .i64 []]⟩), (45, ⟨.slice 29, 1, 24, [.sl 6 []]⟩), (80, ⟨.int .u32, 1, 4, [.int .u32 0]⟩), (85, ⟨.int .u64, 1, 8, [.int .u64 0]⟩), (87, ⟨.slice 40, 1, 24, [.sl 1 []]⟩), (93, ⟨.int .u64, 1, 8, [.int .u64 0]⟩), (98, ⟨.slice 5, 1, 24, [.ints .u8 []]⟩), (132, ⟨.int .u8, 1, 1, [.int .u8 0]⟩), (133, ⟨.int .u8, 1, 1, [.int .u8 0]⟩), (136, ⟨.int .i32, 1, 4, [.int .i32 0]⟩), (137, ⟨.int .i32, 1, 4, [.int .i32 0]⟩)]
def τ : Tys Tryz.prog := ⟨τtab, all_cons ty2 <| all_cons ty3 <| all_cons ty4 <| all_cons ty5 <| all_cons ty6 <| all_cons ty7 <| all_cons ty8 <| all_cons ty9 <| all_cons ty10 <| all_cons ty11 <| all_cons ty12 <| all_cons ty13 <| all_cons ty14 <| all_cons ty21 <| all_cons ty22 <| all_cons ty23 <| all_cons ty24 <| all_cons ty25 <| all_cons ty26 <| all_cons ty27 <| all_cons ty28 <| all_cons ty29 <| all_cons ty30 <| all_cons ty40 <| all_cons ty45 <| all_cons ty80 <| all_cons ty85 <| all_cons ty87 <| all_cons ty93 <| all_cons ty98 <| all_cons ty132 <| all_cons ty133 <| all_cons ty136 <| all_cons ty137 <| all_nil⟩
end Go.Proofs.YtgdejiajiljipaaGreatDoor.K
