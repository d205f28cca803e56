/- The types of this seat's program, as a table. Written by gen_tys.py. -/
import Derived.Test.YtmefecfkajjajaaGreatDoorMem
import Derived.Test.YtmefecfkajjajaaGreatDoorProg
import Derived.KernelRfl
namespace Go.Proofs.YtmefecfkajjajaaGreatDoor.K
open Go
set_option linter.unusedVariables false
theorem ty2 : TI.Is Tryz.prog 2 ⟨.int .i64, 1, 8, [.int .i64 0]⟩ :=
  TI.Is.of (z := .int .i64 0) Tryz.underlying2 (by kernel_rfl) rfl rfl
theorem ty3 : TI.Is Tryz.prog 3 ⟨.int .i64, 1, 8, [.int .i64 0]⟩ :=
  TI.Is.of (z := .int .i64 0) Tryz.underlying3 (by kernel_rfl) rfl rfl
theorem ty4 : TI.Is Tryz.prog 4 ⟨.bool, 1, 1, [.bool false]⟩ :=
  TI.Is.of (z := .bool false) Tryz.underlying4 (by kernel_rfl) rfl rfl
theorem ty5 : TI.Is Tryz.prog 5 ⟨.int .u8, 1, 1, [.int .u8 0]⟩ :=
  TI.Is.of (z := .int .u8 0) Tryz.underlying5 (by kernel_rfl) rfl rfl
theorem ty6 : TI.Is Tryz.prog 6 ⟨.int .u8, 1, 1, [.int .u8 0]⟩ :=
  TI.Is.of (z := .int .u8 0) Tryz.underlying6 (by kernel_rfl) rfl rfl
theorem ty7 : TI.Is Tryz.prog 7 ⟨.struct [(0, 2), (1, 3), (2, 4), (3, 6)], 4, 24, [.int .i64 0, .int .i64 0, .bool false, .int .u8 0]⟩ :=
  TI.Is.of (z := .agg #[.int .i64 0, .int .i64 0, .bool false, .int .u8 0]) ⟨_, Tryz.underlying7, rfl⟩ (by kernel_rfl) rfl rfl
theorem ty8 : TI.Is Tryz.prog 8 ⟨.struct [(0, 2), (1, 3), (2, 4), (3, 6)], 4, 24, [.int .i64 0, .int .i64 0, .bool false, .int .u8 0]⟩ :=
  TI.Is.of (z := .agg #[.int .i64 0, .int .i64 0, .bool false, .int .u8 0]) ⟨_, Tryz.underlying8, rfl⟩ (by kernel_rfl) rfl rfl
theorem ty9 : TI.Is Tryz.prog 9 ⟨.str, 1, 16, [.str []]⟩ :=
  TI.Is.of (z := .string .empty) Tryz.underlying9 (by kernel_rfl) rfl rfl
theorem ty10 : TI.Is Tryz.prog 10 ⟨.str, 1, 16, [.str []]⟩ :=
  TI.Is.of (z := .string .empty) Tryz.underlying10 (by kernel_rfl) rfl rfl
theorem ty11 : TI.Is Tryz.prog 11 ⟨.str, 1, 16, [.str []]⟩ :=
  TI.Is.of (z := .string .empty) Tryz.underlying11 (by kernel_rfl) rfl rfl
theorem ty12 : TI.Is Tryz.prog 12 ⟨.int .u64, 1, 8, [.int .u64 0]⟩ :=
  TI.Is.of (z := .int .u64 0) Tryz.underlying12 (by kernel_rfl) rfl rfl
theorem ty13 : TI.Is Tryz.prog 13 ⟨.struct [(0, 9), (1, 12)], 2, 24, [.str [], .int .u64 0]⟩ :=
  TI.Is.of (z := .agg #[.string .empty, .int .u64 0]) ⟨_, Tryz.underlying13, rfl⟩ (by kernel_rfl) rfl rfl
theorem ty14 : TI.Is Tryz.prog 14 ⟨.struct [(0, 9), (1, 12)], 2, 24, [.str [], .int .u64 0]⟩ :=
  TI.Is.of (z := .agg #[.string .empty, .int .u64 0]) ⟨_, Tryz.underlying14, rfl⟩ (by kernel_rfl) rfl rfl
theorem ty21 : TI.Is Tryz.prog 21 ⟨.int .i32, 1, 4, [.int .i32 0]⟩ :=
  TI.Is.of (z := .int .i32 0) Tryz.underlying21 (by kernel_rfl) rfl rfl
theorem ty22 : TI.Is Tryz.prog 22 ⟨.slice 3, 1, 24, [.ints .i64 []]⟩ :=
  TI.Is.of (z := .slice none 0 0) Tryz.underlying22 (by kernel_rfl) rfl rfl
theorem ty23 : TI.Is Tryz.prog 23 ⟨.slice 61, 1, 24, [.ints .u32 []]⟩ :=
  TI.Is.of (z := .slice none 0 0) Tryz.underlying23 (by kernel_rfl) rfl rfl
theorem ty24 : TI.Is Tryz.prog 24 ⟨.slice 61, 1, 24, [.ints .u32 []]⟩ :=
  TI.Is.of (z := .slice none 0 0) Tryz.underlying24 (by kernel_rfl) rfl rfl
theorem ty25 : TI.Is Tryz.prog 25 ⟨.struct [(0, 4), (1, 24)], 2, 32, [.bool false, .ints .u32 []]⟩ :=
  TI.Is.of (z := .agg #[.bool false, .slice none 0 0]) ⟨_, Tryz.underlying25, rfl⟩ (by kernel_rfl) rfl rfl
theorem ty26 : TI.Is Tryz.prog 26 ⟨.struct [(0, 4), (1, 24)], 2, 32, [.bool false, .ints .u32 []]⟩ :=
  TI.Is.of (z := .agg #[.bool false, .slice none 0 0]) ⟨_, Tryz.underlying26, rfl⟩ (by kernel_rfl) rfl rfl
theorem ty27 : TI.Is Tryz.prog 27 ⟨.struct [(0, 26), (2, 24)], 3, 56, [.bool false, .ints .u32 [], .ints .u32 []]⟩ :=
  TI.Is.of (z := .agg #[.bool false, .slice none 0 0, .slice none 0 0]) ⟨_, Tryz.underlying27, rfl⟩ (by kernel_rfl) rfl rfl
theorem ty28 : TI.Is Tryz.prog 28 ⟨.struct [(0, 26), (2, 24)], 3, 56, [.bool false, .ints .u32 [], .ints .u32 []]⟩ :=
  TI.Is.of (z := .agg #[.bool false, .slice none 0 0, .slice none 0 0]) ⟨_, Tryz.underlying28, rfl⟩ (by kernel_rfl) rfl rfl
theorem ty29 : TI.Is Tryz.prog 29 ⟨.int .i64, 1, 8, [.int .i64 0]⟩ :=
  TI.Is.of (z := .int .i64 0) Tryz.underlying29 (by kernel_rfl) rfl rfl
theorem ty42 : TI.Is Tryz.prog 42 ⟨.struct [(0, 3), (1, 3), (2, 22)], 3, 40, [.int .i64 0, .int .i64 0, .ints .i64 []]⟩ :=
  TI.Is.of (z := .agg #[.int .i64 0, .int .i64 0, .slice none 0 0]) ⟨_, Tryz.underlying42, rfl⟩ (by kernel_rfl) rfl rfl
theorem ty43 : TI.Is Tryz.prog 43 ⟨.struct [(0, 3), (1, 3), (2, 22)], 3, 40, [.int .i64 0, .int .i64 0, .ints .i64 []]⟩ :=
  TI.Is.of (z := .agg #[.int .i64 0, .int .i64 0, .slice none 0 0]) ⟨_, Tryz.underlying43, rfl⟩ (by kernel_rfl) rfl rfl
theorem ty44 : TI.Is Tryz.prog 44 ⟨.slice 43, 1, 24, [.sl 3 []]⟩ :=
  TI.Is.of (z := .slice none 0 0) Tryz.underlying44 (by kernel_rfl) rfl rfl
theorem ty45 : TI.Is Tryz.prog 45 ⟨.slice 51, 1, 24, [.sl 2 []]⟩ :=
  TI.Is.of (z := .slice none 0 0) Tryz.underlying45 (by kernel_rfl) rfl rfl
theorem ty46 : TI.Is Tryz.prog 46 ⟨.int .u64, 1, 8, [.int .u64 0]⟩ :=
  TI.Is.of (z := .int .u64 0) Tryz.underlying46 (by kernel_rfl) rfl rfl
theorem ty47 : TI.Is Tryz.prog 47 ⟨.int .u64, 1, 8, [.int .u64 0]⟩ :=
  TI.Is.of (z := .int .u64 0) Tryz.underlying47 (by kernel_rfl) rfl rfl
theorem ty50 : TI.Is Tryz.prog 50 ⟨.struct [(0, 3), (1, 3)], 2, 16, [.int .i64 0, .int .i64 0]⟩ :=
  TI.Is.of (z := .agg #[.int .i64 0, .int .i64 0]) ⟨_, Tryz.underlying50, rfl⟩ (by kernel_rfl) rfl rfl
theorem ty51 : TI.Is Tryz.prog 51 ⟨.struct [(0, 3), (1, 3)], 2, 16, [.int .i64 0, .int .i64 0]⟩ :=
  TI.Is.of (z := .agg #[.int .i64 0, .int .i64 0]) ⟨_, Tryz.underlying51, rfl⟩ (by kernel_rfl) rfl rfl
theorem ty61 : TI.Is Tryz.prog 61 ⟨.int .u32, 1, 4, [.int .u32 0]⟩ :=
  TI.Is.of (z := .int .u32 0) Tryz.underlying61 (by kernel_rfl) rfl rfl
theorem ty89 : TI.Is Tryz.prog 89 ⟨.int .u64, 1, 8, [.int .u64 0]⟩ :=
  TI.Is.of (z := .int .u64 0) Tryz.underlying89 (by kernel_rfl) rfl rfl
theorem ty92 : TI.Is Tryz.prog 92 ⟨.slice 5, 1, 24, [.ints .u8 []]⟩ :=
  TI.Is.of (z := .slice none 0 0) Tryz.underlying92 (by kernel_rfl) rfl rfl
theorem ty137 : TI.Is Tryz.prog 137 ⟨.int .u8, 1, 1, [.int .u8 0]⟩ :=
  TI.Is.of (z := .int .u8 0) Tryz.underlying137 (by kernel_rfl) rfl rfl
theorem ty138 : TI.Is Tryz.prog 138 ⟨.int .u8, 1, 1, [.int .u8 0]⟩ :=
  TI.Is.of (z := .int .u8 0) Tryz.underlying138 (by kernel_rfl) rfl rfl
theorem ty141 : TI.Is Tryz.prog 141 ⟨.int .i32, 1, 4, [.int .i32 0]⟩ :=
  TI.Is.of (z := .int .i32 0) Tryz.underlying141 (by kernel_rfl) rfl rfl
theorem ty142 : TI.Is Tryz.prog 142 ⟨.int .i32, 1, 4, [.int .i32 0]⟩ :=
  TI.Is.of (z := .int .i32 0) Tryz.underlying142 (by kernel_rfl) rfl rfl
def τtab : List (Nat × TI) := [(2, ⟨.int .i64, 1, 8, [.int .i64 0]⟩), (3, ⟨.int .i64, 1, 8, [.int .i64 0]⟩), (4, ⟨.bool, 1, 1, [.bool false]⟩), (5, ⟨.int .u8, 1, 1, [.int .u8 0]⟩), (6, ⟨.int .u8, 1, 1, [.int .u8 0]⟩), (7, ⟨.struct [(0, 2), (1, 3), (2, 4), (3, 6)], 4, 24, [.int .i64 0, .int .i64 0, .bool false, .int .u8 0]⟩), (8, ⟨.struct [(0, 2), (1, 3), (2, 4), (3, 6)], 4, 24, [.int .i64 0, .int .i64 0, .bool false, .int .u8 0]⟩), (9, ⟨.str, 1, 16, [.str []]⟩), (10, ⟨.str, 1, 16, [.str []]⟩), (11, ⟨.str, 1, 16, [.str []]⟩), (12, ⟨.int .u64, 1, 8, [.int .u64 0]⟩), (13, ⟨.struct [(0, 9), (1, 12)], 2, 24, [.str [], .int .u64 0]⟩), (14, ⟨.struct [(0, 9), (1, 12)], 2, 24, [.str [], .int .u64 0]⟩), (21, ⟨.int .i32, 1, 4, [.int .i32 0]⟩), (22, ⟨.slice 3, 1, 24, [.ints .i64 []]⟩), (23, ⟨.slice 61, 1, 24, [.ints .u32 []]⟩), (24, ⟨.slice 61, 1, 24, [.ints .u32 []]⟩), (25, ⟨.struct [(0, 4), (1, 24)], 2, 32, [.bool false, .ints .u32 []]⟩), (26, ⟨.struct [(0, 4), (1, 24)], 2, 32, [.bool false, .ints .u32 []]⟩), (27, ⟨.struct [(0, 26), (2, 24)], 3, 56, [.bool false, .ints .u32 [], .ints .u32 []]⟩), (28, ⟨.struct [(0, 26), (2, 24)], 3, 56, [.bool false, .ints .u32 [], .ints .u32 []]⟩), (29, ⟨.int .i64, 1, 8, [.int .i64 0]⟩), (42, ⟨.struct [(0, 3), (1, 3), (2, 22)], 3, 40, [.int .i64 0, .int .i64 0, .ints .i64 []]⟩), (43, ⟨.struct [(0, 3), (1, 3), (2, 22)], 3, 40, [.int .i64 0, .int .i64 0, .ints .i64 []]⟩), (44, ⟨.slice 43, 1, 24, [.sl 3 []]⟩), (45, ⟨.slice 51, 1, 24, [.sl 2 []]⟩), (46, ⟨.int .u64, 1, 8, [.int .u64 0]⟩), (47, ⟨.int .u64, 1, 8, [.int .u64 0]⟩), (50, ⟨.struct [(0, 3), (1, 3)], 2, 16, [.int .i64 0, .int .i64 0]⟩), (51, ⟨.struct [(0, 3), (1, 3)], 2, 16, [.int .i64 0, .int .i64 0]⟩), (61, ⟨.int .u32, 1, 4, [.int .u32 0]⟩), (89, ⟨.int .u64, 1, 8, [.int .u64 0]⟩), (92, ⟨.slice 5, 1, 24, [.ints .u8 []]⟩), (137, ⟨.int .u8, 1, 1, [.int .u8 0]⟩), (138, ⟨.int .u8, 1, 1, [.int .u8 0]⟩), (141, ⟨.int .i32, 1, 4, [.int .i32 0]⟩), (142, ⟨.int .i32, 1, 4, [.int .i32 0]⟩)]
def τ : Tys Tryz.prog := ⟨τtab, all_cons ty2 <| all_cons ty3 <| all_cons ty4 <| all_cons ty5 <| all_cons ty6 <| all_cons ty7 <| all_cons ty8 <| all_cons ty9 <| all_cons ty10 <| all_cons ty11 <| all_cons ty12 <| all_cons ty13 <| all_cons ty14 <| all_cons ty21 <| all_cons ty22 <| all_cons ty23 <| all_cons ty24 <| all_cons ty25 <| all_cons ty26 <| all_cons ty27 <| all_cons ty28 <| all_cons ty29 <| all_cons ty42 <| all_cons ty43 <| all_cons ty44 <| all_cons ty45 <| all_cons ty46 <| all_cons ty47 <| all_cons ty50 <| all_cons ty51 <| all_cons ty61 <| all_cons ty89 <| all_cons ty92 <| all_cons ty137 <| all_cons ty138 <| all_cons ty141 <| all_cons ty142 <| all_nil⟩
end Go.Proofs.YtmefecfkajjajaaGreatDoor.K
