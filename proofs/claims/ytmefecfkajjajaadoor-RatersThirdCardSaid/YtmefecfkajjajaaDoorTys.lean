/- The types of this seat's program, as a table. Written by gen_tys.py. -/
import Derived.Test.YtmefecfkajjajaaDoorMem
import Derived.Test.YtmefecfkajjajaaDoorProg
import Derived.KernelRfl
namespace Go.Proofs.YtmefecfkajjajaaDoor.K
open Go
set_option linter.unusedVariables false
theorem ty2 : TI.Is Tryd.prog 2 ⟨.int .i64, 1, 8, [.int .i64 0]⟩ :=
  TI.Is.of (z := .int .i64 0) Tryd.underlying2 (by kernel_rfl) rfl rfl
theorem ty3 : TI.Is Tryd.prog 3 ⟨.int .i64, 1, 8, [.int .i64 0]⟩ :=
  TI.Is.of (z := .int .i64 0) Tryd.underlying3 (by kernel_rfl) rfl rfl
theorem ty4 : TI.Is Tryd.prog 4 ⟨.bool, 1, 1, [.bool false]⟩ :=
  TI.Is.of (z := .bool false) Tryd.underlying4 (by kernel_rfl) rfl rfl
theorem ty5 : TI.Is Tryd.prog 5 ⟨.int .u8, 1, 1, [.int .u8 0]⟩ :=
  TI.Is.of (z := .int .u8 0) Tryd.underlying5 (by kernel_rfl) rfl rfl
theorem ty6 : TI.Is Tryd.prog 6 ⟨.int .u8, 1, 1, [.int .u8 0]⟩ :=
  TI.Is.of (z := .int .u8 0) Tryd.underlying6 (by kernel_rfl) rfl rfl
theorem ty7 : TI.Is Tryd.prog 7 ⟨.struct [(0, 2), (1, 3), (2, 4), (3, 6)], 4, 24, [.int .i64 0, .int .i64 0, .bool false, .int .u8 0]⟩ :=
  TI.Is.of (z := .agg #[.int .i64 0, .int .i64 0, .bool false, .int .u8 0]) ⟨_, Tryd.underlying7, rfl⟩ (by kernel_rfl) rfl rfl
theorem ty8 : TI.Is Tryd.prog 8 ⟨.struct [(0, 2), (1, 3), (2, 4), (3, 6)], 4, 24, [.int .i64 0, .int .i64 0, .bool false, .int .u8 0]⟩ :=
  TI.Is.of (z := .agg #[.int .i64 0, .int .i64 0, .bool false, .int .u8 0]) ⟨_, Tryd.underlying8, rfl⟩ (by kernel_rfl) rfl rfl
theorem ty9 : TI.Is Tryd.prog 9 ⟨.str, 1, 16, [.str []]⟩ :=
  TI.Is.of (z := .string .empty) Tryd.underlying9 (by kernel_rfl) rfl rfl
theorem ty10 : TI.Is Tryd.prog 10 ⟨.str, 1, 16, [.str []]⟩ :=
  TI.Is.of (z := .string .empty) Tryd.underlying10 (by kernel_rfl) rfl rfl
theorem ty11 : TI.Is Tryd.prog 11 ⟨.str, 1, 16, [.str []]⟩ :=
  TI.Is.of (z := .string .empty) Tryd.underlying11 (by kernel_rfl) rfl rfl
theorem ty12 : TI.Is Tryd.prog 12 ⟨.int .u64, 1, 8, [.int .u64 0]⟩ :=
  TI.Is.of (z := .int .u64 0) Tryd.underlying12 (by kernel_rfl) rfl rfl
theorem ty13 : TI.Is Tryd.prog 13 ⟨.struct [(0, 9), (1, 12)], 2, 24, [.str [], .int .u64 0]⟩ :=
  TI.Is.of (z := .agg #[.string .empty, .int .u64 0]) ⟨_, Tryd.underlying13, rfl⟩ (by kernel_rfl) rfl rfl
theorem ty14 : TI.Is Tryd.prog 14 ⟨.struct [(0, 9), (1, 12)], 2, 24, [.str [], .int .u64 0]⟩ :=
  TI.Is.of (z := .agg #[.string .empty, .int .u64 0]) ⟨_, Tryd.underlying14, rfl⟩ (by kernel_rfl) rfl rfl
theorem ty21 : TI.Is Tryd.prog 21 ⟨.int .i32, 1, 4, [.int .i32 0]⟩ :=
  TI.Is.of (z := .int .i32 0) Tryd.underlying21 (by kernel_rfl) rfl rfl
theorem ty22 : TI.Is Tryd.prog 22 ⟨.slice 32, 1, 24, [.sl 3 []]⟩ :=
  TI.Is.of (z := .slice none 0 0) Tryd.underlying22 (by kernel_rfl) rfl rfl
theorem ty23 : TI.Is Tryd.prog 23 ⟨.slice 29, 1, 24, [.sl 2 []]⟩ :=
  TI.Is.of (z := .slice none 0 0) Tryd.underlying23 (by kernel_rfl) rfl rfl
theorem ty24 : TI.Is Tryd.prog 24 ⟨.int .i64, 1, 8, [.int .i64 0]⟩ :=
  TI.Is.of (z := .int .i64 0) Tryd.underlying24 (by kernel_rfl) rfl rfl
theorem ty28 : TI.Is Tryd.prog 28 ⟨.struct [(0, 3), (1, 3)], 2, 16, [.int .i64 0, .int .i64 0]⟩ :=
  TI.Is.of (z := .agg #[.int .i64 0, .int .i64 0]) ⟨_, Tryd.underlying28, rfl⟩ (by kernel_rfl) rfl rfl
theorem ty29 : TI.Is Tryd.prog 29 ⟨.struct [(0, 3), (1, 3)], 2, 16, [.int .i64 0, .int .i64 0]⟩ :=
  TI.Is.of (z := .agg #[.int .i64 0, .int .i64 0]) ⟨_, Tryd.underlying29, rfl⟩ (by kernel_rfl) rfl rfl
theorem ty30 : TI.Is Tryd.prog 30 ⟨.slice 3, 1, 24, [.ints .i64 []]⟩ :=
  TI.Is.of (z := .slice none 0 0) Tryd.underlying30 (by kernel_rfl) rfl rfl
theorem ty31 : TI.Is Tryd.prog 31 ⟨.struct [(0, 3), (1, 3), (2, 30)], 3, 40, [.int .i64 0, .int .i64 0, .ints .i64 []]⟩ :=
  TI.Is.of (z := .agg #[.int .i64 0, .int .i64 0, .slice none 0 0]) ⟨_, Tryd.underlying31, rfl⟩ (by kernel_rfl) rfl rfl
theorem ty32 : TI.Is Tryd.prog 32 ⟨.struct [(0, 3), (1, 3), (2, 30)], 3, 40, [.int .i64 0, .int .i64 0, .ints .i64 []]⟩ :=
  TI.Is.of (z := .agg #[.int .i64 0, .int .i64 0, .slice none 0 0]) ⟨_, Tryd.underlying32, rfl⟩ (by kernel_rfl) rfl rfl
theorem ty36 : TI.Is Tryd.prog 36 ⟨.slice 70, 1, 24, [.ints .u32 []]⟩ :=
  TI.Is.of (z := .slice none 0 0) Tryd.underlying36 (by kernel_rfl) rfl rfl
theorem ty37 : TI.Is Tryd.prog 37 ⟨.slice 70, 1, 24, [.ints .u32 []]⟩ :=
  TI.Is.of (z := .slice none 0 0) Tryd.underlying37 (by kernel_rfl) rfl rfl
theorem ty38 : TI.Is Tryd.prog 38 ⟨.struct [(0, 4), (1, 37)], 2, 32, [.bool false, .ints .u32 []]⟩ :=
  TI.Is.of (z := .agg #[.bool false, .slice none 0 0]) ⟨_, Tryd.underlying38, rfl⟩ (by kernel_rfl) rfl rfl
theorem ty39 : TI.Is Tryd.prog 39 ⟨.struct [(0, 4), (1, 37)], 2, 32, [.bool false, .ints .u32 []]⟩ :=
  TI.Is.of (z := .agg #[.bool false, .slice none 0 0]) ⟨_, Tryd.underlying39, rfl⟩ (by kernel_rfl) rfl rfl
theorem ty40 : TI.Is Tryd.prog 40 ⟨.struct [(0, 39), (2, 37)], 3, 56, [.bool false, .ints .u32 [], .ints .u32 []]⟩ :=
  TI.Is.of (z := .agg #[.bool false, .slice none 0 0, .slice none 0 0]) ⟨_, Tryd.underlying40, rfl⟩ (by kernel_rfl) rfl rfl
theorem ty41 : TI.Is Tryd.prog 41 ⟨.struct [(0, 39), (2, 37)], 3, 56, [.bool false, .ints .u32 [], .ints .u32 []]⟩ :=
  TI.Is.of (z := .agg #[.bool false, .slice none 0 0, .slice none 0 0]) ⟨_, Tryd.underlying41, rfl⟩ (by kernel_rfl) rfl rfl
theorem ty52 : TI.Is Tryd.prog 52 ⟨.int .u64, 1, 8, [.int .u64 0]⟩ :=
  TI.Is.of (z := .int .u64 0) Tryd.underlying52 (by kernel_rfl) rfl rfl
theorem ty53 : TI.Is Tryd.prog 53 ⟨.int .u64, 1, 8, [.int .u64 0]⟩ :=
  TI.Is.of (z := .int .u64 0) Tryd.underlying53 (by kernel_rfl) rfl rfl
theorem ty70 : TI.Is Tryd.prog 70 ⟨.int .u32, 1, 4, [.int .u32 0]⟩ :=
  TI.Is.of (z := .int .u32 0) Tryd.underlying70 (by kernel_rfl) rfl rfl
theorem ty101 : TI.Is Tryd.prog 101 ⟨.int .u64, 1, 8, [.int .u64 0]⟩ :=
  TI.Is.of (z := .int .u64 0) Tryd.underlying101 (by kernel_rfl) rfl rfl
theorem ty104 : TI.Is Tryd.prog 104 ⟨.slice 5, 1, 24, [.ints .u8 []]⟩ :=
  TI.Is.of (z := .slice none 0 0) Tryd.underlying104 (by kernel_rfl) rfl rfl
theorem ty146 : TI.Is Tryd.prog 146 ⟨.int .u8, 1, 1, [.int .u8 0]⟩ :=
  TI.Is.of (z := .int .u8 0) Tryd.underlying146 (by kernel_rfl) rfl rfl
theorem ty147 : TI.Is Tryd.prog 147 ⟨.int .u8, 1, 1, [.int .u8 0]⟩ :=
  TI.Is.of (z := .int .u8 0) Tryd.underlying147 (by kernel_rfl) rfl rfl
theorem ty150 : TI.Is Tryd.prog 150 ⟨.int .i32, 1, 4, [.int .i32 0]⟩ :=
  TI.Is.of (z := .int .i32 0) Tryd.underlying150 (by kernel_rfl) rfl rfl
theorem ty151 : TI.Is Tryd.prog 151 ⟨.int .i32, 1, 4, [.int .i32 0]⟩ :=
  TI.Is.of (z := .int .i32 0) Tryd.underlying151 (by kernel_rfl) rfl rfl
def τtab : List (Nat × TI) := [(2, ⟨.int .i64, 1, 8, [.int .i64 0]⟩), (3, ⟨.int .i64, 1, 8, [.int .i64 0]⟩), (4, ⟨.bool, 1, 1, [.bool false]⟩), (5, ⟨.int .u8, 1, 1, [.int .u8 0]⟩), (6, ⟨.int .u8, 1, 1, [.int .u8 0]⟩), (7, ⟨.struct [(0, 2), (1, 3), (2, 4), (3, 6)], 4, 24, [.int .i64 0, .int .i64 0, .bool false, .int .u8 0]⟩), (8, ⟨.struct [(0, 2), (1, 3), (2, 4), (3, 6)], 4, 24, [.int .i64 0, .int .i64 0, .bool false, .int .u8 0]⟩), (9, ⟨.str, 1, 16, [.str []]⟩), (10, ⟨.str, 1, 16, [.str []]⟩), (11, ⟨.str, 1, 16, [.str []]⟩), (12, ⟨.int .u64, 1, 8, [.int .u64 0]⟩), (13, ⟨.struct [(0, 9), (1, 12)], 2, 24, [.str [], .int .u64 0]⟩), (14, ⟨.struct [(0, 9), (1, 12)], 2, 24, [.str [], .int .u64 0]⟩), (21, ⟨.int .i32, 1, 4, [.int .i32 0]⟩), (22, ⟨.slice 32, 1, 24, [.sl 3 []]⟩), (23, ⟨.slice 29, 1, 24, [.sl 2 []]⟩), (24, ⟨.int .i64, 1, 8, [.int .i64 0]⟩), (28, ⟨.struct [(0, 3), (1, 3)], 2, 16, [.int .i64 0, .int .i64 0]⟩), (29, ⟨.struct [(0, 3), (1, 3)], 2, 16, [.int .i64 0, .int .i64 0]⟩), (30, ⟨.slice 3, 1, 24, [.ints .i64 []]⟩), (31, ⟨.struct [(0, 3), (1, 3), (2, 30)], 3, 40, [.int .i64 0, .int .i64 0, .ints .i64 []]⟩), (32, ⟨.struct [(0, 3), (1, 3), (2, 30)], 3, 40, [.int .i64 0, .int .i64 0, .ints .i64 []]⟩), (36, ⟨.slice 70, 1, 24, [.ints .u32 []]⟩), (37, ⟨.slice 70, 1, 24, [.ints .u32 []]⟩), (38, ⟨.struct [(0, 4), (1, 37)], 2, 32, [.bool false, .ints .u32 []]⟩), (39, ⟨.struct [(0, 4), (1, 37)], 2, 32, [.bool false, .ints .u32 []]⟩), (40, ⟨.struct [(0, 39), (2, 37)], 3, 56, [.bool false, .ints .u32 [], .ints .u32 []]⟩), (41, ⟨.struct [(0, 39), (2, 37)], 3, 56, [.bool false, .ints .u32 [], .ints .u32 []]⟩), (52, ⟨.int .u64, 1, 8, [.int .u64 0]⟩), (53, ⟨.int .u64, 1, 8, [.int .u64 0]⟩), (70, ⟨.int .u32, 1, 4, [.int .u32 0]⟩), (101, ⟨.int .u64, 1, 8, [.int .u64 0]⟩), (104, ⟨.slice 5, 1, 24, [.ints .u8 []]⟩), (146, ⟨.int .u8, 1, 1, [.int .u8 0]⟩), (147, ⟨.int .u8, 1, 1, [.int .u8 0]⟩), (150, ⟨.int .i32, 1, 4, [.int .i32 0]⟩), (151, ⟨.int .i32, 1, 4, [.int .i32 0]⟩)]
def τ : Tys Tryd.prog := ⟨τtab, all_cons ty2 <| all_cons ty3 <| all_cons ty4 <| all_cons ty5 <| all_cons ty6 <| all_cons ty7 <| all_cons ty8 <| all_cons ty9 <| all_cons ty10 <| all_cons ty11 <| all_cons ty12 <| all_cons ty13 <| all_cons ty14 <| all_cons ty21 <| all_cons ty22 <| all_cons ty23 <| all_cons ty24 <| all_cons ty28 <| all_cons ty29 <| all_cons ty30 <| all_cons ty31 <| all_cons ty32 <| all_cons ty36 <| all_cons ty37 <| all_cons ty38 <| all_cons ty39 <| all_cons ty40 <| all_cons ty41 <| all_cons ty52 <| all_cons ty53 <| all_cons ty70 <| all_cons ty101 <| all_cons ty104 <| all_cons ty146 <| all_cons ty147 <| all_cons ty150 <| all_cons ty151 <| all_nil⟩
end Go.Proofs.YtmefecfkajjajaaDoor.K
