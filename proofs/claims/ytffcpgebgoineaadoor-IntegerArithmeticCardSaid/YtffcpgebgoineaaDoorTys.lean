/- The types of this seat's program, as a table. Written by gen_tys.py. -/
import Derived.Test.YtffcpgebgoineaaDoorMem
import Derived.Test.YtffcpgebgoineaaDoorProg
import Derived.KernelRfl
namespace Go.Proofs.YtffcpgebgoineaaDoor.K
open Go
set_option linter.unusedVariables false
theorem ty2 : TI.Is Tryd.prog 2 ⟨.int .i64, 1, 8, [.int .i64 0]⟩ :=
  TI.Is.of (z := .int .i64 0) Tryd.underlying2 (by kernel_rfl) rfl rfl
theorem ty3 : TI.Is Tryd.prog 3 ⟨.int .i64, 1, 8, [.int .i64 0]⟩ :=
  TI.Is.of (z := .int .i64 0) Tryd.underlying3 (by kernel_rfl) rfl rfl
theorem ty4 : TI.Is Tryd.prog 4 ⟨.bool, 1, 1, [.bool false]⟩ :=
  TI.Is.of (z := .bool false) Tryd.underlying4 (by kernel_rfl) rfl rfl
theorem ty5 : TI.Is Tryd.prog 5 ⟨.int .u8, 1, 1, [.int .u8 0]⟩ :=
  TI.Is.of (z := .int .u8 0) Tryd.underlying5 (by kernel_rfl) rfl rfl
theorem ty6 : TI.Is Tryd.prog 6 ⟨.int .u8, 1, 1, [.int .u8 0]⟩ :=
  TI.Is.of (z := .int .u8 0) Tryd.underlying6 (by kernel_rfl) rfl rfl
theorem ty7 : TI.Is Tryd.prog 7 ⟨.struct [(0, 2), (1, 3), (2, 4), (3, 6)], 4, 24, [.int .i64 0, .int .i64 0, .bool false, .int .u8 0]⟩ :=
  TI.Is.of (z := .agg #[.int .i64 0, .int .i64 0, .bool false, .int .u8 0]) ⟨_, Tryd.underlying7, rfl⟩ (by kernel_rfl) rfl rfl
theorem ty8 : TI.Is Tryd.prog 8 ⟨.struct [(0, 2), (1, 3), (2, 4), (3, 6)], 4, 24, [.int .i64 0, .int .i64 0, .bool false, .int .u8 0]⟩ :=
  TI.Is.of (z := .agg #[.int .i64 0, .int .i64 0, .bool false, .int .u8 0]) ⟨_, Tryd.underlying8, rfl⟩ (by kernel_rfl) rfl rfl
theorem ty9 : TI.Is Tryd.prog 9 ⟨.str, 1, 16, [.str []]⟩ :=
  TI.Is.of (z := .string .empty) Tryd.underlying9 (by kernel_rfl) rfl rfl
theorem ty10 : TI.Is Tryd.prog 10 ⟨.str, 1, 16, [.str []]⟩ :=
  TI.Is.of (z := .string .empty) Tryd.underlying10 (by kernel_rfl) rfl rfl
theorem ty11 : TI.Is Tryd.prog 11 ⟨.str, 1, 16, [.str []]⟩ :=
  TI.Is.of (z := .string .empty) Tryd.underlying11 (by kernel_rfl) rfl rfl
theorem ty12 : TI.Is Tryd.prog 12 ⟨.int .u64, 1, 8, [.int .u64 0]⟩ :=
  TI.Is.of (z := .int .u64 0) Tryd.underlying12 (by kernel_rfl) rfl rfl
theorem ty13 : TI.Is Tryd.prog 13 ⟨.struct [(0, 9), (1, 12)], 2, 24, [.str [], .int .u64 0]⟩ :=
  TI.Is.of (z := .agg #[.string .empty, .int .u64 0]) ⟨_, Tryd.underlying13, rfl⟩ (by kernel_rfl) rfl rfl
theorem ty14 : TI.Is Tryd.prog 14 ⟨.struct [(0, 9), (1, 12)], 2, 24, [.str [], .int .u64 0]⟩ :=
  TI.Is.of (z := .agg #[.string .empty, .int .u64 0]) ⟨_, Tryd.underlying14, rfl⟩ (by kernel_rfl) rfl rfl
theorem ty21 : TI.Is Tryd.prog 21 ⟨.int .i32, 1, 4, [.int .i32 0]⟩ :=
  TI.Is.of (z := .int .i32 0) Tryd.underlying21 (by kernel_rfl) rfl rfl
theorem ty22 : TI.Is Tryd.prog 22 ⟨.slice 34, 1, 24, [.ints .u32 []]⟩ :=
  TI.Is.of (z := .slice none 0 0) Tryd.underlying22 (by kernel_rfl) rfl rfl
theorem ty23 : TI.Is Tryd.prog 23 ⟨.slice 34, 1, 24, [.ints .u32 []]⟩ :=
  TI.Is.of (z := .slice none 0 0) Tryd.underlying23 (by kernel_rfl) rfl rfl
theorem ty24 : TI.Is Tryd.prog 24 ⟨.struct [(0, 4), (1, 23)], 2, 32, [.bool false, .ints .u32 []]⟩ :=
  TI.Is.of (z := .agg #[.bool false, .slice none 0 0]) ⟨_, Tryd.underlying24, rfl⟩ (by kernel_rfl) rfl rfl
theorem ty25 : TI.Is Tryd.prog 25 ⟨.struct [(0, 4), (1, 23)], 2, 32, [.bool false, .ints .u32 []]⟩ :=
  TI.Is.of (z := .agg #[.bool false, .slice none 0 0]) ⟨_, Tryd.underlying25, rfl⟩ (by kernel_rfl) rfl rfl
theorem ty34 : TI.Is Tryd.prog 34 ⟨.int .u32, 1, 4, [.int .u32 0]⟩ :=
  TI.Is.of (z := .int .u32 0) Tryd.underlying34 (by kernel_rfl) rfl rfl
theorem ty43 : TI.Is Tryd.prog 43 ⟨.int .u64, 1, 8, [.int .u64 0]⟩ :=
  TI.Is.of (z := .int .u64 0) Tryd.underlying43 (by kernel_rfl) rfl rfl
theorem ty46 : TI.Is Tryd.prog 46 ⟨.int .i64, 1, 8, [.int .i64 0]⟩ :=
  TI.Is.of (z := .int .i64 0) Tryd.underlying46 (by kernel_rfl) rfl rfl
theorem ty53 : TI.Is Tryd.prog 53 ⟨.int .u64, 1, 8, [.int .u64 0]⟩ :=
  TI.Is.of (z := .int .u64 0) Tryd.underlying53 (by kernel_rfl) rfl rfl
theorem ty71 : TI.Is Tryd.prog 71 ⟨.slice 5, 1, 24, [.ints .u8 []]⟩ :=
  TI.Is.of (z := .slice none 0 0) Tryd.underlying71 (by kernel_rfl) rfl rfl
theorem ty95 : TI.Is Tryd.prog 95 ⟨.int .u8, 1, 1, [.int .u8 0]⟩ :=
  TI.Is.of (z := .int .u8 0) Tryd.underlying95 (by kernel_rfl) rfl rfl
theorem ty96 : TI.Is Tryd.prog 96 ⟨.int .u8, 1, 1, [.int .u8 0]⟩ :=
  TI.Is.of (z := .int .u8 0) Tryd.underlying96 (by kernel_rfl) rfl rfl
theorem ty99 : TI.Is Tryd.prog 99 ⟨.int .i32, 1, 4, [.int .i32 0]⟩ :=
  TI.Is.of (z := .int .i32 0) Tryd.underlying99 (by kernel_rfl) rfl rfl
theorem ty100 : TI.Is Tryd.prog 100 ⟨.int .i32, 1, 4, [.int .i32 0]⟩ :=
  TI.Is.of (z := .int .i32 0) Tryd.underlying100 (by kernel_rfl) rfl rfl
def τtab : List (Nat × TI) := [(2, ⟨.int .i64, 1, 8, [.int .i64 0]⟩), (3, ⟨.int .i64, 1, 8, [.int .i64 0]⟩), (4, ⟨.bool, 1, 1, [.bool false]⟩), (5, ⟨.int .u8, 1, 1, [.int .u8 0]⟩), (6, ⟨.int .u8, 1, 1, [.int .u8 0]⟩), (7, ⟨.struct [(0, 2), (1, 3), (2, 4), (3, 6)], 4, 24, [.int .i64 0, .int .i64 0, .bool false, .int .u8 0]⟩), (8, ⟨.struct [(0, 2), (1, 3), (2, 4), (3, 6)], 4, 24, [.int .i64 0, .int .i64 0, .bool false, .int .u8 0]⟩), (9, ⟨.str, 1, 16, [.str []]⟩), (10, ⟨.str, 1, 16, [.str []]⟩), (11, ⟨.str, 1, 16, [.str []]⟩), (12, ⟨.int .u64, 1, 8, [.int .u64 0]⟩), (13, ⟨.struct [(0, 9), (1, 12)], 2, 24, [.str [], .int .u64 0]⟩), (14, ⟨.struct [(0, 9), (1, 12)], 2, 24, [.str [], .int .u64 0]⟩), (21, ⟨.int .i32, 1, 4, [.int .i32 0]⟩), (22, ⟨.slice 34, 1, 24, [.ints .u32 []]⟩), (23, ⟨.slice 34, 1, 24, [.ints .u32 []]⟩), (24, ⟨.struct [(0, 4), (1, 23)], 2, 32, [.bool false, .ints .u32 []]⟩), (25, ⟨.struct [(0, 4), (1, 23)], 2, 32, [.bool false, .ints .u32 []]⟩), (34, ⟨.int .u32, 1, 4, [.int .u32 0]⟩), (43, ⟨.int .u64, 1, 8, [.int .u64 0]⟩), (46, ⟨.int .i64, 1, 8, [.int .i64 0]⟩), (53, ⟨.int .u64, 1, 8, [.int .u64 0]⟩), (71, ⟨.slice 5, 1, 24, [.ints .u8 []]⟩), (95, ⟨.int .u8, 1, 1, [.int .u8 0]⟩), (96, ⟨.int .u8, 1, 1, [.int .u8 0]⟩), (99, ⟨.int .i32, 1, 4, [.int .i32 0]⟩), (100, ⟨.int .i32, 1, 4, [.int .i32 0]⟩)]
def τ : Tys Tryd.prog := ⟨τtab, all_cons ty2 <| all_cons ty3 <| all_cons ty4 <| all_cons ty5 <| all_cons ty6 <| all_cons ty7 <| all_cons ty8 <| all_cons ty9 <| all_cons ty10 <| all_cons ty11 <| all_cons ty12 <| all_cons ty13 <| all_cons ty14 <| all_cons ty21 <| all_cons ty22 <| all_cons ty23 <| all_cons ty24 <| all_cons ty25 <| all_cons ty34 <| all_cons ty43 <| all_cons ty46 <| all_cons ty53 <| all_cons ty71 <| all_cons ty95 <| all_cons ty96 <| all_cons ty99 <| all_cons ty100 <| all_nil⟩
end Go.Proofs.YtffcpgebgoineaaDoor.K
