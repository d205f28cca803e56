/- strconv.FormatUint and strconv.AppendUint at base 10, out of the kit's contracts. -/
import Derived.Test.YtffcpgebgoineaaDoorVec
import Derived.Test.YtffcpgebgoineaaDoorLaid
import Derived.Test.YtffcpgebgoineaaDoorShelf
import Derived.Test.YtffcpgebgoineaaDoorAuto
import Derived.WalkKit
import Derived.Lib.Walk
import Derived.Lib.ItoaWalk
import Derived.Lib.ItoaMem
import Derived.Lib.AppendIntMem
namespace Go.Proofs.YtffcpgebgoineaaDoor.K
open Go Go.RowKit Go.Sort Go.Lib
set_option linter.unusedVariables false
set_option linter.unusedSimpArgs false

set_option maxHeartbeats 6400000 in
set_option maxRecDepth 100000 in
theorem fmtU_small (u : Nat) (hu : u < 100) (w : World) : Calls Tryd.prog 63 #[.int .u64 u, .int .i64 10] w fun e w' => e = .returned (.string ⟨(decDigits u).toArray⟩) ∧ w' = w := by
  go_enter Tryd.func63, Tryd.ntmps63
  go_wp2_with (go_at_call 64; refine (Tryd.internal_strconv_small u hu _).mono ?_; rintro e w' ⟨rfl, rfl⟩)
  go_ret
  exact ⟨rfl, rfl⟩

set_option maxHeartbeats 12800000 in
set_option maxRecDepth 100000 in
theorem fmtU_big (u : Nat) (hu : 100 ≤ u) (hu64 : u < 18446744073709551616) (w : World) (htab : TabIs Tryd.prog w "internal/strconv.uint64pow10" .u64 pow10Tab) :
    Calls Tryd.prog 63 #[.int .u64 u, .int .i64 10] w fun e w' => e = .returned (.string ⟨(decDigits u).toArray⟩) ∧ Below w.heap.size w w' := by
  have hu1 : 1 ≤ u := by omega
  have hnd20 : nDigits u ≤ 20 := by have := numDigits_eq u hu1 hu64; split at this <;> omega
  have hal : Tryd.prog.arrayLen 75 = 24 := by kernel_rfl
  have hsl : ∀ W, (Instr.sliceAt 75 (.pointer (some ⟨w.heap.size, 0, none⟩)) none (some (.int .i64 (nDigits u : Int))) none).run Tryd.prog W = .ok (.slice (some ⟨w.heap.size, 0, none⟩) (nDigits u) 24) W := fun W => by
    rw [run_sliceAt_array_h W 75 ⟨w.heap.size, 0, none⟩ (by kernel_rfl) .i64 (nDigits u : Int) (by omega) (by rw [hal]; omega)]
    go_simp
  have hH0 := holds_zero0 w 75 (nDigits u) (by omega)
  have hfmt := Tryd.internal_strconv_formatBase10 w.heap.size 0 24 u (Array.replicate (nDigits u) 0) (w.alloc (.cells zeros24 75)) hH0 (by rw [Array.size_replicate]; exact lt_pow_nDigits u) hu64 (by rw [Array.size_replicate]; omega)
  rw [Array.size_replicate] at hfmt
  have HH0 := hid hH0
  have iu : (100 : Int) ≤ (u : Int) := by omega
  clear hH0 hal
  go_enter Tryd.func63, Tryd.ntmps63
  go_wp2_with (first
    | (go_at_call 65; refine (Tryd.internal_strconv_numDigits u hu1 hu64 _ (tabIs_alloc htab _)).mono ?_; rintro e w' ⟨rfl, rfl⟩))
  go_at_call 66
  refine hfmt.mono ?_
  rintro e w' ⟨rfl, k, v', dk, rfl, hF⟩
  have hcv : (convert 71 9 (.slice (some ⟨w.heap.size, 0, none⟩) (nDigits u) 24)).run Tryd.prog ((putRow (fun (b : UInt8) => Value.int .u8 (b.toNat : Int)) (w.alloc (.cells zeros24 75)) w.heap.size 0 dk).drewN k) = .ok (.string ⟨(decDigits u).toArray⟩) ((putRow (fun (b : UInt8) => Value.int .u8 (b.toNat : Int)) (w.alloc (.cells zeros24 75)) w.heap.size 0 dk).drewN k) := by
    have h := run_convert_bytes_back (P := Tryd.prog) ((putRow (fun (b : UInt8) => Value.int .u8 (b.toNat : Int)) (w.alloc (.cells zeros24 75)) w.heap.size 0 dk).drewN k) 71 9 5 ⟨w.heap.size, 0, none⟩ 24 (decDigits u) Tryd.underlying71 Tryd.underlying5 Tryd.underlying9 (fun j hj => by
      rw [row_is_numeral hF j hj, add_plain, World.cell?_drewN]
      exact cell?_putRow (fun (b : UInt8) => Value.int .u8 (b.toNat : Int)) _ w.heap.size 0 _ dk HH0.out (by rw [hF.size, Array.size_replicate]) j (by rw [hF.size]; rw [decDigits_length] at hj; exact hj))
    rw [decDigits_length] at h
    exact h
  go_wp2
  go_ret
  obtain ⟨os, eo⟩ := fin_at w (.cells zeros24 75) dk k 0
  exact ⟨rfl, by rw [eo]; exact below_grow w.heap.size w (Nat.le_refl _) k os⟩

theorem pow10_tab {w : World} (h : Gam w) : TabIs Tryd.prog w "internal/strconv.uint64pow10" .u64 pow10Tab :=
  h.tabIs (p := (0, .u64, pow10Tab)) (by simp only [gamList, pow10Tab]; first | exact .head _ | exact .tail _ (.head _) | exact .tail _ (.tail _ (.head _))) (by kernel_rfl)
/-- FormatUint at base 10 -/
theorem fmtI_ev (u : Int) : Evals Tryd.prog 63 [.int .u64 u, .int .i64 10] (.str (decDigits u.toNat)) := by
  refine ⟨CallOK.of Tryd.func63 (by kernel_rfl) rfl, fun R w vs hR hg hv => ?_⟩
  obtain ⟨h1, h2⟩ := hv
  obtain ⟨v1, v2, rfl⟩ : ∃ v1 v2, vs = #[v1, v2] := ⟨vs[0]'(by simp at h1; omega), vs[1]'(by simp at h1; omega), by
    apply Array.ext
    · simpa using h1
    · intro i hi hi'
      match i, hi' with
      | 0, _ => rfl
      | 1, _ => rfl⟩
  have a1 := h2 0 _ _ rfl rfl
  have a2 := h2 1 _ _ rfl rfl
  cases a2
  cases a1
  rename_i hr
  simp [InR, IntKind.min, IntKind.max, IntKind.bits, IntKind.signed] at hr
  obtain ⟨n, rfl⟩ := Int.eq_ofNat_of_zero_le hr.1
  have hs : (⟨(decDigits n).toArray⟩ : ByteArray).size ≤ maxLen := by
    have h3 : (decDigits n).length ≤ 20 := by
      rw [decDigits_length]
      by_cases h0 : n = 0
      · subst h0; rw [nDigits_small (by omega)]; omega
      · have := numDigits_eq n (by omega) (by omega); split at this <;> omega
    simp only [maxLen]
    simp [ByteArray.size]; omega
  have hh : ∀ w', Holds R w' (.str (decDigits n)) (.string ⟨(decDigits n).toArray⟩) := fun w' => Holds.str ⟨(decDigits n).toArray⟩ hs
  have fin : ∀ w', Below w.heap.size w w' → Gives R w (.str (decDigits (n : Int).toNat)) (.returned (.string ⟨(decDigits n).toArray⟩)) w' := fun w' hb => ⟨_, R, rfl, hb, fun _ h => h, fun b hb' => ⟨.inl hb', Nat.lt_of_lt_of_le (hR b hb') hb.size⟩, hh w'⟩
  by_cases h : n < 100
  · refine (fmtU_small n h w).mono ?_
    rintro e w' ⟨rfl, rfl⟩
    exact fin _ (Below.refl _ _)
  · refine (fmtU_big n (by omega) (by omega) w (pow10_tab hg)).mono ?_
    rintro e w' ⟨rfl, hb⟩
    exact fin _ hb
theorem fmt_ev (u : Int) : Evals Tryd.prog 60 [.int .u64 u, .int .i64 10] (.str (decDigits u.toNat)) := by
  refine evals_of_awp Tryd.func60 rfl (CallOK.of Tryd.func60 (by kernel_rfl) rfl) (Nat.le_of_ble_eq_true rfl) ?_
  rintro w R hR ⟨vs, hv⟩
  repeat' (first
    | (apply RunL.step; exact rfl; apply op_ev (τ := τ); exact rfl; (first | exact fmtI_ev _); exact rfl) | (apply RunL.step; exact rfl; exact opA) | (apply RunL.hand; exact rfl; exact rfl; exact lenA; exact rfl) | (apply AWP.seq) | (apply AWP.region; exact rfl) | (apply AWP.block) | (apply AWP.skip) | (apply AWP.exit) | (apply AWP.retF; exact rfl; exact rfl; exact rfl; exact rfl; exact lenA; exact rfl) | (apply AWP.ret) | (apply RunL.nil) | (apply RunL.on; exact rfl; exact rfl; exact rfl; exact rfl; (first | exact rfl | assumption)) | (apply RunL.noU; exact rfl; exact rfl; exact rfl; exact rfl; exact rfl; exact rfl) | (apply RunL.no; exact rfl; exact rfl; exact rfl; exact rfl; (first | exact rfl | assumption); exact rfl; exact rfl) | (refine AWP.cond _ (Rd.of rfl) (fun hc => ?_) (fun hc => ?_) <;> first | (exfalso; cases hc; done) | (have hc' := hc; (try simp only [sc, reduceCtorEq, cmpOf] at hc'); try (exfalso; omega)))
    | (
     apply AWP.drawA
     repeat' (first
       | (apply DL.cons; (try (apply OpLoc.on; exact rfl; exact rfl; exact rfl; exact rfl; (first | exact rfl | assumption))); apply ol_ev (τ := τ); exact rfl; (first | exact fmtI_ev _); exact rfl; exact rfl) | (apply DL.cons; exact olA; exact rfl) | (apply DL.nil; kernel_rfl) | (refine DL.split rfl rfl rfl rfl (fun hb => ?_) (fun hb => ?_) <;> have hb' := hb <;> (try simp only [sc, reduceCtorEq, cmpOf] at hb') <;> try (exfalso; omega)))
     all_goals (fail_if_success apply DL.id))
    | (refine RunL.split rfl rfl rfl rfl (fun hb => ?_) (fun hb => ?_) <;> have hb' := hb <;> (try simp only [sc, reduceCtorEq, cmpOf] at hb') <;> try (exfalso; omega)) )
  apply Ends.mk (.cons (.tmp rfl) .nil)
  rfl
set_option maxHeartbeats 6400000 in
set_option maxRecDepth 100000 in
theorem app_nil : AppNil Tryd.prog 59 5 (fun u => decDigits u.toNat) := by
  refine ⟨CallOK.of Tryd.func59 (by kernel_rfl) rfl, fun w u hg hr => ?_⟩
  simp [InR, IntKind.min, IntKind.max, IntKind.bits, IntKind.signed] at hr
  obtain ⟨n, rfl⟩ := Int.eq_ofNat_of_zero_le hr.1
  have hc := Tryd.internal_strconv_AppendUint_10 w.heap.size 0 n (by omega) (.slice none 0 0) [] w (World.ownsRow_nil _ _ _ _) (Nat.le_refl _) (by omega) (pow10_tab hg)
  go_enter Tryd.func59, Tryd.ntmps59
  go_wp2_with (go_at_call 62; refine hc.mono ?_; rintro e w' ⟨v', rfl, h1, h2, h3⟩)
  go_ret
  refine ⟨v', rfl, ?_, h2⟩
  have e1 : byteCells (decDigits n) = (byt (decDigits n)).map (Value.int .u8) := by simp [byteCells, byt]
  simpa [e1, byt_length] using h1
end Go.Proofs.YtffcpgebgoineaaDoor.K
