/- Walks: nat.Bits, nat.Pow, their references, and examboardref01.Same. -/
import Derived.Test.YtnleagkinejenaaDoorWalkO
import Derived.Test.YtnleagkinejenaaDoorLawR
namespace Go.Proofs.YtnleagkinejenaaDoor.K
open Go
set_option linter.unusedVariables false
set_option linter.unusedSimpArgs false

instance SzN.pow (x : Int) (e k : Nat) [h : SzN x k] : SzN (x ^ e) (k * e + 1) := by
  have h1 : ∀ e : Nat, 0 ≤ x ^ e ∧ x ^ e < 4294967296 ^ (k * e + 1) := by
    intro e
    induction e with
    | zero => simp
    | succ e ih =>
      rw [Int.pow_succ]
      have := mul_pow_lt ih.1 h.nn ih.2 h.lt
      refine ⟨Int.mul_nonneg ih.1 h.nn, ?_⟩
      rwa [show k * (e + 1) + 1 = k * e + 1 + k by rw [Nat.mul_succ]; omega]
  exact ⟨(h1 e).1, (h1 e).2⟩
section
variable {a b : List Int} {x y : Int} {k m : Nat}
theorem nbits [h : NA a x k] (hk : k ≤ 70368744177660 := by first | omega | (simp only [List.length_cons, List.length_nil, List.length_set, List.length_replicate, List.length_append, List.length_take, List.length_drop]; omega)) : Evals Tryd.prog 9 [.ints .u32 a] (.int .i64 (bitlen x)) := by
  refine evals_of_awp Tryd.func9 rfl (CallOK.of Tryd.func9 (by kernel_rfl) rfl) (Nat.le_of_ble_eq_true rfl) ?_
  rintro w R hR ⟨vs, hv⟩
  obtain ⟨hla, ha⟩ := hv.nat 0 rfl
  have e1 := h.v
  have l1 := h.hl
  have g1 := limbs_val_length a ha
  rw [e1] at g1
  have hb := fun h => bitlen_top (x := x) h
  have hx := val_nonneg ha
  rw [e1] at hx
  have h0 := limbs_nil hx
  have hi := (Lim.limbs x).ix (((limbs x).length : Int) - 1)
  have h32 := bitlen_le (x := ix (limbs x) (((limbs x).length : Int) - 1)) (k := 32) (by omega)
  have h33 := bitlen_nonneg (ix (limbs x) (((limbs x).length : Int) - 1))
  repeat' (first
    | (apply RunL.step; exact rfl; apply op_ev (τ := τ); exact rfl; (first | exact len32_ev _ | exact ctrim | exact cnorm | exact ctrim | exact ccmp | exact of_ev _ | exact cadd | exact csub | exact cmul | exact cdiv | exact cdiv0 | exact cgcd); exact rfl) | (apply RunL.step; exact rfl; exact opA) | (apply RunL.hand; exact rfl; exact rfl; exact lenA; exact rfl) | (apply AWP.seq) | (apply AWP.region; exact rfl) | (apply AWP.block) | (apply AWP.skip) | (apply AWP.exit) | (apply AWP.retF; exact rfl; exact rfl; exact rfl; exact rfl; exact lenA; exact rfl) | (apply AWP.ret) | (apply RunL.nil) | (apply RunL.on; exact rfl; exact rfl; exact rfl; exact rfl; (first | exact rfl | assumption)) | (apply RunL.noU; exact rfl; exact rfl; exact rfl; exact rfl; exact rfl; exact rfl) | (apply RunL.no; exact rfl; exact rfl; exact rfl; exact rfl; (first | exact rfl | assumption); exact rfl; exact rfl) | (refine AWP.cond _ (Rd.of rfl) (fun hc => ?_) (fun hc => ?_) <;> first | (exfalso; cases hc; done) | (have hc' := hc; (try simp only [sc, reduceCtorEq, cmpOf] at hc'); try (exfalso; omega)))
    | (
     apply AWP.drawA
     repeat' (first
       | (apply DL.cons; (try (apply OpLoc.on; exact rfl; exact rfl; exact rfl; exact rfl; (first | exact rfl | assumption))); apply ol_ev (τ := τ); exact rfl; (first | exact len32_ev _ | exact ctrim | exact cnorm | exact ctrim | exact ccmp | exact of_ev _ | exact cadd | exact csub | exact cmul | exact cdiv | exact cdiv0 | exact cgcd); exact rfl; exact rfl) | (apply DL.cons; exact olA; exact rfl) | (apply DL.nil; kernel_rfl) | (refine DL.split rfl rfl rfl rfl (fun hb => ?_) (fun hb => ?_) <;> have hb' := hb <;> (try simp only [sc, reduceCtorEq, cmpOf] at hb') <;> try (exfalso; omega)))
     all_goals (fail_if_success apply DL.id))
    | (refine RunL.split rfl rfl rfl rfl (fun hb => ?_) (fun hb => ?_) <;> have hb' := hb <;> (try simp only [sc, reduceCtorEq, cmpOf] at hb') <;> try (exfalso; omega)) )
  · apply Ends.mk (.cons (.tmp rfl) .nil)
    have : x = 0 := by omega
    subst this; rfl
  · apply Ends.mk (.cons (.tmp rfl) .nil)
    rw [hb (by omega)]; rfl
/-- whether an exponent is within the limit -/
def powOK (n : Int) : Prop := 0 ≤ n ∧ n ≤ 512
instance (n : Int) : Decidable (powOK n) := inferInstanceAs (Decidable (_ ∧ _))
theorem pow_halves {e1 e2 n0 : Nat} {n : Int} (h0 : 0 < n) (h : (e1 : Int) + n * e2 = n0) : (n % 2 = 1 → ((e1 + e2 : Nat) : Int) + n / 2 * ((e2 + e2 : Nat) : Int) = n0) ∧ (n % 2 ≠ 1 → (e1 : Int) + n / 2 * ((e2 + e2 : Nat) : Int) = n0) ∧ (e2 : Int) ≤ n0 ∧ (e1 : Int) ≤ n0 := by
  have h1 := Int.mul_ediv_add_emod n 2
  have h2 : n * e2 = 2 * (n / 2 * e2) + (n % 2) * e2 := by
    conv => lhs; rw [← h1]
    rw [Int.add_mul, Int.mul_assoc]
  have h3 : n / 2 * ((e2 + e2 : Nat) : Int) = 2 * (n / 2 * e2) := by rw [Int.natCast_add, Int.mul_add]; omega
  have h4 : 1 * (e2 : Int) ≤ n * e2 := Int.mul_le_mul_of_nonneg_right (by omega) (by omega)
  refine ⟨fun h5 => ?_, fun h5 => ?_, by omega, by omega⟩
  · rw [h3]; rw [h2, h5] at h; omega
  · rw [h3]; rw [h2, show n % 2 = 0 by omega] at h; omega
set_option maxHeartbeats 2000000 in
theorem npow {n : Int} [h : NA a x k] (hk : k ≤ 10000000000 := by first | omega | (simp only [List.length_cons, List.length_nil, List.length_set, List.length_replicate, List.length_append, List.length_take, List.length_drop]; omega)) : Evals Tryd.prog 34 [.ints .u32 a, .int .i64 n] (.tup [.ints .u32 (if powOK n then limbs (x ^ n.toNat) else []), .bool (decide (powOK n))]) := by
  refine evals_of_awp Tryd.func34 rfl (CallOK.of Tryd.func34 (by kernel_rfl) rfl) (Nat.le_of_ble_eq_true rfl) ?_
  rintro w R hR ⟨vs, hv⟩
  obtain ⟨hla, ha⟩ := hv.nat 0 rfl
  have hx := val_nonneg ha
  rw [h.v] at hx
  have l1 := h.hl
  by_cases hn : powOK n
  · rw [if_pos hn, decide_eq_true hn]
    obtain ⟨q1, q2⟩ := hn
    have z1 : SzN x k := ⟨hx, by rw [← h.v]; exact Int.lt_of_lt_of_le (val_lt ha) (pow_mono h.hl)⟩
    repeat' (first
      | (apply RunL.step; exact rfl; apply op_ev (τ := τ); exact rfl; (first | exact cnorm | exact ctrim | exact ccmp | exact of_ev _ | exact cadd | exact csub | exact cmul | exact cdiv | exact cdiv0 | exact cgcd | exact of_ev _); exact rfl) | (apply RunL.step; exact rfl; exact opA) | (apply RunL.hand; exact rfl; exact rfl; exact lenA; exact rfl) | (apply AWP.seq) | (apply AWP.region; exact rfl) | (apply AWP.block) | (apply AWP.skip) | (apply AWP.exit) | (apply AWP.retF; exact rfl; exact rfl; exact rfl; exact rfl; exact lenA; exact rfl) | (apply AWP.ret) | (apply RunL.nil) | (apply RunL.on; exact rfl; exact rfl; exact rfl; exact rfl; (first | exact rfl | assumption)) | (apply RunL.noU; exact rfl; exact rfl; exact rfl; exact rfl; exact rfl; exact rfl) | (apply RunL.no; exact rfl; exact rfl; exact rfl; exact rfl; (first | exact rfl | assumption); exact rfl; exact rfl) | (refine AWP.cond _ (Rd.of rfl) (fun hc => ?_) (fun hc => ?_) <;> first | (exfalso; cases hc; done) | (have hc' := hc; (try simp only [sc, reduceCtorEq, cmpOf] at hc'); try (exfalso; omega)))
      | (
       apply AWP.drawA
       repeat' (first
         | (apply DL.cons; (try (apply OpLoc.on; exact rfl; exact rfl; exact rfl; exact rfl; (first | exact rfl | assumption))); apply ol_ev (τ := τ); exact rfl; (first | exact cnorm | exact ctrim | exact ccmp | exact of_ev _ | exact cadd | exact csub | exact cmul | exact cdiv | exact cdiv0 | exact cgcd | exact of_ev _); exact rfl; exact rfl) | (apply DL.cons; exact olA; exact rfl) | (apply DL.nil; kernel_rfl) | (refine DL.split rfl rfl rfl rfl (fun hb => ?_) (fun hb => ?_) <;> have hb' := hb <;> (try simp only [sc, reduceCtorEq, cmpOf] at hb') <;> try (exfalso; omega)))
       all_goals (fail_if_success apply DL.id))
      | (refine RunL.split rfl rfl rfl rfl (fun hb => ?_) (fun hb => ?_) <;> have hb' := hb <;> (try simp only [sc, reduceCtorEq, cmpOf] at hb') <;> try (exfalso; omega)) )
    refine AWP.loop (ι := Int × Int × Int) (fun p => ⟨[(1, .val (.int .i64 p.1)), (6, .val (.ints .u32 (limbs p.2.1))), (7, .val (.ints .u32 (limbs p.2.2)))], []⟩)
      (fun p => 0 ≤ p.1 ∧ p.1 ≤ 512 ∧ ∃ e1 e2 : Nat, p.2.1 = x ^ e1 ∧ p.2.2 = x ^ e2 ∧ (e1 : Int) + p.1 * e2 = n.toNat) (fun p => p.1.toNat) (n, 1, x) ⟨q1, q2, 0, 1, (Int.pow_zero x).symm, by rw [Int.pow_succ, Int.pow_zero, Int.one_mul], by simp; omega⟩ (St.Le.of (by repeat' (first | exact all_nil | refine all_cons rfl ?_)) (by repeat' (first | exact all_nil | refine all_cons rfl ?_))) ?_
    rintro ⟨i, r, q⟩ ⟨k1, k2, e1, e2, rfl, rfl, k3⟩
    simp only at k1 k2 k3
    have hp := fun h => pow_halves (e1 := e1) (e2 := e2) (n0 := n.toNat) (n := i) h k3
    by_cases hi : 0 < i
    · obtain ⟨p1, p2, p3, p4⟩ := hp hi
      have b1 : k * e1 ≤ 10000000000 * 512 := Nat.mul_le_mul (by omega) (by omega)
      have b2 : k * e2 ≤ 10000000000 * 512 := Nat.mul_le_mul (by omega) (by omega)
      have z : i / 2 = 0 → ∀ j : Int, i / 2 * j = 0 := fun h j => by rw [h, Int.zero_mul]
      repeat' (first
        | (apply RunL.step; exact rfl; apply op_ev (τ := τ); exact rfl; (first | exact cnorm | exact ctrim | exact ccmp | exact of_ev _ | exact cadd | exact csub | exact cmul | exact cdiv | exact cdiv0 | exact cgcd | exact of_ev _); exact rfl) | (apply RunL.step; exact rfl; exact opA) | (apply RunL.hand; exact rfl; exact rfl; exact lenA; exact rfl) | (apply AWP.seq) | (apply AWP.region; exact rfl) | (apply AWP.block) | (apply AWP.skip) | (apply AWP.exit) | (apply AWP.retF; exact rfl; exact rfl; exact rfl; exact rfl; exact lenA; exact rfl) | (apply AWP.ret) | (apply RunL.nil) | (apply RunL.on; exact rfl; exact rfl; exact rfl; exact rfl; (first | exact rfl | assumption)) | (apply RunL.noU; exact rfl; exact rfl; exact rfl; exact rfl; exact rfl; exact rfl) | (apply RunL.no; exact rfl; exact rfl; exact rfl; exact rfl; (first | exact rfl | assumption); exact rfl; exact rfl) | (refine AWP.cond _ (Rd.of rfl) (fun hc => ?_) (fun hc => ?_) <;> first | (exfalso; cases hc; done) | (have hc' := hc; (try simp only [sc, reduceCtorEq, cmpOf] at hc'); try (exfalso; omega)))
        | (
         apply AWP.drawA
         repeat' (first
           | (apply DL.cons; (try (apply OpLoc.on; exact rfl; exact rfl; exact rfl; exact rfl; (first | exact rfl | assumption))); apply ol_ev (τ := τ); exact rfl; (first | exact cnorm | exact ctrim | exact ccmp | exact of_ev _ | exact cadd | exact csub | exact cmul | exact cdiv | exact cdiv0 | exact cgcd | exact of_ev _); exact rfl; exact rfl) | (apply DL.cons; exact olA; exact rfl) | (apply DL.nil; kernel_rfl) | (refine DL.split rfl rfl rfl rfl (fun hb => ?_) (fun hb => ?_) <;> have hb' := hb <;> (try simp only [sc, reduceCtorEq, cmpOf] at hb') <;> try (exfalso; omega)))
         all_goals (fail_if_success apply DL.id))
        | (refine RunL.split rfl rfl rfl rfl (fun hb => ?_) (fun hb => ?_) <;> have hb' := hb <;> (try simp only [sc, reduceCtorEq, cmpOf] at hb') <;> try (exfalso; omega)) )
      · exact ⟨(i / 2, x ^ e1 * x ^ e2, x ^ e2 * x ^ e2), St.Le.of (by repeat' (first | exact all_nil | refine all_cons rfl ?_)) (by repeat' (first | exact all_nil | refine all_cons rfl ?_)), ⟨by omega, by omega, e1 + e2, e2 + e2, by rw [Int.pow_add], by rw [Int.pow_add], p1 (by omega)⟩, by omega⟩
      · exact ⟨(i / 2, x ^ e1 * x ^ e2, x ^ e2), St.Le.of (by repeat' (first | exact all_nil | refine all_cons rfl ?_)) (by repeat' (first | exact all_nil | refine all_cons rfl ?_)), ⟨by omega, by omega, e1 + e2, e2, by rw [Int.pow_add], rfl, by have h1 := p1 (by omega); have h2 := z (by omega); simp only [h2] at h1 ⊢; exact h1⟩, by omega⟩
      · exact ⟨(i / 2, x ^ e1, x ^ e2 * x ^ e2), St.Le.of (by repeat' (first | exact all_nil | refine all_cons rfl ?_)) (by repeat' (first | exact all_nil | refine all_cons rfl ?_)), ⟨by omega, by omega, e1, e2 + e2, rfl, by rw [Int.pow_add], p2 (by omega)⟩, by omega⟩
    · have h0 : i = 0 := by omega
      subst h0
      have h1 : e1 = n.toNat := by rw [Int.zero_mul] at k3; omega
      subst h1
      repeat' (first
        | (apply RunL.step; exact rfl; apply op_ev (τ := τ); exact rfl; (first | exact cnorm | exact ctrim | exact ccmp | exact of_ev _ | exact cadd | exact csub | exact cmul | exact cdiv | exact cdiv0 | exact cgcd | exact of_ev _); exact rfl) | (apply RunL.step; exact rfl; exact opA) | (apply RunL.hand; exact rfl; exact rfl; exact lenA; exact rfl) | (apply AWP.seq) | (apply AWP.region; exact rfl) | (apply AWP.block) | (apply AWP.skip) | (apply AWP.exit) | (apply AWP.retF; exact rfl; exact rfl; exact rfl; exact rfl; exact lenA; exact rfl) | (apply AWP.ret) | (apply RunL.nil) | (apply RunL.on; exact rfl; exact rfl; exact rfl; exact rfl; (first | exact rfl | assumption)) | (apply RunL.noU; exact rfl; exact rfl; exact rfl; exact rfl; exact rfl; exact rfl) | (apply RunL.no; exact rfl; exact rfl; exact rfl; exact rfl; (first | exact rfl | assumption); exact rfl; exact rfl) | (refine AWP.cond _ (Rd.of rfl) (fun hc => ?_) (fun hc => ?_) <;> first | (exfalso; cases hc; done) | (have hc' := hc; (try simp only [sc, reduceCtorEq, cmpOf] at hc'); try (exfalso; omega)))
        | (
         apply AWP.drawA
         repeat' (first
           | (apply DL.cons; (try (apply OpLoc.on; exact rfl; exact rfl; exact rfl; exact rfl; (first | exact rfl | assumption))); apply ol_ev (τ := τ); exact rfl; (first | exact cnorm | exact ctrim | exact ccmp | exact of_ev _ | exact cadd | exact csub | exact cmul | exact cdiv | exact cdiv0 | exact cgcd | exact of_ev _); exact rfl; exact rfl) | (apply DL.cons; exact olA; exact rfl) | (apply DL.nil; kernel_rfl) | (refine DL.split rfl rfl rfl rfl (fun hb => ?_) (fun hb => ?_) <;> have hb' := hb <;> (try simp only [sc, reduceCtorEq, cmpOf] at hb') <;> try (exfalso; omega)))
         all_goals (fail_if_success apply DL.id))
        | (refine RunL.split rfl rfl rfl rfl (fun hb => ?_) (fun hb => ?_) <;> have hb' := hb <;> (try simp only [sc, reduceCtorEq, cmpOf] at hb') <;> try (exfalso; omega)) )
      all_goals
        apply Ends.mk (.cons (.tmp rfl) (.cons (.tmp rfl) .nil))
        rfl
  · rw [if_neg hn, decide_eq_false hn]
    have hn' : ¬ (0 ≤ n ∧ n ≤ 512) := hn
    repeat' (first
      | (apply RunL.step; exact rfl; apply op_ev (τ := τ); exact rfl; (first | exact cnorm | exact ctrim | exact ccmp | exact of_ev _ | exact cadd | exact csub | exact cmul | exact cdiv | exact cdiv0 | exact cgcd | exact of_ev _); exact rfl) | (apply RunL.step; exact rfl; exact opA) | (apply RunL.hand; exact rfl; exact rfl; exact lenA; exact rfl) | (apply AWP.seq) | (apply AWP.region; exact rfl) | (apply AWP.block) | (apply AWP.skip) | (apply AWP.exit) | (apply AWP.retF; exact rfl; exact rfl; exact rfl; exact rfl; exact lenA; exact rfl) | (apply AWP.ret) | (apply RunL.nil) | (apply RunL.on; exact rfl; exact rfl; exact rfl; exact rfl; (first | exact rfl | assumption)) | (apply RunL.noU; exact rfl; exact rfl; exact rfl; exact rfl; exact rfl; exact rfl) | (apply RunL.no; exact rfl; exact rfl; exact rfl; exact rfl; (first | exact rfl | assumption); exact rfl; exact rfl) | (refine AWP.cond _ (Rd.of rfl) (fun hc => ?_) (fun hc => ?_) <;> first | (exfalso; cases hc; done) | (have hc' := hc; (try simp only [sc, reduceCtorEq, cmpOf] at hc'); try (exfalso; omega)))
      | (
       apply AWP.drawA
       repeat' (first
         | (apply DL.cons; (try (apply OpLoc.on; exact rfl; exact rfl; exact rfl; exact rfl; (first | exact rfl | assumption))); apply ol_ev (τ := τ); exact rfl; (first | exact cnorm | exact ctrim | exact ccmp | exact of_ev _ | exact cadd | exact csub | exact cmul | exact cdiv | exact cdiv0 | exact cgcd | exact of_ev _); exact rfl; exact rfl) | (apply DL.cons; exact olA; exact rfl) | (apply DL.nil; kernel_rfl) | (refine DL.split rfl rfl rfl rfl (fun hb => ?_) (fun hb => ?_) <;> have hb' := hb <;> (try simp only [sc, reduceCtorEq, cmpOf] at hb') <;> try (exfalso; omega)))
       all_goals (fail_if_success apply DL.id))
      | (refine RunL.split rfl rfl rfl rfl (fun hb => ?_) (fun hb => ?_) <;> have hb' := hb <;> (try simp only [sc, reduceCtorEq, cmpOf] at hb') <;> try (exfalso; omega)) )
    all_goals
      apply Ends.mk (.cons (.tmp rfl) (.cons (.tmp rfl) .nil))
      rfl
end
theorem r1same0 (a b : List Int) : Evals Tryd.prog 13 [.ints .u32 a, .ints .u32 b] (.bool (decide (a = b))) := by
  refine evals_of_awp Tryd.func13 rfl (CallOK.of Tryd.func13 (by kernel_rfl) rfl) (Nat.le_of_ble_eq_true rfl) ?_
  rintro w R hR ⟨vs, hv⟩
  obtain ⟨hla, ha⟩ := hv.nat 0 rfl
  obtain ⟨hlb, hb⟩ := hv.nat 1 rfl
  repeat' (first
    | (apply RunL.step; exact rfl; exact opA) | (apply RunL.hand; exact rfl; exact rfl; exact lenA; exact rfl) | (apply AWP.seq) | (apply AWP.region; exact rfl) | (apply AWP.block) | (apply AWP.skip) | (apply AWP.exit) | (apply AWP.retF; exact rfl; exact rfl; exact rfl; exact rfl; exact lenA; exact rfl) | (apply AWP.ret) | (apply RunL.nil) | (apply RunL.on; exact rfl; exact rfl; exact rfl; exact rfl; (first | exact rfl | assumption)) | (apply RunL.noU; exact rfl; exact rfl; exact rfl; exact rfl; exact rfl; exact rfl) | (apply RunL.no; exact rfl; exact rfl; exact rfl; exact rfl; (first | exact rfl | assumption); exact rfl; exact rfl) | (refine AWP.cond _ (Rd.of rfl) (fun hc => ?_) (fun hc => ?_) <;> first | (exfalso; cases hc; done) | (have hc' := hc; (try simp only [sc, reduceCtorEq, cmpOf] at hc'); try (exfalso; omega)))
    | (
     apply AWP.drawA
     repeat' (first
       | (apply DL.cons; (try (apply OpLoc.on; exact rfl; exact rfl; exact rfl; exact rfl; (first | exact rfl | assumption))); apply ol_ev (τ := τ); exact rfl; (fail); exact rfl; exact rfl) | (apply DL.cons; exact olA; exact rfl) | (apply DL.nil; kernel_rfl) | (refine DL.split rfl rfl rfl rfl (fun hb => ?_) (fun hb => ?_) <;> have hb' := hb <;> (try simp only [sc, reduceCtorEq, cmpOf] at hb') <;> try (exfalso; omega)))
     all_goals (fail_if_success apply DL.id))
    | (refine RunL.split rfl rfl rfl rfl (fun hb => ?_) (fun hb => ?_) <;> have hb' := hb <;> (try simp only [sc, reduceCtorEq, cmpOf] at hb') <;> try (exfalso; omega)) )
  · apply Ends.mk (.cons (.tmp rfl) .nil)
    rw [decide_eq_false (fun h => by subst h; omega)]; rfl
  refine AWP.loop (ι := Int) (fun i => ⟨[(0, .val (.ints .u32 a)), (1, .val (.ints .u32 b)), (5, .val (.int .i64 i))], []⟩) (fun i => 0 ≤ i ∧ i ≤ a.length ∧ ∀ j : Nat, j < i.toNat → ix a j = ix b j) (fun i => a.length - i.toNat) 0 ⟨by omega, by omega, fun j h => by omega⟩ (St.Le.of (by repeat' (first | exact all_nil | refine all_cons rfl ?_)) (by repeat' (first | exact all_nil | refine all_cons rfl ?_))) ?_
  rintro i ⟨k1, k2, k3⟩
  have q1 := ha.ix i
  have q2 := hb.ix i
  repeat' (first
    | (apply RunL.step; exact rfl; exact opA) | (apply RunL.hand; exact rfl; exact rfl; exact lenA; exact rfl) | (apply AWP.seq) | (apply AWP.region; exact rfl) | (apply AWP.block) | (apply AWP.skip) | (apply AWP.exit) | (apply AWP.retF; exact rfl; exact rfl; exact rfl; exact rfl; exact lenA; exact rfl) | (apply AWP.ret) | (apply RunL.nil) | (apply RunL.on; exact rfl; exact rfl; exact rfl; exact rfl; (first | exact rfl | assumption)) | (apply RunL.noU; exact rfl; exact rfl; exact rfl; exact rfl; exact rfl; exact rfl) | (apply RunL.no; exact rfl; exact rfl; exact rfl; exact rfl; (first | exact rfl | assumption); exact rfl; exact rfl) | (refine AWP.cond _ (Rd.of rfl) (fun hc => ?_) (fun hc => ?_) <;> first | (exfalso; cases hc; done) | (have hc' := hc; (try simp only [sc, reduceCtorEq, cmpOf] at hc'); try (exfalso; omega)))
    | (
     apply AWP.drawA
     repeat' (first
       | (apply DL.cons; (try (apply OpLoc.on; exact rfl; exact rfl; exact rfl; exact rfl; (first | exact rfl | assumption))); apply ol_ev (τ := τ); exact rfl; (fail); exact rfl; exact rfl) | (apply DL.cons; exact olA; exact rfl) | (apply DL.nil; kernel_rfl) | (refine DL.split rfl rfl rfl rfl (fun hb => ?_) (fun hb => ?_) <;> have hb' := hb <;> (try simp only [sc, reduceCtorEq, cmpOf] at hb') <;> try (exfalso; omega)))
     all_goals (fail_if_success apply DL.id))
    | (refine RunL.split rfl rfl rfl rfl (fun hb => ?_) (fun hb => ?_) <;> have hb' := hb <;> (try simp only [sc, reduceCtorEq, cmpOf] at hb') <;> try (exfalso; omega)) )
  · apply Ends.mk (.cons (.tmp rfl) .nil)
    rw [decide_eq_false (fun h => by subst h; omega)]; rfl
  · refine ⟨_, St.Le.of (by repeat' (first | exact all_nil | refine all_cons rfl ?_)) (by repeat' (first | exact all_nil | refine all_cons rfl ?_)), ⟨by omega, by omega, fun j hj => ?_⟩, by omega⟩
    by_cases h : j < i.toNat
    · exact k3 j h
    · rw [show (j : Int) = i by omega]; omega
  · apply Ends.mk (.cons (.tmp rfl) .nil)
    rw [decide_eq_true (list_ext_ix (by omega) fun j hj => k3 j (by omega))]; rfl
theorem r1same (x y : Int) (hx : 0 ≤ x) (hy : 0 ≤ y) : Evals Tryd.prog 13 [.ints .u32 (limbs x), .ints .u32 (limbs y)] (.bool (decide (x = y))) := by
  have := r1same0 (limbs x) (limbs y)
  rwa [show decide (limbs x = limbs y) = decide (x = y) from decide_eq_decide.2 ⟨fun h => by rw [← val_limbs hx, ← val_limbs hy, h], fun h => by rw [h]⟩] at this
theorem r1same_eq {l m : List Int} (h : l = m := by first | rfl | assumption) : Evals Tryd.prog 13 [.ints .u32 l, .ints .u32 m] (.bool true) := by
  have := r1same0 l m
  rwa [decide_eq_true h] at this
theorem r1same_as {x y : Int} (h : x = y := by first | assumption | grind) : Evals Tryd.prog 13 [.ints .u32 (limbs x), .ints .u32 (limbs y)] (.bool true) := by
  subst h; exact r1same_eq rfl
end Go.Proofs.YtnleagkinejenaaDoor.K
