/- Walks: nat.divLong, DivMod. -/
import Derived.Test.YtffcpgebgoineaaDoorDivK
namespace Go.Proofs.YtffcpgebgoineaaDoor.K
open Go
set_option linter.unusedVariables false
set_option linter.unusedSimpArgs false

theorem pow2_32 {k m : Nat} (h : k + m = 32) : (2 : Int) ^ k * 2 ^ m = 4294967296 := by rw [← Int.pow_add, h]; rfl
theorem norm_shift {b : List Int} (hb : Lim b) {n : Nat} (hl : b.length = n + 1) (ht : 1 ≤ ix b n) :
    ∃ k : Nat, 32 - bitlen (ix b n) = (k : Int) ∧ k ≤ 31 ∧ val b * 2 ^ k < 4294967296 ^ (n + 1) ∧ 4294967296 ^ n * 2147483648 ≤ val b * 2 ^ k ∧ 4294967296 ^ n * 2 ^ k ≤ val b * 2 ^ k := by
  have h1 := bitlen_bounds (x := ix b n) (by omega)
  have h2 := bitlen_le (x := ix b n) (k := 32) (by have := hb.ix n; omega)
  have h3 : val (b.take (n + 1)) = _ := val_take_succ b n
  rw [List.take_of_length_le (by omega)] at h3
  have h4 := val_lt (hb.take n)
  rw [show (b.take n).length = n by simp; omega] at h4
  have h5 := val_nonneg (hb.take n)
  obtain ⟨m, hm⟩ : ∃ m : Nat, bitlen (ix b n) = (m : Int) + 1 := ⟨(bitlen (ix b n) - 1).toNat, by omega⟩
  refine ⟨31 - m, by omega, by omega, ?_, ?_, ?_⟩
  rw [Int.pow_succ]
  all_goals
    rw [hm] at h1 h2
    rw [show ((m : Int) + 1 - 1).toNat = m by omega, show ((m : Int) + 1).toNat = m + 1 by omega] at h1
    have hp := pow_pos' n
    have hz := pow2_pos (31 - m)
    have e1 := pow2_32 (k := 31 - m) (m := m + 1) (by omega)
    rw [Int.pow_succ] at e1
    generalize (2 : Int) ^ (31 - m) = z at *
    generalize (4294967296 : Int) ^ n = p at *
    generalize hzm : (2 : Int) ^ m = y at *
  · have h6 : val b < p * (2 * y) := by
      have : p * (ix b n + 1) ≤ p * (2 * y) := Int.mul_le_mul_of_nonneg_left (by rw [Int.pow_succ] at h1; omega) (by omega)
      rw [Int.mul_add] at this
      omega
    have h7 := Int.mul_lt_mul_of_pos_right h6 hz
    have : p * (2 * y) * z = p * 4294967296 := by grind
    omega
  · have h6 : p * y ≤ val b := by
      have : p * y ≤ p * ix b n := Int.mul_le_mul_of_nonneg_left h1.2.1 (by omega)
      omega
    have h7 := Int.mul_le_mul_of_nonneg_right h6 (Int.le_of_lt hz)
    have e2 : z * (y * 2) = 2 * (z * y) := by grind
    have e3 : z * y = 2147483648 := by omega
    have : p * y * z = p * 2147483648 := by rw [← e3]; grind
    omega
  · have h6 : p ≤ val b := by
      have : p * 1 ≤ p * ix b n := Int.mul_le_mul_of_nonneg_left ht (by omega)
      omega
    exact Int.mul_le_mul_of_nonneg_right h6 (Int.le_of_lt hz)

theorem ix_dig {n i : Nat} {v : Int} (h : i < n) : ix (dig n v) i = v / 4294967296 ^ i % 4294967296 := by
  induction n generalizing i v with
  | zero => omega
  | succ n ih =>
    cases i with
    | zero => simp [dig, ix]
    | succ i =>
      have := ih (v := v / 4294967296) (i := i) (by omega)
      simp only [ix, Int.toNat_natCast] at this
      simp only [ix, Int.toNat_natCast, dig, List.getD_cons_succ, this]
      rw [Int.pow_succ, Int.mul_comm, ← Int.ediv_ediv_of_nonneg (by omega)]
theorem dig_take : ∀ {n m : Nat} (v : Int), n ≤ m → (dig m v).take n = dig n v
  | 0, m, v, h => by simp [dig]
  | n + 1, 0, v, h => by omega
  | n + 1, m + 1, v, h => by simp [dig, dig_take (n := n) (m := m) _ (by omega)]
theorem limbs_dig {n : Nat} {v : Int} (h0 : 0 ≤ v) (h : v < 4294967296 ^ n) : limbs (val (dig n v)) = limbs v := by rw [val_dig n v h0 h]

/-- the answer of the division, of the numbers shifted -/
theorem shifted_div {a b : Int} {k : Nat} (hb : 0 < b) : a * 2 ^ k / (b * 2 ^ k) = a / b ∧ a * 2 ^ k % (b * 2 ^ k) = a % b * 2 ^ k := by
  have hz := pow2_pos k
  have h1 := Int.mul_ediv_add_emod a b
  have h2 := Int.emod_nonneg a (show b ≠ 0 by omega)
  have h3 := Int.emod_lt_of_pos a hb
  refine divmod_of (d := b * 2 ^ k) (q := a / b) (r := a % b * 2 ^ k) ?_ (Int.mul_nonneg h2 (Int.le_of_lt hz)) (Int.mul_lt_mul_of_pos_right h3 hz)
  generalize (2 : Int) ^ k = z at *
  generalize a / b = q at *
  generalize a % b = r at *
  rw [← h1]; grind

theorem top_init {l : List Int} (hl : Lim l) {s n la : Nat} {z V : Int} (hs : s + n = la) (hsl : s ≤ l.length) (h : val l < 4294967296 ^ la * z) (hV : 4294967296 ^ n * z ≤ V) : val (l.drop s) < V := by
  have h1 := val_split l s hsl
  have h2 := val_nonneg (hl.take s)
  have h3 := pow_pos' s
  rw [← hs, Int.pow_add, Int.mul_assoc] at h
  have h4 : val (l.drop s) < 4294967296 ^ n * z := by
    refine Int.lt_of_mul_lt_mul_left (a := 4294967296 ^ s) ?_ (Int.le_of_lt h3)
    omega
  omega
theorem seg_split (l : List Int) (J N : Nat) : l.take J ++ (l.drop J).take N ++ l.drop (J + N) = l := by
  rw [List.append_assoc, ← List.drop_drop, List.take_append_drop, List.take_append_drop]
theorem subtract_at (l C : List Int) (q : Int) (J len cap : Nat) (hl : len = C.length + 1) (h : J + (C.length + 1) ≤ l.length) (hq : 0 ≤ q ∧ q < 4294967296) (hL : Lim l) :
    EvalsW Tryd.prog 56 34 .u32 l J len cap [.ints .u32 C, .int .u64 q] (.bool (decide (val ((l.drop J).take (C.length + 1)) < q * val C)))
      (l.take J ++ dig (C.length + 1) (val ((l.drop J).take (C.length + 1)) - q * val C + if val ((l.drop J).take (C.length + 1)) < q * val C then 4294967296 ^ (C.length + 1) else 0) ++ l.drop (J + (C.length + 1))) := by
  have := subtract_ev (l.take J) ((l.drop J).take (C.length + 1)) (l.drop (J + (C.length + 1))) C q len cap hl (by simp; omega) hq ((hL.drop J).take _)
  rwa [seg_split, show (l.take J).length = J by simp; omega] at this
theorem addBack_at (l C : List Int) (x : Int) (J len cap : Nat) (hl : len = C.length + 1) (h : J + (C.length + 1) ≤ l.length) :
    EvalsW Tryd.prog 57 34 .u32 (l.take J ++ dig (C.length + 1) x ++ l.drop (J + (C.length + 1))) J len cap [.ints .u32 C] (.tup [])
      (l.take J ++ dig (C.length + 1) (val (dig (C.length + 1) x) + val C) ++ l.drop (J + (C.length + 1))) := by
  have := addBack_ev (l.take J) (dig (C.length + 1) x) (l.drop (J + (C.length + 1))) C len cap hl (dig_length _ _) (Lim.dig _ _)
  rwa [show (l.take J).length = J by simp; omega] at this
theorem top_digit {n N : Nat} {V : Int} (hN : N = n + 1) (h : V < 4294967296 ^ N) (h2 : 4294967296 ^ n * 2147483648 ≤ V) : 2147483648 ≤ ix (dig N V) (N - 1) := by
  subst hN
  rw [show ((n + 1 : Nat) : Int) - 1 = n by omega, ix_dig (by omega)]
  have hp := pow_pos' n
  have h3 : 2147483648 ≤ V / 4294967296 ^ n := by rw [Int.le_ediv_iff_mul_le hp, Int.mul_comm]; exact h2
  have h4 : V / 4294967296 ^ n < 4294967296 := Int.ediv_lt_of_lt_mul hp (by rw [Int.pow_succ] at h; rw [Int.mul_comm]; exact h)
  omega

set_option maxRecDepth 100000 in
theorem divLong_ev (a b : List Int) (hb2 : 2 ≤ b.length) (hab : b.length ≤ a.length) (ht : 1 ≤ ix b (b.length - 1)) (hla : a.length ≤ 70368744177663) :
    Evals Tryd.prog 44 [.ints .u32 a, .ints .u32 b] (.tup [.ints .u32 (limbs (val a / val b)), .ints .u32 (limbs (val a % val b))]) := by
  refine evals_of_awp Tryd.func44 rfl (CallOK.of Tryd.func44 (by kernel_rfl) rfl) (Nat.le_of_ble_eq_true rfl) ?_
  rintro w R hR ⟨vs, hv⟩
  obtain ⟨_, ha⟩ := hv.nat 0 rfl
  obtain ⟨_, hb⟩ := hv.nat 1 rfl
  obtain ⟨n, hn⟩ : ∃ n : Nat, b.length = n + 1 := ⟨b.length - 1, by omega⟩
  have en : (b.length : Int) - 1 = n := by omega
  rw [en] at ht
  obtain ⟨k, hk1, hk2, hk3, hk4, hk5⟩ := norm_shift hb hn ht
  have hlz : Evals Tryd.prog 53 [.int .u32 (ix b (b.length - 1))] (.int .i64 k) := by rw [← hk1, en]; exact lz32_ev _
  rw [← hn] at hk3
  have hV0 : 0 < val b * 2 ^ k := by have := Int.mul_pos (pow_pos' n) (pow2_pos k); omega
  repeat' (first
    | (apply RunL.step; exact rfl; first | (apply op_evNew (τ := τ); exact rfl; exact shiftLeft_ev _ _ (by omega) (by omega); exact dig_length _ _; exact rfl; exact rfl; exact rfl) | (apply op_lend (τ := τ); exact rfl; exact rfl; exact rfl; exact rfl; omega; exact rfl; exact hest _ _ (by omega) (by omega); exact rfl; exact rfl) | (apply op_evW (τ := τ); exact rfl; exact rfl; exact rfl; exact rfl; exact rfl; (first | exact hsub _ _ _ (by omega) (by omega) | exact hadd _ _ _ (by omega) (by omega)); exact rfl; exact rfl) | fail) | (apply RunL.step; exact rfl; apply op_ev (τ := τ); exact rfl; (first | exact hlz | exact trim_ev _ | exact shiftRight_ev _ _ (by omega) (by simp; omega)); exact rfl) | (apply RunL.step; exact rfl; exact opA) | (apply RunL.hand; exact rfl; exact rfl; exact lenA; exact rfl) | (apply AWP.seq) | (apply AWP.region; exact rfl) | (apply AWP.block) | (apply AWP.skip) | (apply AWP.exit) | (apply AWP.ret) | (apply RunL.nil) | (apply RunL.on; exact rfl; exact rfl; exact rfl; exact rfl; (first | exact rfl | assumption)) | (apply RunL.noU; exact rfl; exact rfl; exact rfl; exact rfl; exact rfl; exact rfl) | (apply RunL.no; exact rfl; exact rfl; exact rfl; exact rfl; (first | exact rfl | assumption); exact rfl; exact rfl) | (refine AWP.cond _ (Rd.of rfl) (fun hc => ?_) (fun hc => ?_) <;> first | (exfalso; cases hc; done) | (have hc' := hc; (try simp only [sc, reduceCtorEq, cmpOf] at hc'); try (exfalso; omega)))
    | (
     apply AWP.drawA
     repeat' (first
       | (apply DL.cons; (try (apply OpLoc.on; exact rfl; exact rfl; exact rfl; exact rfl; (first | exact rfl | assumption))); apply ol_ev (τ := τ); exact rfl; (first | exact hlz | exact trim_ev _ | exact shiftRight_ev _ _ (by omega) (by simp; omega)); exact rfl; exact rfl) | (apply DL.cons; exact olA; exact rfl) | (apply DL.nil; kernel_rfl) | (refine DL.split rfl rfl rfl rfl (fun hb => ?_) (fun hb => ?_) <;> have hb' := hb <;> (try simp only [sc, reduceCtorEq, cmpOf] at hb') <;> try (exfalso; omega)))
     all_goals (fail_if_success apply DL.id))
    | (refine RunL.split rfl rfl rfl rfl (fun hb => ?_) (fun hb => ?_) <;> have hb' := hb <;> (try simp only [sc, reduceCtorEq, cmpOf] at hb') <;> try (exfalso; omega)) )
  refine AWP.freezeAs 7 (dig b.length (val b * 2 ^ k)) rfl rfl rfl (by simp [dig_length]) (by rw [List.drop_zero]; exact dig_take _ (by simp)) ?_
  have hA0 : 0 ≤ val a := val_nonneg ha
  have hA1 : val a * 2 ^ k < 4294967296 ^ a.length * 2 ^ k := Int.mul_lt_mul_of_pos_right (val_lt ha) (pow2_pos k)
  have hA2 : val (dig (a.length + 1) (val a * 2 ^ k)) = val a * 2 ^ k := by
    refine val_dig _ _ (Int.mul_nonneg hA0 (Int.le_of_lt (pow2_pos k))) ?_
    have h1 : (2 : Int) ^ k ≤ 2 ^ 32 := pow2_le (by omega)
    have h2 : (4294967296 : Int) ^ a.length * 2 ^ k ≤ 4294967296 ^ a.length * 2 ^ 32 := Int.mul_le_mul_of_nonneg_left h1 (Int.le_of_lt (pow_pos' _))
    rw [Int.pow_succ]
    omega
  refine AWP.loop3 (fun j l Q => ⟨[(0, .val (.ints .u32 a)), (6, .val (.int .i64 k)), (7, .val (.ints .u32 (dig b.length (val b * 2 ^ k)))), (8, .sb 28 0 (a.length + 1) (a.length + 1)), (9, .val (.int .i64 b.length)), (10, .sb 36 0 ((a.length : Int) - b.length + 1).toNat ((a.length : Int) - b.length + 1).toNat), (11, .val (.int .i64 j))], [(28, .row 34 .u32 l), (36, .row 34 .u32 Q)]⟩)
    (fun j l Q => -1 ≤ j ∧ j ≤ (a.length : Int) - b.length ∧ l.length = a.length + 1 ∧ Lim l ∧ Q.length = ((a.length : Int) - b.length + 1).toNat ∧ Lim Q ∧ val (l.drop (j + 1).toNat) < val b * 2 ^ k ∧ val l + val b * 2 ^ k * (4294967296 ^ (j + 1).toNat * val (Q.drop (j + 1).toNat)) = val a * 2 ^ k)
    (fun j _ _ => (j + 1).toNat) ((a.length : Int) - b.length) (dig (a.length + 1) (val a * 2 ^ k)) (List.replicate ((a.length : Int) - b.length + 1).toNat 0) ⟨by omega, by omega, dig_length _ _, Lim.dig _ _, by simp, Lim.rep _, ?_, ?_⟩ (St.Le.of (by repeat' (first | exact all_nil | refine all_cons rfl ?_)) (by repeat' (first | exact all_nil | refine all_cons rfl ?_))) ?_
  · exact top_init (Lim.dig _ _) (n := n) (la := a.length) (by omega) (by rw [dig_length]; omega) (by rw [hA2]; exact hA1) hk5
  · rw [hA2, List.drop_eq_nil_of_le (by simp)]; simp [val]
  rintro j l Q ⟨k1, k2, k3, k4, k5, k6, k7, k8⟩
  have hVv : val (dig b.length (val b * 2 ^ k)) = val b * 2 ^ k := val_dig _ _ (Int.le_of_lt hV0) hk3
  have hVt := top_digit hn hk3 hk4
  have hVl : (dig b.length (val b * 2 ^ k)).length = b.length := dig_length _ _
  have hVL := Lim.dig b.length (val b * 2 ^ k)
  rcases (by omega : j = -1 ∨ 0 ≤ j) with hj | hj
  · subst hj
    simp only [show ((-1 : Int) + 1).toNat = 0 from rfl, List.drop_zero, Int.pow_zero, Int.one_mul] at k7 k8
    have hl0 := val_nonneg k4
    have hdm := divmod_of (a := val a * 2 ^ k) (d := val b * 2 ^ k) (q := val Q) (r := val l) (by omega) hl0 k7
    have hsd := shifted_div (a := val a) (b := val b) (k := k) (by
      rcases Int.lt_or_le 0 (val b) with h | h
      · exact h
      · exfalso
        have := Int.mul_le_mul_of_nonneg_right h (Int.le_of_lt (pow2_pos k))
        omega)
    rw [hdm.1, hdm.2] at hsd
    have htl := (val_take_lt k4 (n := b.length) (by omega)).1
    repeat' (first
      | (apply RunL.step; exact rfl; first | (apply op_evNew (τ := τ); exact rfl; exact shiftLeft_ev _ _ (by omega) (by omega); exact dig_length _ _; exact rfl; exact rfl; exact rfl) | (apply op_lend (τ := τ); exact rfl; exact rfl; exact rfl; exact rfl; omega; exact rfl; exact hest _ _ (by omega) (by omega); exact rfl; exact rfl) | (apply op_evW (τ := τ); exact rfl; exact rfl; exact rfl; exact rfl; exact rfl; (first | exact hsub _ _ _ (by omega) (by omega) | exact hadd _ _ _ (by omega) (by omega)); exact rfl; exact rfl) | fail) | (apply RunL.step; exact rfl; apply op_ev (τ := τ); exact rfl; (first | exact hlz | exact trim_ev _ | exact shiftRight_ev _ _ (by omega) (by simp; omega)); exact rfl) | (apply RunL.step; exact rfl; exact opA) | (apply RunL.hand; exact rfl; exact rfl; exact lenA; exact rfl) | (apply AWP.seq) | (apply AWP.region; exact rfl) | (apply AWP.block) | (apply AWP.skip) | (apply AWP.exit) | (apply AWP.ret) | (apply RunL.nil) | (apply RunL.on; exact rfl; exact rfl; exact rfl; exact rfl; (first | exact rfl | assumption)) | (apply RunL.noU; exact rfl; exact rfl; exact rfl; exact rfl; exact rfl; exact rfl) | (apply RunL.no; exact rfl; exact rfl; exact rfl; exact rfl; (first | exact rfl | assumption); exact rfl; exact rfl) | (refine AWP.cond _ (Rd.of rfl) (fun hc => ?_) (fun hc => ?_) <;> first | (exfalso; cases hc; done) | (have hc' := hc; (try simp only [sc, reduceCtorEq, cmpOf] at hc'); try (exfalso; omega)))
      | (
       apply AWP.drawA
       repeat' (first
         | (apply DL.cons; (try (apply OpLoc.on; exact rfl; exact rfl; exact rfl; exact rfl; (first | exact rfl | assumption))); apply ol_ev (τ := τ); exact rfl; (first | exact hlz | exact trim_ev _ | exact shiftRight_ev _ _ (by omega) (by simp; omega)); exact rfl; exact rfl) | (apply DL.cons; exact olA; exact rfl) | (apply DL.nil; kernel_rfl) | (refine DL.split rfl rfl rfl rfl (fun hb => ?_) (fun hb => ?_) <;> have hb' := hb <;> (try simp only [sc, reduceCtorEq, cmpOf] at hb') <;> try (exfalso; omega)))
       all_goals (fail_if_success apply DL.id))
      | (refine RunL.split rfl rfl rfl rfl (fun hb => ?_) (fun hb => ?_) <;> have hb' := hb <;> (try simp only [sc, reduceCtorEq, cmpOf] at hb') <;> try (exfalso; omega)) )
    refine AWP.freezeAs 10 Q rfl rfl rfl (by omega) (by rw [List.drop_zero]; exact List.take_of_length_le (by omega)) ?_
    refine AWP.freezeAs 8 l rfl rfl rfl (by omega) (by rw [List.drop_zero]; exact List.take_of_length_le (by omega)) ?_
    repeat' (first
      | (apply RunL.step; exact rfl; first | (apply op_evNew (τ := τ); exact rfl; exact shiftLeft_ev _ _ (by omega) (by omega); exact dig_length _ _; exact rfl; exact rfl; exact rfl) | (apply op_lend (τ := τ); exact rfl; exact rfl; exact rfl; exact rfl; omega; exact rfl; exact hest _ _ (by omega) (by omega); exact rfl; exact rfl) | (apply op_evW (τ := τ); exact rfl; exact rfl; exact rfl; exact rfl; exact rfl; (first | exact hsub _ _ _ (by omega) (by omega) | exact hadd _ _ _ (by omega) (by omega)); exact rfl; exact rfl) | fail) | (apply RunL.step; exact rfl; apply op_ev (τ := τ); exact rfl; (first | exact hlz | exact trim_ev _ | exact shiftRight_ev _ _ (by omega) (by simp; omega)); exact rfl) | (apply RunL.step; exact rfl; exact opA) | (apply RunL.hand; exact rfl; exact rfl; exact lenA; exact rfl) | (apply AWP.seq) | (apply AWP.region; exact rfl) | (apply AWP.block) | (apply AWP.skip) | (apply AWP.exit) | (apply AWP.retF; exact rfl; exact rfl; exact rfl; exact rfl; exact lenA; exact rfl) | (apply AWP.ret) | (apply RunL.nil) | (apply RunL.on; exact rfl; exact rfl; exact rfl; exact rfl; (first | exact rfl | assumption)) | (apply RunL.noU; exact rfl; exact rfl; exact rfl; exact rfl; exact rfl; exact rfl) | (apply RunL.no; exact rfl; exact rfl; exact rfl; exact rfl; (first | exact rfl | assumption); exact rfl; exact rfl) | (refine AWP.cond _ (Rd.of rfl) (fun hc => ?_) (fun hc => ?_) <;> first | (exfalso; cases hc; done) | (have hc' := hc; (try simp only [sc, reduceCtorEq, cmpOf] at hc'); try (exfalso; omega)))
      | (
       apply AWP.drawA
       repeat' (first
         | (apply DL.cons; (try (apply OpLoc.on; exact rfl; exact rfl; exact rfl; exact rfl; (first | exact rfl | assumption))); apply ol_ev (τ := τ); exact rfl; (first | exact hlz | exact trim_ev _ | exact shiftRight_ev _ _ (by omega) (by simp; omega)); exact rfl; exact rfl) | (apply DL.cons; exact olA; exact rfl) | (apply DL.nil; kernel_rfl) | (refine DL.split rfl rfl rfl rfl (fun hb => ?_) (fun hb => ?_) <;> have hb' := hb <;> (try simp only [sc, reduceCtorEq, cmpOf] at hb') <;> try (exfalso; omega)))
       all_goals (fail_if_success apply DL.id))
      | (refine RunL.split rfl rfl rfl rfl (fun hb => ?_) (fun hb => ?_) <;> have hb' := hb <;> (try simp only [sc, reduceCtorEq, cmpOf] at hb') <;> try (exfalso; omega)) )
    apply Ends.mk (.cons (.tmp rfl) (.cons (.tmp rfl) .nil))
    show D.tup [D.ints _ (limbs (val Q)), D.ints _ (limbs (val (dig ((l.take b.length).drop 0).length (val ((l.take b.length).drop 0) / 2 ^ k))))] = _
    have hb0 : 0 < val b := by
      rcases Int.lt_or_le 0 (val b) with h | h
      · exact h
      · exfalso
        have := Int.mul_le_mul_of_nonneg_right h (Int.le_of_lt (pow2_pos k))
        omega
    have hr1 := Int.emod_nonneg (val a) (show val b ≠ 0 by omega)
    have hr2 := Int.emod_lt_of_pos (val a) hb0
    have hr3 := val_lt hb
    rw [List.drop_zero, htl, hsd.1, hsd.2, Int.mul_ediv_cancel _ (by have := pow2_pos k; omega), show (l.take b.length).length = b.length by simp; omega, limbs_dig hr1 (by omega)]
  obtain ⟨J, rfl⟩ := Int.eq_ofNat_of_zero_le hj
  rw [show ((J : Int) + 1).toNat = J + 1 by omega] at k7 k8
  have D := div_step k4 (n := b.length) (j := J) (by omega) (by omega) hV0 hk3 k7 k8
  generalize dig b.length (val b * 2 ^ k) = V at *
  generalize val b * 2 ^ k = V' at *
  subst hVv
  dsimp only at D
  have E := div_estimate (m := (l.drop J).take (b.length + 1)) (V := V) ((k4.drop J).take _) hVL hb2 (by simp; omega) hVl hVt D.1
  dsimp only at E
  have hest0 := estimate_ev ((l.drop J).take (b.length + 1)) V (by omega) (by simp; omega) (by rw [hVl]; exact hVt) (by rw [hVl]; exact E.1)
  have hsub0 := fun q len cap => subtract_at l V q J len cap
  rw [hVl] at hest0
  simp only [hVl] at hsub0
  generalize estI _ _ _ _ = e at *
  obtain ⟨E1, E2, E3, E4⟩ := E
  obtain ⟨D1, D2, D3, D4, D5⟩ := D
  have hest : ∀ off len, off = J → len = b.length + 1 → Evals Tryd.prog 55 [.ints .u32 ((l.drop off).take len), .ints .u32 V] (.int .u64 e) := by rintro _ _ rfl rfl; exact hest0
  have hadd0 := fun x len cap => addBack_at l V x J len cap
  simp only [hVl] at hadd0
  have hM0 : 0 ≤ val ((l.drop J).take (b.length + 1)) := val_nonneg ((k4.drop J).take _)
  have hM1 := Int.mul_ediv_add_emod (val ((l.drop J).take (b.length + 1))) (val V)
  have hM2 := Int.emod_nonneg (val ((l.drop J).take (b.length + 1))) (show val V ≠ 0 by omega)
  have hM3 := Int.emod_lt_of_pos (val ((l.drop J).take (b.length + 1))) hV0
  have eJ : ((J : Nat) : Int) - 1 + 1 = J := by omega
  have fin : ∀ (x : Int) (p : Nat), p = J → x = val ((l.drop J).take (b.length + 1)) / val V → (0 ≤ x ∧ x < 4294967296 → -1 ≤ (J : Int) - 1 ∧ (J : Int) - 1 ≤ (a.length : Int) - b.length ∧ (l.take J ++ dig (b.length + 1) (val ((l.drop J).take (b.length + 1)) % val V) ++ l.drop (J + (b.length + 1))).length = a.length + 1 ∧ Lim (l.take J ++ dig (b.length + 1) (val ((l.drop J).take (b.length + 1)) % val V) ++ l.drop (J + (b.length + 1))) ∧ (Q.set p x).length = ((a.length : Int) - b.length + 1).toNat ∧ Lim (Q.set p x) ∧ val ((l.take J ++ dig (b.length + 1) (val ((l.drop J).take (b.length + 1)) % val V) ++ l.drop (J + (b.length + 1))).drop ((J : Int) - 1 + 1).toNat) < val V ∧ val (l.take J ++ dig (b.length + 1) (val ((l.drop J).take (b.length + 1)) % val V) ++ l.drop (J + (b.length + 1))) + val V * (4294967296 ^ ((J : Int) - 1 + 1).toNat * val ((Q.set p x).drop ((J : Int) - 1 + 1).toNat)) = val a * 2 ^ k) := by
    rintro x p rfl rfl hx
    rw [eJ, Int.toNat_natCast]
    exact ⟨by omega, by omega, by rw [D2, k3], D3, by simp [k5], k6.set hx, D4, D5⟩
  generalize hMM : val ((l.drop J).take (b.length + 1)) = M at *
  generalize hqq : M / val V = q at *
  generalize hrr : M % val V = r at *
  have hq0 : 0 ≤ q := by rw [← hqq]; exact Int.ediv_nonneg hM0 (Int.le_of_lt hV0)
  rcases E4 with he | he
  · subst he
    have hlt : ¬ M < e * val V := by rw [Int.mul_comm]; omega
    have hsub : ∀ off len cap, off = J → len = b.length + 1 → EvalsW Tryd.prog 56 34 .u32 l off len cap [.ints .u32 V, .int .u64 e] (.bool false) (l.take J ++ dig (b.length + 1) r ++ l.drop (J + (b.length + 1))) := by
      rintro _ len cap rfl hl
      have := hsub0 e len cap hl (by omega) ⟨E2, E3⟩ k4
      simp only [hlt, decide_false, if_false] at this
      rwa [show M - e * val V + 0 = r by rw [Int.mul_comm]; omega] at this
    repeat' (first
      | (apply RunL.step; exact rfl; first | (apply op_evNew (τ := τ); exact rfl; exact shiftLeft_ev _ _ (by omega) (by omega); exact dig_length _ _; exact rfl; exact rfl; exact rfl) | (apply op_lend (τ := τ); exact rfl; exact rfl; exact rfl; exact rfl; omega; exact rfl; exact hest _ _ (by omega) (by omega); exact rfl; exact rfl) | (apply op_evW (τ := τ); exact rfl; exact rfl; exact rfl; exact rfl; exact rfl; (first | exact hsub _ _ _ (by omega) (by omega) | exact hadd _ _ _ (by omega) (by omega)); exact rfl; exact rfl) | fail) | (apply RunL.step; exact rfl; apply op_ev (τ := τ); exact rfl; (first | exact hlz | exact trim_ev _ | exact shiftRight_ev _ _ (by omega) (by simp; omega)); exact rfl) | (apply RunL.step; exact rfl; exact opA) | (apply RunL.hand; exact rfl; exact rfl; exact lenA; exact rfl) | (apply AWP.seq) | (apply AWP.region; exact rfl) | (apply AWP.block) | (apply AWP.skip) | (apply AWP.exit) | (apply AWP.ret) | (apply RunL.nil) | (apply RunL.on; exact rfl; exact rfl; exact rfl; exact rfl; (first | exact rfl | assumption)) | (apply RunL.noU; exact rfl; exact rfl; exact rfl; exact rfl; exact rfl; exact rfl) | (apply RunL.no; exact rfl; exact rfl; exact rfl; exact rfl; (first | exact rfl | assumption); exact rfl; exact rfl) | (refine AWP.cond _ (Rd.of rfl) (fun hc => ?_) (fun hc => ?_) <;> first | (exfalso; cases hc; done) | (have hc' := hc; (try simp only [sc, reduceCtorEq, cmpOf] at hc'); try (exfalso; omega)))
      | (
       apply AWP.drawA
       repeat' (first
         | (apply DL.cons; (try (apply OpLoc.on; exact rfl; exact rfl; exact rfl; exact rfl; (first | exact rfl | assumption))); apply ol_ev (τ := τ); exact rfl; (first | exact hlz | exact trim_ev _ | exact shiftRight_ev _ _ (by omega) (by simp; omega)); exact rfl; exact rfl) | (apply DL.cons; exact olA; exact rfl) | (apply DL.nil; kernel_rfl) | (refine DL.split rfl rfl rfl rfl (fun hb => ?_) (fun hb => ?_) <;> have hb' := hb <;> (try simp only [sc, reduceCtorEq, cmpOf] at hb') <;> try (exfalso; omega)))
       all_goals (fail_if_success apply DL.id))
      | (refine RunL.split rfl rfl rfl rfl (fun hb => ?_) (fun hb => ?_) <;> have hb' := hb <;> (try simp only [sc, reduceCtorEq, cmpOf] at hb') <;> try (exfalso; omega)) )
    refine ⟨_, _, _, St.Le.of (by repeat' (first | exact all_nil | refine all_cons rfl ?_)) (by repeat' (first | exact all_nil | refine all_cons rfl ?_)), ?_, by omega⟩
    exact fin _ _ (by omega) rfl ⟨by omega, by omega⟩
  · subst he
    have hlt : M < (q + 1) * val V := by rw [Int.add_mul, Int.mul_comm]; omega
    have hsub : ∀ off len cap, off = J → len = b.length + 1 → EvalsW Tryd.prog 56 34 .u32 l off len cap [.ints .u32 V, .int .u64 (q + 1)] (.bool true) (l.take J ++ dig (b.length + 1) (M - (q + 1) * val V + 4294967296 ^ (b.length + 1)) ++ l.drop (J + (b.length + 1))) := by
      rintro _ len cap rfl hl
      have := hsub0 (q + 1) len cap hl (by omega) ⟨E2, E3⟩ k4
      simp only [hlt, decide_true, if_true] at this
      exact this
    have hx : val (dig (b.length + 1) (M - (q + 1) * val V + 4294967296 ^ (b.length + 1))) = M - (q + 1) * val V + 4294967296 ^ (b.length + 1) := by
      have h1 : (4294967296 : Int) ^ (b.length + 1) = 4294967296 ^ b.length * 4294967296 := Int.pow_succ _ _
      have h2 := pow_pos' b.length
      have h3 : (q + 1) * val V = val V * q + val V := by rw [Int.add_mul, Int.mul_comm]; omega
      exact val_dig _ _ (by omega) (by omega)
    have hadd : ∀ off len cap, off = J → len = b.length + 1 → EvalsW Tryd.prog 57 34 .u32 (l.take J ++ dig (b.length + 1) (M - (q + 1) * val V + 4294967296 ^ (b.length + 1)) ++ l.drop (J + (b.length + 1))) off len cap [.ints .u32 V] (.tup []) (l.take J ++ dig (b.length + 1) r ++ l.drop (J + (b.length + 1))) := by
      rintro _ len cap rfl hl
      have := hadd0 (M - (q + 1) * val V + 4294967296 ^ (b.length + 1)) len cap hl (by omega)
      rw [hx, show M - (q + 1) * val V + 4294967296 ^ (b.length + 1) + val V = r + 4294967296 ^ (b.length + 1) * 1 by rw [Int.add_mul, Int.mul_comm q]; omega, dig_add_mul] at this
      exact this
    have hl1 : ∀ x : Int, (l.take J ++ dig (b.length + 1) x ++ l.drop (J + (b.length + 1))).length = a.length + 1 := by intro x; simp [dig_length]; omega
    have hl2 := hl1 (M - (q + 1) * val V + 4294967296 ^ (b.length + 1))
    repeat' (first
      | (apply RunL.step; exact rfl; first | (apply op_evNew (τ := τ); exact rfl; exact shiftLeft_ev _ _ (by omega) (by omega); exact dig_length _ _; exact rfl; exact rfl; exact rfl) | (apply op_lend (τ := τ); exact rfl; exact rfl; exact rfl; exact rfl; omega; exact rfl; exact hest _ _ (by omega) (by omega); exact rfl; exact rfl) | (apply op_evW (τ := τ); exact rfl; exact rfl; exact rfl; exact rfl; exact rfl; (first | exact hsub _ _ _ (by omega) (by omega) | exact hadd _ _ _ (by omega) (by omega)); exact rfl; exact rfl) | fail) | (apply RunL.step; exact rfl; apply op_ev (τ := τ); exact rfl; (first | exact hlz | exact trim_ev _ | exact shiftRight_ev _ _ (by omega) (by simp; omega)); exact rfl) | (apply RunL.step; exact rfl; exact opA) | (apply RunL.hand; exact rfl; exact rfl; exact lenA; exact rfl) | (apply AWP.seq) | (apply AWP.region; exact rfl) | (apply AWP.block) | (apply AWP.skip) | (apply AWP.exit) | (apply AWP.ret) | (apply RunL.nil) | (apply RunL.on; exact rfl; exact rfl; exact rfl; exact rfl; (first | exact rfl | assumption)) | (apply RunL.noU; exact rfl; exact rfl; exact rfl; exact rfl; exact rfl; exact rfl) | (apply RunL.no; exact rfl; exact rfl; exact rfl; exact rfl; (first | exact rfl | assumption); exact rfl; exact rfl) | (refine AWP.cond _ (Rd.of rfl) (fun hc => ?_) (fun hc => ?_) <;> first | (exfalso; cases hc; done) | (have hc' := hc; (try simp only [sc, reduceCtorEq, cmpOf] at hc'); try (exfalso; omega)))
      | (
       apply AWP.drawA
       repeat' (first
         | (apply DL.cons; (try (apply OpLoc.on; exact rfl; exact rfl; exact rfl; exact rfl; (first | exact rfl | assumption))); apply ol_ev (τ := τ); exact rfl; (first | exact hlz | exact trim_ev _ | exact shiftRight_ev _ _ (by omega) (by simp; omega)); exact rfl; exact rfl) | (apply DL.cons; exact olA; exact rfl) | (apply DL.nil; kernel_rfl) | (refine DL.split rfl rfl rfl rfl (fun hb => ?_) (fun hb => ?_) <;> have hb' := hb <;> (try simp only [sc, reduceCtorEq, cmpOf] at hb') <;> try (exfalso; omega)))
       all_goals (fail_if_success apply DL.id))
      | (refine RunL.split rfl rfl rfl rfl (fun hb => ?_) (fun hb => ?_) <;> have hb' := hb <;> (try simp only [sc, reduceCtorEq, cmpOf] at hb') <;> try (exfalso; omega)) )
    refine ⟨_, _, _, St.Le.of (by repeat' (first | exact all_nil | refine all_cons rfl ?_)) (by repeat' (first | exact all_nil | refine all_cons rfl ?_)), ?_, by omega⟩
    exact fin _ _ (by omega) (by omega) ⟨by omega, by omega⟩

theorem limbs_nil {n : Int} (h0 : 0 ≤ n) : (limbs n).length = 0 ↔ n = 0 := by
  constructor
  · intro h
    have := List.eq_nil_of_length_eq_zero h
    rw [← val_limbs h0, this]; rfl
  · intro h; subst h; rw [limbs_zero]; rfl
theorem limbs_top {n : Int} (h : 0 < (limbs n).length) : 1 ≤ ix (limbs n) ((limbs n).length - 1) := by
  have h0 : 0 < n := by
    rcases Int.lt_or_le 0 n with h1 | h1
    · exact h1
    · rw [limbs_le h1] at h; simp at h
  have h1 := (Lim.limbs n).ix ((limbs n).length - 1)
  have h2 := trim_eq (Lim.limbs n)
  rw [val_limbs (by omega)] at h2
  have h3 := trim_step h
  rcases Int.lt_or_le 0 (ix (limbs n) ((limbs n).length - 1)) with h4 | h4
  · omega
  · exfalso
    rw [if_pos (by omega), h2] at h3
    have h5 := trim_length_le ((limbs n).take ((limbs n).length - 1))
    rw [← h3] at h5
    simp at h5
    omega
theorem limbs_one {n : Int} (h0 : 0 ≤ n) (h : (limbs n).length = 1) : ix (limbs n) 0 = n := by
  obtain ⟨x, hx⟩ := List.length_eq_one_iff.1 h
  have := val_limbs h0
  rw [hx] at this ⊢
  simp [val] at this
  simp [ix, this]

set_option maxRecDepth 100000 in
theorem divMod_ev (a b : List Int) (h1 : a.length ≤ 70368744177663) : Evals Tryd.prog 30 [.ints .u32 a, .ints .u32 b] (.tup [.ints .u32 (limbs (val a / val b)), .ints .u32 (if val b = 0 then [] else limbs (val a % val b)), .bool (decide (val b ≠ 0))]) := by
  refine evals_of_awp Tryd.func30 rfl (CallOK.of Tryd.func30 (by kernel_rfl) rfl) (Nat.le_of_ble_eq_true rfl) ?_
  rintro w R hR ⟨vs, hv⟩
  obtain ⟨hla, ha⟩ := hv.nat 0 rfl
  obtain ⟨hlb, hb⟩ := hv.nat 1 rfl
  have g1 := limbs_val_length a ha
  have g2 := limbs_val_length b hb
  have va := val_nonneg ha
  have vb := val_nonneg hb
  have g3 := Lim.limbs (val a)
  have g4 := Lim.limbs (val b)
  have f0 := limbs_nil vb
  have f1 := fun h => limbs_one vb h
  have f2 := fun h => limbs_top (n := val b) h
  have f3 : ¬ cmpI (val (limbs (val a))) (val (limbs (val b))) < 0 → (limbs (val b)).length ≤ (limbs (val a)).length := fun h => by
    rw [val_limbs va, val_limbs vb, cmpI_lt] at h
    exact limbs_mono (by omega)
  repeat' (first
    | (apply RunL.step; exact rfl; apply op_ev (τ := τ); exact rfl; (first | exact trim_ev _ | exact cmp_ev _ _ | exact norm_ev _ (by omega) | exact divLimb_ev _ _ (by omega) (by omega) | exact of_ev _ | exact divLong_ev _ _ (by omega) (by omega) (by omega) (by omega)); exact rfl) | (apply RunL.step; exact rfl; exact opA) | (apply RunL.hand; exact rfl; exact rfl; exact lenA; exact rfl) | (apply AWP.seq) | (apply AWP.region; exact rfl) | (apply AWP.block) | (apply AWP.skip) | (apply AWP.exit) | (apply AWP.retF; exact rfl; exact rfl; exact rfl; exact rfl; exact lenA; exact rfl) | (apply AWP.ret) | (apply RunL.nil) | (apply RunL.on; exact rfl; exact rfl; exact rfl; exact rfl; (first | exact rfl | assumption)) | (apply RunL.noU; exact rfl; exact rfl; exact rfl; exact rfl; exact rfl; exact rfl) | (apply RunL.no; exact rfl; exact rfl; exact rfl; exact rfl; (first | exact rfl | assumption); exact rfl; exact rfl) | (refine AWP.cond _ (Rd.of rfl) (fun hc => ?_) (fun hc => ?_) <;> first | (exfalso; cases hc; done) | (have hc' := hc; (try simp only [sc, reduceCtorEq, cmpOf] at hc'); try (exfalso; omega)))
    | (
     apply AWP.drawA
     repeat' (first
       | (apply DL.cons; (try (apply OpLoc.on; exact rfl; exact rfl; exact rfl; exact rfl; (first | exact rfl | assumption))); apply ol_ev (τ := τ); exact rfl; (first | exact trim_ev _ | exact cmp_ev _ _ | exact norm_ev _ (by omega) | exact divLimb_ev _ _ (by omega) (by omega) | exact of_ev _ | exact divLong_ev _ _ (by omega) (by omega) (by omega) (by omega)); exact rfl; exact rfl) | (apply DL.cons; exact olA; exact rfl) | (apply DL.nil; kernel_rfl) | (refine DL.split rfl rfl rfl rfl (fun hb => ?_) (fun hb => ?_) <;> have hb' := hb <;> (try simp only [sc, reduceCtorEq, cmpOf] at hb') <;> try (exfalso; omega)))
     all_goals (fail_if_success apply DL.id))
    | (refine RunL.split rfl rfl rfl rfl (fun hb => ?_) (fun hb => ?_) <;> have hb' := hb <;> (try simp only [sc, reduceCtorEq, cmpOf] at hb') <;> try (exfalso; omega)) )
  · apply Ends.mk (.cons (.tmp rfl) (.cons (.tmp rfl) (.cons (.tmp rfl) .nil)))
    have e : val b = 0 := by omega
    simp [pack, e, limbs_zero]
  · apply Ends.mk (.cons (.tmp rfl) (.cons (.tmp rfl) (.cons (.tmp rfl) .nil)))
    rw [val_limbs va, val_limbs vb, cmpI_lt] at hc'
    have e : val b ≠ 0 := by omega
    have e1 := Int.ediv_eq_zero_of_lt va hc'
    have e2 := Int.emod_eq_of_lt va hc'
    simp [pack, e, e1, e2, limbs_zero, val_limbs va]
  · apply Ends.mk (.cons (.tmp rfl) (.cons (.tmp rfl) (.cons (.tmp rfl) .nil)))
    have e : val b ≠ 0 := by omega
    have e1 := f1 (by omega)
    rw [e1]
    have e2 := g4.ix 0
    have e3 := Int.emod_nonneg (val a) e
    have e4 := Int.emod_lt_of_pos (val a) (show 0 < val b by omega)
    simp [pack, e, val_limbs va]
    congr 1
    omega
  · apply Ends.mk (.cons (.tmp rfl) (.cons (.tmp rfl) (.cons (.tmp rfl) .nil)))
    have e : val b ≠ 0 := by omega
    simp [pack, e, val_limbs va, val_limbs vb]
end Go.Proofs.YtffcpgebgoineaaDoor.K
