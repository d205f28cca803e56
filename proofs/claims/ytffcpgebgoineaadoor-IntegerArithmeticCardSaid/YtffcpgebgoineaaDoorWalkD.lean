/- Walks: math/bits.Len32, LeadingZeros32; nat.estimate, subtract, addBack. -/
import Derived.Test.YtffcpgebgoineaaDoorWalkC
namespace Go.Proofs.YtffcpgebgoineaaDoor.K
open Go
set_option linter.unusedVariables false
set_option linter.unusedSimpArgs false

def lenTab : List UInt8 := (List.range 256).map fun n => UInt8.ofNat (if n = 0 then 0 else Nat.log2 n + 1)
theorem lenTab_at {l : List UInt8} (h : l = lenTab) {x : Int} (h0 : 0 ≤ x) (h1 : x < 256) : l[x.toNat]? = some (UInt8.ofNat (bitlen x).toNat) := by
  subst h
  obtain ⟨n, rfl⟩ := Int.eq_ofNat_of_zero_le h0
  have hn : n < 256 := by omega
  rw [bitlen_nat]
  simp only [lenTab, List.getElem?_map, Int.toNat_natCast]
  rw [List.getElem?_range hn]
  simp only [Option.map_some]
  congr 2
  split <;> omega
theorem len_byte {x : Int} (h0 : 0 ≤ x) (h1 : x < 256) : ((UInt8.ofNat (bitlen x).toNat).toNat : Int) = bitlen x ∧ 0 ≤ bitlen x ∧ bitlen x ≤ 8 := by
  have h2 := bitlen_nonneg x
  have h3 := bitlen_le (x := x) (k := 8) (by omega)
  refine ⟨?_, h2, h3⟩
  simp [UInt8.toNat_ofNat']
  omega
set_option maxRecDepth 100000 in
theorem len32_ev (x : Int) : Evals Tryd.prog 61 [.int .u32 x] (.int .i64 (bitlen x)) := by
  refine evals_of_awp Tryd.func61 rfl (CallOK.of Tryd.func61 (by kernel_rfl) rfl) (Nat.le_of_ble_eq_true rfl) ?_
  rintro w R hR ⟨vs, hv⟩
  have hx := hv.int 0 rfl
  simp [InR, IntKind.min, IntKind.max, IntKind.bits, IntKind.signed] at hx
  have g0 : x < 256 → _ := fun h => len_byte (x := x) (by omega) h
  have g1 : x < 65536 → _ := fun h => len_byte (x := x / 256) (by omega) (by omega)
  have g2 : x / 65536 < 256 → _ := fun h => len_byte (x := x / 65536) (by omega) (by omega)
  have g3 := len_byte (x := x / 65536 / 256) (by omega) (by omega)
  repeat' (first
    | (apply RunL.step; exact rfl; first | (apply op_index (τ := τ); exact rfl; exact rfl; exact Rd.str (Nat.le_of_ble_eq_true (by kernel_rfl)); exact Rd.of rfl; omega; exact lenTab_at (by kernel_rfl) (by omega) (by omega); exact rfl) | fail) | (apply RunL.step; exact rfl; exact opA) | (apply RunL.hand; exact rfl; exact rfl; exact lenA; exact rfl) | (apply AWP.seq) | (apply AWP.region; exact rfl) | (apply AWP.block) | (apply AWP.skip) | (apply AWP.exit) | (apply AWP.retF; exact rfl; exact rfl; exact rfl; exact rfl; exact lenA; exact rfl) | (apply AWP.ret) | (apply RunL.nil) | (apply RunL.on; exact rfl; exact rfl; exact rfl; exact rfl; (first | exact rfl | assumption)) | (apply RunL.noU; exact rfl; exact rfl; exact rfl; exact rfl; exact rfl; exact rfl) | (apply RunL.no; exact rfl; exact rfl; exact rfl; exact rfl; (first | exact rfl | assumption); exact rfl; exact rfl) | (refine AWP.cond _ (Rd.of rfl) (fun hc => ?_) (fun hc => ?_) <;> first | (exfalso; cases hc; done) | (have hc' := hc; (try simp only [sc, reduceCtorEq, cmpOf] at hc'); try (exfalso; omega)))
    | (
     apply AWP.drawA
     repeat' (first
       | (apply DL.cons; (try (apply OpLoc.on; exact rfl; exact rfl; exact rfl; exact rfl; (first | exact rfl | assumption))); apply ol_ev (τ := τ); exact rfl; (fail); exact rfl; exact rfl) | (apply DL.cons; exact olA; exact rfl) | (apply DL.nil; kernel_rfl) | (refine DL.split rfl rfl rfl rfl (fun hb => ?_) (fun hb => ?_) <;> have hb' := hb <;> (try simp only [sc, reduceCtorEq, cmpOf] at hb') <;> try (exfalso; omega)))
     all_goals (fail_if_success apply DL.id))
    | (refine RunL.split rfl rfl rfl rfl (fun hb => ?_) (fun hb => ?_) <;> have hb' := hb <;> (try simp only [sc, reduceCtorEq, cmpOf] at hb') <;> try (exfalso; omega)) )
  · apply Ends.mk (.cons (.tmp rfl) .nil)
    rw [bitlen_shift (x := x) (k := 16) (by omega), bitlen_shift (x := x / 2 ^ 16) (k := 8) (by omega)]
    simp only [pack]; congr 1; show _ = bitlen (x / 65536 / 256) + _ + _; omega
  · apply Ends.mk (.cons (.tmp rfl) .nil)
    rw [bitlen_shift (x := x) (k := 16) (by omega)]
    simp only [pack]; congr 1; show _ = bitlen (x / 65536) + _; omega
  · apply Ends.mk (.cons (.tmp rfl) .nil)
    rw [bitlen_shift (x := x) (k := 8) (by omega)]
    simp only [pack]; congr 1; show _ = bitlen (x / 256) + _; omega
  · apply Ends.mk (.cons (.tmp rfl) .nil)
    simp only [pack]; congr 1; omega
theorem lz32_ev (x : Int) : Evals Tryd.prog 53 [.int .u32 x] (.int .i64 (32 - bitlen x)) := by
  refine evals_of_awp Tryd.func53 rfl (CallOK.of Tryd.func53 (by kernel_rfl) rfl) (Nat.le_of_ble_eq_true rfl) ?_
  rintro w R hR ⟨vs, hv⟩
  have hx := hv.int 0 rfl
  simp [InR, IntKind.min, IntKind.max, IntKind.bits, IntKind.signed] at hx
  have h1 := bitlen_nonneg x
  have h2 := bitlen_le (x := x) (k := 32) (by omega)
  repeat' (first
    | (apply RunL.step; exact rfl; apply op_ev (τ := τ); exact rfl; (exact len32_ev _); exact rfl) | (apply RunL.step; exact rfl; exact opA) | (apply RunL.hand; exact rfl; exact rfl; exact lenA; exact rfl) | (apply AWP.seq) | (apply AWP.region; exact rfl) | (apply AWP.block) | (apply AWP.skip) | (apply AWP.exit) | (apply AWP.retF; exact rfl; exact rfl; exact rfl; exact rfl; exact lenA; exact rfl) | (apply AWP.ret) | (apply RunL.nil) | (apply RunL.on; exact rfl; exact rfl; exact rfl; exact rfl; (first | exact rfl | assumption)) | (apply RunL.noU; exact rfl; exact rfl; exact rfl; exact rfl; exact rfl; exact rfl) | (apply RunL.no; exact rfl; exact rfl; exact rfl; exact rfl; (first | exact rfl | assumption); exact rfl; exact rfl) | (refine AWP.cond _ (Rd.of rfl) (fun hc => ?_) (fun hc => ?_) <;> first | (exfalso; cases hc; done) | (have hc' := hc; (try simp only [sc, reduceCtorEq, cmpOf] at hc'); try (exfalso; omega)))
    | (
     apply AWP.drawA
     repeat' (first
       | (apply DL.cons; (try (apply OpLoc.on; exact rfl; exact rfl; exact rfl; exact rfl; (first | exact rfl | assumption))); apply ol_ev (τ := τ); exact rfl; (exact len32_ev _); exact rfl; exact rfl) | (apply DL.cons; exact olA; exact rfl) | (apply DL.nil; kernel_rfl) | (refine DL.split rfl rfl rfl rfl (fun hb => ?_) (fun hb => ?_) <;> have hb' := hb <;> (try simp only [sc, reduceCtorEq, cmpOf] at hb') <;> try (exfalso; omega)))
     all_goals (fail_if_success apply DL.id))
    | (refine RunL.split rfl rfl rfl rfl (fun hb => ?_) (fun hb => ?_) <;> have hb' := hb <;> (try simp only [sc, reduceCtorEq, cmpOf] at hb') <;> try (exfalso; omega)) )
  apply Ends.mk (.cons (.tmp rfl) .nil)
  rfl

set_option maxRecDepth 100000 in
theorem estimate_ev (U V : List Int) (hV : 2 ≤ V.length) (hU : U.length = V.length + 1) (hv : 2147483648 ≤ ix V (V.length - 1)) (htop : ix U V.length * 4294967296 + ix U (V.length - 1) ≤ ix V (V.length - 1) * 4294967296 + 4294967295) :
    Evals Tryd.prog 55 [.ints .u32 U, .ints .u32 V] (.int .u64 (estI (ix U V.length * 4294967296 + ix U (V.length - 1)) (ix V (V.length - 1)) (ix V (V.length - 2)) (ix U (V.length - 2)))) := by
  have hv1 := hv
  clear hv
  refine evals_of_awp Tryd.func55 rfl (CallOK.of Tryd.func55 (by kernel_rfl) rfl) (Nat.le_of_ble_eq_true rfl) ?_
  rintro w R hR ⟨vs, hv⟩
  obtain ⟨hlu, hlu'⟩ := hv.nat 0 rfl
  obtain ⟨hlv, hlv'⟩ := hv.nat 1 rfl
  have q1 := hlu'.ix V.length
  have q2 := hlu'.ix (V.length - 1)
  have q3 := hlu'.ix (V.length - 2)
  have q4 := hlv'.ix (V.length - 1)
  have q5 := hlv'.ix (V.length - 2)
  have hb := est_init (u := ix U V.length * 4294967296 + ix U (V.length - 1)) (v1 := ix V (V.length - 1)) (v2 := ix V (V.length - 2)) (u0 := ix U (V.length - 2)) ⟨hv1, q4.2⟩ q5 q3 (by omega) htop
  repeat' (first
    | (apply RunL.step; exact rfl; exact opA) | (apply RunL.hand; exact rfl; exact rfl; exact lenA; exact rfl) | (apply AWP.seq) | (apply AWP.region; exact rfl) | (apply AWP.block) | (apply AWP.skip) | (apply AWP.exit) | (apply AWP.retF; exact rfl; exact rfl; exact rfl; exact rfl; exact lenA; exact rfl) | (apply AWP.ret) | (apply RunL.nil) | (apply RunL.on; exact rfl; exact rfl; exact rfl; exact rfl; (first | exact rfl | assumption)) | (apply RunL.noU; exact rfl; exact rfl; exact rfl; exact rfl; exact rfl; exact rfl) | (apply RunL.no; exact rfl; exact rfl; exact rfl; exact rfl; (first | exact rfl | assumption); exact rfl; exact rfl) | (refine AWP.cond _ (Rd.of rfl) (fun hc => ?_) (fun hc => ?_) <;> first | (exfalso; cases hc; done) | (have hc' := hc; (try simp only [sc, reduceCtorEq, cmpOf] at hc'); try (exfalso; omega)))
    | (
     apply AWP.drawA
     repeat' (first
       | (apply DL.cons; (try (apply OpLoc.on; exact rfl; exact rfl; exact rfl; exact rfl; (first | exact rfl | assumption))); apply ol_ev (τ := τ); exact rfl; (fail); exact rfl; exact rfl) | (apply DL.cons; exact olA; exact rfl) | (apply DL.nil; kernel_rfl) | (refine DL.split rfl rfl rfl rfl (fun hb => ?_) (fun hb => ?_) <;> have hb' := hb <;> (try simp only [sc, reduceCtorEq, cmpOf] at hb') <;> try (exfalso; omega)))
     all_goals (fail_if_success apply DL.id))
    | (refine RunL.split rfl rfl rfl rfl (fun hb => ?_) (fun hb => ?_) <;> have hb' := hb <;> (try simp only [sc, reduceCtorEq, cmpOf] at hb') <;> try (exfalso; omega)) )
  refine AWP.loop2 (fun q r => ⟨[(0, .val (.ints .u32 U)), (1, .val (.ints .u32 V)), (5, .val (.int .i64 V.length)), (7, .val (.int .u64 q)), (8, .val (.int .u64 r))], []⟩)
    (fun q r => 0 ≤ q ∧ q ≤ 4294967297 ∧ 0 ≤ r ∧ r < 4294967296 ∧ q * ix V (V.length - 1) + r = ix U V.length * 4294967296 + ix U (V.length - 1) ∧ estI (ix U V.length * 4294967296 + ix U (V.length - 1)) (ix V (V.length - 1)) (ix V (V.length - 2)) (ix U (V.length - 2)) ≤ q)
    (fun q _ => q.toNat) _ _ ⟨hb.2.2.1, hb.2.1, hb.2.2.2.1, by omega, hb.2.2.2.2.2, hb.1⟩ (St.Le.of (by repeat' (first | exact all_nil | refine all_cons rfl ?_)) (by repeat' (first | exact all_nil | refine all_cons rfl ?_))) ?_
  rintro q r ⟨k1, k2, k3, k4, k5, k6⟩
  have qn : 0 ≤ q * ix V (V.length - 2) := Int.mul_nonneg k1 q5.1
  rcases Int.lt_or_le q 4294967296 with hq | hq
  · have hg : cmpOf .neq (q / 4294967296) 0 = false := by simp [cmpOf]; omega
    have mb := mul_bound (x := q) ⟨k1, hq⟩ q5
    have qz : q = 0 → q * ix V (V.length - 2) = 0 := fun h => by rw [h, Int.zero_mul]
    repeat' (first
      | (apply RunL.step; exact rfl; exact opA) | (apply RunL.hand; exact rfl; exact rfl; exact lenA; exact rfl) | (apply AWP.seq) | (apply AWP.region; exact rfl) | (apply AWP.block) | (apply AWP.skip) | (apply AWP.exit) | (apply AWP.retF; exact rfl; exact rfl; exact rfl; exact rfl; exact lenA; exact rfl) | (apply AWP.ret) | (apply RunL.nil) | (apply RunL.on; exact rfl; exact rfl; exact rfl; exact rfl; (first | exact rfl | assumption)) | (apply RunL.noU; exact rfl; exact rfl; exact rfl; exact rfl; exact rfl; exact rfl) | (apply RunL.no; exact rfl; exact rfl; exact rfl; exact rfl; (first | exact rfl | assumption); exact rfl; exact rfl) | (refine AWP.cond _ (Rd.of rfl) (fun hc => ?_) (fun hc => ?_) <;> first | (exfalso; cases hc; done) | (have hc' := hc; (try simp only [sc, reduceCtorEq, cmpOf] at hc'); try (exfalso; omega)))
      | (
       apply AWP.drawA
       repeat' (first
         | (apply DL.cons; (try (apply OpLoc.on; exact rfl; exact rfl; exact rfl; exact rfl; (first | exact rfl | assumption))); apply ol_ev (τ := τ); exact rfl; (fail); exact rfl; exact rfl) | (apply DL.cons; exact olA; exact rfl) | (apply DL.nil; kernel_rfl) | (refine DL.split rfl rfl rfl rfl (fun hb => ?_) (fun hb => ?_) <;> have hb' := hb <;> (try simp only [sc, reduceCtorEq, cmpOf] at hb') <;> try (exfalso; omega)))
       all_goals (fail_if_success apply DL.id))
      | (refine RunL.split rfl rfl rfl rfl (fun hb => ?_) (fun hb => ?_) <;> have hb' := hb <;> (try simp only [sc, reduceCtorEq, cmpOf] at hb') <;> try (exfalso; omega)) )
    · apply Ends.mk (.cons (.tmp rfl) .nil)
      simp only [pack]; congr 1
      exact est_break ⟨hv1, q4.2⟩ q5 q3 (by omega) htop (by omega) k2 k3 k5 (est_down ⟨hv1, q4.2⟩ q5 q3 k5 k6 (.inr (by assumption))) (by omega)
    · refine ⟨_, _, St.Le.of (by repeat' (first | exact all_nil | refine all_cons rfl ?_)) (by repeat' (first | exact all_nil | refine all_cons rfl ?_)), ⟨by omega, by omega, by omega, by omega, ?_, est_down ⟨hv1, q4.2⟩ q5 q3 k5 k6 (.inr (by assumption))⟩, by omega⟩
      rw [← k5]; grind
    · apply Ends.mk (.cons (.tmp rfl) .nil)
      simp only [pack]; congr 1
      exact est_done ⟨hv1, q4.2⟩ q5 q3 k1 k5 k6 hq (by omega)
  · have hg : cmpOf .neq (q / 4294967296) 0 = true := by simp [cmpOf]; omega
    repeat' (first
      | (apply RunL.step; exact rfl; exact opA) | (apply RunL.hand; exact rfl; exact rfl; exact lenA; exact rfl) | (apply AWP.seq) | (apply AWP.region; exact rfl) | (apply AWP.block) | (apply AWP.skip) | (apply AWP.exit) | (apply AWP.retF; exact rfl; exact rfl; exact rfl; exact rfl; exact lenA; exact rfl) | (apply AWP.ret) | (apply RunL.nil) | (apply RunL.on; exact rfl; exact rfl; exact rfl; exact rfl; (first | exact rfl | assumption)) | (apply RunL.noU; exact rfl; exact rfl; exact rfl; exact rfl; exact rfl; exact rfl) | (apply RunL.no; exact rfl; exact rfl; exact rfl; exact rfl; (first | exact rfl | assumption); exact rfl; exact rfl) | (refine AWP.cond _ (Rd.of rfl) (fun hc => ?_) (fun hc => ?_) <;> first | (exfalso; cases hc; done) | (have hc' := hc; (try simp only [sc, reduceCtorEq, cmpOf] at hc'); try (exfalso; omega)))
      | (
       apply AWP.drawA
       repeat' (first
         | (apply DL.cons; (try (apply OpLoc.on; exact rfl; exact rfl; exact rfl; exact rfl; (first | exact rfl | assumption))); apply ol_ev (τ := τ); exact rfl; (fail); exact rfl; exact rfl) | (apply DL.cons; exact olA; exact rfl) | (apply DL.nil; kernel_rfl) | (refine DL.split rfl rfl rfl rfl (fun hb => ?_) (fun hb => ?_) <;> have hb' := hb <;> (try simp only [sc, reduceCtorEq, cmpOf] at hb') <;> try (exfalso; omega)))
       all_goals (fail_if_success apply DL.id))
      | (refine RunL.split rfl rfl rfl rfl (fun hb => ?_) (fun hb => ?_) <;> have hb' := hb <;> (try simp only [sc, reduceCtorEq, cmpOf] at hb') <;> try (exfalso; omega)) )
    · apply Ends.mk (.cons (.tmp rfl) .nil)
      simp only [pack]; congr 1
      exact est_break ⟨hv1, q4.2⟩ q5 q3 (by omega) htop (by omega) k2 k3 k5 (est_down ⟨hv1, q4.2⟩ q5 q3 k5 k6 (.inl hq)) (by omega)
    · refine ⟨_, _, St.Le.of (by repeat' (first | exact all_nil | refine all_cons rfl ?_)) (by repeat' (first | exact all_nil | refine all_cons rfl ?_)), ⟨by omega, by omega, by omega, by omega, ?_, est_down ⟨hv1, q4.2⟩ q5 q3 k5 k6 (.inl hq)⟩, by omega⟩
      rw [← k5]; grind

/- a part of a row -/
theorem ix_seg {pre x post : List Int} {i : Int} (h0 : 0 ≤ i) (hi : i < (x.length : Int)) : ix (pre ++ x ++ post) ((pre.length + i.toNat : Nat) : Int) = ix x i := by
  simp only [ix, Int.toNat_natCast, List.getD_eq_getElem?_getD]
  rw [List.getElem?_append_left (by simp; omega), List.getElem?_append_right (by omega)]
  congr 2; omega
theorem set_seg {pre x post : List Int} {i : Nat} {v : Int} (hi : i < x.length) : (pre ++ x ++ post).set (pre.length + i) v = pre ++ x.set i v ++ post := by
  rw [List.set_append_left _ _ (by simp; omega), List.set_append_right _ _ (by omega)]
  congr 3; omega
theorem subm_step {m x C : List Int} {i c b q p t : Int} (h0 : 0 ≤ i) (hi : i < (x.length : Int)) (hb : 0 ≤ b ∧ b ≤ 1) (hx : 0 ≤ ix x i ∧ ix x i < 4294967296) (hxm : ix x i = ix m i)
    (heq : val (x.take i.toNat) + q * val (C.take i.toNat) = val (m.take i.toNat) + 4294967296 ^ i.toNat * (c + b)) (hp : p = q * ix C i + c) (ht : t = (ix x i - p % 4294967296 - b) % 18446744073709551616) :
    val ((x.set i.toNat (t % 4294967296)).take (i + 1).toNat) + q * val (C.take (i + 1).toNat) = val (m.take (i + 1).toNat) + 4294967296 ^ (i + 1).toNat * (p / 4294967296 + t / 9223372036854775808) := by
  have e : (i + 1).toNat = i.toNat + 1 := by omega
  have ei : ((i.toNat : Nat) : Int) = i := by omega
  rw [e, val_take_set (by omega), val_take_succ, val_take_succ, Int.pow_succ, ei]
  have h2 : t % 4294967296 + q * ix C i + c = ix m i - b + 4294967296 * (p / 4294967296 + t / 9223372036854775808) := by omega
  generalize (4294967296 : Int) ^ i.toNat = z at *
  generalize t % 4294967296 = u at *
  generalize p / 4294967296 + t / 9223372036854775808 = v at *
  grind
theorem drop_set_lt {l : List Int} {n k : Nat} {v : Int} (h : n < k) : (l.set n v).drop k = l.drop k := List.drop_set_of_lt h
theorem ix_of_drop {x m : List Int} {i j : Nat} (h : x.drop i = m.drop i) (hij : i ≤ j) : ix x j = ix m j := by
  simp only [ix, Int.toNat_natCast, List.getD_eq_getElem?_getD]
  have h1 : (x.drop i)[j - i]? = (m.drop i)[j - i]? := by rw [h]
  rw [List.getElem?_drop, List.getElem?_drop] at h1
  rw [show i + (j - i) = j by omega] at h1
  rw [h1]

theorem subm_done {y m C : List Int} {q g : Int} {n : Nat} (hy : Lim y) (hyn : y.length = n + 1) (hm : Lim m) (hg : 0 ≤ g ∧ g ≤ 1) (heq : val y + q * val C = val m + 4294967296 ^ (n + 1) * g) :
    y = dig (n + 1) (val m - q * val C + if val m < q * val C then 4294967296 ^ (n + 1) else 0) ∧ (g ≠ 0 ↔ val m < q * val C) := by
  have h1 := val_lt hy
  have h2 := val_nonneg hy
  have h3 := val_nonneg hm
  rw [hyn] at h1
  have key : g ≠ 0 ↔ val m < q * val C := by
    rcases (by omega : g = 0 ∨ g = 1) with h | h
    · subst h; simp; omega
    · subst h; simp; omega
  refine ⟨dig_eq hy hyn ?_, key⟩
  rcases (by omega : g = 0 ∨ g = 1) with h | h
  · subst h; rw [if_neg (by simpa using key)]; omega
  · subst h; rw [if_pos (by simpa using key)]; omega
set_option maxRecDepth 100000 in
theorem subtract_ev (pre m post C : List Int) (q : Int) (len cap : Nat) (hl : len = C.length + 1) (hm : m.length = C.length + 1) (hq : 0 ≤ q ∧ q < 4294967296) (hmL : Lim m) :
    EvalsW Tryd.prog 56 34 .u32 (pre ++ m ++ post) pre.length len cap [.ints .u32 C, .int .u64 q] (.bool (decide (val m < q * val C))) (pre ++ dig (C.length + 1) (val m - q * val C + if val m < q * val C then 4294967296 ^ (C.length + 1) else 0) ++ post) := by
  subst hl
  refine evalsW_of_awp Tryd.func56 rfl (CallOK.of Tryd.func56 (by kernel_rfl) rfl) (Nat.le_of_ble_eq_true rfl) ?_
  rintro w R ex ⟨vs, hv⟩
  obtain ⟨hlc, hC⟩ := hv.nat 0 rfl
  repeat' (first
    | (apply RunL.step; exact rfl; exact opA) | (apply RunL.hand; exact rfl; exact rfl; exact lenA; exact rfl) | (apply AWP.seq) | (apply AWP.region; exact rfl) | (apply AWP.block) | (apply AWP.skip) | (apply AWP.exit) | (apply AWP.ret) | (apply RunL.nil) | (apply RunL.on; exact rfl; exact rfl; exact rfl; exact rfl; (first | exact rfl | assumption)) | (apply RunL.noU; exact rfl; exact rfl; exact rfl; exact rfl; exact rfl; exact rfl) | (apply RunL.no; exact rfl; exact rfl; exact rfl; exact rfl; (first | exact rfl | assumption); exact rfl; exact rfl) | (refine AWP.cond _ (Rd.of rfl) (fun hc => ?_) (fun hc => ?_) <;> first | (exfalso; cases hc; done) | (have hc' := hc; (try simp only [sc, reduceCtorEq, cmpOf] at hc'); try (exfalso; omega)))
    | (
     apply AWP.drawA
     repeat' (first
       | (apply DL.cons; (try (apply OpLoc.on; exact rfl; exact rfl; exact rfl; exact rfl; (first | exact rfl | assumption))); apply ol_ev (τ := τ); exact rfl; (fail); exact rfl; exact rfl) | (apply DL.cons; exact olA; exact rfl) | (apply DL.nil; kernel_rfl) | (refine DL.split rfl rfl rfl rfl (fun hb => ?_) (fun hb => ?_) <;> have hb' := hb <;> (try simp only [sc, reduceCtorEq, cmpOf] at hb') <;> try (exfalso; omega)))
     all_goals (fail_if_success apply DL.id))
    | (refine RunL.split rfl rfl rfl rfl (fun hb => ?_) (fun hb => ?_) <;> have hb' := hb <;> (try simp only [sc, reduceCtorEq, cmpOf] at hb') <;> try (exfalso; omega)) )
  refine AWP.loop4 (fun i l c b => ⟨[(0, .sb 0 pre.length (C.length + 1) cap), (1, .val (.ints .u32 C)), (2, .val (.int .u64 q)), (7, .val (.int .u64 c)), (8, .val (.int .u64 b)), (14, .val (.ints .u32 C)), (15, .val (.int .i64 C.length)), (16, .val (.int .i64 i))], [(0, .row 34 .u32 l)]⟩)
    (fun i l c b => ∃ x, l = pre ++ x ++ post ∧ 0 ≤ i ∧ i ≤ C.length ∧ 0 ≤ c ∧ c < 4294967296 ∧ 0 ≤ b ∧ b ≤ 1 ∧ x.length = C.length + 1 ∧ Lim x ∧ x.drop i.toNat = m.drop i.toNat ∧ val (x.take i.toNat) + q * val (C.take i.toNat) = val (m.take i.toNat) + 4294967296 ^ i.toNat * (c + b))
    (fun i _ _ _ => C.length - i.toNat) 0 (pre ++ m ++ post) 0 0 ⟨m, rfl, by simp, by simp, by simp, by simp, by simp, by simp, hm, hmL, rfl, by simp [val]⟩ (St.Le.of (by repeat' (first | exact all_nil | refine all_cons rfl ?_)) (by repeat' (first | exact all_nil | refine all_cons rfl ?_))) ?_
  rintro i l c b ⟨x, k0, k1, k2, k3, k4, k5, k6, k7, k8, k9, k10⟩
  subst k0
  have q1 := hC.ix i
  have q2 := k8.ix i
  have q3 := mul_bound hq q1
  have q4 := ix_seg (pre := pre) (post := post) k1 (show i < (x.length : Int) by omega)
  have q5 : (pre ++ x ++ post).length = pre.length + (C.length + 1) + post.length := by simp; omega
  have q6 : ix x i = ix m i := by
    have := ix_of_drop (j := i.toNat) k9 (Nat.le_refl _)
    rwa [show ((i.toNat : Nat) : Int) = i by omega] at this
  repeat' (first
    | (apply RunL.step; exact rfl; exact opA) | (apply RunL.hand; exact rfl; exact rfl; exact lenA; exact rfl) | (apply AWP.seq) | (apply AWP.region; exact rfl) | (apply AWP.block) | (apply AWP.skip) | (apply AWP.exit) | (apply AWP.ret) | (apply RunL.nil) | (apply RunL.on; exact rfl; exact rfl; exact rfl; exact rfl; (first | exact rfl | assumption)) | (apply RunL.noU; exact rfl; exact rfl; exact rfl; exact rfl; exact rfl; exact rfl) | (apply RunL.no; exact rfl; exact rfl; exact rfl; exact rfl; (first | exact rfl | assumption); exact rfl; exact rfl) | (refine AWP.cond _ (Rd.of rfl) (fun hc => ?_) (fun hc => ?_) <;> first | (exfalso; cases hc; done) | (have hc' := hc; (try simp only [sc, reduceCtorEq, cmpOf] at hc'); try (exfalso; omega)))
    | (
     apply AWP.drawA
     repeat' (first
       | (apply DL.cons; (try (apply OpLoc.on; exact rfl; exact rfl; exact rfl; exact rfl; (first | exact rfl | assumption))); apply ol_ev (τ := τ); exact rfl; (fail); exact rfl; exact rfl) | (apply DL.cons; exact olA; exact rfl) | (apply DL.nil; kernel_rfl) | (refine DL.split rfl rfl rfl rfl (fun hb => ?_) (fun hb => ?_) <;> have hb' := hb <;> (try simp only [sc, reduceCtorEq, cmpOf] at hb') <;> try (exfalso; omega)))
     all_goals (fail_if_success apply DL.id))
    | (refine RunL.split rfl rfl rfl rfl (fun hb => ?_) (fun hb => ?_) <;> have hb' := hb <;> (try simp only [sc, reduceCtorEq, cmpOf] at hb') <;> try (exfalso; omega)) )
  · refine ⟨_, _, _, _, St.Le.of (by repeat' (first | exact all_nil | refine all_cons rfl ?_)) (by repeat' (first | exact all_nil | refine all_cons rfl ?_)), ⟨_, set_seg (by omega), by omega, by omega, by omega, by omega, by omega, by omega, by simp [k7], k8.set (by omega), ?_, ?_⟩, by omega⟩
    · rw [drop_set_lt (by omega), show (i + 1).toNat = i.toNat + 1 by omega, ← List.drop_drop, k9, List.drop_drop]
    · exact subm_step k1 (by omega) ⟨k5, k6⟩ q2 q6 k10 rfl (by omega)
  · have e : i = (C.length : Int) := by omega
    subst e
    have z1 : ix C C.length = 0 := ix_beyond (Int.le_refl _)
    have z2 : val (x.set C.length ((ix x C.length - c - b) % 18446744073709551616 % 4294967296)) + q * val C = val m + 4294967296 ^ (C.length + 1) * ((ix x C.length - c - b) % 18446744073709551616 / 9223372036854775808) := by
      have := subm_step (t := (ix x C.length - c - b) % 18446744073709551616) k1 (by omega) ⟨k5, k6⟩ q2 q6 k10 rfl (by rw [z1, Int.mul_zero]; omega)
      rw [z1, Int.mul_zero, Int.zero_add, show (((C.length : Nat) : Int) + 1).toNat = C.length + 1 by omega, Int.toNat_natCast, List.take_of_length_le (by simp; omega), List.take_of_length_le (l := C) (by omega), List.take_of_length_le (by omega), show c / 4294967296 = 0 by omega, Int.zero_add] at this
      exact this
    have z3 := subm_done (k8.set (by omega)) (by simp [k7]) hmL (by omega) z2
    repeat' (first
      | (apply RunL.step; exact rfl; exact opA) | (apply RunL.hand; exact rfl; exact rfl; exact lenA; exact rfl) | (apply AWP.seq) | (apply AWP.region; exact rfl) | (apply AWP.block) | (apply AWP.skip) | (apply AWP.exit) | (apply AWP.ret) | (apply RunL.nil) | (apply RunL.on; exact rfl; exact rfl; exact rfl; exact rfl; (first | exact rfl | assumption)) | (apply RunL.noU; exact rfl; exact rfl; exact rfl; exact rfl; exact rfl; exact rfl) | (apply RunL.no; exact rfl; exact rfl; exact rfl; exact rfl; (first | exact rfl | assumption); exact rfl; exact rfl) | (refine AWP.cond _ (Rd.of rfl) (fun hc => ?_) (fun hc => ?_) <;> first | (exfalso; cases hc; done) | (have hc' := hc; (try simp only [sc, reduceCtorEq, cmpOf] at hc'); try (exfalso; omega)))
      | (
       apply AWP.drawA
       repeat' (first
         | (apply DL.cons; (try (apply OpLoc.on; exact rfl; exact rfl; exact rfl; exact rfl; (first | exact rfl | assumption))); apply ol_ev (τ := τ); exact rfl; (fail); exact rfl; exact rfl) | (apply DL.cons; exact olA; exact rfl) | (apply DL.nil; kernel_rfl) | (refine DL.split rfl rfl rfl rfl (fun hb => ?_) (fun hb => ?_) <;> have hb' := hb <;> (try simp only [sc, reduceCtorEq, cmpOf] at hb') <;> try (exfalso; omega)))
       all_goals (fail_if_success apply DL.id))
      | (refine RunL.split rfl rfl rfl rfl (fun hb => ?_) (fun hb => ?_) <;> have hb' := hb <;> (try simp only [sc, reduceCtorEq, cmpOf] at hb') <;> try (exfalso; omega)) )
    refine ⟨?_, ?_⟩
    · apply Ends.mk (.cons (.tmp rfl) .nil)
      simp only [pack]; congr 1
      rw [Bool.eq_iff_iff, decide_eq_true_eq, ← z3.2]
      simp only [cmpOf, bne_iff_ne]
      omega
    · refine congrArg some (congrArg (Bx.row _ _) ?_)
      refine (set_seg (by omega)).trans ?_
      rw [← z3.1]
      congr 3
      omega

theorem dig_add_mul : ∀ (n : Nat) (v w : Int), dig n (v + 4294967296 ^ n * w) = dig n v
  | 0, v, w => rfl
  | n + 1, v, w => by
    have e : (4294967296 : Int) ^ (n + 1) * w = 4294967296 * (4294967296 ^ n * w) := by rw [Int.pow_succ]; grind
    simp only [dig]
    rw [e, show (v + 4294967296 * (4294967296 ^ n * w)) / 4294967296 = v / 4294967296 + 4294967296 ^ n * w by omega, dig_add_mul n, show (v + 4294967296 * (4294967296 ^ n * w)) % 4294967296 = v % 4294967296 by omega]

set_option maxRecDepth 100000 in
theorem addBack_ev (pre m post C : List Int) (len cap : Nat) (hl : len = C.length + 1) (hm : m.length = C.length + 1) (hmL : Lim m) :
    EvalsW Tryd.prog 57 34 .u32 (pre ++ m ++ post) pre.length len cap [.ints .u32 C] (.tup []) (pre ++ dig (C.length + 1) (val m + val C) ++ post) := by
  subst hl
  refine evalsW_of_awp Tryd.func57 rfl (CallOK.of Tryd.func57 (by kernel_rfl) rfl) (Nat.le_of_ble_eq_true rfl) ?_
  rintro w R ex ⟨vs, hv⟩
  obtain ⟨hlc, hC⟩ := hv.nat 0 rfl
  repeat' (first
    | (apply RunL.step; exact rfl; exact opA) | (apply RunL.hand; exact rfl; exact rfl; exact lenA; exact rfl) | (apply AWP.seq) | (apply AWP.region; exact rfl) | (apply AWP.block) | (apply AWP.skip) | (apply AWP.exit) | (apply AWP.ret) | (apply RunL.nil) | (apply RunL.on; exact rfl; exact rfl; exact rfl; exact rfl; (first | exact rfl | assumption)) | (apply RunL.noU; exact rfl; exact rfl; exact rfl; exact rfl; exact rfl; exact rfl) | (apply RunL.no; exact rfl; exact rfl; exact rfl; exact rfl; (first | exact rfl | assumption); exact rfl; exact rfl) | (refine AWP.cond _ (Rd.of rfl) (fun hc => ?_) (fun hc => ?_) <;> first | (exfalso; cases hc; done) | (have hc' := hc; (try simp only [sc, reduceCtorEq, cmpOf] at hc'); try (exfalso; omega)))
    | (
     apply AWP.drawA
     repeat' (first
       | (apply DL.cons; (try (apply OpLoc.on; exact rfl; exact rfl; exact rfl; exact rfl; (first | exact rfl | assumption))); apply ol_ev (τ := τ); exact rfl; (fail); exact rfl; exact rfl) | (apply DL.cons; exact olA; exact rfl) | (apply DL.nil; kernel_rfl) | (refine DL.split rfl rfl rfl rfl (fun hb => ?_) (fun hb => ?_) <;> have hb' := hb <;> (try simp only [sc, reduceCtorEq, cmpOf] at hb') <;> try (exfalso; omega)))
     all_goals (fail_if_success apply DL.id))
    | (refine RunL.split rfl rfl rfl rfl (fun hb => ?_) (fun hb => ?_) <;> have hb' := hb <;> (try simp only [sc, reduceCtorEq, cmpOf] at hb') <;> try (exfalso; omega)) )
  refine AWP.loop3 (fun i l c => ⟨[(0, .sb 0 pre.length (C.length + 1) cap), (1, .val (.ints .u32 C)), (4, .val (.int .u64 c)), (8, .val (.ints .u32 C)), (9, .val (.int .i64 C.length)), (10, .val (.int .i64 i))], [(0, .row 34 .u32 l)]⟩)
    (fun i l c => ∃ x, l = pre ++ x ++ post ∧ 0 ≤ i ∧ i ≤ C.length ∧ 0 ≤ c ∧ c ≤ 1 ∧ x.length = C.length + 1 ∧ Lim x ∧ x.drop i.toNat = m.drop i.toNat ∧ val (x.take i.toNat) + 4294967296 ^ i.toNat * c = val (m.take i.toNat) + val (C.take i.toNat))
    (fun i _ _ => C.length - i.toNat) 0 (pre ++ m ++ post) 0 ⟨m, rfl, by simp, by simp, by simp, by simp, hm, hmL, rfl, by simp [val]⟩ (St.Le.of (by repeat' (first | exact all_nil | refine all_cons rfl ?_)) (by repeat' (first | exact all_nil | refine all_cons rfl ?_))) ?_
  rintro i l c ⟨x, k0, k1, k2, k3, k4, k7, k8, k9, k10⟩
  subst k0
  have q1 := hC.ix i
  have q2 := k8.ix i
  have q4 := ix_seg (pre := pre) (post := post) k1 (show i < (x.length : Int) by omega)
  have q5 : (pre ++ x ++ post).length = pre.length + (C.length + 1) + post.length := by simp; omega
  have q6 : ix x i = ix m i := by
    have := ix_of_drop (j := i.toNat) k9 (Nat.le_refl _)
    rwa [show ((i.toNat : Nat) : Int) = i by omega] at this
  repeat' (first
    | (apply RunL.step; exact rfl; exact opA) | (apply RunL.hand; exact rfl; exact rfl; exact lenA; exact rfl) | (apply AWP.seq) | (apply AWP.region; exact rfl) | (apply AWP.block) | (apply AWP.skip) | (apply AWP.exit) | (apply AWP.ret) | (apply RunL.nil) | (apply RunL.on; exact rfl; exact rfl; exact rfl; exact rfl; (first | exact rfl | assumption)) | (apply RunL.noU; exact rfl; exact rfl; exact rfl; exact rfl; exact rfl; exact rfl) | (apply RunL.no; exact rfl; exact rfl; exact rfl; exact rfl; (first | exact rfl | assumption); exact rfl; exact rfl) | (refine AWP.cond _ (Rd.of rfl) (fun hc => ?_) (fun hc => ?_) <;> first | (exfalso; cases hc; done) | (have hc' := hc; (try simp only [sc, reduceCtorEq, cmpOf] at hc'); try (exfalso; omega)))
    | (
     apply AWP.drawA
     repeat' (first
       | (apply DL.cons; (try (apply OpLoc.on; exact rfl; exact rfl; exact rfl; exact rfl; (first | exact rfl | assumption))); apply ol_ev (τ := τ); exact rfl; (fail); exact rfl; exact rfl) | (apply DL.cons; exact olA; exact rfl) | (apply DL.nil; kernel_rfl) | (refine DL.split rfl rfl rfl rfl (fun hb => ?_) (fun hb => ?_) <;> have hb' := hb <;> (try simp only [sc, reduceCtorEq, cmpOf] at hb') <;> try (exfalso; omega)))
     all_goals (fail_if_success apply DL.id))
    | (refine RunL.split rfl rfl rfl rfl (fun hb => ?_) (fun hb => ?_) <;> have hb' := hb <;> (try simp only [sc, reduceCtorEq, cmpOf] at hb') <;> try (exfalso; omega)) )
  · refine ⟨_, _, _, St.Le.of (by repeat' (first | exact all_nil | refine all_cons rfl ?_)) (by repeat' (first | exact all_nil | refine all_cons rfl ?_)), ⟨_, set_seg (by omega), by omega, by omega, by omega, by omega, by simp [k7], k8.set (by omega), ?_, ?_⟩, by omega⟩
    · rw [drop_set_lt (by omega), show (i + 1).toNat = i.toNat + 1 by omega, ← List.drop_drop, k9, List.drop_drop]
    · exact add_step k1 (by omega) k10 (by omega)
  · have e : i = (C.length : Int) := by omega
    subst e
    have z1 : ix C C.length = 0 := ix_beyond (Int.le_refl _)
    have z2 := add_step (t := ix x C.length + c) k1 (by omega) k10 (by omega)
    rw [show (((C.length : Nat) : Int) + 1).toNat = C.length + 1 by omega, Int.toNat_natCast, List.take_of_length_le (by simp; omega), List.take_of_length_le (l := C) (by omega), List.take_of_length_le (by omega)] at z2
    repeat' (first
      | (apply RunL.step; exact rfl; exact opA) | (apply RunL.hand; exact rfl; exact rfl; exact lenA; exact rfl) | (apply AWP.seq) | (apply AWP.region; exact rfl) | (apply AWP.block) | (apply AWP.skip) | (apply AWP.exit) | (apply AWP.ret) | (apply RunL.nil) | (apply RunL.on; exact rfl; exact rfl; exact rfl; exact rfl; (first | exact rfl | assumption)) | (apply RunL.noU; exact rfl; exact rfl; exact rfl; exact rfl; exact rfl; exact rfl) | (apply RunL.no; exact rfl; exact rfl; exact rfl; exact rfl; (first | exact rfl | assumption); exact rfl; exact rfl) | (refine AWP.cond _ (Rd.of rfl) (fun hc => ?_) (fun hc => ?_) <;> first | (exfalso; cases hc; done) | (have hc' := hc; (try simp only [sc, reduceCtorEq, cmpOf] at hc'); try (exfalso; omega)))
      | (
       apply AWP.drawA
       repeat' (first
         | (apply DL.cons; (try (apply OpLoc.on; exact rfl; exact rfl; exact rfl; exact rfl; (first | exact rfl | assumption))); apply ol_ev (τ := τ); exact rfl; (fail); exact rfl; exact rfl) | (apply DL.cons; exact olA; exact rfl) | (apply DL.nil; kernel_rfl) | (refine DL.split rfl rfl rfl rfl (fun hb => ?_) (fun hb => ?_) <;> have hb' := hb <;> (try simp only [sc, reduceCtorEq, cmpOf] at hb') <;> try (exfalso; omega)))
       all_goals (fail_if_success apply DL.id))
      | (refine RunL.split rfl rfl rfl rfl (fun hb => ?_) (fun hb => ?_) <;> have hb' := hb <;> (try simp only [sc, reduceCtorEq, cmpOf] at hb') <;> try (exfalso; omega)) )
    refine ⟨?_, ?_⟩
    · apply Ends.mk .nil
      rfl
    · refine congrArg some (congrArg (Bx.row _ _) ?_)
      refine (set_seg (by omega)).trans ?_
      have z3 : dig (C.length + 1) (val m + val C) = x.set C.length ((ix x C.length + c) % 4294967296) := by
        rw [← z2, dig_add_mul]
        exact (dig_eq (k8.set (by omega)) (by simp [k7]) rfl).symm
      rw [z3]
      congr 3
      omega
end Go.Proofs.YtffcpgebgoineaaDoor.K
