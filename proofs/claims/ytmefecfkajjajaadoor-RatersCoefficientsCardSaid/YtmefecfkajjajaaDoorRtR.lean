/- The laws of layer 42 (examboardlaw42): RatersCoefficients. -/
import Derived.Test.YtmefecfkajjajaaDoorRtN
import Derived.Test.YtmefecfkajjajaaDoorPost
namespace Go.Proofs.YtmefecfkajjajaaDoor.K
open Go Go.RowKit
set_option linter.unusedVariables false
set_option linter.unusedSimpArgs false

set_option maxHeartbeats 1000000 in
theorem lturned (a : List Int) (m : Int) (ha : rtOK a m) (hm0 : 0 ≤ m) (hm : m ≤ 50) (hn : a.length ≤ 200) : Evals Tryd.prog 18 [.ints .i64 a, .int .i64 m] (.ints .i64 (turnS a m)) := by
  refine evals_of_awp Tryd.func18 rfl (CallOK.of Tryd.func18 (by kernel_rfl) rfl) (Nat.le_of_ble_eq_true rfl) ?_
  rintro w R hR ⟨vs, hv⟩
  repeat' (first
    | (apply RunL.step; exact rfl; exact opA) | (apply RunL.hand; exact rfl; exact rfl; exact lenA; exact rfl) | (apply AWP.seq) | (apply AWP.region; exact rfl) | (apply AWP.block) | (apply AWP.skip) | (apply AWP.exit) | (apply AWP.ret) | (apply RunL.nil) | (apply RunL.on; exact rfl; exact rfl; exact rfl; exact rfl; (first | exact rfl | assumption)) | (apply RunL.noU; exact rfl; exact rfl; exact rfl; exact rfl; exact rfl; exact rfl) | (apply RunL.no; exact rfl; exact rfl; exact rfl; exact rfl; (first | exact rfl | assumption); exact rfl; exact rfl) | (refine AWP.cond _ (Rd.of rfl) (fun hc => ?_) (fun hc => ?_) <;> first | (exfalso; cases hc; done) | (have hc' := hc; (try simp only [sc, reduceCtorEq, cmpOf] at hc'); try (exfalso; omega)))
    | (
     apply AWP.drawA
     repeat' (first
       | (apply DL.cons; (try (apply OpLoc.on; exact rfl; exact rfl; exact rfl; exact rfl; (first | exact rfl | assumption))); apply ol_ev (τ := τ); exact rfl; (fail); exact rfl; exact rfl) | (apply DL.cons; exact olA; exact rfl) | (apply DL.nil; kernel_rfl) | (refine DL.split rfl rfl rfl rfl (fun hb => ?_) (fun hb => ?_) <;> have hb' := hb <;> (try simp only [sc, reduceCtorEq, cmpOf] at hb') <;> try (exfalso; omega)))
     all_goals (fail_if_success apply DL.id))
    | (refine RunL.split rfl rfl rfl rfl (fun hb => ?_) (fun hb => ?_) <;> have hb' := hb <;> (try simp only [sc, reduceCtorEq, cmpOf] at hb') <;> try (exfalso; omega)) )
  refine AWP.loop2 (fun (i : Int) (l : List Int) => ⟨[(0, .val (.ints .i64 a)), (1, .val (.int .i64 m)), (5, .sb 9 0 a.length a.length), (6, .val (.int .i64 i))], [(9, .row 3 .i64 l)]⟩)
    (fun i l => 0 ≤ i ∧ i ≤ a.length ∧ l.length = a.length ∧ ∀ j : Nat, (j : Int) < i → l[j]? = (turnS a m)[j]?) (fun i _ => (a.length - i).toNat) 0 (List.replicate a.length 0) ⟨by omega, by omega, by simp, fun j hj => by omega⟩ (St.Le.of (by repeat' (first | exact all_nil | refine all_cons rfl ?_)) (by repeat' (first | exact all_nil | refine all_cons rfl ?_))) ?_
  rintro i l ⟨k1, k2, k3, k4⟩
  by_cases hi : i < a.length
  · have hx := rt_ix ha hm0 i.toNat
    rw [show ((i.toNat : Nat) : Int) = i by omega] at hx
    repeat' (first
      | (apply RunL.step; exact rfl; exact opA) | (apply RunL.hand; exact rfl; exact rfl; exact lenA; exact rfl) | (apply AWP.seq) | (apply AWP.region; exact rfl) | (apply AWP.block) | (apply AWP.skip) | (apply AWP.exit) | (apply AWP.ret) | (apply RunL.nil) | (apply RunL.on; exact rfl; exact rfl; exact rfl; exact rfl; (first | exact rfl | assumption)) | (apply RunL.noU; exact rfl; exact rfl; exact rfl; exact rfl; exact rfl; exact rfl) | (apply RunL.no; exact rfl; exact rfl; exact rfl; exact rfl; (first | exact rfl | assumption); exact rfl; exact rfl) | (refine AWP.cond _ (Rd.of rfl) (fun hc => ?_) (fun hc => ?_) <;> first | (exfalso; cases hc; done) | (have hc' := hc; (try simp only [sc, reduceCtorEq, cmpOf] at hc'); try (exfalso; omega)))
      | (
       apply AWP.drawA
       repeat' (first
         | (apply DL.cons; (try (apply OpLoc.on; exact rfl; exact rfl; exact rfl; exact rfl; (first | exact rfl | assumption))); apply ol_ev (τ := τ); exact rfl; (fail); exact rfl; exact rfl) | (apply DL.cons; exact olA; exact rfl) | (apply DL.nil; kernel_rfl) | (refine DL.split rfl rfl rfl rfl (fun hb => ?_) (fun hb => ?_) <;> have hb' := hb <;> (try simp only [sc, reduceCtorEq, cmpOf] at hb') <;> try (exfalso; omega)))
       all_goals (fail_if_success apply DL.id))
      | (refine RunL.split rfl rfl rfl rfl (fun hb => ?_) (fun hb => ?_) <;> have hb' := hb <;> (try simp only [sc, reduceCtorEq, cmpOf] at hb') <;> try (exfalso; omega)) )
    all_goals
      refine ⟨_, _, St.Le.of (by repeat' (first | exact all_nil | refine all_cons rfl ?_)) (by repeat' (first | exact all_nil | refine all_cons rfl ?_)), ⟨by omega, by omega, by simp [k3], fun j hj => ?_⟩, by omega⟩
      by_cases e : (j : Int) < i
      · rw [List.getElem?_set_ne (by omega)]; exact k4 j e
      · have : j = i.toNat := by omega
        subst this
        simp only [Nat.zero_add]
        rw [List.getElem?_set_self (by omega)]
        simp [turnS, ix, List.getElem?_eq_getElem (show i.toNat < a.length by omega)]
  · have hl : l = turnS a m := List.ext_getElem? fun j => by
      by_cases e : (j : Int) < i
      · exact k4 j e
      · rw [List.getElem?_eq_none (by omega), List.getElem?_eq_none (by rw [turn_len]; omega)]
    subst hl
    refine AWP.freezeAs 5 (turnS a m) rfl rfl rfl (by rw [turn_len]; omega) (by rw [List.drop_zero]; exact List.take_of_length_le (by rw [turn_len]; omega)) ?_
    repeat' (first
      | (apply RunL.step; exact rfl; exact opA) | (apply RunL.hand; exact rfl; exact rfl; exact lenA; exact rfl) | (apply AWP.seq) | (apply AWP.region; exact rfl) | (apply AWP.block) | (apply AWP.skip) | (apply AWP.exit) | (apply AWP.ret) | (apply RunL.nil) | (apply RunL.on; exact rfl; exact rfl; exact rfl; exact rfl; (first | exact rfl | assumption)) | (apply RunL.noU; exact rfl; exact rfl; exact rfl; exact rfl; exact rfl; exact rfl) | (apply RunL.no; exact rfl; exact rfl; exact rfl; exact rfl; (first | exact rfl | assumption); exact rfl; exact rfl) | (refine AWP.cond _ (Rd.of rfl) (fun hc => ?_) (fun hc => ?_) <;> first | (exfalso; cases hc; done) | (have hc' := hc; (try simp only [sc, reduceCtorEq, cmpOf] at hc'); try (exfalso; omega)))
      | (
       apply AWP.drawA
       repeat' (first
         | (apply DL.cons; (try (apply OpLoc.on; exact rfl; exact rfl; exact rfl; exact rfl; (first | exact rfl | assumption))); apply ol_ev (τ := τ); exact rfl; (fail); exact rfl; exact rfl) | (apply DL.cons; exact olA; exact rfl) | (apply DL.nil; kernel_rfl) | (refine DL.split rfl rfl rfl rfl (fun hb => ?_) (fun hb => ?_) <;> have hb' := hb <;> (try simp only [sc, reduceCtorEq, cmpOf] at hb') <;> try (exfalso; omega)))
       all_goals (fail_if_success apply DL.id))
      | (refine RunL.split rfl rfl rfl rfl (fun hb => ?_) (fun hb => ?_) <;> have hb' := hb <;> (try simp only [sc, reduceCtorEq, cmpOf] at hb') <;> try (exfalso; omega)) )
    all_goals
      apply Ends.mk (.cons (.tmp rfl) .nil)
      first | done | rfl
theorem lim1 : limbs 1 = [1] := by rw [limbs_pos (by omega)]; simp [limbs_le]
theorem ratD_one : ratD 1 = .agg [.bool false, .ints .u32 [1], .ints .u32 [1]] := by
  show D.agg [.bool (decide ((1 : Rat).num < 0)), .ints .u32 (limbs ((1 : Rat).num.natAbs : Nat)), .ints .u32 (limbs ((1 : Rat).den : Nat))] = _
  rw [show (((1 : Rat).num.natAbs : Nat) : Int) = 1 from rfl, show (((1 : Rat).den : Nat) : Int) = 1 from rfl, lim1]
  rfl
theorem lunit {q : Rat} {k : Nat} [h : SzR q k] (e : Bool) (h1 : cmpQ q 1 ≤ 0) (h2 : cmpQ q 1 = 0 ↔ e = true) (hk : k ≤ 1000000 := by omega) : Evals Tryd.prog 17 [ratD q, .bool e] (.bool true) := by
  have hcm : Evals Tryd.prog 40 [ratD q, ratD 1] (.int .i64 (cmpQ q 1)) := rcmp (h := RA.ratD q k (h := h)) (h' := RA.ratD 1 5 (h := SzR.one.mono (by omega))) (by omega)
  rw [ratD_one] at hcm
  generalize cmpQ q 1 = c at *
  have hce : (decide (c = 0) == e) = true := by
    cases e with
    | true => simp [h2]
    | false => simp; intro h; exact absurd (h2.1 h) (by simp)
  refine evals_of_awp Tryd.func17 rfl (CallOK.of Tryd.func17 (by kernel_rfl) rfl) (Nat.le_of_ble_eq_true rfl) ?_
  rintro w R hR ⟨vs, hv⟩
  repeat' (first
    | (apply RunL.step; exact rfl; apply op_ev (τ := τ); exact rfl; (first | exact hcm); exact rfl) | (apply RunL.step; exact rfl; exact opA) | (apply RunL.hand; exact rfl; exact rfl; exact lenA; exact rfl) | (apply AWP.seq) | (apply AWP.region; exact rfl) | (apply AWP.block) | (apply AWP.skip) | (apply AWP.exit) | (apply AWP.retF; exact rfl; exact rfl; exact rfl; exact rfl; exact lenA; exact rfl) | (apply AWP.ret) | (apply RunL.nil) | (apply RunL.on; exact rfl; exact rfl; exact rfl; exact rfl; (first | exact rfl | assumption)) | (apply RunL.noU; exact rfl; exact rfl; exact rfl; exact rfl; exact rfl; exact rfl) | (apply RunL.no; exact rfl; exact rfl; exact rfl; exact rfl; (first | exact rfl | assumption); exact rfl; exact rfl) | (refine AWP.cond _ (Rd.of rfl) (fun hc => ?_) (fun hc => ?_) <;> first | (exfalso; cases hc; done) | (have hc' := hc; (try simp only [sc, reduceCtorEq, cmpOf] at hc'); try (exfalso; omega)))
    | (
     apply AWP.drawA
     repeat' (first
       | (apply DL.cons; (try (apply OpLoc.on; exact rfl; exact rfl; exact rfl; exact rfl; (first | exact rfl | assumption))); apply ol_ev (τ := τ); exact rfl; (first | exact hcm); exact rfl; exact rfl) | (apply DL.cons; exact olA; exact rfl) | (apply DL.nil; kernel_rfl) | (refine DL.split rfl rfl rfl rfl (fun hb => ?_) (fun hb => ?_) <;> have hb' := hb <;> (try simp only [sc, reduceCtorEq, cmpOf] at hb') <;> try (exfalso; omega)))
     all_goals (fail_if_success apply DL.id))
    | (refine RunL.split rfl rfl rfl rfl (fun hb => ?_) (fun hb => ?_) <;> have hb' := hb <;> (try simp only [sc, reduceCtorEq, cmpOf] at hb') <;> try (exfalso; omega)) )
  all_goals
    apply Ends.mk (.cons (.tmp rfl) .nil)
    first | done | rfl | exact congrArg D.bool hce | (show D.bool _ = _; simpa [cmpOf] using hce)
theorem unit_cmp {u d : Int} (hd : 0 < d) (hu : u ≤ d) : cmpQ (Rat.divInt u d) 1 ≤ 0 ∧ (cmpQ (Rat.divInt u d) 1 = 0 ↔ u = d) := by
  have h := cmpQ_divInt (a := u) (b := d) (c := 1) (d := 1) hd (by omega)
  rw [show Rat.divInt 1 1 = 1 by decide +kernel] at h
  rw [← h]
  unfold cmpI
  constructor <;> (try constructor) <;> (repeat' split) <;> omega
def sameB (a b : List Int) : Bool := decide (∀ i : Nat, i < a.length → ix a i = ix b i)
theorem sameB_iff {a b : List Int} : sameB a b = true ↔ ∀ i : Nat, i < a.length → ix a i = ix b i := by simp [sameB]
abbrev rD (s : Bool) (l d : List Int) : D := .agg [.bool s, .ints .u32 l, .ints .u32 d]
theorem cfExact (a b : List Int) : ∃ (s : Bool) (l d : List Int) (e : Int), Evals Tryd.prog 13 [.ints .i64 a, .ints .i64 b] (.tup [rD s l d, .int .i64 e]) ∧ Evals Tryd.prog 13 [.ints .i64 b, .ints .i64 a] (.tup [rD s l d, .int .i64 e]) ∧
    (e = 0 → pairE a b = 0 ∧ Evals Tryd.prog 17 [rD s l d, .bool (sameB a b)] (.bool true)) := by
  by_cases he : pairE a b = 0
  · have h1 := kExact1 a b he
    have h2 := kExact1 b a (by rw [pairE_comm]; exact he)
    obtain ⟨q1, q2, q3⟩ := pairE_zero.1 he
    rw [← q2, eqS_comm] at h2
    have hq := eqS_bound a b a.length
    obtain ⟨u1, u2⟩ := unit_cmp (u := eqS a b a.length) (d := a.length) (by omega) (by omega)
    have hu := lunit (h := SzR.di _ _ 2 2 (h := SzI.i64 (x := eqS a b a.length) (by omega)) (g := SzI.i64 (x := (a.length : Int)) (by omega))) (sameB a b) u1 (by rw [u2, eqS_full, sameB_iff]) (by omega)
    exact ⟨_, _, _, _, h1, h2, fun _ => ⟨he, hu⟩⟩
  · have h1 := kExact0 a b he
    have h2 := kExact0 b a (by rw [pairE_comm]; exact he)
    rw [pairE_comm b a] at h2
    exact ⟨_, _, _, _, h1, h2, fun h => absurd h he⟩
theorem cfKappa (a b : List Int) (m : Int) (hp : pairE a b = 0) : ∃ (s : Bool) (l d : List Int) (e : Int), Evals Tryd.prog 15 [.ints .i64 a, .ints .i64 b, .int .i64 m] (.tup [rD s l d, .int .i64 e]) ∧ Evals Tryd.prog 15 [.ints .i64 b, .ints .i64 a, .int .i64 m] (.tup [rD s l d, .int .i64 e]) ∧
    (e = 0 → ratedE a b m = 0 ∧ Evals Tryd.prog 17 [rD s l d, .bool (sameB a b)] (.bool true) ∧ Evals Tryd.prog 15 [.ints .i64 (turnS a m), .ints .i64 (turnS b m), .int .i64 m] (.tup [rD s l d, .int .i64 0])) := by
  obtain ⟨q1, q2, q3⟩ := pairE_zero.1 hp
  by_cases he : ratedE a b m = 0
  · have h1 := kKappaN a b m he
    have h2 := kKappaN b a m (by rw [ratedE_comm]; exact he)
    have h3 := kKappaN (turnS a m) (turnS b m) m (ratedE_turn he)
    unfold kapQ at h1 h2 h3
    rw [← q2, eqS_comm b a, prS_comm b a] at h2
    rw [turn_len, eqS_turn (Nat.le_refl _) (by omega), prS_turn (Nat.le_refl _) (by omega)] at h3
    have hq := eqS_bound a b a.length
    have hr := prS_bound a b a.length a.length
    by_cases hz : prS a b a.length a.length = a.length * a.length
    · rw [if_pos hz] at h1 h2
      exact ⟨_, _, _, _, h1, h2, fun h => absurd h (by decide)⟩
    · rw [if_neg hz] at h1 h2 h3
      have hn2 : (a.length : Int) * a.length ≤ 200 * 200 := Int.mul_le_mul (by omega) (by omega) (by omega) (by omega)
      have he2 : eqS a b a.length * a.length ≤ (a.length : Int) * a.length := Int.mul_le_mul_of_nonneg_right hq.2 (by omega)
      have he3 : 0 ≤ eqS a b a.length * a.length := Int.mul_nonneg hq.1 (by omega)
      have he4 : eqS a b a.length * a.length = (a.length : Int) * a.length ↔ eqS a b a.length = a.length := ⟨fun h => Int.eq_of_mul_eq_mul_right (by omega) h, fun h => by rw [h]⟩
      obtain ⟨u1, u2⟩ := unit_cmp (u := eqS a b a.length * a.length - prS a b a.length a.length) (d := a.length * a.length - prS a b a.length a.length) (by omega) (by omega)
      have hu := lunit (h := SzR.di _ _ 2 2 (h := SzI.i64 (x := eqS a b a.length * a.length - prS a b a.length a.length) (by omega)) (g := SzI.i64 (x := (a.length : Int) * a.length - prS a b a.length a.length) (by omega))) (sameB a b) u1 (by rw [u2, sameB_iff, ← eqS_full, ← he4]; constructor <;> intro h <;> omega) (by omega)
      exact ⟨_, _, _, _, h1, h2, fun _ => ⟨he, hu, h3⟩⟩
  · have h1 := kKappa0 a b m he
    have h2 := kKappa0 b a m (by rw [ratedE_comm]; exact he)
    rw [ratedE_comm b a] at h2
    exact ⟨_, _, _, _, h1, h2, fun h => absurd h he⟩
theorem cfWeighted (a b : List Int) (m : Int) (hp : pairE a b = 0) : ∃ (s : Bool) (l d : List Int) (e : Int), Evals Tryd.prog 16 [.ints .i64 a, .ints .i64 b, .int .i64 m] (.tup [rD s l d, .int .i64 e]) ∧ Evals Tryd.prog 16 [.ints .i64 b, .ints .i64 a, .int .i64 m] (.tup [rD s l d, .int .i64 e]) ∧
    (e = 0 → ratedE a b m = 0 ∧ Evals Tryd.prog 17 [rD s l d, .bool (sameB a b)] (.bool true) ∧ Evals Tryd.prog 16 [.ints .i64 (turnS a m), .ints .i64 (turnS b m), .int .i64 m] (.tup [rD s l d, .int .i64 0])) := by
  obtain ⟨q1, q2, q3⟩ := pairE_zero.1 hp
  by_cases he : ratedE a b m = 0
  · have h1 := kWeightedN a b m he
    have h2 := kWeightedN b a m (by rw [ratedE_comm]; exact he)
    have h3 := kWeightedN (turnS a m) (turnS b m) m (ratedE_turn he)
    obtain ⟨_, m1, m2, oa, ob⟩ := ratedE_zero he
    unfold wgtQ at h1 h2 h3
    rw [← q2, obS_comm b a, sqS_comm b a] at h2
    rw [turn_len, obS_turn (Nat.le_refl _) (by omega), sqS_turn (Nat.le_refl _) (by omega)] at h3
    have hq := obS_bound oa ob (by omega) m2 a.length
    have hr := sqS_bound oa ob (by omega) m2 a.length a.length
    have hz0 := (obS_zero a b a.length).2
    by_cases hz : sqS a b a.length a.length = 0
    · rw [if_pos hz] at h1 h2
      exact ⟨_, _, _, _, h1, h2, fun h => absurd h (by decide)⟩
    · rw [if_neg hz] at h1 h2 h3
      have hn2 : (2500 * (a.length : Int)) * a.length ≤ (2500 * 200) * 200 := Int.mul_le_mul (by omega) (by omega) (by omega) (by omega)
      have he2 : obS a b a.length * a.length ≤ (2500 * 200) * 200 := Int.mul_le_mul (by omega) (by omega) (by omega) (by omega)
      have he3 : 0 ≤ obS a b a.length * a.length := Int.mul_nonneg hq.1 (by omega)
      have he4 : obS a b a.length * a.length = 0 ↔ obS a b a.length = 0 := by rw [Int.mul_eq_zero]; omega
      obtain ⟨u1, u2⟩ := unit_cmp (u := sqS a b a.length a.length - obS a b a.length * a.length) (d := sqS a b a.length a.length) (by omega) (by omega)
      have hu := lunit (h := SzR.di _ _ 2 2 (h := SzI.i64 (x := sqS a b a.length a.length - obS a b a.length * a.length) (by omega)) (g := SzI.i64 (x := sqS a b a.length a.length) (by omega))) (sameB a b) u1 (by rw [u2, sameB_iff, ← hz0, ← he4]; constructor <;> intro h <;> omega) (by omega)
      exact ⟨_, _, _, _, h1, h2, fun _ => ⟨he, hu, h3⟩⟩
  · have h1 := kWeighted0 a b m he
    have h2 := kWeighted0 b a m (by rw [ratedE_comm]; exact he)
    rw [ratedE_comm b a] at h2
    exact ⟨_, _, _, _, h1, h2, fun h => absurd h he⟩
def sameTo (a b : List Int) (n : Nat) : Bool := decide (∀ i : Nat, i < n → ix a i = ix b i)
theorem sameTo_succ (a b : List Int) (n : Nat) : sameTo a b (n + 1) = (sameTo a b n && decide (ix a n = ix b n)) := by
  rw [Bool.eq_iff_iff]
  simp only [sameTo, Bool.and_eq_true, decide_eq_true_eq]
  exact ⟨fun h => ⟨fun i hi => h i (by omega), h n (by omega)⟩, fun ⟨h1, h2⟩ i hi => by
    by_cases e : i = n
    · subst e; exact h2
    · exact h1 i (by omega)⟩
set_option maxRecDepth 8000 in
set_option maxHeartbeats 4000000 in
theorem law_RatersCoefficients (a b : List Int) (m : Int) : Evals Tryd.prog 4 [.ints .i64 a, .ints .i64 b, .int .i64 m] (.bool true) := by
  obtain ⟨s1, l1, d1, e1, g1, g2, x1⟩ := cfExact a b
  by_cases he1 : e1 = 0
  · obtain ⟨hp, u1⟩ := x1 he1
    subst he1
    obtain ⟨q1, q2, q3⟩ := pairE_zero.1 hp
    obtain ⟨s2, l2, d2, e2, g3, g4, x2⟩ := cfKappa a b m hp
    obtain ⟨s3, l3, d3, e3, g5, g6, x3⟩ := cfWeighted a b m hp
    refine evals_of_awp Tryd.func4 rfl (CallOK.of Tryd.func4 (by kernel_rfl) rfl) (Nat.le_of_ble_eq_true rfl) ?_
    rintro w R hR ⟨vs, hv⟩
    repeat' (first
      | (apply RunL.step; exact rfl; apply op_ev (τ := τ); exact rfl; (first | exact g1 | exact g2 | exact g3 | exact g4 | exact g5 | exact g6 | exact g7 | exact g8 | exact u1 | exact u2 | exact u3 | exact w1 | exact w2 | exact r4sameRg | exact lawake); exact rfl) | (apply RunL.step; exact rfl; exact opA) | (apply RunL.hand; exact rfl; exact rfl; exact lenA; exact rfl) | (apply AWP.seq) | (apply AWP.region; exact rfl) | (apply AWP.block) | (apply AWP.skip) | (apply AWP.exit) | (apply AWP.retF; exact rfl; exact rfl; exact rfl; exact rfl; exact lenA; exact rfl) | (apply AWP.ret) | (apply RunL.nil) | (apply RunL.on; exact rfl; exact rfl; exact rfl; exact rfl; (first | exact rfl | assumption)) | (apply RunL.noU; exact rfl; exact rfl; exact rfl; exact rfl; exact rfl; exact rfl) | (apply RunL.no; exact rfl; exact rfl; exact rfl; exact rfl; (first | exact rfl | assumption); exact rfl; exact rfl) | (refine AWP.cond _ (Rd.of rfl) (fun hc => ?_) (fun hc => ?_) <;> first | (exfalso; cases hc; done) | (have hc' := hc; (try simp only [sc, reduceCtorEq, cmpOf] at hc'); try (exfalso; omega)))
      | (
       apply AWP.drawA
       repeat' (first
         | (apply DL.cons; (try (apply OpLoc.on; exact rfl; exact rfl; exact rfl; exact rfl; (first | exact rfl | assumption))); apply ol_ev (τ := τ); exact rfl; (first | exact g1 | exact g2 | exact g3 | exact g4 | exact g5 | exact g6 | exact g7 | exact g8 | exact u1 | exact u2 | exact u3 | exact w1 | exact w2 | exact r4sameRg | exact lawake); exact rfl; exact rfl) | (apply DL.cons; exact olA; exact rfl) | (apply DL.nil; kernel_rfl) | (refine DL.split rfl rfl rfl rfl (fun hb => ?_) (fun hb => ?_) <;> have hb' := hb <;> (try simp only [sc, reduceCtorEq, cmpOf] at hb') <;> try (exfalso; omega)))
       all_goals (fail_if_success apply DL.id))
      | (refine RunL.split rfl rfl rfl rfl (fun hb => ?_) (fun hb => ?_) <;> have hb' := hb <;> (try simp only [sc, reduceCtorEq, cmpOf] at hb') <;> try (exfalso; omega)) )
    refine AWP.loop2 (fun (i : Int) (s : Bool) => ⟨[(0, .val (.ints .i64 a)), (1, .val (.ints .i64 b)), (2, .val (.int .i64 m)), (7, .pb 7 0), (11, .val (.bool s)), (12, .val (.int .i64 i))], [(7, .cells 41 [.bool s1, .ints .u32 l1, .ints .u32 d1])]⟩)
      (fun i s => 0 ≤ i ∧ i ≤ a.length ∧ s = sameTo a b i.toNat) (fun i _ => (a.length - i).toNat) 0 true ⟨by omega, by omega, by simp [sameTo]⟩ (St.Le.of (by repeat' (first | exact all_nil | refine all_cons rfl ?_)) (by repeat' (first | exact all_nil | refine all_cons rfl ?_))) ?_
    rintro i s ⟨k1, k2, k3⟩
    by_cases hi : i < a.length
    · have hs := sameTo_succ a b i.toNat
      rw [← k3, show i.toNat + 1 = (i + 1).toNat by omega, show ((i.toNat : Nat) : Int) = i by omega] at hs
      by_cases hx : ix a i = ix b i
      · rw [decide_eq_true hx] at hs
        cases s with
        | true =>
          repeat' (first
            | (apply RunL.step; exact rfl; apply op_ev (τ := τ); exact rfl; (first | exact g1 | exact g2 | exact g3 | exact g4 | exact g5 | exact g6 | exact g7 | exact g8 | exact u1 | exact u2 | exact u3 | exact w1 | exact w2 | exact r4sameRg | exact lawake); exact rfl) | (apply RunL.step; exact rfl; exact opA) | (apply RunL.hand; exact rfl; exact rfl; exact lenA; exact rfl) | (apply AWP.seq) | (apply AWP.region; exact rfl) | (apply AWP.block) | (apply AWP.skip) | (apply AWP.exit) | (apply AWP.retF; exact rfl; exact rfl; exact rfl; exact rfl; exact lenA; exact rfl) | (apply AWP.ret) | (apply RunL.nil) | (apply RunL.on; exact rfl; exact rfl; exact rfl; exact rfl; (first | exact rfl | assumption)) | (apply RunL.noU; exact rfl; exact rfl; exact rfl; exact rfl; exact rfl; exact rfl) | (apply RunL.no; exact rfl; exact rfl; exact rfl; exact rfl; (first | exact rfl | assumption); exact rfl; exact rfl) | (refine AWP.cond _ (Rd.of rfl) (fun hc => ?_) (fun hc => ?_) <;> first | (exfalso; cases hc; done) | (have hc' := hc; (try simp only [sc, reduceCtorEq, cmpOf] at hc'); try (exfalso; omega)))
            | (
             apply AWP.drawA
             repeat' (first
               | (apply DL.cons; (try (apply OpLoc.on; exact rfl; exact rfl; exact rfl; exact rfl; (first | exact rfl | assumption))); apply ol_ev (τ := τ); exact rfl; (first | exact g1 | exact g2 | exact g3 | exact g4 | exact g5 | exact g6 | exact g7 | exact g8 | exact u1 | exact u2 | exact u3 | exact w1 | exact w2 | exact r4sameRg | exact lawake); exact rfl; exact rfl) | (apply DL.cons; exact olA; exact rfl) | (apply DL.nil; kernel_rfl) | (refine DL.split rfl rfl rfl rfl (fun hb => ?_) (fun hb => ?_) <;> have hb' := hb <;> (try simp only [sc, reduceCtorEq, cmpOf] at hb') <;> try (exfalso; omega)))
             all_goals (fail_if_success apply DL.id))
            | (refine RunL.split rfl rfl rfl rfl (fun hb => ?_) (fun hb => ?_) <;> have hb' := hb <;> (try simp only [sc, reduceCtorEq, cmpOf] at hb') <;> try (exfalso; omega)) )
          all_goals
            refine ⟨_, cmpOf .eql (ix a i) (ix b i), St.Le.of (by repeat' (first | exact all_nil | refine all_cons rfl ?_)) (by repeat' (first | exact all_nil | refine all_cons rfl ?_)), ⟨by omega, by omega, ?_⟩, by omega⟩
            rw [hs]; simp [cmpOf, hx]
        | false =>
          repeat' (first
            | (apply RunL.step; exact rfl; apply op_ev (τ := τ); exact rfl; (first | exact g1 | exact g2 | exact g3 | exact g4 | exact g5 | exact g6 | exact g7 | exact g8 | exact u1 | exact u2 | exact u3 | exact w1 | exact w2 | exact r4sameRg | exact lawake); exact rfl) | (apply RunL.step; exact rfl; exact opA) | (apply RunL.hand; exact rfl; exact rfl; exact lenA; exact rfl) | (apply AWP.seq) | (apply AWP.region; exact rfl) | (apply AWP.block) | (apply AWP.skip) | (apply AWP.exit) | (apply AWP.retF; exact rfl; exact rfl; exact rfl; exact rfl; exact lenA; exact rfl) | (apply AWP.ret) | (apply RunL.nil) | (apply RunL.on; exact rfl; exact rfl; exact rfl; exact rfl; (first | exact rfl | assumption)) | (apply RunL.noU; exact rfl; exact rfl; exact rfl; exact rfl; exact rfl; exact rfl) | (apply RunL.no; exact rfl; exact rfl; exact rfl; exact rfl; (first | exact rfl | assumption); exact rfl; exact rfl) | (refine AWP.cond _ (Rd.of rfl) (fun hc => ?_) (fun hc => ?_) <;> first | (exfalso; cases hc; done) | (have hc' := hc; (try simp only [sc, reduceCtorEq, cmpOf] at hc'); try (exfalso; omega)))
            | (
             apply AWP.drawA
             repeat' (first
               | (apply DL.cons; (try (apply OpLoc.on; exact rfl; exact rfl; exact rfl; exact rfl; (first | exact rfl | assumption))); apply ol_ev (τ := τ); exact rfl; (first | exact g1 | exact g2 | exact g3 | exact g4 | exact g5 | exact g6 | exact g7 | exact g8 | exact u1 | exact u2 | exact u3 | exact w1 | exact w2 | exact r4sameRg | exact lawake); exact rfl; exact rfl) | (apply DL.cons; exact olA; exact rfl) | (apply DL.nil; kernel_rfl) | (refine DL.split rfl rfl rfl rfl (fun hb => ?_) (fun hb => ?_) <;> have hb' := hb <;> (try simp only [sc, reduceCtorEq, cmpOf] at hb') <;> try (exfalso; omega)))
             all_goals (fail_if_success apply DL.id))
            | (refine RunL.split rfl rfl rfl rfl (fun hb => ?_) (fun hb => ?_) <;> have hb' := hb <;> (try simp only [sc, reduceCtorEq, cmpOf] at hb') <;> try (exfalso; omega)) )
          all_goals
            exact ⟨_, _, St.Le.of (by repeat' (first | exact all_nil | refine all_cons rfl ?_)) (by repeat' (first | exact all_nil | refine all_cons rfl ?_)), ⟨by omega, by omega, hs.symm⟩, by omega⟩
      · rw [decide_eq_false hx] at hs
        cases s with
        | true =>
          repeat' (first
            | (apply RunL.step; exact rfl; apply op_ev (τ := τ); exact rfl; (first | exact g1 | exact g2 | exact g3 | exact g4 | exact g5 | exact g6 | exact g7 | exact g8 | exact u1 | exact u2 | exact u3 | exact w1 | exact w2 | exact r4sameRg | exact lawake); exact rfl) | (apply RunL.step; exact rfl; exact opA) | (apply RunL.hand; exact rfl; exact rfl; exact lenA; exact rfl) | (apply AWP.seq) | (apply AWP.region; exact rfl) | (apply AWP.block) | (apply AWP.skip) | (apply AWP.exit) | (apply AWP.retF; exact rfl; exact rfl; exact rfl; exact rfl; exact lenA; exact rfl) | (apply AWP.ret) | (apply RunL.nil) | (apply RunL.on; exact rfl; exact rfl; exact rfl; exact rfl; (first | exact rfl | assumption)) | (apply RunL.noU; exact rfl; exact rfl; exact rfl; exact rfl; exact rfl; exact rfl) | (apply RunL.no; exact rfl; exact rfl; exact rfl; exact rfl; (first | exact rfl | assumption); exact rfl; exact rfl) | (refine AWP.cond _ (Rd.of rfl) (fun hc => ?_) (fun hc => ?_) <;> first | (exfalso; cases hc; done) | (have hc' := hc; (try simp only [sc, reduceCtorEq, cmpOf] at hc'); try (exfalso; omega)))
            | (
             apply AWP.drawA
             repeat' (first
               | (apply DL.cons; (try (apply OpLoc.on; exact rfl; exact rfl; exact rfl; exact rfl; (first | exact rfl | assumption))); apply ol_ev (τ := τ); exact rfl; (first | exact g1 | exact g2 | exact g3 | exact g4 | exact g5 | exact g6 | exact g7 | exact g8 | exact u1 | exact u2 | exact u3 | exact w1 | exact w2 | exact r4sameRg | exact lawake); exact rfl; exact rfl) | (apply DL.cons; exact olA; exact rfl) | (apply DL.nil; kernel_rfl) | (refine DL.split rfl rfl rfl rfl (fun hb => ?_) (fun hb => ?_) <;> have hb' := hb <;> (try simp only [sc, reduceCtorEq, cmpOf] at hb') <;> try (exfalso; omega)))
             all_goals (fail_if_success apply DL.id))
            | (refine RunL.split rfl rfl rfl rfl (fun hb => ?_) (fun hb => ?_) <;> have hb' := hb <;> (try simp only [sc, reduceCtorEq, cmpOf] at hb') <;> try (exfalso; omega)) )
          all_goals
            refine ⟨_, cmpOf .eql (ix a i) (ix b i), St.Le.of (by repeat' (first | exact all_nil | refine all_cons rfl ?_)) (by repeat' (first | exact all_nil | refine all_cons rfl ?_)), ⟨by omega, by omega, ?_⟩, by omega⟩
            rw [hs]; simp [cmpOf, hx]
        | false =>
          repeat' (first
            | (apply RunL.step; exact rfl; apply op_ev (τ := τ); exact rfl; (first | exact g1 | exact g2 | exact g3 | exact g4 | exact g5 | exact g6 | exact g7 | exact g8 | exact u1 | exact u2 | exact u3 | exact w1 | exact w2 | exact r4sameRg | exact lawake); exact rfl) | (apply RunL.step; exact rfl; exact opA) | (apply RunL.hand; exact rfl; exact rfl; exact lenA; exact rfl) | (apply AWP.seq) | (apply AWP.region; exact rfl) | (apply AWP.block) | (apply AWP.skip) | (apply AWP.exit) | (apply AWP.retF; exact rfl; exact rfl; exact rfl; exact rfl; exact lenA; exact rfl) | (apply AWP.ret) | (apply RunL.nil) | (apply RunL.on; exact rfl; exact rfl; exact rfl; exact rfl; (first | exact rfl | assumption)) | (apply RunL.noU; exact rfl; exact rfl; exact rfl; exact rfl; exact rfl; exact rfl) | (apply RunL.no; exact rfl; exact rfl; exact rfl; exact rfl; (first | exact rfl | assumption); exact rfl; exact rfl) | (refine AWP.cond _ (Rd.of rfl) (fun hc => ?_) (fun hc => ?_) <;> first | (exfalso; cases hc; done) | (have hc' := hc; (try simp only [sc, reduceCtorEq, cmpOf] at hc'); try (exfalso; omega)))
            | (
             apply AWP.drawA
             repeat' (first
               | (apply DL.cons; (try (apply OpLoc.on; exact rfl; exact rfl; exact rfl; exact rfl; (first | exact rfl | assumption))); apply ol_ev (τ := τ); exact rfl; (first | exact g1 | exact g2 | exact g3 | exact g4 | exact g5 | exact g6 | exact g7 | exact g8 | exact u1 | exact u2 | exact u3 | exact w1 | exact w2 | exact r4sameRg | exact lawake); exact rfl; exact rfl) | (apply DL.cons; exact olA; exact rfl) | (apply DL.nil; kernel_rfl) | (refine DL.split rfl rfl rfl rfl (fun hb => ?_) (fun hb => ?_) <;> have hb' := hb <;> (try simp only [sc, reduceCtorEq, cmpOf] at hb') <;> try (exfalso; omega)))
             all_goals (fail_if_success apply DL.id))
            | (refine RunL.split rfl rfl rfl rfl (fun hb => ?_) (fun hb => ?_) <;> have hb' := hb <;> (try simp only [sc, reduceCtorEq, cmpOf] at hb') <;> try (exfalso; omega)) )
          all_goals
            exact ⟨_, _, St.Le.of (by repeat' (first | exact all_nil | refine all_cons rfl ?_)) (by repeat' (first | exact all_nil | refine all_cons rfl ?_)), ⟨by omega, by omega, hs.symm⟩, by omega⟩
    · have hs : s = sameB a b := by rw [k3, show i.toNat = a.length by omega]; rfl
      subst hs
      by_cases he2 : e2 = 0
      · by_cases he3 : e3 = 0
        · obtain ⟨hr, u2, g7⟩ := x2 he2
          obtain ⟨_, u3, g8⟩ := x3 he3
          subst he2 he3
          obtain ⟨_, m1, m2, oa, ob⟩ := ratedE_zero hr
          have w1 := lturned a m oa (by omega) m2 q1
          have w2 := lturned b m ob (by omega) m2 (by omega)
          generalize sameB a b = sb at *
          repeat' (first
            | (apply RunL.step; exact rfl; apply op_ev (τ := τ); exact rfl; (first | exact g1 | exact g2 | exact g3 | exact g4 | exact g5 | exact g6 | exact g7 | exact g8 | exact u1 | exact u2 | exact u3 | exact w1 | exact w2 | exact r4sameRg | exact lawake); exact rfl) | (apply RunL.step; exact rfl; exact opA) | (apply RunL.hand; exact rfl; exact rfl; exact lenA; exact rfl) | (apply AWP.seq) | (apply AWP.region; exact rfl) | (apply AWP.block) | (apply AWP.skip) | (apply AWP.exit) | (apply AWP.retF; exact rfl; exact rfl; exact rfl; exact rfl; exact lenA; exact rfl) | (apply AWP.ret) | (apply RunL.nil) | (apply RunL.on; exact rfl; exact rfl; exact rfl; exact rfl; (first | exact rfl | assumption)) | (apply RunL.noU; exact rfl; exact rfl; exact rfl; exact rfl; exact rfl; exact rfl) | (apply RunL.no; exact rfl; exact rfl; exact rfl; exact rfl; (first | exact rfl | assumption); exact rfl; exact rfl) | (refine AWP.cond _ (Rd.of rfl) (fun hc => ?_) (fun hc => ?_) <;> first | (exfalso; cases hc; done) | (have hc' := hc; (try simp only [sc, reduceCtorEq, cmpOf] at hc'); try (exfalso; omega)))
            | (
             apply AWP.drawA
             repeat' (first
               | (apply DL.cons; (try (apply OpLoc.on; exact rfl; exact rfl; exact rfl; exact rfl; (first | exact rfl | assumption))); apply ol_ev (τ := τ); exact rfl; (first | exact g1 | exact g2 | exact g3 | exact g4 | exact g5 | exact g6 | exact g7 | exact g8 | exact u1 | exact u2 | exact u3 | exact w1 | exact w2 | exact r4sameRg | exact lawake); exact rfl; exact rfl) | (apply DL.cons; exact olA; exact rfl) | (apply DL.nil; kernel_rfl) | (refine DL.split rfl rfl rfl rfl (fun hb => ?_) (fun hb => ?_) <;> have hb' := hb <;> (try simp only [sc, reduceCtorEq, cmpOf] at hb') <;> try (exfalso; omega)))
             all_goals (fail_if_success apply DL.id))
            | (refine RunL.split rfl rfl rfl rfl (fun hb => ?_) (fun hb => ?_) <;> have hb' := hb <;> (try simp only [sc, reduceCtorEq, cmpOf] at hb') <;> try (exfalso; omega)) )
          all_goals
            apply Ends.mk (.cons (.tmp rfl) .nil)
            first | done | rfl
        · generalize sameB a b = sb at *
          repeat' (first
            | (apply RunL.step; exact rfl; apply op_ev (τ := τ); exact rfl; (first | exact g1 | exact g2 | exact g3 | exact g4 | exact g5 | exact g6 | exact g7 | exact g8 | exact u1 | exact u2 | exact u3 | exact w1 | exact w2 | exact r4sameRg | exact lawake); exact rfl) | (apply RunL.step; exact rfl; exact opA) | (apply RunL.hand; exact rfl; exact rfl; exact lenA; exact rfl) | (apply AWP.seq) | (apply AWP.region; exact rfl) | (apply AWP.block) | (apply AWP.skip) | (apply AWP.exit) | (apply AWP.retF; exact rfl; exact rfl; exact rfl; exact rfl; exact lenA; exact rfl) | (apply AWP.ret) | (apply RunL.nil) | (apply RunL.on; exact rfl; exact rfl; exact rfl; exact rfl; (first | exact rfl | assumption)) | (apply RunL.noU; exact rfl; exact rfl; exact rfl; exact rfl; exact rfl; exact rfl) | (apply RunL.no; exact rfl; exact rfl; exact rfl; exact rfl; (first | exact rfl | assumption); exact rfl; exact rfl) | (refine AWP.cond _ (Rd.of rfl) (fun hc => ?_) (fun hc => ?_) <;> first | (exfalso; cases hc; done) | (have hc' := hc; (try simp only [sc, reduceCtorEq, cmpOf] at hc'); try (exfalso; omega)))
            | (
             apply AWP.drawA
             repeat' (first
               | (apply DL.cons; (try (apply OpLoc.on; exact rfl; exact rfl; exact rfl; exact rfl; (first | exact rfl | assumption))); apply ol_ev (τ := τ); exact rfl; (first | exact g1 | exact g2 | exact g3 | exact g4 | exact g5 | exact g6 | exact g7 | exact g8 | exact u1 | exact u2 | exact u3 | exact w1 | exact w2 | exact r4sameRg | exact lawake); exact rfl; exact rfl) | (apply DL.cons; exact olA; exact rfl) | (apply DL.nil; kernel_rfl) | (refine DL.split rfl rfl rfl rfl (fun hb => ?_) (fun hb => ?_) <;> have hb' := hb <;> (try simp only [sc, reduceCtorEq, cmpOf] at hb') <;> try (exfalso; omega)))
             all_goals (fail_if_success apply DL.id))
            | (refine RunL.split rfl rfl rfl rfl (fun hb => ?_) (fun hb => ?_) <;> have hb' := hb <;> (try simp only [sc, reduceCtorEq, cmpOf] at hb') <;> try (exfalso; omega)) )
          all_goals
            apply Ends.mk (.cons (.tmp rfl) .nil)
            first | done | rfl
      · generalize sameB a b = sb at *
        repeat' (first
          | (apply RunL.step; exact rfl; apply op_ev (τ := τ); exact rfl; (first | exact g1 | exact g2 | exact g3 | exact g4 | exact g5 | exact g6 | exact g7 | exact g8 | exact u1 | exact u2 | exact u3 | exact w1 | exact w2 | exact r4sameRg | exact lawake); exact rfl) | (apply RunL.step; exact rfl; exact opA) | (apply RunL.hand; exact rfl; exact rfl; exact lenA; exact rfl) | (apply AWP.seq) | (apply AWP.region; exact rfl) | (apply AWP.block) | (apply AWP.skip) | (apply AWP.exit) | (apply AWP.retF; exact rfl; exact rfl; exact rfl; exact rfl; exact lenA; exact rfl) | (apply AWP.ret) | (apply RunL.nil) | (apply RunL.on; exact rfl; exact rfl; exact rfl; exact rfl; (first | exact rfl | assumption)) | (apply RunL.noU; exact rfl; exact rfl; exact rfl; exact rfl; exact rfl; exact rfl) | (apply RunL.no; exact rfl; exact rfl; exact rfl; exact rfl; (first | exact rfl | assumption); exact rfl; exact rfl) | (refine AWP.cond _ (Rd.of rfl) (fun hc => ?_) (fun hc => ?_) <;> first | (exfalso; cases hc; done) | (have hc' := hc; (try simp only [sc, reduceCtorEq, cmpOf] at hc'); try (exfalso; omega)))
          | (
           apply AWP.drawA
           repeat' (first
             | (apply DL.cons; (try (apply OpLoc.on; exact rfl; exact rfl; exact rfl; exact rfl; (first | exact rfl | assumption))); apply ol_ev (τ := τ); exact rfl; (first | exact g1 | exact g2 | exact g3 | exact g4 | exact g5 | exact g6 | exact g7 | exact g8 | exact u1 | exact u2 | exact u3 | exact w1 | exact w2 | exact r4sameRg | exact lawake); exact rfl; exact rfl) | (apply DL.cons; exact olA; exact rfl) | (apply DL.nil; kernel_rfl) | (refine DL.split rfl rfl rfl rfl (fun hb => ?_) (fun hb => ?_) <;> have hb' := hb <;> (try simp only [sc, reduceCtorEq, cmpOf] at hb') <;> try (exfalso; omega)))
           all_goals (fail_if_success apply DL.id))
          | (refine RunL.split rfl rfl rfl rfl (fun hb => ?_) (fun hb => ?_) <;> have hb' := hb <;> (try simp only [sc, reduceCtorEq, cmpOf] at hb') <;> try (exfalso; omega)) )
        all_goals
          apply Ends.mk (.cons (.tmp rfl) .nil)
          first | done | rfl
  · clear x1
    refine evals_of_awp Tryd.func4 rfl (CallOK.of Tryd.func4 (by kernel_rfl) rfl) (Nat.le_of_ble_eq_true rfl) ?_
    rintro w R hR ⟨vs, hv⟩
    repeat' (first
      | (apply RunL.step; exact rfl; apply op_ev (τ := τ); exact rfl; (first | exact g1 | exact g2 | exact g3 | exact g4 | exact g5 | exact g6 | exact g7 | exact g8 | exact u1 | exact u2 | exact u3 | exact w1 | exact w2 | exact r4sameRg | exact lawake); exact rfl) | (apply RunL.step; exact rfl; exact opA) | (apply RunL.hand; exact rfl; exact rfl; exact lenA; exact rfl) | (apply AWP.seq) | (apply AWP.region; exact rfl) | (apply AWP.block) | (apply AWP.skip) | (apply AWP.exit) | (apply AWP.retF; exact rfl; exact rfl; exact rfl; exact rfl; exact lenA; exact rfl) | (apply AWP.ret) | (apply RunL.nil) | (apply RunL.on; exact rfl; exact rfl; exact rfl; exact rfl; (first | exact rfl | assumption)) | (apply RunL.noU; exact rfl; exact rfl; exact rfl; exact rfl; exact rfl; exact rfl) | (apply RunL.no; exact rfl; exact rfl; exact rfl; exact rfl; (first | exact rfl | assumption); exact rfl; exact rfl) | (refine AWP.cond _ (Rd.of rfl) (fun hc => ?_) (fun hc => ?_) <;> first | (exfalso; cases hc; done) | (have hc' := hc; (try simp only [sc, reduceCtorEq, cmpOf] at hc'); try (exfalso; omega)))
      | (
       apply AWP.drawA
       repeat' (first
         | (apply DL.cons; (try (apply OpLoc.on; exact rfl; exact rfl; exact rfl; exact rfl; (first | exact rfl | assumption))); apply ol_ev (τ := τ); exact rfl; (first | exact g1 | exact g2 | exact g3 | exact g4 | exact g5 | exact g6 | exact g7 | exact g8 | exact u1 | exact u2 | exact u3 | exact w1 | exact w2 | exact r4sameRg | exact lawake); exact rfl; exact rfl) | (apply DL.cons; exact olA; exact rfl) | (apply DL.nil; kernel_rfl) | (refine DL.split rfl rfl rfl rfl (fun hb => ?_) (fun hb => ?_) <;> have hb' := hb <;> (try simp only [sc, reduceCtorEq, cmpOf] at hb') <;> try (exfalso; omega)))
       all_goals (fail_if_success apply DL.id))
      | (refine RunL.split rfl rfl rfl rfl (fun hb => ?_) (fun hb => ?_) <;> have hb' := hb <;> (try simp only [sc, reduceCtorEq, cmpOf] at hb') <;> try (exfalso; omega)) )
    all_goals
      apply Ends.mk (.cons (.tmp rfl) .nil)
      first | done | rfl
end Go.Proofs.YtmefecfkajjajaaDoor.K
