/- The laws of layer 2 (examboardlaw02). -/
import Derived.Test.YtffcpgebgoineaaDoorWalkV
import Derived.Test.YtffcpgebgoineaaDoorWalkT
import Derived.Test.YtffcpgebgoineaaDoorLawR
import Derived.Test.YtffcpgebgoineaaDoorPost
namespace Go.Proofs.YtffcpgebgoineaaDoor.K
open Go
set_option linter.unusedVariables false
set_option linter.unusedSimpArgs false

set_option maxHeartbeats 1000000 in
theorem isame0 (n : Bool) (a : List Int) (m : Bool) (b : List Int) : Evals Tryd.prog 6 [.agg [.bool n, .ints .u32 a], .agg [.bool m, .ints .u32 b]] (.bool (decide (n = m ∧ a = b))) := by
  refine evals_of_awp Tryd.func6 rfl (CallOK.of Tryd.func6 (by kernel_rfl) rfl) (Nat.le_of_ble_eq_true rfl) ?_
  rintro w R hR ⟨vs, hv⟩
  obtain ⟨_, ha⟩ := hv.sint 0 rfl
  obtain ⟨_, hB⟩ := hv.sint 1 rfl
  have hla : a.length ≤ 9223372036854775807 := by assumption
  repeat' (first
    | (apply RunL.step; exact rfl; exact opA) | (apply RunL.hand; exact rfl; exact rfl; exact lenA; exact rfl) | (apply AWP.seq) | (apply AWP.region; exact rfl) | (apply AWP.block) | (apply AWP.skip) | (apply AWP.exit) | (apply AWP.retF; exact rfl; exact rfl; exact rfl; exact rfl; exact lenA; exact rfl) | (apply AWP.ret) | (apply RunL.nil) | (apply RunL.on; exact rfl; exact rfl; exact rfl; exact rfl; (first | exact rfl | assumption)) | (apply RunL.noU; exact rfl; exact rfl; exact rfl; exact rfl; exact rfl; exact rfl) | (apply RunL.no; exact rfl; exact rfl; exact rfl; exact rfl; (first | exact rfl | assumption); exact rfl; exact rfl) | (refine AWP.cond _ (Rd.of rfl) (fun hc => ?_) (fun hc => ?_) <;> first | (exfalso; cases hc; done) | (have hc' := hc; (try simp only [sc, reduceCtorEq, cmpOf] at hc'); try (exfalso; omega)))
    | (
     apply AWP.drawA
     repeat' (first
       | (apply DL.cons; (try (apply OpLoc.on; exact rfl; exact rfl; exact rfl; exact rfl; (first | exact rfl | assumption))); apply ol_ev (τ := τ); exact rfl; (fail); exact rfl; exact rfl) | (apply DL.cons; exact olA; exact rfl) | (apply DL.nil; kernel_rfl) | (refine DL.split rfl rfl rfl rfl (fun hb => ?_) (fun hb => ?_) <;> have hb' := hb <;> (try simp only [sc, reduceCtorEq, cmpOf] at hb') <;> try (exfalso; omega)))
     all_goals (fail_if_success apply DL.id))
    | (refine RunL.split rfl rfl rfl rfl (fun hb => ?_) (fun hb => ?_) <;> have hb' := hb <;> (try simp only [sc, reduceCtorEq, cmpOf] at hb') <;> try (exfalso; omega)) )
  · apply Ends.mk (.cons (.tmp rfl) .nil)
    rw [decide_eq_false (fun h => by have := h.2; subst this; omega)]; rfl
  · refine AWP.loop (ι := Int) (fun i => ⟨[(2, .pb 2 0), (3, .pb 3 0), (22, .val (.int .i64 a.length)), (23, .val (.int .i64 i))], [(2, .cells 25 [.bool n, .ints .u32 a]), (3, .cells 25 [.bool m, .ints .u32 b])]⟩) (fun i => 0 ≤ i ∧ i ≤ a.length ∧ ∀ j : Nat, j < i.toNat → ix a j = ix b j) (fun i => a.length - i.toNat) 0 ⟨by omega, by omega, fun j h => by omega⟩ (St.Le.of (by repeat' (first | exact all_nil | refine all_cons rfl ?_)) (by repeat' (first | exact all_nil | refine all_cons rfl ?_))) ?_
    rintro i ⟨k1, k2, k3⟩
    have q1 := ha.ix i
    have q2 := hB.ix i
    by_cases hi : i < a.length
    · repeat' (first
      | (apply RunL.step; exact rfl; exact opA) | (apply RunL.hand; exact rfl; exact rfl; exact lenA; exact rfl) | (apply AWP.seq) | (apply AWP.region; exact rfl) | (apply AWP.block) | (apply AWP.skip) | (apply AWP.exit) | (apply AWP.retF; exact rfl; exact rfl; exact rfl; exact rfl; exact lenA; exact rfl) | (apply AWP.ret) | (apply RunL.nil) | (apply RunL.on; exact rfl; exact rfl; exact rfl; exact rfl; (first | exact rfl | assumption)) | (apply RunL.noU; exact rfl; exact rfl; exact rfl; exact rfl; exact rfl; exact rfl) | (apply RunL.no; exact rfl; exact rfl; exact rfl; exact rfl; (first | exact rfl | assumption); exact rfl; exact rfl) | (refine AWP.cond _ (Rd.of rfl) (fun hc => ?_) (fun hc => ?_) <;> first | (exfalso; cases hc; done) | (have hc' := hc; (try simp only [sc, reduceCtorEq, cmpOf] at hc'); try (exfalso; omega)))
      | (
       apply AWP.drawA
       repeat' (first
         | (apply DL.cons; (try (apply OpLoc.on; exact rfl; exact rfl; exact rfl; exact rfl; (first | exact rfl | assumption))); apply ol_ev (τ := τ); exact rfl; (fail); exact rfl; exact rfl) | (apply DL.cons; exact olA; exact rfl) | (apply DL.nil; kernel_rfl) | (refine DL.split rfl rfl rfl rfl (fun hb => ?_) (fun hb => ?_) <;> have hb' := hb <;> (try simp only [sc, reduceCtorEq, cmpOf] at hb') <;> try (exfalso; omega)))
       all_goals (fail_if_success apply DL.id))
      | (refine RunL.split rfl rfl rfl rfl (fun hb => ?_) (fun hb => ?_) <;> have hb' := hb <;> (try simp only [sc, reduceCtorEq, cmpOf] at hb') <;> try (exfalso; omega)) )
      · apply Ends.mk (.cons (.tmp rfl) .nil)
        rw [decide_eq_false (fun h => by have := h.2; subst this; omega)]; rfl
      · refine ⟨_, St.Le.of (by repeat' (first | exact all_nil | refine all_cons rfl ?_)) (by repeat' (first | exact all_nil | refine all_cons rfl ?_)), ⟨by omega, by omega, fun j hj => ?_⟩, by omega⟩
        by_cases h : j < i.toNat
        · exact k3 j h
        · rw [show (j : Int) = i by omega]; omega
    · repeat' (first
      | (apply RunL.step; exact rfl; exact opA) | (apply RunL.hand; exact rfl; exact rfl; exact lenA; exact rfl) | (apply AWP.seq) | (apply AWP.region; exact rfl) | (apply AWP.block) | (apply AWP.skip) | (apply AWP.exit) | (apply AWP.retF; exact rfl; exact rfl; exact rfl; exact rfl; exact lenA; exact rfl) | (apply AWP.ret) | (apply RunL.nil) | (apply RunL.on; exact rfl; exact rfl; exact rfl; exact rfl; (first | exact rfl | assumption)) | (apply RunL.noU; exact rfl; exact rfl; exact rfl; exact rfl; exact rfl; exact rfl) | (apply RunL.no; exact rfl; exact rfl; exact rfl; exact rfl; (first | exact rfl | assumption); exact rfl; exact rfl) | (refine AWP.cond _ (Rd.of rfl) (fun hc => ?_) (fun hc => ?_) <;> first | (exfalso; cases hc; done) | (have hc' := hc; (try simp only [sc, reduceCtorEq, cmpOf] at hc'); try (exfalso; omega)))
      | (
       apply AWP.drawA
       repeat' (first
         | (apply DL.cons; (try (apply OpLoc.on; exact rfl; exact rfl; exact rfl; exact rfl; (first | exact rfl | assumption))); apply ol_ev (τ := τ); exact rfl; (fail); exact rfl; exact rfl) | (apply DL.cons; exact olA; exact rfl) | (apply DL.nil; kernel_rfl) | (refine DL.split rfl rfl rfl rfl (fun hb => ?_) (fun hb => ?_) <;> have hb' := hb <;> (try simp only [sc, reduceCtorEq, cmpOf] at hb') <;> try (exfalso; omega)))
       all_goals (fail_if_success apply DL.id))
      | (refine RunL.split rfl rfl rfl rfl (fun hb => ?_) (fun hb => ?_) <;> have hb' := hb <;> (try simp only [sc, reduceCtorEq, cmpOf] at hb') <;> try (exfalso; omega)) )
      apply Ends.mk (.cons (.tmp rfl) .nil)
      rw [decide_eq_true ⟨hb', list_ext_ix (by omega) fun j hj => k3 j (by omega)⟩]; rfl
  · apply Ends.mk (.cons (.tmp rfl) .nil)
    rw [decide_eq_false (fun h => hb' h.1)]; rfl
theorem intD_inj {x y : Int} (h1 : decide (x < 0) = decide (y < 0)) (h2 : limbs x.natAbs = limbs y.natAbs) : x = y := by
  have e1 := sI_norm x
  have e2 := sI_norm y
  rw [← e1, ← e2, h1, h2]
theorem isame (x y : Int) : Evals Tryd.prog 6 [intD x, intD y] (.bool (decide (x = y))) := by
  have := isame0 (decide (x < 0)) (limbs x.natAbs) (decide (y < 0)) (limbs y.natAbs)
  have e : decide (decide (x < 0) = decide (y < 0) ∧ limbs x.natAbs = limbs y.natAbs) = decide (x = y) :=
    decide_eq_decide.2 ⟨fun h => intD_inj h.1 h.2, fun h => by subst h; exact ⟨rfl, rfl⟩⟩
  rwa [e] at this
theorem isame_eq {x y : Int} (h : x = y := by first | rfl | grind) : Evals Tryd.prog 6 [intD x, intD y] (.bool true) := by
  have := isame x y
  rwa [decide_eq_true h] at this
/-- 0, as a composite literal of a struct writes it -/
theorem isame_zero {x : Int} (h : x = 0) : Evals Tryd.prog 6 [intD x, .agg [.bool false, .ints .u32 []]] (.bool true) := by
  have := isame_eq h
  rwa [intD_zero] at this
theorem intS_m4 : intS (-4) = [45, 52] := by
  rw [intS, if_pos (by omega), show (((-4 : Int).natAbs : Nat) : Int) = 4 from rfl, decD_small (by omega) (by omega)]; rfl
theorem intS_1 : intS 1 = [49] := by
  rw [intS, if_neg (by omega), show (((1 : Int).natAbs : Nat) : Int) = 1 from rfl, decD_small (by omega) (by omega)]; rfl
theorem intS_m12 : intS (-12) = [45, 49, 50] := by
  rw [intS, if_pos (by omega), show (((-12 : Int).natAbs : Nat) : Int) = 12 from rfl, decD_big (by omega), show (12 : Int) / 10 = 1 from rfl, decD_small (by omega) (by omega)]; rfl
set_option maxHeartbeats 2000000 in
theorem iawake : Evals Tryd.prog 15 [] (.bool true) := by
  refine evals_of_awp Tryd.func15 rfl (CallOK.of Tryd.func15 (by kernel_rfl) rfl) (Nat.le_of_ble_eq_true rfl) ?_
  rintro w R hR ⟨vs, hv⟩
  have s7 : SzI (-7) 2 := SzI.i64 (by omega)
  have s2 : SzI 2 2 := SzI.i64 (by omega)
  have s4 : SzI (-4) 2 := SzI.i64 (by omega)
  have s5 : SzI (-4294967296) 2 := SzI.i64 (by omega)
  have v1 : Int.fdiv (-7) 2 = -4 := by decide
  have v2 : Int.fmod (-7) 2 = 1 := by decide
  have v3 : intV [45, 49, 50] = -12 := by decide
  have v4 : intE [45, 49, 50] = 0 := by decide
  have h1 : cmpStr .eql (intS (Int.fdiv (-7) 2)) [45, 52] = true := by rw [v1, intS_m4]; rfl
  have h2 : cmpStr .eql (intS (Int.fmod (-7) 2)) [49] = true := by rw [v2, intS_1]; rfl
  have h3 : cmpStr .eql (intS (intV [45, 49, 50])) [45, 49, 50] = true := by rw [v3, intS_m12]; rfl
  have h4 : cmpOf .eql (intE [45, 49, 50]) 0 = true := by rw [v4]; rfl
  have h5 : cmpOf .eql (if fits (-4 * -4294967296) then -4 * -4294967296 else 0) 17179869184 = true := by decide
  have h6 : decide (fits (-4 * -4294967296)) = true := by decide
  have h7 : cmpOf .eql (cmpI (intV [45, 49, 50]) (Int.fmod (-7) 2)) (-1) = true := by rw [v3, v2]; decide
  repeat' (first
    | (apply RunL.step; exact rfl; apply op_ev (τ := τ); exact rfl; (first | exact iparse _ | exact ciprint | exact cint64 | exact cmake | exact cineg | exact cisign | exact cicmp | exact ciadd | exact cimul | exact cidiv | exact cidiv0 | exact iof_ev _); exact rfl) | (apply RunL.step; exact rfl; exact opA) | (apply RunL.hand; exact rfl; exact rfl; exact lenA; exact rfl) | (apply AWP.seq) | (apply AWP.region; exact rfl) | (apply AWP.block) | (apply AWP.skip) | (apply AWP.exit) | (apply AWP.retF; exact rfl; exact rfl; exact rfl; exact rfl; exact lenA; exact rfl) | (apply AWP.ret) | (apply RunL.nil) | (apply RunL.on; exact rfl; exact rfl; exact rfl; exact rfl; (first | exact rfl | assumption)) | (apply RunL.noU; exact rfl; exact rfl; exact rfl; exact rfl; exact rfl; exact rfl) | (apply RunL.no; exact rfl; exact rfl; exact rfl; exact rfl; (first | exact rfl | assumption); exact rfl; exact rfl) | (refine AWP.cond _ (Rd.of rfl) (fun hc => ?_) (fun hc => ?_) <;> first | (exfalso; cases hc; done) | (have hc' := hc; (try simp only [sc, reduceCtorEq, cmpOf] at hc'); try (exfalso; omega)))
    | (
     apply AWP.drawA
     repeat' (first
       | (apply DL.cons; (try (apply OpLoc.on; exact rfl; exact rfl; exact rfl; exact rfl; (first | exact rfl | assumption))); apply ol_ev (τ := τ); exact rfl; (first | exact iparse _ | exact ciprint | exact cint64 | exact cmake | exact cineg | exact cisign | exact cicmp | exact ciadd | exact cimul | exact cidiv | exact cidiv0 | exact iof_ev _); exact rfl; exact rfl) | (apply DL.cons; exact olA; exact rfl) | (apply DL.nil; kernel_rfl) | (refine DL.split rfl rfl rfl rfl (fun hb => ?_) (fun hb => ?_) <;> have hb' := hb <;> (try simp only [sc, reduceCtorEq, cmpOf] at hb') <;> try (exfalso; omega)))
     all_goals (fail_if_success apply DL.id))
    | (refine RunL.split rfl rfl rfl rfl (fun hb => ?_) (fun hb => ?_) <;> have hb' := hb <;> (try simp only [sc, reduceCtorEq, cmpOf] at hb') <;> try (exfalso; omega)) )
  apply Ends.mk (.cons (.tmp rfl) .nil)
  show D.bool (cmpOf .eql (cmpI (intV [45, 49, 50]) (Int.fmod (-7) 2)) (-1)) = _
  rw [h7]
end Go.Proofs.YtffcpgebgoineaaDoor.K
namespace Go.Proofs.YtffcpgebgoineaaDoor.K
open Go
set_option linter.unusedVariables false
set_option linter.unusedSimpArgs false

theorem decD_ind {p : Int → Prop} (h1 : ∀ x, 0 ≤ x → x < 10 → p x) (h2 : ∀ x, 10 ≤ x → p (x / 10) → p x) (x : Int) (hx : 0 ≤ x) : p x := by
  obtain ⟨n, hn⟩ : ∃ n : Nat, x.toNat ≤ n := ⟨_, Nat.le_refl _⟩
  induction n generalizing x with
  | zero => exact h1 x hx (by omega)
  | succ n ih =>
    by_cases h : x < 10
    · exact h1 x hx h
    · exact h2 x (by omega) (ih (x / 10) (by omega) (by omega))
theorem decV_decD {x : Int} (hx : 0 ≤ x) : decV (decD x) = x := by
  refine decD_ind (p := fun x => decV (decD x) = x) (fun x h0 h => ?_) (fun x h ih => ?_) x hx
  · rw [decD_small h0 h]
    have := digit_byte h0 h
    simp only [decV, List.foldl_cons, List.foldl_nil]; omega
  · rw [decD_big h, decV_snoc, ih, digit_byte (by omega) (by omega)]; omega
theorem decD_digits {x : Int} (hx : 0 ≤ x) : ∀ c ∈ decD x, digB c = true := by
  refine decD_ind (p := fun x => ∀ c ∈ decD x, digB c = true) (fun x h0 h c hc => ?_) (fun x h ih c hc => ?_) x hx
  · rw [decD_small h0 h] at hc
    rw [List.mem_singleton.1 hc]
    have := digit_byte h0 h
    exact decide_eq_true (by omega)
  · rw [decD_big h] at hc
    rcases List.mem_append.1 hc with hc | hc
    · exact ih c hc
    · rw [List.mem_singleton.1 hc]
      have := digit_byte (r := x % 10) (by omega) (by omega)
      exact decide_eq_true (by omega)
theorem decD_ne {x : Int} (hx : 0 ≤ x) : decD x ≠ [] := by
  refine decD_ind (p := fun x => decD x ≠ []) (fun x h0 h => ?_) (fun x h ih => ?_) x hx
  · rw [decD_small h0 h]; simp
  · rw [decD_big h]; simp
theorem chr_append {A B : List UInt8} (h : A ≠ []) : chr (A ++ B) 0 = chr A 0 := by
  match A, h with
  | c :: A, _ => rfl
theorem decD_head {x : Int} (hx : 0 < x) : chr (decD x) 0 ≠ 48 := by
  have := decD_ind (p := fun x => 0 < x → chr (decD x) 0 ≠ 48) (fun x h0 h hp => by
    rw [decD_small h0 h]
    have := digit_byte h0 h
    show ((UInt8.ofNat (48 + x.toNat)).toNat : Int) ≠ 48
    omega) (fun x h ih hp => by
    rw [decD_big h, chr_append (decD_ne (by omega))]
    exact ih (by omega)) x (by omega)
  exact this hx
theorem decD_long {x : Int} (hx : 0 ≤ x) (h : 1 < (decD x).length) : 0 < x := by
  rcases Int.lt_or_eq_of_le hx with h1 | h1
  · exact h1
  · rw [← h1, decD_zero] at h; simp at h
theorem nat_print {x : Int} (hx : 0 ≤ x) : natE (decD x) = (if 400 < (decD x).length then 5 else 0) ∧ natV (decD x) = (if 400 < (decD x).length then 0 else x) := by
  have h0 := decD_ne hx
  have h1 : ¬ (1 < (decD x).length ∧ chr (decD x) 0 = 48) := fun h => decD_head (decD_long hx h.1) h.2
  have h2 := all_digits.1 (List.all_eq_true.2 (decD_digits hx))
  by_cases h : 400 < (decD x).length
  · have e := natE_long h0 h1 h2 h
    rw [if_pos h, if_pos h]
    exact ⟨e, by rw [natV, if_neg (by omega)]⟩
  · have e := natE_ok h0 h1 h2 (by omega)
    rw [if_neg h, if_neg h, e.2, decV_decD hx]
    exact ⟨e.1, rfl⟩
theorem print_nat {l : List UInt8} (h : natE l = 0) : decD (natV l) = l := by
  rw [natV, if_pos h]
  obtain ⟨h1, h2, h3, h4⟩ := natE_zero h
  clear h
  have key : ∀ (n : Nat) (l : List UInt8), l.length = n → l ≠ [] → ¬ (1 < l.length ∧ chr l 0 = 48) → l.all digB = true → decD (decV l) = l ∧ 0 ≤ decV l ∧ (chr l 0 ≠ 48 → 0 < decV l) := by
    intro n
    induction n with
    | zero => intro l hn h1; exact absurd (List.eq_nil_of_length_eq_zero hn) h1
    | succ n ih =>
      intro l hn h1 h2 h3
      obtain ⟨A, c, rfl⟩ : ∃ A c, l = A ++ [c] := ⟨l.dropLast, l.getLast h1, (List.dropLast_concat_getLast h1).symm⟩
      have hc := of_decide_eq_true (List.all_eq_true.1 h3 c (by simp))
      have hA : A.all digB = true := List.all_eq_true.2 fun x hx => List.all_eq_true.1 h3 x (by simp [hx])
      have ec : UInt8.ofNat (48 + ((c.toNat : Int) - 48).toNat) = c := by
        apply UInt8.toNat_inj.1
        have := digit_byte (r := (c.toNat : Int) - 48) (by omega) (by omega)
        omega
      rw [decV_snoc]
      by_cases hA0 : A = []
      · subst hA0
        have e0 : decV [] = 0 := rfl
        rw [e0]
        refine ⟨?_, by omega, fun h => ?_⟩
        · rw [decD_small (by omega) (by omega), Int.zero_mul, Int.zero_add, ec]; rfl
        · have h : (c.toNat : Int) ≠ 48 := h
          omega
      · have h48 : chr A 0 ≠ 48 := fun e => h2 ⟨by have := List.length_pos_iff.2 hA0; simp; omega, by rw [chr_append hA0]; exact e⟩
        obtain ⟨i1, i2, i3⟩ := ih A (by simp at hn; omega) hA0 (fun h => h48 h.2) hA
        have := i3 h48
        refine ⟨?_, by omega, fun _ => by omega⟩
        rw [decD_big (by omega), show (decV A * 10 + ((c.toNat : Int) - 48)) / 10 = decV A by omega, show (decV A * 10 + ((c.toNat : Int) - 48)) % 10 = (c.toNat : Int) - 48 by omega, i1, ec]
  exact (key _ l rfl h1 h2 h3).1
theorem print_int {l : List UInt8} (h : intE l = 0) : intS (intV l) = l := by
  have hE : natE (body l) = 0 := by
    by_cases h1 : natE (body l) = 0
    · exact h1
    · exact absurd ((intP_bad h1).1.symm.trans h) h1
  cases hm : hasMinus l
  · rw [(intP_plain hm hE).2, body_plain hm]
    rw [body_plain hm] at hE
    have h0 := natV_nonneg l
    rw [intS, if_neg (by omega), show (((natV l).natAbs : Nat) : Int) = natV l by omega, print_nat hE]
  · by_cases h0 : natV (body l) = 0
    · have := (intP_zero hm hE h0).1; omega
    · rw [(intP_minus hm hE h0).2]
      have h1 := natV_nonneg (body l)
      rw [intS, if_pos (by omega), show (((-natV (body l)).natAbs : Nat) : Int) = natV (body l) by omega, print_nat hE, body_minus hm]
      obtain ⟨h1, h2⟩ := hasMinus_iff.1 hm
      match l, h1, h2 with
      | c :: r, _, h2 =>
        have : c = 45 := by
          apply UInt8.toNat_inj.1
          have h3 : (c.toNat : Int) = 45 := by simpa [chr, ixb] using h2
          simpa using (show c.toNat = 45 by omega)
        subst this; rfl
theorem decD_minus {x : Int} (hx : 0 ≤ x) : hasMinus (decD x) = false := hasMinus_not.2 fun h => by
  have h2 := all_digits.1 (List.all_eq_true.2 (decD_digits hx)) 0 (by have := List.length_pos_iff.2 h.1; omega)
  have h3 := h.2
  rw [show ((0 : Nat) : Int) = 0 from rfl] at h2
  omega
theorem int_print (x : Int) : intE (intS x) = (if 400 < (decD x.natAbs).length then 5 else 0) ∧ intV (intS x) = (if 400 < (decD x.natAbs).length then 0 else x) := by
  have hp := nat_print (x := x.natAbs) (by omega)
  by_cases hx : x < 0
  · have e : intS x = 45 :: decD x.natAbs := by rw [intS, if_pos hx]
    have hm : hasMinus (intS x) = true := by rw [e]; exact hasMinus_iff.2 ⟨by simp, rfl⟩
    have hb : body (intS x) = decD x.natAbs := by rw [body_minus hm, e]; rfl
    by_cases h : 400 < (decD x.natAbs).length
    · rw [if_pos h, if_pos h] at hp
      rw [if_pos h, if_pos h]
      have := intP_bad (l := intS x) (by rw [hb]; omega)
      rw [hb] at this; exact ⟨by omega, this.2⟩
    · rw [if_neg h, if_neg h] at hp
      rw [if_neg h, if_neg h]
      have := intP_minus hm (by rw [hb]; omega) (by rw [hb]; omega)
      rw [hb] at this; exact ⟨this.1, by omega⟩
  · have e : intS x = decD x.natAbs := by rw [intS, if_neg hx]
    have hm : hasMinus (intS x) = false := by rw [e]; exact decD_minus (by omega)
    have hb : body (intS x) = decD x.natAbs := by rw [body_plain hm, e]
    by_cases h : 400 < (decD x.natAbs).length
    · rw [if_pos h, if_pos h] at hp
      rw [if_pos h, if_pos h]
      have := intP_bad (l := intS x) (by rw [hb]; omega)
      rw [hb] at this; exact ⟨by omega, this.2⟩
    · rw [if_neg h, if_neg h] at hp
      rw [if_neg h, if_neg h]
      have := intP_plain hm (by rw [hb]; omega)
      rw [hb] at this; exact ⟨this.1, by omega⟩

/-- a ratio's digits -/
def ratS (q : Rat) : List UInt8 := if (q.den : Int) = 1 then intS q.num else intS q.num ++ 47 :: decD q.den
theorem no_slash (x : Int) (k : Nat) : (intS x)[k]? ≠ some 47 := fun h => by
  have h1 := List.mem_of_getElem? h
  have h2 : (47 : UInt8) ∈ decD x.natAbs := by
    unfold intS at h1
    split at h1
    · rcases List.mem_cons.1 h1 with h3 | h3
      · exact absurd h3 (by decide)
      · exact h3
    · exact h1
  exact absurd (decD_digits (by omega) _ h2) (by decide)
theorem rat_print {q : Rat} (h1 : (decD q.num.natAbs).length ≤ 400) (h2 : (decD q.den).length ≤ 400) : ratP (ratS q) = (0, q) := by
  obtain ⟨i1, i2⟩ := int_print q.num
  rw [if_neg (by omega)] at i1 i2
  obtain ⟨n1, n2⟩ := nat_print (x := q.den) (by omega)
  rw [if_neg (by omega)] at n1 n2
  have hd : q.den ≠ 0 := q.den_nz
  unfold ratS
  split
  · rename_i hd1
    have e : ¬ 0 ≤ idx1 (intS q.num) 47 := by
      rcases idx1_cases (intS q.num) 47 with h | h
      · omega
      · exact absurd h.2.2.1 (no_slash _ _)
    rw [ratP, if_neg e, if_neg (by omega), i2, ← hd1, rat_self]
  · have e : idx1 (intS q.num ++ 47 :: decD q.den) 47 = (intS q.num).length :=
      idx1_eq (by simp) (fun k hk => by rw [List.getElem?_append_left hk]; exact no_slash _ _)
    rw [ratP, e, if_pos (by omega)]
    have e1 : (intS q.num ++ 47 :: decD q.den).take (((intS q.num).length : Nat) : Int).toNat = intS q.num := by
      rw [Int.toNat_natCast, List.take_left]
    have e2 : (intS q.num ++ 47 :: decD q.den).drop ((((intS q.num).length : Nat) : Int).toNat + 1) = decD q.den := by
      rw [Int.toNat_natCast, List.drop_append]; simp
    simp only [e1, e2]
    rw [if_neg (by omega), if_neg (by omega), if_neg (by omega), i2, n2, rat_self]
end Go.Proofs.YtffcpgebgoineaaDoor.K
namespace Go.Proofs.YtffcpgebgoineaaDoor.K
open Go
set_option linter.unusedVariables false
set_option linter.unusedSimpArgs false

theorem cmpI_swap (x y : Int) : cmpI y x = - cmpI x y := by
  rcases cmpI_cases x y with h | h | h <;> rcases cmpI_cases y x with g | g | g <;> omega
theorem cmpI_sub (x y : Int) : cmpI (x - y) 0 = cmpI x y := by
  rcases cmpI_cases x y with h | h | h <;> rcases cmpI_cases (x - y) 0 with g | g | g <;> omega
theorem cmpI_add (x y z : Int) : cmpI (x + z) (y + z) = cmpI x y := by
  rcases cmpI_cases x y with h | h | h <;> rcases cmpI_cases (x + z) (y + z) with g | g | g <;> omega
theorem cmpI_mul (x y z : Int) : cmpI (x * z) (y * z) = cmpI x y * cmpI z 0 := by
  rcases cmpI_cases z 0 with ⟨g, g2⟩ | ⟨g, g2⟩ | ⟨g, g2⟩
  · rcases cmpI_cases x y with ⟨h, h2⟩ | ⟨h, h2⟩ | ⟨h, h2⟩
    · have := Int.mul_lt_mul_of_neg_right h g
      rw [g2, h2]; rcases cmpI_cases (x * z) (y * z) with k | k | k <;> omega
    · subst h; rw [g2, h2]; rcases cmpI_cases (x * z) (x * z) with k | k | k <;> omega
    · have := Int.mul_lt_mul_of_neg_right h g
      rw [g2, h2]; rcases cmpI_cases (x * z) (y * z) with k | k | k <;> omega
  · subst g; rw [g2, Int.mul_zero, Int.mul_zero, Int.mul_zero]; exact g2
  · rcases cmpI_cases x y with ⟨h, h2⟩ | ⟨h, h2⟩ | ⟨h, h2⟩
    · have := Int.mul_lt_mul_of_pos_right h g
      rw [g2, h2]; rcases cmpI_cases (x * z) (y * z) with k | k | k <;> omega
    · subst h; rw [g2, h2]; rcases cmpI_cases (x * z) (x * z) with k | k | k <;> omega
    · have := Int.mul_lt_mul_of_pos_right h g
      rw [g2, h2]; rcases cmpI_cases (x * z) (y * z) with k | k | k <;> omega
theorem cmpI_mul0 (x y : Int) : cmpI (x * y) 0 = cmpI x 0 * cmpI y 0 := by
  have := cmpI_mul x 0 y
  rwa [Int.zero_mul] at this
theorem cmpI_eq0 (x y : Int) : cmpI x y = 0 ↔ x = y := by
  rcases cmpI_cases x y with h | h | h <;> omega
theorem IA.sz {n : Bool} {a : List Int} {x : Int} {k : Nat} (h : IA n a x k) (hl : Lim a) : SzI x k := ⟨by rw [← h.v, sI_natAbs hl]; exact Int.lt_of_lt_of_le (val_lt hl) (pow_mono h.hl)⟩
theorem NA.sz {a : List Int} {x : Int} {k : Nat} (h : NA a x k) (hl : Lim a) : SzN x k := ⟨by rw [← h.v]; exact val_nonneg hl, by rw [← h.v]; exact Int.lt_of_lt_of_le (val_lt hl) (pow_mono h.hl)⟩
theorem isame_as {x y : Int} (h : x = y := by assumption) : Evals Tryd.prog 6 [intD x, intD y] (.bool true) := isame_eq h
theorem isame_cmp (x y : Int) : Evals Tryd.prog 6 [intD x, intD y] (.bool (cmpOf .eql (cmpI x y) 0)) := by
  have := isame x y
  rwa [show decide (x = y) = cmpOf .eql (cmpI x y) 0 by
    have := cmpI_eq0 x y
    rw [Bool.eq_iff_iff]; simp [cmpOf, this]] at this
theorem isame_zz : Evals Tryd.prog 6 [intD 0, .agg [.bool false, .ints .u32 []]] (.bool true) := isame_zero rfl

set_option maxHeartbeats 2000000 in
theorem law_IntegerArithmetic (b : Bool) (a : List Int) (b' : Bool) (a' : List Int) (hb : bulkA [.agg [.bool b, .ints .u32 a], .agg [.bool b', .ints .u32 a']] ≤ 1048576) : Evals Tryd.prog 3 [.agg [.bool b, .ints .u32 a], .agg [.bool b', .ints .u32 a']] (.bool true) := by
  refine evals_of_awp Tryd.func3 rfl (CallOK.of Tryd.func3 (by kernel_rfl) rfl) (Nat.le_of_ble_eq_true rfl) ?_
  rintro w R hR ⟨vs, hv⟩
  have hl : a.length ≤ 1048576 := by simp [bulkA, D.parts, bulkL, D.bulk] at hb; omega
  have hl' : a'.length ≤ 1048576 := by simp [bulkA, D.parts, bulkL, D.bulk] at hb; omega
  obtain ⟨_, hL⟩ := hv.sint 0 rfl
  obtain ⟨_, hL'⟩ := hv.sint 1 rfl
  obtain ⟨x, i1⟩ : ∃ x, IA b a x 1048576 := ⟨_, rfl, hl⟩
  obtain ⟨y, i2⟩ : ∃ x, IA b' a' x 1048576 := ⟨_, rfl, hl'⟩
  have z1 := i1.sz hL
  have z2 := i2.sz hL'
  repeat' (first
    | (apply RunL.step; exact rfl; apply op_ev (τ := τ); exact rfl; (first | exact isame_eq | exact iawake | exact cisub | exact cmake | exact cineg | exact cisign | exact cicmp | exact ciadd | exact cimul | exact cidiv | exact cidiv0 | exact iof_ev _ | exact r2norm | exact r2make | exact r2sign | exact r2cmp | exact r2neg | exact r2add | exact r2sub | exact r2mul | exact r2div | exact r2div0 | exact r2of _); exact rfl) | (apply RunL.step; exact rfl; exact opA) | (apply RunL.hand; exact rfl; exact rfl; exact lenA; exact rfl) | (apply AWP.seq) | (apply AWP.region; exact rfl) | (apply AWP.block) | (apply AWP.skip) | (apply AWP.exit) | (apply AWP.retF; exact rfl; exact rfl; exact rfl; exact rfl; exact lenA; exact rfl) | (apply AWP.ret) | (apply RunL.nil) | (apply RunL.on; exact rfl; exact rfl; exact rfl; exact rfl; (first | exact rfl | assumption)) | (apply RunL.noU; exact rfl; exact rfl; exact rfl; exact rfl; exact rfl; exact rfl) | (apply RunL.no; exact rfl; exact rfl; exact rfl; exact rfl; (first | exact rfl | assumption); exact rfl; exact rfl) | (refine AWP.cond _ (Rd.of rfl) (fun hc => ?_) (fun hc => ?_) <;> first | (exfalso; cases hc; done) | (have hc' := hc; (try simp only [sc, reduceCtorEq, cmpOf] at hc'); try (exfalso; omega)))
    | (
     apply AWP.drawA
     repeat' (first
       | (apply DL.cons; (try (apply OpLoc.on; exact rfl; exact rfl; exact rfl; exact rfl; (first | exact rfl | assumption))); apply ol_ev (τ := τ); exact rfl; (first | exact isame_eq | exact iawake | exact cisub | exact cmake | exact cineg | exact cisign | exact cicmp | exact ciadd | exact cimul | exact cidiv | exact cidiv0 | exact iof_ev _ | exact r2norm | exact r2make | exact r2sign | exact r2cmp | exact r2neg | exact r2add | exact r2sub | exact r2mul | exact r2div | exact r2div0 | exact r2of _); exact rfl; exact rfl) | (apply DL.cons; exact olA; exact rfl) | (apply DL.nil; kernel_rfl) | (refine DL.split rfl rfl rfl rfl (fun hb => ?_) (fun hb => ?_) <;> have hb' := hb <;> (try simp only [sc, reduceCtorEq, cmpOf] at hb') <;> try (exfalso; omega)))
     all_goals (fail_if_success apply DL.id))
    | (refine RunL.split rfl rfl rfl rfl (fun hb => ?_) (fun hb => ?_) <;> have hb' := hb <;> (try simp only [sc, reduceCtorEq, cmpOf] at hb') <;> try (exfalso; omega)) )
  all_goals (apply Ends.mk (.cons (.tmp rfl) .nil); first | rfl | (simp only [pack]; congr 1; simp only [cmpOf, decide_eq_true_eq, beq_iff_eq, bne_iff_ne]; omega))
end Go.Proofs.YtffcpgebgoineaaDoor.K
namespace Go.Proofs.YtffcpgebgoineaaDoor.K
open Go
set_option linter.unusedVariables false
set_option linter.unusedSimpArgs false

theorem intS_len {x : Int} {k : Nat} [h : SzI x k] : (intS x).length ≤ 10 * k + 2 := by
  have := decD_le' (x := x.natAbs) (k := k) (by omega) h.lt
  unfold intS
  split
  · simp; omega
  · omega
theorem cat47a {l : List UInt8} (h : l.length ≤ 100000000000000) : l.length + (⟨#[47]⟩ : ByteArray).data.toList.length ≤ maxLen := by
  rw [show (⟨#[47]⟩ : ByteArray).data.toList.length = 1 from rfl]
  simp only [maxLen]
  omega
theorem cat47b {l m : List UInt8} (h : l.length + m.length ≤ 100000000000000) : (l ++ (⟨#[47]⟩ : ByteArray).data.toList).length + m.length ≤ maxLen := by
  rw [List.length_append, show (⟨#[47]⟩ : ByteArray).data.toList.length = 1 from rfl]
  simp only [maxLen]
  omega
section
variable {s : Bool} {l d : List Int} {x : Rat} {k : Nat}
end
end Go.Proofs.YtffcpgebgoineaaDoor.K
