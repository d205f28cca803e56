/- Walks: integer.Print, Norm, Sub, Int64 and their references. -/
import Derived.Test.YtmefecfkajjajaaDoorWalkU
namespace Go.Proofs.YtmefecfkajjajaaDoor.K
open Go
set_option linter.unusedVariables false
set_option linter.unusedSimpArgs false

/-- an integer's digits, with its sign -/
def intS (x : Int) : List UInt8 := if x < 0 then 45 :: decD x.natAbs else decD x.natAbs
section
variable {p q : Bool} {a b : List Int} {x y : Int} {k m : Nat}
theorem decD_le' {x : Int} {k : Nat} (h0 : 0 ≤ x) (h : x < 4294967296 ^ k) : (decD x).length ≤ 10 * k + 1 := by
  rcases Int.lt_or_eq_of_le h0 with h1 | h1
  · have := decD_le_limbs h1 h; omega
  · rw [← h1, decD_zero]; simp
theorem cat45 {l : List UInt8} (h : l.length ≤ 100000000000000) : (⟨#[45]⟩ : ByteArray).data.toList.length + l.length ≤ maxLen := by
  rw [show (⟨#[45]⟩ : ByteArray).data.toList.length = 1 from rfl]
  simp only [maxLen]
  omega
theorem ciprint [h : IA p a x k] (hk : k ≤ 1000000000000 := by first | omega | (simp only [List.length_cons, List.length_nil, List.length_set, List.length_replicate, List.length_append, List.length_take, List.length_drop]; omega)) : Evals Tryd.prog 56 [.agg [.bool p, .ints .u32 a]] (.str (intS x)) := by
  refine evals_of_awp Tryd.func56 rfl (CallOK.of Tryd.func56 (by kernel_rfl) rfl) (Nat.le_of_ble_eq_true rfl) ?_
  rintro w R hR ⟨vs, hv⟩
  obtain ⟨_, ha⟩ := hv.sint 0 rfl
  have e1 := h.v
  have l1 := h.hl
  have va := val_nonneg ha
  have e2 : (x.natAbs : Int) = val a := by rw [← e1]; exact sI_natAbs ha
  have h45 : (⟨#[45]⟩ : ByteArray).data.toList.length = 1 := rfl
  have h45' : (#[45] : Array UInt8).toList.length = 1 := rfl
  have e3 : (decD (val a)).length ≤ 10 * k + 1 := decD_le' va (Int.lt_of_lt_of_le (val_lt ha) (pow_mono l1))
  repeat' (first
    | (apply RunL.step; exact rfl; first | (apply op_cat; exact Rd.of rfl; exact Rd.of rfl; exact cat45 (by omega); exact rfl) | fail) | (apply RunL.step; exact rfl; apply op_ev (τ := τ); exact rfl; (first | exact nprint | exact cmake | exact cineg | exact cisign | exact cicmp | exact ciadd | exact cimul | exact cidiv | exact cidiv0 | exact iof_ev _ | exact cnorm | exact ctrim | exact ccmp | exact of_ev _ | exact cadd | exact csub | exact cmul | exact cdiv | exact cdiv0 | exact cgcd); exact rfl) | (apply RunL.step; exact rfl; exact opA) | (apply RunL.hand; exact rfl; exact rfl; exact lenA; exact rfl) | (apply AWP.seq) | (apply AWP.region; exact rfl) | (apply AWP.block) | (apply AWP.skip) | (apply AWP.exit) | (apply AWP.retF; exact rfl; exact rfl; exact rfl; exact rfl; exact lenA; exact rfl) | (apply AWP.ret) | (apply RunL.nil) | (apply RunL.on; exact rfl; exact rfl; exact rfl; exact rfl; (first | exact rfl | assumption)) | (apply RunL.noU; exact rfl; exact rfl; exact rfl; exact rfl; exact rfl; exact rfl) | (apply RunL.no; exact rfl; exact rfl; exact rfl; exact rfl; (first | exact rfl | assumption); exact rfl; exact rfl) | (refine AWP.cond _ (Rd.of rfl) (fun hc => ?_) (fun hc => ?_) <;> first | (exfalso; cases hc; done) | (have hc' := hc; (try simp only [sc, reduceCtorEq, cmpOf] at hc'); try (exfalso; omega)))
    | (
     apply AWP.drawA
     repeat' (first
       | (apply DL.cons; (try (apply OpLoc.on; exact rfl; exact rfl; exact rfl; exact rfl; (first | exact rfl | assumption))); apply ol_ev (τ := τ); exact rfl; (first | exact nprint | exact cmake | exact cineg | exact cisign | exact cicmp | exact ciadd | exact cimul | exact cidiv | exact cidiv0 | exact iof_ev _ | exact cnorm | exact ctrim | exact ccmp | exact of_ev _ | exact cadd | exact csub | exact cmul | exact cdiv | exact cdiv0 | exact cgcd); exact rfl; exact rfl) | (apply DL.cons; exact olA; exact rfl) | (apply DL.nil; kernel_rfl) | (refine DL.split rfl rfl rfl rfl (fun hb => ?_) (fun hb => ?_) <;> have hb' := hb <;> (try simp only [sc, reduceCtorEq, cmpOf] at hb') <;> try (exfalso; omega)))
     all_goals (fail_if_success apply DL.id))
    | (refine RunL.split rfl rfl rfl rfl (fun hb => ?_) (fun hb => ?_) <;> have hb' := hb <;> (try simp only [sc, reduceCtorEq, cmpOf] at hb') <;> try (exfalso; omega)) )
  · apply Ends.mk (.cons (.tmp rfl) .nil)
    have hx : x < 0 := by
      unfold cmpI at hc'
      split at hc'
      · assumption
      · split at hc' <;> omega
    show D.str _ = _
    rw [intS, if_pos hx, e2]; rfl
  · apply Ends.mk (.cons (.tmp rfl) .nil)
    have hx : ¬ x < 0 := by
      unfold cmpI at hc'
      split at hc' <;> omega
    show D.str _ = _
    rw [intS, if_neg hx, e2]
/-- a number that fits into 64 bits, and whether it does -/
theorem limbs_two {x : Int} (h : 0 ≤ x) : (limbs x).length ≤ 2 ↔ x < 18446744073709551616 := by
  constructor
  · intro h1
    have h2 := val_lt (Lim.limbs x)
    rw [val_limbs h] at h2
    have h3 := pow_mono h1
    have e : (4294967296 : Int) ^ 2 = 18446744073709551616 := by decide
    omega
  · intro h1
    exact limbs_length_le (k := 2) (by have e : (4294967296 : Int) ^ 2 = 18446744073709551616 := by decide
                                       omega)
theorem limbs_parts {x : Int} (h : 0 ≤ x) (h2 : x < 18446744073709551616) : x = ix (limbs x) 0 + 4294967296 * ix (limbs x) 1 := by
  have h3 := (limbs_two h).2 h2
  have e := val_limbs h
  generalize limbs x = l at h3 e
  match l, h3 with
  | [], _ => simp [val] at e; simp [ix]; omega
  | [c], _ => simp [val] at e; simp [ix]; omega
  | [c, d], _ => simp [val] at e; simp [ix]; omega
/-- a number that fits into an int64 -/
def fits (x : Int) : Prop := -9223372036854775808 ≤ x ∧ x < 9223372036854775808
instance (x : Int) : Decidable (fits x) := inferInstanceAs (Decidable (_ ∧ _))
theorem fits_yes {x : Int} (h : -9223372036854775808 ≤ x ∧ x < 9223372036854775808) : (if fits x then x else 0) = x ∧ decide (fits x) = true := ⟨if_pos h, decide_eq_true h⟩
theorem fits_no {x : Int} (h : ¬ (-9223372036854775808 ≤ x ∧ x < 9223372036854775808)) : (if fits x then x else 0) = 0 ∧ decide (fits x) = false := ⟨if_neg h, decide_eq_false h⟩
end
end Go.Proofs.YtmefecfkajjajaaDoor.K
