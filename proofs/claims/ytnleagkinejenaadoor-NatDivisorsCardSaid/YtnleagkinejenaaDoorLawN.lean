/- The laws of layer 1 (examboardlaw01). -/
import Derived.Test.YtnleagkinejenaaDoorWalkW
import Derived.Test.YtnleagkinejenaaDoorWalkP
import Derived.Test.YtnleagkinejenaaDoorLawI
import Derived.Test.YtnleagkinejenaaDoorPost
namespace Go.Proofs.YtnleagkinejenaaDoor.K
open Go
set_option linter.unusedVariables false
set_option linter.unusedSimpArgs false

def w64 : List UInt8 := [49, 56, 52, 52, 54, 55, 52, 52, 48, 55, 51, 55, 48, 57, 53, 53, 49, 54, 49, 54]
theorem w64_parse : natE w64 = 0 ∧ natV w64 = 18446744073709551616 := ⟨by decide, by decide⟩
theorem print_of {l : List UInt8} {x : Int} (h : natE l = 0) (hx : natV l = x) : decD x = l := by rw [← hx, print_nat h]
theorem limbs_w64 : limbs 18446744073709551616 = [0, 0, 1] := by
  have h := trim_eq (l := [0, 0, 1]) (by intro x hx; simp at hx; omega)
  have e : val [0, 0, 1] = 18446744073709551616 := by decide
  rw [e] at h
  rw [← h]; rfl
theorem limbs_six : limbs 6 = [6] := by rw [limbs_pos (by omega)]; simp [limbs_le]
set_option maxHeartbeats 8000000 in
theorem nawake : Evals Tryd.prog 18 [] (.bool true) := by
  refine evals_of_awp Tryd.func18 rfl (CallOK.of Tryd.func18 (by kernel_rfl) rfl) (Nat.le_of_ble_eq_true rfl) ?_
  rintro w R hR ⟨vs, hv⟩
  have hp := nparse w64
  rw [w64_parse.1, w64_parse.2, limbs_w64] at hp
  have i0 : NA [0, 0, 1] 18446744073709551616 3 := ⟨by decide, by decide⟩
  have z2 : SzN 12 2 := SzN.u64 (by omega)
  have z3 : SzN 18 2 := SzN.u64 (by omega)
  have z4 : SzN 3 2 := SzN.u64 (by omega)
  have z5 : SzN 5 2 := SzN.u64 (by omega)
  have z6 : SzN 1000000007 2 := SzN.u64 (by omega)
  have z7 : SzN 998244353 2 := SzN.u64 (by omega)
  have z8 : SzN 4294967295 2 := SzN.u64 (by omega)
  have z9 : SzN 1844674407370955161 2 := SzN.u64 (by omega)
  have z10 : SzN 18446744073709551616 3 := ⟨by omega, by decide⟩
  have z11 : SzN 6 2 := SzN.u64 (by omega)
  have l0 : ([0, 0, 1] : List Int).length = 3 := rfl
  have g0 : ix [0, 0, 1] 0 = 0 := rfl
  have g1 : ix [0, 0, 1] 1 = 0 := rfl
  have g2 : ix [0, 0, 1] 2 = 1 := rfl
  have s1 : cmpStr .neq (decD 18446744073709551616) w64 = false := by rw [print_of w64_parse.1 w64_parse.2]; decide
  have b1 : bitlen 18446744073709551616 = 65 := by decide
  have hu := nuint (a := limbs (18446744073709551616 / 10)) (x := 18446744073709551616 / 10) (k := 3)
  rw [if_pos (by decide), decide_eq_true (by decide)] at hu
  have d1 : (18446744073709551616 / 10 : Int) = 1844674407370955161 := by decide
  have hsame := r1same_eq (l := limbs (18446744073709551616 % 10)) (m := [6]) (by rw [show (18446744073709551616 % 10 : Int) = 6 by decide]; exact limbs_six)
  have c1 : cmpI (18446744073709551616 / 10) 18446744073709551616 = -1 := by decide
  have hpow := npow (a := [2]) (x := 2) (k := 1) (n := 64)
  rw [if_pos (by decide), decide_eq_true (by decide), show (2 : Int) ^ (64 : Int).toNat = 18446744073709551616 by decide] at hpow
  have c2 : cmpI 18446744073709551616 18446744073709551616 = 0 := by decide
  have s2 : cmpStr .neq (decD ((Int.gcd 12 18 : Nat) : Int)) [54] = false := by rw [show ((Int.gcd 12 18 : Nat) : Int) = 6 by decide, decD_small (by omega) (by omega)]; rfl
  have s3 : cmpStr .eql (decD (5 - 3)) [50] = true := by rw [show (5 - 3 : Int) = 2 by decide, decD_small (by omega) (by omega)]; rfl
  have s4 : cmpStr .eql (decD (1000000007 * 998244353)) [57, 57, 56, 50, 52, 52, 51, 53, 57, 57, 56, 55, 55, 49, 48, 52, 55, 49] = true := by
    rw [print_of (l := [57, 57, 56, 50, 52, 52, 51, 53, 57, 57, 56, 55, 55, 49, 48, 52, 55, 49]) (by decide) (by decide)]; decide
  have s5 : cmpStr .eql (decD (4294967295 + 1)) [52, 50, 57, 52, 57, 54, 55, 50, 57, 54] = true := by
    rw [print_of (l := [52, 50, 57, 52, 57, 54, 55, 50, 57, 54]) (by decide) (by decide)]; decide
  have z12 : SzN (5 - 3) 2 := SzN.u64 (by omega)
  have i7 : NA [7, 0, 0] 7 3 := ⟨by decide, by decide⟩
  have n1 : (limbs 7).length = 1 := by rw [limbs_pos (by omega)]; simp [limbs_le]
  repeat' (first
    | (apply RunL.step; exact rfl; apply op_ev (τ := τ); exact rfl; (first | exact hp | exact hu | exact hpow | exact hsame | exact hs1 | exact hs2 | exact nbits | exact nprint | exact cnorm | exact ctrim | exact ccmp | exact of_ev _ | exact cadd | exact csub | exact cmul | exact cdiv | exact cdiv0 | exact cgcd); exact rfl) | (apply RunL.step; exact rfl; exact opA) | (apply RunL.hand; exact rfl; exact rfl; exact lenA; exact rfl) | (apply AWP.seq) | (apply AWP.region; exact rfl) | (apply AWP.block) | (apply AWP.skip) | (apply AWP.exit) | (apply AWP.retF; exact rfl; exact rfl; exact rfl; exact rfl; exact lenA; exact rfl) | (apply AWP.ret) | (apply RunL.nil) | (apply RunL.on; exact rfl; exact rfl; exact rfl; exact rfl; (first | exact rfl | assumption)) | (apply RunL.noU; exact rfl; exact rfl; exact rfl; exact rfl; exact rfl; exact rfl) | (apply RunL.no; exact rfl; exact rfl; exact rfl; exact rfl; (first | exact rfl | assumption); exact rfl; exact rfl) | (refine AWP.cond _ (Rd.of rfl) (fun hc => ?_) (fun hc => ?_) <;> first | (exfalso; cases hc; done) | (have hc' := hc; (try simp only [sc, reduceCtorEq, cmpOf] at hc'); try (exfalso; omega)))
    | (
     apply AWP.drawA
     repeat' (first
       | (apply DL.cons; (try (apply OpLoc.on; exact rfl; exact rfl; exact rfl; exact rfl; (first | exact rfl | assumption))); apply ol_ev (τ := τ); exact rfl; (first | exact hp | exact hu | exact hpow | exact hsame | exact hs1 | exact hs2 | exact nbits | exact nprint | exact cnorm | exact ctrim | exact ccmp | exact of_ev _ | exact cadd | exact csub | exact cmul | exact cdiv | exact cdiv0 | exact cgcd); exact rfl; exact rfl) | (apply DL.cons; exact olA; exact rfl) | (apply DL.nil; kernel_rfl) | (refine DL.split rfl rfl rfl rfl (fun hb => ?_) (fun hb => ?_) <;> have hb' := hb <;> (try simp only [sc, reduceCtorEq, cmpOf] at hb') <;> try (exfalso; omega)))
     all_goals (fail_if_success apply DL.id))
    | (refine RunL.split rfl rfl rfl rfl (fun hb => ?_) (fun hb => ?_) <;> have hb' := hb <;> (try simp only [sc, reduceCtorEq, cmpOf] at hb') <;> try (exfalso; omega)) )
  all_goals
    first   | (apply Ends.mk (.cons (.tmp rfl) .nil); first | rfl | (simp only [pack]; congr 1; simp only [cmpOf, decide_eq_true_eq, beq_iff_eq, bne_iff_ne]; omega))   | (exfalso; omega)   | (exfalso; grind)
end Go.Proofs.YtnleagkinejenaaDoor.K
