/- The laws of layer 45 (examboardlaw45): comparisons, the examples of the chapter. -/
import Derived.Test.YtgdejiajiljipaaDoorWalkY
import Derived.Test.YtgdejiajiljipaaDoorWalkW
import Derived.Test.YtgdejiajiljipaaDoorLawI
namespace Go.Proofs.YtgdejiajiljipaaDoor.K
open Go
set_option linter.unusedVariables false
set_option linter.unusedSimpArgs false

theorem r4sameI {x : Int} : Evals Tryd.prog 50 [intD x, intD x] (.bool true) := by
  refine evals_of_awp Tryd.func50 rfl (CallOK.of Tryd.func50 (by kernel_rfl) rfl) (Nat.le_of_ble_eq_true rfl) ?_
  rintro w R hR ⟨vs, hv⟩
  have e : (decide (x < 0) == decide (x < 0)) = true := by simp
  repeat' (first
    | (apply RunL.step; exact rfl; apply op_ev (τ := τ); exact rfl; (first | exact r1same_eq); exact rfl) | (apply RunL.step; exact rfl; exact opA) | (apply RunL.hand; exact rfl; exact rfl; exact lenA; exact rfl) | (apply AWP.seq) | (apply AWP.region; exact rfl) | (apply AWP.block) | (apply AWP.skip) | (apply AWP.exit) | (apply AWP.retF; exact rfl; exact rfl; exact rfl; exact rfl; exact lenA; exact rfl) | (apply AWP.ret) | (apply RunL.nil) | (apply RunL.on; exact rfl; exact rfl; exact rfl; exact rfl; (first | exact rfl | assumption)) | (apply RunL.noU; exact rfl; exact rfl; exact rfl; exact rfl; exact rfl; exact rfl) | (apply RunL.no; exact rfl; exact rfl; exact rfl; exact rfl; (first | exact rfl | assumption); exact rfl; exact rfl) | (refine AWP.cond _ (Rd.of rfl) (fun hc => ?_) (fun hc => ?_) <;> first | (exfalso; cases hc; done) | (have hc' := hc; (try simp only [sc, reduceCtorEq, cmpOf] at hc'); try (exfalso; omega)))
    | (
     apply AWP.drawA
     repeat' (first
       | (apply DL.cons; (try (apply OpLoc.on; exact rfl; exact rfl; exact rfl; exact rfl; (first | exact rfl | assumption))); apply ol_ev (τ := τ); exact rfl; (first | exact r1same_eq); exact rfl; exact rfl) | (apply DL.cons; exact olA; exact rfl) | (apply DL.nil; kernel_rfl) | (refine DL.split rfl rfl rfl rfl (fun hb => ?_) (fun hb => ?_) <;> have hb' := hb <;> (try simp only [sc, reduceCtorEq, cmpOf] at hb') <;> try (exfalso; omega)))
     all_goals (fail_if_success apply DL.id))
    | (refine RunL.split rfl rfl rfl rfl (fun hb => ?_) (fun hb => ?_) <;> have hb' := hb <;> (try simp only [sc, reduceCtorEq, cmpOf] at hb') <;> try (exfalso; omega)) )
  all_goals
    first   | (apply Ends.mk (.cons (.tmp rfl) .nil); first | rfl | (simp only [pack]; congr 1; simp only [cmpOf, decide_eq_true_eq, beq_iff_eq, bne_iff_ne]; omega))   | (apply Ends.mk (.cons (.tmp rfl) .nil); simp only [pack]; congr 1; simp only [cmpOf, sc]; omega)   | (exfalso; first | omega | (simp only [*, Bool.true_eq_false, Bool.false_eq_true, reduceCtorEq] at *; done) | grind)
theorem r4sameR {p q : Rat} (h : p = q := by first | rfl | assumption) : Evals Tryd.prog 28 [ratD p, ratD q] (.bool true) := by
  subst h
  refine evals_of_awp Tryd.func28 rfl (CallOK.of Tryd.func28 (by kernel_rfl) rfl) (Nat.le_of_ble_eq_true rfl) ?_
  rintro w R hR ⟨vs, hv⟩
  repeat' (first
    | (apply RunL.step; exact rfl; apply op_ev (τ := τ); exact rfl; (first | exact r4sameI | exact r1same_eq); exact rfl) | (apply RunL.step; exact rfl; exact opA) | (apply RunL.hand; exact rfl; exact rfl; exact lenA; exact rfl) | (apply AWP.seq) | (apply AWP.region; exact rfl) | (apply AWP.block) | (apply AWP.skip) | (apply AWP.exit) | (apply AWP.retF; exact rfl; exact rfl; exact rfl; exact rfl; exact lenA; exact rfl) | (apply AWP.ret) | (apply RunL.nil) | (apply RunL.on; exact rfl; exact rfl; exact rfl; exact rfl; (first | exact rfl | assumption)) | (apply RunL.noU; exact rfl; exact rfl; exact rfl; exact rfl; exact rfl; exact rfl) | (apply RunL.no; exact rfl; exact rfl; exact rfl; exact rfl; (first | exact rfl | assumption); exact rfl; exact rfl) | (refine AWP.cond _ (Rd.of rfl) (fun hc => ?_) (fun hc => ?_) <;> first | (exfalso; cases hc; done) | (have hc' := hc; (try simp only [sc, reduceCtorEq, cmpOf] at hc'); try (exfalso; omega)))
    | (
     apply AWP.drawA
     repeat' (first
       | (apply DL.cons; (try (apply OpLoc.on; exact rfl; exact rfl; exact rfl; exact rfl; (first | exact rfl | assumption))); apply ol_ev (τ := τ); exact rfl; (first | exact r4sameI | exact r1same_eq); exact rfl; exact rfl) | (apply DL.cons; exact olA; exact rfl) | (apply DL.nil; kernel_rfl) | (refine DL.split rfl rfl rfl rfl (fun hb => ?_) (fun hb => ?_) <;> have hb' := hb <;> (try simp only [sc, reduceCtorEq, cmpOf] at hb') <;> try (exfalso; omega)))
     all_goals (fail_if_success apply DL.id))
    | (refine RunL.split rfl rfl rfl rfl (fun hb => ?_) (fun hb => ?_) <;> have hb' := hb <;> (try simp only [sc, reduceCtorEq, cmpOf] at hb') <;> try (exfalso; omega)) )
  all_goals
    first   | (apply Ends.mk (.cons (.tmp rfl) .nil); first | rfl | (simp only [pack]; congr 1; simp only [cmpOf, decide_eq_true_eq, beq_iff_eq, bne_iff_ne]; omega))   | (apply Ends.mk (.cons (.tmp rfl) .nil); simp only [pack]; congr 1; simp only [cmpOf, sc]; omega)   | (exfalso; first | omega | (simp only [*, Bool.true_eq_false, Bool.false_eq_true, reduceCtorEq] at *; done) | grind)
theorem r45same {p q p' q' : Rat} (h1 : p = p' := by first | rfl | assumption) (h2 : q = q' := by first | rfl | assumption) : Evals Tryd.prog 10 [linkD p q, linkD p' q'] (.bool true) := by
  refine evals_of_awp Tryd.func10 rfl (CallOK.of Tryd.func10 (by kernel_rfl) rfl) (Nat.le_of_ble_eq_true rfl) ?_
  rintro w R hR ⟨vs, hv⟩
  repeat' (first
    | (apply RunL.step; exact rfl; apply op_ev (τ := τ); exact rfl; (first | exact r4sameR); exact rfl) | (apply RunL.step; exact rfl; exact opA) | (apply RunL.hand; exact rfl; exact rfl; exact lenA; exact rfl) | (apply AWP.seq) | (apply AWP.region; exact rfl) | (apply AWP.block) | (apply AWP.skip) | (apply AWP.exit) | (apply AWP.retF; exact rfl; exact rfl; exact rfl; exact rfl; exact lenA; exact rfl) | (apply AWP.ret) | (apply RunL.nil) | (apply RunL.on; exact rfl; exact rfl; exact rfl; exact rfl; (first | exact rfl | assumption)) | (apply RunL.noU; exact rfl; exact rfl; exact rfl; exact rfl; exact rfl; exact rfl) | (apply RunL.no; exact rfl; exact rfl; exact rfl; exact rfl; (first | exact rfl | assumption); exact rfl; exact rfl) | (refine AWP.cond _ (Rd.of rfl) (fun hc => ?_) (fun hc => ?_) <;> first | (exfalso; cases hc; done) | (have hc' := hc; (try simp only [sc, reduceCtorEq, cmpOf] at hc'); try (exfalso; omega)))
    | (
     apply AWP.drawA
     repeat' (first
       | (apply DL.cons; (try (apply OpLoc.on; exact rfl; exact rfl; exact rfl; exact rfl; (first | exact rfl | assumption))); apply ol_ev (τ := τ); exact rfl; (first | exact r4sameR); exact rfl; exact rfl) | (apply DL.cons; exact olA; exact rfl) | (apply DL.nil; kernel_rfl) | (refine DL.split rfl rfl rfl rfl (fun hb => ?_) (fun hb => ?_) <;> have hb' := hb <;> (try simp only [sc, reduceCtorEq, cmpOf] at hb') <;> try (exfalso; omega)))
     all_goals (fail_if_success apply DL.id))
    | (refine RunL.split rfl rfl rfl rfl (fun hb => ?_) (fun hb => ?_) <;> have hb' := hb <;> (try simp only [sc, reduceCtorEq, cmpOf] at hb') <;> try (exfalso; omega)) )
  all_goals
    first   | (apply Ends.mk (.cons (.tmp rfl) .nil); first | rfl | (simp only [pack]; congr 1; simp only [cmpOf, decide_eq_true_eq, beq_iff_eq, bne_iff_ne]; omega))   | (apply Ends.mk (.cons (.tmp rfl) .nil); simp only [pack]; congr 1; simp only [cmpOf, sc]; omega)   | (exfalso; first | omega | (simp only [*, Bool.true_eq_false, Bool.false_eq_true, reduceCtorEq] at *; done) | grind)
end Go.Proofs.YtgdejiajiljipaaDoor.K
namespace Go.Proofs.YtgdejiajiljipaaDoor.K
open Go
set_option linter.unusedVariables false
set_option linter.unusedSimpArgs false

def rf (q : Rat) : RF := (decide (q.num < 0), limbs q.num.natAbs, limbs q.den)
theorem qR_rf (q : Rat) {k : Nat} (h : SzR q k) : qR (rf q) = q := (RA.ratD q k (h := h)).v
theorem cmpStr_self (l : List UInt8) : cmpStr .eql l l = true := by simp [cmpStr]
theorem ratS_int (q : Rat) (n : Nat) (t : List UInt8) (h1 : q.num = n) (h2 : q.den = 1) (h : decD n = t) : ratS q = t := by
  rw [ratS, h1, h2, if_pos (by simp), intS, if_neg (by omega)]
  simpa using h
theorem ratS_frac (q : Rat) (n d : Nat) (t u : List UInt8) (h1 : q.num = n) (h2 : q.den = d) (hd : (d : Int) ≠ 1) (h : decD n = t) (h' : decD d = u) : ratS q = t ++ 47 :: u := by
  rw [ratS, h1, h2, if_neg hd, intS, if_neg (by omega), ← h, ← h']
  simp
theorem ratS_neg (q : Rat) (n d : Nat) (t u : List UInt8) (h1 : q.num = -(n : Int)) (h2 : q.den = d) (hd : (d : Int) ≠ 1) (hn : 0 < n) (h : decD n = t) (h' : decD d = u) : ratS q = 45 :: t ++ 47 :: u := by
  rw [ratS, h1, h2, if_neg hd, intS, if_pos (by omega), ← h, ← h']
  simp
theorem lnumber (n : Int) : Evals Tryd.prog 15 [.int .i64 n] (ratD (n : Rat)) := by
  rw [← divInt_one n]
  refine evals_of_awp Tryd.func15 rfl (CallOK.of Tryd.func15 (by kernel_rfl) rfl) (Nat.le_of_ble_eq_true rfl) ?_
  rintro w R hR ⟨vs, hv⟩
  have ha := hv.int 0 rfl
  simp [InR, IntKind.min, IntKind.max, IntKind.bits, IntKind.signed] at ha
  have s1 := SzI.i64 ha
  repeat' (first
    | (apply RunL.step; exact rfl; apply op_ev (τ := τ); exact rfl; (first | exact rof _ _); exact rfl) | (apply RunL.step; exact rfl; exact opA) | (apply RunL.hand; exact rfl; exact rfl; exact lenA; exact rfl) | (apply AWP.seq) | (apply AWP.region; exact rfl) | (apply AWP.block) | (apply AWP.skip) | (apply AWP.exit) | (apply AWP.retF; exact rfl; exact rfl; exact rfl; exact rfl; exact lenA; exact rfl) | (apply AWP.ret) | (apply RunL.nil) | (apply RunL.on; exact rfl; exact rfl; exact rfl; exact rfl; (first | exact rfl | assumption)) | (apply RunL.noU; exact rfl; exact rfl; exact rfl; exact rfl; exact rfl; exact rfl) | (apply RunL.no; exact rfl; exact rfl; exact rfl; exact rfl; (first | exact rfl | assumption); exact rfl; exact rfl) | (refine AWP.cond _ (Rd.of rfl) (fun hc => ?_) (fun hc => ?_) <;> first | (exfalso; cases hc; done) | (have hc' := hc; (try simp only [sc, reduceCtorEq, cmpOf] at hc'); try (exfalso; omega)))
    | (
     apply AWP.drawA
     repeat' (first
       | (apply DL.cons; (try (apply OpLoc.on; exact rfl; exact rfl; exact rfl; exact rfl; (first | exact rfl | assumption))); apply ol_ev (τ := τ); exact rfl; (first | exact rof _ _); exact rfl; exact rfl) | (apply DL.cons; exact olA; exact rfl) | (apply DL.nil; kernel_rfl) | (refine DL.split rfl rfl rfl rfl (fun hb => ?_) (fun hb => ?_) <;> have hb' := hb <;> (try simp only [sc, reduceCtorEq, cmpOf] at hb') <;> try (exfalso; omega)))
     all_goals (fail_if_success apply DL.id))
    | (refine RunL.split rfl rfl rfl rfl (fun hb => ?_) (fun hb => ?_) <;> have hb' := hb <;> (try simp only [sc, reduceCtorEq, cmpOf] at hb') <;> try (exfalso; omega)) )
  apply Ends.mk (.cons (.cellA (τ := τ) rfl rfl rfl rfl rfl) .nil)
  rfl
theorem lis {p q : Rat} {k m : Nat} [h : SzR p k] [h' : SzR q m] {a b : List UInt8} (ha : ratS p = a) (hb : ratS q = b) (hk : k + m ≤ 1000000 := by omega) : Evals Tryd.prog 33 [linkD p q, .str a, .str b] (.bool true) := by
  subst ha hb
  have e1 := cmpStr_self (ratS p)
  have e2 := cmpStr_self (ratS q)
  refine evals_of_awp Tryd.func33 rfl (CallOK.of Tryd.func33 (by kernel_rfl) rfl) (Nat.le_of_ble_eq_true rfl) ?_
  rintro w R hR ⟨vs, hv⟩
  repeat' (first
    | (apply RunL.step; exact rfl; apply op_ev (τ := τ); exact rfl; (first | exact rprint); exact rfl) | (apply RunL.step; exact rfl; exact opA) | (apply RunL.hand; exact rfl; exact rfl; exact lenA; exact rfl) | (apply AWP.seq) | (apply AWP.region; exact rfl) | (apply AWP.block) | (apply AWP.skip) | (apply AWP.exit) | (apply AWP.retF; exact rfl; exact rfl; exact rfl; exact rfl; exact lenA; exact rfl) | (apply AWP.ret) | (apply RunL.nil) | (apply RunL.on; exact rfl; exact rfl; exact rfl; exact rfl; (first | exact rfl | assumption)) | (apply RunL.noU; exact rfl; exact rfl; exact rfl; exact rfl; exact rfl; exact rfl) | (apply RunL.no; exact rfl; exact rfl; exact rfl; exact rfl; (first | exact rfl | assumption); exact rfl; exact rfl) | (refine AWP.cond _ (Rd.of rfl) (fun hc => ?_) (fun hc => ?_) <;> first | (exfalso; cases hc; done) | (have hc' := hc; (try simp only [sc, reduceCtorEq, cmpOf] at hc'); try (exfalso; omega)))
    | (
     apply AWP.drawA
     repeat' (first
       | (apply DL.cons; (try (apply OpLoc.on; exact rfl; exact rfl; exact rfl; exact rfl; (first | exact rfl | assumption))); apply ol_ev (τ := τ); exact rfl; (first | exact rprint); exact rfl; exact rfl) | (apply DL.cons; exact olA; exact rfl) | (apply DL.nil; kernel_rfl) | (refine DL.split rfl rfl rfl rfl (fun hb => ?_) (fun hb => ?_) <;> have hb' := hb <;> (try simp only [sc, reduceCtorEq, cmpOf] at hb') <;> try (exfalso; omega)))
     all_goals (fail_if_success apply DL.id))
    | (refine RunL.split rfl rfl rfl rfl (fun hb => ?_) (fun hb => ?_) <;> have hb' := hb <;> (try simp only [sc, reduceCtorEq, cmpOf] at hb') <;> try (exfalso; omega)) )
  all_goals
    apply Ends.mk (.cons (.tmp rfl) .nil)
    first | done | rfl | (rw [e2]; rfl) | (rw [e1]; rfl)
abbrev z2 : Rat := ((2 : Int) : Rat)
abbrev z3 : Rat := ((3 : Int) : Rat)
abbrev z1 : Rat := ((1 : Int) : Rat)
abbrev z8 : Rat := ((8 : Int) : Rat)
theorem sz2 : SzR z2 5 := (SzR.i64 (n := 2) (by omega)).mono (by omega)
theorem sz3 : SzR z3 5 := (SzR.i64 (n := 3) (by omega)).mono (by omega)
theorem sz1 : SzR z1 5 := (SzR.i64 (n := 1) (by omega)).mono (by omega)
theorem sz8 : SzR z8 5 := (SzR.i64 (n := 8) (by omega)).mono (by omega)
theorem szd (a b : Int) (ha : -100 ≤ a ∧ a ≤ 100) (hb : -100 ≤ b ∧ b ≤ 100) : SzR (Rat.divInt a b) 5 := SzR.di _ _ 2 2 (h := SzI.i64 (by omega)) (g := SzI.i64 (by omega))
theorem exInv : Evals Tryd.prog 11 [linkD z2 z3] (.tup [linkD (Rat.divInt 1 2) (Rat.divInt (-3) 2), .int .i64 0]) := by
  have := kinvert1 (h := RA.ratD z2 5 (h := sz2)) (h' := RA.ratD z3 5 (h := sz3)) (by decide +kernel) (by omega)
  rwa [show invA z2 = Rat.divInt 1 2 by decide +kernel, show invB z2 z3 = Rat.divInt (-3) 2 by decide +kernel] at this
theorem exApply : Evals Tryd.prog 9 [linkD z2 z3, ratD (Rat.divInt 5 2)] (ratD z8) := by
  have := kapply (h := RA.ratD z2 5 (h := sz2)) (h' := RA.ratD z3 5 (h := sz3)) (g := RA.ratD (Rat.divInt 5 2) 5 (h := szd 5 2 (by omega) (by omega))) (by omega)
  rwa [show z2 * Rat.divInt 5 2 + z3 = z8 by decide +kernel] at this
theorem exValid1 : Evals Tryd.prog 12 [linkD z2 z3] (.bool true) := by
  have := kvalid (h := RA.ratD z2 5 (h := sz2)) (h' := RA.ratD z3 5 (h := sz3)) (by omega)
  rwa [show decide (0 < cmpQ z2 0) = true by decide +kernel] at this
theorem exValid0 : Evals Tryd.prog 12 [.agg [.bool false, .ints .u32 [], .ints .u32 [], .bool (decide (z1.num < 0)), .ints .u32 (limbs z1.num.natAbs), .ints .u32 (limbs z1.den)]] (.bool false) := by
  have := kvalid (x := Rat.divInt (sI false []) (val [])) (k := 0) (h := ⟨rfl, by simp, by simp⟩) (h' := RA.ratD z1 5 (h := sz1)) (by omega)
  rwa [show decide (0 < cmpQ (Rat.divInt (sI false []) (val [])) 0) = false by decide +kernel] at this
theorem exComp : Evals Tryd.prog 7 [linkD z2 z3, linkD (Rat.divInt 1 2) (Rat.divInt (-3) 2)] (linkD 1 0) := by
  have := kcompose (h := RA.ratD z2 5 (h := sz2)) (h' := RA.ratD z3 5 (h := sz3)) (g := RA.ratD (Rat.divInt 1 2) 5 (h := szd _ _ (by omega) (by omega))) (g' := RA.ratD (Rat.divInt (-3) 2) 5 (h := szd _ _ (by omega) (by omega))) (by omega)
  rwa [show Rat.divInt 1 2 * z2 = 1 by decide +kernel, show Rat.divInt 1 2 * z3 + Rat.divInt (-3) 2 = 0 by decide +kernel] at this
theorem exMean : Evals Tryd.prog 14 [.ints .i64 [0, 2], .ints .i64 [1, 4]] (.tup [linkD z1 (Rat.divInt 3 2), .int .i64 0]) := by
  have := kMean1 [0, 2] [1, 4] (by decide +kernel)
  rwa [show meanQ (fn [1, 4]) [(1 : Int), 4].length - meanQ (fn [0, 2]) [(0 : Int), 2].length = Rat.divInt 3 2 by decide +kernel] at this
theorem exSpread : Evals Tryd.prog 21 [.ints .i64 [0, 2], .ints .i64 [1, 7]] (.tup [linkD z3 z1, .int .i64 0]) := by
  have := kSpread1 [0, 2] [1, 7] (by decide +kernel) (by decide +kernel) (by decide +kernel)
  rwa [show meanQ (fn [1, 7]) [(1 : Int), 7].length - devQ (fn [1, 7]) [(1 : Int), 7].length / devQ (fn [0, 2]) [(0 : Int), 2].length * meanQ (fn [0, 2]) [(0 : Int), 2].length = z1 by decide +kernel, show devQ (fn [1, 7]) [(1 : Int), 7].length / devQ (fn [0, 2]) [(0 : Int), 2].length = z3 by decide +kernel] at this
theorem exLoss : Evals Tryd.prog 18 [linkD z1 (Rat.divInt 3 2), .ints .i64 [0, 2], .ints .i64 [1, 4]] (.tup [ratD (Rat.divInt 1 2), .int .i64 0]) := by
  have := kLoss1 (h := RA.ratD z1 5 (h := sz1)) (h' := RA.ratD (Rat.divInt 3 2) 5 (h := szd _ _ (by omega) (by omega))) [0, 2] [1, 4] (by decide +kernel) (by omega)
  rwa [show lossQ z1 (Rat.divInt 3 2) (fn [0, 2]) (fn [1, 4]) [(0 : Int), 2].length = Rat.divInt 1 2 by decide +kernel] at this
abbrev exM : List Lk := [(rf z2, rf z3), (rf z1, rf (Rat.divInt 3 2))]
theorem exMA0 : lA (rf z2, rf z3) = z2 := qR_rf _ sz2
theorem exMB0 : lB (rf z2, rf z3) = z3 := qR_rf _ sz3
theorem exMA1 : lA (rf z1, rf (Rat.divInt 3 2)) = z1 := qR_rf _ sz1
theorem exMB1 : lB (rf z1, rf (Rat.divInt 3 2)) = Rat.divInt 3 2 := qR_rf _ (szd 3 2 (by omega) (by omega))
theorem rf_len {q : Rat} {k : Nat} (h : SzR q k) : (rf q).2.1.length ≤ k ∧ (rf q).2.2.length ≤ k := h.lens
theorem rf_lim (q : Rat) : Lim (rf q).2.1 ∧ Lim (rf q).2.2 := ⟨Lim.limbs _, Lim.limbs _⟩
theorem exMok : LkOK exM 5 := ⟨fun p hp => by
  simp only [List.mem_cons, List.not_mem_nil, or_false] at hp
  rcases hp with rfl | rfl
  · exact ⟨rf_len sz2, rf_len sz3⟩
  · exact ⟨rf_len sz1, rf_len (szd 3 2 (by omega) (by omega))⟩, fun p hp => by
  simp only [List.mem_cons, List.not_mem_nil, or_false] at hp
  rcases hp with rfl | rfl <;> exact ⟨rf_lim _, rf_lim _⟩⟩
theorem exMV : allV exM := fun p hp => by
  simp only [List.mem_cons, List.not_mem_nil, or_false] at hp
  rcases hp with rfl | rfl
  · rw [exMA0]; decide +kernel
  · rw [exMA1]; decide +kernel
theorem exBest : (best (lossAt exM [0, 2] [1, 4]) 1).1 = 1 := by
  have h0 : lossAt exM [0, 2] [1, 4] 0 = 13 := by
    rw [lossAt_some (p := (rf z2, rf z3)) _ _ rfl, exMA0, exMB0]; decide +kernel
  have h1 : lossAt exM [0, 2] [1, 4] 1 = Rat.divInt 1 2 := by
    rw [lossAt_some (p := (rf z1, rf (Rat.divInt 3 2))) _ _ rfl, exMA1, exMB1]; decide +kernel
  rw [best_step, best, h0, h1, if_pos (by decide +kernel)]
theorem exChoose : Evals Tryd.prog 34 [.sl 6 (exM.map rowL), .ints .i64 [0, 2], .ints .i64 [1, 4]] (.tup [.int .i64 1, .int .i64 0]) := by
  have := kChoose1 exM exMok (by omega) (by decide) (by decide) exMV [0, 2] [1, 4] (by decide +kernel)
  rwa [show exM.length - 1 = 1 from rfl, exBest] at this
theorem exChain : Evals Tryd.prog 22 [.sl 6 (exM.map rowL)] (.tup [linkD z2 (Rat.divInt 9 2), .int .i64 0]) := by
  have := kChain1 exM exMok (by omega) (by decide) exMV
  have e : chQ exM = (z2, Rat.divInt 9 2) := by
    rw [chQ, List.foldl_cons, List.foldl_cons, List.foldl_nil, exMA0, exMB0, exMA1, exMB1]; decide +kernel
  rwa [e] at this
theorem exSpread8 : Evals Tryd.prog 21 [.ints .i64 [1, 1], .ints .i64 [2, 3]] (.tup [link0, .int .i64 8]) := kSpread8 [1, 1] [2, 3] (by decide +kernel) (.inl (by decide +kernel))
theorem exMean1 : Evals Tryd.prog 14 [.ints .i64 [1], .ints .i64 [1, 2]] (.tup [link0, .int .i64 1]) := kMean0 [1] [1, 2] (by decide +kernel)
set_option maxHeartbeats 4000000 in
theorem lawake : Evals Tryd.prog 13 [] (.bool true) := by
  have d1 : decD 1 = [49] := by rw [decD_small (by omega) (by omega)]; rfl
  have d2 : decD 2 = [50] := by rw [decD_small (by omega) (by omega)]; rfl
  have d3 : decD 3 = [51] := by rw [decD_small (by omega) (by omega)]; rfl
  have d0 : decD 0 = [48] := by rw [decD_small (by omega) (by omega)]; rfl
  have d8 : decD 8 = [56] := by rw [decD_small (by omega) (by omega)]; rfl
  have d9 : decD 9 = [57] := by rw [decD_small (by omega) (by omega)]; rfl
  have s1 : ratS z1 = [49] := ratS_int z1 1 _ (by decide +kernel) (by decide +kernel) d1
  have s1' : ratS 1 = [49] := ratS_int 1 1 _ (by decide +kernel) (by decide +kernel) d1
  have s0 : ratS 0 = [48] := ratS_int 0 0 _ (by decide +kernel) (by decide +kernel) d0
  have s2 : ratS z2 = [50] := ratS_int z2 2 _ (by decide +kernel) (by decide +kernel) d2
  have s3 : ratS z3 = [51] := ratS_int z3 3 _ (by decide +kernel) (by decide +kernel) d3
  have s8 : ratS z8 = [56] := ratS_int z8 8 _ (by decide +kernel) (by decide +kernel) d8
  have t12 : ratS (Rat.divInt 1 2) = [49, 47, 50] := ratS_frac _ 1 2 _ _ (by decide +kernel) (by decide +kernel) (by decide) d1 d2
  have t32 : ratS (Rat.divInt 3 2) = [51, 47, 50] := ratS_frac _ 3 2 _ _ (by decide +kernel) (by decide +kernel) (by decide) d3 d2
  have t92 : ratS (Rat.divInt 9 2) = [57, 47, 50] := ratS_frac _ 9 2 _ _ (by decide +kernel) (by decide +kernel) (by decide) d9 d2
  have u32 : ratS (Rat.divInt (-3) 2) = [45, 51, 47, 50] := ratS_neg _ 3 2 _ _ (by decide +kernel) (by decide +kernel) (by decide) (by decide) d3 d2
  have i1 := lis (h := szd 1 2 (by omega) (by omega)) (h' := szd (-3) 2 (by omega) (by omega)) t12 u32
  have i2 := lis (h := SzR.one) (h' := SzR.zero) s1' s0
  have i3 := lis (h := sz1) (h' := szd 3 2 (by omega) (by omega)) s1 t32
  have i4 := lis (h := sz3) (h' := sz1) s3 s1
  have i5 := lis (h := sz2) (h' := szd 9 2 (by omega) (by omega)) s2 t92
  have p8 := rprint (h := RA.ratD z8 5 (h := sz8)) (by omega)
  have p12 := rprint (h := RA.ratD (Rat.divInt 1 2) 5 (h := szd 1 2 (by omega) (by omega))) (by omega)
  rw [s8] at p8
  rw [t12] at p12
  have hof := rof 5 2
  have zz := SzR.zero
  refine evals_of_awp Tryd.func13 rfl (CallOK.of Tryd.func13 (by kernel_rfl) rfl) (Nat.le_of_ble_eq_true rfl) ?_
  rintro w R hR ⟨vs, hv⟩
  repeat' (first
    | (apply RunL.step; exact rfl; apply op_ev (τ := τ); exact rfl; (first | exact lnumber _ | exact exInv | exact exApply | exact exValid1 | exact exValid0 | exact exComp | exact exMean | exact exSpread | exact exLoss | exact exChoose | exact exChain | exact exSpread8 | exact exMean1 | exact kChoose20 _ _ | exact hof | exact i1 | exact i2 | exact i3 | exact i4 | exact i5 | exact p8 | exact p12); exact rfl) | (apply RunL.step; exact rfl; exact opA) | (apply RunL.hand; exact rfl; exact rfl; exact lenA; exact rfl) | (apply AWP.seq) | (apply AWP.region; exact rfl) | (apply AWP.block) | (apply AWP.skip) | (apply AWP.exit) | (apply AWP.retF; exact rfl; exact rfl; exact rfl; exact rfl; exact lenA; exact rfl) | (apply AWP.ret) | (apply RunL.nil) | (apply RunL.on; exact rfl; exact rfl; exact rfl; exact rfl; (first | exact rfl | assumption)) | (apply RunL.noU; exact rfl; exact rfl; exact rfl; exact rfl; exact rfl; exact rfl) | (apply RunL.no; exact rfl; exact rfl; exact rfl; exact rfl; (first | exact rfl | assumption); exact rfl; exact rfl) | (refine AWP.cond _ (Rd.of rfl) (fun hc => ?_) (fun hc => ?_) <;> first | (exfalso; cases hc; done) | (have hc' := hc; (try simp only [sc, reduceCtorEq, cmpOf] at hc'); try (exfalso; omega)))
    | (
     apply AWP.drawA
     repeat' (first
       | (apply DL.cons; (try (apply OpLoc.on; exact rfl; exact rfl; exact rfl; exact rfl; (first | exact rfl | assumption))); apply ol_ev (τ := τ); exact rfl; (first | exact lnumber _ | exact exInv | exact exApply | exact exValid1 | exact exValid0 | exact exComp | exact exMean | exact exSpread | exact exLoss | exact exChoose | exact exChain | exact exSpread8 | exact exMean1 | exact kChoose20 _ _ | exact hof | exact i1 | exact i2 | exact i3 | exact i4 | exact i5 | exact p8 | exact p12); exact rfl; exact rfl) | (apply DL.cons; exact olA; exact rfl) | (apply DL.nil; kernel_rfl) | (refine DL.split rfl rfl rfl rfl (fun hb => ?_) (fun hb => ?_) <;> have hb' := hb <;> (try simp only [sc, reduceCtorEq, cmpOf] at hb') <;> try (exfalso; omega)))
     all_goals (fail_if_success apply DL.id))
    | (refine RunL.split rfl rfl rfl rfl (fun hb => ?_) (fun hb => ?_) <;> have hb' := hb <;> (try simp only [sc, reduceCtorEq, cmpOf] at hb') <;> try (exfalso; omega)) )
  all_goals
    apply Ends.mk (.cons (.tmp rfl) .nil)
    first | done | rfl
end Go.Proofs.YtgdejiajiljipaaDoor.K
namespace Go.Proofs.YtgdejiajiljipaaDoor.K
open Go
set_option linter.unusedVariables false
set_option linter.unusedSimpArgs false

theorem r4sameIg {s : Bool} {l : List Int} : Evals Tryd.prog 50 [.agg [.bool s, .ints .u32 l], .agg [.bool s, .ints .u32 l]] (.bool true) := by
  refine evals_of_awp Tryd.func50 rfl (CallOK.of Tryd.func50 (by kernel_rfl) rfl) (Nat.le_of_ble_eq_true rfl) ?_
  rintro w R hR ⟨vs, hv⟩
  have e : (s == s) = true := by simp
  repeat' (first
    | (apply RunL.step; exact rfl; apply op_ev (τ := τ); exact rfl; (first | exact r1same_eq); exact rfl) | (apply RunL.step; exact rfl; exact opA) | (apply RunL.hand; exact rfl; exact rfl; exact lenA; exact rfl) | (apply AWP.seq) | (apply AWP.region; exact rfl) | (apply AWP.block) | (apply AWP.skip) | (apply AWP.exit) | (apply AWP.retF; exact rfl; exact rfl; exact rfl; exact rfl; exact lenA; exact rfl) | (apply AWP.ret) | (apply RunL.nil) | (apply RunL.on; exact rfl; exact rfl; exact rfl; exact rfl; (first | exact rfl | assumption)) | (apply RunL.noU; exact rfl; exact rfl; exact rfl; exact rfl; exact rfl; exact rfl) | (apply RunL.no; exact rfl; exact rfl; exact rfl; exact rfl; (first | exact rfl | assumption); exact rfl; exact rfl) | (refine AWP.cond _ (Rd.of rfl) (fun hc => ?_) (fun hc => ?_) <;> first | (exfalso; cases hc; done) | (have hc' := hc; (try simp only [sc, reduceCtorEq, cmpOf] at hc'); try (exfalso; omega)))
    | (
     apply AWP.drawA
     repeat' (first
       | (apply DL.cons; (try (apply OpLoc.on; exact rfl; exact rfl; exact rfl; exact rfl; (first | exact rfl | assumption))); apply ol_ev (τ := τ); exact rfl; (first | exact r1same_eq); exact rfl; exact rfl) | (apply DL.cons; exact olA; exact rfl) | (apply DL.nil; kernel_rfl) | (refine DL.split rfl rfl rfl rfl (fun hb => ?_) (fun hb => ?_) <;> have hb' := hb <;> (try simp only [sc, reduceCtorEq, cmpOf] at hb') <;> try (exfalso; omega)))
     all_goals (fail_if_success apply DL.id))
    | (refine RunL.split rfl rfl rfl rfl (fun hb => ?_) (fun hb => ?_) <;> have hb' := hb <;> (try simp only [sc, reduceCtorEq, cmpOf] at hb') <;> try (exfalso; omega)) )
  all_goals
    first   | (apply Ends.mk (.cons (.tmp rfl) .nil); first | rfl | (simp only [pack]; congr 1; simp only [cmpOf, decide_eq_true_eq, beq_iff_eq, bne_iff_ne]; omega))   | (apply Ends.mk (.cons (.tmp rfl) .nil); simp only [pack]; congr 1; simp only [cmpOf, sc]; omega)   | (exfalso; first | omega | (simp only [*, Bool.true_eq_false, Bool.false_eq_true, reduceCtorEq] at *; done) | grind)
theorem r4sameRg {s : Bool} {l d : List Int} : Evals Tryd.prog 28 [.agg [.bool s, .ints .u32 l, .ints .u32 d], .agg [.bool s, .ints .u32 l, .ints .u32 d]] (.bool true) := by
  refine evals_of_awp Tryd.func28 rfl (CallOK.of Tryd.func28 (by kernel_rfl) rfl) (Nat.le_of_ble_eq_true rfl) ?_
  rintro w R hR ⟨vs, hv⟩
  repeat' (first
    | (apply RunL.step; exact rfl; apply op_ev (τ := τ); exact rfl; (first | exact r4sameIg | exact r1same_eq); exact rfl) | (apply RunL.step; exact rfl; exact opA) | (apply RunL.hand; exact rfl; exact rfl; exact lenA; exact rfl) | (apply AWP.seq) | (apply AWP.region; exact rfl) | (apply AWP.block) | (apply AWP.skip) | (apply AWP.exit) | (apply AWP.retF; exact rfl; exact rfl; exact rfl; exact rfl; exact lenA; exact rfl) | (apply AWP.ret) | (apply RunL.nil) | (apply RunL.on; exact rfl; exact rfl; exact rfl; exact rfl; (first | exact rfl | assumption)) | (apply RunL.noU; exact rfl; exact rfl; exact rfl; exact rfl; exact rfl; exact rfl) | (apply RunL.no; exact rfl; exact rfl; exact rfl; exact rfl; (first | exact rfl | assumption); exact rfl; exact rfl) | (refine AWP.cond _ (Rd.of rfl) (fun hc => ?_) (fun hc => ?_) <;> first | (exfalso; cases hc; done) | (have hc' := hc; (try simp only [sc, reduceCtorEq, cmpOf] at hc'); try (exfalso; omega)))
    | (
     apply AWP.drawA
     repeat' (first
       | (apply DL.cons; (try (apply OpLoc.on; exact rfl; exact rfl; exact rfl; exact rfl; (first | exact rfl | assumption))); apply ol_ev (τ := τ); exact rfl; (first | exact r4sameIg | exact r1same_eq); exact rfl; exact rfl) | (apply DL.cons; exact olA; exact rfl) | (apply DL.nil; kernel_rfl) | (refine DL.split rfl rfl rfl rfl (fun hb => ?_) (fun hb => ?_) <;> have hb' := hb <;> (try simp only [sc, reduceCtorEq, cmpOf] at hb') <;> try (exfalso; omega)))
     all_goals (fail_if_success apply DL.id))
    | (refine RunL.split rfl rfl rfl rfl (fun hb => ?_) (fun hb => ?_) <;> have hb' := hb <;> (try simp only [sc, reduceCtorEq, cmpOf] at hb') <;> try (exfalso; omega)) )
  all_goals
    first   | (apply Ends.mk (.cons (.tmp rfl) .nil); first | rfl | (simp only [pack]; congr 1; simp only [cmpOf, decide_eq_true_eq, beq_iff_eq, bne_iff_ne]; omega))   | (apply Ends.mk (.cons (.tmp rfl) .nil); simp only [pack]; congr 1; simp only [cmpOf, sc]; omega)   | (exfalso; first | omega | (simp only [*, Bool.true_eq_false, Bool.false_eq_true, reduceCtorEq] at *; done) | grind)
theorem r45same0 : Evals Tryd.prog 10 [link0, link0] (.bool true) := by
  refine evals_of_awp Tryd.func10 rfl (CallOK.of Tryd.func10 (by kernel_rfl) rfl) (Nat.le_of_ble_eq_true rfl) ?_
  rintro w R hR ⟨vs, hv⟩
  repeat' (first
    | (apply RunL.step; exact rfl; apply op_ev (τ := τ); exact rfl; (first | exact r4sameRg); exact rfl) | (apply RunL.step; exact rfl; exact opA) | (apply RunL.hand; exact rfl; exact rfl; exact lenA; exact rfl) | (apply AWP.seq) | (apply AWP.region; exact rfl) | (apply AWP.block) | (apply AWP.skip) | (apply AWP.exit) | (apply AWP.retF; exact rfl; exact rfl; exact rfl; exact rfl; exact lenA; exact rfl) | (apply AWP.ret) | (apply RunL.nil) | (apply RunL.on; exact rfl; exact rfl; exact rfl; exact rfl; (first | exact rfl | assumption)) | (apply RunL.noU; exact rfl; exact rfl; exact rfl; exact rfl; exact rfl; exact rfl) | (apply RunL.no; exact rfl; exact rfl; exact rfl; exact rfl; (first | exact rfl | assumption); exact rfl; exact rfl) | (refine AWP.cond _ (Rd.of rfl) (fun hc => ?_) (fun hc => ?_) <;> first | (exfalso; cases hc; done) | (have hc' := hc; (try simp only [sc, reduceCtorEq, cmpOf] at hc'); try (exfalso; omega)))
    | (
     apply AWP.drawA
     repeat' (first
       | (apply DL.cons; (try (apply OpLoc.on; exact rfl; exact rfl; exact rfl; exact rfl; (first | exact rfl | assumption))); apply ol_ev (τ := τ); exact rfl; (first | exact r4sameRg); exact rfl; exact rfl) | (apply DL.cons; exact olA; exact rfl) | (apply DL.nil; kernel_rfl) | (refine DL.split rfl rfl rfl rfl (fun hb => ?_) (fun hb => ?_) <;> have hb' := hb <;> (try simp only [sc, reduceCtorEq, cmpOf] at hb') <;> try (exfalso; omega)))
     all_goals (fail_if_success apply DL.id))
    | (refine RunL.split rfl rfl rfl rfl (fun hb => ?_) (fun hb => ?_) <;> have hb' := hb <;> (try simp only [sc, reduceCtorEq, cmpOf] at hb') <;> try (exfalso; omega)) )
  all_goals
    first   | (apply Ends.mk (.cons (.tmp rfl) .nil); first | rfl | (simp only [pack]; congr 1; simp only [cmpOf, decide_eq_true_eq, beq_iff_eq, bne_iff_ne]; omega))   | (apply Ends.mk (.cons (.tmp rfl) .nil); simp only [pack]; congr 1; simp only [cmpOf, sc]; omega)   | (exfalso; first | omega | (simp only [*, Bool.true_eq_false, Bool.false_eq_true, reduceCtorEq] at *; done) | grind)
end Go.Proofs.YtgdejiajiljipaaDoor.K
