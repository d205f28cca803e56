/- Walks: the laws of layer 3 (examboardlaw03). -/
import Derived.Test.YtpolinoaefdobaaDoorWalkO
namespace Go.Proofs.YtpolinoaefdobaaDoor.K
open Go
set_option linter.unusedVariables false
set_option linter.unusedSimpArgs false

theorem list_ext_ix {a b : List Int} (h : a.length = b.length) (hi : ∀ i : Nat, i < a.length → ix a i = ix b i) : a = b := by
  apply List.ext_getElem h
  intro i h1 h2
  have := hi i h1
  simpa [ix, h1, h2] using this
theorem llimbs (a b : List Int) : Evals Tryd.prog 16 [.ints .u32 a, .ints .u32 b] (.bool (decide (a = b))) := by
  refine evals_of_awp Tryd.func16 rfl (CallOK.of Tryd.func16 (by kernel_rfl) rfl) (Nat.le_of_ble_eq_true rfl) ?_
  rintro w R hR ⟨vs, hv⟩
  obtain ⟨hla, ha⟩ := hv.nat 0 rfl
  obtain ⟨hlb, hb⟩ := hv.nat 1 rfl
  repeat' (first
    | (apply RunL.step; exact rfl; exact opA) | (apply RunL.hand; exact rfl; exact rfl; exact lenA; exact rfl) | (apply AWP.seq) | (apply AWP.region; exact rfl) | (apply AWP.block) | (apply AWP.skip) | (apply AWP.exit) | (apply AWP.retF; exact rfl; exact rfl; exact rfl; exact rfl; exact lenA; exact rfl) | (apply AWP.ret) | (apply RunL.nil) | (apply RunL.on; exact rfl; exact rfl; exact rfl; exact rfl; (first | exact rfl | assumption)) | (apply RunL.noU; exact rfl; exact rfl; exact rfl; exact rfl; exact rfl; exact rfl) | (apply RunL.no; exact rfl; exact rfl; exact rfl; exact rfl; (first | exact rfl | assumption); exact rfl; exact rfl) | (refine AWP.cond _ (Rd.of rfl) (fun hc => ?_) (fun hc => ?_) <;> first | (exfalso; cases hc; done) | (have hc' := hc; (try simp only [sc, reduceCtorEq, cmpOf] at hc'); try (exfalso; omega)))
    | (
     apply AWP.drawA
     repeat' (first
       | (apply DL.cons; (try (apply OpLoc.on; exact rfl; exact rfl; exact rfl; exact rfl; (first | exact rfl | assumption))); apply ol_ev (τ := τ); exact rfl; (fail); exact rfl; exact rfl) | (apply DL.cons; exact olA; exact rfl) | (apply DL.nil; kernel_rfl) | (refine DL.split rfl rfl rfl rfl (fun hb => ?_) (fun hb => ?_) <;> have hb' := hb <;> (try simp only [sc, reduceCtorEq, cmpOf] at hb') <;> try (exfalso; omega)))
     all_goals (fail_if_success apply DL.id))
    | (refine RunL.split rfl rfl rfl rfl (fun hb => ?_) (fun hb => ?_) <;> have hb' := hb <;> (try simp only [sc, reduceCtorEq, cmpOf] at hb') <;> try (exfalso; omega)) )
  · apply Ends.mk (.cons (.tmp rfl) .nil)
    rw [decide_eq_false (fun h => by subst h; omega)]; rfl
  refine AWP.loop (ι := Int) (fun i => ⟨[(0, .val (.ints .u32 a)), (1, .val (.ints .u32 b)), (5, .val (.int .i64 i))], []⟩) (fun i => 0 ≤ i ∧ i ≤ a.length ∧ ∀ j : Nat, j < i.toNat → ix a j = ix b j) (fun i => a.length - i.toNat) 0 ⟨by omega, by omega, fun j h => by omega⟩ (St.Le.of (by repeat' (first | exact all_nil | refine all_cons rfl ?_)) (by repeat' (first | exact all_nil | refine all_cons rfl ?_))) ?_
  rintro i ⟨k1, k2, k3⟩
  have q1 := ha.ix i
  have q2 := hb.ix i
  repeat' (first
    | (apply RunL.step; exact rfl; exact opA) | (apply RunL.hand; exact rfl; exact rfl; exact lenA; exact rfl) | (apply AWP.seq) | (apply AWP.region; exact rfl) | (apply AWP.block) | (apply AWP.skip) | (apply AWP.exit) | (apply AWP.retF; exact rfl; exact rfl; exact rfl; exact rfl; exact lenA; exact rfl) | (apply AWP.ret) | (apply RunL.nil) | (apply RunL.on; exact rfl; exact rfl; exact rfl; exact rfl; (first | exact rfl | assumption)) | (apply RunL.noU; exact rfl; exact rfl; exact rfl; exact rfl; exact rfl; exact rfl) | (apply RunL.no; exact rfl; exact rfl; exact rfl; exact rfl; (first | exact rfl | assumption); exact rfl; exact rfl) | (refine AWP.cond _ (Rd.of rfl) (fun hc => ?_) (fun hc => ?_) <;> first | (exfalso; cases hc; done) | (have hc' := hc; (try simp only [sc, reduceCtorEq, cmpOf] at hc'); try (exfalso; omega)))
    | (
     apply AWP.drawA
     repeat' (first
       | (apply DL.cons; (try (apply OpLoc.on; exact rfl; exact rfl; exact rfl; exact rfl; (first | exact rfl | assumption))); apply ol_ev (τ := τ); exact rfl; (fail); exact rfl; exact rfl) | (apply DL.cons; exact olA; exact rfl) | (apply DL.nil; kernel_rfl) | (refine DL.split rfl rfl rfl rfl (fun hb => ?_) (fun hb => ?_) <;> have hb' := hb <;> (try simp only [sc, reduceCtorEq, cmpOf] at hb') <;> try (exfalso; omega)))
     all_goals (fail_if_success apply DL.id))
    | (refine RunL.split rfl rfl rfl rfl (fun hb => ?_) (fun hb => ?_) <;> have hb' := hb <;> (try simp only [sc, reduceCtorEq, cmpOf] at hb') <;> try (exfalso; omega)) )
  · apply Ends.mk (.cons (.tmp rfl) .nil)
    rw [decide_eq_false (fun h => by subst h; omega)]; rfl
  · refine ⟨_, St.Le.of (by repeat' (first | exact all_nil | refine all_cons rfl ?_)) (by repeat' (first | exact all_nil | refine all_cons rfl ?_)), ⟨by omega, by omega, fun j hj => ?_⟩, by omega⟩
    by_cases h : j < i.toNat
    · exact k3 j h
    · rw [show (j : Int) = i by omega]; omega
  · apply Ends.mk (.cons (.tmp rfl) .nil)
    rw [decide_eq_true (list_ext_ix (by omega) fun j hj => k3 j (by omega))]; rfl

theorem lsame (s : Bool) (l d : List Int) (s' : Bool) (l' d' : List Int) : Evals Tryd.prog 7 [.agg [.bool s, .ints .u32 l, .ints .u32 d], .agg [.bool s', .ints .u32 l', .ints .u32 d']] (.bool (decide (s = s' ∧ l = l' ∧ d = d'))) := by
  refine evals_of_awp Tryd.func7 rfl (CallOK.of Tryd.func7 (by kernel_rfl) rfl) (Nat.le_of_ble_eq_true rfl) ?_
  rintro w R hR ⟨vs, hv⟩
  repeat' (first
    | (apply RunL.step; exact rfl; apply op_ev (τ := τ); exact rfl; (exact llimbs _ _); exact rfl) | (apply RunL.step; exact rfl; exact opA) | (apply RunL.hand; exact rfl; exact rfl; exact lenA; exact rfl) | (apply AWP.seq) | (apply AWP.region; exact rfl) | (apply AWP.block) | (apply AWP.skip) | (apply AWP.exit) | (apply AWP.retF; exact rfl; exact rfl; exact rfl; exact rfl; exact lenA; exact rfl) | (apply AWP.ret) | (apply RunL.nil) | (apply RunL.on; exact rfl; exact rfl; exact rfl; exact rfl; (first | exact rfl | assumption)) | (apply RunL.noU; exact rfl; exact rfl; exact rfl; exact rfl; exact rfl; exact rfl) | (apply RunL.no; exact rfl; exact rfl; exact rfl; exact rfl; (first | exact rfl | assumption); exact rfl; exact rfl) | (refine AWP.cond _ (Rd.of rfl) (fun hc => ?_) (fun hc => ?_) <;> first | (exfalso; cases hc; done) | (have hc' := hc; (try simp only [sc, reduceCtorEq, cmpOf] at hc'); try (exfalso; omega)))
    | (
     apply AWP.drawA
     repeat' (first
       | (apply DL.cons; (try (apply OpLoc.on; exact rfl; exact rfl; exact rfl; exact rfl; (first | exact rfl | assumption))); apply ol_ev (τ := τ); exact rfl; (exact llimbs _ _); exact rfl; exact rfl) | (apply DL.cons; exact olA; exact rfl) | (apply DL.nil; kernel_rfl) | (refine DL.split rfl rfl rfl rfl (fun hb => ?_) (fun hb => ?_) <;> have hb' := hb <;> (try simp only [sc, reduceCtorEq, cmpOf] at hb') <;> try (exfalso; omega)))
     all_goals (fail_if_success apply DL.id))
    | (refine RunL.split rfl rfl rfl rfl (fun hb => ?_) (fun hb => ?_) <;> have hb' := hb <;> (try simp only [sc, reduceCtorEq, cmpOf] at hb') <;> try (exfalso; omega)) )
  all_goals
    apply Ends.mk (.cons (.tmp rfl) .nil)
    simp only [pack]; congr 1
    simp [*]
theorem lsame_rat (p q : Rat) : Evals Tryd.prog 7 [ratD p, ratD q] (.bool (decide (p = q))) := by
  have := lsame (decide (p.num < 0)) (limbs p.num.natAbs) (limbs p.den) (decide (q.num < 0)) (limbs q.num.natAbs) (limbs q.den)
  have e : decide (decide (p.num < 0) = decide (q.num < 0) ∧ limbs p.num.natAbs = limbs q.num.natAbs ∧ limbs p.den = limbs q.den) = decide (p = q) :=
    decide_eq_decide.2 ⟨fun h => ratD_inj h.1 h.2.1 h.2.2, fun h => by subst h; exact ⟨rfl, rfl, rfl⟩⟩
  rwa [e] at this
theorem lsame_eq {p q : Rat} (h : p = q := by first | rfl | grind) : Evals Tryd.prog 7 [ratD p, ratD q] (.bool true) := by
  have := lsame_rat p q
  rwa [decide_eq_true h] at this
theorem llarge (s : Bool) (l d : List Int) : Evals Tryd.prog 4 [.agg [.bool s, .ints .u32 l, .ints .u32 d]] (.bool (decide (40 < l.length ∨ 40 < d.length))) := by
  refine evals_of_awp Tryd.func4 rfl (CallOK.of Tryd.func4 (by kernel_rfl) rfl) (Nat.le_of_ble_eq_true rfl) ?_
  rintro w R hR ⟨vs, hv⟩
  repeat' (first
    | (apply RunL.step; exact rfl; apply op_ev (τ := τ); exact rfl; (exact llimbs _ _); exact rfl) | (apply RunL.step; exact rfl; exact opA) | (apply RunL.hand; exact rfl; exact rfl; exact lenA; exact rfl) | (apply AWP.seq) | (apply AWP.region; exact rfl) | (apply AWP.block) | (apply AWP.skip) | (apply AWP.exit) | (apply AWP.retF; exact rfl; exact rfl; exact rfl; exact rfl; exact lenA; exact rfl) | (apply AWP.ret) | (apply RunL.nil) | (apply RunL.on; exact rfl; exact rfl; exact rfl; exact rfl; (first | exact rfl | assumption)) | (apply RunL.noU; exact rfl; exact rfl; exact rfl; exact rfl; exact rfl; exact rfl) | (apply RunL.no; exact rfl; exact rfl; exact rfl; exact rfl; (first | exact rfl | assumption); exact rfl; exact rfl) | (refine AWP.cond _ (Rd.of rfl) (fun hc => ?_) (fun hc => ?_) <;> first | (exfalso; cases hc; done) | (have hc' := hc; (try simp only [sc, reduceCtorEq, cmpOf] at hc'); try (exfalso; omega)))
    | (
     apply AWP.drawA
     repeat' (first
       | (apply DL.cons; (try (apply OpLoc.on; exact rfl; exact rfl; exact rfl; exact rfl; (first | exact rfl | assumption))); apply ol_ev (τ := τ); exact rfl; (exact llimbs _ _); exact rfl; exact rfl) | (apply DL.cons; exact olA; exact rfl) | (apply DL.nil; kernel_rfl) | (refine DL.split rfl rfl rfl rfl (fun hb => ?_) (fun hb => ?_) <;> have hb' := hb <;> (try simp only [sc, reduceCtorEq, cmpOf] at hb') <;> try (exfalso; omega)))
     all_goals (fail_if_success apply DL.id))
    | (refine RunL.split rfl rfl rfl rfl (fun hb => ?_) (fun hb => ?_) <;> have hb' := hb <;> (try simp only [sc, reduceCtorEq, cmpOf] at hb') <;> try (exfalso; omega)) )
  all_goals
    apply Ends.mk (.cons (.tmp rfl) .nil)
    simp only [pack]; congr 1
    rw [Bool.eq_iff_iff]
    simp only [cmpOf, decide_eq_true_eq, true_iff]; omega
theorem llargeF {s : Bool} {l d : List Int} (h : ¬ (40 < l.length ∨ 40 < d.length) := by omega) : Evals Tryd.prog 4 [.agg [.bool s, .ints .u32 l, .ints .u32 d]] (.bool false) := by
  have := llarge s l d
  rwa [decide_eq_false h] at this
theorem llargeT {s : Bool} {l d : List Int} (h : 40 < l.length ∨ 40 < d.length := by omega) : Evals Tryd.prog 4 [.agg [.bool s, .ints .u32 l, .ints .u32 d]] (.bool true) := by
  have := llarge s l d
  rwa [decide_eq_true h] at this

theorem limbs_one' : limbs 1 = [1] := by rw [limbs_pos (by omega)]; simp [limbs_le]
end Go.Proofs.YtpolinoaefdobaaDoor.K
namespace Go.Proofs.YtpolinoaefdobaaDoor.K
open Go
set_option linter.unusedVariables false
set_option linter.unusedSimpArgs false

instance SzI.floor (x : Rat) (k : Nat) [h : SzR x k] : SzI x.floor k := ⟨by
  rw [Rat.floor_def]
  have := Int.natAbs_ediv_le_natAbs x.num x.den
  have := h.num
  omega⟩
theorem divInt_one' (n : Int) : Rat.divInt n 1 = (n : Rat) := by rw [Rat.divInt_eq_div, Rat.intCast_one]; grind
theorem SzR.ofRA {s : Bool} {l d : List Int} {q : Rat} {k : Nat} (h : RA s l d q k) (hl : Lim l) (hd : Lim d) : SzR q (k + 1) := h.sz hl hd

end Go.Proofs.YtpolinoaefdobaaDoor.K
namespace Go.Proofs.YtpolinoaefdobaaDoor.K
open Go
set_option linter.unusedVariables false
set_option linter.unusedSimpArgs false

theorem cmpQ_neg (x y : Rat) : cmpQ y x = - cmpQ x y := by
  rcases cmpQ_cases x y with ⟨h1, h2⟩ | ⟨h1, h2⟩ | ⟨h1, h2⟩ <;> rcases cmpQ_cases y x with ⟨h3, h4⟩ | ⟨h3, h4⟩ | ⟨h3, h4⟩ <;> first | omega | (exfalso; grind)
theorem cmpQ_sub (x y : Rat) : cmpQ (x - y) 0 = cmpQ x y := by
  rcases cmpQ_cases x y with ⟨h1, h2⟩ | ⟨h1, h2⟩ | ⟨h1, h2⟩ <;> rcases cmpQ_cases (x - y) 0 with ⟨h3, h4⟩ | ⟨h3, h4⟩ | ⟨h3, h4⟩ <;> first | omega | (exfalso; grind)
theorem cmpQ_add (x y z : Rat) : cmpQ (x + z) (y + z) = cmpQ x y := by
  rcases cmpQ_cases x y with ⟨h1, h2⟩ | ⟨h1, h2⟩ | ⟨h1, h2⟩ <;> rcases cmpQ_cases (x + z) (y + z) with ⟨h3, h4⟩ | ⟨h3, h4⟩ | ⟨h3, h4⟩ <;> first | omega | (exfalso; grind)
theorem cmpQ_mul (x y z : Rat) : cmpQ x y * cmpQ z 0 = cmpQ (x * z) (y * z) := by
  have key : ∀ {a b c : Rat}, a < b → 0 < c → a * c < b * c := fun h1 h2 => Rat.mul_lt_mul_of_pos_right h1 h2
  have keyn : ∀ {a b c : Rat}, a < b → c < 0 → b * c < a * c := fun {a b c} h1 h2 => by
    have := key h1 (show 0 < -c by grind)
    grind
  rcases cmpQ_cases z 0 with ⟨g1, g2⟩ | ⟨g1, g2⟩ | ⟨g1, g2⟩
  · rcases cmpQ_cases x y with ⟨h1, h2⟩ | ⟨h1, h2⟩ | ⟨h1, h2⟩
    · have := keyn h1 g1
      rw [g2, h2]; unfold cmpQ; rw [if_neg (by grind), if_pos this]; rfl
    · subst h1
      rw [g2, h2]; unfold cmpQ; rw [if_neg (by grind), if_neg (by grind)]; rfl
    · have := keyn h1 g1
      rw [g2, h2]; unfold cmpQ; rw [if_pos this]; rfl
  · subst g1
    rw [g2, Rat.mul_zero, Rat.mul_zero]; unfold cmpQ; simp
  · rcases cmpQ_cases x y with ⟨h1, h2⟩ | ⟨h1, h2⟩ | ⟨h1, h2⟩
    · have := key h1 g1
      rw [g2, h2]; unfold cmpQ; rw [if_pos this]; rfl
    · subst h1
      rw [g2, h2]; unfold cmpQ; rw [if_neg (by grind), if_neg (by grind)]; rfl
    · have := key h1 g1
      rw [g2, h2]; unfold cmpQ; rw [if_neg (by grind), if_pos this]; rfl
theorem cmpQ_bound (x y : Rat) : -1 ≤ cmpQ x y ∧ cmpQ x y ≤ 1 := by
  rcases cmpQ_cases x y with ⟨h1, h2⟩ | ⟨h1, h2⟩ | ⟨h1, h2⟩ <;> omega
theorem cmpQ_zero (x y : Rat) : cmpQ x y = 0 ↔ x = y := by
  rcases cmpQ_cases x y with ⟨h1, h2⟩ | ⟨h1, h2⟩ | ⟨h1, h2⟩
  · exact ⟨fun h => by omega, fun h => by grind⟩
  · exact ⟨fun _ => h1, fun _ => h2⟩
  · exact ⟨fun h => by omega, fun h => by grind⟩

section
variable {s s' : Bool} {l d l' d' : List Int} {x y : Rat} {k m : Nat}
theorem lsame_as {p q : Rat} (h : p = q := by assumption) : Evals Tryd.prog 7 [ratD p, ratD q] (.bool true) := lsame_eq h
end

end Go.Proofs.YtpolinoaefdobaaDoor.K
