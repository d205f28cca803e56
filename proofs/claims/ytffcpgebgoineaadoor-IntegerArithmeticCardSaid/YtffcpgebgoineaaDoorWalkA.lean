/- Walks: nat.trim, Norm, Of, Cmp. -/
import Derived.Test.YtffcpgebgoineaaDoorAuto
namespace Go.Proofs.YtffcpgebgoineaaDoor.K
open Go
set_option linter.unusedVariables false
set_option linter.unusedSimpArgs false

theorem HoldsAll.ints {R : Nat → Prop} {w : World} {ds : List D} {vs : Array Value} (i : Nat) {k : IntKind} {l : List Int} (h : HoldsAll R w ds vs) (hi : ds[i]? = some (.ints k l)) : l.length ≤ 9223372036854775807 ∧ ∀ x ∈ l, InR k x := by
  have h1 : i < vs.size := by have := (List.getElem?_eq_some_iff.1 hi).1; have := h.1; omega
  have h2 := h.2 i _ vs[i] hi (by simp [h1])
  generalize vs[i] = v at h2
  cases h2 with
  | intsNil => exact ⟨by simp, fun x hx => by cases hx⟩
  | intsE => exact ⟨by simp, fun x hx => by cases hx⟩
  | ints => refine ⟨?_, by assumption⟩; simp only [maxLen] at *; omega
theorem lim_of {l : List Int} (h : ∀ x ∈ l, InR .u32 x) : Lim l := fun x hx => by
  have := h x hx
  simp [InR, IntKind.min, IntKind.max, IntKind.bits, IntKind.signed] at this
  omega
theorem HoldsAll.nat {R : Nat → Prop} {w : World} {ds : List D} {vs : Array Value} (i : Nat) {l : List Int} (h : HoldsAll R w ds vs) (hi : ds[i]? = some (.ints .u32 l)) : l.length ≤ 9223372036854775807 ∧ Lim l :=
  ⟨(h.ints i hi).1, lim_of (h.ints i hi).2⟩
theorem HoldsAll.int {R : Nat → Prop} {w : World} {ds : List D} {vs : Array Value} (i : Nat) {k : IntKind} {n : Int} (h : HoldsAll R w ds vs) (hi : ds[i]? = some (.int k n)) : InR k n := by
  have h1 : i < vs.size := by have := (List.getElem?_eq_some_iff.1 hi).1; have := h.1; omega
  have h2 := h.2 i _ vs[i] hi (by simp [h1])
  generalize vs[i] = v at h2
  cases h2; assumption

theorem trim_ev (a : List Int) : Evals Tryd.prog 40 [.ints .u32 a] (.ints .u32 (limbs (val a))) := by
  refine evals_of_awp Tryd.func40 rfl (CallOK.of Tryd.func40 (by kernel_rfl) rfl) (Nat.le_of_ble_eq_true rfl) ?_
  rintro w R hR ⟨vs, hv⟩
  obtain ⟨hla, hla'⟩ := hv.nat 0 rfl
  rw [← trim_eq hla']
  repeat' (first
    | (apply RunL.step; exact rfl; exact opA) | (apply AWP.seq) | (apply AWP.region; exact rfl) | (apply AWP.block) | (apply AWP.skip) | (apply AWP.exit) | (apply AWP.retF; exact rfl; exact rfl; exact rfl; exact rfl; exact lenA; exact rfl) | (apply AWP.ret) | (apply RunL.nil) | (apply RunL.on; exact rfl; exact rfl; exact rfl; exact rfl; (first | exact rfl | assumption)) | (apply RunL.noU; exact rfl; exact rfl; exact rfl; exact rfl; exact rfl; exact rfl) | (apply RunL.no; exact rfl; exact rfl; exact rfl; exact rfl; (first | exact rfl | assumption); exact rfl; exact rfl) | (refine AWP.cond _ (Rd.of rfl) (fun hc => ?_) (fun hc => ?_) <;> first | (exfalso; cases hc; done) | (have hc' := hc; (try simp only [sc, reduceCtorEq, cmpOf] at hc'); try (exfalso; omega)))
    | (
     apply AWP.drawA
     repeat' (first
       | (apply DL.cons; exact olA; exact rfl) | (apply DL.nil; kernel_rfl) | (refine DL.split rfl rfl rfl rfl (fun hb => ?_) (fun hb => ?_) <;> have hb' := hb <;> (try simp only [sc, reduceCtorEq, cmpOf] at hb') <;> try (exfalso; omega)))
     all_goals (fail_if_success apply DL.id))
    | (refine RunL.split rfl rfl rfl rfl (fun hb => ?_) (fun hb => ?_) <;> have hb' := hb <;> (try simp only [sc, reduceCtorEq, cmpOf] at hb') <;> try (exfalso; omega)) )
  refine AWP.loop (ι := List Int) (fun m => ⟨[(0, .val (.ints .u32 m))], []⟩) (fun m => trim m = trim a ∧ m.length ≤ a.length) (fun m => m.length) a ⟨rfl, Nat.le_refl _⟩ (.of (all_cons rfl all_nil) all_nil) ?_
  rintro m ⟨h1, h2⟩
  repeat' (first
    | (apply RunL.step; exact rfl; exact opA) | (apply AWP.seq) | (apply AWP.region; exact rfl) | (apply AWP.block) | (apply AWP.skip) | (apply AWP.exit) | (apply AWP.retF; exact rfl; exact rfl; exact rfl; exact rfl; exact lenA; exact rfl) | (apply AWP.ret) | (apply RunL.nil) | (apply RunL.on; exact rfl; exact rfl; exact rfl; exact rfl; (first | exact rfl | assumption)) | (apply RunL.noU; exact rfl; exact rfl; exact rfl; exact rfl; exact rfl; exact rfl) | (apply RunL.no; exact rfl; exact rfl; exact rfl; exact rfl; (first | exact rfl | assumption); exact rfl; exact rfl) | (refine AWP.cond _ (Rd.of rfl) (fun hc => ?_) (fun hc => ?_) <;> first | (exfalso; cases hc; done) | (have hc' := hc; (try simp only [sc, reduceCtorEq, cmpOf] at hc'); try (exfalso; omega)))
    | (
     apply AWP.drawA
     repeat' (first
       | (apply DL.cons; exact olA; exact rfl) | (apply DL.nil; kernel_rfl) | (refine DL.split rfl rfl rfl rfl (fun hb => ?_) (fun hb => ?_) <;> have hb' := hb <;> (try simp only [sc, reduceCtorEq, cmpOf] at hb') <;> try (exfalso; omega)))
     all_goals (fail_if_success apply DL.id))
    | (refine RunL.split rfl rfl rfl rfl (fun hb => ?_) (fun hb => ?_) <;> have hb' := hb <;> (try simp only [sc, reduceCtorEq, cmpOf] at hb') <;> try (exfalso; omega)) )
  · refine ⟨_, .of (all_cons rfl all_nil) all_nil, ⟨?_, by simp; omega⟩, by simp; omega⟩
    rw [← h1, trim_step (l := m) (by omega), if_pos hc']
    simp
  · apply Ends.mk (.cons (.tmp rfl) .nil)
    rw [← h1, trim_step (l := m) (by omega), if_neg hc']
    rfl
  · apply Ends.mk (.cons (.tmp rfl) .nil)
    have : m = [] := List.eq_nil_of_length_eq_zero (by omega)
    subst this
    rw [← h1]; rfl

theorem norm_ev (a : List Int) (h : a.length ≤ 70368744177664) : Evals Tryd.prog 42 [.ints .u32 a] (.ints .u32 (limbs (val a))) := by
  refine evals_of_awp Tryd.func42 rfl (CallOK.of Tryd.func42 (by kernel_rfl) rfl) (Nat.le_of_ble_eq_true rfl) ?_
  rintro w R hR ⟨vs, hv⟩
  obtain ⟨hla, hla'⟩ := hv.nat 0 rfl
  have hlen := limbs_val_length a hla'
  repeat' (first
    | (apply RunL.step; exact rfl; apply op_ev (τ := τ); exact rfl; (exact trim_ev _); exact rfl) | (apply RunL.step; exact rfl; exact opA) | (apply RunL.hand; exact rfl; exact rfl; exact lenA; exact rfl) | (apply AWP.seq) | (apply AWP.region; exact rfl) | (apply AWP.block) | (apply AWP.skip) | (apply AWP.exit) | (apply AWP.retF; exact rfl; exact rfl; exact rfl; exact rfl; exact lenA; exact rfl) | (apply AWP.ret) | (apply RunL.nil) | (apply RunL.on; exact rfl; exact rfl; exact rfl; exact rfl; (first | exact rfl | assumption)) | (apply RunL.noU; exact rfl; exact rfl; exact rfl; exact rfl; exact rfl; exact rfl) | (apply RunL.no; exact rfl; exact rfl; exact rfl; exact rfl; (first | exact rfl | assumption); exact rfl; exact rfl) | (refine AWP.cond _ (Rd.of rfl) (fun hc => ?_) (fun hc => ?_) <;> first | (exfalso; cases hc; done) | (have hc' := hc; (try simp only [sc, reduceCtorEq, cmpOf] at hc'); try (exfalso; omega)))
    | (
     apply AWP.drawA
     repeat' (first
       | (apply DL.cons; (try (apply OpLoc.on; exact rfl; exact rfl; exact rfl; exact rfl; (first | exact rfl | assumption))); apply ol_ev (τ := τ); exact rfl; (exact trim_ev _); exact rfl; exact rfl) | (apply DL.cons; exact olA; exact rfl) | (apply DL.nil; kernel_rfl) | (refine DL.split rfl rfl rfl rfl (fun hb => ?_) (fun hb => ?_) <;> have hb' := hb <;> (try simp only [sc, reduceCtorEq, cmpOf] at hb') <;> try (exfalso; omega)))
     all_goals (fail_if_success apply DL.id))
    | (refine RunL.split rfl rfl rfl rfl (fun hb => ?_) (fun hb => ?_) <;> have hb' := hb <;> (try simp only [sc, reduceCtorEq, cmpOf] at hb') <;> try (exfalso; omega)) )
  apply Ends.mk (.cons (.tmp rfl) .nil)
  rfl

theorem cmp_ev (a b : List Int) : Evals Tryd.prog 17 [.ints .u32 a, .ints .u32 b] (.int .i64 (cmpI (val a) (val b))) := by
  refine evals_of_awp Tryd.func17 rfl (CallOK.of Tryd.func17 (by kernel_rfl) rfl) (Nat.le_of_ble_eq_true rfl) ?_
  rintro w R hR ⟨vs, hv⟩
  obtain ⟨hla, ha⟩ := hv.nat 0 rfl
  obtain ⟨hlb, hb⟩ := hv.nat 1 rfl
  have h1 := limbs_val_length a ha
  have h2 := limbs_val_length b hb
  have va := val_nonneg ha
  have vb := val_nonneg hb
  repeat' (first
    | (apply RunL.step; exact rfl; apply op_ev (τ := τ); exact rfl; (exact trim_ev _); exact rfl) | (apply RunL.step; exact rfl; exact opA) | (apply RunL.hand; exact rfl; exact rfl; exact lenA; exact rfl) | (apply AWP.seq) | (apply AWP.region; exact rfl) | (apply AWP.block) | (apply AWP.skip) | (apply AWP.exit) | (apply AWP.retF; exact rfl; exact rfl; exact rfl; exact rfl; exact lenA; exact rfl) | (apply AWP.ret) | (apply RunL.nil) | (apply RunL.on; exact rfl; exact rfl; exact rfl; exact rfl; (first | exact rfl | assumption)) | (apply RunL.noU; exact rfl; exact rfl; exact rfl; exact rfl; exact rfl; exact rfl) | (apply RunL.no; exact rfl; exact rfl; exact rfl; exact rfl; (first | exact rfl | assumption); exact rfl; exact rfl) | (refine AWP.cond _ (Rd.of rfl) (fun hc => ?_) (fun hc => ?_) <;> first | (exfalso; cases hc; done) | (have hc' := hc; (try simp only [sc, reduceCtorEq, cmpOf] at hc'); try (exfalso; omega)))
    | (
     apply AWP.drawA
     repeat' (first
       | (apply DL.cons; (try (apply OpLoc.on; exact rfl; exact rfl; exact rfl; exact rfl; (first | exact rfl | assumption))); apply ol_ev (τ := τ); exact rfl; (exact trim_ev _); exact rfl; exact rfl) | (apply DL.cons; exact olA; exact rfl) | (apply DL.nil; kernel_rfl) | (refine DL.split rfl rfl rfl rfl (fun hb => ?_) (fun hb => ?_) <;> have hb' := hb <;> (try simp only [sc, reduceCtorEq, cmpOf] at hb') <;> try (exfalso; omega)))
     all_goals (fail_if_success apply DL.id))
    | (refine RunL.split rfl rfl rfl rfl (fun hb => ?_) (fun hb => ?_) <;> have hb' := hb <;> (try simp only [sc, reduceCtorEq, cmpOf] at hb') <;> try (exfalso; omega)) )
  · apply Ends.mk (.cons (.tmp rfl) .nil)
    have := lt_of_length (m := val a) (n := val b) (by omega)
    simp [pack, cmpI, this]
  · apply Ends.mk (.cons (.tmp rfl) .nil)
    have := lt_of_length (m := val b) (n := val a) (by omega)
    have : ¬ val a < val b := by omega
    simp [pack, cmpI, *]
  refine AWP.loop (ι := Int) (fun i => ⟨[(0, .val (.ints .u32 (limbs (val a)))), (1, .val (.ints .u32 (limbs (val b)))), (5, .val (.int .i64 i))], []⟩)
    (fun i => -1 ≤ i ∧ i < ((limbs (val a)).length : Int) ∧ (limbs (val a)).drop (i + 1).toNat = (limbs (val b)).drop (i + 1).toNat) (fun i => (i + 1).toNat) _ ⟨?_, ?_, ?_⟩ (.of (all_cons rfl (all_cons rfl (all_cons rfl all_nil))) all_nil) ?_
  · omega
  · omega
  · rw [List.drop_eq_nil_of_le (by omega), List.drop_eq_nil_of_le (by omega)]
  rintro i ⟨hi1, hi2, hi3⟩
  repeat' (first
    | (apply RunL.step; exact rfl; apply op_ev (τ := τ); exact rfl; (exact trim_ev _); exact rfl) | (apply RunL.step; exact rfl; exact opA) | (apply RunL.hand; exact rfl; exact rfl; exact lenA; exact rfl) | (apply AWP.seq) | (apply AWP.region; exact rfl) | (apply AWP.block) | (apply AWP.skip) | (apply AWP.exit) | (apply AWP.retF; exact rfl; exact rfl; exact rfl; exact rfl; exact lenA; exact rfl) | (apply AWP.ret) | (apply RunL.nil) | (apply RunL.on; exact rfl; exact rfl; exact rfl; exact rfl; (first | exact rfl | assumption)) | (apply RunL.noU; exact rfl; exact rfl; exact rfl; exact rfl; exact rfl; exact rfl) | (apply RunL.no; exact rfl; exact rfl; exact rfl; exact rfl; (first | exact rfl | assumption); exact rfl; exact rfl) | (refine AWP.cond _ (Rd.of rfl) (fun hc => ?_) (fun hc => ?_) <;> first | (exfalso; cases hc; done) | (have hc' := hc; (try simp only [sc, reduceCtorEq, cmpOf] at hc'); try (exfalso; omega)))
    | (
     apply AWP.drawA
     repeat' (first
       | (apply DL.cons; (try (apply OpLoc.on; exact rfl; exact rfl; exact rfl; exact rfl; (first | exact rfl | assumption))); apply ol_ev (τ := τ); exact rfl; (exact trim_ev _); exact rfl; exact rfl) | (apply DL.cons; exact olA; exact rfl) | (apply DL.nil; kernel_rfl) | (refine DL.split rfl rfl rfl rfl (fun hb => ?_) (fun hb => ?_) <;> have hb' := hb <;> (try simp only [sc, reduceCtorEq, cmpOf] at hb') <;> try (exfalso; omega)))
     all_goals (fail_if_success apply DL.id))
    | (refine RunL.split rfl rfl rfl rfl (fun hb => ?_) (fun hb => ?_) <;> have hb' := hb <;> (try simp only [sc, reduceCtorEq, cmpOf] at hb') <;> try (exfalso; omega)) )
  · apply Ends.mk (.cons (.tmp rfl) .nil)
    have := cmp_at (Lim.limbs (val a)) (Lim.limbs (val b)) (i := i.toNat) (by omega) (by omega) (by rwa [show i.toNat + 1 = (i + 1).toNat by omega]) (by rwa [Int.toNat_of_nonneg (by omega)])
    rw [val_limbs va, val_limbs vb] at this
    simp [pack, cmpI, this]
  · apply Ends.mk (.cons (.tmp rfl) .nil)
    have := cmp_at (Lim.limbs (val b)) (Lim.limbs (val a)) (i := i.toNat) (by omega) (by omega) (by rw [show i.toNat + 1 = (i + 1).toNat by omega]; exact hi3.symm) (by rwa [Int.toNat_of_nonneg (by omega)])
    rw [val_limbs va, val_limbs vb] at this
    have h3 : ¬ val a < val b := by omega
    simp [pack, cmpI, this, h3]
  · refine ⟨_, .of (all_cons rfl (all_cons rfl (all_cons rfl all_nil))) all_nil, ⟨by omega, by omega, ?_⟩, by omega⟩
    rw [show (i - 1 + 1).toNat = i.toNat by omega]
    exact drop_eq_step (by omega) (by omega) (by rw [show i.toNat + 1 = (i + 1).toNat by omega]; exact hi3) (by rw [Int.toNat_of_nonneg (by omega)]; omega)
  · apply Ends.mk (.cons (.tmp rfl) .nil)
    rw [show (i + 1).toNat = 0 by omega] at hi3
    have : val a = val b := limbs_inj va vb (by simpa using hi3)
    simp [pack, cmpI, this]
end Go.Proofs.YtffcpgebgoineaaDoor.K
