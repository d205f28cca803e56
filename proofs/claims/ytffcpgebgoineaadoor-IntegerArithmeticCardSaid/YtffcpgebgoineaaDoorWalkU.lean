/- Walks: nat.Print and its reference. -/
import Derived.Test.YtffcpgebgoineaaDoorFmt
import Derived.Test.YtffcpgebgoineaaDoorDec
import Derived.Test.YtffcpgebgoineaaDoorWalkO
namespace Go.Proofs.YtffcpgebgoineaaDoor.K
open Go
set_option linter.unusedVariables false
set_option linter.unusedSimpArgs false

theorem fmtD_ev (u : Int) : Evals Tryd.prog 60 [.int .u64 u, .int .i64 10] (.str (decD u)) := fmt_ev u
theorem nprint {a : List Int} {x : Int} {k : Nat} [h : NA a x k] (hk : k ≤ 1000000000000 := by first | omega | (simp only [List.length_cons, List.length_nil, List.length_set, List.length_replicate, List.length_append, List.length_take, List.length_drop]; omega)) : Evals Tryd.prog 52 [.ints .u32 a] (.str (decD x)) := by
  refine evals_of_awp Tryd.func52 rfl (CallOK.of Tryd.func52 (by kernel_rfl) rfl) (Nat.le_of_ble_eq_true rfl) ?_
  rintro w R hR ⟨vs, hv⟩
  obtain ⟨_, ha⟩ := hv.nat 0 rfl
  have hx0 : 0 ≤ x := by rw [← h.v]; exact val_nonneg ha
  have hxk : x < 4294967296 ^ k := Int.lt_of_lt_of_le (by rw [← h.v]; exact val_lt ha) (pow_mono h.hl)
  have g0 := limbs_nil hx0
  have gl := grp_len_limbs hxk
  repeat' (first
    | (apply RunL.step; exact rfl; first | (apply op_nilVec 34 .u32; exact .inl rfl; exact rfl) | (apply op_appendV (τ := τ); exact rfl; exact rfl; exact rfl; exact rfl; exact rfl; exact Rd.of rfl; exact Rd.of rfl; exact rfl; ((try dsimp only); (try simp only [List.length_cons, List.length_nil]); omega); exact rfl; exact .inl rfl; exact rfl) | (apply op_appendS (τ := τ); exact rfl; exact rfl; exact rfl; exact rfl; exact rfl; exact rfl; exact rfl; kernel_rfl; exact Rd.of rfl; exact Rd.of rfl; omega; exact .inl rfl; exact rfl) | (apply op_appNil app_nil; exact Rd.of rfl; exact .inl rfl; exact rfl) | (apply op_convBS (τ := τ); exact rfl; exact rfl; exact rfl; exact rfl; exact rfl; exact rfl; exact Rd.of rfl; exact rfl) | fail) | (apply RunL.step; exact rfl; apply op_ev (τ := τ); exact rfl; (first | exact ctrim | exact hdl | exact fmtD_ev _); exact rfl) | (apply RunL.step; exact rfl; exact opA) | (apply RunL.hand; exact rfl; exact rfl; exact lenA; exact rfl) | (apply AWP.seq) | (apply AWP.region; exact rfl) | (apply AWP.block) | (apply AWP.skip) | (apply AWP.exit) | (apply AWP.retF; exact rfl; exact rfl; exact rfl; exact rfl; exact lenA; exact rfl) | (apply AWP.ret) | (apply RunL.nil) | (apply RunL.on; exact rfl; exact rfl; exact rfl; exact rfl; (first | exact rfl | assumption)) | (apply RunL.noU; exact rfl; exact rfl; exact rfl; exact rfl; exact rfl; exact rfl) | (apply RunL.no; exact rfl; exact rfl; exact rfl; exact rfl; (first | exact rfl | assumption); exact rfl; exact rfl) | (refine AWP.cond _ (Rd.of rfl) (fun hc => ?_) (fun hc => ?_) <;> first | (exfalso; cases hc; done) | (have hc' := hc; (try simp only [sc, reduceCtorEq, cmpOf] at hc'); try (exfalso; omega)))
    | (
     apply AWP.drawA
     repeat' (first
       | (apply DL.cons; (try (apply OpLoc.on; exact rfl; exact rfl; exact rfl; exact rfl; (first | exact rfl | assumption))); apply ol_ev (τ := τ); exact rfl; (first | exact ctrim | exact hdl | exact fmtD_ev _); exact rfl; exact rfl) | (apply DL.cons; exact olA; exact rfl) | (apply DL.nil; kernel_rfl) | (refine DL.split rfl rfl rfl rfl (fun hb => ?_) (fun hb => ?_) <;> have hb' := hb <;> (try simp only [sc, reduceCtorEq, cmpOf] at hb') <;> try (exfalso; omega)))
     all_goals (fail_if_success apply DL.id))
    | (refine RunL.split rfl rfl rfl rfl (fun hb => ?_) (fun hb => ?_) <;> have hb' := hb <;> (try simp only [sc, reduceCtorEq, cmpOf] at hb') <;> try (exfalso; omega)) )
  · rw [show x = 0 by omega, decD_zero]
    apply Ends.mk (.cons (.tmp rfl) .nil)
    rfl
  have hxp : 0 < x := by omega
  have gpos : 0 < (grp x).length := by rw [grp_pos hxp]; simp
  refine AWP.loop2 (fun (y : Int) (G : List Int) => ⟨[(3, .val (.ints .u32 (limbs y))), (4, .vec 4 34 1 (iv .u32 G))], []⟩) (fun y G => 0 ≤ y ∧ y ≤ x ∧ grp x = G ++ grp y) (fun y _ => y.toNat) x [] ⟨hx0, by omega, rfl⟩ (St.Le.of (by repeat' (first | exact all_nil | refine all_cons rfl ?_)) (by repeat' (first | exact all_nil | refine all_cons rfl ?_))) ?_
  rintro y G ⟨k1, k2, k3⟩
  have s1 : SzN y k := ⟨k1, by omega⟩
  have gy := limbs_nil k1
  have hGl : G.length ≤ 2 * k := by rw [k3] at gl; simp at gl; omega
  by_cases hy : 0 < y
  · have hdl := divLimb_ev (limbs y) 1000000000 (by omega) (by have := limbs_length_le s1.lt; omega)
    rw [val_limbs k1] at hdl
    repeat' (first
      | (apply RunL.step; exact rfl; first | (apply op_nilVec 34 .u32; exact .inl rfl; exact rfl) | (apply op_appendV (τ := τ); exact rfl; exact rfl; exact rfl; exact rfl; exact rfl; exact Rd.of rfl; exact Rd.of rfl; exact rfl; ((try dsimp only); (try simp only [List.length_cons, List.length_nil]); omega); exact rfl; exact .inl rfl; exact rfl) | (apply op_appendS (τ := τ); exact rfl; exact rfl; exact rfl; exact rfl; exact rfl; exact rfl; exact rfl; kernel_rfl; exact Rd.of rfl; exact Rd.of rfl; omega; exact .inl rfl; exact rfl) | (apply op_appNil app_nil; exact Rd.of rfl; exact .inl rfl; exact rfl) | (apply op_convBS (τ := τ); exact rfl; exact rfl; exact rfl; exact rfl; exact rfl; exact rfl; exact Rd.of rfl; exact rfl) | fail) | (apply RunL.step; exact rfl; apply op_ev (τ := τ); exact rfl; (first | exact ctrim | exact hdl | exact fmtD_ev _); exact rfl) | (apply RunL.step; exact rfl; exact opA) | (apply RunL.hand; exact rfl; exact rfl; exact lenA; exact rfl) | (apply AWP.seq) | (apply AWP.region; exact rfl) | (apply AWP.block) | (apply AWP.skip) | (apply AWP.exit) | (apply AWP.retF; exact rfl; exact rfl; exact rfl; exact rfl; exact lenA; exact rfl) | (apply AWP.ret) | (apply RunL.nil) | (apply RunL.on; exact rfl; exact rfl; exact rfl; exact rfl; (first | exact rfl | assumption)) | (apply RunL.noU; exact rfl; exact rfl; exact rfl; exact rfl; exact rfl; exact rfl) | (apply RunL.no; exact rfl; exact rfl; exact rfl; exact rfl; (first | exact rfl | assumption); exact rfl; exact rfl) | (refine AWP.cond _ (Rd.of rfl) (fun hc => ?_) (fun hc => ?_) <;> first | (exfalso; cases hc; done) | (have hc' := hc; (try simp only [sc, reduceCtorEq, cmpOf] at hc'); try (exfalso; omega)))
      | (
       apply AWP.drawA
       repeat' (first
         | (apply DL.cons; (try (apply OpLoc.on; exact rfl; exact rfl; exact rfl; exact rfl; (first | exact rfl | assumption))); apply ol_ev (τ := τ); exact rfl; (first | exact ctrim | exact hdl | exact fmtD_ev _); exact rfl; exact rfl) | (apply DL.cons; exact olA; exact rfl) | (apply DL.nil; kernel_rfl) | (refine DL.split rfl rfl rfl rfl (fun hb => ?_) (fun hb => ?_) <;> have hb' := hb <;> (try simp only [sc, reduceCtorEq, cmpOf] at hb') <;> try (exfalso; omega)))
       all_goals (fail_if_success apply DL.id))
      | (refine RunL.split rfl rfl rfl rfl (fun hb => ?_) (fun hb => ?_) <;> have hb' := hb <;> (try simp only [sc, reduceCtorEq, cmpOf] at hb') <;> try (exfalso; omega)) )
    refine ⟨_, _, St.Le.of (by repeat' (first | exact all_nil | refine all_cons rfl ?_)) (by repeat' (first | exact all_nil | refine all_cons rfl ?_)), ⟨by omega, by omega, ?_⟩, by omega⟩
    rw [k3, grp_pos hy, List.append_assoc]; rfl
  have hG : G = grp x := by rw [k3, grp_nil (by omega), List.append_nil]
  subst hG
  clear k3
  have hg32 : ∀ g ∈ grp x, 0 ≤ g ∧ g < 1000000000 := grp_range x x.toNat (Nat.le_refl _)
  have hget : ∀ i : Int, 0 ≤ i → i < (grp x).length → ix (grp x) i = hiG x i.toNat % 1000000000 ∧ 0 < hiG x i.toNat ∧ 0 ≤ ix (grp x) i ∧ ix (grp x) i < 1000000000 := fun i h1 h2 => by
    have h3 := grp_get (x := x) (i := i.toNat) (by omega)
    have h4 : ix (grp x) i = (grp x)[i.toNat]'(by omega) := by simp [ix, show i.toNat < (grp x).length by omega]
    have h5 := hg32 _ (List.getElem_mem (show i.toNat < (grp x).length by omega))
    rw [h4]
    exact ⟨h3.1, h3.2, h5.1, h5.2⟩
  refine AWP.freezeV 4 rfl rfl ?_
  have ht := hget ((grp x).length - 1) (by omega) (by omega)
  repeat' (first
    | (apply RunL.step; exact rfl; first | (apply op_nilVec 34 .u32; exact .inl rfl; exact rfl) | (apply op_appendV (τ := τ); exact rfl; exact rfl; exact rfl; exact rfl; exact rfl; exact Rd.of rfl; exact Rd.of rfl; exact rfl; ((try dsimp only); (try simp only [List.length_cons, List.length_nil]); omega); exact rfl; exact .inl rfl; exact rfl) | (apply op_appendS (τ := τ); exact rfl; exact rfl; exact rfl; exact rfl; exact rfl; exact rfl; exact rfl; kernel_rfl; exact Rd.of rfl; exact Rd.of rfl; omega; exact .inl rfl; exact rfl) | (apply op_appNil app_nil; exact Rd.of rfl; exact .inl rfl; exact rfl) | (apply op_convBS (τ := τ); exact rfl; exact rfl; exact rfl; exact rfl; exact rfl; exact rfl; exact Rd.of rfl; exact rfl) | fail) | (apply RunL.step; exact rfl; apply op_ev (τ := τ); exact rfl; (first | exact ctrim | exact hdl | exact fmtD_ev _); exact rfl) | (apply RunL.step; exact rfl; exact opA) | (apply RunL.hand; exact rfl; exact rfl; exact lenA; exact rfl) | (apply AWP.seq) | (apply AWP.region; exact rfl) | (apply AWP.block) | (apply AWP.skip) | (apply AWP.exit) | (apply AWP.retF; exact rfl; exact rfl; exact rfl; exact rfl; exact lenA; exact rfl) | (apply AWP.ret) | (apply RunL.nil) | (apply RunL.on; exact rfl; exact rfl; exact rfl; exact rfl; (first | exact rfl | assumption)) | (apply RunL.noU; exact rfl; exact rfl; exact rfl; exact rfl; exact rfl; exact rfl) | (apply RunL.no; exact rfl; exact rfl; exact rfl; exact rfl; (first | exact rfl | assumption); exact rfl; exact rfl) | (refine AWP.cond _ (Rd.of rfl) (fun hc => ?_) (fun hc => ?_) <;> first | (exfalso; cases hc; done) | (have hc' := hc; (try simp only [sc, reduceCtorEq, cmpOf] at hc'); try (exfalso; omega)))
    | (
     apply AWP.drawA
     repeat' (first
       | (apply DL.cons; (try (apply OpLoc.on; exact rfl; exact rfl; exact rfl; exact rfl; (first | exact rfl | assumption))); apply ol_ev (τ := τ); exact rfl; (first | exact ctrim | exact hdl | exact fmtD_ev _); exact rfl; exact rfl) | (apply DL.cons; exact olA; exact rfl) | (apply DL.nil; kernel_rfl) | (refine DL.split rfl rfl rfl rfl (fun hb => ?_) (fun hb => ?_) <;> have hb' := hb <;> (try simp only [sc, reduceCtorEq, cmpOf] at hb') <;> try (exfalso; omega)))
     all_goals (fail_if_success apply DL.id))
    | (refine RunL.split rfl rfl rfl rfl (fun hb => ?_) (fun hb => ?_) <;> have hb' := hb <;> (try simp only [sc, reduceCtorEq, cmpOf] at hb') <;> try (exfalso; omega)) )
  have htop : hiG x (grp x).length ≤ 0 := hiG_top x _ (Nat.le_refl _)
  have e0 : ix (grp x) ((grp x).length - 1) = hiG x ((grp x).length - 1 : Int).toNat := by
    have h1 : (grp x).length = ((grp x).length - 1 : Int).toNat + 1 := by omega
    rw [h1, hiG] at htop
    rw [ht.1]
    omega
  refine AWP.loop2 (fun (i : Int) (T : List Int) => ⟨[(4, .val (.ints .u32 (grp x))), (6, .vec 34 5 1 (iv .u8 T)), (7, .val (.int .i64 i))], []⟩)
    (fun i T => -1 ≤ i ∧ i ≤ (grp x).length - 2 ∧ T = byt (decD (hiG x (i + 1).toNat)) ∧ T.length ≤ 9 * ((grp x).length - 1 - i)) (fun i _ => (i + 1).toNat) ((grp x).length - 2) _ ⟨by omega, by omega, ?_, ?_⟩ (St.Le.of (by repeat' (first | exact all_nil | refine all_cons rfl ?_)) (by repeat' (first | exact all_nil | refine all_cons rfl ?_))) ?_
  · rw [e0, show ((grp x).length - 2 + 1 : Int) = (grp x).length - 1 by omega]; rfl
  · rw [byt_length]
    have := decD_le (k := 9) (by omega) ht.2.2.1 (by omega)
    simp only [decD] at this
    omega
  rintro i T ⟨j1, j2, j3, j4⟩
  by_cases hi : 0 ≤ i
  · have hg := hget i hi (by omega)
    have hg' := hget (i + 1) (by omega) (by omega)
    have hd9 := decD_le (k := 9) (by omega) hg.2.2.1 (by omega)
    repeat' (first
      | (apply RunL.step; exact rfl; first | (apply op_nilVec 34 .u32; exact .inl rfl; exact rfl) | (apply op_appendV (τ := τ); exact rfl; exact rfl; exact rfl; exact rfl; exact rfl; exact Rd.of rfl; exact Rd.of rfl; exact rfl; ((try dsimp only); (try simp only [List.length_cons, List.length_nil]); omega); exact rfl; exact .inl rfl; exact rfl) | (apply op_appendS (τ := τ); exact rfl; exact rfl; exact rfl; exact rfl; exact rfl; exact rfl; exact rfl; kernel_rfl; exact Rd.of rfl; exact Rd.of rfl; omega; exact .inl rfl; exact rfl) | (apply op_appNil app_nil; exact Rd.of rfl; exact .inl rfl; exact rfl) | (apply op_convBS (τ := τ); exact rfl; exact rfl; exact rfl; exact rfl; exact rfl; exact rfl; exact Rd.of rfl; exact rfl) | fail) | (apply RunL.step; exact rfl; apply op_ev (τ := τ); exact rfl; (first | exact ctrim | exact hdl | exact fmtD_ev _); exact rfl) | (apply RunL.step; exact rfl; exact opA) | (apply RunL.hand; exact rfl; exact rfl; exact lenA; exact rfl) | (apply AWP.seq) | (apply AWP.region; exact rfl) | (apply AWP.block) | (apply AWP.skip) | (apply AWP.exit) | (apply AWP.retF; exact rfl; exact rfl; exact rfl; exact rfl; exact lenA; exact rfl) | (apply AWP.ret) | (apply RunL.nil) | (apply RunL.on; exact rfl; exact rfl; exact rfl; exact rfl; (first | exact rfl | assumption)) | (apply RunL.noU; exact rfl; exact rfl; exact rfl; exact rfl; exact rfl; exact rfl) | (apply RunL.no; exact rfl; exact rfl; exact rfl; exact rfl; (first | exact rfl | assumption); exact rfl; exact rfl) | (refine AWP.cond _ (Rd.of rfl) (fun hc => ?_) (fun hc => ?_) <;> first | (exfalso; cases hc; done) | (have hc' := hc; (try simp only [sc, reduceCtorEq, cmpOf] at hc'); try (exfalso; omega)))
      | (
       apply AWP.drawA
       repeat' (first
         | (apply DL.cons; (try (apply OpLoc.on; exact rfl; exact rfl; exact rfl; exact rfl; (first | exact rfl | assumption))); apply ol_ev (τ := τ); exact rfl; (first | exact ctrim | exact hdl | exact fmtD_ev _); exact rfl; exact rfl) | (apply DL.cons; exact olA; exact rfl) | (apply DL.nil; kernel_rfl) | (refine DL.split rfl rfl rfl rfl (fun hb => ?_) (fun hb => ?_) <;> have hb' := hb <;> (try simp only [sc, reduceCtorEq, cmpOf] at hb') <;> try (exfalso; omega)))
       all_goals (fail_if_success apply DL.id))
      | (refine RunL.split rfl rfl rfl rfl (fun hb => ?_) (fun hb => ?_) <;> have hb' := hb <;> (try simp only [sc, reduceCtorEq, cmpOf] at hb') <;> try (exfalso; omega)) )
    refine AWP.loop2 (fun (j : Int) (U : List Int) => ⟨[(4, .val (.ints .u32 (grp x))), (6, .vec 34 5 1 (iv .u8 U)), (7, .val (.int .i64 i)), (8, .val (.str (decD (ix (grp x) i)))), (9, .val (.int .i64 j))], []⟩)
      (fun j U => (decD (ix (grp x) i)).length ≤ j ∧ j ≤ 9 ∧ U = T ++ List.replicate (j.toNat - (decD (ix (grp x) i)).length) 48) (fun j _ => (9 - j).toNat) (decD (ix (grp x) i)).length T ⟨by omega, by omega, by simp⟩ (St.Le.of (by repeat' (first | exact all_nil | refine all_cons rfl ?_)) (by repeat' (first | exact all_nil | refine all_cons rfl ?_))) ?_
    rintro j U ⟨m1, m2, m3⟩
    have hUl : U.length = T.length + (j.toNat - (decD (ix (grp x) i)).length) := by rw [m3]; simp
    repeat' (first
      | (apply RunL.step; exact rfl; first | (apply op_nilVec 34 .u32; exact .inl rfl; exact rfl) | (apply op_appendV (τ := τ); exact rfl; exact rfl; exact rfl; exact rfl; exact rfl; exact Rd.of rfl; exact Rd.of rfl; exact rfl; ((try dsimp only); (try simp only [List.length_cons, List.length_nil]); omega); exact rfl; exact .inl rfl; exact rfl) | (apply op_appendS (τ := τ); exact rfl; exact rfl; exact rfl; exact rfl; exact rfl; exact rfl; exact rfl; kernel_rfl; exact Rd.of rfl; exact Rd.of rfl; omega; exact .inl rfl; exact rfl) | (apply op_appNil app_nil; exact Rd.of rfl; exact .inl rfl; exact rfl) | (apply op_convBS (τ := τ); exact rfl; exact rfl; exact rfl; exact rfl; exact rfl; exact rfl; exact Rd.of rfl; exact rfl) | fail) | (apply RunL.step; exact rfl; apply op_ev (τ := τ); exact rfl; (first | exact ctrim | exact hdl | exact fmtD_ev _); exact rfl) | (apply RunL.step; exact rfl; exact opA) | (apply RunL.hand; exact rfl; exact rfl; exact lenA; exact rfl) | (apply AWP.seq) | (apply AWP.region; exact rfl) | (apply AWP.block) | (apply AWP.skip) | (apply AWP.exit) | (apply AWP.retF; exact rfl; exact rfl; exact rfl; exact rfl; exact lenA; exact rfl) | (apply AWP.ret) | (apply RunL.nil) | (apply RunL.on; exact rfl; exact rfl; exact rfl; exact rfl; (first | exact rfl | assumption)) | (apply RunL.noU; exact rfl; exact rfl; exact rfl; exact rfl; exact rfl; exact rfl) | (apply RunL.no; exact rfl; exact rfl; exact rfl; exact rfl; (first | exact rfl | assumption); exact rfl; exact rfl) | (refine AWP.cond _ (Rd.of rfl) (fun hc => ?_) (fun hc => ?_) <;> first | (exfalso; cases hc; done) | (have hc' := hc; (try simp only [sc, reduceCtorEq, cmpOf] at hc'); try (exfalso; omega)))
      | (
       apply AWP.drawA
       repeat' (first
         | (apply DL.cons; (try (apply OpLoc.on; exact rfl; exact rfl; exact rfl; exact rfl; (first | exact rfl | assumption))); apply ol_ev (τ := τ); exact rfl; (first | exact ctrim | exact hdl | exact fmtD_ev _); exact rfl; exact rfl) | (apply DL.cons; exact olA; exact rfl) | (apply DL.nil; kernel_rfl) | (refine DL.split rfl rfl rfl rfl (fun hb => ?_) (fun hb => ?_) <;> have hb' := hb <;> (try simp only [sc, reduceCtorEq, cmpOf] at hb') <;> try (exfalso; omega)))
       all_goals (fail_if_success apply DL.id))
      | (refine RunL.split rfl rfl rfl rfl (fun hb => ?_) (fun hb => ?_) <;> have hb' := hb <;> (try simp only [sc, reduceCtorEq, cmpOf] at hb') <;> try (exfalso; omega)) )
    · refine ⟨_, _, St.Le.of (by repeat' (first | exact all_nil | refine all_cons rfl ?_)) (by repeat' (first | exact all_nil | refine all_cons rfl ?_)), ⟨by omega, by omega, ?_⟩, by omega⟩
      rw [m3, List.append_assoc, show (j + 1).toNat - (decD (ix (grp x) i)).length = (j.toNat - (decD (ix (grp x) i)).length) + 1 by omega, List.replicate_succ']
    · refine ⟨_, _, St.Le.of (by repeat' (first | exact all_nil | refine all_cons rfl ?_)) (by repeat' (first | exact all_nil | refine all_cons rfl ?_)), ⟨by omega, by omega, ?_, ?_⟩, by omega⟩
      · have h1 : hiG x (i + 1).toNat = hiG x i.toNat / 1000000000 := by rw [show (i + 1).toNat = i.toNat + 1 by omega]; rfl
        have h2 := decD_group (x := hiG x i.toNat) (by rw [← h1]; exact hg'.2.1)
        rw [show (i - 1 + 1).toNat = i.toNat by omega, h2, ← hg.1, m3, j3, h1, show j.toNat = 9 by omega]
        simp [byt]
      · simp [byt_length]; omega
  · refine AWP.freezeV 6 rfl rfl ?_
    rw [show decD x = ofByt T by rw [j3, ofByt_byt, show (i + 1).toNat = 0 by omega]; rfl]
    repeat' (first
      | (apply RunL.step; exact rfl; first | (apply op_nilVec 34 .u32; exact .inl rfl; exact rfl) | (apply op_appendV (τ := τ); exact rfl; exact rfl; exact rfl; exact rfl; exact rfl; exact Rd.of rfl; exact Rd.of rfl; exact rfl; ((try dsimp only); (try simp only [List.length_cons, List.length_nil]); omega); exact rfl; exact .inl rfl; exact rfl) | (apply op_appendS (τ := τ); exact rfl; exact rfl; exact rfl; exact rfl; exact rfl; exact rfl; exact rfl; kernel_rfl; exact Rd.of rfl; exact Rd.of rfl; omega; exact .inl rfl; exact rfl) | (apply op_appNil app_nil; exact Rd.of rfl; exact .inl rfl; exact rfl) | (apply op_convBS (τ := τ); exact rfl; exact rfl; exact rfl; exact rfl; exact rfl; exact rfl; exact Rd.of rfl; exact rfl) | fail) | (apply RunL.step; exact rfl; apply op_ev (τ := τ); exact rfl; (first | exact ctrim | exact hdl | exact fmtD_ev _); exact rfl) | (apply RunL.step; exact rfl; exact opA) | (apply RunL.hand; exact rfl; exact rfl; exact lenA; exact rfl) | (apply AWP.seq) | (apply AWP.region; exact rfl) | (apply AWP.block) | (apply AWP.skip) | (apply AWP.exit) | (apply AWP.retF; exact rfl; exact rfl; exact rfl; exact rfl; exact lenA; exact rfl) | (apply AWP.ret) | (apply RunL.nil) | (apply RunL.on; exact rfl; exact rfl; exact rfl; exact rfl; (first | exact rfl | assumption)) | (apply RunL.noU; exact rfl; exact rfl; exact rfl; exact rfl; exact rfl; exact rfl) | (apply RunL.no; exact rfl; exact rfl; exact rfl; exact rfl; (first | exact rfl | assumption); exact rfl; exact rfl) | (refine AWP.cond _ (Rd.of rfl) (fun hc => ?_) (fun hc => ?_) <;> first | (exfalso; cases hc; done) | (have hc' := hc; (try simp only [sc, reduceCtorEq, cmpOf] at hc'); try (exfalso; omega)))
      | (
       apply AWP.drawA
       repeat' (first
         | (apply DL.cons; (try (apply OpLoc.on; exact rfl; exact rfl; exact rfl; exact rfl; (first | exact rfl | assumption))); apply ol_ev (τ := τ); exact rfl; (first | exact ctrim | exact hdl | exact fmtD_ev _); exact rfl; exact rfl) | (apply DL.cons; exact olA; exact rfl) | (apply DL.nil; kernel_rfl) | (refine DL.split rfl rfl rfl rfl (fun hb => ?_) (fun hb => ?_) <;> have hb' := hb <;> (try simp only [sc, reduceCtorEq, cmpOf] at hb') <;> try (exfalso; omega)))
       all_goals (fail_if_success apply DL.id))
      | (refine RunL.split rfl rfl rfl rfl (fun hb => ?_) (fun hb => ?_) <;> have hb' := hb <;> (try simp only [sc, reduceCtorEq, cmpOf] at hb') <;> try (exfalso; omega)) )
    apply Ends.mk (.cons (.tmp rfl) .nil)
    rfl
end Go.Proofs.YtffcpgebgoineaaDoor.K
