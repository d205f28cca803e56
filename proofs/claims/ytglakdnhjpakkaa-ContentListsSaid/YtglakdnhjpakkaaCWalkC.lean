/- Walks: lists of codes, topics and cells: Kids, Count, Unmet, their references, and the comparisons of lists. -/
import Derived.Test.YtglakdnhjpakkaaCWalkB
import Derived.Test.YtglakdnhjpakkaaRead
namespace Go.Proofs.Ytglakdnhjpakkaa.K
open Go
set_option linter.unusedVariables false
set_option linter.unusedSimpArgs false

theorem HoldsAll.slen {R : Nat → Prop} {w : World} {ds : List D} {vs : Array Value} (i : Nat) {z : Nat} {L : List (List D)} (h : HoldsAll R w ds vs) (hi : ds[i]? = some (.sl z L)) : L.length ≤ maxLen := by
  have h1 : i < vs.size := by have := (List.getElem?_eq_some_iff.1 hi).1; have := h.1; omega
  have h2 := h.2 i _ vs[i] hi (by simp [h1])
  generalize vs[i] = v at h2
  cases h2 with
  | slNil => simp
  | slE => simp
  | sl _ _ b off cap us hR hcap hmax hz hc hh => exact hmax
/-- lists, as they lie in memory -/
abbrev rowS (c : List UInt8) : List D := [.str c]
abbrev rowT (p : List UInt8 × List UInt8) : List D := [.str p.1, .str p.2]
abbrev rowC (p : List UInt8 × Int × Int) : List D := [.str p.1, .int .i64 p.2.1, .int .i64 p.2.2]
theorem row_at {α : Type} {f : α → List D} {l : List α} {i : Int} {x : α} (h : l[i.toNat]? = some x) : (l.map f)[i.toNat]? = some (f x) := by simp [h]
theorem some_at {α : Type} {l : List α} {i : Int} (h0 : 0 ≤ i) (h : i < l.length) : ∃ x, l[i.toNat]? = some x := ⟨l[i.toNat]'(by omega), by simp⟩
theorem take_at {α : Type} {l : List α} {i : Int} {x : α} (h0 : 0 ≤ i) (h : l[i.toNat]? = some x) : l.take (i + 1).toNat = l.take i.toNat ++ [x] := by
  rw [show (i + 1).toNat = i.toNat + 1 by omega, List.take_add_one, h]; rfl
theorem ints_of_take {α : Type} {l : List α} {i : Int} (h : ¬ i < l.length) : l.take i.toNat = l := List.take_of_length_le (by omega)

def countS (C : List (List UInt8)) (top : List UInt8) : Int := (C.filter fun c => underS c top).length
theorem countS_snoc (C : List (List UInt8)) (c top : List UInt8) : countS (C ++ [c]) top = countS C top + (if underS c top = true then 1 else 0) := by
  simp only [countS, List.filter_append, List.length_append]
  split
  · rename_i h; simp [h]
  · rename_i h; simp [h]
theorem countS_bound (C : List (List UInt8)) (top : List UInt8) : 0 ≤ countS C top ∧ countS C top ≤ C.length := by
  have := List.length_filter_le (fun c => underS c top) C
  unfold countS; omega
theorem ccount (C : List (List UInt8)) (top : List UInt8) (hp : top.length ≤ 140737488355328 := by omega) : Evals Try.prog 18 [.sl 1 (C.map rowS), .str top] (.int .i64 (countS C top)) := by
  have hU := fun c => cunder c top hp
  refine evals_of_awp Try.func18 rfl (CallOK.of Try.func18 (by kernel_rfl) rfl) (Nat.le_of_ble_eq_true rfl) ?_
  rintro w R hR ⟨vs, hv⟩
  have hlen := hv.slen 0 rfl
  simp only [maxLen, List.length_map] at hlen
  have hml : (C.map rowS).length = C.length := by simp
  repeat' (first
    | (apply RunL.step; exact rfl; apply op_ev (τ := τ); exact rfl; (first | exact hu); exact rfl) | (apply RunL.step; exact rfl; exact opA) | (apply RunL.hand; exact rfl; exact rfl; exact lenA; exact rfl) | (apply AWP.seq) | (apply AWP.region; exact rfl) | (apply AWP.block) | (apply AWP.skip) | (apply AWP.exit) | (apply AWP.retF; exact rfl; exact rfl; exact rfl; exact rfl; exact lenA; exact rfl) | (apply AWP.ret) | (apply RunL.nil) | (apply RunL.on; exact rfl; exact rfl; exact rfl; exact rfl; (first | exact rfl | assumption)) | (apply RunL.noU; exact rfl; exact rfl; exact rfl; exact rfl; exact rfl; exact rfl) | (apply RunL.no; exact rfl; exact rfl; exact rfl; exact rfl; (first | exact rfl | assumption); exact rfl; exact rfl) | (refine AWP.cond _ (Rd.of rfl) (fun hc => ?_) (fun hc => ?_) <;> first | (exfalso; cases hc; done) | (have hc' := hc; (try simp only [sc, reduceCtorEq, cmpOf] at hc'); try (exfalso; omega)))
    | (
     apply AWP.drawA
     repeat' (first
       | (apply DL.cons; (try (apply OpLoc.on; exact rfl; exact rfl; exact rfl; exact rfl; (first | exact rfl | assumption))); apply ol_ev (τ := τ); exact rfl; (first | exact hu); exact rfl; exact rfl) | (apply DL.cons; exact olA; exact rfl) | (apply DL.nil; kernel_rfl) | (refine DL.split rfl rfl rfl rfl (fun hb => ?_) (fun hb => ?_) <;> have hb' := hb <;> (try simp only [sc, reduceCtorEq, cmpOf] at hb') <;> try (exfalso; omega)))
     all_goals (fail_if_success apply DL.id))
    | (refine RunL.split rfl rfl rfl rfl (fun hb => ?_) (fun hb => ?_) <;> have hb' := hb <;> (try simp only [sc, reduceCtorEq, cmpOf] at hb') <;> try (exfalso; omega)) )
  refine AWP.loop2 (fun i n : Int => ⟨[(1, .val (.str top)), (5, .val (.int .i64 n)), (8, .val (.sl 1 (C.map rowS))), (9, .val (.int .i64 (C.map rowS).length)), (10, .val (.int .i64 i))], []⟩) (fun i n => 0 ≤ i ∧ i ≤ C.length ∧ n = countS (C.take i.toNat) top) (fun i _ => (C.length - i).toNat) 0 0 ⟨by omega, by omega, rfl⟩ (St.Le.of (by repeat' (first | exact all_nil | refine all_cons rfl ?_)) (by repeat' (first | exact all_nil | refine all_cons rfl ?_))) ?_
  rintro i n ⟨k1, k2, k3⟩
  have hb := countS_bound (C.take i.toNat) top
  rw [List.length_take] at hb
  by_cases hi : i < C.length
  · obtain ⟨c, hc⟩ := some_at k1 hi
    have hrow := row_at (f := rowS) hc
    have hst := countS_snoc (C.take i.toNat) c top
    rw [← take_at k1 hc] at hst
    have hu := hU c
    repeat' (first
      | (apply RunL.step; exact rfl; apply op_ev (τ := τ); exact rfl; (first | exact hu); exact rfl) | (apply RunL.step; exact rfl; exact opA) | (apply RunL.hand; exact rfl; exact rfl; exact lenA; exact rfl) | (apply AWP.seq) | (apply AWP.region; exact rfl) | (apply AWP.block) | (apply AWP.skip) | (apply AWP.exit) | (apply AWP.retF; exact rfl; exact rfl; exact rfl; exact rfl; exact lenA; exact rfl) | (apply AWP.ret) | (apply RunL.nil) | (apply RunL.on; exact rfl; exact rfl; exact rfl; exact rfl; (first | exact rfl | assumption)) | (apply RunL.noU; exact rfl; exact rfl; exact rfl; exact rfl; exact rfl; exact rfl) | (apply RunL.no; exact rfl; exact rfl; exact rfl; exact rfl; (first | exact rfl | assumption); exact rfl; exact rfl) | (refine AWP.cond _ (Rd.of rfl) (fun hc => ?_) (fun hc => ?_) <;> first | (exfalso; cases hc; done) | (have hc' := hc; (try simp only [sc, reduceCtorEq, cmpOf] at hc'); try (exfalso; omega)))
      | (
       apply AWP.drawA
       repeat' (first
         | (apply DL.cons; (try (apply OpLoc.on; exact rfl; exact rfl; exact rfl; exact rfl; (first | exact rfl | assumption))); apply ol_ev (τ := τ); exact rfl; (first | exact hu); exact rfl; exact rfl) | (apply DL.cons; exact olA; exact rfl) | (apply DL.nil; kernel_rfl) | (refine DL.split rfl rfl rfl rfl (fun hb => ?_) (fun hb => ?_) <;> have hb' := hb <;> (try simp only [sc, reduceCtorEq, cmpOf] at hb') <;> try (exfalso; omega)))
       all_goals (fail_if_success apply DL.id))
      | (refine RunL.split rfl rfl rfl rfl (fun hb => ?_) (fun hb => ?_) <;> have hb' := hb <;> (try simp only [sc, reduceCtorEq, cmpOf] at hb') <;> try (exfalso; omega)) )
    · rw [if_pos hc'] at hst
      exact ⟨_, _, St.Le.of (by repeat' (first | exact all_nil | refine all_cons rfl ?_)) (by repeat' (first | exact all_nil | refine all_cons rfl ?_)), ⟨by omega, by omega, by rw [hst, k3]⟩, by omega⟩
    · rw [if_neg (by rw [hc']; simp)] at hst
      exact ⟨_, _, St.Le.of (by repeat' (first | exact all_nil | refine all_cons rfl ?_)) (by repeat' (first | exact all_nil | refine all_cons rfl ?_)), ⟨by omega, by omega, by rw [hst, k3]; simp⟩, by omega⟩
  · repeat' (first
    | (apply RunL.step; exact rfl; apply op_ev (τ := τ); exact rfl; (first | exact hu); exact rfl) | (apply RunL.step; exact rfl; exact opA) | (apply RunL.hand; exact rfl; exact rfl; exact lenA; exact rfl) | (apply AWP.seq) | (apply AWP.region; exact rfl) | (apply AWP.block) | (apply AWP.skip) | (apply AWP.exit) | (apply AWP.retF; exact rfl; exact rfl; exact rfl; exact rfl; exact lenA; exact rfl) | (apply AWP.ret) | (apply RunL.nil) | (apply RunL.on; exact rfl; exact rfl; exact rfl; exact rfl; (first | exact rfl | assumption)) | (apply RunL.noU; exact rfl; exact rfl; exact rfl; exact rfl; exact rfl; exact rfl) | (apply RunL.no; exact rfl; exact rfl; exact rfl; exact rfl; (first | exact rfl | assumption); exact rfl; exact rfl) | (refine AWP.cond _ (Rd.of rfl) (fun hc => ?_) (fun hc => ?_) <;> first | (exfalso; cases hc; done) | (have hc' := hc; (try simp only [sc, reduceCtorEq, cmpOf] at hc'); try (exfalso; omega)))
    | (
     apply AWP.drawA
     repeat' (first
       | (apply DL.cons; (try (apply OpLoc.on; exact rfl; exact rfl; exact rfl; exact rfl; (first | exact rfl | assumption))); apply ol_ev (τ := τ); exact rfl; (first | exact hu); exact rfl; exact rfl) | (apply DL.cons; exact olA; exact rfl) | (apply DL.nil; kernel_rfl) | (refine DL.split rfl rfl rfl rfl (fun hb => ?_) (fun hb => ?_) <;> have hb' := hb <;> (try simp only [sc, reduceCtorEq, cmpOf] at hb') <;> try (exfalso; omega)))
     all_goals (fail_if_success apply DL.id))
    | (refine RunL.split rfl rfl rfl rfl (fun hb => ?_) (fun hb => ?_) <;> have hb' := hb <;> (try simp only [sc, reduceCtorEq, cmpOf] at hb') <;> try (exfalso; omega)) )
    apply Ends.mk (.cons (.tmp rfl) .nil)
    rw [k3, ints_of_take hi]; rfl
theorem r13count (C : List (List UInt8)) (top : List UInt8) : Evals Try.prog 19 [.sl 1 (C.map rowS), .str top] (.int .i64 (countS C top)) := by
  have hU := fun c => r13under c top
  refine evals_of_awp Try.func19 rfl (CallOK.of Try.func19 (by kernel_rfl) rfl) (Nat.le_of_ble_eq_true rfl) ?_
  rintro w R hR ⟨vs, hv⟩
  have hlen := hv.slen 0 rfl
  simp only [maxLen, List.length_map] at hlen
  have hml : (C.map rowS).length = C.length := by simp
  repeat' (first
    | (apply RunL.step; exact rfl; apply op_ev (τ := τ); exact rfl; (first | exact hu); exact rfl) | (apply RunL.step; exact rfl; exact opA) | (apply RunL.hand; exact rfl; exact rfl; exact lenA; exact rfl) | (apply AWP.seq) | (apply AWP.region; exact rfl) | (apply AWP.block) | (apply AWP.skip) | (apply AWP.exit) | (apply AWP.retF; exact rfl; exact rfl; exact rfl; exact rfl; exact lenA; exact rfl) | (apply AWP.ret) | (apply RunL.nil) | (apply RunL.on; exact rfl; exact rfl; exact rfl; exact rfl; (first | exact rfl | assumption)) | (apply RunL.noU; exact rfl; exact rfl; exact rfl; exact rfl; exact rfl; exact rfl) | (apply RunL.no; exact rfl; exact rfl; exact rfl; exact rfl; (first | exact rfl | assumption); exact rfl; exact rfl) | (refine AWP.cond _ (Rd.of rfl) (fun hc => ?_) (fun hc => ?_) <;> first | (exfalso; cases hc; done) | (have hc' := hc; (try simp only [sc, reduceCtorEq, cmpOf] at hc'); try (exfalso; omega)))
    | (
     apply AWP.drawA
     repeat' (first
       | (apply DL.cons; (try (apply OpLoc.on; exact rfl; exact rfl; exact rfl; exact rfl; (first | exact rfl | assumption))); apply ol_ev (τ := τ); exact rfl; (first | exact hu); exact rfl; exact rfl) | (apply DL.cons; exact olA; exact rfl) | (apply DL.nil; kernel_rfl) | (refine DL.split rfl rfl rfl rfl (fun hb => ?_) (fun hb => ?_) <;> have hb' := hb <;> (try simp only [sc, reduceCtorEq, cmpOf] at hb') <;> try (exfalso; omega)))
     all_goals (fail_if_success apply DL.id))
    | (refine RunL.split rfl rfl rfl rfl (fun hb => ?_) (fun hb => ?_) <;> have hb' := hb <;> (try simp only [sc, reduceCtorEq, cmpOf] at hb') <;> try (exfalso; omega)) )
  refine AWP.loop2 (fun i n : Int => ⟨[(0, .val (.sl 1 (C.map rowS))), (1, .val (.str top)), (5, .val (.int .i64 n)), (6, .val (.int .i64 i))], []⟩) (fun i n => 0 ≤ i ∧ i ≤ C.length ∧ n = countS (C.take i.toNat) top) (fun i _ => (C.length - i).toNat) 0 0 ⟨by omega, by omega, rfl⟩ (St.Le.of (by repeat' (first | exact all_nil | refine all_cons rfl ?_)) (by repeat' (first | exact all_nil | refine all_cons rfl ?_))) ?_
  rintro i n ⟨k1, k2, k3⟩
  have hb := countS_bound (C.take i.toNat) top
  rw [List.length_take] at hb
  by_cases hi : i < C.length
  · obtain ⟨c, hc⟩ := some_at k1 hi
    have hrow := row_at (f := rowS) hc
    have hst := countS_snoc (C.take i.toNat) c top
    rw [← take_at k1 hc] at hst
    have hu := hU c
    repeat' (first
      | (apply RunL.step; exact rfl; apply op_ev (τ := τ); exact rfl; (first | exact hu); exact rfl) | (apply RunL.step; exact rfl; exact opA) | (apply RunL.hand; exact rfl; exact rfl; exact lenA; exact rfl) | (apply AWP.seq) | (apply AWP.region; exact rfl) | (apply AWP.block) | (apply AWP.skip) | (apply AWP.exit) | (apply AWP.retF; exact rfl; exact rfl; exact rfl; exact rfl; exact lenA; exact rfl) | (apply AWP.ret) | (apply RunL.nil) | (apply RunL.on; exact rfl; exact rfl; exact rfl; exact rfl; (first | exact rfl | assumption)) | (apply RunL.noU; exact rfl; exact rfl; exact rfl; exact rfl; exact rfl; exact rfl) | (apply RunL.no; exact rfl; exact rfl; exact rfl; exact rfl; (first | exact rfl | assumption); exact rfl; exact rfl) | (refine AWP.cond _ (Rd.of rfl) (fun hc => ?_) (fun hc => ?_) <;> first | (exfalso; cases hc; done) | (have hc' := hc; (try simp only [sc, reduceCtorEq, cmpOf] at hc'); try (exfalso; omega)))
      | (
       apply AWP.drawA
       repeat' (first
         | (apply DL.cons; (try (apply OpLoc.on; exact rfl; exact rfl; exact rfl; exact rfl; (first | exact rfl | assumption))); apply ol_ev (τ := τ); exact rfl; (first | exact hu); exact rfl; exact rfl) | (apply DL.cons; exact olA; exact rfl) | (apply DL.nil; kernel_rfl) | (refine DL.split rfl rfl rfl rfl (fun hb => ?_) (fun hb => ?_) <;> have hb' := hb <;> (try simp only [sc, reduceCtorEq, cmpOf] at hb') <;> try (exfalso; omega)))
       all_goals (fail_if_success apply DL.id))
      | (refine RunL.split rfl rfl rfl rfl (fun hb => ?_) (fun hb => ?_) <;> have hb' := hb <;> (try simp only [sc, reduceCtorEq, cmpOf] at hb') <;> try (exfalso; omega)) )
    · rw [if_pos hc'] at hst
      exact ⟨_, _, St.Le.of (by repeat' (first | exact all_nil | refine all_cons rfl ?_)) (by repeat' (first | exact all_nil | refine all_cons rfl ?_)), ⟨by omega, by omega, by rw [hst, k3]⟩, by omega⟩
    · rw [if_neg (by rw [hc']; simp)] at hst
      exact ⟨_, _, St.Le.of (by repeat' (first | exact all_nil | refine all_cons rfl ?_)) (by repeat' (first | exact all_nil | refine all_cons rfl ?_)), ⟨by omega, by omega, by rw [hst, k3]; simp⟩, by omega⟩
  · repeat' (first
    | (apply RunL.step; exact rfl; apply op_ev (τ := τ); exact rfl; (first | exact hu); exact rfl) | (apply RunL.step; exact rfl; exact opA) | (apply RunL.hand; exact rfl; exact rfl; exact lenA; exact rfl) | (apply AWP.seq) | (apply AWP.region; exact rfl) | (apply AWP.block) | (apply AWP.skip) | (apply AWP.exit) | (apply AWP.retF; exact rfl; exact rfl; exact rfl; exact rfl; exact lenA; exact rfl) | (apply AWP.ret) | (apply RunL.nil) | (apply RunL.on; exact rfl; exact rfl; exact rfl; exact rfl; (first | exact rfl | assumption)) | (apply RunL.noU; exact rfl; exact rfl; exact rfl; exact rfl; exact rfl; exact rfl) | (apply RunL.no; exact rfl; exact rfl; exact rfl; exact rfl; (first | exact rfl | assumption); exact rfl; exact rfl) | (refine AWP.cond _ (Rd.of rfl) (fun hc => ?_) (fun hc => ?_) <;> first | (exfalso; cases hc; done) | (have hc' := hc; (try simp only [sc, reduceCtorEq, cmpOf] at hc'); try (exfalso; omega)))
    | (
     apply AWP.drawA
     repeat' (first
       | (apply DL.cons; (try (apply OpLoc.on; exact rfl; exact rfl; exact rfl; exact rfl; (first | exact rfl | assumption))); apply ol_ev (τ := τ); exact rfl; (first | exact hu); exact rfl; exact rfl) | (apply DL.cons; exact olA; exact rfl) | (apply DL.nil; kernel_rfl) | (refine DL.split rfl rfl rfl rfl (fun hb => ?_) (fun hb => ?_) <;> have hb' := hb <;> (try simp only [sc, reduceCtorEq, cmpOf] at hb') <;> try (exfalso; omega)))
     all_goals (fail_if_success apply DL.id))
    | (refine RunL.split rfl rfl rfl rfl (fun hb => ?_) (fun hb => ?_) <;> have hb' := hb <;> (try simp only [sc, reduceCtorEq, cmpOf] at hb') <;> try (exfalso; omega)) )
    apply Ends.mk (.cons (.tmp rfl) .nil)
    rw [k3, ints_of_take hi]; rfl

def kidsS (T : List (List UInt8 × List UInt8)) (code : List UInt8) : List (List UInt8) := (T.filter fun p => parS p.1 == code).map (·.1)
theorem kidsS_snoc (T : List (List UInt8 × List UInt8)) (p : List UInt8 × List UInt8) (code : List UInt8) : kidsS (T ++ [p]) code = kidsS T code ++ (if cmpStr .eql (parS p.1) code = true then [p.1] else []) := by
  simp only [kidsS, List.filter_append, List.map_append]
  congr 1
  split
  · rename_i h; have := cmp_eql.1 h; simp [this]
  · rename_i h; have : ¬ parS p.1 = code := fun e => h (cmp_eql.2 e)
    simp [this]
theorem kidsS_length (T : List (List UInt8 × List UInt8)) (code : List UInt8) : (kidsS T code).length ≤ T.length := by
  rw [kidsS, List.length_map]; exact List.length_filter_le _ _
theorem oneAll_str (C : List (List UInt8)) : oneAll (C.map rowS) = true := by
  rw [oneAll, List.all_eq_true]
  intro ds hd
  obtain ⟨c, _, rfl⟩ := List.mem_map.1 hd
  rfl
set_option maxHeartbeats 1000000 in
theorem ckids (T : List (List UInt8 × List UInt8)) (code : List UInt8) (hT : T.length ≤ 4398046511104 := by omega) : Evals Try.prog 16 [.sl 2 (T.map rowT), .str code] (.sl 1 ((kidsS T code).map rowS)) := by
  have hP := fun c => cparent c
  refine evals_of_awp Try.func16 rfl (CallOK.of Try.func16 (by kernel_rfl) rfl) (Nat.le_of_ble_eq_true rfl) ?_
  rintro w R hR ⟨vs, hv⟩
  have hml : (T.map rowT).length = T.length := by simp
  repeat' (first
    | (apply RunL.step; exact rfl; first | (apply op_nilG 9 1; exact .inl rfl; exact rfl) | (apply op_buildEG (τ := τ); exact rfl; exact rfl; exact rfl; exact rfl; exact .inl rfl; exact rfl) | (apply op_appendG (τ := τ); exact rfl; exact rfl; exact rfl; exact rfl; exact rfl; exact rfl; exact Rd.of rfl; exact Rd.of rfl; (simp [chunk]); exact rfl; ((try dsimp only); (try simp only [List.length_cons, List.length_nil, List.length_map, chunk]); omega); exact rfl; exact .inl rfl; exact rfl) | fail) | (apply RunL.step; exact rfl; apply op_ev (τ := τ); exact rfl; (first | exact hpa); exact rfl) | (apply RunL.step; exact rfl; exact opA) | (apply RunL.hand; exact rfl; exact rfl; exact lenA; exact rfl) | (apply AWP.seq) | (apply AWP.region; exact rfl) | (apply AWP.block) | (apply AWP.skip) | (apply AWP.exit) | (apply AWP.retF; exact rfl; exact rfl; exact rfl; exact rfl; exact lenA; exact rfl) | (apply AWP.ret) | (apply RunL.nil) | (apply RunL.on; exact rfl; exact rfl; exact rfl; exact rfl; (first | exact rfl | assumption)) | (apply RunL.noU; exact rfl; exact rfl; exact rfl; exact rfl; exact rfl; exact rfl) | (apply RunL.no; exact rfl; exact rfl; exact rfl; exact rfl; (first | exact rfl | assumption); exact rfl; exact rfl) | (refine AWP.cond _ (Rd.of rfl) (fun hc => ?_) (fun hc => ?_) <;> first | (exfalso; cases hc; done) | (have hc' := hc; (try simp only [sc, reduceCtorEq, cmpOf] at hc'); try (exfalso; omega)))
    | (
     apply AWP.drawA
     repeat' (first
       | (apply DL.cons; (try (apply OpLoc.on; exact rfl; exact rfl; exact rfl; exact rfl; (first | exact rfl | assumption))); apply ol_ev (τ := τ); exact rfl; (first | exact hpa); exact rfl; exact rfl) | (apply DL.cons; exact olA; exact rfl) | (apply DL.nil; kernel_rfl) | (refine DL.split rfl rfl rfl rfl (fun hb => ?_) (fun hb => ?_) <;> have hb' := hb <;> (try simp only [sc, reduceCtorEq, cmpOf] at hb') <;> try (exfalso; omega)))
     all_goals (fail_if_success apply DL.id))
    | (refine RunL.split rfl rfl rfl rfl (fun hb => ?_) (fun hb => ?_) <;> have hb' := hb <;> (try simp only [sc, reduceCtorEq, cmpOf] at hb') <;> try (exfalso; omega)) )
  refine AWP.loop2 (fun (i : Int) (A : List (List UInt8)) => ⟨[(1, .val (.str code)), (5, .vec 5 9 1 (A.map rowS)), (10, .val (.sl 2 (T.map rowT))), (11, .val (.int .i64 (T.map rowT).length)), (12, .val (.int .i64 i))], []⟩) (fun i A => 0 ≤ i ∧ i ≤ T.length ∧ A = kidsS (T.take i.toNat) code) (fun i _ => (T.length - i).toNat) 0 [] ⟨by omega, by omega, rfl⟩ (St.Le.of (by repeat' (first | exact all_nil | refine all_cons rfl ?_)) (by repeat' (first | exact all_nil | refine all_cons rfl ?_))) ?_
  rintro i A ⟨k1, k2, k3⟩
  have hb := kidsS_length (T.take i.toNat) code
  rw [List.length_take, ← k3] at hb
  have hAl : (A.map rowS).length = A.length := by simp
  by_cases hi : i < T.length
  · obtain ⟨⟨c, t⟩, hc⟩ := some_at k1 hi
    have hrow := row_at (f := rowT) hc
    have hst := kidsS_snoc (T.take i.toNat) (c, t) code
    rw [← take_at k1 hc] at hst
    have hpa := hP c
    simp only at hst
    repeat' (first
      | (apply RunL.step; exact rfl; first | (apply op_nilG 9 1; exact .inl rfl; exact rfl) | (apply op_buildEG (τ := τ); exact rfl; exact rfl; exact rfl; exact rfl; exact .inl rfl; exact rfl) | (apply op_appendG (τ := τ); exact rfl; exact rfl; exact rfl; exact rfl; exact rfl; exact rfl; exact Rd.of rfl; exact Rd.of rfl; (simp [chunk]); exact rfl; ((try dsimp only); (try simp only [List.length_cons, List.length_nil, List.length_map, chunk]); omega); exact rfl; exact .inl rfl; exact rfl) | fail) | (apply RunL.step; exact rfl; apply op_ev (τ := τ); exact rfl; (first | exact hpa); exact rfl) | (apply RunL.step; exact rfl; exact opA) | (apply RunL.hand; exact rfl; exact rfl; exact lenA; exact rfl) | (apply AWP.seq) | (apply AWP.region; exact rfl) | (apply AWP.block) | (apply AWP.skip) | (apply AWP.exit) | (apply AWP.retF; exact rfl; exact rfl; exact rfl; exact rfl; exact lenA; exact rfl) | (apply AWP.ret) | (apply RunL.nil) | (apply RunL.on; exact rfl; exact rfl; exact rfl; exact rfl; (first | exact rfl | assumption)) | (apply RunL.noU; exact rfl; exact rfl; exact rfl; exact rfl; exact rfl; exact rfl) | (apply RunL.no; exact rfl; exact rfl; exact rfl; exact rfl; (first | exact rfl | assumption); exact rfl; exact rfl) | (refine AWP.cond _ (Rd.of rfl) (fun hc => ?_) (fun hc => ?_) <;> first | (exfalso; cases hc; done) | (have hc' := hc; (try simp only [sc, reduceCtorEq, cmpOf] at hc'); try (exfalso; omega)))
      | (
       apply AWP.drawA
       repeat' (first
         | (apply DL.cons; (try (apply OpLoc.on; exact rfl; exact rfl; exact rfl; exact rfl; (first | exact rfl | assumption))); apply ol_ev (τ := τ); exact rfl; (first | exact hpa); exact rfl; exact rfl) | (apply DL.cons; exact olA; exact rfl) | (apply DL.nil; kernel_rfl) | (refine DL.split rfl rfl rfl rfl (fun hb => ?_) (fun hb => ?_) <;> have hb' := hb <;> (try simp only [sc, reduceCtorEq, cmpOf] at hb') <;> try (exfalso; omega)))
       all_goals (fail_if_success apply DL.id))
      | (refine RunL.split rfl rfl rfl rfl (fun hb => ?_) (fun hb => ?_) <;> have hb' := hb <;> (try simp only [sc, reduceCtorEq, cmpOf] at hb') <;> try (exfalso; omega)) )
    · rw [if_pos hc'] at hst
      refine ⟨i + 1, A ++ [c], St.Le.of (by
        rw [show (A ++ [c]).map rowS = A.map rowS ++ [[.str c]] by simp]
        repeat' (first | exact all_nil | refine all_cons rfl ?_)) (by repeat' (first | exact all_nil | refine all_cons rfl ?_)), ⟨by omega, by omega, by rw [hst, k3]⟩, by omega⟩
    · rw [if_neg (by rw [hc']; simp)] at hst
      exact ⟨i + 1, A, St.Le.of (by repeat' (first | exact all_nil | refine all_cons rfl ?_)) (by repeat' (first | exact all_nil | refine all_cons rfl ?_)), ⟨by omega, by omega, by rw [hst, k3]; simp⟩, by omega⟩
  · refine AWP.freezeG 5 rfl rfl ?_
    repeat' (first
      | (apply RunL.step; exact rfl; first | (apply op_nilG 9 1; exact .inl rfl; exact rfl) | (apply op_buildEG (τ := τ); exact rfl; exact rfl; exact rfl; exact rfl; exact .inl rfl; exact rfl) | (apply op_appendG (τ := τ); exact rfl; exact rfl; exact rfl; exact rfl; exact rfl; exact rfl; exact Rd.of rfl; exact Rd.of rfl; (simp [chunk]); exact rfl; ((try dsimp only); (try simp only [List.length_cons, List.length_nil, List.length_map, chunk]); omega); exact rfl; exact .inl rfl; exact rfl) | fail) | (apply RunL.step; exact rfl; apply op_ev (τ := τ); exact rfl; (first | exact hpa); exact rfl) | (apply RunL.step; exact rfl; exact opA) | (apply RunL.hand; exact rfl; exact rfl; exact lenA; exact rfl) | (apply AWP.seq) | (apply AWP.region; exact rfl) | (apply AWP.block) | (apply AWP.skip) | (apply AWP.exit) | (apply AWP.retF; exact rfl; exact rfl; exact rfl; exact rfl; exact lenA; exact rfl) | (apply AWP.ret) | (apply RunL.nil) | (apply RunL.on; exact rfl; exact rfl; exact rfl; exact rfl; (first | exact rfl | assumption)) | (apply RunL.noU; exact rfl; exact rfl; exact rfl; exact rfl; exact rfl; exact rfl) | (apply RunL.no; exact rfl; exact rfl; exact rfl; exact rfl; (first | exact rfl | assumption); exact rfl; exact rfl) | (refine AWP.cond _ (Rd.of rfl) (fun hc => ?_) (fun hc => ?_) <;> first | (exfalso; cases hc; done) | (have hc' := hc; (try simp only [sc, reduceCtorEq, cmpOf] at hc'); try (exfalso; omega)))
      | (
       apply AWP.drawA
       repeat' (first
         | (apply DL.cons; (try (apply OpLoc.on; exact rfl; exact rfl; exact rfl; exact rfl; (first | exact rfl | assumption))); apply ol_ev (τ := τ); exact rfl; (first | exact hpa); exact rfl; exact rfl) | (apply DL.cons; exact olA; exact rfl) | (apply DL.nil; kernel_rfl) | (refine DL.split rfl rfl rfl rfl (fun hb => ?_) (fun hb => ?_) <;> have hb' := hb <;> (try simp only [sc, reduceCtorEq, cmpOf] at hb') <;> try (exfalso; omega)))
       all_goals (fail_if_success apply DL.id))
      | (refine RunL.split rfl rfl rfl rfl (fun hb => ?_) (fun hb => ?_) <;> have hb' := hb <;> (try simp only [sc, reduceCtorEq, cmpOf] at hb') <;> try (exfalso; omega)) )
    apply Ends.mk (.cons (.tmp rfl) .nil)
    rw [k3, ints_of_take hi]
    rfl
set_option maxHeartbeats 1000000 in
theorem r13kids (T : List (List UInt8 × List UInt8)) (code : List UInt8) (hT : T.length ≤ 4398046511104 := by omega) : Evals Try.prog 17 [.sl 2 (T.map rowT), .str code] (.sl 1 ((kidsS T code).map rowS)) := by
  have hP := fun c => r13parent c
  refine evals_of_awp Try.func17 rfl (CallOK.of Try.func17 (by kernel_rfl) rfl) (Nat.le_of_ble_eq_true rfl) ?_
  rintro w R hR ⟨vs, hv⟩
  have hml : (T.map rowT).length = T.length := by simp
  repeat' (first
    | (apply RunL.step; exact rfl; first | (apply op_nilG 9 1; exact .inl rfl; exact rfl) | (apply op_buildEG (τ := τ); exact rfl; exact rfl; exact rfl; exact rfl; exact .inl rfl; exact rfl) | (apply op_appendG (τ := τ); exact rfl; exact rfl; exact rfl; exact rfl; exact rfl; exact rfl; exact Rd.of rfl; exact Rd.of rfl; (simp [chunk]); exact rfl; ((try dsimp only); (try simp only [List.length_cons, List.length_nil, List.length_map, chunk]); omega); exact rfl; exact .inl rfl; exact rfl) | fail) | (apply RunL.step; exact rfl; apply op_ev (τ := τ); exact rfl; (first | exact hpa); exact rfl) | (apply RunL.step; exact rfl; exact opA) | (apply RunL.hand; exact rfl; exact rfl; exact lenA; exact rfl) | (apply AWP.seq) | (apply AWP.region; exact rfl) | (apply AWP.block) | (apply AWP.skip) | (apply AWP.exit) | (apply AWP.retF; exact rfl; exact rfl; exact rfl; exact rfl; exact lenA; exact rfl) | (apply AWP.ret) | (apply RunL.nil) | (apply RunL.on; exact rfl; exact rfl; exact rfl; exact rfl; (first | exact rfl | assumption)) | (apply RunL.noU; exact rfl; exact rfl; exact rfl; exact rfl; exact rfl; exact rfl) | (apply RunL.no; exact rfl; exact rfl; exact rfl; exact rfl; (first | exact rfl | assumption); exact rfl; exact rfl) | (refine AWP.cond _ (Rd.of rfl) (fun hc => ?_) (fun hc => ?_) <;> first | (exfalso; cases hc; done) | (have hc' := hc; (try simp only [sc, reduceCtorEq, cmpOf] at hc'); try (exfalso; omega)))
    | (
     apply AWP.drawA
     repeat' (first
       | (apply DL.cons; (try (apply OpLoc.on; exact rfl; exact rfl; exact rfl; exact rfl; (first | exact rfl | assumption))); apply ol_ev (τ := τ); exact rfl; (first | exact hpa); exact rfl; exact rfl) | (apply DL.cons; exact olA; exact rfl) | (apply DL.nil; kernel_rfl) | (refine DL.split rfl rfl rfl rfl (fun hb => ?_) (fun hb => ?_) <;> have hb' := hb <;> (try simp only [sc, reduceCtorEq, cmpOf] at hb') <;> try (exfalso; omega)))
     all_goals (fail_if_success apply DL.id))
    | (refine RunL.split rfl rfl rfl rfl (fun hb => ?_) (fun hb => ?_) <;> have hb' := hb <;> (try simp only [sc, reduceCtorEq, cmpOf] at hb') <;> try (exfalso; omega)) )
  refine AWP.loop2 (fun (i : Int) (A : List (List UInt8)) => ⟨[(0, .val (.sl 2 (T.map rowT))), (1, .val (.str code)), (5, .vec 9 9 1 (A.map rowS)), (6, .val (.int .i64 i))], []⟩) (fun i A => 0 ≤ i ∧ i ≤ T.length ∧ A = kidsS (T.take i.toNat) code) (fun i _ => (T.length - i).toNat) 0 [] ⟨by omega, by omega, rfl⟩ (St.Le.of (by repeat' (first | exact all_nil | refine all_cons rfl ?_)) (by repeat' (first | exact all_nil | refine all_cons rfl ?_))) ?_
  rintro i A ⟨k1, k2, k3⟩
  have hb := kidsS_length (T.take i.toNat) code
  rw [List.length_take, ← k3] at hb
  have hAl : (A.map rowS).length = A.length := by simp
  by_cases hi : i < T.length
  · obtain ⟨⟨c, t⟩, hc⟩ := some_at k1 hi
    have hrow := row_at (f := rowT) hc
    have hst := kidsS_snoc (T.take i.toNat) (c, t) code
    rw [← take_at k1 hc] at hst
    have hpa := hP c
    simp only at hst
    repeat' (first
      | (apply RunL.step; exact rfl; first | (apply op_nilG 9 1; exact .inl rfl; exact rfl) | (apply op_buildEG (τ := τ); exact rfl; exact rfl; exact rfl; exact rfl; exact .inl rfl; exact rfl) | (apply op_appendG (τ := τ); exact rfl; exact rfl; exact rfl; exact rfl; exact rfl; exact rfl; exact Rd.of rfl; exact Rd.of rfl; (simp [chunk]); exact rfl; ((try dsimp only); (try simp only [List.length_cons, List.length_nil, List.length_map, chunk]); omega); exact rfl; exact .inl rfl; exact rfl) | fail) | (apply RunL.step; exact rfl; apply op_ev (τ := τ); exact rfl; (first | exact hpa); exact rfl) | (apply RunL.step; exact rfl; exact opA) | (apply RunL.hand; exact rfl; exact rfl; exact lenA; exact rfl) | (apply AWP.seq) | (apply AWP.region; exact rfl) | (apply AWP.block) | (apply AWP.skip) | (apply AWP.exit) | (apply AWP.retF; exact rfl; exact rfl; exact rfl; exact rfl; exact lenA; exact rfl) | (apply AWP.ret) | (apply RunL.nil) | (apply RunL.on; exact rfl; exact rfl; exact rfl; exact rfl; (first | exact rfl | assumption)) | (apply RunL.noU; exact rfl; exact rfl; exact rfl; exact rfl; exact rfl; exact rfl) | (apply RunL.no; exact rfl; exact rfl; exact rfl; exact rfl; (first | exact rfl | assumption); exact rfl; exact rfl) | (refine AWP.cond _ (Rd.of rfl) (fun hc => ?_) (fun hc => ?_) <;> first | (exfalso; cases hc; done) | (have hc' := hc; (try simp only [sc, reduceCtorEq, cmpOf] at hc'); try (exfalso; omega)))
      | (
       apply AWP.drawA
       repeat' (first
         | (apply DL.cons; (try (apply OpLoc.on; exact rfl; exact rfl; exact rfl; exact rfl; (first | exact rfl | assumption))); apply ol_ev (τ := τ); exact rfl; (first | exact hpa); exact rfl; exact rfl) | (apply DL.cons; exact olA; exact rfl) | (apply DL.nil; kernel_rfl) | (refine DL.split rfl rfl rfl rfl (fun hb => ?_) (fun hb => ?_) <;> have hb' := hb <;> (try simp only [sc, reduceCtorEq, cmpOf] at hb') <;> try (exfalso; omega)))
       all_goals (fail_if_success apply DL.id))
      | (refine RunL.split rfl rfl rfl rfl (fun hb => ?_) (fun hb => ?_) <;> have hb' := hb <;> (try simp only [sc, reduceCtorEq, cmpOf] at hb') <;> try (exfalso; omega)) )
    · rw [if_pos hc'] at hst
      refine ⟨i + 1, A ++ [c], St.Le.of (by
        rw [show (A ++ [c]).map rowS = A.map rowS ++ [[.str c]] by simp]
        repeat' (first | exact all_nil | refine all_cons rfl ?_)) (by repeat' (first | exact all_nil | refine all_cons rfl ?_)), ⟨by omega, by omega, by rw [hst, k3]⟩, by omega⟩
    · rw [if_neg (by rw [hc']; simp)] at hst
      exact ⟨i + 1, A, St.Le.of (by repeat' (first | exact all_nil | refine all_cons rfl ?_)) (by repeat' (first | exact all_nil | refine all_cons rfl ?_)), ⟨by omega, by omega, by rw [hst, k3]; simp⟩, by omega⟩
  · refine AWP.freezeG 5 rfl rfl ?_
    repeat' (first
      | (apply RunL.step; exact rfl; first | (apply op_nilG 9 1; exact .inl rfl; exact rfl) | (apply op_buildEG (τ := τ); exact rfl; exact rfl; exact rfl; exact rfl; exact .inl rfl; exact rfl) | (apply op_appendG (τ := τ); exact rfl; exact rfl; exact rfl; exact rfl; exact rfl; exact rfl; exact Rd.of rfl; exact Rd.of rfl; (simp [chunk]); exact rfl; ((try dsimp only); (try simp only [List.length_cons, List.length_nil, List.length_map, chunk]); omega); exact rfl; exact .inl rfl; exact rfl) | fail) | (apply RunL.step; exact rfl; apply op_ev (τ := τ); exact rfl; (first | exact hpa); exact rfl) | (apply RunL.step; exact rfl; exact opA) | (apply RunL.hand; exact rfl; exact rfl; exact lenA; exact rfl) | (apply AWP.seq) | (apply AWP.region; exact rfl) | (apply AWP.block) | (apply AWP.skip) | (apply AWP.exit) | (apply AWP.retF; exact rfl; exact rfl; exact rfl; exact rfl; exact lenA; exact rfl) | (apply AWP.ret) | (apply RunL.nil) | (apply RunL.on; exact rfl; exact rfl; exact rfl; exact rfl; (first | exact rfl | assumption)) | (apply RunL.noU; exact rfl; exact rfl; exact rfl; exact rfl; exact rfl; exact rfl) | (apply RunL.no; exact rfl; exact rfl; exact rfl; exact rfl; (first | exact rfl | assumption); exact rfl; exact rfl) | (refine AWP.cond _ (Rd.of rfl) (fun hc => ?_) (fun hc => ?_) <;> first | (exfalso; cases hc; done) | (have hc' := hc; (try simp only [sc, reduceCtorEq, cmpOf] at hc'); try (exfalso; omega)))
      | (
       apply AWP.drawA
       repeat' (first
         | (apply DL.cons; (try (apply OpLoc.on; exact rfl; exact rfl; exact rfl; exact rfl; (first | exact rfl | assumption))); apply ol_ev (τ := τ); exact rfl; (first | exact hpa); exact rfl; exact rfl) | (apply DL.cons; exact olA; exact rfl) | (apply DL.nil; kernel_rfl) | (refine DL.split rfl rfl rfl rfl (fun hb => ?_) (fun hb => ?_) <;> have hb' := hb <;> (try simp only [sc, reduceCtorEq, cmpOf] at hb') <;> try (exfalso; omega)))
       all_goals (fail_if_success apply DL.id))
      | (refine RunL.split rfl rfl rfl rfl (fun hb => ?_) (fun hb => ?_) <;> have hb' := hb <;> (try simp only [sc, reduceCtorEq, cmpOf] at hb') <;> try (exfalso; omega)) )
    apply Ends.mk (.cons (.tmp rfl) .nil)
    rw [k3, ints_of_take hi]
    rfl

/-- the places of the cells that the codes do not satisfy, from a place on -/
def unmetN (C : List (List UInt8)) (L : List (List UInt8 × Int × Int)) : Nat → List Int
  | 0 => []
  | n + 1 => unmetN C L n ++ (match L[n]? with
    | some p => if countS C p.1 < p.2.1 ∨ p.2.2 < countS C p.1 then [(n : Int)] else []
    | none => [])
def unmetS (C : List (List UInt8)) (L : List (List UInt8 × Int × Int)) : List Int := unmetN C L L.length
theorem unmetN_length (C : List (List UInt8)) (L : List (List UInt8 × Int × Int)) (n : Nat) : (unmetN C L n).length ≤ n := by
  induction n with
  | zero => simp [unmetN]
  | succ n ih =>
    rw [unmetN, List.length_append]
    split
    · split <;> simp <;> omega
    · simp; omega
theorem unmetN_step (C : List (List UInt8)) {L : List (List UInt8 × Int × Int)} {i : Int} {c : List UInt8} {a b : Int} (h0 : 0 ≤ i) (h : L[i.toNat]? = some (c, a, b)) : unmetN C L (i + 1).toNat = unmetN C L i.toNat ++ (if countS C c < a ∨ b < countS C c then [i] else []) := by
  rw [show (i + 1).toNat = i.toNat + 1 by omega, unmetN, h]
  simp only [show ((i.toNat : Nat) : Int) = i by omega]
set_option maxHeartbeats 1000000 in
theorem cunmet (C : List (List UInt8)) (L : List (List UInt8 × Int × Int)) (hn : L.length ≤ 4398046511104) (hL : ∀ p ∈ L, p.1.length ≤ 140737488355328) : Evals Try.prog 21 [.sl 1 (C.map rowS), .sl 3 (L.map rowC)] (.ints .i64 (unmetS C L)) := by
  have hP := fun c h => ccount C c h
  refine evals_of_awp Try.func21 rfl (CallOK.of Try.func21 (by kernel_rfl) rfl) (Nat.le_of_ble_eq_true rfl) ?_
  rintro w R hR ⟨vs, hv⟩
  have hlen := hv.slen 1 rfl
  simp only [maxLen, List.length_map] at hlen
  have hml : (L.map rowC).length = L.length := by simp
  repeat' (first
    | (apply RunL.step; exact rfl; first | (apply op_nilVec 3 .i64; exact .inl rfl; exact rfl) | (apply op_buildEG (τ := τ); exact rfl; exact rfl; exact rfl; exact rfl; exact .inl rfl; exact rfl) | (apply op_appendV (τ := τ); exact rfl; exact rfl; exact rfl; exact rfl; exact rfl; exact Rd.of rfl; exact Rd.of rfl; exact rfl; ((try dsimp only); (try simp only [List.length_cons, List.length_nil]); omega); exact rfl; exact .inl rfl; exact rfl) | fail) | (apply RunL.step; exact rfl; apply op_ev (τ := τ); exact rfl; (first | exact hpa); exact rfl) | (apply RunL.step; exact rfl; exact opA) | (apply RunL.hand; exact rfl; exact rfl; exact lenA; exact rfl) | (apply AWP.seq) | (apply AWP.region; exact rfl) | (apply AWP.block) | (apply AWP.skip) | (apply AWP.exit) | (apply AWP.retF; exact rfl; exact rfl; exact rfl; exact rfl; exact lenA; exact rfl) | (apply AWP.ret) | (apply RunL.nil) | (apply RunL.on; exact rfl; exact rfl; exact rfl; exact rfl; (first | exact rfl | assumption)) | (apply RunL.noU; exact rfl; exact rfl; exact rfl; exact rfl; exact rfl; exact rfl) | (apply RunL.no; exact rfl; exact rfl; exact rfl; exact rfl; (first | exact rfl | assumption); exact rfl; exact rfl) | (refine AWP.cond _ (Rd.of rfl) (fun hc => ?_) (fun hc => ?_) <;> first | (exfalso; cases hc; done) | (have hc' := hc; (try simp only [sc, reduceCtorEq, cmpOf] at hc'); try (exfalso; omega)))
    | (
     apply AWP.drawA
     repeat' (first
       | (apply DL.cons; (try (apply OpLoc.on; exact rfl; exact rfl; exact rfl; exact rfl; (first | exact rfl | assumption))); apply ol_ev (τ := τ); exact rfl; (first | exact hpa); exact rfl; exact rfl) | (apply DL.cons; exact olA; exact rfl) | (apply DL.nil; kernel_rfl) | (refine DL.split rfl rfl rfl rfl (fun hb => ?_) (fun hb => ?_) <;> have hb' := hb <;> (try simp only [sc, reduceCtorEq, cmpOf] at hb') <;> try (exfalso; omega)))
     all_goals (fail_if_success apply DL.id))
    | (refine RunL.split rfl rfl rfl rfl (fun hb => ?_) (fun hb => ?_) <;> have hb' := hb <;> (try simp only [sc, reduceCtorEq, cmpOf] at hb') <;> try (exfalso; omega)) )
  refine AWP.loop2 (fun (i : Int) (A : List Int) => ⟨[(0, .val (.sl 1 (C.map rowS))), (5, .vec 5 3 1 (iv .i64 A)), (9, .val (.sl 3 (L.map rowC))), (10, .val (.int .i64 (L.map rowC).length)), (11, .val (.int .i64 i))], []⟩) (fun i A => 0 ≤ i ∧ i ≤ L.length ∧ A = unmetN C L i.toNat) (fun i _ => (L.length - i).toNat) 0 [] ⟨by omega, by omega, rfl⟩ (St.Le.of (by repeat' (first | exact all_nil | refine all_cons rfl ?_)) (by repeat' (first | exact all_nil | refine all_cons rfl ?_))) ?_
  rintro i A ⟨k1, k2, k3⟩
  have hb := unmetN_length C L i.toNat
  rw [← k3] at hb
  by_cases hi : i < L.length
  · obtain ⟨⟨c, a, b⟩, hc⟩ := some_at k1 hi
    have hrow : (L.map rowC)[i.toNat]? = some [.str c, .int .i64 a, .int .i64 b] := row_at (f := rowC) hc
    have hst := unmetN_step C k1 hc
    have hpa := hP c (hL _ (List.mem_of_getElem? hc))
    by_cases hm : countS C c < a ∨ b < countS C c
    · rw [if_pos hm] at hst
      repeat' (first
        | (apply RunL.step; exact rfl; first | (apply op_nilVec 3 .i64; exact .inl rfl; exact rfl) | (apply op_buildEG (τ := τ); exact rfl; exact rfl; exact rfl; exact rfl; exact .inl rfl; exact rfl) | (apply op_appendV (τ := τ); exact rfl; exact rfl; exact rfl; exact rfl; exact rfl; exact Rd.of rfl; exact Rd.of rfl; exact rfl; ((try dsimp only); (try simp only [List.length_cons, List.length_nil]); omega); exact rfl; exact .inl rfl; exact rfl) | fail) | (apply RunL.step; exact rfl; apply op_ev (τ := τ); exact rfl; (first | exact hpa); exact rfl) | (apply RunL.step; exact rfl; exact opA) | (apply RunL.hand; exact rfl; exact rfl; exact lenA; exact rfl) | (apply AWP.seq) | (apply AWP.region; exact rfl) | (apply AWP.block) | (apply AWP.skip) | (apply AWP.exit) | (apply AWP.retF; exact rfl; exact rfl; exact rfl; exact rfl; exact lenA; exact rfl) | (apply AWP.ret) | (apply RunL.nil) | (apply RunL.on; exact rfl; exact rfl; exact rfl; exact rfl; (first | exact rfl | assumption)) | (apply RunL.noU; exact rfl; exact rfl; exact rfl; exact rfl; exact rfl; exact rfl) | (apply RunL.no; exact rfl; exact rfl; exact rfl; exact rfl; (first | exact rfl | assumption); exact rfl; exact rfl) | (refine AWP.cond _ (Rd.of rfl) (fun hc => ?_) (fun hc => ?_) <;> first | (exfalso; cases hc; done) | (have hc' := hc; (try simp only [sc, reduceCtorEq, cmpOf] at hc'); try (exfalso; omega)))
        | (
         apply AWP.drawA
         repeat' (first
           | (apply DL.cons; (try (apply OpLoc.on; exact rfl; exact rfl; exact rfl; exact rfl; (first | exact rfl | assumption))); apply ol_ev (τ := τ); exact rfl; (first | exact hpa); exact rfl; exact rfl) | (apply DL.cons; exact olA; exact rfl) | (apply DL.nil; kernel_rfl) | (refine DL.split rfl rfl rfl rfl (fun hb => ?_) (fun hb => ?_) <;> have hb' := hb <;> (try simp only [sc, reduceCtorEq, cmpOf] at hb') <;> try (exfalso; omega)))
         all_goals (fail_if_success apply DL.id))
        | (refine RunL.split rfl rfl rfl rfl (fun hb => ?_) (fun hb => ?_) <;> have hb' := hb <;> (try simp only [sc, reduceCtorEq, cmpOf] at hb') <;> try (exfalso; omega)) )
      all_goals
        exact ⟨i + 1, A ++ [i], St.Le.of (by repeat' (first | exact all_nil | refine all_cons rfl ?_)) (by repeat' (first | exact all_nil | refine all_cons rfl ?_)), ⟨by omega, by omega, by rw [hst, k3]⟩, by omega⟩
    · rw [if_neg hm, List.append_nil] at hst
      repeat' (first
        | (apply RunL.step; exact rfl; first | (apply op_nilVec 3 .i64; exact .inl rfl; exact rfl) | (apply op_buildEG (τ := τ); exact rfl; exact rfl; exact rfl; exact rfl; exact .inl rfl; exact rfl) | (apply op_appendV (τ := τ); exact rfl; exact rfl; exact rfl; exact rfl; exact rfl; exact Rd.of rfl; exact Rd.of rfl; exact rfl; ((try dsimp only); (try simp only [List.length_cons, List.length_nil]); omega); exact rfl; exact .inl rfl; exact rfl) | fail) | (apply RunL.step; exact rfl; apply op_ev (τ := τ); exact rfl; (first | exact hpa); exact rfl) | (apply RunL.step; exact rfl; exact opA) | (apply RunL.hand; exact rfl; exact rfl; exact lenA; exact rfl) | (apply AWP.seq) | (apply AWP.region; exact rfl) | (apply AWP.block) | (apply AWP.skip) | (apply AWP.exit) | (apply AWP.retF; exact rfl; exact rfl; exact rfl; exact rfl; exact lenA; exact rfl) | (apply AWP.ret) | (apply RunL.nil) | (apply RunL.on; exact rfl; exact rfl; exact rfl; exact rfl; (first | exact rfl | assumption)) | (apply RunL.noU; exact rfl; exact rfl; exact rfl; exact rfl; exact rfl; exact rfl) | (apply RunL.no; exact rfl; exact rfl; exact rfl; exact rfl; (first | exact rfl | assumption); exact rfl; exact rfl) | (refine AWP.cond _ (Rd.of rfl) (fun hc => ?_) (fun hc => ?_) <;> first | (exfalso; cases hc; done) | (have hc' := hc; (try simp only [sc, reduceCtorEq, cmpOf] at hc'); try (exfalso; omega)))
        | (
         apply AWP.drawA
         repeat' (first
           | (apply DL.cons; (try (apply OpLoc.on; exact rfl; exact rfl; exact rfl; exact rfl; (first | exact rfl | assumption))); apply ol_ev (τ := τ); exact rfl; (first | exact hpa); exact rfl; exact rfl) | (apply DL.cons; exact olA; exact rfl) | (apply DL.nil; kernel_rfl) | (refine DL.split rfl rfl rfl rfl (fun hb => ?_) (fun hb => ?_) <;> have hb' := hb <;> (try simp only [sc, reduceCtorEq, cmpOf] at hb') <;> try (exfalso; omega)))
         all_goals (fail_if_success apply DL.id))
        | (refine RunL.split rfl rfl rfl rfl (fun hb => ?_) (fun hb => ?_) <;> have hb' := hb <;> (try simp only [sc, reduceCtorEq, cmpOf] at hb') <;> try (exfalso; omega)) )
      all_goals
        exact ⟨i + 1, A, St.Le.of (by repeat' (first | exact all_nil | refine all_cons rfl ?_)) (by repeat' (first | exact all_nil | refine all_cons rfl ?_)), ⟨by omega, by omega, by rw [hst, k3]⟩, by omega⟩
  · refine AWP.freezeV 5 rfl rfl ?_
    repeat' (first
      | (apply RunL.step; exact rfl; first | (apply op_nilVec 3 .i64; exact .inl rfl; exact rfl) | (apply op_buildEG (τ := τ); exact rfl; exact rfl; exact rfl; exact rfl; exact .inl rfl; exact rfl) | (apply op_appendV (τ := τ); exact rfl; exact rfl; exact rfl; exact rfl; exact rfl; exact Rd.of rfl; exact Rd.of rfl; exact rfl; ((try dsimp only); (try simp only [List.length_cons, List.length_nil]); omega); exact rfl; exact .inl rfl; exact rfl) | fail) | (apply RunL.step; exact rfl; apply op_ev (τ := τ); exact rfl; (first | exact hpa); exact rfl) | (apply RunL.step; exact rfl; exact opA) | (apply RunL.hand; exact rfl; exact rfl; exact lenA; exact rfl) | (apply AWP.seq) | (apply AWP.region; exact rfl) | (apply AWP.block) | (apply AWP.skip) | (apply AWP.exit) | (apply AWP.retF; exact rfl; exact rfl; exact rfl; exact rfl; exact lenA; exact rfl) | (apply AWP.ret) | (apply RunL.nil) | (apply RunL.on; exact rfl; exact rfl; exact rfl; exact rfl; (first | exact rfl | assumption)) | (apply RunL.noU; exact rfl; exact rfl; exact rfl; exact rfl; exact rfl; exact rfl) | (apply RunL.no; exact rfl; exact rfl; exact rfl; exact rfl; (first | exact rfl | assumption); exact rfl; exact rfl) | (refine AWP.cond _ (Rd.of rfl) (fun hc => ?_) (fun hc => ?_) <;> first | (exfalso; cases hc; done) | (have hc' := hc; (try simp only [sc, reduceCtorEq, cmpOf] at hc'); try (exfalso; omega)))
      | (
       apply AWP.drawA
       repeat' (first
         | (apply DL.cons; (try (apply OpLoc.on; exact rfl; exact rfl; exact rfl; exact rfl; (first | exact rfl | assumption))); apply ol_ev (τ := τ); exact rfl; (first | exact hpa); exact rfl; exact rfl) | (apply DL.cons; exact olA; exact rfl) | (apply DL.nil; kernel_rfl) | (refine DL.split rfl rfl rfl rfl (fun hb => ?_) (fun hb => ?_) <;> have hb' := hb <;> (try simp only [sc, reduceCtorEq, cmpOf] at hb') <;> try (exfalso; omega)))
       all_goals (fail_if_success apply DL.id))
      | (refine RunL.split rfl rfl rfl rfl (fun hb => ?_) (fun hb => ?_) <;> have hb' := hb <;> (try simp only [sc, reduceCtorEq, cmpOf] at hb') <;> try (exfalso; omega)) )
    apply Ends.mk (.cons (.tmp rfl) .nil)
    rw [k3, show i.toNat = L.length by omega]
    rfl
set_option maxHeartbeats 1000000 in
theorem r13unmet (C : List (List UInt8)) (L : List (List UInt8 × Int × Int)) (hn : L.length ≤ 4398046511104) (hL : ∀ p ∈ L, p.1.length ≤ 140737488355328) : Evals Try.prog 22 [.sl 1 (C.map rowS), .sl 3 (L.map rowC)] (.ints .i64 (unmetS C L)) := by
  have hP : ∀ (c : List UInt8), c.length ≤ 140737488355328 → _ := fun c h => r13count C c
  refine evals_of_awp Try.func22 rfl (CallOK.of Try.func22 (by kernel_rfl) rfl) (Nat.le_of_ble_eq_true rfl) ?_
  rintro w R hR ⟨vs, hv⟩
  have hlen := hv.slen 1 rfl
  simp only [maxLen, List.length_map] at hlen
  have hml : (L.map rowC).length = L.length := by simp
  repeat' (first
    | (apply RunL.step; exact rfl; first | (apply op_nilVec 3 .i64; exact .inl rfl; exact rfl) | (apply op_buildEG (τ := τ); exact rfl; exact rfl; exact rfl; exact rfl; exact .inl rfl; exact rfl) | (apply op_appendV (τ := τ); exact rfl; exact rfl; exact rfl; exact rfl; exact rfl; exact Rd.of rfl; exact Rd.of rfl; exact rfl; ((try dsimp only); (try simp only [List.length_cons, List.length_nil]); omega); exact rfl; exact .inl rfl; exact rfl) | fail) | (apply RunL.step; exact rfl; apply op_ev (τ := τ); exact rfl; (first | exact hpa); exact rfl) | (apply RunL.step; exact rfl; exact opA) | (apply RunL.hand; exact rfl; exact rfl; exact lenA; exact rfl) | (apply AWP.seq) | (apply AWP.region; exact rfl) | (apply AWP.block) | (apply AWP.skip) | (apply AWP.exit) | (apply AWP.retF; exact rfl; exact rfl; exact rfl; exact rfl; exact lenA; exact rfl) | (apply AWP.ret) | (apply RunL.nil) | (apply RunL.on; exact rfl; exact rfl; exact rfl; exact rfl; (first | exact rfl | assumption)) | (apply RunL.noU; exact rfl; exact rfl; exact rfl; exact rfl; exact rfl; exact rfl) | (apply RunL.no; exact rfl; exact rfl; exact rfl; exact rfl; (first | exact rfl | assumption); exact rfl; exact rfl) | (refine AWP.cond _ (Rd.of rfl) (fun hc => ?_) (fun hc => ?_) <;> first | (exfalso; cases hc; done) | (have hc' := hc; (try simp only [sc, reduceCtorEq, cmpOf] at hc'); try (exfalso; omega)))
    | (
     apply AWP.drawA
     repeat' (first
       | (apply DL.cons; (try (apply OpLoc.on; exact rfl; exact rfl; exact rfl; exact rfl; (first | exact rfl | assumption))); apply ol_ev (τ := τ); exact rfl; (first | exact hpa); exact rfl; exact rfl) | (apply DL.cons; exact olA; exact rfl) | (apply DL.nil; kernel_rfl) | (refine DL.split rfl rfl rfl rfl (fun hb => ?_) (fun hb => ?_) <;> have hb' := hb <;> (try simp only [sc, reduceCtorEq, cmpOf] at hb') <;> try (exfalso; omega)))
     all_goals (fail_if_success apply DL.id))
    | (refine RunL.split rfl rfl rfl rfl (fun hb => ?_) (fun hb => ?_) <;> have hb' := hb <;> (try simp only [sc, reduceCtorEq, cmpOf] at hb') <;> try (exfalso; omega)) )
  refine AWP.loop2 (fun (i : Int) (A : List Int) => ⟨[(0, .val (.sl 1 (C.map rowS))), (1, .val (.sl 3 (L.map rowC))), (5, .vec 8 3 1 (iv .i64 A)), (6, .val (.int .i64 i))], []⟩) (fun i A => 0 ≤ i ∧ i ≤ L.length ∧ A = unmetN C L i.toNat) (fun i _ => (L.length - i).toNat) 0 [] ⟨by omega, by omega, rfl⟩ (St.Le.of (by repeat' (first | exact all_nil | refine all_cons rfl ?_)) (by repeat' (first | exact all_nil | refine all_cons rfl ?_))) ?_
  rintro i A ⟨k1, k2, k3⟩
  have hb := unmetN_length C L i.toNat
  rw [← k3] at hb
  by_cases hi : i < L.length
  · obtain ⟨⟨c, a, b⟩, hc⟩ := some_at k1 hi
    have hrow : (L.map rowC)[i.toNat]? = some [.str c, .int .i64 a, .int .i64 b] := row_at (f := rowC) hc
    have hst := unmetN_step C k1 hc
    have hpa := hP c (hL _ (List.mem_of_getElem? hc))
    by_cases hm : countS C c < a ∨ b < countS C c
    · rw [if_pos hm] at hst
      repeat' (first
        | (apply RunL.step; exact rfl; first | (apply op_nilVec 3 .i64; exact .inl rfl; exact rfl) | (apply op_buildEG (τ := τ); exact rfl; exact rfl; exact rfl; exact rfl; exact .inl rfl; exact rfl) | (apply op_appendV (τ := τ); exact rfl; exact rfl; exact rfl; exact rfl; exact rfl; exact Rd.of rfl; exact Rd.of rfl; exact rfl; ((try dsimp only); (try simp only [List.length_cons, List.length_nil]); omega); exact rfl; exact .inl rfl; exact rfl) | fail) | (apply RunL.step; exact rfl; apply op_ev (τ := τ); exact rfl; (first | exact hpa); exact rfl) | (apply RunL.step; exact rfl; exact opA) | (apply RunL.hand; exact rfl; exact rfl; exact lenA; exact rfl) | (apply AWP.seq) | (apply AWP.region; exact rfl) | (apply AWP.block) | (apply AWP.skip) | (apply AWP.exit) | (apply AWP.retF; exact rfl; exact rfl; exact rfl; exact rfl; exact lenA; exact rfl) | (apply AWP.ret) | (apply RunL.nil) | (apply RunL.on; exact rfl; exact rfl; exact rfl; exact rfl; (first | exact rfl | assumption)) | (apply RunL.noU; exact rfl; exact rfl; exact rfl; exact rfl; exact rfl; exact rfl) | (apply RunL.no; exact rfl; exact rfl; exact rfl; exact rfl; (first | exact rfl | assumption); exact rfl; exact rfl) | (refine AWP.cond _ (Rd.of rfl) (fun hc => ?_) (fun hc => ?_) <;> first | (exfalso; cases hc; done) | (have hc' := hc; (try simp only [sc, reduceCtorEq, cmpOf] at hc'); try (exfalso; omega)))
        | (
         apply AWP.drawA
         repeat' (first
           | (apply DL.cons; (try (apply OpLoc.on; exact rfl; exact rfl; exact rfl; exact rfl; (first | exact rfl | assumption))); apply ol_ev (τ := τ); exact rfl; (first | exact hpa); exact rfl; exact rfl) | (apply DL.cons; exact olA; exact rfl) | (apply DL.nil; kernel_rfl) | (refine DL.split rfl rfl rfl rfl (fun hb => ?_) (fun hb => ?_) <;> have hb' := hb <;> (try simp only [sc, reduceCtorEq, cmpOf] at hb') <;> try (exfalso; omega)))
         all_goals (fail_if_success apply DL.id))
        | (refine RunL.split rfl rfl rfl rfl (fun hb => ?_) (fun hb => ?_) <;> have hb' := hb <;> (try simp only [sc, reduceCtorEq, cmpOf] at hb') <;> try (exfalso; omega)) )
      all_goals
        exact ⟨i + 1, A ++ [i], St.Le.of (by repeat' (first | exact all_nil | refine all_cons rfl ?_)) (by repeat' (first | exact all_nil | refine all_cons rfl ?_)), ⟨by omega, by omega, by rw [hst, k3]⟩, by omega⟩
    · rw [if_neg hm, List.append_nil] at hst
      repeat' (first
        | (apply RunL.step; exact rfl; first | (apply op_nilVec 3 .i64; exact .inl rfl; exact rfl) | (apply op_buildEG (τ := τ); exact rfl; exact rfl; exact rfl; exact rfl; exact .inl rfl; exact rfl) | (apply op_appendV (τ := τ); exact rfl; exact rfl; exact rfl; exact rfl; exact rfl; exact Rd.of rfl; exact Rd.of rfl; exact rfl; ((try dsimp only); (try simp only [List.length_cons, List.length_nil]); omega); exact rfl; exact .inl rfl; exact rfl) | fail) | (apply RunL.step; exact rfl; apply op_ev (τ := τ); exact rfl; (first | exact hpa); exact rfl) | (apply RunL.step; exact rfl; exact opA) | (apply RunL.hand; exact rfl; exact rfl; exact lenA; exact rfl) | (apply AWP.seq) | (apply AWP.region; exact rfl) | (apply AWP.block) | (apply AWP.skip) | (apply AWP.exit) | (apply AWP.retF; exact rfl; exact rfl; exact rfl; exact rfl; exact lenA; exact rfl) | (apply AWP.ret) | (apply RunL.nil) | (apply RunL.on; exact rfl; exact rfl; exact rfl; exact rfl; (first | exact rfl | assumption)) | (apply RunL.noU; exact rfl; exact rfl; exact rfl; exact rfl; exact rfl; exact rfl) | (apply RunL.no; exact rfl; exact rfl; exact rfl; exact rfl; (first | exact rfl | assumption); exact rfl; exact rfl) | (refine AWP.cond _ (Rd.of rfl) (fun hc => ?_) (fun hc => ?_) <;> first | (exfalso; cases hc; done) | (have hc' := hc; (try simp only [sc, reduceCtorEq, cmpOf] at hc'); try (exfalso; omega)))
        | (
         apply AWP.drawA
         repeat' (first
           | (apply DL.cons; (try (apply OpLoc.on; exact rfl; exact rfl; exact rfl; exact rfl; (first | exact rfl | assumption))); apply ol_ev (τ := τ); exact rfl; (first | exact hpa); exact rfl; exact rfl) | (apply DL.cons; exact olA; exact rfl) | (apply DL.nil; kernel_rfl) | (refine DL.split rfl rfl rfl rfl (fun hb => ?_) (fun hb => ?_) <;> have hb' := hb <;> (try simp only [sc, reduceCtorEq, cmpOf] at hb') <;> try (exfalso; omega)))
         all_goals (fail_if_success apply DL.id))
        | (refine RunL.split rfl rfl rfl rfl (fun hb => ?_) (fun hb => ?_) <;> have hb' := hb <;> (try simp only [sc, reduceCtorEq, cmpOf] at hb') <;> try (exfalso; omega)) )
      all_goals
        exact ⟨i + 1, A, St.Le.of (by repeat' (first | exact all_nil | refine all_cons rfl ?_)) (by repeat' (first | exact all_nil | refine all_cons rfl ?_)), ⟨by omega, by omega, by rw [hst, k3]⟩, by omega⟩
  · refine AWP.freezeV 5 rfl rfl ?_
    repeat' (first
      | (apply RunL.step; exact rfl; first | (apply op_nilVec 3 .i64; exact .inl rfl; exact rfl) | (apply op_buildEG (τ := τ); exact rfl; exact rfl; exact rfl; exact rfl; exact .inl rfl; exact rfl) | (apply op_appendV (τ := τ); exact rfl; exact rfl; exact rfl; exact rfl; exact rfl; exact Rd.of rfl; exact Rd.of rfl; exact rfl; ((try dsimp only); (try simp only [List.length_cons, List.length_nil]); omega); exact rfl; exact .inl rfl; exact rfl) | fail) | (apply RunL.step; exact rfl; apply op_ev (τ := τ); exact rfl; (first | exact hpa); exact rfl) | (apply RunL.step; exact rfl; exact opA) | (apply RunL.hand; exact rfl; exact rfl; exact lenA; exact rfl) | (apply AWP.seq) | (apply AWP.region; exact rfl) | (apply AWP.block) | (apply AWP.skip) | (apply AWP.exit) | (apply AWP.retF; exact rfl; exact rfl; exact rfl; exact rfl; exact lenA; exact rfl) | (apply AWP.ret) | (apply RunL.nil) | (apply RunL.on; exact rfl; exact rfl; exact rfl; exact rfl; (first | exact rfl | assumption)) | (apply RunL.noU; exact rfl; exact rfl; exact rfl; exact rfl; exact rfl; exact rfl) | (apply RunL.no; exact rfl; exact rfl; exact rfl; exact rfl; (first | exact rfl | assumption); exact rfl; exact rfl) | (refine AWP.cond _ (Rd.of rfl) (fun hc => ?_) (fun hc => ?_) <;> first | (exfalso; cases hc; done) | (have hc' := hc; (try simp only [sc, reduceCtorEq, cmpOf] at hc'); try (exfalso; omega)))
      | (
       apply AWP.drawA
       repeat' (first
         | (apply DL.cons; (try (apply OpLoc.on; exact rfl; exact rfl; exact rfl; exact rfl; (first | exact rfl | assumption))); apply ol_ev (τ := τ); exact rfl; (first | exact hpa); exact rfl; exact rfl) | (apply DL.cons; exact olA; exact rfl) | (apply DL.nil; kernel_rfl) | (refine DL.split rfl rfl rfl rfl (fun hb => ?_) (fun hb => ?_) <;> have hb' := hb <;> (try simp only [sc, reduceCtorEq, cmpOf] at hb') <;> try (exfalso; omega)))
       all_goals (fail_if_success apply DL.id))
      | (refine RunL.split rfl rfl rfl rfl (fun hb => ?_) (fun hb => ?_) <;> have hb' := hb <;> (try simp only [sc, reduceCtorEq, cmpOf] at hb') <;> try (exfalso; omega)) )
    apply Ends.mk (.cons (.tmp rfl) .nil)
    rw [k3, show i.toNat = L.length by omega]
    rfl
theorem list_ext_at {α : Type} {a b : List α} (h : a.length = b.length) (hi : ∀ i : Nat, i < a.length → a[i]? = b[i]?) : a = b := by
  apply List.ext_getElem?
  intro i
  by_cases h1 : i < a.length
  · exact hi i h1
  · rw [List.getElem?_eq_none (by omega), List.getElem?_eq_none (by omega)]
theorem r13sameS (A B : List (List UInt8)) : Evals Try.prog 15 [.sl 1 (A.map rowS), .sl 1 (B.map rowS)] (.bool (decide (A = B))) := by
  refine evals_of_awp Try.func15 rfl (CallOK.of Try.func15 (by kernel_rfl) rfl) (Nat.le_of_ble_eq_true rfl) ?_
  rintro w R hR ⟨vs, hv⟩
  have hlen := hv.slen 0 rfl
  simp only [maxLen, List.length_map] at hlen
  have ha : (A.map rowS).length = A.length := by simp
  have hb : (B.map rowS).length = B.length := by simp
  repeat' (first
    | (apply RunL.step; exact rfl; exact opA) | (apply RunL.hand; exact rfl; exact rfl; exact lenA; exact rfl) | (apply AWP.seq) | (apply AWP.region; exact rfl) | (apply AWP.block) | (apply AWP.skip) | (apply AWP.exit) | (apply AWP.retF; exact rfl; exact rfl; exact rfl; exact rfl; exact lenA; exact rfl) | (apply AWP.ret) | (apply RunL.nil) | (apply RunL.on; exact rfl; exact rfl; exact rfl; exact rfl; (first | exact rfl | assumption)) | (apply RunL.noU; exact rfl; exact rfl; exact rfl; exact rfl; exact rfl; exact rfl) | (apply RunL.no; exact rfl; exact rfl; exact rfl; exact rfl; (first | exact rfl | assumption); exact rfl; exact rfl) | (refine AWP.cond _ (Rd.of rfl) (fun hc => ?_) (fun hc => ?_) <;> first | (exfalso; cases hc; done) | (have hc' := hc; (try simp only [sc, reduceCtorEq, cmpOf] at hc'); try (exfalso; omega)))
    | (
     apply AWP.drawA
     repeat' (first
       | (apply DL.cons; (try (apply OpLoc.on; exact rfl; exact rfl; exact rfl; exact rfl; (first | exact rfl | assumption))); apply ol_ev (τ := τ); exact rfl; (fail); exact rfl; exact rfl) | (apply DL.cons; exact olA; exact rfl) | (apply DL.nil; kernel_rfl) | (refine DL.split rfl rfl rfl rfl (fun hb => ?_) (fun hb => ?_) <;> have hb' := hb <;> (try simp only [sc, reduceCtorEq, cmpOf] at hb') <;> try (exfalso; omega)))
     all_goals (fail_if_success apply DL.id))
    | (refine RunL.split rfl rfl rfl rfl (fun hb => ?_) (fun hb => ?_) <;> have hb' := hb <;> (try simp only [sc, reduceCtorEq, cmpOf] at hb') <;> try (exfalso; omega)) )
  · apply Ends.mk (.cons (.tmp rfl) .nil)
    rw [decide_eq_false (fun h => by subst h; omega)]; rfl
  refine AWP.loop (ι := Int) (fun i => ⟨[(0, .val (.sl 1 (A.map rowS))), (1, .val (.sl 1 (B.map rowS))), (5, .val (.int .i64 i))], []⟩) (fun i => 0 ≤ i ∧ i ≤ A.length ∧ ∀ j : Nat, (j : Int) < i → A[j]? = B[j]?) (fun i => A.length - i.toNat) 0 ⟨by omega, by omega, fun j h => by omega⟩ (St.Le.of (by repeat' (first | exact all_nil | refine all_cons rfl ?_)) (by repeat' (first | exact all_nil | refine all_cons rfl ?_))) ?_
  rintro i ⟨k1, k2, k3⟩
  by_cases hi : i < A.length
  · obtain ⟨x, hx⟩ := some_at k1 hi
    obtain ⟨y, hy⟩ := some_at (l := B) k1 (by omega)
    have hrow := row_at (f := rowS) hx
    have hrow' := row_at (f := rowS) hy
    repeat' (first
      | (apply RunL.step; exact rfl; exact opA) | (apply RunL.hand; exact rfl; exact rfl; exact lenA; exact rfl) | (apply AWP.seq) | (apply AWP.region; exact rfl) | (apply AWP.block) | (apply AWP.skip) | (apply AWP.exit) | (apply AWP.retF; exact rfl; exact rfl; exact rfl; exact rfl; exact lenA; exact rfl) | (apply AWP.ret) | (apply RunL.nil) | (apply RunL.on; exact rfl; exact rfl; exact rfl; exact rfl; (first | exact rfl | assumption)) | (apply RunL.noU; exact rfl; exact rfl; exact rfl; exact rfl; exact rfl; exact rfl) | (apply RunL.no; exact rfl; exact rfl; exact rfl; exact rfl; (first | exact rfl | assumption); exact rfl; exact rfl) | (refine AWP.cond _ (Rd.of rfl) (fun hc => ?_) (fun hc => ?_) <;> first | (exfalso; cases hc; done) | (have hc' := hc; (try simp only [sc, reduceCtorEq, cmpOf] at hc'); try (exfalso; omega)))
      | (
       apply AWP.drawA
       repeat' (first
         | (apply DL.cons; (try (apply OpLoc.on; exact rfl; exact rfl; exact rfl; exact rfl; (first | exact rfl | assumption))); apply ol_ev (τ := τ); exact rfl; (fail); exact rfl; exact rfl) | (apply DL.cons; exact olA; exact rfl) | (apply DL.nil; kernel_rfl) | (refine DL.split rfl rfl rfl rfl (fun hb => ?_) (fun hb => ?_) <;> have hb' := hb <;> (try simp only [sc, reduceCtorEq, cmpOf] at hb') <;> try (exfalso; omega)))
       all_goals (fail_if_success apply DL.id))
      | (refine RunL.split rfl rfl rfl rfl (fun hb => ?_) (fun hb => ?_) <;> have hb' := hb <;> (try simp only [sc, reduceCtorEq, cmpOf] at hb') <;> try (exfalso; omega)) )
    · apply Ends.mk (.cons (.tmp rfl) .nil)
      rw [decide_eq_false (fun h => by
        subst h
        rw [hx] at hy
        cases hy
        simp [cmpStr] at hc')]; rfl
    · refine ⟨_, St.Le.of (by repeat' (first | exact all_nil | refine all_cons rfl ?_)) (by repeat' (first | exact all_nil | refine all_cons rfl ?_)), ⟨by omega, by omega, fun j hj => ?_⟩, by omega⟩
      by_cases h : (j : Int) < i
      · exact k3 j h
      · rw [show j = i.toNat by omega, hx, hy]
        congr 1
        simpa [cmpStr] using hc'
  · repeat' (first
    | (apply RunL.step; exact rfl; exact opA) | (apply RunL.hand; exact rfl; exact rfl; exact lenA; exact rfl) | (apply AWP.seq) | (apply AWP.region; exact rfl) | (apply AWP.block) | (apply AWP.skip) | (apply AWP.exit) | (apply AWP.retF; exact rfl; exact rfl; exact rfl; exact rfl; exact lenA; exact rfl) | (apply AWP.ret) | (apply RunL.nil) | (apply RunL.on; exact rfl; exact rfl; exact rfl; exact rfl; (first | exact rfl | assumption)) | (apply RunL.noU; exact rfl; exact rfl; exact rfl; exact rfl; exact rfl; exact rfl) | (apply RunL.no; exact rfl; exact rfl; exact rfl; exact rfl; (first | exact rfl | assumption); exact rfl; exact rfl) | (refine AWP.cond _ (Rd.of rfl) (fun hc => ?_) (fun hc => ?_) <;> first | (exfalso; cases hc; done) | (have hc' := hc; (try simp only [sc, reduceCtorEq, cmpOf] at hc'); try (exfalso; omega)))
    | (
     apply AWP.drawA
     repeat' (first
       | (apply DL.cons; (try (apply OpLoc.on; exact rfl; exact rfl; exact rfl; exact rfl; (first | exact rfl | assumption))); apply ol_ev (τ := τ); exact rfl; (fail); exact rfl; exact rfl) | (apply DL.cons; exact olA; exact rfl) | (apply DL.nil; kernel_rfl) | (refine DL.split rfl rfl rfl rfl (fun hb => ?_) (fun hb => ?_) <;> have hb' := hb <;> (try simp only [sc, reduceCtorEq, cmpOf] at hb') <;> try (exfalso; omega)))
     all_goals (fail_if_success apply DL.id))
    | (refine RunL.split rfl rfl rfl rfl (fun hb => ?_) (fun hb => ?_) <;> have hb' := hb <;> (try simp only [sc, reduceCtorEq, cmpOf] at hb') <;> try (exfalso; omega)) )
    apply Ends.mk (.cons (.tmp rfl) .nil)
    rw [decide_eq_true (list_ext_at (by omega) fun j hj => k3 j (by omega))]; rfl
theorem HoldsAll.intsI {R : Nat → Prop} {w : World} {ds : List D} {vs : Array Value} (i : Nat) {l : List Int} (h : HoldsAll R w ds vs) (hi : ds[i]? = some (.ints .i64 l)) : l.length ≤ 9223372036854775807 ∧ ∀ x ∈ l, -9223372036854775808 ≤ x ∧ x ≤ 9223372036854775807 := by
  obtain ⟨h1, h2⟩ := h.ints i hi
  refine ⟨h1, fun x hx => ?_⟩
  have := h2 x hx
  simpa [InR, IntKind.min, IntKind.max, IntKind.bits, IntKind.signed] using this
theorem r13sameI (a b : List Int) : Evals Try.prog 20 [.ints .i64 a, .ints .i64 b] (.bool (decide (a = b))) := by
  refine evals_of_awp Try.func20 rfl (CallOK.of Try.func20 (by kernel_rfl) rfl) (Nat.le_of_ble_eq_true rfl) ?_
  rintro w R hR ⟨vs, hv⟩
  obtain ⟨hla, ha⟩ := hv.intsI 0 rfl
  obtain ⟨hlb, hb⟩ := hv.intsI 1 rfl
  repeat' (first
    | (apply RunL.step; exact rfl; exact opA) | (apply RunL.hand; exact rfl; exact rfl; exact lenA; exact rfl) | (apply AWP.seq) | (apply AWP.region; exact rfl) | (apply AWP.block) | (apply AWP.skip) | (apply AWP.exit) | (apply AWP.retF; exact rfl; exact rfl; exact rfl; exact rfl; exact lenA; exact rfl) | (apply AWP.ret) | (apply RunL.nil) | (apply RunL.on; exact rfl; exact rfl; exact rfl; exact rfl; (first | exact rfl | assumption)) | (apply RunL.noU; exact rfl; exact rfl; exact rfl; exact rfl; exact rfl; exact rfl) | (apply RunL.no; exact rfl; exact rfl; exact rfl; exact rfl; (first | exact rfl | assumption); exact rfl; exact rfl) | (refine AWP.cond _ (Rd.of rfl) (fun hc => ?_) (fun hc => ?_) <;> first | (exfalso; cases hc; done) | (have hc' := hc; (try simp only [sc, reduceCtorEq, cmpOf] at hc'); try (exfalso; omega)))
    | (
     apply AWP.drawA
     repeat' (first
       | (apply DL.cons; (try (apply OpLoc.on; exact rfl; exact rfl; exact rfl; exact rfl; (first | exact rfl | assumption))); apply ol_ev (τ := τ); exact rfl; (fail); exact rfl; exact rfl) | (apply DL.cons; exact olA; exact rfl) | (apply DL.nil; kernel_rfl) | (refine DL.split rfl rfl rfl rfl (fun hb => ?_) (fun hb => ?_) <;> have hb' := hb <;> (try simp only [sc, reduceCtorEq, cmpOf] at hb') <;> try (exfalso; omega)))
     all_goals (fail_if_success apply DL.id))
    | (refine RunL.split rfl rfl rfl rfl (fun hb => ?_) (fun hb => ?_) <;> have hb' := hb <;> (try simp only [sc, reduceCtorEq, cmpOf] at hb') <;> try (exfalso; omega)) )
  · apply Ends.mk (.cons (.tmp rfl) .nil)
    rw [decide_eq_false (fun h => by subst h; omega)]; rfl
  refine AWP.loop (ι := Int) (fun i => ⟨[(0, .val (.ints .i64 a)), (1, .val (.ints .i64 b)), (5, .val (.int .i64 i))], []⟩) (fun i => 0 ≤ i ∧ i ≤ a.length ∧ ∀ j : Nat, j < i.toNat → ix a j = ix b j) (fun i => a.length - i.toNat) 0 ⟨by omega, by omega, fun j h => by omega⟩ (St.Le.of (by repeat' (first | exact all_nil | refine all_cons rfl ?_)) (by repeat' (first | exact all_nil | refine all_cons rfl ?_))) ?_
  rintro i ⟨k1, k2, k3⟩
  repeat' (first
    | (apply RunL.step; exact rfl; exact opA) | (apply RunL.hand; exact rfl; exact rfl; exact lenA; exact rfl) | (apply AWP.seq) | (apply AWP.region; exact rfl) | (apply AWP.block) | (apply AWP.skip) | (apply AWP.exit) | (apply AWP.retF; exact rfl; exact rfl; exact rfl; exact rfl; exact lenA; exact rfl) | (apply AWP.ret) | (apply RunL.nil) | (apply RunL.on; exact rfl; exact rfl; exact rfl; exact rfl; (first | exact rfl | assumption)) | (apply RunL.noU; exact rfl; exact rfl; exact rfl; exact rfl; exact rfl; exact rfl) | (apply RunL.no; exact rfl; exact rfl; exact rfl; exact rfl; (first | exact rfl | assumption); exact rfl; exact rfl) | (refine AWP.cond _ (Rd.of rfl) (fun hc => ?_) (fun hc => ?_) <;> first | (exfalso; cases hc; done) | (have hc' := hc; (try simp only [sc, reduceCtorEq, cmpOf] at hc'); try (exfalso; omega)))
    | (
     apply AWP.drawA
     repeat' (first
       | (apply DL.cons; (try (apply OpLoc.on; exact rfl; exact rfl; exact rfl; exact rfl; (first | exact rfl | assumption))); apply ol_ev (τ := τ); exact rfl; (fail); exact rfl; exact rfl) | (apply DL.cons; exact olA; exact rfl) | (apply DL.nil; kernel_rfl) | (refine DL.split rfl rfl rfl rfl (fun hb => ?_) (fun hb => ?_) <;> have hb' := hb <;> (try simp only [sc, reduceCtorEq, cmpOf] at hb') <;> try (exfalso; omega)))
     all_goals (fail_if_success apply DL.id))
    | (refine RunL.split rfl rfl rfl rfl (fun hb => ?_) (fun hb => ?_) <;> have hb' := hb <;> (try simp only [sc, reduceCtorEq, cmpOf] at hb') <;> try (exfalso; omega)) )
  · apply Ends.mk (.cons (.tmp rfl) .nil)
    rw [decide_eq_false (fun h => by subst h; omega)]; rfl
  · refine ⟨_, St.Le.of (by repeat' (first | exact all_nil | refine all_cons rfl ?_)) (by repeat' (first | exact all_nil | refine all_cons rfl ?_)), ⟨by omega, by omega, fun j hj => ?_⟩, by omega⟩
    by_cases h : j < i.toNat
    · exact k3 j h
    · rw [show (j : Int) = i by omega]; omega
  · apply Ends.mk (.cons (.tmp rfl) .nil)
    rw [decide_eq_true (list_ext_at (by omega) fun j hj => by
      have := k3 j (by omega)
      simp only [ix] at this
      rw [List.getElem?_eq_getElem hj, List.getElem?_eq_getElem (by omega)]
      simpa [hj, show j < b.length by omega] using this)]; rfl
end Go.Proofs.Ytglakdnhjpakkaa.K
