/- The rules of the walk once more, each with its own small proof search for what it asks. -/
import Derived.Test.YtffcpgebgoineaaDoorOwn
import Derived.Test.YtffcpgebgoineaaDoorTys
import Derived.Test.YtffcpgebgoineaaDoorNum
namespace Go.Proofs.YtffcpgebgoineaaDoor.K
open Go
set_option linter.unusedVariables false
set_option linter.unusedSimpArgs false

section
variable {P : Program} {B : Base} {ops : Array Oper} {r : List Oper} {K : St → Prop} {s : St} {Q : Post}
theorem opA {o : Oper} {s' : St}
    (h : OpDo P B o s s' := by
      first
        | (apply op_move; exact Rd.of rfl; exact rfl)
        | (apply op_assignT (τ := τ); exact rfl; exact rfl)
        | (apply op_lenI (τ := τ); exact rfl; exact rfl; exact Rd.of rfl; exact rfl)
        | (apply op_lenStr (τ := τ); exact rfl; exact rfl; exact Rd.of rfl; exact rfl)
        | (apply op_lenS (τ := τ); exact rfl; exact rfl; exact Rd.of rfl; exact rfl)
        | (apply op_lenB (τ := τ); exact rfl; exact rfl; exact Rd.of rfl; exact rfl)
        | (apply op_max; exact Rd.of rfl; exact Rd.of rfl; exact rfl; exact rfl)
        | (apply op_min; exact Rd.of rfl; exact Rd.of rfl; exact rfl; exact rfl)
        | (apply op_cmp; exact rfl; exact Rd.of rfl; exact Rd.of rfl; exact rfl; exact rfl)
        | (apply op_add; exact Rd.of rfl; exact Rd.of rfl; (first | exact wrap_i64' (by omega) | exact wrap_u64' (by omega) | exact wrap_u8' (by omega) | exact wrap_u64m _ | exact IntKind.wrap_u32 _ | exact rfl); exact rfl)
        | (apply op_sub; exact Rd.of rfl; exact Rd.of rfl; (first | exact wrap_i64' (by omega) | exact wrap_u64' (by omega) | exact wrap_u8' (by omega) | exact wrap_u64m _ | exact IntKind.wrap_u32 _ | exact rfl); exact rfl)
        | (apply op_mul; exact Rd.of rfl; exact Rd.of rfl; (first | exact wrap_i64' (by omega) | exact wrap_u64' (by omega) | exact wrap_u8' (by omega) | exact wrap_u64m _ | exact IntKind.wrap_u32 _ | exact rfl); exact rfl)
        | (apply op_quo; exact Rd.of rfl; exact Rd.of rfl; omega; omega; exact rfl)
        | (apply op_rem; exact Rd.of rfl; exact Rd.of rfl; omega; omega; exact rfl)
        | (apply op_shr; exact Rd.of rfl; exact Rd.of rfl; omega; omega; (first | (exact sh_32; exact shr_u64_32 _) | (exact sh32_16; exact shr_16 _) | (exact sh32_8; exact shr_8 _) | (exact sh_63; exact shr_u64_63 _) | (exact sh_var (by omega); exact rfl) | (exact rfl; exact rfl)); exact rfl)
        | (apply op_shl; exact Rd.of rfl; exact Rd.of rfl; omega; (first | (exact sh_32; (first | exact shl_u64_32 (by omega) | exact rfl)) | (exact sh_31; exact rfl) | (exact sh_var (by omega); (first | exact shl_u64_var (by omega) (by omega) | exact rfl)) | (exact sh_varI (by omega); exact shl_u64_var (by omega) (by omega)) | (exact sh32_varI (by omega); exact shl_u32_one (by omega)) | (exact rfl; exact rfl)); exact rfl)
        | (apply op_bits; (first | exact .inl rfl | exact .inr rfl); exact Rd.of rfl; exact Rd.of rfl; (first | exact or_hi (by omega) (by omega) | exact or_lo' (by omega) (by omega) | exact rfl); exact rfl)
        | (apply op_conv (τ := τ); exact rfl; exact rfl; exact rfl; exact rfl; exact Rd.of rfl; (first | exact wrap_i64' (by omega) | exact wrap_u64' (by omega) | exact wrap_u32' (by omega) | exact wrap_u8' (by omega) | exact IntKind.wrap_u32 _ | exact wrap_u64m _ | exact IntKind.wrap_u8 _ | exact rfl); exact rfl)
        | (apply op_convs (τ := τ); exact rfl; exact rfl; exact rfl; exact rfl; exact Rd.of rfl; exact rfl)
        | (apply op_iaI (τ := τ); exact rfl; exact rfl; exact rfl; exact rfl; exact Rd.of rfl; exact Rd.of rfl; omega; exact idx (by omega) (by omega); exact rfl)
        | (apply op_iaB (τ := τ); exact rfl; exact rfl; exact rfl; exact rfl; exact Rd.of rfl; exact Rd.of rfl; omega; omega; exact rfl)
        | (apply op_iaS (τ := τ); exact rfl; exact rfl; exact rfl; exact rfl; exact Rd.of rfl; exact Rd.of rfl; omega; (first | assumption | exact ixs (by omega) (by omega)); exact rfl)
        | (apply op_index (τ := τ); exact rfl; exact rfl; exact Rd.of rfl; exact Rd.of rfl; omega; exact ixu (by omega) (by omega); exact rfl)
        | (apply op_cmps; exact rfl; exact Rd.of rfl; exact Rd.of rfl; exact rfl; exact rfl)
        | (apply op_cat; exact Rd.of rfl; exact Rd.of rfl; ((try simp only [List.length_append, maxLen]); omega); exact rfl)
        | (apply op_eqb (τ := τ); exact rfl; exact rfl; exact Rd.of rfl; exact Rd.of rfl; exact rfl)
        | (apply op_neb (τ := τ); exact rfl; exact rfl; exact Rd.of rfl; exact Rd.of rfl; exact rfl)
        | (apply op_sliceStr (τ := τ); exact rfl; exact rfl; exact Rd.of rfl; (first | exact Bd.none | exact Bd.some (Rd.of rfl) (Int.toNat_of_nonneg (by omega)).symm); (first | exact Bd.none | exact Bd.some (Rd.of rfl) (Int.toNat_of_nonneg (by omega)).symm); omega; omega; exact rfl)
        | (apply op_sliceB (τ := τ); exact rfl; exact rfl; exact rfl; exact rfl; exact Rd.of rfl; (first | exact Bd.none | exact Bd.some (Rd.of rfl) (Int.toNat_of_nonneg (by omega)).symm); (first | exact Bd.none | exact Bd.some (Rd.of rfl) (Int.toNat_of_nonneg (by omega)).symm); omega; omega; omega; exact rfl)
        | (apply op_fieldAddrR (τ := τ); exact rfl; exact rfl; exact rfl; exact rfl; exact rfl; exact Rd.of rfl; exact rfl)
        | (apply op_loadR1 (τ := τ); exact rfl; exact rfl; exact Rd.of rfl; exact rfl)
        | (apply op_loadRA (τ := τ); exact rfl; exact rfl; exact Rd.of rfl; exact rfl; exact rfl)
        | (apply op_loadRow (τ := τ); exact rfl; exact rfl; exact Rd.of rfl; exact rfl; exact idxN (by simp; omega); exact rfl)
        | (apply op_extract; exact Rd.of rfl; exact rfl; exact rfl)
        | (apply op_field1 (τ := τ); exact rfl; exact rfl; exact rfl; exact rfl; exact rfl; exact Rd.of rfl; exact rfl; exact rfl)
        | (apply op_fieldA (τ := τ); exact rfl; exact rfl; exact rfl; exact rfl; exact rfl; exact Rd.of rfl; exact rfl; exact rfl)
        | (apply op_fieldAddr (τ := τ); exact rfl; exact rfl; exact rfl; exact rfl; exact rfl; exact Rd.of rfl; exact rfl)
        | (apply op_load1 (τ := τ); exact rfl; exact rfl; exact Rd.of rfl; exact rfl; exact rfl; exact rfl)
        | (apply op_loadA (τ := τ); exact rfl; exact rfl; exact Rd.of rfl; exact rfl; exact rfl; exact rfl)
        | (apply op_storeRow (τ := τ); exact rfl; exact rfl; exact Rd.of rfl; exact Rd.of rfl; exact rfl; (simp; omega); exact rfl)
        | (apply op_storeC (τ := τ); exact rfl; exact Rd.of rfl; (first | exact Rd.of rfl | exact Rd.ofT (τ := τ) rfl); exact rfl; exact rfl; exact rfl; exact rfl; exact rfl)
        | (apply op_box; exact Rd.of rfl; exact rfl; (first | exact .inl rfl | exact .inr rfl); exact rfl)
        | (apply op_alloc (τ := τ); exact rfl; exact rfl; (first | exact .inl rfl | exact .inr rfl); exact rfl)
        | (apply op_make (τ := τ); exact rfl; exact rfl; exact rfl; exact rfl; exact rfl; exact rdN (Rd.of rfl) (Int.toNat_of_nonneg (by omega)).symm; exact rdN (Rd.of rfl) (Int.toNat_of_nonneg (by omega)).symm; ((try dsimp only); omega); ((try dsimp only); omega); exact rfl; (first | exact .inl rfl | exact .inr rfl); exact rfl)
        | (apply op_pick; exact Rd.of rfl; (first | exact .inl ⟨by first | rfl | assumption, Rd.of rfl⟩ | exact .inr ⟨by first | rfl | assumption, Rd.of rfl⟩); exact rfl)
        | (apply op_not; exact Rd.of rfl; exact rfl)
        | (apply op_neg; exact Rd.of rfl; (first | exact wrap_i64' (by omega) | exact wrap_u64m _ | exact rfl); exact rfl)
        | (apply op_sliceI (τ := τ); exact rfl; exact rfl; exact rfl; exact rfl; exact Rd.of rfl; (first | exact Bd.none | exact Bd.some (Rd.of rfl) (Int.toNat_of_nonneg (by omega)).symm); (first | exact Bd.none | exact Bd.some (Rd.of rfl) (Int.toNat_of_nonneg (by omega)).symm); omega; omega; exact rfl)
        | (apply op_build (τ := τ); exact rfl; exact rfl; exact rfl; exact rfl; exact rfl)
        | (apply op_buildE (τ := τ); exact rfl; exact rfl; exact rfl; exact rfl; exact rfl)
        | (apply op_buildESl (τ := τ); exact rfl; exact rfl; exact rfl; exact rfl)
        | (apply op_buildInts (τ := τ); exact rfl; exact rfl; exact rfl; exact rfl; exact rfl; exact rfl; exact rfl; exact rfl; exact rfl; exact rfl; exact rfl)
        | (apply op_buildSl (τ := τ); exact rfl; exact rfl; exact rfl; exact rfl; exact rfl; exact rfl; exact rfl; exact rfl; exact rfl)
        | (apply op_appendNil (τ := τ); exact rfl; exact rfl; exact rfl; exact rfl; exact Rd.of rfl; ((try dsimp only); omega); exact rfl)
        | (apply op_copy (τ := τ); exact rfl; exact rfl; exact rfl; exact rfl; exact Rd.of rfl; exact rfl; exact Rd.of rfl; exact rfl; (simp; omega); exact rfl; exact rfl)
      ) : OpDo P B o s s' := h
theorem olA {o : Oper} {rb : List Nat} {e : Eff}
    (h : OpLoc P B ops o s rb e := by
      (try (apply OpLoc.on; exact rfl; exact rfl; exact rfl; exact rfl; (first | exact rfl | assumption)))
      first
        | (apply OpLoc.offU; exact rfl; exact rfl; exact rfl; exact rfl; exact rfl; exact rfl)
        | (apply OpLoc.off; exact rfl; exact rfl; exact rfl; exact rfl; (first | exact rfl | assumption); exact rfl; exact rfl)
        | (apply ol_move; exact Rd.of rfl; exact rfl)
        | (apply ol_assignT (τ := τ); exact rfl; exact rfl)
        | (apply ol_lenI (τ := τ); exact rfl; exact rfl; exact Rd.of rfl; exact rfl)
        | (apply ol_lenStr (τ := τ); exact rfl; exact rfl; exact Rd.of rfl; exact rfl)
        | (apply ol_lenS (τ := τ); exact rfl; exact rfl; exact Rd.of rfl; exact rfl)
        | (apply ol_lenB (τ := τ); exact rfl; exact rfl; exact Rd.of rfl; exact rfl)
        | (apply ol_max; exact Rd.of rfl; exact Rd.of rfl; exact rfl; exact rfl)
        | (apply ol_min; exact Rd.of rfl; exact Rd.of rfl; exact rfl; exact rfl)
        | (apply ol_cmp; exact rfl; exact Rd.of rfl; exact Rd.of rfl; exact rfl; exact rfl)
        | (apply ol_add; exact Rd.of rfl; exact Rd.of rfl; (first | exact wrap_i64' (by omega) | exact wrap_u64' (by omega) | exact wrap_u8' (by omega) | exact wrap_u64m _ | exact IntKind.wrap_u32 _ | exact rfl); exact rfl)
        | (apply ol_sub; exact Rd.of rfl; exact Rd.of rfl; (first | exact wrap_i64' (by omega) | exact wrap_u64' (by omega) | exact wrap_u8' (by omega) | exact wrap_u64m _ | exact IntKind.wrap_u32 _ | exact rfl); exact rfl)
        | (apply ol_mul; exact Rd.of rfl; exact Rd.of rfl; (first | exact wrap_i64' (by omega) | exact wrap_u64' (by omega) | exact wrap_u8' (by omega) | exact wrap_u64m _ | exact IntKind.wrap_u32 _ | exact rfl); exact rfl)
        | (apply ol_quo; exact Rd.of rfl; exact Rd.of rfl; omega; omega; exact rfl)
        | (apply ol_rem; exact Rd.of rfl; exact Rd.of rfl; omega; omega; exact rfl)
        | (apply ol_shr; exact Rd.of rfl; exact Rd.of rfl; omega; omega; (first | (exact sh_32; exact shr_u64_32 _) | (exact sh32_16; exact shr_16 _) | (exact sh32_8; exact shr_8 _) | (exact sh_63; exact shr_u64_63 _) | (exact sh_var (by omega); exact rfl) | (exact rfl; exact rfl)); exact rfl)
        | (apply ol_shl; exact Rd.of rfl; exact Rd.of rfl; omega; (first | (exact sh_32; (first | exact shl_u64_32 (by omega) | exact rfl)) | (exact sh_31; exact rfl) | (exact sh_var (by omega); (first | exact shl_u64_var (by omega) (by omega) | exact rfl)) | (exact sh_varI (by omega); exact shl_u64_var (by omega) (by omega)) | (exact sh32_varI (by omega); exact shl_u32_one (by omega)) | (exact rfl; exact rfl)); exact rfl)
        | (apply ol_bits; (first | exact .inl rfl | exact .inr rfl); exact Rd.of rfl; exact Rd.of rfl; (first | exact or_hi (by omega) (by omega) | exact or_lo' (by omega) (by omega) | exact rfl); exact rfl)
        | (apply ol_conv (τ := τ); exact rfl; exact rfl; exact rfl; exact rfl; exact Rd.of rfl; (first | exact wrap_i64' (by omega) | exact wrap_u64' (by omega) | exact wrap_u32' (by omega) | exact wrap_u8' (by omega) | exact IntKind.wrap_u32 _ | exact wrap_u64m _ | exact IntKind.wrap_u8 _ | exact rfl); exact rfl)
        | (apply ol_convs (τ := τ); exact rfl; exact rfl; exact rfl; exact rfl; exact Rd.of rfl; exact rfl)
        | (apply ol_iaI (τ := τ); exact rfl; exact rfl; exact rfl; exact rfl; exact Rd.of rfl; exact Rd.of rfl; omega; exact idx (by omega) (by omega); exact rfl)
        | (apply ol_iaB (τ := τ); exact rfl; exact rfl; exact rfl; exact rfl; exact Rd.of rfl; exact Rd.of rfl; omega; omega; exact rfl)
        | (apply ol_iaS (τ := τ); exact rfl; exact rfl; exact rfl; exact rfl; exact Rd.of rfl; exact Rd.of rfl; omega; (first | assumption | exact ixs (by omega) (by omega)); exact rfl)
        | (apply ol_index (τ := τ); exact rfl; exact rfl; exact Rd.of rfl; exact Rd.of rfl; omega; exact ixu (by omega) (by omega); exact rfl)
        | (apply ol_cmps; exact rfl; exact Rd.of rfl; exact Rd.of rfl; exact rfl; exact rfl)
        | (apply ol_cat; exact Rd.of rfl; exact Rd.of rfl; ((try simp only [List.length_append, maxLen]); omega); exact rfl)
        | (apply ol_eqb (τ := τ); exact rfl; exact rfl; exact Rd.of rfl; exact Rd.of rfl; exact rfl)
        | (apply ol_neb (τ := τ); exact rfl; exact rfl; exact Rd.of rfl; exact Rd.of rfl; exact rfl)
        | (apply ol_sliceStr (τ := τ); exact rfl; exact rfl; exact Rd.of rfl; (first | exact Bd.none | exact Bd.some (Rd.of rfl) (Int.toNat_of_nonneg (by omega)).symm); (first | exact Bd.none | exact Bd.some (Rd.of rfl) (Int.toNat_of_nonneg (by omega)).symm); omega; omega; exact rfl)
        | (apply ol_sliceB (τ := τ); exact rfl; exact rfl; exact rfl; exact rfl; exact Rd.of rfl; (first | exact Bd.none | exact Bd.some (Rd.of rfl) (Int.toNat_of_nonneg (by omega)).symm); (first | exact Bd.none | exact Bd.some (Rd.of rfl) (Int.toNat_of_nonneg (by omega)).symm); omega; omega; omega; exact rfl)
        | (apply ol_fieldAddrR (τ := τ); exact rfl; exact rfl; exact rfl; exact rfl; exact rfl; exact Rd.of rfl; exact rfl)
        | (apply ol_loadR1 (τ := τ); exact rfl; exact rfl; exact Rd.of rfl; exact rfl)
        | (apply ol_loadRA (τ := τ); exact rfl; exact rfl; exact Rd.of rfl; exact rfl; exact rfl)
        | (apply ol_loadRow (τ := τ); exact rfl; exact rfl; exact Rd.of rfl; exact rfl; exact idxN (by simp; omega); exact rfl)
        | (apply ol_extract; exact Rd.of rfl; exact rfl; exact rfl)
        | (apply ol_field1 (τ := τ); exact rfl; exact rfl; exact rfl; exact rfl; exact rfl; exact Rd.of rfl; exact rfl; exact rfl)
        | (apply ol_fieldA (τ := τ); exact rfl; exact rfl; exact rfl; exact rfl; exact rfl; exact Rd.of rfl; exact rfl; exact rfl)
        | (apply ol_fieldAddr (τ := τ); exact rfl; exact rfl; exact rfl; exact rfl; exact rfl; exact Rd.of rfl; exact rfl)
        | (apply ol_load1 (τ := τ); exact rfl; exact rfl; exact Rd.of rfl; exact rfl; exact rfl; exact rfl)
        | (apply ol_loadA (τ := τ); exact rfl; exact rfl; exact Rd.of rfl; exact rfl; exact rfl; exact rfl)
        | (apply ol_storeRow (τ := τ); exact rfl; exact rfl; exact Rd.of rfl; exact Rd.of rfl; exact rfl; (simp; omega); exact rfl)
        | (apply ol_storeC (τ := τ); exact rfl; exact Rd.of rfl; (first | exact Rd.of rfl | exact Rd.ofT (τ := τ) rfl); exact rfl; exact rfl; exact rfl; exact rfl; exact rfl)
        | (apply ol_box; exact Rd.of rfl; exact rfl; (first | exact .inl rfl | exact .inr rfl); exact rfl)
        | (apply ol_alloc (τ := τ); exact rfl; exact rfl; (first | exact .inl rfl | exact .inr rfl); exact rfl)
        | (apply ol_pick; exact Rd.of rfl; (first | exact .inl ⟨by first | rfl | assumption, Rd.of rfl⟩ | exact .inr ⟨by first | rfl | assumption, Rd.of rfl⟩); exact rfl)
        | (apply ol_not; exact Rd.of rfl; exact rfl)
        | (apply ol_neg; exact Rd.of rfl; (first | exact wrap_i64' (by omega) | exact wrap_u64m _ | exact rfl); exact rfl)
        | (apply ol_sliceI (τ := τ); exact rfl; exact rfl; exact rfl; exact rfl; exact Rd.of rfl; (first | exact Bd.none | exact Bd.some (Rd.of rfl) (Int.toNat_of_nonneg (by omega)).symm); (first | exact Bd.none | exact Bd.some (Rd.of rfl) (Int.toNat_of_nonneg (by omega)).symm); omega; omega; exact rfl)
        | (apply ol_build (τ := τ); exact rfl; exact rfl; exact rfl; exact rfl; exact rfl)
        | (apply ol_buildE (τ := τ); exact rfl; exact rfl; exact rfl; exact rfl; exact rfl)
        | (apply ol_buildESl (τ := τ); exact rfl; exact rfl; exact rfl; exact rfl)
        | (apply ol_buildInts (τ := τ); exact rfl; exact rfl; exact rfl; exact rfl; exact rfl; exact rfl; exact rfl; exact rfl; exact rfl; exact rfl; exact rfl)
        | (apply ol_buildSl (τ := τ); exact rfl; exact rfl; exact rfl; exact rfl; exact rfl; exact rfl; exact rfl; exact rfl; exact rfl)
        | (apply ol_appendNil (τ := τ); exact rfl; exact rfl; exact rfl; exact rfl; exact Rd.of rfl; ((try dsimp only); omega); exact rfl)
      ) : OpLoc P B ops o s rb e := h
theorem lenA {a b : Nat} (h : a ≤ b := by ((try simp only [List.length_set, List.length_replicate, List.length_append, List.length_take, List.length_drop]); omega)) : a ≤ b := h
/-- a run in the order of the text, for a region that draws its order; acc: what was read and written so far -/
inductive DL (P : Program) (B : Base) (ops : Array Oper) : List Oper → St → List RW → (St → Prop) → Prop where
  | nil {s : St} {acc : List RW} {K : St → Prop} (hok : drawOk P ops acc.reverse = true) (hq : K s) : DL P B ops [] s acc K
  | cons {o : Oper} {r : List Oper} {s : St} {rb : List Nat} {e : Eff} {acc : List RW} {K : St → Prop} (h : OpLoc P B ops o s rb e) (hv : e.td.okV s.tm = true) (hr : DL P B ops r (e.app o.dst s) ((rb, e.bw.map (·.1), e.td.id) :: acc) K) : DL P B ops (o :: r) s acc K
theorem DL.chain {l : List Oper} {acc : List RW} (h : DL P B ops l s acc K) : ∃ bs es, Chain P B ops l s bs es ∧ drawOk P ops (acc.reverse ++ bs) = true ∧ K (finalSt l es s) := by
  induction h with
  | nil hok hq => exact ⟨[], [], .nil, by simpa using hok, hq⟩
  | cons h hv hr ih =>
    obtain ⟨bs, es, h1, h2, h3⟩ := ih
    exact ⟨_, _, .cons h hv h1, by simpa using h2, h3⟩
theorem AWP.drawA {id : Nat} (h : DL P B ops ops.toList s [] Q.norm) : AWP P B (.region id ops true) Q s := by
  obtain ⟨bs, es, h1, h2, h3⟩ := h.chain
  exact .draw h1 (by simpa using h2) h3
theorem DL.split {o : Oper} {acc : List RW} {j g : Nat} {b c : Bool} {oj : Oper} (hg : o.guard = some (j, c)) (ho : ops[j]? = some oj) (hd : oj.dst = some g) (hs : s.t g = some (.val (.bool b))) (h1 : b = c → DL P B ops (o :: r) s acc K) (h2 : b = !c → DL P B ops (o :: r) s acc K) : DL P B ops (o :: r) s acc K := by
  by_cases h : b = c
  · exact h1 h
  · exact h2 (by cases b <;> cases c <;> simp at h ⊢)
theorem DL.id {l : List Oper} {acc : List RW} (h : DL P B ops l s acc K) : DL P B ops l s acc K := h
end
end Go.Proofs.YtffcpgebgoineaaDoor.K
