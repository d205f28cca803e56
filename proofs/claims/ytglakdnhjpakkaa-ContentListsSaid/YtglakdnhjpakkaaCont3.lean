/- Content outlines: counts of kids and of codes: plain laws. Nothing of any program stands here. -/
import Derived.Test.YtglakdnhjpakkaaCont2
namespace Go.Proofs.Ytglakdnhjpakkaa.K
open Go
set_option linter.unusedVariables false
set_option linter.unusedSimpArgs false

theorem filter_one {α : Type} {l : List α} {p : α → Bool} {a : α} (hn : l.Nodup) (ha : a ∈ l) (hp : p a = true) (hu : ∀ b ∈ l, p b = true → b = a) : (l.filter p).length = 1 := by
  induction l with
  | nil => cases ha
  | cons b l ih =>
    obtain ⟨h1, h2⟩ := List.nodup_cons.1 hn
    by_cases hb : p b = true
    · have e := hu b (by simp) hb
      subst e
      rw [List.filter_cons_of_pos hb]
      have : l.filter p = [] := List.filter_eq_nil_iff.2 fun x hx hpx => by
        have := hu x (by simp [hx]) hpx
        subst this
        exact h1 hx
      rw [this]; rfl
    · rw [List.filter_cons_of_neg hb]
      refine ih h2 ?_ fun x hx => hu x (by simp [hx])
      rcases List.mem_cons.1 ha with e | h
      · subst e; exact absurd hp hb
      · exact h
theorem kid_iff {T : List (List UInt8 × List UInt8)} {top k : List UInt8} : k ∈ kidsS T top ↔ ∃ t, (k, t) ∈ T ∧ parS k = top := by
  simp only [kidsS, List.mem_map, List.mem_filter, beq_iff_eq]
  constructor
  · rintro ⟨⟨a, t⟩, ⟨h1, h2⟩, rfl⟩; exact ⟨t, h1, h2⟩
  · rintro ⟨t, h1, h2⟩; exact ⟨(k, t), ⟨h1, h2⟩, rfl⟩
theorem kids_nodup {T : List (List UInt8 × List UInt8)} (F : Fine T) (top : List UInt8) : (kidsS T top).Nodup :=
  F.nodup.sublist ((List.filter_sublist).map _)
theorem Fine.code {T : List (List UInt8 × List UInt8)} (F : Fine T) {c : List UInt8} (h : c ∈ T.map (·.1)) : c ≠ [] ∧ (parOK c = true → parS c ∈ T.map (·.1)) := by
  obtain ⟨⟨c', t⟩, h1, rfl⟩ := List.mem_map.1 h
  obtain ⟨i, hi⟩ := List.mem_iff_getElem?.1 h1
  obtain ⟨h2, _, h3⟩ := F.at hi
  refine ⟨valid_ne h2, fun h4 => ?_⟩
  obtain ⟨j, p, _, h5, h6⟩ := h3 h4
  exact List.mem_map.2 ⟨p, List.mem_of_getElem? h5, h6⟩
/-- a kid of a topic: the topic's code, a point, and no further point -/
theorem kid_split {T : List (List UInt8 × List UInt8)} {top k : List UInt8} (ht : top ≠ []) (h : k ∈ kidsS T top) : parOK k = true ∧ ∃ q, k = top ++ 46 :: q ∧ ∀ j : Nat, q[j]? ≠ some 46 := by
  obtain ⟨t, _, h2⟩ := kid_iff.1 h
  cases h3 : parOK k
  · exact absurd ((par_none h3).1.symm.trans h2).symm ht
  · obtain ⟨q, h4, h5⟩ := par_split h3
    rw [h2] at h4
    exact ⟨rfl, q, h4, h5⟩
theorem under_pre {c k : List UInt8} (hk : k ≠ []) (h : underS c k = true) : k <+: c := by
  rcases under_iff.1 h with h | h | h
  · exact absurd h hk
  · rw [h]; exact List.prefix_rfl
  · exact (List.prefix_append k [46]).trans h
theorem kid_less {T : List (List UInt8 × List UInt8)} {top k k' c : List UInt8} (ht : top ≠ []) (h1 : k ∈ kidsS T top) (h2 : k' ∈ kidsS T top) (hc1 : underS c k = true) (hc2 : underS c k' = true) : ¬ k.length < k'.length := fun hlt => by
  obtain ⟨_, q, e1, n1⟩ := kid_split ht h1
  obtain ⟨_, q', e2, n2⟩ := kid_split ht h2
  have hk : k ≠ [] := by rw [e1]; simp
  have hk' : k' ≠ [] := by rw [e2]; simp
  have p2 := under_pre hk' hc2
  have p1 : k ++ [46] <+: c := by
    rcases under_iff.1 hc1 with h | h | h
    · exact absurd h hk
    · subst h; have := p2.length_le; omega
    · exact h
  have p3 : k ++ [46] <+: k' := List.prefix_of_prefix_length_le p1 p2 (by simp; omega)
  obtain ⟨r, hr⟩ := p3
  rw [e1, e2] at hr
  have hr' : q ++ 46 :: r = q' := by simpa using hr
  exact n2 q.length (by rw [← hr']; simp)
theorem kid_unique {T : List (List UInt8 × List UInt8)} {top k k' c : List UInt8} (ht : top ≠ []) (h1 : k ∈ kidsS T top) (h2 : k' ∈ kidsS T top) (hc1 : underS c k = true) (hc2 : underS c k' = true) : k' = k := by
  have l1 := kid_less ht h1 h2 hc1 hc2
  have l2 := kid_less ht h2 h1 hc2 hc1
  obtain ⟨_, q, e1, _⟩ := kid_split ht h1
  obtain ⟨_, q', e2, _⟩ := kid_split ht h2
  have p1 := under_pre (by rw [e1]; simp) hc1
  have p2 := under_pre (by rw [e2]; simp) hc2
  have := List.prefix_of_prefix_length_le p2 p1 (by omega)
  exact this.eq_of_length (by omega)
theorem kid_exists {T : List (List UInt8 × List UInt8)} (F : Fine T) {top : List UInt8} : ∀ (n : Nat) (c : List UInt8), c.length ≤ n → c ∈ T.map (·.1) → top ++ [46] <+: c → ∃ k ∈ kidsS T top, underS c k = true
  | 0, c, hn, _, hp => by have := pre_len hp; omega
  | n + 1, c, hn, hc, hp => by
    obtain ⟨r, hr⟩ := hp
    have h46 : c[top.length]? = some 46 := by rw [← hr]; simp
    have hok : parOK c = true := by
      cases h : parOK c
      · exact absurd h46 ((par_none h).2 _)
      · rfl
    obtain ⟨q, hq, nq⟩ := par_split hok
    have hpar : (parS c) <+: c := ⟨46 :: q, hq.symm⟩
    have hlen : c.length = (parS c).length + (q.length + 1) := by conv => lhs; rw [hq]
                                                                  simp
    have hle : top.length ≤ (parS c).length := by
      refine Nat.le_of_not_lt fun hlt => ?_
      rw [hq, List.getElem?_append_right (by omega)] at h46
      obtain ⟨j, hj⟩ := Nat.exists_eq_add_of_lt hlt
      rw [show top.length - (parS c).length = j + 1 by omega, List.getElem?_cons_succ] at h46
      exact nq j h46
    have htop : top <+: c := ⟨46 :: r, by rw [← hr]; simp⟩
    rcases Nat.lt_or_ge top.length (parS c).length with h | h
    · have h1 : top ++ [46] <+: parS c := List.prefix_of_prefix_length_le ⟨r, hr⟩ hpar (by simp; omega)
      obtain ⟨k, h2, h3⟩ := kid_exists F n (parS c) (by omega) ((F.code hc).2 hok) h1
      exact ⟨k, h2, under_trans (par_under hok) h3⟩
    · have h1 : top = parS c := (List.prefix_of_prefix_length_le htop hpar hle).eq_of_length (by omega)
      obtain ⟨⟨c', t⟩, h2, h3⟩ := List.mem_map.1 hc
      simp only at h3
      subst h3
      exact ⟨c', kid_iff.2 ⟨t, h2, h1.symm⟩, under_refl _⟩
/-- a code of the outline that lies under a topic is the topic, or lies under just one of its kids -/
theorem one_kid {T : List (List UInt8 × List UInt8)} (F : Fine T) {c top : List UInt8} (hc : c ∈ T.map (·.1)) (ht : top ∈ T.map (·.1)) :
    (if underS c top = true then 1 else 0) = (if c = top then 1 else 0) + ((kidsS T top).filter fun k => underS c k).length := by
  have ht0 := (F.code ht).1
  have none : (¬ ∃ k ∈ kidsS T top, underS c k = true) → ((kidsS T top).filter fun k => underS c k) = [] := fun h => List.filter_eq_nil_iff.2 fun k hk hu => h ⟨k, hk, hu⟩
  have up : ∀ k ∈ kidsS T top, underS c k = true → top ++ [46] <+: c := fun k hk hu => by
    obtain ⟨_, q, e, _⟩ := kid_split ht0 hk
    have := under_pre (by rw [e]; simp) hu
    exact (show top ++ [46] <+: k from ⟨q, by rw [e]; simp⟩).trans this
  by_cases h1 : c = top
  · subst h1
    rw [if_pos (under_refl c), if_pos rfl, none]
    · rfl
    · rintro ⟨k, hk, hu⟩
      have := pre_len (up k hk hu)
      omega
  · rw [if_neg h1]
    by_cases h2 : underS c top = true
    · rw [if_pos h2]
      have h3 : top ++ [46] <+: c := (under_iff.1 h2).resolve_left ht0 |>.resolve_left h1
      obtain ⟨k, hk, hu⟩ := kid_exists F c.length c (Nat.le_refl _) hc h3
      rw [filter_one (kids_nodup F top) hk hu fun k' hk' hu' => kid_unique ht0 hk hk' hu hu']
    · rw [if_neg h2, none]
      · rfl
      · rintro ⟨k, hk, hu⟩
        exact h2 (under_iff.2 (.inr (.inr (up k hk hu))))
/-- sums over kids -/
def sumI (l : List Int) : Int := l.foldr (· + ·) 0
theorem sumI_append (a b : List Int) : sumI (a ++ b) = sumI a + sumI b := by
  induction a with
  | nil => simp [sumI]
  | cons x a ih => simp only [sumI, List.cons_append, List.foldr_cons] at ih ⊢; omega
theorem sumI_add {α : Type} (K : List α) (f g : α → Int) : sumI (K.map fun k => f k + g k) = sumI (K.map f) + sumI (K.map g) := by
  induction K with
  | nil => rfl
  | cons k K ih => simp only [sumI, List.map_cons, List.foldr_cons] at ih ⊢; omega
theorem sumI_filter {α : Type} (K : List α) (p : α → Bool) : sumI (K.map fun k => if p k = true then 1 else 0) = (K.filter p).length := by
  induction K with
  | nil => rfl
  | cons k K ih =>
    simp only [sumI, List.map_cons, List.foldr_cons] at ih ⊢
    rw [ih]
    by_cases h : p k = true
    · rw [if_pos h, List.filter_cons_of_pos h]; simp; omega
    · rw [if_neg h, List.filter_cons_of_neg h]; omega
theorem countS_cons (c : List UInt8) (C : List (List UInt8)) (top : List UInt8) : countS (c :: C) top = countS C top + (if underS c top = true then 1 else 0) := by
  simp only [countS]
  by_cases h : underS c top = true
  · rw [if_pos h, List.filter_cons_of_pos (p := fun c => underS c top) h]; simp
  · rw [if_neg h, List.filter_cons_of_neg (p := fun c => underS c top) h]; simp
def eqN (C : List (List UInt8)) (top : List UInt8) : Int := (C.filter fun c => cmpStr .eql c top).length
theorem eqN_snoc (C : List (List UInt8)) (c top : List UInt8) : eqN (C ++ [c]) top = eqN C top + (if cmpStr .eql c top = true then 1 else 0) := by
  simp only [eqN, List.filter_append, List.length_append]
  split
  · rename_i h; simp [h]
  · rename_i h; simp [h]
theorem eqN_bound (C : List (List UInt8)) (top : List UInt8) : 0 ≤ eqN C top ∧ eqN C top ≤ C.length := by
  have := List.length_filter_le (fun c => cmpStr .eql c top) C
  unfold eqN; omega
theorem count_kids {T : List (List UInt8 × List UInt8)} (F : Fine T) {top : List UInt8} (ht : top ∈ T.map (·.1)) : ∀ (C : List (List UInt8)), (∀ c ∈ C, c ∈ T.map (·.1)) → countS C top = eqN C top + sumI ((kidsS T top).map fun k => countS C k)
  | [], _ => by
    have : ∀ K : List (List UInt8), sumI (K.map fun k => countS [] k) = 0 := fun K => by
      induction K with
      | nil => rfl
      | cons k K ih => simp only [sumI, List.map_cons, List.foldr_cons] at ih ⊢; rw [ih]; rfl
    rw [this]; rfl
  | c :: C, h => by
    have h1 := count_kids F ht C fun x hx => h x (by simp [hx])
    have h2 := one_kid F (h c (by simp)) ht
    have h3 : sumI ((kidsS T top).map fun k => countS (c :: C) k) = sumI ((kidsS T top).map fun k => countS C k) + ((kidsS T top).filter fun k => underS c k).length := by
      rw [← sumI_filter, ← sumI_add]
      congr 1
      apply List.map_congr_left
      intro k _
      exact countS_cons c C k
    have h4 : eqN (c :: C) top = eqN C top + (if c = top then 1 else 0) := by
      simp only [eqN]
      by_cases e : c = top
      · rw [if_pos e, List.filter_cons_of_pos (p := fun c => cmpStr .eql c top) (cmp_eql.2 e)]; simp
      · rw [if_neg e, List.filter_cons_of_neg (p := fun c => cmpStr .eql c top) (by rw [cmp_eqlF.2 e]; simp)]; simp
    have h5 : ((if underS c top = true then 1 else 0 : Nat) : Int) = (if underS c top = true then 1 else 0) := by split <;> rfl
    have h6 : ((if c = top then 1 else 0 : Nat) : Int) = (if c = top then 1 else 0) := by split <;> rfl
    rw [countS_cons, h3, h4, h1, ← h5, ← h6]
    omega
/-- each topic is the kid of just one topic, or of the empty code -/
theorem sum_keys {K : List (List UInt8)} (hn : K.Nodup) (x : List UInt8) : sumI (K.map fun k => if x = k then 1 else 0) = if x ∈ K then 1 else 0 := by
  induction K with
  | nil => rfl
  | cons k K ih =>
    obtain ⟨h1, h2⟩ := List.nodup_cons.1 hn
    have := ih h2
    simp only [sumI, List.map_cons, List.foldr_cons] at this ⊢
    rw [this]
    by_cases e : x = k
    · subst e; simp [h1]
    · simp [e]
theorem kids_cons (p : List UInt8 × List UInt8) (U : List (List UInt8 × List UInt8)) (k : List UInt8) : ((kidsS (p :: U) k).length : Int) = (kidsS U k).length + (if parS p.1 = k then 1 else 0) := by
  simp only [kidsS, List.length_map]
  by_cases e : parS p.1 = k
  · rw [if_pos e, List.filter_cons_of_pos (by simpa using e)]; simp
  · rw [if_neg e, List.filter_cons_of_neg (by simpa using e)]; simp
theorem kids_total {K : List (List UInt8)} (hn : K.Nodup) (h0 : ([] : List UInt8) ∉ K) : ∀ (U : List (List UInt8 × List UInt8)), (∀ p ∈ U, parS p.1 = [] ∨ parS p.1 ∈ K) → ((kidsS U []).length : Int) + sumI (K.map fun k => ((kidsS U k).length : Int)) = U.length
  | [], _ => by
    have : ∀ K : List (List UInt8), sumI (K.map fun k => ((kidsS [] k).length : Int)) = 0 := fun K => by
      induction K with
      | nil => rfl
      | cons k K ih => simp only [sumI, List.map_cons, List.foldr_cons] at ih ⊢; rw [ih]; rfl
    rw [this]; rfl
  | p :: U, h => by
    have h1 := kids_total hn h0 U fun q hq => h q (by simp [hq])
    have h2 : sumI (K.map fun k => ((kidsS (p :: U) k).length : Int)) = sumI (K.map fun k => ((kidsS U k).length : Int)) + (if parS p.1 ∈ K then 1 else 0) := by
      rw [← sum_keys hn, ← sumI_add]
      congr 1
      apply List.map_congr_left
      intro k _
      exact kids_cons p U k
    rw [h2, kids_cons, List.length_cons]
    rcases h p (by simp) with h3 | h3
    · rw [if_pos h3, if_neg (by rw [h3]; exact h0)]; omega
    · rw [if_pos h3, if_neg (fun e => h0 (by rw [← e]; exact h3))]; omega
/-- the kids of the empty code and of the first topics -/
def kidN (T : List (List UInt8 × List UInt8)) (i : Nat) : Int := (kidsS T []).length + sumI ((T.take i).map fun p => ((kidsS T p.1).length : Int))
theorem kidN_step {T : List (List UInt8 × List UInt8)} {i : Int} {c t : List UInt8} (h0 : 0 ≤ i) (h : T[i.toNat]? = some (c, t)) : kidN T (i + 1).toNat = kidN T i.toNat + (kidsS T c).length := by
  rw [kidN, take_at h0 h, List.map_append, sumI_append, kidN]
  simp [sumI]; omega
theorem kidN_bound (T : List (List UInt8 × List UInt8)) (i : Nat) : 0 ≤ kidN T i ∧ kidN T i ≤ T.length * (i + 1) := by
  have h1 := kidsS_length T []
  have h2 : ∀ (U : List (List UInt8 × List UInt8)), 0 ≤ sumI (U.map fun p => ((kidsS T p.1).length : Int)) ∧ sumI (U.map fun p => ((kidsS T p.1).length : Int)) ≤ T.length * U.length := fun U => by
    induction U with
    | nil => simp [sumI]
    | cons p U ih =>
      have h3 := kidsS_length T p.1
      simp only [sumI, List.map_cons, List.foldr_cons, List.length_cons] at ih ⊢
      rw [Int.natCast_succ, Int.mul_add, Int.mul_one]
      omega
  have h3 := h2 (T.take i)
  rw [List.length_take] at h3
  have h4 : (T.length : Int) * (min i T.length : Nat) ≤ T.length * i := Int.mul_le_mul_of_nonneg_left (by omega) (by omega)
  rw [kidN, Int.mul_add, Int.mul_one]
  omega
theorem kidN_all {T : List (List UInt8 × List UInt8)} (F : Fine T) : kidN T T.length = T.length := by
  rw [kidN, List.take_length]
  have := kids_total F.nodup (fun h => (F.code h).1 rfl) T fun p hp => by
    cases h : parOK p.1
    · exact .inl (par_none h).1
    · exact .inr ((F.code (List.mem_map.2 ⟨p, hp, rfl⟩)).2 h)
  rw [List.map_map] at this
  exact this
end Go.Proofs.Ytglakdnhjpakkaa.K
