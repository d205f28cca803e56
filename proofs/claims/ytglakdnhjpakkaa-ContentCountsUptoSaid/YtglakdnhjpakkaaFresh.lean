/- Functions that hand back new memory which the caller may write, and functions that write into a row of the caller's own. -/
import Derived.Test.YtglakdnhjpakkaaLoc2
namespace Go.Proofs.Ytglakdnhjpakkaa.K
open Go Go.RowKit
set_option linter.unusedVariables false
set_option linter.unusedSimpArgs false

/-- the call hands back a slice over a new block of its own, which holds these numbers -/
structure EvalsNew (P : Program) (f : FuncId) (ds : List D) (T : Nat) (kk : IntKind) (l : List Int) : Prop where
  ok : CallOK P f
  run : ∀ (R : Nat → Prop) (w : World) (vs : Array Value), (∀ b, R b → b < w.heap.size) → Gam w → HoldsAll R w ds vs → Calls P f vs w fun e w' =>
    ∃ b R', e = .returned (.slice (some ⟨b, 0, none⟩) l.length l.length) ∧ w.heap.size ≤ b ∧ b < w'.heap.size ∧ Below w.heap.size w w' ∧ (∀ c, R c → R' c) ∧ (∀ c, R' c → (R c ∨ w.heap.size ≤ c) ∧ c < w'.heap.size) ∧ ¬ R' b ∧ RowIs R' w' b T (l.map (D.int kk)) ∧ l.length ≤ maxLen

def EndsNew (fn : Func) (T : Nat) (kk : IntKind) (l : List Int) (s : St) : Prop := ∃ t k, fn.results = #[.tmp t] ∧ s.t t = some (.sb k 0 l.length l.length) ∧ s.b k = some (.row T kk l)

theorem init_good {R : Nat → Prop} {w : World} {ds : List D} {vs : Array Value} {N : Nat} (hR : ∀ b, R b → b < w.heap.size) (hgm : Gam w) (hv : HoldsAll R w ds vs) (hn : ds.length ≤ N) :
    Good ⟨w, R, N, fun _ => False⟩ ⟨initTm 0 ds, []⟩ { tmps := vs ++ Array.replicate (N - vs.size) undef, defers := [] } w := by
  refine ⟨R, fun _ => none, ⟨rfl, ?_, fun _ h => h, fun b hb => ⟨.inl hb, hR b hb⟩, BelowX.refl _ _, hgm, fun _ _ h => h, fun k b h => by simp at h, fun k k' b h => by simp at h, fun _ h => h.elim, fun k x h => by simp [St.b, get] at h, ?_⟩⟩
  · have := hv.1; simp; omega
  · intro t x ht
    obtain ⟨i, d, h1, h2, h3⟩ := get_initTm ds 0 t x ht
    subst h3
    have hi : i < vs.size := by
      have := hv.1
      have := (List.getElem?_eq_some_iff.1 h2).1
      omega
    have e : t = i := by omega
    subst e
    refine ⟨vs[t], by simp [Array.getElem?_append, hi], hv.2 t d _ h2 (by simp [hi])⟩

theorem evalsNew_of_awp {P : Program} {f : FuncId} {fn : Func} {c : Code} {ds : List D} {T : Nat} {kk : IntKind} {l : List Int} (hf : P.funcs[f]? = some fn) (hb : fn.body = some c) (ok : CallOK P f) (hn : ds.length ≤ fn.ntmps)
    (h : ∀ w R, (∀ b, R b → b < w.heap.size) → (∃ vs, HoldsAll R w ds vs) → AWP P ⟨w, R, fn.ntmps, fun _ => False⟩ c ⟨EndsNew fn T kk l, fun _ _ => False, EndsNew fn T kk l⟩ ⟨initTm 0 ds, []⟩) : EvalsNew P f ds T kk l := by
  refine ⟨ok, fun R w vs hR hgm hv => calls_of_wp hf hb ?_⟩
  refine wp_mono ((h w R hR ⟨vs, hv⟩).run _ w (init_good hR hgm hv hn)) fun e a' w' hq => ?_
  have key : ∀ s, EndsNew fn T kk l s → Good ⟨w, R, fn.ntmps, fun _ => False⟩ s a' w' → a'.defers = [] ∧ ∃ v, (Go.results fn a'.tmps).run P w' = .ok v w' ∧ ∃ b R', Ending.returned v = .returned (.slice (some ⟨b, 0, none⟩) l.length l.length) ∧ w.heap.size ≤ b ∧ b < w'.heap.size ∧ Below w.heap.size w w' ∧ (∀ c, R c → R' c) ∧ (∀ c, R' c → (R c ∨ w.heap.size ≤ c) ∧ c < w'.heap.size) ∧ ¬ R' b ∧ RowIs R' w' b T (l.map (D.int kk)) ∧ l.length ≤ maxLen := by
    rintro s ⟨t, k, h1, h2, h3⟩ ⟨R', ad, hi⟩
    obtain ⟨v, g1, ⟨b, g2, rfl⟩, g3, g4⟩ := hi.tm t _ h2
    obtain ⟨b', g5, g6⟩ := hi.bx k _ h3
    rw [g2] at g5; cases g5
    have g7 := hi.adn k b g2
    refine ⟨hi.df, _, ?_, b, R', rfl, g7.1.resolve_right (fun h => h), g7.2.1, hi.below.to, hi.R0, hi.Rn, g7.2.2, g6, g4⟩
    unfold Go.results
    simp [h1, g1]
  cases e with
  | normal => obtain ⟨s, h1, h2⟩ := hq; exact key s h1 h2
  | ret => obtain ⟨s, h1, h2⟩ := hq; exact key s h1 h2
  | exit i => obtain ⟨s, h1, h2⟩ := hq; exact h1.elim
  | goto l => exact hq.elim
  | panic c => exact hq.elim
  | outgrown => exact hq.elim

theorem ResOK.cellA {P : Program} {τ : Tys P} {s : St} {t T T' k : Nat} {i : TI} {fs : List (Nat × Nat)} {ds : List D} (hT : get τ.tab T = some i) (hk : i.k = .struct fs) (h : s.t t = some (.pb k 0)) (hb : s.b k = some (.cells T' ds)) (hn : i.size = ds.length) : ResOK P s (.cell t T) (.agg ds) := by
  obtain ⟨h1, I, h2, h3, _⟩ := τ.is hT
  rw [hk] at h1
  obtain ⟨F, h1, _⟩ := h1
  exact .agg (n := i.size) ⟨_, h1, rfl, by rw [h2]; simp [h3]⟩ h hb rfl hn.symm
theorem ResOK.cell1 {P : Program} {τ : Tys P} {s : St} {t T T' k : Nat} {i : TI} {d : D} (hT : get τ.tab T = some i) (hk : i.k.isAgg = some false) (hsz : i.size = 1) (h : s.t t = some (.pb k 0)) (hb : s.b k = some (.cells T' [d])) : ResOK P s (.cell t T) d := by
  obtain ⟨h1, I, h2, h3, _⟩ := τ.is hT
  refine .one ?_ h hb rfl
  generalize i.k = kk at h1 hk
  cases kk <;> simp [TK.isAgg] at hk
  all_goals exact ⟨_, h1, rfl, by rw [h2]; simp [h3, hsz]⟩

theorem AWP.freezeAs {P : Program} {B : Base} {c : Code} {Q : Post} {s : St} (t : Nat) (m : List Int) {k off len cap T : Nat} {kk : IntKind} {l : List Int} (hs : s.t t = some (.sb k off len cap)) (hb : s.b k = some (.row T kk l)) (hx : B.ex = fun _ => False) (hle : off + len ≤ l.length) (hm : (l.drop off).take len = m)
    (h : AWP P B c Q ((s.forget k).setT t (.val (.ints kk m)))) : AWP P B c Q s := by
  subst hm
  exact .freeze t hs hb hle hx h

/-- the call writes into a row of the caller's own: it holds l before and l' behind it -/
structure EvalsW (P : Program) (f : FuncId) (T : Nat) (kk : IntKind) (l : List Int) (off len cap : Nat) (ds : List D) (d : D) (l' : List Int) : Prop where
  ok : CallOK P f
  run : ∀ (R : Nat → Prop) (w : World) (b : Nat) (vs : Array Value), (∀ c, R c → c < w.heap.size) → Gam w → ¬ R b → b < w.heap.size → (∀ p ∈ gamList, p.1 ≠ b) → RowIs R w b T (l.map (D.int kk)) → len ≤ cap → cap ≤ maxLen → HoldsAll R w ds vs →
    Calls P f (#[.slice (some ⟨b, off, none⟩) len cap] ++ vs) w fun e w' =>
      ∃ v R', e = .returned v ∧ BelowX (· = b) w w' ∧ (∀ c, R c → R' c) ∧ (∀ c, R' c → (R c ∨ w.heap.size ≤ c) ∧ c < w'.heap.size) ∧ ¬ R' b ∧ RowIs R' w' b T (l'.map (D.int kk)) ∧ Holds R' w' d v

theorem evalsW_of_awp {P : Program} {f : FuncId} {fn : Func} {c : Code} {T : Nat} {kk : IntKind} {l : List Int} {off len cap : Nat} {ds : List D} {d : D} {l' : List Int} (hf : P.funcs[f]? = some fn) (hb : fn.body = some c) (ok : CallOK P f) (hn : ds.length + 1 ≤ fn.ntmps)
    (h : ∀ w R ex, (∃ vs, HoldsAll R w ds vs) → AWP P ⟨w, R, fn.ntmps, ex⟩ c ⟨fun s => Ends P fn d s ∧ s.b 0 = some (.row T kk l'), fun _ _ => False, fun s => Ends P fn d s ∧ s.b 0 = some (.row T kk l')⟩ ⟨(0, .sb 0 off len cap) :: initTm 1 ds, [(0, .row T kk l)]⟩) : EvalsW P f T kk l off len cap ds d l' := by
  refine ⟨ok, fun R w b vs hR hgm hnR hbw hg hrow hlc hcm hv => calls_of_wp hf hb ?_⟩
  have hvs := hv.1
  have hgood : Good ⟨w, R, fn.ntmps, (· = b)⟩ ⟨(0, .sb 0 off len cap) :: initTm 1 ds, [(0, .row T kk l)]⟩ { tmps := (#[Value.slice (some ⟨b, off, none⟩) len cap] ++ vs) ++ Array.replicate (fn.ntmps - (#[Value.slice (some ⟨b, off, none⟩) len cap] ++ vs).size) undef, defers := [] } w := by
    refine ⟨R, fun k => if k = 0 then some b else none, ⟨rfl, ?_, fun _ h => h, fun c hc => ⟨.inl hc, hR c hc⟩, BelowX.refl _ _, hgm, hg, fun k c h => ?_, fun k k' c h h' => ?_, fun c hc => by rw [hc]; rfl, fun k x h => ?_, fun t x ht => ?_⟩⟩
    · simp; omega
    · split at h
      · cases h; exact ⟨.inr rfl, hbw, hnR⟩
      · cases h
    · split at h
      · split at h'
        · omega
        · cases h'
      · cases h
    · simp only [St.b, get_cons] at h
      split at h
      · rename_i e; cases h; subst e; exact ⟨b, rfl, hrow⟩
      · simp [get] at h
    · simp only [St.t, get_cons] at ht
      split at ht
      · rename_i e
        cases ht; subst e
        refine ⟨.slice (some ⟨b, off, none⟩) len cap, ?_, ⟨b, rfl, rfl⟩, hlc, hcm⟩
        rw [Array.getElem?_append_left (by simp; omega), Array.getElem?_append_left (by simp)]
        rfl
      · obtain ⟨i, dd, h1, h2, h3⟩ := get_initTm ds 1 t x ht
        subst h3
        have hi : i < vs.size := by
          have := (List.getElem?_eq_some_iff.1 h2).1
          omega
        refine ⟨vs[i], ?_, hv.2 i dd _ h2 (by simp [hi])⟩
        rw [Array.getElem?_append_left (by simp; omega), Array.getElem?_append_right (by simp; omega)]
        have : t - #[Value.slice (some ⟨b, off, none⟩) len cap].size = i := by simp; omega
        rw [this]; simp [hi]
  refine wp_mono ((h w R (· = b) ⟨vs, hv⟩).run _ w hgood) fun e a' w' hq => ?_
  have key : ∀ s, Ends P fn d s ∧ s.b 0 = some (.row T kk l') → Good ⟨w, R, fn.ntmps, (· = b)⟩ s a' w' → a'.defers = [] ∧ ∃ v, (Go.results fn a'.tmps).run P w' = .ok v w' ∧ ∃ v' R', Ending.returned v = .returned v' ∧ BelowX (· = b) w w' ∧ (∀ c, R c → R' c) ∧ (∀ c, R' c → (R c ∨ w.heap.size ≤ c) ∧ c < w'.heap.size) ∧ ¬ R' b ∧ RowIs R' w' b T (l'.map (D.int kk)) ∧ Holds R' w' d v' := by
    rintro s ⟨⟨ds', hra, rfl⟩, h2⟩ ⟨R', ad, hi⟩
    obtain ⟨v, hr, hh⟩ := hra.results hi
    obtain ⟨b', g5, g6⟩ := hi.bx 0 _ h2
    have g7 := hi.ax b rfl
    rw [g7] at g5; cases g5
    exact ⟨hi.df, v, hr, v, R', rfl, hi.below, hi.R0, hi.Rn, (hi.adn 0 b g7).2.2, g6, hh⟩
  cases e with
  | normal => obtain ⟨s, h1, h2⟩ := hq; exact key s h1 h2
  | ret => obtain ⟨s, h1, h2⟩ := hq; exact key s h1 h2
  | exit i => obtain ⟨s, h1, h2⟩ := hq; exact h1.elim
  | goto l => exact hq.elim
  | panic c => exact hq.elim
  | outgrown => exact hq.elim

section
variable {P : Program} {τ : Tys P} {B : Base} {s : St} {d : Nat} {ty : TypeId} {pos : String} {af : Array Edge} {gd : Option (Nat × Bool)}

theorem op_evNew {f : FuncId} {args : Array Operand} {ats : Array TypeId} {ds : List D} {T : Nat} {kk : IntKind} {l : List Int} (hx : τ.rdAll s args.toList ats.toList = some ds) {n : Nat} (he : EvalsNew P f ds T kk l) (hn : l.length = n) (hid : noId d s.tm = true) (hd0 : Nat.blt 0 d = true) (hN : Nat.blt d B.N = true) :
    OpDo P B ⟨some d, .call ⟨.value (.func f), args, ats⟩, ty, pos, af, gd⟩ s ((s.setB d (.row T kk l)).setT d (.sb d 0 n n)) := .mk fun a w ⟨R, ad, hi⟩ K Q hk => by
  subst hn
  have e0 : (args.toList.map a.eval).toArray = args.map a.eval := by apply Array.ext' ; simp
  have hrun : (execOp a.eval ⟨some d, .call ⟨.value (.func f), args, ats⟩, ty, pos, af, gd⟩).run P w = .ok (.enter f (args.map a.eval)) w := by
    have := he.ok (args.map a.eval) w
    simp [execOp, resolve, invoke, Act.eval, Deferred.ofValue]
    simpa using this
  have hv := (RdAll.of hx).holds hi
  rw [e0] at hv
  simp only [Oper.wp, hrun, Oper.upon]
  refine (he.run R w _ (fun b hb => (hi.Rn b hb).2) hi.gam hv).mono ?_
  rintro e' w' ⟨b, R', rfl, hbw, hbw', hb, hR, hR', hnR, hrow, hlen⟩
  have hg := hi.grow hb hR hR'
  refine hk _ _ ⟨R', adSet ad d b, Inv.put ?_ hN ⟨⟨b, by simp [adSet], rfl⟩, Nat.le_refl _, hlen⟩⟩
  refine ⟨hg.df, hg.sz, hg.R0, hg.Rn, hg.below, hg.gm, hg.gx, ?_, ?_, fun c hc => by simp only [adSet]; rw [if_neg (by intro h0; rw [← h0] at hd0; cases hd0)]; exact hg.ax c hc, ?_, ?_⟩
  · intro k c hk
    simp only [adSet] at hk
    split at hk
    · cases hk
      exact ⟨.inl (Nat.le_trans hi.below.size hbw), hbw', hnR⟩
    · exact hg.adn k c hk
  · intro k k' c hk hk'
    simp only [adSet] at hk hk'
    split at hk <;> split at hk'
    · omega
    · cases hk; have := (hi.adn k' _ hk').2.1; omega
    · cases hk'; have := (hi.adn k _ hk).2.1; omega
    · exact hi.adi k k' c hk hk'
  · intro k y hy
    rw [St.b_setB] at hy
    by_cases e : d = k
    · subst e
      rw [if_pos rfl] at hy
      cases hy
      exact ⟨b, by simp [adSet], hrow⟩
    · rw [if_neg e] at hy
      obtain ⟨c, h1, h2⟩ := hg.bx k y hy
      exact ⟨c, by simp [adSet, h1]; intro e'; exact absurd e'.symm e, h2⟩
  · intro t' y' ht'
    obtain ⟨v', h1, h2⟩ := hg.tm t' y' ht'
    exact ⟨v', h1, h2.ad (noId_spec hid (by simpa [St.t, St.setB] using ht'))⟩

theorem op_evW {f : FuncId} {t : Nat} {args : Array Operand} {T0 : TypeId} {ats : List TypeId} {xs : List Operand} {k off len cap T : Nat} {kk : IntKind} {l l' : List Int} {ds : List D} {e : D} {tys : Array TypeId} (ha : args.toList = .tmp t :: xs) (hts : tys.toList = T0 :: ats) (hs : s.t t = some (.sb k off len cap)) (hb : s.b k = some (.row T kk l)) (hx : τ.rdAll s xs ats = some ds)
    (he : EvalsW P f T kk l off len cap ds e l') (hnv : noVec k s.tm = true) (hN : Nat.blt d B.N = true) :
    OpDo P B ⟨some d, .call ⟨.value (.func f), args, tys⟩, ty, pos, af, gd⟩ s ((s.setB k (.row T kk l')).setT d (.val e)) := .mk fun a w ⟨R, ad, hi⟩ K Q hk => by
  obtain ⟨v0, g1, ⟨b, g2, rfl⟩, g3, g4⟩ := hi.tm t _ hs
  obtain ⟨b', g5, g6⟩ := hi.bx k _ hb
  rw [g2] at g5; cases g5
  have hadn := hi.adn k b g2
  have e0 : args.map a.eval = #[Value.slice (some ⟨b, off, none⟩) len cap] ++ (xs.map a.eval).toArray := by
    apply Array.ext'
    simp [ha, Act.eval, g1]
  have hrun : (execOp a.eval ⟨some d, .call ⟨.value (.func f), args, tys⟩, ty, pos, af, gd⟩).run P w = .ok (.enter f (args.map a.eval)) w := by
    have := he.ok (args.map a.eval) w
    simp [execOp, resolve, invoke, Act.eval, Deferred.ofValue]
    simpa using this
  have hv := (RdAll.of hx).holds hi
  have hgb : ∀ p ∈ gamList, p.1 ≠ b := fun p hp hpb => by
    obtain ⟨_, _, h9⟩ := hi.gm p hp
    have h10 : p.1 < B.w0.heap.size := (Array.getElem?_eq_some_iff.1 h9).1
    rcases hadn.1 with h11 | h11
    · omega
    · exact hi.gx p hp (hpb ▸ h11)
  simp only [Oper.wp, hrun, Oper.upon, e0]
  refine (he.run R w b _ (fun b hb => (hi.Rn b hb).2) hi.gam hadn.2.2 hadn.2.1 hgb g6 g3 g4 hv).mono ?_
  rintro e' w' ⟨v, R', rfl, hbel, hR, hR', hnR, hrow, hh⟩
  have hRs : ∀ c, R c → w'.heap[c]? = w.heap[c]? := fun c hc => hbel.block c (hi.Rn c hc).2 (fun e => hadn.2.2 (e ▸ hc))
  have hads : ∀ j c, j ≠ k → ad j = some c → w'.heap[c]? = w.heap[c]? := fun j c hne hj => hbel.block c (hi.adn j c hj).2.1 (fun e => hne (hi.adi j k c hj (e ▸ g2)))
  refine hk _ _ ⟨R', ad, Inv.put ?_ hN hh⟩
  refine ⟨hi.df, hi.sz, fun c hc => hR c (hi.R0 c hc), ?_, ?_, hi.gm, hi.gx, ?_, hi.adi, hi.ax, ?_, ?_⟩
  · intro c hc
    obtain ⟨h1, h2⟩ := hR' c hc
    refine ⟨?_, h2⟩
    rcases h1 with h1 | h1
    · exact (hi.Rn c h1).1
    · exact .inr (Nat.le_trans hi.below.size h1)
  · refine ⟨hbel.os.trans hi.below.os, hbel.tape.trans hi.below.tape, hbel.output.trans hi.below.output, Nat.le_trans hi.below.size hbel.size, fun c hc hx => ?_⟩
    rw [hbel.block c (Nat.lt_of_lt_of_le hc hi.below.size) ?_]
    · exact hi.below.block c hc hx
    · intro e
      rw [e] at hc hx
      rcases hadn.1 with h1 | h1
      · omega
      · exact hx h1
  · intro j c hj
    obtain ⟨h1, h2, h3⟩ := hi.adn j c hj
    refine ⟨h1, Nat.lt_of_lt_of_le h2 hbel.size, fun hr => ?_⟩
    rcases (hR' c hr).1 with h4 | h4
    · exact h3 h4
    · omega
  · intro j y hy
    rw [St.b_setB] at hy
    by_cases e : k = j
    · subst e
      rw [if_pos rfl] at hy
      cases hy
      exact ⟨b, g2, hrow⟩
    · rw [if_neg e] at hy
      obtain ⟨c, h1, h2⟩ := hi.bx j y hy
      exact ⟨c, h1, h2.world hR hRs (hads j c (fun h => e h.symm) h1)⟩
  · intro u y hy
    obtain ⟨v', h1, h2⟩ := hi.tm u y hy
    refine ⟨v', h1, ?_⟩
    cases y with
    | val d => exact Holds.mono h2 hR hRs
    | pb k off => exact h2
    | sb k off len cap => exact h2
    | un => trivial
    | vec j T z m =>
      have hne : j ≠ k := noVec_spec hnv (by simpa [St.t, St.setB] using hy)
      rcases h2 with h2 | ⟨c, cap, q1, q2, cs', q3, q4, q5, q6, q7, q8⟩
      · exact .inl h2
      · exact .inr ⟨c, cap, q1, q2, cs', by rw [hads j c hne q1, q3], q4, q5, q6, q7, fun i ds j d v a1 a2 a3 => (q8 i ds j d v a1 a2 a3).mono hR hRs⟩

theorem sb_holds {R : Nat → Prop} {ad : Nat → Option Nat} {a : Act} {w : World} (h : Inv B R ad s a w) {t k off len cap T : Nat} {kk : IntKind} {l : List Int} (hs : s.t t = some (.sb k off len cap)) (hb : s.b k = some (.row T kk l)) (hle : off + len ≤ l.length) :
    ∃ b v, ad k = some b ∧ a.tmps[t]? = some v ∧ Holds (fun c => R c ∨ c = b) w (.ints kk ((l.drop off).take len)) v := by
  obtain ⟨b, h1, cs, h2, h3, h4⟩ := h.bx k _ hb
  obtain ⟨v, g1, ⟨c, g2, rfl⟩, g3, g4⟩ := h.tm t _ hs
  rw [h1] at g2; cases g2
  refine ⟨b, _, h1, g1, ?_⟩
  have hds : (Bx.row T kk l).ds = l.map (D.int kk) := rfl
  rw [hds] at h3 h4
  simp only [List.length_map] at h3
  have hlen : ((l.drop off).take len).length = len := by simp; omega
  have hcell : ∀ j, (hj : j < l.length) → cs[j]? = some (.int kk l[j]) ∧ InR kk l[j] := fun j hj => by
    have g5 := h4 j (.int kk l[j]) cs[j] (by simp [hj]) (by simp [h3, hj])
    have e : cs[j]? = some cs[j] := by simp [h3, hj]
    generalize cs[j] = u at g5 e
    cases g5
    exact ⟨e, by assumption⟩
  conv => arg 4; rw [← hlen]
  refine .ints kk _ b off cap (.inr rfl) (by rw [hlen]; exact g3) (by rw [hlen]; omega) (fun x hx => ?_) (fun j hj => ?_)
  · obtain ⟨j, hj, rfl⟩ := List.mem_iff_getElem.1 hx
    have hj' : off + j < l.length := by simp at hj; omega
    simpa using (hcell (off + j) hj').2
  · have hj' : off + j < l.length := by simp at hj; omega
    rw [cells_of_row h2, (hcell (off + j) hj').1]
    simp

def scalar : D → Bool
  | .int _ _ | .bool _ | .str _ => true
  | _ => false
theorem scalar_holds {R R' : Nat → Prop} {w w' : World} {d : D} {v : Value} (hs : scalar d = true) (h : Holds R w d v) : Holds R' w' d v := by
  cases h <;> simp [scalar] at hs
  · exact .int _ _ (by assumption)
  · exact .bool _
  · exact .str _ (by assumption)

/-- a row of the call's own, lent to a function that hands back a number or a truth value -/
theorem op_lend {f : FuncId} {t : Nat} {args : Array Operand} {T0 : TypeId} {ats : List TypeId} {xs : List Operand} {k off len cap T : Nat} {kk : IntKind} {l : List Int} {ds : List D} {e : D} {tys : Array TypeId} (ha : args.toList = .tmp t :: xs) (hts : tys.toList = T0 :: ats) (hs : s.t t = some (.sb k off len cap)) (hb : s.b k = some (.row T kk l)) (hle : off + len ≤ l.length) (hx : τ.rdAll s xs ats = some ds)
    (he : Evals P f (.ints kk ((l.drop off).take len) :: ds) e) (hsc : scalar e = true) (hN : Nat.blt d B.N = true) :
    OpDo P B ⟨some d, .call ⟨.value (.func f), args, tys⟩, ty, pos, af, gd⟩ s (s.setT d (.val e)) := .mk fun a w ⟨R, ad, hi⟩ K Q hk => by
  obtain ⟨b, v0, g1, g2, g3⟩ := sb_holds hi hs hb hle
  have hadn := hi.adn k b g1
  have e0 : args.map a.eval = ((.tmp t :: xs).map a.eval).toArray := by
    apply Array.ext'
    simp [ha]
  have hrun : (execOp a.eval ⟨some d, .call ⟨.value (.func f), args, tys⟩, ty, pos, af, gd⟩).run P w = .ok (.enter f (args.map a.eval)) w := by
    have := he.ok (args.map a.eval) w
    simp [execOp, resolve, invoke, Act.eval, Deferred.ofValue]
    simpa using this
  have hv := (RdAll.of hx).holds hi
  have hall : HoldsAll (fun c => R c ∨ c = b) w (.ints kk ((l.drop off).take len) :: ds) (args.map a.eval) := by
    rw [e0]
    refine ⟨by simpa using hv.1, fun i d v hd hvv => ?_⟩
    cases i with
    | zero =>
      simp [Act.eval, g2] at hd hvv
      subst hd hvv
      exact g3
    | succ i => exact (hv.2 i d v (by simpa using hd) (by simpa using hvv)).mono (fun _ h => .inl h) (fun _ _ => rfl)
  simp only [Oper.wp, hrun, Oper.upon]
  refine (he.run _ w _ (fun c hc => ?_) hi.gam hall).mono ?_
  · rcases hc with hc | rfl
    · exact (hi.Rn c hc).2
    · exact hadn.2.1
  · rintro e' w' ⟨v, R', rfl, hbel, hR, hR', hh⟩
    refine hk _ _ ⟨R, ad, (hi.grow hbel (fun _ h => h) (fun c hc => ⟨.inl hc, Nat.lt_of_lt_of_le (hi.Rn c hc).2 hbel.size⟩)).put hN ?_⟩
    exact scalar_holds hsc hh
end
end Go.Proofs.Ytglakdnhjpakkaa.K
