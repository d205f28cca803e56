/- Functions whose result lies in new memory alone, memory that nothing else reads; writing there. -/
import Derived.Test.YtpolinoaefdobaaDoorVec
namespace Go.Proofs.YtpolinoaefdobaaDoor.K
open Go Go.RowKit
set_option linter.unusedVariables false
set_option linter.unusedSimpArgs false

/-- the call hands back a datum that reads through new blocks alone -/
structure EvalsN (P : Program) (f : FuncId) (ds : List D) (d : D) : Prop where
  ok : CallOK P f
  run : ∀ (R : Nat → Prop) (w : World) (vs : Array Value), (∀ b, R b → b < w.heap.size) → Gam w → HoldsAll R w ds vs → Calls P f vs w fun e w' =>
    ∃ v Rn, e = .returned v ∧ Below w.heap.size w w' ∧ (∀ b, Rn b → (w.heap.size ≤ b ∧ Unf w' b) ∧ b < w'.heap.size) ∧ Holds Rn w' d v
theorem EvalsN.to {P : Program} {f : FuncId} {ds : List D} {d : D} (h : EvalsN P f ds d) : Evals P f ds d :=
  ⟨h.ok, fun R w vs hR hg hv => (h.run R w vs hR hg hv).mono fun e w' ⟨v, Rn, h1, h2, h3, h4⟩ =>
    ⟨v, fun b => R b ∨ Rn b, h1, h2, fun _ h => .inl h, fun b hb => by
      rcases hb with hb | hb
      · exact ⟨.inl hb, Nat.lt_of_lt_of_le (hR b hb) h2.size⟩
      · exact ⟨.inr (h3 b hb).1, (h3 b hb).2⟩, h4.mono (fun _ h => .inr h) (fun _ _ => rfl)⟩⟩

theorem evalsN_of_awp {P : Program} {f : FuncId} {fn : Func} {c : Code} {ds : List D} {d : D} (hf : P.funcs[f]? = some fn) (hb : fn.body = some c) (ok : CallOK P f) (hn : ds.length ≤ fn.ntmps)
    (h : ∀ w R, (∀ b, R b → b < w.heap.size) → (∃ vs, HoldsAll R w ds vs) → AWP P ⟨w, R, fn.ntmps, fun _ => False, fun _ => False⟩ c ⟨fun _ => False, fun _ _ => False, Ends P fn d⟩ ⟨initTm 0 ds, []⟩) : EvalsN P f ds d := by
  refine ⟨ok, fun R w vs hR hgm hv => calls_of_wp hf hb ?_⟩
  obtain ⟨R0, ad0, hi0⟩ := init_good (N := fn.ntmps) hR hgm hv hn
  have hg : Good ⟨w, R, fn.ntmps, fun _ => False, fun _ => False⟩ ⟨initTm 0 ds, []⟩ { tmps := vs ++ Array.replicate (fn.ntmps - vs.size) undef, defers := [] } w :=
    ⟨R0, ad0, hi0.df, hi0.sz, hi0.R0, hi0.Rn, hi0.below, hi0.gm, hi0.gx, hi0.adn, hi0.adi, hi0.ax, hi0.bx, hi0.tm⟩
  refine wp_mono ((h w R hR ⟨vs, hv⟩).run _ w hg) fun e a' w' hq => ?_
  cases e with
  | normal => obtain ⟨s, h1, h2⟩ := hq; exact h1.elim
  | ret =>
    obtain ⟨s, ⟨ds', hra, rfl⟩, R', ad, hi⟩ := hq
    obtain ⟨v, hr, hh⟩ := hra.results hi
    exact ⟨hi.df, v, hr, v, R', rfl, hi.below.to, fun b hb => ⟨(hi.Rn b hb).1.resolve_left (fun h => h), (hi.Rn b hb).2⟩, hh⟩
  | exit i => obtain ⟨s, h1, h2⟩ := hq; exact h1.elim
  | goto l => exact hq.elim
  | panic c => exact hq.elim
  | outgrown => exact hq.elim

/-- from here on only what is new is read -/
def Base.new (B : Base) : Base := ⟨B.w0, fun _ => False, B.N, B.ex, B.R1⟩
instance {w : World} {R ex : Nat → Prop} {N : Nat} : RetB (Base.new ⟨w, R, N, ex, fun _ => False⟩) := ⟨rfl⟩
def D.sc : D → Bool
  | .int _ _ | .bool _ | .str _ => true
  | _ => false
inductive KD : D → D → Prop where
  | sc {d : D} (h : d.sc = true) : KD d d
  | any {d : D} (h : d.isOne = true) : KD d .any
inductive KDs : List D → List D → Prop where
  | nil : KDs [] []
  | cons {d e : D} {ds es : List D} (h : KD d e) (hs : KDs ds es) : KDs (d :: ds) (e :: es)
theorem one_of {v : Value} (h : v.oneCell' = true) : one v = true := by cases v <;> first | rfl | cases h
theorem KD.holds {R R' : Nat → Prop} {w w' : World} {d e : D} {v : Value} (h : KD d e) (hh : Holds R w d v) : Holds R' w' e v := by
  cases h with
  | sc h =>
    cases hh <;> simp [D.sc] at h
    · exact .int _ _ (by assumption)
    · exact .bool _
    · exact .str _ (by assumption)
  | any h => exact .any v (one_of (hh.oneCell h))
theorem KDs.len {ds es : List D} (h : KDs ds es) : es.length = ds.length := by
  induction h with
  | nil => rfl
  | cons h hs ih => simp [ih]
theorem KDs.get {ds es : List D} (h : KDs ds es) : ∀ (i : Nat) (e : D), es[i]? = some e → ∃ d, ds[i]? = some d ∧ KD d e := by
  induction h with
  | nil => intro i e h; simp at h
  | @cons d e ds es h hs ih =>
    intro i e' he
    cases i with
    | zero => simp at he; subst he; exact ⟨d, rfl, h⟩
    | succ i => simpa using ih i e' (by simpa using he)
inductive KT (n : Nat) : Option TD → TD → Prop where
  | nv {d : D} : KT n (some (.nv n d)) (.val d)
  | sc {d : D} (h : d.sc = true) : KT n (some (.val d)) (.val d)
  | pb {k off : Nat} : KT n (some (.pb k off)) (.pb k off)
  | sb {k off len cap : Nat} : KT n (some (.sb k off len cap)) (.sb k off len cap)
inductive KB : Option Bx → Bx → Prop where
  | row {T : Nat} {k : IntKind} {l : List Int} : KB (some (.row T k l)) (.row T k l)
  | cells {T : Nat} {ds es : List D} (h : KDs ds es) : KB (some (.cells T ds)) (.cells T es)
/-- what is kept of s when the old memory is no longer read -/
structure KLe (n : Nat) (s' s : St) : Prop where
  t : ∀ p ∈ s'.tm, KT n (s.t p.1) p.2
  b : ∀ p ∈ s'.bx, KB (s.b p.1) p.2
theorem Inv.new {B : Base} {R : Nat → Prop} {ad : Nat → Option Nat} {s s' : St} {a : Act} {w : World} (h : Inv B R ad s a w) (hB : ∀ b, B.R0 b → b < B.w0.heap.size) (hk : KLe B.w0.heap.size s' s) :
    Inv B.new (fun b => R b ∧ B.w0.heap.size ≤ b) ad s' a w := by
  refine ⟨h.df, h.sz, fun b hb => hb.elim, fun b hb => ⟨.inr ?_, (h.Rn b hb.1).2⟩, h.below, h.gm, h.gx, fun k b hk => ⟨(h.adn k b hk).1, (h.adn k b hk).2.1, fun hr => (h.adn k b hk).2.2 hr.1⟩, h.adi, h.ax, fun k x hx => ?_, fun t x hx => ?_⟩
  · rcases (h.Rn b hb.1).1 with h1 | h1
    · have := hB b h1; omega
    · exact h1
  · have hm := hk.b _ (get_mem hx)
    dsimp only at hm
    generalize hsb : s.b k = o at hm
    cases hm with
    | row =>
      obtain ⟨b, h1, cs, h2, h3, h4⟩ := h.bx k _ hsb
      refine ⟨b, h1, cs, h2, h3, fun i d v a1 a2 => ?_⟩
      have h5 := h4 i d v a1 a2
      simp only [Bx.ds, List.getElem?_map, Option.map_eq_some_iff] at a1
      obtain ⟨n, _, rfl⟩ := a1
      exact KD.holds (.sc rfl) h5
    | cells hd =>
      obtain ⟨b, h1, cs, h2, h3, h4⟩ := h.bx k _ hsb
      refine ⟨b, h1, cs, h2, h3.trans hd.len.symm, fun i d v a1 a2 => ?_⟩
      obtain ⟨e, a3, a4⟩ := hd.get i d a1
      exact a4.holds (h4 i e v a3 a2)
  · have hm := hk.t _ (get_mem hx)
    dsimp only at hm
    generalize hst : s.t t = o at hm
    cases hm with
    | nv =>
      obtain ⟨v, h1, h2⟩ := h.tm t _ hst
      exact ⟨v, h1, h2⟩
    | sc hd =>
      obtain ⟨v, h1, h2⟩ := h.tm t _ hst
      exact ⟨v, h1, KD.holds (.sc hd) h2⟩
    | pb => exact h.tm t _ hst
    | sb => exact h.tm t _ hst
theorem AWP.outNew {P : Program} {B : Base} {c : Code} {Q : Post} {s : St} (h : AWP P B.new c ⟨fun _ => False, fun _ _ => False, Q.ret⟩ s) {a : Act} {w : World} (hg : Good B.new s a w) : c.wp P (Q.at B) a w := by
  refine wp_mono (h.run a w hg) fun e a' w' hq => ?_
  cases e with
  | normal => obtain ⟨s, h1, h2⟩ := hq; exact h1.elim
  | ret => exact hq
  | exit i => obtain ⟨s, h1, h2⟩ := hq; exact h1.elim
  | goto l => exact hq.elim
  | panic c => exact hq.elim
  | outgrown => exact hq.elim
theorem AWP.toNew {P : Program} {B : Base} {c : Code} {Q : Post} {s : St} (s' : St) (hB : ∀ b, B.R0 b → b < B.w0.heap.size) (hk : KLe B.w0.heap.size s' s) (h : AWP P B.new c ⟨fun _ => False, fun _ _ => False, Q.ret⟩ s') : AWP P B c Q s := .mk fun a w ⟨R, ad, hi⟩ =>
  h.outNew ⟨_, ad, hi.new hB hk⟩

/-- a loop's end: the walk stops there -/
inductive Hold (p : Prop) : Prop where
  | mk (h : p)
theorem AWP.seqLoop {P : Program} {B : Base} {id : Nat} {r c y : Code} {Q : Post} {s : St} (h : AWP P B (.seq r (.block id (.loop c))) ⟨fun s => Hold (AWP P B y Q s), Q.exit, Q.ret⟩ s) : AWP P B (.seq (.seq r (.block id (.loop c))) y) Q s :=
  .seq ⟨fun a w hg => wp_mono (h.run a w hg) fun e a' w' hq => by
    cases e with
    | normal => obtain ⟨s, ⟨h1⟩, h2⟩ := hq; exact ⟨s, h1, h2⟩
    | exit i => exact hq
    | ret => exact hq
    | goto l => exact hq.elim
    | panic c => exact hq.elim
    | outgrown => exact hq.elim⟩

theorem AWP.stop {P : Program} {B : Base} {id : Nat} {ops : Array Oper} {b : Bool} {y : Code} {Q : Post} {s : St} (h : Hold (AWP P B (.seq (.region id ops b) y) Q s)) : AWP P B (.seq (.region id ops b) y) Q s := by cases h; assumption

/-- the operations of a region in two parts -/
theorem wpOps_two {P : Program} {B : Base} {ops : Array Oper} {K : St → Prop} {Q : Exit → Act → World → Prop} {m : Nat} : ∀ (l : List Oper) (n : Nat) (s : St) (a : Act) (w : World), (ops.toList.drop n).take l.length = l → RunL P B ops l K s → Good B s a w →
    (∀ s' a' w', K s' → Good B s' a' w' → wpOps P ops Q (List.range' (n + l.length) m) a' w') → wpOps P ops Q (List.range' n (l.length + m)) a w := by
  intro l
  induction l with
  | nil => intro n s a w _ h hg hk; cases h with | nil h => simpa using hk s a w h hg
  | cons o r ih =>
    intro n s a w hl h hg hk
    cases h with
    | @cons _ _ _ _ s' ho hr =>
      have hn : ops[n]? = some o := by
        have := congrArg (·[0]?) hl
        simpa using this
      have hl' : (ops.toList.drop (n + 1)).take r.length = r := by
        rw [← List.drop_drop]
        have := congrArg (List.drop 1) hl
        simpa [List.drop_take] using this
      rw [show (o :: r).length + m = (r.length + m) + 1 by simp; omega]
      simp only [List.range'_succ, wpOps, hn]
      have := ho a w hg (wpOps P ops Q (List.range' (n + 1) (r.length + m))) Q fun a' w' hg' => ih (n + 1) s' a' w' hl' hr hg' fun s2 a2 w2 k2 g2 => by
        have := hk s2 a2 w2 k2 g2
        rwa [show n + (o :: r).length = n + 1 + r.length by simp; omega] at this
      split
      · rename_i hw
        rw [if_pos hw] at this
        exact .inl this
      · rename_i hw
        rw [if_neg hw] at this
        exact this
theorem AWP.regionNew {P : Program} {B : Base} {id : Nat} {ops : Array Oper} {y : Code} {Q : Post} {s : St} (n : Nat) (s' : St) (l1 l2 : List Oper) (h1 : ops.toList.take n = l1) (h2 : ops.toList.drop n = l2) (hB : ∀ b, B.R0 b → b < B.w0.heap.size)
    (h : RunL P B ops l1 (fun s1 => KLe B.w0.heap.size s' s1 ∧ RunL P B.new ops l2 (fun s => AWP P B.new y ⟨fun _ => False, fun _ _ => False, Q.ret⟩ s) s') s) : AWP P B (.seq (.region id ops false) y) Q s := .mk fun a w hg => by
  refine wp_seq (wp_region ?_)
  have hlen : ops.toList.length = l1.length + l2.length := by rw [← List.take_append_drop n ops.toList, h1, h2]; simp
  have hsz : ops.size = l1.length + l2.length := by simpa using hlen
  have hl1 : (ops.toList.drop 0).take l1.length = l1 := by
    rw [List.drop_zero, ← h1, List.length_take, ← List.take_eq_take_min]
  have hl2 : ops.toList.drop (0 + l1.length) = l2 := by
    by_cases hn : n ≤ ops.toList.length
    · rw [← h1]; simp only [List.length_take, Nat.zero_add]; rw [Nat.min_eq_left hn]; exact h2
    · rw [← h1, ← h2]; simp only [List.length_take, Nat.zero_add]; rw [List.drop_eq_nil_of_le (by omega), List.drop_eq_nil_of_le (by omega)]
  rw [List.range_eq_range', hsz]
  refine wpOps_two l1 0 s a w hl1 h hg ?_
  rintro s1 a1 w1 ⟨hk, hr⟩ ⟨R, ad, hi⟩
  have := wpOps_two (m := 0) (Q := Exit.then (y.wp P (Q.at B)) (Q.at B)) l2 (0 + l1.length) s' a1 w1 (by rw [hl2]; simp) hr ⟨_, ad, hi.new hB hk⟩ fun s2 a2 w2 k2 g2 => by
    show y.wp P (Q.at B) a2 w2
    exact AWP.outNew k2 g2
  simpa using this

section
variable {P : Program} {τ : Tys P} {B : Base} {s : St} {d : Nat} {ty : TypeId} {pos : String} {af : Array Edge} {gd : Option (Nat × Bool)}
theorem op_evN {f : FuncId} {args : Array Operand} {ats : Array TypeId} {ds : List D} {e : D} (hx : τ.rdAll s args.toList ats.toList = some ds) (he : EvalsN P f ds e) (hN : Nat.blt d B.N = true) :
    OpDo P B ⟨some d, .call ⟨.value (.func f), args, ats⟩, ty, pos, af, gd⟩ s (s.setT d (.nv B.w0.heap.size e)) := .mk fun a w ⟨R, ad, hi⟩ K Q hk => by
  have e0 : (args.toList.map a.eval).toArray = args.map a.eval := by apply Array.ext' ; simp
  have hrun : (execOp a.eval ⟨some d, .call ⟨.value (.func f), args, ats⟩, ty, pos, af, gd⟩).run P w = .ok (.enter f (args.map a.eval)) w := by
    have := he.ok (args.map a.eval) w
    simp [execOp, resolve, invoke, Act.eval, Deferred.ofValue]
    simpa using this
  have hv := (RdAll.of hx).holds hi
  rw [e0] at hv
  simp only [Oper.wp, hrun, Oper.upon]
  refine (he.run R w _ (fun b hb => (hi.Rn b hb).2) hi.gam hv).mono ?_
  rintro e' w' ⟨v, Rn, rfl, hb, hRn, hh⟩
  refine hk _ _ ⟨fun b => R b ∨ Rn b, ad, (hi.grow hb (fun _ h => .inl h) (fun b hb' => ?_)).put hN (hh.mono (fun b h => ⟨.inr h, Nat.le_trans hi.below.size (hRn b h).1.1⟩) (fun _ _ => rfl))⟩
  rcases hb' with hb' | hb'
  · exact ⟨.inl hb', Nat.lt_of_lt_of_le (hi.Rn b hb').2 hb.size⟩
  · exact ⟨.inr (hRn b hb').1, (hRn b hb').2⟩
theorem op_extractNS {x : Operand} {n m : Nat} {ds : List D} {e : D} (hx : Rd s x (.nv m (.tup ds))) (he : ds[n]? = some e) (hs : e.sc = true) (hN : Nat.blt d B.N = true) : OpDo P B ⟨some d, .extract x n, ty, pos, af, gd⟩ s (s.setT d (.val e)) :=
  .pure hN fun R ad a w hi => by
    have h := hx.holds hi
    simp only [HoldsT] at h
    generalize hv : a.eval x = v at h
    cases h with
    | tup ds cs hs' hh =>
      have hl : n < cs.size := by rw [hs']; exact (List.getElem?_eq_some_iff.1 he).1
      exact ⟨cs[n], by simp [execOp, Instr.extract, hv, hl], KD.holds (.sc hs) (hh n e cs[n] he (by simp [hl]))⟩
theorem op_extractN {x : Operand} {n m : Nat} {ds : List D} {e : D} (hx : Rd s x (.nv m (.tup ds))) (he : ds[n]? = some e) (hN : Nat.blt d B.N = true) : OpDo P B ⟨some d, .extract x n, ty, pos, af, gd⟩ s (s.setT d (.nv m e)) :=
  .pure hN fun R ad a w hi => by
    have h := hx.holds hi
    simp only [HoldsT] at h
    generalize hv : a.eval x = v at h
    cases h with
    | tup ds cs hs hh =>
      have hl : n < cs.size := by rw [hs]; exact (List.getElem?_eq_some_iff.1 he).1
      exact ⟨cs[n], by simp [execOp, Instr.extract, hv, hl], hh n e _ he (by simp [hl])⟩
end

theorem sb_holds1 {B : Base} {R : Nat → Prop} {ad : Nat → Option Nat} {s : St} {a : Act} {w : World} (h : Inv B R ad s a w) {t k off len cap T : Nat} {kk : IntKind} {l : List Int} (hs : s.t t = some (.sb k off len cap)) (hb : s.b k = some (.row T kk l)) (hle : off + len ≤ l.length) :
    ∃ b v, ad k = some b ∧ Unf w b ∧ a.tmps[t]? = some v ∧ Holds (fun c => c = b) w (.ints kk ((l.drop off).take len)) v := by
  obtain ⟨b, h1, cs, h2, h3, h4⟩ := h.bx k _ hb
  obtain ⟨v, g1, ⟨c, g2, rfl⟩, g3, g4⟩ := h.tm t _ hs
  rw [h1] at g2; cases g2
  refine ⟨b, _, h1, ⟨_, _, h2⟩, g1, ?_⟩
  have hds : (Bx.row T kk l).ds = l.map (D.int kk) := rfl
  rw [hds] at h3 h4
  simp only [List.length_map] at h3
  have hlen : ((l.drop off).take len).length = len := by simp; omega
  have hcell : ∀ j, (hj : j < l.length) → cs[j]? = some (.int kk l[j]) ∧ InR kk l[j] := fun j hj => by
    have g5 := h4 j (.int kk l[j]) cs[j] (by simp [hj]) (by simp [h3, hj])
    have e : cs[j]? = some cs[j] := by simp [h3, hj]
    generalize cs[j] = u at g5 e
    cases g5
    exact ⟨e, by assumption⟩
  conv => arg 4; rw [← hlen]
  refine .ints kk _ b off cap rfl (by rw [hlen]; exact g3) (by rw [hlen]; omega) (fun x hx => ?_) (fun j hj => ?_)
  · obtain ⟨j, hj, rfl⟩ := List.mem_iff_getElem.1 hx
    have hj' : off + j < l.length := by simp at hj; omega
    simpa using (hcell (off + j) hj').2
  · have hj' : off + j < l.length := by simp at hj; omega
    rw [cells_of_row h2, (hcell (off + j) hj').1]
    simp
theorem Inv.freezeN {B : Base} {R : Nat → Prop} {ad : Nat → Option Nat} {s : St} {a : Act} {w : World} (h : Inv B R ad s a w) {t k off len cap T : Nat} {kk : IntKind} {l : List Int} (hs : s.t t = some (.sb k off len cap)) (hb : s.b k = some (.row T kk l)) (hle : off + len ≤ l.length) (hx : B.ex = fun _ => False) :
    Good B ((s.forget k).setT t (.nv B.w0.heap.size (.ints kk ((l.drop off).take len)))) a w := by
  obtain ⟨b, v, g1, g2, g3, g4⟩ := sb_holds1 h hs hb hle
  have hg := h.adn k b g1
  have hg1 : B.w0.heap.size ≤ b := by
    rcases hg.1 with h9 | h9
    · exact h9
    · rw [hx] at h9; exact h9.elim
  have h1 := h.reown (k := k) (o := none) (grownBy_refl w _) (fun b hb => by cases hb) (.inr hx)
  have h7 := h1.addR (g := b) hg1 g2 hg.2.1 (fun j hj => by
    split at hj
    · cases hj
    · rename_i e; exact e (h.adi j k b hj g1))
  exact ⟨_, _, h7.know g3 (g4.mono (fun c hc => ⟨.inr hc, hc ▸ hg1⟩) (fun _ _ => rfl))⟩
theorem AWP.freezeN {P : Program} {B : Base} {c : Code} {Q : Post} {s : St} (t : Nat) (m : List Int) {k off len cap T : Nat} {kk : IntKind} {l : List Int} (hs : s.t t = some (.sb k off len cap)) (hb : s.b k = some (.row T kk l)) (hx : B.ex = fun _ => False) (hle : off + len ≤ l.length) (hm : (l.drop off).take len = m)
    (h : AWP P B c Q ((s.forget k).setT t (.nv B.w0.heap.size (.ints kk m)))) : AWP P B c Q s := by
  subst hm
  exact ⟨fun a w ⟨R, ad, hi⟩ => h.run a w (hi.freezeN hs hb hle hx)⟩

section
variable {P : Program} {τ : Tys P} {B : Base} {s : St} {d : Nat} {ty : TypeId} {pos : String} {af : Array Edge} {gd : Option (Nat × Bool)}
/-- append(nil, l...): a copy, new -/
theorem op_appendNilN {T e : Nat} {x : Operand} {k : IntKind} {l : List Int} {i j : TI} (hT : get τ.tab T = some i) (hk : i.k = .slice e) (he : get τ.tab e = some j) (hz : j.size = 1) (hx : Rd s x (.val (.ints k l))) (hl : l.length * j.bytes ≤ 281474976710656) (hN : Nat.blt d B.N = true) :
    OpDo P B ⟨some d, .call ⟨.builtin .append, #[.const (.slice none 0 0), x], #[T, T]⟩, ty, pos, af, gd⟩ s (s.setT d (.nv B.w0.heap.size (.ints k l))) :=
  .value fun R ad a w hi => by
    have h := hx.holds hi
    have hu := Tys.slice hT hk
    obtain ⟨_, I, h1, h2, h3, z, h4, h5, h6⟩ := τ.is he
    have hcn : a.eval (.const (.slice none 0 0)) = .slice none 0 0 := rfl
    have nilcase : ∀ v : Value, a.eval x = v → (v = .slice none 0 0 ∨ ∃ a c, v = .slice (some a) 0 c) → l = [] → ∃ v w', (execOp a.eval ⟨some d, .call ⟨.builtin .append, #[.const (.slice none 0 0), x], #[T, T]⟩, ty, pos, af, gd⟩).run P w = .ok (.value v) w' ∧ Good B (s.setT d (.nv B.w0.heap.size (.ints k l))) (a.put (some d) v) w' := by
      intro v hv hcase hl0
      subst hl0
      refine ⟨.slice none 0 0, w, ?_, R, ad, hi.put hN (Holds.intsNil k)⟩
      rcases hcase with rfl | ⟨p, c, rfl⟩ <;>
        simp [execOp, resolve, invoke, builtin, Builtin.append_, hv, hcn, run_underlying hu, sizeOf, typeInfo, h1, Builtin.lenOf, Builtin.firstCells, loadCells, loadCellsFrom]
    simp only [HoldsT] at h
    generalize hv : a.eval x = v at h
    cases h with
    | intsNil => exact nilcase _ hv (.inl rfl) rfl
    | intsE => exact nilcase _ hv (.inr ⟨_, _, rfl⟩) rfl
    | ints k l b off cap hR hcap hmax hr hc =>
      by_cases h0 : l.length = 0
      · exact nilcase _ hv (.inr ⟨_, _, by rw [h0]⟩) (List.eq_nil_of_length_eq_zero h0)
      · simp only [maxLen] at hmax
        have hrun := run_append_nil (P := P) w T ty e I z hu h1 h4 ⟨b, off, none⟩ l.length cap (l.map (Value.int k)) (by simp [h2, hz]) (fun n v hn => by
          rw [add_lit]
          simp at hn
          obtain ⟨y, hy, rfl⟩ := hn
          obtain ⟨hlt, hg⟩ := List.getElem?_eq_some_iff.1 hy
          rw [hc n hlt, hg]) (by omega) (by omega) (by rw [h3]; exact hl)
        have hge := grownCap_ge w l.length 0 e
        let o : Obj := .cells ((l.map (Value.int k)).toArray ++ Builtin.zeroCells z.cells (grownCap w l.length 0 e - l.length)) e
        have hb : Below w.heap.size w (w.drew.alloc o) := ((Below.refl _ _).drew).alloc (by simp) _
        refine ⟨.slice (some ⟨w.heap.size, 0, none⟩) l.length (grownCap w l.length 0 e), w.drew.alloc o, by simp [execOp, resolve, invoke, builtin, hv, hcn, hrun, o], fun c => R c ∨ c = w.heap.size, ad, ?_⟩
        refine (hi.grow hb (fun _ h => .inl h) ?_).put hN ?_
        · rintro c (hc' | rfl)
          · exact ⟨.inl hc', by have := (hi.Rn c hc').2; simp; omega⟩
          · exact ⟨.inr ⟨Nat.le_refl _, _, _, heap_alloc_new w.drew o⟩, by simp⟩
        · refine Holds.ints k l _ 0 _ ⟨.inr rfl, hi.below.size⟩ hge (by simp only [maxLen]; omega) hr fun n hn => ?_
          have hnew : (w.drew.alloc o).heap[w.heap.size]? = some o := heap_alloc_new w.drew o
          rw [cells_of_row hnew]
          rw [Array.getElem?_append_left (by simpa using hn)]
          simp [hn]
/-- a nil slice, assigned -/
theorem op_assignNilN {k : IntKind} (hx : τ.rdT s ty (.const (.slice none 0 0)) = some (.val (.ints k []))) (hN : Nat.blt d B.N = true) : OpDo P B ⟨some d, .assign (.const (.slice none 0 0)), ty, pos, af, gd⟩ s (s.setT d (.nv B.w0.heap.size (.ints k []))) :=
  .pure hN fun R ad a w hi => ⟨_, rfl, Holds.intsNil k⟩
/-- a call that reads what is new alone -/
theorem evN_core {f : FuncId} {args : Array Operand} {ats : Array TypeId} {ds : List D} {e : D} (he : Evals P f ds e) (hN : Nat.blt d B.N = true)
    (hall : ∀ R ad a w, Inv B R ad s a w → HoldsAll (fun b => R b ∧ B.w0.heap.size ≤ b) w ds (args.map a.eval)) :
    OpDo P B ⟨some d, .call ⟨.value (.func f), args, ats⟩, ty, pos, af, gd⟩ s (s.setT d (.nv B.w0.heap.size e)) := .mk fun a w ⟨R, ad, hi⟩ K Q hk => by
  have hrun : (execOp a.eval ⟨some d, .call ⟨.value (.func f), args, ats⟩, ty, pos, af, gd⟩).run P w = .ok (.enter f (args.map a.eval)) w := by
    have := he.ok (args.map a.eval) w
    simp [execOp, resolve, invoke, Act.eval, Deferred.ofValue]
    simpa using this
  simp only [Oper.wp, hrun, Oper.upon]
  refine (he.run _ w _ (fun b hb => (hi.Rn b hb.1).2) hi.gam (hall R ad a w hi)).mono ?_
  rintro e' w' ⟨v, R', rfl, hb, hR, hR', hh⟩
  refine hk _ _ ⟨fun b => R b ∨ R' b, ad, (hi.grow hb (fun _ h => .inl h) (fun b hb' => ?_)).put hN (hh.mono (fun b h => ⟨.inr h, ?_⟩) (fun _ _ => rfl))⟩
  · rcases hb' with hb' | hb'
    · exact ⟨.inl hb', Nat.lt_of_lt_of_le (hi.Rn b hb').2 hb.size⟩
    · exact ⟨(hR' b hb').1.imp (fun h => h.1) (fun h => h), (hR' b hb').2⟩
  · rcases (hR' b h).1 with h1 | h1
    · exact h1.2
    · exact Nat.le_trans hi.below.size h1.1
theorem holdsAll1 {R : Nat → Prop} {w : World} {d : D} {v : Value} (h : Holds R w d v) : HoldsAll R w [d] #[v] := ⟨rfl, fun i e u h1 h2 => by
  cases i with
  | zero => simp at h1 h2; subst h1 h2; exact h
  | succ i => simp at h1⟩
theorem op_ev1N {f : FuncId} {x : Operand} {ats : Array TypeId} {d1 e : D} (hx : Rd s x (.nv B.w0.heap.size d1)) (he : Evals P f [d1] e) (hN : Nat.blt d B.N = true) :
    OpDo P B ⟨some d, .call ⟨.value (.func f), #[x], ats⟩, ty, pos, af, gd⟩ s (s.setT d (.nv B.w0.heap.size e)) := evN_core he hN fun R ad a w hi => by rw [show Array.map a.eval #[x] = #[a.eval x] by simp]; exact holdsAll1 (hx.holds hi)
theorem op_ev1S {f : FuncId} {x : Operand} {ats : Array TypeId} {d1 e : D} (hx : Rd s x (.val d1)) (hs : d1.sc = true) (he : Evals P f [d1] e) (hN : Nat.blt d B.N = true) :
    OpDo P B ⟨some d, .call ⟨.value (.func f), #[x], ats⟩, ty, pos, af, gd⟩ s (s.setT d (.nv B.w0.heap.size e)) := evN_core he hN fun R ad a w hi => by rw [show Array.map a.eval #[x] = #[a.eval x] by simp]; exact holdsAll1 (KD.holds (.sc hs) (hx.holds hi))
/-- a row of the call's own, handed to a function that reads it: from then on new data -/
theorem RunL.handN {ops : Array Oper} {r : List Oper} {K : St → Prop} {t f : Nat} {ats : Array TypeId} {k off len cap T : Nat} {kk : IntKind} {l : List Int} (hs : s.t t = some (.sb k off len cap)) (hb : s.b k = some (.row T kk l)) (hle : off + len ≤ l.length) (hx : B.ex = fun _ => False)
    (h : RunL P B ops (⟨some d, .call ⟨.value (.func f), #[.tmp t], ats⟩, ty, pos, af, gd⟩ :: r) K ((s.forget k).setT t (.nv B.w0.heap.size (.ints kk ((l.drop off).take len))))) : RunL P B ops (⟨some d, .call ⟨.value (.func f), #[.tmp t], ats⟩, ty, pos, af, gd⟩ :: r) K s := by
  cases h with
  | cons h1 h2 => exact .cons (fun a w ⟨R, ad, hi⟩ KK QQ hk => h1 a w (hi.freezeN hs hb hle hx) KK QQ hk) h2
end
end Go.Proofs.YtpolinoaefdobaaDoor.K
namespace Go.Proofs.YtpolinoaefdobaaDoor.K
open Go Go.RowKit
set_option linter.unusedVariables false
set_option linter.unusedSimpArgs false

theorem Holds.raw_inv {R : Nat → Prop} {w : World} {v u : Value} (h : Holds R w (.raw v) u) : u = v := by cases h; rfl
theorem Rd.raw_inv {B : Base} {R : Nat → Prop} {ad : Nat → Option Nat} {s : St} {a : Act} {w : World} {x : Operand} {v : Value} (hi : Inv B R ad s a w) (h : Rd s x (.val (.raw v))) : a.eval x = v := Holds.raw_inv (h.holds hi)

/-- memory number k is this block -/
theorem Inv.addPin {B : Base} {R : Nat → Prop} {ad : Nat → Option Nat} {s : St} {a : Act} {w : World} (h : Inv B R ad s a w) {t k b m : Nat} {cs : Array Value} {T : Nat} (hid : noId k s.tm = true) (hbk : s.b k = none) (hx : B.ex = fun _ => False) (ht : Nat.blt t B.N = true)
    (hb0 : B.w0.heap.size ≤ b) (hb1 : b < w.heap.size) (hR : ¬ R b) (hn : ∀ j, ad j ≠ some b) (hc : w.heap[b]? = some (.cells cs T (0, 0))) (hm : m ≤ cs.size) :
    Inv B R (adSet ad k b) (s.setT t (.pin k b m)) a w := by
  have h1 : Inv B R (adSet ad k b) s a w := by
    refine ⟨h.df, h.sz, h.R0, h.Rn, h.below, h.gm, h.gx, fun j c hj => ?_, fun j j' c hj hj' => ?_, fun c hc => by rw [hx] at hc; exact hc.elim, fun j x hj => ?_, fun u x hu => ?_⟩
    · simp only [adSet] at hj
      split at hj
      · cases hj; exact ⟨.inl hb0, hb1, hR⟩
      · exact h.adn j c hj
    · simp only [adSet] at hj hj'
      split at hj <;> split at hj'
      · omega
      · cases hj; exact absurd hj' (hn _)
      · cases hj'; exact absurd hj (hn _)
      · exact h.adi j j' c hj hj'
    · obtain ⟨c, g1, g2⟩ := h.bx j x hj
      refine ⟨c, ?_, g2⟩
      have : j ≠ k := fun e => by rw [e, hbk] at hj; cases hj
      simp [adSet, this, g1]
    · obtain ⟨v, g1, g2⟩ := h.tm u x hu
      exact ⟨v, g1, g2.ad (noId_spec hid hu)⟩
  have hl : t < a.tmps.size := by rw [h.sz]; exact Nat.le_of_ble_eq_true ht
  exact h1.know (v := a.tmps[t]) (by simp [hl]) ⟨by simp [adSet], cs, T, hc, hm⟩

/-- a slice of numbers out of new blocks: it has none, or it lies in one block that may be written -/
theorem newInts {Rn : Nat → Prop} {w w' : World} {kk : IntKind} {l : List Int} {v : Value} (hRn : ∀ b, Rn b → (w.heap.size ≤ b ∧ Unf w' b) ∧ b < w'.heap.size) (h : Holds Rn w' (.ints kk l) v) :
    (l.length = 0 ∧ ∃ x c, v = .slice x 0 c) ∨ (0 < l.length ∧ ∃ b off cap cs T, v = .slice (some ⟨b, off, none⟩) l.length cap ∧ w.heap.size ≤ b ∧ b < w'.heap.size ∧ w'.heap[b]? = some (.cells cs T (0, 0)) ∧ off + l.length ≤ cs.size) := by
  cases h with
  | intsNil => exact .inl ⟨rfl, _, _, rfl⟩
  | intsE => exact .inl ⟨rfl, _, _, rfl⟩
  | ints k l b off cap hR hcap hmax hr hc =>
    by_cases h0 : l.length = 0
    · exact .inl ⟨h0, _, _, by rw [h0]⟩
    · obtain ⟨⟨h1, cs, T, h2⟩, h3⟩ := hRn b hR
      refine .inr ⟨by omega, b, off, cap, cs, T, rfl, h1, h3, h2, ?_⟩
      have := hc (l.length - 1) (by omega)
      rw [cells_of_row h2] at this
      have := (Array.getElem?_eq_some_iff.1 this).1
      omega

/-- one operation, with a choice of what is known behind it -/
def OpE (P : Program) (B : Base) (o : Oper) (s : St) (S : St → Prop) : Prop :=
  ∀ a w, Good B s a w → ∀ (K : Act → World → Prop) (Q : Exit → Act → World → Prop), (∀ s' a' w', S s' → Good B s' a' w' → K a' w') → o.wp P a w K Q
theorem AWP.regionE {P : Program} {B : Base} {id : Nat} {ops : Array Oper} {Q : Post} {s : St} (n : Nat) (l1 l2 : List Oper) (o : Oper) (S : St → St → Prop) (h1 : ops.toList.take n = l1) (h2 : ops.toList.drop n = o :: l2) (hg : o.guard = none)
    (h : RunL P B ops l1 (fun s1 => OpE P B o s1 (S s1) ∧ ∀ s2, S s1 s2 → RunL P B ops l2 Q.norm s2) s) : AWP P B (.region id ops false) Q s := .mk fun a w hgd => by
  refine wp_region ?_
  have hlen : ops.toList.length = l1.length + (l2.length + 1) := by rw [← List.take_append_drop n ops.toList, h1, h2]; simp
  have hsz : ops.size = l1.length + (l2.length + 1) := by simpa using hlen
  have hl1 : (ops.toList.drop 0).take l1.length = l1 := by
    rw [List.drop_zero, ← h1, List.length_take, ← List.take_eq_take_min]
  have hl2 : ops.toList.drop (0 + l1.length) = o :: l2 := by
    have hn : n ≤ ops.toList.length := by
      by_cases hn : n ≤ ops.toList.length
      · exact hn
      · rw [List.drop_eq_nil_of_le (by omega)] at h2; cases h2
    rw [← h1]; simp only [List.length_take, Nat.zero_add]; rw [Nat.min_eq_left hn]; exact h2
  rw [List.range_eq_range', hsz]
  refine wpOps_two l1 0 s a w hl1 h hgd ?_
  rintro s1 a1 w1 ⟨hE, hr⟩ hg1
  have ho : ops[0 + l1.length]? = some o := by
    have := congrArg (·[0]?) hl2
    simpa using this
  have hl3 : ops.toList.drop (0 + l1.length + 1) = l2 := by rw [← List.drop_drop, hl2]; simp
  simp only [List.range'_succ, wpOps, ho]
  have hw : Region.wanted o (yielded ops a1.tmps) = true := by simp [Region.wanted, hg]
  rw [if_pos hw]
  exact .inl (hE a1 w1 hg1 _ _ fun s2 a2 w2 hs hg2 => wpOps_of_runL l2 _ s2 a2 w2 hl3 (hr s2 hs) hg2)

/-- what is known behind a call that hands back a new fraction -/
inductive RawS (s : St) (d t1 t2 k1 k2 : Nat) (e : Bool) (n m : Nat) : St → Prop where
  | two {b1 o1 c1 b2 o2 c2 : Nat} (hn : 0 < n) (hm : 0 < m) : RawS s d t1 t2 k1 k2 e n m (((s.setT t1 (.pin k1 b1 (o1 + n))).setT t2 (.pin k2 b2 (o2 + m))).setT d (.val (.agg [.bool e, .raw (.slice (some ⟨b1, o1, none⟩) n c1), .raw (.slice (some ⟨b2, o2, none⟩) m c2)])))
  | one {b o1 c1 o2 c2 M : Nat} (hn : 0 < n) (hm : 0 < m) (h1 : o1 + n ≤ M) (h2 : o2 + m ≤ M) : RawS s d t1 t2 k1 k2 e n m ((s.setT t1 (.pin k1 b M)).setT d (.val (.agg [.bool e, .raw (.slice (some ⟨b, o1, none⟩) n c1), .raw (.slice (some ⟨b, o2, none⟩) m c2)])))
  | zero {x : Option Addr} {c1 b2 o2 c2 : Nat} (hn : n = 0) (hm : 0 < m) : RawS s d t1 t2 k1 k2 e n m ((s.setT t2 (.pin k2 b2 (o2 + m))).setT d (.val (.agg [.bool e, .raw (.slice x 0 c1), .raw (.slice (some ⟨b2, o2, none⟩) m c2)])))

section
variable {P : Program} {τ : Tys P} {B : Base} {s : St} {d : Nat} {ty : TypeId} {pos : String} {af : Array Edge} {gd : Option (Nat × Bool)}
theorem op_evRaw {f : FuncId} {args : Array Operand} {ats : Array TypeId} {ds : List D} {e : Bool} {l m : List Int} (t1 t2 k1 k2 : Nat) (hx : τ.rdAll s args.toList ats.toList = some ds) (he : EvalsN P f ds (.agg [.bool e, .ints .u32 l, .ints .u32 m])) (hm : 0 < m.length) (hN : Nat.blt d B.N = true) (ht1 : Nat.blt t1 B.N = true) (ht2 : Nat.blt t2 B.N = true) (hex : B.ex = fun _ => False)
    (hk1 : noId k1 s.tm = true) (hk2 : noId k2 s.tm = true) (hb1 : s.b k1 = none) (hb2 : s.b k2 = none) (hk : Nat.beq k1 k2 = false) :
    OpE P B ⟨some d, .call ⟨.value (.func f), args, ats⟩, ty, pos, af, gd⟩ s (RawS s d t1 t2 k1 k2 e l.length m.length) := fun a w ⟨R, ad, hi⟩ K Q hkk => by
  have e0 : (args.toList.map a.eval).toArray = args.map a.eval := by apply Array.ext' ; simp
  have hrun : (execOp a.eval ⟨some d, .call ⟨.value (.func f), args, ats⟩, ty, pos, af, gd⟩).run P w = .ok (.enter f (args.map a.eval)) w := by
    have := he.ok (args.map a.eval) w
    simp [execOp, resolve, invoke, Act.eval, Deferred.ofValue]
    simpa using this
  have hv := (RdAll.of hx).holds hi
  rw [e0] at hv
  simp only [Oper.wp, hrun, Oper.upon]
  refine (he.run R w _ (fun b hb => (hi.Rn b hb).2) hi.gam hv).mono ?_
  rintro e' w' ⟨v, Rn, rfl, hb, hRn, hh⟩
  have hg := hi.grow hb (fun _ h => h) (fun b hb' => ⟨.inl hb', Nat.lt_of_lt_of_le (hi.Rn b hb').2 hb.size⟩)
  have hold : ∀ b, w.heap.size ≤ b → ¬ R b := fun b h1 h2 => by have := (hi.Rn b h2).2; omega
  have hadn : ∀ b, w.heap.size ≤ b → ∀ j, ad j ≠ some b := fun b h1 j h2 => by have := (hi.adn j b h2).2.1; omega
  have hw0 : ∀ b, w.heap.size ≤ b → B.w0.heap.size ≤ b := fun b h => Nat.le_trans hi.below.size h
  cases hh with
  | agg _ cs hs hh =>
    have hsz : cs.size = 3 := by simpa using hs
    have h0 := hh 0 _ cs[0] rfl (by simp [hsz])
    have h1 := newInts hRn (hh 1 _ cs[1] rfl (by simp [hsz]))
    have h2 := newInts hRn (hh 2 _ cs[2] rfl (by simp [hsz]))
    have hcs : ∀ (x y z : Value), cs[0] = x → cs[1] = y → cs[2] = z → cs = #[x, y, z] := fun x y z a1 a2 a3 => by
      apply Array.ext
      · simp [hsz]
      · intro i b1 b2
        have : i = 0 ∨ i = 1 ∨ i = 2 := by simp at b2; omega
        rcases this with rfl | rfl | rfl
        · exact a1
        · exact a2
        · exact a3
    have hold3 : ∀ (y z : Value), one y = true → one z = true → cs[1] = y → cs[2] = z → ∀ w'' R'', Holds R'' w'' (.agg [.bool e, .raw y, .raw z]) (.agg cs) := fun y z o1 o2 a1 a2 w'' R'' => by
      refine .agg _ _ hs fun i dd u b1 b2 => ?_
      match i with
      | 0 =>
        simp [hsz] at b1 b2; subst b1 b2
        exact KD.holds (.sc rfl) h0
      | 1 => simp [hsz, a1] at b1 b2; subst b1 b2; exact .raw _ o1
      | 2 => simp [hsz, a2] at b1 b2; subst b1 b2; exact .raw _ o2
      | i + 3 => simp at b1
    rcases h2 with ⟨h2, _⟩ | ⟨_, b2, o2, c2, cs2, T2, v2, g1, g2, g3, g4⟩
    · omega
    rcases h1 with ⟨h1, x, c1, v1⟩ | ⟨hl0, b1, o1, c1, cs1, T1, v1, f1, f2, f3, f4⟩
    · rw [h1] at hkk
      refine hkk _ _ _ (.zero rfl hm) ⟨R, _, Inv.put (hg.addPin (t := t2) (k := k2) (b := b2) hk2 hb2 hex ht2 (hw0 _ g1) g2 (hold _ g1) (hadn _ g1) g3 g4) hN (hold3 _ _ rfl rfl v1 v2 _ _)⟩
    · by_cases hbb : b1 = b2
      · subst hbb
        rw [f3] at g3; cases g3
        refine hkk _ _ _ (.one hl0 hm f4 g4) ⟨R, _, Inv.put (hg.addPin (t := t1) (k := k1) (b := b1) hk1 hb1 hex ht1 (hw0 _ f1) f2 (hold _ f1) (hadn _ f1) f3 (Nat.le_refl _)) hN (hold3 _ _ rfl rfl v1 v2 _ _)⟩
      · refine hkk _ _ _ (.two hl0 hm) ⟨R, _, Inv.put ((hg.addPin (t := t1) (k := k1) (b := b1) hk1 hb1 hex ht1 (hw0 _ f1) f2 (hold _ f1) (hadn _ f1) f3 f4).addPin (t := t2) (k := k2) (b := b2) ?_ hb2 hex ht2 (hw0 _ g1) g2 (hold _ g1) (fun j hj => ?_) g3 g4) hN (hold3 _ _ rfl rfl v1 v2 _ _)⟩
        · simp only [St.setT, noId, TD.has, hk, Bool.not_false, Bool.true_and]; exact hk2
        · simp only [adSet] at hj
          split at hj
          · cases hj; exact hbb rfl
          · exact hadn _ g1 j hj

theorem op_lenRaw {T : TypeId} {x : Operand} {i : TI} {e : Nat} {p : Option Addr} {n cap : Nat} (hT : get τ.tab T = some i) (hk : i.k = .slice e) (hx : Rd s x (.val (.raw (.slice p n cap)))) (hm : n ≤ maxLen) (hN : Nat.blt d B.N = true) : OpDo P B ⟨some d, .call ⟨.builtin .len, #[x], #[T]⟩, ty, pos, af, gd⟩ s (s.setT d (.val (.int .i64 n))) :=
  .pure hN fun R ad a w hi => by
    have hu := Tys.slice hT hk
    have hv := hx.raw_inv hi
    exact ⟨.int .i64 n, by simp [execOp, resolve, invoke, builtin, Builtin.len_, hv, run_underlying hu, goInt], .int _ _ (by simp only [maxLen] at hm; simp [InR, IntKind.min, IntKind.max, IntKind.bits, IntKind.signed]; omega)⟩
theorem op_iaRaw {T e : Nat} {x y : Operand} {kk : IntKind} {b off n cap : Nat} {m : Int} {i j : TI} (hT : get τ.tab T = some i) (hk : i.k = .slice e) (he : get τ.tab e = some j) (hz : j.size = 1) (hx : Rd s x (.val (.raw (.slice (some ⟨b, off, none⟩) n cap)))) (hy : Rd s y (.val (.int kk m))) (h0 : 0 ≤ m) (hlt : m < n) (hN : Nat.blt d B.N = true) :
    OpDo P B ⟨some d, .indexAddr T x y, ty, pos, af, gd⟩ s (s.setT d (.val (.raw (.pointer (some ⟨b, off + m.toNat, none⟩))))) :=
  .pure hN fun R ad a w hi => by
    have hu := Tys.slice hT hk
    have hv := hx.raw_inv hi
    exact ⟨.pointer (some ⟨b, off + m.toNat, none⟩), by simp [execOp, Instr.indexAt, hv, (hy.int_inv hi).1, asIntOf, run_underlying hu, h0, hlt, Tys.size he, hz, add_lit], .raw _ rfl⟩

/-- nothing but that it is pinned is known of memory number k -/
def onlyPin (k : Nat) : List (Nat × TD) → Bool
  | [] => true
  | (_, x) :: r => (match x with | .pin .. => true | x => !(x.vof k)) && onlyPin k r
theorem onlyPin_spec {k : Nat} {l : List (Nat × TD)} (h : onlyPin k l = true) {t : Nat} {x : TD} (hx : get l t = some x) : (∃ j b m, x = .pin j b m) ∨ x.vof k = false := by
  induction l with
  | nil => simp [get] at hx
  | cons p r ih =>
    obtain ⟨pk, pv⟩ := p
    simp only [onlyPin, Bool.and_eq_true] at h
    simp only [get] at hx
    split at hx
    · cases hx
      cases x with
      | pin j b m => exact .inl ⟨j, b, m, rfl⟩
      | _ => exact .inr (by simpa using h.1)
    · exact ih h.2 hx
theorem Inv.setPin {R : Nat → Prop} {ad : Nat → Option Nat} {a : Act} {w : World} (h : Inv B R ad s a w) {k b T : Nat} {cs0 cs : Array Value} (hk : ad k = some b) (hbk : s.b k = none) (hv : onlyPin k s.tm = true) (h0 : w.heap[b]? = some (.cells cs0 T (0, 0))) (hs : cs.size = cs0.size) :
    Inv B R ad s a (w.setRow b cs) := by
  have hn := h.adn k b hk
  have hR : ∀ c, R c → (w.setRow b cs).heap[c]? = w.heap[c]? := fun c hc => setRow_heap_ne w b c cs (fun e => hn.2.2 (e ▸ hc))
  have ha : ∀ k' c, k' ≠ k → ad k' = some c → (w.setRow b cs).heap[c]? = w.heap[c]? := fun k' c hne hk' => setRow_heap_ne w b c cs (fun e => hne (h.adi k' k c hk' (e ▸ hk)))
  refine ⟨h.df, h.sz, h.R0, fun c hc => by rw [setRow_size]; exact ⟨(h.Rn c hc).1.imp (fun h => h) (fun h => ⟨h.1, h.2.of (hR c hc)⟩), (h.Rn c hc).2⟩, ?_, h.gm, h.gx, fun k' c hk' => by rw [setRow_size]; exact h.adn k' c hk', h.adi, h.ax, ?_, ?_⟩
  · refine ⟨h.below.os, h.below.tape, h.below.output, by rw [setRow_size]; exact h.below.size, fun c hc hx => ?_⟩
    have hne : b ≠ c := by
      rintro rfl
      rcases hn.1 with h1 | h1
      · omega
      · exact hx h1
    rw [setRow_heap_ne w b c cs hne]
    exact h.below.block c hc hx
  · intro k' y' hy
    have e : k' ≠ k := fun e => by rw [e, hbk] at hy; cases hy
    obtain ⟨c, h1, h2⟩ := h.bx k' y' hy
    exact ⟨c, h1, h2.world (fun _ h => h) hR (ha k' c e h1)⟩
  · intro t x' ht
    obtain ⟨v, h1, h2⟩ := h.tm t x' ht
    refine ⟨v, h1, ?_⟩
    rcases onlyPin_spec hv ht with ⟨j, c, m, rfl⟩ | hvf
    · obtain ⟨g1, cs', T', g2, g3⟩ := h2
      by_cases e : j = k
      · subst e
        rw [hk] at g1; cases g1
        rw [h0] at g2; cases g2
        exact ⟨hk, cs, T, by simp [World.setRow, Array.getElem?_modify, h0], by omega⟩
      · exact ⟨g1, cs', T', by rw [ha j c e g1, g2], g3⟩
    · cases x' with
      | val d => exact Holds.mono h2 (fun _ h => h) hR
      | nv n d => exact Holds.mono h2 (fun _ h => h) (fun c h => hR c h.1)
      | pb k off => exact h2
      | sb k off len cap => exact h2
      | un => trivial
      | clo f ks => exact h2
      | pin j c m =>
        have hne : j ≠ k := vof_pin hvf
        obtain ⟨g1, cs', T, g2, g3⟩ := h2
        exact ⟨g1, cs', T, by rw [ha j c hne g1, g2], g3⟩
      | vec k' T z l =>
        have hne : k' ≠ k := beq_ne hvf
        rcases h2 with h2 | ⟨c, cap, g1, g2, cs', g3, g4, g5, g6, g7, g8⟩
        · exact .inl h2
        · exact .inr ⟨c, cap, g1, g2, cs', by rw [ha k' c hne g1, g3], g4, g5, g6, g7, fun i ds j d v a1 a2 a3 => (g8 i ds j d v a1 a2 a3).mono (fun _ h => h) hR⟩
      | psb j T k' off len cap =>
        have hne : j ≠ k := vof_psb hvf
        obtain ⟨c, u, g1, g2, g3, g4⟩ := h2
        exact ⟨c, u, g1, g2, by rw [ha j c hne g1, g3], g4⟩
      | pvec j T k' U z l =>
        obtain ⟨hne, hne'⟩ := vof_pvec hvf
        obtain ⟨c, u, g1, g2, g3, g4⟩ := h2
        refine ⟨c, u, g1, g2, by rw [ha j c hne g1, g3], ?_⟩
        rcases g4 with h2 | ⟨c, cap, g1, g2, cs', g3, g4, g5, g6, g7, g8⟩
        · exact .inl h2
        · exact .inr ⟨c, cap, g1, g2, cs', by rw [ha k' c hne' g1, g3], g4, g5, g6, g7, fun i ds j d v a1 a2 a3 => (g8 i ds j d v a1 a2 a3).mono (fun _ h => h) hR⟩
      | pbs j T =>
        have hne : j ≠ k := vof_pbs hvf
        obtain ⟨c, u, g1, g2, g3⟩ := h2
        exact ⟨c, u, g1, g2, by rw [ha j c hne g1, g3]⟩
theorem op_storePin {T : TypeId} {ax xx : Operand} {u k b off m : Nat} {kk : IntKind} {n : Int} {i : TI} (hT : get τ.tab T = some i) (hn : i.size = 1) (hx : Rd s ax (.val (.raw (.pointer (some ⟨b, off, none⟩))))) (hv : Rd s xx (.val (.int kk n))) (hu : s.t u = some (.pin k b m)) (hlt : off < m) (hbk : s.b k = none) (hnv : onlyPin k s.tm = true) :
    OpDo P B ⟨none, .store T ax xx, ty, pos, af, gd⟩ s s :=
  .skip rfl fun R ad a w hi => by
    have h2 := hx.raw_inv hi
    have h3 := (hv.int_inv hi).1
    obtain ⟨v, _, h1, cs, T', h4, h5⟩ := hi.tm u _ hu
    have hst := run_storeCells_at P b off T' [.int kk n] 0 cs w h4 (by simp; omega) (by simp; rfl)
    simp only [Nat.add_zero] at hst
    refine ⟨_, by simp [execOp, Instr.storeAt, h2, h3, Instr.sureAddr, storeVar, Tys.size hT, hn, Value.cells, hst]; rfl, R, ad, ?_⟩
    exact hi.setPin h1 hbk hnv h4 (by simp; omega)
end
end Go.Proofs.YtpolinoaefdobaaDoor.K
