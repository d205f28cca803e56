/- Slices that a call appends to: one owner each. -/
import Derived.Test.YtffcpgebgoineaaDoorOwn
import Derived.Maps.AppendAt
import Derived.Lib.AppendStr
import Derived.Laws.IdiomStrings
namespace Go.Proofs.YtffcpgebgoineaaDoor.K
open Go Go.RowKit
set_option linter.unusedVariables false
set_option linter.unusedSimpArgs false

/-- rows of one whole number each -/
def iv (k : IntKind) (l : List Int) : List (List D) := l.map fun n => [D.int k n]
theorem iv_length (k : IntKind) (l : List Int) : (iv k l).length = l.length := by simp [iv]

theorem Inv.reown {B : Base} {R : Nat → Prop} {ad : Nat → Option Nat} {s : St} {a : Act} {w w' : World} (h : Inv B R ad s a w) {k : Nat} {o : Option Nat} (hg : w.grownBy w' (ad k)) (ho : ∀ b, o = some b → ad k = some b ∨ (w.heap.size ≤ b ∧ b < w'.heap.size)) (h0 : Nat.blt 0 k = true ∨ B.ex = fun _ => False) :
    Inv B R (fun j => if j = k then o else ad j) (s.forget k) a w' := by
  have hR : ∀ c, R c → w'.heap[c]? = w.heap[c]? := fun c hc => hg.block c (h.Rn c hc).2 (fun e => (h.adn k c e.symm).2.2 hc)
  have ha : ∀ j c, j ≠ k → ad j = some c → w'.heap[c]? = w.heap[c]? := fun j c hj hc => hg.block c (h.adn j c hc).2.1 (fun e => hj (h.adi j k c hc e.symm))
  refine ⟨h.df, h.sz, h.R0, fun c hc => ⟨(h.Rn c hc).1.imp (fun h => h) (fun h => ⟨h.1, h.2.of (hR c hc)⟩), Nat.lt_of_lt_of_le (h.Rn c hc).2 hg.size⟩, ?_, h.gm, h.gx, ?_, ?_, ?_, ?_, ?_⟩
  · refine ⟨hg.os.trans h.below.os, hg.tape.trans h.below.tape, hg.output.trans h.below.output, Nat.le_trans h.below.size hg.size, fun c hc hx => ?_⟩
    refine (hg.block c (Nat.lt_of_lt_of_le hc h.below.size) (fun e => ?_)).trans (h.below.block c hc hx)
    rcases (h.adn k c e.symm).1 with h1 | h1
    · omega
    · exact hx h1
  · intro j c hj
    split at hj
    · rcases ho c hj with h1 | ⟨h1, h2⟩
      · obtain ⟨g1, g2, g3⟩ := h.adn k c h1
        exact ⟨g1, Nat.lt_of_lt_of_le g2 hg.size, g3⟩
      · exact ⟨.inl (Nat.le_trans h.below.size h1), h2, fun hr => absurd (h.Rn _ hr).2 (by omega)⟩
    · obtain ⟨g1, g2, g3⟩ := h.adn j c hj
      exact ⟨g1, Nat.lt_of_lt_of_le g2 hg.size, g3⟩
  · intro j j' c hj hj'
    split at hj
    · rename_i e
      split at hj'
      · rename_i e'; rw [e, e']
      · rename_i e'
        rcases ho c hj with h1 | ⟨h1, h2⟩
        · exact absurd (h.adi j' k c hj' h1) e'
        · have := (h.adn j' c hj').2.1; omega
    · rename_i e
      split at hj'
      · rcases ho c hj' with h1 | ⟨h1, h2⟩
        · exact absurd (h.adi j k c hj h1) e
        · have := (h.adn j c hj).2.1; omega
      · exact h.adi j j' c hj hj'
  · intro c hc
    rcases h0 with h0 | h0
    · have : 0 < k := Nat.le_of_ble_eq_true h0
      rw [if_neg (by omega)]
      exact h.ax c hc
    · rw [h0] at hc; exact hc.elim
  · intro j x hx
    obtain ⟨h5, h6⟩ := get_dropKey (show get (dropKey k s.bx) j = some x from hx)
    obtain ⟨c, g1, g2⟩ := h.bx j x h5
    exact ⟨c, by simp [h6, g1], g2.world (fun _ h => h) hR (ha j c h6 g1)⟩
  · intro u x hx
    rcases get_clean (show get (clean k s.tm) u = some x from hx) with ⟨y, g1, rfl⟩ | ⟨g1, g2⟩
    · obtain ⟨v, g3, g4⟩ := h.tm u y g1
      exact ⟨v, g3, g4.lose (fun j hj => by simp [hj]) ha⟩
    · obtain ⟨v, g3, g4⟩ := h.tm u x g1
      refine ⟨v, g3, ?_⟩
      cases x with
      | val d => exact Holds.mono g4 (fun _ h => h) hR
      | nv n d => exact Holds.mono g4 (fun _ h => h) (fun c h => hR c h.1)
      | pin j c m => have g2 := beq_ne g2; obtain ⟨g5, cs', T, g6, g7⟩ := g4; exact ⟨by simp [g2, g5], cs', T, by rw [ha j c g2 g5, g6], g7⟩
      | un => trivial
      | pb j off => have g2 := beq_ne g2; obtain ⟨c, g5, g6⟩ := g4; exact ⟨c, by simp [g2, g5], g6⟩
      | sb j off len cap => have g2 := beq_ne g2; obtain ⟨⟨c, g5, g6⟩, g7⟩ := g4; exact ⟨⟨c, by simp [g2, g5], g6⟩, g7⟩
      | psb j T i off len cap =>
        obtain ⟨f1, f2⟩ := has_psb g2
        obtain ⟨c, u, g5, g6, g7, ⟨c', g8, g9⟩, g10⟩ := g4
        exact ⟨c, u, by simp [f1, g5], g6, by rw [ha j c f1 g5, g7], ⟨c', by simp [f2, g8], g9⟩, g10⟩
      | pvec j T i U z m =>
        obtain ⟨f1, f2⟩ := has_pvec g2
        obtain ⟨c, u, g5, g6, g7, g4⟩ := g4
        refine ⟨c, u, by simp [f1, g5], g6, by rw [ha j c f1 g5, g7], ?_⟩
        rcases g4 with ⟨g5, g6⟩ | ⟨c, cap, g5, g6, cs', g7, g8, g9, g10, g11, g12⟩
        · exact .inl ⟨by simp [f2, g5], g6⟩
        · exact .inr ⟨c, cap, by simp [f2, g5], g6, cs', by rw [ha i c f2 g5, g7], g8, g9, g10, g11, fun i ds j' d v a1 a2 a3 => (g12 i ds j' d v a1 a2 a3).mono (fun _ h => h) hR⟩
      | pbs j T => have g2 := beq_ne g2; obtain ⟨c, u, g5, g6, g7⟩ := g4; exact ⟨c, u, by simp [g2, g5], g6, by rw [ha j c g2 g5, g7]⟩
      | clo f ks =>
        obtain ⟨vs, g5, g6, g7⟩ := g4
        exact ⟨vs, g5, g6, fun i j hj => by
          obtain ⟨b', g8, g9⟩ := g7 i j hj
          exact ⟨b', by simp [inL_false g2 hj, g8], g9⟩⟩
      | vec j T z m =>
        have g2 := beq_ne g2
        rcases g4 with ⟨g5, g6⟩ | ⟨c, cap, g5, g6, cs', g7, g8, g9, g10, g11, g12⟩
        · exact .inl ⟨by simp [g2, g5], g6⟩
        · exact .inr ⟨c, cap, by simp [g2, g5], g6, cs', by rw [ha j c g2 g5, g7], g8, g9, g10, g11, fun i ds j' d v a1 a2 a3 => (g12 i ds j' d v a1 a2 a3).mono (fun _ h => h) hR⟩

/-- what an owned row of whole numbers is in the kit's words -/
theorem own_of_vec {R : Nat → Prop} {ad : Nat → Option Nat} {w : World} {k T : Nat} {kk : IntKind} {l : List Int} {v : Value} (h : HoldsT R ad w (.vec k T 1 (iv kk l)) v) : w.ownsRow 0 T 1 v l.length (l.map (Value.int kk)) ∧ v.ownBlock = ad k ∧ l.length ≤ maxLen ∧ ∀ x ∈ l, InR kk x := by
  rcases h with ⟨h1, rfl, h2⟩ | ⟨b, cap, h1, rfl, cs, h2, h3, h4, h5, h6, h7⟩
  · have : l = [] := by simpa [iv] using h2
    subst this
    exact ⟨World.ownsRow_nil _ _ _ _, h1.symm, Nat.zero_le _, by simp⟩
  · rw [iv_length] at h4 ⊢
    have hcell : ∀ j, (hj : j < l.length) → cs[j]? = some (.int kk l[j]) ∧ InR kk l[j] := fun j hj => by
      have hjc : j < cs.size := by omega
      have g5 := h7 j [.int kk l[j]] 0 (.int kk l[j]) cs[j] (by simp [iv, hj]) rfl (by simp [hjc])
      have e : cs[j]? = some cs[j] := by simp [hjc]
      generalize cs[j] = u at g5 e
      cases g5
      exact ⟨e, by assumption⟩
    refine ⟨⟨by simp, .inr ⟨b, cap, cs, rfl, Nat.zero_le _, h2, h4, h5, h3, ?_⟩⟩, h1.symm, by omega, fun x hx => ?_⟩
    · apply List.ext_getElem?
      intro j
      rw [Nat.mul_one, List.getElem?_take]
      by_cases hj : j < l.length
      · rw [if_pos hj, Array.getElem?_toList, (hcell j hj).1]; simp [hj]
      · rw [if_neg hj, List.getElem?_eq_none (by simp; omega)]
    · obtain ⟨j, hj, rfl⟩ := List.mem_iff_getElem.1 hx
      exact (hcell j hj).2
theorem vec_of_own {R : Nat → Prop} {ad : Nat → Option Nat} {w : World} {base k T : Nat} {kk : IntKind} {l : List Int} {v : Value} (h : w.ownsRow base T 1 v l.length (l.map (Value.int kk))) (hk : ad k = v.ownBlock) (hr : ∀ x ∈ l, InR kk x) : HoldsT R ad w (.vec k T 1 (iv kk l)) v := by
  rcases h.2 with ⟨rfl, h1⟩ | ⟨g, cap, cur, rfl, h1, h2, h3, h4, h5, h6⟩
  · exact .inl ⟨hk, rfl, by simp [iv, List.eq_nil_of_length_eq_zero h1]⟩
  · refine .inr ⟨g, cap, hk, by rw [iv_length], cur, h2, h5, by rw [iv_length]; exact h3, h4, fun ds hds => ?_, fun i ds j d u a1 a2 a3 => ?_⟩
    · simp only [iv, List.mem_map] at hds
      obtain ⟨n, _, rfl⟩ := hds
      rfl
    · simp only [iv, List.getElem?_map, Option.map_eq_some_iff] at a1
      obtain ⟨n, a4, rfl⟩ := a1
      have hj : j = 0 := by
        have := (List.getElem?_eq_some_iff.1 a2).1
        simpa using this
      subst hj
      cases a2
      have hi := (List.getElem?_eq_some_iff.1 a4).1
      have h7 : (cur.toList.take (l.length * 1))[i]? = some (.int kk n) := by rw [h6]; simp [a4]
      rw [List.getElem?_take, if_pos (by omega), Array.getElem?_toList] at h7
      rw [Nat.mul_one, Nat.add_zero, h7] at a3
      cases a3
      exact .int _ _ (hr n (List.mem_of_getElem? a4))

section
variable {P : Program} {τ : Tys P} {B : Base} {s : St} {d : Nat} {ty : TypeId} {pos : String} {af : Array Edge} {gd : Option (Nat × Bool)}
theorem grownBy_refl (w : World) (row : Option Nat) : w.grownBy w row := ⟨rfl, rfl, rfl, Nat.le_refl _, fun _ _ _ => rfl⟩
/-- a nil slice that will be appended to -/
theorem op_nilVec (T : Nat) (kk : IntKind) (h0 : Nat.blt 0 d = true ∨ B.ex = fun _ => False) (hN : Nat.blt d B.N = true) :
    OpDo P B ⟨some d, .assign (.const (.slice none 0 0)), ty, pos, af, gd⟩ s ((s.forget d).setT d (.vec d T 1 (iv kk []))) := .value fun R ad a w hi => by
  refine ⟨.slice none 0 0, w, ?_, R, _, (hi.reown (k := d) (o := none) (grownBy_refl _ _) (fun b hb => by cases hb) h0).put hN (.inl ⟨by simp, rfl, rfl⟩)⟩
  simp [execOp, Act.eval]
/-- appending numbers -/
theorem op_appendV {T e k : Nat} {x y : Operand} {kk : IntKind} {l m : List Int} {i j : TI} (hT : get τ.tab T = some i) (hk : i.k = .slice e) (he : get τ.tab e = some j) (hz : j.size = 1) (hzl : j.zero.length = 1) (hx : Rd s x (.vec k e 1 (iv kk l))) (hy : Rd s y (.val (.ints kk m)))
    (hm : Nat.blt 0 m.length = true) (hl : (l.length + m.length) * j.bytes ≤ 140737488355328) (hb : Nat.blt 0 j.bytes = true) (h0 : Nat.blt 0 k = true ∨ B.ex = fun _ => False) (hN : Nat.blt d B.N = true) :
    OpDo P B ⟨some d, .call ⟨.builtin .append, #[x, y], #[T, T]⟩, ty, pos, af, gd⟩ s ((s.forget k).setT d (.vec k e 1 (iv kk (l ++ m)))) := .value fun R ad a w hi => by
  have hxv := hx.holds hi
  have hyv := hy.holds hi
  obtain ⟨o1, o2, o3, o4⟩ := own_of_vec hxv
  have hu := Tys.slice hT hk
  obtain ⟨_, I, i1, i2, i3, z, i4, i5, i6⟩ := τ.is he
  have hb' : 1 ≤ j.bytes := Nat.le_of_ble_eq_true hb
  have hm' : 0 < m.length := Nat.le_of_ble_eq_true hm
  have hlen : l.length + m.length ≤ 140737488355328 := by
    have : (l.length + m.length) * 1 ≤ (l.length + m.length) * j.bytes := Nat.mul_le_mul_left _ hb'
    omega
  simp only [HoldsT] at hyv
  generalize hv : a.eval y = v at hyv
  cases hyv with
  | intsNil => simp at hm'
  | intsE => simp at hm'
  | ints kk m b off cap hR hcap hmax hr hc =>
    obtain ⟨v', w', r1, r2, r3, r4, r5⟩ := run_append_own_at (P := P) w 0 T ty e I z 1 j.bytes hu i1 i4 (by rw [i2, hz]) i3 (by rw [i5, hzl]) (by omega) (a.eval x) l.length (l.map (Value.int kk)) o1 ⟨b, off, none⟩ m.length cap (m.map (Value.int kk)) (by simp) (fun n u hn => by
      rw [add_lit]
      simp at hn
      obtain ⟨y, hy, rfl⟩ := hn
      obtain ⟨hlt, hg⟩ := List.getElem?_eq_some_iff.1 hy
      rw [hc n hlt, hg]) (fun u hu => by
      obtain ⟨n, _, rfl⟩ := List.mem_map.1 hu
      rfl) (by simp only [maxLen]; omega) hl (Nat.zero_le _)
    rw [o2] at r3
    refine ⟨v', w', ?_, R, _, (hi.reown (k := k) (o := v'.ownBlock) r3 (fun c hc => ?_) h0).put hN (vec_of_own (base := 0) (by rw [List.length_append, List.map_append]; exact r2) (by simp) (fun x hx => ?_))⟩
    · simp [execOp, resolve, invoke, builtin, hv, r1]
    · rcases r5 with r5 | r5
      · exact .inl (by rw [← o2, ← r5, hc])
      · have h1 := (r2.lt c hc).2
        rw [r5] at hc
        cases hc
        exact .inr ⟨Nat.le_refl _, h1⟩
    · rcases List.mem_append.1 hx with hx | hx
      · exact o4 x hx
      · exact hr x hx
/-- the numbers of a string's bytes -/
def byt (b : List UInt8) : List Int := b.map fun c => (c.toNat : Int)
theorem byt_length (b : List UInt8) : (byt b).length = b.length := by simp [byt]
theorem byt_inR (b : List UInt8) : ∀ x ∈ byt b, InR .u8 x := fun x hx => by
  obtain ⟨c, _, rfl⟩ := List.mem_map.1 hx
  have := c.toNat_lt
  simp [InR, IntKind.min, IntKind.max, IntKind.bits, IntKind.signed]
  omega
/-- appending a string's bytes -/
theorem op_appendS {T U e k : Nat} {x y : Operand} {l : List Int} {b : List UInt8} {i j u : TI} (hT : get τ.tab T = some i) (hk : i.k = .slice e) (he : get τ.tab e = some j) (hU : get τ.tab U = some u) (huk : u.k = .str) (hz : j.size = 1) (hby : j.bytes = 1) (hz8 : (P.info? e).bind (·.zero) = some (.int .u8 0)) (hx : Rd s x (.vec k e 1 (iv .u8 l))) (hy : Rd s y (.val (.str b)))
    (hl : l.length + b.length ≤ 140737488355328) (h0 : Nat.blt 0 k = true ∨ B.ex = fun _ => False) (hN : Nat.blt d B.N = true) :
    OpDo P B ⟨some d, .call ⟨.builtin .append, #[x, y], #[T, U]⟩, ty, pos, af, gd⟩ s ((s.forget k).setT d (.vec k e 1 (iv .u8 (l ++ byt b)))) := .value fun R ad a w hi => by
  have hxv := hx.holds hi
  obtain ⟨sb, hv, rfl, hm⟩ := hy.str_inv hi
  obtain ⟨o1, o2, o3, o4⟩ := own_of_vec hxv
  have hu := Tys.slice hT hk
  have hs := Tys.str hU huk
  obtain ⟨_, I, i1, i2, i3, z, i4, i5, i6⟩ := τ.is he
  have hz9 : I.zero = some (.int .u8 0) := by simpa [i1] using hz8
  have hsz : sb.data.toList.length = sb.size := by rw [Array.length_toList]; rfl
  rw [hsz] at hl
  have hml : l.length + sb.size ≤ maxLen := by simp only [maxLen]; omega
  obtain ⟨v', w', r1, r2, r3, r4⟩ := Lib.run_append_own_string (P := P) w 0 T U ty e I hu hs i1 hz9 (by rw [i2, hz]) (by rw [i3, hby]) (a.eval x) l.length (l.map (Value.int .u8)) o1 sb hml (by omega) (Nat.zero_le _)
  have r5 : v'.ownBlock = (a.eval x).ownBlock ∨ v'.ownBlock = some w.heap.size := by
    rcases o1.2 with ⟨h1, h2⟩ | ⟨g, cap, cur, h1, _, h2, h3, h4, h5, h6⟩
    · by_cases hs0 : sb.size = 0
      · rw [r4.2 ⟨h1, hs0⟩, h1]; exact .inl rfl
      · have h7 := run_append_nil_string (P := P) w T U ty e I _ hu hs i1 hz9 sb (by omega) (by simp only [maxLen] at hml; omega) (by rw [i3, hby]; omega)
        rw [h1, h7] at r1
        cases r1
        exact .inr rfl
    · by_cases hroom : l.length + sb.size ≤ cap
      · have h7 := Lib.run_append_room_string (P := P) w T U ty e I hu hs i1 (by rw [i2, hz]) g l.length cap cur h2 sb hroom (by omega)
        rw [h1, h7] at r1
        cases r1
        exact .inl (by rw [h1]; rfl)
      · have holds : ∀ j u, (l.map (Value.int .u8))[j]? = some u → w.cell? ((⟨g, 0, none⟩ : Addr).add j) = some u := o1.cells (g := g) (by rw [h1]; rfl)
        have h7 := Lib.run_append_grow_string (P := P) w T U ty e I _ hu hs i1 hz9 ⟨g, 0, none⟩ l.length cap _ (by rw [i2, hz]; simp) holds sb (by omega) (by simp only [maxLen] at hml; omega) (by rw [i3, hby]; exact growslice_fits (by omega) (by omega))
        rw [h1, h7] at r1
        cases r1
        exact .inr rfl
  rw [o2] at r3 r5
  have hcells : Lib.strCells sb = (byt sb.data.toList).map (Value.int .u8) := by simp [Lib.strCells, byt]
  refine ⟨v', w', ?_, R, _, (hi.reown (k := k) (o := v'.ownBlock) r3 (fun c hc => ?_) h0).put hN (vec_of_own (base := 0) (by rw [List.length_append, List.map_append, byt_length, hsz, ← hcells]; exact r2) (by simp) (fun x hx => ?_))⟩
  · simp [execOp, resolve, invoke, builtin, hv, r1]
  · rcases r5 with r5 | r5
    · exact .inl (by rw [← r5, hc])
    · have h1 := (r2.lt c hc).2
      rw [r5] at hc
      cases hc
      exact .inr ⟨Nat.le_refl _, h1⟩
  · rcases List.mem_append.1 hx with hx | hx
    · exact o4 x hx
    · exact byt_inR _ x hx

theorem Inv.addR {R : Nat → Prop} {ad : Nat → Option Nat} {a : Act} {w : World} (h : Inv B R ad s a w) {g : Nat} (hg : B.w0.heap.size ≤ g) (hu : Unf w g) (hl : g < w.heap.size) (hn : ∀ j, ad j ≠ some g) : Inv B (fun c => R c ∨ c = g) ad s a w := by
  refine ⟨h.df, h.sz, fun c hc => .inl (h.R0 c hc), ?_, h.below, h.gm, h.gx, fun j c hj => ?_, h.adi, h.ax, fun j x hx => ?_, fun t x ht => ?_⟩
  · rintro c (hc | rfl)
    · exact h.Rn c hc
    · exact ⟨.inr ⟨hg, hu⟩, hl⟩
  · obtain ⟨g1, g2, g3⟩ := h.adn j c hj
    refine ⟨g1, g2, ?_⟩
    rintro (hc | rfl)
    · exact g3 hc
    · exact hn j hj
  · obtain ⟨c, g1, g2⟩ := h.bx j x hx
    exact ⟨c, g1, g2.world (fun _ h => .inl h) (fun _ _ => rfl) rfl⟩
  · obtain ⟨v, g1, g2⟩ := h.tm t x ht
    exact ⟨v, g1, g2.world (fun _ h => .inl h) (fun _ _ => rfl) (fun _ _ _ => rfl)⟩
theorem Inv.know {R : Nat → Prop} {ad : Nat → Option Nat} {a : Act} {w : World} (h : Inv B R ad s a w) {t : Nat} {x : TD} {v : Value} (hv : a.tmps[t]? = some v) (hx : HoldsT R ad w x v) : Inv B R ad (s.setT t x) a w := by
  refine { h with bx := h.bx, tm := fun u y hy => ?_ }
  rw [St.t_setT] at hy
  split at hy
  · rename_i e; subst e; cases hy; exact ⟨v, hv, hx⟩
  · exact h.tm u y hy
/-- a slice that was appended to becomes data -/
theorem Inv.freezeV {R : Nat → Prop} {ad : Nat → Option Nat} {a : Act} {w : World} (h : Inv B R ad s a w) {t k T : Nat} {kk : IntKind} {l : List Int} (hs : s.t t = some (.vec k T 1 (iv kk l))) (hx : B.ex = fun _ => False) :
    Good B ((s.forget k).setT t (.val (.ints kk l))) a w := by
  obtain ⟨v, g1, g2⟩ := h.tm t _ hs
  obtain ⟨o1, o2, o3, o4⟩ := own_of_vec g2
  have h1 := h.reown (k := k) (o := none) (grownBy_refl w _) (fun b hb => by cases hb) (.inr hx)
  rcases o1.2 with ⟨rfl, h2⟩ | ⟨g, cap, cur, rfl, _, h2, h3, h4, h5, h6⟩
  · have hl : l = [] := List.eq_nil_of_length_eq_zero h2
    subst hl
    exact ⟨R, _, h1.know g1 (.intsNil kk)⟩
  · have hk : ad k = some g := by rw [← o2]; rfl
    have hg := h.adn k g hk
    have hg1 : B.w0.heap.size ≤ g := by
      rcases hg.1 with h9 | h9
      · exact h9
      · rw [hx] at h9; exact h9.elim
    have h7 := h1.addR (g := g) hg1 ⟨_, _, h2⟩ hg.2.1 (fun j hj => by
      split at hj
      · cases hj
      · rename_i e; exact e (h.adi j k g hj hk))
    refine ⟨_, _, h7.know g1 ?_⟩
    refine .ints kk l g 0 cap (.inr rfl) h3 o3 o4 (fun i hi => ?_)
    rw [cells_of_row h2]
    have h8 : (cur.toList.take (l.length * 1))[i]? = some (.int kk l[i]) := by rw [h6]; simp [hi]
    rw [List.getElem?_take, if_pos (by omega), Array.getElem?_toList] at h8
    rw [Nat.zero_add, h8]
theorem AWP.freezeV {c : Code} {Q : Post} (t : Nat) {k T : Nat} {kk : IntKind} {l : List Int} (hs : s.t t = some (.vec k T 1 (iv kk l))) (hx : B.ex = fun _ => False)
    (h : AWP P B c Q ((s.forget k).setT t (.val (.ints kk l)))) : AWP P B c Q s :=
  ⟨fun a w ⟨R, ad, hi⟩ => h.run a w (hi.freezeV hs hx)⟩
/-- the bytes that numbers name -/
def ofByt (l : List Int) : List UInt8 := l.map fun n => n.toNat.toUInt8
theorem byt_ofByt {l : List Int} (h : ∀ x ∈ l, InR .u8 x) : byt (ofByt l) = l := by
  simp only [byt, ofByt, List.map_map]
  conv => rhs; rw [← List.map_id l]
  apply List.map_congr_left
  intro x hx
  have := h x hx
  simp [InR, IntKind.min, IntKind.max, IntKind.bits, IntKind.signed] at this
  simp only [Function.comp, id]
  have e : (x.toNat.toUInt8).toNat = x.toNat % 256 := by simp
  rw [e]; omega
theorem ofByt_byt (b : List UInt8) : ofByt (byt b) = b := by
  simp only [byt, ofByt, List.map_map]
  conv => rhs; rw [← List.map_id b]
  apply List.map_congr_left
  intro x hx
  simp
/-- a slice of bytes as a string -/
theorem op_convBS {T U e : Nat} {x : Operand} {l : List Int} {i j u : TI} (hT : get τ.tab T = some i) (hk : i.k = .slice e) (he : get τ.tab e = some j) (hjk : j.k = .int .u8) (hU : get τ.tab U = some u) (huk : u.k = .str) (hx : Rd s x (.val (.ints .u8 l))) (hN : Nat.blt d B.N = true) :
    OpDo P B ⟨some d, .convert T U x, ty, pos, af, gd⟩ s (s.setT d (.val (.str (ofByt l)))) := .pure hN fun R ad a w hi => by
  have hxv := hx.holds hi
  have hu := Tys.slice hT hk
  have he' := Tys.int he hjk
  have hs := Tys.str hU huk
  simp only [HoldsT] at hxv
  generalize hv : a.eval x = v at hxv
  have fin : ∀ b : List UInt8, (convert T U v).run P w = .ok (.string ⟨b.toArray⟩) w → b = ofByt l → l.length ≤ maxLen → ∃ v', (execOp a.eval ⟨some d, .convert T U x, ty, pos, af, gd⟩).run P w = .ok (.value v') w ∧ HoldsT R ad w (.val (.str (ofByt l))) v' := fun b h1 h2 h3 => by
    refine ⟨.string ⟨b.toArray⟩, by simp [execOp, hv, h1], ?_⟩
    subst h2
    exact .str ⟨(ofByt l).toArray⟩ (by simpa [ByteArray.size, ofByt] using h3)
  cases hxv with
  | intsNil =>
    refine fin [] ?_ rfl (Nat.zero_le _)
    rw [run_convert_bytes_string w T U e none 0 0 hu he' hs]
    simp [Conv.bytesToString]; rfl
  | intsE _ p => exact fin [] (run_convert_bytes_back w T U e p 0 [] hu he' hs (fun j hj => by simp at hj)) rfl (Nat.zero_le _)
  | ints _ _ b off cap hR hcap hmax hr hc =>
    have hb := byt_ofByt hr
    have hlen : (ofByt l).length = l.length := by simp [ofByt]
    refine fin (ofByt l) ?_ rfl hmax
    have h := run_convert_bytes_back (P := P) w T U e ⟨b, off, none⟩ cap (ofByt l) hu he' hs (fun j hj => by
      rw [add_lit, hc j (by omega)]
      have h9 : (byt (ofByt l))[j]'(by rw [byt_length]; exact hj) = l[j]'(by omega) := by simp only [hb]
      rw [← h9]
      simp [byt])
    rwa [hlen] at h
/-- make([]T, 0, n) -/
theorem op_makeV {T e : Nat} {x y : Operand} {kk kk' : IntKind} {kz : IntKind} {n : Nat} {i j : TI} (hT : get τ.tab T = some i) (hk : i.k = .slice e) (he : get τ.tab e = some j) (hz : j.zero = [.int kz 0]) (hs : j.size = 1) (hx : Rd s x (.val (.int kk 0))) (hy : Rd s y (.val (.int kk' (n : Int))))
    (hb : j.bytes * n ≤ 281474976710656) (hbz : 0 < j.bytes) (h0 : Nat.blt 0 d = true ∨ B.ex = fun _ => False) (hN : Nat.blt d B.N = true) :
    OpDo P B ⟨some d, .makeSlice T x y, ty, pos, af, gd⟩ s ((s.forget d).setT d (.vec d e 1 (iv kz []))) :=
  .value fun R ad a w hi => by
    obtain ⟨_, I, h1, h2, h3, z, h4, h5, h6⟩ := τ.is he
    have hn : n ≤ 281474976710656 := Nat.le_trans (Nat.le_mul_of_pos_left _ hbz) hb
    have hb' : (I.bytes : Int) * (n : Int) ≤ 281474976710656 := by
      rw [h3]
      have : ((j.bytes * n : Nat) : Int) ≤ 281474976710656 := by omega
      rwa [Int.natCast_mul] at this
    have hr := run_make (P := P) w T e I z (Tys.slice hT hk) h1 h4 kk kk' 0 (n : Int) (by omega) (by omega) hb' (by omega)
    rw [h2, hs] at hr
    simp only [Int.toNat_natCast, Nat.mul_one] at hr
    have hzs : z.cells.size = 1 := by rw [h5, hz]; rfl
    refine ⟨.slice (some ⟨w.heap.size, 0, none⟩) 0 n, w.alloc (.cells (madeCells z.cells n) e), by simp [execOp, (hx.int_inv hi).1, (hy.int_inv hi).1, hr], R, _, (hi.reown (k := d) (o := some w.heap.size) (World.grownBy_alloc w _ _) (fun b hb => .inr (by cases hb; exact ⟨Nat.le_refl _, by simp⟩)) h0).put hN ?_⟩
    exact vec_of_own (l := []) (World.ownsRow_made w _ n (base := 0) (Nat.zero_le _) (by simp only [maxLen]; omega) (by simp [size_madeCells])) (by simp [Value.ownBlock]) (by simp)
/-- a function that appends the digits of a number to nil -/
structure AppNil (P : Program) (f : FuncId) (T : Nat) (digs : Int → List UInt8) : Prop where
  ok : CallOK P f
  run : ∀ (w : World) (u : Int), Gam w → InR .u64 u → Calls P f #[.slice none 0 0, .int .u64 u, .int .i64 10] w fun e w' => ∃ v', e = .returned v' ∧ w'.ownsRow w.heap.size T 1 v' (byt (digs u)).length ((byt (digs u)).map (Value.int .u8)) ∧ Below w.heap.size w w'
theorem op_appNil {f : FuncId} {T : Nat} {x : Operand} {u : Int} {ats : Array TypeId} {digs : Int → List UInt8} (hf : AppNil P f T digs) (hx : Rd s x (.val (.int .u64 u))) (h0 : Nat.blt 0 d = true ∨ B.ex = fun _ => False) (hN : Nat.blt d B.N = true) :
    OpDo P B ⟨some d, .call ⟨.value (.func f), #[.const (.slice none 0 0), x, .const (.int .i64 10)], ats⟩, ty, pos, af, gd⟩ s ((s.forget d).setT d (.vec d T 1 (iv .u8 (byt (digs u))))) := .mk fun a w ⟨R, ad, hi⟩ K Q hk => by
  obtain ⟨h1, h2⟩ := hx.int_inv hi
  have hrun : (execOp a.eval ⟨some d, .call ⟨.value (.func f), #[.const (.slice none 0 0), x, .const (.int .i64 10)], ats⟩, ty, pos, af, gd⟩).run P w = .ok (.enter f #[.slice none 0 0, .int .u64 u, .int .i64 10]) w := by
    have := hf.ok #[.slice none 0 0, .int .u64 u, .int .i64 10] w
    have c1 : a.eval (.const (.slice none 0 0)) = .slice none 0 0 := rfl
    have c2 : a.eval (.const (.int .i64 10)) = .int .i64 10 := rfl
    have c3 : a.eval (.func f) = .func (.func f) #[] #[] := rfl
    simp [execOp, resolve, invoke, c1, c2, c3, h1, Deferred.ofValue]
    simpa using this
  simp only [Oper.wp, hrun, Oper.upon]
  refine (hf.run w u hi.gam h2).mono ?_
  rintro e' w' ⟨v', rfl, r2, r3⟩
  refine hk _ _ ⟨R, _, (hi.reown (k := d) (o := v'.ownBlock) ⟨r3.os, r3.tape, r3.output, r3.size, fun j hj _ => r3.block j hj⟩ (fun c hc => .inr (r2.lt c hc)) h0).put hN (vec_of_own r2 (by simp) (byt_inR _))⟩
end
end Go.Proofs.YtffcpgebgoineaaDoor.K
