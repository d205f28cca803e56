/- The rules of the walk over the abstract reading: a region in the order of its text, a test, a block, a loop, the end of a call. -/
import Derived.Test.YtffcpgebgoineaaDoorCore
namespace Go.Proofs.YtffcpgebgoineaaDoor.K
open Go Go.RowKit
set_option linter.unusedVariables false
set_option linter.unusedSimpArgs false

/-- What is to hold at the ways out. -/
structure Post where
  norm : St → Prop
  exit : Nat → St → Prop
  ret : St → Prop

def Post.at (B : Base) (Q : Post) : Exit → Act → World → Prop
  | .normal, a, w => ∃ s, Q.norm s ∧ Good B s a w
  | .exit i, a, w => ∃ s, Q.exit i s ∧ Good B s a w
  | .ret, a, w => ∃ s, Q.ret s ∧ Good B.fin s a w
  | _, _, _ => False

structure AWP (P : Program) (B : Base) (c : Code) (Q : Post) (s : St) : Prop where
  run : ∀ a w, Good B s a w → c.wp P (Q.at B) a w

theorem AWP.le {P : Program} {B : Base} {c : Code} {Q : Post} {s : St} (s' : St) (hl : s'.Le s) (h : AWP P B c Q s') : AWP P B c Q s :=
  ⟨fun a w hg => h.run a w (hg.le hl)⟩

theorem AWP.seq {P : Program} {B : Base} {x y : Code} {Q : Post} {s : St} (h : AWP P B x ⟨fun s => AWP P B y Q s, Q.exit, Q.ret⟩ s) : AWP P B (.seq x y) Q s := .mk fun a w hg => by
  refine wp_seq (wp_mono (h.run a w hg) fun e a' w' hq => ?_)
  cases e with
  | normal => obtain ⟨s', hs, hg'⟩ := hq; exact hs.run a' w' hg'
  | exit i => exact hq
  | ret => exact hq
  | goto l => exact hq.elim
  | panic c => exact hq.elim
  | outgrown => exact hq.elim

theorem AWP.skip {P : Program} {B : Base} {Q : Post} {s : St} (h : Q.norm s) : AWP P B .skip Q s := ⟨fun _ _ hg => wp_skip ⟨s, h, hg⟩⟩
theorem AWP.exit {P : Program} {B : Base} {Q : Post} {s : St} {i : Nat} (h : Q.exit i s) : AWP P B (.exit i) Q s := ⟨fun _ _ hg => wp_exit ⟨s, h, hg⟩⟩
theorem AWP.ret {P : Program} {B : Base} {Q : Post} {s : St} [hB : RetB B] (h : Q.ret s) : AWP P B .ret Q s := ⟨fun _ _ hg => wp_ret ⟨s, h, by rw [hB.eq]; exact hg⟩⟩

def Post.blk (Q : Post) (id : Nat) : Post := ⟨Q.norm, fun i s => match Nat.beq i id with | true => Q.norm s | false => Q.exit i s, Q.ret⟩

theorem AWP.block {P : Program} {B : Base} {c : Code} {Q : Post} {s : St} {id : Nat} (h : AWP P B c (Q.blk id) s) : AWP P B (.block id c) Q s := .mk fun a w hg => by
  refine wp_block (wp_mono (h.run a w hg) fun e a' w' hq => ?_)
  cases e with
  | normal => exact hq
  | ret => exact hq
  | goto l => exact hq.elim
  | panic c => exact hq.elim
  | outgrown => exact hq.elim
  | exit i =>
    obtain ⟨s', hs, hg'⟩ := hq
    by_cases e : i = id
    · subst e
      simp only [Post.blk, Nat.beq_refl] at hs
      simp only [Exit.inBlock, if_true]
      exact ⟨s', hs, hg'⟩
    · simp only [Post.blk, beq_false e] at hs
      simp only [Exit.inBlock, e, if_false]
      exact ⟨s', hs, hg'⟩

/-- A loop whose measure is a ghost. -/
theorem wp_loop_ghost {P : Program} {Q : Exit → Act → World → Prop} {a : Act} {w : World} {c : Code} (J : Nat → Act → World → Prop) (n0 : Nat) (h0 : J n0 a w)
    (round : ∀ n a w, J n a w → c.wp P (Exit.then (fun a' w' => ∃ m, m < n ∧ J m a' w') Q) a w) : (Code.loop c).wp P Q a w := by
  intro b k cs
  have key : ∀ n a w, J n a w →
      ∃ e a' w', Q e a' w' ∧ Arrives P (lone (b.at a (.code c :: .inLoop c :: k)) cs w) b k cs e a' w' := by
    intro n
    induction n using Nat.strongRecOn with
    | _ n ih =>
      intro a w hI
      obtain ⟨e, a₁, w₁, hq, harr⟩ := round n a w hI b (.inLoop c :: k) cs
      cases e with
      | normal =>
        obtain ⟨m, hlt, hI₁⟩ := hq
        obtain ⟨e₂, a₂, w₂, hq₂, harr₂⟩ := ih m hlt a₁ w₁ hI₁
        exact ⟨e₂, a₂, w₂, hq₂, .of_steps (Steps.trans harr (.one step_inLoop)) harr₂⟩
      | exit id => exact ⟨_, a₁, w₁, hq, .pass (x := .inLoop c) rfl (fun _ _ => .inl (by simp)) harr⟩
      | goto l => exact ⟨_, a₁, w₁, hq, .pass (x := .inLoop c) rfl (fun _ _ => .inl (by simp)) harr⟩
      | ret => exact ⟨_, a₁, w₁, hq, .pass (x := .inLoop c) rfl (fun _ _ => .inl (by simp)) harr⟩
      | panic ch => exact ⟨_, a₁, w₁, hq, .pass (x := .inLoop c) rfl (fun _ _ => .inl (by simp)) harr⟩
      | outgrown => exact ⟨_, a₁, w₁, hq, .pass (x := .inLoop c) rfl (fun _ _ => .inl (by simp)) harr⟩
  obtain ⟨e, a', w', hq, harr⟩ := key _ a w h0
  exact ⟨e, a', w', hq, .of_steps (.one step_loop) harr⟩

theorem AWP.loop {P : Program} {B : Base} {c : Code} {Q : Post} {s : St} {ι : Type} (S : ι → St) (H : ι → Prop) (μ : ι → Nat) (i0 : ι) (h0 : H i0) (hs : (S i0).Le s)
    (round : ∀ i, H i → AWP P B c ⟨fun s' => ∃ j, (S j).Le s' ∧ H j ∧ μ j < μ i, Q.exit, Q.ret⟩ (S i)) : AWP P B (.loop c) Q s := .mk fun a w hg => by
  refine wp_loop_ghost (fun n a w => ∃ i, H i ∧ Good B (S i) a w ∧ μ i = n) (μ i0) ⟨i0, h0, hg.le hs, rfl⟩ ?_
  rintro n a w ⟨i, hi, hgi, rfl⟩
  refine wp_mono ((round i hi).run a w hgi) fun e a' w' hq => ?_
  cases e with
  | normal =>
    obtain ⟨s', ⟨j, hl, hj, hlt⟩, hg'⟩ := hq
    exact ⟨_, hlt, j, hj, hg'.le hl, rfl⟩
  | exit i => exact hq
  | ret => exact hq
  | goto l => exact hq.elim
  | panic c => exact hq.elim
  | outgrown => exact hq.elim

/-- The ways through a piece of code meet again. -/
theorem AWP.join {P : Program} {B : Base} {c : Code} {Q : Post} {s : St} {ι : Type} (S : ι → St) (H : ι → Prop) (h : AWP P B c ⟨fun s' => ∃ i, (S i).Le s' ∧ H i, Q.exit, Q.ret⟩ s) (hm : ∀ i s', H i → (S i).Le s' → Q.norm s') : AWP P B c Q s := .mk fun a w hg => by
  refine wp_mono (h.run a w hg) fun e a' w' hq => ?_
  cases e with
  | normal => obtain ⟨s', ⟨i, hl, hi⟩, hg'⟩ := hq; exact ⟨s', hm i s' hi hl, hg'⟩
  | exit i => exact hq
  | ret => exact hq
  | goto l => exact hq.elim
  | panic c => exact hq.elim
  | outgrown => exact hq.elim

theorem AWP.loop2 {P : Program} {B : Base} {c : Code} {Q : Post} {s : St} {α0 α1 : Type} (S : α0 → α1 → St) (H : α0 → α1 → Prop) (μ : α0 → α1 → Nat) (x0 : α0) (x1 : α1) (h0 : H x0 x1) (hs : (S x0 x1).Le s)
    (round : ∀ x0 x1, H x0 x1 → AWP P B c ⟨fun s' => ∃ y0 y1, (S y0 y1).Le s' ∧ H y0 y1 ∧ μ y0 y1 < μ x0 x1, Q.exit, Q.ret⟩ (S x0 x1)) : AWP P B (.loop c) Q s :=
  AWP.loop (ι := α0 × α1) (fun p => S p.1 p.2) (fun p => H p.1 p.2) (fun p => μ p.1 p.2) (x0, x1) h0 hs fun p hp => ⟨fun a w hg => wp_mono ((round p.1 p.2 hp).run a w hg) fun e a' w' hq => by
    cases e with
    | normal => obtain ⟨s', ⟨y0, y1, h1, h2, h3⟩, hg'⟩ := hq; exact ⟨s', ⟨(y0, y1), h1, h2, h3⟩, hg'⟩
    | exit i => exact hq
    | ret => exact hq
    | goto l => exact hq.elim
    | panic c => exact hq.elim
    | outgrown => exact hq.elim⟩
theorem AWP.join2 {P : Program} {B : Base} {c : Code} {Q : Post} {s : St} {α0 α1 : Type} (S : α0 → α1 → St) (H : α0 → α1 → Prop) (h : AWP P B c ⟨fun s' => ∃ y0 y1, (S y0 y1).Le s' ∧ H y0 y1, Q.exit, Q.ret⟩ s) (hm : ∀ x0 x1 s', H x0 x1 → (S x0 x1).Le s' → Q.norm s') : AWP P B c Q s :=
  AWP.join (ι := α0 × α1) (fun p => S p.1 p.2) (fun p => H p.1 p.2) ⟨fun a w hg => wp_mono (h.run a w hg) fun e a' w' hq => by
    cases e with
    | normal => obtain ⟨s', ⟨y0, y1, h1, h2⟩, hg'⟩ := hq; exact ⟨s', ⟨(y0, y1), h1, h2⟩, hg'⟩
    | exit i => exact hq
    | ret => exact hq
    | goto l => exact hq.elim
    | panic c => exact hq.elim
    | outgrown => exact hq.elim⟩ fun p s' h1 h2 => hm p.1 p.2 s' h1 h2

theorem AWP.loop3 {P : Program} {B : Base} {c : Code} {Q : Post} {s : St} {α0 α1 α2 : Type} (S : α0 → α1 → α2 → St) (H : α0 → α1 → α2 → Prop) (μ : α0 → α1 → α2 → Nat) (x0 : α0) (x1 : α1) (x2 : α2) (h0 : H x0 x1 x2) (hs : (S x0 x1 x2).Le s)
    (round : ∀ x0 x1 x2, H x0 x1 x2 → AWP P B c ⟨fun s' => ∃ y0 y1 y2, (S y0 y1 y2).Le s' ∧ H y0 y1 y2 ∧ μ y0 y1 y2 < μ x0 x1 x2, Q.exit, Q.ret⟩ (S x0 x1 x2)) : AWP P B (.loop c) Q s :=
  AWP.loop (ι := α0 × α1 × α2) (fun p => S p.1 p.2.1 p.2.2) (fun p => H p.1 p.2.1 p.2.2) (fun p => μ p.1 p.2.1 p.2.2) (x0, x1, x2) h0 hs fun p hp => ⟨fun a w hg => wp_mono ((round p.1 p.2.1 p.2.2 hp).run a w hg) fun e a' w' hq => by
    cases e with
    | normal => obtain ⟨s', ⟨y0, y1, y2, h1, h2, h3⟩, hg'⟩ := hq; exact ⟨s', ⟨(y0, y1, y2), h1, h2, h3⟩, hg'⟩
    | exit i => exact hq
    | ret => exact hq
    | goto l => exact hq.elim
    | panic c => exact hq.elim
    | outgrown => exact hq.elim⟩
theorem AWP.join3 {P : Program} {B : Base} {c : Code} {Q : Post} {s : St} {α0 α1 α2 : Type} (S : α0 → α1 → α2 → St) (H : α0 → α1 → α2 → Prop) (h : AWP P B c ⟨fun s' => ∃ y0 y1 y2, (S y0 y1 y2).Le s' ∧ H y0 y1 y2, Q.exit, Q.ret⟩ s) (hm : ∀ x0 x1 x2 s', H x0 x1 x2 → (S x0 x1 x2).Le s' → Q.norm s') : AWP P B c Q s :=
  AWP.join (ι := α0 × α1 × α2) (fun p => S p.1 p.2.1 p.2.2) (fun p => H p.1 p.2.1 p.2.2) ⟨fun a w hg => wp_mono (h.run a w hg) fun e a' w' hq => by
    cases e with
    | normal => obtain ⟨s', ⟨y0, y1, y2, h1, h2⟩, hg'⟩ := hq; exact ⟨s', ⟨(y0, y1, y2), h1, h2⟩, hg'⟩
    | exit i => exact hq
    | ret => exact hq
    | goto l => exact hq.elim
    | panic c => exact hq.elim
    | outgrown => exact hq.elim⟩ fun p s' h1 h2 => hm p.1 p.2.1 p.2.2 s' h1 h2

theorem AWP.loop4 {P : Program} {B : Base} {c : Code} {Q : Post} {s : St} {α0 α1 α2 α3 : Type} (S : α0 → α1 → α2 → α3 → St) (H : α0 → α1 → α2 → α3 → Prop) (μ : α0 → α1 → α2 → α3 → Nat) (x0 : α0) (x1 : α1) (x2 : α2) (x3 : α3) (h0 : H x0 x1 x2 x3) (hs : (S x0 x1 x2 x3).Le s)
    (round : ∀ x0 x1 x2 x3, H x0 x1 x2 x3 → AWP P B c ⟨fun s' => ∃ y0 y1 y2 y3, (S y0 y1 y2 y3).Le s' ∧ H y0 y1 y2 y3 ∧ μ y0 y1 y2 y3 < μ x0 x1 x2 x3, Q.exit, Q.ret⟩ (S x0 x1 x2 x3)) : AWP P B (.loop c) Q s :=
  AWP.loop (ι := α0 × α1 × α2 × α3) (fun p => S p.1 p.2.1 p.2.2.1 p.2.2.2) (fun p => H p.1 p.2.1 p.2.2.1 p.2.2.2) (fun p => μ p.1 p.2.1 p.2.2.1 p.2.2.2) (x0, x1, x2, x3) h0 hs fun p hp => ⟨fun a w hg => wp_mono ((round p.1 p.2.1 p.2.2.1 p.2.2.2 hp).run a w hg) fun e a' w' hq => by
    cases e with
    | normal => obtain ⟨s', ⟨y0, y1, y2, y3, h1, h2, h3⟩, hg'⟩ := hq; exact ⟨s', ⟨(y0, y1, y2, y3), h1, h2, h3⟩, hg'⟩
    | exit i => exact hq
    | ret => exact hq
    | goto l => exact hq.elim
    | panic c => exact hq.elim
    | outgrown => exact hq.elim⟩
theorem AWP.join4 {P : Program} {B : Base} {c : Code} {Q : Post} {s : St} {α0 α1 α2 α3 : Type} (S : α0 → α1 → α2 → α3 → St) (H : α0 → α1 → α2 → α3 → Prop) (h : AWP P B c ⟨fun s' => ∃ y0 y1 y2 y3, (S y0 y1 y2 y3).Le s' ∧ H y0 y1 y2 y3, Q.exit, Q.ret⟩ s) (hm : ∀ x0 x1 x2 x3 s', H x0 x1 x2 x3 → (S x0 x1 x2 x3).Le s' → Q.norm s') : AWP P B c Q s :=
  AWP.join (ι := α0 × α1 × α2 × α3) (fun p => S p.1 p.2.1 p.2.2.1 p.2.2.2) (fun p => H p.1 p.2.1 p.2.2.1 p.2.2.2) ⟨fun a w hg => wp_mono (h.run a w hg) fun e a' w' hq => by
    cases e with
    | normal => obtain ⟨s', ⟨y0, y1, y2, y3, h1, h2⟩, hg'⟩ := hq; exact ⟨s', ⟨(y0, y1, y2, y3), h1, h2⟩, hg'⟩
    | exit i => exact hq
    | ret => exact hq
    | goto l => exact hq.elim
    | panic c => exact hq.elim
    | outgrown => exact hq.elim⟩ fun p s' h1 h2 => hm p.1 p.2.1 p.2.2.1 p.2.2.2 s' h1 h2

theorem AWP.loop5 {P : Program} {B : Base} {c : Code} {Q : Post} {s : St} {α0 α1 α2 α3 α4 : Type} (S : α0 → α1 → α2 → α3 → α4 → St) (H : α0 → α1 → α2 → α3 → α4 → Prop) (μ : α0 → α1 → α2 → α3 → α4 → Nat) (x0 : α0) (x1 : α1) (x2 : α2) (x3 : α3) (x4 : α4) (h0 : H x0 x1 x2 x3 x4) (hs : (S x0 x1 x2 x3 x4).Le s)
    (round : ∀ x0 x1 x2 x3 x4, H x0 x1 x2 x3 x4 → AWP P B c ⟨fun s' => ∃ y0 y1 y2 y3 y4, (S y0 y1 y2 y3 y4).Le s' ∧ H y0 y1 y2 y3 y4 ∧ μ y0 y1 y2 y3 y4 < μ x0 x1 x2 x3 x4, Q.exit, Q.ret⟩ (S x0 x1 x2 x3 x4)) : AWP P B (.loop c) Q s :=
  AWP.loop (ι := α0 × α1 × α2 × α3 × α4) (fun p => S p.1 p.2.1 p.2.2.1 p.2.2.2.1 p.2.2.2.2) (fun p => H p.1 p.2.1 p.2.2.1 p.2.2.2.1 p.2.2.2.2) (fun p => μ p.1 p.2.1 p.2.2.1 p.2.2.2.1 p.2.2.2.2) (x0, x1, x2, x3, x4) h0 hs fun p hp => ⟨fun a w hg => wp_mono ((round p.1 p.2.1 p.2.2.1 p.2.2.2.1 p.2.2.2.2 hp).run a w hg) fun e a' w' hq => by
    cases e with
    | normal => obtain ⟨s', ⟨y0, y1, y2, y3, y4, h1, h2, h3⟩, hg'⟩ := hq; exact ⟨s', ⟨(y0, y1, y2, y3, y4), h1, h2, h3⟩, hg'⟩
    | exit i => exact hq
    | ret => exact hq
    | goto l => exact hq.elim
    | panic c => exact hq.elim
    | outgrown => exact hq.elim⟩
theorem AWP.join5 {P : Program} {B : Base} {c : Code} {Q : Post} {s : St} {α0 α1 α2 α3 α4 : Type} (S : α0 → α1 → α2 → α3 → α4 → St) (H : α0 → α1 → α2 → α3 → α4 → Prop) (h : AWP P B c ⟨fun s' => ∃ y0 y1 y2 y3 y4, (S y0 y1 y2 y3 y4).Le s' ∧ H y0 y1 y2 y3 y4, Q.exit, Q.ret⟩ s) (hm : ∀ x0 x1 x2 x3 x4 s', H x0 x1 x2 x3 x4 → (S x0 x1 x2 x3 x4).Le s' → Q.norm s') : AWP P B c Q s :=
  AWP.join (ι := α0 × α1 × α2 × α3 × α4) (fun p => S p.1 p.2.1 p.2.2.1 p.2.2.2.1 p.2.2.2.2) (fun p => H p.1 p.2.1 p.2.2.1 p.2.2.2.1 p.2.2.2.2) ⟨fun a w hg => wp_mono (h.run a w hg) fun e a' w' hq => by
    cases e with
    | normal => obtain ⟨s', ⟨y0, y1, y2, y3, y4, h1, h2⟩, hg'⟩ := hq; exact ⟨s', ⟨(y0, y1, y2, y3, y4), h1, h2⟩, hg'⟩
    | exit i => exact hq
    | ret => exact hq
    | goto l => exact hq.elim
    | panic c => exact hq.elim
    | outgrown => exact hq.elim⟩ fun p s' h1 h2 => hm p.1 p.2.1 p.2.2.1 p.2.2.2.1 p.2.2.2.2 s' h1 h2

theorem AWP.loop6 {P : Program} {B : Base} {c : Code} {Q : Post} {s : St} {α0 α1 α2 α3 α4 α5 : Type} (S : α0 → α1 → α2 → α3 → α4 → α5 → St) (H : α0 → α1 → α2 → α3 → α4 → α5 → Prop) (μ : α0 → α1 → α2 → α3 → α4 → α5 → Nat) (x0 : α0) (x1 : α1) (x2 : α2) (x3 : α3) (x4 : α4) (x5 : α5) (h0 : H x0 x1 x2 x3 x4 x5) (hs : (S x0 x1 x2 x3 x4 x5).Le s)
    (round : ∀ x0 x1 x2 x3 x4 x5, H x0 x1 x2 x3 x4 x5 → AWP P B c ⟨fun s' => ∃ y0 y1 y2 y3 y4 y5, (S y0 y1 y2 y3 y4 y5).Le s' ∧ H y0 y1 y2 y3 y4 y5 ∧ μ y0 y1 y2 y3 y4 y5 < μ x0 x1 x2 x3 x4 x5, Q.exit, Q.ret⟩ (S x0 x1 x2 x3 x4 x5)) : AWP P B (.loop c) Q s :=
  AWP.loop (ι := α0 × α1 × α2 × α3 × α4 × α5) (fun p => S p.1 p.2.1 p.2.2.1 p.2.2.2.1 p.2.2.2.2.1 p.2.2.2.2.2) (fun p => H p.1 p.2.1 p.2.2.1 p.2.2.2.1 p.2.2.2.2.1 p.2.2.2.2.2) (fun p => μ p.1 p.2.1 p.2.2.1 p.2.2.2.1 p.2.2.2.2.1 p.2.2.2.2.2) (x0, x1, x2, x3, x4, x5) h0 hs fun p hp => ⟨fun a w hg => wp_mono ((round p.1 p.2.1 p.2.2.1 p.2.2.2.1 p.2.2.2.2.1 p.2.2.2.2.2 hp).run a w hg) fun e a' w' hq => by
    cases e with
    | normal => obtain ⟨s', ⟨y0, y1, y2, y3, y4, y5, h1, h2, h3⟩, hg'⟩ := hq; exact ⟨s', ⟨(y0, y1, y2, y3, y4, y5), h1, h2, h3⟩, hg'⟩
    | exit i => exact hq
    | ret => exact hq
    | goto l => exact hq.elim
    | panic c => exact hq.elim
    | outgrown => exact hq.elim⟩
theorem AWP.join6 {P : Program} {B : Base} {c : Code} {Q : Post} {s : St} {α0 α1 α2 α3 α4 α5 : Type} (S : α0 → α1 → α2 → α3 → α4 → α5 → St) (H : α0 → α1 → α2 → α3 → α4 → α5 → Prop) (h : AWP P B c ⟨fun s' => ∃ y0 y1 y2 y3 y4 y5, (S y0 y1 y2 y3 y4 y5).Le s' ∧ H y0 y1 y2 y3 y4 y5, Q.exit, Q.ret⟩ s) (hm : ∀ x0 x1 x2 x3 x4 x5 s', H x0 x1 x2 x3 x4 x5 → (S x0 x1 x2 x3 x4 x5).Le s' → Q.norm s') : AWP P B c Q s :=
  AWP.join (ι := α0 × α1 × α2 × α3 × α4 × α5) (fun p => S p.1 p.2.1 p.2.2.1 p.2.2.2.1 p.2.2.2.2.1 p.2.2.2.2.2) (fun p => H p.1 p.2.1 p.2.2.1 p.2.2.2.1 p.2.2.2.2.1 p.2.2.2.2.2) ⟨fun a w hg => wp_mono (h.run a w hg) fun e a' w' hq => by
    cases e with
    | normal => obtain ⟨s', ⟨y0, y1, y2, y3, y4, y5, h1, h2⟩, hg'⟩ := hq; exact ⟨s', ⟨(y0, y1, y2, y3, y4, y5), h1, h2⟩, hg'⟩
    | exit i => exact hq
    | ret => exact hq
    | goto l => exact hq.elim
    | panic c => exact hq.elim
    | outgrown => exact hq.elim⟩ fun p s' h1 h2 => hm p.1 p.2.1 p.2.2.1 p.2.2.2.1 p.2.2.2.2.1 p.2.2.2.2.2 s' h1 h2

/-- An operand's reading. -/
inductive Rd (s : St) : Operand → TD → Prop where
  | tmp {t : Nat} {x : TD} (h : s.t t = some x) : Rd s (.tmp t) x
  | int {k : IntKind} {n : Int} (h : InR k n) : Rd s (.const (.int k n)) (.val (.int k n))
  | bool {b : Bool} : Rd s (.const (.bool b)) (.val (.bool b))
  | str {l : ByteArray} (h : l.size ≤ maxLen) : Rd s (.const (.string l)) (.val (.str l.data.toList))
  | nilInts {k : IntKind} : Rd s (.const (.slice none 0 0)) (.val (.ints k []))
  | nilSl {z : Nat} : Rd s (.const (.slice none 0 0)) (.val (.sl z []))
  | const {v : Value} {d : D} (h : ∀ R w, Holds R w d v) : Rd s (.const v) (.val d)
  | weak {x : Operand} : Rd s x .un

theorem Rd.holds {B : Base} {R : Nat → Prop} {ad : Nat → Option Nat} {s : St} {a : Act} {w : World} {x : Operand} {d : TD} (hi : Inv B R ad s a w) (h : Rd s x d) : HoldsT R ad w d (a.eval x) := by
  cases h with
  | tmp h =>
    obtain ⟨v, hv, hh⟩ := hi.tm _ _ h
    simpa [Act.eval, hv] using hh
  | int h => exact .int _ _ h
  | bool => exact .bool _
  | str h => exact .str _ h
  | nilInts => exact .intsNil _
  | nilSl => exact .slNil _
  | const h => exact h _ _
  | weak => trivial

/-- One operation, asked for or not, takes s to s'. -/
def OpOK (P : Program) (B : Base) (ops : Array Oper) (o : Oper) (s s' : St) : Prop :=
  ∀ a w, Good B s a w → ∀ (K : Act → World → Prop) (Q : Exit → Act → World → Prop), (∀ a' w', Good B s' a' w' → K a' w') →
    if Region.wanted o (yielded ops a.tmps) then o.wp P a w K Q else K (a.put o.dst undef) w

/-- One operation that is asked for. -/
structure OpDo (P : Program) (B : Base) (o : Oper) (s s' : St) : Prop where
  run : ∀ a w, Good B s a w → ∀ (K : Act → World → Prop) (Q : Exit → Act → World → Prop), (∀ a' w', Good B s' a' w' → K a' w') → o.wp P a w K Q

inductive RunL (P : Program) (B : Base) (ops : Array Oper) : List Oper → (St → Prop) → St → Prop where
  | nil {K : St → Prop} {s : St} (h : K s) : RunL P B ops [] K s
  | cons {o : Oper} {r : List Oper} {K : St → Prop} {s s' : St} (h : OpOK P B ops o s s') (hr : RunL P B ops r K s') : RunL P B ops (o :: r) K s

/-- an operation without a guard -/
theorem RunL.step {P : Program} {B : Base} {ops : Array Oper} {o : Oper} {r : List Oper} {K : St → Prop} {s : St} (s' : St) (hg : o.guard = none) (h : OpDo P B o s s') (hr : RunL P B ops r K s') : RunL P B ops (o :: r) K s :=
  .cons (s' := s') (fun a w hgd KK QQ hk => by
    have : Region.wanted o (yielded ops a.tmps) = true := by simp [Region.wanted, hg]
    rw [if_pos this]; exact h.run a w hgd KK QQ hk) hr

theorem yielded_of {B : Base} {s : St} {a : Act} {w : World} {ops : Array Oper} {j g : Nat} {o : Oper} {b : Bool} (hgd : Good B s a w) (ho : ops[j]? = some o) (hd : o.dst = some g) (hs : s.t g = some (.val (.bool b))) :
    yielded ops a.tmps j = some b := by
  obtain ⟨R, ad, hi⟩ := hgd
  obtain ⟨v, hv, hh⟩ := hi.tm _ _ hs
  cases hh
  simp [yielded, ho, hd, hv]

/-- an operation whose guard says yes -/
theorem RunL.yes {P : Program} {B : Base} {ops : Array Oper} {o : Oper} {r : List Oper} {K : St → Prop} {s : St} (s' : St) {j g : Nat} {b c : Bool} {oj : Oper} (hg : o.guard = some (j, c)) (ho : ops[j]? = some oj) (hd : oj.dst = some g)
    (hs : s.t g = some (.val (.bool b))) (hb : b = c) (h : OpDo P B o s s') (hr : RunL P B ops r K s') : RunL P B ops (o :: r) K s :=
  .cons (s' := s') (fun a w hgd KK QQ hk => by
    have : Region.wanted o (yielded ops a.tmps) = true := by simp [Region.wanted, hg, yielded_of hgd ho hd hs, hb]
    rw [if_pos this]; exact h.run a w hgd KK QQ hk) hr

theorem Inv.put {B : Base} {R : Nat → Prop} {ad : Nat → Option Nat} {s : St} {a : Act} {w : World} (h : Inv B R ad s a w) {d : Nat} {x : TD} {v : Value} (hd : Nat.blt d B.N = true) (hx : HoldsT R ad w x v) : Inv B R ad (s.setT d x) (a.put (some d) v) w := by
  refine { h with df := h.df, sz := by simp [Act.put, h.sz], bx := h.bx, tm := fun t y ht => ?_ }
  rw [St.t_setT] at ht
  have hl : d < a.tmps.size := by rw [h.sz]; exact Nat.le_of_ble_eq_true hd
  by_cases e : d = t
  · subst e
    rw [if_pos rfl] at ht
    cases ht
    exact ⟨v, by simp [Act.put, hl], hx⟩
  · rw [if_neg e] at ht
    obtain ⟨v', hv', hh⟩ := h.tm _ _ ht
    exact ⟨v', by simp [Act.put, Array.getElem?_setIfInBounds_ne e, hv'], hh⟩

theorem Good.put {B : Base} {s : St} {a : Act} {w : World} (h : Good B s a w) {d : Nat} (v : Value) (hd : Nat.blt d B.N = true) : Good B (s.setT d .un) (a.put (some d) v) w := by
  obtain ⟨R, ad, h⟩ := h
  exact ⟨R, ad, h.put hd trivial⟩

/-- a temporary of an operation that was not asked for -/
abbrev TD.off : TD := .val (.tup [])
theorem Good.putOff {B : Base} {s : St} {a : Act} {w : World} (h : Good B s a w) {d : Nat} (hd : Nat.blt d B.N = true) : Good B (s.setT d .off) (a.put (some d) undef) w := by
  obtain ⟨R, ad, h⟩ := h
  exact ⟨R, ad, h.put hd (Holds.tup [] #[] rfl fun i d v h => by simp at h)⟩
theorem yielded_off {B : Base} {s : St} {a : Act} {w : World} {ops : Array Oper} {j g : Nat} {o : Oper} (hgd : Good B s a w) (ho : ops[j]? = some o) (hd : o.dst = some g) (hs : s.t g = some .off) :
    yielded ops a.tmps j = none := by
  obtain ⟨R, ad, hi⟩ := hgd
  obtain ⟨v, hv, hh⟩ := hi.tm _ _ hs
  cases hh
  simp [yielded, ho, hd, hv]
/-- an operation whose guard looks at one that was not asked for -/
theorem RunL.noU {P : Program} {B : Base} {ops : Array Oper} {o : Oper} {r : List Oper} {K : St → Prop} {s : St} {j g d : Nat} {c : Bool} {oj : Oper} (hg : o.guard = some (j, c)) (ho : ops[j]? = some oj) (hd : oj.dst = some g)
    (hs : s.t g = some .off) (hdst : o.dst = some d) (hN : Nat.blt d B.N = true) (hr : RunL P B ops r K (s.setT d .off)) : RunL P B ops (o :: r) K s :=
  .cons (fun a w hgd KK QQ hk => by
    have : Region.wanted o (yielded ops a.tmps) = false := by simp [Region.wanted, hg, yielded_off hgd ho hd hs]
    rw [if_neg (by simp [this]), hdst]; exact hk _ _ (hgd.putOff hN)) hr
/-- an operation whose guard says no -/
theorem RunL.no {P : Program} {B : Base} {ops : Array Oper} {o : Oper} {r : List Oper} {K : St → Prop} {s : St} {j g d : Nat} {b c : Bool} {oj : Oper} (hg : o.guard = some (j, c)) (ho : ops[j]? = some oj) (hd : oj.dst = some g)
    (hs : s.t g = some (.val (.bool b))) (hb : b = !c) (hdst : o.dst = some d) (hN : Nat.blt d B.N = true) (hr : RunL P B ops r K (s.setT d .off)) : RunL P B ops (o :: r) K s :=
  .cons (fun a w hgd KK QQ hk => by
    have : Region.wanted o (yielded ops a.tmps) = false := by simp [Region.wanted, hg, yielded_of hgd ho hd hs, hb]
    rw [if_neg (by simp [this]), hdst]; exact hk _ _ (hgd.putOff hN)) hr
/-- an operation whose guard says no, and that writes to no temporary -/
theorem RunL.no' {P : Program} {B : Base} {ops : Array Oper} {o : Oper} {r : List Oper} {K : St → Prop} {s : St} {j g : Nat} {b c : Bool} {oj : Oper} (hg : o.guard = some (j, c)) (ho : ops[j]? = some oj) (hd : oj.dst = some g)
    (hs : s.t g = some (.val (.bool b))) (hb : b = !c) (hdst : o.dst = none) (hr : RunL P B ops r K s) : RunL P B ops (o :: r) K s :=
  .cons (fun a w hgd KK QQ hk => by
    have : Region.wanted o (yielded ops a.tmps) = false := by simp [Region.wanted, hg, yielded_of hgd ho hd hs, hb]
    rw [if_neg (by simp [this]), hdst]; exact hk _ _ hgd) hr

theorem wpOps_of_runL {P : Program} {B : Base} {ops : Array Oper} {Q : Post} : ∀ (l : List Oper) (n : Nat) (s : St) (a : Act) (w : World), ops.toList.drop n = l → RunL P B ops l Q.norm s → Good B s a w →
    wpOps P ops (Q.at B) (List.range' n l.length) a w := by
  intro l
  induction l with
  | nil => intro n s a w _ h hg; cases h with | nil h => exact ⟨s, h, hg⟩
  | cons o r ih =>
    intro n s a w hl h hg
    cases h with
    | @cons _ _ _ _ s' ho hr =>
      have hn : ops[n]? = some o := by
        have := congrArg (·[0]?) hl
        simpa using this
      have hl' : ops.toList.drop (n + 1) = r := by rw [← List.drop_drop, hl]; simp
      simp only [List.length_cons, List.range'_succ, wpOps, hn]
      have := ho a w hg (wpOps P ops (Q.at B) (List.range' (n + 1) r.length)) (Q.at B) fun a' w' hg' => ih (n + 1) s' a' w' hl' hr hg'
      split
      · rename_i hw
        rw [if_pos hw] at this
        exact .inl this
      · rename_i hw
        rw [if_neg hw] at this
        exact this

theorem AWP.region {P : Program} {B : Base} {id : Nat} {ops : Array Oper} {Q : Post} {s : St} (l : List Oper) (hl : ops.toList = l) (h : RunL P B ops l Q.norm s) : AWP P B (.region id ops false) Q s := .mk fun a w hg => by
  refine wp_region ?_
  subst hl
  have := wpOps_of_runL (Q := Q) ops.toList 0 s a w rfl h hg
  rw [List.range_eq_range']
  simpa using this

theorem AWP.cond {P : Program} {B : Base} {c : Operand} {x y : Code} {Q : Post} {s : St} (b : Bool) (hc : Rd s c (.val (.bool b))) (ht : b = true → AWP P B x Q s) (hf : b = false → AWP P B y Q s) : AWP P B (.cond c x y) Q s := .mk fun a w hg => by
  obtain ⟨R, ad, hi⟩ := hg
  have h := hc.holds hi
  have e : a.eval c = .bool b := by
    simp only [HoldsT] at h
    generalize a.eval c = v at h
    cases h; rfl
  exact wp_cond_split e (fun e => (ht e).run a w ⟨R, ad, hi⟩) (fun e => (hf e).run a w ⟨R, ad, hi⟩)

theorem add_lit (b off n : Nat) : (⟨b, off, none⟩ : Addr).add n = ⟨b, off + n, none⟩ := by unfold Addr.add; split <;> simp_all

theorem run_loadFrom {P : Program} {w : World} {b off : Nat} : ∀ (n i : Nat) (acc : Array Value) (vs : Nat → Value), (∀ j, j < n → w.cell? ⟨b, off + (i + j), none⟩ = some (vs (i + j))) →
    (loadCellsFrom ⟨b, off, none⟩ i n acc).run P w = .ok (acc ++ ((List.range' i n).map vs).toArray) w := by
  intro n
  induction n with
  | zero => intro i acc vs h; simp [loadCellsFrom]
  | succ n ih =>
    intro i acc vs h
    have h0 := h 0 (by omega)
    simp only [Nat.add_zero] at h0
    simp only [loadCellsFrom, Sem.run_bind, run_load, add_lit, h0, Result.andThen_ok]
    rw [ih (i + 1) (acc.push (vs i)) vs (fun j hj => by have := h (j + 1) (by omega); rwa [show i + (j + 1) = i + 1 + j by omega] at this)]
    simp [List.range'_succ]

theorem run_loadCells' {P : Program} {w : World} {b off n : Nat} (vs : Nat → Value) (h : ∀ j, j < n → w.cell? ⟨b, off + j, none⟩ = some (vs j)) :
    (loadCells ⟨b, off, none⟩ n).run P w = .ok ((List.range n).map vs).toArray w := by
  unfold loadCells
  rw [run_loadFrom n 0 #[] vs (by simpa using h)]
  simp [List.range_eq_range']

/-- A type whose values are of one cell; one whose values are aggregates of n cells. -/
def OneT (P : Program) (T : TypeId) : Prop := ∃ d, P.underlying T = some d ∧ (match d with | .struct _ | .array _ _ => false | _ => true) = true ∧ (P.info? T).map (·.size) = some 1
def AggT (P : Program) (T n : TypeId) : Prop := ∃ d, P.underlying T = some d ∧ (match d with | .struct _ | .array _ _ => true | _ => false) = true ∧ (P.info? T).map (·.size) = some n

theorem OneT.run {P : Program} {T : TypeId} (h : OneT P T) (w : World) : (isAgg T).run P w = .ok false w ∧ (sizeOf T).run P w = .ok 1 w := by
  obtain ⟨d, hd, hm, hs⟩ := h
  constructor
  · cases d <;> simp at hm <;> simp [isAgg, underlying, hd]
  · cases hi : P.info? T with
    | none => simp [hi] at hs
    | some i => simp [hi] at hs; simp [sizeOf, typeInfo, hi, hs]
theorem AggT.run {P : Program} {T n : TypeId} (h : AggT P T n) (w : World) : (isAgg T).run P w = .ok true w ∧ (sizeOf T).run P w = .ok n w := by
  obtain ⟨d, hd, hm, hs⟩ := h
  constructor
  · cases d <;> simp at hm <;> simp [isAgg, underlying, hd]
  · cases hi : P.info? T with
    | none => simp [hi] at hs
    | some i => simp [hi] at hs; simp [sizeOf, typeInfo, hi, hs]

/-- What a call's result variable holds. -/
inductive ResOK (P : Program) (s : St) : ResultVar → D → Prop where
  | tmp {t : Nat} {d : D} (h : s.t t = some (.val d)) : ResOK P s (.tmp t) d
  | agg {t k T n : Nat} {ds : List D} {x : Bx} (ha : AggT P T n) (h : s.t t = some (.pb k 0)) (hb : s.b k = some x) (hds : x.ds = ds) (hn : ds.length = n) : ResOK P s (.cell t T) (.agg ds)
  | one {t k T : Nat} {d : D} {x : Bx} (ha : OneT P T) (h : s.t t = some (.pb k 0)) (hb : s.b k = some x) (hds : x.ds = [d]) : ResOK P s (.cell t T) d

theorem cells_of_row {w : World} {b T : Nat} {cs : Array Value} (h : w.heap[b]? = some (.cells cs T (0, 0))) (j : Nat) : w.cell? ⟨b, j, none⟩ = cs[j]? := by simp [World.cell?, h]

def resOf (tmps : Array Value) (r : ResultVar) : Sem Value :=
  match r with
  | .tmp t => pure (tmps.getD t undef)
  | .cell a t => do loadVar t (← asAddr (tmps.getD a undef))

theorem ResOK.run {P : Program} {B : Base} {R : Nat → Prop} {ad : Nat → Option Nat} {s : St} {a : Act} {w : World} {r : ResultVar} {d : D} (hi : Inv B R ad s a w) (h : ResOK P s r d) :
    ∃ v, (resOf a.tmps r).run P w = .ok v w ∧ Holds R w d v := by
  cases h with
  | tmp h =>
    obtain ⟨v, hv, hh⟩ := hi.tm _ _ h
    exact ⟨v, by simp [resOf, hv], hh⟩
  | agg ha h hb hds hn =>
    obtain ⟨v, hv, b, hb1, rfl⟩ := hi.tm _ _ h
    obtain ⟨b', hb2, cs, hc, hsz, hh⟩ := hi.bx _ _ hb
    rw [hb1] at hb2; cases hb2
    subst hds
    refine ⟨.agg cs, ?_, .agg _ _ hsz hh⟩
    have hl := run_loadCells' (P := P) (w := w) (b := b) (off := 0) (n := cs.size) (fun j => cs[j]?.getD undef) (fun j hj => by rw [cells_of_row hc]; simp [hj])
    have e : ((List.range cs.size).map fun j => cs[j]?.getD undef).toArray = cs := by
      apply Array.ext
      · simp
      · intro i h1 h2; simp [h2]
    rw [e] at hl
    rw [hsz, hn] at hl
    simp [resOf, hv, asAddr, loadVar, (ha.run w).1, (ha.run w).2, hl]
  | one ha h hb hds =>
    obtain ⟨v, hv, b, hb1, rfl⟩ := hi.tm _ _ h
    obtain ⟨b', hb2, cs, hc, hsz, hh⟩ := hi.bx _ _ hb
    rw [hb1] at hb2; cases hb2
    rw [hds] at hsz hh
    have h0 : 0 < cs.size := by simp at hsz; omega
    refine ⟨cs[0], ?_, hh 0 _ _ rfl (by simp [h0])⟩
    have := cells_of_row hc 0
    simp [resOf, hv, asAddr, loadVar, (ha.run w).1, this, h0]

inductive ResAll (P : Program) (s : St) : List ResultVar → List D → Prop where
  | nil : ResAll P s [] []
  | cons {r : ResultVar} {d : D} {rs : List ResultVar} {ds : List D} (h : ResOK P s r d) (hs : ResAll P s rs ds) : ResAll P s (r :: rs) (d :: ds)

theorem ResAll.run {P : Program} {B : Base} {R : Nat → Prop} {ad : Nat → Option Nat} {s : St} {a : Act} {w : World} {rs : List ResultVar} {ds : List D} (hi : Inv B R ad s a w) (h : ResAll P s rs ds) :
    ∃ vs : List Value, (rs.mapM (resOf a.tmps)).run P w = .ok vs w ∧ vs.length = ds.length ∧ ∀ (i : Nat) (d : D) (v : Value), ds[i]? = some d → vs[i]? = some v → Holds R w d v := by
  induction h with
  | nil => exact ⟨[], by simp, rfl, fun i d v h => by simp at h⟩
  | @cons r d rs ds h hs ih =>
    obtain ⟨vs, h1, h2, h3⟩ := ih
    obtain ⟨v, h4, h5⟩ := h.run hi
    refine ⟨v :: vs, ?_, by simp [h2], ?_⟩
    · rw [List.mapM_cons]
      simp only [Sem.run_bind]
      rw [h4]
      simp only [Result.andThen_ok]
      rw [h1]
      simp
    · intro i d' v' hd hv
      cases i with
      | zero => simp at hd hv; subst hd hv; exact h5
      | succ i => exact h3 i d' v' (by simpa using hd) (by simpa using hv)

/-- The datum that a call hands back: one result, or a tuple. -/
def pack : List D → D
  | [d] => d
  | ds => .tup ds

theorem ResAll.results {P : Program} {B : Base} {R : Nat → Prop} {ad : Nat → Option Nat} {s : St} {a : Act} {w : World} {fn : Func} {ds : List D} (hi : Inv B R ad s a w) (h : ResAll P s fn.results.toList ds) :
    ∃ v, (Go.results fn a.tmps).run P w = .ok v w ∧ Holds R w (pack ds) v := by
  obtain ⟨vs, h1, h2, h3⟩ := h.run hi
  have e : (Go.results fn a.tmps).run P w = .ok (if h : vs.length = 1 then vs[0] else .tuple vs.toArray) w := by
    have e0 : Go.results fn a.tmps = (do
        let vs ← fn.results.mapM (resOf a.tmps)
        pure (if h : vs.size = 1 then vs[0] else .tuple vs)) := by
      unfold Go.results
      congr 1
    rw [e0, Array.mapM_eq_mapM_toList]
    simp only [Sem.run_bind, Sem.run_map]
    rw [h1]
    simp
  refine ⟨_, e, ?_⟩
  clear e h1 h
  match ds, vs, h2, h3 with
  | [], [], _, _ => exact .tup [] #[] rfl (fun i d v h => by simp at h)
  | [d], [v], _, h3 => exact h3 0 d v rfl rfl
  | d :: d' :: ds, v :: v' :: vs, h2, h3 =>
    have e2 : (v :: v' :: vs).length ≠ 1 := by simp
    rw [dif_neg e2]
    exact .tup _ _ (by simpa using h2) (fun i d v hd hv => h3 i d v hd (by simpa using hv))

def initTm : Nat → List D → List (Nat × TD)
  | _, [] => []
  | n, d :: ds => (n, .val d) :: initTm (n + 1) ds

theorem get_initTm : ∀ (ds : List D) (n m : Nat) (x : TD), get (initTm n ds) m = some x → ∃ i d, m = n + i ∧ ds[i]? = some d ∧ x = .val d := by
  intro ds
  induction ds with
  | nil => intro n m x h; simp [initTm, get] at h
  | cons d ds ih =>
    intro n m x h
    simp only [initTm, get] at h
    by_cases e : n = m
    · subst e
      simp [Nat.beq_refl] at h
      exact ⟨0, d, by omega, rfl, h.symm⟩
    · rw [beq_false e] at h
      obtain ⟨i, d', h1, h2, h3⟩ := ih (n + 1) m x h
      exact ⟨i + 1, d', by omega, by simpa using h2, h3⟩

def Ends (P : Program) (fn : Func) (d : D) (s : St) : Prop := ∃ ds, ResAll P s fn.results.toList ds ∧ pack ds = d

theorem Ends.mk {P : Program} {fn : Func} {d : D} {s : St} {ds : List D} (h : ResAll P s fn.results.toList ds) (e : pack ds = d) : Ends P fn d s := ⟨ds, h, e⟩

theorem evals_of_awp {P : Program} {f : FuncId} {fn : Func} {c : Code} {ds : List D} {d : D} (hf : P.funcs[f]? = some fn) (hb : fn.body = some c) (ok : CallOK P f) (hn : ds.length ≤ fn.ntmps)
    (h : ∀ w R, (∀ b, R b → b < w.heap.size) → (∃ vs, HoldsAll R w ds vs) → AWP P ⟨w, R, fn.ntmps, fun _ => False, R⟩ c ⟨Ends P fn d, fun _ _ => False, Ends P fn d⟩ ⟨initTm 0 ds, []⟩) : Evals P f ds d := by
  refine ⟨ok, fun R w vs hR hgm hv => calls_of_wp hf hb ?_⟩
  have hg : Good ⟨w, R, fn.ntmps, fun _ => False, R⟩ ⟨initTm 0 ds, []⟩ { tmps := vs ++ Array.replicate (fn.ntmps - vs.size) undef, defers := [] } w := by
    refine ⟨R, fun _ => none, ⟨rfl, ?_, fun _ h => h, fun b hb => ⟨.inl hb, hR b hb⟩, BelowX.refl _ _, hgm, fun _ _ h => h, fun k b h => by simp at h, fun k k' b h => by simp at h, fun _ h => h.elim, fun k x h => by simp [St.b, get] at h, ?_⟩⟩
    · have := hv.1; simp; omega
    · intro t x ht
      obtain ⟨i, d, h1, h2, h3⟩ := get_initTm ds 0 t x ht
      subst h3
      have hi : i < vs.size := by
        have := hv.1
        have := (List.getElem?_eq_some_iff.1 h2).1
        omega
      have e : t = i := by omega
      subst e
      refine ⟨vs[t], by simp [Array.getElem?_append, hi], hv.2 t d _ h2 (by simp [hi])⟩
  refine wp_mono ((h w R hR ⟨vs, hv⟩).run _ w hg) fun e a' w' hq => ?_
  have key : ∀ s, Ends P fn d s → Good ⟨w, R, fn.ntmps, fun _ => False, R⟩ s a' w' → a'.defers = [] ∧ ∃ v, (results fn a'.tmps).run P w' = .ok v w' ∧ Gives R w d (.returned v) w' := by
    rintro s ⟨ds', hra, rfl⟩ ⟨R', ad, hi⟩
    obtain ⟨v, hr, hh⟩ := hra.results hi
    exact ⟨hi.df, v, hr, v, R', rfl, hi.below.to, hi.R0, hi.Rn, hh⟩
  cases e with
  | normal => obtain ⟨s, h1, h2⟩ := hq; exact key s h1 h2
  | ret => obtain ⟨s, h1, h2⟩ := hq; exact key s h1 h2
  | exit i => obtain ⟨s, h1, h2⟩ := hq; exact h1.elim
  | goto l => exact hq.elim
  | panic c => exact hq.elim
  | outgrown => exact hq.elim

end Go.Proofs.YtffcpgebgoineaaDoor.K
