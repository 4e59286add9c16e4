/- How data lie in memory: values of a kind, rows of them, rows of the call's own. Plain definitions and lemmas; no program in sight. -/
import Derived.Below
import Derived.Deep.Draws
import Derived.Deep.AppendLies
import Derived.Maps.AppendAt
import Derived.OwnWalk
import Derived.Laws.MakeOwn
import Derived.Laws.OwnMore
import Derived.Deep.OwnRows
import Derived.WalkKit
import Derived.KernelRfl
import Derived.RowKit3
import Derived.Deep.QuietTactic
import Derived.BigQuiet
import Derived.Laws.Rows
import Derived.Lib.Hide
import Derived.Outline
import Derived.Laws.Slices
import Derived.Laws.Entries
import Derived.WalkSpells
namespace Go.Proofs.Ytehgiijpmldiiaa
open Go.RowKit
set_option linter.unusedVariables false
set_option linter.unusedSimpArgs false

theorem ret_int {k : IntKind} {a b : Int} (h : a = b) : Ending.returned (.int k a) = .returned (.int k b) := by rw [h]
theorem ret_bool {a b : Bool} (h : a = b) : Ending.returned (.bool a) = .returned (.bool b) := by rw [h]
theorem val_int {k : IntKind} {a b : Int} (h : a = b) : Value.int k a = .int k b := by rw [h]
theorem block_add (a : Addr) (n : Nat) : (a.add n).block = a.block := by unfold Addr.add; split <;> rfl
theorem add_add' (a : Addr) (i j : Nat) : (a.add i).add j = a.add (i + j) := by
  unfold Addr.add
  by_cases hi : i = 0 <;> by_cases hj : j = 0 <;> simp [hi, hj, Nat.add_assoc]
theorem add_pos' (a : Addr) (i j : Nat) (hj : j ≠ 0) : a.add (i + j) = ⟨(a.add i).block, (a.add i).off + j, none⟩ := by
  rw [← add_add']; simp [Addr.add, hj]

theorem below_drewN' {B : Nat} {a w : World} (h : Below B a w) (n : Nat) : Below B a (w.drewN n) := ⟨h.os, h.tape, h.output, h.size, h.block⟩
theorem below_then {B : Nat} {w w1 w2 : World} (h : Below B w w1) (hB : B ≤ w1.heap.size) (k : Below w1.heap.size w1 w2) : Below B w w2 :=
  h.trans (k.mono hB)

/-- Values of a kind: how many cells; what the cells say in a world, read from blocks of S alone. -/
structure Kd (α : Type) where
  sz : Nat
  K : World → (Nat → Prop) → α → List Value → Prop
  len : ∀ {w S x cs}, K w S x cs → cs.length = sz
  one : ∀ {w S x cs}, K w S x cs → ∀ u ∈ cs, u.oneCell' = true
  mono : ∀ {w} {S S' : Nat → Prop} {x cs}, (∀ k, S k → S' k) → K w S x cs → K w S' x cs
  bound : ∀ {w : World} {S x cs}, K w S x cs → K w (fun k => S k ∧ k < w.heap.size) x cs
  move : ∀ {w w' : World} {S x cs}, (∀ k, S k → w'.heap[k]? = w.heap[k]?) → K w S x cs → K w' S x cs

/-- A row of values, read. -/
def Row {α : Type} (d : Kd α) (w : World) (S : Nat → Prop) (A : Option Addr) (xs : List α) : Prop :=
  xs.length ≤ 9223372036854775807 ∧ (xs ≠ [] → ∃ ad, A = some ad ∧ S ad.block ∧ ad.block < w.heap.size ∧
    ∀ j x, xs[j]? = some x → ∃ c, d.K w S x c ∧ ∀ i u, c[i]? = some u → w.cell? (ad.add (j * d.sz + i)) = some u)

section
variable {α : Type} {d : Kd α} {w w' : World} {S S' : Nat → Prop} {A : Option Addr} {xs : List α} {x : α} {cs : List Value}
theorem Kd.step (h : d.K w S x cs) (hm : ∀ k, S k → k < w.heap.size → w'.heap[k]? = w.heap[k]?) : d.K w' S x cs :=
  d.mono (fun _ hk => hk.1) (d.move (fun k hk => hm k hk.1 hk.2) (d.bound h))
theorem Kd.below {B : Nat} (h : d.K w S x cs) (hb : Below B w w') (hS : ∀ k, S k → k < w.heap.size → k < B) : d.K w' S x cs :=
  Kd.step h fun k h1 h2 => hb.block k (hS k h1 h2)
theorem Kd.belowAll (h : d.K w S x cs) (hb : Below w.heap.size w w') : d.K w' S x cs := Kd.below h hb fun _ _ h => h
theorem Row.nil (d : Kd α) (w : World) (S : Nat → Prop) (A : Option Addr) : Row d w S A [] := ⟨by simp, fun h => absurd rfl h⟩
theorem Row.mono (hS : ∀ k, S k → S' k) (h : Row d w S A xs) : Row d w S' A xs :=
  ⟨h.1, fun hn => by
    obtain ⟨ad, e, hb, hl, hc⟩ := h.2 hn
    refine ⟨ad, e, hS _ hb, hl, fun j x hj => ?_⟩
    obtain ⟨c, hk, hcell⟩ := hc j x hj
    exact ⟨c, d.mono hS hk, hcell⟩⟩
theorem Row.bound (h : Row d w S A xs) : Row d w (fun k => S k ∧ k < w.heap.size) A xs :=
  ⟨h.1, fun hn => by
    obtain ⟨ad, e, hb, hl, hc⟩ := h.2 hn
    refine ⟨ad, e, ⟨hb, hl⟩, hl, fun j x hj => ?_⟩
    obtain ⟨c, hk, hcell⟩ := hc j x hj
    exact ⟨c, d.bound hk, hcell⟩⟩
theorem lt_of_heap {w w' : World} {k : Nat} (h : w'.heap[k]? = w.heap[k]?) (hk : k < w.heap.size) : k < w'.heap.size := by
  rcases Nat.lt_or_ge k w'.heap.size with hlt | hge
  · exact hlt
  · rw [Array.getElem?_eq_none hge, Array.getElem?_eq_getElem hk] at h; cases h
theorem Row.move (hm : ∀ k, S k → w'.heap[k]? = w.heap[k]?) (h : Row d w S A xs) : Row d w' S A xs :=
  ⟨h.1, fun hn => by
    obtain ⟨ad, e, hb, hl, hc⟩ := h.2 hn
    refine ⟨ad, e, hb, lt_of_heap (hm _ hb) hl, fun j x hj => ?_⟩
    obtain ⟨c, hk, hcell⟩ := hc j x hj
    exact ⟨c, d.move hm hk, fun i u hu => (World.cell?_of_block (w := w) (by rw [block_add]; exact hm _ hb)).trans (hcell i u hu)⟩⟩
theorem Row.step (h : Row d w S A xs) (hm : ∀ k, S k → k < w.heap.size → w'.heap[k]? = w.heap[k]?) : Row d w' S A xs :=
  Row.mono (fun _ hk => hk.1) (Row.move (fun k hk => hm k hk.1 hk.2) (Row.bound h))
theorem Row.below {B : Nat} (h : Row d w S A xs) (hb : Below B w w') (hS : ∀ k, S k → k < w.heap.size → k < B) : Row d w' S A xs :=
  Row.step h fun k h1 h2 => hb.block k (hS k h1 h2)
theorem Row.belowAll (h : Row d w S A xs) (hb : Below w.heap.size w w') : Row d w' S A xs := Row.below h hb fun _ _ h => h
theorem Row.drewN (h : Row d w S A xs) (n : Nat) : Row d (w.drewN n) S A xs := Row.move (w := w) (w' := w.drewN n) (fun _ _ => rfl) h
theorem Kd.drewN (h : d.K w S x cs) (n : Nat) : d.K (w.drewN n) S x cs := d.move (w := w) (w' := w.drewN n) (fun _ _ => rfl) h
/-- An element of a row: its cells and where they lie. -/
theorem Row.get (h : Row d w S A xs) {j : Nat} (hj : j < xs.length) : ∃ ad c, A = some ad ∧ S ad.block ∧ ad.block < w.heap.size ∧ d.K w S xs[j] c ∧ ∀ i u, c[i]? = some u → w.cell? (ad.add (j * d.sz + i)) = some u := by
  obtain ⟨ad, e, hb, hl, hc⟩ := h.2 (by rintro rfl; simp at hj)
  obtain ⟨c, hk, hcell⟩ := hc j _ (List.getElem?_eq_getElem hj)
  exact ⟨ad, c, e, hb, hl, hk, hcell⟩
end

namespace Kd
def scalar {α : Type} (enc : α → Value) (h1 : ∀ x, (enc x).oneCell' = true) : Kd α where
  sz := 1
  K := fun _ _ x cs => cs = [enc x]
  len := fun h => by rw [h]; rfl
  one := fun h u hu => by rw [h] at hu; rw [List.mem_singleton.1 hu]; exact h1 _
  mono := fun _ h => h
  bound := fun h => h
  move := fun _ h => h
/-- A number of its kind. -/
def int : Kd Int where
  sz := 1
  K := fun _ _ x cs => cs = [.int .i64 x] ∧ -9223372036854775808 ≤ x ∧ x ≤ 9223372036854775807
  len := fun h => by rw [h.1]; rfl
  one := fun h u hu => by rw [h.1] at hu; rw [List.mem_singleton.1 hu]; rfl
  mono := fun _ h => h
  bound := fun h => h
  move := fun _ h => h
def byte : Kd Int where
  sz := 1
  K := fun _ _ x cs => cs = [.int .u8 x] ∧ 0 ≤ x ∧ x ≤ 255
  len := fun h => by rw [h.1]; rfl
  one := fun h u hu => by rw [h.1] at hu; rw [List.mem_singleton.1 hu]; rfl
  mono := fun _ h => h
  bound := fun h => h
  move := fun _ h => h
def slice {α : Type} (d : Kd α) : Kd (List α) where
  sz := 1
  K := fun w S xs cs => ∃ A c, cs = [.slice A xs.length c] ∧ xs.length ≤ c ∧ Row d w S A xs
  len := by rintro w S x cs ⟨A, c, rfl, _⟩; rfl
  one := by
    rintro w S x cs ⟨A, c, rfl, _⟩ u hu
    rw [List.mem_singleton.1 hu]; rfl
  mono := by rintro w S S' x cs hS ⟨A, c, rfl, hl, hr⟩; exact ⟨A, c, rfl, hl, Row.mono hS hr⟩
  bound := by rintro w S x cs ⟨A, c, rfl, hl, hr⟩; exact ⟨A, c, rfl, hl, Row.bound hr⟩
  move := by rintro w w' S x cs hm ⟨A, c, rfl, hl, hr⟩; exact ⟨A, c, rfl, hl, Row.move hm hr⟩
def pair {α β : Type} (a : Kd α) (b : Kd β) : Kd (α × β) where
  sz := a.sz + b.sz
  K := fun w S x cs => ∃ c0 c1, cs = c0 ++ c1 ∧ a.K w S x.1 c0 ∧ b.K w S x.2 c1
  len := by rintro w S x cs ⟨c0, c1, rfl, h0, h1⟩; rw [List.length_append, a.len h0, b.len h1]
  one := by
    rintro w S x cs ⟨c0, c1, rfl, h0, h1⟩ u hu
    rcases List.mem_append.1 hu with hu | hu
    · exact a.one h0 u hu
    · exact b.one h1 u hu
  mono := by rintro w S S' x cs hS ⟨c0, c1, rfl, h0, h1⟩; exact ⟨c0, c1, rfl, a.mono hS h0, b.mono hS h1⟩
  bound := by rintro w S x cs ⟨c0, c1, rfl, h0, h1⟩; exact ⟨c0, c1, rfl, a.bound h0, b.bound h1⟩
  move := by rintro w w' S x cs hm ⟨c0, c1, rfl, h0, h1⟩; exact ⟨c0, c1, rfl, a.move hm h0, b.move hm h1⟩
def iso {α β : Type} (d : Kd α) (f : β → α) : Kd β where
  sz := d.sz
  K := fun w S x cs => d.K w S (f x) cs
  len := d.len
  one := d.one
  mono := d.mono
  bound := d.bound
  move := d.move
end Kd

/-! ### Rows of the call's own -/
/-- Row v (element type e) is the call's own, from block base on; what its elements lead to lies in S, and not in the row's own block. -/
def Own {α : Type} (d : Kd α) (e : Nat) (w : World) (base : Nat) (S : Nat → Prop) (v : Value) (xs : List α) : Prop :=
  ∃ css : List (List Value), w.ownsRow base e d.sz v xs.length css.flatten ∧ css.length = xs.length ∧ (∀ k, v.ownBlock = some k → S k) ∧
    ∀ (j : Nat) (x : α), xs[j]? = some x → ∃ c, css[j]? = some c ∧ d.K w (fun k => S k ∧ some k ≠ v.ownBlock) x c

theorem flatten_snoc (css : List (List Value)) (c : List Value) : (css ++ [c]).flatten = css.flatten ++ c := by simp
theorem flatten_at {sz : Nat} : ∀ (css : List (List Value)), (∀ c ∈ css, c.length = sz) → ∀ (j i : Nat) (c : List Value) (u : Value), css[j]? = some c → c[i]? = some u → css.flatten[j * sz + i]? = some u := by
  intro css
  induction css with
  | nil => intro _ j i c u h; simp at h
  | cons a r ih =>
    intro hl j i c u hj hi
    have ha : a.length = sz := hl a (List.mem_cons_self ..)
    have hlt : i < c.length := by rcases Nat.lt_or_ge i c.length with h | h; exact h; rw [List.getElem?_eq_none h] at hi; cases hi
    cases j with
    | zero =>
      simp at hj; subst hj
      rw [List.flatten_cons, List.getElem?_append_left (by omega)]
      simpa using hi
    | succ j =>
      have hj' : r[j]? = some c := by simpa using hj
      have := ih (fun c hc => hl c (List.mem_cons_of_mem _ hc)) j i c u hj' hi
      rw [List.flatten_cons, List.getElem?_append_right (by rw [ha, Nat.succ_mul]; omega), ha]
      rw [← this]; congr 1; rw [Nat.succ_mul]; omega

section
variable {α : Type} {d : Kd α} {e : Nat} {w w' : World} {base : Nat} {S S' : Nat → Prop} {v : Value} {xs : List α}
theorem Own.nil (d : Kd α) (e : Nat) (w : World) (base : Nat) (S : Nat → Prop) : Own d e w base S (.slice none 0 0) [] :=
  ⟨[], by simpa using World.ownsRow_nil w base e d.sz, rfl, fun k hk => by simp [Value.ownBlock] at hk, fun j x h => by simp at h⟩
theorem Own.lens (h : Own d e w base S v xs) : ∃ css : List (List Value), w.ownsRow base e d.sz v xs.length css.flatten ∧ css.length = xs.length ∧ (∀ c ∈ css, c.length = d.sz) ∧ (∀ k, v.ownBlock = some k → S k) ∧
    ∀ (j : Nat) (x : α), xs[j]? = some x → ∃ c, css[j]? = some c ∧ d.K w (fun k => S k ∧ some k ≠ v.ownBlock) x c := by
  obtain ⟨css, h1, h2, h3, h4⟩ := h
  refine ⟨css, h1, h2, fun c hc => ?_, h3, h4⟩
  obtain ⟨j, hj, rfl⟩ := List.mem_iff_getElem.1 hc
  obtain ⟨c', hc', hk⟩ := h4 j _ (List.getElem?_eq_getElem (by omega))
  rw [List.getElem?_eq_getElem hj] at hc'
  injection hc' with hc'
  rw [hc']; exact d.len hk
theorem Own.slice (h : Own d e w base S v xs) : ∃ A c, v = .slice A xs.length c ∧ xs.length ≤ c := by
  obtain ⟨css, h1, _⟩ := h
  rcases h1.2 with ⟨rfl, h⟩ | ⟨g, cap, cur, rfl, _, _, hc, _⟩
  · exact ⟨none, 0, by rw [h], by omega⟩
  · exact ⟨_, _, rfl, hc⟩
theorem Own.maxLen (h : Own d e w base S v xs) : xs.length ≤ 9223372036854775807 := by
  obtain ⟨css, h1, _⟩ := h
  rcases h1.2 with ⟨rfl, h⟩ | ⟨g, cap, cur, rfl, _, _, hc, hm, _⟩
  · omega
  · simp only [_root_.Go.maxLen] at hm; omega
theorem Own.mono (hS : ∀ k, S k → S' k) (h : Own d e w base S v xs) : Own d e w base S' v xs := by
  obtain ⟨css, h1, h2, h3, h4⟩ := h
  refine ⟨css, h1, h2, fun k hk => hS k (h3 k hk), fun j x hj => ?_⟩
  obtain ⟨c, hc, hk⟩ := h4 j x hj
  exact ⟨c, hc, d.mono (fun k hk => ⟨hS k hk.1, hk.2⟩) hk⟩
theorem Own.blk (h : Own d e w base S v xs) (k : Nat) (hk : v.ownBlock = some k) : base ≤ k ∧ k < w.heap.size ∧ S k := by
  obtain ⟨css, h1, _, h3, _⟩ := h
  exact ⟨(h1.lt k hk).1, (h1.lt k hk).2, h3 k hk⟩
theorem Own.bound (h : Own d e w base S v xs) : Own d e w base (fun k => S k ∧ k < w.heap.size) v xs := by
  have hb := h.blk
  obtain ⟨css, h1, h2, h3, h4⟩ := h
  refine ⟨css, h1, h2, fun k hk => ⟨h3 k hk, (hb k hk).2.1⟩, fun j x hj => ?_⟩
  obtain ⟨c, hc, hk⟩ := h4 j x hj
  exact ⟨c, hc, d.mono (fun k hk => ⟨⟨hk.1.1, hk.2⟩, hk.1.2⟩) (d.bound hk)⟩
theorem owns_move {sz n : Nat} {ys : List Value} (h : w.ownsRow base e sz v n ys) (hm : ∀ k, v.ownBlock = some k → w'.heap[k]? = w.heap[k]?) : w'.ownsRow base e sz v n ys := by
  obtain ⟨h1, h2⟩ := h
  refine ⟨h1, ?_⟩
  rcases h2 with h2 | ⟨g, cap, cur, rfl, hg, hh, r⟩
  · exact .inl h2
  · exact .inr ⟨g, cap, cur, rfl, hg, (hm g (by simp [Value.ownBlock])).trans hh, r⟩
theorem Own.move (hm : ∀ k, S k → w'.heap[k]? = w.heap[k]?) (h : Own d e w base S v xs) : Own d e w' base S v xs := by
  obtain ⟨css, h1, h2, h3, h4⟩ := h
  refine ⟨css, owns_move h1 (fun k hk => hm k (h3 k hk)), h2, h3, fun j x hj => ?_⟩
  obtain ⟨c, hc, hk⟩ := h4 j x hj
  exact ⟨c, hc, d.move (fun k hk => hm k hk.1) hk⟩
theorem Own.step (h : Own d e w base S v xs) (hm : ∀ k, S k → k < w.heap.size → w'.heap[k]? = w.heap[k]?) : Own d e w' base S v xs :=
  Own.mono (fun _ hk => hk.1) (Own.move (fun k hk => hm k hk.1 hk.2) (Own.bound h))
theorem Own.belowAll (h : Own d e w base S v xs) (hb : Below w.heap.size w w') : Own d e w' base S v xs := h.step fun k _ h2 => hb.block k h2
theorem Own.lower {base' : Nat} (hb : base' ≤ base) (h : Own d e w base S v xs) : Own d e w base' S v xs := by
  obtain ⟨css, ⟨l1, l2⟩, h2, h3, h4⟩ := h
  refine ⟨css, ⟨l1, ?_⟩, h2, h3, h4⟩
  rcases l2 with l2 | ⟨g, cap, cur, rfl, hg, r⟩
  · exact .inl l2
  · exact .inr ⟨g, cap, cur, rfl, Nat.le_trans hb hg, r⟩
theorem Own.drewN (h : Own d e w base S v xs) (n : Nat) : Own d e (w.drewN n) base S v xs := Own.move (w := w) (w' := w.drewN n) (fun _ _ => rfl) h
/-- A row of one's own is read as any. -/
theorem Own.row (h : Own d e w base S v xs) : ∃ A c, v = .slice A xs.length c ∧ xs.length ≤ c ∧ Row d w S A xs := by
  have hm := h.maxLen
  have hb := h.blk
  obtain ⟨A, c, rfl, hc⟩ := h.slice
  obtain ⟨css, h1, h2, hl, h3, h4⟩ := h.lens
  refine ⟨A, c, rfl, hc, hm, fun hn => ?_⟩
  have hpos : 0 < xs.length := List.length_pos_iff.2 hn
  obtain ⟨g, cap, he, _, _⟩ := h1.form hpos
  injection he with he1 he2
  subst he1
  refine ⟨_, rfl, h3 g rfl, (hb g rfl).2.1, fun j x hj => ?_⟩
  obtain ⟨cc, hcc, hk⟩ := h4 j x hj
  exact ⟨cc, d.mono (fun k hk => hk.1) hk, fun i u hu => h1.cells (g := g) rfl _ _ (flatten_at css hl j i cc u hcc hu)⟩
end
end Go.Proofs.Ytehgiijpmldiiaa
