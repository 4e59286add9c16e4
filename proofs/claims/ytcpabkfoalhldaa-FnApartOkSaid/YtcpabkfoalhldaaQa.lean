/- How data lie in memory: values of a kind, rows of them, rows of the call's own. Plain definitions and lemmas; no program in sight. Programs and changes, as plain Lean: no memory, no Go. How programs lie in memory. The reference's look at a program's form. The reference's look at an act. The reference's look at an act that is a change. The reference's look at a program's form: all of it. append, for rows of any kind: onto a row of the call's own, from a row that is read. Rows of the call's own: a cell read, a cell written; rows of numbers. Changes, done at once; programs, done task by task: plain Lean. The reference does a change at once. The reference does a change at once: all of it. -/
import Derived.Below
import Derived.Deep.Draws
import Derived.Deep.AppendLies
import Derived.Maps.AppendAt
import Derived.OwnWalk
import Derived.Laws.MakeOwn
import Derived.Laws.OwnMore
import Derived.Deep.OwnRows
import Derived.WalkKit
import Derived.KernelRfl
import Derived.RowKit3
import Derived.Deep.QuietTactic
import Derived.BigQuiet
import Derived.Laws.Rows
import Derived.Lib.Hide
import Derived.Outline
import Derived.Laws.Slices
import Derived.Laws.Entries
import Derived.WalkSpells
import Derived.Test.YtcpabkfoalhldaaProg
import Derived.StillTailTactics
import Derived.RegionTactic
namespace Go.Proofs.Ytcpabkfoalhldaa
open Go.RowKit
set_option linter.unusedVariables false
set_option linter.unusedSimpArgs false

theorem ret_int {k : IntKind} {a b : Int} (h : a = b) : Ending.returned (.int k a) = .returned (.int k b) := by rw [h]
theorem ret_bool {a b : Bool} (h : a = b) : Ending.returned (.bool a) = .returned (.bool b) := by rw [h]
theorem val_int {k : IntKind} {a b : Int} (h : a = b) : Value.int k a = .int k b := by rw [h]
theorem block_add (a : Addr) (n : Nat) : (a.add n).block = a.block := by unfold Addr.add; split <;> rfl
theorem add_add' (a : Addr) (i j : Nat) : (a.add i).add j = a.add (i + j) := by
  unfold Addr.add
  by_cases hi : i = 0 <;> by_cases hj : j = 0 <;> simp [hi, hj, Nat.add_assoc]
theorem add_pos' (a : Addr) (i j : Nat) (hj : j ≠ 0) : a.add (i + j) = ⟨(a.add i).block, (a.add i).off + j, none⟩ := by
  rw [← add_add']; simp [Addr.add, hj]

theorem below_drewN' {B : Nat} {a w : World} (h : Below B a w) (n : Nat) : Below B a (w.drewN n) := ⟨h.os, h.tape, h.output, h.size, h.block⟩
theorem below_then {B : Nat} {w w1 w2 : World} (h : Below B w w1) (hB : B ≤ w1.heap.size) (k : Below w1.heap.size w1 w2) : Below B w w2 :=
  h.trans (k.mono hB)

/-- Values of a kind: how many cells; what the cells say in a world, read from blocks of S alone. -/
structure Kd (α : Type) where
  sz : Nat
  K : World → (Nat → Prop) → α → List Value → Prop
  len : ∀ {w S x cs}, K w S x cs → cs.length = sz
  one : ∀ {w S x cs}, K w S x cs → ∀ u ∈ cs, u.oneCell' = true
  mono : ∀ {w} {S S' : Nat → Prop} {x cs}, (∀ k, S k → S' k) → K w S x cs → K w S' x cs
  bound : ∀ {w : World} {S x cs}, K w S x cs → K w (fun k => S k ∧ k < w.heap.size) x cs
  move : ∀ {w w' : World} {S x cs}, (∀ k, S k → w'.heap[k]? = w.heap[k]?) → K w S x cs → K w' S x cs

/-- A row of values, read. -/
def Row {α : Type} (d : Kd α) (w : World) (S : Nat → Prop) (A : Option Addr) (xs : List α) : Prop :=
  xs.length ≤ 9223372036854775807 ∧ (xs ≠ [] → ∃ ad, A = some ad ∧ S ad.block ∧ ad.block < w.heap.size ∧
    ∀ j x, xs[j]? = some x → ∃ c, d.K w S x c ∧ ∀ i u, c[i]? = some u → w.cell? (ad.add (j * d.sz + i)) = some u)

section
variable {α : Type} {d : Kd α} {w w' : World} {S S' : Nat → Prop} {A : Option Addr} {xs : List α} {x : α} {cs : List Value}
theorem Kd.step (h : d.K w S x cs) (hm : ∀ k, S k → k < w.heap.size → w'.heap[k]? = w.heap[k]?) : d.K w' S x cs :=
  d.mono (fun _ hk => hk.1) (d.move (fun k hk => hm k hk.1 hk.2) (d.bound h))
theorem Kd.below {B : Nat} (h : d.K w S x cs) (hb : Below B w w') (hS : ∀ k, S k → k < w.heap.size → k < B) : d.K w' S x cs :=
  Kd.step h fun k h1 h2 => hb.block k (hS k h1 h2)
theorem Kd.belowAll (h : d.K w S x cs) (hb : Below w.heap.size w w') : d.K w' S x cs := Kd.below h hb fun _ _ h => h
theorem Row.nil (d : Kd α) (w : World) (S : Nat → Prop) (A : Option Addr) : Row d w S A [] := ⟨by simp, fun h => absurd rfl h⟩
theorem Row.mono (hS : ∀ k, S k → S' k) (h : Row d w S A xs) : Row d w S' A xs :=
  ⟨h.1, fun hn => by
    obtain ⟨ad, e, hb, hl, hc⟩ := h.2 hn
    refine ⟨ad, e, hS _ hb, hl, fun j x hj => ?_⟩
    obtain ⟨c, hk, hcell⟩ := hc j x hj
    exact ⟨c, d.mono hS hk, hcell⟩⟩
theorem Row.bound (h : Row d w S A xs) : Row d w (fun k => S k ∧ k < w.heap.size) A xs :=
  ⟨h.1, fun hn => by
    obtain ⟨ad, e, hb, hl, hc⟩ := h.2 hn
    refine ⟨ad, e, ⟨hb, hl⟩, hl, fun j x hj => ?_⟩
    obtain ⟨c, hk, hcell⟩ := hc j x hj
    exact ⟨c, d.bound hk, hcell⟩⟩
theorem lt_of_heap {w w' : World} {k : Nat} (h : w'.heap[k]? = w.heap[k]?) (hk : k < w.heap.size) : k < w'.heap.size := by
  rcases Nat.lt_or_ge k w'.heap.size with hlt | hge
  · exact hlt
  · rw [Array.getElem?_eq_none hge, Array.getElem?_eq_getElem hk] at h; cases h
theorem Row.move (hm : ∀ k, S k → w'.heap[k]? = w.heap[k]?) (h : Row d w S A xs) : Row d w' S A xs :=
  ⟨h.1, fun hn => by
    obtain ⟨ad, e, hb, hl, hc⟩ := h.2 hn
    refine ⟨ad, e, hb, lt_of_heap (hm _ hb) hl, fun j x hj => ?_⟩
    obtain ⟨c, hk, hcell⟩ := hc j x hj
    exact ⟨c, d.move hm hk, fun i u hu => (World.cell?_of_block (w := w) (by rw [block_add]; exact hm _ hb)).trans (hcell i u hu)⟩⟩
theorem Row.step (h : Row d w S A xs) (hm : ∀ k, S k → k < w.heap.size → w'.heap[k]? = w.heap[k]?) : Row d w' S A xs :=
  Row.mono (fun _ hk => hk.1) (Row.move (fun k hk => hm k hk.1 hk.2) (Row.bound h))
theorem Row.below {B : Nat} (h : Row d w S A xs) (hb : Below B w w') (hS : ∀ k, S k → k < w.heap.size → k < B) : Row d w' S A xs :=
  Row.step h fun k h1 h2 => hb.block k (hS k h1 h2)
theorem Row.belowAll (h : Row d w S A xs) (hb : Below w.heap.size w w') : Row d w' S A xs := Row.below h hb fun _ _ h => h
theorem Row.drewN (h : Row d w S A xs) (n : Nat) : Row d (w.drewN n) S A xs := Row.move (w := w) (w' := w.drewN n) (fun _ _ => rfl) h
theorem Kd.drewN (h : d.K w S x cs) (n : Nat) : d.K (w.drewN n) S x cs := d.move (w := w) (w' := w.drewN n) (fun _ _ => rfl) h
/-- An element of a row: its cells and where they lie. -/
theorem Row.get (h : Row d w S A xs) {j : Nat} (hj : j < xs.length) : ∃ ad c, A = some ad ∧ S ad.block ∧ ad.block < w.heap.size ∧ d.K w S xs[j] c ∧ ∀ i u, c[i]? = some u → w.cell? (ad.add (j * d.sz + i)) = some u := by
  obtain ⟨ad, e, hb, hl, hc⟩ := h.2 (by rintro rfl; simp at hj)
  obtain ⟨c, hk, hcell⟩ := hc j _ (List.getElem?_eq_getElem hj)
  exact ⟨ad, c, e, hb, hl, hk, hcell⟩
end

namespace Kd
def scalar {α : Type} (enc : α → Value) (h1 : ∀ x, (enc x).oneCell' = true) : Kd α where
  sz := 1
  K := fun _ _ x cs => cs = [enc x]
  len := fun h => by rw [h]; rfl
  one := fun h u hu => by rw [h] at hu; rw [List.mem_singleton.1 hu]; exact h1 _
  mono := fun _ h => h
  bound := fun h => h
  move := fun _ h => h
/-- A number of its kind. -/
def int : Kd Int where
  sz := 1
  K := fun _ _ x cs => cs = [.int .i64 x] ∧ -9223372036854775808 ≤ x ∧ x ≤ 9223372036854775807
  len := fun h => by rw [h.1]; rfl
  one := fun h u hu => by rw [h.1] at hu; rw [List.mem_singleton.1 hu]; rfl
  mono := fun _ h => h
  bound := fun h => h
  move := fun _ h => h
def byte : Kd Int where
  sz := 1
  K := fun _ _ x cs => cs = [.int .u8 x] ∧ 0 ≤ x ∧ x ≤ 255
  len := fun h => by rw [h.1]; rfl
  one := fun h u hu => by rw [h.1] at hu; rw [List.mem_singleton.1 hu]; rfl
  mono := fun _ h => h
  bound := fun h => h
  move := fun _ h => h
def slice {α : Type} (d : Kd α) : Kd (List α) where
  sz := 1
  K := fun w S xs cs => ∃ A c, cs = [.slice A xs.length c] ∧ xs.length ≤ c ∧ Row d w S A xs
  len := by rintro w S x cs ⟨A, c, rfl, _⟩; rfl
  one := by
    rintro w S x cs ⟨A, c, rfl, _⟩ u hu
    rw [List.mem_singleton.1 hu]; rfl
  mono := by rintro w S S' x cs hS ⟨A, c, rfl, hl, hr⟩; exact ⟨A, c, rfl, hl, Row.mono hS hr⟩
  bound := by rintro w S x cs ⟨A, c, rfl, hl, hr⟩; exact ⟨A, c, rfl, hl, Row.bound hr⟩
  move := by rintro w w' S x cs hm ⟨A, c, rfl, hl, hr⟩; exact ⟨A, c, rfl, hl, Row.move hm hr⟩
def pair {α β : Type} (a : Kd α) (b : Kd β) : Kd (α × β) where
  sz := a.sz + b.sz
  K := fun w S x cs => ∃ c0 c1, cs = c0 ++ c1 ∧ a.K w S x.1 c0 ∧ b.K w S x.2 c1
  len := by rintro w S x cs ⟨c0, c1, rfl, h0, h1⟩; rw [List.length_append, a.len h0, b.len h1]
  one := by
    rintro w S x cs ⟨c0, c1, rfl, h0, h1⟩ u hu
    rcases List.mem_append.1 hu with hu | hu
    · exact a.one h0 u hu
    · exact b.one h1 u hu
  mono := by rintro w S S' x cs hS ⟨c0, c1, rfl, h0, h1⟩; exact ⟨c0, c1, rfl, a.mono hS h0, b.mono hS h1⟩
  bound := by rintro w S x cs ⟨c0, c1, rfl, h0, h1⟩; exact ⟨c0, c1, rfl, a.bound h0, b.bound h1⟩
  move := by rintro w w' S x cs hm ⟨c0, c1, rfl, h0, h1⟩; exact ⟨c0, c1, rfl, a.move hm h0, b.move hm h1⟩
def iso {α β : Type} (d : Kd α) (f : β → α) : Kd β where
  sz := d.sz
  K := fun w S x cs => d.K w S (f x) cs
  len := d.len
  one := d.one
  mono := d.mono
  bound := d.bound
  move := d.move
end Kd

/-! ### Rows of the call's own -/
/-- Row v (element type e) is the call's own, from block base on; what its elements lead to lies in S, and not in the row's own block. -/
def Own {α : Type} (d : Kd α) (e : Nat) (w : World) (base : Nat) (S : Nat → Prop) (v : Value) (xs : List α) : Prop :=
  ∃ css : List (List Value), w.ownsRow base e d.sz v xs.length css.flatten ∧ css.length = xs.length ∧ (∀ k, v.ownBlock = some k → S k) ∧
    ∀ (j : Nat) (x : α), xs[j]? = some x → ∃ c, css[j]? = some c ∧ d.K w (fun k => S k ∧ some k ≠ v.ownBlock) x c

theorem flatten_snoc (css : List (List Value)) (c : List Value) : (css ++ [c]).flatten = css.flatten ++ c := by simp
theorem flatten_at {sz : Nat} : ∀ (css : List (List Value)), (∀ c ∈ css, c.length = sz) → ∀ (j i : Nat) (c : List Value) (u : Value), css[j]? = some c → c[i]? = some u → css.flatten[j * sz + i]? = some u := by
  intro css
  induction css with
  | nil => intro _ j i c u h; simp at h
  | cons a r ih =>
    intro hl j i c u hj hi
    have ha : a.length = sz := hl a (List.mem_cons_self ..)
    have hlt : i < c.length := by rcases Nat.lt_or_ge i c.length with h | h; exact h; rw [List.getElem?_eq_none h] at hi; cases hi
    cases j with
    | zero =>
      simp at hj; subst hj
      rw [List.flatten_cons, List.getElem?_append_left (by omega)]
      simpa using hi
    | succ j =>
      have hj' : r[j]? = some c := by simpa using hj
      have := ih (fun c hc => hl c (List.mem_cons_of_mem _ hc)) j i c u hj' hi
      rw [List.flatten_cons, List.getElem?_append_right (by rw [ha, Nat.succ_mul]; omega), ha]
      rw [← this]; congr 1; rw [Nat.succ_mul]; omega

section
variable {α : Type} {d : Kd α} {e : Nat} {w w' : World} {base : Nat} {S S' : Nat → Prop} {v : Value} {xs : List α}
theorem Own.nil (d : Kd α) (e : Nat) (w : World) (base : Nat) (S : Nat → Prop) : Own d e w base S (.slice none 0 0) [] :=
  ⟨[], by simpa using World.ownsRow_nil w base e d.sz, rfl, fun k hk => by simp [Value.ownBlock] at hk, fun j x h => by simp at h⟩
theorem Own.lens (h : Own d e w base S v xs) : ∃ css : List (List Value), w.ownsRow base e d.sz v xs.length css.flatten ∧ css.length = xs.length ∧ (∀ c ∈ css, c.length = d.sz) ∧ (∀ k, v.ownBlock = some k → S k) ∧
    ∀ (j : Nat) (x : α), xs[j]? = some x → ∃ c, css[j]? = some c ∧ d.K w (fun k => S k ∧ some k ≠ v.ownBlock) x c := by
  obtain ⟨css, h1, h2, h3, h4⟩ := h
  refine ⟨css, h1, h2, fun c hc => ?_, h3, h4⟩
  obtain ⟨j, hj, rfl⟩ := List.mem_iff_getElem.1 hc
  obtain ⟨c', hc', hk⟩ := h4 j _ (List.getElem?_eq_getElem (by omega))
  rw [List.getElem?_eq_getElem hj] at hc'
  injection hc' with hc'
  rw [hc']; exact d.len hk
theorem Own.slice (h : Own d e w base S v xs) : ∃ A c, v = .slice A xs.length c ∧ xs.length ≤ c := by
  obtain ⟨css, h1, _⟩ := h
  rcases h1.2 with ⟨rfl, h⟩ | ⟨g, cap, cur, rfl, _, _, hc, _⟩
  · exact ⟨none, 0, by rw [h], by omega⟩
  · exact ⟨_, _, rfl, hc⟩
theorem Own.maxLen (h : Own d e w base S v xs) : xs.length ≤ 9223372036854775807 := by
  obtain ⟨css, h1, _⟩ := h
  rcases h1.2 with ⟨rfl, h⟩ | ⟨g, cap, cur, rfl, _, _, hc, hm, _⟩
  · omega
  · simp only [_root_.Go.maxLen] at hm; omega
theorem Own.mono (hS : ∀ k, S k → S' k) (h : Own d e w base S v xs) : Own d e w base S' v xs := by
  obtain ⟨css, h1, h2, h3, h4⟩ := h
  refine ⟨css, h1, h2, fun k hk => hS k (h3 k hk), fun j x hj => ?_⟩
  obtain ⟨c, hc, hk⟩ := h4 j x hj
  exact ⟨c, hc, d.mono (fun k hk => ⟨hS k hk.1, hk.2⟩) hk⟩
theorem Own.blk (h : Own d e w base S v xs) (k : Nat) (hk : v.ownBlock = some k) : base ≤ k ∧ k < w.heap.size ∧ S k := by
  obtain ⟨css, h1, _, h3, _⟩ := h
  exact ⟨(h1.lt k hk).1, (h1.lt k hk).2, h3 k hk⟩
theorem Own.bound (h : Own d e w base S v xs) : Own d e w base (fun k => S k ∧ k < w.heap.size) v xs := by
  have hb := h.blk
  obtain ⟨css, h1, h2, h3, h4⟩ := h
  refine ⟨css, h1, h2, fun k hk => ⟨h3 k hk, (hb k hk).2.1⟩, fun j x hj => ?_⟩
  obtain ⟨c, hc, hk⟩ := h4 j x hj
  exact ⟨c, hc, d.mono (fun k hk => ⟨⟨hk.1.1, hk.2⟩, hk.1.2⟩) (d.bound hk)⟩
theorem owns_move {sz n : Nat} {ys : List Value} (h : w.ownsRow base e sz v n ys) (hm : ∀ k, v.ownBlock = some k → w'.heap[k]? = w.heap[k]?) : w'.ownsRow base e sz v n ys := by
  obtain ⟨h1, h2⟩ := h
  refine ⟨h1, ?_⟩
  rcases h2 with h2 | ⟨g, cap, cur, rfl, hg, hh, r⟩
  · exact .inl h2
  · exact .inr ⟨g, cap, cur, rfl, hg, (hm g (by simp [Value.ownBlock])).trans hh, r⟩
theorem Own.move (hm : ∀ k, S k → w'.heap[k]? = w.heap[k]?) (h : Own d e w base S v xs) : Own d e w' base S v xs := by
  obtain ⟨css, h1, h2, h3, h4⟩ := h
  refine ⟨css, owns_move h1 (fun k hk => hm k (h3 k hk)), h2, h3, fun j x hj => ?_⟩
  obtain ⟨c, hc, hk⟩ := h4 j x hj
  exact ⟨c, hc, d.move (fun k hk => hm k hk.1) hk⟩
theorem Own.step (h : Own d e w base S v xs) (hm : ∀ k, S k → k < w.heap.size → w'.heap[k]? = w.heap[k]?) : Own d e w' base S v xs :=
  Own.mono (fun _ hk => hk.1) (Own.move (fun k hk => hm k hk.1 hk.2) (Own.bound h))
theorem Own.belowAll (h : Own d e w base S v xs) (hb : Below w.heap.size w w') : Own d e w' base S v xs := h.step fun k _ h2 => hb.block k h2
theorem Own.lower {base' : Nat} (hb : base' ≤ base) (h : Own d e w base S v xs) : Own d e w base' S v xs := by
  obtain ⟨css, ⟨l1, l2⟩, h2, h3, h4⟩ := h
  refine ⟨css, ⟨l1, ?_⟩, h2, h3, h4⟩
  rcases l2 with l2 | ⟨g, cap, cur, rfl, hg, r⟩
  · exact .inl l2
  · exact .inr ⟨g, cap, cur, rfl, Nat.le_trans hb hg, r⟩
theorem Own.drewN (h : Own d e w base S v xs) (n : Nat) : Own d e (w.drewN n) base S v xs := Own.move (w := w) (w' := w.drewN n) (fun _ _ => rfl) h
/-- A row of one's own is read as any. -/
theorem Own.row (h : Own d e w base S v xs) : ∃ A c, v = .slice A xs.length c ∧ xs.length ≤ c ∧ Row d w S A xs := by
  have hm := h.maxLen
  have hb := h.blk
  obtain ⟨A, c, rfl, hc⟩ := h.slice
  obtain ⟨css, h1, h2, hl, h3, h4⟩ := h.lens
  refine ⟨A, c, rfl, hc, hm, fun hn => ?_⟩
  have hpos : 0 < xs.length := List.length_pos_iff.2 hn
  obtain ⟨g, cap, he, _, _⟩ := h1.form hpos
  injection he with he1 he2
  subst he1
  refine ⟨_, rfl, h3 g rfl, (hb g rfl).2.1, fun j x hj => ?_⟩
  obtain ⟨cc, hcc, hk⟩ := h4 j x hj
  exact ⟨cc, d.mono (fun k hk => hk.1) hk, fun i u hu => h1.cells (g := g) rfl _ _ (flatten_at css hl j i cc u hcc hu)⟩
end
end Go.Proofs.Ytcpabkfoalhldaa
namespace Go.Proofs.Ytcpabkfoalhldaa
set_option linter.unusedVariables false
set_option linter.unusedSimpArgs false

structure Deed where
  kind : Int
  a : Int
  b : Int
deriving DecidableEq
structure Act where
  kind : Int
  deeds : List Deed
  kids : List Int
  reg : Int
deriving DecidableEq
structure Prog where
  cells : List Int
  bodies : List (List Act)
deriving DecidableEq

def inR (n lo hi : Int) : Bool := decide (lo ≤ n) && decide (n ≤ hi)
def deedOk (d : Deed) (cells : Int) : Bool :=
  if d.kind = 1 then inR d.a 0 2 && inR d.b 0 (cells - 1)
  else if d.kind = 2 then inR d.a 0 (cells - 1) && inR d.b 0 2
  else if d.kind = 3 then inR d.a 0 2 && inR d.b 0 99
  else if d.kind = 4 then inR d.a 0 2 && inR d.b 0 2
  else if d.kind = 5 then inR d.a 0 2 && (d.b == 0)
  else false
def changeOk (deeds : List Deed) (cells : Int) : Bool := deeds.all (deedOk · cells) && decide (deeds.length ≤ 5) && inR cells 0 3
def kidsOk (kids : List Int) (body bodies : Int) : Bool := kids.all (fun k => inR k (body + 1) (bodies - 1)) && inR kids.length 1 2
def actOk (a : Act) (cells body bodies : Int) : Bool :=
  if a.kind = 1 then a.kids.isEmpty && decide (a.reg = 0) && a.deeds.all (deedOk · cells) && decide (a.deeds.length ≤ 5)
  else if a.kind = 2 then a.deeds.isEmpty && decide (a.reg = 0) && kidsOk a.kids body bodies
  else if a.kind = 3 then a.deeds.isEmpty && a.kids.isEmpty && decide (a.reg = 0)
  else if a.kind = 4 then a.deeds.isEmpty && a.kids.isEmpty && inR a.reg 0 2
  else false
def bodyOk (acts : List Act) (cells body bodies : Int) : Bool := decide (acts.length ≤ 4) && acts.all (actOk · cells body bodies)
def bodiesOk (cells : Int) (bodies : List (List Act)) : Bool := (List.range bodies.length).all fun i => bodyOk (bodies.getD i []) cells i bodies.length
def numsOk (l : List Int) : Bool := l.all (inR · 0 99)
def formOk (p : Prog) : Bool :=
  decide (p.cells.length ≤ 3) && inR p.bodies.length 1 4 && numsOk p.cells && bodiesOk p.cells.length p.bodies
def sumOf (f : Int → Int) (l : List Int) : Int := (l.map f).sum
def actsSum (f : Int → Int) (acts : List Act) : Int := sumOf f (acts.flatMap (·.kids))
/-- How many tasks a body may be (n: how deep it may go). -/
def tree : Nat → Prog → Nat → Int
  | 0, _, _ => 0
  | n + 1, p, b => 1 + actsSum (fun k => tree n p k.toNat) (p.bodies.getD b [])
def progOk (p : Prog) : Bool := formOk p && decide (tree 4 p 0 ≤ 7)


theorem all_take_snoc {α : Type} (p : α → Bool) (l : List α) (k : Nat) (h : k < l.length) : (l.take (k + 1)).all p = ((l.take k).all p && p l[k]) := by
  rw [List.take_succ_eq_append_getElem h, List.all_append]; simp
theorem all_take_all {α : Type} (p : α → Bool) (l : List α) (k : Nat) (h : l.length ≤ k) : (l.take k).all p = l.all p := by rw [List.take_of_length_le h]
theorem all_false_of {α : Type} (p : α → Bool) (l : List α) (k : Nat) (h : k < l.length) (hp : p l[k] = false) : l.all p = false := by
  rw [List.all_eq_false]; exact ⟨l[k], List.getElem_mem h, by simp [hp]⟩
theorem range_all_succ (p : Nat → Bool) (k : Nat) : (List.range (k + 1)).all p = ((List.range k).all p && p k) := by
  rw [List.range_succ, List.all_append]; simp
theorem range_all_false (p : Nat → Bool) (n k : Nat) (h : k < n) (hp : p k = false) : (List.range n).all p = false := by
  rw [List.all_eq_false]; exact ⟨k, List.mem_range.2 h, by simp [hp]⟩
theorem sumOf_snoc (f : Int → Int) (l : List Int) (k : Nat) (h : k < l.length) : sumOf f (l.take (k + 1)) = sumOf f (l.take k) + f l[k] := by
  unfold sumOf; rw [List.take_succ_eq_append_getElem h]; simp only [List.map_append, List.sum_append, List.map_cons, List.map_nil, List.sum_cons, List.sum_nil, Int.add_zero]
theorem sumOf_all (f : Int → Int) (l : List Int) (k : Nat) (h : l.length ≤ k) : sumOf f (l.take k) = sumOf f l := by rw [List.take_of_length_le h]
theorem actsSum_snoc (f : Int → Int) (l : List Act) (k : Nat) (h : k < l.length) : actsSum f (l.take (k + 1)) = actsSum f (l.take k) + sumOf f l[k].kids := by
  unfold actsSum sumOf; rw [List.take_succ_eq_append_getElem h]; simp only [List.flatMap_append, List.flatMap_cons, List.flatMap_nil, List.append_nil, List.map_append, List.sum_append]
theorem actsSum_all (f : Int → Int) (l : List Act) (k : Nat) (h : l.length ≤ k) : actsSum f (l.take k) = actsSum f l := by rw [List.take_of_length_le h]
theorem sumOf_bound (f : Int → Int) (M : Int) (l : List Int) (h : ∀ k ∈ l, 0 ≤ f k ∧ f k ≤ M) : 0 ≤ sumOf f l ∧ sumOf f l ≤ l.length * M := by
  induction l with
  | nil => simp [sumOf]
  | cons a r ih =>
    have h1 := h a (List.mem_cons_self ..)
    have h2 := ih fun k hk => h k (List.mem_cons_of_mem _ hk)
    simp only [sumOf, List.map_cons, List.sum_cons, List.length_cons] at *
    have e : ((r.length + 1 : Nat) : Int) * M = r.length * M + M := by rw [Int.natCast_add, Int.add_mul]; simp
    rw [e]; omega
theorem actsSum_bound (f : Int → Int) (M : Int) (hM : 0 ≤ M) (l : List Act) (hl : ∀ a ∈ l, a.kids.length ≤ 2) (h : ∀ a ∈ l, ∀ k ∈ a.kids, 0 ≤ f k ∧ f k ≤ M) : 0 ≤ actsSum f l ∧ actsSum f l ≤ l.length * (2 * M) := by
  induction l with
  | nil => simp [actsSum, sumOf]
  | cons a r ih =>
    have h1 := sumOf_bound f M a.kids (h a (List.mem_cons_self ..))
    have h2 := ih (fun b hb => hl b (List.mem_cons_of_mem _ hb)) fun b hb => h b (List.mem_cons_of_mem _ hb)
    have h3 := hl a (List.mem_cons_self ..)
    have e0 : actsSum f (a :: r) = sumOf f a.kids + actsSum f r := by simp [actsSum, sumOf]
    have e : ((r.length + 1 : Nat) : Int) * (2 * M) = r.length * (2 * M) + 2 * M := by rw [Int.natCast_add, Int.add_mul]; simp
    have e2 : (a.kids.length : Int) * M ≤ 2 * M := Int.mul_le_mul_of_nonneg_right (by omega) hM
    rw [e0, List.length_cons, e]; omega
theorem formOk_len {p : Prog} (h : formOk p = true) : p.cells.length ≤ 3 ∧ 1 ≤ p.bodies.length ∧ p.bodies.length ≤ 4 := by
  simp [formOk, inR] at h; omega
theorem formOk_body {p : Prog} (h : formOk p = true) {b : Nat} (hb : b < p.bodies.length) : bodyOk p.bodies[b] p.cells.length b p.bodies.length = true := by
  simp only [formOk, Bool.and_eq_true, bodiesOk, List.all_eq_true, List.mem_range] at h
  have := h.2 b hb
  rwa [List.getD_eq_getElem?_getD, List.getElem?_eq_getElem hb, Option.getD_some] at this
theorem actOk_kids {a : Act} {c b n : Int} (h : actOk a c b n = true) : a.kids.length ≤ 2 ∧ ∀ k ∈ a.kids, b + 1 ≤ k ∧ k ≤ n - 1 := by
  unfold actOk at h
  split at h
  · simp at h; simp [h.1.1.1]
  · split at h
    · simp [kidsOk, inR] at h
      exact ⟨by omega, fun k hk => h.2.1 k hk⟩
    · split at h
      · simp at h; simp [h.1.2]
      · split at h
        · simp at h; simp [h.1.2]
        · simp at h
theorem formOk_acts {p : Prog} (h : formOk p = true) {b : Nat} (hb : b < p.bodies.length) : p.bodies[b].length ≤ 4 ∧ ∀ a ∈ p.bodies[b], a.kids.length ≤ 2 ∧ ∀ k ∈ a.kids, (b : Int) + 1 ≤ k ∧ k ≤ (p.bodies.length : Int) - 1 := by
  have := formOk_body h hb
  simp only [bodyOk, Bool.and_eq_true, decide_eq_true_eq, List.all_eq_true] at this
  exact ⟨this.1, fun a ha => actOk_kids (this.2 a ha)⟩
theorem tree_bound {p : Prog} (h : formOk p = true) : ∀ (d b : Nat), 0 ≤ tree d p b ∧ tree d p b ≤ 9 ^ d := by
  intro d
  induction d with
  | zero => intro b; simp [tree]
  | succ d ih =>
    intro b
    have hp : (0 : Int) ≤ 9 ^ d := Int.pow_nonneg (by decide)
    have hp1 : (1 : Int) ≤ 9 ^ d := by
      have : ∀ d : Nat, (1 : Int) ≤ 9 ^ d := by
        intro d; induction d with
        | zero => simp
        | succ d ih => rw [Int.pow_succ]; omega
      exact this d
    rcases Nat.lt_or_ge b p.bodies.length with hb | hb
    · have ha := formOk_acts h hb
      have := actsSum_bound (fun k => tree d p k.toNat) (9 ^ d) hp p.bodies[b] (fun a m => (ha.2 a m).1) (fun a _ k _ => ih k.toNat)
      simp only [tree, List.getD_eq_getElem?_getD, List.getElem?_eq_getElem hb, Option.getD_some]
      have h4 : (p.bodies[b].length : Int) * (2 * 9 ^ d) ≤ 4 * (2 * 9 ^ d) := Int.mul_le_mul_of_nonneg_right (by omega) (by omega)
      rw [Int.pow_succ]; omega
    · simp only [tree, List.getD_eq_getElem?_getD, List.getElem?_eq_none hb, Option.getD_none]
      rw [Int.pow_succ]; simp [actsSum, sumOf]; omega
theorem getD_at {α : Type} (l : List α) (k : Nat) (d : α) (h : k < l.length) : l.getD k d = l[k] := by simp [List.getD_eq_getElem?_getD, h]
end Go.Proofs.Ytcpabkfoalhldaa
namespace Go.Proofs.Ytcpabkfoalhldaa
open Go.RowKit
set_option linter.unusedVariables false
set_option linter.unusedSimpArgs false

def kDeed : Kd Deed := Kd.iso (Kd.pair Kd.int (Kd.pair Kd.int Kd.int)) (fun x : Deed => (x.kind, x.a, x.b))
def kAct : Kd Act := Kd.iso (Kd.pair Kd.int (Kd.pair (Kd.slice kDeed) (Kd.pair (Kd.slice Kd.int) Kd.int))) (fun x : Act => (x.kind, x.deeds, x.kids, x.reg))
def kProg : Kd Prog := Kd.iso (Kd.pair (Kd.slice Kd.int) (Kd.slice (Kd.slice kAct))) (fun x : Prog => (x.cells, x.bodies))
def i64 (n : Int) : Prop := -9223372036854775808 ≤ n ∧ n ≤ 9223372036854775807
theorem kDeed_sz : kDeed.sz = 3 := rfl
theorem kAct_sz : kAct.sz = 4 := rfl
theorem kProg_sz : kProg.sz = 2 := rfl
theorem kInt_sz : Kd.int.sz = 1 := rfl
theorem kSlice_sz {α : Type} (d : Kd α) : (Kd.slice d).sz = 1 := rfl

theorem kDeed_open {w : World} {S : Nat → Prop} {x : Deed} {cs : List Value} (h : kDeed.K w S x cs) : cs = [.int .i64 x.kind, .int .i64 x.a, .int .i64 x.b] ∧ i64 x.kind ∧ i64 x.a ∧ i64 x.b := by
  obtain ⟨_, _, rfl, ⟨rfl, h1⟩, _, _, rfl, ⟨rfl, h2⟩, ⟨rfl, h3⟩⟩ := h
  exact ⟨rfl, h1, h2, h3⟩
theorem kDeed_mk (w : World) (S : Nat → Prop) (x : Deed) (h1 : i64 x.kind) (h2 : i64 x.a) (h3 : i64 x.b) : kDeed.K w S x [.int .i64 x.kind, .int .i64 x.a, .int .i64 x.b] :=
  ⟨[.int .i64 x.kind], _, rfl, ⟨rfl, h1⟩, [.int .i64 x.a], _, rfl, ⟨rfl, h2⟩, ⟨rfl, h3⟩⟩
theorem kAct_open {w : World} {S : Nat → Prop} {x : Act} {cs : List Value} (h : kAct.K w S x cs) :
    ∃ A c B e, cs = [.int .i64 x.kind, .slice A x.deeds.length c, .slice B x.kids.length e, .int .i64 x.reg] ∧ x.deeds.length ≤ c ∧ x.kids.length ≤ e ∧ Row kDeed w S A x.deeds ∧ Row Kd.int w S B x.kids ∧ i64 x.kind ∧ i64 x.reg := by
  obtain ⟨_, _, rfl, ⟨rfl, h1⟩, _, _, rfl, ⟨A, c, rfl, hc, hA⟩, _, _, rfl, ⟨B, e, rfl, he, hB⟩, ⟨rfl, h2⟩⟩ := h
  exact ⟨A, c, B, e, rfl, hc, he, hA, hB, h1, h2⟩
theorem kAct_mk {w : World} {S : Nat → Prop} (x : Act) {A B : Option Addr} {c e : Nat} (hc : x.deeds.length ≤ c) (he : x.kids.length ≤ e) (hA : Row kDeed w S A x.deeds) (hB : Row Kd.int w S B x.kids) (h1 : i64 x.kind) (h2 : i64 x.reg) :
    kAct.K w S x [.int .i64 x.kind, .slice A x.deeds.length c, .slice B x.kids.length e, .int .i64 x.reg] :=
  ⟨[.int .i64 x.kind], _, rfl, ⟨rfl, h1⟩, [.slice A x.deeds.length c], _, rfl, ⟨A, c, rfl, hc, hA⟩, [.slice B x.kids.length e], _, rfl, ⟨B, e, rfl, he, hB⟩, ⟨rfl, h2⟩⟩
theorem kProg_open {w : World} {S : Nat → Prop} {x : Prog} {cs : List Value} (h : kProg.K w S x cs) :
    ∃ A c B e, cs = [.slice A x.cells.length c, .slice B x.bodies.length e] ∧ x.cells.length ≤ c ∧ x.bodies.length ≤ e ∧ Row Kd.int w S A x.cells ∧ Row (Kd.slice kAct) w S B x.bodies := by
  obtain ⟨_, _, rfl, ⟨A, c, rfl, hc, hA⟩, ⟨B, e, rfl, he, hB⟩⟩ := h
  exact ⟨A, c, B, e, rfl, hc, he, hA, hB⟩
theorem kProg_mk {w : World} {S : Nat → Prop} (x : Prog) {A B : Option Addr} {c e : Nat} (hc : x.cells.length ≤ c) (he : x.bodies.length ≤ e) (hA : Row Kd.int w S A x.cells) (hB : Row (Kd.slice kAct) w S B x.bodies) :
    kProg.K w S x [.slice A x.cells.length c, .slice B x.bodies.length e] :=
  ⟨[.slice A x.cells.length c], _, rfl, ⟨A, c, rfl, hc, hA⟩, ⟨B, e, rfl, he, hB⟩⟩

section
variable {w : World} {S : Nat → Prop} {A : Option Addr} {j : Nat}
theorem at_int {xs : List Int} (h : Row Kd.int w S A xs) (hj : j < xs.length) : ∃ ad, A = some ad ∧ ad.block < w.heap.size ∧ w.cell? (ad.add j) = some (.int .i64 xs[j]) ∧ i64 xs[j] := by
  obtain ⟨ad, c, rfl, _, hl, ⟨rfl, hk⟩, hc⟩ := h.get hj
  refine ⟨ad, rfl, hl, ?_, hk⟩
  have := hc 0 _ rfl
  simpa [kInt_sz] using this
theorem at_slice {α : Type} {d : Kd α} {xs : List (List α)} (h : Row (Kd.slice d) w S A xs) (hj : j < xs.length) :
    ∃ ad B c, A = some ad ∧ ad.block < w.heap.size ∧ w.cell? (ad.add j) = some (.slice B xs[j].length c) ∧ xs[j].length ≤ c ∧ Row d w S B xs[j] := by
  obtain ⟨ad, c, rfl, _, hl, ⟨B, c', rfl, hle, hr⟩, hc⟩ := h.get hj
  refine ⟨ad, B, c', rfl, hl, ?_, hle, hr⟩
  have := hc 0 _ rfl
  simpa [kSlice_sz] using this
theorem at_deed {xs : List Deed} (h : Row kDeed w S A xs) (hj : j < xs.length) :
    ∃ ad, A = some ad ∧ ad.block < w.heap.size ∧ w.cell? (ad.add (j * 3)) = some (.int .i64 xs[j].kind) ∧ w.cell? ⟨(ad.add (j * 3)).block, (ad.add (j * 3)).off + 1, none⟩ = some (.int .i64 xs[j].a) ∧
      w.cell? ⟨(ad.add (j * 3)).block, (ad.add (j * 3)).off + 2, none⟩ = some (.int .i64 xs[j].b) ∧ i64 xs[j].kind ∧ i64 xs[j].a ∧ i64 xs[j].b := by
  obtain ⟨ad, c, rfl, _, hl, hk, hc⟩ := h.get hj
  obtain ⟨rfl, h1, h2, h3⟩ := kDeed_open hk
  exact ⟨ad, rfl, hl, hc 0 _ rfl, by rw [← add_pos' _ _ 1 (by omega)]; exact hc 1 _ rfl, by rw [← add_pos' _ _ 2 (by omega)]; exact hc 2 _ rfl, h1, h2, h3⟩
theorem at_act {xs : List Act} (h : Row kAct w S A xs) (hj : j < xs.length) :
    ∃ ad B c D e, A = some ad ∧ ad.block < w.heap.size ∧ w.cell? (ad.add (j * 4)) = some (.int .i64 xs[j].kind) ∧ w.cell? ⟨(ad.add (j * 4)).block, (ad.add (j * 4)).off + 1, none⟩ = some (.slice B xs[j].deeds.length c) ∧
      w.cell? ⟨(ad.add (j * 4)).block, (ad.add (j * 4)).off + 2, none⟩ = some (.slice D xs[j].kids.length e) ∧ w.cell? ⟨(ad.add (j * 4)).block, (ad.add (j * 4)).off + 3, none⟩ = some (.int .i64 xs[j].reg) ∧
      xs[j].deeds.length ≤ c ∧ xs[j].kids.length ≤ e ∧ Row kDeed w S B xs[j].deeds ∧ Row Kd.int w S D xs[j].kids ∧ i64 xs[j].kind ∧ i64 xs[j].reg := by
  obtain ⟨ad, c, rfl, _, hl, hk, hc⟩ := h.get hj
  obtain ⟨B, c', D, e, rfl, h1, h2, h3, h4, h5, h6⟩ := kAct_open hk
  exact ⟨ad, B, c', D, e, rfl, hl, hc 0 _ rfl, by rw [← add_pos' _ _ 1 (by omega)]; exact hc 1 _ rfl, by rw [← add_pos' _ _ 2 (by omega)]; exact hc 2 _ rfl, by rw [← add_pos' _ _ 3 (by omega)]; exact hc 3 _ rfl, h1, h2, h3, h4, h5, h6⟩
end
end Go.Proofs.Ytcpabkfoalhldaa
namespace Go.Proofs.Ytcpabkfoalhldaa
open Go.RowKit
set_option linter.unusedVariables false
set_option linter.unusedSimpArgs false

set_option maxRecDepth 100000 in
theorem l6In_calls (n lo hi : Int) (w : World) :
    Calls Try.prog 43 #[.int .i64 n, .int .i64 lo, .int .i64 hi] w fun e w' => e = .returned (.bool (inR n lo hi)) ∧ w = w' := by
  by_cases h : lo ≤ n
  all_goals
    go_enter Try.func43, Try.ntmps43
    go_wp2
    go_ret
    exact ⟨by simp [inR, h] <;> omega, rfl⟩

set_option maxHeartbeats 1000000 in
set_option maxRecDepth 100000 in
theorem l1Deed_calls (k a b c : Int) (w : World) (h0 : 0 ≤ c) (h1 : c ≤ 9223372036854775807) :
    Calls Try.prog 123 #[.agg #[.int .i64 k, .int .i64 a, .int .i64 b], .int .i64 c] w fun e w' => e = .returned (.bool (deedOk ⟨k, a, b⟩ c)) ∧ Below w.heap.size w w' := by
  go_enter Try.func123, Try.ntmps123
  go_wp2_with (go_at_call 43; refine (l6In_calls _ _ _ _).mono ?_; rintro e w' ⟨rfl, rfl⟩)
  all_goals
    go_ret
    refine ⟨?_, ?_⟩
    · simp_all [deedOk]
    · exact (Below.refl _ _).alloc (Nat.le_refl _) _

theorem i64_toNat_add (k : Nat) (h : k < 9223372036854775807) : (k : Int) + 1 = ((k + 1 : Nat) : Int) := by omega
set_option maxHeartbeats 1000000 in
set_option maxRecDepth 100000 in
theorem l1Kids_calls (kids : List Int) (A : Option Addr) (cap : Nat) (body bodies : Int) (w : World) (S : Nat → Prop) (hr : Row Kd.int w S A kids) (h0 : 0 ≤ body) (h1 : body ≤ 100) (h2 : 0 ≤ bodies) (h3 : bodies ≤ 9223372036854775807) :
    Calls Try.prog 124 #[.slice A kids.length cap, .int .i64 body, .int .i64 bodies] w fun e w' => e = .returned (.bool (kidsOk kids body bodies)) ∧ w = w' := by
  have hm := hr.1
  go_enter Try.func124, Try.ntmps124
  go_wp2
  go_loop [7] (fun i => ∃ k : Nat, k ≤ kids.length ∧ i = .int .i64 k ∧ Hid ((kids.take k).all (fun k => inR k (body + 1) (bodies - 1)) = true)) (fun i => kids.length - (intOf i).toNat)
  case atStart => exact ⟨0, Nat.zero_le _, rfl, by simp [Hid]⟩
  case round =>
    obtain ⟨k, hk, rfl, HA⟩ := hrel
    by_cases hlt : k < kids.length
    · obtain ⟨ad, rfl, hl, hc, hi⟩ := at_int hr hlt
      cases hin : inR kids[k] (body + 1) (bodies - 1)
      all_goals
        have HI := Lib.hid hin
        clear hin
        go_wp2_with (go_at_call 43; refine (l6In_calls _ _ _ _).mono ?_; rintro e w' ⟨rfl, rfl⟩; simp only [HI.out])
      · go_ret
        refine ⟨?_, rfl⟩
        rw [kidsOk, all_false_of _ _ k hlt HI.out]; rfl
      · go_round
        case rel => exact ⟨k + 1, by omega, by go_num, by unfold Hid; rw [all_take_snoc _ _ _ hlt, HA.out, HI.out]; rfl⟩
        case measure => simp [intOf]; omega
    · go_wp2_with (go_at_call 43; refine (l6In_calls _ _ _ _).mono ?_; rintro e w' ⟨rfl, rfl⟩)
      go_ret
      refine ⟨?_, rfl⟩
      have := HA.out
      rw [all_take_all _ _ _ (by omega)] at this
      simp [kidsOk, this]
end Go.Proofs.Ytcpabkfoalhldaa
namespace Go.Proofs.Ytcpabkfoalhldaa
open Go.RowKit
set_option linter.unusedVariables false
set_option linter.unusedSimpArgs false


section
variable (A B D E : Option Addr) (ca cb cd ce : Nat) (w : World) (S : Nat → Prop)
def l1ActArgs (p : Prog) (a : Act) (body : Int) : Array Value := #[.agg #[.slice A p.cells.length ca, .slice B p.bodies.length cb], .int .i64 body, .agg #[.int .i64 a.kind, .slice D a.deeds.length cd, .slice E a.kids.length ce, .int .i64 a.reg]]

set_option maxHeartbeats 1000000 in
set_option maxRecDepth 100000 in
theorem l1Act_other (p : Prog) (k : Int) (deeds : List Deed) (kids : List Int) (reg body : Int) (h1 : k ≠ 1) (h2 : k ≠ 2) (h3 : k ≠ 3) (h4 : k ≠ 4) (hm3 : deeds.length ≤ 9223372036854775807) (hm4 : kids.length ≤ 9223372036854775807) :
    Calls Try.prog 95 #[.agg #[.slice A p.cells.length ca, .slice B p.bodies.length cb], .int .i64 body, .agg #[.int .i64 k, .slice D deeds.length cd, .slice E kids.length ce, .int .i64 reg]] w
      fun e w' => e = .returned (.bool false) ∧ Below w.heap.size w w' := by
  by_cases hr : reg = 0 <;> rcases deeds with _ | ⟨d0, dr⟩ <;> rcases kids with _ | ⟨k0, kr⟩
  all_goals
    simp only [List.length_cons, List.length_nil] at *
    go_enter Try.func95, Try.ntmps95
    go_wp2_with fail
    all_goals
      go_ret
      exact ⟨rfl, ((Below.refl _ _).alloc (Nat.le_refl _) _).alloc (by simp) _⟩

set_option maxHeartbeats 1000000 in
set_option maxRecDepth 100000 in
theorem l1Act_3 (p : Prog) (deeds : List Deed) (kids : List Int) (reg body : Int) (hm3 : deeds.length ≤ 9223372036854775807) (hm4 : kids.length ≤ 9223372036854775807) :
    Calls Try.prog 95 #[.agg #[.slice A p.cells.length ca, .slice B p.bodies.length cb], .int .i64 body, .agg #[.int .i64 3, .slice D deeds.length cd, .slice E kids.length ce, .int .i64 reg]] w
      fun e w' => e = .returned (.bool (actOk ⟨3, deeds, kids, reg⟩ p.cells.length body p.bodies.length)) ∧ Below w.heap.size w w' := by
  by_cases hr : reg = 0 <;> rcases deeds with _ | ⟨d0, dr⟩ <;> rcases kids with _ | ⟨k0, kr⟩
  all_goals
    simp only [List.length_cons, List.length_nil] at *
    go_enter Try.func95, Try.ntmps95
    go_wp2_with fail
    all_goals
      go_ret
      exact ⟨by simp [actOk, hr], ((Below.refl _ _).alloc (Nat.le_refl _) _).alloc (by simp) _⟩

set_option maxHeartbeats 1000000 in
set_option maxRecDepth 100000 in
theorem l1Act_4 (p : Prog) (deeds : List Deed) (kids : List Int) (reg body : Int) (hm3 : deeds.length ≤ 9223372036854775807) (hm4 : kids.length ≤ 9223372036854775807) :
    Calls Try.prog 95 #[.agg #[.slice A p.cells.length ca, .slice B p.bodies.length cb], .int .i64 body, .agg #[.int .i64 4, .slice D deeds.length cd, .slice E kids.length ce, .int .i64 reg]] w
      fun e w' => e = .returned (.bool (actOk ⟨4, deeds, kids, reg⟩ p.cells.length body p.bodies.length)) ∧ Below w.heap.size w w' := by
  rcases deeds with _ | ⟨d0, dr⟩ <;> rcases kids with _ | ⟨k0, kr⟩
  all_goals
    simp only [List.length_cons, List.length_nil] at *
    go_enter Try.func95, Try.ntmps95
    go_wp2_with (go_at_call 43; refine (l6In_calls _ _ _ _).mono ?_; rintro e w' ⟨rfl, rfl⟩)
    all_goals
      go_ret
      exact ⟨by simp [actOk], ((Below.refl _ _).alloc (Nat.le_refl _) _).alloc (by simp) _⟩

set_option maxHeartbeats 1000000 in
set_option maxRecDepth 100000 in
theorem l1Act_2 (p : Prog) (deeds : List Deed) (kids : List Int) (reg body : Int) (hm3 : deeds.length ≤ 9223372036854775807) (hm2 : p.bodies.length ≤ 9223372036854775807) (hk : Row Kd.int w S E kids) (h0 : 0 ≤ body) (h1 : body ≤ 100) :
    Calls Try.prog 95 #[.agg #[.slice A p.cells.length ca, .slice B p.bodies.length cb], .int .i64 body, .agg #[.int .i64 2, .slice D deeds.length cd, .slice E kids.length ce, .int .i64 reg]] w
      fun e w' => e = .returned (.bool (actOk ⟨2, deeds, kids, reg⟩ p.cells.length body p.bodies.length)) ∧ Below w.heap.size w w' := by
  have hm4 := hk.1
  by_cases hr : reg = 0 <;> rcases deeds with _ | ⟨d0, dr⟩
  all_goals
    simp only [List.length_cons, List.length_nil] at *
    have hkk := fun o o' => (hk.belowAll (((Below.refl w.heap.size w).alloc (Nat.le_refl _) o).alloc (by simp) o'))
    go_enter Try.func95, Try.ntmps95
    go_wp2_with (go_at_call 124; refine (l1Kids_calls kids _ _ _ _ _ _ (hkk _ _) (by omega) (by omega) (by omega) (by omega)).mono ?_; rintro e w' ⟨rfl, rfl⟩)
    all_goals
      go_ret
      exact ⟨by simp [actOk, hr], ((Below.refl _ _).alloc (Nat.le_refl _) _).alloc (by simp) _⟩

end
end Go.Proofs.Ytcpabkfoalhldaa
namespace Go.Proofs.Ytcpabkfoalhldaa
open Go.RowKit
set_option linter.unusedVariables false
set_option linter.unusedSimpArgs false
section
variable (A B D E : Option Addr) (ca cb cd ce : Nat) (w : World) (S : Nat → Prop)
set_option maxHeartbeats 1000000 in
set_option maxRecDepth 100000 in
theorem l1Act_1 (p : Prog) (deeds : List Deed) (kids : List Int) (reg body : Int) (hm4 : kids.length ≤ 9223372036854775807) (hm1 : p.cells.length ≤ 9223372036854775807) (hd : Row kDeed w S D deeds) :
    Calls Try.prog 95 #[.agg #[.slice A p.cells.length ca, .slice B p.bodies.length cb], .int .i64 body, .agg #[.int .i64 1, .slice D deeds.length cd, .slice E kids.length ce, .int .i64 reg]] w
      fun e w' => e = .returned (.bool (actOk ⟨1, deeds, kids, reg⟩ p.cells.length body p.bodies.length)) ∧ Below w.heap.size w w' := by
  have hm3 := hd.1
  by_cases hr : reg = 0 <;> rcases kids with _ | ⟨k0, kr⟩
  case pos.nil =>
    subst hr
    simp only [List.length_cons, List.length_nil] at *
    go_enter Try.func95, Try.ntmps95
    go_wp2_with fail
    obtain ⟨W2, HW⟩ : ∃ W2, W2 = (w.alloc (Obj.cells #[.slice A p.cells.length ca, .slice B p.bodies.length cb] 26)).alloc (Obj.cells #[.int .i64 1, .slice D deeds.length cd, .slice E 0 ce, .int .i64 0] 35) := ⟨_, rfl⟩
    have hb2 : Below w.heap.size w W2 := by rw [HW]; exact ((Below.refl _ _).alloc (Nat.le_refl _) _).alloc (by simp) _
    have hz2 : W2.heap.size = w.heap.size + 2 := by rw [HW]; simp
    have c0 : W2.cell? ⟨w.heap.size, 0, none⟩ = some (.slice A p.cells.length ca) := by rw [HW]; simp [go_sem]
    have c1 : W2.cell? ⟨w.heap.size + 1, 1, none⟩ = some (.slice D deeds.length cd) := by rw [HW]; simp [go_sem]
    have hd2 := hd.belowAll hb2
    rw [← HW]
    have HZ := Lib.hid hz2
    clear HW hz2 hd
    go_loopw [7] (fun i wr => ∃ k : Nat, k ≤ deeds.length ∧ i = .int .i64 k ∧ Hid ((deeds.take k).all (deedOk · p.cells.length) = true) ∧ Below W2.heap.size W2 wr) (fun i _ => deeds.length - (intOf i).toNat)
    case atStart => exact ⟨0, Nat.zero_le _, rfl, by simp [Hid], Below.refl _ _⟩
    case round =>
      obtain ⟨k, hk, rfl, HA, hbr⟩ := hrel
      have c0r := (hbr.cell (p := ⟨w.heap.size, 0, none⟩) (by rw [HZ.out]; simp)).trans c0
      have c1r := (hbr.cell (p := ⟨w.heap.size + 1, 1, none⟩) (by rw [HZ.out]; simp)).trans c1
      by_cases hlt : k < deeds.length
      · obtain ⟨ad, rfl, hl, hc1, hc2, hc3, hi1, hi2, hi3⟩ := at_deed (hd2.belowAll hbr) hlt
        go_wp2
        go_still_tail 8, (by kernel_rfl)
        cases hd : deedOk deeds[k] p.cells.length
        all_goals
          have HD := Lib.hid hd
          clear hd
          go_wp2_with (go_at_call 123; refine (l1Deed_calls _ _ _ _ _ (by omega) (by omega)).mono ?_; rintro e w1 ⟨rfl, hb1⟩; rw [HD.out])
        · go_ret
          refine ⟨?_, ?_⟩
          · simp [actOk, all_false_of (deedOk · (p.cells.length : Int)) _ k hlt HD.out]
          · exact hb2.trans ((hbr.mono (by rw [HZ.out]; omega)).trans ((below_drewN' (Below.refl _ _) _).trans (hb1.mono (by have := hbr.size; rw [HZ.out] at this; simp; omega))))
        · go_roundw
          case rel => exact ⟨k + 1, by omega, by go_num, by unfold Hid; rw [all_take_snoc _ _ _ hlt, HA.out, HD.out]; rfl, hbr.trans ((below_drewN' (Below.refl _ _) _).trans (hb1.mono (by have := hbr.size; simp; omega)))⟩
          case measure => simp [intOf]; omega
      · go_wp2
        go_ret
        refine ⟨?_, hb2.trans (hbr.mono (by rw [HZ.out]; omega))⟩
        have := HA.out
        rw [all_take_all _ _ _ (by omega)] at this
        simp [actOk, this]; omega
  all_goals
    simp only [List.length_cons, List.length_nil] at *
    go_enter Try.func95, Try.ntmps95
    go_wp2_with fail
    all_goals
      go_ret
      exact ⟨by simp [actOk, hr], ((Below.refl _ _).alloc (Nat.le_refl _) _).alloc (by simp) _⟩
end
end Go.Proofs.Ytcpabkfoalhldaa
namespace Go.Proofs.Ytcpabkfoalhldaa
open Go.RowKit
set_option linter.unusedVariables false
set_option linter.unusedSimpArgs false

theorem l1Act_calls (p : Prog) (a : Act) (body : Int) (A B D E : Option Addr) (ca cb cd ce : Nat) (w : World) (S : Nat → Prop)
    (hm1 : p.cells.length ≤ 9223372036854775807) (hm2 : p.bodies.length ≤ 9223372036854775807) (hd : Row kDeed w S D a.deeds) (hk : Row Kd.int w S E a.kids) (h0 : 0 ≤ body) (h1 : body ≤ 100) :
    Calls Try.prog 95 #[.agg #[.slice A p.cells.length ca, .slice B p.bodies.length cb], .int .i64 body, .agg #[.int .i64 a.kind, .slice D a.deeds.length cd, .slice E a.kids.length ce, .int .i64 a.reg]] w
      fun e w' => e = .returned (.bool (actOk a p.cells.length body p.bodies.length)) ∧ Below w.heap.size w w' := by
  obtain ⟨k, deeds, kids, reg⟩ := a
  by_cases h1 : k = 1
  · subst h1; exact l1Act_1 A B D E ca cb cd ce w S p deeds kids reg body hk.1 hm1 hd
  · by_cases h2 : k = 2
    · subst h2; exact l1Act_2 A B D E ca cb cd ce w S p deeds kids reg body hd.1 hm2 hk h0 (by omega)
    · by_cases h3 : k = 3
      · subst h3; exact l1Act_3 A B D E ca cb cd ce w p deeds kids reg body hd.1 hk.1
      · by_cases h4 : k = 4
        · subst h4; exact l1Act_4 A B D E ca cb cd ce w p deeds kids reg body hd.1 hk.1
        · have := l1Act_other A B D E ca cb cd ce w p k deeds kids reg body h1 h2 h3 h4 hd.1 hk.1
          simpa [actOk, h1, h2, h3, h4] using this

set_option maxHeartbeats 1000000 in
set_option maxRecDepth 100000 in
theorem l1Form_calls (p : Prog) (A B : Option Addr) (ca cb : Nat) (w : World) (S : Nat → Prop) (hA : Row Kd.int w S A p.cells) (hB : Row (Kd.slice kAct) w S B p.bodies) :
    Calls Try.prog 70 #[.agg #[.slice A p.cells.length ca, .slice B p.bodies.length cb]] w fun e w' => e = .returned (.bool (formOk p)) ∧ Below w.heap.size w w' := by
  have hm1 := hA.1
  have hm2 := hB.1
  by_cases hc3 : p.cells.length ≤ 3
  rotate_left
  · go_enter Try.func70, Try.ntmps70
    have hc3' : 3 < p.cells.length := by omega
    go_wp2_with (go_at_call 43; refine (l6In_calls _ _ _ _).mono ?_; rintro e w' ⟨rfl, rfl⟩)
    go_ret
    exact ⟨by simp [formOk, hc3], (Below.refl _ _).alloc (Nat.le_refl _) _⟩
  cases hb4 : inR p.bodies.length 1 4
  · have HB4 := Lib.hid hb4
    clear hb4
    go_enter Try.func70, Try.ntmps70
    go_wp2_with (go_at_call 43; refine (l6In_calls _ _ _ _).mono ?_; rintro e w' ⟨rfl, rfl⟩; rw [HB4.out])
    go_ret
    exact ⟨by simp [formOk, HB4.out], (Below.refl _ _).alloc (Nat.le_refl _) _⟩
  have HB4 := Lib.hid hb4
  have hb5 : p.bodies.length ≤ 4 := by simp [inR] at hb4; omega
  clear hb4
  have hbw : ∀ o, Below w.heap.size w (w.alloc o) := fun o => (Below.refl _ _).alloc (Nat.le_refl _) _
  go_enter Try.func70, Try.ntmps70
  go_wp2_with (go_at_call 43; refine (l6In_calls _ _ _ _).mono ?_; rintro e w' ⟨rfl, rfl⟩; rw [HB4.out])
  obtain ⟨W2, HW⟩ : ∃ W2, W2 = w.alloc (Obj.cells #[.slice A p.cells.length ca, .slice B p.bodies.length cb] 26) := ⟨_, rfl⟩
  have hb2 : Below w.heap.size w W2 := by rw [HW]; exact hbw _
  have hz2 : W2.heap.size = w.heap.size + 1 := by rw [HW]; simp
  have c0 : W2.cell? ⟨w.heap.size, 0, none⟩ = some (.slice A p.cells.length ca) := by rw [HW]; simp [go_sem]
  have c1 : W2.cell? ⟨w.heap.size, 1, none⟩ = some (.slice B p.bodies.length cb) := by rw [HW]; simp [go_sem]
  have hA2 := hA.belowAll hb2
  have hB2 := hB.belowAll hb2
  rw [← HW]
  have HZ := Lib.hid hz2
  clear HW hz2 hA hB
  go_loop [3] (fun i => ∃ k : Nat, k ≤ p.cells.length ∧ i = .int .i64 k ∧ Hid ((p.cells.take k).all (fun x => inR x 0 99) = true)) (fun i => p.cells.length - (intOf i).toNat)
  case atStart => exact ⟨0, Nat.zero_le _, rfl, by simp [Hid]⟩
  case round =>
    obtain ⟨k, hk, rfl, HA⟩ := hrel
    by_cases hlt : k < p.cells.length
    · obtain ⟨ad, rfl, hl, hc, hi⟩ := at_int hA2 hlt
      cases hin : inR p.cells[k] 0 99
      all_goals
        have HI := Lib.hid hin
        clear hin
        go_wp2_with (go_at_call 43; refine (l6In_calls _ _ _ _).mono ?_; rintro e w' ⟨rfl, rfl⟩; simp only [HI.out])
      · go_ret
        refine ⟨?_, hb2⟩
        simp [formOk, numsOk, all_false_of (fun x => inR x 0 99) _ k hlt HI.out]
      · go_round
        case rel => exact ⟨k + 1, by omega, by go_num, by unfold Hid; rw [all_take_snoc _ _ _ hlt, HA.out, HI.out]; rfl⟩
        case measure => simp [intOf]; omega
    · have hnum : Hid (numsOk p.cells = true) := by unfold Hid numsOk; rw [← all_take_all _ _ k (by omega)]; exact HA.out
      go_wp2
      clear HA hlt hk
      go_loopw [4, 5] (fun i _ wr => ∃ k : Nat, k ≤ p.bodies.length ∧ i = .int .i64 k ∧ Hid ((List.range k).all (fun i => bodyOk (p.bodies.getD i []) p.cells.length i p.bodies.length) = true) ∧ Below W2.heap.size W2 wr) (fun i _ _ => p.bodies.length - (intOf i).toNat)
      case atStart => exact ⟨0, Nat.zero_le _, rfl, by simp [Hid], Below.refl _ _⟩
      case round =>
        obtain ⟨i, hi, rfl, HB, hbr⟩ := hrel
        have c0r := (hbr.cell (p := ⟨w.heap.size, 0, none⟩) (by rw [HZ.out]; simp)).trans c0
        have c1r := (hbr.cell (p := ⟨w.heap.size, 1, none⟩) (by rw [HZ.out]; simp)).trans c1
        by_cases hlt : i < p.bodies.length
        · obtain ⟨ad, C, cc, rfl, hl, hc, hcl, hC⟩ := at_slice (hB2.belowAll hbr) hlt
          by_cases hb4 : p.bodies[i].length ≤ 4
          rotate_left
          · have hb4' : 4 < p.bodies[i].length := by omega
            go_wp2
            go_ret
            refine ⟨?_, hb2.trans (hbr.mono (by rw [HZ.out]; omega))⟩
            have hf : bodiesOk p.cells.length p.bodies = false := range_all_false _ _ i hlt (by rw [getD_at _ _ _ hlt, bodyOk, decide_eq_false hb4]; rfl)
            simp [formOk, hf]
          · go_wp2
            obtain ⟨wo, rfl⟩ : ∃ wo : World, wo = wr := ⟨_, rfl⟩
            go_loopw [5] (fun v wr => ∃ j : Nat, j ≤ p.bodies[i].length ∧ v = .int .i64 j ∧ Hid ((p.bodies[i].take j).all (fun a => actOk a p.cells.length i p.bodies.length) = true) ∧ Below wo.heap.size wo wr) (fun v _ => p.bodies[i].length - (intOf v).toNat)
            case atStart => exact ⟨0, Nat.zero_le _, rfl, by simp [Hid], Below.refl _ _⟩
            case round =>
              obtain ⟨j, hj, rfl, HJ, hbj⟩ := hrel
              have hsz := hbr.size
              rw [HZ.out] at hsz
              have hbj2 : Below W2.heap.size W2 wr := below_then hbr hbr.size hbj
              have c0j := (hbj2.cell (p := ⟨w.heap.size, 0, none⟩) (by rw [HZ.out]; simp)).trans c0
              have c1j := (hbj2.cell (p := ⟨w.heap.size, 1, none⟩) (by rw [HZ.out]; simp)).trans c1
              have hcj := (hbj.cell (p := ad.add i) (by rw [block_add]; exact hl)).trans hc
              by_cases hlj : j < p.bodies[i].length
              · obtain ⟨ad2, D, cd, E, ce, rfl, hl2, k0, k1, k2, k3, hcd, hce, hD, hE, hi1, hi2⟩ := at_act (hC.belowAll hbj) hlj
                go_wp2
                go_still_tail 10, (by kernel_rfl)
                cases ha : actOk p.bodies[i][j] p.cells.length i p.bodies.length
                all_goals
                  have HA := Lib.hid ha
                  clear ha
                  go_wp2_with (go_at_call 95; go_loud (refine (l1Act_calls p p.bodies[i][j] i _ _ _ _ _ _ _ _ _ S hm1 hm2 (Row.drewN hD _) (Row.drewN hE _) (by omega) (by omega)).mono ?_; rintro e w1 ⟨rfl, hb1⟩; rw [HA.out]))
                · go_ret
                  refine ⟨?_, hb2.trans ((hbj2.mono (by rw [HZ.out]; omega)).trans ((below_drewN' (Below.refl _ _) _).trans (hb1.mono (by have := hbj2.size; rw [HZ.out] at this; simp; omega))))⟩
                  have hf : bodiesOk p.cells.length p.bodies = false := range_all_false _ _ i hlt (by rw [getD_at _ _ _ hlt, bodyOk, all_false_of (fun a => actOk a (p.cells.length : Int) i p.bodies.length) _ j hlj HA.out]; simp)
                  simp [formOk, hf]
                · go_roundw
                  case rel => exact ⟨j + 1, by omega, by go_num, by unfold Hid; rw [all_take_snoc _ _ _ hlj, HJ.out, HA.out]; rfl, hbj.trans ((below_drewN' (Below.refl _ _) _).trans (hb1.mono (by have := hbj.size; simp; omega)))⟩
                  case measure => simp [intOf]; omega
              · go_wp2
                go_roundw
                case rel =>
                  refine ⟨i + 1, by omega, by go_num, ?_, hbj2⟩
                  unfold Hid
                  rw [range_all_succ, HB.out, getD_at _ _ _ hlt, bodyOk, decide_eq_true hb4]
                  have := HJ.out
                  rw [all_take_all _ _ _ (by omega)] at this
                  rw [this]; rfl
                case measure => simp [intOf]; omega
        · go_wp2
          go_ret
          refine ⟨?_, hb2.trans (hbr.mono (by rw [HZ.out]; omega))⟩
          obtain rfl : i = p.bodies.length := by omega
          have hB := HB.out; have hN := hnum.out; have h4 := HB4.out
          simp only [formOk, bodiesOk, hB, hN, h4, decide_eq_true hc3]; rfl
end Go.Proofs.Ytcpabkfoalhldaa
namespace Go.Proofs.Ytcpabkfoalhldaa
open Go.RowKit
set_option linter.unusedSimpArgs false
set_option linter.unusedVariables false

theorem own_intro {α : Type} {d : Kd α} {e : Nat} {w : World} {base : Nat} {S : Nat → Prop} {v : Value} {xs : List α} (css : List (List Value)) (h : w.ownsRow base e d.sz v xs.length css.flatten) (hl : css.length = xs.length)
    (hS : ∀ k, v.ownBlock = some k → S k) (hk : ∀ (j : Nat) (x : α), xs[j]? = some x → ∃ c, css[j]? = some c ∧ d.K w (fun k => S k ∧ some k ≠ v.ownBlock) x c) : Own d e w base S v xs := ⟨css, h, hl, hS, hk⟩

/-- The cells of a row that is read. -/
theorem Row.cells {α : Type} {d : Kd α} {w : World} {S : Nat → Prop} {A : Option Addr} {xs : List α} (h : Row d w S A xs) :
    ∃ css : List (List Value), css.length = xs.length ∧ (∀ c ∈ css, c.length = d.sz) ∧ (∀ (j : Nat) (x : α), xs[j]? = some x → ∃ c, css[j]? = some c ∧ d.K w S x c) ∧
      (xs ≠ [] → ∃ ad, A = some ad ∧ S ad.block ∧ ad.block < w.heap.size ∧ ∀ j u, css.flatten[j]? = some u → w.cell? (ad.add j) = some u) := by
  by_cases hn : xs = []
  · subst hn
    exact ⟨[], rfl, by simp, by simp, fun h => absurd rfl h⟩
  · obtain ⟨ad, e, hb, hl, hc⟩ := h.2 hn
    have hall : ∀ j : Fin xs.length, ∃ c, d.K w S xs[j] c ∧ ∀ i u, c[i]? = some u → w.cell? (ad.add (j * d.sz + i)) = some u := fun j => hc j _ (List.getElem?_eq_getElem j.2)
    have hch := fun j => Classical.choose_spec (hall j)
    refine ⟨List.ofFn fun j => Classical.choose (hall j), by simp, ?_, ?_, fun _ => ⟨ad, e, hb, hl, ?_⟩⟩
    · intro c hc
      obtain ⟨j, rfl⟩ := (List.mem_ofFn).1 hc
      exact d.len (hch j).1
    · intro j x hj
      have hjl : j < xs.length := (List.getElem?_eq_some_iff.1 hj).1
      have hx : xs[j] = x := (List.getElem?_eq_some_iff.1 hj).2
      subst hx
      exact ⟨_, by rw [List.getElem?_ofFn]; simp [hjl], (hch ⟨j, hjl⟩).1⟩
    · intro j u hu
      -- cell j of the whole is cell j % sz of element j / sz
      have key : ∀ (l : List (List Value)) (off : Nat), (∀ c ∈ l, c.length = d.sz) → (∀ (i : Nat) (c : List Value), l[i]? = some c → ∀ q v, c[q]? = some v → w.cell? (ad.add ((off + i) * d.sz + q)) = some v) →
          ∀ j u, l.flatten[j]? = some u → w.cell? (ad.add (off * d.sz + j)) = some u := by
        intro l
        induction l with
        | nil => intro off _ _ j u h; simp at h
        | cons a r ih =>
          intro off h1 h2 j u hj
          have ha := h1 a (List.mem_cons_self ..)
          rw [List.flatten_cons] at hj
          rcases Nat.lt_or_ge j a.length with hlt | hge
          · rw [List.getElem?_append_left hlt] at hj
            have := h2 0 a rfl j u hj
            simpa using this
          · rw [List.getElem?_append_right hge] at hj
            have := ih (off + 1) (fun c hc => h1 c (List.mem_cons_of_mem _ hc)) (fun i c hi q v hq => by
              have := h2 (i + 1) c (by simpa using hi) q v hq
              rwa [show off + (i + 1) = off + 1 + i from by omega] at this) (j - a.length) u hj
            rw [Nat.add_mul, Nat.one_mul] at this
            rwa [show off * d.sz + d.sz + (j - a.length) = off * d.sz + j from by omega] at this
      have := key (List.ofFn fun j => Classical.choose (hall j)) 0 (by
        intro c hc
        obtain ⟨j, rfl⟩ := (List.mem_ofFn).1 hc
        exact d.len (hch j).1) (by
        intro i c hi q v hq
        have hil : i < xs.length := by
          have := (List.getElem?_eq_some_iff.1 hi).1
          simpa using this
        rw [List.getElem?_ofFn] at hi
        simp [hil] at hi
        subst hi
        have := (hch ⟨i, hil⟩).2 q v hq
        simpa using this) j u hu
      simpa using this

section
variable {P : Program} {α : Type} {d : Kd α} {e : Nat} {w : World} {base : Nat} {S S2 : Nat → Prop} {v : Value} {xs ys : List α}

/-- What append leaves: the row, longer. -/
theorem own_appended {css ccs : List (List Value)} {v' : Value} {w' : World} (hl1 : css.length = xs.length) (hS1 : ∀ k, v.ownBlock = some k → S k)
    (hk1 : ∀ (j : Nat) (x : α), xs[j]? = some x → ∃ c, css[j]? = some c ∧ d.K w (fun k => S k ∧ some k ≠ v.ownBlock) x c)
    (hl2 : ccs.length = ys.length) (hk2 : ∀ (j : Nat) (x : α), ys[j]? = some x → ∃ c, ccs[j]? = some c ∧ d.K w S2 x c) (hne : ∀ k, S2 k → some k ≠ v.ownBlock)
    (ho : w'.ownsRow base e d.sz v' (xs.length + ys.length) (css.flatten ++ ccs.flatten)) (hg : w.grownBy w' v.ownBlock) (hat : v'.ownBlock = v.ownBlock ∨ v'.ownBlock = some w.heap.size) :
    Own d e w' base (fun k => S k ∨ S2 k ∨ k = w.heap.size) v' (xs ++ ys) := by
  have far : ∀ (T : Nat → Prop) (x : α) (c : List Value), d.K w T x c → (∀ k, T k → some k ≠ v.ownBlock) → (∀ k, T k → S k ∨ S2 k) → d.K w' (fun k => (S k ∨ S2 k ∨ k = w.heap.size) ∧ some k ≠ v'.ownBlock) x c := by
    intro T x c hk h1 h2
    have hb := d.bound hk
    have hm := d.move (w' := w') (fun k hk => hg.block k hk.2 (h1 k hk.1)) hb
    refine d.mono (fun k hk => ⟨(h2 k hk.1).elim .inl fun h => .inr (.inl h), ?_⟩) hm
    rcases hat with e | e
    · rw [e]; exact h1 k hk.1
    · rw [e]; intro h; injection h with h; omega
  refine own_intro (css ++ ccs) (by rw [List.length_append, List.flatten_append]; exact ho) (by simp [hl1, hl2]) (fun k hk => ?_) (fun j x hj => ?_)
  · rcases hat with e | e
    · exact .inl (hS1 k (by rw [← e]; exact hk))
    · rw [e] at hk; injection hk with hk; exact .inr (.inr hk.symm)
  · rcases Nat.lt_or_ge j xs.length with hlt | hge
    · rw [List.getElem?_append_left hlt] at hj
      obtain ⟨c, hc, hk⟩ := hk1 j x hj
      exact ⟨c, by rw [List.getElem?_append_left (by omega)]; exact hc, far _ x c hk (fun k h => h.2) (fun k h => .inl h.1)⟩
    · rw [List.getElem?_append_right hge] at hj
      obtain ⟨c, hc, hk⟩ := hk2 _ x hj
      exact ⟨c, by rw [List.getElem?_append_right (by omega), hl1]; exact hc, far _ x c hk hne (fun k h => .inr h)⟩

theorem run_append_nil_src (t ty : TypeId) (i : TypeInfo) (ht : P.underlying t = some (.slice e)) (hi : P.info? e = some i) {n : Nat} {zs : List Value} (hown : w.ownsRow base e i.size v n zs) (A : Option Addr) (c : Nat) (hA : A = none) :
    (Builtin.append_ #[t, t] ty #[v, .slice A 0 c]).run P w = .ok v w := by
  subst hA
  rcases hown.2 with ⟨rfl, rfl⟩ | ⟨g, cap, cur, rfl, _, _, hnc, _⟩
  · simp [Builtin.append_, run_underlying ht, sizeOf, typeInfo, hi, Builtin.lenOf, Builtin.firstCells]
  · simp [Builtin.append_, run_underlying ht, sizeOf, typeInfo, hi, Builtin.lenOf, Builtin.firstCells, hnc, storeCells]

theorem run_append_kd (t ty : TypeId) (ht : P.underlying t = some (.slice e)) (z : Value) (bytes : Nat) (hinfo : (P.info? e).map (fun i => (i.zero, i.size, i.bytes)) = some (some z, d.sz, bytes)) (hz : z.cells.size = d.sz) (hs0 : 0 < d.sz) (hb0 : 0 < bytes)
    (HO : Own d e w base S v xs) (A : Option Addr) (c : Nat) (HR : Row d w S2 A ys) (hne : ∀ k, S2 k → some k ≠ v.ownBlock) (hl : (xs.length + ys.length) * bytes ≤ 140737488355328) (hbase : base ≤ w.heap.size) :
    ∃ v' w', (Builtin.append_ #[t, t] ty #[v, .slice A ys.length c]).run P w = .ok v' w' ∧ Own d e w' base (fun k => S k ∨ S2 k ∨ k = w.heap.size) v' (xs ++ ys) ∧ w.grownBy w' v.ownBlock ∧ (v'.ownBlock = v.ownBlock ∨ v'.ownBlock = some w.heap.size) := by
  obtain ⟨i0, hi, hzz⟩ := Option.map_eq_some_iff.1 hinfo
  simp only [Prod.mk.injEq] at hzz
  obtain ⟨hz0, hz1, hz2⟩ := hzz
  have HO' := HO
  obtain ⟨css, h1, h2, hcl, h3, h4⟩ := HO.lens
  obtain ⟨ccs, g1, g2, g3, g4⟩ := HR.cells
  have hlen : xs.length + ys.length ≤ 140737488355328 := Nat.le_trans (Nat.le_mul_of_pos_right _ hb0) hl
  have hflat : ccs.flatten.length = ys.length * d.sz := by
    rw [List.length_flatten, ← g1]
    have : ccs.map List.length = List.replicate ccs.length d.sz := by
      rw [List.eq_replicate_iff]; exact ⟨by simp, fun b hb => by obtain ⟨c, hc, rfl⟩ := List.mem_map.1 hb; exact g2 c hc⟩
    rw [this]; simp
  have hone : ∀ u ∈ ccs.flatten, u.oneCell' = true := by
    intro u hu
    obtain ⟨c, hc, hu⟩ := List.mem_flatten.1 hu
    obtain ⟨j, hj, rfl⟩ := List.mem_iff_getElem.1 hc
    obtain ⟨c', hc', hk⟩ := g3 j _ (List.getElem?_eq_getElem (by omega))
    rw [List.getElem?_eq_getElem hj] at hc'
    injection hc' with hc'
    rw [← hc'] at hk
    exact d.one hk u hu
  cases A with
  | none =>
    have hy : ys = [] := by
      rcases Classical.em (ys = []) with h | h
      · exact h
      · obtain ⟨ad, e, _⟩ := g4 h; cases e
    subst hy
    rw [← hz1] at h1
    refine ⟨v, w, run_append_nil_src t ty i0 ht hi h1 none c rfl, ?_, ⟨rfl, rfl, rfl, Nat.le_refl _, fun _ _ _ => rfl⟩, .inl rfl⟩
    rw [List.append_nil]
    exact HO'.mono fun k hk => .inl hk
  | some ad =>
    have hcells : ∀ j u, ccs.flatten[j]? = some u → w.cell? (ad.add j) = some u := by
      by_cases hy : ys = []
      · subst hy
        have : ccs = [] := List.eq_nil_of_length_eq_zero (by simpa using g1)
        subst this
        intro j u h; simp at h
      · obtain ⟨ad', e', _, _, hc⟩ := g4 hy
        injection e' with e'
        subst e'
        exact hc
    obtain ⟨v', w', hr, hown, hg, _, hat⟩ := run_append_own_at (P := P) w base t ty e i0 z d.sz bytes ht hi hz0 hz1 hz2 hz hs0 v xs.length css.flatten h1 ad ys.length c ccs.flatten hflat hcells hone (by simp only [maxLen]; omega) hl hbase
    exact ⟨v', w', hr, own_appended h2 h3 h4 g1 g3 hne hown hg hat, hg, hat⟩

theorem wp_append_kd {o : Oper} {a : Go.Act} {K : Go.Act → World → Prop} {Q : Exit → Go.Act → World → Prop} (s x : Operand) (t : TypeId) (ho : o.op = .call { callee := .builtin .append, args := #[s, x], argTypes := #[t, t] })
    (ht : P.underlying t = some (.slice e)) (z : Value) (bytes : Nat) (hinfo : (P.info? e).map (fun i => (i.zero, i.size, i.bytes)) = some (some z, d.sz, bytes)) (hz : z.cells.size = d.sz) (hs0 : 0 < d.sz) (hb0 : 0 < bytes)
    (hs : a.eval s = v) (HO : Own d e w base S v xs) (A : Option Addr) (c : Nat) (hx : a.eval x = .slice A ys.length c) (HR : Row d w S2 A ys) (hne : ∀ k, S2 k → some k ≠ v.ownBlock) (hl : (xs.length + ys.length) * bytes ≤ 140737488355328) (hbase : base ≤ w.heap.size)
    (h : ∀ v' w', Own d e w' base (fun k => S k ∨ S2 k ∨ k = w.heap.size) v' (xs ++ ys) → w.grownBy w' v.ownBlock → (v'.ownBlock = v.ownBlock ∨ v'.ownBlock = some w.heap.size) → K (a.put o.dst v') w') : o.wp P a w K Q := by
  obtain ⟨v', w', hrun, h2, h3, h4⟩ := run_append_kd (P := P) t o.type ht z bytes hinfo hz hs0 hb0 HO A c HR hne hl hbase
  unfold Oper.wp execOp
  simp only [ho, resolve, invoke, builtin, Sem.run_bind, Sem.run_pure, Result.andThen_ok, List.map_toArray, List.map_cons, List.map_nil, hs, hx, hrun]
  exact h v' w' h2 h3 h4
theorem wpList_append_kd {ops : Array Oper} {rest : List Oper} {o : Oper} {a : Go.Act} {Q : Exit → Go.Act → World → Prop} (hgd : o.guard = none) (s x : Operand) (t : TypeId) (ho : o.op = .call { callee := .builtin .append, args := #[s, x], argTypes := #[t, t] })
    (ht : P.underlying t = some (.slice e)) (z : Value) (bytes : Nat) (hinfo : (P.info? e).map (fun i => (i.zero, i.size, i.bytes)) = some (some z, d.sz, bytes)) (hz : z.cells.size = d.sz) (hs0 : 0 < d.sz) (hb0 : 0 < bytes)
    (hs : a.eval s = v) (HO : Own d e w base S v xs) (A : Option Addr) (c : Nat) (hx : a.eval x = .slice A ys.length c) (HR : Row d w S2 A ys) (hne : ∀ k, S2 k → some k ≠ v.ownBlock) (hl : (xs.length + ys.length) * bytes ≤ 140737488355328) (hbase : base ≤ w.heap.size)
    (h : ∀ v' w', Own d e w' base (fun k => S k ∨ S2 k ∨ k = w.heap.size) v' (xs ++ ys) → w.grownBy w' v.ownBlock → (v'.ownBlock = v.ownBlock ∨ v'.ownBlock = some w.heap.size) → wpList P ops Q rest (a.put o.dst v') w') : wpList P ops Q (o :: rest) a w :=
  wpList_plain hgd fun _ hK => wp_append_kd s x t ho ht z bytes hinfo hz hs0 hb0 hs HO A c hx HR hne hl hbase fun v' w' h2 h3 h4 => hK _ _ (h v' w' h2 h3 h4)
theorem step_append_kd {ops : Array Oper} {o : Oper} {a : Go.Act} {K : Go.Act → World → Prop} {Q : Exit → Go.Act → World → Prop} {E : Prop} (hgd : o.guard = none) (s x : Operand) (t : TypeId) (ho : o.op = .call { callee := .builtin .append, args := #[s, x], argTypes := #[t, t] })
    (ht : P.underlying t = some (.slice e)) (z : Value) (bytes : Nat) (hinfo : (P.info? e).map (fun i => (i.zero, i.size, i.bytes)) = some (some z, d.sz, bytes)) (hz : z.cells.size = d.sz) (hs0 : 0 < d.sz) (hb0 : 0 < bytes)
    (hs : a.eval s = v) (HO : Own d e w base S v xs) (A : Option Addr) (c : Nat) (hx : a.eval x = .slice A ys.length c) (HR : Row d w S2 A ys) (hne : ∀ k, S2 k → some k ≠ v.ownBlock) (hl : (xs.length + ys.length) * bytes ≤ 140737488355328) (hbase : base ≤ w.heap.size)
    (h : ∀ v' w', Own d e w' base (fun k => S k ∨ S2 k ∨ k = w.heap.size) v' (xs ++ ys) → w.grownBy w' v.ownBlock → (v'.ownBlock = v.ownBlock ∨ v'.ownBlock = some w.heap.size) → K (a.put o.dst v') w') :
    if Region.wanted o (yielded ops a.tmps) = true then Oper.wp P o a w K Q else E := by
  have hw : Region.wanted o (yielded ops a.tmps) = true := by simp [Region.wanted, hgd]
  rw [if_pos hw]
  exact wp_append_kd s x t ho ht z bytes hinfo hz hs0 hb0 hs HO A c hx HR hne hl hbase h
end

/-- An empty row in a new block (a literal of nothing). -/
theorem Own.empty_ {α : Type} (d : Kd α) (e : Nat) (w : World) (base : Nat) (S : Nat → Prop) (hb : base ≤ w.heap.size) (hS : S w.heap.size) :
    Own d e (w.alloc (.cells #[] e)) base S (.slice (some ⟨w.heap.size, 0, none⟩) 0 0) [] :=
  own_intro [] ⟨by simp, .inr ⟨w.heap.size, 0, #[], rfl, hb, heap_alloc_new w _, Nat.le_refl _, by simp [maxLen], by simp, by simp⟩⟩ rfl (fun k hk => by simp [Value.ownBlock] at hk; rw [← hk]; exact hS) (fun j x hj => by simp at hj)
/-- One element, laid in a new block. -/
theorem Row.one_ {α : Type} {d : Kd α} {e : Nat} {w : World} {S : Nat → Prop} {x : α} {cs : List Value} (h : d.K w S x cs) : Row d (w.alloc (.cells cs.toArray e)) (fun k => S k ∨ k = w.heap.size) (some ⟨w.heap.size, 0, none⟩) [x] := by
  refine ⟨by simp, fun _ => ⟨_, rfl, .inr rfl, by simp, fun j y hj => ?_⟩⟩
  have hj0 : j = 0 := by
    have := (List.getElem?_eq_some_iff.1 hj).1
    simp at this; exact this
  subst hj0
  simp at hj
  subst hj
  have hb := d.bound h
  refine ⟨cs, d.mono (fun k hk => .inl hk.1) (d.move (w' := w.alloc (.cells cs.toArray e)) (fun k hk => Below.heap_alloc w _ k hk.2) hb), fun i u hu => ?_⟩
  rw [Nat.zero_mul, Nat.zero_add]
  have := World.news_of_block (w := w.alloc (.cells cs.toArray e)) (B := w.heap.size) (cs := cs.toArray) (t := e) (fr := (0, 0)) (heap_alloc_new w _) i u (by simpa using hu)
  exact this

/-- 'append([]T{}, xs...)': a copy in new memory. -/
theorem wpList_clone_kd {P : Program} {α : Type} {d : Kd α} {e : Nat} {w1 : World} {S : Nat → Prop} {ys : List α} {ops : Array Oper} {rest : List Oper} {o : Oper} {a : Go.Act} {Q : Exit → Go.Act → World → Prop} (hgd : o.guard = none) (s x : Operand) (t : TypeId) (ho : o.op = .call { callee := .builtin .append, args := #[s, x], argTypes := #[t, t] })
    (ht : P.underlying t = some (.slice e)) (z : Value) (bytes : Nat) (hinfo : (P.info? e).map (fun i => (i.zero, i.size, i.bytes)) = some (some z, d.sz, bytes)) (hz : z.cells.size = d.sz) (hs0 : 0 < d.sz) (hb0 : 0 < bytes)
    (hs : a.eval s = .slice (some ⟨w1.heap.size, 0, none⟩) 0 0) (A : Option Addr) (c : Nat) (hx : a.eval x = .slice A ys.length c) (HR : Row d w1 S A ys) (hl : ys.length * bytes ≤ 140737488355328)
    (h : ∀ v' w', Own d e w' w1.heap.size (fun k => S k ∨ w1.heap.size ≤ k) v' ys → Below w1.heap.size w1 w' → wpList P ops Q rest (a.put o.dst v') w') : wpList P ops Q (o :: rest) a (w1.alloc (.cells #[] e)) := by
  have HR2 : Row d (w1.alloc (.cells #[] e)) (fun k => S k ∧ k < w1.heap.size) A ys := HR.bound.belowAll ((Below.refl _ w1).alloc (Nat.le_refl _) _)
  refine wpList_append_kd (d := d) (base := w1.heap.size) (S := fun k => w1.heap.size ≤ k) (xs := []) hgd s x t ho ht z bytes hinfo hz hs0 hb0 hs (Own.empty_ d e w1 w1.heap.size _ (Nat.le_refl _) (Nat.le_refl _)) A c hx HR2 (fun k hk => by have := hk.2; simp [Value.ownBlock]; omega) (by simpa using hl) (by simp) ?_
  intro v' w' h1 h2 h3
  refine h v' w' ?_ ?_
  · rw [List.nil_append] at h1
    refine h1.mono fun k hk => ?_
    rcases hk with hk | hk | hk
    · exact .inr hk
    · exact .inl hk.1
    · right; rw [hk]; simp
  · have hb : Below w1.heap.size w1 (w1.alloc (.cells #[] e)) := (Below.refl _ w1).alloc (Nat.le_refl _) _
    exact hb.grown h2 (by simp) (fun k hk => by simp [Value.ownBlock] at hk; omega)

/-- The same in a region that draws its order. -/
theorem step_clone_kd {P : Program} {α : Type} {d : Kd α} {e : Nat} (w1 : World) {W' : World} (hW : W' = w1.alloc (.cells #[] e)) {S : Nat → Prop} {ys : List α} {ops : Array Oper} {o : Oper} {a : Go.Act} {K : Go.Act → World → Prop} {Q : Exit → Go.Act → World → Prop} {E : Prop} (hgd : o.guard = none) (s x : Operand) (t : TypeId) (ho : o.op = .call { callee := .builtin .append, args := #[s, x], argTypes := #[t, t] })
    (ht : P.underlying t = some (.slice e)) (z : Value) (bytes : Nat) (hinfo : (P.info? e).map (fun i => (i.zero, i.size, i.bytes)) = some (some z, d.sz, bytes)) (hz : z.cells.size = d.sz) (hs0 : 0 < d.sz) (hb0 : 0 < bytes)
    (hs : a.eval s = .slice (some ⟨w1.heap.size, 0, none⟩) 0 0) (A : Option Addr) (c : Nat) (hx : a.eval x = .slice A ys.length c) (HR : Row d w1 S A ys) (hl : ys.length * bytes ≤ 140737488355328)
    (h : ∀ v' w', Own d e w' w1.heap.size (fun k => S k ∨ w1.heap.size ≤ k) v' ys → Below w1.heap.size w1 w' → K (a.put o.dst v') w') : if Region.wanted o (yielded ops a.tmps) = true then Oper.wp P o a W' K Q else E := by
  subst hW
  have HR2 : Row d (w1.alloc (.cells #[] e)) (fun k => S k ∧ k < w1.heap.size) A ys := HR.bound.belowAll ((Below.refl _ w1).alloc (Nat.le_refl _) _)
  refine step_append_kd (d := d) (base := w1.heap.size) (S := fun k => w1.heap.size ≤ k) (xs := []) hgd s x t ho ht z bytes hinfo hz hs0 hb0 hs (Own.empty_ d e w1 w1.heap.size _ (Nat.le_refl _) (Nat.le_refl _)) A c hx HR2 (fun k hk => by have := hk.2; simp [Value.ownBlock]; omega) (by simpa using hl) (by simp) ?_
  intro v' w' h1 h2 h3
  refine h v' w' ?_ ?_
  · rw [List.nil_append] at h1
    refine h1.mono fun k hk => ?_
    rcases hk with hk | hk | hk
    · exact .inr hk
    · exact .inl hk.1
    · right; rw [hk]; simp
  · have hb : Below w1.heap.size w1 (w1.alloc (.cells #[] e)) := (Below.refl _ w1).alloc (Nat.le_refl _) _
    exact hb.grown h2 (by simp) (fun k hk => by simp [Value.ownBlock] at hk; omega)
end Go.Proofs.Ytcpabkfoalhldaa
namespace Go.Proofs.Ytcpabkfoalhldaa
open Go.RowKit
set_option linter.unusedSimpArgs false
set_option linter.unusedVariables false

theorem flatten_set {sz : Nat} : ∀ (css : List (List Value)), (∀ c ∈ css, c.length = sz) → ∀ (j i : Nat) (u : Value) (c : List Value), css[j]? = some c → i < sz → css.flatten.set (j * sz + i) u = (css.set j (c.set i u)).flatten := by
  intro css
  induction css with
  | nil => intro _ j i u c h; simp at h
  | cons a r ih =>
    intro hl j i u c hj hi
    have ha : a.length = sz := hl a (List.mem_cons_self ..)
    cases j with
    | zero =>
      simp at hj; subst hj
      rw [List.flatten_cons, Nat.zero_mul, Nat.zero_add, List.set_append_left _ _ (by omega)]
      simp
    | succ j =>
      have hj' : r[j]? = some c := by simpa using hj
      have := ih (fun c hc => hl c (List.mem_cons_of_mem _ hc)) j i u c hj' hi
      rw [List.flatten_cons, List.set_append_right _ _ (by rw [ha, Nat.succ_mul]; omega), List.set_cons_succ, List.flatten_cons, ← this, ha]
      congr 2; rw [Nat.succ_mul]; omega

section
variable {α : Type} {d : Kd α} {e : Nat} {w : World} {base : Nat} {S : Nat → Prop} {v : Value} {xs : List α}
/-- Where a row of the call's own lies, if it holds something. -/
theorem Own.place (h : Own d e w base S v xs) (hn : 0 < xs.length) : ∃ g cap, v = .slice (some ⟨g, 0, none⟩) xs.length cap ∧ base ≤ g ∧ g < w.heap.size ∧ S g ∧ xs.length ≤ cap := by
  have hb := h.blk
  obtain ⟨A, c, hv, hc⟩ := h.slice
  obtain ⟨css, h1, _⟩ := h
  obtain ⟨g, cap, he, h2, h3⟩ := h1.form hn
  rw [hv] at he
  injection he with e1 e2 e3
  subst e1; subst e3
  have := hb g (by rw [hv]; rfl)
  exact ⟨g, c, hv, this.1, this.2.1, this.2.2, hc⟩
theorem Own.cellAt {g cap : Nat} (h : Own d e w base S (.slice (some ⟨g, 0, none⟩) xs.length cap) xs) {j : Nat} (hj : j < xs.length) :
    ∃ c, d.K w (fun k => S k ∧ k ≠ g) xs[j] c ∧ (∀ i u, c[i]? = some u → w.cell? ⟨g, j * d.sz + i, none⟩ = some u) ∧ ∀ i, w.frozen? ⟨g, i, none⟩ = false := by
  obtain ⟨css, h1, h2, hl, h3, h4⟩ := h.lens
  obtain ⟨c, hc, hk⟩ := h4 j _ (List.getElem?_eq_getElem hj)
  refine ⟨c, d.mono (fun k hk => ⟨hk.1, fun e => hk.2 (by rw [e]; rfl)⟩) hk, fun i u hu => ?_, fun i => h1.frozenAt i⟩
  have := h1.cells (g := g) rfl _ _ (flatten_at css hl j i c u hc hu)
  have e0 : (⟨g, 0, none⟩ : Addr).add (j * d.sz + i) = ⟨g, j * d.sz + i, none⟩ := by unfold Addr.add; split <;> simp_all
  rwa [e0] at this
/-- A cell of an element is written. -/
theorem Own.setAt {g cap : Nat} (h : Own d e w base S (.slice (some ⟨g, 0, none⟩) xs.length cap) xs) {j : Nat} (hj : j < xs.length) {i : Nat} (hi : i < d.sz) (u : Value) (y : α)
    (hy : ∀ c, d.K w (fun k => S k ∧ k ≠ g) xs[j] c → d.K w (fun k => S k ∧ k ≠ g) y (c.set i u)) :
    Own d e (w.setCell ⟨g, j * d.sz + i, none⟩ u) base S (.slice (some ⟨g, 0, none⟩) xs.length cap) (xs.set j y) := by
  obtain ⟨css, h1, h2, hl, h3, h4⟩ := h.lens
  obtain ⟨c, hc, hk⟩ := h4 j _ (List.getElem?_eq_getElem hj)
  have hfar : ∀ (x : α) (c : List Value), d.K w (fun k => S k ∧ some k ≠ Value.ownBlock (.slice (some ⟨g, 0, none⟩) xs.length cap)) x c → d.K (w.setCell ⟨g, j * d.sz + i, none⟩ u) (fun k => S k ∧ some k ≠ Value.ownBlock (.slice (some ⟨g, 0, none⟩) xs.length cap)) x c :=
    fun x c h => d.move (fun k hk => Below.heap_setCell w _ u k (fun e => hk.2 (by rw [e]; rfl))) h
  have hst := h1.stored (j * d.sz + i) u
  rw [flatten_set css hl j i u c hc hi] at hst
  have ho : (w.setCell ⟨g, j * d.sz + i, none⟩ u).ownsRow base e d.sz (.slice (some ⟨g, 0, none⟩) xs.length cap) (xs.set j y).length (css.set j (c.set i u)).flatten := by rw [List.length_set]; exact hst.1
  refine own_intro (css.set j (c.set i u)) ho (by simp [h2]) h3 (fun q x hq => ?_)
  rw [List.getElem?_set] at hq
  rw [List.getElem?_set]
  by_cases hjq : j = q
  · subst hjq
    rw [if_pos rfl, if_pos (by omega)]
    rw [if_pos rfl, if_pos hj] at hq
    injection hq with hq
    subst hq
    refine ⟨_, rfl, hfar _ _ ?_⟩
    refine d.mono (fun k hk => ⟨hk.1, fun e => ?_⟩) (hy c (d.mono (fun k hk => ⟨hk.1, fun e => hk.2 (by rw [e]; rfl)⟩) hk))
    injection e with e
    exact hk.2 e
  · rw [if_neg hjq]
    rw [if_neg hjq] at hq
    obtain ⟨c', hc', hk'⟩ := h4 q x hq
    exact ⟨c', hc', hfar _ _ hk'⟩
end

def isI (n : Int) : Prop := -9223372036854775808 ≤ n ∧ n ≤ 9223372036854775807
/-- A row of numbers of the call's own: it leads nowhere. -/
def OwnI (e : Nat) (w : World) (base : Nat) (v : Value) (xs : List Int) : Prop := Own Kd.int e w base (fun k => v.ownBlock = some k) v xs
section
variable {e : Nat} {w w' : World} {base : Nat} {S : Nat → Prop} {v : Value} {xs : List Int}
theorem OwnI.of (h : Own Kd.int e w base S v xs) : OwnI e w base v xs := by
  obtain ⟨css, h1, h2, h3, h4⟩ := h
  refine own_intro css h1 h2 (fun k hk => hk) (fun j x hj => ?_)
  obtain ⟨c, hc, hk⟩ := h4 j x hj
  exact ⟨c, hc, hk⟩
theorem OwnI.move (hm : ∀ k, v.ownBlock = some k → w'.heap[k]? = w.heap[k]?) (h : OwnI e w base v xs) : OwnI e w' base v xs := Own.move hm h
theorem OwnI.step (h : OwnI e w base v xs) (hm : ∀ k, v.ownBlock = some k → k < w.heap.size → w'.heap[k]? = w.heap[k]?) : OwnI e w' base v xs := Own.step h hm
theorem OwnI.belowAll (h : OwnI e w base v xs) (hb : Below w.heap.size w w') : OwnI e w' base v xs := Own.belowAll h hb
theorem OwnI.place (h : OwnI e w base v xs) (hn : 0 < xs.length) : ∃ g cap, v = .slice (some ⟨g, 0, none⟩) xs.length cap ∧ base ≤ g ∧ g < w.heap.size := by
  obtain ⟨g, cap, hv, h1, h2, _⟩ := Own.place h hn
  exact ⟨g, cap, hv, h1, h2⟩
theorem OwnI.all (h : OwnI e w base v xs) (j : Nat) (hj : j < xs.length) : isI xs[j] := by
  obtain ⟨css, h1, h2, h3, h4⟩ := h
  obtain ⟨c, hc, _, hk⟩ := h4 j _ (List.getElem?_eq_getElem hj)
  exact hk
theorem OwnI.cell {g cap : Nat} (h : OwnI e w base (.slice (some ⟨g, 0, none⟩) xs.length cap) xs) {j : Nat} (hj : j < xs.length) : w.cell? ⟨g, j, none⟩ = some (.int .i64 xs[j]) ∧ w.frozen? ⟨g, j, none⟩ = false := by
  obtain ⟨c, ⟨rfl, _⟩, hc, hf⟩ := Own.cellAt h hj
  have := hc 0 _ rfl
  have hs : Kd.int.sz = 1 := rfl
  rw [hs, Nat.mul_one, Nat.add_zero] at this
  exact ⟨this, hf j⟩
theorem OwnI.set_ {g cap : Nat} (h : OwnI e w base (.slice (some ⟨g, 0, none⟩) xs.length cap) xs) {j : Nat} (hj : j < xs.length) (n : Int) (hn : isI n) :
    OwnI e (w.setCell ⟨g, j, none⟩ (.int .i64 n)) base (.slice (some ⟨g, 0, none⟩) xs.length cap) (xs.set j n) := by
  have := Own.setAt h hj (i := 0) (by decide) (.int .i64 n) n (fun c hc => by
    obtain ⟨rfl, _⟩ := hc
    exact ⟨rfl, hn⟩)
  have hs : Kd.int.sz = 1 := rfl
  rw [hs, Nat.mul_one, Nat.add_zero] at this
  exact this
theorem OwnI.row (h : OwnI e w base v xs) : ∃ A c, v = .slice A xs.length c ∧ xs.length ≤ c ∧ Row Kd.int w (fun k => v.ownBlock = some k) A xs := Own.row h
theorem OwnI.blk (h : OwnI e w base v xs) (k : Nat) (hk : v.ownBlock = some k) : base ≤ k ∧ k < w.heap.size := ⟨(Own.blk h k hk).1, (Own.blk h k hk).2.1⟩
theorem OwnI.lower {base' : Nat} (hb : base' ≤ base) (h : OwnI e w base v xs) : OwnI e w base' v xs := Own.lower hb h
theorem OwnI.al (h : OwnI e w base v xs) (o : Obj) : OwnI e (w.alloc o) base v xs := h.step fun k _ hk => Below.heap_alloc w o k hk
theorem OwnI.drewN (h : OwnI e w base v xs) (n : Nat) : OwnI e (w.drewN n) base v xs := Own.drewN h n
theorem OwnI.grown (h : OwnI e w base v xs) {row : Option Nat} (hg : w.grownBy w' row) (hne : ∀ k, v.ownBlock = some k → some k ≠ row) : OwnI e w' base v xs := h.step fun k h1 h2 => hg.block k h2 (hne k h1)
theorem grown_al {row : Option Nat} (h : w.grownBy w' row) (o : Obj) : w.grownBy (w'.alloc o) row :=
  ⟨h.os, h.tape, h.output, Nat.le_trans h.size (by simp), fun i hi hne => (Below.heap_alloc w' o i (Nat.lt_of_lt_of_le hi h.size)).trans (h.block i hi hne)⟩
theorem grown_refl (w : World) (row : Option Nat) : w.grownBy w row := ⟨rfl, rfl, rfl, Nat.le_refl _, fun _ _ _ => rfl⟩
theorem grown_set {g : Nat} (h : w.grownBy w' (some g)) (i : Nat) (u : Value) : w.grownBy (w'.setCell ⟨g, i, none⟩ u) (some g) :=
  ⟨h.os, h.tape, h.output, by simpa [World.setCell] using h.size, fun k hk hne => (Below.heap_setCell w' _ u k (fun e => hne (by rw [e]))).trans (h.block k hk hne)⟩
theorem grown_drewN {row : Option Nat} (h : w.grownBy w' row) (n : Nat) : w.grownBy (w'.drewN n) row := ⟨h.os, h.tape, h.output, h.size, h.block⟩
theorem grown_below {B : Nat} {w2 : World} {row : Option Nat} (h : w.grownBy w' row) (hb : Below B w' w2) (hB : w'.heap.size ≤ B) : w.grownBy w2 row :=
  ⟨hb.os.trans h.os, hb.tape.trans h.tape, hb.output.trans h.output, Nat.le_trans h.size hb.size, fun i hi hne => (hb.block i (by have := h.size; omega)).trans (h.block i hi hne)⟩
theorem OwnI.far (h : OwnI e w base v xs) {p : Addr} (hne : ∀ k, v.ownBlock = some k → k ≠ p.block) (u : Value) : OwnI e (w.setCell p u) base v xs := h.step fun k h1 _ => Below.heap_setCell w p u k (hne k h1)
theorem ownI_empty (e : Nat) (w : World) (base : Nat) (hb : base ≤ w.heap.size) : OwnI e (w.alloc (.cells #[] e)) base (.slice (some ⟨w.heap.size, 0, none⟩) 0 0) [] := OwnI.of (Own.empty_ _ _ _ _ (fun _ => True) hb trivial)
theorem ownI_empty2 (e : Nat) (w : World) (base : Nat) (o : Obj) (hb : base ≤ w.heap.size) : OwnI e ((w.alloc o).alloc (.cells #[] e)) base (.slice (some ⟨w.heap.size + 1, 0, none⟩) 0 0) [] := by
  have := ownI_empty e (w.alloc o) base (by simp; omega)
  simpa using this
theorem OwnI.nil (e : Nat) (w : World) (base : Nat) : OwnI e w base (.slice none 0 0) [] := Own.nil _ _ _ _ _
end
end Go.Proofs.Ytcpabkfoalhldaa
namespace Go.Proofs.Ytcpabkfoalhldaa
set_option linter.unusedVariables false
set_option linter.unusedSimpArgs false

def rdI (l : List Int) (i : Int) : Int := l.getD i.toNat 0
/-- A deed: what cells and registers have then. -/
def doDeed (cr : List Int × List Int) (d : Deed) : Option (List Int × List Int) :=
  if d.kind = 1 then some (cr.1, cr.2.set d.a.toNat (rdI cr.1 d.b))
  else if d.kind = 2 then some (cr.1.set d.a.toNat (rdI cr.2 d.b), cr.2)
  else if d.kind = 3 then some (cr.1, cr.2.set d.a.toNat d.b)
  else if d.kind = 4 then some (cr.1, cr.2.set d.a.toNat ((rdI cr.2 d.a + rdI cr.2 d.b) % 100))
  else if rdI cr.2 d.a = 0 then none else some cr
def doDeeds (cr : List Int × List Int) : List Deed → Option (List Int × List Int)
  | [] => some cr
  | d :: r => (doDeed cr d).bind fun cr' => doDeeds cr' r
def deskOk (cells regs : List Int) (deeds : List Deed) : Bool := changeOk deeds cells.length && numsOk cells && (numsOk regs && decide (regs.length = 3))
def changeDo (cells regs : List Int) (deeds : List Deed) : Option (List Int × List Int) := if deskOk cells regs deeds then doDeeds (cells, regs) deeds else none

def runKids (f : List Int → Nat → Option (List Int × Bool)) (cells : List Int) : List Int → Option (List Int × Bool)
  | [] => some (cells, false)
  | k :: r => match f cells k.toNat with
    | none => none
    | some (c, true) => some (c, true)
    | some (c, false) => runKids f c r
def runActs (f : List Int → Nat → Option (List Int × Bool)) (cells regs : List Int) : List Act → Option (List Int × Bool)
  | [] => some (cells, false)
  | a :: r =>
    if a.kind = 1 then match changeDo cells regs a.deeds with
      | none => none
      | some (c, rg) => runActs f c rg r
    else if a.kind = 2 then match runKids f cells a.kids with
      | none => none
      | some (c, true) => some (c, true)
      | some (c, false) => runActs f c regs r
    else if a.kind = 4 ∧ rdI regs a.reg = 0 then runActs f cells regs r
    else some (cells, true)
/-- A body, done act by act: what cells have then, and whether it failed; nothing, if it does not come to an end. -/
def oneBody : Nat → Prog → List Int → Nat → Option (List Int × Bool)
  | 0, _, _, _ => none
  | n + 1, p, cells, b => runActs (fun c k => oneBody n p c k) cells [0, 0, 0] (p.bodies.getD b [])
def oneRun (p : Prog) : Option (List Int × Bool) := if progOk p then oneBody 4 p p.cells 0 else none

theorem doDeeds_snoc (cr : List Int × List Int) (l : List Deed) (d : Deed) : doDeeds cr (l ++ [d]) = (doDeeds cr l).bind fun cr' => doDeed cr' d := by
  induction l generalizing cr with
  | nil => simp [doDeeds]
  | cons a r ih =>
    simp only [List.cons_append, doDeeds]
    cases doDeed cr a with
    | none => rfl
    | some x => simp [ih]
theorem doDeeds_take (cr : List Int × List Int) (l : List Deed) (k : Nat) (h : k < l.length) : doDeeds cr (l.take (k + 1)) = (doDeeds cr (l.take k)).bind fun cr' => doDeed cr' l[k] := by
  rw [List.take_succ_eq_append_getElem h, doDeeds_snoc]
theorem doDeeds_none (cr : List Int × List Int) (l : List Deed) (k : Nat) (h : k < l.length) (hn : doDeeds cr (l.take (k + 1)) = none) : doDeeds cr l = none := by
  have e : l = l.take (k + 1) ++ l.drop (k + 1) := (List.take_append_drop _ _).symm
  rw [e]
  generalize l.take (k + 1) = a at hn
  generalize l.drop (k + 1) = b
  induction a generalizing cr with
  | nil => simp [doDeeds] at hn
  | cons x r ih =>
    simp only [List.cons_append, doDeeds] at hn ⊢
    cases hx : doDeed cr x with
    | none => rfl
    | some y => rw [hx] at hn; simp at hn ⊢; exact ih y hn
theorem numsOk_get {l : List Int} (h : numsOk l = true) (i : Nat) (hi : i < l.length) : 0 ≤ l[i] ∧ l[i] ≤ 99 := by
  have := List.all_eq_true.1 h _ (List.getElem_mem hi)
  simpa [inR] using this
theorem numsOk_rd {l : List Int} (h : numsOk l = true) (i : Int) : 0 ≤ rdI l i ∧ rdI l i ≤ 99 := by
  unfold rdI
  rcases Nat.lt_or_ge i.toNat l.length with hl | hl
  · rw [getD_at _ _ _ hl]; exact numsOk_get h _ hl
  · rw [List.getD_eq_getElem?_getD, List.getElem?_eq_none hl]; decide
theorem numsOk_set {l : List Int} (h : numsOk l = true) (i : Nat) (n : Int) (h0 : 0 ≤ n) (h1 : n ≤ 99) : numsOk (l.set i n) = true := by
  unfold numsOk at *
  rw [List.all_eq_true] at *
  intro x hx
  rcases List.mem_or_eq_of_mem_set hx with hx | rfl
  · exact h x hx
  · simp [inR, h0, h1]
theorem deedOk_kinds {d : Deed} {n : Int} (h : deedOk d n = true) :
    d.kind = 1 ∧ (0 ≤ d.a ∧ d.a ≤ 2) ∧ (0 ≤ d.b ∧ d.b ≤ n - 1) ∨ d.kind = 2 ∧ (0 ≤ d.a ∧ d.a ≤ n - 1) ∧ (0 ≤ d.b ∧ d.b ≤ 2) ∨ d.kind = 3 ∧ (0 ≤ d.a ∧ d.a ≤ 2) ∧ (0 ≤ d.b ∧ d.b ≤ 99) ∨
      d.kind = 4 ∧ (0 ≤ d.a ∧ d.a ≤ 2) ∧ (0 ≤ d.b ∧ d.b ≤ 2) ∨ d.kind = 5 ∧ (0 ≤ d.a ∧ d.a ≤ 2) ∧ d.b = 0 := by
  unfold deedOk at h
  split at h
  · rename_i h1; simp [inR] at h; exact .inl ⟨h1, by omega, by omega⟩
  · split at h
    · rename_i h1; simp [inR] at h; exact .inr (.inl ⟨h1, by omega, by omega⟩)
    · split at h
      · rename_i h1; simp [inR] at h; exact .inr (.inr (.inl ⟨h1, by omega, by omega⟩))
      · split at h
        · rename_i h1; simp [inR] at h; exact .inr (.inr (.inr (.inl ⟨h1, by omega, by omega⟩)))
        · split at h
          · rename_i h1; simp [inR] at h; exact .inr (.inr (.inr (.inr ⟨h1, by omega, by omega⟩)))
          · simp at h
/-- What cells and registers are in a change: numbers, so many. -/
structure Desk (n : Nat) (cr : List Int × List Int) : Prop where
  c : numsOk cr.1 = true
  r : numsOk cr.2 = true
  cl : cr.1.length = n
  rl : cr.2.length = 3
theorem Desk.deed {n : Nat} {cr cr' : List Int × List Int} (h : Desk n cr) {d : Deed} (hd : deedOk d n = true) (he : doDeed cr d = some cr') : Desk n cr' := by
  have h1 := numsOk_rd h.c d.b
  have h2 := numsOk_rd h.r d.b
  have h3 := numsOk_rd h.r d.a
  unfold doDeed at he
  rcases deedOk_kinds hd with ⟨hk, ha, hb⟩ | ⟨hk, ha, hb⟩ | ⟨hk, ha, hb⟩ | ⟨hk, ha, hb⟩ | ⟨hk, ha, hb⟩
  all_goals simp [hk] at he
  · subst he; exact ⟨h.c, numsOk_set h.r _ _ h1.1 h1.2, h.cl, by simp [h.rl]⟩
  · subst he; exact ⟨numsOk_set h.c _ _ h2.1 h2.2, h.r, by simp [h.cl], h.rl⟩
  · subst he; exact ⟨h.c, numsOk_set h.r _ _ hb.1 hb.2, h.cl, by simp [h.rl]⟩
  · subst he; exact ⟨h.c, numsOk_set h.r _ _ (by omega) (by omega), h.cl, by simp [h.rl]⟩
  · obtain ⟨_, rfl⟩ := he; exact h
theorem Desk.deeds {n : Nat} {cr cr' : List Int × List Int} (h : Desk n cr) {l : List Deed} (hl : l.all (deedOk · n) = true) (he : doDeeds cr l = some cr') : Desk n cr' := by
  induction l generalizing cr with
  | nil => simp [doDeeds] at he; subst he; exact h
  | cons a r ih =>
    simp only [doDeeds] at he
    simp only [List.all_cons, Bool.and_eq_true] at hl
    cases hx : doDeed cr a with
    | none => rw [hx] at he; simp at he
    | some y => rw [hx] at he; simp at he; exact ih (h.deed hl.1 hx) hl.2 he
theorem doDeed_reg {c r r' : List Int} {d : Deed} (hk : d.kind = 3 ∨ d.kind = 4) (h : doDeed ([], r) d = some ([], r')) : doDeed (c, r) d = some (c, r') := by
  unfold doDeed at *
  rcases hk with hk | hk <;> simp [hk] at h ⊢ <;> exact h
theorem deskOk_desk {cells regs : List Int} {deeds : List Deed} (h : deskOk cells regs deeds = true) : Desk cells.length (cells, regs) ∧ deeds.all (deedOk · cells.length) = true ∧ deeds.length ≤ 5 ∧ cells.length ≤ 3 := by
  simp only [deskOk, changeOk, inR, Bool.and_eq_true, decide_eq_true_eq] at h
  exact ⟨⟨h.1.2, h.2.1, rfl, h.2.2⟩, h.1.1.1.1, h.1.1.1.2, by omega⟩
theorem actOk_kinds {a : Act} {c b n : Int} (h : actOk a c b n = true) : a.kind = 1 ∨ a.kind = 2 ∧ a.kids.length ≤ 2 ∧ (∀ k ∈ a.kids, b + 1 ≤ k ∧ k ≤ n - 1) ∨ a.kind = 3 ∨ a.kind = 4 ∧ 0 ≤ a.reg ∧ a.reg ≤ 2 := by
  have hk := actOk_kids h
  unfold actOk at h
  split at h
  · exact .inl ‹_›
  · split at h
    · exact .inr (.inl ⟨‹_›, hk⟩)
    · split at h
      · exact .inr (.inr (.inl ‹_›))
      · split at h
        · rename_i h4; simp [inR] at h; exact .inr (.inr (.inr ⟨h4, by omega, by omega⟩))
        · simp at h
theorem changeDo_desk {cells regs : List Int} {deeds : List Deed} {cr : List Int × List Int} (h : changeDo cells regs deeds = some cr) : Desk cells.length cr := by
  unfold changeDo at h
  split at h
  · rename_i hd
    have := deskOk_desk hd
    exact this.1.deeds this.2.1 h
  · cases h
end Go.Proofs.Ytcpabkfoalhldaa
namespace Go.Proofs.Ytcpabkfoalhldaa
open Go.RowKit
set_option linter.unusedVariables false
set_option linter.unusedSimpArgs false

theorem infoInt : (Try.prog.info? 3).map (fun i => (i.zero, i.size, i.bytes)) = some (some (.int .i64 0), 1, 8) := by kernel_rfl

set_option maxHeartbeats 1000000 in
set_option maxRecDepth 100000 in
theorem l2Nums_calls (l : List Int) (n : Int) (A : Option Addr) (cap : Nat) (w : World) (S : Nat → Prop) (hr : Row Kd.int w S A l) :
    Calls Try.prog 110 #[.slice A l.length cap, .int .i64 n] w fun e w' => e = .returned (.bool (numsOk l && ((l.length : Int) == n))) ∧ w = w' := by
  have hm := hr.1
  go_enter Try.func110, Try.ntmps110
  go_wp2
  go_loop [5] (fun i => ∃ k : Nat, k ≤ l.length ∧ i = .int .i64 k ∧ Hid ((l.take k).all (fun k => inR k 0 99) = true)) (fun i => l.length - (intOf i).toNat)
  case atStart => exact ⟨0, Nat.zero_le _, rfl, by simp [Hid]⟩
  case round =>
    obtain ⟨k, hk, rfl, HA⟩ := hrel
    by_cases hlt : k < l.length
    · obtain ⟨ad, rfl, hl, hc, hi⟩ := at_int hr hlt
      cases hin : inR l[k] 0 99
      all_goals
        have HI := Lib.hid hin
        clear hin
        go_wp2_with (go_at_call 43; refine (l6In_calls _ _ _ _).mono ?_; rintro e w' ⟨rfl, rfl⟩; simp only [HI.out])
      · go_ret
        refine ⟨ret_bool ?_, rfl⟩
        rw [numsOk, all_false_of _ _ k hlt HI.out]; rfl
      · go_round
        case rel => exact ⟨k + 1, by omega, by go_num, by unfold Hid; rw [all_take_snoc _ _ _ hlt, HA.out, HI.out]; rfl⟩
        case measure => simp [intOf]; omega
    · go_wp2
      go_ret
      refine ⟨ret_bool ?_, rfl⟩
      have := HA.out
      rw [all_take_all _ _ _ (by omega)] at this
      simp [numsOk, this]

set_option maxHeartbeats 1000000 in
set_option maxRecDepth 100000 in
theorem specChangeOk_calls (deeds : List Deed) (c : Int) (A : Option Addr) (cap : Nat) (w : World) (S : Nat → Prop) (hr : Row kDeed w S A deeds) (h0 : 0 ≤ c) (h1 : c ≤ 9223372036854775807) :
    Calls Try.prog 109 #[.slice A deeds.length cap, .int .i64 c] w fun e w' => e = .returned (.bool (changeOk deeds c)) ∧ Below w.heap.size w w' := by
  have hm := hr.1
  go_enter Try.func109, Try.ntmps109
  go_wp2
  go_loopw [5] (fun i wr => ∃ k : Nat, k ≤ deeds.length ∧ i = .int .i64 k ∧ Hid ((deeds.take k).all (deedOk · c) = true) ∧ Below w.heap.size w wr) (fun i _ => deeds.length - (intOf i).toNat)
  case atStart => exact ⟨0, Nat.zero_le _, rfl, by simp [Hid], Below.refl _ _⟩
  case round =>
    obtain ⟨k, hk, rfl, HA, hbr⟩ := hrel
    by_cases hlt : k < deeds.length
    · obtain ⟨ad, rfl, hl, hc1, hc2, hc4, hi1, hi2, hi3⟩ := at_deed (hr.belowAll hbr) hlt
      cases hin : deedOk deeds[k] c
      all_goals
        have HI := Lib.hid hin
        clear hin
        go_wp2_with (go_at_call 123; refine (l1Deed_calls _ _ _ _ _ h0 h1).mono ?_; rintro e w2 ⟨rfl, hb2⟩; rw [HI.out])
      · go_ret
        refine ⟨ret_bool ?_, below_then hbr hbr.size hb2⟩
        simp [changeOk, all_false_of (deedOk · c) _ k hlt HI.out]
      · go_roundw
        case rel => exact ⟨k + 1, by omega, by go_num, by unfold Hid; rw [all_take_snoc _ _ _ hlt, HA.out, HI.out]; rfl, below_then hbr hbr.size hb2⟩
        case measure => simp [intOf]; omega
    · have := HA.out
      rw [all_take_all _ _ _ (by omega)] at this
      have HB := Lib.hid this
      clear this
      by_cases h5 : deeds.length ≤ 5
      · go_wp2_with (go_at_call 43; refine (l6In_calls _ _ _ _).mono ?_; rintro e w' ⟨rfl, rfl⟩)
        go_ret
        refine ⟨ret_bool ?_, hbr⟩
        simp [changeOk, HB.out, h5]
      · have h6 : 5 < deeds.length := by omega
        go_wp2_with (go_at_call 43; refine (l6In_calls _ _ _ _).mono ?_; rintro e w' ⟨rfl, rfl⟩)
        go_ret
        refine ⟨ret_bool ?_, hbr⟩
        simp [changeOk, h5]

set_option maxHeartbeats 1000000 in
set_option maxRecDepth 100000 in
theorem l2Reg_calls (k a b : Int) (regs : List Int) (v : Value) (base : Nat) (w : World) (hn : regs.length = 3) (ho : OwnI 3 w base v regs) (hv : numsOk regs = true) (hd : k = 3 ∧ inR a 0 2 = true ∧ inR b 0 99 = true ∨ k = 4 ∧ inR a 0 2 = true ∧ inR b 0 2 = true) :
    Calls Try.prog 111 #[v, .agg #[.int .i64 k, .int .i64 a, .int .i64 b]] w fun e w' => e = .returned (.tuple #[]) ∧ ∃ regs', doDeed ([], regs) ⟨k, a, b⟩ = some ([], regs') ∧ OwnI 3 w' base v regs' ∧ w.grownBy w' v.ownBlock := by
  obtain ⟨g, cap, rfl, hb, hl⟩ := ho.place (by omega)
  rcases hd with ⟨rfl, ha, hb'⟩ | ⟨rfl, ha, hb'⟩
  · simp [inR] at ha hb'
    obtain ⟨i, rfl⟩ := Int.eq_ofNat_of_zero_le ha.1
    obtain ⟨hc, hf⟩ := ho.cell (j := i) (by omega)
    go_enter Try.func111, Try.ntmps111
    go_wp2
    go_end0
    have hb3 : isI b := by unfold isI; omega
    exact ⟨rfl, regs.set i b, by simp [doDeed], (ho.set_ (by omega) b hb3).al _, grown_al (grown_set (grown_refl _ _) _ _) _⟩
  · simp [inR] at ha hb'
    obtain ⟨i, rfl⟩ := Int.eq_ofNat_of_zero_le ha.1
    obtain ⟨j, rfl⟩ := Int.eq_ofNat_of_zero_le hb'.1
    have hi : i < regs.length := by omega
    have hj : j < regs.length := by omega
    obtain ⟨hc, hf⟩ := ho.cell hi
    obtain ⟨hc2, hf2⟩ := ho.cell hj
    have hr1 : 0 ≤ regs[i] ∧ regs[i] ≤ 99 := by have := List.all_eq_true.1 hv _ (List.getElem_mem hi); simpa [inR] using this
    have hr2 : 0 ≤ regs[j] ∧ regs[j] ≤ 99 := by have := List.all_eq_true.1 hv _ (List.getElem_mem hj); simpa [inR] using this
    go_enter Try.func111, Try.ntmps111
    go_wp2
    obtain ⟨W2, HW⟩ : ∃ W2, W2 = w.alloc (Obj.cells #[.int .i64 4, .int .i64 (i : Nat), .int .i64 (j : Nat)] 63) := ⟨_, rfl⟩
    have ho2 : OwnI 3 W2 base (.slice (some ⟨g, 0, none⟩) regs.length cap) regs := by rw [HW]; exact ho.al _
    have hg2 : w.grownBy W2 (some g) := by rw [HW]; exact grown_al (grown_refl _ _) _
    have c0 : W2.cell? ⟨w.heap.size, 0, none⟩ = some (.int .i64 4) := by rw [HW]; simp [go_sem]
    have c1 : W2.cell? ⟨w.heap.size, 1, none⟩ = some (.int .i64 (i : Nat)) := by rw [HW]; simp [go_sem]
    have c2 : W2.cell? ⟨w.heap.size, 2, none⟩ = some (.int .i64 (j : Nat)) := by rw [HW]; simp [go_sem]
    obtain ⟨hc3, hf3⟩ := ho2.cell hi
    obtain ⟨hc4, hf4⟩ := ho2.cell hj
    rw [← HW]
    clear HW hc hc2
    have i1 : (i : Int) < 3 := by omega
    have i2 : (0 : Int) ≤ i := by omega
    have j1 : (j : Int) < 3 := by omega
    have j2 : (0 : Int) ≤ j := by omega
    have e1 : IntKind.i64.wrap (regs[i] + regs[j]) = regs[i] + regs[j] := IntWalk.i64_in _ (by omega)
    have e2 : 0 ≤ regs[i] + regs[j] := by omega
    go_still_tail 16, (by kernel_rfl)
    go_wp2
    go_end0
    have hb3 : isI ((regs[i] + regs[j]) % 100) := by unfold isI; omega
    exact ⟨rfl, regs.set i ((regs[i] + regs[j]) % 100), by simp [doDeed, rdI, hi, hj], (ho2.drewN _).set_ (by omega) _ hb3, grown_set (grown_drewN hg2 _) _ _⟩
end Go.Proofs.Ytcpabkfoalhldaa
namespace Go.Proofs.Ytcpabkfoalhldaa
open Go.RowKit
set_option linter.unusedVariables false
set_option linter.unusedSimpArgs false

/-- What comes back of a change: rows of the call's own. -/
def ResCD (r : Option (List Int × List Int)) (B : Nat) (e : Ending) (w' : World) : Prop :=
  match r with
  | none => ∃ vc vr, e = .returned (.tuple #[vc, vr, .bool false]) ∧ OwnI 3 w' B vc [] ∧ OwnI 3 w' B vr []
  | some (c, r) => ∃ vc vr, e = .returned (.tuple #[vc, vr, .bool true]) ∧ OwnI 3 w' B vc c ∧ OwnI 3 w' B vr r ∧ ∀ k, vc.ownBlock = some k → vr.ownBlock ≠ some k

set_option maxHeartbeats 2000000 in
set_option maxRecDepth 100000 in
theorem specChangeDo_bad (cells regs : List Int) (deeds : List Deed) (A B D : Option Addr) (ca cb cd : Nat) (w : World) (S : Nat → Prop) (hA : Row Kd.int w S A cells) (hB : Row Kd.int w S B regs) (hD : Row kDeed w S D deeds) (hbad : deskOk cells regs deeds = false) :
    Calls Try.prog 90 #[.slice A cells.length ca, .slice B regs.length cb, .slice D deeds.length cd] w fun e w' => ResCD none w.heap.size e w' ∧ Below w.heap.size w w' := by
  have hm := hA.1
  cases h1 : changeOk deeds cells.length
  · have H1 := Lib.hid h1
    clear h1 hbad
    go_enter Try.func90, Try.ntmps90
    go_wp2_with (go_at_call 109; refine (specChangeOk_calls deeds _ _ _ _ S hD (by omega) (by omega)).mono ?_; rintro e w1 ⟨rfl, hb1⟩; rw [H1.out])
    go_ret3
    refine ⟨⟨_, _, rfl, ?_, ?_⟩, (hb1.alloc hb1.size _).alloc (by have := hb1.size; simp; omega) _⟩
    · exact (ownI_empty _ _ _ hb1.size).al _
    · exact ownI_empty2 _ _ _ _ hb1.size
  · cases h2 : numsOk cells
    · have H1 := Lib.hid h1
      have H2 := Lib.hid h2
      clear h1 h2 hbad
      go_enter Try.func90, Try.ntmps90
      go_wp2_with (first | (go_at_call 109; refine (specChangeOk_calls deeds _ _ _ _ S hD (by omega) (by omega)).mono ?_; rintro e w1 ⟨rfl, hb1⟩; rw [H1.out]) | (go_at_call 110; refine (l2Nums_calls cells _ _ _ _ S (hA.belowAll hb1)).mono ?_; rintro e w' ⟨rfl, rfl⟩; rw [H2.out, Bool.false_and]))
      go_ret3
      refine ⟨⟨_, _, rfl, ?_, ?_⟩, (hb1.alloc hb1.size _).alloc (by have := hb1.size; simp; omega) _⟩
      · exact (ownI_empty _ _ _ hb1.size).al _
      · exact ownI_empty2 _ _ _ _ hb1.size
    · have h3 : (numsOk regs && ((regs.length : Int) == 3)) = false := by
        simp only [deskOk, h1, h2, Bool.true_and] at hbad
        rw [← hbad]; congr 1; rw [Bool.eq_iff_iff]; simp; omega
      have H1 := Lib.hid h1
      have H2 := Lib.hid h2
      have H3 := Lib.hid h3
      clear h1 h2 h3 hbad
      go_enter Try.func90, Try.ntmps90
      go_wp2_with (first | (go_at_call 109; refine (specChangeOk_calls deeds _ _ _ _ S hD (by omega) (by omega)).mono ?_; rintro e w1 ⟨rfl, hb1⟩; rw [H1.out]) | (go_at_call 110; with_reducible refine (l2Nums_calls regs 3 _ _ _ S (hB.belowAll hb1)).mono ?_; rintro e w' ⟨rfl, rfl⟩; rw [H3.out]) | (go_at_call 110; refine (l2Nums_calls cells _ _ _ _ S (hA.belowAll hb1)).mono ?_; rintro e w' ⟨rfl, rfl⟩; rw [H2.out, Bool.true_and, show ((cells.length : Int) == cells.length) = true from beq_self_eq_true _]))
      go_ret3
      refine ⟨⟨_, _, rfl, ?_, ?_⟩, (hb1.alloc hb1.size _).alloc (by have := hb1.size; simp; omega) _⟩
      · exact (ownI_empty _ _ _ hb1.size).al _
      · exact ownI_empty2 _ _ _ _ hb1.size

set_option maxHeartbeats 2000000 in
set_option maxRecDepth 100000 in
theorem specChangeDo_good (cells regs : List Int) (deeds : List Deed) (A B D : Option Addr) (ca cb cd : Nat) (w : World) (S : Nat → Prop) (hA : Row Kd.int w S A cells) (hB : Row Kd.int w S B regs) (hD : Row kDeed w S D deeds) (hok : deskOk cells regs deeds = true) :
    Calls Try.prog 90 #[.slice A cells.length ca, .slice B regs.length cb, .slice D deeds.length cd] w fun e w' => ResCD (doDeeds (cells, regs) deeds) w.heap.size e w' ∧ Below w.heap.size w w' := by
  have hm := hA.1
  have hdesk := deskOk_desk hok
  have hok' := hok
  simp only [deskOk, Bool.and_eq_true, decide_eq_true_eq] at hok'
  obtain ⟨⟨h1, h2⟩, h3, h4⟩ := hok'
  have H1 := Lib.hid h1
  have H2 := Lib.hid h2
  have H3 := Lib.hid h3
  have H4 := Lib.hid h4
  have HDK := Lib.hid hdesk
  have hcl := hdesk.2.2.2
  have hrl : regs.length ≤ 3 := by omega
  have hdl := hdesk.2.2.1
  clear h1 h2 h3 h4 hok hdesk
  go_enter Try.func90, Try.ntmps90
  go_wp2_with (first | (go_at_call 109; refine (specChangeOk_calls deeds _ _ _ _ S hD (by omega) (by omega)).mono ?_; rintro e w1 ⟨rfl, hb1⟩; rw [H1.out]) | (go_at_call 110; with_reducible refine (l2Nums_calls regs 3 _ _ _ S (hB.belowAll hb1)).mono ?_; rintro e w' ⟨rfl, rfl⟩; rw [H3.out, Bool.true_and, show ((regs.length : Int) == 3) = true from by have := H4.out; simp; omega]) | (go_at_call 110; refine (l2Nums_calls cells _ _ _ _ S (hA.belowAll hb1)).mono ?_; rintro e w' ⟨rfl, rfl⟩; rw [H2.out, Bool.true_and, show ((cells.length : Int) == cells.length) = true from beq_self_eq_true _]) | (at_builtin; refine wpList_clone_kd (d := Kd.int) rfl (.tmp 32) (.tmp 33) _ rfl Try.underlying23 _ 8 infoInt rfl (by decide) (by decide) rfl A ca rfl (hA.belowAll hb1) (by omega) ?_; intro vc w2 hoc hbc) | (at_builtin; refine wpList_clone_kd (d := Kd.int) rfl (.tmp 35) (.tmp 36) _ rfl Try.underlying23 _ 8 infoInt rfl (by decide) (by decide) rfl B cb rfl ((hB.belowAll hb1).belowAll hbc) (by omega) ?_; intro vr w3 hor hbr3))
  have HC0 : OwnI 3 w3 w.heap.size vc cells := ((OwnI.of hoc).lower hb1.size).belowAll hbr3
  have HR0 : OwnI 3 w3 w.heap.size vr regs := (OwnI.of hor).lower (by have := hb1.size; have := hbc.size; omega)
  have hdis : ∀ k, vc.ownBlock = some k → vr.ownBlock ≠ some k := by
    intro k h1 h2
    have := (OwnI.of hoc).blk k h1
    have := (OwnI.of hor).blk k h2
    omega
  have hB3 : Below w.heap.size w w3 := below_then (below_then hb1 hb1.size hbc) (by have := hb1.size; have := hbc.size; omega) hbr3
  obtain ⟨gr, cr, hvr, hgr1, hgr2⟩ := HR0.place (by have := H4.out; omega)
  have hrl3 : regs.length = 3 := H4.out
  rw [hrl3] at hvr
  subst hvr
  obtain ⟨Ac, cc, hvc, hcc, _⟩ := HC0.row
  have hgc : 0 < cells.length → ∃ g, Ac = some ⟨g, 0, none⟩ ∧ g ≠ gr := by
    intro h0
    obtain ⟨g, c, h1, h2, h3⟩ := HC0.place h0
    rw [hvc] at h1
    injection h1 with h1
    refine ⟨g, h1, fun e => hdis g (by rw [hvc, h1]; rfl) (by rw [e]; rfl)⟩
  subst hvc
  have hm3 := hD.1
  have HDIS := Lib.hid hdis
  clear hdis hoc hor hb1 hbc hbr3 hrl3
  go_loopw [11] (fun i wr => ∃ (k : Nat) (c r : List Int), k ≤ deeds.length ∧ i = .int .i64 k ∧ Hid (doDeeds (cells, regs) (deeds.take k) = some (c, r)) ∧ OwnI 3 wr w.heap.size (.slice Ac cells.length cc) c ∧ OwnI 3 wr w.heap.size (.slice (some ⟨gr, 0, none⟩) 3 cr) r ∧ Below w.heap.size w wr) (fun i _ => deeds.length - (intOf i).toNat)
  case atStart => exact ⟨0, cells, regs, Nat.zero_le _, rfl, by simp [Hid, doDeeds], HC0, HR0, hB3⟩
  case round =>
    obtain ⟨k, c, r, hk, rfl, HA, HC, HR, hbr⟩ := hrel
    have hdk : Desk cells.length (c, r) := (HDK.out).1.deeds (by
      have := (HDK.out).2.1
      rw [List.all_eq_true] at this ⊢
      exact fun x hx => this x (List.mem_of_mem_take hx)) HA.out
    have hcl2 : c.length = cells.length := hdk.cl
    have hrl2 : r.length = 3 := hdk.rl
    by_cases hlt : k < deeds.length
    · obtain ⟨ad, rfl, hl, hc1, hc2, hc4, hi1, hi2, hi3⟩ := at_deed (hD.belowAll hbr) hlt
      have hdo : deedOk deeds[k] cells.length = true := by
        have := (HDK.out).2.1
        rw [List.all_eq_true] at this
        exact this _ (List.getElem_mem hlt)
      have hnext : ∀ cr', doDeed (c, r) deeds[k] = some cr' → Hid (doDeeds (cells, regs) (deeds.take (k + 1)) = some (cr'.1, cr'.2)) := by
        intro cr' h
        unfold Hid
        rw [doDeeds_take _ _ _ hlt, HA.out]; exact h
      have hnone : doDeed (c, r) deeds[k] = none → Hid (doDeeds (cells, regs) deeds = none) := by
        intro h
        unfold Hid
        refine doDeeds_none _ _ k hlt ?_
        rw [doDeeds_take _ _ _ hlt, HA.out]; exact h
      have HN := Lib.hid hnext
      have HNN := Lib.hid hnone
      have HL := Lib.hid hcl2
      have hnone' := HNN.out
      clear hnext hnone hcl2
      rcases deedOk_kinds hdo with ⟨hkd, ha, hb⟩ | ⟨hkd, ha, hb⟩ | ⟨hkd, ha, hb⟩ | ⟨hkd, ha, hb⟩ | ⟨hkd, ha, hb⟩

      · -- kind 1
        have ha0 := ha.1
        have hb0 := hb.1
        obtain ⟨x, hx⟩ : ∃ x : Nat, deeds[k].a = (x : Int) := ⟨deeds[k].a.toNat, by omega⟩
        obtain ⟨y, hy⟩ : ∃ y : Nat, deeds[k].b = (y : Int) := ⟨deeds[k].b.toNat, by omega⟩
        rw [hkd] at hc1
        rw [hx] at hc2 ha
        rw [hy] at hc4 hb
        obtain ⟨gc, rfl, hne⟩ := hgc (by omega)
        have hyl : y < c.length := by rw [HL.out]; omega
        rw [← hdk.cl] at HC
        rw [hdk.cl] at HC
        have H1 := Lib.hid hkd; have H2 := Lib.hid hx; have H3 := Lib.hid hy
        clear hkd hx hy
        go_wp2
        obtain ⟨W2, HW⟩ : ∃ W2, W2 = wr.alloc (Obj.cells #[.int .i64 1, .int .i64 (x : Nat), .int .i64 (y : Nat)] 63) := ⟨_, rfl⟩
        have hbw : Below w.heap.size w W2 := by rw [HW]; exact hbr.alloc hbr.size _
        have HC2 : OwnI 3 W2 w.heap.size (.slice (some ⟨gc, 0, none⟩) cells.length cc) c := by rw [HW]; exact HC.al _
        have HR2 : OwnI 3 W2 w.heap.size (.slice (some ⟨gr, 0, none⟩) 3 cr) r := by rw [HW]; exact HR.al _
        have d0 : W2.cell? ⟨wr.heap.size, 0, none⟩ = some (.int .i64 1) := by rw [HW]; simp [go_sem]
        have d1 : W2.cell? ⟨wr.heap.size, 1, none⟩ = some (.int .i64 (x : Nat)) := by rw [HW]; simp [go_sem]
        have d2 : W2.cell? ⟨wr.heap.size, 2, none⟩ = some (.int .i64 (y : Nat)) := by rw [HW]; simp [go_sem]
        have hc2' := HC2
        rw [← hdk.cl] at hc2'
        have hr2' := HR2
        rw [← hrl2] at hr2'
        have hxl : x < r.length := by omega
        obtain ⟨hcy, hfy⟩ := hc2'.cell hyl
        obtain ⟨hrx, hfx⟩ := hr2'.cell hxl
        have hcI := HC2.all y hyl
        rw [← HW]
        clear HW hc2' hr2'
        have x1 : (x : Int) < 3 := by omega
        have x2 : (0 : Int) ≤ x := by omega
        have y1 : (y : Int) < cells.length := by omega
        have y2 : (0 : Int) ≤ y := by omega
        have hdd : doDeed (c, r) deeds[k] = some (c, r.set x c[y]) := by simp [doDeed, H1.out, H2.out, H3.out, rdI, hyl]
        have HDD := Lib.hid hdd
        have HL3 := Lib.hid hrl2
        clear hdd hrl2
        go_still_tail 9, (by kernel_rfl)
        go_wp2
        go_roundw
        case rel =>
          refine ⟨k + 1, c, r.set x c[y], by omega, by go_num, HN.out _ HDD.out, (HC2.drewN _).far (fun q hq => ?_) _, ?_, (below_drewN' hbw _).setCell hgr1 _⟩
          · simp [Value.ownBlock] at hq; subst hq; exact hne
          · have hr3 := HR2.drewN 1
            rw [← HL3.out] at hr3 ⊢
            exact hr3.set_ hxl _ hcI
        case measure => simp [intOf]; omega

      · -- kind 2
        have ha0 := ha.1
        have hb0 := hb.1
        obtain ⟨x, hx⟩ : ∃ x : Nat, deeds[k].a = (x : Int) := ⟨deeds[k].a.toNat, by omega⟩
        obtain ⟨y, hy⟩ : ∃ y : Nat, deeds[k].b = (y : Int) := ⟨deeds[k].b.toNat, by omega⟩
        rw [hkd] at hc1
        rw [hx] at hc2 ha
        rw [hy] at hc4 hb

        obtain ⟨gc, rfl, hne⟩ := hgc (by omega)
        have hxl : x < c.length := by rw [HL.out]; omega
        have H1 := Lib.hid hkd; have H2 := Lib.hid hx; have H3 := Lib.hid hy
        clear hkd hx hy
        go_wp2
        obtain ⟨W2, HW⟩ : ∃ W2, W2 = wr.alloc (Obj.cells #[.int .i64 2, .int .i64 (x : Nat), .int .i64 (y : Nat)] 63) := ⟨_, rfl⟩
        have hbw : Below w.heap.size w W2 := by rw [HW]; exact hbr.alloc hbr.size _
        have HC2 : OwnI 3 W2 w.heap.size (.slice (some ⟨gc, 0, none⟩) cells.length cc) c := by rw [HW]; exact HC.al _
        have HR2 : OwnI 3 W2 w.heap.size (.slice (some ⟨gr, 0, none⟩) 3 cr) r := by rw [HW]; exact HR.al _
        have d0 : W2.cell? ⟨wr.heap.size, 0, none⟩ = some (.int .i64 2) := by rw [HW]; simp [go_sem]
        have d1 : W2.cell? ⟨wr.heap.size, 1, none⟩ = some (.int .i64 (x : Nat)) := by rw [HW]; simp [go_sem]
        have d2 : W2.cell? ⟨wr.heap.size, 2, none⟩ = some (.int .i64 (y : Nat)) := by rw [HW]; simp [go_sem]
        have hc2' := HC2
        rw [← hdk.cl] at hc2'
        have hr2' := HR2
        rw [← hrl2] at hr2'
        have hyl : y < r.length := by omega
        obtain ⟨hcy, hfy⟩ := hc2'.cell hxl
        obtain ⟨hrx, hfx⟩ := hr2'.cell hyl
        have hcI := HR2.all y hyl
        rw [← HW]
        clear HW hc2' hr2'
        have x1 : (x : Int) < cells.length := by omega
        have x2 : (0 : Int) ≤ x := by omega
        have y1 : (y : Int) < 3 := by omega
        have y2 : (0 : Int) ≤ y := by omega
        have hdd : doDeed (c, r) deeds[k] = some (c.set x r[y], r) := by simp [doDeed, H1.out, H2.out, H3.out, rdI, hyl]
        have HDD := Lib.hid hdd
        clear hdd hrl2
        have hgc1 : w.heap.size ≤ gc := (HC2.blk gc rfl).1
        go_still_tail 9, (by kernel_rfl)
        go_wp2
        go_roundw
        case rel =>
          refine ⟨k + 1, c.set x r[y], r, by omega, by go_num, HN.out _ HDD.out, ?_, (HR2.drewN _).far (fun q hq => ?_) _, (below_drewN' hbw _).setCell hgc1 _⟩
          · have hr3 := HC2.drewN 1
            rw [← HL.out] at hr3 ⊢
            exact hr3.set_ hxl _ hcI
          · simp [Value.ownBlock] at hq; subst hq; exact fun e => hne e.symm
        case measure => simp [intOf]; omega
      · -- kind 3
        have ha0 := ha.1
        have hb0 := hb.1
        obtain ⟨x, hx⟩ : ∃ x : Nat, deeds[k].a = (x : Int) := ⟨deeds[k].a.toNat, by omega⟩
        obtain ⟨y, hy⟩ : ∃ y : Nat, deeds[k].b = (y : Int) := ⟨deeds[k].b.toNat, by omega⟩
        rw [hkd] at hc1
        rw [hx] at hc2 ha
        rw [hy] at hc4 hb

        have H1 := Lib.hid hkd; have H2 := Lib.hid hx; have H3 := Lib.hid hy
        have hrn := hdk.r
        have HL3 := Lib.hid hrl2
        have HRN := Lib.hid hrn
        clear hkd hx hy hrl2 hrn
        go_wp2_with (go_at_call 111; refine (l2Reg_calls 3 x y r _ w.heap.size _ HL3.out (HR.al _) HRN.out (by left; simp [inR] <;> omega)).mono ?_; rintro e w4 ⟨rfl, r', hd', hr', hg'⟩)
        go_roundw
        case rel =>
          have hdd : doDeed (c, r) deeds[k] = some (c, r') := by
            have e : deeds[k] = ⟨3, x, y⟩ := by
              have h1 := H1.out; have h2 := H2.out; have h3 := H3.out
              cases hdq : deeds[k] with | mk a b c => rw [hdq] at h1 h2 h3; simp at h1 h2 h3; rw [h1, h2, h3]
            rw [e]; exact doDeed_reg (by simp) hd'
          refine ⟨k + 1, c, r', by omega, by go_num, HN.out _ hdd, (HC.al _).grown hg' (fun q hq hq2 => HDIS.out q hq (by rw [← hq2])), hr', (hbr.alloc hbr.size _).grown hg' (Nat.le_trans hbr.size (by simp)) (fun q hq => by simp [Value.ownBlock] at hq; omega)⟩
        case measure => simp [intOf]; omega
      · -- kind 4
        have ha0 := ha.1
        have hb0 := hb.1
        obtain ⟨x, hx⟩ : ∃ x : Nat, deeds[k].a = (x : Int) := ⟨deeds[k].a.toNat, by omega⟩
        obtain ⟨y, hy⟩ : ∃ y : Nat, deeds[k].b = (y : Int) := ⟨deeds[k].b.toNat, by omega⟩
        rw [hkd] at hc1
        rw [hx] at hc2 ha
        rw [hy] at hc4 hb
        have H1 := Lib.hid hkd; have H2 := Lib.hid hx; have H3 := Lib.hid hy
        have hrn := hdk.r
        have HL3 := Lib.hid hrl2
        have HRN := Lib.hid hrn
        clear hkd hx hy hrl2 hrn
        go_wp2_with (go_at_call 111; refine (l2Reg_calls 4 x y r _ w.heap.size _ HL3.out (HR.al _) HRN.out (by right; simp [inR] <;> omega)).mono ?_; rintro e w4 ⟨rfl, r', hd', hr', hg'⟩)
        go_roundw
        case rel =>
          have hdd : doDeed (c, r) deeds[k] = some (c, r') := by
            have e : deeds[k] = ⟨4, x, y⟩ := by
              have h1 := H1.out; have h2 := H2.out; have h3 := H3.out
              cases hdq : deeds[k] with | mk a b c => rw [hdq] at h1 h2 h3; simp at h1 h2 h3; rw [h1, h2, h3]
            rw [e]; exact doDeed_reg (by simp) hd'
          refine ⟨k + 1, c, r', by omega, by go_num, HN.out _ hdd, (HC.al _).grown hg' (fun q hq hq2 => HDIS.out q hq (by rw [← hq2])), hr', (hbr.alloc hbr.size _).grown hg' (Nat.le_trans hbr.size (by simp)) (fun q hq => by simp [Value.ownBlock] at hq; omega)⟩
        case measure => simp [intOf]; omega
      · have ha0 := ha.1
        obtain ⟨x, hx⟩ : ∃ x : Nat, deeds[k].a = (x : Int) := ⟨deeds[k].a.toNat, by omega⟩
        rw [hkd] at hc1
        rw [hx] at hc2 ha
        have hxl : x < r.length := by omega
        have hr2' := HR
        rw [← hrl2] at hr2'
        obtain ⟨hrx, hfx⟩ := hr2'.cell hxl
        have hwx : ∀ o, (wr.alloc o).cell? ⟨gr, x, none⟩ = some (.int .i64 r[x]) := fun o => by rw [World.cell?_alloc_lt _ _ _ (HR.blk gr rfl).2]; exact hrx
        by_cases h0 : r[x] = 0
        · have hdd : doDeed (c, r) deeds[k] = none := by simp [doDeed, hkd, hx, rdI, hxl, h0]
          have HDD := hnone' hdd
          rw [h0] at hwx
          clear hkd hx hrl2 hr2' hrx h0 hdd
          go_wp2
          go_ret3
          refine ⟨?_, ((hbr.alloc hbr.size _).alloc (by have := hbr.size; simp; omega) _).alloc (by have := hbr.size; simp; omega) _⟩
          rw [HDD.out]
          refine ⟨_, _, rfl, ?_, ?_⟩
          · have h := (ownI_empty 3 (wr.alloc (Obj.cells #[.int .i64 5, .int .i64 (x : Nat), .int .i64 0] 63)) w.heap.size (Nat.le_trans hbr.size (by simp))).al (.cells #[] 3)
            simpa using h
          · have h := ownI_empty2 3 (wr.alloc (Obj.cells #[.int .i64 5, .int .i64 (x : Nat), .int .i64 0] 63)) w.heap.size (.cells #[] 3) (Nat.le_trans hbr.size (by simp))
            simpa using h
        · have hdd : doDeed (c, r) deeds[k] = some (c, r) := by simp [doDeed, hkd, hx, rdI, hxl, h0]
          have HDD := Lib.hid hdd
          have hb0 : (r[x] == 0) = false := by simp [h0]
          clear hkd hx hrl2 hr2' hrx hdd h0
          go_wp2
          go_roundw
          case rel => exact ⟨k + 1, c, r, by omega, by go_num, HN.out _ HDD.out, HC.al _, HR.al _, hbr.alloc hbr.size _⟩
          case measure => simp [intOf]; omega
    · go_wp2
      go_ret3
      refine ⟨?_, hbr⟩
      have := HA.out
      rw [List.take_of_length_le (by omega)] at this
      rw [this]
      exact ⟨_, _, rfl, HC, HR, HDIS.out⟩
end Go.Proofs.Ytcpabkfoalhldaa
