/- Rows of the call's own: a cell read, a cell written; rows of numbers. -/
import Derived.Test.YtehgiijpmldiiaaLib2
namespace Go.Proofs.Ytehgiijpmldiiaa
open Go.RowKit
set_option linter.unusedSimpArgs false
set_option linter.unusedVariables false

theorem flatten_set {sz : Nat} : ∀ (css : List (List Value)), (∀ c ∈ css, c.length = sz) → ∀ (j i : Nat) (u : Value) (c : List Value), css[j]? = some c → i < sz → css.flatten.set (j * sz + i) u = (css.set j (c.set i u)).flatten := by
  intro css
  induction css with
  | nil => intro _ j i u c h; simp at h
  | cons a r ih =>
    intro hl j i u c hj hi
    have ha : a.length = sz := hl a (List.mem_cons_self ..)
    cases j with
    | zero =>
      simp at hj; subst hj
      rw [List.flatten_cons, Nat.zero_mul, Nat.zero_add, List.set_append_left _ _ (by omega)]
      simp
    | succ j =>
      have hj' : r[j]? = some c := by simpa using hj
      have := ih (fun c hc => hl c (List.mem_cons_of_mem _ hc)) j i u c hj' hi
      rw [List.flatten_cons, List.set_append_right _ _ (by rw [ha, Nat.succ_mul]; omega), List.set_cons_succ, List.flatten_cons, ← this, ha]
      congr 2; rw [Nat.succ_mul]; omega

section
variable {α : Type} {d : Kd α} {e : Nat} {w : World} {base : Nat} {S : Nat → Prop} {v : Value} {xs : List α}
/-- Where a row of the call's own lies, if it holds something. -/
theorem Own.place (h : Own d e w base S v xs) (hn : 0 < xs.length) : ∃ g cap, v = .slice (some ⟨g, 0, none⟩) xs.length cap ∧ base ≤ g ∧ g < w.heap.size ∧ S g ∧ xs.length ≤ cap := by
  have hb := h.blk
  obtain ⟨A, c, hv, hc⟩ := h.slice
  obtain ⟨css, h1, _⟩ := h
  obtain ⟨g, cap, he, h2, h3⟩ := h1.form hn
  rw [hv] at he
  injection he with e1 e2 e3
  subst e1; subst e3
  have := hb g (by rw [hv]; rfl)
  exact ⟨g, c, hv, this.1, this.2.1, this.2.2, hc⟩
theorem Own.cellAt {g cap : Nat} (h : Own d e w base S (.slice (some ⟨g, 0, none⟩) xs.length cap) xs) {j : Nat} (hj : j < xs.length) :
    ∃ c, d.K w (fun k => S k ∧ k ≠ g) xs[j] c ∧ (∀ i u, c[i]? = some u → w.cell? ⟨g, j * d.sz + i, none⟩ = some u) ∧ ∀ i, w.frozen? ⟨g, i, none⟩ = false := by
  obtain ⟨css, h1, h2, hl, h3, h4⟩ := h.lens
  obtain ⟨c, hc, hk⟩ := h4 j _ (List.getElem?_eq_getElem hj)
  refine ⟨c, d.mono (fun k hk => ⟨hk.1, fun e => hk.2 (by rw [e]; rfl)⟩) hk, fun i u hu => ?_, fun i => h1.frozenAt i⟩
  have := h1.cells (g := g) rfl _ _ (flatten_at css hl j i c u hc hu)
  have e0 : (⟨g, 0, none⟩ : Addr).add (j * d.sz + i) = ⟨g, j * d.sz + i, none⟩ := by unfold Addr.add; split <;> simp_all
  rwa [e0] at this
/-- A cell of an element is written. -/
theorem Own.setAt {g cap : Nat} (h : Own d e w base S (.slice (some ⟨g, 0, none⟩) xs.length cap) xs) {j : Nat} (hj : j < xs.length) {i : Nat} (hi : i < d.sz) (u : Value) (y : α)
    (hy : ∀ c, d.K w (fun k => S k ∧ k ≠ g) xs[j] c → d.K w (fun k => S k ∧ k ≠ g) y (c.set i u)) :
    Own d e (w.setCell ⟨g, j * d.sz + i, none⟩ u) base S (.slice (some ⟨g, 0, none⟩) xs.length cap) (xs.set j y) := by
  obtain ⟨css, h1, h2, hl, h3, h4⟩ := h.lens
  obtain ⟨c, hc, hk⟩ := h4 j _ (List.getElem?_eq_getElem hj)
  have hfar : ∀ (x : α) (c : List Value), d.K w (fun k => S k ∧ some k ≠ Value.ownBlock (.slice (some ⟨g, 0, none⟩) xs.length cap)) x c → d.K (w.setCell ⟨g, j * d.sz + i, none⟩ u) (fun k => S k ∧ some k ≠ Value.ownBlock (.slice (some ⟨g, 0, none⟩) xs.length cap)) x c :=
    fun x c h => d.move (fun k hk => Below.heap_setCell w _ u k (fun e => hk.2 (by rw [e]; rfl))) h
  have hst := h1.stored (j * d.sz + i) u
  rw [flatten_set css hl j i u c hc hi] at hst
  have ho : (w.setCell ⟨g, j * d.sz + i, none⟩ u).ownsRow base e d.sz (.slice (some ⟨g, 0, none⟩) xs.length cap) (xs.set j y).length (css.set j (c.set i u)).flatten := by rw [List.length_set]; exact hst.1
  refine own_intro (css.set j (c.set i u)) ho (by simp [h2]) h3 (fun q x hq => ?_)
  rw [List.getElem?_set] at hq
  rw [List.getElem?_set]
  by_cases hjq : j = q
  · subst hjq
    rw [if_pos rfl, if_pos (by omega)]
    rw [if_pos rfl, if_pos hj] at hq
    injection hq with hq
    subst hq
    refine ⟨_, rfl, hfar _ _ ?_⟩
    refine d.mono (fun k hk => ⟨hk.1, fun e => ?_⟩) (hy c (d.mono (fun k hk => ⟨hk.1, fun e => hk.2 (by rw [e]; rfl)⟩) hk))
    injection e with e
    exact hk.2 e
  · rw [if_neg hjq]
    rw [if_neg hjq] at hq
    obtain ⟨c', hc', hk'⟩ := h4 q x hq
    exact ⟨c', hc', hfar _ _ hk'⟩
end

def isI (n : Int) : Prop := -9223372036854775808 ≤ n ∧ n ≤ 9223372036854775807
/-- A row of numbers of the call's own: it leads nowhere. -/
def OwnI (e : Nat) (w : World) (base : Nat) (v : Value) (xs : List Int) : Prop := Own Kd.int e w base (fun k => v.ownBlock = some k) v xs
section
variable {e : Nat} {w w' : World} {base : Nat} {S : Nat → Prop} {v : Value} {xs : List Int}
theorem OwnI.of (h : Own Kd.int e w base S v xs) : OwnI e w base v xs := by
  obtain ⟨css, h1, h2, h3, h4⟩ := h
  refine own_intro css h1 h2 (fun k hk => hk) (fun j x hj => ?_)
  obtain ⟨c, hc, hk⟩ := h4 j x hj
  exact ⟨c, hc, hk⟩
theorem OwnI.move (hm : ∀ k, v.ownBlock = some k → w'.heap[k]? = w.heap[k]?) (h : OwnI e w base v xs) : OwnI e w' base v xs := Own.move hm h
theorem OwnI.step (h : OwnI e w base v xs) (hm : ∀ k, v.ownBlock = some k → k < w.heap.size → w'.heap[k]? = w.heap[k]?) : OwnI e w' base v xs := Own.step h hm
theorem OwnI.belowAll (h : OwnI e w base v xs) (hb : Below w.heap.size w w') : OwnI e w' base v xs := Own.belowAll h hb
theorem OwnI.place (h : OwnI e w base v xs) (hn : 0 < xs.length) : ∃ g cap, v = .slice (some ⟨g, 0, none⟩) xs.length cap ∧ base ≤ g ∧ g < w.heap.size := by
  obtain ⟨g, cap, hv, h1, h2, _⟩ := Own.place h hn
  exact ⟨g, cap, hv, h1, h2⟩
theorem OwnI.all (h : OwnI e w base v xs) (j : Nat) (hj : j < xs.length) : isI xs[j] := by
  obtain ⟨css, h1, h2, h3, h4⟩ := h
  obtain ⟨c, hc, _, hk⟩ := h4 j _ (List.getElem?_eq_getElem hj)
  exact hk
theorem OwnI.cell {g cap : Nat} (h : OwnI e w base (.slice (some ⟨g, 0, none⟩) xs.length cap) xs) {j : Nat} (hj : j < xs.length) : w.cell? ⟨g, j, none⟩ = some (.int .i64 xs[j]) ∧ w.frozen? ⟨g, j, none⟩ = false := by
  obtain ⟨c, ⟨rfl, _⟩, hc, hf⟩ := Own.cellAt h hj
  have := hc 0 _ rfl
  have hs : Kd.int.sz = 1 := rfl
  rw [hs, Nat.mul_one, Nat.add_zero] at this
  exact ⟨this, hf j⟩
theorem OwnI.set_ {g cap : Nat} (h : OwnI e w base (.slice (some ⟨g, 0, none⟩) xs.length cap) xs) {j : Nat} (hj : j < xs.length) (n : Int) (hn : isI n) :
    OwnI e (w.setCell ⟨g, j, none⟩ (.int .i64 n)) base (.slice (some ⟨g, 0, none⟩) xs.length cap) (xs.set j n) := by
  have := Own.setAt h hj (i := 0) (by decide) (.int .i64 n) n (fun c hc => by
    obtain ⟨rfl, _⟩ := hc
    exact ⟨rfl, hn⟩)
  have hs : Kd.int.sz = 1 := rfl
  rw [hs, Nat.mul_one, Nat.add_zero] at this
  exact this
theorem OwnI.row (h : OwnI e w base v xs) : ∃ A c, v = .slice A xs.length c ∧ xs.length ≤ c ∧ Row Kd.int w (fun k => v.ownBlock = some k) A xs := Own.row h
theorem OwnI.blk (h : OwnI e w base v xs) (k : Nat) (hk : v.ownBlock = some k) : base ≤ k ∧ k < w.heap.size := ⟨(Own.blk h k hk).1, (Own.blk h k hk).2.1⟩
theorem OwnI.lower {base' : Nat} (hb : base' ≤ base) (h : OwnI e w base v xs) : OwnI e w base' v xs := Own.lower hb h
theorem OwnI.al (h : OwnI e w base v xs) (o : Obj) : OwnI e (w.alloc o) base v xs := h.step fun k _ hk => Below.heap_alloc w o k hk
theorem OwnI.drewN (h : OwnI e w base v xs) (n : Nat) : OwnI e (w.drewN n) base v xs := Own.drewN h n
theorem OwnI.grown (h : OwnI e w base v xs) {row : Option Nat} (hg : w.grownBy w' row) (hne : ∀ k, v.ownBlock = some k → some k ≠ row) : OwnI e w' base v xs := h.step fun k h1 h2 => hg.block k h2 (hne k h1)
theorem grown_al {row : Option Nat} (h : w.grownBy w' row) (o : Obj) : w.grownBy (w'.alloc o) row :=
  ⟨h.os, h.tape, h.output, Nat.le_trans h.size (by simp), fun i hi hne => (Below.heap_alloc w' o i (Nat.lt_of_lt_of_le hi h.size)).trans (h.block i hi hne)⟩
theorem grown_refl (w : World) (row : Option Nat) : w.grownBy w row := ⟨rfl, rfl, rfl, Nat.le_refl _, fun _ _ _ => rfl⟩
theorem grown_set {g : Nat} (h : w.grownBy w' (some g)) (i : Nat) (u : Value) : w.grownBy (w'.setCell ⟨g, i, none⟩ u) (some g) :=
  ⟨h.os, h.tape, h.output, by simpa [World.setCell] using h.size, fun k hk hne => (Below.heap_setCell w' _ u k (fun e => hne (by rw [e]))).trans (h.block k hk hne)⟩
theorem grown_drewN {row : Option Nat} (h : w.grownBy w' row) (n : Nat) : w.grownBy (w'.drewN n) row := ⟨h.os, h.tape, h.output, h.size, h.block⟩
theorem grown_below {B : Nat} {w2 : World} {row : Option Nat} (h : w.grownBy w' row) (hb : Below B w' w2) (hB : w'.heap.size ≤ B) : w.grownBy w2 row :=
  ⟨hb.os.trans h.os, hb.tape.trans h.tape, hb.output.trans h.output, Nat.le_trans h.size hb.size, fun i hi hne => (hb.block i (by have := h.size; omega)).trans (h.block i hi hne)⟩
theorem OwnI.far (h : OwnI e w base v xs) {p : Addr} (hne : ∀ k, v.ownBlock = some k → k ≠ p.block) (u : Value) : OwnI e (w.setCell p u) base v xs := h.step fun k h1 _ => Below.heap_setCell w p u k (hne k h1)
theorem ownI_empty (e : Nat) (w : World) (base : Nat) (hb : base ≤ w.heap.size) : OwnI e (w.alloc (.cells #[] e)) base (.slice (some ⟨w.heap.size, 0, none⟩) 0 0) [] := OwnI.of (Own.empty_ _ _ _ _ (fun _ => True) hb trivial)
theorem ownI_empty2 (e : Nat) (w : World) (base : Nat) (o : Obj) (hb : base ≤ w.heap.size) : OwnI e ((w.alloc o).alloc (.cells #[] e)) base (.slice (some ⟨w.heap.size + 1, 0, none⟩) 0 0) [] := by
  have := ownI_empty e (w.alloc o) base (by simp; omega)
  simpa using this
theorem OwnI.nil (e : Nat) (w : World) (base : Nat) : OwnI e w base (.slice none 0 0) [] := Own.nil _ _ _ _ _
end
end Go.Proofs.Ytehgiijpmldiiaa
