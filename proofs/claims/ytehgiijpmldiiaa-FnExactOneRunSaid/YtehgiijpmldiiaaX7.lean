/- The laws' helpers: toProg. -/
import Derived.Test.YtehgiijpmldiiaaX6
namespace Go.Proofs.Ytehgiijpmldiiaa
open Go.RowKit
set_option linter.unusedVariables false
set_option linter.unusedSimpArgs false

theorem kBodyO_lower {b b' : Nat} (hb : b' ≤ b) {w : World} {S : Nat → Prop} {x : List Act} {cs : List Value} (h : (kBodyO b).K w S x cs) : (kBodyO b').K w S x cs := by
  obtain ⟨v, rfl, hv⟩ := h
  exact ⟨v, rfl, (Own.map (d := kActO b) (d' := kActO b') rfl (fun S x cs h => kActO_lower hb h) hv).lower hb⟩
theorem Own.bodyLower {b b' e base : Nat} {w : World} {S : Nat → Prop} {v : Value} {xs : List (List Act)} (h : Own (kBodyO b) e w base S v xs) (hb : b' ≤ b) : Own (kBodyO b') e w base S v xs := Own.map (d := kBodyO b) (d' := kBodyO b') rfl (fun S x cs h => kBodyO_lower hb h) h
/-- A program in memory of its own, from block B on. -/
structure ProgO (p : Prog) (B : Nat) (v : Value) (w : World) : Prop where
  ex : ∃ C D cc cd, v = .agg #[.slice C p.cells.length cc, .slice D p.bodies.length cd] ∧ Own Kd.int 3 w B (fun k => B ≤ k) (.slice C p.cells.length cc) p.cells ∧ Own (kBodyO B) 31 w B (fun k => B ≤ k) (.slice D p.bodies.length cd) p.bodies
set_option maxHeartbeats 2000000 in
set_option maxRecDepth 100000 in
theorem toProg_calls (p : Prog) (A B : Option Addr) (c d : Nat) (w : World) (S : Nat → Prop) (hA : Row Kd.int w S A p.cells) (hB : Row (Kd.slice kAct) w S B p.bodies) (hS : ∀ k, S k → k < w.heap.size) (hn : p.cells.length ≤ 1048576) (hm : p.bodies.length ≤ 1048576) (ha : ∀ l ∈ p.bodies, l.length ≤ 1048576 ∧ ∀ a ∈ l, a.deeds.length ≤ 1048576 ∧ a.kids.length ≤ 1048576) :
    Calls Try.prog 12 #[.agg #[.slice A p.cells.length c, .slice B p.bodies.length d]] w fun e w' => ∃ v, e = .returned v ∧ ProgO p w.heap.size v w' ∧ Below w.heap.size w w' := by
  have hb := fun o1 o2 o3 => ((bal2' w o1 o2).alloc (by simp; omega) o3)
  have hN := three_news w
  have HA := fun o1 o2 o3 => Lib.hid (hA.belowAll (hb o1 o2 o3))
  clear hA
  go_enter Try.func12, Try.ntmps12
  go_wp2_with (first
    | (go_at_call 37; refine (toIntS_calls p.cells _ _ _ S (HA _ _ _).out hn).mono ?_; rintro e w1 ⟨v, rfl, ho1, hb1⟩; have z1 := hb1.size; (try simp at z1); have f1 := (hb1.block w.heap.size (by simp; omega)).trans (hN _ _ _).1; have f2 := (hb1.block (w.heap.size + 1) (by simp)).trans (hN _ _ _).2.1; have f3 := (hb1.block (w.heap.size + 1 + 1) (by simp)).trans (hN _ _ _).2.2; obtain ⟨A1, c1, rfl, hc1⟩ := ho1.slice; have e1 := cell_of_row _ _ 0 _ _ _ f3; have e2 := frozen_of_row f3; have g1 := heap_set_far (i := 0) (b2 := w.heap.size + 1 + 1) f1 (.slice A1 p.cells.length c1) (by omega); have g2 := heap_set_far (i := 0) (b2 := w.heap.size + 1 + 1) f2 (.slice A1 p.cells.length c1) (by omega); have g3 := heap_set_row (i := 0) f3 (.slice A1 p.cells.length c1); have e3 := cell_of_row _ _ 1 _ _ _ g1; simp at e1 e3 g3; have hw1 := (below_then (hb _ _ _) (by simp; omega) hb1).setCell (p := ⟨w.heap.size + 1 + 1, 0, none⟩) (by show w.heap.size ≤ w.heap.size + 1 + 1; omega) (.slice A1 p.cells.length c1); have ho1' := ho1.step (w' := w1.setCell ⟨w.heap.size + 1 + 1, 0, none⟩ (.slice A1 p.cells.length c1)) (fun k hk _ => Below.heap_setCell w1 _ _ k (by intro e; have e : k = w.heap.size + 1 + 1 := e; simp at hk; omega)); have hBB := hB.below hw1 (fun k hk _ => hS k hk); have hz9 : ∀ k, S k → k < (w1.setCell ⟨w.heap.size + 1 + 1, 0, none⟩ (.slice A1 p.cells.length c1)).heap.size := (fun k hk => by have := hS k hk; simp; omega)) | (go_at_call 38; refine (toActSS_calls p.bodies _ _ _ S hBB hz9 hm ha).mono ?_; rintro e w2 ⟨u, rfl, ho2, hb2⟩; have z2 := hb2.size; (try simp at z2); have k2 := (hb2.block (w.heap.size + 1) (by simp; omega)).trans g2; have k3 := (hb2.block (w.heap.size + 1 + 1) (by simp; omega)).trans g3; obtain ⟨A2, c2, rfl, hc2⟩ := ho2.slice; have n1 := cell_of_row _ _ 1 _ _ _ k3; have n2 := frozen_of_row k3; have l2 := heap_set_far (i := 1) (b2 := w.heap.size + 1 + 1) k2 (.slice A2 p.bodies.length c2) (by omega); have l3 := heap_set_row (i := 1) k3 (.slice A2 p.bodies.length c2); have r0 := cell_of_row _ _ 0 _ _ _ l3; have r1 := cell_of_row _ _ 1 _ _ _ l3; have q0 := cell_of_row _ _ 0 _ _ _ l2; have q1 := cell_of_row _ _ 1 _ _ _ l2; have q4 := frozen_of_row l2; simp at n1 r0 r1 q0 q1))
  have hk := Keep.setCell (T := fun k => k = w.heap.size + 1 + 1 ∨ k = w.heap.size + 1) (p := ⟨w.heap.size + 1 + 1, 1, none⟩) (Keep.refl _ w2) (fun _ => .inl rfl) (.slice A2 p.bodies.length c2)
  have hk2 := Keep.setCell (T := fun k => k = w.heap.size + 1 + 1 ∨ k = w.heap.size + 1) (p := ⟨w.heap.size + 1, 1, none⟩) (Keep.setCell (T := fun k => k = w.heap.size + 1 + 1 ∨ k = w.heap.size + 1) (p := ⟨w.heap.size + 1, 0, none⟩) hk (fun _ => .inr rfl) (.slice A1 p.cells.length c1)) (fun _ => .inr rfl) (.slice A2 p.bodies.length c2)
  have hkk : ∀ k, w.heap.size + 1 + 1 + 1 ≤ k → ¬ (k = w.heap.size + 1 + 1 ∨ k = w.heap.size + 1) := fun k hk => by omega
  refine bodyPost_ret (v := .agg #[.slice A1 p.cells.length c1, .slice A2 p.bodies.length c2]) (by simp [results, Try.results12, go_sem, q0, q1, q4]) rfl ⟨_, rfl, ⟨_, _, _, _, rfl, ?_, ?_⟩, ?_⟩
  · exact (((ho1'.belowAll hb2).step (fun k hs hl => hk2.block k hl (hkk k (by simpa using hs)))).lower (by simp; omega)).mono (fun k hk => by simp at hk; omega)
  · exact (((ho2.step (fun k hs hl => hk2.block k hl (hkk k (by simp at hs; omega)))).bodyLower (b' := w.heap.size) (by simp; omega)).lower (by simp; omega)).mono (fun k hk => by simp at hk; omega)
  · have hb9 := below_then hw1 (by simp; omega) hb2
    exact hb9.trans (hk2.below (fun k hk e => by omega) hb9.size)
end Go.Proofs.Ytehgiijpmldiiaa
