/- Draws: a program is bent: one more body; what the walk asks for. -/
import Derived.Test.YtehgiijpmldiiaaG7c
namespace Go.Proofs.Ytehgiijpmldiiaa
open Go.RowKit
set_option linter.unusedVariables false
set_option linter.unusedSimpArgs false

theorem own2 {wo w : World} {g : Nat} {S : Nat → Prop} {A : Option Addr} {c : Nat} {bs : List Int} {f b2 bp : Nat} {vc vb : Value} {cs : List Int} {bds : List (List Act)} {S2 : Nat → Prop} (h : PAt wo w g S A c bs f b2 bp vc vb cs bds) (h2 : ∀ k, S2 k → k ≠ g ∧ k < wo.heap.size) (k : Nat) (hk : S2 k ∨ w.heap.size ≤ k) : (S2 k ∨ wo.heap.size ≤ k) ∧ k ≠ b2 ∧ k ≠ bp ∧ vc.ownBlock ≠ some k := by
  rcases hk with hk | hk
  · have := (h2 k hk).2
    have := h.n2
    have := h.np
    exact ⟨.inl hk, by omega, by omega, fun e => by have := (h.C.blk k e).1; omega⟩
  · obtain ⟨p1, p2, p3, p4⟩ := h.past hk
    exact ⟨.inr p1, p2, p3, p4⟩
theorem own3 {wo w w1 : World} {g : Nat} {S : Nat → Prop} {A : Option Addr} {c : Nat} {bs : List Int} {f b2 bp : Nat} {vc vb : Value} {cs : List Int} {bds : List (List Act)} {S2 : Nat → Prop} (h : PAt wo w g S A c bs f b2 bp vc vb cs bds) (hz : w.heap.size ≤ w1.heap.size) (k : Nat) (hk : w1.heap.size ≤ k) : (S2 k ∨ wo.heap.size ≤ k) ∧ k ≠ b2 ∧ k ≠ bp ∧ vc.ownBlock ≠ some k := by
  obtain ⟨p1, p2, p3, p4⟩ := h.past (Nat.le_trans hz hk)
  exact ⟨.inr p1, p2, p3, p4⟩
theorem Kd.hv_head {α : Type} {d : Kd α} {v : Value} (h1 : v.oneCell' = true) (Z : Nat → Prop) (w : World) (S : Nat → Prop) (x : List α) : (Kd.hv v h1 Z d).K w S (true, x) [v] := by
  show if (true, x).1 = true then [v] = [v] else (Kd.slice d).K w (fun k => S k ∧ ¬ Z k) x [v]
  rw [if_pos rfl]
theorem Kd.hv_tail {α : Type} {d : Kd α} {v : Value} (h1 : v.oneCell' = true) (Z : Nat → Prop) {w : World} {S : Nat → Prop} {x : List α} {A : Option Addr} {c : Nat} (h : Row d w S A x) (hz : ∀ k, S k → ¬ Z k) (hc : x.length ≤ c) : (Kd.hv v h1 Z d).K w S (false, x) [.slice A x.length c] := by
  show if (false, x).1 = true then [Value.slice A x.length c] = [v] else (Kd.slice d).K w (fun k => S k ∧ ¬ Z k) x [.slice A x.length c]
  rw [if_neg (by simp)]
  exact ⟨A, c, rfl, hc, h.mono fun k hk => ⟨hk, hz k hk⟩⟩
section
variable {P : Nat → Prop} {wo w w' w0 : World} {g : Nat} {S S2 : Nat → Prop} {A : Option Addr} {c : Nat} {bs : List Int} {f f' b2 bp gb cab : Nat} {vc v0 v' : Value} {cs cs' : List Int} {a0 : List Act} {rest : List (List Act)} {A0 : Option Addr} {n0 c0 : Nat}
theorem BAt.rpB (h : BAt P wo w g S A c bs f b2 bp gb cab vc v0 cs a0 rest) (hg : w.grownBy w' (some gb)) : w'.heap[bp]? = some (.cells #[vc, .slice (some ⟨gb, 0, none⟩) (rest.length + 1) cab] 26 (0, 0)) :=
  (Keep.of_grown hg (T := fun k => gb = k) fun k hk => by injection hk).blk h.rp (fun hk => h.gbs.2.2.2.1 hk)
theorem BAt.rpC (h : BAt P wo w g S A c bs f b2 bp gb cab vc v0 cs a0 rest) (hg : w.grownBy w' vc.ownBlock) : w'.heap[bp]? = some (.cells #[vc, .slice (some ⟨gb, 0, none⟩) (rest.length + 1) cab] 26 (0, 0)) :=
  (Keep.of_grown hg (T := fun k => vc.ownBlock = some k) fun k hk => hk).blk h.rp (fun hk => (h.nc _ hk).2 rfl)
theorem BAt.p0 (h : BAt P wo w g S A c bs f b2 bp gb cab vc v0 cs a0 rest) : w.cell? ⟨bp, 0, none⟩ = some vc := by rw [cell_of_row _ _ 0 _ _ _ h.rp]; rfl
theorem BAt.p1 (h : BAt P wo w g S A c bs f b2 bp gb cab vc v0 cs a0 rest) : w.cell? ⟨bp, 1, none⟩ = some (.slice (some ⟨gb, 0, none⟩) (rest.length + 1) cab) := by rw [cell_of_row _ _ 1 _ _ _ h.rp]; rfl
theorem BAt.gfz (h : BAt P wo w g S A c bs f b2 bp gb cab vc v0 cs a0 rest) : w.frozen? ⟨gb, 0, none⟩ = false := by
  have hB := h.B
  obtain ⟨c, _, _, hf⟩ := Own.cellAt (xs := (true, a0) :: rest.map fun x => (false, x)) (cap := cab) (g := gb) (by simpa using hB) (j := 0) (by simp)
  simpa using hf 0
theorem BAt.HO (h : BAt P wo w g S A c bs f b2 bp gb cab vc (.slice A0 n0 c0) cs a0 rest) : Own (Kd.hv (.slice A0 n0 c0) rfl (fun k => (Value.slice A0 n0 c0).ownBlock = some k) kAct) 31 w wo.heap.size (fun k => P k ∧ k ≠ b2 ∧ k ≠ bp ∧ vc.ownBlock ≠ some k) (.slice (some ⟨gb, 0, none⟩) (rest.length + 1) cab) ((true, a0) :: rest.map fun x => (false, x)) :=
  Own.strong h.B (fun y hy => by simp at hy; obtain ⟨_, _, rfl⟩ := hy; rfl) h.c0
/-- One more body. -/
theorem BAt.grow1 (h : BAt P wo w g S A c bs f b2 bp gb cab vc (.slice A0 n0 c0) cs a0 rest) {x : List Act} {S3 : Nat → Prop} (hg : w.grownBy w' (some gb))
    (ho : Own (Kd.hv (.slice A0 n0 c0) rfl (fun k => (Value.slice A0 n0 c0).ownBlock = some k) kAct) 31 w' wo.heap.size S3 v' (((true, a0) :: rest.map fun x => (false, x)) ++ [(false, x)])) (hS : ∀ k, S3 k → P k ∧ k ≠ b2 ∧ k ≠ bp ∧ vc.ownBlock ≠ some k)
    (hat : v'.ownBlock = some gb ∨ v'.ownBlock = some w.heap.size) :
    ∃ gb' cab', v' = .slice (some ⟨gb', 0, none⟩) (rest.length + 1 + 1) cab' ∧ BAt P wo (w'.setCell ⟨bp, 1, none⟩ v') g S A c bs f b2 bp gb' cab' vc (.slice A0 n0 c0) cs a0 (rest ++ [x]) := by
  have := h.grow (ys := [x]) hg ?_ hat
  · simpa using this
  have e : ((true, a0) :: rest.map fun x => (false, x)) ++ [(false, x)] = (true, a0) :: (rest ++ [x]).map fun x => (false, x) := by simp
  rw [← e]
  exact ho.mono hS
/-- Where a new body's row lies. -/
theorem BAt.spot (h : BAt (fun k => S2 k ∨ wo.heap.size ≤ k) wo w g S A c bs f b2 bp gb cab vc v0 cs a0 rest) (h2 : ∀ k, S2 k → k ≠ g ∧ k < wo.heap.size) {k : Nat} (hk : S2 k ∨ w.heap.size ≤ k) : ((S2 k ∨ wo.heap.size ≤ k) ∧ k ≠ b2 ∧ k ≠ bp ∧ vc.ownBlock ≠ some k) ∧ ¬ v0.ownBlock = some k ∧ k ≠ gb := by
  rcases hk with hk | hk
  · have := (h2 k hk).2
    have := h.n2
    have := h.np
    have := h.gbs.1
    exact ⟨⟨.inl hk, by omega, by omega, fun e => by have := (h.C.blk k e).1; omega⟩, fun e => by have := (h.O.blk k e).1; omega, by omega⟩
  · obtain ⟨p1, p2, p3, p4, p5⟩ := h.past hk
    exact ⟨⟨p1, p2, p3, p4⟩, fun e => by have := (h.O.blk k e).2.1; omega, p5⟩
end
end Go.Proofs.Ytehgiijpmldiiaa
