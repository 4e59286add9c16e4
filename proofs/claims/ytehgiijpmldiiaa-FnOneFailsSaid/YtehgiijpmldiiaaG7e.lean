/- Draws: a program is bent: one more act in the first body. -/
import Derived.Test.YtehgiijpmldiiaaG7d
namespace Go.Proofs.Ytehgiijpmldiiaa
open Go.RowKit
set_option linter.unusedVariables false
set_option linter.unusedSimpArgs false

section
variable {P : Nat → Prop} {wo w w' w0 : World} {g : Nat} {S S2 S3 : Nat → Prop} {A : Option Addr} {c : Nat} {bs : List Int} {f f' b2 bp gb cab : Nat} {vc v0 v' : Value} {cs cs' : List Int} {a0 : List Act} {rest : List (List Act)} {A0 : Option Addr} {n0 c0 : Nat}
theorem BAt.v0ne (h : BAt P wo w g S A c bs f b2 bp gb cab vc v0 cs a0 rest) : v0.ownBlock ≠ some gb ∧ v0.ownBlock ≠ some bp := ⟨fun e => (h.O.blk _ e).2.2.2.2.2.2 rfl, fun e => (h.O.blk _ e).2.2.2.2.1 rfl⟩
theorem BAt.appFacts (h : BAt P wo w g S A c bs f b2 bp gb cab vc v0 cs a0 rest) (hg : w.grownBy w' v0.ownBlock) :
    w'.cell? ⟨gb, 0, none⟩ = some v0 ∧ w'.frozen? ⟨gb, 0, none⟩ = false ∧ w'.cell? ⟨bp, 1, none⟩ = some (.slice (some ⟨gb, 0, none⟩) (rest.length + 1) cab) ∧ ∀ u, (w'.setCell ⟨gb, 0, none⟩ u).cell? ⟨bp, 1, none⟩ = some (.slice (some ⟨gb, 0, none⟩) (rest.length + 1) cab) := by
  have hk := Keep.of_grown (T := fun k => v0.ownBlock = some k) hg fun k hk => hk
  obtain ⟨g1, g2, g3, g4, g5⟩ := h.gbs
  obtain ⟨n1, n2⟩ := h.v0ne
  have e1 := (hk.cell (p := ⟨bp, 1, none⟩) h.lts.2.1 n2).trans h.p1
  exact ⟨(hk.cell (p := ⟨gb, 0, none⟩) g2 n1).trans h.c0, (hk.frozen (p := ⟨gb, 0, none⟩) g2 n1).trans h.gfz, e1, fun u => (World.cell?_setCell_far w' ⟨gb, 0, none⟩ ⟨bp, 1, none⟩ u g4).trans e1⟩
theorem BAt.app1 (h : BAt P wo w g S A c bs f b2 bp gb cab vc v0 cs a0 rest) {x : Act} (hg : w.grownBy w' v0.ownBlock) (hv : v'.ownBlock = v0.ownBlock ∨ v'.ownBlock = some w.heap.size)
    (ho : Own kAct 34 w' wo.heap.size (fun k => (P k ∧ k ≠ b2 ∧ k ≠ bp ∧ vc.ownBlock ≠ some k ∧ k ≠ gb) ∨ S3 k ∨ k = w.heap.size) v' (a0 ++ [x])) (hS : ∀ k, S3 k → P k ∧ k ≠ b2 ∧ k ≠ bp ∧ vc.ownBlock ≠ some k ∧ k ≠ gb) : BAt P wo (w'.setCell ⟨gb, 0, none⟩ v') g S A c bs f b2 bp gb cab vc v' cs (a0 ++ [x]) rest :=
  h.app0 hg hv (ho.mono fun k hk => by
    rcases hk with hk | hk | hk
    · exact hk
    · exact hS k hk
    · exact h.past (by omega))
/-- A row of new memory is far from the first body's own row. -/
theorem BAt.farO (h : BAt P wo w g S A c bs f b2 bp gb cab vc v0 cs a0 rest) {k : Nat} (hk : w.heap.size ≤ k) : some k ≠ v0.ownBlock := fun e => by have := (h.O.blk k e.symm).2.1; omega
theorem BAt.ends (h : BAt P wo w g S A c bs f b2 bp gb cab vc v0 cs a0 rest) : w.cell? ⟨bp, 0, none⟩ = some vc ∧ w.cell? ⟨bp, 1, none⟩ = some (.slice (some ⟨gb, 0, none⟩) (rest.length + 1) cab) ∧ w.cell? ⟨b2, 0, none⟩ = some (.slice none 0 0) ∧ w.cell? ⟨b2, 1, none⟩ = some (.slice none 0 0) ∧ ∀ i, w.frozen? ⟨b2, i, none⟩ = false :=
  ⟨h.p0, h.p1, by rw [cell_of_row _ _ 0 _ _ _ h.r2]; rfl, by rw [cell_of_row _ _ 1 _ _ _ h.r2]; rfl, fun i => frozen_of_row h.r2 i⟩
theorem BAt.four (h : BAt P wo w g S A c bs f b2 bp gb cab vc v0 cs a0 rest) {row : Option Nat} (hg : w.grownBy w' row) (h1 : row ≠ some bp) (h2 : row ≠ some b2) : w'.cell? ⟨bp, 0, none⟩ = some vc ∧ w'.cell? ⟨bp, 1, none⟩ = some (.slice (some ⟨gb, 0, none⟩) (rest.length + 1) cab) ∧ (∀ i, w'.frozen? ⟨bp, i, none⟩ = false) ∧ w'.cell? ⟨b2, 0, none⟩ = some (.slice none 0 0) ∧ w'.cell? ⟨b2, 1, none⟩ = some (.slice none 0 0) ∧ ∀ i, w'.frozen? ⟨b2, i, none⟩ = false := by
  have hk := Keep.of_grown (T := fun k => row = some k) hg fun k hk => hk
  have hp := hk.blk h.rp h1
  have h2 := hk.blk h.r2 h2
  refine ⟨?_, ?_, fun i => frozen_of_row hp i, ?_, ?_, fun i => frozen_of_row h2 i⟩
  · rw [cell_of_row _ _ 0 _ _ _ hp]; rfl
  · rw [cell_of_row _ _ 1 _ _ _ hp]; rfl
  · rw [cell_of_row _ _ 0 _ _ _ h2]; rfl
  · rw [cell_of_row _ _ 1 _ _ _ h2]; rfl
theorem BAt.fourS (h : BAt P wo w g S A c bs f b2 bp gb cab vc v0 cs a0 rest) {row : Option Nat} (hg : w.grownBy w' row) (h1 : row ≠ some bp) (h2 : row ≠ some b2) (i : Nat) : (∀ u, (w'.setCell ⟨bp, i, none⟩ u).cell? ⟨b2, 0, none⟩ = some (.slice none 0 0)) ∧ (∀ u, (w'.setCell ⟨bp, i, none⟩ u).cell? ⟨b2, 1, none⟩ = some (.slice none 0 0)) ∧ ∀ u j, (w'.setCell ⟨bp, i, none⟩ u).frozen? ⟨b2, j, none⟩ = false := by
  obtain ⟨_, _, _, e1, e2, e3⟩ := h.four hg h1 h2
  have hn : (⟨bp, i, none⟩ : Addr).block ≠ b2 := fun e => h.n2p e.symm
  have hk : ∀ u, Keep (fun k => k = bp) w' (w'.setCell ⟨bp, i, none⟩ u) := fun u => Keep.setCell (T := fun k => k = bp) (p := ⟨bp, i, none⟩) (Keep.refl _ _) (fun _ => rfl) _
  have hl : b2 < w'.heap.size := Nat.lt_of_lt_of_le h.lts.1 hg.size
  exact ⟨fun u => ((hk u).cell (p := ⟨b2, 0, none⟩) hl (fun e => hn e.symm)).trans e1, fun u => ((hk u).cell (p := ⟨b2, 1, none⟩) hl (fun e => hn e.symm)).trans e2, fun u j => ((hk u).frozen (p := ⟨b2, j, none⟩) hl (fun e => hn e.symm)).trans (e3 j)⟩
theorem BAt.gbne (h : BAt P wo w g S A c bs f b2 bp gb cab vc v0 cs a0 rest) : (some gb ≠ some bp ∧ some gb ≠ some b2) ∧ (vc.ownBlock ≠ some bp ∧ vc.ownBlock ≠ some b2) ∧ (v0.ownBlock ≠ some bp ∧ v0.ownBlock ≠ some b2) := by
  obtain ⟨g1, g2, g3, g4, g5⟩ := h.gbs
  exact ⟨⟨fun e => g4 (by injection e), fun e => g3 (by injection e)⟩, ⟨fun e => (h.nc _ e).2 rfl, fun e => (h.nc _ e).1 rfl⟩, ⟨fun e => (h.O.blk _ e).2.2.2.2.1 rfl, fun e => (h.O.blk _ e).2.2.2.1 rfl⟩⟩
/-- What stays where a cell of another block is stored to. -/
theorem BAt.farS (h : BAt P wo w g S A c bs f b2 bp gb cab vc v0 cs a0 rest) {row : Option Nat} (hg : w.grownBy w' row) (h1 : row ≠ some bp) (h2 : row ≠ some b2) (q : Nat) (n1 : q ≠ bp) (n2 : q ≠ b2) : (∀ u, (w'.setCell ⟨q, 0, none⟩ u).cell? ⟨bp, 0, none⟩ = some vc) ∧ (∀ u, (w'.setCell ⟨q, 0, none⟩ u).cell? ⟨bp, 1, none⟩ = some (.slice (some ⟨gb, 0, none⟩) (rest.length + 1) cab)) ∧ (∀ u, (w'.setCell ⟨q, 0, none⟩ u).cell? ⟨b2, 0, none⟩ = some (.slice none 0 0)) ∧ (∀ u, (w'.setCell ⟨q, 0, none⟩ u).cell? ⟨b2, 1, none⟩ = some (.slice none 0 0)) ∧ ∀ u j, (w'.setCell ⟨q, 0, none⟩ u).frozen? ⟨b2, j, none⟩ = false := by
  obtain ⟨p0, p1, _, e1, e2, e3⟩ := h.four hg h1 h2
  have hk : ∀ u, Keep (fun k => k = q) w' (w'.setCell ⟨q, 0, none⟩ u) := fun u => Keep.setCell (T := fun k => k = q) (p := ⟨q, 0, none⟩) (Keep.refl _ _) (fun _ => rfl) _
  have hl : b2 < w'.heap.size := Nat.lt_of_lt_of_le h.lts.1 hg.size
  have hlp : bp < w'.heap.size := Nat.lt_of_lt_of_le h.lts.2.1 hg.size
  exact ⟨fun u => ((hk u).cell (p := ⟨bp, 0, none⟩) hlp (fun e => n1 e.symm)).trans p0, fun u => ((hk u).cell (p := ⟨bp, 1, none⟩) hlp (fun e => n1 e.symm)).trans p1, fun u => ((hk u).cell (p := ⟨b2, 0, none⟩) hl (fun e => n2 e.symm)).trans e1, fun u => ((hk u).cell (p := ⟨b2, 1, none⟩) hl (fun e => n2 e.symm)).trans e2, fun u j => ((hk u).frozen (p := ⟨b2, j, none⟩) hl (fun e => n2 e.symm)).trans (e3 j)⟩
theorem BAt.farA (h : BAt P wo w g S A c bs f b2 bp gb cab vc v0 cs a0 rest) (q : Nat) (n1 : q ≠ bp) (n2 : q ≠ b2) : (∀ u o, ((w.setCell ⟨q, 0, none⟩ u).alloc o).cell? ⟨bp, 0, none⟩ = some vc) ∧ (∀ u o, ((w.setCell ⟨q, 0, none⟩ u).alloc o).cell? ⟨bp, 1, none⟩ = some (.slice (some ⟨gb, 0, none⟩) (rest.length + 1) cab)) ∧ (∀ u o, ((w.setCell ⟨q, 0, none⟩ u).alloc o).cell? ⟨b2, 0, none⟩ = some (.slice none 0 0)) ∧ (∀ u o, ((w.setCell ⟨q, 0, none⟩ u).alloc o).cell? ⟨b2, 1, none⟩ = some (.slice none 0 0)) ∧ ∀ u o j, ((w.setCell ⟨q, 0, none⟩ u).alloc o).frozen? ⟨b2, j, none⟩ = false := by
  obtain ⟨p0, p1, p2, p3, p4⟩ := h.farS (grown_refl w none) (by simp) (by simp) q n1 n2
  obtain ⟨hl, hlp, _⟩ := h.lts
  have hb : ∀ u o, Below w.heap.size (w.setCell ⟨q, 0, none⟩ u) ((w.setCell ⟨q, 0, none⟩ u).alloc o) := fun u o => (Below.refl _ _).alloc (by simp) o
  exact ⟨fun u o => ((hb u o).cell (p := ⟨bp, 0, none⟩) hlp).trans (p0 u), fun u o => ((hb u o).cell (p := ⟨bp, 1, none⟩) hlp).trans (p1 u), fun u o => ((hb u o).cell (p := ⟨b2, 0, none⟩) hl).trans (p2 u), fun u o => ((hb u o).cell (p := ⟨b2, 1, none⟩) hl).trans (p3 u), fun u o j => ((hb u o).frozen (p := ⟨b2, j, none⟩) hl).trans (p4 u j)⟩
theorem BAt.appEnds (h : BAt P wo w g S A c bs f b2 bp gb cab vc v0 cs a0 rest) (hg : w.grownBy w' v0.ownBlock) : (∀ u, (w'.setCell ⟨gb, 0, none⟩ u).cell? ⟨bp, 0, none⟩ = some vc) ∧ (∀ u, (w'.setCell ⟨gb, 0, none⟩ u).cell? ⟨bp, 1, none⟩ = some (.slice (some ⟨gb, 0, none⟩) (rest.length + 1) cab)) ∧ (∀ u, (w'.setCell ⟨gb, 0, none⟩ u).cell? ⟨b2, 0, none⟩ = some (.slice none 0 0)) ∧ (∀ u, (w'.setCell ⟨gb, 0, none⟩ u).cell? ⟨b2, 1, none⟩ = some (.slice none 0 0)) ∧ ∀ u j, (w'.setCell ⟨gb, 0, none⟩ u).frozen? ⟨b2, j, none⟩ = false := h.farS hg h.gbne.2.2.1 h.gbne.2.2.2 gb h.gbs.2.2.2.1 h.gbs.2.2.1
/-- Three bodies of nothing. -/
theorem BAt.grow3 (h : BAt P wo w g S A c bs f b2 bp gb cab vc (.slice A0 n0 c0) cs a0 rest) (hg : w.grownBy w' (some gb))
    (ho : Own (Kd.hv (.slice A0 n0 c0) rfl (fun k => (Value.slice A0 n0 c0).ownBlock = some k) kAct) 31 w' wo.heap.size S3 v' (((true, a0) :: rest.map fun x => (false, x)) ++ [(false, []), (false, []), (false, [])])) (hS : ∀ k, S3 k → P k ∧ k ≠ b2 ∧ k ≠ bp ∧ vc.ownBlock ≠ some k)
    (hat : v'.ownBlock = some gb ∨ v'.ownBlock = some w.heap.size) :
    ∃ gb' cab', v' = .slice (some ⟨gb', 0, none⟩) (rest.length + 3 + 1) cab' ∧ BAt P wo (w'.setCell ⟨bp, 1, none⟩ v') g S A c bs f b2 bp gb' cab' vc (.slice A0 n0 c0) cs a0 (rest ++ [[], [], []]) := by
  have := h.grow (ys := [[], [], []]) hg ?_ hat
  · simpa using this
  have e : ((true, a0) :: rest.map fun x => (false, x)) ++ [(false, []), (false, []), (false, [])] = (true, a0) :: (rest ++ [[], [], []]).map fun x => (false, x) := by simp
  rw [← e]
  exact ho.mono hS
end
theorem Row.drew1 {α : Type} {d : Kd α} {w : World} {S : Nat → Prop} {A : Option Addr} {xs : List α} (h : Row d w S A xs) : Row d w.drew S A xs := Row.move (w := w) (w' := w.drew) (fun _ _ => rfl) h
theorem nums2 {w : World} {b : Nat} {t : TypeId} (h : w.heap[b]? = some (.cells #[.int .i64 (-1), .int .i64 100] t (0, 0))) (j : Nat) (hj : j < 2) : ∃ y : Int, w.cell? ⟨b, j, none⟩ = some (.int .i64 y) ∧ isI y := by
  rw [cell_of_row _ _ j _ _ _ h]
  match j, hj with
  | 0, _ => exact ⟨-1, rfl, by omega, by omega⟩
  | 1, _ => exact ⟨100, rfl, by omega, by omega⟩
theorem nums2_new (w : World) (j : Nat) (hj : j < 2) : ∃ y : Int, (w.alloc (.cells #[.int .i64 (-1), .int .i64 100] 3)).cell? ⟨w.heap.size, j, none⟩ = some (.int .i64 y) ∧ isI y := nums2 (heap_alloc_new w _) j hj
theorem row3z {w : World} {e : Nat} : Row Kd.int (w.alloc (.cells #[.int .i64 0, .int .i64 0, .int .i64 0] e)) (fun k => k = w.heap.size) (some ⟨w.heap.size, 0, none⟩) [0, 0, 0] := by
  refine Row.inBlock (heap_alloc_new w _) rfl (by simp) fun j z hj => ?_
  match j with
  | 0 | 1 | 2 => injection hj with hj; subst hj; refine ⟨_, ⟨rfl, by omega, by omega⟩, fun i u hu => ?_⟩; match i with | 0 => exact hu | i + 1 => simp at hu
  | j + 3 => simp at hj
theorem row_none3 {w : World} {S : Nat → Prop} {b e : Nat} {v : Value} (h1 : v.oneCell' = true) {Z : Nat → Prop} {A1 A2 A3 : Option Addr} (hb : w.heap[b]? = some (.cells #[.slice A1 0 0, .slice A2 0 0, .slice A3 0 0] e (0, 0))) (hs : S b) (hz : ∀ k, S k → ¬ Z k) :
    Row (Kd.hv v h1 Z kAct) w S (some ⟨b, 0, none⟩) [(false, []), (false, []), (false, [])] := by
  refine Row.inBlock hb hs (by simp) fun j z hj => ?_
  match j with
  | 0 => injection hj with hj; subst hj; refine ⟨_, Kd.hv_tail (x := []) (A := A1) (c := 0) h1 Z (Row.nil _ _ _ _) hz (Nat.le_refl _), fun i u hu => ?_⟩; match i with | 0 => exact hu | i + 1 => simp at hu
  | 1 => injection hj with hj; subst hj; refine ⟨_, Kd.hv_tail (x := []) (A := A2) (c := 0) h1 Z (Row.nil _ _ _ _) hz (Nat.le_refl _), fun i u hu => ?_⟩; match i with | 0 => exact hu | i + 1 => simp at hu
  | 2 => injection hj with hj; subst hj; refine ⟨_, Kd.hv_tail (x := []) (A := A3) (c := 0) h1 Z (Row.nil _ _ _ _) hz (Nat.le_refl _), fun i u hu => ?_⟩; match i with | 0 => exact hu | i + 1 => simp at hu
  | j + 3 => simp at hj
end Go.Proofs.Ytehgiijpmldiiaa
