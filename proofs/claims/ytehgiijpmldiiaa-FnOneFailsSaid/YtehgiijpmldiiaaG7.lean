/- Draws: a program is bent: the state, and what the cases do to it. -/
import Derived.Test.YtehgiijpmldiiaaG6
namespace Go.Proofs.Ytehgiijpmldiiaa
open Go.RowKit
set_option linter.unusedVariables false
set_option linter.unusedSimpArgs false

theorem Own.hdStep {α : Type} {d : Kd α} {e : Nat} {w w' : World} {B : Nat} {S Z : Nat → Prop} {v : Value} {xs : List (Bool × List α)} (h : Own (Kd.hd Z d) e w B S v xs) (hm : ∀ k, (v.ownBlock = some k ∨ S k ∧ ¬ Z k) → k < w.heap.size → w'.heap[k]? = w.heap[k]?) : Own (Kd.hd Z d) e w' B S v xs := by
  have hb := h.blk
  obtain ⟨css, h1, h2, h3, h4⟩ := h
  refine own_intro css (owns_move h1 (fun k hk => hm k (.inl hk) (hb k hk).2.1)) h2 h3 fun j x hj => ?_
  obtain ⟨c, hc, hk⟩ := h4 j x hj
  refine ⟨c, hc, ?_⟩
  have hk : if x.1 = true then ∃ A n c', c = [.slice A n c'] else (Kd.slice d).K w (fun k => (S k ∧ some k ≠ v.ownBlock) ∧ ¬ Z k) x.2 c := hk
  show if x.1 = true then ∃ A n c', c = [.slice A n c'] else (Kd.slice d).K w' (fun k => (S k ∧ some k ≠ v.ownBlock) ∧ ¬ Z k) x.2 c
  split at hk
  · rename_i hx; rw [if_pos hx]; exact hk
  · rename_i hx; rw [if_neg hx]; exact Kd.step hk fun k hs hl => hm k (.inr ⟨hs.1.1, hs.2⟩) hl

/-- A program at block bp: its first body is a row of the call's own; all of it lies in P, but b2, the answer's block. -/
structure BAt (P : Nat → Prop) (wo w : World) (g : Nat) (S : Nat → Prop) (A : Option Addr) (c : Nat) (bs : List Int) (f b2 bp gb cab : Nat) (vc v0 : Value) (cs : List Int) (a0 : List Act) (rest : List (List Act)) : Prop where
  R : RdAt w g S A c bs f
  k : Keep (fun k => k = g) wo w
  r2 : w.heap[b2]? = some (.cells #[.slice none 0 0, .slice none 0 0] 26 (0, 0))
  rp : w.heap[bp]? = some (.cells #[vc, .slice (some ⟨gb, 0, none⟩) (rest.length + 1) cab] 26 (0, 0))
  C : OwnI 3 w wo.heap.size vc cs
  B : Own (Kd.hd (fun k => v0.ownBlock = some k) kAct) 31 w wo.heap.size (fun k => P k ∧ k ≠ b2 ∧ k ≠ bp ∧ vc.ownBlock ≠ some k) (.slice (some ⟨gb, 0, none⟩) (rest.length + 1) cab) ((true, a0) :: rest.map fun x => (false, x))
  O : Own kAct 34 w wo.heap.size (fun k => P k ∧ k ≠ b2 ∧ k ≠ bp ∧ vc.ownBlock ≠ some k ∧ k ≠ gb) v0 a0
  c0 : w.cell? ⟨gb, 0, none⟩ = some v0
  pg : ¬ P g
  pn : ∀ k, wo.heap.size ≤ k → P k
  n2 : wo.heap.size ≤ b2
  np : wo.heap.size ≤ bp
  n2p : b2 ≠ bp
  nc : ∀ k, vc.ownBlock = some k → k ≠ b2 ∧ k ≠ bp
  gl : g < wo.heap.size
section
variable {P : Nat → Prop} {wo w w' : World} {g : Nat} {S : Nat → Prop} {A : Option Addr} {c : Nat} {bs : List Int} {f f' b2 bp gb cab : Nat} {vc v0 v' : Value} {cs cs' : List Int} {a0 a1 : List Act} {rest : List (List Act)}
theorem BAt.less (h : BAt P wo w g S A c bs f b2 bp gb cab vc v0 cs a0 rest) (hf : f' ≤ f) : BAt P wo w g S A c bs f' b2 bp gb cab vc v0 cs a0 rest := { h with R := h.R.less hf }
theorem BAt.gbs (h : BAt P wo w g S A c bs f b2 bp gb cab vc v0 cs a0 rest) : wo.heap.size ≤ gb ∧ gb < w.heap.size ∧ gb ≠ b2 ∧ gb ≠ bp ∧ vc.ownBlock ≠ some gb := by
  obtain ⟨h1, h2, _, h3, h4, h5⟩ := h.B.blk gb rfl
  exact ⟨h1, h2, h3, h4, h5⟩
theorem BAt.pick (h : BAt P wo w g S A c bs f b2 bp gb cab vc v0 cs a0 rest) (hR : RdAt w' g S A c bs f') (hk : Keep (fun k => k = g) w w') : BAt P wo w' g S A c bs f' b2 bp gb cab vc v0 cs a0 rest := by
  have hn : ∀ k, wo.heap.size ≤ k → ¬ k = g := fun k hk => by have := h.gl; omega
  have hp : ∀ k, P k → ¬ k = g := fun k hk e => h.pg (e ▸ hk)
  obtain ⟨g1, g2, _⟩ := h.gbs
  exact ⟨hR, h.k.trans hk, hk.blk h.r2 (hn _ h.n2), hk.blk h.rp (hn _ h.np), h.C.keep hk (fun k hc => hn k (h.C.blk k hc).1), h.B.step (fun k hs hl => hk.block k hl (hp k hs.1)), h.O.step (fun k hs hl => hk.block k hl (hp k hs.1)),
    (hk.cell (p := ⟨gb, 0, none⟩) g2 (hn _ g1)).trans h.c0, h.pg, h.pn, h.n2, h.np, h.n2p, h.nc, h.gl⟩
theorem BAt.below (h : BAt P wo w g S A c bs f b2 bp gb cab vc v0 cs a0 rest) (hk : Below w.heap.size w w') : BAt P wo w' g S A c bs f b2 bp gb cab vc v0 cs a0 rest := h.pick (h.R.below hk) (Keep.of_belowAll _ hk)
theorem BAt.al (h : BAt P wo w g S A c bs f b2 bp gb cab vc v0 cs a0 rest) (o : Obj) : BAt P wo (w.alloc o) g S A c bs f b2 bp gb cab vc v0 cs a0 rest := h.below ((Below.refl _ _).alloc (Nat.le_refl _) _)
theorem BAt.lts (h : BAt P wo w g S A c bs f b2 bp gb cab vc v0 cs a0 rest) : b2 < w.heap.size ∧ bp < w.heap.size ∧ (∀ k, vc.ownBlock = some k → k < w.heap.size) ∧ (∀ k, v0.ownBlock = some k → k < w.heap.size) ∧ gb < w.heap.size :=
  ⟨(Array.getElem?_eq_some_iff.1 h.r2).1, (Array.getElem?_eq_some_iff.1 h.rp).1, fun k hk => (h.C.blk k hk).2, fun k hk => (h.O.blk k hk).2.1, h.gbs.2.1⟩
theorem BAt.past (h : BAt P wo w g S A c bs f b2 bp gb cab vc v0 cs a0 rest) {k : Nat} (hk : w.heap.size ≤ k) : P k ∧ k ≠ b2 ∧ k ≠ bp ∧ vc.ownBlock ≠ some k ∧ k ≠ gb := by
  obtain ⟨h1, h2, h3, _, h5⟩ := h.lts
  have h4 := h.n2
  exact ⟨h.pn k (by omega), by omega, by omega, fun e => by have := h3 k e; omega, by omega⟩
/-- The first body grows. -/
theorem BAt.app0 (h : BAt P wo w g S A c bs f b2 bp gb cab vc v0 cs a0 rest) (hg : w.grownBy w' v0.ownBlock) (hv : v'.ownBlock = v0.ownBlock ∨ v'.ownBlock = some w.heap.size)
    (ho : Own kAct 34 w' wo.heap.size (fun k => P k ∧ k ≠ b2 ∧ k ≠ bp ∧ vc.ownBlock ≠ some k ∧ k ≠ gb) v' a1) : BAt P wo (w'.setCell ⟨gb, 0, none⟩ v') g S A c bs f b2 bp gb cab vc v' cs a1 rest := by
  have h0 := fun k hk => (h.O.blk k hk)
  obtain ⟨g1, g2, g3, g4, g5⟩ := h.gbs
  have hgl := h.gl
  have hk1 : Keep (fun k => v0.ownBlock = some k) w w' := Keep.of_grown hg fun k hk => hk
  have hk2 : Keep (fun k => v0.ownBlock = some k ∨ k = gb) w (w'.setCell ⟨gb, 0, none⟩ v') := (hk1.mono (fun k hk => .inl hk)).setCell (p := ⟨gb, 0, none⟩) (fun _ => .inr rfl) _
  have hc0' : w'.cell? ⟨gb, 0, none⟩ = some v0 := (hk1.cell (p := ⟨gb, 0, none⟩) g2 (fun hk => (h0 _ hk).2.2.2.2.2.2 rfl)).trans h.c0
  have hB1 : Own (Kd.hd (fun k => v'.ownBlock = some k) kAct) 31 w' wo.heap.size (fun k => P k ∧ k ≠ b2 ∧ k ≠ bp ∧ vc.ownBlock ≠ some k) (.slice (some ⟨gb, 0, none⟩) (rest.length + 1) cab) ((true, a0) :: rest.map fun x => (false, x)) := by
    refine ((h.B.bound.hdStep (w' := w') fun k hk hl => hk1.block k hl fun e => ?_).reZ fun k hs hz => ?_).mono fun k hk => hk.1
    · rcases hk with hk | hk
      · simp [Value.ownBlock] at hk
        exact (h0 k e).2.2.2.2.2.2 hk.symm
      · exact hk.2 e
    · rcases hv with e | e
      · rw [← e]; exact hz
      · rw [e] at hz; injection hz with hz; omega
  have hB2 := Own.setAt (j := 0) (i := 0) (xs := (true, a0) :: rest.map fun x => (false, x)) (cap := cab) (g := gb) (by simpa using hB1) (by simp) (by rw [Kd.hd_sz]; omega) v' (true, a1) (fun c hc => by
    obtain ⟨A1, n1, rfl, _⟩ := ho.row
    have hc : ∃ A n c', c = [.slice A n c'] := hc
    obtain ⟨_, _, _, rfl⟩ := hc
    exact ⟨_, _, _, rfl⟩)
  simp only [Kd.hd_sz, Nat.zero_mul, Nat.add_zero, List.set_cons_zero, List.length_cons, List.length_map] at hB2
  refine ⟨h.R.keep hk2 (fun hk => ?_) (fun k hs _ hk => ?_), h.k.then_ hk2 (fun i hi hk => ?_), hk2.blk h.r2 (fun hk => ?_), hk2.blk h.rp (fun hk => ?_), h.C.keep hk2 (fun k hk hT => ?_), hB2, ho.step (fun k hs hl => Below.heap_setCell w' _ _ k hs.2.2.2.2),
    World.cell?_setCell_same _ _ _ hc0', h.pg, h.pn, h.n2, h.np, h.n2p, h.nc, hgl⟩
  · rcases hk with hk | hk
    · have := (h0 _ hk).1; omega
    · omega
  · have := h.R.ne k hs
    rcases hk with hk | hk
    · have := (h0 _ hk).1; omega
    · omega
  · rcases hk with hk | hk
    · have := (h0 _ hk).1; omega
    · omega
  · rcases hk with hk | hk
    · exact (h0 _ hk).2.2.2.1 rfl
    · exact g3 hk.symm
  · rcases hk with hk | hk
    · exact (h0 _ hk).2.2.2.2.1 rfl
    · exact g4 hk.symm
  · rcases hT with hT | hT
    · exact (h0 _ hT).2.2.2.2.2.1 hk
    · exact g5 (by rw [← hT]; exact hk)
end
end Go.Proofs.Ytehgiijpmldiiaa
