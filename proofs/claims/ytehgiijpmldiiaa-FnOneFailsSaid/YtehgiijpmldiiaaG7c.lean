/- Draws: a program is bent: its cells, and how it is handed back. -/
import Derived.Test.YtehgiijpmldiiaaG7b
namespace Go.Proofs.Ytehgiijpmldiiaa
open Go.RowKit
set_option linter.unusedVariables false
set_option linter.unusedSimpArgs false

section
variable {P : Nat → Prop} {wo w w' : World} {g : Nat} {S : Nat → Prop} {A : Option Addr} {c : Nat} {bs : List Int} {f b2 bp gb cab : Nat} {vc v0 v' : Value} {cs cs' : List Int} {a0 : List Act} {rest : List (List Act)}
/-- The row of cells turns. -/
theorem BAt.setC (h : BAt P wo w g S A c bs f b2 bp gb cab vc v0 cs a0 rest) (hg : w.grownBy w' vc.ownBlock) (hv : v'.ownBlock = vc.ownBlock ∨ v'.ownBlock = some w.heap.size) (ho : OwnI 3 w' wo.heap.size v' cs') :
    BAt P wo (w'.setCell ⟨bp, 0, none⟩ v') g S A c bs f b2 bp gb cab v' v0 cs' a0 rest := by
  obtain ⟨hl1, hl2, hl3, hl4, hl5⟩ := h.lts
  obtain ⟨g1, g2, g3, g4, g5⟩ := h.gbs
  have hvl := fun k hk => (h.C.blk k hk)
  have hgl := h.gl
  have hnp := h.np
  have hne : ∀ k, k < w.heap.size → vc.ownBlock ≠ some k → v'.ownBlock ≠ some k := fun k hk hn e => by
    rcases hv with e' | e'
    · exact hn (e'.symm.trans e)
    · rw [e'] at e; injection e with e; omega
  have hk1 : Keep (fun k => vc.ownBlock = some k) w w' := Keep.of_grown hg fun k hk => hk
  have hk2 : Keep (fun k => vc.ownBlock = some k ∨ k = bp) w (w'.setCell ⟨bp, 0, none⟩ v') := (hk1.mono (fun k hk => .inl hk)).setCell (fun _ => .inr rfl) _
  refine ⟨h.R.keep hk2 (fun hk => ?_) (fun k hs _ hk => ?_), h.k.then_ hk2 (fun i hi hk => ?_), hk2.blk h.r2 (fun hk => ?_), ?_, ho.far (fun k hk e => ?_) _,
    (h.B.bound.hdStep (w' := w'.setCell ⟨bp, 0, none⟩ v') (fun k hk hl => hk2.block k hl fun e => ?_)).mono (fun k hk => ⟨hk.1.1, hk.1.2.1, hk.1.2.2.1, hne k hk.2 hk.1.2.2.2⟩),
    (h.O.bound.step (w' := w'.setCell ⟨bp, 0, none⟩ v') (fun k hs hl => hk2.block k hl fun e => ?_)).mono (fun k hk => ⟨hk.1.1, hk.1.2.1, hk.1.2.2.1, hne k hk.2 hk.1.2.2.2.1, hk.1.2.2.2.2⟩), ?_, h.pg, h.pn, h.n2, hnp, h.n2p, (fun k hk => ?_), hgl⟩
  · rcases hk with hk | hk
    · have := hvl _ hk; omega
    · omega
  · have := h.R.ne k hs
    rcases hk with hk | hk
    · have := hvl _ hk; omega
    · omega
  · rcases hk with hk | hk
    · have := hvl _ hk; omega
    · omega
  · rcases hk with hk | hk
    · exact (h.nc _ hk).1 rfl
    · exact h.n2p hk
  · have := hk1.blk h.rp (fun hk => (h.nc _ hk).2 rfl)
    simp [World.setCell, Array.getElem?_modify, this]
  · rcases hv with e' | e'
    · exact (h.nc k (e'.symm.trans hk)).2 e
    · rw [e'] at hk; injection hk with hk
      have e : k = bp := e
      omega
  · rcases hk with hk | hk
    · simp [Value.ownBlock] at hk
      subst hk
      rcases e with e | e
      · exact g5 e
      · exact g4 e
    · rcases e with e | e
      · exact hk.1.1.2.2.2 e
      · exact hk.1.1.2.2.1 e
  · rcases e with e | e
    · exact hs.1.2.2.2.1 e
    · exact hs.1.2.2.1 e
  · exact (hk2.cell (p := ⟨gb, 0, none⟩) g2 (fun e => e.elim g5 g4)).trans h.c0
  · rcases hv with e' | e'
    · exact h.nc k (e'.symm.trans hk)
    · rw [e'] at hk; injection hk with hk; omega
/-- A cell turns. -/
theorem BAt.setC0 {gc cc : Nat} (h : BAt P wo w g S A c bs f b2 bp gb cab (.slice (some ⟨gc, 0, none⟩) cs.length cc) v0 cs a0 rest) (hc : 0 < cs.length) (x : Int) (hx : isI x) :
    BAt P wo (w.setCell ⟨gc, 0, none⟩ (.int .i64 x)) g S A c bs f b2 bp gb cab (.slice (some ⟨gc, 0, none⟩) (cs.set 0 x).length cc) v0 (cs.set 0 x) a0 rest := by
  obtain ⟨hl1, hl2, hl3, hl4, hl5⟩ := h.lts
  obtain ⟨g1, g2, g3, g4, g5⟩ := h.gbs
  have hvl := h.C.blk gc rfl
  have hn := h.nc gc rfl
  have hgl := h.gl
  have hk2 : Keep (fun k => k = gc) w (w.setCell ⟨gc, 0, none⟩ (.int .i64 x)) := Keep.setCell (T := fun k => k = gc) (p := ⟨gc, 0, none⟩) (Keep.refl _ _) (fun _ => rfl) _
  have g6 : gb ≠ gc := fun e => g5 (by rw [e]; rfl)
  have hC := h.C.set_ (j := 0) hc x hx
  rw [List.length_set]
  refine ⟨h.R.keep hk2 (by omega) (fun k hs _ hk => by have := h.R.ne k hs; omega), h.k.then_ hk2 (fun i hi hk => by omega), hk2.blk h.r2 (fun hk => hn.1 hk.symm), hk2.blk h.rp (fun hk => hn.2 hk.symm), hC, h.B.hdStep (fun k hk hl => hk2.block k hl fun e => ?_), h.O.step (fun k hs hl => hk2.block k hl fun e => ?_),
    (hk2.cell (p := ⟨gb, 0, none⟩) g2 g6).trans h.c0, h.pg, h.pn, h.n2, h.np, h.n2p, h.nc, hgl⟩
  · rcases hk with hk | hk
    · simp [Value.ownBlock] at hk; omega
    · exact hk.1.2.2.2 (by rw [e]; rfl)
  · exact hs.2.2.2.1 (by rw [e]; rfl)
/-- What a bent program is: rows that lie in P. -/
def BentIn (P : Nat → Prop) (v : Value) (w' : World) : Prop :=
  ∃ (q : Prog) (C D : Option Addr) (cc cd : Nat), v = .agg #[.slice C q.cells.length cc, .slice D q.bodies.length cd] ∧ q.cells.length ≤ cc ∧ q.bodies.length ≤ cd ∧ Row Kd.int w' P C q.cells ∧ Row (Kd.slice kAct) w' P D q.bodies
theorem BAt.done (h : BAt P wo w g S A c bs f b2 bp gb cab vc v0 cs a0 rest) (u1 u2 : Value) :
    Drew (BentIn P) wo g S A c bs f (.returned (.agg #[vc, .slice (some ⟨gb, 0, none⟩) (rest.length + 1) cab])) ((w.setCell ⟨b2, 0, none⟩ u1).setCell ⟨b2, 1, none⟩ u2) := by
  obtain ⟨g1, g2, g3, g4, g5⟩ := h.gbs
  have hgl := h.gl
  have hn2 := h.n2
  have hk : Keep (fun k => k = b2) w ((w.setCell ⟨b2, 0, none⟩ u1).setCell ⟨b2, 1, none⟩ u2) := Keep.set2 (Keep.refl _ _) 0 1 u1 u2
  obtain ⟨C', c', rfl, hc1, hr1⟩ := OwnI.row h.C
  obtain ⟨A0, n0, rfl, hc2, hr2⟩ := Own.row h.O
  have hcd : rest.length + 1 ≤ cab := by
    obtain ⟨A, c, e, hc⟩ := h.B.slice
    injection e with e1 e2 e3
    subst e3; simpa using hc
  have hB := Own.bodies h.B h.c0 hc2 hr2
  refine ⟨_, rfl, ⟨⟨cs, a0 :: rest⟩, _, _, _, _, rfl, hc1, hcd, ?_, ?_⟩, h.R.keep hk (by omega) (fun k hs _ => by have := h.R.ne k hs; omega), h.k.then_ hk (fun i hi e => by omega)⟩
  · exact (hr1.keep hk (fun k hs _ => (h.nc k hs).1)).mono fun k hk => h.pn k (h.C.blk k hk).1
  · exact (hB.keep hk (fun k hs _ e => by rcases hs with hs | hs; exact hs.2.1 e; exact hs.2.1 e)).mono fun k hk => hk.elim (fun h => h.1) (fun h => h.1)
end
end Go.Proofs.Ytehgiijpmldiiaa
