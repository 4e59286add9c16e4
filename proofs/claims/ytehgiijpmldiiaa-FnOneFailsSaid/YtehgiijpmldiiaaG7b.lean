/- Draws: a program is bent: bodies are added. -/
import Derived.Test.YtehgiijpmldiiaaG7
import Derived.Test.YtehgiijpmldiiaaG6b
namespace Go.Proofs.Ytehgiijpmldiiaa
open Go.RowKit
set_option linter.unusedVariables false
set_option linter.unusedSimpArgs false

section
variable {P : Nat → Prop} {wo w w' : World} {g : Nat} {S : Nat → Prop} {A : Option Addr} {c : Nat} {bs : List Int} {f b2 bp gb cab : Nat} {vc v' : Value} {cs : List Int} {a0 : List Act} {rest ys : List (List Act)} {A0 : Option Addr} {n0 c0 : Nat}
/-- The first body is put down. -/
theorem BAt.first (h : PAt wo w g S A c bs f b2 bp vc (.slice none 0 0) cs []) (hpg : ¬ P g) (hpn : ∀ k, wo.heap.size ≤ k → P k)
    (O : Own kAct 34 w wo.heap.size (fun k => P k ∧ k ≠ b2 ∧ k ≠ bp ∧ vc.ownBlock ≠ some k) (.slice A0 n0 c0) a0) (hg : w.grownBy w' none)
    (ho : Own (Kd.hv (.slice A0 n0 c0) rfl (fun k => (Value.slice A0 n0 c0).ownBlock = some k) kAct) 31 w' wo.heap.size (fun k => P k ∧ k ≠ b2 ∧ k ≠ bp ∧ vc.ownBlock ≠ some k) v' [(true, a0)])
    (hat : v'.ownBlock = none ∨ v'.ownBlock = some w.heap.size) :
    ∃ gb cab, v' = .slice (some ⟨gb, 0, none⟩) 1 cab ∧ BAt P wo (w'.setCell ⟨bp, 1, none⟩ v') g S A c bs f b2 bp gb cab vc (.slice A0 n0 c0) cs a0 [] := by
  obtain ⟨gb, cab, hv, hg1, hg2, hg3, hg4⟩ := ho.place (by simp)
  subst hv
  have hgb : gb = w.heap.size := by
    rcases hat with e | e
    · simp [Value.ownBlock] at e
    · simpa [Value.ownBlock] using e
  obtain ⟨hl1, hl2, hl3, _⟩ := h.lts
  have hgl := h.gl
  have hnp := h.np
  have hk1 : Keep (fun _ => False) w w' := Keep.of_grown hg fun k hk => by cases hk
  have hk2 : Keep (fun k => k = bp) w (w'.setCell ⟨bp, 1, none⟩ (.slice (some ⟨gb, 0, none⟩) 1 cab)) := Keep.setCell (T := fun k => k = bp) (p := ⟨bp, 1, none⟩) (hk1.mono fun _ h => h.elim) (fun _ => rfl) _
  refine ⟨gb, cab, rfl, h.R.keep hk2 (by omega) (fun k hs _ => by have := h.R.ne k hs; omega), h.k.then_ hk2 (fun i hi e => by omega), hk2.blk h.r2 (fun e => h.n2p e), ?_, h.C.keep hk2 (fun k hk => (h.nc k hk).2), ho.weak.step (fun k hs hl => Below.heap_setCell w' _ _ k hs.2.2.1),
    (O.bound.step (w' := w'.setCell ⟨bp, 1, none⟩ (.slice (some ⟨gb, 0, none⟩) 1 cab)) (fun k hs hl => hk2.block k hl hs.1.2.2.1)).mono fun k hk => ⟨hk.1.1, hk.1.2.1, hk.1.2.2.1, hk.1.2.2.2, by omega⟩, ?_, hpg, hpn, h.n2, hnp, h.n2p, h.nc, hgl⟩
  · have := hk1.blk h.rp (fun h => h)
    simp [World.setCell, Array.getElem?_modify, this]
  · exact (World.cell?_setCell_far _ _ _ _ (by simp; omega)).trans ho.head
/-- Bodies are put behind. -/
theorem BAt.grow (h : BAt P wo w g S A c bs f b2 bp gb cab vc (.slice A0 n0 c0) cs a0 rest) (hg : w.grownBy w' (some gb))
    (ho : Own (Kd.hv (.slice A0 n0 c0) rfl (fun k => (Value.slice A0 n0 c0).ownBlock = some k) kAct) 31 w' wo.heap.size (fun k => P k ∧ k ≠ b2 ∧ k ≠ bp ∧ vc.ownBlock ≠ some k) v' ((true, a0) :: (rest ++ ys).map fun x => (false, x)))
    (hat : v'.ownBlock = some gb ∨ v'.ownBlock = some w.heap.size) :
    ∃ gb' cab', v' = .slice (some ⟨gb', 0, none⟩) ((rest ++ ys).length + 1) cab' ∧ BAt P wo (w'.setCell ⟨bp, 1, none⟩ v') g S A c bs f b2 bp gb' cab' vc (.slice A0 n0 c0) cs a0 (rest ++ ys) := by
  obtain ⟨gb', cab', hv, hg1, hg2, hg3, hg4⟩ := ho.place (by simp)
  simp only [List.length_cons, List.length_map] at hv hg4
  subst hv
  have hgb : gb' = gb ∨ gb' = w.heap.size := by
    rcases hat with e | e
    · exact .inl (by simpa [Value.ownBlock] using e)
    · exact .inr (by simpa [Value.ownBlock] using e)
  obtain ⟨hl1, hl2, hl3, hl4, hl5⟩ := h.lts
  obtain ⟨g1, g2, g3, g4, g5⟩ := h.gbs
  have hgl := h.gl
  have hnp := h.np
  have hO := h.O
  have hk1 : Keep (fun k => k = gb) w w' := Keep.of_grown hg fun k hk => by injection hk with hk; exact hk.symm
  have hk2 : Keep (fun k => k = gb ∨ k = bp) w (w'.setCell ⟨bp, 1, none⟩ (.slice (some ⟨gb', 0, none⟩) ((rest ++ ys).length + 1) cab')) := Keep.setCell (T := fun k => k = gb ∨ k = bp) (p := ⟨bp, 1, none⟩) (hk1.mono fun _ h => .inl h) (fun _ => .inr rfl) _
  refine ⟨gb', cab', rfl, h.R.keep hk2 (by omega) (fun k hs _ => by have := h.R.ne k hs; omega), h.k.then_ hk2 (fun i hi e => by omega), hk2.blk h.r2 (fun e => ?_), ?_, h.C.keep hk2 (fun k hk e => ?_), ho.weak.step (fun k hs hl => Below.heap_setCell w' _ _ k hs.2.2.1),
    (hO.bound.step (w' := w'.setCell ⟨bp, 1, none⟩ (.slice (some ⟨gb', 0, none⟩) ((rest ++ ys).length + 1) cab')) (fun k hs hl => hk2.block k hl (fun e => ?_))).mono fun k hk => ⟨hk.1.1, hk.1.2.1, hk.1.2.2.1, hk.1.2.2.2.1, ?_⟩, ?_, h.pg, h.pn, h.n2, hnp, h.n2p, h.nc, hgl⟩
  · rcases e with e | e
    · exact g3 e.symm
    · exact h.n2p e
  · have := hk1.blk h.rp (fun e => g4 e.symm)
    simp [World.setCell, Array.getElem?_modify, this]
  · rcases e with e | e
    · exact g5 (by rw [← e]; exact hk)
    · exact (h.nc k hk).2 e
  · rcases e with e | e
    · exact hs.1.2.2.2.2 e
    · exact hs.1.2.2.1 e
  · have := hk.1.2.2.2.2
    have := hk.2
    omega
  · exact (World.cell?_setCell_far _ _ _ _ (by simp; omega)).trans ho.head
end
end Go.Proofs.Ytehgiijpmldiiaa
