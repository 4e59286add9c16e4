/- Draws: bodies, the first one's cell known. -/
import Derived.Test.YtehgiijpmldiiaaG6
namespace Go.Proofs.Ytehgiijpmldiiaa
open Go.RowKit
set_option linter.unusedVariables false
set_option linter.unusedSimpArgs false

/-- As Kd.hd, the first one's cell being v. -/
def Kd.hv {α : Type} (v : Value) (h1 : v.oneCell' = true) (Z : Nat → Prop) (d : Kd α) : Kd (Bool × List α) where
  sz := 1
  K := fun w S x cs => if x.1 = true then cs = [v] else (Kd.slice d).K w (fun k => S k ∧ ¬ Z k) x.2 cs
  len := by
    intro w S x cs h
    split at h
    · rw [h]; rfl
    · exact (Kd.slice d).len h
  one := by
    intro w S x cs h u hu
    split at h
    · rw [h] at hu; rw [List.mem_singleton.1 hu]; exact h1
    · exact (Kd.slice d).one h u hu
  mono := by
    intro w S S' x cs hS h
    split at h
    · rename_i hx; rw [if_pos hx]; exact h
    · rename_i hx; rw [if_neg hx]; exact (Kd.slice d).mono (fun k hk => ⟨hS k hk.1, hk.2⟩) h
  bound := by
    intro w S x cs h
    split at h
    · rename_i hx; rw [if_pos hx]; exact h
    · rename_i hx; rw [if_neg hx]; exact (Kd.slice d).mono (fun k hk => ⟨⟨hk.1.1, hk.2⟩, hk.1.2⟩) ((Kd.slice d).bound h)
  move := by
    intro w w' S x cs hm h
    split at h
    · rename_i hx; rw [if_pos hx]; exact h
    · rename_i hx; rw [if_neg hx]; exact (Kd.slice d).move (fun k hk => hm k hk.1) h
theorem Kd.hv_sz {α : Type} (v : Value) (h1 : v.oneCell' = true) (Z : Nat → Prop) (d : Kd α) : (Kd.hv v h1 Z d).sz = 1 := rfl
section
variable {α : Type} {d : Kd α} {e : Nat} {w : World} {B : Nat} {S Z : Nat → Prop} {A0 : Option Addr} {n0 c0 : Nat} {v : Value} {xs : List (Bool × List α)} {x0 : List α}
theorem Own.weak (h : Own (Kd.hv (.slice A0 n0 c0) rfl Z d) e w B S v xs) : Own (Kd.hd Z d) e w B S v xs := by
  obtain ⟨css, h1, h2, h3, h4⟩ := h
  refine own_intro css h1 h2 h3 fun j x hj => ?_
  obtain ⟨c, hc, hk⟩ := h4 j x hj
  refine ⟨c, hc, ?_⟩
  have hk : if x.1 = true then c = [.slice A0 n0 c0] else (Kd.slice d).K w (fun k => (S k ∧ some k ≠ v.ownBlock) ∧ ¬ Z k) x.2 c := hk
  show if x.1 = true then ∃ A n c', c = [.slice A n c'] else (Kd.slice d).K w (fun k => (S k ∧ some k ≠ v.ownBlock) ∧ ¬ Z k) x.2 c
  split at hk
  · rename_i hx; rw [if_pos hx]; exact ⟨_, _, _, hk⟩
  · rename_i hx; rw [if_neg hx]; exact hk
theorem Own.strong {gb cab n : Nat} (h : Own (Kd.hd Z d) e w B S (.slice (some ⟨gb, 0, none⟩) n cab) ((true, x0) :: xs)) (hx : ∀ y ∈ xs, y.1 = false) (hc : w.cell? ⟨gb, 0, none⟩ = some (.slice A0 n0 c0)) : Own (Kd.hv (.slice A0 n0 c0) rfl Z d) e w B S (.slice (some ⟨gb, 0, none⟩) n cab) ((true, x0) :: xs) := by
  obtain ⟨css, h1, h2, hcl, h3, h4⟩ := h.lens
  refine own_intro css h1 h2 h3 fun j x hj => ?_
  obtain ⟨c, hcc, hk⟩ := h4 j x hj
  refine ⟨c, hcc, ?_⟩
  have hk : if x.1 = true then ∃ A n c', c = [.slice A n c'] else (Kd.slice d).K w (fun k => (S k ∧ some k ≠ Value.ownBlock (.slice (some ⟨gb, 0, none⟩) n cab)) ∧ ¬ Z k) x.2 c := hk
  show if x.1 = true then c = [.slice A0 n0 c0] else (Kd.slice d).K w (fun k => (S k ∧ some k ≠ Value.ownBlock (.slice (some ⟨gb, 0, none⟩) n cab)) ∧ ¬ Z k) x.2 c
  split at hk
  · rename_i hxt
    rw [if_pos hxt]
    have hj0 : j = 0 := by
      cases j with
      | zero => rfl
      | succ j =>
        simp at hj
        have := hx x (List.mem_of_getElem? hj)
        rw [this] at hxt; cases hxt
    subst hj0
    obtain ⟨A, n', c', rfl⟩ := hk
    have := h1.cells (g := gb) rfl _ _ (flatten_at css hcl 0 0 _ _ hcc rfl)
    simp [Addr.add] at this
    rw [hc] at this
    injection this with this
    rw [← this]
  · rename_i hxt; rw [if_neg hxt]; exact hk
theorem Own.head {gb cab n : Nat} (h : Own (Kd.hv (.slice A0 n0 c0) rfl Z d) e w B S (.slice (some ⟨gb, 0, none⟩) n cab) ((true, x0) :: xs)) : w.cell? ⟨gb, 0, none⟩ = some (.slice A0 n0 c0) := by
  obtain ⟨A, c, hv, hlc⟩ := h.slice
  injection hv with e1 e2 e3
  subst e2
  obtain ⟨c, hk, hc, _⟩ := Own.cellAt h (j := 0) (by simp)
  have hk : c = [.slice A0 n0 c0] := hk
  subst hk
  exact hc 0 _ rfl
end
end Go.Proofs.Ytehgiijpmldiiaa
