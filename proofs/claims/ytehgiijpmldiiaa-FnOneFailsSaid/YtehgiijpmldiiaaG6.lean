/- Draws: a program is bent: how it lies meanwhile. -/
import Derived.Test.YtehgiijpmldiiaaG5
namespace Go.Proofs.Ytehgiijpmldiiaa
open Go.RowKit
set_option linter.unusedVariables false
set_option linter.unusedSimpArgs false

/-- A body among bodies, the first one marked: of the first only that it is a slice; of the others what they hold, read outside Z. -/
def Kd.hd {α : Type} (Z : Nat → Prop) (d : Kd α) : Kd (Bool × List α) where
  sz := 1
  K := fun w S x cs => if x.1 = true then ∃ A n c, cs = [.slice A n c] else (Kd.slice d).K w (fun k => S k ∧ ¬ Z k) x.2 cs
  len := by
    intro w S x cs h
    split at h
    · obtain ⟨A, n, c, rfl⟩ := h; rfl
    · exact (Kd.slice d).len h
  one := by
    intro w S x cs h u hu
    split at h
    · obtain ⟨A, n, c, rfl⟩ := h
      rw [List.mem_singleton.1 hu]; rfl
    · exact (Kd.slice d).one h u hu
  mono := by
    intro w S S' x cs hS h
    split at h
    · rename_i hx; rw [if_pos hx]; exact h
    · rename_i hx; rw [if_neg hx]; exact (Kd.slice d).mono (fun k hk => ⟨hS k hk.1, hk.2⟩) h
  bound := by
    intro w S x cs h
    split at h
    · rename_i hx; rw [if_pos hx]; exact h
    · rename_i hx; rw [if_neg hx]; exact (Kd.slice d).mono (fun k hk => ⟨⟨hk.1.1, hk.2⟩, hk.1.2⟩) ((Kd.slice d).bound h)
  move := by
    intro w w' S x cs hm h
    split at h
    · rename_i hx; rw [if_pos hx]; exact h
    · rename_i hx; rw [if_neg hx]; exact (Kd.slice d).move (fun k hk => hm k hk.1) h
theorem Kd.hd_sz {α : Type} (Z : Nat → Prop) (d : Kd α) : (Kd.hd Z d).sz = 1 := rfl
/-- The others' place: outside Z and Z', if what is in Z' alone is nowhere in S. -/
theorem Own.reZ {α : Type} {d : Kd α} {e : Nat} {w : World} {B : Nat} {S Z Z' : Nat → Prop} {v : Value} {xs : List (Bool × List α)} (h : Own (Kd.hd Z d) e w B S v xs) (hz : ∀ k, S k → Z' k → Z k) : Own (Kd.hd Z' d) e w B S v xs := by
  obtain ⟨css, h1, h2, h3, h4⟩ := h
  refine own_intro css h1 h2 h3 fun j x hj => ?_
  obtain ⟨c, hc, hk⟩ := h4 j x hj
  refine ⟨c, hc, ?_⟩
  have hk : if x.1 = true then ∃ A n c', c = [.slice A n c'] else (Kd.slice d).K w (fun k => (S k ∧ some k ≠ v.ownBlock) ∧ ¬ Z k) x.2 c := hk
  show if x.1 = true then ∃ A n c', c = [.slice A n c'] else (Kd.slice d).K w (fun k => (S k ∧ some k ≠ v.ownBlock) ∧ ¬ Z' k) x.2 c
  split at hk
  · rename_i hx; rw [if_pos hx]; exact hk
  · rename_i hx; rw [if_neg hx]; exact (Kd.slice d).mono (fun k hk => ⟨hk.1, fun h => hk.2 (hz k hk.1.1 h)⟩) hk
/-- Bodies, and the first one's own row: together a row of bodies, to be read. -/
theorem Own.bodies {w : World} {e : Nat} {B : Nat} {S Z S0 : Nat → Prop} {gb cab : Nat} {A0 : Option Addr} {n0 : Nat} {a0 : List Act} {rest : List (List Act)}
    (h : Own (Kd.hd Z kAct) e w B S (.slice (some ⟨gb, 0, none⟩) (rest.length + 1) cab) ((true, a0) :: rest.map fun x => (false, x)))
    (hc : w.cell? ⟨gb, 0, none⟩ = some (.slice A0 a0.length n0)) (hn : a0.length ≤ n0) (hr : Row kAct w S0 A0 a0) : Row (Kd.slice kAct) w (fun k => S k ∨ S0 k) (some ⟨gb, 0, none⟩) (a0 :: rest) := by
  obtain ⟨A, c, hv, hlc, hm, hrow⟩ := Own.row h
  injection hv with e1 e2 e3
  subst e1
  obtain ⟨ad, e1, hs, hl, hcell⟩ := hrow (by simp)
  injection e1 with e1
  subst e1
  refine ⟨by simpa using hm, fun _ => ⟨_, rfl, .inl hs, hl, fun j x hj => ?_⟩⟩
  cases j with
  | zero =>
    simp at hj; subst hj
    refine ⟨_, ⟨A0, n0, rfl, hn, hr.mono fun k hk => .inr hk⟩, fun i u hu => ?_⟩
    match i with
    | 0 => simp at hu; subst hu; simpa [Addr.add] using hc
    | i + 1 => simp at hu
  | succ j =>
    have hj' : ((true, a0) :: rest.map fun x => (false, x))[j + 1]? = some (false, x) := by
      simp at hj ⊢
      exact hj
    obtain ⟨c, hk, hcc⟩ := hcell (j + 1) _ hj'
    exact ⟨c, (Kd.slice kAct).mono (fun k hk => .inl hk.1) hk, hcc⟩
end Go.Proofs.Ytehgiijpmldiiaa
