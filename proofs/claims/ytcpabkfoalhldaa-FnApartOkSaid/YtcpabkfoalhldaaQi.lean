/- Draws: a program is bent: how it lies meanwhile. Draws: a program is bent: the state, and what the cases do to it. Draws: bodies, the first one's cell known. Draws: a program is bent: bodies are added. Draws: a program is bent: its cells, and how it is handed back. Draws: a program is bent: one more body; what the walk asks for. Draws: a program is bent: one more act in the first body. -/
import Derived.Test.YtcpabkfoalhldaaQh
namespace Go.Proofs.Ytcpabkfoalhldaa
open Go.RowKit
set_option linter.unusedVariables false
set_option linter.unusedSimpArgs false

/-- A body among bodies, the first one marked: of the first only that it is a slice; of the others what they hold, read outside Z. -/
def Kd.hd {α : Type} (Z : Nat → Prop) (d : Kd α) : Kd (Bool × List α) where
  sz := 1
  K := fun w S x cs => if x.1 = true then ∃ A n c, cs = [.slice A n c] else (Kd.slice d).K w (fun k => S k ∧ ¬ Z k) x.2 cs
  len := by
    intro w S x cs h
    split at h
    · obtain ⟨A, n, c, rfl⟩ := h; rfl
    · exact (Kd.slice d).len h
  one := by
    intro w S x cs h u hu
    split at h
    · obtain ⟨A, n, c, rfl⟩ := h
      rw [List.mem_singleton.1 hu]; rfl
    · exact (Kd.slice d).one h u hu
  mono := by
    intro w S S' x cs hS h
    split at h
    · rename_i hx; rw [if_pos hx]; exact h
    · rename_i hx; rw [if_neg hx]; exact (Kd.slice d).mono (fun k hk => ⟨hS k hk.1, hk.2⟩) h
  bound := by
    intro w S x cs h
    split at h
    · rename_i hx; rw [if_pos hx]; exact h
    · rename_i hx; rw [if_neg hx]; exact (Kd.slice d).mono (fun k hk => ⟨⟨hk.1.1, hk.2⟩, hk.1.2⟩) ((Kd.slice d).bound h)
  move := by
    intro w w' S x cs hm h
    split at h
    · rename_i hx; rw [if_pos hx]; exact h
    · rename_i hx; rw [if_neg hx]; exact (Kd.slice d).move (fun k hk => hm k hk.1) h
theorem Kd.hd_sz {α : Type} (Z : Nat → Prop) (d : Kd α) : (Kd.hd Z d).sz = 1 := rfl
/-- The others' place: outside Z and Z', if what is in Z' alone is nowhere in S. -/
theorem Own.reZ {α : Type} {d : Kd α} {e : Nat} {w : World} {B : Nat} {S Z Z' : Nat → Prop} {v : Value} {xs : List (Bool × List α)} (h : Own (Kd.hd Z d) e w B S v xs) (hz : ∀ k, S k → Z' k → Z k) : Own (Kd.hd Z' d) e w B S v xs := by
  obtain ⟨css, h1, h2, h3, h4⟩ := h
  refine own_intro css h1 h2 h3 fun j x hj => ?_
  obtain ⟨c, hc, hk⟩ := h4 j x hj
  refine ⟨c, hc, ?_⟩
  have hk : if x.1 = true then ∃ A n c', c = [.slice A n c'] else (Kd.slice d).K w (fun k => (S k ∧ some k ≠ v.ownBlock) ∧ ¬ Z k) x.2 c := hk
  show if x.1 = true then ∃ A n c', c = [.slice A n c'] else (Kd.slice d).K w (fun k => (S k ∧ some k ≠ v.ownBlock) ∧ ¬ Z' k) x.2 c
  split at hk
  · rename_i hx; rw [if_pos hx]; exact hk
  · rename_i hx; rw [if_neg hx]; exact (Kd.slice d).mono (fun k hk => ⟨hk.1, fun h => hk.2 (hz k hk.1.1 h)⟩) hk
/-- Bodies, and the first one's own row: together a row of bodies, to be read. -/
theorem Own.bodies {w : World} {e : Nat} {B : Nat} {S Z S0 : Nat → Prop} {gb cab : Nat} {A0 : Option Addr} {n0 : Nat} {a0 : List Act} {rest : List (List Act)}
    (h : Own (Kd.hd Z kAct) e w B S (.slice (some ⟨gb, 0, none⟩) (rest.length + 1) cab) ((true, a0) :: rest.map fun x => (false, x)))
    (hc : w.cell? ⟨gb, 0, none⟩ = some (.slice A0 a0.length n0)) (hn : a0.length ≤ n0) (hr : Row kAct w S0 A0 a0) : Row (Kd.slice kAct) w (fun k => S k ∨ S0 k) (some ⟨gb, 0, none⟩) (a0 :: rest) := by
  obtain ⟨A, c, hv, hlc, hm, hrow⟩ := Own.row h
  injection hv with e1 e2 e3
  subst e1
  obtain ⟨ad, e1, hs, hl, hcell⟩ := hrow (by simp)
  injection e1 with e1
  subst e1
  refine ⟨by simpa using hm, fun _ => ⟨_, rfl, .inl hs, hl, fun j x hj => ?_⟩⟩
  cases j with
  | zero =>
    simp at hj; subst hj
    refine ⟨_, ⟨A0, n0, rfl, hn, hr.mono fun k hk => .inr hk⟩, fun i u hu => ?_⟩
    match i with
    | 0 => simp at hu; subst hu; simpa [Addr.add] using hc
    | i + 1 => simp at hu
  | succ j =>
    have hj' : ((true, a0) :: rest.map fun x => (false, x))[j + 1]? = some (false, x) := by
      simp at hj ⊢
      exact hj
    obtain ⟨c, hk, hcc⟩ := hcell (j + 1) _ hj'
    exact ⟨c, (Kd.slice kAct).mono (fun k hk => .inl hk.1) hk, hcc⟩
end Go.Proofs.Ytcpabkfoalhldaa
namespace Go.Proofs.Ytcpabkfoalhldaa
open Go.RowKit
set_option linter.unusedVariables false
set_option linter.unusedSimpArgs false

theorem Own.hdStep {α : Type} {d : Kd α} {e : Nat} {w w' : World} {B : Nat} {S Z : Nat → Prop} {v : Value} {xs : List (Bool × List α)} (h : Own (Kd.hd Z d) e w B S v xs) (hm : ∀ k, (v.ownBlock = some k ∨ S k ∧ ¬ Z k) → k < w.heap.size → w'.heap[k]? = w.heap[k]?) : Own (Kd.hd Z d) e w' B S v xs := by
  have hb := h.blk
  obtain ⟨css, h1, h2, h3, h4⟩ := h
  refine own_intro css (owns_move h1 (fun k hk => hm k (.inl hk) (hb k hk).2.1)) h2 h3 fun j x hj => ?_
  obtain ⟨c, hc, hk⟩ := h4 j x hj
  refine ⟨c, hc, ?_⟩
  have hk : if x.1 = true then ∃ A n c', c = [.slice A n c'] else (Kd.slice d).K w (fun k => (S k ∧ some k ≠ v.ownBlock) ∧ ¬ Z k) x.2 c := hk
  show if x.1 = true then ∃ A n c', c = [.slice A n c'] else (Kd.slice d).K w' (fun k => (S k ∧ some k ≠ v.ownBlock) ∧ ¬ Z k) x.2 c
  split at hk
  · rename_i hx; rw [if_pos hx]; exact hk
  · rename_i hx; rw [if_neg hx]; exact Kd.step hk fun k hs hl => hm k (.inr ⟨hs.1.1, hs.2⟩) hl

/-- A program at block bp: its first body is a row of the call's own; all of it lies in P, but b2, the answer's block. -/
structure BAt (P : Nat → Prop) (wo w : World) (g : Nat) (S : Nat → Prop) (A : Option Addr) (c : Nat) (bs : List Int) (f b2 bp gb cab : Nat) (vc v0 : Value) (cs : List Int) (a0 : List Act) (rest : List (List Act)) : Prop where
  R : RdAt w g S A c bs f
  k : Keep (fun k => k = g) wo w
  r2 : w.heap[b2]? = some (.cells #[.slice none 0 0, .slice none 0 0] 26 (0, 0))
  rp : w.heap[bp]? = some (.cells #[vc, .slice (some ⟨gb, 0, none⟩) (rest.length + 1) cab] 26 (0, 0))
  C : OwnI 3 w wo.heap.size vc cs
  B : Own (Kd.hd (fun k => v0.ownBlock = some k) kAct) 32 w wo.heap.size (fun k => P k ∧ k ≠ b2 ∧ k ≠ bp ∧ vc.ownBlock ≠ some k) (.slice (some ⟨gb, 0, none⟩) (rest.length + 1) cab) ((true, a0) :: rest.map fun x => (false, x))
  O : Own kAct 35 w wo.heap.size (fun k => P k ∧ k ≠ b2 ∧ k ≠ bp ∧ vc.ownBlock ≠ some k ∧ k ≠ gb) v0 a0
  c0 : w.cell? ⟨gb, 0, none⟩ = some v0
  pg : ¬ P g
  pn : ∀ k, wo.heap.size ≤ k → P k
  n2 : wo.heap.size ≤ b2
  np : wo.heap.size ≤ bp
  n2p : b2 ≠ bp
  nc : ∀ k, vc.ownBlock = some k → k ≠ b2 ∧ k ≠ bp
  gl : g < wo.heap.size
section
variable {P : Nat → Prop} {wo w w' : World} {g : Nat} {S : Nat → Prop} {A : Option Addr} {c : Nat} {bs : List Int} {f f' b2 bp gb cab : Nat} {vc v0 v' : Value} {cs cs' : List Int} {a0 a1 : List Act} {rest : List (List Act)}
theorem BAt.less (h : BAt P wo w g S A c bs f b2 bp gb cab vc v0 cs a0 rest) (hf : f' ≤ f) : BAt P wo w g S A c bs f' b2 bp gb cab vc v0 cs a0 rest := { h with R := h.R.less hf }
theorem BAt.gbs (h : BAt P wo w g S A c bs f b2 bp gb cab vc v0 cs a0 rest) : wo.heap.size ≤ gb ∧ gb < w.heap.size ∧ gb ≠ b2 ∧ gb ≠ bp ∧ vc.ownBlock ≠ some gb := by
  obtain ⟨h1, h2, _, h3, h4, h5⟩ := h.B.blk gb rfl
  exact ⟨h1, h2, h3, h4, h5⟩
theorem BAt.pick (h : BAt P wo w g S A c bs f b2 bp gb cab vc v0 cs a0 rest) (hR : RdAt w' g S A c bs f') (hk : Keep (fun k => k = g) w w') : BAt P wo w' g S A c bs f' b2 bp gb cab vc v0 cs a0 rest := by
  have hn : ∀ k, wo.heap.size ≤ k → ¬ k = g := fun k hk => by have := h.gl; omega
  have hp : ∀ k, P k → ¬ k = g := fun k hk e => h.pg (e ▸ hk)
  obtain ⟨g1, g2, _⟩ := h.gbs
  exact ⟨hR, h.k.trans hk, hk.blk h.r2 (hn _ h.n2), hk.blk h.rp (hn _ h.np), h.C.keep hk (fun k hc => hn k (h.C.blk k hc).1), h.B.step (fun k hs hl => hk.block k hl (hp k hs.1)), h.O.step (fun k hs hl => hk.block k hl (hp k hs.1)),
    (hk.cell (p := ⟨gb, 0, none⟩) g2 (hn _ g1)).trans h.c0, h.pg, h.pn, h.n2, h.np, h.n2p, h.nc, h.gl⟩
theorem BAt.below (h : BAt P wo w g S A c bs f b2 bp gb cab vc v0 cs a0 rest) (hk : Below w.heap.size w w') : BAt P wo w' g S A c bs f b2 bp gb cab vc v0 cs a0 rest := h.pick (h.R.below hk) (Keep.of_belowAll _ hk)
theorem BAt.al (h : BAt P wo w g S A c bs f b2 bp gb cab vc v0 cs a0 rest) (o : Obj) : BAt P wo (w.alloc o) g S A c bs f b2 bp gb cab vc v0 cs a0 rest := h.below ((Below.refl _ _).alloc (Nat.le_refl _) _)
theorem BAt.lts (h : BAt P wo w g S A c bs f b2 bp gb cab vc v0 cs a0 rest) : b2 < w.heap.size ∧ bp < w.heap.size ∧ (∀ k, vc.ownBlock = some k → k < w.heap.size) ∧ (∀ k, v0.ownBlock = some k → k < w.heap.size) ∧ gb < w.heap.size :=
  ⟨(Array.getElem?_eq_some_iff.1 h.r2).1, (Array.getElem?_eq_some_iff.1 h.rp).1, fun k hk => (h.C.blk k hk).2, fun k hk => (h.O.blk k hk).2.1, h.gbs.2.1⟩
theorem BAt.past (h : BAt P wo w g S A c bs f b2 bp gb cab vc v0 cs a0 rest) {k : Nat} (hk : w.heap.size ≤ k) : P k ∧ k ≠ b2 ∧ k ≠ bp ∧ vc.ownBlock ≠ some k ∧ k ≠ gb := by
  obtain ⟨h1, h2, h3, _, h5⟩ := h.lts
  have h4 := h.n2
  exact ⟨h.pn k (by omega), by omega, by omega, fun e => by have := h3 k e; omega, by omega⟩
/-- The first body grows. -/
theorem BAt.app0 (h : BAt P wo w g S A c bs f b2 bp gb cab vc v0 cs a0 rest) (hg : w.grownBy w' v0.ownBlock) (hv : v'.ownBlock = v0.ownBlock ∨ v'.ownBlock = some w.heap.size)
    (ho : Own kAct 35 w' wo.heap.size (fun k => P k ∧ k ≠ b2 ∧ k ≠ bp ∧ vc.ownBlock ≠ some k ∧ k ≠ gb) v' a1) : BAt P wo (w'.setCell ⟨gb, 0, none⟩ v') g S A c bs f b2 bp gb cab vc v' cs a1 rest := by
  have h0 := fun k hk => (h.O.blk k hk)
  obtain ⟨g1, g2, g3, g4, g5⟩ := h.gbs
  have hgl := h.gl
  have hk1 : Keep (fun k => v0.ownBlock = some k) w w' := Keep.of_grown hg fun k hk => hk
  have hk2 : Keep (fun k => v0.ownBlock = some k ∨ k = gb) w (w'.setCell ⟨gb, 0, none⟩ v') := (hk1.mono (fun k hk => .inl hk)).setCell (p := ⟨gb, 0, none⟩) (fun _ => .inr rfl) _
  have hc0' : w'.cell? ⟨gb, 0, none⟩ = some v0 := (hk1.cell (p := ⟨gb, 0, none⟩) g2 (fun hk => (h0 _ hk).2.2.2.2.2.2 rfl)).trans h.c0
  have hB1 : Own (Kd.hd (fun k => v'.ownBlock = some k) kAct) 32 w' wo.heap.size (fun k => P k ∧ k ≠ b2 ∧ k ≠ bp ∧ vc.ownBlock ≠ some k) (.slice (some ⟨gb, 0, none⟩) (rest.length + 1) cab) ((true, a0) :: rest.map fun x => (false, x)) := by
    refine ((h.B.bound.hdStep (w' := w') fun k hk hl => hk1.block k hl fun e => ?_).reZ fun k hs hz => ?_).mono fun k hk => hk.1
    · rcases hk with hk | hk
      · simp [Value.ownBlock] at hk
        exact (h0 k e).2.2.2.2.2.2 hk.symm
      · exact hk.2 e
    · rcases hv with e | e
      · rw [← e]; exact hz
      · rw [e] at hz; injection hz with hz; omega
  have hB2 := Own.setAt (j := 0) (i := 0) (xs := (true, a0) :: rest.map fun x => (false, x)) (cap := cab) (g := gb) (by simpa using hB1) (by simp) (by rw [Kd.hd_sz]; omega) v' (true, a1) (fun c hc => by
    obtain ⟨A1, n1, rfl, _⟩ := ho.row
    have hc : ∃ A n c', c = [.slice A n c'] := hc
    obtain ⟨_, _, _, rfl⟩ := hc
    exact ⟨_, _, _, rfl⟩)
  simp only [Kd.hd_sz, Nat.zero_mul, Nat.add_zero, List.set_cons_zero, List.length_cons, List.length_map] at hB2
  refine ⟨h.R.keep hk2 (fun hk => ?_) (fun k hs _ hk => ?_), h.k.then_ hk2 (fun i hi hk => ?_), hk2.blk h.r2 (fun hk => ?_), hk2.blk h.rp (fun hk => ?_), h.C.keep hk2 (fun k hk hT => ?_), hB2, ho.step (fun k hs hl => Below.heap_setCell w' _ _ k hs.2.2.2.2),
    World.cell?_setCell_same _ _ _ hc0', h.pg, h.pn, h.n2, h.np, h.n2p, h.nc, hgl⟩
  · rcases hk with hk | hk
    · have := (h0 _ hk).1; omega
    · omega
  · have := h.R.ne k hs
    rcases hk with hk | hk
    · have := (h0 _ hk).1; omega
    · omega
  · rcases hk with hk | hk
    · have := (h0 _ hk).1; omega
    · omega
  · rcases hk with hk | hk
    · exact (h0 _ hk).2.2.2.1 rfl
    · exact g3 hk.symm
  · rcases hk with hk | hk
    · exact (h0 _ hk).2.2.2.2.1 rfl
    · exact g4 hk.symm
  · rcases hT with hT | hT
    · exact (h0 _ hT).2.2.2.2.2.1 hk
    · exact g5 (by rw [← hT]; exact hk)
end
end Go.Proofs.Ytcpabkfoalhldaa
namespace Go.Proofs.Ytcpabkfoalhldaa
open Go.RowKit
set_option linter.unusedVariables false
set_option linter.unusedSimpArgs false

/-- As Kd.hd, the first one's cell being v. -/
def Kd.hv {α : Type} (v : Value) (h1 : v.oneCell' = true) (Z : Nat → Prop) (d : Kd α) : Kd (Bool × List α) where
  sz := 1
  K := fun w S x cs => if x.1 = true then cs = [v] else (Kd.slice d).K w (fun k => S k ∧ ¬ Z k) x.2 cs
  len := by
    intro w S x cs h
    split at h
    · rw [h]; rfl
    · exact (Kd.slice d).len h
  one := by
    intro w S x cs h u hu
    split at h
    · rw [h] at hu; rw [List.mem_singleton.1 hu]; exact h1
    · exact (Kd.slice d).one h u hu
  mono := by
    intro w S S' x cs hS h
    split at h
    · rename_i hx; rw [if_pos hx]; exact h
    · rename_i hx; rw [if_neg hx]; exact (Kd.slice d).mono (fun k hk => ⟨hS k hk.1, hk.2⟩) h
  bound := by
    intro w S x cs h
    split at h
    · rename_i hx; rw [if_pos hx]; exact h
    · rename_i hx; rw [if_neg hx]; exact (Kd.slice d).mono (fun k hk => ⟨⟨hk.1.1, hk.2⟩, hk.1.2⟩) ((Kd.slice d).bound h)
  move := by
    intro w w' S x cs hm h
    split at h
    · rename_i hx; rw [if_pos hx]; exact h
    · rename_i hx; rw [if_neg hx]; exact (Kd.slice d).move (fun k hk => hm k hk.1) h
theorem Kd.hv_sz {α : Type} (v : Value) (h1 : v.oneCell' = true) (Z : Nat → Prop) (d : Kd α) : (Kd.hv v h1 Z d).sz = 1 := rfl
section
variable {α : Type} {d : Kd α} {e : Nat} {w : World} {B : Nat} {S Z : Nat → Prop} {A0 : Option Addr} {n0 c0 : Nat} {v : Value} {xs : List (Bool × List α)} {x0 : List α}
theorem Own.weak (h : Own (Kd.hv (.slice A0 n0 c0) rfl Z d) e w B S v xs) : Own (Kd.hd Z d) e w B S v xs := by
  obtain ⟨css, h1, h2, h3, h4⟩ := h
  refine own_intro css h1 h2 h3 fun j x hj => ?_
  obtain ⟨c, hc, hk⟩ := h4 j x hj
  refine ⟨c, hc, ?_⟩
  have hk : if x.1 = true then c = [.slice A0 n0 c0] else (Kd.slice d).K w (fun k => (S k ∧ some k ≠ v.ownBlock) ∧ ¬ Z k) x.2 c := hk
  show if x.1 = true then ∃ A n c', c = [.slice A n c'] else (Kd.slice d).K w (fun k => (S k ∧ some k ≠ v.ownBlock) ∧ ¬ Z k) x.2 c
  split at hk
  · rename_i hx; rw [if_pos hx]; exact ⟨_, _, _, hk⟩
  · rename_i hx; rw [if_neg hx]; exact hk
theorem Own.strong {gb cab n : Nat} (h : Own (Kd.hd Z d) e w B S (.slice (some ⟨gb, 0, none⟩) n cab) ((true, x0) :: xs)) (hx : ∀ y ∈ xs, y.1 = false) (hc : w.cell? ⟨gb, 0, none⟩ = some (.slice A0 n0 c0)) : Own (Kd.hv (.slice A0 n0 c0) rfl Z d) e w B S (.slice (some ⟨gb, 0, none⟩) n cab) ((true, x0) :: xs) := by
  obtain ⟨css, h1, h2, hcl, h3, h4⟩ := h.lens
  refine own_intro css h1 h2 h3 fun j x hj => ?_
  obtain ⟨c, hcc, hk⟩ := h4 j x hj
  refine ⟨c, hcc, ?_⟩
  have hk : if x.1 = true then ∃ A n c', c = [.slice A n c'] else (Kd.slice d).K w (fun k => (S k ∧ some k ≠ Value.ownBlock (.slice (some ⟨gb, 0, none⟩) n cab)) ∧ ¬ Z k) x.2 c := hk
  show if x.1 = true then c = [.slice A0 n0 c0] else (Kd.slice d).K w (fun k => (S k ∧ some k ≠ Value.ownBlock (.slice (some ⟨gb, 0, none⟩) n cab)) ∧ ¬ Z k) x.2 c
  split at hk
  · rename_i hxt
    rw [if_pos hxt]
    have hj0 : j = 0 := by
      cases j with
      | zero => rfl
      | succ j =>
        simp at hj
        have := hx x (List.mem_of_getElem? hj)
        rw [this] at hxt; cases hxt
    subst hj0
    obtain ⟨A, n', c', rfl⟩ := hk
    have := h1.cells (g := gb) rfl _ _ (flatten_at css hcl 0 0 _ _ hcc rfl)
    simp [Addr.add] at this
    rw [hc] at this
    injection this with this
    rw [← this]
  · rename_i hxt; rw [if_neg hxt]; exact hk
theorem Own.head {gb cab n : Nat} (h : Own (Kd.hv (.slice A0 n0 c0) rfl Z d) e w B S (.slice (some ⟨gb, 0, none⟩) n cab) ((true, x0) :: xs)) : w.cell? ⟨gb, 0, none⟩ = some (.slice A0 n0 c0) := by
  obtain ⟨A, c, hv, hlc⟩ := h.slice
  injection hv with e1 e2 e3
  subst e2
  obtain ⟨c, hk, hc, _⟩ := Own.cellAt h (j := 0) (by simp)
  have hk : c = [.slice A0 n0 c0] := hk
  subst hk
  exact hc 0 _ rfl
end
end Go.Proofs.Ytcpabkfoalhldaa
namespace Go.Proofs.Ytcpabkfoalhldaa
open Go.RowKit
set_option linter.unusedVariables false
set_option linter.unusedSimpArgs false

section
variable {P : Nat → Prop} {wo w w' : World} {g : Nat} {S : Nat → Prop} {A : Option Addr} {c : Nat} {bs : List Int} {f b2 bp gb cab : Nat} {vc v' : Value} {cs : List Int} {a0 : List Act} {rest ys : List (List Act)} {A0 : Option Addr} {n0 c0 : Nat}
/-- The first body is put down. -/
theorem BAt.first (h : PAt wo w g S A c bs f b2 bp vc (.slice none 0 0) cs []) (hpg : ¬ P g) (hpn : ∀ k, wo.heap.size ≤ k → P k)
    (O : Own kAct 35 w wo.heap.size (fun k => P k ∧ k ≠ b2 ∧ k ≠ bp ∧ vc.ownBlock ≠ some k) (.slice A0 n0 c0) a0) (hg : w.grownBy w' none)
    (ho : Own (Kd.hv (.slice A0 n0 c0) rfl (fun k => (Value.slice A0 n0 c0).ownBlock = some k) kAct) 32 w' wo.heap.size (fun k => P k ∧ k ≠ b2 ∧ k ≠ bp ∧ vc.ownBlock ≠ some k) v' [(true, a0)])
    (hat : v'.ownBlock = none ∨ v'.ownBlock = some w.heap.size) :
    ∃ gb cab, v' = .slice (some ⟨gb, 0, none⟩) 1 cab ∧ BAt P wo (w'.setCell ⟨bp, 1, none⟩ v') g S A c bs f b2 bp gb cab vc (.slice A0 n0 c0) cs a0 [] := by
  obtain ⟨gb, cab, hv, hg1, hg2, hg3, hg4⟩ := ho.place (by simp)
  subst hv
  have hgb : gb = w.heap.size := by
    rcases hat with e | e
    · simp [Value.ownBlock] at e
    · simpa [Value.ownBlock] using e
  obtain ⟨hl1, hl2, hl3, _⟩ := h.lts
  have hgl := h.gl
  have hnp := h.np
  have hk1 : Keep (fun _ => False) w w' := Keep.of_grown hg fun k hk => by cases hk
  have hk2 : Keep (fun k => k = bp) w (w'.setCell ⟨bp, 1, none⟩ (.slice (some ⟨gb, 0, none⟩) 1 cab)) := Keep.setCell (T := fun k => k = bp) (p := ⟨bp, 1, none⟩) (hk1.mono fun _ h => h.elim) (fun _ => rfl) _
  refine ⟨gb, cab, rfl, h.R.keep hk2 (by omega) (fun k hs _ => by have := h.R.ne k hs; omega), h.k.then_ hk2 (fun i hi e => by omega), hk2.blk h.r2 (fun e => h.n2p e), ?_, h.C.keep hk2 (fun k hk => (h.nc k hk).2), ho.weak.step (fun k hs hl => Below.heap_setCell w' _ _ k hs.2.2.1),
    (O.bound.step (w' := w'.setCell ⟨bp, 1, none⟩ (.slice (some ⟨gb, 0, none⟩) 1 cab)) (fun k hs hl => hk2.block k hl hs.1.2.2.1)).mono fun k hk => ⟨hk.1.1, hk.1.2.1, hk.1.2.2.1, hk.1.2.2.2, by omega⟩, ?_, hpg, hpn, h.n2, hnp, h.n2p, h.nc, hgl⟩
  · have := hk1.blk h.rp (fun h => h)
    simp [World.setCell, Array.getElem?_modify, this]
  · exact (World.cell?_setCell_far _ _ _ _ (by simp; omega)).trans ho.head
/-- Bodies are put behind. -/
theorem BAt.grow (h : BAt P wo w g S A c bs f b2 bp gb cab vc (.slice A0 n0 c0) cs a0 rest) (hg : w.grownBy w' (some gb))
    (ho : Own (Kd.hv (.slice A0 n0 c0) rfl (fun k => (Value.slice A0 n0 c0).ownBlock = some k) kAct) 32 w' wo.heap.size (fun k => P k ∧ k ≠ b2 ∧ k ≠ bp ∧ vc.ownBlock ≠ some k) v' ((true, a0) :: (rest ++ ys).map fun x => (false, x)))
    (hat : v'.ownBlock = some gb ∨ v'.ownBlock = some w.heap.size) :
    ∃ gb' cab', v' = .slice (some ⟨gb', 0, none⟩) ((rest ++ ys).length + 1) cab' ∧ BAt P wo (w'.setCell ⟨bp, 1, none⟩ v') g S A c bs f b2 bp gb' cab' vc (.slice A0 n0 c0) cs a0 (rest ++ ys) := by
  obtain ⟨gb', cab', hv, hg1, hg2, hg3, hg4⟩ := ho.place (by simp)
  simp only [List.length_cons, List.length_map] at hv hg4
  subst hv
  have hgb : gb' = gb ∨ gb' = w.heap.size := by
    rcases hat with e | e
    · exact .inl (by simpa [Value.ownBlock] using e)
    · exact .inr (by simpa [Value.ownBlock] using e)
  obtain ⟨hl1, hl2, hl3, hl4, hl5⟩ := h.lts
  obtain ⟨g1, g2, g3, g4, g5⟩ := h.gbs
  have hgl := h.gl
  have hnp := h.np
  have hO := h.O
  have hk1 : Keep (fun k => k = gb) w w' := Keep.of_grown hg fun k hk => by injection hk with hk; exact hk.symm
  have hk2 : Keep (fun k => k = gb ∨ k = bp) w (w'.setCell ⟨bp, 1, none⟩ (.slice (some ⟨gb', 0, none⟩) ((rest ++ ys).length + 1) cab')) := Keep.setCell (T := fun k => k = gb ∨ k = bp) (p := ⟨bp, 1, none⟩) (hk1.mono fun _ h => .inl h) (fun _ => .inr rfl) _
  refine ⟨gb', cab', rfl, h.R.keep hk2 (by omega) (fun k hs _ => by have := h.R.ne k hs; omega), h.k.then_ hk2 (fun i hi e => by omega), hk2.blk h.r2 (fun e => ?_), ?_, h.C.keep hk2 (fun k hk e => ?_), ho.weak.step (fun k hs hl => Below.heap_setCell w' _ _ k hs.2.2.1),
    (hO.bound.step (w' := w'.setCell ⟨bp, 1, none⟩ (.slice (some ⟨gb', 0, none⟩) ((rest ++ ys).length + 1) cab')) (fun k hs hl => hk2.block k hl (fun e => ?_))).mono fun k hk => ⟨hk.1.1, hk.1.2.1, hk.1.2.2.1, hk.1.2.2.2.1, ?_⟩, ?_, h.pg, h.pn, h.n2, hnp, h.n2p, h.nc, hgl⟩
  · rcases e with e | e
    · exact g3 e.symm
    · exact h.n2p e
  · have := hk1.blk h.rp (fun e => g4 e.symm)
    simp [World.setCell, Array.getElem?_modify, this]
  · rcases e with e | e
    · exact g5 (by rw [← e]; exact hk)
    · exact (h.nc k hk).2 e
  · rcases e with e | e
    · exact hs.1.2.2.2.2 e
    · exact hs.1.2.2.1 e
  · have := hk.1.2.2.2.2
    have := hk.2
    omega
  · exact (World.cell?_setCell_far _ _ _ _ (by simp; omega)).trans ho.head
end
end Go.Proofs.Ytcpabkfoalhldaa
namespace Go.Proofs.Ytcpabkfoalhldaa
open Go.RowKit
set_option linter.unusedVariables false
set_option linter.unusedSimpArgs false

section
variable {P : Nat → Prop} {wo w w' : World} {g : Nat} {S : Nat → Prop} {A : Option Addr} {c : Nat} {bs : List Int} {f b2 bp gb cab : Nat} {vc v0 v' : Value} {cs cs' : List Int} {a0 : List Act} {rest : List (List Act)}
/-- The row of cells turns. -/
theorem BAt.setC (h : BAt P wo w g S A c bs f b2 bp gb cab vc v0 cs a0 rest) (hg : w.grownBy w' vc.ownBlock) (hv : v'.ownBlock = vc.ownBlock ∨ v'.ownBlock = some w.heap.size) (ho : OwnI 3 w' wo.heap.size v' cs') :
    BAt P wo (w'.setCell ⟨bp, 0, none⟩ v') g S A c bs f b2 bp gb cab v' v0 cs' a0 rest := by
  obtain ⟨hl1, hl2, hl3, hl4, hl5⟩ := h.lts
  obtain ⟨g1, g2, g3, g4, g5⟩ := h.gbs
  have hvl := fun k hk => (h.C.blk k hk)
  have hgl := h.gl
  have hnp := h.np
  have hne : ∀ k, k < w.heap.size → vc.ownBlock ≠ some k → v'.ownBlock ≠ some k := fun k hk hn e => by
    rcases hv with e' | e'
    · exact hn (e'.symm.trans e)
    · rw [e'] at e; injection e with e; omega
  have hk1 : Keep (fun k => vc.ownBlock = some k) w w' := Keep.of_grown hg fun k hk => hk
  have hk2 : Keep (fun k => vc.ownBlock = some k ∨ k = bp) w (w'.setCell ⟨bp, 0, none⟩ v') := (hk1.mono (fun k hk => .inl hk)).setCell (fun _ => .inr rfl) _
  refine ⟨h.R.keep hk2 (fun hk => ?_) (fun k hs _ hk => ?_), h.k.then_ hk2 (fun i hi hk => ?_), hk2.blk h.r2 (fun hk => ?_), ?_, ho.far (fun k hk e => ?_) _,
    (h.B.bound.hdStep (w' := w'.setCell ⟨bp, 0, none⟩ v') (fun k hk hl => hk2.block k hl fun e => ?_)).mono (fun k hk => ⟨hk.1.1, hk.1.2.1, hk.1.2.2.1, hne k hk.2 hk.1.2.2.2⟩),
    (h.O.bound.step (w' := w'.setCell ⟨bp, 0, none⟩ v') (fun k hs hl => hk2.block k hl fun e => ?_)).mono (fun k hk => ⟨hk.1.1, hk.1.2.1, hk.1.2.2.1, hne k hk.2 hk.1.2.2.2.1, hk.1.2.2.2.2⟩), ?_, h.pg, h.pn, h.n2, hnp, h.n2p, (fun k hk => ?_), hgl⟩
  · rcases hk with hk | hk
    · have := hvl _ hk; omega
    · omega
  · have := h.R.ne k hs
    rcases hk with hk | hk
    · have := hvl _ hk; omega
    · omega
  · rcases hk with hk | hk
    · have := hvl _ hk; omega
    · omega
  · rcases hk with hk | hk
    · exact (h.nc _ hk).1 rfl
    · exact h.n2p hk
  · have := hk1.blk h.rp (fun hk => (h.nc _ hk).2 rfl)
    simp [World.setCell, Array.getElem?_modify, this]
  · rcases hv with e' | e'
    · exact (h.nc k (e'.symm.trans hk)).2 e
    · rw [e'] at hk; injection hk with hk
      have e : k = bp := e
      omega
  · rcases hk with hk | hk
    · simp [Value.ownBlock] at hk
      subst hk
      rcases e with e | e
      · exact g5 e
      · exact g4 e
    · rcases e with e | e
      · exact hk.1.1.2.2.2 e
      · exact hk.1.1.2.2.1 e
  · rcases e with e | e
    · exact hs.1.2.2.2.1 e
    · exact hs.1.2.2.1 e
  · exact (hk2.cell (p := ⟨gb, 0, none⟩) g2 (fun e => e.elim g5 g4)).trans h.c0
  · rcases hv with e' | e'
    · exact h.nc k (e'.symm.trans hk)
    · rw [e'] at hk; injection hk with hk; omega
/-- A cell turns. -/
theorem BAt.setC0 {gc cc : Nat} (h : BAt P wo w g S A c bs f b2 bp gb cab (.slice (some ⟨gc, 0, none⟩) cs.length cc) v0 cs a0 rest) (hc : 0 < cs.length) (x : Int) (hx : isI x) :
    BAt P wo (w.setCell ⟨gc, 0, none⟩ (.int .i64 x)) g S A c bs f b2 bp gb cab (.slice (some ⟨gc, 0, none⟩) (cs.set 0 x).length cc) v0 (cs.set 0 x) a0 rest := by
  obtain ⟨hl1, hl2, hl3, hl4, hl5⟩ := h.lts
  obtain ⟨g1, g2, g3, g4, g5⟩ := h.gbs
  have hvl := h.C.blk gc rfl
  have hn := h.nc gc rfl
  have hgl := h.gl
  have hk2 : Keep (fun k => k = gc) w (w.setCell ⟨gc, 0, none⟩ (.int .i64 x)) := Keep.setCell (T := fun k => k = gc) (p := ⟨gc, 0, none⟩) (Keep.refl _ _) (fun _ => rfl) _
  have g6 : gb ≠ gc := fun e => g5 (by rw [e]; rfl)
  have hC := h.C.set_ (j := 0) hc x hx
  rw [List.length_set]
  refine ⟨h.R.keep hk2 (by omega) (fun k hs _ hk => by have := h.R.ne k hs; omega), h.k.then_ hk2 (fun i hi hk => by omega), hk2.blk h.r2 (fun hk => hn.1 hk.symm), hk2.blk h.rp (fun hk => hn.2 hk.symm), hC, h.B.hdStep (fun k hk hl => hk2.block k hl fun e => ?_), h.O.step (fun k hs hl => hk2.block k hl fun e => ?_),
    (hk2.cell (p := ⟨gb, 0, none⟩) g2 g6).trans h.c0, h.pg, h.pn, h.n2, h.np, h.n2p, h.nc, hgl⟩
  · rcases hk with hk | hk
    · simp [Value.ownBlock] at hk; omega
    · exact hk.1.2.2.2 (by rw [e]; rfl)
  · exact hs.2.2.2.1 (by rw [e]; rfl)
/-- What a bent program is: rows that lie in P. -/
def BentIn (P : Nat → Prop) (v : Value) (w' : World) : Prop :=
  ∃ (q : Prog) (C D : Option Addr) (cc cd : Nat), v = .agg #[.slice C q.cells.length cc, .slice D q.bodies.length cd] ∧ q.cells.length ≤ cc ∧ q.bodies.length ≤ cd ∧ Row Kd.int w' P C q.cells ∧ Row (Kd.slice kAct) w' P D q.bodies
theorem BAt.done (h : BAt P wo w g S A c bs f b2 bp gb cab vc v0 cs a0 rest) (u1 u2 : Value) :
    Drew (BentIn P) wo g S A c bs f (.returned (.agg #[vc, .slice (some ⟨gb, 0, none⟩) (rest.length + 1) cab])) ((w.setCell ⟨b2, 0, none⟩ u1).setCell ⟨b2, 1, none⟩ u2) := by
  obtain ⟨g1, g2, g3, g4, g5⟩ := h.gbs
  have hgl := h.gl
  have hn2 := h.n2
  have hk : Keep (fun k => k = b2) w ((w.setCell ⟨b2, 0, none⟩ u1).setCell ⟨b2, 1, none⟩ u2) := Keep.set2 (Keep.refl _ _) 0 1 u1 u2
  obtain ⟨C', c', rfl, hc1, hr1⟩ := OwnI.row h.C
  obtain ⟨A0, n0, rfl, hc2, hr2⟩ := Own.row h.O
  have hcd : rest.length + 1 ≤ cab := by
    obtain ⟨A, c, e, hc⟩ := h.B.slice
    injection e with e1 e2 e3
    subst e3; simpa using hc
  have hB := Own.bodies h.B h.c0 hc2 hr2
  refine ⟨_, rfl, ⟨⟨cs, a0 :: rest⟩, _, _, _, _, rfl, hc1, hcd, ?_, ?_⟩, h.R.keep hk (by omega) (fun k hs _ => by have := h.R.ne k hs; omega), h.k.then_ hk (fun i hi e => by omega)⟩
  · exact (hr1.keep hk (fun k hs _ => (h.nc k hs).1)).mono fun k hk => h.pn k (h.C.blk k hk).1
  · exact (hB.keep hk (fun k hs _ e => by rcases hs with hs | hs; exact hs.2.1 e; exact hs.2.1 e)).mono fun k hk => hk.elim (fun h => h.1) (fun h => h.1)
end
end Go.Proofs.Ytcpabkfoalhldaa
namespace Go.Proofs.Ytcpabkfoalhldaa
open Go.RowKit
set_option linter.unusedVariables false
set_option linter.unusedSimpArgs false

theorem own2 {wo w : World} {g : Nat} {S : Nat → Prop} {A : Option Addr} {c : Nat} {bs : List Int} {f b2 bp : Nat} {vc vb : Value} {cs : List Int} {bds : List (List Act)} {S2 : Nat → Prop} (h : PAt wo w g S A c bs f b2 bp vc vb cs bds) (h2 : ∀ k, S2 k → k ≠ g ∧ k < wo.heap.size) (k : Nat) (hk : S2 k ∨ w.heap.size ≤ k) : (S2 k ∨ wo.heap.size ≤ k) ∧ k ≠ b2 ∧ k ≠ bp ∧ vc.ownBlock ≠ some k := by
  rcases hk with hk | hk
  · have := (h2 k hk).2
    have := h.n2
    have := h.np
    exact ⟨.inl hk, by omega, by omega, fun e => by have := (h.C.blk k e).1; omega⟩
  · obtain ⟨p1, p2, p3, p4⟩ := h.past hk
    exact ⟨.inr p1, p2, p3, p4⟩
theorem own3 {wo w w1 : World} {g : Nat} {S : Nat → Prop} {A : Option Addr} {c : Nat} {bs : List Int} {f b2 bp : Nat} {vc vb : Value} {cs : List Int} {bds : List (List Act)} {S2 : Nat → Prop} (h : PAt wo w g S A c bs f b2 bp vc vb cs bds) (hz : w.heap.size ≤ w1.heap.size) (k : Nat) (hk : w1.heap.size ≤ k) : (S2 k ∨ wo.heap.size ≤ k) ∧ k ≠ b2 ∧ k ≠ bp ∧ vc.ownBlock ≠ some k := by
  obtain ⟨p1, p2, p3, p4⟩ := h.past (Nat.le_trans hz hk)
  exact ⟨.inr p1, p2, p3, p4⟩
theorem Kd.hv_head {α : Type} {d : Kd α} {v : Value} (h1 : v.oneCell' = true) (Z : Nat → Prop) (w : World) (S : Nat → Prop) (x : List α) : (Kd.hv v h1 Z d).K w S (true, x) [v] := by
  show if (true, x).1 = true then [v] = [v] else (Kd.slice d).K w (fun k => S k ∧ ¬ Z k) x [v]
  rw [if_pos rfl]
theorem Kd.hv_tail {α : Type} {d : Kd α} {v : Value} (h1 : v.oneCell' = true) (Z : Nat → Prop) {w : World} {S : Nat → Prop} {x : List α} {A : Option Addr} {c : Nat} (h : Row d w S A x) (hz : ∀ k, S k → ¬ Z k) (hc : x.length ≤ c) : (Kd.hv v h1 Z d).K w S (false, x) [.slice A x.length c] := by
  show if (false, x).1 = true then [Value.slice A x.length c] = [v] else (Kd.slice d).K w (fun k => S k ∧ ¬ Z k) x [.slice A x.length c]
  rw [if_neg (by simp)]
  exact ⟨A, c, rfl, hc, h.mono fun k hk => ⟨hk, hz k hk⟩⟩
section
variable {P : Nat → Prop} {wo w w' w0 : World} {g : Nat} {S S2 : Nat → Prop} {A : Option Addr} {c : Nat} {bs : List Int} {f f' b2 bp gb cab : Nat} {vc v0 v' : Value} {cs cs' : List Int} {a0 : List Act} {rest : List (List Act)} {A0 : Option Addr} {n0 c0 : Nat}
theorem BAt.rpB (h : BAt P wo w g S A c bs f b2 bp gb cab vc v0 cs a0 rest) (hg : w.grownBy w' (some gb)) : w'.heap[bp]? = some (.cells #[vc, .slice (some ⟨gb, 0, none⟩) (rest.length + 1) cab] 26 (0, 0)) :=
  (Keep.of_grown hg (T := fun k => gb = k) fun k hk => by injection hk).blk h.rp (fun hk => h.gbs.2.2.2.1 hk)
theorem BAt.rpC (h : BAt P wo w g S A c bs f b2 bp gb cab vc v0 cs a0 rest) (hg : w.grownBy w' vc.ownBlock) : w'.heap[bp]? = some (.cells #[vc, .slice (some ⟨gb, 0, none⟩) (rest.length + 1) cab] 26 (0, 0)) :=
  (Keep.of_grown hg (T := fun k => vc.ownBlock = some k) fun k hk => hk).blk h.rp (fun hk => (h.nc _ hk).2 rfl)
theorem BAt.p0 (h : BAt P wo w g S A c bs f b2 bp gb cab vc v0 cs a0 rest) : w.cell? ⟨bp, 0, none⟩ = some vc := by rw [cell_of_row _ _ 0 _ _ _ h.rp]; rfl
theorem BAt.p1 (h : BAt P wo w g S A c bs f b2 bp gb cab vc v0 cs a0 rest) : w.cell? ⟨bp, 1, none⟩ = some (.slice (some ⟨gb, 0, none⟩) (rest.length + 1) cab) := by rw [cell_of_row _ _ 1 _ _ _ h.rp]; rfl
theorem BAt.gfz (h : BAt P wo w g S A c bs f b2 bp gb cab vc v0 cs a0 rest) : w.frozen? ⟨gb, 0, none⟩ = false := by
  have hB := h.B
  obtain ⟨c, _, _, hf⟩ := Own.cellAt (xs := (true, a0) :: rest.map fun x => (false, x)) (cap := cab) (g := gb) (by simpa using hB) (j := 0) (by simp)
  simpa using hf 0
theorem BAt.HO (h : BAt P wo w g S A c bs f b2 bp gb cab vc (.slice A0 n0 c0) cs a0 rest) : Own (Kd.hv (.slice A0 n0 c0) rfl (fun k => (Value.slice A0 n0 c0).ownBlock = some k) kAct) 32 w wo.heap.size (fun k => P k ∧ k ≠ b2 ∧ k ≠ bp ∧ vc.ownBlock ≠ some k) (.slice (some ⟨gb, 0, none⟩) (rest.length + 1) cab) ((true, a0) :: rest.map fun x => (false, x)) :=
  Own.strong h.B (fun y hy => by simp at hy; obtain ⟨_, _, rfl⟩ := hy; rfl) h.c0
/-- One more body. -/
theorem BAt.grow1 (h : BAt P wo w g S A c bs f b2 bp gb cab vc (.slice A0 n0 c0) cs a0 rest) {x : List Act} {S3 : Nat → Prop} (hg : w.grownBy w' (some gb))
    (ho : Own (Kd.hv (.slice A0 n0 c0) rfl (fun k => (Value.slice A0 n0 c0).ownBlock = some k) kAct) 32 w' wo.heap.size S3 v' (((true, a0) :: rest.map fun x => (false, x)) ++ [(false, x)])) (hS : ∀ k, S3 k → P k ∧ k ≠ b2 ∧ k ≠ bp ∧ vc.ownBlock ≠ some k)
    (hat : v'.ownBlock = some gb ∨ v'.ownBlock = some w.heap.size) :
    ∃ gb' cab', v' = .slice (some ⟨gb', 0, none⟩) (rest.length + 1 + 1) cab' ∧ BAt P wo (w'.setCell ⟨bp, 1, none⟩ v') g S A c bs f b2 bp gb' cab' vc (.slice A0 n0 c0) cs a0 (rest ++ [x]) := by
  have := h.grow (ys := [x]) hg ?_ hat
  · simpa using this
  have e : ((true, a0) :: rest.map fun x => (false, x)) ++ [(false, x)] = (true, a0) :: (rest ++ [x]).map fun x => (false, x) := by simp
  rw [← e]
  exact ho.mono hS
/-- Where a new body's row lies. -/
theorem BAt.spot (h : BAt (fun k => S2 k ∨ wo.heap.size ≤ k) wo w g S A c bs f b2 bp gb cab vc v0 cs a0 rest) (h2 : ∀ k, S2 k → k ≠ g ∧ k < wo.heap.size) {k : Nat} (hk : S2 k ∨ w.heap.size ≤ k) : ((S2 k ∨ wo.heap.size ≤ k) ∧ k ≠ b2 ∧ k ≠ bp ∧ vc.ownBlock ≠ some k) ∧ ¬ v0.ownBlock = some k ∧ k ≠ gb := by
  rcases hk with hk | hk
  · have := (h2 k hk).2
    have := h.n2
    have := h.np
    have := h.gbs.1
    exact ⟨⟨.inl hk, by omega, by omega, fun e => by have := (h.C.blk k e).1; omega⟩, fun e => by have := (h.O.blk k e).1; omega, by omega⟩
  · obtain ⟨p1, p2, p3, p4, p5⟩ := h.past hk
    exact ⟨⟨p1, p2, p3, p4⟩, fun e => by have := (h.O.blk k e).2.1; omega, p5⟩
end
end Go.Proofs.Ytcpabkfoalhldaa
namespace Go.Proofs.Ytcpabkfoalhldaa
open Go.RowKit
set_option linter.unusedVariables false
set_option linter.unusedSimpArgs false

section
variable {P : Nat → Prop} {wo w w' w0 : World} {g : Nat} {S S2 S3 : Nat → Prop} {A : Option Addr} {c : Nat} {bs : List Int} {f f' b2 bp gb cab : Nat} {vc v0 v' : Value} {cs cs' : List Int} {a0 : List Act} {rest : List (List Act)} {A0 : Option Addr} {n0 c0 : Nat}
theorem BAt.v0ne (h : BAt P wo w g S A c bs f b2 bp gb cab vc v0 cs a0 rest) : v0.ownBlock ≠ some gb ∧ v0.ownBlock ≠ some bp := ⟨fun e => (h.O.blk _ e).2.2.2.2.2.2 rfl, fun e => (h.O.blk _ e).2.2.2.2.1 rfl⟩
theorem BAt.appFacts (h : BAt P wo w g S A c bs f b2 bp gb cab vc v0 cs a0 rest) (hg : w.grownBy w' v0.ownBlock) :
    w'.cell? ⟨gb, 0, none⟩ = some v0 ∧ w'.frozen? ⟨gb, 0, none⟩ = false ∧ w'.cell? ⟨bp, 1, none⟩ = some (.slice (some ⟨gb, 0, none⟩) (rest.length + 1) cab) ∧ ∀ u, (w'.setCell ⟨gb, 0, none⟩ u).cell? ⟨bp, 1, none⟩ = some (.slice (some ⟨gb, 0, none⟩) (rest.length + 1) cab) := by
  have hk := Keep.of_grown (T := fun k => v0.ownBlock = some k) hg fun k hk => hk
  obtain ⟨g1, g2, g3, g4, g5⟩ := h.gbs
  obtain ⟨n1, n2⟩ := h.v0ne
  have e1 := (hk.cell (p := ⟨bp, 1, none⟩) h.lts.2.1 n2).trans h.p1
  exact ⟨(hk.cell (p := ⟨gb, 0, none⟩) g2 n1).trans h.c0, (hk.frozen (p := ⟨gb, 0, none⟩) g2 n1).trans h.gfz, e1, fun u => (World.cell?_setCell_far w' ⟨gb, 0, none⟩ ⟨bp, 1, none⟩ u g4).trans e1⟩
theorem BAt.app1 (h : BAt P wo w g S A c bs f b2 bp gb cab vc v0 cs a0 rest) {x : Act} (hg : w.grownBy w' v0.ownBlock) (hv : v'.ownBlock = v0.ownBlock ∨ v'.ownBlock = some w.heap.size)
    (ho : Own kAct 35 w' wo.heap.size (fun k => (P k ∧ k ≠ b2 ∧ k ≠ bp ∧ vc.ownBlock ≠ some k ∧ k ≠ gb) ∨ S3 k ∨ k = w.heap.size) v' (a0 ++ [x])) (hS : ∀ k, S3 k → P k ∧ k ≠ b2 ∧ k ≠ bp ∧ vc.ownBlock ≠ some k ∧ k ≠ gb) : BAt P wo (w'.setCell ⟨gb, 0, none⟩ v') g S A c bs f b2 bp gb cab vc v' cs (a0 ++ [x]) rest :=
  h.app0 hg hv (ho.mono fun k hk => by
    rcases hk with hk | hk | hk
    · exact hk
    · exact hS k hk
    · exact h.past (by omega))
/-- A row of new memory is far from the first body's own row. -/
theorem BAt.farO (h : BAt P wo w g S A c bs f b2 bp gb cab vc v0 cs a0 rest) {k : Nat} (hk : w.heap.size ≤ k) : some k ≠ v0.ownBlock := fun e => by have := (h.O.blk k e.symm).2.1; omega
theorem BAt.ends (h : BAt P wo w g S A c bs f b2 bp gb cab vc v0 cs a0 rest) : w.cell? ⟨bp, 0, none⟩ = some vc ∧ w.cell? ⟨bp, 1, none⟩ = some (.slice (some ⟨gb, 0, none⟩) (rest.length + 1) cab) ∧ w.cell? ⟨b2, 0, none⟩ = some (.slice none 0 0) ∧ w.cell? ⟨b2, 1, none⟩ = some (.slice none 0 0) ∧ ∀ i, w.frozen? ⟨b2, i, none⟩ = false :=
  ⟨h.p0, h.p1, by rw [cell_of_row _ _ 0 _ _ _ h.r2]; rfl, by rw [cell_of_row _ _ 1 _ _ _ h.r2]; rfl, fun i => frozen_of_row h.r2 i⟩
theorem BAt.four (h : BAt P wo w g S A c bs f b2 bp gb cab vc v0 cs a0 rest) {row : Option Nat} (hg : w.grownBy w' row) (h1 : row ≠ some bp) (h2 : row ≠ some b2) : w'.cell? ⟨bp, 0, none⟩ = some vc ∧ w'.cell? ⟨bp, 1, none⟩ = some (.slice (some ⟨gb, 0, none⟩) (rest.length + 1) cab) ∧ (∀ i, w'.frozen? ⟨bp, i, none⟩ = false) ∧ w'.cell? ⟨b2, 0, none⟩ = some (.slice none 0 0) ∧ w'.cell? ⟨b2, 1, none⟩ = some (.slice none 0 0) ∧ ∀ i, w'.frozen? ⟨b2, i, none⟩ = false := by
  have hk := Keep.of_grown (T := fun k => row = some k) hg fun k hk => hk
  have hp := hk.blk h.rp h1
  have h2 := hk.blk h.r2 h2
  refine ⟨?_, ?_, fun i => frozen_of_row hp i, ?_, ?_, fun i => frozen_of_row h2 i⟩
  · rw [cell_of_row _ _ 0 _ _ _ hp]; rfl
  · rw [cell_of_row _ _ 1 _ _ _ hp]; rfl
  · rw [cell_of_row _ _ 0 _ _ _ h2]; rfl
  · rw [cell_of_row _ _ 1 _ _ _ h2]; rfl
theorem BAt.fourS (h : BAt P wo w g S A c bs f b2 bp gb cab vc v0 cs a0 rest) {row : Option Nat} (hg : w.grownBy w' row) (h1 : row ≠ some bp) (h2 : row ≠ some b2) (i : Nat) : (∀ u, (w'.setCell ⟨bp, i, none⟩ u).cell? ⟨b2, 0, none⟩ = some (.slice none 0 0)) ∧ (∀ u, (w'.setCell ⟨bp, i, none⟩ u).cell? ⟨b2, 1, none⟩ = some (.slice none 0 0)) ∧ ∀ u j, (w'.setCell ⟨bp, i, none⟩ u).frozen? ⟨b2, j, none⟩ = false := by
  obtain ⟨_, _, _, e1, e2, e3⟩ := h.four hg h1 h2
  have hn : (⟨bp, i, none⟩ : Addr).block ≠ b2 := fun e => h.n2p e.symm
  have hk : ∀ u, Keep (fun k => k = bp) w' (w'.setCell ⟨bp, i, none⟩ u) := fun u => Keep.setCell (T := fun k => k = bp) (p := ⟨bp, i, none⟩) (Keep.refl _ _) (fun _ => rfl) _
  have hl : b2 < w'.heap.size := Nat.lt_of_lt_of_le h.lts.1 hg.size
  exact ⟨fun u => ((hk u).cell (p := ⟨b2, 0, none⟩) hl (fun e => hn e.symm)).trans e1, fun u => ((hk u).cell (p := ⟨b2, 1, none⟩) hl (fun e => hn e.symm)).trans e2, fun u j => ((hk u).frozen (p := ⟨b2, j, none⟩) hl (fun e => hn e.symm)).trans (e3 j)⟩
theorem BAt.gbne (h : BAt P wo w g S A c bs f b2 bp gb cab vc v0 cs a0 rest) : (some gb ≠ some bp ∧ some gb ≠ some b2) ∧ (vc.ownBlock ≠ some bp ∧ vc.ownBlock ≠ some b2) ∧ (v0.ownBlock ≠ some bp ∧ v0.ownBlock ≠ some b2) := by
  obtain ⟨g1, g2, g3, g4, g5⟩ := h.gbs
  exact ⟨⟨fun e => g4 (by injection e), fun e => g3 (by injection e)⟩, ⟨fun e => (h.nc _ e).2 rfl, fun e => (h.nc _ e).1 rfl⟩, ⟨fun e => (h.O.blk _ e).2.2.2.2.1 rfl, fun e => (h.O.blk _ e).2.2.2.1 rfl⟩⟩
/-- What stays where a cell of another block is stored to. -/
theorem BAt.farS (h : BAt P wo w g S A c bs f b2 bp gb cab vc v0 cs a0 rest) {row : Option Nat} (hg : w.grownBy w' row) (h1 : row ≠ some bp) (h2 : row ≠ some b2) (q : Nat) (n1 : q ≠ bp) (n2 : q ≠ b2) : (∀ u, (w'.setCell ⟨q, 0, none⟩ u).cell? ⟨bp, 0, none⟩ = some vc) ∧ (∀ u, (w'.setCell ⟨q, 0, none⟩ u).cell? ⟨bp, 1, none⟩ = some (.slice (some ⟨gb, 0, none⟩) (rest.length + 1) cab)) ∧ (∀ u, (w'.setCell ⟨q, 0, none⟩ u).cell? ⟨b2, 0, none⟩ = some (.slice none 0 0)) ∧ (∀ u, (w'.setCell ⟨q, 0, none⟩ u).cell? ⟨b2, 1, none⟩ = some (.slice none 0 0)) ∧ ∀ u j, (w'.setCell ⟨q, 0, none⟩ u).frozen? ⟨b2, j, none⟩ = false := by
  obtain ⟨p0, p1, _, e1, e2, e3⟩ := h.four hg h1 h2
  have hk : ∀ u, Keep (fun k => k = q) w' (w'.setCell ⟨q, 0, none⟩ u) := fun u => Keep.setCell (T := fun k => k = q) (p := ⟨q, 0, none⟩) (Keep.refl _ _) (fun _ => rfl) _
  have hl : b2 < w'.heap.size := Nat.lt_of_lt_of_le h.lts.1 hg.size
  have hlp : bp < w'.heap.size := Nat.lt_of_lt_of_le h.lts.2.1 hg.size
  exact ⟨fun u => ((hk u).cell (p := ⟨bp, 0, none⟩) hlp (fun e => n1 e.symm)).trans p0, fun u => ((hk u).cell (p := ⟨bp, 1, none⟩) hlp (fun e => n1 e.symm)).trans p1, fun u => ((hk u).cell (p := ⟨b2, 0, none⟩) hl (fun e => n2 e.symm)).trans e1, fun u => ((hk u).cell (p := ⟨b2, 1, none⟩) hl (fun e => n2 e.symm)).trans e2, fun u j => ((hk u).frozen (p := ⟨b2, j, none⟩) hl (fun e => n2 e.symm)).trans (e3 j)⟩
theorem BAt.farA (h : BAt P wo w g S A c bs f b2 bp gb cab vc v0 cs a0 rest) (q : Nat) (n1 : q ≠ bp) (n2 : q ≠ b2) : (∀ u o, ((w.setCell ⟨q, 0, none⟩ u).alloc o).cell? ⟨bp, 0, none⟩ = some vc) ∧ (∀ u o, ((w.setCell ⟨q, 0, none⟩ u).alloc o).cell? ⟨bp, 1, none⟩ = some (.slice (some ⟨gb, 0, none⟩) (rest.length + 1) cab)) ∧ (∀ u o, ((w.setCell ⟨q, 0, none⟩ u).alloc o).cell? ⟨b2, 0, none⟩ = some (.slice none 0 0)) ∧ (∀ u o, ((w.setCell ⟨q, 0, none⟩ u).alloc o).cell? ⟨b2, 1, none⟩ = some (.slice none 0 0)) ∧ ∀ u o j, ((w.setCell ⟨q, 0, none⟩ u).alloc o).frozen? ⟨b2, j, none⟩ = false := by
  obtain ⟨p0, p1, p2, p3, p4⟩ := h.farS (grown_refl w none) (by simp) (by simp) q n1 n2
  obtain ⟨hl, hlp, _⟩ := h.lts
  have hb : ∀ u o, Below w.heap.size (w.setCell ⟨q, 0, none⟩ u) ((w.setCell ⟨q, 0, none⟩ u).alloc o) := fun u o => (Below.refl _ _).alloc (by simp) o
  exact ⟨fun u o => ((hb u o).cell (p := ⟨bp, 0, none⟩) hlp).trans (p0 u), fun u o => ((hb u o).cell (p := ⟨bp, 1, none⟩) hlp).trans (p1 u), fun u o => ((hb u o).cell (p := ⟨b2, 0, none⟩) hl).trans (p2 u), fun u o => ((hb u o).cell (p := ⟨b2, 1, none⟩) hl).trans (p3 u), fun u o j => ((hb u o).frozen (p := ⟨b2, j, none⟩) hl).trans (p4 u j)⟩
theorem BAt.appEnds (h : BAt P wo w g S A c bs f b2 bp gb cab vc v0 cs a0 rest) (hg : w.grownBy w' v0.ownBlock) : (∀ u, (w'.setCell ⟨gb, 0, none⟩ u).cell? ⟨bp, 0, none⟩ = some vc) ∧ (∀ u, (w'.setCell ⟨gb, 0, none⟩ u).cell? ⟨bp, 1, none⟩ = some (.slice (some ⟨gb, 0, none⟩) (rest.length + 1) cab)) ∧ (∀ u, (w'.setCell ⟨gb, 0, none⟩ u).cell? ⟨b2, 0, none⟩ = some (.slice none 0 0)) ∧ (∀ u, (w'.setCell ⟨gb, 0, none⟩ u).cell? ⟨b2, 1, none⟩ = some (.slice none 0 0)) ∧ ∀ u j, (w'.setCell ⟨gb, 0, none⟩ u).frozen? ⟨b2, j, none⟩ = false := h.farS hg h.gbne.2.2.1 h.gbne.2.2.2 gb h.gbs.2.2.2.1 h.gbs.2.2.1
/-- Three bodies of nothing. -/
theorem BAt.grow3 (h : BAt P wo w g S A c bs f b2 bp gb cab vc (.slice A0 n0 c0) cs a0 rest) (hg : w.grownBy w' (some gb))
    (ho : Own (Kd.hv (.slice A0 n0 c0) rfl (fun k => (Value.slice A0 n0 c0).ownBlock = some k) kAct) 32 w' wo.heap.size S3 v' (((true, a0) :: rest.map fun x => (false, x)) ++ [(false, []), (false, []), (false, [])])) (hS : ∀ k, S3 k → P k ∧ k ≠ b2 ∧ k ≠ bp ∧ vc.ownBlock ≠ some k)
    (hat : v'.ownBlock = some gb ∨ v'.ownBlock = some w.heap.size) :
    ∃ gb' cab', v' = .slice (some ⟨gb', 0, none⟩) (rest.length + 3 + 1) cab' ∧ BAt P wo (w'.setCell ⟨bp, 1, none⟩ v') g S A c bs f b2 bp gb' cab' vc (.slice A0 n0 c0) cs a0 (rest ++ [[], [], []]) := by
  have := h.grow (ys := [[], [], []]) hg ?_ hat
  · simpa using this
  have e : ((true, a0) :: rest.map fun x => (false, x)) ++ [(false, []), (false, []), (false, [])] = (true, a0) :: (rest ++ [[], [], []]).map fun x => (false, x) := by simp
  rw [← e]
  exact ho.mono hS
end
theorem Row.drew1 {α : Type} {d : Kd α} {w : World} {S : Nat → Prop} {A : Option Addr} {xs : List α} (h : Row d w S A xs) : Row d w.drew S A xs := Row.move (w := w) (w' := w.drew) (fun _ _ => rfl) h
theorem nums2 {w : World} {b : Nat} {t : TypeId} (h : w.heap[b]? = some (.cells #[.int .i64 (-1), .int .i64 100] t (0, 0))) (j : Nat) (hj : j < 2) : ∃ y : Int, w.cell? ⟨b, j, none⟩ = some (.int .i64 y) ∧ isI y := by
  rw [cell_of_row _ _ j _ _ _ h]
  match j, hj with
  | 0, _ => exact ⟨-1, rfl, by omega, by omega⟩
  | 1, _ => exact ⟨100, rfl, by omega, by omega⟩
theorem nums2_new (w : World) (j : Nat) (hj : j < 2) : ∃ y : Int, (w.alloc (.cells #[.int .i64 (-1), .int .i64 100] 3)).cell? ⟨w.heap.size, j, none⟩ = some (.int .i64 y) ∧ isI y := nums2 (heap_alloc_new w _) j hj
theorem row3z {w : World} {e : Nat} : Row Kd.int (w.alloc (.cells #[.int .i64 0, .int .i64 0, .int .i64 0] e)) (fun k => k = w.heap.size) (some ⟨w.heap.size, 0, none⟩) [0, 0, 0] := by
  refine Row.inBlock (heap_alloc_new w _) rfl (by simp) fun j z hj => ?_
  match j with
  | 0 | 1 | 2 => injection hj with hj; subst hj; refine ⟨_, ⟨rfl, by omega, by omega⟩, fun i u hu => ?_⟩; match i with | 0 => exact hu | i + 1 => simp at hu
  | j + 3 => simp at hj
theorem row_none3 {w : World} {S : Nat → Prop} {b e : Nat} {v : Value} (h1 : v.oneCell' = true) {Z : Nat → Prop} {A1 A2 A3 : Option Addr} (hb : w.heap[b]? = some (.cells #[.slice A1 0 0, .slice A2 0 0, .slice A3 0 0] e (0, 0))) (hs : S b) (hz : ∀ k, S k → ¬ Z k) :
    Row (Kd.hv v h1 Z kAct) w S (some ⟨b, 0, none⟩) [(false, []), (false, []), (false, [])] := by
  refine Row.inBlock hb hs (by simp) fun j z hj => ?_
  match j with
  | 0 => injection hj with hj; subst hj; refine ⟨_, Kd.hv_tail (x := []) (A := A1) (c := 0) h1 Z (Row.nil _ _ _ _) hz (Nat.le_refl _), fun i u hu => ?_⟩; match i with | 0 => exact hu | i + 1 => simp at hu
  | 1 => injection hj with hj; subst hj; refine ⟨_, Kd.hv_tail (x := []) (A := A2) (c := 0) h1 Z (Row.nil _ _ _ _) hz (Nat.le_refl _), fun i u hu => ?_⟩; match i with | 0 => exact hu | i + 1 => simp at hu
  | 2 => injection hj with hj; subst hj; refine ⟨_, Kd.hv_tail (x := []) (A := A3) (c := 0) h1 Z (Row.nil _ _ _ _) hz (Nat.le_refl _), fun i u hu => ?_⟩; match i with | 0 => exact hu | i + 1 => simp at hu
  | j + 3 => simp at hj
end Go.Proofs.Ytcpabkfoalhldaa
