/- What a call leaves as it was: all old blocks but some. -/
import Derived.Test.YtehgiijpmldiiaaLib3
namespace Go.Proofs.Ytehgiijpmldiiaa
open Go.RowKit
set_option linter.unusedSimpArgs false
set_option linter.unusedVariables false

/-- Of w's blocks only those of T may have turned. -/
structure Keep (T : Nat → Prop) (w w' : World) : Prop where
  os : w'.os = w.os
  tape : w'.tape = w.tape
  output : w'.output = w.output
  size : w.heap.size ≤ w'.heap.size
  block : ∀ k, k < w.heap.size → ¬ T k → w'.heap[k]? = w.heap[k]?
section
variable {T T' : Nat → Prop} {w w' w2 : World}
theorem Keep.refl (T : Nat → Prop) (w : World) : Keep T w w := ⟨rfl, rfl, rfl, Nat.le_refl _, fun _ _ _ => rfl⟩
theorem Keep.trans (h : Keep T w w') (k : Keep T w' w2) : Keep T w w2 :=
  ⟨k.os.trans h.os, k.tape.trans h.tape, k.output.trans h.output, Nat.le_trans h.size k.size, fun i hi hT => (k.block i (Nat.lt_of_lt_of_le hi h.size) hT).trans (h.block i hi hT)⟩
/-- The second step may turn what was made since, too. -/
theorem Keep.then_ (h : Keep T w w') (k : Keep T' w' w2) (hT : ∀ i, i < w.heap.size → T' i → T i) : Keep T w w2 :=
  ⟨k.os.trans h.os, k.tape.trans h.tape, k.output.trans h.output, Nat.le_trans h.size k.size, fun i hi hn => (k.block i (Nat.lt_of_lt_of_le hi h.size) (fun h => hn (hT i hi h))).trans (h.block i hi hn)⟩
theorem Keep.mono (h : Keep T w w') (hT : ∀ k, T k → T' k) : Keep T' w w' := ⟨h.os, h.tape, h.output, h.size, fun i hi hn => h.block i hi fun h => hn (hT i h)⟩
theorem Keep.alloc (h : Keep T w w') (o : Obj) : Keep T w (w'.alloc o) := h.trans ⟨rfl, rfl, rfl, by simp, fun k hk _ => Below.heap_alloc _ _ _ hk⟩
theorem Keep.drewN (h : Keep T w w') (n : Nat) : Keep T w (w'.drewN n) := ⟨h.os, h.tape, h.output, h.size, h.block⟩
theorem Keep.drew (h : Keep T w w') : Keep T w w'.drew := ⟨h.os, h.tape, h.output, h.size, h.block⟩
theorem Keep.setCell (h : Keep T w w') {p : Addr} (hp : p.block < w.heap.size → T p.block) (u : Value) : Keep T w (w'.setCell p u) :=
  ⟨h.os, h.tape, h.output, by simpa [World.setCell] using h.size, fun k hk hn => (Below.heap_setCell w' p u k (fun e => hn (by rw [e]; exact hp (by omega)))).trans (h.block k hk hn)⟩
theorem Keep.of_below {B : Nat} (h : Below B w w') (hB : ∀ k, B ≤ k → k < w.heap.size → T k) : Keep T w w' :=
  ⟨h.os, h.tape, h.output, h.size, fun k hk hn => by
    rcases Nat.lt_or_ge k B with h1 | h1
    · exact h.block k h1
    · exact absurd (hB k h1 hk) hn⟩
theorem Keep.of_belowAll (T : Nat → Prop) (h : Below w.heap.size w w') : Keep T w w' := ⟨h.os, h.tape, h.output, h.size, fun k hk _ => h.block k hk⟩
theorem Keep.of_grown {row : Option Nat} (h : w.grownBy w' row) (hr : ∀ k, row = some k → T k) : Keep T w w' := ⟨h.os, h.tape, h.output, h.size, fun k hk hn => h.block k hk (fun e => hn (hr k e.symm))⟩
theorem Keep.below {B : Nat} (h : Keep T w w') (hB : ∀ k, k < B → ¬ T k) (hs : B ≤ w.heap.size) : Below B w w' := ⟨h.os, h.tape, h.output, h.size, fun k hk => h.block k (by omega) (hB k hk)⟩
theorem Keep.belowAll (h : Keep (fun _ => False) w w') : Below w.heap.size w w' := ⟨h.os, h.tape, h.output, h.size, fun k hk => h.block k hk (fun h => h)⟩
theorem Keep.cell (h : Keep T w w') {p : Addr} (hp : p.block < w.heap.size) (hT : ¬ T p.block) : w'.cell? p = w.cell? p := World.cell?_of_block (w := w) (h.block p.block hp hT)
theorem Keep.frozen (h : Keep T w w') {p : Addr} (hp : p.block < w.heap.size) (hT : ¬ T p.block) : w'.frozen? p = w.frozen? p := World.frozen?_of_block (w := w) (h.block p.block hp hT)
theorem Keep.blk (h : Keep T w w') {k : Nat} {o : Obj} (hk : w.heap[k]? = some o) (hT : ¬ T k) : w'.heap[k]? = some o := (h.block k (Array.getElem?_eq_some_iff.1 hk).1 hT).trans hk
theorem OwnI.keep {e base : Nat} {v : Value} {xs : List Int} (h : OwnI e w base v xs) (hk : Keep T w w') (hT : ∀ k, v.ownBlock = some k → ¬ T k) : OwnI e w' base v xs := h.step fun k h1 h2 => hk.block k h2 (hT k h1)
theorem Row.keep {α : Type} {d : Kd α} {S : Nat → Prop} {A : Option Addr} {xs : List α} (h : Row d w S A xs) (hk : Keep T w w') (hT : ∀ k, S k → k < w.heap.size → ¬ T k) : Row d w' S A xs := h.step fun k h1 h2 => hk.block k h2 (hT k h1 h2)
theorem Kd.keep {α : Type} {d : Kd α} {S : Nat → Prop} {x : α} {cs : List Value} (h : d.K w S x cs) (hk : Keep T w w') (hT : ∀ k, S k → k < w.heap.size → ¬ T k) : d.K w' S x cs := Kd.step h fun k h1 h2 => hk.block k h2 (hT k h1 h2)
end
end Go.Proofs.Ytehgiijpmldiiaa
