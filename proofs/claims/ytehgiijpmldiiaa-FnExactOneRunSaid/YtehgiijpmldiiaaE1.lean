/- The reference does a body act by act. -/
import Derived.Test.YtehgiijpmldiiaaC2
import Derived.Test.YtehgiijpmldiiaaA5
import Derived.Test.YtehgiijpmldiiaaLib4
namespace Go.Proofs.Ytehgiijpmldiiaa
open Go.RowKit
set_option linter.unusedVariables false
set_option linter.unusedSimpArgs false

theorem specChangeDo_calls (cells regs : List Int) (deeds : List Deed) (A B D : Option Addr) (ca cb cd : Nat) (w : World) (S S1 S2 : Nat → Prop) (hA : Row Kd.int w S1 A cells) (hB : Row Kd.int w S2 B regs) (hD : Row kDeed w S D deeds) :
    Calls Try.prog 61 #[.slice A cells.length ca, .slice B regs.length cb, .slice D deeds.length cd] w fun e w' => ResCD (changeDo cells regs deeds) w.heap.size e w' ∧ Below w.heap.size w w' := by
  have h1 := hA.mono (S' := fun _ => True) (fun _ _ => trivial)
  have h2 := hB.mono (S' := fun _ => True) (fun _ _ => trivial)
  have h3 := hD.mono (S' := fun _ => True) (fun _ _ => trivial)
  unfold changeDo
  cases h : deskOk cells regs deeds
  · exact specChangeDo_bad cells regs deeds A B D ca cb cd w _ h1 h2 h3 h
  · exact specChangeDo_good cells regs deeds A B D ca cb cd w _ h1 h2 h3 h
theorem mk3s (w : World) : (Instr.makeSlice 23 (.int .i64 3) (.int .i64 3)).run Try.prog w = .ok (.slice (some ⟨w.heap.size, 0, none⟩) 3 3) (w.alloc (.cells #[.int .i64 0, .int .i64 0, .int .i64 0] 3)) := by kernel_rfl
theorem ownI_zeros' (w : World) (base : Nat) (hb : base ≤ w.heap.size) : OwnI 3 (w.alloc (.cells #[.int .i64 0, .int .i64 0, .int .i64 0] 3)) base (.slice (some ⟨w.heap.size, 0, none⟩) 3 3) [0, 0, 0] := by
  refine own_intro [[.int .i64 0], [.int .i64 0], [.int .i64 0]] ⟨rfl, .inr ⟨w.heap.size, 3, _, rfl, hb, heap_alloc_new w _, Nat.le_refl _, by simp [maxLen], rfl, rfl⟩⟩ rfl (fun k hk => hk) (fun j x hj => ?_)
  have hj3 : j < 3 := (List.getElem?_eq_some_iff.1 hj).1
  have : j = 0 ∨ j = 1 ∨ j = 2 := by omega
  rcases this with rfl | rfl | rfl <;> (simp at hj; subst hj; exact ⟨_, rfl, rfl, by decide, by decide⟩)

/-- The state of the reference's run: a program, cells of the call's own, and whether it is stuck; at block g. -/
structure OneAt (w : World) (base g : Nat) (A B : Option Addr) (nA ca nB cb : Nat) (vc : Value) (c : List Int) (stuck : Bool) : Prop where
  blk : w.heap[g]? = some (.cells #[.slice A nA ca, .slice B nB cb, vc, .bool stuck] 69 (0, 0))
  C : OwnI 3 w base vc c
  ne : ∀ k, vc.ownBlock = some k → k ≠ g
section
variable {w w' : World} {base g : Nat} {A B : Option Addr} {nA ca nB cb : Nat} {vc : Value} {c : List Int} {stuck : Bool}
theorem OneAt.lt (h : OneAt w base g A B nA ca nB cb vc c stuck) : g < w.heap.size := (Array.getElem?_eq_some_iff.1 h.blk).1
theorem OneAt.cell (h : OneAt w base g A B nA ca nB cb vc c stuck) (i : Nat) : w.cell? ⟨g, i, none⟩ = (#[.slice A nA ca, .slice B nB cb, vc, .bool stuck] : Array Value)[i]? := cell_of_row w g i _ _ _ h.blk
theorem OneAt.frozen (h : OneAt w base g A B nA ca nB cb vc c stuck) (i : Nat) : w.frozen? ⟨g, i, none⟩ = false := by
  have := h.blk
  simp [World.frozen?, this]
theorem OneAt.keep {T : Nat → Prop} (h : OneAt w base g A B nA ca nB cb vc c stuck) (hk : Keep T w w') (hg : ¬ T g) (hc : ∀ k, vc.ownBlock = some k → ¬ T k) : OneAt w' base g A B nA ca nB cb vc c stuck :=
  ⟨hk.blk h.blk hg, h.C.keep hk hc, h.ne⟩
theorem OneAt.below (h : OneAt w base g A B nA ca nB cb vc c stuck) (hb : Below w.heap.size w w') : OneAt w' base g A B nA ca nB cb vc c stuck :=
  h.keep (Keep.of_belowAll (fun _ => False) hb) (fun h => h) (fun _ _ h => h)
theorem OneAt.setStuck (h : OneAt w base g A B nA ca nB cb vc c stuck) (b : Bool) : OneAt (w.setCell ⟨g, 3, none⟩ (.bool b)) base g A B nA ca nB cb vc c b := by
  refine ⟨?_, h.C.far (fun k hk => h.ne k hk) _, h.ne⟩
  have := h.blk
  simp [World.setCell, Array.getElem?_modify, this]
theorem OneAt.setCells (h : OneAt w base g A B nA ca nB cb vc c stuck) {v' : Value} {c' : List Int} (ho : OwnI 3 w base v' c') (hne : ∀ k, v'.ownBlock = some k → k ≠ g) : OneAt (w.setCell ⟨g, 2, none⟩ v') base g A B nA ca nB cb v' c' stuck := by
  refine ⟨?_, ho.far (fun k hk => hne k hk) _, hne⟩
  have := h.blk
  simp [World.setCell, Array.getElem?_modify, this]
end

/-- What a body leaves: it fails, or comes to its end, or is stuck. -/
def ResBody (r : Option (List Int × Bool)) (w : World) (base g : Nat) (A B : Option Addr) (nA ca nB cb : Nat) (e : Ending) (w' : World) : Prop :=
  Keep (fun k => k = g) w w' ∧ match r with
  | none => ∃ vc c, e = .returned (.bool true) ∧ OneAt w' base g A B nA ca nB cb vc c true
  | some (c, f) => ∃ vc, e = .returned (.bool (!f)) ∧ OneAt w' base g A B nA ca nB cb vc c false
end Go.Proofs.Ytehgiijpmldiiaa
