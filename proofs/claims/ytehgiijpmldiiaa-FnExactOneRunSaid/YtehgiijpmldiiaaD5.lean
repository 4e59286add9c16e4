/- The program's OneRun. -/
import Derived.Test.YtehgiijpmldiiaaD4
import Derived.Deep.RegionHeld3
namespace Go.Proofs.Ytehgiijpmldiiaa
open Go.RowKit
set_option linter.unusedVariables false
set_option linter.unusedSimpArgs false

set_option maxHeartbeats 2000000 in
set_option maxRecDepth 100000 in
theorem implOneRun_calls (p : Prog) (A B : Option Addr) (ca cb : Nat) (w : World) (S : Nat → Prop) (hA : Row Kd.int w S A p.cells) (hB : Row (Kd.slice kAct) w S B p.bodies) :
    Calls Try.prog 9 #[.agg #[.slice A p.cells.length ca, .slice B p.bodies.length cb]] w fun e w' => ResOne (oneRun p) w.heap.size e w' ∧ Below w.heap.size w w' := by
  have hb1 : ∀ o, Below w.heap.size w (w.alloc o) := fun o => (Below.refl _ _).alloc (Nat.le_refl _) _
  have hA1 := fun o => hA.belowAll (hb1 o)
  have hB1 := fun o => hB.belowAll (hb1 o)
  cases hok : progOk p
  · have hr : oneRun p = none := by simp [oneRun, hok]
    rw [hr]
    have HF := Lib.hid hok
    clear hok hr
    go_enter Try.func9, Try.ntmps9
    go_wp2_with (go_at_call 32; refine (implProgOk_calls p _ _ _ _ _ S (hA1 _) (hB1 _)).mono ?_; rintro e w1 ⟨rfl, hb2⟩; rw [HF.out])
    go_ret3
    exact ⟨rfl, (hb1 _).trans (hb2.mono (by simp))⟩
  · have hr : oneRun p = oneBody 4 p p.cells 0 := by simp [oneRun, hok]
    rw [hr]
    have HF := Lib.hid hok
    have hform : formOk p = true := by simp only [progOk, Bool.and_eq_true] at hok; exact hok.1
    have HFO := Lib.hid hform
    have hlen := formOk_len hform
    clear hok hr hform
    go_enter Try.func9, Try.ntmps9
    go_wp2_with (go_at_call 32; refine (implProgOk_calls p _ _ _ _ _ S (hA1 _) (hB1 _)).mono ?_; rintro e w1 ⟨rfl, hb2⟩; rw [HF.out])
    have hb3 := (hb1 (Obj.cells #[.slice A p.cells.length ca, .slice B p.bodies.length cb] 26)).trans (hb2.mono (by simp))
    have hc1 := hb2.cell (p := ⟨w.heap.size, 0, none⟩) (by simp)
    have hc2 := hb2.cell (p := ⟨w.heap.size, 1, none⟩) (by simp)
    have hz1 : w.heap.size < w1.heap.size := by have := hb2.size; simp at this; omega
    simp [go_sem] at hc1 hc2
    have hbw : Below w1.heap.size w1 w1.drew := (Below.refl _ _).drew
    have hAw := hA.belowAll hb3
    have hBw := hB.belowAll hb3
    cases hob : oneBody 4 p p.cells 0 with
    | none =>
      have HOB := Lib.hid hob
      clear hob
      go_region_held3 (fun w' => w'.cell? ⟨w.heap.size, 0, none⟩ = some (.slice A p.cells.length ca) ∧ w'.cell? ⟨w.heap.size, 1, none⟩ = some (.slice B p.bodies.length cb) ∧ Below w1.heap.size w1 w') (go_keep)
        (first | (go_at_call 34; refine (cloneInt_calls p.cells _ _ _ S (Row.belowAll hAw ‹Below w1.heap.size w1 _›) (by omega)).mono ?_; rintro e w2 ⟨vc, rfl, hoc, hbc⟩; have q0 := below_then ‹Below w1.heap.size w1 _› (Below.size ‹Below w1.heap.size w1 _›) hbc; have q1 := (q0.cell (p := ⟨w.heap.size, 0, none⟩) hz1).trans hc1; have q2 := (q0.cell (p := ⟨w.heap.size, 1, none⟩) hz1).trans hc2; obtain ⟨Ac, cc, rfl, hcc, hrc⟩ := OwnI.row hoc; clear hrc) | (go_at_call 33; refine (implOneBody_calls p HFO.out 4 (by omega) 0 (by omega) (by omega) _ _ _ _ p.cells _ w.heap.size _ S (Row.belowAll hBw ‹Below w1.heap.size w1 _›) (OwnI.lower (Nat.le_trans (Nat.le_of_lt hz1) (Below.size ‹Below w1.heap.size w1 _›)) (OwnI.belowAll hoc (Below.refl _ _))) (Nat.le_trans (Nat.le_of_lt hz1) (Below.size ‹Below w1.heap.size w1 _›))).mono ?_; rw [HOB.out]; rintro e w4 ⟨rfl, hb4⟩; have q0 := below_then ‹Below w1.heap.size w1 _› (Below.size ‹Below w1.heap.size w1 _›) hb4; have q1 := (q0.cell (p := ⟨w.heap.size, 0, none⟩) hz1).trans hc1; have q2 := (q0.cell (p := ⟨w.heap.size, 1, none⟩) hz1).trans hc2))
      obtain ⟨_, _, hbx⟩ := ‹_ ∧ _ ∧ Below w1.heap.size w1 _›
      go_wp2
      go_ret3
      exact ⟨by rw [HOB.out]; exact rfl, hb3.trans (hbx.mono (Nat.le_of_lt hz1))⟩
    | some x =>
      obtain ⟨c, f⟩ := x
      have HOB := Lib.hid hob
      clear hob
      go_region_held3 (fun w' => w'.cell? ⟨w.heap.size, 0, none⟩ = some (.slice A p.cells.length ca) ∧ w'.cell? ⟨w.heap.size, 1, none⟩ = some (.slice B p.bodies.length cb) ∧ Below w1.heap.size w1 w') (go_keep)
        (first | (go_at_call 34; refine (cloneInt_calls p.cells _ _ _ S (Row.belowAll hAw ‹Below w1.heap.size w1 _›) (by omega)).mono ?_; rintro e w2 ⟨vc, rfl, hoc, hbc⟩; have q0 := below_then ‹Below w1.heap.size w1 _› (Below.size ‹Below w1.heap.size w1 _›) hbc; have q1 := (q0.cell (p := ⟨w.heap.size, 0, none⟩) hz1).trans hc1; have q2 := (q0.cell (p := ⟨w.heap.size, 1, none⟩) hz1).trans hc2; obtain ⟨Ac, cc, rfl, hcc, hrc⟩ := OwnI.row hoc; clear hrc) | (go_at_call 33; refine (implOneBody_calls p HFO.out 4 (by omega) 0 (by omega) (by omega) _ _ _ _ p.cells _ w.heap.size _ S (Row.belowAll hBw ‹Below w1.heap.size w1 _›) (OwnI.lower (Nat.le_trans (Nat.le_of_lt hz1) (Below.size ‹Below w1.heap.size w1 _›)) (OwnI.belowAll hoc (Below.refl _ _))) (Nat.le_trans (Nat.le_of_lt hz1) (Below.size ‹Below w1.heap.size w1 _›))).mono ?_; rw [HOB.out]; rintro e w4 ⟨⟨vr, rfl, hor⟩, hb4⟩; have q0 := below_then ‹Below w1.heap.size w1 _› (Below.size ‹Below w1.heap.size w1 _›) hb4; have q1 := (q0.cell (p := ⟨w.heap.size, 0, none⟩) hz1).trans hc1; have q2 := (q0.cell (p := ⟨w.heap.size, 1, none⟩) hz1).trans hc2))
      obtain ⟨_, _, hbx⟩ := ‹_ ∧ _ ∧ Below w1.heap.size w1 _›
      go_wp2
      go_ret3
      exact ⟨by rw [HOB.out]; exact ⟨_, rfl, hor⟩, hb3.trans (hbx.mono (Nat.le_of_lt hz1))⟩
end Go.Proofs.Ytehgiijpmldiiaa
