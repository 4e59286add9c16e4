/- The reference's OneRun; the laws' word on two rows of numbers. -/
import Derived.Test.YtehgiijpmldiiaaE2
import Derived.Deep.RegionHeld3
namespace Go.Proofs.Ytehgiijpmldiiaa
open Go.RowKit
set_option linter.unusedVariables false
set_option linter.unusedSimpArgs false

/-- What comes back of a run. -/
def ResRun (r : Option (List Int × Bool)) (B : Nat) (e : Ending) (w' : World) : Prop :=
  match r with
  | none => ∃ vc, e = .returned (.tuple #[vc, .bool false, .bool false]) ∧ OwnI 3 w' B vc []
  | some (c, f) => ∃ vc, e = .returned (.tuple #[vc, .bool f, .bool true]) ∧ OwnI 3 w' B vc c

set_option maxHeartbeats 2000000 in
set_option maxRecDepth 100000 in
theorem specOneRun_calls (p : Prog) (A B : Option Addr) (ca cb : Nat) (w : World) (S : Nat → Prop) (hA : Row Kd.int w S A p.cells) (hB : Row (Kd.slice kAct) w S B p.bodies) :
    Calls Try.prog 8 #[.agg #[.slice A p.cells.length ca, .slice B p.bodies.length cb]] w fun e w' => ResRun (oneRun p) w.heap.size e w' ∧ Below w.heap.size w w' := by
  have hb1 : ∀ o, Below w.heap.size w (w.alloc o) := fun o => (Below.refl _ _).alloc (Nat.le_refl _) _
  have hA1 := fun o => hA.belowAll (hb1 o)
  have hB1 := fun o => hB.belowAll (hb1 o)
  cases hok : progOk p
  · have hr : oneRun p = none := by simp [oneRun, hok]
    rw [hr]
    have HF := Lib.hid hok
    clear hok hr
    go_enter Try.func8, Try.ntmps8
    go_wp2_with (go_at_call 30; refine (specProgOk_calls p _ _ _ _ _ S (hA1 _) (hB1 _)).mono ?_; rintro e w1 ⟨rfl, hb2⟩; rw [HF.out])
    go_ret3
    have hb3 := (hb1 (Obj.cells #[.slice A p.cells.length ca, .slice B p.bodies.length cb] 26)).trans (hb2.mono (by simp))
    exact ⟨⟨_, rfl, ownI_empty _ _ _ hb3.size⟩, hb3.alloc hb3.size _⟩
  · have hr : oneRun p = oneBody 4 p p.cells 0 := by simp [oneRun, hok]
    rw [hr]
    have HF := Lib.hid hok
    have hform : formOk p = true := by simp only [progOk, Bool.and_eq_true] at hok; exact hok.1
    have HFO := Lib.hid hform
    have hlen := formOk_len hform
    clear hok hr hform
    go_enter Try.func8, Try.ntmps8
    go_wp2_with (go_at_call 30; refine (specProgOk_calls p _ _ _ _ _ S (hA1 _) (hB1 _)).mono ?_; rintro e w1 ⟨rfl, hb2⟩; rw [HF.out])
    have hb3 := (hb1 (Obj.cells #[.slice A p.cells.length ca, .slice B p.bodies.length cb] 26)).trans (hb2.mono (by simp))
    have hc1 := hb2.cell (p := ⟨w.heap.size, 0, none⟩) (by simp)
    have hc2 := hb2.cell (p := ⟨w.heap.size, 1, none⟩) (by simp)
    have hz1 : w.heap.size < w1.heap.size := by have := hb2.size; simp at this; omega
    simp [go_sem] at hc1 hc2
    have hAw := hA.belowAll hb3
    have hBw := hB.belowAll hb3
    have hbw : Below w1.heap.size w1 w1.drew := (Below.refl _ _).drew
    go_region_held3 (fun w' => w'.cell? ⟨w.heap.size, 0, none⟩ = some (.slice A p.cells.length ca) ∧ w'.cell? ⟨w.heap.size, 1, none⟩ = some (.slice B p.bodies.length cb) ∧ Below w1.heap.size w1 w')
      (first | (go_keep; done) | ((try dsimp only); (refine ⟨?_, ?_, ?_⟩ <;> (first | (go_keep; done) | exact q1 | exact q2 | exact q0 | exact Below.alloc q0 (Below.size q0) _ | exact (by repeat (first | exact Below.refl _ _ | (refine Below.alloc ?_ (by simp) _) | (refine Below.setCell ?_ (by simp) _) | (refine below_drewN' ?_ _) | (refine Below.drew ?_)))))) | (go_split_ands; exact ⟨q1, q2, q0⟩))
      ((refine step_clone_kd (d := Kd.int) w1.drew rfl (by rfl) _ _ _ (by rfl) Try.underlying23 _ 8 infoInt rfl (by decide) (by decide) (by rfl) A ca (by rfl) (Row.belowAll hAw hbw) (by omega) ?_; intro vc w2 hoc hbc; have q0 : Below w1.heap.size w1 w2 := ⟨hbc.os, hbc.tape, hbc.output, hbc.size, hbc.block⟩; have q1 := (q0.cell (p := ⟨w.heap.size, 0, none⟩) hz1).trans hc1; have q2 := (q0.cell (p := ⟨w.heap.size, 1, none⟩) hz1).trans hc2; obtain ⟨Ac, cc, rfl, hcc, hrc⟩ := Own.row hoc; clear hrc))
    obtain ⟨_, _, hbx⟩ := ‹_ ∧ _ ∧ Below w1.heap.size w1 _›
    have hO : OneAt (w2.alloc (Obj.cells #[.slice A p.cells.length ca, .slice B p.bodies.length cb, .slice Ac p.cells.length cc, .bool false] 69)) w.heap.size w2.heap.size A B p.cells.length ca p.bodies.length cb (.slice Ac p.cells.length cc) p.cells false := by
      have ho2 : OwnI 3 w2 w.heap.size (.slice Ac p.cells.length cc) p.cells := (OwnI.of hoc).lower (by simp; omega)
      refine ⟨heap_alloc_new _ _, ho2.al _, fun k hk => ?_⟩
      have := (ho2.blk k hk).2
      omega
    obtain ⟨W5, HW⟩ : ∃ W5, W5 = w2.alloc (Obj.cells #[.slice A p.cells.length ca, .slice B p.bodies.length cb, .slice Ac p.cells.length cc, .bool false] 69) := ⟨_, rfl⟩
    have hz5 : w1.heap.size ≤ w2.heap.size := q0.size
    rw [← HW] at hO hbx ⊢
    have hB5 : Row (Kd.slice kAct) W5 (fun k => S k ∧ k < w.heap.size) B p.bodies := ((hB.bound.belowAll hb3).belowAll hbx)
    have hwz : w.heap.size ≤ W5.heap.size := by have := hbx.size; omega
    cases hob : oneBody 4 p p.cells 0 with
    | none =>
      have HOB := Lib.hid hob
      clear hob HW
      go_wp2_with (go_at_call 31; refine (specBody_calls p HFO.out 4 (by omega) 0 (by omega) (by omega) A B ca cb p.cells _ w.heap.size w2.heap.size W5 _ hB5 (fun k hk => by have := hk.2; omega) hO hwz).mono ?_; rw [HOB.out]; rintro e w6 ⟨hk6, vc6, c6, rfl, hO6⟩; have t2 := hO6.cell 2; have t3 := hO6.cell 3; simp at t2 t3)
      go_ret3
      have hb6 : Below w.heap.size w w6 := hb3.trans ((hbx.mono (Nat.le_of_lt hz1)).trans (hk6.below (fun k hk e => by omega) hwz))
      exact ⟨by rw [HOB.out]; exact ⟨_, rfl, ownI_empty _ _ _ hb6.size⟩, hb6.alloc hb6.size _⟩
    | some x =>
      obtain ⟨c, f⟩ := x
      have HOB := Lib.hid hob
      clear hob HW
      go_wp2_with (go_at_call 31; refine (specBody_calls p HFO.out 4 (by omega) 0 (by omega) (by omega) A B ca cb p.cells _ w.heap.size w2.heap.size W5 _ hB5 (fun k hk => by have := hk.2; omega) hO hwz).mono ?_; rw [HOB.out]; rintro e w6 ⟨hk6, vc6, rfl, hO6⟩; have t2 := hO6.cell 2; have t3 := hO6.cell 3; simp at t2 t3)
      go_ret3
      have hb6 : Below w.heap.size w w6 := hb3.trans ((hbx.mono (Nat.le_of_lt hz1)).trans (hk6.below (fun k hk e => by omega) hwz))
      exact ⟨by rw [HOB.out]; exact ⟨_, rfl, hO6.C⟩, hb6⟩

set_option maxHeartbeats 2000000 in
set_option maxRecDepth 100000 in
theorem lqInts_calls (xs ys : List Int) (A B : Option Addr) (ca cb : Nat) (w : World) (S S2 : Nat → Prop) (hA : Row Kd.int w S A xs) (hB : Row Kd.int w S2 B ys) :
    Calls Try.prog 10 #[.slice A xs.length ca, .slice B ys.length cb] w fun e w' => e = .returned (.bool (decide (xs = ys))) ∧ Below w.heap.size w w' := by
  have hm := hA.1
  have hm2 := hB.1
  by_cases hl : xs.length = ys.length
  rotate_left
  · have hne : ((xs.length : Int) != ys.length) = true := by simp; omega
    have hd : decide (xs = ys) = false := by simp; intro e; exact hl (by rw [e])
    rw [hd]
    clear hl hd
    go_enter Try.func10, Try.ntmps10
    go_wp2
    go_ret
    exact ⟨rfl, Below.refl _ _⟩
  · have hne : ((xs.length : Int) != ys.length) = false := by simp; omega
    have HL := Lib.hid hl
    clear hl
    go_enter Try.func10, Try.ntmps10
    go_wp2
    go_loopw [5] (fun i wr => ∃ k : Nat, k ≤ xs.length ∧ i = .int .i64 k ∧ Hid (xs.take k = ys.take k) ∧ Below w.heap.size w wr) (fun i _ => xs.length - (intOf i).toNat)
    case atStart => exact ⟨0, Nat.zero_le _, rfl, rfl, Below.refl _ _⟩
    case round =>
      obtain ⟨k, hk, rfl, HA, hbr⟩ := hrel
      by_cases hlt : k < xs.length
      · have hlt2 : k < ys.length := by rw [← HL.out]; exact hlt
        obtain ⟨ad, rfl, hl1, hc1, hi1⟩ := at_int (hA.belowAll hbr) hlt
        obtain ⟨ad2, rfl, hl2, hc2, hi2⟩ := at_int (hB.belowAll hbr) hlt2
        have x1 : (k : Int) < xs.length := by omega
        have x2 : (k : Int) < ys.length := by omega
        have x3 : (0 : Int) ≤ k := by omega
        by_cases he : xs[k] = ys[k]
        · have hb : (xs[k] != ys[k]) = false := by simp [he]
          have HEQ := Lib.hid he
          clear he
          go_wp2
          go_quiet (fail)
          go_wp2
          go_roundw
          case rel => exact ⟨k + 1, by omega, by go_num, by unfold Hid; rw [List.take_succ_eq_append_getElem hlt, List.take_succ_eq_append_getElem hlt2, HA.out, HEQ.out], below_drewN' hbr _⟩
          case measure => simp [intOf]; omega
        · have hb : (xs[k] != ys[k]) = true := by simp [he]
          have hd : decide (xs = ys) = false := by simp; intro e; subst e; exact he rfl
          have HDD := Lib.hid hd
          clear he hd
          go_wp2
          go_quiet (fail)
          go_wp2
          go_ret
          exact ⟨ret_bool HDD.out.symm, below_drewN' hbr _⟩
      · have hd : decide (xs = ys) = true := by
          have := HA.out
          rw [List.take_of_length_le (by omega), List.take_of_length_le (by rw [← HL.out]; omega)] at this
          simp [this]
        have HDD := Lib.hid hd
        clear hd
        go_wp2
        go_ret
        exact ⟨ret_bool HDD.out.symm, hbr⟩
end Go.Proofs.Ytehgiijpmldiiaa
