/- The reference's look at an act that is a change. -/
import Derived.Test.YtehgiijpmldiiaaA2
namespace Go.Proofs.Ytehgiijpmldiiaa
open Go.RowKit
set_option linter.unusedVariables false
set_option linter.unusedSimpArgs false
section
variable (A B D E : Option Addr) (ca cb cd ce : Nat) (w : World) (S : Nat → Prop)
set_option maxHeartbeats 1000000 in
set_option maxRecDepth 100000 in
theorem l1Act_1 (p : Prog) (deeds : List Deed) (kids : List Int) (reg body : Int) (hm4 : kids.length ≤ 9223372036854775807) (hm1 : p.cells.length ≤ 9223372036854775807) (hd : Row kDeed w S D deeds) :
    Calls Try.prog 90 #[.agg #[.slice A p.cells.length ca, .slice B p.bodies.length cb], .int .i64 body, .agg #[.int .i64 1, .slice D deeds.length cd, .slice E kids.length ce, .int .i64 reg]] w
      fun e w' => e = .returned (.bool (actOk ⟨1, deeds, kids, reg⟩ p.cells.length body p.bodies.length)) ∧ Below w.heap.size w w' := by
  have hm3 := hd.1
  by_cases hr : reg = 0 <;> rcases kids with _ | ⟨k0, kr⟩
  case pos.nil =>
    subst hr
    simp only [List.length_cons, List.length_nil] at *
    go_enter Try.func90, Try.ntmps90
    go_wp2_with fail
    obtain ⟨W2, HW⟩ : ∃ W2, W2 = (w.alloc (Obj.cells #[.slice A p.cells.length ca, .slice B p.bodies.length cb] 26)).alloc (Obj.cells #[.int .i64 1, .slice D deeds.length cd, .slice E 0 ce, .int .i64 0] 34) := ⟨_, rfl⟩
    have hb2 : Below w.heap.size w W2 := by rw [HW]; exact ((Below.refl _ _).alloc (Nat.le_refl _) _).alloc (by simp) _
    have hz2 : W2.heap.size = w.heap.size + 2 := by rw [HW]; simp
    have c0 : W2.cell? ⟨w.heap.size, 0, none⟩ = some (.slice A p.cells.length ca) := by rw [HW]; simp [go_sem]
    have c1 : W2.cell? ⟨w.heap.size + 1, 1, none⟩ = some (.slice D deeds.length cd) := by rw [HW]; simp [go_sem]
    have hd2 := hd.belowAll hb2
    rw [← HW]
    have HZ := Lib.hid hz2
    clear HW hz2 hd
    go_loopw [7] (fun i wr => ∃ k : Nat, k ≤ deeds.length ∧ i = .int .i64 k ∧ Hid ((deeds.take k).all (deedOk · p.cells.length) = true) ∧ Below W2.heap.size W2 wr) (fun i _ => deeds.length - (intOf i).toNat)
    case atStart => exact ⟨0, Nat.zero_le _, rfl, by simp [Hid], Below.refl _ _⟩
    case round =>
      obtain ⟨k, hk, rfl, HA, hbr⟩ := hrel
      have c0r := (hbr.cell (p := ⟨w.heap.size, 0, none⟩) (by rw [HZ.out]; simp)).trans c0
      have c1r := (hbr.cell (p := ⟨w.heap.size + 1, 1, none⟩) (by rw [HZ.out]; simp)).trans c1
      by_cases hlt : k < deeds.length
      · obtain ⟨ad, rfl, hl, hc1, hc2, hc3, hi1, hi2, hi3⟩ := at_deed (hd2.belowAll hbr) hlt
        go_wp2
        go_still_tail 8, (by kernel_rfl)
        cases hd : deedOk deeds[k] p.cells.length
        all_goals
          have HD := Lib.hid hd
          clear hd
          go_wp2_with (go_at_call 117; refine (l1Deed_calls _ _ _ _ _ (by omega) (by omega)).mono ?_; rintro e w1 ⟨rfl, hb1⟩; rw [HD.out])
        · go_ret
          refine ⟨?_, ?_⟩
          · simp [actOk, all_false_of (deedOk · (p.cells.length : Int)) _ k hlt HD.out]
          · exact hb2.trans ((hbr.mono (by rw [HZ.out]; omega)).trans ((below_drewN' (Below.refl _ _) _).trans (hb1.mono (by have := hbr.size; rw [HZ.out] at this; simp; omega))))
        · go_roundw
          case rel => exact ⟨k + 1, by omega, by go_num, by unfold Hid; rw [all_take_snoc _ _ _ hlt, HA.out, HD.out]; rfl, hbr.trans ((below_drewN' (Below.refl _ _) _).trans (hb1.mono (by have := hbr.size; simp; omega)))⟩
          case measure => simp [intOf]; omega
      · go_wp2
        go_ret
        refine ⟨?_, hb2.trans (hbr.mono (by rw [HZ.out]; omega))⟩
        have := HA.out
        rw [all_take_all _ _ _ (by omega)] at this
        simp [actOk, this]; omega
  all_goals
    simp only [List.length_cons, List.length_nil] at *
    go_enter Try.func90, Try.ntmps90
    go_wp2_with fail
    all_goals
      go_ret
      exact ⟨by simp [actOk, hr], ((Below.refl _ _).alloc (Nat.le_refl _) _).alloc (by simp) _⟩
end
end Go.Proofs.Ytehgiijpmldiiaa
