/- The reference's look at a program's form: all of it. -/
import Derived.Test.YtehgiijpmldiiaaA3
namespace Go.Proofs.Ytehgiijpmldiiaa
open Go.RowKit
set_option linter.unusedVariables false
set_option linter.unusedSimpArgs false

theorem l1Act_calls (p : Prog) (a : Act) (body : Int) (A B D E : Option Addr) (ca cb cd ce : Nat) (w : World) (S : Nat → Prop)
    (hm1 : p.cells.length ≤ 9223372036854775807) (hm2 : p.bodies.length ≤ 9223372036854775807) (hd : Row kDeed w S D a.deeds) (hk : Row Kd.int w S E a.kids) (h0 : 0 ≤ body) (h1 : body ≤ 100) :
    Calls Try.prog 90 #[.agg #[.slice A p.cells.length ca, .slice B p.bodies.length cb], .int .i64 body, .agg #[.int .i64 a.kind, .slice D a.deeds.length cd, .slice E a.kids.length ce, .int .i64 a.reg]] w
      fun e w' => e = .returned (.bool (actOk a p.cells.length body p.bodies.length)) ∧ Below w.heap.size w w' := by
  obtain ⟨k, deeds, kids, reg⟩ := a
  by_cases h1 : k = 1
  · subst h1; exact l1Act_1 A B D E ca cb cd ce w S p deeds kids reg body hk.1 hm1 hd
  · by_cases h2 : k = 2
    · subst h2; exact l1Act_2 A B D E ca cb cd ce w S p deeds kids reg body hd.1 hm2 hk h0 (by omega)
    · by_cases h3 : k = 3
      · subst h3; exact l1Act_3 A B D E ca cb cd ce w p deeds kids reg body hd.1 hk.1
      · by_cases h4 : k = 4
        · subst h4; exact l1Act_4 A B D E ca cb cd ce w p deeds kids reg body hd.1 hk.1
        · have := l1Act_other A B D E ca cb cd ce w p k deeds kids reg body h1 h2 h3 h4 hd.1 hk.1
          simpa [actOk, h1, h2, h3, h4] using this

set_option maxHeartbeats 1000000 in
set_option maxRecDepth 100000 in
theorem l1Form_calls (p : Prog) (A B : Option Addr) (ca cb : Nat) (w : World) (S : Nat → Prop) (hA : Row Kd.int w S A p.cells) (hB : Row (Kd.slice kAct) w S B p.bodies) :
    Calls Try.prog 59 #[.agg #[.slice A p.cells.length ca, .slice B p.bodies.length cb]] w fun e w' => e = .returned (.bool (formOk p)) ∧ Below w.heap.size w w' := by
  have hm1 := hA.1
  have hm2 := hB.1
  by_cases hc3 : p.cells.length ≤ 3
  rotate_left
  · go_enter Try.func59, Try.ntmps59
    have hc3' : 3 < p.cells.length := by omega
    go_wp2_with (go_at_call 76; refine (l6In_calls _ _ _ _).mono ?_; rintro e w' ⟨rfl, rfl⟩)
    go_ret
    exact ⟨by simp [formOk, hc3], (Below.refl _ _).alloc (Nat.le_refl _) _⟩
  cases hb4 : inR p.bodies.length 1 4
  · have HB4 := Lib.hid hb4
    clear hb4
    go_enter Try.func59, Try.ntmps59
    go_wp2_with (go_at_call 76; refine (l6In_calls _ _ _ _).mono ?_; rintro e w' ⟨rfl, rfl⟩; rw [HB4.out])
    go_ret
    exact ⟨by simp [formOk, HB4.out], (Below.refl _ _).alloc (Nat.le_refl _) _⟩
  have HB4 := Lib.hid hb4
  have hb5 : p.bodies.length ≤ 4 := by simp [inR] at hb4; omega
  clear hb4
  have hbw : ∀ o, Below w.heap.size w (w.alloc o) := fun o => (Below.refl _ _).alloc (Nat.le_refl _) _
  go_enter Try.func59, Try.ntmps59
  go_wp2_with (go_at_call 76; refine (l6In_calls _ _ _ _).mono ?_; rintro e w' ⟨rfl, rfl⟩; rw [HB4.out])
  obtain ⟨W2, HW⟩ : ∃ W2, W2 = w.alloc (Obj.cells #[.slice A p.cells.length ca, .slice B p.bodies.length cb] 26) := ⟨_, rfl⟩
  have hb2 : Below w.heap.size w W2 := by rw [HW]; exact hbw _
  have hz2 : W2.heap.size = w.heap.size + 1 := by rw [HW]; simp
  have c0 : W2.cell? ⟨w.heap.size, 0, none⟩ = some (.slice A p.cells.length ca) := by rw [HW]; simp [go_sem]
  have c1 : W2.cell? ⟨w.heap.size, 1, none⟩ = some (.slice B p.bodies.length cb) := by rw [HW]; simp [go_sem]
  have hA2 := hA.belowAll hb2
  have hB2 := hB.belowAll hb2
  rw [← HW]
  have HZ := Lib.hid hz2
  clear HW hz2 hA hB
  go_loop [3] (fun i => ∃ k : Nat, k ≤ p.cells.length ∧ i = .int .i64 k ∧ Hid ((p.cells.take k).all (fun x => inR x 0 99) = true)) (fun i => p.cells.length - (intOf i).toNat)
  case atStart => exact ⟨0, Nat.zero_le _, rfl, by simp [Hid]⟩
  case round =>
    obtain ⟨k, hk, rfl, HA⟩ := hrel
    by_cases hlt : k < p.cells.length
    · obtain ⟨ad, rfl, hl, hc, hi⟩ := at_int hA2 hlt
      cases hin : inR p.cells[k] 0 99
      all_goals
        have HI := Lib.hid hin
        clear hin
        go_wp2_with (go_at_call 76; refine (l6In_calls _ _ _ _).mono ?_; rintro e w' ⟨rfl, rfl⟩; simp only [HI.out])
      · go_ret
        refine ⟨?_, hb2⟩
        simp [formOk, numsOk, all_false_of (fun x => inR x 0 99) _ k hlt HI.out]
      · go_round
        case rel => exact ⟨k + 1, by omega, by go_num, by unfold Hid; rw [all_take_snoc _ _ _ hlt, HA.out, HI.out]; rfl⟩
        case measure => simp [intOf]; omega
    · have hnum : Hid (numsOk p.cells = true) := by unfold Hid numsOk; rw [← all_take_all _ _ k (by omega)]; exact HA.out
      go_wp2
      clear HA hlt hk
      go_loopw [4, 5] (fun i _ wr => ∃ k : Nat, k ≤ p.bodies.length ∧ i = .int .i64 k ∧ Hid ((List.range k).all (fun i => bodyOk (p.bodies.getD i []) p.cells.length i p.bodies.length) = true) ∧ Below W2.heap.size W2 wr) (fun i _ _ => p.bodies.length - (intOf i).toNat)
      case atStart => exact ⟨0, Nat.zero_le _, rfl, by simp [Hid], Below.refl _ _⟩
      case round =>
        obtain ⟨i, hi, rfl, HB, hbr⟩ := hrel
        have c0r := (hbr.cell (p := ⟨w.heap.size, 0, none⟩) (by rw [HZ.out]; simp)).trans c0
        have c1r := (hbr.cell (p := ⟨w.heap.size, 1, none⟩) (by rw [HZ.out]; simp)).trans c1
        by_cases hlt : i < p.bodies.length
        · obtain ⟨ad, C, cc, rfl, hl, hc, hcl, hC⟩ := at_slice (hB2.belowAll hbr) hlt
          by_cases hb4 : p.bodies[i].length ≤ 4
          rotate_left
          · have hb4' : 4 < p.bodies[i].length := by omega
            go_wp2
            go_ret
            refine ⟨?_, hb2.trans (hbr.mono (by rw [HZ.out]; omega))⟩
            have hf : bodiesOk p.cells.length p.bodies = false := range_all_false _ _ i hlt (by rw [getD_at _ _ _ hlt, bodyOk, decide_eq_false hb4]; rfl)
            simp [formOk, hf]
          · go_wp2
            obtain ⟨wo, rfl⟩ : ∃ wo : World, wo = wr := ⟨_, rfl⟩
            go_loopw [5] (fun v wr => ∃ j : Nat, j ≤ p.bodies[i].length ∧ v = .int .i64 j ∧ Hid ((p.bodies[i].take j).all (fun a => actOk a p.cells.length i p.bodies.length) = true) ∧ Below wo.heap.size wo wr) (fun v _ => p.bodies[i].length - (intOf v).toNat)
            case atStart => exact ⟨0, Nat.zero_le _, rfl, by simp [Hid], Below.refl _ _⟩
            case round =>
              obtain ⟨j, hj, rfl, HJ, hbj⟩ := hrel
              have hsz := hbr.size
              rw [HZ.out] at hsz
              have hbj2 : Below W2.heap.size W2 wr := below_then hbr hbr.size hbj
              have c0j := (hbj2.cell (p := ⟨w.heap.size, 0, none⟩) (by rw [HZ.out]; simp)).trans c0
              have c1j := (hbj2.cell (p := ⟨w.heap.size, 1, none⟩) (by rw [HZ.out]; simp)).trans c1
              have hcj := (hbj.cell (p := ad.add i) (by rw [block_add]; exact hl)).trans hc
              by_cases hlj : j < p.bodies[i].length
              · obtain ⟨ad2, D, cd, E, ce, rfl, hl2, k0, k1, k2, k3, hcd, hce, hD, hE, hi1, hi2⟩ := at_act (hC.belowAll hbj) hlj
                go_wp2
                go_still_tail 10, (by kernel_rfl)
                cases ha : actOk p.bodies[i][j] p.cells.length i p.bodies.length
                all_goals
                  have HA := Lib.hid ha
                  clear ha
                  go_wp2_with (go_at_call 90; go_loud (refine (l1Act_calls p p.bodies[i][j] i _ _ _ _ _ _ _ _ _ S hm1 hm2 (Row.drewN hD _) (Row.drewN hE _) (by omega) (by omega)).mono ?_; rintro e w1 ⟨rfl, hb1⟩; rw [HA.out]))
                · go_ret
                  refine ⟨?_, hb2.trans ((hbj2.mono (by rw [HZ.out]; omega)).trans ((below_drewN' (Below.refl _ _) _).trans (hb1.mono (by have := hbj2.size; rw [HZ.out] at this; simp; omega))))⟩
                  have hf : bodiesOk p.cells.length p.bodies = false := range_all_false _ _ i hlt (by rw [getD_at _ _ _ hlt, bodyOk, all_false_of (fun a => actOk a (p.cells.length : Int) i p.bodies.length) _ j hlj HA.out]; simp)
                  simp [formOk, hf]
                · go_roundw
                  case rel => exact ⟨j + 1, by omega, by go_num, by unfold Hid; rw [all_take_snoc _ _ _ hlj, HJ.out, HA.out]; rfl, hbj.trans ((below_drewN' (Below.refl _ _) _).trans (hb1.mono (by have := hbj.size; simp; omega)))⟩
                  case measure => simp [intOf]; omega
              · go_wp2
                go_roundw
                case rel =>
                  refine ⟨i + 1, by omega, by go_num, ?_, hbj2⟩
                  unfold Hid
                  rw [range_all_succ, HB.out, getD_at _ _ _ hlt, bodyOk, decide_eq_true hb4]
                  have := HJ.out
                  rw [all_take_all _ _ _ (by omega)] at this
                  rw [this]; rfl
                case measure => simp [intOf]; omega
        · go_wp2
          go_ret
          refine ⟨?_, hb2.trans (hbr.mono (by rw [HZ.out]; omega))⟩
          obtain rfl : i = p.bodies.length := by omega
          have hB := HB.out; have hN := hnum.out; have h4 := HB4.out
          simp only [formOk, bodiesOk, hB, hN, h4, decide_eq_true hc3]; rfl
end Go.Proofs.Ytehgiijpmldiiaa
