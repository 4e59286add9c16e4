/- The program's word on a program: all of it. -/
import Derived.Test.YtehgiijpmldiiaaB3
namespace Go.Proofs.Ytehgiijpmldiiaa
open Go.RowKit
set_option linter.unusedVariables false
set_option linter.unusedSimpArgs false

set_option maxHeartbeats 2000000 in
set_option maxRecDepth 100000 in
theorem implProgOk_calls (p : Prog) (A B : Option Addr) (ca cb : Nat) (w : World) (S : Nat → Prop) (hA : Row Kd.int w S A p.cells) (hB : Row (Kd.slice kAct) w S B p.bodies) :
    Calls Try.prog 32 #[.agg #[.slice A p.cells.length ca, .slice B p.bodies.length cb]] w fun e w' => e = .returned (.bool (progOk p)) ∧ Below w.heap.size w w' := by
  have hm1 := hA.1
  have hm2 := hB.1
  have hb1 : ∀ o, Below w.heap.size w (w.alloc o) := fun o => (Below.refl _ _).alloc (Nat.le_refl _) _
  have hA1 := fun o => hA.belowAll (hb1 o)
  by_cases hc3 : p.cells.length ≤ 3
  rotate_left
  · have hc3' : 3 < p.cells.length := by omega
    have hf : progOk p = false := by simp [progOk, formOk, hc3]
    rw [hf]
    clear hf
    go_enter Try.func32, Try.ntmps32
    go_wp2
    go_ret
    exact ⟨rfl, hb1 _⟩
  cases hn : numsOk p.cells
  · have hf : progOk p = false := by simp [progOk, formOk, hn]
    rw [hf]
    clear hf
    have HN := Lib.hid hn
    clear hn
    go_enter Try.func32, Try.ntmps32
    go_wp2_with (go_at_call 62; refine (allNums_calls _ _ _ _ S (hA1 _)).mono ?_; rintro e w' ⟨rfl, rfl⟩; rw [HN.out])
    go_ret
    exact ⟨rfl, hb1 _⟩
  by_cases hb0 : 1 ≤ p.bodies.length ∧ p.bodies.length ≤ 4
  rotate_left
  · have hf : progOk p = false := by simp [progOk, formOk, inR]; omega
    rw [hf]
    clear hf
    have HN := Lib.hid hn
    clear hn
    by_cases hb5 : p.bodies.length < 1
    · go_enter Try.func32, Try.ntmps32
      go_wp2_with (go_at_call 62; refine (allNums_calls _ _ _ _ S (hA1 _)).mono ?_; rintro e w' ⟨rfl, rfl⟩; rw [HN.out])
      go_ret
      exact ⟨rfl, hb1 _⟩
    · have hb6 : 4 < p.bodies.length := by omega
      go_enter Try.func32, Try.ntmps32
      go_wp2_with (go_at_call 62; refine (allNums_calls _ _ _ _ S (hA1 _)).mono ?_; rintro e w' ⟨rfl, rfl⟩; rw [HN.out])
      go_ret
      exact ⟨rfl, hb1 _⟩
  obtain ⟨hbl1, hbl4⟩ := hb0
  have HN := Lib.hid hn
  clear hn
  go_enter Try.func32, Try.ntmps32
  go_wp2_with (go_at_call 62; refine (allNums_calls _ _ _ _ S (hA1 _)).mono ?_; rintro e w' ⟨rfl, rfl⟩; rw [HN.out])
  obtain ⟨W2, HW⟩ : ∃ W2, W2 = w.alloc (Obj.cells #[.slice A p.cells.length ca, .slice B p.bodies.length cb] 26) := ⟨_, rfl⟩
  have hb2 : Below w.heap.size w W2 := by rw [HW]; exact hb1 _
  have hz2 : W2.heap.size = w.heap.size + 1 := by rw [HW]; simp
  have c0 : W2.cell? ⟨w.heap.size, 0, none⟩ = some (.slice A p.cells.length ca) := by rw [HW]; simp [go_sem]
  have c1 : W2.cell? ⟨w.heap.size, 1, none⟩ = some (.slice B p.bodies.length cb) := by rw [HW]; simp [go_sem]
  have hB2 := hB.belowAll hb2
  rw [← HW]
  have HZ := Lib.hid hz2
  clear HW hz2 hA1 hb1
  go_loopw [30] (fun i wr => ∃ k : Nat, k ≤ p.bodies.length ∧ i = .int .i64 k ∧ Hid ((List.range k).all (fun i => bodyOk (p.bodies.getD i []) p.cells.length i p.bodies.length) = true) ∧ Below W2.heap.size W2 wr) (fun i _ => p.bodies.length - (intOf i).toNat)
  case atStart => exact ⟨0, Nat.zero_le _, rfl, by simp [Hid], Below.refl _ _⟩
  case round =>
    obtain ⟨i, hi, rfl, HB, hbr⟩ := hrel
    have c0r := (hbr.cell (p := ⟨w.heap.size, 0, none⟩) (by rw [HZ.out]; simp)).trans c0
    have c1r := (hbr.cell (p := ⟨w.heap.size, 1, none⟩) (by rw [HZ.out]; simp)).trans c1
    by_cases hlt : i < p.bodies.length
    · obtain ⟨ad, C, cc, HBad, hl, hc, hcl, hC⟩ := at_slice (hB2.belowAll hbr) hlt
      subst HBad
      have hmc := hC.1
      by_cases hb4 : p.bodies[i].length ≤ 4
      rotate_left
      · have hb4' : 4 < p.bodies[i].length := by omega
        have hf : bodiesOk p.cells.length p.bodies = false := range_all_false _ _ i hlt (by rw [getD_at _ _ _ hlt, bodyOk, decide_eq_false hb4]; rfl)
        have HF := Lib.hid hf
        clear hf
        go_wp2
        go_ret
        refine ⟨ret_bool ?_, hb2.trans (hbr.mono (by rw [HZ.out]; omega))⟩
        simp [progOk, formOk, HF.out]
      · go_wp2
        obtain ⟨wo, rfl⟩ : ∃ wo : World, wo = wr := ⟨_, rfl⟩
        go_loopw [40] (fun v wr => ∃ j : Nat, j ≤ p.bodies[i].length ∧ v = .int .i64 j ∧ Hid ((p.bodies[i].take j).all (fun a => actOk a p.cells.length i p.bodies.length) = true) ∧ Below wo.heap.size wo wr) (fun v _ => p.bodies[i].length - (intOf v).toNat)
        case atStart => exact ⟨0, Nat.zero_le _, rfl, by simp [Hid], Below.refl _ _⟩
        case round =>
          obtain ⟨j, hj, rfl, HJ, hbj⟩ := hrel
          have hsz := hbr.size
          rw [HZ.out] at hsz
          have hbj2 : Below W2.heap.size W2 wr := below_then hbr hbr.size hbj
          have c0j := (hbj2.cell (p := ⟨w.heap.size, 0, none⟩) (by rw [HZ.out]; simp)).trans c0
          have c1j := (hbj2.cell (p := ⟨w.heap.size, 1, none⟩) (by rw [HZ.out]; simp)).trans c1
          by_cases hlj : j < p.bodies[i].length
          · obtain ⟨ad2, D, cd, E, ce, rfl, hl2, k0, k1, k2, k3, hcd, hce, hD, hE, hi1, hi2⟩ := at_act (hC.belowAll hbj) hlj
            have hmd := hD.1
            have hme := hE.1
            have hwz := hbj2.size
            rw [HZ.out] at hwz
            go_wp2
            obtain ⟨W3, HW3⟩ : ∃ W3, W3 = wr.alloc (Obj.cells #[.int .i64 p.bodies[i][j].kind, .slice D p.bodies[i][j].deeds.length cd, .slice E p.bodies[i][j].kids.length ce, .int .i64 p.bodies[i][j].reg] 34) := ⟨_, rfl⟩
            have hb3 : Below wr.heap.size wr W3 := by rw [HW3]; exact (by repeat (first | exact Below.refl _ _ | (refine Below.alloc ?_ (by simp) _) | (refine Below.setCell ?_ (by simp) _) | (refine below_drewN' ?_ _) | (refine Below.drew ?_)))
            have hz3 : wr.heap.size < W3.heap.size := by rw [HW3]; simp
            have d0 : W3.cell? ⟨wr.heap.size, 0, none⟩ = some (.int .i64 p.bodies[i][j].kind) := by rw [HW3]; simp [go_sem]
            have d1 : W3.cell? ⟨wr.heap.size, 1, none⟩ = some (.slice D p.bodies[i][j].deeds.length cd) := by rw [HW3]; simp [go_sem]
            have d2 : W3.cell? ⟨wr.heap.size, 2, none⟩ = some (.slice E p.bodies[i][j].kids.length ce) := by rw [HW3]; simp [go_sem]
            have d3 : W3.cell? ⟨wr.heap.size, 3, none⟩ = some (.int .i64 p.bodies[i][j].reg) := by rw [HW3]; simp [go_sem]
            have d4 := (hb3.cell (p := ⟨w.heap.size, 0, none⟩) (by simp; omega)).trans c0j
            have d5 := (hb3.cell (p := ⟨w.heap.size, 1, none⟩) (by simp; omega)).trans c1j
            have hD3 := hD.belowAll hb3
            have hE3 := hE.belowAll hb3
            rw [← HW3]
            clear HW3 c0j c1j c0r c1r c0 c1 k0 k1 k2 k3
            have hbw : Below W3.heap.size W3 W3.drew := (Below.refl _ _).drew
            have hbe : ∀ w1, Below W3.heap.size W3 w1 → Below wr.heap.size wr w1 := fun w1 h => hb3.trans (h.mono (by omega))
            cases ha : actOk p.bodies[i][j] p.cells.length i p.bodies.length
            all_goals
              have HA := Lib.hid ha
              clear ha
              go_region_held3 (fun w' => w'.cell? ⟨wr.heap.size, 0, none⟩ = some (.int .i64 p.bodies[i][j].kind) ∧ w'.cell? ⟨wr.heap.size, 1, none⟩ = some (.slice D p.bodies[i][j].deeds.length cd) ∧ w'.cell? ⟨wr.heap.size, 2, none⟩ = some (.slice E p.bodies[i][j].kids.length ce) ∧ w'.cell? ⟨wr.heap.size, 3, none⟩ = some (.int .i64 p.bodies[i][j].reg) ∧ w'.cell? ⟨w.heap.size, 0, none⟩ = some (.slice A p.cells.length ca) ∧ w'.cell? ⟨w.heap.size, 1, none⟩ = some (.slice (some ad) p.bodies.length cb) ∧ Below W3.heap.size W3 w') (go_keep)
                (first | (go_at_call 64; refine (partOfAct_calls _ _ _ _ _ _ _ _ _ hmd hme).mono ?_; rintro e w1 ⟨rfl, hb1⟩; have q0 := below_then ‹Below W3.heap.size W3 _› (Below.size ‹Below W3.heap.size W3 _›) hb1; have q1 := (q0.cell (p := ⟨wr.heap.size, 0, none⟩) hz3).trans d0; have q2 := (q0.cell (p := ⟨wr.heap.size, 1, none⟩) hz3).trans d1; have q3 := (q0.cell (p := ⟨wr.heap.size, 2, none⟩) hz3).trans d2; have q4 := (q0.cell (p := ⟨wr.heap.size, 3, none⟩) hz3).trans d3; have q5 := (q0.cell (p := ⟨w.heap.size, 0, none⟩) (by simp; omega)).trans d4; have q6 := (q0.cell (p := ⟨w.heap.size, 1, none⟩) (by simp; omega)).trans d5) | (go_at_call 63; refine (actOk_part p.bodies[i][j] _ _ _ _ _ _ _ _ S (Row.belowAll hD3 ‹Below W3.heap.size W3 _›) (Row.belowAll hE3 ‹Below W3.heap.size W3 _›) (by omega) (by omega)).mono ?_; rintro e w1 ⟨rfl, hb1⟩; rw [HA.out]; have q0 := below_then ‹Below W3.heap.size W3 _› (Below.size ‹Below W3.heap.size W3 _›) hb1; have q1 := (q0.cell (p := ⟨wr.heap.size, 0, none⟩) hz3).trans d0; have q2 := (q0.cell (p := ⟨wr.heap.size, 1, none⟩) hz3).trans d1; have q3 := (q0.cell (p := ⟨wr.heap.size, 2, none⟩) hz3).trans d2; have q4 := (q0.cell (p := ⟨wr.heap.size, 3, none⟩) hz3).trans d3; have q5 := (q0.cell (p := ⟨w.heap.size, 0, none⟩) (by simp; omega)).trans d4; have q6 := (q0.cell (p := ⟨w.heap.size, 1, none⟩) (by simp; omega)).trans d5))
            · obtain ⟨_, _, _, _, _, _, hbx⟩ := ‹_ ∧ _ ∧ _ ∧ _ ∧ _ ∧ _ ∧ Below W3.heap.size W3 _›
              have hf : bodiesOk p.cells.length p.bodies = false := range_all_false _ _ i hlt (by rw [getD_at _ _ _ hlt, bodyOk, all_false_of (fun a => actOk a (p.cells.length : Int) i p.bodies.length) _ j hlj HA.out]; simp)
              have HF := Lib.hid hf
              clear hf
              have hby := hbj2.trans ((hbe _ hbx).mono hbj2.size)
              go_wp2
              go_ret
              refine ⟨ret_bool ?_, hb2.trans (hby.mono (by rw [HZ.out]; omega))⟩
              simp [progOk, formOk, HF.out]
            · obtain ⟨_, _, _, _, _, _, hbx⟩ := ‹_ ∧ _ ∧ _ ∧ _ ∧ _ ∧ _ ∧ Below W3.heap.size W3 _›
              have hby := hbj.trans ((hbe _ hbx).mono hbj.size)
              go_wp2
              go_roundw
              case rel => exact ⟨j + 1, by omega, by go_num, by unfold Hid; rw [all_take_snoc _ _ _ hlj, HJ.out, HA.out]; rfl, hby⟩
              case measure => simp [intOf]; omega
          · go_wp2
            go_roundw
            case rel =>
              refine ⟨i + 1, by omega, by go_num, ?_, hbj2⟩
              unfold Hid
              rw [range_all_succ, HB.out, getD_at _ _ _ hlt, bodyOk, decide_eq_true hb4]
              have := HJ.out
              rw [all_take_all _ _ _ (by omega)] at this
              rw [this]; rfl
            case measure => simp [intOf]; omega
    · have hb6 : Below w.heap.size w wr := hb2.trans (hbr.mono (by rw [HZ.out]; omega))
      have hF : formOk p = true := by
        obtain rfl : i = p.bodies.length := by omega
        have h1 := HB.out; have h2 := HN.out
        simp only [formOk, bodiesOk, h1, h2, decide_eq_true hc3]
        simp [inR]; omega
      have HF := Lib.hid hF
      have ht := tree_small hF 4 0 (by omega)
      clear hF
      go_wp2_with (go_at_call 65; refine (treeOf_calls p HF.out 4 (by omega) 0 (by omega) (by omega) _ _ _ _ _ S (hB2.belowAll hbr)).mono ?_; rintro e w2 ⟨rfl, hb4⟩)
      go_ret
      refine ⟨ret_bool ?_, hb6.trans (hb4.mono hb6.size)⟩
      simp [progOk, HF.out]
end Go.Proofs.Ytehgiijpmldiiaa
