/- FnApartWrites: whatever the bytes are, the law returns true, and they read as they did. -/
import Derived.Deep.RegionHeld3
import Derived.Deep.DrawnRows
import Derived.Test.YtcpabkfoalhldaaRows
import Derived.WalkKit
import Derived.ProofKit
import Derived.OpenShut
import Derived.ShutString
import Derived.ChangeOld
import Derived.Below
import Derived.SizedLaws
import Derived.ChangeSlices
import Derived.Test.YtcpabkfoalhldaaQk
namespace Go.Proofs.Ytcpabkfoalhldaa
open Go.RowKit
set_option linter.unusedVariables false
set_option linter.unusedSimpArgs false
attribute [local go_sem ↓] Go.wp_at_zero Go.wp_at_succ

theorem within_of {a b : List Int} (h : ∀ x ∈ a, x ∈ b) : within a b = true := by
  unfold within
  rw [List.all_eq_true]
  intro x hx
  simpa using h x hx
theorem apartSet_in {f : List Deed → List Int} {p : Prog} {b : Nat} (hp : progOk p = true) (hb : b < p.bodies.length) : apartSet f p (b : Int) = touched f p b := by
  unfold apartSet
  rw [hp, show inR (b : Int) 0 ((p.bodies.length : Int) - 1) = true by simp [inR]; omega]
  rfl
theorem apartSet_up (f : List Deed → List Int) (p : Prog) (b : Int) : (apartSet f p b).Pairwise (· < ·) := by
  unfold apartSet
  split
  · exact sort3_up _
  · exact List.Pairwise.nil
set_option maxHeartbeats 8000000 in
set_option maxRecDepth 100000 in
theorem fnApartReads_calls (xs : List Int) (A : Option Addr) (c : Nat) (w : World) (S : Nat → Prop) (hr : Row Kd.byte w S A xs) (hS : ∀ k, S k → k < w.heap.size) (hc : xs.length ≤ c) :
    Calls Try.prog 4 #[.slice A xs.length c] w fun e w' => e = .returned (.bool true) ∧ Below w.heap.size w w' := by
  by_cases hbig : 1048576 < xs.length
  · have hb : (1048576 : Int) < xs.length := by omega
    go_enter Try.func4, Try.ntmps4
    go_wp2
    go_ret
    exact ⟨rfl, Below.refl _ _⟩
  · have hb : ¬ (1048576 : Int) < xs.length := by omega
    go_enter Try.func4, Try.ntmps4
    go_wp2_with (first | (go_at_call 18; refine (drawApartReads_calls xs A c _ S hr hS hc).mono ?_; rintro e w1 ⟨_, b, rfl, hbI, ⟨p, C, D, cc, cd, rfl, hcc, hcd, hC, hD⟩, hb1⟩) | (go_at_call 19; fail))
    have hz1 := hb1.size
    have hC1 := fun o => hC.belowAll (bal' w1 o)
    have hD1 := fun o => hD.belowAll (bal' w1 o)
    have hmd := hD.1
    have hRR := apartSet_len chReads p b
    have tok1 : True := trivial
    by_cases hneg : progTree p b < 0
    · go_wp2_with (first
        | (go_at_call 19; refine (implApartReads_calls p b C D cc cd _ _ (hC1 _) (hD1 _)).mono ?_; rintro e w2 ⟨v2, rfl, ho2, hb2⟩; obtain ⟨A2, n2, rfl, _, hr2⟩ := OwnI.row ho2; have hz2 := hb2.size; simp at hz2; have hx2 := (hb2.block w1.heap.size (by simp)).trans (heap_alloc_new w1 _); have g0 := cell_of_row _ _ 0 _ _ _ hx2; have g1 := cell_of_row _ _ 1 _ _ _ hx2; simp at g0 g1; have hC2 := (hC1 _).belowAll hb2; have hD2 := (hD1 _).belowAll hb2; have hbw2 := hb1.trans (((bal' w1 _).trans (hb2.mono (by simp))).mono hz1)) | (go_at_call 20; have _t := tok1; refine (specApartReads_calls p b C D cc cd w2 _ hC2 hD2).mono ?_; rintro e w3 ⟨v3, rfl, ho3, hb3⟩; obtain ⟨A3, n3, rfl, _, hr3⟩ := OwnI.row ho3; have hz3 := hb3.size; have hx3 := (hb3.block w1.heap.size (by omega)).trans hx2; have g03 := cell_of_row _ _ 0 _ _ _ hx3; have g13 := cell_of_row _ _ 1 _ _ _ hx3; simp at g03 g13; have hC3 := hC2.belowAll hb3; have hD3 := hD2.belowAll hb3; have hr23 := hr2.belowAll hb3; have hbw3 := below_then hbw2 hbw2.size hb3; clear tok1; have tok2 : True := trivial) | (go_at_call 12; have _t := tok2; refine (lqInts_calls _ _ _ _ _ _ w3 _ _ hr23 hr3).mono ?_; rintro e w4 ⟨rfl, hb4⟩; rw [show decide (apartSet chReads p b = apartSet chReads p b) = true from decide_eq_true rfl]; have hz4 := hb4.size; have hx4 := (hb4.block w1.heap.size (by omega)).trans hx3; have g04 := cell_of_row _ _ 0 _ _ _ hx4; have g14 := cell_of_row _ _ 1 _ _ _ hx4; simp at g04 g14; have hC4 := hC3.belowAll hb4; have hD4 := hD3.belowAll hb4; have hr24 := hr23.belowAll hb4; have hbw4 := below_then hbw3 hbw3.size hb4; clear tok2; have tok3 : True := trivial) | (go_at_call 14; have _t := tok3; refine (implProgTree_calls p b C D cc cd w4 _ hC4 hD4).mono ?_; rintro e w5 ⟨rfl, hb5⟩; have hz5 := hb5.size; have hx5 := (hb5.block w1.heap.size (by omega)).trans hx4; have g05 := cell_of_row _ _ 0 _ _ _ hx5; have g15 := cell_of_row _ _ 1 _ _ _ hx5; simp at g05 g15; have hC5 := hC4.belowAll hb5; have hD5 := hD4.belowAll hb5; have hr25 := hr24.belowAll hb5; have hbw5 := below_then hbw4 hbw4.size hb5; clear tok3; have tok4 : True := trivial) | (go_at_call 20; have _t := tok4; refine (specApartReads_calls p b C D cc cd w5 _ hC5 hD5).mono ?_; rintro e w6 ⟨v6, rfl, ho6, hb6⟩; obtain ⟨A6, n6, rfl, _, hr6⟩ := OwnI.row ho6; have hr26 := hr25.belowAll hb6; have hbw6 := below_then hbw5 hbw5.size hb6; clear tok4; have tok5 : True := trivial) | (go_at_call 12; have _t := tok5; refine (lqInts_calls _ _ _ _ _ _ w6 _ _ hr26 hr6).mono ?_; rintro e w7 ⟨rfl, hb7⟩; rw [show decide (apartSet chReads p b = apartSet chReads p b) = true from decide_eq_true rfl]; have hbw7 := below_then hbw6 hbw6.size hb7))
      go_ret
      exact ⟨rfl, hbw7⟩
    · have hpos := progTree_pos hneg
      obtain ⟨hp, hb0, hbl⟩ := hpos
      obtain ⟨z, rfl⟩ : ∃ z : Nat, b = (z : Int) := ⟨b.toNat, by omega⟩
      have hf := progOk_form hp
      have hlen := formOk_len hf
      have hzl : z < p.bodies.length := by omega
      have hRE : apartSet chReads p z = touched chReads p z := apartSet_in hp hzl
      have HF := Lib.hid (And.intro hp hf)
      have HRE := Lib.hid hRE
      clear hp hf hRE
      go_wp2_with (first
        | (go_at_call 19; refine (implApartReads_calls p z C D cc cd _ _ (hC1 _) (hD1 _)).mono ?_; rintro e w2 ⟨v2, rfl, ho2, hb2⟩; obtain ⟨A2, n2, rfl, _, hr2⟩ := OwnI.row ho2; have hz2 := hb2.size; simp at hz2; have hx2 := (hb2.block w1.heap.size (by simp)).trans (heap_alloc_new w1 _); have g0 := cell_of_row _ _ 0 _ _ _ hx2; have g1 := cell_of_row _ _ 1 _ _ _ hx2; simp at g0 g1; have hC2 := (hC1 _).belowAll hb2; have hD2 := (hD1 _).belowAll hb2; have hbw2 := hb1.trans (((bal' w1 _).trans (hb2.mono (by simp))).mono hz1)) | (go_at_call 20; have _t := tok1; refine (specApartReads_calls p z C D cc cd w2 _ hC2 hD2).mono ?_; rintro e w3 ⟨v3, rfl, ho3, hb3⟩; obtain ⟨A3, n3, rfl, _, hr3⟩ := OwnI.row ho3; have hz3 := hb3.size; have hx3 := (hb3.block w1.heap.size (by omega)).trans hx2; have g03 := cell_of_row _ _ 0 _ _ _ hx3; have g13 := cell_of_row _ _ 1 _ _ _ hx3; simp at g03 g13; have hC3 := hC2.belowAll hb3; have hD3 := hD2.belowAll hb3; have hr23 := hr2.belowAll hb3; have hbw3 := below_then hbw2 hbw2.size hb3; clear tok1; have tok2 : True := trivial) | (go_at_call 12; have _t := tok2; refine (lqInts_calls _ _ _ _ _ _ w3 _ _ hr23 hr3).mono ?_; rintro e w4 ⟨rfl, hb4⟩; rw [show decide (apartSet chReads p z = apartSet chReads p z) = true from decide_eq_true rfl]; have hz4 := hb4.size; have hx4 := (hb4.block w1.heap.size (by omega)).trans hx3; have g04 := cell_of_row _ _ 0 _ _ _ hx4; have g14 := cell_of_row _ _ 1 _ _ _ hx4; simp at g04 g14; have hC4 := hC3.belowAll hb4; have hD4 := hD3.belowAll hb4; have hr24 := hr23.belowAll hb4; have hbw4 := below_then hbw3 hbw3.size hb4; clear tok2; have tok3 : True := trivial) | (go_at_call 14; have _t := tok3; refine (implProgTree_calls p z C D cc cd w4 _ hC4 hD4).mono ?_; rintro e w5 ⟨rfl, hb5⟩; have hz5 := hb5.size; have hx5 := (hb5.block w1.heap.size (by omega)).trans hx4; have g05 := cell_of_row _ _ 0 _ _ _ hx5; have g15 := cell_of_row _ _ 1 _ _ _ hx5; simp at g05 g15; have hC5 := hC4.belowAll hb5; have hD5 := hD4.belowAll hb5; have hr25 := hr24.belowAll hb5; have hbw5 := below_then hbw4 hbw4.size hb5; clear tok3))
      have hl1 : w1.heap.size < w5.heap.size := by omega
      clear hC1 hD1 hC hD g0 g1 hC2 hD2 hr2 hx2 hr3 hC3 hD3 hr23 hx3 g03 g13 hC4 hD4 hr24 hx4 g04 g14 ho2 ho3 hb2 hb3 hb4 hb5 hbw2 hbw3 hbw4 hb1 hneg hx5
      obtain ⟨ad, E0, ce0, rfl, hadl, hadc, hadcl, hE0⟩ := at_slice hD5 hzl
      have hme0 := hE0.1
      have hkeep := HF.out
      go_loopw [6, 7, 8] (fun i _ _ wr => ∃ j : Nat, j ≤ p.bodies[z].length ∧ i = .int .i64 j ∧ Below w5.heap.size w5 wr) (fun i _ _ _ => p.bodies[z].length - (intOf i).toNat)
      case atStart => exact ⟨0, Nat.zero_le _, rfl, Below.refl _ _⟩
      case round =>
        obtain ⟨j, hj, rfl, hbr⟩ := hrel
        have h0r := (hbr.cell (p := ⟨w1.heap.size, 0, none⟩) hl1).trans g05
        have h1r := (hbr.cell (p := ⟨w1.heap.size, 1, none⟩) hl1).trans g15
        have hcr := (hbr.cell (p := ad.add z) (by rw [block_add]; exact hadl)).trans hadc
        by_cases hlt : j < p.bodies[z].length
        · obtain ⟨w0, rfl⟩ : ∃ w0 : World, w0 = wr := ⟨_, rfl⟩
          obtain ⟨ad2, D2, cd2, E, ce, rfl, hl3, k0, k1, k2, k3, hcd2, hce, hD2, hE, hi1, hi2⟩ := at_act (hE0.belowAll hbr) hlt
          have hme := hE.1
          have hzr := hbr.size
          have hmem := List.getElem_mem hlt
          have hkids := (formOk_acts hkeep.2 hzl).2 _ hmem
          have hcin := formOk_cells hkeep.2 hzl _ hmem
          have hwd : within (chReads p.bodies[z][j].deeds) (apartSet chReads p z) = true := by rw [HRE.out]; exact within_of (touched_deed chReads chReads_in hzl hmem)
          have hwk : ∀ (k : Nat) (hk : k < p.bodies[z][j].kids.length), within (apartSet chReads p p.bodies[z][j].kids[k]) (apartSet chReads p z) = true := by
            intro k hk
            have h1 := hkids.2 _ (List.getElem_mem hk)
            obtain ⟨q, hq⟩ : ∃ q : Nat, p.bodies[z][j].kids[k] = (q : Int) := ⟨p.bodies[z][j].kids[k].toNat, by omega⟩
            rw [hq, apartSet_in hkeep.1 (by omega), HRE.out]
            have := touched_kid chReads hkeep.2 hzl hmem (List.getElem_mem hk)
            rw [hq, Int.toNat_natCast] at this
            exact within_of this
          have HW := Lib.hid (And.intro hwd hwk)
          have HCIN := Lib.hid hcin
          obtain ⟨wo, HO⟩ : ∃ wo, wo = w0.alloc (Obj.cells #[.int .i64 p.bodies[z][j].kind, .slice D2 p.bodies[z][j].deeds.length cd2, .slice E p.bodies[z][j].kids.length ce, .int .i64 p.bodies[z][j].reg] 35) := ⟨_, rfl⟩
          have hwo : Below w0.heap.size w0 wo := by rw [HO]; exact bal' _ _
          have hzo : wo.heap.size = w0.heap.size + 1 := by rw [HO]; simp
          have o1 : wo.cell? ⟨w0.heap.size, 1, none⟩ = some (.slice D2 p.bodies[z][j].deeds.length cd2) := by rw [HO]; simp [go_sem]
          have o2 : wo.cell? ⟨w0.heap.size, 2, none⟩ = some (.slice E p.bodies[z][j].kids.length ce) := by rw [HO]; simp [go_sem]
          have hDo := hD2.belowAll hwo
          have hEo := hE.belowAll hwo
          have hbo : Below w5.heap.size w5 wo := below_then hbr hzr hwo
          have HOO := Lib.hid HO
          have HZO := Lib.hid hzo
          clear HO hzo hD2 hE hwd hwk hcin
          go_wp2
          rw [← HOO.out]
          go_loopw [8] (fun i wr => ∃ k : Nat, k ≤ p.bodies[z][j].kids.length ∧ i = .int .i64 k ∧ Below wo.heap.size wo wr) (fun i _ => p.bodies[z][j].kids.length - (intOf i).toNat)
          case atStart => exact ⟨0, Nat.zero_le _, rfl, Below.refl _ _⟩
          case round =>
            obtain ⟨k, hk, rfl, hbk⟩ := hrel
            have hzk := hbk.size
            have hbx : Below w5.heap.size w5 wr := below_then hbo hbo.size hbk
            have c0k := (hbx.cell (p := ⟨w1.heap.size, 0, none⟩) hl1).trans g05
            have c1k := (hbx.cell (p := ⟨w1.heap.size, 1, none⟩) hl1).trans g15
            have d1k := (hbk.cell (p := ⟨w0.heap.size, 1, none⟩) (by have := HZO.out; simp; omega)).trans o1
            have d2k := (hbk.cell (p := ⟨w0.heap.size, 2, none⟩) (by have := HZO.out; simp; omega)).trans o2
            have hlw1 : w1.heap.size < wr.heap.size := by have := hbx.size; omega
            have hlw0 : w0.heap.size < wr.heap.size := by have := HZO.out; omega
            have hCk := hC5.belowAll hbx
            have hDk := hD5.belowAll hbx
            have hRk := hr25.belowAll hbx
            clear HOO
            by_cases hlk : k < p.bodies[z][j].kids.length
            · obtain ⟨ad3, rfl, hl4, hck, hik⟩ := at_int (hEo.belowAll hbk) hlk
              have hbw : Below wr.heap.size wr wr.drew := (Below.refl _ _).drew
              have HWK := Lib.hid (HW.out.2 k hlk)
              go_wp2
              go_region_held3 (fun w' => w'.cell? ⟨w1.heap.size, 0, none⟩ = some (.slice C p.cells.length cc) ∧ w'.cell? ⟨w1.heap.size, 1, none⟩ = some (.slice (some ad) p.bodies.length cd) ∧ w'.cell? ⟨w0.heap.size, 2, none⟩ = some (.slice (some ad3) p.bodies[z][j].kids.length ce) ∧ w'.cell? (ad3.add k) = some (.int .i64 p.bodies[z][j].kids[k]) ∧ Below wr.heap.size wr w') (go_keep)
                (first | (go_at_call 19; refine (implApartReads_calls p _ C (some ad) cc cd _ _ (Row.belowAll hCk ‹Below wr.heap.size wr _›) (Row.belowAll hDk ‹Below wr.heap.size wr _›)).mono ?_; rintro e w6 ⟨v6, rfl, ho6, hb6⟩; obtain ⟨A6, n6, rfl, _, hr6⟩ := OwnI.row ho6; have q0 := below_then ‹Below wr.heap.size wr _› (Below.size ‹Below wr.heap.size wr _›) hb6; have q1 := (q0.cell (p := ⟨w1.heap.size, 0, none⟩) hlw1).trans c0k; have q2 := (q0.cell (p := ⟨w1.heap.size, 1, none⟩) hlw1).trans c1k; have q3 := (q0.cell (p := ⟨w0.heap.size, 2, none⟩) hlw0).trans d2k; have q4 := (q0.cell (p := ad3.add k) (by rw [block_add]; exact hl4)).trans hck) | (go_at_call 15; have b6 : Below w6.heap.size w6 _ := (by repeat' (first | exact Below.refl _ _ | apply Below.drew)); refine (lqWithin_calls _ _ _ _ _ _ _ _ _ (Row.belowAll hr6 b6) (Row.belowAll hRk (below_then q0 q0.size b6))).mono ?_; rintro e w7 ⟨rfl, hb7⟩; rw [HWK.out]; have q00 := below_then (below_then q0 q0.size b6) (by have := q0.size; have := b6.size; omega) hb7; have q5 := (q00.cell (p := ⟨w1.heap.size, 0, none⟩) hlw1).trans c0k; have q6 := (q00.cell (p := ⟨w1.heap.size, 1, none⟩) hlw1).trans c1k; have q7 := (q00.cell (p := ⟨w0.heap.size, 2, none⟩) hlw0).trans d2k; have q8 := (q00.cell (p := ad3.add k) (by rw [block_add]; exact hl4)).trans hck))
              go_wp2
              go_roundw
              case rel => exact ⟨k + 1, by omega, by go_num, below_then hbk hbk.size q00⟩
              case measure => simp [intOf]; omega
            · have hDq := hDo.belowAll hbk
              go_wp2_with (first
                | (go_at_call 21; refine (implChangeReads_calls p.bodies[z][j].deeds _ _ _ _ hDq HCIN.out).mono ?_; rintro e w6 ⟨v6, rfl, ho6, hb6⟩; obtain ⟨A6, n6, rfl, _, hr6⟩ := OwnI.row ho6; have hR6 := hRk.belowAll hb6; have hbx6 := below_then hbx hbx.size hb6) | (go_at_call 15; refine (lqWithin_calls _ _ _ _ _ _ _ _ _ hr6 hR6).mono ?_; rintro e w7 ⟨rfl, hb7⟩; rw [HW.out.1]; have hbx7 := below_then hbx6 hbx6.size hb7))
              go_roundw
              case rel => exact ⟨j + 1, by omega, by go_num, hbx7⟩
              case measure => simp [intOf]; omega
        · have hRj := hr25.belowAll hbr
          have hup := apartSet_up chReads p z
          have HUP := Lib.hid hup
          clear hup
          go_wp2_with (go_at_call 17; refine (lqUp_calls _ HUP.out _ _ _ _ hRj).mono ?_; rintro e w6 ⟨rfl, hb6⟩)
          go_ret
          exact ⟨rfl, below_then hbw5 hbw5.size (below_then hbr hbr.size hb6)⟩
end Go.Proofs.Ytcpabkfoalhldaa
namespace Go.Proofs.Ytcpabkfoalhldaa
open Go.RowKit
set_option linter.unusedVariables false
set_option linter.unusedSimpArgs false
attribute [local go_sem ↓] Go.wp_at_zero Go.wp_at_succ

set_option maxHeartbeats 8000000 in
set_option maxRecDepth 100000 in
theorem fnApartWrites_calls (xs : List Int) (A : Option Addr) (c : Nat) (w : World) (S : Nat → Prop) (hr : Row Kd.byte w S A xs) (hS : ∀ k, S k → k < w.heap.size) (hc : xs.length ≤ c) :
    Calls Try.prog 3 #[.slice A xs.length c] w fun e w' => e = .returned (.bool true) ∧ Below w.heap.size w w' := by
  by_cases hbig : 1048576 < xs.length
  · have hb : (1048576 : Int) < xs.length := by omega
    go_enter Try.func3, Try.ntmps3
    go_wp2
    go_ret
    exact ⟨rfl, Below.refl _ _⟩
  · have hb : ¬ (1048576 : Int) < xs.length := by omega
    go_enter Try.func3, Try.ntmps3
    go_wp2_with (first | (go_at_call 10; refine (drawApartWrites_calls xs A c _ S hr hS hc).mono ?_; rintro e w1 ⟨_, b, rfl, hbI, ⟨p, C, D, cc, cd, rfl, hcc, hcd, hC, hD⟩, hb1⟩) | (go_at_call 11; fail))
    have hz1 := hb1.size
    have hC1 := fun o => hC.belowAll (bal' w1 o)
    have hD1 := fun o => hD.belowAll (bal' w1 o)
    have hmd := hD.1
    have hRR := apartSet_len chWrites p b
    have tok1 : True := trivial
    by_cases hneg : progTree p b < 0
    · go_wp2_with (first
        | (go_at_call 11; refine (implApartWrites_calls p b C D cc cd _ _ (hC1 _) (hD1 _)).mono ?_; rintro e w2 ⟨v2, rfl, ho2, hb2⟩; obtain ⟨A2, n2, rfl, _, hr2⟩ := OwnI.row ho2; have hz2 := hb2.size; simp at hz2; have hx2 := (hb2.block w1.heap.size (by simp)).trans (heap_alloc_new w1 _); have g0 := cell_of_row _ _ 0 _ _ _ hx2; have g1 := cell_of_row _ _ 1 _ _ _ hx2; simp at g0 g1; have hC2 := (hC1 _).belowAll hb2; have hD2 := (hD1 _).belowAll hb2; have hbw2 := hb1.trans (((bal' w1 _).trans (hb2.mono (by simp))).mono hz1)) | (go_at_call 13; have _t := tok1; refine (specApartWrites_calls p b C D cc cd w2 _ hC2 hD2).mono ?_; rintro e w3 ⟨v3, rfl, ho3, hb3⟩; obtain ⟨A3, n3, rfl, _, hr3⟩ := OwnI.row ho3; have hz3 := hb3.size; have hx3 := (hb3.block w1.heap.size (by omega)).trans hx2; have g03 := cell_of_row _ _ 0 _ _ _ hx3; have g13 := cell_of_row _ _ 1 _ _ _ hx3; simp at g03 g13; have hC3 := hC2.belowAll hb3; have hD3 := hD2.belowAll hb3; have hr23 := hr2.belowAll hb3; have hbw3 := below_then hbw2 hbw2.size hb3; clear tok1; have tok2 : True := trivial) | (go_at_call 12; have _t := tok2; refine (lqInts_calls _ _ _ _ _ _ w3 _ _ hr23 hr3).mono ?_; rintro e w4 ⟨rfl, hb4⟩; rw [show decide (apartSet chWrites p b = apartSet chWrites p b) = true from decide_eq_true rfl]; have hz4 := hb4.size; have hx4 := (hb4.block w1.heap.size (by omega)).trans hx3; have g04 := cell_of_row _ _ 0 _ _ _ hx4; have g14 := cell_of_row _ _ 1 _ _ _ hx4; simp at g04 g14; have hC4 := hC3.belowAll hb4; have hD4 := hD3.belowAll hb4; have hr24 := hr23.belowAll hb4; have hbw4 := below_then hbw3 hbw3.size hb4; clear tok2; have tok3 : True := trivial) | (go_at_call 14; have _t := tok3; refine (implProgTree_calls p b C D cc cd w4 _ hC4 hD4).mono ?_; rintro e w5 ⟨rfl, hb5⟩; have hz5 := hb5.size; have hx5 := (hb5.block w1.heap.size (by omega)).trans hx4; have g05 := cell_of_row _ _ 0 _ _ _ hx5; have g15 := cell_of_row _ _ 1 _ _ _ hx5; simp at g05 g15; have hC5 := hC4.belowAll hb5; have hD5 := hD4.belowAll hb5; have hr25 := hr24.belowAll hb5; have hbw5 := below_then hbw4 hbw4.size hb5; clear tok3; have tok4 : True := trivial) | (go_at_call 13; have _t := tok4; refine (specApartWrites_calls p b C D cc cd w5 _ hC5 hD5).mono ?_; rintro e w6 ⟨v6, rfl, ho6, hb6⟩; obtain ⟨A6, n6, rfl, _, hr6⟩ := OwnI.row ho6; have hr26 := hr25.belowAll hb6; have hbw6 := below_then hbw5 hbw5.size hb6; clear tok4; have tok5 : True := trivial) | (go_at_call 12; have _t := tok5; refine (lqInts_calls _ _ _ _ _ _ w6 _ _ hr26 hr6).mono ?_; rintro e w7 ⟨rfl, hb7⟩; rw [show decide (apartSet chWrites p b = apartSet chWrites p b) = true from decide_eq_true rfl]; have hbw7 := below_then hbw6 hbw6.size hb7))
      go_ret
      exact ⟨rfl, hbw7⟩
    · have hpos := progTree_pos hneg
      obtain ⟨hp, hb0, hbl⟩ := hpos
      obtain ⟨z, rfl⟩ : ∃ z : Nat, b = (z : Int) := ⟨b.toNat, by omega⟩
      have hf := progOk_form hp
      have hlen := formOk_len hf
      have hzl : z < p.bodies.length := by omega
      have hRE : apartSet chWrites p z = touched chWrites p z := apartSet_in hp hzl
      have HF := Lib.hid (And.intro hp hf)
      have HRE := Lib.hid hRE
      clear hp hf hRE
      go_wp2_with (first
        | (go_at_call 11; refine (implApartWrites_calls p z C D cc cd _ _ (hC1 _) (hD1 _)).mono ?_; rintro e w2 ⟨v2, rfl, ho2, hb2⟩; obtain ⟨A2, n2, rfl, _, hr2⟩ := OwnI.row ho2; have hz2 := hb2.size; simp at hz2; have hx2 := (hb2.block w1.heap.size (by simp)).trans (heap_alloc_new w1 _); have g0 := cell_of_row _ _ 0 _ _ _ hx2; have g1 := cell_of_row _ _ 1 _ _ _ hx2; simp at g0 g1; have hC2 := (hC1 _).belowAll hb2; have hD2 := (hD1 _).belowAll hb2; have hbw2 := hb1.trans (((bal' w1 _).trans (hb2.mono (by simp))).mono hz1)) | (go_at_call 13; have _t := tok1; refine (specApartWrites_calls p z C D cc cd w2 _ hC2 hD2).mono ?_; rintro e w3 ⟨v3, rfl, ho3, hb3⟩; obtain ⟨A3, n3, rfl, _, hr3⟩ := OwnI.row ho3; have hz3 := hb3.size; have hx3 := (hb3.block w1.heap.size (by omega)).trans hx2; have g03 := cell_of_row _ _ 0 _ _ _ hx3; have g13 := cell_of_row _ _ 1 _ _ _ hx3; simp at g03 g13; have hC3 := hC2.belowAll hb3; have hD3 := hD2.belowAll hb3; have hr23 := hr2.belowAll hb3; have hbw3 := below_then hbw2 hbw2.size hb3; clear tok1; have tok2 : True := trivial) | (go_at_call 12; have _t := tok2; refine (lqInts_calls _ _ _ _ _ _ w3 _ _ hr23 hr3).mono ?_; rintro e w4 ⟨rfl, hb4⟩; rw [show decide (apartSet chWrites p z = apartSet chWrites p z) = true from decide_eq_true rfl]; have hz4 := hb4.size; have hx4 := (hb4.block w1.heap.size (by omega)).trans hx3; have g04 := cell_of_row _ _ 0 _ _ _ hx4; have g14 := cell_of_row _ _ 1 _ _ _ hx4; simp at g04 g14; have hC4 := hC3.belowAll hb4; have hD4 := hD3.belowAll hb4; have hr24 := hr23.belowAll hb4; have hbw4 := below_then hbw3 hbw3.size hb4; clear tok2; have tok3 : True := trivial) | (go_at_call 14; have _t := tok3; refine (implProgTree_calls p z C D cc cd w4 _ hC4 hD4).mono ?_; rintro e w5 ⟨rfl, hb5⟩; have hz5 := hb5.size; have hx5 := (hb5.block w1.heap.size (by omega)).trans hx4; have g05 := cell_of_row _ _ 0 _ _ _ hx5; have g15 := cell_of_row _ _ 1 _ _ _ hx5; simp at g05 g15; have hC5 := hC4.belowAll hb5; have hD5 := hD4.belowAll hb5; have hr25 := hr24.belowAll hb5; have hbw5 := below_then hbw4 hbw4.size hb5; clear tok3))
      have hl1 : w1.heap.size < w5.heap.size := by omega
      clear hC1 hD1 hC hD g0 g1 hC2 hD2 hr2 hx2 hr3 hC3 hD3 hr23 hx3 g03 g13 hC4 hD4 hr24 hx4 g04 g14 ho2 ho3 hb2 hb3 hb4 hb5 hbw2 hbw3 hbw4 hb1 hneg hx5
      obtain ⟨ad, E0, ce0, rfl, hadl, hadc, hadcl, hE0⟩ := at_slice hD5 hzl
      have hme0 := hE0.1
      have hkeep := HF.out
      go_loopw [6, 7, 8] (fun i _ _ wr => ∃ j : Nat, j ≤ p.bodies[z].length ∧ i = .int .i64 j ∧ Below w5.heap.size w5 wr) (fun i _ _ _ => p.bodies[z].length - (intOf i).toNat)
      case atStart => exact ⟨0, Nat.zero_le _, rfl, Below.refl _ _⟩
      case round =>
        obtain ⟨j, hj, rfl, hbr⟩ := hrel
        have h0r := (hbr.cell (p := ⟨w1.heap.size, 0, none⟩) hl1).trans g05
        have h1r := (hbr.cell (p := ⟨w1.heap.size, 1, none⟩) hl1).trans g15
        have hcr := (hbr.cell (p := ad.add z) (by rw [block_add]; exact hadl)).trans hadc
        by_cases hlt : j < p.bodies[z].length
        · obtain ⟨w0, rfl⟩ : ∃ w0 : World, w0 = wr := ⟨_, rfl⟩
          obtain ⟨ad2, D2, cd2, E, ce, rfl, hl3, k0, k1, k2, k3, hcd2, hce, hD2, hE, hi1, hi2⟩ := at_act (hE0.belowAll hbr) hlt
          have hme := hE.1
          have hzr := hbr.size
          have hmem := List.getElem_mem hlt
          have hkids := (formOk_acts hkeep.2 hzl).2 _ hmem
          have hcin := formOk_cells hkeep.2 hzl _ hmem
          have hwd : within (chWrites p.bodies[z][j].deeds) (apartSet chWrites p z) = true := by rw [HRE.out]; exact within_of (touched_deed chWrites chWrites_in hzl hmem)
          have hwk : ∀ (k : Nat) (hk : k < p.bodies[z][j].kids.length), within (apartSet chWrites p p.bodies[z][j].kids[k]) (apartSet chWrites p z) = true := by
            intro k hk
            have h1 := hkids.2 _ (List.getElem_mem hk)
            obtain ⟨q, hq⟩ : ∃ q : Nat, p.bodies[z][j].kids[k] = (q : Int) := ⟨p.bodies[z][j].kids[k].toNat, by omega⟩
            rw [hq, apartSet_in hkeep.1 (by omega), HRE.out]
            have := touched_kid chWrites hkeep.2 hzl hmem (List.getElem_mem hk)
            rw [hq, Int.toNat_natCast] at this
            exact within_of this
          have HW := Lib.hid (And.intro hwd hwk)
          have HCIN := Lib.hid hcin
          obtain ⟨wo, HO⟩ : ∃ wo, wo = w0.alloc (Obj.cells #[.int .i64 p.bodies[z][j].kind, .slice D2 p.bodies[z][j].deeds.length cd2, .slice E p.bodies[z][j].kids.length ce, .int .i64 p.bodies[z][j].reg] 35) := ⟨_, rfl⟩
          have hwo : Below w0.heap.size w0 wo := by rw [HO]; exact bal' _ _
          have hzo : wo.heap.size = w0.heap.size + 1 := by rw [HO]; simp
          have o1 : wo.cell? ⟨w0.heap.size, 1, none⟩ = some (.slice D2 p.bodies[z][j].deeds.length cd2) := by rw [HO]; simp [go_sem]
          have o2 : wo.cell? ⟨w0.heap.size, 2, none⟩ = some (.slice E p.bodies[z][j].kids.length ce) := by rw [HO]; simp [go_sem]
          have hDo := hD2.belowAll hwo
          have hEo := hE.belowAll hwo
          have hbo : Below w5.heap.size w5 wo := below_then hbr hzr hwo
          have HOO := Lib.hid HO
          have HZO := Lib.hid hzo
          clear HO hzo hD2 hE hwd hwk hcin
          go_wp2
          rw [← HOO.out]
          go_loopw [8] (fun i wr => ∃ k : Nat, k ≤ p.bodies[z][j].kids.length ∧ i = .int .i64 k ∧ Below wo.heap.size wo wr) (fun i _ => p.bodies[z][j].kids.length - (intOf i).toNat)
          case atStart => exact ⟨0, Nat.zero_le _, rfl, Below.refl _ _⟩
          case round =>
            obtain ⟨k, hk, rfl, hbk⟩ := hrel
            have hzk := hbk.size
            have hbx : Below w5.heap.size w5 wr := below_then hbo hbo.size hbk
            have c0k := (hbx.cell (p := ⟨w1.heap.size, 0, none⟩) hl1).trans g05
            have c1k := (hbx.cell (p := ⟨w1.heap.size, 1, none⟩) hl1).trans g15
            have d1k := (hbk.cell (p := ⟨w0.heap.size, 1, none⟩) (by have := HZO.out; simp; omega)).trans o1
            have d2k := (hbk.cell (p := ⟨w0.heap.size, 2, none⟩) (by have := HZO.out; simp; omega)).trans o2
            have hlw1 : w1.heap.size < wr.heap.size := by have := hbx.size; omega
            have hlw0 : w0.heap.size < wr.heap.size := by have := HZO.out; omega
            have hCk := hC5.belowAll hbx
            have hDk := hD5.belowAll hbx
            have hRk := hr25.belowAll hbx
            clear HOO
            by_cases hlk : k < p.bodies[z][j].kids.length
            · obtain ⟨ad3, rfl, hl4, hck, hik⟩ := at_int (hEo.belowAll hbk) hlk
              have hbw : Below wr.heap.size wr wr.drew := (Below.refl _ _).drew
              have HWK := Lib.hid (HW.out.2 k hlk)
              go_wp2
              go_region_held3 (fun w' => w'.cell? ⟨w1.heap.size, 0, none⟩ = some (.slice C p.cells.length cc) ∧ w'.cell? ⟨w1.heap.size, 1, none⟩ = some (.slice (some ad) p.bodies.length cd) ∧ w'.cell? ⟨w0.heap.size, 2, none⟩ = some (.slice (some ad3) p.bodies[z][j].kids.length ce) ∧ w'.cell? (ad3.add k) = some (.int .i64 p.bodies[z][j].kids[k]) ∧ Below wr.heap.size wr w') (go_keep)
                (first | (go_at_call 11; refine (implApartWrites_calls p _ C (some ad) cc cd _ _ (Row.belowAll hCk ‹Below wr.heap.size wr _›) (Row.belowAll hDk ‹Below wr.heap.size wr _›)).mono ?_; rintro e w6 ⟨v6, rfl, ho6, hb6⟩; obtain ⟨A6, n6, rfl, _, hr6⟩ := OwnI.row ho6; have q0 := below_then ‹Below wr.heap.size wr _› (Below.size ‹Below wr.heap.size wr _›) hb6; have q1 := (q0.cell (p := ⟨w1.heap.size, 0, none⟩) hlw1).trans c0k; have q2 := (q0.cell (p := ⟨w1.heap.size, 1, none⟩) hlw1).trans c1k; have q3 := (q0.cell (p := ⟨w0.heap.size, 2, none⟩) hlw0).trans d2k; have q4 := (q0.cell (p := ad3.add k) (by rw [block_add]; exact hl4)).trans hck) | (go_at_call 15; have b6 : Below w6.heap.size w6 _ := (by repeat' (first | exact Below.refl _ _ | apply Below.drew)); refine (lqWithin_calls _ _ _ _ _ _ _ _ _ (Row.belowAll hr6 b6) (Row.belowAll hRk (below_then q0 q0.size b6))).mono ?_; rintro e w7 ⟨rfl, hb7⟩; rw [HWK.out]; have q00 := below_then (below_then q0 q0.size b6) (by have := q0.size; have := b6.size; omega) hb7; have q5 := (q00.cell (p := ⟨w1.heap.size, 0, none⟩) hlw1).trans c0k; have q6 := (q00.cell (p := ⟨w1.heap.size, 1, none⟩) hlw1).trans c1k; have q7 := (q00.cell (p := ⟨w0.heap.size, 2, none⟩) hlw0).trans d2k; have q8 := (q00.cell (p := ad3.add k) (by rw [block_add]; exact hl4)).trans hck))
              go_wp2
              go_roundw
              case rel => exact ⟨k + 1, by omega, by go_num, below_then hbk hbk.size q00⟩
              case measure => simp [intOf]; omega
            · have hDq := hDo.belowAll hbk
              go_wp2_with (first
                | (go_at_call 16; refine (implChangeWrites_calls p.bodies[z][j].deeds _ _ _ _ hDq HCIN.out).mono ?_; rintro e w6 ⟨v6, rfl, ho6, hb6⟩; obtain ⟨A6, n6, rfl, _, hr6⟩ := OwnI.row ho6; have hR6 := hRk.belowAll hb6; have hbx6 := below_then hbx hbx.size hb6) | (go_at_call 15; refine (lqWithin_calls _ _ _ _ _ _ _ _ _ hr6 hR6).mono ?_; rintro e w7 ⟨rfl, hb7⟩; rw [HW.out.1]; have hbx7 := below_then hbx6 hbx6.size hb7))
              go_roundw
              case rel => exact ⟨j + 1, by omega, by go_num, hbx7⟩
              case measure => simp [intOf]; omega
        · have hRj := hr25.belowAll hbr
          have hup := apartSet_up chWrites p z
          have HUP := Lib.hid hup
          clear hup
          go_wp2_with (go_at_call 17; refine (lqUp_calls _ HUP.out _ _ _ _ hRj).mono ?_; rintro e w6 ⟨rfl, hb6⟩)
          go_ret
          exact ⟨rfl, below_then hbw5 hbw5.size (below_then hbr hbr.size hb6)⟩
end Go.Proofs.Ytcpabkfoalhldaa
namespace Go.Proofs.Ytcpabkfoalhldaa.fnApartWrites
open Go.ChangeShapes Go.WideShapes Go.ChangeAt Go.RowKit
set_option linter.unusedSimpArgs false
set_option linter.unusedVariables false
theorem own : ownKnob Try.prog.godebug = none := by kernel_rfl
theorem laidOut : laidOutB Try.prog = true := by kernel_rfl
/-- A slice of bytes as it comes in. -/
def IsRow (k : IntKind) (w : World) (a : Option Addr) (len cap : Nat) (zs : List Int) : Prop :=
  (a = none ∧ len = 0 ∧ cap = 0 ∧ zs = []) ∨
  ∃ x, a = some x ∧ len ≤ cap ∧ cap ≤ maxLen ∧ zs.length = cap ∧ (∀ i, i < zs.length → w.cell? (x.add i) = some (.int k (zs.getD i 0))) ∧ ∀ n ∈ zs, (Lit.int k n).wf = true
theorem IsRow.bytes {w : World} {a : Option Addr} {len cap : Nat} {zs : List Int} (h : IsRow .u8 w a len cap zs) : ∃ bs : List Int, len = bs.length ∧ bs.length ≤ cap ∧ Row Kd.byte w (fun k => k < w.heap.size) a bs := by
  rcases h with ⟨rfl, rfl, rfl, rfl⟩ | ⟨x, rfl, hl, hm, hz, hc, hw⟩
  · exact ⟨[], rfl, Nat.le_refl _, Row.nil _ _ _ _⟩
  · refine ⟨zs.take len, by simp; omega, by simp; omega, by simp [maxLen] at hm ⊢; omega, fun hne => ?_⟩
    have hpos : 0 < zs.length := by
      rcases Nat.eq_zero_or_pos zs.length with h | h
      · exact absurd (List.length_eq_zero_iff.1 (by simp; omega)) hne
      · exact h
    have hlt : x.block < w.heap.size := by
      have := block_lt_of_cell (hc 0 hpos)
      rwa [block_add] at this
    refine ⟨x, rfl, hlt, hlt, fun j y hj => ?_⟩
    have hjl : j < zs.length := by
      have := (List.getElem?_eq_some_iff.1 hj).1
      simp at this; omega
    have hy : zs[j]? = some y := by
      rw [List.getElem?_take] at hj
      split at hj
      · exact hj
      · cases hj
    have hcj := hc j hjl
    rw [List.getD_eq_getElem?_getD, hy, Option.getD_some] at hcj
    have hwj := hw y (List.mem_of_getElem? hy)
    refine ⟨_, ⟨rfl, ?_⟩, fun i u hu => ?_⟩
    · simp [Lit.wf] at hwj
      exact hwj
    · match i with
      | 0 => simp at hu; subst hu; simpa [Kd.byte] using hcj
      | i + 1 => simp at hu
set_option maxRecDepth 100000 in
theorem lifted (os : Os) (started : os.Started) (H : Type) (enc : TypeId × Value → H) :
    ReturnsInHanded {} Try.checked os 3 .any (Rows.fnApartWritesSpec.pre6 enc Try.prog Try.f3 Rows.fnApartWritesRow.domain false) (Rows.fnApartWritesSpec.post enc Try.prog Try.f3 false true false false) := by
  refine returnsInHanded_of_change_sized (C := Try.checked) own started (by kernel_rfl) Try.func3
    (ChangeSpec.witness6 (enc := enc) (C := Try.checked) false ⟨#[], #[.slice none 0 0], []⟩ 8 (by kernel_rfl) (by kernel_rfl) (by kernel_rfl) (by kernel_rfl)) ?_
  intro W base args ds gs before hval0 hW hcnd hsz0 _
  have hval : ∀ (j : Nat) t v, Try.f3.params[j]? = some t → args[j]? = some v → Value.okWide Try.prog W .any base t v := hval0
  have hW' := hW
  obtain ⟨p, q, hA0, hV, rfl, hfz, hnd⟩ := hW
  have hA : DataW.TrodAll enc Try.prog W 0 (fun _ => true) true Try.f3.params.toList args.toList ds p := hA0
  rw [Try.params3] at hA hval
  obtain ⟨v0, vs0, d0, ds0, p0, q0, hargs, rfl, rfl, h0, r0⟩ := trodAll_cons hA
  obtain ⟨rfl, rfl, rfl⟩ := trodAll_nil r0
  obtain rfl : args = #[v0] := by cases args; simp_all
  obtain ⟨rfl, rfl⟩ := trodVars_none hV
  obtain ⟨a0, len0, cap0, rfl⟩ := okWide_slice Try.underlying22 (hval 0 22 v0 rfl rfl)
  have k0 := h0
  have lt0 : ∀ x ∈ p0, x.block < W.heap.size := by obtain ⟨m, hm⟩ := k0; exact DataW.trod_lt m _ _ _ hm
  obtain ⟨z0, w0⟩ : ∃ zs, IsRow .u8 W a0 len0 cap0 zs := by
    obtain ⟨fuel, hf⟩ := h0
    rcases open_ints Try.underlying22 Try.underlying5 (by kernel_rfl) hf with ⟨hcs, _⟩ | ⟨x, l, c, zs, hcs, _, hl, hm, hz, hx, hcell, hwz⟩
    · simp [Value.cells] at hcs
      obtain ⟨rfl, rfl, rfl⟩ := hcs
      exact ⟨[], .inl ⟨rfl, rfl, rfl, rfl⟩⟩
    · simp [Value.cells] at hcs
      obtain ⟨rfl, rfl, rfl⟩ := hcs
      exact ⟨zs, .inr ⟨_, rfl, hl, hm, by simpa using hz, hcell, hwz⟩⟩
  obtain ⟨bs, rfl, hbc, hrow⟩ := w0.bytes
  clear hA0 hval0 hsz0
  refine (fnApartWrites_calls bs a0 cap0 W (fun k => k < W.heap.size) hrow (fun k hk => hk) hbc).mono fun e W' ⟨he, bel⟩ => ?_
  subst he
  exact ⟨_, rfl, _, _, _, [], _, [], hW', trodAll_mk1 (shut_bool Try.underlying4 _), (trodAll_cons_mk (Below.trod laidOut (by kernel_rfl) (of_decide_eq_true (by kernel_rfl)) k0 bel lt0) trodAll_mk0), rfl, bel.frame _, fun h => by cases h⟩
theorem over : Rows.fnApartWritesRow.holds Try.pinned (OpenSpec.ofChange Rows.fnApartWritesSpec) :=
  OpenClaim.holds_of_wide 3 Try.f3 rfl rfl rfl rfl rfl rfl rfl ⟨rfl, rfl, rfl, rfl, rfl⟩ rfl rfl rfl rfl rfl (by kernel_rfl) Try.func3 (by kernel_rfl)
    (of_decide_eq_true (by kernel_rfl)) (by unfold Func.isWrapper; first | (rw [if_pos (by decide +kernel)]; kernel_rfl) | (rw [if_neg (by decide +kernel)]; exact ⟨rfl, rfl⟩))
    (fun os started H enc _ => lifted os started H enc)
theorem proved : Rows.FnApartWritesSaid := over
end Go.Proofs.Ytcpabkfoalhldaa.fnApartWrites
namespace Go.Proofs.Ytcpabkfoalhldaa
/-- The statement, under a short name. -/
theorem fnApartWrites_holds : Rows.FnApartWritesSaid := fnApartWrites.proved
end Go.Proofs.Ytcpabkfoalhldaa
