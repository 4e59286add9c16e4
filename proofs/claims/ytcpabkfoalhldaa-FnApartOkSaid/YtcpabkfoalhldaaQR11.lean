/- FnApartOk: whatever the bytes are, the law returns true, and they read as they did. -/
import Derived.Deep.RegionHeld3
import Derived.Deep.DrawnRows
import Derived.Test.YtcpabkfoalhldaaRows
import Derived.WalkKit
import Derived.ProofKit
import Derived.OpenShut
import Derived.ShutString
import Derived.ChangeOld
import Derived.Below
import Derived.SizedLaws
import Derived.ChangeSlices
import Derived.Test.YtcpabkfoalhldaaQm
namespace Go.Proofs.Ytcpabkfoalhldaa
set_option linter.unusedVariables false
set_option linter.unusedSimpArgs false

/-- Two bodies touch at a cell. -/
def badAt (p : Prog) (a b : Nat) (n : Int) : Bool :=
  decide (n ∈ touched chWrites p a) && (decide (n ∈ touched chWrites p b) || decide (n ∈ touched chReads p b)) || decide (n ∈ touched chWrites p b) && decide (n ∈ touched chReads p a)
theorem touched_in (f : List Deed → List Int) (p : Prog) (b : Nat) : ∀ c ∈ touched f p b, c = 0 ∨ c = 1 ∨ c = 2 := by
  intro c hc
  have := (mem_sort3.1 hc).1
  omega
theorem meets3 (x y : List Int) (hx : ∀ c ∈ x, c = 0 ∨ c = 1 ∨ c = 2) : meets x y = (decide ((0 : Int) ∈ x) && decide ((0 : Int) ∈ y) || decide ((1 : Int) ∈ x) && decide ((1 : Int) ∈ y) || decide ((2 : Int) ∈ x) && decide ((2 : Int) ∈ y)) := by
  rw [Bool.eq_iff_iff]
  simp only [meets, List.any_eq_true, decide_eq_true_eq, Bool.or_eq_true, Bool.and_eq_true]
  constructor
  · rintro ⟨i, h1, h2⟩
    rcases hx i h1 with rfl | rfl | rfl
    · exact .inl (.inl ⟨h1, h2⟩)
    · exact .inl (.inr ⟨h1, h2⟩)
    · exact .inr ⟨h1, h2⟩
  · rintro ((h | h) | h)
    · exact ⟨0, h⟩
    · exact ⟨1, h⟩
    · exact ⟨2, h⟩
theorem apart2_bad (p : Prog) (a b : Nat) : apart2 p a b = (!badAt p a b 0 && !badAt p a b 1 && !badAt p a b 2) := by
  unfold apart2 badAt
  rw [meets3 _ _ (touched_in chWrites p a), meets3 _ _ (touched_in chWrites p a), meets3 _ _ (touched_in chReads p a)]
  generalize decide ((0 : Int) ∈ touched chWrites p a) = a0
  generalize decide ((1 : Int) ∈ touched chWrites p a) = a1
  generalize decide ((2 : Int) ∈ touched chWrites p a) = a2
  generalize decide ((0 : Int) ∈ touched chWrites p b) = b0
  generalize decide ((1 : Int) ∈ touched chWrites p b) = b1
  generalize decide ((2 : Int) ∈ touched chWrites p b) = b2
  generalize decide ((0 : Int) ∈ touched chReads p a) = c0
  generalize decide ((1 : Int) ∈ touched chReads p a) = c1
  generalize decide ((2 : Int) ∈ touched chReads p a) = c2
  generalize decide ((0 : Int) ∈ touched chReads p b) = d0
  generalize decide ((1 : Int) ∈ touched chReads p b) = d1
  generalize decide ((2 : Int) ∈ touched chReads p b) = d2
  cases a0 <;> cases a1 <;> cases a2 <;> cases b0 <;> cases b1 <;> cases b2 <;> simp <;> (cases c0 <;> cases c1 <;> cases c2 <;> simp) <;> (cases d0 <;> cases d1 <;> cases d2 <;> simp)
/-- Of three cells: up to n none is bad. -/
def goodTo (p : Prog) (a b : Nat) : Nat → Bool
  | 0 => true
  | n + 1 => goodTo p a b n && !badAt p a b n
theorem apart2_good (p : Prog) (a b : Nat) : apart2 p a b = goodTo p a b 3 := by
  rw [apart2_bad]; simp [goodTo]
theorem lawKids_two {p : Prog} {kids : List Int} (h : kids.length = 2) : apartKids p kids = apart2 p (kids[0]).toNat (kids[1]).toNat := by
  match kids, h with
  | [a, b], _ => rfl
theorem lawKids_else {p : Prog} {kids : List Int} (h : kids.length ≠ 2) : apartKids p kids = true := by
  match kids, h with
  | [], _ => rfl
  | [_], _ => rfl
  | [a, b], h => exact absurd rfl h
  | _ :: _ :: _ :: _, _ => rfl
end Go.Proofs.Ytcpabkfoalhldaa
namespace Go.Proofs.Ytcpabkfoalhldaa
open Go.RowKit
set_option linter.unusedVariables false
set_option linter.unusedSimpArgs false
attribute [local go_sem ↓] Go.wp_at_zero Go.wp_at_succ

theorem apartSet_in' {f : List Deed → List Int} {p : Prog} {b : Nat} (hp : progOk p = true) (hb : b < p.bodies.length) : apartSet f p (b : Int) = touched f p b := by
  unfold apartSet
  rw [hp, show inR (b : Int) 0 ((p.bodies.length : Int) - 1) = true by simp [inR]; omega]
  rfl
theorem bodyKids_ok {p : Prog} : apartOk p = (progOk p && p.bodies.all fun acts => acts.all fun a => apartKids p a.kids) := rfl
set_option maxHeartbeats 8000000 in
set_option maxRecDepth 100000 in
theorem fnApartOk_calls (xs : List Int) (A : Option Addr) (c : Nat) (w : World) (S : Nat → Prop) (hr : Row Kd.byte w S A xs) (hS : ∀ k, S k → k < w.heap.size) (hc : xs.length ≤ c) :
    Calls Try.prog 7 #[.slice A xs.length c] w fun e w' => e = .returned (.bool true) ∧ Below w.heap.size w w' := by
  by_cases hbig : 1048576 < xs.length
  · have hb : (1048576 : Int) < xs.length := by omega
    go_enter Try.func7, Try.ntmps7
    go_wp2
    go_ret
    exact ⟨rfl, Below.refl _ _⟩
  · have hb : ¬ (1048576 : Int) < xs.length := by omega
    go_enter Try.func7, Try.ntmps7
    go_wp2_with (first | (go_at_call 22; refine (drawApartOk_calls xs A c _ S hr hS hc).mono ?_; rintro e w1 ⟨_, rfl, ⟨p, C, D, cc, cd, rfl, hcc, hcd, hC, hD⟩, hb1⟩) | (go_at_call 23; fail))
    have hz1 := hb1.size
    have hC1 := fun o => hC.belowAll (bal' w1 o)
    have hD1 := fun o => hD.belowAll (bal' w1 o)
    have hmd := hD.1
    cases hapt : progOk p with
    | false =>
      have HA := Lib.hid hapt
      have hao : apartOk p = false := by rw [bodyKids_ok, hapt]; rfl
      have HAO := Lib.hid hao
      clear hapt hao
      go_wp2_with (first
        | (go_at_call 23; refine (implApartOk_calls p C D cc cd _ _ (hC1 _) (hD1 _)).mono ?_; rintro e w2 ⟨rfl, hb2⟩; rw [HAO.out]; have hz2 := hb2.size; simp at hz2; have hx2 := (hb2.block w1.heap.size (by simp)).trans (heap_alloc_new w1 _); have g0 := cell_of_row _ _ 0 _ _ _ hx2; have g1 := cell_of_row _ _ 1 _ _ _ hx2; simp at g0 g1; have hC2 := (hC1 _).belowAll hb2; have hD2 := (hD1 _).belowAll hb2; have hbw2 := hb1.trans (((bal' w1 _).trans (hb2.mono (by simp))).mono hz1)) | (go_at_call 32; refine (implProgOk_calls p C D cc cd w2 _ hC2 hD2).mono ?_; rintro e w3 ⟨rfl, hb3⟩; rw [HA.out]; have hz3 := hb3.size; have hx3 := (hb3.block w1.heap.size (by omega)).trans hx2; have g03 := cell_of_row _ _ 0 _ _ _ hx3; have g13 := cell_of_row _ _ 1 _ _ _ hx3; simp at g03 g13; have hC3 := hC2.belowAll hb3; have hD3 := hD2.belowAll hb3; have hbw3 := below_then hbw2 hbw2.size hb3))
      go_loopw [5, 6, 7, 8, 9, 10, 11] (fun b i _ _ _ _ _ wr => b = .bool false ∧ i = .int .i64 0 ∧ wr = w3) (fun b i _ _ _ _ _ _ => 0)
      case atStart => exact ⟨rfl, rfl, rfl⟩
      case round =>
        obtain ⟨rfl, rfl, rfl⟩ := hrel
        go_wp2_with (first
          | (go_at_call 24; refine (specApartOk_calls p C D cc cd _ _ hC3 hD3).mono ?_; rintro e w4 ⟨rfl, hb4⟩; rw [HAO.out]; have hbw4 := below_then hbw3 hbw3.size hb4))
        all_goals
          go_ret
          exact ⟨rfl, hbw4⟩
    | true =>
      have HA := Lib.hid hapt
      have hf := progOk_form hapt
      have hao : apartOk p = (p.bodies.all fun acts => acts.all fun a => apartKids p a.kids) := by rw [bodyKids_ok, hapt]; rfl
      have hlen := formOk_len hf
      have HAO := Lib.hid hao
      have HF := Lib.hid hf
      obtain ⟨bo, hbo⟩ : ∃ bo, bo = apartOk p := ⟨_, rfl⟩
      have HBO := Lib.hid hbo
      clear hapt hao hf
      go_wp2_with (first
        | (go_at_call 23; refine (implApartOk_calls p C D cc cd _ _ (hC1 _) (hD1 _)).mono ?_; rintro e w2 ⟨rfl, hb2⟩; rw [← hbo]; have hz2 := hb2.size; simp at hz2; have hx2 := (hb2.block w1.heap.size (by simp)).trans (heap_alloc_new w1 _); have g0 := cell_of_row _ _ 0 _ _ _ hx2; have g1 := cell_of_row _ _ 1 _ _ _ hx2; simp at g0 g1; have hC2 := (hC1 _).belowAll hb2; have hD2 := (hD1 _).belowAll hb2; have hbw2 := hb1.trans (((bal' w1 _).trans (hb2.mono (by simp))).mono hz1); clear hbo) | (go_at_call 32; refine (implProgOk_calls p C D cc cd w2 _ hC2 hD2).mono ?_; rintro e w3 ⟨rfl, hb3⟩; rw [HA.out]; have hz3 := hb3.size; have hx3 := (hb3.block w1.heap.size (by omega)).trans hx2; have g03 := cell_of_row _ _ 0 _ _ _ hx3; have g13 := cell_of_row _ _ 1 _ _ _ hx3; simp at g03 g13; have hC3 := hC2.belowAll hb3; have hD3 := hD2.belowAll hb3; have hbw3 := below_then hbw2 hbw2.size hb3))
      have hl1 : w1.heap.size < w3.heap.size := by omega
      clear hC1 hD1 hC hD g0 g1 hC2 hD2 hx2 hb2 hb3 hbw2 hb1 hx3
      go_loopw [5, 6, 7, 8, 9, 10, 11] (fun b i _ _ _ _ _ wr => ∃ j : Nat, j ≤ p.bodies.length ∧ i = .int .i64 j ∧ b = .bool ((p.bodies.take j).all fun acts => acts.all fun a => apartKids p a.kids) ∧ Below w3.heap.size w3 wr) (fun _ i _ _ _ _ _ _ => p.bodies.length - (intOf i).toNat)
      case atStart => exact ⟨0, Nat.zero_le _, rfl, by simp, Below.refl _ _⟩
      case round =>
        obtain ⟨j, hj, rfl, rfl, hbr⟩ := hrel
        have h0r := (hbr.cell (p := ⟨w1.heap.size, 0, none⟩) hl1).trans g03
        have h1r := (hbr.cell (p := ⟨w1.heap.size, 1, none⟩) hl1).trans g13
        obtain ⟨ball, hball⟩ : ∃ ball, ball = ((p.bodies.take j).all fun acts => acts.all fun a => apartKids p a.kids) := ⟨_, rfl⟩
        rw [← hball]
        have HBL := Lib.hid hball
        clear hball
        by_cases hgo : j < p.bodies.length ∧ ball = true
        · obtain ⟨hlt, rfl⟩ := hgo
          obtain ⟨ad, E0, ce0, rfl, hadl, hadc, hadcl, hE0⟩ := at_slice hD3 hlt
          have hme0 := hE0.1
          go_wp2
          obtain ⟨w0, rfl⟩ : ∃ w0 : World, w0 = wr := ⟨_, rfl⟩
          go_loopw [5, 7, 8, 9, 10, 11] (fun b i _ _ _ _ wr => ∃ k : Nat, k ≤ p.bodies[j].length ∧ i = .int .i64 k ∧ b = .bool ((p.bodies[j].take k).all fun a => apartKids p a.kids) ∧ Below w3.heap.size w3 wr) (fun _ i _ _ _ _ _ => p.bodies[j].length - (intOf i).toNat)
          case atStart => exact ⟨0, Nat.zero_le _, rfl, by simp, hbr⟩
          case round =>
            obtain ⟨k, hk, rfl, rfl, hbk⟩ := hrel
            clear h0r h1r
            have h0k := (hbk.cell (p := ⟨w1.heap.size, 0, none⟩) hl1).trans g03
            have h1k := (hbk.cell (p := ⟨w1.heap.size, 1, none⟩) hl1).trans g13
            have hck := (hbk.cell (p := ad.add j) (by rw [block_add]; exact hadl)).trans hadc
            by_cases hlk : k < p.bodies[j].length
            · obtain ⟨ad2, D2, cd2, E, ce, rfl, hl3, k0, k1, k2, k3, hcd2, hce, hD2, hE, hi1, hi2⟩ := at_act (hE0.belowAll hbk) hlk
              by_cases h2 : p.bodies[j][k].kids.length = 2
              · have hq2 : ((p.bodies[j][k].kids.length : Int) != 2) = false := by simp; omega
                have hmem := List.getElem_mem hlk
                have x0 : (0 : Int) < (p.bodies[j][k].kids.length : Int) := by omega
                have x1 : (1 : Int) < (p.bodies[j][k].kids.length : Int) := by omega
                have x2 : 0 < p.bodies[j][k].kids.length := by omega
                have x3 : 1 < p.bodies[j][k].kids.length := by omega
                have hkb := (formOk_acts HF.out hlt).2 _ hmem
                obtain ⟨ad3, rfl, hl4, hc0, hi0⟩ := at_int hE (j := 0) (by omega)
                obtain ⟨ad3', he3, _, hc1', hi1'⟩ := at_int hE (j := 1) (by omega)
                injection he3 with he3
                subst he3
                obtain ⟨q0, hq0⟩ : ∃ q : Nat, p.bodies[j][k].kids[0] = (q : Int) := ⟨p.bodies[j][k].kids[0].toNat, by have := hkb.2 _ (List.getElem_mem (show 0 < p.bodies[j][k].kids.length by omega)); omega⟩
                obtain ⟨q1, hq1⟩ : ∃ q : Nat, p.bodies[j][k].kids[1] = (q : Int) := ⟨p.bodies[j][k].kids[1].toNat, by have := hkb.2 _ (List.getElem_mem (show 1 < p.bodies[j][k].kids.length by omega)); omega⟩
                have hr0 : q0 < p.bodies.length := by have := hkb.2 _ (List.getElem_mem (show 0 < p.bodies[j][k].kids.length by omega)); omega
                have hr1 : q1 < p.bodies.length := by have := hkb.2 _ (List.getElem_mem (show 1 < p.bodies[j][k].kids.length by omega)); omega
                have hap : apartKids p p.bodies[j][k].kids = goodTo p q0 q1 3 := by rw [apartKids_two p h2, hq0, hq1, ← apart2_good]; rfl
                have HAP := Lib.hid hap
                have hW0 : apartSet chWrites p q0 = touched chWrites p q0 := apartSet_in' HA.out hr0
                have hW1 : apartSet chWrites p q1 = touched chWrites p q1 := apartSet_in' HA.out hr1
                have hR0 : apartSet chReads p q0 = touched chReads p q0 := apartSet_in' HA.out hr0
                have hR1 : apartSet chReads p q1 = touched chReads p q1 := apartSet_in' HA.out hr1
                have HW0 := Lib.hid hW0
                have HW1 := Lib.hid hW1
                have HR0 := Lib.hid hR0
                have HR1 := Lib.hid hR1
                rw [hq0] at hc0
                rw [hq1] at hc1'
                have hc0 : wr.cell? ad3 = some (.int .i64 q0) := by simpa [Addr.add] using hc0
                obtain ⟨b0, hb0⟩ : ∃ b0, b0 = ((p.bodies[j].take k).all fun a => apartKids p a.kids) := ⟨_, rfl⟩
                rw [← hb0]
                have HB0 := Lib.hid hb0
                have H2 := Lib.hid h2
                have hCk := hC3.belowAll hbk
                have hDk := hD3.belowAll hbk
                have hlw1 : w1.heap.size < wr.heap.size := by have := hbk.size; omega
                obtain ⟨wk, hwk⟩ : ∃ wk : World, wk = wr := ⟨_, rfl⟩
                clear hb0 h2 hap hW0 hW1 hR0 hR1 hq0 hq1 hkb hi0 hi1'
                go_wp2
                have hbw : Below wr.heap.size wr wr.drew := (Below.refl _ _).drew
                go_region_held3 (fun w' => w'.cell? ⟨w1.heap.size, 0, none⟩ = some (.slice C p.cells.length cc) ∧ w'.cell? ⟨w1.heap.size, 1, none⟩ = some (.slice (some ad) p.bodies.length cd) ∧ w'.cell? ad3 = some (.int .i64 q0) ∧ Below wr.heap.size wr w') (go_keep)
                  (first | (go_at_call 11; refine (implApartWrites_calls p _ C (some ad) cc cd _ _ (Row.belowAll hCk ‹Below wr.heap.size wr _›) (Row.belowAll hDk ‹Below wr.heap.size wr _›)).mono ?_; rintro e w6 ⟨v6, rfl, ho6, hb6⟩; obtain ⟨A6, n6, rfl, _, hr6⟩ := OwnI.row ho6; have p0 := below_then ‹Below wr.heap.size wr _› (Below.size ‹Below wr.heap.size wr _›) hb6; have p1 := (p0.cell (p := ⟨w1.heap.size, 0, none⟩) hlw1).trans h0k; have p2 := (p0.cell (p := ⟨w1.heap.size, 1, none⟩) hlw1).trans h1k; have p3 := (p0.cell (p := ad3) hl4).trans hc0))
                have hbw6 : Below w6.heap.size w6 w6.drew := (Below.refl _ _).drew
                have hlw16 : w1.heap.size < w6.heap.size := by have := p0.size; omega
                have c16 := (p0.cell (p := ⟨ad3.block, ad3.off + 1, none⟩) hl4).trans (show wr.cell? ⟨ad3.block, ad3.off + 1, none⟩ = some (.int .i64 q1) by simpa [Addr.add] using hc1')
                have hCk6 := hCk.belowAll p0
                have hDk6 := hDk.belowAll p0
                go_wp2
                go_region_held3 (fun w' => w'.cell? ⟨w1.heap.size, 0, none⟩ = some (.slice C p.cells.length cc) ∧ w'.cell? ⟨w1.heap.size, 1, none⟩ = some (.slice (some ad) p.bodies.length cd) ∧ w'.cell? ⟨ad3.block, ad3.off + 1, none⟩ = some (.int .i64 q1) ∧ Below w6.heap.size w6 w') (go_keep)
                  (first | (go_at_call 11; refine (implApartWrites_calls p _ C (some ad) cc cd _ _ (Row.belowAll hCk6 ‹Below w6.heap.size w6 _›) (Row.belowAll hDk6 ‹Below w6.heap.size w6 _›)).mono ?_; rintro e w7 ⟨v7, rfl, ho7, hb7⟩; obtain ⟨A7, n7, rfl, _, hr7⟩ := OwnI.row ho7; have s0 := below_then ‹Below w6.heap.size w6 _› (Below.size ‹Below w6.heap.size w6 _›) hb7; have s1 := (s0.cell (p := ⟨w1.heap.size, 0, none⟩) hlw16).trans p1; have s2 := (s0.cell (p := ⟨w1.heap.size, 1, none⟩) hlw16).trans p2; have s3 := (s0.cell (p := ⟨ad3.block, ad3.off + 1, none⟩) (by have := p0.size; simp; omega)).trans c16))
                have hr67 := hr6.belowAll s0
                have hb07 := below_then hbk hbk.size (below_then p0 p0.size s0)
                have c07 := (s0.cell (p := ad3) (by have := p0.size; omega)).trans p3
                have hl47 : ad3.block < w7.heap.size := by have := p0.size; have := s0.size; omega
                have hC7 := hCk6.belowAll s0
                have hD7 := hDk6.belowAll s0
                have hl17 : w1.heap.size < w7.heap.size := by have := s0.size; omega
                go_wp2
                go_loopw [5, 11] (fun b i wr => ∃ (n : Int) (m : Nat), n = m ∧ m ≤ 3 ∧ i = .int .i64 n ∧ b = .bool (b0 && goodTo p q0 q1 m) ∧ Below w7.heap.size w7 wr) (fun _ i _ => 3 - (intOf i).toNat)
                case atStart => exact ⟨0, 0, rfl, by omega, rfl, by simp [goodTo], Below.refl _ _⟩
                case round =>
                  obtain ⟨n, m, hnm, hm3, rfl, rfl, hbn⟩ := hrel
                  have hbwn : Below wr.heap.size wr wr.drew := (Below.refl _ _).drew
                  have hl1n : w1.heap.size < wr.heap.size := by have := hbn.size; omega
                  have hl4n : ad3.block < wr.heap.size := by have := hbn.size; omega
                  have z0 := (hbn.cell (p := ⟨w1.heap.size, 0, none⟩) hl17).trans s1
                  have z1 := (hbn.cell (p := ⟨w1.heap.size, 1, none⟩) hl17).trans s2
                  have z2 := (hbn.cell (p := ad3) hl47).trans c07
                  have z3 := (hbn.cell (p := ⟨ad3.block, ad3.off + 1, none⟩) hl47).trans s3
                  have hr6n := hr67.belowAll hbn
                  have hr7n := hr7.belowAll hbn
                  have hCn := hC7.belowAll hbn
                  have hDn := hD7.belowAll hbn
                  by_cases hm : m < 3
                  · have hn3 : n < 3 := by omega
                    have hbd : badAt p q0 q1 (m : Int) = (decide (n ∈ apartSet chWrites p q0) && (decide (n ∈ apartSet chWrites p q1) || decide (n ∈ apartSet chReads p q1)) || decide (n ∈ apartSet chWrites p q1) && decide (n ∈ apartSet chReads p q0)) := by rw [HW0.out, HW1.out, HR0.out, HR1.out, hnm]; rfl
                    have hn0 : 0 ≤ n := by omega
                    have HNM := Lib.hid hnm
                    clear hnm
                    cases e0 : decide (n ∈ apartSet chWrites p (q0 : Int)) <;> cases e1 : decide (n ∈ apartSet chWrites p (q1 : Int))
                    all_goals (have E0 := Lib.hid e0; have E1 := Lib.hid e1)
                    · have BAD := Lib.hid (show badAt p q0 q1 (m : Int) = false by rw [hbd, e0, e1]; rfl)
                      clear e0 e1 hbd
                      go_wp2_with fail
                      refine wp_region_held_drew (S := (fun w' => w'.cell? ⟨w1.heap.size, 0, none⟩ = some (.slice C p.cells.length cc) ∧ w'.cell? ⟨w1.heap.size, 1, none⟩ = some (.slice (some ad) p.bodies.length cd) ∧ w'.cell? ad3 = some (.int .i64 q0) ∧ w'.cell? ⟨ad3.block, ad3.off + 1, none⟩ = some (.int .i64 q1) ∧ Below wr.heap.size wr w')) (by kernel_rfl) (by (try dsimp only) <;> (go_keep)) (fun hHeld => ?_)
                      refine wpAnyH_take (i := 0) (v := _) rfl (by kernel_rfl) (by kernel_rfl) (by kernel_rfl) (fun _ _ _ h => h) (Or.inl ⟨by rfl, by (intro w hSw; (try dsimp only at hSw); go_simp <;> with_reducible rfl)⟩) (by assumption) ?_
                      (try simp only [List.getElem_toArray, List.getElem_cons_zero, List.getElem_cons_succ, Act.put, List.setIfInBounds_toArray, List.set_cons_zero, List.set_cons_succ])
                      refine wpAnyH_take (i := 1) (v := _) rfl (by kernel_rfl) (by kernel_rfl) (by kernel_rfl) (fun _ _ _ h => h) (Or.inl ⟨by rfl, by (intro w hSw; (try dsimp only at hSw); go_simp <;> with_reducible rfl)⟩) (by assumption) ?_
                      (try simp only [List.getElem_toArray, List.getElem_cons_zero, List.getElem_cons_succ, Act.put, List.setIfInBounds_toArray, List.set_cons_zero, List.set_cons_succ])
                      refine wpAnyH_ready (rs := [2]) (by kernel_rfl) (by simp) ?_
                      refine AllReadyH.cons rfl (fun Kq hKq => ?_) ?_
                      rotate_left
                      · exact AllReadyH.nil
                      (try simp only [List.getElem_toArray, List.getElem_cons_zero, List.getElem_cons_succ])
                      refine step_fold (a := ⟨_, _⟩) ?_
                      go_simp
                      (go_at_call 33; with_reducible refine (lqHas_same (apartSet chWrites p q0) A6 n6 n _ _ (Row.belowAll hr6n ‹Below wr.heap.size wr _›)).mono ?_; rintro e w' ⟨rfl, rfl⟩; rw [E0.out])
                      refine hKq.out _ _ (by (try dsimp only) <;> (go_keep)) (fun hHeld => ?_)
                      clear hKq Kq
                      (try simp only [List.getElem_toArray, List.getElem_cons_zero, List.getElem_cons_succ, Act.put, List.setIfInBounds_toArray, List.set_cons_zero, List.set_cons_succ])
                      refine wpAnyH_take (i := 3) (v := _) rfl (by kernel_rfl) (by kernel_rfl) (by kernel_rfl) (fun _ _ _ h => h) (Or.inl ⟨by rfl, by (intro w hSw; (try dsimp only at hSw); go_simp <;> with_reducible rfl)⟩) (by assumption) ?_
                      (try simp only [List.getElem_toArray, List.getElem_cons_zero, List.getElem_cons_succ, Act.put, List.setIfInBounds_toArray, List.set_cons_zero, List.set_cons_succ])
                      refine wpAnyH_take (i := 4) (v := undef) rfl (by kernel_rfl) (by kernel_rfl) (by kernel_rfl) (fun _ _ _ h => h) (Or.inr ⟨by rfl, rfl⟩) (by assumption) ?_
                      (try simp only [List.getElem_toArray, List.getElem_cons_zero, List.getElem_cons_succ, Act.put, List.setIfInBounds_toArray, List.set_cons_zero, List.set_cons_succ])
                      refine wpAnyH_take (i := 5) (v := undef) rfl (by kernel_rfl) (by kernel_rfl) (by kernel_rfl) (fun _ _ _ h => h) (Or.inr ⟨by rfl, rfl⟩) (by assumption) ?_
                      (try simp only [List.getElem_toArray, List.getElem_cons_zero, List.getElem_cons_succ, Act.put, List.setIfInBounds_toArray, List.set_cons_zero, List.set_cons_succ])
                      refine wpAnyH_take (i := 6) (v := undef) rfl (by kernel_rfl) (by kernel_rfl) (by kernel_rfl) (fun _ _ _ h => h) (Or.inr ⟨by rfl, rfl⟩) (by assumption) ?_
                      (try simp only [List.getElem_toArray, List.getElem_cons_zero, List.getElem_cons_succ, Act.put, List.setIfInBounds_toArray, List.set_cons_zero, List.set_cons_succ])
                      refine wpAnyH_take (i := 7) (v := undef) rfl (by kernel_rfl) (by kernel_rfl) (by kernel_rfl) (fun _ _ _ h => h) (Or.inr ⟨by rfl, rfl⟩) (by assumption) ?_
                      (try simp only [List.getElem_toArray, List.getElem_cons_zero, List.getElem_cons_succ, Act.put, List.setIfInBounds_toArray, List.set_cons_zero, List.set_cons_succ])
                      refine wpAnyH_take (i := 8) (v := undef) rfl (by kernel_rfl) (by kernel_rfl) (by kernel_rfl) (fun _ _ _ h => h) (Or.inr ⟨by rfl, rfl⟩) (by assumption) ?_
                      (try simp only [List.getElem_toArray, List.getElem_cons_zero, List.getElem_cons_succ, Act.put, List.setIfInBounds_toArray, List.set_cons_zero, List.set_cons_succ])
                      refine wpAnyH_take (i := 9) (v := undef) rfl (by kernel_rfl) (by kernel_rfl) (by kernel_rfl) (fun _ _ _ h => h) (Or.inr ⟨by rfl, rfl⟩) (by assumption) ?_
                      (try simp only [List.getElem_toArray, List.getElem_cons_zero, List.getElem_cons_succ, Act.put, List.setIfInBounds_toArray, List.set_cons_zero, List.set_cons_succ])
                      refine wpAnyH_take (i := 10) (v := undef) rfl (by kernel_rfl) (by kernel_rfl) (by kernel_rfl) (fun _ _ _ h => h) (Or.inr ⟨by rfl, rfl⟩) (by assumption) ?_
                      (try simp only [List.getElem_toArray, List.getElem_cons_zero, List.getElem_cons_succ, Act.put, List.setIfInBounds_toArray, List.set_cons_zero, List.set_cons_succ])
                      refine wpAnyH_take (i := 11) (v := undef) rfl (by kernel_rfl) (by kernel_rfl) (by kernel_rfl) (fun _ _ _ h => h) (Or.inr ⟨by rfl, rfl⟩) (by assumption) ?_
                      (try simp only [List.getElem_toArray, List.getElem_cons_zero, List.getElem_cons_succ, Act.put, List.setIfInBounds_toArray, List.set_cons_zero, List.set_cons_succ])
                      refine wpAnyH_take (i := 12) (v := undef) rfl (by kernel_rfl) (by kernel_rfl) (by kernel_rfl) (fun _ _ _ h => h) (Or.inr ⟨by rfl, rfl⟩) (by assumption) ?_
                      (try simp only [List.getElem_toArray, List.getElem_cons_zero, List.getElem_cons_succ, Act.put, List.setIfInBounds_toArray, List.set_cons_zero, List.set_cons_succ])
                      refine wpAnyH_take (i := 13) (v := undef) rfl (by kernel_rfl) (by kernel_rfl) (by kernel_rfl) (fun _ _ _ h => h) (Or.inr ⟨by rfl, rfl⟩) (by assumption) ?_
                      (try simp only [List.getElem_toArray, List.getElem_cons_zero, List.getElem_cons_succ, Act.put, List.setIfInBounds_toArray, List.set_cons_zero, List.set_cons_succ])
                      refine wpAnyH_take (i := 14) (v := undef) rfl (by kernel_rfl) (by kernel_rfl) (by kernel_rfl) (fun _ _ _ h => h) (Or.inr ⟨by rfl, rfl⟩) (by assumption) ?_
                      (try simp only [List.getElem_toArray, List.getElem_cons_zero, List.getElem_cons_succ, Act.put, List.setIfInBounds_toArray, List.set_cons_zero, List.set_cons_succ])
                      refine wpAnyH_take (i := 15) (v := undef) rfl (by kernel_rfl) (by kernel_rfl) (by kernel_rfl) (fun _ _ _ h => h) (Or.inr ⟨by rfl, rfl⟩) (by assumption) ?_
                      (try simp only [List.getElem_toArray, List.getElem_cons_zero, List.getElem_cons_succ, Act.put, List.setIfInBounds_toArray, List.set_cons_zero, List.set_cons_succ])
                      refine wpAnyH_take (i := 16) (v := _) rfl (by kernel_rfl) (by kernel_rfl) (by kernel_rfl) (fun _ _ _ h => h) (Or.inl ⟨by rfl, by (intro w hSw; (try dsimp only at hSw); go_simp <;> with_reducible rfl)⟩) (by assumption) ?_
                      (try simp only [List.getElem_toArray, List.getElem_cons_zero, List.getElem_cons_succ, Act.put, List.setIfInBounds_toArray, List.set_cons_zero, List.set_cons_succ])
                      refine wpAnyH_take (i := 17) (v := _) rfl (by kernel_rfl) (by kernel_rfl) (by kernel_rfl) (fun _ _ _ h => h) (Or.inl ⟨by rfl, by (intro w hSw; (try dsimp only at hSw); go_simp <;> with_reducible rfl)⟩) (by assumption) ?_
                      (try simp only [List.getElem_toArray, List.getElem_cons_zero, List.getElem_cons_succ, Act.put, List.setIfInBounds_toArray, List.set_cons_zero, List.set_cons_succ])
                      refine wpAnyH_take (i := 18) (v := _) rfl (by kernel_rfl) (by kernel_rfl) (by kernel_rfl) (fun _ _ _ h => h) (Or.inl ⟨by rfl, by (intro w hSw; (try dsimp only at hSw); go_simp <;> with_reducible rfl)⟩) (by assumption) ?_
                      (try simp only [List.getElem_toArray, List.getElem_cons_zero, List.getElem_cons_succ, Act.put, List.setIfInBounds_toArray, List.set_cons_zero, List.set_cons_succ])
                      refine wpAnyH_take (i := 19) (v := _) rfl (by kernel_rfl) (by kernel_rfl) (by kernel_rfl) (fun _ _ _ h => h) (Or.inl ⟨by rfl, by (intro w hSw; (try dsimp only at hSw); go_simp <;> with_reducible rfl)⟩) (by assumption) ?_
                      (try simp only [List.getElem_toArray, List.getElem_cons_zero, List.getElem_cons_succ, Act.put, List.setIfInBounds_toArray, List.set_cons_zero, List.set_cons_succ])
                      refine wpAnyH_ready (rs := [20]) (by kernel_rfl) (by simp) ?_
                      refine AllReadyH.cons rfl (fun Kq hKq => ?_) ?_
                      rotate_left
                      · exact AllReadyH.nil
                      (try simp only [List.getElem_toArray, List.getElem_cons_zero, List.getElem_cons_succ])
                      refine step_fold (a := ⟨_, _⟩) ?_
                      go_simp
                      (go_at_call 33; with_reducible refine (lqHas_same (apartSet chWrites p q1) A7 n7 n _ _ (Row.belowAll hr7n ‹Below wr.heap.size wr _›)).mono ?_; rintro e w' ⟨rfl, rfl⟩; rw [E1.out])
                      refine hKq.out _ _ (by (try dsimp only) <;> (go_keep)) (fun hHeld => ?_)
                      clear hKq Kq
                      (try simp only [List.getElem_toArray, List.getElem_cons_zero, List.getElem_cons_succ, Act.put, List.setIfInBounds_toArray, List.set_cons_zero, List.set_cons_succ])
                      refine wpAnyH_take (i := 21) (v := _) rfl (by kernel_rfl) (by kernel_rfl) (by kernel_rfl) (fun _ _ _ h => h) (Or.inl ⟨by rfl, by (intro w hSw; (try dsimp only at hSw); go_simp <;> with_reducible rfl)⟩) (by assumption) ?_
                      (try simp only [List.getElem_toArray, List.getElem_cons_zero, List.getElem_cons_succ, Act.put, List.setIfInBounds_toArray, List.set_cons_zero, List.set_cons_succ])
                      refine wpAnyH_take (i := 22) (v := undef) rfl (by kernel_rfl) (by kernel_rfl) (by kernel_rfl) (fun _ _ _ h => h) (Or.inr ⟨by rfl, rfl⟩) (by assumption) ?_
                      (try simp only [List.getElem_toArray, List.getElem_cons_zero, List.getElem_cons_succ, Act.put, List.setIfInBounds_toArray, List.set_cons_zero, List.set_cons_succ])
                      refine wpAnyH_take (i := 23) (v := undef) rfl (by kernel_rfl) (by kernel_rfl) (by kernel_rfl) (fun _ _ _ h => h) (Or.inr ⟨by rfl, rfl⟩) (by assumption) ?_
                      (try simp only [List.getElem_toArray, List.getElem_cons_zero, List.getElem_cons_succ, Act.put, List.setIfInBounds_toArray, List.set_cons_zero, List.set_cons_succ])
                      refine wpAnyH_take (i := 24) (v := undef) rfl (by kernel_rfl) (by kernel_rfl) (by kernel_rfl) (fun _ _ _ h => h) (Or.inr ⟨by rfl, rfl⟩) (by assumption) ?_
                      (try simp only [List.getElem_toArray, List.getElem_cons_zero, List.getElem_cons_succ, Act.put, List.setIfInBounds_toArray, List.set_cons_zero, List.set_cons_succ])
                      refine wpAnyH_take (i := 25) (v := undef) rfl (by kernel_rfl) (by kernel_rfl) (by kernel_rfl) (fun _ _ _ h => h) (Or.inr ⟨by rfl, rfl⟩) (by assumption) ?_
                      (try simp only [List.getElem_toArray, List.getElem_cons_zero, List.getElem_cons_succ, Act.put, List.setIfInBounds_toArray, List.set_cons_zero, List.set_cons_succ])
                      refine wpAnyH_take (i := 26) (v := undef) rfl (by kernel_rfl) (by kernel_rfl) (by kernel_rfl) (fun _ _ _ h => h) (Or.inr ⟨by rfl, rfl⟩) (by assumption) ?_
                      (try simp only [List.getElem_toArray, List.getElem_cons_zero, List.getElem_cons_succ, Act.put, List.setIfInBounds_toArray, List.set_cons_zero, List.set_cons_succ])
                      refine wpAnyH_take (i := 27) (v := undef) rfl (by kernel_rfl) (by kernel_rfl) (by kernel_rfl) (fun _ _ _ h => h) (Or.inr ⟨by rfl, rfl⟩) (by assumption) ?_
                      (try simp only [List.getElem_toArray, List.getElem_cons_zero, List.getElem_cons_succ, Act.put, List.setIfInBounds_toArray, List.set_cons_zero, List.set_cons_succ])
                      refine wpAnyH_take (i := 28) (v := undef) rfl (by kernel_rfl) (by kernel_rfl) (by kernel_rfl) (fun _ _ _ h => h) (Or.inr ⟨by rfl, rfl⟩) (by assumption) ?_
                      (try simp only [List.getElem_toArray, List.getElem_cons_zero, List.getElem_cons_succ, Act.put, List.setIfInBounds_toArray, List.set_cons_zero, List.set_cons_succ])
                      refine wpAnyH_take (i := 29) (v := _) rfl (by kernel_rfl) (by kernel_rfl) (by kernel_rfl) (fun _ _ _ h => h) (Or.inl ⟨by rfl, by (intro w hSw; (try dsimp only at hSw); go_simp <;> with_reducible rfl)⟩) (by assumption) ?_
                      (try simp only [List.getElem_toArray, List.getElem_cons_zero, List.getElem_cons_succ, Act.put, List.setIfInBounds_toArray, List.set_cons_zero, List.set_cons_succ])
                      refine wpAnyH_take (i := 30) (v := _) rfl (by kernel_rfl) (by kernel_rfl) (by kernel_rfl) (fun _ _ _ h => h) (Or.inl ⟨by rfl, by (intro w hSw; (try dsimp only at hSw); go_simp <;> with_reducible rfl)⟩) (by assumption) ?_
                      (try simp only [List.getElem_toArray, List.getElem_cons_zero, List.getElem_cons_succ, Act.put, List.setIfInBounds_toArray, List.set_cons_zero, List.set_cons_succ])
                      refine wpAnyH_done (by kernel_rfl) ?_ _
                      go_wp2
                      go_roundw
                      case rel => exact ⟨n + 1, m + 1, by have := HNM.out; omega, by omega, by go_num, by rw [show goodTo p q0 q1 (m + 1) = (goodTo p q0 q1 m && !badAt p q0 q1 (m : Int)) from rfl, BAD.out]; simp, below_then hbn hbn.size (by first | assumption | exact hbwn)⟩
                      case measure => simp [intOf]; omega
                    · cases e2 : decide (n ∈ apartSet chReads p (q0 : Int))
                      · have E2 := Lib.hid e2
                        have BAD := Lib.hid (show badAt p q0 q1 (m : Int) = false by rw [hbd, e0, e1, e2]; rfl)
                        clear e0 e1 e2 hbd
                        go_wp2_with fail
                        refine wp_region_held_drew (S := (fun w' => w'.cell? ⟨w1.heap.size, 0, none⟩ = some (.slice C p.cells.length cc) ∧ w'.cell? ⟨w1.heap.size, 1, none⟩ = some (.slice (some ad) p.bodies.length cd) ∧ w'.cell? ad3 = some (.int .i64 q0) ∧ w'.cell? ⟨ad3.block, ad3.off + 1, none⟩ = some (.int .i64 q1) ∧ Below wr.heap.size wr w')) (by kernel_rfl) (by (try dsimp only) <;> (go_keep)) (fun hHeld => ?_)
                        refine wpAnyH_take (i := 0) (v := _) rfl (by kernel_rfl) (by kernel_rfl) (by kernel_rfl) (fun _ _ _ h => h) (Or.inl ⟨by rfl, by (intro w hSw; (try dsimp only at hSw); go_simp <;> with_reducible rfl)⟩) (by assumption) ?_
                        (try simp only [List.getElem_toArray, List.getElem_cons_zero, List.getElem_cons_succ, Act.put, List.setIfInBounds_toArray, List.set_cons_zero, List.set_cons_succ])
                        refine wpAnyH_take (i := 1) (v := _) rfl (by kernel_rfl) (by kernel_rfl) (by kernel_rfl) (fun _ _ _ h => h) (Or.inl ⟨by rfl, by (intro w hSw; (try dsimp only at hSw); go_simp <;> with_reducible rfl)⟩) (by assumption) ?_
                        (try simp only [List.getElem_toArray, List.getElem_cons_zero, List.getElem_cons_succ, Act.put, List.setIfInBounds_toArray, List.set_cons_zero, List.set_cons_succ])
                        refine wpAnyH_ready (rs := [2]) (by kernel_rfl) (by simp) ?_
                        refine AllReadyH.cons rfl (fun Kq hKq => ?_) ?_
                        rotate_left
                        · exact AllReadyH.nil
                        (try simp only [List.getElem_toArray, List.getElem_cons_zero, List.getElem_cons_succ])
                        refine step_fold (a := ⟨_, _⟩) ?_
                        go_simp
                        (go_at_call 33; with_reducible refine (lqHas_same (apartSet chWrites p q0) A6 n6 n _ _ (Row.belowAll hr6n ‹Below wr.heap.size wr _›)).mono ?_; rintro e w' ⟨rfl, rfl⟩; rw [E0.out])
                        refine hKq.out _ _ (by (try dsimp only) <;> (go_keep)) (fun hHeld => ?_)
                        clear hKq Kq
                        (try simp only [List.getElem_toArray, List.getElem_cons_zero, List.getElem_cons_succ, Act.put, List.setIfInBounds_toArray, List.set_cons_zero, List.set_cons_succ])
                        refine wpAnyH_take (i := 3) (v := _) rfl (by kernel_rfl) (by kernel_rfl) (by kernel_rfl) (fun _ _ _ h => h) (Or.inl ⟨by rfl, by (intro w hSw; (try dsimp only at hSw); go_simp <;> with_reducible rfl)⟩) (by assumption) ?_
                        (try simp only [List.getElem_toArray, List.getElem_cons_zero, List.getElem_cons_succ, Act.put, List.setIfInBounds_toArray, List.set_cons_zero, List.set_cons_succ])
                        refine wpAnyH_take (i := 4) (v := undef) rfl (by kernel_rfl) (by kernel_rfl) (by kernel_rfl) (fun _ _ _ h => h) (Or.inr ⟨by rfl, rfl⟩) (by assumption) ?_
                        (try simp only [List.getElem_toArray, List.getElem_cons_zero, List.getElem_cons_succ, Act.put, List.setIfInBounds_toArray, List.set_cons_zero, List.set_cons_succ])
                        refine wpAnyH_take (i := 5) (v := undef) rfl (by kernel_rfl) (by kernel_rfl) (by kernel_rfl) (fun _ _ _ h => h) (Or.inr ⟨by rfl, rfl⟩) (by assumption) ?_
                        (try simp only [List.getElem_toArray, List.getElem_cons_zero, List.getElem_cons_succ, Act.put, List.setIfInBounds_toArray, List.set_cons_zero, List.set_cons_succ])
                        refine wpAnyH_take (i := 6) (v := undef) rfl (by kernel_rfl) (by kernel_rfl) (by kernel_rfl) (fun _ _ _ h => h) (Or.inr ⟨by rfl, rfl⟩) (by assumption) ?_
                        (try simp only [List.getElem_toArray, List.getElem_cons_zero, List.getElem_cons_succ, Act.put, List.setIfInBounds_toArray, List.set_cons_zero, List.set_cons_succ])
                        refine wpAnyH_take (i := 7) (v := undef) rfl (by kernel_rfl) (by kernel_rfl) (by kernel_rfl) (fun _ _ _ h => h) (Or.inr ⟨by rfl, rfl⟩) (by assumption) ?_
                        (try simp only [List.getElem_toArray, List.getElem_cons_zero, List.getElem_cons_succ, Act.put, List.setIfInBounds_toArray, List.set_cons_zero, List.set_cons_succ])
                        refine wpAnyH_take (i := 8) (v := undef) rfl (by kernel_rfl) (by kernel_rfl) (by kernel_rfl) (fun _ _ _ h => h) (Or.inr ⟨by rfl, rfl⟩) (by assumption) ?_
                        (try simp only [List.getElem_toArray, List.getElem_cons_zero, List.getElem_cons_succ, Act.put, List.setIfInBounds_toArray, List.set_cons_zero, List.set_cons_succ])
                        refine wpAnyH_take (i := 9) (v := undef) rfl (by kernel_rfl) (by kernel_rfl) (by kernel_rfl) (fun _ _ _ h => h) (Or.inr ⟨by rfl, rfl⟩) (by assumption) ?_
                        (try simp only [List.getElem_toArray, List.getElem_cons_zero, List.getElem_cons_succ, Act.put, List.setIfInBounds_toArray, List.set_cons_zero, List.set_cons_succ])
                        refine wpAnyH_take (i := 10) (v := undef) rfl (by kernel_rfl) (by kernel_rfl) (by kernel_rfl) (fun _ _ _ h => h) (Or.inr ⟨by rfl, rfl⟩) (by assumption) ?_
                        (try simp only [List.getElem_toArray, List.getElem_cons_zero, List.getElem_cons_succ, Act.put, List.setIfInBounds_toArray, List.set_cons_zero, List.set_cons_succ])
                        refine wpAnyH_take (i := 11) (v := undef) rfl (by kernel_rfl) (by kernel_rfl) (by kernel_rfl) (fun _ _ _ h => h) (Or.inr ⟨by rfl, rfl⟩) (by assumption) ?_
                        (try simp only [List.getElem_toArray, List.getElem_cons_zero, List.getElem_cons_succ, Act.put, List.setIfInBounds_toArray, List.set_cons_zero, List.set_cons_succ])
                        refine wpAnyH_take (i := 12) (v := undef) rfl (by kernel_rfl) (by kernel_rfl) (by kernel_rfl) (fun _ _ _ h => h) (Or.inr ⟨by rfl, rfl⟩) (by assumption) ?_
                        (try simp only [List.getElem_toArray, List.getElem_cons_zero, List.getElem_cons_succ, Act.put, List.setIfInBounds_toArray, List.set_cons_zero, List.set_cons_succ])
                        refine wpAnyH_take (i := 13) (v := undef) rfl (by kernel_rfl) (by kernel_rfl) (by kernel_rfl) (fun _ _ _ h => h) (Or.inr ⟨by rfl, rfl⟩) (by assumption) ?_
                        (try simp only [List.getElem_toArray, List.getElem_cons_zero, List.getElem_cons_succ, Act.put, List.setIfInBounds_toArray, List.set_cons_zero, List.set_cons_succ])
                        refine wpAnyH_take (i := 14) (v := undef) rfl (by kernel_rfl) (by kernel_rfl) (by kernel_rfl) (fun _ _ _ h => h) (Or.inr ⟨by rfl, rfl⟩) (by assumption) ?_
                        (try simp only [List.getElem_toArray, List.getElem_cons_zero, List.getElem_cons_succ, Act.put, List.setIfInBounds_toArray, List.set_cons_zero, List.set_cons_succ])
                        refine wpAnyH_take (i := 15) (v := undef) rfl (by kernel_rfl) (by kernel_rfl) (by kernel_rfl) (fun _ _ _ h => h) (Or.inr ⟨by rfl, rfl⟩) (by assumption) ?_
                        (try simp only [List.getElem_toArray, List.getElem_cons_zero, List.getElem_cons_succ, Act.put, List.setIfInBounds_toArray, List.set_cons_zero, List.set_cons_succ])
                        refine wpAnyH_take (i := 16) (v := _) rfl (by kernel_rfl) (by kernel_rfl) (by kernel_rfl) (fun _ _ _ h => h) (Or.inl ⟨by rfl, by (intro w hSw; (try dsimp only at hSw); go_simp <;> with_reducible rfl)⟩) (by assumption) ?_
                        (try simp only [List.getElem_toArray, List.getElem_cons_zero, List.getElem_cons_succ, Act.put, List.setIfInBounds_toArray, List.set_cons_zero, List.set_cons_succ])
                        refine wpAnyH_take (i := 17) (v := _) rfl (by kernel_rfl) (by kernel_rfl) (by kernel_rfl) (fun _ _ _ h => h) (Or.inl ⟨by rfl, by (intro w hSw; (try dsimp only at hSw); go_simp <;> with_reducible rfl)⟩) (by assumption) ?_
                        (try simp only [List.getElem_toArray, List.getElem_cons_zero, List.getElem_cons_succ, Act.put, List.setIfInBounds_toArray, List.set_cons_zero, List.set_cons_succ])
                        refine wpAnyH_take (i := 18) (v := _) rfl (by kernel_rfl) (by kernel_rfl) (by kernel_rfl) (fun _ _ _ h => h) (Or.inl ⟨by rfl, by (intro w hSw; (try dsimp only at hSw); go_simp <;> with_reducible rfl)⟩) (by assumption) ?_
                        (try simp only [List.getElem_toArray, List.getElem_cons_zero, List.getElem_cons_succ, Act.put, List.setIfInBounds_toArray, List.set_cons_zero, List.set_cons_succ])
                        refine wpAnyH_take (i := 19) (v := _) rfl (by kernel_rfl) (by kernel_rfl) (by kernel_rfl) (fun _ _ _ h => h) (Or.inl ⟨by rfl, by (intro w hSw; (try dsimp only at hSw); go_simp <;> with_reducible rfl)⟩) (by assumption) ?_
                        (try simp only [List.getElem_toArray, List.getElem_cons_zero, List.getElem_cons_succ, Act.put, List.setIfInBounds_toArray, List.set_cons_zero, List.set_cons_succ])
                        refine wpAnyH_ready (rs := [20]) (by kernel_rfl) (by simp) ?_
                        refine AllReadyH.cons rfl (fun Kq hKq => ?_) ?_
                        rotate_left
                        · exact AllReadyH.nil
                        (try simp only [List.getElem_toArray, List.getElem_cons_zero, List.getElem_cons_succ])
                        refine step_fold (a := ⟨_, _⟩) ?_
                        go_simp
                        (go_at_call 33; with_reducible refine (lqHas_same (apartSet chWrites p q1) A7 n7 n _ _ (Row.belowAll hr7n ‹Below wr.heap.size wr _›)).mono ?_; rintro e w' ⟨rfl, rfl⟩; rw [E1.out])
                        refine hKq.out _ _ (by (try dsimp only) <;> (go_keep)) (fun hHeld => ?_)
                        clear hKq Kq
                        (try simp only [List.getElem_toArray, List.getElem_cons_zero, List.getElem_cons_succ, Act.put, List.setIfInBounds_toArray, List.set_cons_zero, List.set_cons_succ])
                        refine wpAnyH_take (i := 21) (v := _) rfl (by kernel_rfl) (by kernel_rfl) (by kernel_rfl) (fun _ _ _ h => h) (Or.inl ⟨by rfl, by (intro w hSw; (try dsimp only at hSw); go_simp <;> with_reducible rfl)⟩) (by assumption) ?_
                        (try simp only [List.getElem_toArray, List.getElem_cons_zero, List.getElem_cons_succ, Act.put, List.setIfInBounds_toArray, List.set_cons_zero, List.set_cons_succ])
                        refine wpAnyH_take (i := 22) (v := _) rfl (by kernel_rfl) (by kernel_rfl) (by kernel_rfl) (fun _ _ _ h => h) (Or.inl ⟨by rfl, by (intro w hSw; (try dsimp only at hSw); go_simp <;> with_reducible rfl)⟩) (by assumption) ?_
                        (try simp only [List.getElem_toArray, List.getElem_cons_zero, List.getElem_cons_succ, Act.put, List.setIfInBounds_toArray, List.set_cons_zero, List.set_cons_succ])
                        refine wpAnyH_take (i := 23) (v := _) rfl (by kernel_rfl) (by kernel_rfl) (by kernel_rfl) (fun _ _ _ h => h) (Or.inl ⟨by rfl, by (intro w hSw; (try dsimp only at hSw); go_simp <;> with_reducible rfl)⟩) (by assumption) ?_
                        (try simp only [List.getElem_toArray, List.getElem_cons_zero, List.getElem_cons_succ, Act.put, List.setIfInBounds_toArray, List.set_cons_zero, List.set_cons_succ])
                        refine wpAnyH_take (i := 24) (v := _) rfl (by kernel_rfl) (by kernel_rfl) (by kernel_rfl) (fun _ _ _ h => h) (Or.inl ⟨by rfl, by (intro w hSw; (try dsimp only at hSw); go_simp <;> with_reducible rfl)⟩) (by assumption) ?_
                        (try simp only [List.getElem_toArray, List.getElem_cons_zero, List.getElem_cons_succ, Act.put, List.setIfInBounds_toArray, List.set_cons_zero, List.set_cons_succ])
                        refine wpAnyH_take (i := 25) (v := _) rfl (by kernel_rfl) (by kernel_rfl) (by kernel_rfl) (fun _ _ _ h => h) (Or.inl ⟨by rfl, by (intro w hSw; (try dsimp only at hSw); go_simp <;> with_reducible rfl)⟩) (by assumption) ?_
                        (try simp only [List.getElem_toArray, List.getElem_cons_zero, List.getElem_cons_succ, Act.put, List.setIfInBounds_toArray, List.set_cons_zero, List.set_cons_succ])
                        refine wpAnyH_take (i := 27) (v := _) rfl (by kernel_rfl) (by kernel_rfl) (by kernel_rfl) (fun _ _ _ h => h) (Or.inl ⟨by rfl, by (intro w hSw; (try dsimp only at hSw); go_simp <;> with_reducible rfl)⟩) (by assumption) ?_
                        (try simp only [List.getElem_toArray, List.getElem_cons_zero, List.getElem_cons_succ, Act.put, List.setIfInBounds_toArray, List.set_cons_zero, List.set_cons_succ])
                        refine wpAnyH_ready (rs := [26]) (by kernel_rfl) (by simp) ?_
                        refine AllReadyH.cons rfl (fun Kq hKq => ?_) ?_
                        rotate_left
                        · exact AllReadyH.nil
                        (try simp only [List.getElem_toArray, List.getElem_cons_zero, List.getElem_cons_succ])
                        refine step_fold (a := ⟨_, _⟩) ?_
                        go_simp
                        (go_at_call 19; refine (implApartReads_calls p _ C (some ad) cc cd _ _ (Row.belowAll hCn ‹Below wr.heap.size wr _›) (Row.belowAll hDn ‹Below wr.heap.size wr _›)).mono ?_; rintro e w8 ⟨v8, rfl, ho8, hb8⟩; obtain ⟨A8, n8, rfl, _, hr8⟩ := OwnI.row ho8; have y0 := below_then ‹Below wr.heap.size wr _› (Below.size ‹Below wr.heap.size wr _›) hb8; have y1 := (y0.cell (p := ⟨w1.heap.size, 0, none⟩) hl1n).trans z0; have y2 := (y0.cell (p := ⟨w1.heap.size, 1, none⟩) hl1n).trans z1; have y3 := (y0.cell (p := ad3) hl4n).trans z2; have y4 := (y0.cell (p := ⟨ad3.block, ad3.off + 1, none⟩) hl4n).trans z3; have hbwn := y0)
                        refine hKq.out _ _ (by (try dsimp only) <;> (go_keep)) (fun hHeld => ?_)
                        clear hKq Kq
                        (try simp only [List.getElem_toArray, List.getElem_cons_zero, List.getElem_cons_succ, Act.put, List.setIfInBounds_toArray, List.set_cons_zero, List.set_cons_succ])
                        refine wpAnyH_ready (rs := [28]) (by kernel_rfl) (by simp) ?_
                        refine AllReadyH.cons rfl (fun Kq hKq => ?_) ?_
                        rotate_left
                        · exact AllReadyH.nil
                        (try simp only [List.getElem_toArray, List.getElem_cons_zero, List.getElem_cons_succ])
                        refine step_fold (a := ⟨_, _⟩) ?_
                        go_simp
                        (go_at_call 33; have b8 : Below w8.heap.size w8 _ := (by repeat' (first | exact Below.refl _ _ | apply Below.drew)); with_reducible refine (lqHas_same (apartSet chReads p q0) A8 n8 n _ _ (Row.belowAll hr8 b8)).mono ?_; rintro e w' ⟨rfl, rfl⟩; rw [E2.out])
                        refine hKq.out _ _ (by (try dsimp only) <;> (go_keep)) (fun hHeld => ?_)
                        clear hKq Kq
                        (try simp only [List.getElem_toArray, List.getElem_cons_zero, List.getElem_cons_succ, Act.put, List.setIfInBounds_toArray, List.set_cons_zero, List.set_cons_succ])
                        refine wpAnyH_take (i := 29) (v := _) rfl (by kernel_rfl) (by kernel_rfl) (by kernel_rfl) (fun _ _ _ h => h) (Or.inl ⟨by rfl, by (intro w hSw; (try dsimp only at hSw); go_simp <;> with_reducible rfl)⟩) (by assumption) ?_
                        (try simp only [List.getElem_toArray, List.getElem_cons_zero, List.getElem_cons_succ, Act.put, List.setIfInBounds_toArray, List.set_cons_zero, List.set_cons_succ])
                        refine wpAnyH_take (i := 30) (v := _) rfl (by kernel_rfl) (by kernel_rfl) (by kernel_rfl) (fun _ _ _ h => h) (Or.inl ⟨by rfl, by (intro w hSw; (try dsimp only at hSw); go_simp <;> with_reducible rfl)⟩) (by assumption) ?_
                        (try simp only [List.getElem_toArray, List.getElem_cons_zero, List.getElem_cons_succ, Act.put, List.setIfInBounds_toArray, List.set_cons_zero, List.set_cons_succ])
                        refine wpAnyH_done (by kernel_rfl) ?_ _
                        go_wp2
                        go_roundw
                        case rel => exact ⟨n + 1, m + 1, by have := HNM.out; omega, by omega, by go_num, by rw [show goodTo p q0 q1 (m + 1) = (goodTo p q0 q1 m && !badAt p q0 q1 (m : Int)) from rfl, BAD.out]; simp, below_then hbn hbn.size (by first | assumption | exact hbwn)⟩
                        case measure => simp [intOf]; omega
                      · have E2 := Lib.hid e2
                        have BAD := Lib.hid (show badAt p q0 q1 (m : Int) = true by rw [hbd, e0, e1, e2]; rfl)
                        clear e0 e1 e2 hbd
                        go_wp2_with fail
                        refine wp_region_held_drew (S := (fun w' => w'.cell? ⟨w1.heap.size, 0, none⟩ = some (.slice C p.cells.length cc) ∧ w'.cell? ⟨w1.heap.size, 1, none⟩ = some (.slice (some ad) p.bodies.length cd) ∧ w'.cell? ad3 = some (.int .i64 q0) ∧ w'.cell? ⟨ad3.block, ad3.off + 1, none⟩ = some (.int .i64 q1) ∧ Below wr.heap.size wr w')) (by kernel_rfl) (by (try dsimp only) <;> (go_keep)) (fun hHeld => ?_)
                        refine wpAnyH_take (i := 0) (v := _) rfl (by kernel_rfl) (by kernel_rfl) (by kernel_rfl) (fun _ _ _ h => h) (Or.inl ⟨by rfl, by (intro w hSw; (try dsimp only at hSw); go_simp <;> with_reducible rfl)⟩) (by assumption) ?_
                        (try simp only [List.getElem_toArray, List.getElem_cons_zero, List.getElem_cons_succ, Act.put, List.setIfInBounds_toArray, List.set_cons_zero, List.set_cons_succ])
                        refine wpAnyH_take (i := 1) (v := _) rfl (by kernel_rfl) (by kernel_rfl) (by kernel_rfl) (fun _ _ _ h => h) (Or.inl ⟨by rfl, by (intro w hSw; (try dsimp only at hSw); go_simp <;> with_reducible rfl)⟩) (by assumption) ?_
                        (try simp only [List.getElem_toArray, List.getElem_cons_zero, List.getElem_cons_succ, Act.put, List.setIfInBounds_toArray, List.set_cons_zero, List.set_cons_succ])
                        refine wpAnyH_ready (rs := [2]) (by kernel_rfl) (by simp) ?_
                        refine AllReadyH.cons rfl (fun Kq hKq => ?_) ?_
                        rotate_left
                        · exact AllReadyH.nil
                        (try simp only [List.getElem_toArray, List.getElem_cons_zero, List.getElem_cons_succ])
                        refine step_fold (a := ⟨_, _⟩) ?_
                        go_simp
                        (go_at_call 33; with_reducible refine (lqHas_same (apartSet chWrites p q0) A6 n6 n _ _ (Row.belowAll hr6n ‹Below wr.heap.size wr _›)).mono ?_; rintro e w' ⟨rfl, rfl⟩; rw [E0.out])
                        refine hKq.out _ _ (by (try dsimp only) <;> (go_keep)) (fun hHeld => ?_)
                        clear hKq Kq
                        (try simp only [List.getElem_toArray, List.getElem_cons_zero, List.getElem_cons_succ, Act.put, List.setIfInBounds_toArray, List.set_cons_zero, List.set_cons_succ])
                        refine wpAnyH_take (i := 3) (v := _) rfl (by kernel_rfl) (by kernel_rfl) (by kernel_rfl) (fun _ _ _ h => h) (Or.inl ⟨by rfl, by (intro w hSw; (try dsimp only at hSw); go_simp <;> with_reducible rfl)⟩) (by assumption) ?_
                        (try simp only [List.getElem_toArray, List.getElem_cons_zero, List.getElem_cons_succ, Act.put, List.setIfInBounds_toArray, List.set_cons_zero, List.set_cons_succ])
                        refine wpAnyH_take (i := 4) (v := undef) rfl (by kernel_rfl) (by kernel_rfl) (by kernel_rfl) (fun _ _ _ h => h) (Or.inr ⟨by rfl, rfl⟩) (by assumption) ?_
                        (try simp only [List.getElem_toArray, List.getElem_cons_zero, List.getElem_cons_succ, Act.put, List.setIfInBounds_toArray, List.set_cons_zero, List.set_cons_succ])
                        refine wpAnyH_take (i := 5) (v := undef) rfl (by kernel_rfl) (by kernel_rfl) (by kernel_rfl) (fun _ _ _ h => h) (Or.inr ⟨by rfl, rfl⟩) (by assumption) ?_
                        (try simp only [List.getElem_toArray, List.getElem_cons_zero, List.getElem_cons_succ, Act.put, List.setIfInBounds_toArray, List.set_cons_zero, List.set_cons_succ])
                        refine wpAnyH_take (i := 6) (v := undef) rfl (by kernel_rfl) (by kernel_rfl) (by kernel_rfl) (fun _ _ _ h => h) (Or.inr ⟨by rfl, rfl⟩) (by assumption) ?_
                        (try simp only [List.getElem_toArray, List.getElem_cons_zero, List.getElem_cons_succ, Act.put, List.setIfInBounds_toArray, List.set_cons_zero, List.set_cons_succ])
                        refine wpAnyH_take (i := 7) (v := undef) rfl (by kernel_rfl) (by kernel_rfl) (by kernel_rfl) (fun _ _ _ h => h) (Or.inr ⟨by rfl, rfl⟩) (by assumption) ?_
                        (try simp only [List.getElem_toArray, List.getElem_cons_zero, List.getElem_cons_succ, Act.put, List.setIfInBounds_toArray, List.set_cons_zero, List.set_cons_succ])
                        refine wpAnyH_take (i := 8) (v := undef) rfl (by kernel_rfl) (by kernel_rfl) (by kernel_rfl) (fun _ _ _ h => h) (Or.inr ⟨by rfl, rfl⟩) (by assumption) ?_
                        (try simp only [List.getElem_toArray, List.getElem_cons_zero, List.getElem_cons_succ, Act.put, List.setIfInBounds_toArray, List.set_cons_zero, List.set_cons_succ])
                        refine wpAnyH_take (i := 9) (v := undef) rfl (by kernel_rfl) (by kernel_rfl) (by kernel_rfl) (fun _ _ _ h => h) (Or.inr ⟨by rfl, rfl⟩) (by assumption) ?_
                        (try simp only [List.getElem_toArray, List.getElem_cons_zero, List.getElem_cons_succ, Act.put, List.setIfInBounds_toArray, List.set_cons_zero, List.set_cons_succ])
                        refine wpAnyH_take (i := 10) (v := undef) rfl (by kernel_rfl) (by kernel_rfl) (by kernel_rfl) (fun _ _ _ h => h) (Or.inr ⟨by rfl, rfl⟩) (by assumption) ?_
                        (try simp only [List.getElem_toArray, List.getElem_cons_zero, List.getElem_cons_succ, Act.put, List.setIfInBounds_toArray, List.set_cons_zero, List.set_cons_succ])
                        refine wpAnyH_take (i := 11) (v := undef) rfl (by kernel_rfl) (by kernel_rfl) (by kernel_rfl) (fun _ _ _ h => h) (Or.inr ⟨by rfl, rfl⟩) (by assumption) ?_
                        (try simp only [List.getElem_toArray, List.getElem_cons_zero, List.getElem_cons_succ, Act.put, List.setIfInBounds_toArray, List.set_cons_zero, List.set_cons_succ])
                        refine wpAnyH_take (i := 12) (v := undef) rfl (by kernel_rfl) (by kernel_rfl) (by kernel_rfl) (fun _ _ _ h => h) (Or.inr ⟨by rfl, rfl⟩) (by assumption) ?_
                        (try simp only [List.getElem_toArray, List.getElem_cons_zero, List.getElem_cons_succ, Act.put, List.setIfInBounds_toArray, List.set_cons_zero, List.set_cons_succ])
                        refine wpAnyH_take (i := 13) (v := undef) rfl (by kernel_rfl) (by kernel_rfl) (by kernel_rfl) (fun _ _ _ h => h) (Or.inr ⟨by rfl, rfl⟩) (by assumption) ?_
                        (try simp only [List.getElem_toArray, List.getElem_cons_zero, List.getElem_cons_succ, Act.put, List.setIfInBounds_toArray, List.set_cons_zero, List.set_cons_succ])
                        refine wpAnyH_take (i := 14) (v := undef) rfl (by kernel_rfl) (by kernel_rfl) (by kernel_rfl) (fun _ _ _ h => h) (Or.inr ⟨by rfl, rfl⟩) (by assumption) ?_
                        (try simp only [List.getElem_toArray, List.getElem_cons_zero, List.getElem_cons_succ, Act.put, List.setIfInBounds_toArray, List.set_cons_zero, List.set_cons_succ])
                        refine wpAnyH_take (i := 15) (v := undef) rfl (by kernel_rfl) (by kernel_rfl) (by kernel_rfl) (fun _ _ _ h => h) (Or.inr ⟨by rfl, rfl⟩) (by assumption) ?_
                        (try simp only [List.getElem_toArray, List.getElem_cons_zero, List.getElem_cons_succ, Act.put, List.setIfInBounds_toArray, List.set_cons_zero, List.set_cons_succ])
                        refine wpAnyH_take (i := 16) (v := _) rfl (by kernel_rfl) (by kernel_rfl) (by kernel_rfl) (fun _ _ _ h => h) (Or.inl ⟨by rfl, by (intro w hSw; (try dsimp only at hSw); go_simp <;> with_reducible rfl)⟩) (by assumption) ?_
                        (try simp only [List.getElem_toArray, List.getElem_cons_zero, List.getElem_cons_succ, Act.put, List.setIfInBounds_toArray, List.set_cons_zero, List.set_cons_succ])
                        refine wpAnyH_take (i := 17) (v := _) rfl (by kernel_rfl) (by kernel_rfl) (by kernel_rfl) (fun _ _ _ h => h) (Or.inl ⟨by rfl, by (intro w hSw; (try dsimp only at hSw); go_simp <;> with_reducible rfl)⟩) (by assumption) ?_
                        (try simp only [List.getElem_toArray, List.getElem_cons_zero, List.getElem_cons_succ, Act.put, List.setIfInBounds_toArray, List.set_cons_zero, List.set_cons_succ])
                        refine wpAnyH_take (i := 18) (v := _) rfl (by kernel_rfl) (by kernel_rfl) (by kernel_rfl) (fun _ _ _ h => h) (Or.inl ⟨by rfl, by (intro w hSw; (try dsimp only at hSw); go_simp <;> with_reducible rfl)⟩) (by assumption) ?_
                        (try simp only [List.getElem_toArray, List.getElem_cons_zero, List.getElem_cons_succ, Act.put, List.setIfInBounds_toArray, List.set_cons_zero, List.set_cons_succ])
                        refine wpAnyH_take (i := 19) (v := _) rfl (by kernel_rfl) (by kernel_rfl) (by kernel_rfl) (fun _ _ _ h => h) (Or.inl ⟨by rfl, by (intro w hSw; (try dsimp only at hSw); go_simp <;> with_reducible rfl)⟩) (by assumption) ?_
                        (try simp only [List.getElem_toArray, List.getElem_cons_zero, List.getElem_cons_succ, Act.put, List.setIfInBounds_toArray, List.set_cons_zero, List.set_cons_succ])
                        refine wpAnyH_ready (rs := [20]) (by kernel_rfl) (by simp) ?_
                        refine AllReadyH.cons rfl (fun Kq hKq => ?_) ?_
                        rotate_left
                        · exact AllReadyH.nil
                        (try simp only [List.getElem_toArray, List.getElem_cons_zero, List.getElem_cons_succ])
                        refine step_fold (a := ⟨_, _⟩) ?_
                        go_simp
                        (go_at_call 33; with_reducible refine (lqHas_same (apartSet chWrites p q1) A7 n7 n _ _ (Row.belowAll hr7n ‹Below wr.heap.size wr _›)).mono ?_; rintro e w' ⟨rfl, rfl⟩; rw [E1.out])
                        refine hKq.out _ _ (by (try dsimp only) <;> (go_keep)) (fun hHeld => ?_)
                        clear hKq Kq
                        (try simp only [List.getElem_toArray, List.getElem_cons_zero, List.getElem_cons_succ, Act.put, List.setIfInBounds_toArray, List.set_cons_zero, List.set_cons_succ])
                        refine wpAnyH_take (i := 21) (v := _) rfl (by kernel_rfl) (by kernel_rfl) (by kernel_rfl) (fun _ _ _ h => h) (Or.inl ⟨by rfl, by (intro w hSw; (try dsimp only at hSw); go_simp <;> with_reducible rfl)⟩) (by assumption) ?_
                        (try simp only [List.getElem_toArray, List.getElem_cons_zero, List.getElem_cons_succ, Act.put, List.setIfInBounds_toArray, List.set_cons_zero, List.set_cons_succ])
                        refine wpAnyH_take (i := 22) (v := _) rfl (by kernel_rfl) (by kernel_rfl) (by kernel_rfl) (fun _ _ _ h => h) (Or.inl ⟨by rfl, by (intro w hSw; (try dsimp only at hSw); go_simp <;> with_reducible rfl)⟩) (by assumption) ?_
                        (try simp only [List.getElem_toArray, List.getElem_cons_zero, List.getElem_cons_succ, Act.put, List.setIfInBounds_toArray, List.set_cons_zero, List.set_cons_succ])
                        refine wpAnyH_take (i := 23) (v := _) rfl (by kernel_rfl) (by kernel_rfl) (by kernel_rfl) (fun _ _ _ h => h) (Or.inl ⟨by rfl, by (intro w hSw; (try dsimp only at hSw); go_simp <;> with_reducible rfl)⟩) (by assumption) ?_
                        (try simp only [List.getElem_toArray, List.getElem_cons_zero, List.getElem_cons_succ, Act.put, List.setIfInBounds_toArray, List.set_cons_zero, List.set_cons_succ])
                        refine wpAnyH_take (i := 24) (v := _) rfl (by kernel_rfl) (by kernel_rfl) (by kernel_rfl) (fun _ _ _ h => h) (Or.inl ⟨by rfl, by (intro w hSw; (try dsimp only at hSw); go_simp <;> with_reducible rfl)⟩) (by assumption) ?_
                        (try simp only [List.getElem_toArray, List.getElem_cons_zero, List.getElem_cons_succ, Act.put, List.setIfInBounds_toArray, List.set_cons_zero, List.set_cons_succ])
                        refine wpAnyH_take (i := 25) (v := _) rfl (by kernel_rfl) (by kernel_rfl) (by kernel_rfl) (fun _ _ _ h => h) (Or.inl ⟨by rfl, by (intro w hSw; (try dsimp only at hSw); go_simp <;> with_reducible rfl)⟩) (by assumption) ?_
                        (try simp only [List.getElem_toArray, List.getElem_cons_zero, List.getElem_cons_succ, Act.put, List.setIfInBounds_toArray, List.set_cons_zero, List.set_cons_succ])
                        refine wpAnyH_take (i := 27) (v := _) rfl (by kernel_rfl) (by kernel_rfl) (by kernel_rfl) (fun _ _ _ h => h) (Or.inl ⟨by rfl, by (intro w hSw; (try dsimp only at hSw); go_simp <;> with_reducible rfl)⟩) (by assumption) ?_
                        (try simp only [List.getElem_toArray, List.getElem_cons_zero, List.getElem_cons_succ, Act.put, List.setIfInBounds_toArray, List.set_cons_zero, List.set_cons_succ])
                        refine wpAnyH_ready (rs := [26]) (by kernel_rfl) (by simp) ?_
                        refine AllReadyH.cons rfl (fun Kq hKq => ?_) ?_
                        rotate_left
                        · exact AllReadyH.nil
                        (try simp only [List.getElem_toArray, List.getElem_cons_zero, List.getElem_cons_succ])
                        refine step_fold (a := ⟨_, _⟩) ?_
                        go_simp
                        (go_at_call 19; refine (implApartReads_calls p _ C (some ad) cc cd _ _ (Row.belowAll hCn ‹Below wr.heap.size wr _›) (Row.belowAll hDn ‹Below wr.heap.size wr _›)).mono ?_; rintro e w8 ⟨v8, rfl, ho8, hb8⟩; obtain ⟨A8, n8, rfl, _, hr8⟩ := OwnI.row ho8; have y0 := below_then ‹Below wr.heap.size wr _› (Below.size ‹Below wr.heap.size wr _›) hb8; have y1 := (y0.cell (p := ⟨w1.heap.size, 0, none⟩) hl1n).trans z0; have y2 := (y0.cell (p := ⟨w1.heap.size, 1, none⟩) hl1n).trans z1; have y3 := (y0.cell (p := ad3) hl4n).trans z2; have y4 := (y0.cell (p := ⟨ad3.block, ad3.off + 1, none⟩) hl4n).trans z3; have hbwn := y0)
                        refine hKq.out _ _ (by (try dsimp only) <;> (go_keep)) (fun hHeld => ?_)
                        clear hKq Kq
                        (try simp only [List.getElem_toArray, List.getElem_cons_zero, List.getElem_cons_succ, Act.put, List.setIfInBounds_toArray, List.set_cons_zero, List.set_cons_succ])
                        refine wpAnyH_ready (rs := [28]) (by kernel_rfl) (by simp) ?_
                        refine AllReadyH.cons rfl (fun Kq hKq => ?_) ?_
                        rotate_left
                        · exact AllReadyH.nil
                        (try simp only [List.getElem_toArray, List.getElem_cons_zero, List.getElem_cons_succ])
                        refine step_fold (a := ⟨_, _⟩) ?_
                        go_simp
                        (go_at_call 33; have b8 : Below w8.heap.size w8 _ := (by repeat' (first | exact Below.refl _ _ | apply Below.drew)); with_reducible refine (lqHas_same (apartSet chReads p q0) A8 n8 n _ _ (Row.belowAll hr8 b8)).mono ?_; rintro e w' ⟨rfl, rfl⟩; rw [E2.out])
                        refine hKq.out _ _ (by (try dsimp only) <;> (go_keep)) (fun hHeld => ?_)
                        clear hKq Kq
                        (try simp only [List.getElem_toArray, List.getElem_cons_zero, List.getElem_cons_succ, Act.put, List.setIfInBounds_toArray, List.set_cons_zero, List.set_cons_succ])
                        refine wpAnyH_take (i := 29) (v := _) rfl (by kernel_rfl) (by kernel_rfl) (by kernel_rfl) (fun _ _ _ h => h) (Or.inl ⟨by rfl, by (intro w hSw; (try dsimp only at hSw); go_simp <;> with_reducible rfl)⟩) (by assumption) ?_
                        (try simp only [List.getElem_toArray, List.getElem_cons_zero, List.getElem_cons_succ, Act.put, List.setIfInBounds_toArray, List.set_cons_zero, List.set_cons_succ])
                        refine wpAnyH_take (i := 30) (v := _) rfl (by kernel_rfl) (by kernel_rfl) (by kernel_rfl) (fun _ _ _ h => h) (Or.inl ⟨by rfl, by (intro w hSw; (try dsimp only at hSw); go_simp <;> with_reducible rfl)⟩) (by assumption) ?_
                        (try simp only [List.getElem_toArray, List.getElem_cons_zero, List.getElem_cons_succ, Act.put, List.setIfInBounds_toArray, List.set_cons_zero, List.set_cons_succ])
                        refine wpAnyH_done (by kernel_rfl) ?_ _
                        go_wp2
                        go_roundw
                        case rel => exact ⟨n + 1, m + 1, by have := HNM.out; omega, by omega, by go_num, by rw [show goodTo p q0 q1 (m + 1) = (goodTo p q0 q1 m && !badAt p q0 q1 (m : Int)) from rfl, BAD.out]; simp, below_then hbn hbn.size (by first | assumption | exact hbwn)⟩
                        case measure => simp [intOf]; omega
                    · cases e2 : decide (n ∈ apartSet chReads p (q1 : Int))
                      · have E2 := Lib.hid e2
                        have BAD := Lib.hid (show badAt p q0 q1 (m : Int) = false by rw [hbd, e0, e1, e2]; simp)
                        clear e0 e1 e2 hbd
                        go_wp2_with fail
                        refine wp_region_held_drew (S := (fun w' => w'.cell? ⟨w1.heap.size, 0, none⟩ = some (.slice C p.cells.length cc) ∧ w'.cell? ⟨w1.heap.size, 1, none⟩ = some (.slice (some ad) p.bodies.length cd) ∧ w'.cell? ad3 = some (.int .i64 q0) ∧ w'.cell? ⟨ad3.block, ad3.off + 1, none⟩ = some (.int .i64 q1) ∧ Below wr.heap.size wr w')) (by kernel_rfl) (by (try dsimp only) <;> (go_keep)) (fun hHeld => ?_)
                        refine wpAnyH_take (i := 0) (v := _) rfl (by kernel_rfl) (by kernel_rfl) (by kernel_rfl) (fun _ _ _ h => h) (Or.inl ⟨by rfl, by (intro w hSw; (try dsimp only at hSw); go_simp <;> with_reducible rfl)⟩) (by assumption) ?_
                        (try simp only [List.getElem_toArray, List.getElem_cons_zero, List.getElem_cons_succ, Act.put, List.setIfInBounds_toArray, List.set_cons_zero, List.set_cons_succ])
                        refine wpAnyH_take (i := 1) (v := _) rfl (by kernel_rfl) (by kernel_rfl) (by kernel_rfl) (fun _ _ _ h => h) (Or.inl ⟨by rfl, by (intro w hSw; (try dsimp only at hSw); go_simp <;> with_reducible rfl)⟩) (by assumption) ?_
                        (try simp only [List.getElem_toArray, List.getElem_cons_zero, List.getElem_cons_succ, Act.put, List.setIfInBounds_toArray, List.set_cons_zero, List.set_cons_succ])
                        refine wpAnyH_ready (rs := [2]) (by kernel_rfl) (by simp) ?_
                        refine AllReadyH.cons rfl (fun Kq hKq => ?_) ?_
                        rotate_left
                        · exact AllReadyH.nil
                        (try simp only [List.getElem_toArray, List.getElem_cons_zero, List.getElem_cons_succ])
                        refine step_fold (a := ⟨_, _⟩) ?_
                        go_simp
                        (go_at_call 33; with_reducible refine (lqHas_same (apartSet chWrites p q0) A6 n6 n _ _ (Row.belowAll hr6n ‹Below wr.heap.size wr _›)).mono ?_; rintro e w' ⟨rfl, rfl⟩; rw [E0.out])
                        refine hKq.out _ _ (by (try dsimp only) <;> (go_keep)) (fun hHeld => ?_)
                        clear hKq Kq
                        (try simp only [List.getElem_toArray, List.getElem_cons_zero, List.getElem_cons_succ, Act.put, List.setIfInBounds_toArray, List.set_cons_zero, List.set_cons_succ])
                        refine wpAnyH_take (i := 3) (v := _) rfl (by kernel_rfl) (by kernel_rfl) (by kernel_rfl) (fun _ _ _ h => h) (Or.inl ⟨by rfl, by (intro w hSw; (try dsimp only at hSw); go_simp <;> with_reducible rfl)⟩) (by assumption) ?_
                        (try simp only [List.getElem_toArray, List.getElem_cons_zero, List.getElem_cons_succ, Act.put, List.setIfInBounds_toArray, List.set_cons_zero, List.set_cons_succ])
                        refine wpAnyH_take (i := 4) (v := _) rfl (by kernel_rfl) (by kernel_rfl) (by kernel_rfl) (fun _ _ _ h => h) (Or.inl ⟨by rfl, by (intro w hSw; (try dsimp only at hSw); go_simp <;> with_reducible rfl)⟩) (by assumption) ?_
                        (try simp only [List.getElem_toArray, List.getElem_cons_zero, List.getElem_cons_succ, Act.put, List.setIfInBounds_toArray, List.set_cons_zero, List.set_cons_succ])
                        refine wpAnyH_take (i := 5) (v := _) rfl (by kernel_rfl) (by kernel_rfl) (by kernel_rfl) (fun _ _ _ h => h) (Or.inl ⟨by rfl, by (intro w hSw; (try dsimp only at hSw); go_simp <;> with_reducible rfl)⟩) (by assumption) ?_
                        (try simp only [List.getElem_toArray, List.getElem_cons_zero, List.getElem_cons_succ, Act.put, List.setIfInBounds_toArray, List.set_cons_zero, List.set_cons_succ])
                        refine wpAnyH_ready (rs := [6]) (by kernel_rfl) (by simp) ?_
                        refine AllReadyH.cons rfl (fun Kq hKq => ?_) ?_
                        rotate_left
                        · exact AllReadyH.nil
                        (try simp only [List.getElem_toArray, List.getElem_cons_zero, List.getElem_cons_succ])
                        refine step_fold (a := ⟨_, _⟩) ?_
                        go_simp
                        (go_at_call 33; with_reducible refine (lqHas_same (apartSet chWrites p q1) A7 n7 n _ _ (Row.belowAll hr7n ‹Below wr.heap.size wr _›)).mono ?_; rintro e w' ⟨rfl, rfl⟩; rw [E1.out])
                        refine hKq.out _ _ (by (try dsimp only) <;> (go_keep)) (fun hHeld => ?_)
                        clear hKq Kq
                        (try simp only [List.getElem_toArray, List.getElem_cons_zero, List.getElem_cons_succ, Act.put, List.setIfInBounds_toArray, List.set_cons_zero, List.set_cons_succ])
                        refine wpAnyH_take (i := 7) (v := _) rfl (by kernel_rfl) (by kernel_rfl) (by kernel_rfl) (fun _ _ _ h => h) (Or.inl ⟨by rfl, by (intro w hSw; (try dsimp only at hSw); go_simp <;> with_reducible rfl)⟩) (by assumption) ?_
                        (try simp only [List.getElem_toArray, List.getElem_cons_zero, List.getElem_cons_succ, Act.put, List.setIfInBounds_toArray, List.set_cons_zero, List.set_cons_succ])
                        refine wpAnyH_take (i := 8) (v := _) rfl (by kernel_rfl) (by kernel_rfl) (by kernel_rfl) (fun _ _ _ h => h) (Or.inl ⟨by rfl, by (intro w hSw; (try dsimp only at hSw); go_simp <;> with_reducible rfl)⟩) (by assumption) ?_
                        (try simp only [List.getElem_toArray, List.getElem_cons_zero, List.getElem_cons_succ, Act.put, List.setIfInBounds_toArray, List.set_cons_zero, List.set_cons_succ])
                        refine wpAnyH_take (i := 9) (v := _) rfl (by kernel_rfl) (by kernel_rfl) (by kernel_rfl) (fun _ _ _ h => h) (Or.inl ⟨by rfl, by (intro w hSw; (try dsimp only at hSw); go_simp <;> with_reducible rfl)⟩) (by assumption) ?_
                        (try simp only [List.getElem_toArray, List.getElem_cons_zero, List.getElem_cons_succ, Act.put, List.setIfInBounds_toArray, List.set_cons_zero, List.set_cons_succ])
                        refine wpAnyH_take (i := 10) (v := _) rfl (by kernel_rfl) (by kernel_rfl) (by kernel_rfl) (fun _ _ _ h => h) (Or.inl ⟨by rfl, by (intro w hSw; (try dsimp only at hSw); go_simp <;> with_reducible rfl)⟩) (by assumption) ?_
                        (try simp only [List.getElem_toArray, List.getElem_cons_zero, List.getElem_cons_succ, Act.put, List.setIfInBounds_toArray, List.set_cons_zero, List.set_cons_succ])
                        refine wpAnyH_take (i := 11) (v := _) rfl (by kernel_rfl) (by kernel_rfl) (by kernel_rfl) (fun _ _ _ h => h) (Or.inl ⟨by rfl, by (intro w hSw; (try dsimp only at hSw); go_simp <;> with_reducible rfl)⟩) (by assumption) ?_
                        (try simp only [List.getElem_toArray, List.getElem_cons_zero, List.getElem_cons_succ, Act.put, List.setIfInBounds_toArray, List.set_cons_zero, List.set_cons_succ])
                        refine wpAnyH_take (i := 13) (v := _) rfl (by kernel_rfl) (by kernel_rfl) (by kernel_rfl) (fun _ _ _ h => h) (Or.inl ⟨by rfl, by (intro w hSw; (try dsimp only at hSw); go_simp <;> with_reducible rfl)⟩) (by assumption) ?_
                        (try simp only [List.getElem_toArray, List.getElem_cons_zero, List.getElem_cons_succ, Act.put, List.setIfInBounds_toArray, List.set_cons_zero, List.set_cons_succ])
                        refine wpAnyH_ready (rs := [12]) (by kernel_rfl) (by simp) ?_
                        refine AllReadyH.cons rfl (fun Kq hKq => ?_) ?_
                        rotate_left
                        · exact AllReadyH.nil
                        (try simp only [List.getElem_toArray, List.getElem_cons_zero, List.getElem_cons_succ])
                        refine step_fold (a := ⟨_, _⟩) ?_
                        go_simp
                        (go_at_call 19; refine (implApartReads_calls p _ C (some ad) cc cd _ _ (Row.belowAll hCn ‹Below wr.heap.size wr _›) (Row.belowAll hDn ‹Below wr.heap.size wr _›)).mono ?_; rintro e w8 ⟨v8, rfl, ho8, hb8⟩; obtain ⟨A8, n8, rfl, _, hr8⟩ := OwnI.row ho8; have y0 := below_then ‹Below wr.heap.size wr _› (Below.size ‹Below wr.heap.size wr _›) hb8; have y1 := (y0.cell (p := ⟨w1.heap.size, 0, none⟩) hl1n).trans z0; have y2 := (y0.cell (p := ⟨w1.heap.size, 1, none⟩) hl1n).trans z1; have y3 := (y0.cell (p := ad3) hl4n).trans z2; have y4 := (y0.cell (p := ⟨ad3.block, ad3.off + 1, none⟩) hl4n).trans z3; have hbwn := y0)
                        refine hKq.out _ _ (by (try dsimp only) <;> (go_keep)) (fun hHeld => ?_)
                        clear hKq Kq
                        (try simp only [List.getElem_toArray, List.getElem_cons_zero, List.getElem_cons_succ, Act.put, List.setIfInBounds_toArray, List.set_cons_zero, List.set_cons_succ])
                        refine wpAnyH_ready (rs := [14]) (by kernel_rfl) (by simp) ?_
                        refine AllReadyH.cons rfl (fun Kq hKq => ?_) ?_
                        rotate_left
                        · exact AllReadyH.nil
                        (try simp only [List.getElem_toArray, List.getElem_cons_zero, List.getElem_cons_succ])
                        refine step_fold (a := ⟨_, _⟩) ?_
                        go_simp
                        (go_at_call 33; have b8 : Below w8.heap.size w8 _ := (by repeat' (first | exact Below.refl _ _ | apply Below.drew)); with_reducible refine (lqHas_same (apartSet chReads p q1) A8 n8 n _ _ (Row.belowAll hr8 b8)).mono ?_; rintro e w' ⟨rfl, rfl⟩; rw [E2.out])
                        refine hKq.out _ _ (by (try dsimp only) <;> (go_keep)) (fun hHeld => ?_)
                        clear hKq Kq
                        (try simp only [List.getElem_toArray, List.getElem_cons_zero, List.getElem_cons_succ, Act.put, List.setIfInBounds_toArray, List.set_cons_zero, List.set_cons_succ])
                        refine wpAnyH_take (i := 15) (v := _) rfl (by kernel_rfl) (by kernel_rfl) (by kernel_rfl) (fun _ _ _ h => h) (Or.inl ⟨by rfl, by (intro w hSw; (try dsimp only at hSw); go_simp <;> with_reducible rfl)⟩) (by assumption) ?_
                        (try simp only [List.getElem_toArray, List.getElem_cons_zero, List.getElem_cons_succ, Act.put, List.setIfInBounds_toArray, List.set_cons_zero, List.set_cons_succ])
                        refine wpAnyH_take (i := 16) (v := _) rfl (by kernel_rfl) (by kernel_rfl) (by kernel_rfl) (fun _ _ _ h => h) (Or.inl ⟨by rfl, by (intro w hSw; (try dsimp only at hSw); go_simp <;> with_reducible rfl)⟩) (by assumption) ?_
                        (try simp only [List.getElem_toArray, List.getElem_cons_zero, List.getElem_cons_succ, Act.put, List.setIfInBounds_toArray, List.set_cons_zero, List.set_cons_succ])
                        refine wpAnyH_take (i := 17) (v := _) rfl (by kernel_rfl) (by kernel_rfl) (by kernel_rfl) (fun _ _ _ h => h) (Or.inl ⟨by rfl, by (intro w hSw; (try dsimp only at hSw); go_simp <;> with_reducible rfl)⟩) (by assumption) ?_
                        (try simp only [List.getElem_toArray, List.getElem_cons_zero, List.getElem_cons_succ, Act.put, List.setIfInBounds_toArray, List.set_cons_zero, List.set_cons_succ])
                        refine wpAnyH_take (i := 18) (v := _) rfl (by kernel_rfl) (by kernel_rfl) (by kernel_rfl) (fun _ _ _ h => h) (Or.inl ⟨by rfl, by (intro w hSw; (try dsimp only at hSw); go_simp <;> with_reducible rfl)⟩) (by assumption) ?_
                        (try simp only [List.getElem_toArray, List.getElem_cons_zero, List.getElem_cons_succ, Act.put, List.setIfInBounds_toArray, List.set_cons_zero, List.set_cons_succ])
                        refine wpAnyH_take (i := 19) (v := _) rfl (by kernel_rfl) (by kernel_rfl) (by kernel_rfl) (fun _ _ _ h => h) (Or.inl ⟨by rfl, by (intro w hSw; (try dsimp only at hSw); go_simp <;> with_reducible rfl)⟩) (by assumption) ?_
                        (try simp only [List.getElem_toArray, List.getElem_cons_zero, List.getElem_cons_succ, Act.put, List.setIfInBounds_toArray, List.set_cons_zero, List.set_cons_succ])
                        refine wpAnyH_ready (rs := [20]) (by kernel_rfl) (by simp) ?_
                        refine AllReadyH.cons rfl (fun Kq hKq => ?_) ?_
                        rotate_left
                        · exact AllReadyH.nil
                        (try simp only [List.getElem_toArray, List.getElem_cons_zero, List.getElem_cons_succ])
                        refine step_fold (a := ⟨_, _⟩) ?_
                        go_simp
                        (go_at_call 33; with_reducible refine (lqHas_same (apartSet chWrites p q1) A7 n7 n _ _ (Row.belowAll hr7n ‹Below wr.heap.size wr _›)).mono ?_; rintro e w' ⟨rfl, rfl⟩; rw [E1.out])
                        refine hKq.out _ _ (by (try dsimp only) <;> (go_keep)) (fun hHeld => ?_)
                        clear hKq Kq
                        (try simp only [List.getElem_toArray, List.getElem_cons_zero, List.getElem_cons_succ, Act.put, List.setIfInBounds_toArray, List.set_cons_zero, List.set_cons_succ])
                        refine wpAnyH_take (i := 21) (v := _) rfl (by kernel_rfl) (by kernel_rfl) (by kernel_rfl) (fun _ _ _ h => h) (Or.inl ⟨by rfl, by (intro w hSw; (try dsimp only at hSw); go_simp <;> with_reducible rfl)⟩) (by assumption) ?_
                        (try simp only [List.getElem_toArray, List.getElem_cons_zero, List.getElem_cons_succ, Act.put, List.setIfInBounds_toArray, List.set_cons_zero, List.set_cons_succ])
                        refine wpAnyH_take (i := 22) (v := undef) rfl (by kernel_rfl) (by kernel_rfl) (by kernel_rfl) (fun _ _ _ h => h) (Or.inr ⟨by rfl, rfl⟩) (by assumption) ?_
                        (try simp only [List.getElem_toArray, List.getElem_cons_zero, List.getElem_cons_succ, Act.put, List.setIfInBounds_toArray, List.set_cons_zero, List.set_cons_succ])
                        refine wpAnyH_take (i := 23) (v := undef) rfl (by kernel_rfl) (by kernel_rfl) (by kernel_rfl) (fun _ _ _ h => h) (Or.inr ⟨by rfl, rfl⟩) (by assumption) ?_
                        (try simp only [List.getElem_toArray, List.getElem_cons_zero, List.getElem_cons_succ, Act.put, List.setIfInBounds_toArray, List.set_cons_zero, List.set_cons_succ])
                        refine wpAnyH_take (i := 24) (v := undef) rfl (by kernel_rfl) (by kernel_rfl) (by kernel_rfl) (fun _ _ _ h => h) (Or.inr ⟨by rfl, rfl⟩) (by assumption) ?_
                        (try simp only [List.getElem_toArray, List.getElem_cons_zero, List.getElem_cons_succ, Act.put, List.setIfInBounds_toArray, List.set_cons_zero, List.set_cons_succ])
                        refine wpAnyH_take (i := 25) (v := undef) rfl (by kernel_rfl) (by kernel_rfl) (by kernel_rfl) (fun _ _ _ h => h) (Or.inr ⟨by rfl, rfl⟩) (by assumption) ?_
                        (try simp only [List.getElem_toArray, List.getElem_cons_zero, List.getElem_cons_succ, Act.put, List.setIfInBounds_toArray, List.set_cons_zero, List.set_cons_succ])
                        refine wpAnyH_take (i := 26) (v := undef) rfl (by kernel_rfl) (by kernel_rfl) (by kernel_rfl) (fun _ _ _ h => h) (Or.inr ⟨by rfl, rfl⟩) (by assumption) ?_
                        (try simp only [List.getElem_toArray, List.getElem_cons_zero, List.getElem_cons_succ, Act.put, List.setIfInBounds_toArray, List.set_cons_zero, List.set_cons_succ])
                        refine wpAnyH_take (i := 27) (v := undef) rfl (by kernel_rfl) (by kernel_rfl) (by kernel_rfl) (fun _ _ _ h => h) (Or.inr ⟨by rfl, rfl⟩) (by assumption) ?_
                        (try simp only [List.getElem_toArray, List.getElem_cons_zero, List.getElem_cons_succ, Act.put, List.setIfInBounds_toArray, List.set_cons_zero, List.set_cons_succ])
                        refine wpAnyH_take (i := 28) (v := undef) rfl (by kernel_rfl) (by kernel_rfl) (by kernel_rfl) (fun _ _ _ h => h) (Or.inr ⟨by rfl, rfl⟩) (by assumption) ?_
                        (try simp only [List.getElem_toArray, List.getElem_cons_zero, List.getElem_cons_succ, Act.put, List.setIfInBounds_toArray, List.set_cons_zero, List.set_cons_succ])
                        refine wpAnyH_take (i := 29) (v := _) rfl (by kernel_rfl) (by kernel_rfl) (by kernel_rfl) (fun _ _ _ h => h) (Or.inl ⟨by rfl, by (intro w hSw; (try dsimp only at hSw); go_simp <;> with_reducible rfl)⟩) (by assumption) ?_
                        (try simp only [List.getElem_toArray, List.getElem_cons_zero, List.getElem_cons_succ, Act.put, List.setIfInBounds_toArray, List.set_cons_zero, List.set_cons_succ])
                        refine wpAnyH_take (i := 30) (v := _) rfl (by kernel_rfl) (by kernel_rfl) (by kernel_rfl) (fun _ _ _ h => h) (Or.inl ⟨by rfl, by (intro w hSw; (try dsimp only at hSw); go_simp <;> with_reducible rfl)⟩) (by assumption) ?_
                        (try simp only [List.getElem_toArray, List.getElem_cons_zero, List.getElem_cons_succ, Act.put, List.setIfInBounds_toArray, List.set_cons_zero, List.set_cons_succ])
                        refine wpAnyH_done (by kernel_rfl) ?_ _
                        go_wp2
                        go_roundw
                        case rel => exact ⟨n + 1, m + 1, by have := HNM.out; omega, by omega, by go_num, by rw [show goodTo p q0 q1 (m + 1) = (goodTo p q0 q1 m && !badAt p q0 q1 (m : Int)) from rfl, BAD.out]; simp, below_then hbn hbn.size (by first | assumption | exact hbwn)⟩
                        case measure => simp [intOf]; omega
                      · have E2 := Lib.hid e2
                        have BAD := Lib.hid (show badAt p q0 q1 (m : Int) = true by rw [hbd, e0, e1, e2]; simp)
                        clear e0 e1 e2 hbd
                        go_wp2_with fail
                        refine wp_region_held_drew (S := (fun w' => w'.cell? ⟨w1.heap.size, 0, none⟩ = some (.slice C p.cells.length cc) ∧ w'.cell? ⟨w1.heap.size, 1, none⟩ = some (.slice (some ad) p.bodies.length cd) ∧ w'.cell? ad3 = some (.int .i64 q0) ∧ w'.cell? ⟨ad3.block, ad3.off + 1, none⟩ = some (.int .i64 q1) ∧ Below wr.heap.size wr w')) (by kernel_rfl) (by (try dsimp only) <;> (go_keep)) (fun hHeld => ?_)
                        refine wpAnyH_take (i := 0) (v := _) rfl (by kernel_rfl) (by kernel_rfl) (by kernel_rfl) (fun _ _ _ h => h) (Or.inl ⟨by rfl, by (intro w hSw; (try dsimp only at hSw); go_simp <;> with_reducible rfl)⟩) (by assumption) ?_
                        (try simp only [List.getElem_toArray, List.getElem_cons_zero, List.getElem_cons_succ, Act.put, List.setIfInBounds_toArray, List.set_cons_zero, List.set_cons_succ])
                        refine wpAnyH_take (i := 1) (v := _) rfl (by kernel_rfl) (by kernel_rfl) (by kernel_rfl) (fun _ _ _ h => h) (Or.inl ⟨by rfl, by (intro w hSw; (try dsimp only at hSw); go_simp <;> with_reducible rfl)⟩) (by assumption) ?_
                        (try simp only [List.getElem_toArray, List.getElem_cons_zero, List.getElem_cons_succ, Act.put, List.setIfInBounds_toArray, List.set_cons_zero, List.set_cons_succ])
                        refine wpAnyH_ready (rs := [2]) (by kernel_rfl) (by simp) ?_
                        refine AllReadyH.cons rfl (fun Kq hKq => ?_) ?_
                        rotate_left
                        · exact AllReadyH.nil
                        (try simp only [List.getElem_toArray, List.getElem_cons_zero, List.getElem_cons_succ])
                        refine step_fold (a := ⟨_, _⟩) ?_
                        go_simp
                        (go_at_call 33; with_reducible refine (lqHas_same (apartSet chWrites p q0) A6 n6 n _ _ (Row.belowAll hr6n ‹Below wr.heap.size wr _›)).mono ?_; rintro e w' ⟨rfl, rfl⟩; rw [E0.out])
                        refine hKq.out _ _ (by (try dsimp only) <;> (go_keep)) (fun hHeld => ?_)
                        clear hKq Kq
                        (try simp only [List.getElem_toArray, List.getElem_cons_zero, List.getElem_cons_succ, Act.put, List.setIfInBounds_toArray, List.set_cons_zero, List.set_cons_succ])
                        refine wpAnyH_take (i := 3) (v := _) rfl (by kernel_rfl) (by kernel_rfl) (by kernel_rfl) (fun _ _ _ h => h) (Or.inl ⟨by rfl, by (intro w hSw; (try dsimp only at hSw); go_simp <;> with_reducible rfl)⟩) (by assumption) ?_
                        (try simp only [List.getElem_toArray, List.getElem_cons_zero, List.getElem_cons_succ, Act.put, List.setIfInBounds_toArray, List.set_cons_zero, List.set_cons_succ])
                        refine wpAnyH_take (i := 4) (v := _) rfl (by kernel_rfl) (by kernel_rfl) (by kernel_rfl) (fun _ _ _ h => h) (Or.inl ⟨by rfl, by (intro w hSw; (try dsimp only at hSw); go_simp <;> with_reducible rfl)⟩) (by assumption) ?_
                        (try simp only [List.getElem_toArray, List.getElem_cons_zero, List.getElem_cons_succ, Act.put, List.setIfInBounds_toArray, List.set_cons_zero, List.set_cons_succ])
                        refine wpAnyH_take (i := 5) (v := _) rfl (by kernel_rfl) (by kernel_rfl) (by kernel_rfl) (fun _ _ _ h => h) (Or.inl ⟨by rfl, by (intro w hSw; (try dsimp only at hSw); go_simp <;> with_reducible rfl)⟩) (by assumption) ?_
                        (try simp only [List.getElem_toArray, List.getElem_cons_zero, List.getElem_cons_succ, Act.put, List.setIfInBounds_toArray, List.set_cons_zero, List.set_cons_succ])
                        refine wpAnyH_ready (rs := [6]) (by kernel_rfl) (by simp) ?_
                        refine AllReadyH.cons rfl (fun Kq hKq => ?_) ?_
                        rotate_left
                        · exact AllReadyH.nil
                        (try simp only [List.getElem_toArray, List.getElem_cons_zero, List.getElem_cons_succ])
                        refine step_fold (a := ⟨_, _⟩) ?_
                        go_simp
                        (go_at_call 33; with_reducible refine (lqHas_same (apartSet chWrites p q1) A7 n7 n _ _ (Row.belowAll hr7n ‹Below wr.heap.size wr _›)).mono ?_; rintro e w' ⟨rfl, rfl⟩; rw [E1.out])
                        refine hKq.out _ _ (by (try dsimp only) <;> (go_keep)) (fun hHeld => ?_)
                        clear hKq Kq
                        (try simp only [List.getElem_toArray, List.getElem_cons_zero, List.getElem_cons_succ, Act.put, List.setIfInBounds_toArray, List.set_cons_zero, List.set_cons_succ])
                        refine wpAnyH_take (i := 7) (v := _) rfl (by kernel_rfl) (by kernel_rfl) (by kernel_rfl) (fun _ _ _ h => h) (Or.inl ⟨by rfl, by (intro w hSw; (try dsimp only at hSw); go_simp <;> with_reducible rfl)⟩) (by assumption) ?_
                        (try simp only [List.getElem_toArray, List.getElem_cons_zero, List.getElem_cons_succ, Act.put, List.setIfInBounds_toArray, List.set_cons_zero, List.set_cons_succ])
                        refine wpAnyH_take (i := 8) (v := _) rfl (by kernel_rfl) (by kernel_rfl) (by kernel_rfl) (fun _ _ _ h => h) (Or.inl ⟨by rfl, by (intro w hSw; (try dsimp only at hSw); go_simp <;> with_reducible rfl)⟩) (by assumption) ?_
                        (try simp only [List.getElem_toArray, List.getElem_cons_zero, List.getElem_cons_succ, Act.put, List.setIfInBounds_toArray, List.set_cons_zero, List.set_cons_succ])
                        refine wpAnyH_take (i := 9) (v := _) rfl (by kernel_rfl) (by kernel_rfl) (by kernel_rfl) (fun _ _ _ h => h) (Or.inl ⟨by rfl, by (intro w hSw; (try dsimp only at hSw); go_simp <;> with_reducible rfl)⟩) (by assumption) ?_
                        (try simp only [List.getElem_toArray, List.getElem_cons_zero, List.getElem_cons_succ, Act.put, List.setIfInBounds_toArray, List.set_cons_zero, List.set_cons_succ])
                        refine wpAnyH_take (i := 10) (v := _) rfl (by kernel_rfl) (by kernel_rfl) (by kernel_rfl) (fun _ _ _ h => h) (Or.inl ⟨by rfl, by (intro w hSw; (try dsimp only at hSw); go_simp <;> with_reducible rfl)⟩) (by assumption) ?_
                        (try simp only [List.getElem_toArray, List.getElem_cons_zero, List.getElem_cons_succ, Act.put, List.setIfInBounds_toArray, List.set_cons_zero, List.set_cons_succ])
                        refine wpAnyH_take (i := 11) (v := _) rfl (by kernel_rfl) (by kernel_rfl) (by kernel_rfl) (fun _ _ _ h => h) (Or.inl ⟨by rfl, by (intro w hSw; (try dsimp only at hSw); go_simp <;> with_reducible rfl)⟩) (by assumption) ?_
                        (try simp only [List.getElem_toArray, List.getElem_cons_zero, List.getElem_cons_succ, Act.put, List.setIfInBounds_toArray, List.set_cons_zero, List.set_cons_succ])
                        refine wpAnyH_take (i := 13) (v := _) rfl (by kernel_rfl) (by kernel_rfl) (by kernel_rfl) (fun _ _ _ h => h) (Or.inl ⟨by rfl, by (intro w hSw; (try dsimp only at hSw); go_simp <;> with_reducible rfl)⟩) (by assumption) ?_
                        (try simp only [List.getElem_toArray, List.getElem_cons_zero, List.getElem_cons_succ, Act.put, List.setIfInBounds_toArray, List.set_cons_zero, List.set_cons_succ])
                        refine wpAnyH_ready (rs := [12]) (by kernel_rfl) (by simp) ?_
                        refine AllReadyH.cons rfl (fun Kq hKq => ?_) ?_
                        rotate_left
                        · exact AllReadyH.nil
                        (try simp only [List.getElem_toArray, List.getElem_cons_zero, List.getElem_cons_succ])
                        refine step_fold (a := ⟨_, _⟩) ?_
                        go_simp
                        (go_at_call 19; refine (implApartReads_calls p _ C (some ad) cc cd _ _ (Row.belowAll hCn ‹Below wr.heap.size wr _›) (Row.belowAll hDn ‹Below wr.heap.size wr _›)).mono ?_; rintro e w8 ⟨v8, rfl, ho8, hb8⟩; obtain ⟨A8, n8, rfl, _, hr8⟩ := OwnI.row ho8; have y0 := below_then ‹Below wr.heap.size wr _› (Below.size ‹Below wr.heap.size wr _›) hb8; have y1 := (y0.cell (p := ⟨w1.heap.size, 0, none⟩) hl1n).trans z0; have y2 := (y0.cell (p := ⟨w1.heap.size, 1, none⟩) hl1n).trans z1; have y3 := (y0.cell (p := ad3) hl4n).trans z2; have y4 := (y0.cell (p := ⟨ad3.block, ad3.off + 1, none⟩) hl4n).trans z3; have hbwn := y0)
                        refine hKq.out _ _ (by (try dsimp only) <;> (go_keep)) (fun hHeld => ?_)
                        clear hKq Kq
                        (try simp only [List.getElem_toArray, List.getElem_cons_zero, List.getElem_cons_succ, Act.put, List.setIfInBounds_toArray, List.set_cons_zero, List.set_cons_succ])
                        refine wpAnyH_ready (rs := [14]) (by kernel_rfl) (by simp) ?_
                        refine AllReadyH.cons rfl (fun Kq hKq => ?_) ?_
                        rotate_left
                        · exact AllReadyH.nil
                        (try simp only [List.getElem_toArray, List.getElem_cons_zero, List.getElem_cons_succ])
                        refine step_fold (a := ⟨_, _⟩) ?_
                        go_simp
                        (go_at_call 33; have b8 : Below w8.heap.size w8 _ := (by repeat' (first | exact Below.refl _ _ | apply Below.drew)); with_reducible refine (lqHas_same (apartSet chReads p q1) A8 n8 n _ _ (Row.belowAll hr8 b8)).mono ?_; rintro e w' ⟨rfl, rfl⟩; rw [E2.out])
                        refine hKq.out _ _ (by (try dsimp only) <;> (go_keep)) (fun hHeld => ?_)
                        clear hKq Kq
                        (try simp only [List.getElem_toArray, List.getElem_cons_zero, List.getElem_cons_succ, Act.put, List.setIfInBounds_toArray, List.set_cons_zero, List.set_cons_succ])
                        refine wpAnyH_take (i := 15) (v := _) rfl (by kernel_rfl) (by kernel_rfl) (by kernel_rfl) (fun _ _ _ h => h) (Or.inl ⟨by rfl, by (intro w hSw; (try dsimp only at hSw); go_simp <;> with_reducible rfl)⟩) (by assumption) ?_
                        (try simp only [List.getElem_toArray, List.getElem_cons_zero, List.getElem_cons_succ, Act.put, List.setIfInBounds_toArray, List.set_cons_zero, List.set_cons_succ])
                        refine wpAnyH_take (i := 16) (v := _) rfl (by kernel_rfl) (by kernel_rfl) (by kernel_rfl) (fun _ _ _ h => h) (Or.inl ⟨by rfl, by (intro w hSw; (try dsimp only at hSw); go_simp <;> with_reducible rfl)⟩) (by assumption) ?_
                        (try simp only [List.getElem_toArray, List.getElem_cons_zero, List.getElem_cons_succ, Act.put, List.setIfInBounds_toArray, List.set_cons_zero, List.set_cons_succ])
                        refine wpAnyH_take (i := 17) (v := _) rfl (by kernel_rfl) (by kernel_rfl) (by kernel_rfl) (fun _ _ _ h => h) (Or.inl ⟨by rfl, by (intro w hSw; (try dsimp only at hSw); go_simp <;> with_reducible rfl)⟩) (by assumption) ?_
                        (try simp only [List.getElem_toArray, List.getElem_cons_zero, List.getElem_cons_succ, Act.put, List.setIfInBounds_toArray, List.set_cons_zero, List.set_cons_succ])
                        refine wpAnyH_take (i := 18) (v := undef) rfl (by kernel_rfl) (by kernel_rfl) (by kernel_rfl) (fun _ _ _ h => h) (Or.inr ⟨by rfl, rfl⟩) (by assumption) ?_
                        (try simp only [List.getElem_toArray, List.getElem_cons_zero, List.getElem_cons_succ, Act.put, List.setIfInBounds_toArray, List.set_cons_zero, List.set_cons_succ])
                        refine wpAnyH_take (i := 19) (v := undef) rfl (by kernel_rfl) (by kernel_rfl) (by kernel_rfl) (fun _ _ _ h => h) (Or.inr ⟨by rfl, rfl⟩) (by assumption) ?_
                        (try simp only [List.getElem_toArray, List.getElem_cons_zero, List.getElem_cons_succ, Act.put, List.setIfInBounds_toArray, List.set_cons_zero, List.set_cons_succ])
                        refine wpAnyH_take (i := 20) (v := undef) rfl (by kernel_rfl) (by kernel_rfl) (by kernel_rfl) (fun _ _ _ h => h) (Or.inr ⟨by rfl, rfl⟩) (by assumption) ?_
                        (try simp only [List.getElem_toArray, List.getElem_cons_zero, List.getElem_cons_succ, Act.put, List.setIfInBounds_toArray, List.set_cons_zero, List.set_cons_succ])
                        refine wpAnyH_take (i := 21) (v := undef) rfl (by kernel_rfl) (by kernel_rfl) (by kernel_rfl) (fun _ _ _ h => h) (Or.inr ⟨by rfl, rfl⟩) (by assumption) ?_
                        (try simp only [List.getElem_toArray, List.getElem_cons_zero, List.getElem_cons_succ, Act.put, List.setIfInBounds_toArray, List.set_cons_zero, List.set_cons_succ])
                        refine wpAnyH_take (i := 22) (v := undef) rfl (by kernel_rfl) (by kernel_rfl) (by kernel_rfl) (fun _ _ _ h => h) (Or.inr ⟨by rfl, rfl⟩) (by assumption) ?_
                        (try simp only [List.getElem_toArray, List.getElem_cons_zero, List.getElem_cons_succ, Act.put, List.setIfInBounds_toArray, List.set_cons_zero, List.set_cons_succ])
                        refine wpAnyH_take (i := 23) (v := undef) rfl (by kernel_rfl) (by kernel_rfl) (by kernel_rfl) (fun _ _ _ h => h) (Or.inr ⟨by rfl, rfl⟩) (by assumption) ?_
                        (try simp only [List.getElem_toArray, List.getElem_cons_zero, List.getElem_cons_succ, Act.put, List.setIfInBounds_toArray, List.set_cons_zero, List.set_cons_succ])
                        refine wpAnyH_take (i := 24) (v := undef) rfl (by kernel_rfl) (by kernel_rfl) (by kernel_rfl) (fun _ _ _ h => h) (Or.inr ⟨by rfl, rfl⟩) (by assumption) ?_
                        (try simp only [List.getElem_toArray, List.getElem_cons_zero, List.getElem_cons_succ, Act.put, List.setIfInBounds_toArray, List.set_cons_zero, List.set_cons_succ])
                        refine wpAnyH_take (i := 25) (v := undef) rfl (by kernel_rfl) (by kernel_rfl) (by kernel_rfl) (fun _ _ _ h => h) (Or.inr ⟨by rfl, rfl⟩) (by assumption) ?_
                        (try simp only [List.getElem_toArray, List.getElem_cons_zero, List.getElem_cons_succ, Act.put, List.setIfInBounds_toArray, List.set_cons_zero, List.set_cons_succ])
                        refine wpAnyH_take (i := 26) (v := undef) rfl (by kernel_rfl) (by kernel_rfl) (by kernel_rfl) (fun _ _ _ h => h) (Or.inr ⟨by rfl, rfl⟩) (by assumption) ?_
                        (try simp only [List.getElem_toArray, List.getElem_cons_zero, List.getElem_cons_succ, Act.put, List.setIfInBounds_toArray, List.set_cons_zero, List.set_cons_succ])
                        refine wpAnyH_take (i := 27) (v := undef) rfl (by kernel_rfl) (by kernel_rfl) (by kernel_rfl) (fun _ _ _ h => h) (Or.inr ⟨by rfl, rfl⟩) (by assumption) ?_
                        (try simp only [List.getElem_toArray, List.getElem_cons_zero, List.getElem_cons_succ, Act.put, List.setIfInBounds_toArray, List.set_cons_zero, List.set_cons_succ])
                        refine wpAnyH_take (i := 28) (v := undef) rfl (by kernel_rfl) (by kernel_rfl) (by kernel_rfl) (fun _ _ _ h => h) (Or.inr ⟨by rfl, rfl⟩) (by assumption) ?_
                        (try simp only [List.getElem_toArray, List.getElem_cons_zero, List.getElem_cons_succ, Act.put, List.setIfInBounds_toArray, List.set_cons_zero, List.set_cons_succ])
                        refine wpAnyH_take (i := 29) (v := undef) rfl (by kernel_rfl) (by kernel_rfl) (by kernel_rfl) (fun _ _ _ h => h) (Or.inr ⟨by rfl, rfl⟩) (by assumption) ?_
                        (try simp only [List.getElem_toArray, List.getElem_cons_zero, List.getElem_cons_succ, Act.put, List.setIfInBounds_toArray, List.set_cons_zero, List.set_cons_succ])
                        refine wpAnyH_take (i := 30) (v := _) rfl (by kernel_rfl) (by kernel_rfl) (by kernel_rfl) (fun _ _ _ h => h) (Or.inl ⟨by rfl, by (intro w hSw; (try dsimp only at hSw); go_simp <;> with_reducible rfl)⟩) (by assumption) ?_
                        (try simp only [List.getElem_toArray, List.getElem_cons_zero, List.getElem_cons_succ, Act.put, List.setIfInBounds_toArray, List.set_cons_zero, List.set_cons_succ])
                        refine wpAnyH_done (by kernel_rfl) ?_ _
                        go_wp2
                        go_roundw
                        case rel => exact ⟨n + 1, m + 1, by have := HNM.out; omega, by omega, by go_num, by rw [show goodTo p q0 q1 (m + 1) = (goodTo p q0 q1 m && !badAt p q0 q1 (m : Int)) from rfl, BAD.out]; simp, below_then hbn hbn.size (by first | assumption | exact hbwn)⟩
                        case measure => simp [intOf]; omega
                    · have BAD := Lib.hid (show badAt p q0 q1 (m : Int) = true by rw [hbd, e0, e1]; rfl)
                      clear e0 e1 hbd
                      go_wp2_with fail
                      refine wp_region_held_drew (S := (fun w' => w'.cell? ⟨w1.heap.size, 0, none⟩ = some (.slice C p.cells.length cc) ∧ w'.cell? ⟨w1.heap.size, 1, none⟩ = some (.slice (some ad) p.bodies.length cd) ∧ w'.cell? ad3 = some (.int .i64 q0) ∧ w'.cell? ⟨ad3.block, ad3.off + 1, none⟩ = some (.int .i64 q1) ∧ Below wr.heap.size wr w')) (by kernel_rfl) (by (try dsimp only) <;> (go_keep)) (fun hHeld => ?_)
                      refine wpAnyH_take (i := 0) (v := _) rfl (by kernel_rfl) (by kernel_rfl) (by kernel_rfl) (fun _ _ _ h => h) (Or.inl ⟨by rfl, by (intro w hSw; (try dsimp only at hSw); go_simp <;> with_reducible rfl)⟩) (by assumption) ?_
                      (try simp only [List.getElem_toArray, List.getElem_cons_zero, List.getElem_cons_succ, Act.put, List.setIfInBounds_toArray, List.set_cons_zero, List.set_cons_succ])
                      refine wpAnyH_take (i := 1) (v := _) rfl (by kernel_rfl) (by kernel_rfl) (by kernel_rfl) (fun _ _ _ h => h) (Or.inl ⟨by rfl, by (intro w hSw; (try dsimp only at hSw); go_simp <;> with_reducible rfl)⟩) (by assumption) ?_
                      (try simp only [List.getElem_toArray, List.getElem_cons_zero, List.getElem_cons_succ, Act.put, List.setIfInBounds_toArray, List.set_cons_zero, List.set_cons_succ])
                      refine wpAnyH_ready (rs := [2]) (by kernel_rfl) (by simp) ?_
                      refine AllReadyH.cons rfl (fun Kq hKq => ?_) ?_
                      rotate_left
                      · exact AllReadyH.nil
                      (try simp only [List.getElem_toArray, List.getElem_cons_zero, List.getElem_cons_succ])
                      refine step_fold (a := ⟨_, _⟩) ?_
                      go_simp
                      (go_at_call 33; with_reducible refine (lqHas_same (apartSet chWrites p q0) A6 n6 n _ _ (Row.belowAll hr6n ‹Below wr.heap.size wr _›)).mono ?_; rintro e w' ⟨rfl, rfl⟩; rw [E0.out])
                      refine hKq.out _ _ (by (try dsimp only) <;> (go_keep)) (fun hHeld => ?_)
                      clear hKq Kq
                      (try simp only [List.getElem_toArray, List.getElem_cons_zero, List.getElem_cons_succ, Act.put, List.setIfInBounds_toArray, List.set_cons_zero, List.set_cons_succ])
                      refine wpAnyH_take (i := 3) (v := _) rfl (by kernel_rfl) (by kernel_rfl) (by kernel_rfl) (fun _ _ _ h => h) (Or.inl ⟨by rfl, by (intro w hSw; (try dsimp only at hSw); go_simp <;> with_reducible rfl)⟩) (by assumption) ?_
                      (try simp only [List.getElem_toArray, List.getElem_cons_zero, List.getElem_cons_succ, Act.put, List.setIfInBounds_toArray, List.set_cons_zero, List.set_cons_succ])
                      refine wpAnyH_take (i := 4) (v := _) rfl (by kernel_rfl) (by kernel_rfl) (by kernel_rfl) (fun _ _ _ h => h) (Or.inl ⟨by rfl, by (intro w hSw; (try dsimp only at hSw); go_simp <;> with_reducible rfl)⟩) (by assumption) ?_
                      (try simp only [List.getElem_toArray, List.getElem_cons_zero, List.getElem_cons_succ, Act.put, List.setIfInBounds_toArray, List.set_cons_zero, List.set_cons_succ])
                      refine wpAnyH_take (i := 5) (v := _) rfl (by kernel_rfl) (by kernel_rfl) (by kernel_rfl) (fun _ _ _ h => h) (Or.inl ⟨by rfl, by (intro w hSw; (try dsimp only at hSw); go_simp <;> with_reducible rfl)⟩) (by assumption) ?_
                      (try simp only [List.getElem_toArray, List.getElem_cons_zero, List.getElem_cons_succ, Act.put, List.setIfInBounds_toArray, List.set_cons_zero, List.set_cons_succ])
                      refine wpAnyH_ready (rs := [6]) (by kernel_rfl) (by simp) ?_
                      refine AllReadyH.cons rfl (fun Kq hKq => ?_) ?_
                      rotate_left
                      · exact AllReadyH.nil
                      (try simp only [List.getElem_toArray, List.getElem_cons_zero, List.getElem_cons_succ])
                      refine step_fold (a := ⟨_, _⟩) ?_
                      go_simp
                      (go_at_call 33; with_reducible refine (lqHas_same (apartSet chWrites p q1) A7 n7 n _ _ (Row.belowAll hr7n ‹Below wr.heap.size wr _›)).mono ?_; rintro e w' ⟨rfl, rfl⟩; rw [E1.out])
                      refine hKq.out _ _ (by (try dsimp only) <;> (go_keep)) (fun hHeld => ?_)
                      clear hKq Kq
                      (try simp only [List.getElem_toArray, List.getElem_cons_zero, List.getElem_cons_succ, Act.put, List.setIfInBounds_toArray, List.set_cons_zero, List.set_cons_succ])
                      refine wpAnyH_take (i := 7) (v := _) rfl (by kernel_rfl) (by kernel_rfl) (by kernel_rfl) (fun _ _ _ h => h) (Or.inl ⟨by rfl, by (intro w hSw; (try dsimp only at hSw); go_simp <;> with_reducible rfl)⟩) (by assumption) ?_
                      (try simp only [List.getElem_toArray, List.getElem_cons_zero, List.getElem_cons_succ, Act.put, List.setIfInBounds_toArray, List.set_cons_zero, List.set_cons_succ])
                      refine wpAnyH_take (i := 8) (v := undef) rfl (by kernel_rfl) (by kernel_rfl) (by kernel_rfl) (fun _ _ _ h => h) (Or.inr ⟨by rfl, rfl⟩) (by assumption) ?_
                      (try simp only [List.getElem_toArray, List.getElem_cons_zero, List.getElem_cons_succ, Act.put, List.setIfInBounds_toArray, List.set_cons_zero, List.set_cons_succ])
                      refine wpAnyH_take (i := 9) (v := undef) rfl (by kernel_rfl) (by kernel_rfl) (by kernel_rfl) (fun _ _ _ h => h) (Or.inr ⟨by rfl, rfl⟩) (by assumption) ?_
                      (try simp only [List.getElem_toArray, List.getElem_cons_zero, List.getElem_cons_succ, Act.put, List.setIfInBounds_toArray, List.set_cons_zero, List.set_cons_succ])
                      refine wpAnyH_take (i := 10) (v := undef) rfl (by kernel_rfl) (by kernel_rfl) (by kernel_rfl) (fun _ _ _ h => h) (Or.inr ⟨by rfl, rfl⟩) (by assumption) ?_
                      (try simp only [List.getElem_toArray, List.getElem_cons_zero, List.getElem_cons_succ, Act.put, List.setIfInBounds_toArray, List.set_cons_zero, List.set_cons_succ])
                      refine wpAnyH_take (i := 11) (v := undef) rfl (by kernel_rfl) (by kernel_rfl) (by kernel_rfl) (fun _ _ _ h => h) (Or.inr ⟨by rfl, rfl⟩) (by assumption) ?_
                      (try simp only [List.getElem_toArray, List.getElem_cons_zero, List.getElem_cons_succ, Act.put, List.setIfInBounds_toArray, List.set_cons_zero, List.set_cons_succ])
                      refine wpAnyH_take (i := 12) (v := undef) rfl (by kernel_rfl) (by kernel_rfl) (by kernel_rfl) (fun _ _ _ h => h) (Or.inr ⟨by rfl, rfl⟩) (by assumption) ?_
                      (try simp only [List.getElem_toArray, List.getElem_cons_zero, List.getElem_cons_succ, Act.put, List.setIfInBounds_toArray, List.set_cons_zero, List.set_cons_succ])
                      refine wpAnyH_take (i := 13) (v := undef) rfl (by kernel_rfl) (by kernel_rfl) (by kernel_rfl) (fun _ _ _ h => h) (Or.inr ⟨by rfl, rfl⟩) (by assumption) ?_
                      (try simp only [List.getElem_toArray, List.getElem_cons_zero, List.getElem_cons_succ, Act.put, List.setIfInBounds_toArray, List.set_cons_zero, List.set_cons_succ])
                      refine wpAnyH_take (i := 14) (v := undef) rfl (by kernel_rfl) (by kernel_rfl) (by kernel_rfl) (fun _ _ _ h => h) (Or.inr ⟨by rfl, rfl⟩) (by assumption) ?_
                      (try simp only [List.getElem_toArray, List.getElem_cons_zero, List.getElem_cons_succ, Act.put, List.setIfInBounds_toArray, List.set_cons_zero, List.set_cons_succ])
                      refine wpAnyH_take (i := 15) (v := _) rfl (by kernel_rfl) (by kernel_rfl) (by kernel_rfl) (fun _ _ _ h => h) (Or.inl ⟨by rfl, by (intro w hSw; (try dsimp only at hSw); go_simp <;> with_reducible rfl)⟩) (by assumption) ?_
                      (try simp only [List.getElem_toArray, List.getElem_cons_zero, List.getElem_cons_succ, Act.put, List.setIfInBounds_toArray, List.set_cons_zero, List.set_cons_succ])
                      refine wpAnyH_take (i := 16) (v := _) rfl (by kernel_rfl) (by kernel_rfl) (by kernel_rfl) (fun _ _ _ h => h) (Or.inl ⟨by rfl, by (intro w hSw; (try dsimp only at hSw); go_simp <;> with_reducible rfl)⟩) (by assumption) ?_
                      (try simp only [List.getElem_toArray, List.getElem_cons_zero, List.getElem_cons_succ, Act.put, List.setIfInBounds_toArray, List.set_cons_zero, List.set_cons_succ])
                      refine wpAnyH_take (i := 17) (v := _) rfl (by kernel_rfl) (by kernel_rfl) (by kernel_rfl) (fun _ _ _ h => h) (Or.inl ⟨by rfl, by (intro w hSw; (try dsimp only at hSw); go_simp <;> with_reducible rfl)⟩) (by assumption) ?_
                      (try simp only [List.getElem_toArray, List.getElem_cons_zero, List.getElem_cons_succ, Act.put, List.setIfInBounds_toArray, List.set_cons_zero, List.set_cons_succ])
                      refine wpAnyH_take (i := 18) (v := undef) rfl (by kernel_rfl) (by kernel_rfl) (by kernel_rfl) (fun _ _ _ h => h) (Or.inr ⟨by rfl, rfl⟩) (by assumption) ?_
                      (try simp only [List.getElem_toArray, List.getElem_cons_zero, List.getElem_cons_succ, Act.put, List.setIfInBounds_toArray, List.set_cons_zero, List.set_cons_succ])
                      refine wpAnyH_take (i := 19) (v := undef) rfl (by kernel_rfl) (by kernel_rfl) (by kernel_rfl) (fun _ _ _ h => h) (Or.inr ⟨by rfl, rfl⟩) (by assumption) ?_
                      (try simp only [List.getElem_toArray, List.getElem_cons_zero, List.getElem_cons_succ, Act.put, List.setIfInBounds_toArray, List.set_cons_zero, List.set_cons_succ])
                      refine wpAnyH_take (i := 20) (v := undef) rfl (by kernel_rfl) (by kernel_rfl) (by kernel_rfl) (fun _ _ _ h => h) (Or.inr ⟨by rfl, rfl⟩) (by assumption) ?_
                      (try simp only [List.getElem_toArray, List.getElem_cons_zero, List.getElem_cons_succ, Act.put, List.setIfInBounds_toArray, List.set_cons_zero, List.set_cons_succ])
                      refine wpAnyH_take (i := 21) (v := undef) rfl (by kernel_rfl) (by kernel_rfl) (by kernel_rfl) (fun _ _ _ h => h) (Or.inr ⟨by rfl, rfl⟩) (by assumption) ?_
                      (try simp only [List.getElem_toArray, List.getElem_cons_zero, List.getElem_cons_succ, Act.put, List.setIfInBounds_toArray, List.set_cons_zero, List.set_cons_succ])
                      refine wpAnyH_take (i := 22) (v := undef) rfl (by kernel_rfl) (by kernel_rfl) (by kernel_rfl) (fun _ _ _ h => h) (Or.inr ⟨by rfl, rfl⟩) (by assumption) ?_
                      (try simp only [List.getElem_toArray, List.getElem_cons_zero, List.getElem_cons_succ, Act.put, List.setIfInBounds_toArray, List.set_cons_zero, List.set_cons_succ])
                      refine wpAnyH_take (i := 23) (v := undef) rfl (by kernel_rfl) (by kernel_rfl) (by kernel_rfl) (fun _ _ _ h => h) (Or.inr ⟨by rfl, rfl⟩) (by assumption) ?_
                      (try simp only [List.getElem_toArray, List.getElem_cons_zero, List.getElem_cons_succ, Act.put, List.setIfInBounds_toArray, List.set_cons_zero, List.set_cons_succ])
                      refine wpAnyH_take (i := 24) (v := undef) rfl (by kernel_rfl) (by kernel_rfl) (by kernel_rfl) (fun _ _ _ h => h) (Or.inr ⟨by rfl, rfl⟩) (by assumption) ?_
                      (try simp only [List.getElem_toArray, List.getElem_cons_zero, List.getElem_cons_succ, Act.put, List.setIfInBounds_toArray, List.set_cons_zero, List.set_cons_succ])
                      refine wpAnyH_take (i := 25) (v := undef) rfl (by kernel_rfl) (by kernel_rfl) (by kernel_rfl) (fun _ _ _ h => h) (Or.inr ⟨by rfl, rfl⟩) (by assumption) ?_
                      (try simp only [List.getElem_toArray, List.getElem_cons_zero, List.getElem_cons_succ, Act.put, List.setIfInBounds_toArray, List.set_cons_zero, List.set_cons_succ])
                      refine wpAnyH_take (i := 26) (v := undef) rfl (by kernel_rfl) (by kernel_rfl) (by kernel_rfl) (fun _ _ _ h => h) (Or.inr ⟨by rfl, rfl⟩) (by assumption) ?_
                      (try simp only [List.getElem_toArray, List.getElem_cons_zero, List.getElem_cons_succ, Act.put, List.setIfInBounds_toArray, List.set_cons_zero, List.set_cons_succ])
                      refine wpAnyH_take (i := 27) (v := undef) rfl (by kernel_rfl) (by kernel_rfl) (by kernel_rfl) (fun _ _ _ h => h) (Or.inr ⟨by rfl, rfl⟩) (by assumption) ?_
                      (try simp only [List.getElem_toArray, List.getElem_cons_zero, List.getElem_cons_succ, Act.put, List.setIfInBounds_toArray, List.set_cons_zero, List.set_cons_succ])
                      refine wpAnyH_take (i := 28) (v := undef) rfl (by kernel_rfl) (by kernel_rfl) (by kernel_rfl) (fun _ _ _ h => h) (Or.inr ⟨by rfl, rfl⟩) (by assumption) ?_
                      (try simp only [List.getElem_toArray, List.getElem_cons_zero, List.getElem_cons_succ, Act.put, List.setIfInBounds_toArray, List.set_cons_zero, List.set_cons_succ])
                      refine wpAnyH_take (i := 29) (v := undef) rfl (by kernel_rfl) (by kernel_rfl) (by kernel_rfl) (fun _ _ _ h => h) (Or.inr ⟨by rfl, rfl⟩) (by assumption) ?_
                      (try simp only [List.getElem_toArray, List.getElem_cons_zero, List.getElem_cons_succ, Act.put, List.setIfInBounds_toArray, List.set_cons_zero, List.set_cons_succ])
                      refine wpAnyH_take (i := 30) (v := _) rfl (by kernel_rfl) (by kernel_rfl) (by kernel_rfl) (fun _ _ _ h => h) (Or.inl ⟨by rfl, by (intro w hSw; (try dsimp only at hSw); go_simp <;> with_reducible rfl)⟩) (by assumption) ?_
                      (try simp only [List.getElem_toArray, List.getElem_cons_zero, List.getElem_cons_succ, Act.put, List.setIfInBounds_toArray, List.set_cons_zero, List.set_cons_succ])
                      refine wpAnyH_done (by kernel_rfl) ?_ _
                      go_wp2
                      go_roundw
                      case rel => exact ⟨n + 1, m + 1, by have := HNM.out; omega, by omega, by go_num, by rw [show goodTo p q0 q1 (m + 1) = (goodTo p q0 q1 m && !badAt p q0 q1 (m : Int)) from rfl, BAD.out]; simp, below_then hbn hbn.size (by first | assumption | exact hbwn)⟩
                      case measure => simp [intOf]; omega
                  · have hn3 : ¬ n < 3 := by omega
                    have hn0 : 0 ≤ n := by omega
                    have HNM := Lib.hid hnm
                    clear hnm
                    go_wp2
                    go_roundw
                    case rel => exact ⟨k + 1, by omega, by go_num, by rw [all_take_snoc _ _ _ hlk, HAP.out, ← HB0.out, show m = 3 by omega], below_then hb07 hb07.size hbn⟩
                    case measure => simp [intOf]; omega
              · have hne : ((p.bodies[j][k].kids.length : Int) != 2) = true := by simp; omega
                obtain ⟨b0, hb0⟩ : ∃ b0, b0 = ((p.bodies[j].take k).all fun a => apartKids p a.kids) := ⟨_, rfl⟩
                rw [← hb0]
                have HB0 := Lib.hid hb0
                have H2 := Lib.hid h2
                clear hb0 h2
                go_wp2
                go_roundw
                case rel => exact ⟨k + 1, by omega, by go_num, by rw [all_take_snoc _ _ _ hlk, apartKids_not p H2.out, HB0.out, Bool.and_true], hbk⟩
                case measure => simp [intOf]; omega
            · go_wp2
              go_roundw
              case rel => exact ⟨j + 1, by omega, by go_num, by rw [all_take_snoc _ _ _ hlt, ← HBL.out, List.take_of_length_le (by omega)]; rfl, hbk⟩
              case measure => simp [intOf]; omega
        · have hfin : ball = bo := by
            rw [HBL.out, HBO.out, HAO.out]
            by_cases hlt : j < p.bodies.length
            · have hbf : ball = false := by cases h : ball; rfl; exact absurd ⟨hlt, h⟩ hgo
              have h1 := HBL.out
              rw [hbf] at h1
              rw [← h1]
              symm
              rw [List.all_eq_false] at *
              have h2 := h1.symm
              rw [List.all_eq_false] at h2
              obtain ⟨x, hx, hn⟩ := h2
              exact ⟨x, List.mem_of_mem_take hx, hn⟩
            · rw [List.take_of_length_le (by omega)]
          have hC4 := hC3.belowAll hbr
          have hD4 := hD3.belowAll hbr
          have hbe : (bo == ball) = true := by rw [hfin]; simp
          have HFIN := Lib.hid hfin
          clear hfin
          by_cases hlt : j < p.bodies.length
          · have hbf : ball = false := by cases h : ball; rfl; exact absurd ⟨hlt, h⟩ hgo
            subst hbf
            have hx : (bo == bo) = true := by simp
            clear hgo
            go_wp2_with (first
              | (go_at_call 24; refine (specApartOk_calls p C D cc cd _ _ hC4 hD4).mono ?_; rintro e w4 ⟨rfl, hb4⟩; rw [← HBO.out]; have hbw4 := below_then hbw3 hbw3.size (below_then hbr hbr.size hb4)))
            go_ret
            exact ⟨rfl, hbw4⟩
          · have hx : (bo == bo) = true := by simp
            clear hgo
            go_wp2_with (first
              | (go_at_call 24; refine (specApartOk_calls p C D cc cd _ _ hC4 hD4).mono ?_; rintro e w4 ⟨rfl, hb4⟩; rw [← HBO.out]; have hbw4 := below_then hbw3 hbw3.size (below_then hbr hbr.size hb4)))
            go_ret
            exact ⟨rfl, hbw4⟩
end Go.Proofs.Ytcpabkfoalhldaa
namespace Go.Proofs.Ytcpabkfoalhldaa.fnApartOk
open Go.ChangeShapes Go.WideShapes Go.ChangeAt Go.RowKit
set_option linter.unusedSimpArgs false
set_option linter.unusedVariables false
theorem own : ownKnob Try.prog.godebug = none := by kernel_rfl
theorem laidOut : laidOutB Try.prog = true := by kernel_rfl
/-- A slice of bytes as it comes in. -/
def IsRow (k : IntKind) (w : World) (a : Option Addr) (len cap : Nat) (zs : List Int) : Prop :=
  (a = none ∧ len = 0 ∧ cap = 0 ∧ zs = []) ∨
  ∃ x, a = some x ∧ len ≤ cap ∧ cap ≤ maxLen ∧ zs.length = cap ∧ (∀ i, i < zs.length → w.cell? (x.add i) = some (.int k (zs.getD i 0))) ∧ ∀ n ∈ zs, (Lit.int k n).wf = true
theorem IsRow.bytes {w : World} {a : Option Addr} {len cap : Nat} {zs : List Int} (h : IsRow .u8 w a len cap zs) : ∃ bs : List Int, len = bs.length ∧ bs.length ≤ cap ∧ Row Kd.byte w (fun k => k < w.heap.size) a bs := by
  rcases h with ⟨rfl, rfl, rfl, rfl⟩ | ⟨x, rfl, hl, hm, hz, hc, hw⟩
  · exact ⟨[], rfl, Nat.le_refl _, Row.nil _ _ _ _⟩
  · refine ⟨zs.take len, by simp; omega, by simp; omega, by simp [maxLen] at hm ⊢; omega, fun hne => ?_⟩
    have hpos : 0 < zs.length := by
      rcases Nat.eq_zero_or_pos zs.length with h | h
      · exact absurd (List.length_eq_zero_iff.1 (by simp; omega)) hne
      · exact h
    have hlt : x.block < w.heap.size := by
      have := block_lt_of_cell (hc 0 hpos)
      rwa [block_add] at this
    refine ⟨x, rfl, hlt, hlt, fun j y hj => ?_⟩
    have hjl : j < zs.length := by
      have := (List.getElem?_eq_some_iff.1 hj).1
      simp at this; omega
    have hy : zs[j]? = some y := by
      rw [List.getElem?_take] at hj
      split at hj
      · exact hj
      · cases hj
    have hcj := hc j hjl
    rw [List.getD_eq_getElem?_getD, hy, Option.getD_some] at hcj
    have hwj := hw y (List.mem_of_getElem? hy)
    refine ⟨_, ⟨rfl, ?_⟩, fun i u hu => ?_⟩
    · simp [Lit.wf] at hwj
      exact hwj
    · match i with
      | 0 => simp at hu; subst hu; simpa [Kd.byte] using hcj
      | i + 1 => simp at hu
set_option maxRecDepth 100000 in
theorem lifted (os : Os) (started : os.Started) (H : Type) (enc : TypeId × Value → H) :
    ReturnsInHanded {} Try.checked os 7 .any (Rows.fnApartOkSpec.pre6 enc Try.prog Try.f7 Rows.fnApartOkRow.domain false) (Rows.fnApartOkSpec.post enc Try.prog Try.f7 false true false false) := by
  refine returnsInHanded_of_change_sized (C := Try.checked) own started (by kernel_rfl) Try.func7
    (ChangeSpec.witness6 (enc := enc) (C := Try.checked) false ⟨#[], #[.slice none 0 0], []⟩ 8 (by kernel_rfl) (by kernel_rfl) (by kernel_rfl) (by kernel_rfl)) ?_
  intro W base args ds gs before hval0 hW hcnd hsz0 _
  have hval : ∀ (j : Nat) t v, Try.f7.params[j]? = some t → args[j]? = some v → Value.okWide Try.prog W .any base t v := hval0
  have hW' := hW
  obtain ⟨p, q, hA0, hV, rfl, hfz, hnd⟩ := hW
  have hA : DataW.TrodAll enc Try.prog W 0 (fun _ => true) true Try.f7.params.toList args.toList ds p := hA0
  rw [Try.params7] at hA hval
  obtain ⟨v0, vs0, d0, ds0, p0, q0, hargs, rfl, rfl, h0, r0⟩ := trodAll_cons hA
  obtain ⟨rfl, rfl, rfl⟩ := trodAll_nil r0
  obtain rfl : args = #[v0] := by cases args; simp_all
  obtain ⟨rfl, rfl⟩ := trodVars_none hV
  obtain ⟨a0, len0, cap0, rfl⟩ := okWide_slice Try.underlying22 (hval 0 22 v0 rfl rfl)
  have k0 := h0
  have lt0 : ∀ x ∈ p0, x.block < W.heap.size := by obtain ⟨m, hm⟩ := k0; exact DataW.trod_lt m _ _ _ hm
  obtain ⟨z0, w0⟩ : ∃ zs, IsRow .u8 W a0 len0 cap0 zs := by
    obtain ⟨fuel, hf⟩ := h0
    rcases open_ints Try.underlying22 Try.underlying5 (by kernel_rfl) hf with ⟨hcs, _⟩ | ⟨x, l, c, zs, hcs, _, hl, hm, hz, hx, hcell, hwz⟩
    · simp [Value.cells] at hcs
      obtain ⟨rfl, rfl, rfl⟩ := hcs
      exact ⟨[], .inl ⟨rfl, rfl, rfl, rfl⟩⟩
    · simp [Value.cells] at hcs
      obtain ⟨rfl, rfl, rfl⟩ := hcs
      exact ⟨zs, .inr ⟨_, rfl, hl, hm, by simpa using hz, hcell, hwz⟩⟩
  obtain ⟨bs, rfl, hbc, hrow⟩ := w0.bytes
  clear hA0 hval0 hsz0
  refine (fnApartOk_calls bs a0 cap0 W (fun k => k < W.heap.size) hrow (fun k hk => hk) hbc).mono fun e W' ⟨he, bel⟩ => ?_
  subst he
  exact ⟨_, rfl, _, _, _, [], _, [], hW', trodAll_mk1 (shut_bool Try.underlying4 _), (trodAll_cons_mk (Below.trod laidOut (by kernel_rfl) (of_decide_eq_true (by kernel_rfl)) k0 bel lt0) trodAll_mk0), rfl, bel.frame _, fun h => by cases h⟩
theorem over : Rows.fnApartOkRow.holds Try.pinned (OpenSpec.ofChange Rows.fnApartOkSpec) :=
  OpenClaim.holds_of_wide 7 Try.f7 rfl rfl rfl rfl rfl rfl rfl ⟨rfl, rfl, rfl, rfl, rfl⟩ rfl rfl rfl rfl rfl (by kernel_rfl) Try.func7 (by kernel_rfl)
    (of_decide_eq_true (by kernel_rfl)) (by unfold Func.isWrapper; first | (rw [if_pos (by decide +kernel)]; kernel_rfl) | (rw [if_neg (by decide +kernel)]; exact ⟨rfl, rfl⟩))
    (fun os started H enc _ => lifted os started H enc)
theorem proved : Rows.FnApartOkSaid := over
end Go.Proofs.Ytcpabkfoalhldaa.fnApartOk
namespace Go.Proofs.Ytcpabkfoalhldaa
/-- The statement, under a short name. -/
theorem fnApartOk_holds : Rows.FnApartOkSaid := fnApartOk.proved
end Go.Proofs.Ytcpabkfoalhldaa
