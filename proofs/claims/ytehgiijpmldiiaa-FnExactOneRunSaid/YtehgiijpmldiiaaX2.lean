/- The laws' helpers: the size of a program. -/
import Derived.Test.YtehgiijpmldiiaaX1
namespace Go.Proofs.Ytehgiijpmldiiaa
open Go.RowKit
set_option linter.unusedVariables false
set_option linter.unusedSimpArgs false

set_option maxHeartbeats 2000000 in
set_option maxRecDepth 100000 in
theorem szActS_calls (xs : List Act) (A : Option Addr) (c : Nat) (left : Int) (w : World) (S : Nat → Prop) (h0 : 0 ≤ left) (h1 : left ≤ 1048576) (hA : Row kAct w S A xs) :
    Calls Try.prog 67 #[.slice A xs.length c, .int .i64 left] w fun e w' => e = .returned (.int .i64 (dec left (sizeOf1 xs))) ∧ Below w.heap.size w w' := by
  have hn := hA.1
  have hw := IntWalk.i64_in (left - xs.length) (by omega)
  by_cases h : (xs.length : Int) ≤ left
  rotate_left
  · have h2 : left - (xs.length : Int) < 0 := by omega
    have h3 := tot_pos sizeAct xs sizeAct_pos
    rw [dec_no (by unfold sizeOf1; omega)]
    clear h h0 h1 hn h3
    go_enter Try.func67, Try.ntmps67
    go_wp2
    go_ret
    exact ⟨rfl, Below.refl _ _⟩
  · have h2 : ¬ left - (xs.length : Int) < 0 := by omega
    have HB := Lib.hid (And.intro h0 (And.intro h1 h))
    clear h h0 h1
    go_enter Try.func67, Try.ntmps67
    go_wp2
    go_loopw [1, 5] (fun l i wr => ∃ k : Nat, k ≤ xs.length ∧ i = .int .i64 k ∧ l = .int .i64 (left - xs.length - tot sizeAct (xs.take k)) ∧ Hid (0 ≤ left - xs.length - tot sizeAct (xs.take k)) ∧ Below w.heap.size w wr) (fun _ i _ => xs.length - (intOf i).toNat)
    case atStart => exact ⟨0, Nat.zero_le _, rfl, by simp [tot], by unfold Hid; simp [tot]; have := HB.out; omega, Below.refl _ _⟩
    case round =>
      obtain ⟨k, hk, rfl, rfl, HP, hbr⟩ := hrel
      by_cases hlt : k < xs.length
      · obtain ⟨ad, D, cd, E, ce, rfl, hl2, k0, k1, k2, k3, hcd, hce, hD, hE, hi1, hi2⟩ := at_act (hA.belowAll hbr) hlt
        have x1 : (k : Int) < xs.length := by omega
        have x3 : (0 : Int) ≤ k := by omega
        have hs := tot_snoc sizeAct xs k hlt
        have hp := tot_pos sizeAct (xs.take k) sizeAct_pos
        have hq := tot_le sizeAct xs (k + 1) sizeAct_pos
        have HS := Lib.hid (And.intro hs (And.intro hp hq))
        generalize hL : left - (xs.length : Int) - tot sizeAct (xs.take k) = L
        rw [hL] at HP
        have HLL := Lib.hid hL
        have hL1 : L ≤ 1048576 := by have := HB.out; omega
        clear hs hp hq hL
        by_cases he : sizeAct xs[k] ≤ L
        · have e1 := dec_ok he
          have h4 : ¬ L - sizeAct xs[k] < 0 := by omega
          have HE := Lib.hid e1
          have HH := Lib.hid he
          clear e1 he
          go_wp2_with (go_at_call 98; refine (szAct_calls _ _ xs[k].deeds.length xs[k].kids.length _ _ _ _ L _ HP hL1 hD.1 hE.1).mono ?_; rintro e w1 ⟨rfl, hb1⟩; rw [show dec L ((xs[k].deeds.length : Int) + xs[k].kids.length) = dec L (sizeAct xs[k]) from rfl, HE.out])
          go_roundw
          case rel => exact ⟨k + 1, by omega, by go_num, by have := HS.out.1; have := HLL.out; first | omega | (rw [HS.out.1]; congr 1; omega), by unfold Hid; have := HS.out.1; have := HLL.out; have := HH.out; omega, below_then hbr hbr.size hb1⟩
          case measure => simp [intOf]; omega
        · have e1 := dec_no he
          have e3 : dec left (sizeOf1 xs) = -1 := dec_no (by have := HS.out; have := HLL.out; unfold sizeOf1; omega)
          have HE := Lib.hid (And.intro e1 e3)
          clear e1 e3 he
          go_wp2_with (go_at_call 98; refine (szAct_calls _ _ xs[k].deeds.length xs[k].kids.length _ _ _ _ L _ HP hL1 hD.1 hE.1).mono ?_; rintro e w1 ⟨rfl, hb1⟩; rw [show dec L ((xs[k].deeds.length : Int) + xs[k].kids.length) = dec L (sizeAct xs[k]) from rfl, HE.out.1])
          go_ret
          exact ⟨ret_int HE.out.2.symm, below_then hbr hbr.size hb1⟩
      · have e0 : xs.take k = xs := List.take_of_length_le (by omega)
        have e3 : dec left (sizeOf1 xs) = left - xs.length - tot sizeAct (xs.take k) := by rw [e0]; rw [dec_ok (by have := HP; unfold Hid at this; rw [e0] at this; unfold sizeOf1; omega)]; unfold sizeOf1; omega
        have HE := Lib.hid e3
        clear e3 e0
        go_wp2
        go_ret
        exact ⟨ret_int HE.out.symm, hbr⟩
set_option maxHeartbeats 2000000 in
set_option maxRecDepth 100000 in
theorem szActSS_calls (xs : List (List Act)) (A : Option Addr) (c : Nat) (left : Int) (w : World) (S : Nat → Prop) (h0 : 0 ≤ left) (h1 : left ≤ 1048576) (hA : Row (Kd.slice kAct) w S A xs) :
    Calls Try.prog 36 #[.slice A xs.length c, .int .i64 left] w fun e w' => e = .returned (.int .i64 (dec left (sizeOf2 xs))) ∧ Below w.heap.size w w' := by
  have hn := hA.1
  have hw := IntWalk.i64_in (left - xs.length) (by omega)
  by_cases h : (xs.length : Int) ≤ left
  rotate_left
  · have h2 : left - (xs.length : Int) < 0 := by omega
    have h3 := tot_pos sizeOf1 xs sizeOf1_pos
    rw [dec_no (by unfold sizeOf2; omega)]
    clear h h0 h1 hn h3
    go_enter Try.func36, Try.ntmps36
    go_wp2
    go_ret
    exact ⟨rfl, Below.refl _ _⟩
  · have h2 : ¬ left - (xs.length : Int) < 0 := by omega
    have HB := Lib.hid (And.intro h0 (And.intro h1 h))
    clear h h0 h1
    go_enter Try.func36, Try.ntmps36
    go_wp2
    go_loopw [1, 5] (fun l i wr => ∃ k : Nat, k ≤ xs.length ∧ i = .int .i64 k ∧ l = .int .i64 (left - xs.length - tot sizeOf1 (xs.take k)) ∧ Hid (0 ≤ left - xs.length - tot sizeOf1 (xs.take k)) ∧ Below w.heap.size w wr) (fun _ i _ => xs.length - (intOf i).toNat)
    case atStart => exact ⟨0, Nat.zero_le _, rfl, by simp [tot], by unfold Hid; simp [tot]; have := HB.out; omega, Below.refl _ _⟩
    case round =>
      obtain ⟨k, hk, rfl, rfl, HP, hbr⟩ := hrel
      by_cases hlt : k < xs.length
      · obtain ⟨ad, B, cb, rfl, hl1, hc1, hlc1, hr1⟩ := at_slice (hA.belowAll hbr) hlt
        have x1 : (k : Int) < xs.length := by omega
        have x3 : (0 : Int) ≤ k := by omega
        have hs := tot_snoc sizeOf1 xs k hlt
        have hp := tot_pos sizeOf1 (xs.take k) sizeOf1_pos
        have hq := tot_le sizeOf1 xs (k + 1) sizeOf1_pos
        have HS := Lib.hid (And.intro hs (And.intro hp hq))
        generalize hL : left - (xs.length : Int) - tot sizeOf1 (xs.take k) = L
        rw [hL] at HP
        have HLL := Lib.hid hL
        have hL1 : L ≤ 1048576 := by have := HB.out; omega
        clear hs hp hq hL
        by_cases he : sizeOf1 xs[k] ≤ L
        · have e1 := dec_ok he
          have h4 : ¬ L - sizeOf1 xs[k] < 0 := by omega
          have HE := Lib.hid e1
          have HH := Lib.hid he
          clear e1 he
          go_wp2_with (go_at_call 67; refine (szActS_calls xs[k] B cb L _ S HP hL1 hr1).mono ?_; rintro e w1 ⟨rfl, hb1⟩; rw [HE.out])
          go_roundw
          case rel => exact ⟨k + 1, by omega, by go_num, by have := HS.out.1; have := HLL.out; first | omega | (rw [HS.out.1]; congr 1; omega), by unfold Hid; have := HS.out.1; have := HLL.out; have := HH.out; omega, below_then hbr hbr.size hb1⟩
          case measure => simp [intOf]; omega
        · have e1 := dec_no he
          have e3 : dec left (sizeOf2 xs) = -1 := dec_no (by have := HS.out; have := HLL.out; unfold sizeOf2; omega)
          have HE := Lib.hid (And.intro e1 e3)
          clear e1 e3 he
          go_wp2_with (go_at_call 67; refine (szActS_calls xs[k] B cb L _ S HP hL1 hr1).mono ?_; rintro e w1 ⟨rfl, hb1⟩; rw [HE.out.1])
          go_ret
          exact ⟨ret_int HE.out.2.symm, below_then hbr hbr.size hb1⟩
      · have e0 : xs.take k = xs := List.take_of_length_le (by omega)
        have e3 : dec left (sizeOf2 xs) = left - xs.length - tot sizeOf1 (xs.take k) := by rw [e0]; rw [dec_ok (by have := HP; unfold Hid at this; rw [e0] at this; unfold sizeOf2; omega)]; unfold sizeOf2; omega
        have HE := Lib.hid e3
        clear e3 e0
        go_wp2
        go_ret
        exact ⟨ret_int HE.out.symm, hbr⟩
theorem szProg_calls (p : Prog) (A B : Option Addr) (ca cb : Nat) (left : Int) (w : World) (S : Nat → Prop) (h0 : 0 ≤ left) (h1 : left ≤ 1048576) (hA : Row Kd.int w S A p.cells) (hB : Row (Kd.slice kAct) w S B p.bodies) :
    Calls Try.prog 11 #[.agg #[.slice A p.cells.length ca, .slice B p.bodies.length cb], .int .i64 left] w fun e w' => e = .returned (.int .i64 (dec left (sizeOf3 p))) ∧ Below w.heap.size w w' := by
  have hb := fun o => bal' w o
  have hB1 := fun o => hB.belowAll (hb o)
  have hn := hA.1
  have hp2 := sizeOf2_pos p.bodies
  by_cases h : (p.cells.length : Int) ≤ left
  · by_cases h3 : sizeOf2 p.bodies ≤ left - p.cells.length
    · have h4 : ¬ left - (p.cells.length : Int) - sizeOf2 p.bodies < 0 := by omega
      have h2 : ¬ left - (p.cells.length : Int) < 0 := by omega
      have e1 := dec_ok h
      have e2 := dec_ok h3
      have e3 : dec left (sizeOf3 p) = left - p.cells.length - sizeOf2 p.bodies := by unfold sizeOf3; rw [dec_ok (by omega)]; omega
      rw [e3]
      have HE := Lib.hid (And.intro e1 e2)
      have H0 := Lib.hid (show 0 ≤ left ∧ 0 ≤ left - (p.cells.length : Int) ∧ left - (p.cells.length : Int) ≤ 1048576 by omega)
      clear h h3 e1 e2 e3 h0 hp2
      go_enter Try.func11, Try.ntmps11
      go_wp2_with (first | (go_at_call 35; refine (szIntS_calls _ p.cells.length _ left _ H0.out.1 h1 hn).mono ?_; rintro e w' ⟨rfl, rfl⟩; rw [HE.out.1]) | (go_at_call 36; refine (szActSS_calls p.bodies _ _ (left - p.cells.length) _ S H0.out.2.1 H0.out.2.2 (hB1 _)).mono ?_; rintro e w1 ⟨rfl, hb1⟩; rw [HE.out.2]))
      go_ret
      exact ⟨rfl, below_then (hb _) (by simp) hb1⟩
    · have h2 : ¬ left - (p.cells.length : Int) < 0 := by omega
      have e1 := dec_ok h
      have e2 := dec_no h3
      have e3 : dec left (sizeOf3 p) = -1 := dec_no (by unfold sizeOf3; omega)
      rw [e3]
      have HE := Lib.hid (And.intro e1 e2)
      have H0 := Lib.hid (show 0 ≤ left ∧ 0 ≤ left - (p.cells.length : Int) ∧ left - (p.cells.length : Int) ≤ 1048576 by omega)
      clear h h3 e1 e2 e3 h0 hp2
      go_enter Try.func11, Try.ntmps11
      go_wp2_with (first | (go_at_call 35; refine (szIntS_calls _ p.cells.length _ left _ H0.out.1 h1 hn).mono ?_; rintro e w' ⟨rfl, rfl⟩; rw [HE.out.1]) | (go_at_call 36; refine (szActSS_calls p.bodies _ _ (left - p.cells.length) _ S H0.out.2.1 H0.out.2.2 (hB1 _)).mono ?_; rintro e w1 ⟨rfl, hb1⟩; rw [HE.out.2]))
      go_ret
      exact ⟨rfl, below_then (hb _) (by simp) hb1⟩
  · have e1 := dec_no h
    have e3 : dec left (sizeOf3 p) = -1 := dec_no (by unfold sizeOf3; omega)
    rw [e3]
    have HE := Lib.hid e1
    clear h e1 e3 hp2
    go_enter Try.func11, Try.ntmps11
    go_wp2_with (go_at_call 35; refine (szIntS_calls _ p.cells.length _ left _ h0 h1 hn).mono ?_; rintro e w' ⟨rfl, rfl⟩; rw [HE.out])
    go_ret
    exact ⟨rfl, hb _⟩
end Go.Proofs.Ytehgiijpmldiiaa
