/- The laws' helpers: what is equal is found equal. -/
import Derived.Test.YtehgiijpmldiiaaX2
import Derived.Deep.RegionHeld3
import Derived.Deep.DrawnRows
namespace Go.Proofs.Ytehgiijpmldiiaa
open Go.RowKit
set_option linter.unusedVariables false
set_option linter.unusedSimpArgs false
attribute [local go_sem ↓] Go.wp_at_zero Go.wp_at_succ

theorem bal2' (w : World) (o1 o2 : Obj) : Below w.heap.size w ((w.alloc o1).alloc o2) := (bal' w o1).alloc (by simp) o2
theorem World.alloc2_first (w : World) (o1 o2 : Obj) : ((w.alloc o1).alloc o2).heap[w.heap.size]? = some o1 := (Below.heap_alloc (w.alloc o1) o2 w.heap.size (by simp)).trans (heap_alloc_new w o1)
theorem heap_new2' (w : World) (o1 o2 : Obj) : ((w.alloc o1).alloc o2).heap[w.heap.size + 1]? = some o2 := by
  have := heap_alloc_new (w.alloc o1) o2
  simpa using this
theorem eqDeed_calls (k a b : Int) (w : World) : Calls Try.prog 138 #[.agg #[.int .i64 k, .int .i64 a, .int .i64 b], .agg #[.int .i64 k, .int .i64 a, .int .i64 b]] w fun e w' => e = .returned (.bool true) ∧ Below w.heap.size w w' := by
  have hb := fun o1 o2 => bal2' w o1 o2
  go_enter Try.func138, Try.ntmps138
  go_wp2
  go_ret
  exact ⟨rfl, hb _ _⟩
set_option maxHeartbeats 2000000 in
set_option maxRecDepth 100000 in
theorem eqDeedS_calls (xs : List Deed) (A A2 : Option Addr) (c c2 : Nat) (w : World) (S S2 : Nat → Prop) (hA : Row kDeed w S A xs) (hB : Row kDeed w S2 A2 xs) :
    Calls Try.prog 129 #[.slice A xs.length c, .slice A2 xs.length c2] w fun e w' => e = .returned (.bool true) ∧ Below w.heap.size w w' := by
  have hn := hA.1
  have hne : ((xs.length : Int) != xs.length) = false := by simp
  go_enter Try.func129, Try.ntmps129
  go_wp2
  go_loopw [5] (fun i wr => ∃ k : Nat, k ≤ xs.length ∧ i = .int .i64 k ∧ Below w.heap.size w wr) (fun i _ => xs.length - (intOf i).toNat)
  case atStart => exact ⟨0, Nat.zero_le _, rfl, Below.refl _ _⟩
  case round =>
    obtain ⟨k, hk, rfl, hbr⟩ := hrel
    by_cases hlt : k < xs.length
    · obtain ⟨ad, rfl, hl1, p0, p1, p2, _, _, _⟩ := at_deed (hA.belowAll hbr) hlt
      obtain ⟨ae, rfl, hl2, q0, q1, q2, _, _, _⟩ := at_deed (hB.belowAll hbr) hlt
      have x1 : (k : Int) < xs.length := by omega
      have x3 : (0 : Int) ≤ k := by omega
      go_wp2
      go_region_held3 (fun w' => w'.cell? (ad.add (k * 3)) = some (.int .i64 xs[k].kind) ∧ w'.cell? ⟨(ad.add (k * 3)).block, (ad.add (k * 3)).off + 1, none⟩ = some (.int .i64 xs[k].a) ∧ w'.cell? ⟨(ad.add (k * 3)).block, (ad.add (k * 3)).off + 2, none⟩ = some (.int .i64 xs[k].b) ∧ w'.cell? (ae.add (k * 3)) = some (.int .i64 xs[k].kind) ∧ w'.cell? ⟨(ae.add (k * 3)).block, (ae.add (k * 3)).off + 1, none⟩ = some (.int .i64 xs[k].a) ∧ w'.cell? ⟨(ae.add (k * 3)).block, (ae.add (k * 3)).off + 2, none⟩ = some (.int .i64 xs[k].b)) (first | (go_keep; done) | exact ⟨p0, p1, p2, q0, q1, q2⟩ | exact ⟨y0, y1, y2, y3, y4, y5⟩) (first | (go_at_call 138; refine (eqDeed_calls _ _ _ _).mono ?_; rintro e w1 ⟨rfl, hb1⟩; have y0 := (hb1.cell (p := (ad.add (k * 3))) (by first | exact hl1 | (rw [block_add]; exact hl1) | (show (Addr.block _) < _; rw [block_add]; exact hl1))).trans p0; have y1 := (hb1.cell (p := ⟨(ad.add (k * 3)).block, (ad.add (k * 3)).off + 1, none⟩) (by first | exact hl1 | (rw [block_add]; exact hl1) | (show (Addr.block _) < _; rw [block_add]; exact hl1))).trans p1; have y2 := (hb1.cell (p := ⟨(ad.add (k * 3)).block, (ad.add (k * 3)).off + 2, none⟩) (by first | exact hl1 | (rw [block_add]; exact hl1) | (show (Addr.block _) < _; rw [block_add]; exact hl1))).trans p2; have y3 := (hb1.cell (p := (ae.add (k * 3))) (by first | exact hl2 | (rw [block_add]; exact hl2) | (show (Addr.block _) < _; rw [block_add]; exact hl2))).trans q0; have y4 := (hb1.cell (p := ⟨(ae.add (k * 3)).block, (ae.add (k * 3)).off + 1, none⟩) (by first | exact hl2 | (rw [block_add]; exact hl2) | (show (Addr.block _) < _; rw [block_add]; exact hl2))).trans q1; have y5 := (hb1.cell (p := ⟨(ae.add (k * 3)).block, (ae.add (k * 3)).off + 2, none⟩) (by first | exact hl2 | (rw [block_add]; exact hl2) | (show (Addr.block _) < _; rw [block_add]; exact hl2))).trans q2))
      all_goals
        go_wp2
        go_roundw
        case rel => exact ⟨k + 1, by omega, by go_num, below_then hbr hbr.size (Below.trans (Below.drew (Below.refl _ _)) hb1)⟩
        case measure => simp [intOf]; omega
    · go_wp2
      go_ret
      exact ⟨rfl, hbr⟩
set_option maxHeartbeats 1000000 in
theorem eqAct_calls (x : Act) (A B A2 B2 : Option Addr) (c d c2 d2 : Nat) (w : World) (S S2 : Nat → Prop) (hA : Row kDeed w S A x.deeds) (hA2 : Row kDeed w S2 A2 x.deeds) (hB : Row Kd.int w S B x.kids) (hB2 : Row Kd.int w S2 B2 x.kids) :
    Calls Try.prog 100 #[.agg #[.int .i64 x.kind, .slice A x.deeds.length c, .slice B x.kids.length d, .int .i64 x.reg], .agg #[.int .i64 x.kind, .slice A2 x.deeds.length c2, .slice B2 x.kids.length d2, .int .i64 x.reg]] w fun e w' => e = .returned (.bool true) ∧ Below w.heap.size w w' := by
  have hb := fun o1 o2 => bal2' w o1 o2
  have HA := fun o1 o2 => Lib.hid (hA.belowAll (hb o1 o2))
  have HA2 := fun o1 o2 => Lib.hid (hA2.belowAll (hb o1 o2))
  have HB := fun o1 o2 => Lib.hid (hB.belowAll (hb o1 o2))
  have HB2 := fun o1 o2 => Lib.hid (hB2.belowAll (hb o1 o2))
  have hx1 := fun o1 o2 => World.alloc2_first w o1 o2
  clear hA hA2 hB hB2
  go_enter Try.func100, Try.ntmps100
  go_wp2_with (first | (go_at_call 129; refine (eqDeedS_calls x.deeds _ _ _ _ _ S S2 (HA _ _).out (HA2 _ _).out).mono ?_; rintro e w1 ⟨rfl, hb1⟩; have z1 := hb1.size; (try simp at z1); have f1 := (hb1.block w.heap.size (by simp; omega)).trans (hx1 _ _); have f2 := (hb1.block (w.heap.size + 1) (by simp)).trans (heap_new2' w _ _); have g1 := cell_of_row _ _ 2 _ _ _ f1; have g2 := cell_of_row _ _ 3 _ _ _ f1; have g3 := cell_of_row _ _ 2 _ _ _ f2; have g4 := cell_of_row _ _ 3 _ _ _ f2; simp at g1 g2 g3 g4) | (go_at_call 13; refine (eqIntS_calls x.kids x.kids _ _ _ _ _ S S2 ((HB _ _).out.belowAll hb1) ((HB2 _ _).out.belowAll hb1)).mono ?_; rintro e w2 ⟨rfl, hb2⟩; have k1 := (hb2.block w.heap.size (by omega)).trans f1; have k2 := (hb2.block (w.heap.size + 1) (by omega)).trans f2; have j1 := cell_of_row _ _ 3 _ _ _ k1; have j2 := cell_of_row _ _ 3 _ _ _ k2; simp at j1 j2; have hE : decide (x.kids = x.kids) = true := decide_eq_true rfl; rw [hE]))
  go_ret
  exact ⟨rfl, below_then (below_then (hb _ _) (by simp; omega) hb1) (by omega) hb2⟩
set_option maxHeartbeats 2000000 in
set_option maxRecDepth 100000 in
theorem eqActS_calls (xs : List Act) (A A2 : Option Addr) (c c2 : Nat) (w : World) (S S2 : Nat → Prop) (hA : Row kAct w S A xs) (hB : Row kAct w S2 A2 xs) :
    Calls Try.prog 69 #[.slice A xs.length c, .slice A2 xs.length c2] w fun e w' => e = .returned (.bool true) ∧ Below w.heap.size w w' := by
  have hn := hA.1
  have hne : ((xs.length : Int) != xs.length) = false := by simp
  go_enter Try.func69, Try.ntmps69
  go_wp2
  go_loopw [5] (fun i wr => ∃ k : Nat, k ≤ xs.length ∧ i = .int .i64 k ∧ Below w.heap.size w wr) (fun i _ => xs.length - (intOf i).toNat)
  case atStart => exact ⟨0, Nat.zero_le _, rfl, Below.refl _ _⟩
  case round =>
    obtain ⟨k, hk, rfl, hbr⟩ := hrel
    by_cases hlt : k < xs.length
    · obtain ⟨ad, D, cd, E, ce, rfl, hl1, p0, p1, p2, p3, _, _, hD, hE, _, _⟩ := at_act (hA.belowAll hbr) hlt
      obtain ⟨ae, D2, cd2, E2, ce2, rfl, hl2, q0, q1, q2, q3, _, _, hD2, hE2, _, _⟩ := at_act (hB.belowAll hbr) hlt
      have x1 : (k : Int) < xs.length := by omega
      have x3 : (0 : Int) ≤ k := by omega
      go_wp2
      go_region_held3 (fun w' => w'.cell? (ad.add (k * 4)) = some (.int .i64 xs[k].kind) ∧ w'.cell? ⟨(ad.add (k * 4)).block, (ad.add (k * 4)).off + 1, none⟩ = some (.slice D xs[k].deeds.length cd) ∧ w'.cell? ⟨(ad.add (k * 4)).block, (ad.add (k * 4)).off + 2, none⟩ = some (.slice E xs[k].kids.length ce) ∧ w'.cell? ⟨(ad.add (k * 4)).block, (ad.add (k * 4)).off + 3, none⟩ = some (.int .i64 xs[k].reg) ∧ w'.cell? (ae.add (k * 4)) = some (.int .i64 xs[k].kind) ∧ w'.cell? ⟨(ae.add (k * 4)).block, (ae.add (k * 4)).off + 1, none⟩ = some (.slice D2 xs[k].deeds.length cd2) ∧ w'.cell? ⟨(ae.add (k * 4)).block, (ae.add (k * 4)).off + 2, none⟩ = some (.slice E2 xs[k].kids.length ce2) ∧ w'.cell? ⟨(ae.add (k * 4)).block, (ae.add (k * 4)).off + 3, none⟩ = some (.int .i64 xs[k].reg)) (first | (go_keep; done) | exact ⟨p0, p1, p2, p3, q0, q1, q2, q3⟩ | exact ⟨y0, y1, y2, y3, y4, y5, y6, y7⟩) (first | (go_at_call 100; refine (eqAct_calls xs[k] _ _ _ _ _ _ _ _ _ S S2 (Row.drewN hD 1) (Row.drewN hD2 1) (Row.drewN hE 1) (Row.drewN hE2 1)).mono ?_; rintro e w1 ⟨rfl, hb1⟩; have y0 := (hb1.cell (p := (ad.add (k * 4))) (by first | exact hl1 | (rw [block_add]; exact hl1) | (show (Addr.block _) < _; rw [block_add]; exact hl1))).trans p0; have y1 := (hb1.cell (p := ⟨(ad.add (k * 4)).block, (ad.add (k * 4)).off + 1, none⟩) (by first | exact hl1 | (rw [block_add]; exact hl1) | (show (Addr.block _) < _; rw [block_add]; exact hl1))).trans p1; have y2 := (hb1.cell (p := ⟨(ad.add (k * 4)).block, (ad.add (k * 4)).off + 2, none⟩) (by first | exact hl1 | (rw [block_add]; exact hl1) | (show (Addr.block _) < _; rw [block_add]; exact hl1))).trans p2; have y3 := (hb1.cell (p := ⟨(ad.add (k * 4)).block, (ad.add (k * 4)).off + 3, none⟩) (by first | exact hl1 | (rw [block_add]; exact hl1) | (show (Addr.block _) < _; rw [block_add]; exact hl1))).trans p3; have y4 := (hb1.cell (p := (ae.add (k * 4))) (by first | exact hl2 | (rw [block_add]; exact hl2) | (show (Addr.block _) < _; rw [block_add]; exact hl2))).trans q0; have y5 := (hb1.cell (p := ⟨(ae.add (k * 4)).block, (ae.add (k * 4)).off + 1, none⟩) (by first | exact hl2 | (rw [block_add]; exact hl2) | (show (Addr.block _) < _; rw [block_add]; exact hl2))).trans q1; have y6 := (hb1.cell (p := ⟨(ae.add (k * 4)).block, (ae.add (k * 4)).off + 2, none⟩) (by first | exact hl2 | (rw [block_add]; exact hl2) | (show (Addr.block _) < _; rw [block_add]; exact hl2))).trans q2; have y7 := (hb1.cell (p := ⟨(ae.add (k * 4)).block, (ae.add (k * 4)).off + 3, none⟩) (by first | exact hl2 | (rw [block_add]; exact hl2) | (show (Addr.block _) < _; rw [block_add]; exact hl2))).trans q3))
      all_goals
        go_wp2
        go_roundw
        case rel => exact ⟨k + 1, by omega, by go_num, below_then hbr hbr.size (Below.trans (Below.drew (Below.refl _ _)) hb1)⟩
        case measure => simp [intOf]; omega
    · go_wp2
      go_ret
      exact ⟨rfl, hbr⟩
set_option maxHeartbeats 2000000 in
set_option maxRecDepth 100000 in
theorem eqActSS_calls (xs : List (List Act)) (A A2 : Option Addr) (c c2 : Nat) (w : World) (S S2 : Nat → Prop) (hA : Row (Kd.slice kAct) w S A xs) (hB : Row (Kd.slice kAct) w S2 A2 xs) :
    Calls Try.prog 39 #[.slice A xs.length c, .slice A2 xs.length c2] w fun e w' => e = .returned (.bool true) ∧ Below w.heap.size w w' := by
  have hn := hA.1
  have hne : ((xs.length : Int) != xs.length) = false := by simp
  go_enter Try.func39, Try.ntmps39
  go_wp2
  go_loopw [5] (fun i wr => ∃ k : Nat, k ≤ xs.length ∧ i = .int .i64 k ∧ Below w.heap.size w wr) (fun i _ => xs.length - (intOf i).toNat)
  case atStart => exact ⟨0, Nat.zero_le _, rfl, Below.refl _ _⟩
  case round =>
    obtain ⟨k, hk, rfl, hbr⟩ := hrel
    by_cases hlt : k < xs.length
    · obtain ⟨ad, B, cb, rfl, hl1, p0, _, hr1⟩ := at_slice (hA.belowAll hbr) hlt
      obtain ⟨ae, B2, cb2, rfl, hl2, q0, _, hr2⟩ := at_slice (hB.belowAll hbr) hlt
      have x1 : (k : Int) < xs.length := by omega
      have x3 : (0 : Int) ≤ k := by omega
      go_wp2
      go_region_held3 (fun w' => w'.cell? (ad.add k) = some (.slice B xs[k].length cb) ∧ w'.cell? (ae.add k) = some (.slice B2 xs[k].length cb2)) (first | (go_keep; done) | exact ⟨p0, q0⟩ | exact ⟨y0, y1⟩) (first | (go_at_call 69; refine (eqActS_calls xs[k] _ _ _ _ _ S S2 (Row.drewN hr1 1) (Row.drewN hr2 1)).mono ?_; rintro e w1 ⟨rfl, hb1⟩; have y0 := (hb1.cell (p := (ad.add k)) (by first | exact hl1 | (rw [block_add]; exact hl1) | (show (Addr.block _) < _; rw [block_add]; exact hl1))).trans p0; have y1 := (hb1.cell (p := (ae.add k)) (by first | exact hl2 | (rw [block_add]; exact hl2) | (show (Addr.block _) < _; rw [block_add]; exact hl2))).trans q0))
      all_goals
        go_wp2
        go_roundw
        case rel => exact ⟨k + 1, by omega, by go_num, below_then hbr hbr.size (Below.trans (Below.drew (Below.refl _ _)) hb1)⟩
        case measure => simp [intOf]; omega
    · go_wp2
      go_ret
      exact ⟨rfl, hbr⟩
set_option maxHeartbeats 1000000 in
theorem eqProg_calls (p : Prog) (A B A2 B2 : Option Addr) (c d c2 d2 : Nat) (w : World) (S S2 : Nat → Prop) (hA : Row Kd.int w S A p.cells) (hA2 : Row Kd.int w S2 A2 p.cells) (hB : Row (Kd.slice kAct) w S B p.bodies) (hB2 : Row (Kd.slice kAct) w S2 B2 p.bodies) :
    Calls Try.prog 14 #[.agg #[.slice A p.cells.length c, .slice B p.bodies.length d], .agg #[.slice A2 p.cells.length c2, .slice B2 p.bodies.length d2]] w fun e w' => e = .returned (.bool true) ∧ Below w.heap.size w w' := by
  have hb := fun o1 o2 => bal2' w o1 o2
  have HA := fun o1 o2 => Lib.hid (hA.belowAll (hb o1 o2))
  have HA2 := fun o1 o2 => Lib.hid (hA2.belowAll (hb o1 o2))
  have HB := fun o1 o2 => Lib.hid (hB.belowAll (hb o1 o2))
  have HB2 := fun o1 o2 => Lib.hid (hB2.belowAll (hb o1 o2))
  have hx1 := fun o1 o2 => World.alloc2_first w o1 o2
  clear hA hA2 hB hB2
  go_enter Try.func14, Try.ntmps14
  go_wp2_with (first | (go_at_call 13; refine (eqIntS_calls p.cells p.cells _ _ _ _ _ S S2 (HA _ _).out (HA2 _ _).out).mono ?_; rintro e w1 ⟨rfl, hb1⟩; have z1 := hb1.size; (try simp at z1); have f1 := (hb1.block w.heap.size (by simp; omega)).trans (hx1 _ _); have f2 := (hb1.block (w.heap.size + 1) (by simp)).trans (heap_new2' w _ _); have g1 := cell_of_row _ _ 1 _ _ _ f1; have g3 := cell_of_row _ _ 1 _ _ _ f2; simp at g1 g3; have hE : decide (p.cells = p.cells) = true := decide_eq_true rfl; rw [hE]) | (go_at_call 39; refine (eqActSS_calls p.bodies _ _ _ _ _ S S2 ((HB _ _).out.belowAll hb1) ((HB2 _ _).out.belowAll hb1)).mono ?_; rintro e w2 ⟨rfl, hb2⟩))
  go_ret
  exact ⟨rfl, below_then (below_then (hb _ _) (by simp; omega) hb1) (by omega) hb2⟩
end Go.Proofs.Ytehgiijpmldiiaa
