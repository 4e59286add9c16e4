/- The program does a change at once: where all is in form. The program's look at acts. The program's word on a program. The program's word on a program: all of it. The program does a body act by act. The program's OneRun. Shapes of a program's copy; what a run leaves is as long as the cells were; sizes. A program of the call's own: its rows, marks over it. Programs as they come in: a struct's data opened to rows. Contracts of Go's library, laid at this program: slices.BinarySearch, slices.Insert at ints. Rows of numbers of the call's own, by twos: append onto them; what stays as it was meanwhile. -/
import Derived.Deep.RegionHeld3
import Derived.Deep.Slices
import Derived.Deep.Fields
import Derived.ChangeSame
import Derived.ChangeSlices
import Derived.Lib.SmallJoins
import Derived.Ground.Names2Prog
import Derived.Shelf.Slices.SearchI
import Derived.Shelf.Slices.Empties
import Derived.Shelf.Spec.SlicesInsert
import Derived.Shelf.Spec.SlicesInsertGrow
import Derived.Test.YtcpabkfoalhldaaProg
import Derived.Test.YtcpabkfoalhldaaQc
namespace Go.Proofs.Ytcpabkfoalhldaa
open Go.RowKit
set_option linter.unusedVariables false
set_option linter.unusedSimpArgs false

set_option maxHeartbeats 4000000 in
set_option maxRecDepth 100000 in
theorem implChangeDo_good (cells regs : List Int) (deeds : List Deed) (A B D : Option Addr) (ca cb cd : Nat) (w : World) (S : Nat → Prop) (hA : Row Kd.int w S A cells) (hB : Row Kd.int w S B regs) (hD : Row kDeed w S D deeds) (hok : deskOk cells regs deeds = true) :
    Calls Try.prog 91 #[.slice A cells.length ca, .slice B regs.length cb, .slice D deeds.length cd] w fun e w' => ResCDi (doDeeds (cells, regs) deeds) w.heap.size e w' ∧ Below w.heap.size w w' := by
  have hm := hA.1
  have hm3 := hD.1
  have hdesk := deskOk_desk hok
  have hok' := hok
  simp only [deskOk, Bool.and_eq_true, decide_eq_true_eq] at hok'
  obtain ⟨⟨h1, h2⟩, h3, h4⟩ := hok'
  have H1 := Lib.hid h1
  have H2 := Lib.hid h2
  have H3 := Lib.hid h3
  have H4 := Lib.hid h4
  have h5 : ((regs.length : Int) != 3) = false := by simp [h4]
  have HDK := Lib.hid hdesk
  have hcl := hdesk.2.2.2
  have hrl : regs.length ≤ 3 := by omega
  have hdl := hdesk.2.2.1
  clear h1 h2 h3 h4 hok hdesk
  go_enter Try.func91, Try.ntmps91
  go_wp2_with (first | (go_at_call 88; refine (changeOk_calls deeds _ _ _ _ S hD (by omega)).mono ?_; rintro e w1 ⟨rfl, hb1⟩; rw [H1.out]) | (go_at_call 60; with_reducible refine (allNums_calls cells _ _ _ S (hA.belowAll hb1)).mono ?_; rintro e w' ⟨rfl, rfl⟩; rw [H2.out]) | (go_at_call 60; refine (allNums_calls regs _ _ _ S (hB.belowAll hb1)).mono ?_; rintro e w' ⟨rfl, rfl⟩; rw [H3.out]) | (go_at_call 65; with_reducible refine (cloneInt_calls cells _ _ _ S (hA.belowAll hb1) (by omega)).mono ?_; rintro e w2 ⟨vc, rfl, hoc, hbc⟩; obtain ⟨Ac, cc, rfl, hcc, hrowc⟩ := OwnI.row hoc; clear hrowc) | (go_at_call 65; refine (cloneInt_calls regs _ _ _ S ((hB.belowAll hb1).belowAll hbc) (by omega)).mono ?_; rintro e w3 ⟨vr, rfl, hor, hbr3⟩; obtain ⟨gr, cr, rfl, hgr1, hgr2⟩ := OwnI.place hor (by have := H4.out; omega)) | (go_at_call 112; refine (does_calls _).mono ?_; rintro e w4 ⟨rfl, hb4⟩; unfold doesV fnV))
  have hwd : ∀ o, DeskAt (w3.alloc (Obj.cells #[.slice Ac cells.length cc, .slice (some ⟨gr, 0, none⟩) regs.length cr] o)) w.heap.size w3.heap.size (.slice Ac cells.length cc) (.slice (some ⟨gr, 0, none⟩) regs.length cr) cells regs := by
    intro o
    have hc3 : OwnI 3 w3 w.heap.size (.slice Ac cells.length cc) cells := (hoc.lower hb1.size).belowAll hbr3
    have hr3 : OwnI 3 w3 w.heap.size (.slice (some ⟨gr, 0, none⟩) regs.length cr) regs := hor.lower (by have := hb1.size; have := hbc.size; omega)
    refine ⟨by simp [go_sem], by simp [go_sem], hc3.al _, hr3.al _, fun k hk => ⟨by have := (hc3.blk k hk).2; omega, fun e => ?_⟩, fun k hk => by have := (hr3.blk k hk).2; omega, by simp⟩
    have := (hoc.blk k hk).2
    have := (hor.blk k e).1
    omega
  have hd4 := (hwd 131).keep (Keep.of_belowAll (fun _ => False) hb4) (fun h => h) (fun _ _ h => h) (fun _ _ h => h)
  have hB4 : Below w.heap.size w w4 := below_then (below_then (below_then hb1 hb1.size hbc) (by have := hb1.size; have := hbc.size; omega) hbr3 |>.alloc (by have := hb1.size; have := hbc.size; have := hbr3.size; omega) _) (by have := hb1.size; have := hbc.size; have := hbr3.size; simp; omega) hb4
  obtain ⟨W5, HW5⟩ : ∃ W5, W5 = w4.alloc (Obj.cells #[fnV 130, fnV 131, fnV 132, fnV 133, fnV 134, fnV 135] 133) := ⟨_, rfl⟩
  have hk5 : Keep (fun _ => False) w4 W5 := by rw [HW5]; exact (Keep.refl _ _).alloc _
  have hd5 := hd4.keep hk5 (fun h => h) (fun _ _ h => h) (fun _ _ h => h)
  have har5 : ∀ (i : Nat) (f : Value), [fnV 130, fnV 131, fnV 132, fnV 133, fnV 134, fnV 135][i]? = some f → W5.cell? ⟨w4.heap.size, i, none⟩ = some f := by
    intro i f h
    rw [HW5]; simp [go_sem]; exact h
  have hz5 : w4.heap.size < W5.heap.size := by rw [HW5]; simp
  have hB5 : Below w.heap.size w W5 := by rw [HW5]; exact hB4.alloc hB4.size _
  unfold fnV at HW5
  rw [← HW5]
  have HAR := Lib.hid har5
  have HZ5 := Lib.hid hz5
  have HD5 := Lib.hid hd5
  have hcz : ∀ k, Value.ownBlock (.slice Ac cells.length cc) = some k → w.heap.size ≤ k := fun k hk => (hd5.C.blk k hk).1
  have hrz : w.heap.size ≤ gr := (hd5.R.blk gr rfl).1
  have hne4 : (∀ k, Value.ownBlock (.slice Ac cells.length cc) = some k → k ≠ w4.heap.size) ∧ gr ≠ w4.heap.size := ⟨fun k hk => by have := (hd4.C.blk k hk).2; omega, by have := (hd4.R.blk gr rfl).2; omega⟩
  have HCZ := Lib.hid hcz
  have HNE := Lib.hid hne4
  clear HW5 hwd hd4 har5 hz5 hcz hne4 hk5
  go_loopw [41] (fun i wr => ∃ (k : Nat) (c r : List Int), k ≤ deeds.length ∧ i = .int .i64 k ∧ Hid (doDeeds (cells, regs) (deeds.take k) = some (c, r)) ∧ DeskAt wr w.heap.size w3.heap.size (.slice Ac cells.length cc) (.slice (some ⟨gr, 0, none⟩) regs.length cr) c r ∧ Keep (fun k => Value.ownBlock (.slice Ac cells.length cc) = some k ∨ Value.ownBlock (.slice (some ⟨gr, 0, none⟩) regs.length cr) = some k) W5 wr) (fun i _ => deeds.length - (intOf i).toNat)
  case atStart => exact ⟨0, cells, regs, Nat.zero_le _, rfl, by simp [Hid, doDeeds], hd5, Keep.refl _ _⟩
  case round =>
    obtain ⟨k, c, r, hk, rfl, HA, hda, hkr⟩ := hrel
    have hdk : Desk cells.length (c, r) := (HDK.out).1.deeds (by
      have := (HDK.out).2.1
      rw [List.all_eq_true] at this ⊢
      exact fun x hx => this x (List.mem_of_mem_take hx)) HA.out
    have hke : ∀ w7, Keep (fun k => Value.ownBlock (.slice Ac cells.length cc) = some k ∨ Value.ownBlock (.slice (some ⟨gr, 0, none⟩) regs.length cr) = some k) wr w7 → Keep (fun k => Value.ownBlock (.slice Ac cells.length cc) = some k ∨ Value.ownBlock (.slice (some ⟨gr, 0, none⟩) regs.length cr) = some k) W5 w7 := fun w7 h => hkr.trans h
    have hfin : ∀ w7, Keep (fun k => Value.ownBlock (.slice Ac cells.length cc) = some k ∨ Value.ownBlock (.slice (some ⟨gr, 0, none⟩) regs.length cr) = some k) wr w7 → Below w.heap.size w w7 := fun w7 h =>
      hB5.trans ((hke w7 h).below (fun q hq e => by
        rcases e with e | e
        · have := HCZ.out q e; omega
        · simp [Value.ownBlock] at e; omega) hB5.size)
    by_cases hlt : k < deeds.length
    · have hlar : w4.heap.size < wr.heap.size := Nat.lt_of_lt_of_le HZ5.out hkr.size
      have har : ∀ (i : Nat) (f : Value), [fnV 130, fnV 131, fnV 132, fnV 133, fnV 134, fnV 135][i]? = some f → wr.cell? ⟨w4.heap.size, i, none⟩ = some f := fun i f h =>
        (hkr.cell (p := ⟨w4.heap.size, i, none⟩) HZ5.out (fun e => by
          rcases e with e | e
          · exact HNE.out.1 _ e rfl
          · simp [Value.ownBlock] at e; exact HNE.out.2 e)).trans (HAR.out i f h)
      have hDr : Row kDeed wr S D deeds := hD.belowAll (by have := hfin wr (Keep.refl _ _); exact ⟨this.os, this.tape, this.output, this.size, this.block⟩)
      obtain ⟨ad, rfl, hl, hc1, hc2, hc4, hi1, hi2, hi3⟩ := at_deed hDr hlt
      have hdo : deedOk deeds[k] cells.length = true := by
        have := (HDK.out).2.1
        rw [List.all_eq_true] at this
        exact this _ (List.getElem_mem hlt)
      clear hDr
      rcases deedOk_kinds hdo with ⟨hkd, ha, hb⟩ | ⟨hkd, ha, hb⟩ | ⟨hkd, ha, hb⟩ | ⟨hkd, ha, hb⟩ | ⟨hkd, ha, hb⟩
      · obtain ⟨x, hx⟩ : ∃ x : Nat, deeds[k].a = (x : Int) := ⟨deeds[k].a.toNat, by omega⟩
        obtain ⟨y, hy⟩ : ∃ y : Nat, deeds[k].b = (y : Int) := ⟨deeds[k].b.toNat, by omega⟩
        rw [hkd] at hc1
        rw [hx] at hc2 ha
        rw [hy] at hc4 hb
        have he : deeds[k] = ⟨1, x, y⟩ := by
          cases hdq : deeds[k] with | mk a b c => rw [hdq] at hkd hx hy; simp at hkd hx hy; rw [hkd, hx, hy]
        have HE := Lib.hid he
        clear hkd hx hy he
        go_wp2
        obtain ⟨W6, HW⟩ : ∃ W6, W6 = wr.alloc (Obj.cells #[.int .i64 1, .int .i64 (x : Nat), .int .i64 (y : Nat)] 63) := ⟨_, rfl⟩
        have hk6 : Keep (fun _ => False) wr W6 := by rw [HW]; exact (Keep.refl _ _).alloc _
        have d0 : W6.cell? ⟨wr.heap.size, 0, none⟩ = some (.int .i64 1) := by rw [HW]; simp [go_sem]
        have d1 : W6.cell? ⟨wr.heap.size, 1, none⟩ = some (.int .i64 (x : Nat)) := by rw [HW]; simp [go_sem]
        have d2 : W6.cell? ⟨wr.heap.size, 2, none⟩ = some (.int .i64 (y : Nat)) := by rw [HW]; simp [go_sem]
        have dar := (hk6.cell (p := ⟨w4.heap.size, 1, none⟩) hlar (fun h => h)).trans (har 1 _ rfl)
        have hdw0 := hda.keep hk6 (fun h => h) (fun _ _ h => h) (fun _ _ h => h)
        have hdw := hdw0.keep (T := fun _ => False) ((Keep.refl _ W6).drewN 1) (fun h => h) (fun _ _ h => h) (fun _ _ h => h)
        rw [← HW]
        clear HW
        unfold fnV at dar
        go_still_tail 5, (by kernel_rfl)
        cases hdd : doDeed (c, r) ⟨1, x, y⟩
        · have HDD := Lib.hid hdd
          clear hdd
          go_wp2_with (go_at_call 131; refine (does2 hdw hdk x y (by omega) (by omega) hcl).mono ?_; rw [HDD.out]; rintro e w7 ⟨hk7, rfl, hd7⟩)
          go_ret3
          refine ⟨?_, hfin _ ((hk6.drewN 1).mono (fun _ h => h.elim) |>.trans hk7)⟩
          have : doDeeds (cells, regs) deeds = none := by
            refine doDeeds_none _ _ k hlt ?_
            rw [doDeeds_take _ _ _ hlt, HA.out, HE.out]; exact HDD.out
          rw [this]
          exact rfl
        · rename_i cr'
          have HDD := Lib.hid hdd
          clear hdd
          go_wp2_with (go_at_call 131; refine (does2 hdw hdk x y (by omega) (by omega) hcl).mono ?_; rw [HDD.out]; rintro e w7 ⟨hk7, rfl, hd7⟩)
          go_roundw
          case rel => exact ⟨k + 1, cr'.1, cr'.2, by omega, by go_num, by unfold Hid; rw [doDeeds_take _ _ _ hlt, HA.out, HE.out]; exact HDD.out, hd7, hke _ ((hk6.drewN 1).mono (fun _ h => h.elim) |>.trans hk7)⟩
          case measure => simp [intOf]; omega
      · obtain ⟨x, hx⟩ : ∃ x : Nat, deeds[k].a = (x : Int) := ⟨deeds[k].a.toNat, by omega⟩
        obtain ⟨y, hy⟩ : ∃ y : Nat, deeds[k].b = (y : Int) := ⟨deeds[k].b.toNat, by omega⟩
        rw [hkd] at hc1
        rw [hx] at hc2 ha
        rw [hy] at hc4 hb
        have he : deeds[k] = ⟨2, x, y⟩ := by
          cases hdq : deeds[k] with | mk a b c => rw [hdq] at hkd hx hy; simp at hkd hx hy; rw [hkd, hx, hy]
        have HE := Lib.hid he
        clear hkd hx hy he
        go_wp2
        obtain ⟨W6, HW⟩ : ∃ W6, W6 = wr.alloc (Obj.cells #[.int .i64 2, .int .i64 (x : Nat), .int .i64 (y : Nat)] 63) := ⟨_, rfl⟩
        have hk6 : Keep (fun _ => False) wr W6 := by rw [HW]; exact (Keep.refl _ _).alloc _
        have d0 : W6.cell? ⟨wr.heap.size, 0, none⟩ = some (.int .i64 2) := by rw [HW]; simp [go_sem]
        have d1 : W6.cell? ⟨wr.heap.size, 1, none⟩ = some (.int .i64 (x : Nat)) := by rw [HW]; simp [go_sem]
        have d2 : W6.cell? ⟨wr.heap.size, 2, none⟩ = some (.int .i64 (y : Nat)) := by rw [HW]; simp [go_sem]
        have dar := (hk6.cell (p := ⟨w4.heap.size, 2, none⟩) hlar (fun h => h)).trans (har 2 _ rfl)
        have hdw0 := hda.keep hk6 (fun h => h) (fun _ _ h => h) (fun _ _ h => h)
        have hdw := hdw0.keep (T := fun _ => False) ((Keep.refl _ W6).drewN 1) (fun h => h) (fun _ _ h => h) (fun _ _ h => h)
        rw [← HW]
        clear HW
        unfold fnV at dar
        go_still_tail 5, (by kernel_rfl)
        cases hdd : doDeed (c, r) ⟨2, x, y⟩
        · have HDD := Lib.hid hdd
          clear hdd
          go_wp2_with (go_at_call 132; refine (does3 hdw hdk x y (by omega) (by omega) hcl).mono ?_; rw [HDD.out]; rintro e w7 ⟨hk7, rfl, hd7⟩)
          go_ret3
          refine ⟨?_, hfin _ ((hk6.drewN 1).mono (fun _ h => h.elim) |>.trans hk7)⟩
          have : doDeeds (cells, regs) deeds = none := by
            refine doDeeds_none _ _ k hlt ?_
            rw [doDeeds_take _ _ _ hlt, HA.out, HE.out]; exact HDD.out
          rw [this]
          exact rfl
        · rename_i cr'
          have HDD := Lib.hid hdd
          clear hdd
          go_wp2_with (go_at_call 132; refine (does3 hdw hdk x y (by omega) (by omega) hcl).mono ?_; rw [HDD.out]; rintro e w7 ⟨hk7, rfl, hd7⟩)
          go_roundw
          case rel => exact ⟨k + 1, cr'.1, cr'.2, by omega, by go_num, by unfold Hid; rw [doDeeds_take _ _ _ hlt, HA.out, HE.out]; exact HDD.out, hd7, hke _ ((hk6.drewN 1).mono (fun _ h => h.elim) |>.trans hk7)⟩
          case measure => simp [intOf]; omega
      · obtain ⟨x, hx⟩ : ∃ x : Nat, deeds[k].a = (x : Int) := ⟨deeds[k].a.toNat, by omega⟩
        obtain ⟨y, hy⟩ : ∃ y : Nat, deeds[k].b = (y : Int) := ⟨deeds[k].b.toNat, by omega⟩
        rw [hkd] at hc1
        rw [hx] at hc2 ha
        rw [hy] at hc4 hb
        have he : deeds[k] = ⟨3, x, y⟩ := by
          cases hdq : deeds[k] with | mk a b c => rw [hdq] at hkd hx hy; simp at hkd hx hy; rw [hkd, hx, hy]
        have HE := Lib.hid he
        clear hkd hx hy he
        go_wp2
        obtain ⟨W6, HW⟩ : ∃ W6, W6 = wr.alloc (Obj.cells #[.int .i64 3, .int .i64 (x : Nat), .int .i64 (y : Nat)] 63) := ⟨_, rfl⟩
        have hk6 : Keep (fun _ => False) wr W6 := by rw [HW]; exact (Keep.refl _ _).alloc _
        have d0 : W6.cell? ⟨wr.heap.size, 0, none⟩ = some (.int .i64 3) := by rw [HW]; simp [go_sem]
        have d1 : W6.cell? ⟨wr.heap.size, 1, none⟩ = some (.int .i64 (x : Nat)) := by rw [HW]; simp [go_sem]
        have d2 : W6.cell? ⟨wr.heap.size, 2, none⟩ = some (.int .i64 (y : Nat)) := by rw [HW]; simp [go_sem]
        have dar := (hk6.cell (p := ⟨w4.heap.size, 3, none⟩) hlar (fun h => h)).trans (har 3 _ rfl)
        have hdw0 := hda.keep hk6 (fun h => h) (fun _ _ h => h) (fun _ _ h => h)
        have hdw := hdw0.keep (T := fun _ => False) ((Keep.refl _ W6).drewN 1) (fun h => h) (fun _ _ h => h) (fun _ _ h => h)
        rw [← HW]
        clear HW
        unfold fnV at dar
        go_still_tail 5, (by kernel_rfl)
        cases hdd : doDeed (c, r) ⟨3, x, y⟩
        · have HDD := Lib.hid hdd
          clear hdd
          go_wp2_with (go_at_call 133; refine (does4 hdw hdk x y (by omega) (by omega) hcl).mono ?_; rw [HDD.out]; rintro e w7 ⟨hk7, rfl, hd7⟩)
          go_ret3
          refine ⟨?_, hfin _ ((hk6.drewN 1).mono (fun _ h => h.elim) |>.trans hk7)⟩
          have : doDeeds (cells, regs) deeds = none := by
            refine doDeeds_none _ _ k hlt ?_
            rw [doDeeds_take _ _ _ hlt, HA.out, HE.out]; exact HDD.out
          rw [this]
          exact rfl
        · rename_i cr'
          have HDD := Lib.hid hdd
          clear hdd
          go_wp2_with (go_at_call 133; refine (does4 hdw hdk x y (by omega) (by omega) hcl).mono ?_; rw [HDD.out]; rintro e w7 ⟨hk7, rfl, hd7⟩)
          go_roundw
          case rel => exact ⟨k + 1, cr'.1, cr'.2, by omega, by go_num, by unfold Hid; rw [doDeeds_take _ _ _ hlt, HA.out, HE.out]; exact HDD.out, hd7, hke _ ((hk6.drewN 1).mono (fun _ h => h.elim) |>.trans hk7)⟩
          case measure => simp [intOf]; omega
      · obtain ⟨x, hx⟩ : ∃ x : Nat, deeds[k].a = (x : Int) := ⟨deeds[k].a.toNat, by omega⟩
        obtain ⟨y, hy⟩ : ∃ y : Nat, deeds[k].b = (y : Int) := ⟨deeds[k].b.toNat, by omega⟩
        rw [hkd] at hc1
        rw [hx] at hc2 ha
        rw [hy] at hc4 hb
        have he : deeds[k] = ⟨4, x, y⟩ := by
          cases hdq : deeds[k] with | mk a b c => rw [hdq] at hkd hx hy; simp at hkd hx hy; rw [hkd, hx, hy]
        have HE := Lib.hid he
        clear hkd hx hy he
        go_wp2
        obtain ⟨W6, HW⟩ : ∃ W6, W6 = wr.alloc (Obj.cells #[.int .i64 4, .int .i64 (x : Nat), .int .i64 (y : Nat)] 63) := ⟨_, rfl⟩
        have hk6 : Keep (fun _ => False) wr W6 := by rw [HW]; exact (Keep.refl _ _).alloc _
        have d0 : W6.cell? ⟨wr.heap.size, 0, none⟩ = some (.int .i64 4) := by rw [HW]; simp [go_sem]
        have d1 : W6.cell? ⟨wr.heap.size, 1, none⟩ = some (.int .i64 (x : Nat)) := by rw [HW]; simp [go_sem]
        have d2 : W6.cell? ⟨wr.heap.size, 2, none⟩ = some (.int .i64 (y : Nat)) := by rw [HW]; simp [go_sem]
        have dar := (hk6.cell (p := ⟨w4.heap.size, 4, none⟩) hlar (fun h => h)).trans (har 4 _ rfl)
        have hdw0 := hda.keep hk6 (fun h => h) (fun _ _ h => h) (fun _ _ h => h)
        have hdw := hdw0.keep (T := fun _ => False) ((Keep.refl _ W6).drewN 1) (fun h => h) (fun _ _ h => h) (fun _ _ h => h)
        rw [← HW]
        clear HW
        unfold fnV at dar
        go_still_tail 5, (by kernel_rfl)
        cases hdd : doDeed (c, r) ⟨4, x, y⟩
        · have HDD := Lib.hid hdd
          clear hdd
          go_wp2_with (go_at_call 134; refine (does5 hdw hdk x y (by omega) (by omega) hcl).mono ?_; rw [HDD.out]; rintro e w7 ⟨hk7, rfl, hd7⟩)
          go_ret3
          refine ⟨?_, hfin _ ((hk6.drewN 1).mono (fun _ h => h.elim) |>.trans hk7)⟩
          have : doDeeds (cells, regs) deeds = none := by
            refine doDeeds_none _ _ k hlt ?_
            rw [doDeeds_take _ _ _ hlt, HA.out, HE.out]; exact HDD.out
          rw [this]
          exact rfl
        · rename_i cr'
          have HDD := Lib.hid hdd
          clear hdd
          go_wp2_with (go_at_call 134; refine (does5 hdw hdk x y (by omega) (by omega) hcl).mono ?_; rw [HDD.out]; rintro e w7 ⟨hk7, rfl, hd7⟩)
          go_roundw
          case rel => exact ⟨k + 1, cr'.1, cr'.2, by omega, by go_num, by unfold Hid; rw [doDeeds_take _ _ _ hlt, HA.out, HE.out]; exact HDD.out, hd7, hke _ ((hk6.drewN 1).mono (fun _ h => h.elim) |>.trans hk7)⟩
          case measure => simp [intOf]; omega
      · obtain ⟨x, hx⟩ : ∃ x : Nat, deeds[k].a = (x : Int) := ⟨deeds[k].a.toNat, by omega⟩
        have hy := hb
        rw [hkd] at hc1
        rw [hx] at hc2 ha
        rw [hy] at hc4
        have he : deeds[k] = ⟨5, x, 0⟩ := by
          cases hdq : deeds[k] with | mk a b c => rw [hdq] at hkd hx hy; simp at hkd hx hy; rw [hkd, hx, hy]
        have HE := Lib.hid he
        clear hkd hx hy he hb
        go_wp2
        obtain ⟨W6, HW⟩ : ∃ W6, W6 = wr.alloc (Obj.cells #[.int .i64 5, .int .i64 (x : Nat), .int .i64 0] 63) := ⟨_, rfl⟩
        have hk6 : Keep (fun _ => False) wr W6 := by rw [HW]; exact (Keep.refl _ _).alloc _
        have d0 : W6.cell? ⟨wr.heap.size, 0, none⟩ = some (.int .i64 5) := by rw [HW]; simp [go_sem]
        have d1 : W6.cell? ⟨wr.heap.size, 1, none⟩ = some (.int .i64 (x : Nat)) := by rw [HW]; simp [go_sem]
        have d2 : W6.cell? ⟨wr.heap.size, 2, none⟩ = some (.int .i64 0) := by rw [HW]; simp [go_sem]
        have dar := (hk6.cell (p := ⟨w4.heap.size, 5, none⟩) hlar (fun h => h)).trans (har 5 _ rfl)
        have hdw0 := hda.keep hk6 (fun h => h) (fun _ _ h => h) (fun _ _ h => h)
        have hdw := hdw0.keep (T := fun _ => False) ((Keep.refl _ W6).drewN 1) (fun h => h) (fun _ _ h => h) (fun _ _ h => h)
        rw [← HW]
        clear HW
        unfold fnV at dar
        go_still_tail 5, (by kernel_rfl)
        cases hdd : doDeed (c, r) ⟨5, x, 0⟩
        · have HDD := Lib.hid hdd
          clear hdd
          go_wp2_with (go_at_call 135; refine (does6 hdw hdk x (by omega) hcl).mono ?_; rw [HDD.out]; rintro e w7 ⟨hk7, rfl, hd7⟩)
          go_ret3
          refine ⟨?_, hfin _ ((hk6.drewN 1).mono (fun _ h => h.elim) |>.trans hk7)⟩
          have : doDeeds (cells, regs) deeds = none := by
            refine doDeeds_none _ _ k hlt ?_
            rw [doDeeds_take _ _ _ hlt, HA.out, HE.out]; exact HDD.out
          rw [this]
          exact rfl
        · rename_i cr'
          have HDD := Lib.hid hdd
          clear hdd
          go_wp2_with (go_at_call 135; refine (does6 hdw hdk x (by omega) hcl).mono ?_; rw [HDD.out]; rintro e w7 ⟨hk7, rfl, hd7⟩)
          go_roundw
          case rel => exact ⟨k + 1, cr'.1, cr'.2, by omega, by go_num, by unfold Hid; rw [doDeeds_take _ _ _ hlt, HA.out, HE.out]; exact HDD.out, hd7, hke _ ((hk6.drewN 1).mono (fun _ h => h.elim) |>.trans hk7)⟩
          case measure => simp [intOf]; omega
    · have e0 := hda.c0
      have e1 := hda.c1
      go_wp2
      go_quiet (fail)
      go_wp2
      go_ret3
      refine ⟨?_, (hfin wr (Keep.refl _ _)).trans (below_drewN' (Below.refl _ _) _)⟩
      have := HA.out
      rw [List.take_of_length_le (by omega)] at this
      rw [this]
      exact ⟨_, _, rfl, hda.C.drewN _, hda.R.drewN _, fun q hq => (hda.gc q hq).2⟩
end Go.Proofs.Ytcpabkfoalhldaa
namespace Go.Proofs.Ytcpabkfoalhldaa
open Go.RowKit
set_option linter.unusedVariables false
set_option linter.unusedSimpArgs false
attribute [local go_sem] ta_loadDeed_loadDeed ta_storeDeed_loadDeed ta_numDeed_loadDeed ta_addDeed_loadDeed ta_needDeed_loadDeed ta_nil_loadDeed ta_loadDeed_storeDeed ta_storeDeed_storeDeed ta_numDeed_storeDeed ta_addDeed_storeDeed ta_needDeed_storeDeed ta_nil_storeDeed ta_loadDeed_numDeed ta_storeDeed_numDeed ta_numDeed_numDeed ta_addDeed_numDeed ta_needDeed_numDeed ta_nil_numDeed ta_loadDeed_addDeed ta_storeDeed_addDeed ta_numDeed_addDeed ta_addDeed_addDeed ta_needDeed_addDeed ta_nil_addDeed ta_loadDeed_needDeed ta_storeDeed_needDeed ta_numDeed_needDeed ta_addDeed_needDeed ta_needDeed_needDeed ta_nil_needDeed ta_tryAct_tryAct ta_forkAct_tryAct ta_failAct_tryAct ta_failIfAct_tryAct ta_nil_tryAct ta_tryAct_forkAct ta_forkAct_forkAct ta_failAct_forkAct ta_failIfAct_forkAct ta_nil_forkAct ta_tryAct_failAct ta_forkAct_failAct ta_failAct_failAct ta_failIfAct_failAct ta_nil_failAct ta_tryAct_failIfAct ta_forkAct_failIfAct ta_failAct_failIfAct ta_failIfAct_failIfAct ta_nil_failIfAct

def partAV (k : Int) (deeds : List Deed) (kids : List Int) (reg : Int) (D E : Option Addr) (cd ce : Nat) : Value :=
  if k = 1 ∧ kids = [] ∧ reg = 0 then .iface 102 (.agg #[.slice D deeds.length cd])
  else if k = 2 ∧ deeds = [] ∧ reg = 0 then .iface 105 (.agg #[.slice E kids.length ce])
  else if k = 3 ∧ deeds = [] ∧ kids = [] ∧ reg = 0 then .iface 107 (.agg #[])
  else if k = 4 ∧ deeds = [] ∧ kids = [] then .iface 109 (.agg #[.int .i64 reg])
  else .nilIface

set_option maxHeartbeats 2000000 in
set_option maxRecDepth 100000 in
theorem partOfAct_calls (k : Int) (deeds : List Deed) (kids : List Int) (reg : Int) (D E : Option Addr) (cd ce : Nat) (w : World) (hm3 : deeds.length ≤ 9223372036854775807) (hm4 : kids.length ≤ 9223372036854775807) :
    Calls Try.prog 62 #[.agg #[.int .i64 k, .slice D deeds.length cd, .slice E kids.length ce, .int .i64 reg]] w
      fun e w' => e = .returned (partAV k deeds kids reg D E cd ce) ∧ Below w.heap.size w w' := by
  by_cases hr : reg = 0 <;> rcases deeds with _ | ⟨d0, dr⟩ <;> rcases kids with _ | ⟨k0, kr⟩
  all_goals
    simp only [List.length_cons, List.length_nil] at *
    try subst hr
    go_enter Try.func62, Try.ntmps62
    go_wp2
    go_quiet (fail)
    go_wp2
    all_goals
      go_ret
      exact ⟨by simp_all [partAV], (by repeat (first | exact Below.refl _ _ | (refine Below.alloc ?_ (by simp) _) | (refine Below.setCell ?_ (by simp) _) | (refine below_drewN' ?_ _) | (refine Below.drew ?_)))⟩

set_option maxHeartbeats 2000000 in
set_option maxRecDepth 100000 in
theorem actOk_nil (c body bodies : Int) (w : World) : Calls Try.prog 61 #[.nilIface, .int .i64 c, .int .i64 body, .int .i64 bodies] w fun e w' => e = .returned (.bool false) ∧ Below w.heap.size w w' := by
  go_enter Try.func61, Try.ntmps61
  go_wp2
  go_ret
  exact ⟨rfl, (by repeat (first | exact Below.refl _ _ | (refine Below.alloc ?_ (by simp) _) | (refine Below.setCell ?_ (by simp) _) | (refine below_drewN' ?_ _) | (refine Below.drew ?_)))⟩
set_option maxHeartbeats 2000000 in
set_option maxRecDepth 100000 in
theorem actOk_fail (c body bodies : Int) (w : World) : Calls Try.prog 61 #[.iface 107 (.agg #[]), .int .i64 c, .int .i64 body, .int .i64 bodies] w fun e w' => e = .returned (.bool true) ∧ Below w.heap.size w w' := by
  go_enter Try.func61, Try.ntmps61
  go_wp2
  go_ret
  exact ⟨rfl, (by repeat (first | exact Below.refl _ _ | (refine Below.alloc ?_ (by simp) _) | (refine Below.setCell ?_ (by simp) _) | (refine below_drewN' ?_ _) | (refine Below.drew ?_)))⟩
set_option maxHeartbeats 2000000 in
set_option maxRecDepth 100000 in
theorem actOk_failIf (reg c body bodies : Int) (w : World) : Calls Try.prog 61 #[.iface 109 (.agg #[.int .i64 reg]), .int .i64 c, .int .i64 body, .int .i64 bodies] w fun e w' => e = .returned (.bool (inR reg 0 2)) ∧ Below w.heap.size w w' := by
  go_enter Try.func61, Try.ntmps61
  go_wp2_with (go_at_call 89; refine (isReg_calls _ _).mono ?_; rintro e w' ⟨rfl, rfl⟩)
  go_ret
  exact ⟨rfl, (by repeat (first | exact Below.refl _ _ | (refine Below.alloc ?_ (by simp) _) | (refine Below.setCell ?_ (by simp) _) | (refine below_drewN' ?_ _) | (refine Below.drew ?_)))⟩
set_option maxHeartbeats 2000000 in
set_option maxRecDepth 100000 in
theorem actOk_try (deeds : List Deed) (D : Option Addr) (cd : Nat) (c body bodies : Int) (w : World) (S : Nat → Prop) (hd : Row kDeed w S D deeds) (h1 : c ≤ 9223372036854775807) :
    Calls Try.prog 61 #[.iface 102 (.agg #[.slice D deeds.length cd]), .int .i64 c, .int .i64 body, .int .i64 bodies] w fun e w' => e = .returned (.bool (changeOk deeds c)) ∧ Below w.heap.size w w' := by
  have hd1 := fun o => hd.belowAll ((Below.refl _ w).alloc (Nat.le_refl _) o)
  go_enter Try.func61, Try.ntmps61
  go_wp2_with (go_at_call 88; refine (changeOk_calls deeds _ _ _ _ S (hd1 _) h1).mono ?_; rintro e w1 ⟨rfl, hb1⟩)
  go_ret
  exact ⟨rfl, ((Below.refl _ _).alloc (Nat.le_refl _) _).trans (hb1.mono (by simp))⟩
set_option maxHeartbeats 2000000 in
set_option maxRecDepth 100000 in
theorem actOk_fork (kids : List Int) (E : Option Addr) (ce : Nat) (c body bodies : Int) (w : World) (S : Nat → Prop) (hk : Row Kd.int w S E kids) :
    Calls Try.prog 61 #[.iface 105 (.agg #[.slice E kids.length ce]), .int .i64 c, .int .i64 body, .int .i64 bodies] w fun e w' => e = .returned (.bool (kidsOk kids body bodies)) ∧ Below w.heap.size w w' := by
  have hm := hk.1
  go_enter Try.func61, Try.ntmps61
  go_wp2
  obtain ⟨W2, HW⟩ : ∃ W2, W2 = w.alloc (Obj.cells #[.slice E kids.length ce] 105) := ⟨_, rfl⟩
  have hb2 : Below w.heap.size w W2 := by rw [HW]; exact (by repeat (first | exact Below.refl _ _ | (refine Below.alloc ?_ (by simp) _) | (refine Below.setCell ?_ (by simp) _) | (refine below_drewN' ?_ _) | (refine Below.drew ?_)))
  have hk2 := hk.belowAll hb2
  have c0 : W2.cell? ⟨w.heap.size, 0, none⟩ = some (.slice E kids.length ce) := by rw [HW]; simp [go_sem]
  rw [← HW]
  clear HW
  go_loop [12, 29] (fun _ i => ∃ k : Nat, k ≤ kids.length ∧ i = .int .i64 k ∧ Hid ((kids.take k).all (fun k => inR k (body + 1) (bodies - 1)) = true)) (fun _ i => kids.length - (intOf i).toNat)
  case atStart => exact ⟨0, Nat.zero_le _, rfl, by simp [Hid]⟩
  case round =>
    obtain ⟨k, hk, rfl, HA⟩ := hrel
    by_cases hlt : k < kids.length
    · obtain ⟨ad, rfl, hl, hc, hi⟩ := at_int hk2 hlt
      by_cases h1 : kids[k] ≤ body
      · go_wp2
        go_ret
        refine ⟨ret_bool ?_, hb2⟩
        rw [kidsOk, all_false_of _ _ k hlt (by simp [inR]; omega)]; rfl
      · by_cases h2 : bodies ≤ kids[k]
        · go_wp2
          go_ret
          refine ⟨ret_bool ?_, hb2⟩
          rw [kidsOk, all_false_of _ _ k hlt (by simp [inR]; omega)]; rfl
        · go_wp2
          go_round
          case rel => exact ⟨k + 1, by omega, by go_num, by unfold Hid; rw [all_take_snoc _ _ _ hlt, HA.out]; simp [inR]; omega⟩
          case measure => simp [intOf]; omega
    · have := HA.out
      rw [all_take_all _ _ _ (by omega)] at this
      have HB := Lib.hid this
      clear this
      by_cases hn : kids.length ≤ 2
      · by_cases h0 : 1 ≤ kids.length
        · go_wp2
          go_ret
          refine ⟨ret_bool ?_, hb2⟩
          rw [kidsOk, HB.out]; simp [inR]; omega
        · have h00 : kids.length < 1 := by omega
          go_wp2
          go_ret
          refine ⟨ret_bool ?_, hb2⟩
          rw [kidsOk, HB.out]; simp [inR]; omega
      · have h3 : 2 < kids.length := by omega
        go_wp2
        go_ret
        refine ⟨ret_bool ?_, hb2⟩
        rw [kidsOk, HB.out]; simp [inR]; omega
end Go.Proofs.Ytcpabkfoalhldaa
namespace Go.Proofs.Ytcpabkfoalhldaa
open Go.RowKit
set_option linter.unusedVariables false
set_option linter.unusedSimpArgs false

set_option maxHeartbeats 1000000 in
set_option maxRecDepth 100000 in
theorem treeOf_calls (p : Prog) (hf : formOk p = true) : ∀ (d : Nat) (hd : d ≤ 4) (b : Nat) (hb : b < p.bodies.length) (hbd : p.bodies.length ≤ b + d) (A B : Option Addr) (ca cb : Nat) (w : World) (S : Nat → Prop) (hB : Row (Kd.slice kAct) w S B p.bodies),
    Calls Try.prog 45 #[.agg #[.slice A p.cells.length ca, .slice B p.bodies.length cb], .int .i64 (b : Nat)] w fun e w' => e = .returned (.int .i64 (tree d p b)) ∧ Below w.heap.size w w' := by
  intro d
  induction d with
  | zero => intro _ b hb hbd; omega
  | succ d ih0 =>
    intro hd b hb hbd A B ca cb w S hB
    have ih := Lib.hid ih0
    clear ih0
    have hacts := formOk_acts hf hb
    obtain ⟨acts, HA⟩ : ∃ acts, acts = p.bodies[b] := ⟨_, rfl⟩
    have hal : acts.length ≤ 4 := by rw [HA]; exact hacts.1
    have hlen := formOk_len hf
    have hkid : ∀ (i : Nat) (hi : i < acts.length) (k : Nat) (hk : k < acts[i].kids.length), acts[i].kids.length ≤ 2 ∧ (b : Int) + 1 ≤ acts[i].kids[k] ∧ acts[i].kids[k] ≤ (p.bodies.length : Int) - 1 := by
      subst HA
      intro i hi k hk
      have := hacts.2 _ (List.getElem_mem hi)
      exact ⟨this.1, this.2 _ (List.getElem_mem hk)⟩
    have hsm : ∀ (i : Nat) (hi : i < acts.length) (k : Nat), 0 ≤ actsSum (fun k => tree d p k.toNat) (acts.take i) ∧ actsSum (fun k => tree d p k.toNat) (acts.take i) ≤ 52488 ∧ 0 ≤ sumOf (fun k => tree d p k.toNat) (acts[i].kids.take k) ∧ sumOf (fun k => tree d p k.toNat) (acts[i].kids.take k) ≤ 13122 := by
      subst HA
      intro i hi k
      exact treeSum_small hf d (by omega) b hb i k hi
    have hend : tree (d + 1) p b = 1 + actsSum (fun k => tree d p k.toNat) acts := by rw [HA, tree, getD_at _ _ _ hb]
    have HE := Lib.hid hend
    have HK := Lib.hid hkid
    have HS := Lib.hid hsm
    have hslot : Hid (p.bodies[b] = acts) := HA.symm
    have hm2 := hB.1
    obtain ⟨ad, C, cc, rfl, hl, hc, hcl, hC0⟩ := at_slice hB hb
    rw [← HA] at hc hcl hC0
    clear hacts hend hkid hsm HA
    have hma := hC0.1
    have hcW : ∀ o, (w.alloc o).cell? (ad.add b) = some (.slice C acts.length cc) := fun o => by rw [World.cell?_alloc_lt _ _ _ (by rw [block_add]; exact hl)]; exact hc
    go_enter Try.func45, Try.ntmps45
    go_wp2
    clear hcW
    obtain ⟨W2, HW⟩ : ∃ W2, W2 = w.alloc (Obj.cells #[.slice A p.cells.length ca, .slice (some ad) p.bodies.length cb] 26) := ⟨_, rfl⟩
    have hb2 : Below w.heap.size w W2 := by rw [HW]; exact (Below.refl _ _).alloc (Nat.le_refl _) _
    have hz2 : W2.heap.size = w.heap.size + 1 := by rw [HW]; simp
    have c0 : W2.cell? ⟨w.heap.size, 0, none⟩ = some (.slice A p.cells.length ca) := by rw [HW]; simp [go_sem]
    have c1 : W2.cell? ⟨w.heap.size, 1, none⟩ = some (.slice (some ad) p.bodies.length cb) := by rw [HW]; simp [go_sem]
    have hB2 := hB.belowAll hb2
    have hC2 := hC0.belowAll hb2
    rw [← HW]
    have HZ := Lib.hid hz2
    clear HW hz2 hB hC0 hc
    go_loopw [5, 16] (fun n i wr => ∃ j : Nat, j ≤ acts.length ∧ i = .int .i64 j ∧ n = .int .i64 (1 + actsSum (fun k => tree d p k.toNat) (acts.take j)) ∧ Below W2.heap.size W2 wr) (fun _ i _ => acts.length - (intOf i).toNat)
    case atStart => exact ⟨0, Nat.zero_le _, rfl, by simp [actsSum, sumOf], Below.refl _ _⟩
    case round =>
      obtain ⟨j, hj, rfl, rfl, hbr⟩ := hrel
      by_cases hlt : j < acts.length
      · obtain ⟨ad2, D, cd, E, ce, rfl, hl3, k0, k1, k2, k3, hcd, hce, hD, hE, hi1, hi2⟩ := at_act (hC2.belowAll hbr) hlt
        have hme := hE.1
        go_wp2
        obtain ⟨wo, HWO⟩ : ∃ wo : World, wo = wr.alloc (Obj.cells #[.int .i64 acts[j].kind, .slice D acts[j].deeds.length cd, .slice E acts[j].kids.length ce, .int .i64 acts[j].reg] 35) := ⟨_, rfl⟩
        have hbo : Below W2.heap.size W2 wo := by rw [HWO]; exact hbr.alloc hbr.size _
        have hEo : Row Kd.int wo S E acts[j].kids := hE.belowAll (by rw [HWO]; exact (by repeat (first | exact Below.refl _ _ | (refine Below.alloc ?_ (by simp) _) | (refine Below.setCell ?_ (by simp) _) | (refine below_drewN' ?_ _) | (refine Below.drew ?_))))
        rw [← HWO]
        clear HWO
        go_loopw [5, 23] (fun n v wr => ∃ k : Nat, k ≤ acts[j].kids.length ∧ v = .int .i64 k ∧ n = .int .i64 (1 + actsSum (fun k => tree d p k.toNat) (acts.take j) + sumOf (fun k => tree d p k.toNat) (acts[j].kids.take k)) ∧ Below wo.heap.size wo wr) (fun _ v _ => acts[j].kids.length - (intOf v).toNat)
        case atStart => exact ⟨0, Nat.zero_le _, rfl, by simp [sumOf], Below.refl _ _⟩
        case round =>
          obtain ⟨k, hk, rfl, rfl, hbj⟩ := hrel
          have hbj2 : Below W2.heap.size W2 wr := below_then hbo hbo.size hbj
          have c0j := (hbj2.cell (p := ⟨w.heap.size, 0, none⟩) (by rw [HZ.out]; simp)).trans c0
          have c1j := (hbj2.cell (p := ⟨w.heap.size, 1, none⟩) (by rw [HZ.out]; simp)).trans c1
          by_cases hlk : k < acts[j].kids.length
          · obtain ⟨ad3, rfl, hl4, hck, hik⟩ := at_int (hEo.belowAll hbj) hlk
            have hkk := HK.out j hlt k hlk
            have hss := HS.out j hlt k
            have hts := tree_small hf d acts[j].kids[k].toNat (by omega)
            obtain ⟨q, hq⟩ : ∃ q : Nat, acts[j].kids[k] = (q : Int) := ⟨acts[j].kids[k].toNat, by omega⟩
            have HQ := Lib.hid hq
            rw [hq] at hck hkk hts
            simp only [Int.toNat_natCast] at hts
            have hBq := hB2.belowAll hbj2
            clear hq
            go_wp2_with (go_at_call 45; refine (ih.out (by omega) q (by omega) (by omega) _ _ _ _ _ S hBq).mono ?_; rintro e w1 ⟨rfl, hb1⟩)
            go_roundw
            case rel =>
              refine ⟨k + 1, by omega, by go_num, ?_, below_then hbj hbj.size hb1⟩
              rw [sumOf_snoc _ _ _ hlk, HQ.out]
              exact val_int (by simp only [Int.toNat_natCast]; omega)
            case measure => simp [intOf]; omega
          · go_wp2
            go_roundw
            case rel =>
              refine ⟨j + 1, by omega, by go_num, ?_, hbj2⟩
              rw [actsSum_snoc _ _ _ hlt, sumOf_all _ _ _ (by omega)]; go_num
            case measure => simp [intOf]; omega
      · go_wp2
        go_ret
        refine ⟨?_, hb2.trans (hbr.mono (by rw [HZ.out]; omega))⟩
        exact ret_int (by rw [HE.out, actsSum_all _ _ _ (by omega)])

/-- What the program says of an act. -/
theorem actOk_part (a : Act) (D E : Option Addr) (cd ce : Nat) (c body bodies : Int) (w : World) (S : Nat → Prop) (hd : Row kDeed w S D a.deeds) (hk : Row Kd.int w S E a.kids) (h0 : 0 ≤ c) (h1 : c ≤ 3) :
    Calls Try.prog 61 #[partAV a.kind a.deeds a.kids a.reg D E cd ce, .int .i64 c, .int .i64 body, .int .i64 bodies] w fun e w' => e = .returned (.bool (actOk a c body bodies)) ∧ Below w.heap.size w w' := by
  obtain ⟨k, deeds, kids, reg⟩ := a
  by_cases k1 : k = 1 ∧ kids = [] ∧ reg = 0
  · obtain ⟨rfl, rfl, rfl⟩ := k1
    have := actOk_try deeds D cd c body bodies w S hd (by omega)
    simp only [partAV]
    refine this.mono ?_
    rintro e w' ⟨rfl, hb⟩
    refine ⟨?_, hb⟩
    simp only [actOk, changeOk, inR]
    simp [h0, h1]
  · by_cases k2 : k = 2 ∧ deeds = [] ∧ reg = 0
    · obtain ⟨rfl, rfl, rfl⟩ := k2
      have := actOk_fork kids E ce c body bodies w S hk
      simp only [partAV]
      refine this.mono ?_
      rintro e w' ⟨rfl, hb⟩
      exact ⟨by simp [actOk], hb⟩
    · by_cases k3 : k = 3 ∧ deeds = [] ∧ kids = [] ∧ reg = 0
      · obtain ⟨rfl, rfl, rfl, rfl⟩ := k3
        refine (actOk_fail c body bodies w).mono ?_
        rintro e w' ⟨rfl, hb⟩
        exact ⟨by simp [actOk], hb⟩
      · by_cases k4 : k = 4 ∧ deeds = [] ∧ kids = []
        · obtain ⟨rfl, rfl, rfl⟩ := k4
          refine (actOk_failIf reg c body bodies w).mono ?_
          rintro e w' ⟨rfl, hb⟩
          exact ⟨by simp [actOk], hb⟩
        · have hv : partAV k deeds kids reg D E cd ce = .nilIface := by simp only [partAV, if_neg k1, if_neg k2, if_neg k3, if_neg k4]
          simp only [hv]
          refine (actOk_nil c body bodies w).mono ?_
          rintro e w' ⟨rfl, hb⟩
          refine ⟨ret_bool ?_, hb⟩
          symm
          unfold actOk
          split
          · rename_i h; subst h; simp at k1; by_cases kids = [] <;> by_cases reg = 0 <;> simp_all
          · split
            · rename_i h; subst h; simp at k2; by_cases deeds = [] <;> by_cases reg = 0 <;> simp_all
            · split
              · rename_i h; subst h; simp at k3; by_cases deeds = [] <;> by_cases kids = [] <;> by_cases reg = 0 <;> simp_all
              · split
                · rename_i h; subst h; simp at k4; by_cases deeds = [] <;> by_cases kids = [] <;> simp_all
                · rfl
end Go.Proofs.Ytcpabkfoalhldaa
namespace Go.Proofs.Ytcpabkfoalhldaa
open Go.RowKit
set_option linter.unusedVariables false
set_option linter.unusedSimpArgs false

set_option maxHeartbeats 2000000 in
set_option maxRecDepth 100000 in
theorem implProgOk_calls (p : Prog) (A B : Option Addr) (ca cb : Nat) (w : World) (S : Nat → Prop) (hA : Row Kd.int w S A p.cells) (hB : Row (Kd.slice kAct) w S B p.bodies) :
    Calls Try.prog 32 #[.agg #[.slice A p.cells.length ca, .slice B p.bodies.length cb]] w fun e w' => e = .returned (.bool (progOk p)) ∧ Below w.heap.size w w' := by
  have hm1 := hA.1
  have hm2 := hB.1
  have hb1 : ∀ o, Below w.heap.size w (w.alloc o) := fun o => (Below.refl _ _).alloc (Nat.le_refl _) _
  have hA1 := fun o => hA.belowAll (hb1 o)
  by_cases hc3 : p.cells.length ≤ 3
  rotate_left
  · have hc3' : 3 < p.cells.length := by omega
    have hf : progOk p = false := by simp [progOk, formOk, hc3]
    rw [hf]
    clear hf
    go_enter Try.func32, Try.ntmps32
    go_wp2
    go_ret
    exact ⟨rfl, hb1 _⟩
  cases hn : numsOk p.cells
  · have hf : progOk p = false := by simp [progOk, formOk, hn]
    rw [hf]
    clear hf
    have HN := Lib.hid hn
    clear hn
    go_enter Try.func32, Try.ntmps32
    go_wp2_with (go_at_call 60; refine (allNums_calls _ _ _ _ S (hA1 _)).mono ?_; rintro e w' ⟨rfl, rfl⟩; rw [HN.out])
    go_ret
    exact ⟨rfl, hb1 _⟩
  by_cases hb0 : 1 ≤ p.bodies.length ∧ p.bodies.length ≤ 4
  rotate_left
  · have hf : progOk p = false := by simp [progOk, formOk, inR]; omega
    rw [hf]
    clear hf
    have HN := Lib.hid hn
    clear hn
    by_cases hb5 : p.bodies.length < 1
    · go_enter Try.func32, Try.ntmps32
      go_wp2_with (go_at_call 60; refine (allNums_calls _ _ _ _ S (hA1 _)).mono ?_; rintro e w' ⟨rfl, rfl⟩; rw [HN.out])
      go_ret
      exact ⟨rfl, hb1 _⟩
    · have hb6 : 4 < p.bodies.length := by omega
      go_enter Try.func32, Try.ntmps32
      go_wp2_with (go_at_call 60; refine (allNums_calls _ _ _ _ S (hA1 _)).mono ?_; rintro e w' ⟨rfl, rfl⟩; rw [HN.out])
      go_ret
      exact ⟨rfl, hb1 _⟩
  obtain ⟨hbl1, hbl4⟩ := hb0
  have HN := Lib.hid hn
  clear hn
  go_enter Try.func32, Try.ntmps32
  go_wp2_with (go_at_call 60; refine (allNums_calls _ _ _ _ S (hA1 _)).mono ?_; rintro e w' ⟨rfl, rfl⟩; rw [HN.out])
  obtain ⟨W2, HW⟩ : ∃ W2, W2 = w.alloc (Obj.cells #[.slice A p.cells.length ca, .slice B p.bodies.length cb] 26) := ⟨_, rfl⟩
  have hb2 : Below w.heap.size w W2 := by rw [HW]; exact hb1 _
  have hz2 : W2.heap.size = w.heap.size + 1 := by rw [HW]; simp
  have c0 : W2.cell? ⟨w.heap.size, 0, none⟩ = some (.slice A p.cells.length ca) := by rw [HW]; simp [go_sem]
  have c1 : W2.cell? ⟨w.heap.size, 1, none⟩ = some (.slice B p.bodies.length cb) := by rw [HW]; simp [go_sem]
  have hB2 := hB.belowAll hb2
  rw [← HW]
  have HZ := Lib.hid hz2
  clear HW hz2 hA1 hb1
  go_loopw [30] (fun i wr => ∃ k : Nat, k ≤ p.bodies.length ∧ i = .int .i64 k ∧ Hid ((List.range k).all (fun i => bodyOk (p.bodies.getD i []) p.cells.length i p.bodies.length) = true) ∧ Below W2.heap.size W2 wr) (fun i _ => p.bodies.length - (intOf i).toNat)
  case atStart => exact ⟨0, Nat.zero_le _, rfl, by simp [Hid], Below.refl _ _⟩
  case round =>
    obtain ⟨i, hi, rfl, HB, hbr⟩ := hrel
    have c0r := (hbr.cell (p := ⟨w.heap.size, 0, none⟩) (by rw [HZ.out]; simp)).trans c0
    have c1r := (hbr.cell (p := ⟨w.heap.size, 1, none⟩) (by rw [HZ.out]; simp)).trans c1
    by_cases hlt : i < p.bodies.length
    · obtain ⟨ad, C, cc, HBad, hl, hc, hcl, hC⟩ := at_slice (hB2.belowAll hbr) hlt
      subst HBad
      have hmc := hC.1
      by_cases hb4 : p.bodies[i].length ≤ 4
      rotate_left
      · have hb4' : 4 < p.bodies[i].length := by omega
        have hf : bodiesOk p.cells.length p.bodies = false := range_all_false _ _ i hlt (by rw [getD_at _ _ _ hlt, bodyOk, decide_eq_false hb4]; rfl)
        have HF := Lib.hid hf
        clear hf
        go_wp2
        go_ret
        refine ⟨ret_bool ?_, hb2.trans (hbr.mono (by rw [HZ.out]; omega))⟩
        simp [progOk, formOk, HF.out]
      · go_wp2
        obtain ⟨wo, rfl⟩ : ∃ wo : World, wo = wr := ⟨_, rfl⟩
        go_loopw [40] (fun v wr => ∃ j : Nat, j ≤ p.bodies[i].length ∧ v = .int .i64 j ∧ Hid ((p.bodies[i].take j).all (fun a => actOk a p.cells.length i p.bodies.length) = true) ∧ Below wo.heap.size wo wr) (fun v _ => p.bodies[i].length - (intOf v).toNat)
        case atStart => exact ⟨0, Nat.zero_le _, rfl, by simp [Hid], Below.refl _ _⟩
        case round =>
          obtain ⟨j, hj, rfl, HJ, hbj⟩ := hrel
          have hsz := hbr.size
          rw [HZ.out] at hsz
          have hbj2 : Below W2.heap.size W2 wr := below_then hbr hbr.size hbj
          have c0j := (hbj2.cell (p := ⟨w.heap.size, 0, none⟩) (by rw [HZ.out]; simp)).trans c0
          have c1j := (hbj2.cell (p := ⟨w.heap.size, 1, none⟩) (by rw [HZ.out]; simp)).trans c1
          by_cases hlj : j < p.bodies[i].length
          · obtain ⟨ad2, D, cd, E, ce, rfl, hl2, k0, k1, k2, k3, hcd, hce, hD, hE, hi1, hi2⟩ := at_act (hC.belowAll hbj) hlj
            have hmd := hD.1
            have hme := hE.1
            have hwz := hbj2.size
            rw [HZ.out] at hwz
            go_wp2
            obtain ⟨W3, HW3⟩ : ∃ W3, W3 = wr.alloc (Obj.cells #[.int .i64 p.bodies[i][j].kind, .slice D p.bodies[i][j].deeds.length cd, .slice E p.bodies[i][j].kids.length ce, .int .i64 p.bodies[i][j].reg] 35) := ⟨_, rfl⟩
            have hb3 : Below wr.heap.size wr W3 := by rw [HW3]; exact (by repeat (first | exact Below.refl _ _ | (refine Below.alloc ?_ (by simp) _) | (refine Below.setCell ?_ (by simp) _) | (refine below_drewN' ?_ _) | (refine Below.drew ?_)))
            have hz3 : wr.heap.size < W3.heap.size := by rw [HW3]; simp
            have d0 : W3.cell? ⟨wr.heap.size, 0, none⟩ = some (.int .i64 p.bodies[i][j].kind) := by rw [HW3]; simp [go_sem]
            have d1 : W3.cell? ⟨wr.heap.size, 1, none⟩ = some (.slice D p.bodies[i][j].deeds.length cd) := by rw [HW3]; simp [go_sem]
            have d2 : W3.cell? ⟨wr.heap.size, 2, none⟩ = some (.slice E p.bodies[i][j].kids.length ce) := by rw [HW3]; simp [go_sem]
            have d3 : W3.cell? ⟨wr.heap.size, 3, none⟩ = some (.int .i64 p.bodies[i][j].reg) := by rw [HW3]; simp [go_sem]
            have d4 := (hb3.cell (p := ⟨w.heap.size, 0, none⟩) (by simp; omega)).trans c0j
            have d5 := (hb3.cell (p := ⟨w.heap.size, 1, none⟩) (by simp; omega)).trans c1j
            have hD3 := hD.belowAll hb3
            have hE3 := hE.belowAll hb3
            rw [← HW3]
            clear HW3 c0j c1j c0r c1r c0 c1 k0 k1 k2 k3
            have hbw : Below W3.heap.size W3 W3.drew := (Below.refl _ _).drew
            have hbe : ∀ w1, Below W3.heap.size W3 w1 → Below wr.heap.size wr w1 := fun w1 h => hb3.trans (h.mono (by omega))
            cases ha : actOk p.bodies[i][j] p.cells.length i p.bodies.length
            all_goals
              have HA := Lib.hid ha
              clear ha
              go_region_held3 (fun w' => w'.cell? ⟨wr.heap.size, 0, none⟩ = some (.int .i64 p.bodies[i][j].kind) ∧ w'.cell? ⟨wr.heap.size, 1, none⟩ = some (.slice D p.bodies[i][j].deeds.length cd) ∧ w'.cell? ⟨wr.heap.size, 2, none⟩ = some (.slice E p.bodies[i][j].kids.length ce) ∧ w'.cell? ⟨wr.heap.size, 3, none⟩ = some (.int .i64 p.bodies[i][j].reg) ∧ w'.cell? ⟨w.heap.size, 0, none⟩ = some (.slice A p.cells.length ca) ∧ w'.cell? ⟨w.heap.size, 1, none⟩ = some (.slice (some ad) p.bodies.length cb) ∧ Below W3.heap.size W3 w') (go_keep)
                (first | (go_at_call 62; refine (partOfAct_calls _ _ _ _ _ _ _ _ _ hmd hme).mono ?_; rintro e w1 ⟨rfl, hb1⟩; have q0 := below_then ‹Below W3.heap.size W3 _› (Below.size ‹Below W3.heap.size W3 _›) hb1; have q1 := (q0.cell (p := ⟨wr.heap.size, 0, none⟩) hz3).trans d0; have q2 := (q0.cell (p := ⟨wr.heap.size, 1, none⟩) hz3).trans d1; have q3 := (q0.cell (p := ⟨wr.heap.size, 2, none⟩) hz3).trans d2; have q4 := (q0.cell (p := ⟨wr.heap.size, 3, none⟩) hz3).trans d3; have q5 := (q0.cell (p := ⟨w.heap.size, 0, none⟩) (by simp; omega)).trans d4; have q6 := (q0.cell (p := ⟨w.heap.size, 1, none⟩) (by simp; omega)).trans d5) | (go_at_call 61; refine (actOk_part p.bodies[i][j] _ _ _ _ _ _ _ _ S (Row.belowAll hD3 ‹Below W3.heap.size W3 _›) (Row.belowAll hE3 ‹Below W3.heap.size W3 _›) (by omega) (by omega)).mono ?_; rintro e w1 ⟨rfl, hb1⟩; rw [HA.out]; have q0 := below_then ‹Below W3.heap.size W3 _› (Below.size ‹Below W3.heap.size W3 _›) hb1; have q1 := (q0.cell (p := ⟨wr.heap.size, 0, none⟩) hz3).trans d0; have q2 := (q0.cell (p := ⟨wr.heap.size, 1, none⟩) hz3).trans d1; have q3 := (q0.cell (p := ⟨wr.heap.size, 2, none⟩) hz3).trans d2; have q4 := (q0.cell (p := ⟨wr.heap.size, 3, none⟩) hz3).trans d3; have q5 := (q0.cell (p := ⟨w.heap.size, 0, none⟩) (by simp; omega)).trans d4; have q6 := (q0.cell (p := ⟨w.heap.size, 1, none⟩) (by simp; omega)).trans d5))
            · obtain ⟨_, _, _, _, _, _, hbx⟩ := ‹_ ∧ _ ∧ _ ∧ _ ∧ _ ∧ _ ∧ Below W3.heap.size W3 _›
              have hf : bodiesOk p.cells.length p.bodies = false := range_all_false _ _ i hlt (by rw [getD_at _ _ _ hlt, bodyOk, all_false_of (fun a => actOk a (p.cells.length : Int) i p.bodies.length) _ j hlj HA.out]; simp)
              have HF := Lib.hid hf
              clear hf
              have hby := hbj2.trans ((hbe _ hbx).mono hbj2.size)
              go_wp2
              go_ret
              refine ⟨ret_bool ?_, hb2.trans (hby.mono (by rw [HZ.out]; omega))⟩
              simp [progOk, formOk, HF.out]
            · obtain ⟨_, _, _, _, _, _, hbx⟩ := ‹_ ∧ _ ∧ _ ∧ _ ∧ _ ∧ _ ∧ Below W3.heap.size W3 _›
              have hby := hbj.trans ((hbe _ hbx).mono hbj.size)
              go_wp2
              go_roundw
              case rel => exact ⟨j + 1, by omega, by go_num, by unfold Hid; rw [all_take_snoc _ _ _ hlj, HJ.out, HA.out]; rfl, hby⟩
              case measure => simp [intOf]; omega
          · go_wp2
            go_roundw
            case rel =>
              refine ⟨i + 1, by omega, by go_num, ?_, hbj2⟩
              unfold Hid
              rw [range_all_succ, HB.out, getD_at _ _ _ hlt, bodyOk, decide_eq_true hb4]
              have := HJ.out
              rw [all_take_all _ _ _ (by omega)] at this
              rw [this]; rfl
            case measure => simp [intOf]; omega
    · have hb6 : Below w.heap.size w wr := hb2.trans (hbr.mono (by rw [HZ.out]; omega))
      have hF : formOk p = true := by
        obtain rfl : i = p.bodies.length := by omega
        have h1 := HB.out; have h2 := HN.out
        simp only [formOk, bodiesOk, h1, h2, decide_eq_true hc3]
        simp [inR]; omega
      have HF := Lib.hid hF
      have ht := tree_small hF 4 0 (by omega)
      clear hF
      go_wp2_with (go_at_call 45; refine (treeOf_calls p HF.out 4 (by omega) 0 (by omega) (by omega) _ _ _ _ _ S (hB2.belowAll hbr)).mono ?_; rintro e w2 ⟨rfl, hb4⟩)
      go_ret
      refine ⟨ret_bool ?_, hb6.trans (hb4.mono hb6.size)⟩
      simp [progOk, HF.out]
end Go.Proofs.Ytcpabkfoalhldaa
namespace Go.Proofs.Ytcpabkfoalhldaa
open Go.RowKit
set_option linter.unusedVariables false
set_option linter.unusedSimpArgs false

theorem implChangeDo_calls (cells regs : List Int) (deeds : List Deed) (A B D : Option Addr) (ca cb cd : Nat) (w : World) (S S1 S2 : Nat → Prop) (hA : Row Kd.int w S1 A cells) (hB : Row Kd.int w S2 B regs) (hD : Row kDeed w S D deeds) :
    Calls Try.prog 91 #[.slice A cells.length ca, .slice B regs.length cb, .slice D deeds.length cd] w fun e w' => ResCDi (changeDo cells regs deeds) w.heap.size e w' ∧ Below w.heap.size w w' := by
  have h1 := hA.mono (S' := fun _ => True) (fun _ _ => trivial)
  have h2 := hB.mono (S' := fun _ => True) (fun _ _ => trivial)
  have h3 := hD.mono (S' := fun _ => True) (fun _ _ => trivial)
  unfold changeDo
  cases h : deskOk cells regs deeds
  · exact implChangeDo_bad cells regs deeds A B D ca cb cd w _ h1 h2 h3 h
  · exact implChangeDo_good cells regs deeds A B D ca cb cd w _ h1 h2 h3 h

theorem mk3 (w : World) : (Instr.makeSlice 23 (.int .i64 3) (.int .i64 3)).run Try.prog w = .ok (.slice (some ⟨w.heap.size, 0, none⟩) 3 3) (w.alloc (.cells #[.int .i64 0, .int .i64 0, .int .i64 0] 3)) := by kernel_rfl
theorem ownI_zeros (w : World) (base : Nat) (hb : base ≤ w.heap.size) : OwnI 3 (w.alloc (.cells #[.int .i64 0, .int .i64 0, .int .i64 0] 3)) base (.slice (some ⟨w.heap.size, 0, none⟩) 3 3) [0, 0, 0] := by
  refine own_intro [[.int .i64 0], [.int .i64 0], [.int .i64 0]] ⟨rfl, .inr ⟨w.heap.size, 3, _, rfl, hb, heap_alloc_new w _, Nat.le_refl _, by simp [maxLen], rfl, rfl⟩⟩ rfl (fun k hk => hk) (fun j x hj => ?_)
  have hj3 : j < 3 := (List.getElem?_eq_some_iff.1 hj).1
  have : j = 0 ∨ j = 1 ∨ j = 2 := by omega
  rcases this with rfl | rfl | rfl <;> (simp at hj; subst hj; exact ⟨_, rfl, rfl, by decide, by decide⟩)
/-- What comes back of a body. -/
def ResOne (r : Option (List Int × Bool)) (B : Nat) (e : Ending) (w' : World) : Prop :=
  match r with
  | none => e = .returned (.tuple #[.slice none 0 0, .bool false, .bool false])
  | some (c, f) => ∃ vc, e = .returned (.tuple #[vc, .bool f, .bool true]) ∧ OwnI 3 w' B vc c

set_option maxHeartbeats 4000000 in
set_option maxRecDepth 100000 in
theorem implOneBody_calls (p : Prog) (hf : formOk p = true) : ∀ (d : Nat) (hd : d ≤ 4) (b : Nat) (hb : b < p.bodies.length) (hbd : p.bodies.length ≤ b + d) (A B : Option Addr) (ca cb : Nat) (cells : List Int) (vc : Value) (base : Nat) (w : World) (S : Nat → Prop)
    (hB : Row (Kd.slice kAct) w S B p.bodies) (hC : OwnI 3 w base vc cells) (hbw : base ≤ w.heap.size),
    Calls Try.prog 64 #[.agg #[.slice A p.cells.length ca, .slice B p.bodies.length cb], vc, .int .i64 (b : Nat)] w fun e w' => ResOne (oneBody d p cells b) base e w' ∧ Below w.heap.size w w' := by
  intro d
  induction d with
  | zero => intro _ b hb hbd; omega
  | succ d ih0 =>
    intro hd b hb hbd A B ca cb cells vc base w S hB hC hbw
    have ih := Lib.hid ih0
    clear ih0
    have hacts := formOk_acts hf hb
    obtain ⟨acts, HA⟩ : ∃ acts, acts = p.bodies[b] := ⟨_, rfl⟩
    have hal : acts.length ≤ 4 := by rw [HA]; exact hacts.1
    have hlen := formOk_len hf
    have hend : oneBody (d + 1) p cells b = runActs (fun c k => oneBody d p c k) cells [0, 0, 0] acts := by rw [HA, oneBody, getD_at _ _ _ hb]
    have HE := Lib.hid hend
    have hkid : ∀ (i : Nat) (hi : i < acts.length), actOk acts[i] p.cells.length b p.bodies.length = true := by
      subst HA
      intro i hi
      have := formOk_body hf hb
      simp only [bodyOk, Bool.and_eq_true, List.all_eq_true] at this
      exact this.2 _ (List.getElem_mem hi)
    have HK := Lib.hid hkid
    obtain ⟨ad, C, cc, rfl, hl, hc, hcl, hC0⟩ := at_slice hB hb
    rw [← HA] at hc hcl hC0
    have hma := hC0.1
    have hm2 := hB.1
    clear hacts hend hkid HA
    have hmk := mk3
    obtain ⟨Av, cv, rfl, hcv, hrowv⟩ := hC.row
    clear hrowv
    go_enter Try.func64, Try.ntmps64
    go_wp2
    go_step3
    go_wp2
    refine wp_label ?_
    obtain ⟨W2, HW⟩ : ∃ W2, W2 = (w.alloc (Obj.cells #[.slice A p.cells.length ca, .slice (some ad) p.bodies.length cb] 26)).alloc (Obj.cells #[.int .i64 0, .int .i64 0, .int .i64 0] 3) := ⟨_, rfl⟩
    have hb2 : Below w.heap.size w W2 := by rw [HW]; exact (by repeat (first | exact Below.refl _ _ | (refine Below.alloc ?_ (by simp) _) | (refine Below.setCell ?_ (by simp) _) | (refine below_drewN' ?_ _) | (refine Below.drew ?_)))
    have hz2 : W2.heap.size = w.heap.size + 2 := by rw [HW]; simp
    have c0 : W2.cell? ⟨w.heap.size, 0, none⟩ = some (.slice A p.cells.length ca) := by rw [HW]; simp [go_sem]
    have c1 : W2.cell? ⟨w.heap.size, 1, none⟩ = some (.slice (some ad) p.bodies.length cb) := by rw [HW]; simp [go_sem]
    have hr2 : OwnI 3 W2 base (.slice (some ⟨w.heap.size + 1, 0, none⟩) 3 3) [0, 0, 0] := by
      have := ownI_zeros (w.alloc (Obj.cells #[.slice A p.cells.length ca, .slice (some ad) p.bodies.length cb] 26)) base (by simp; omega)
      rw [HW]; simpa using this
    have hcv2 : OwnI 3 W2 base (.slice Av cells.length cv) cells := hC.belowAll hb2
    have hB2 := hB.belowAll hb2
    have hC2 := hC0.belowAll hb2
    have hcc2 := (hb2.cell (p := ad.add b) (by rw [block_add]; exact hl)).trans hc
    rw [← HW]
    have HZ := Lib.hid hz2
    clear HW hz2 hB hC0 hc hC
    have hend2 : ∀ wr, Below w.heap.size w wr → ∀ (vC : Value) (c : List Int) (f : Bool), oneBody (d + 1) p cells b = some (c, f) → OwnI 3 wr base vC c → ResOne (oneBody (d + 1) p cells b) base (.returned (.tuple #[vC, .bool f, .bool true])) wr ∧ Below w.heap.size w wr := by
      intro wr h1 vC c f h2 h3
      rw [h2]; exact ⟨⟨_, rfl, h3⟩, h1⟩
    have hend3 : ∀ wr, Below w.heap.size w wr → oneBody (d + 1) p cells b = none → ResOne (oneBody (d + 1) p cells b) base (.returned (.tuple #[.slice none 0 0, .bool false, .bool false])) wr ∧ Below w.heap.size w wr := by
      intro wr h1 h2
      rw [h2]; exact ⟨rfl, h1⟩
    have HE2 := Lib.hid hend2
    have HE3 := Lib.hid hend3
    clear hend2 hend3
    go_wp2
    go_loopw [1, 9, 10, 28] (fun vC vR vF vI wr => ∃ (j : Nat) (c r : List Int) (Ac Ar : Option Addr) (cc cr : Nat), j ≤ acts.length ∧ vI = .int .i64 j ∧ vF = .bool false ∧ vC = .slice Ac c.length cc ∧ vR = .slice Ar 3 cr ∧ Hid (r.length = 3) ∧ OwnI 3 wr base (.slice Ac c.length cc) c ∧ OwnI 3 wr base (.slice Ar 3 cr) r ∧ Hid (oneBody (d + 1) p cells b = runActs (fun c k => oneBody d p c k) c r (acts.drop j)) ∧ Below W2.heap.size W2 wr) (fun _ _ _ vI _ => acts.length - (intOf vI).toNat)
    case atStart => exact ⟨0, cells, [0, 0, 0], Av, _, cv, 3, Nat.zero_le _, rfl, rfl, rfl, rfl, rfl, hcv2, hr2, by unfold Hid; rw [HE.out]; rfl, Below.refl _ _⟩
    case round =>
      obtain ⟨j, c, r, Ac, Ar, cc2, cr, hj, rfl, rfl, rfl, rfl, HR3, hoC, hoR, HA, hbr⟩ := hrel
      have hbw2 : Below w.heap.size w wr := hb2.trans (hbr.mono (by rw [HZ.out]; omega))
      have c0r := (hbr.cell (p := ⟨w.heap.size, 0, none⟩) (by rw [HZ.out]; simp)).trans c0
      have c1r := (hbr.cell (p := ⟨w.heap.size, 1, none⟩) (by rw [HZ.out]; simp)).trans c1
      by_cases hlt : j < acts.length
      · obtain ⟨ad2, D, cd, E, ce, rfl, hl3, k0, k1, k2, k3, hcd, hce, hD, hE, hi1, hi2⟩ := at_act (hC2.belowAll hbr) hlt
        have hdrop : acts.drop j = acts[j] :: acts.drop (j + 1) := List.drop_eq_getElem_cons hlt
        have HD := Lib.hid hdrop
        clear hdrop
        have hme := hE.1
        have hmd := hD.1
        rcases actOk_kinds (HK.out j hlt) with hk | ⟨hk, hkl, hkk⟩ | hk | ⟨hk, hg1, hg2⟩
        · -- a change
          have hal2 : ∀ o, Below wr.heap.size wr (wr.alloc o) := fun o => (by repeat (first | exact Below.refl _ _ | (refine Below.alloc ?_ (by simp) _) | (refine Below.setCell ?_ (by simp) _) | (refine below_drewN' ?_ _) | (refine Below.drew ?_)))
          have hDa := fun o => hD.belowAll (hal2 o)
          obtain ⟨Ac', cc', e1, _, hrC⟩ := hoC.row
          injection e1 with e1 e2 e3
          subst e1; subst e3
          have hoR' := hoR
          obtain ⟨Ar', cr', e1, _, hrR⟩ := hoR'.row
          injection e1 with e1 e2 e3
          subst e1; subst e3
          have hrCa := fun o => hrC.belowAll (hal2 o)
          have hrRa := fun o => hrR.belowAll (hal2 o)
          rw [hk] at k0
          have hstep : runActs (fun c k => oneBody d p c k) c r (acts.drop j) = match changeDo c r acts[j].deeds with | none => none | some (c', r') => runActs (fun c k => oneBody d p c k) c' r' (acts.drop (j + 1)) := by
            rw [HD.out]; simp only [runActs, hk, if_pos]; cases changeDo c r acts[j].deeds with | none => rfl | some x => rfl
          have HST := Lib.hid hstep
          have HKK := Lib.hid hk
          have h3 := implChangeDo_calls c r acts[j].deeds Ac Ar D cc2 cr cd
          rw [HR3.out] at h3
          have H3 := Lib.hid h3
          clear hstep hk h3 e2
          cases hdo : changeDo c r acts[j].deeds with
          | none =>
            have HDO := Lib.hid hdo
            clear hdo
            go_wp2_with (go_at_call 91; refine (H3.out _ _ _ _ (hrCa _) (hrRa _) (hDa _)).mono ?_; rw [HDO.out]; rintro e w3 ⟨rfl, hb3⟩)
            rw [Exit.noGoto_ret]
            go_ret3
            exact HE3.out _ (hbw2.trans ((hal2 _).trans (hb3.mono (by simp)) |>.mono hbw2.size)) (by rw [HA.out, HST.out, HDO.out])
          | some x =>
            obtain ⟨c', r'⟩ := x
            have HDO := Lib.hid hdo
            have hdk := changeDo_desk hdo
            have hr3 : r'.length = 3 := hdk.rl
            have HR4 := Lib.hid hr3
            clear hdo hdk hr3
            go_wp2_with (go_at_call 91; refine (H3.out _ _ _ _ (hrCa _) (hrRa _) (hDa _)).mono ?_; rw [HDO.out]; rintro e w3 ⟨⟨vC, vR, rfl, ho1, ho2, _⟩, hb3⟩; obtain ⟨A1, n1, rfl, _, hq1⟩ := ho1.row; obtain ⟨A2, n2, rfl, _, hq2⟩ := ho2.row; clear hq1 hq2)
            have hb5 : Below wr.heap.size wr w3 := (hal2 _).trans (hb3.mono (by simp))
            go_roundw
            case rel =>
              rw [HR4.out] at ho2 ⊢
              exact ⟨j + 1, c', r', A1, A2, n1, n2, by omega, by go_num, rfl, rfl, rfl, HR4.out, ho1.lower (by have := hbw2.size; simp; omega), ho2.lower (by have := hbw2.size; simp; omega), by unfold Hid; rw [HA.out, HST.out, HDO.out], below_then hbr hbr.size hb5⟩
            case measure => simp [intOf]; omega
        · -- a fork
          rw [hk] at k0
          have hstep : runActs (fun c k => oneBody d p c k) c r (acts.drop j) = match runKids (fun c k => oneBody d p c k) c acts[j].kids with | none => none | some (c, true) => some (c, true) | some (c, false) => runActs (fun c k => oneBody d p c k) c r (acts.drop (j + 1)) := by
            rw [HD.out]; simp only [runActs, hk]; rfl
          have HST := Lib.hid hstep
          have HKK := Lib.hid hkk
          clear hstep hk hkk
          go_wp2
          obtain ⟨wo, HWO⟩ : ∃ wo : World, wo = wr.alloc (Obj.cells #[.int .i64 2, .slice D acts[j].deeds.length cd, .slice E acts[j].kids.length ce, .int .i64 acts[j].reg] 35) := ⟨_, rfl⟩
          have hbo : Below W2.heap.size W2 wo := by rw [HWO]; exact hbr.alloc hbr.size _
          have hwo : Below wr.heap.size wr wo := by rw [HWO]; exact (by repeat (first | exact Below.refl _ _ | (refine Below.alloc ?_ (by simp) _) | (refine Below.setCell ?_ (by simp) _) | (refine below_drewN' ?_ _) | (refine Below.drew ?_)))
          have hEo : Row Kd.int wo S E acts[j].kids := hE.belowAll hwo
          have hoCo := hoC.belowAll hwo
          have hoRo := hoR.belowAll hwo
          have hbw0 : Below w.heap.size w wo := hbw2.trans (hwo.mono hbw2.size)
          rw [← HWO]
          clear HWO hwo
          go_loopw [1, 10, 58] (fun vC vF vI wr => ∃ (q : Nat) (c' : List Int) (A1 : Option Addr) (n1 : Nat), q ≤ acts[j].kids.length ∧ vI = .int .i64 q ∧ vF = .bool false ∧ vC = .slice A1 c'.length n1 ∧ OwnI 3 wr base (.slice A1 c'.length n1) c' ∧ Hid (runKids (fun c k => oneBody d p c k) c acts[j].kids = runKids (fun c k => oneBody d p c k) c' (acts[j].kids.drop q)) ∧ Below wo.heap.size wo wr) (fun _ _ vI _ => acts[j].kids.length - (intOf vI).toNat)
          case atStart => exact ⟨0, c, Ac, _, Nat.zero_le _, rfl, rfl, rfl, hoCo, rfl, Below.refl _ _⟩
          case round =>
            obtain ⟨q, c', A1, n1, hq, rfl, rfl, rfl, hoC', HKD, hbq⟩ := hrel
            have hbq2 : Below W2.heap.size W2 wr := below_then hbo hbo.size hbq
            have hbq0 : Below w.heap.size w wr := hbw0.trans (hbq.mono hbw0.size)
            have c0q := (hbq2.cell (p := ⟨w.heap.size, 0, none⟩) (by rw [HZ.out]; simp)).trans c0
            have c1q := (hbq2.cell (p := ⟨w.heap.size, 1, none⟩) (by rw [HZ.out]; simp)).trans c1
            by_cases hlq : q < acts[j].kids.length
            · obtain ⟨ad3, rfl, hl4, hck, hik⟩ := at_int (hEo.belowAll hbq) hlq
              have hkk := HKK.out _ (List.getElem_mem hlq)
              have hdr : acts[j].kids.drop q = acts[j].kids[q] :: acts[j].kids.drop (q + 1) := List.drop_eq_getElem_cons hlq
              obtain ⟨z, hz⟩ : ∃ z : Nat, acts[j].kids[q] = (z : Int) := ⟨acts[j].kids[q].toNat, by omega⟩
              have hst2 : runKids (fun c k => oneBody d p c k) c' (acts[j].kids.drop q) = match oneBody d p c' z with | none => none | some (c, true) => some (c, true) | some (c, false) => runKids (fun c k => oneBody d p c k) c (acts[j].kids.drop (q + 1)) := by
                rw [hdr, hz]; simp only [runKids, Int.toNat_natCast]; rcases oneBody d p c' z with _ | ⟨c, _ | _⟩ <;> rfl
              have HS2 := Lib.hid hst2
              rw [hz] at hck hkk
              have hBq := hB2.belowAll hbq2
              clear hdr hz hst2
              have hcall := ih.out (by omega) z (by omega) (by omega) A (some ad) ca cb c' (.slice A1 c'.length n1) base wr S hBq hoC' (by have := hbq0.size; omega)
              have HCALL := Lib.hid hcall
              clear hcall
              cases hob : oneBody d p c' z with
              | none =>
                have HOB := Lib.hid hob
                clear hob
                go_wp2_with (go_at_call 64; refine (HCALL.out).mono ?_; rw [HOB.out]; rintro e w3 ⟨rfl, hb3⟩)
                rw [Exit.noGoto_ret]
                go_ret3
                exact HE3.out _ (hbq0.trans (hb3.mono hbq0.size)) (by rw [HA.out, HST.out, HKD.out, HS2.out, HOB.out])
              | some x =>
                obtain ⟨c3, f3⟩ := x
                have HOB := Lib.hid hob
                clear hob
                cases f3 with
                | true =>
                  go_wp2_with (go_at_call 64; refine (HCALL.out).mono ?_; rw [HOB.out]; rintro e w3 ⟨⟨vC, rfl, ho1⟩, hb3⟩; obtain ⟨A3, n3, rfl, _, hq1⟩ := ho1.row; clear hq1)
                  rw [Exit.noGoto_ret]
                  go_ret3
                  exact HE2.out _ (hbq0.trans (hb3.mono hbq0.size)) _ _ _ (by rw [HA.out, HST.out, HKD.out, HS2.out, HOB.out]) ho1
                | false =>
                  go_wp2_with (go_at_call 64; refine (HCALL.out).mono ?_; rw [HOB.out]; rintro e w3 ⟨⟨vC, rfl, ho1⟩, hb3⟩; obtain ⟨A3, n3, rfl, _, hq1⟩ := ho1.row; clear hq1)
                  go_roundw
                  case rel => exact ⟨q + 1, c3, A3, n3, by omega, by go_num, rfl, rfl, ho1, by unfold Hid; rw [HKD.out, HS2.out, HOB.out], below_then hbq hbq.size hb3⟩
                  case measure => simp [intOf]; omega
            · have hnil : acts[j].kids.drop q = [] := List.drop_of_length_le (by omega)
              have HNIL := Lib.hid hnil
              clear hnil
              go_wp2
              go_roundw
              case rel => exact ⟨j + 1, c', r, A1, Ar, n1, cr, by omega, by go_num, rfl, rfl, rfl, HR3.out, hoC', hoRo.belowAll hbq, by unfold Hid; rw [HA.out, HST.out, HKD.out, HNIL.out]; rfl, hbq2⟩
              case measure => simp [intOf]; omega
        · -- it fails
          rw [hk] at k0
          have hstep : runActs (fun c k => oneBody d p c k) c r (acts.drop j) = some (c, true) := by
            rw [HD.out]; simp [runActs, hk]
          have HST := Lib.hid hstep
          clear hstep hk
          go_wp2
          rw [Exit.noGoto_ret]
          go_ret3
          exact HE2.out _ (hbw2.alloc hbw2.size _) _ _ _ (by rw [HA.out, HST.out]) (hoC.al _)
        · -- it fails, if there is something
          rw [hk] at k0
          obtain ⟨gr, cr', hvr, hgr1, hgr2⟩ := hoR.place (by rw [HR3.out]; omega)
          injection hvr with e1 e2 e3
          subst e1; subst e3
          obtain ⟨x, hx⟩ : ∃ x : Nat, acts[j].reg = (x : Int) := ⟨acts[j].reg.toNat, by omega⟩
          have hxl : x < r.length := by rw [HR3.out]; omega
          have hoR' := hoR
          rw [← HR3.out] at hoR'
          obtain ⟨hcx, hfx⟩ := hoR'.cell hxl
          have hcw : ∀ o, (wr.alloc o).cell? ⟨gr, x, none⟩ = some (.int .i64 r[x]) := fun o => by rw [World.cell?_alloc_lt _ _ _ hgr2]; exact hcx
          by_cases h0 : r[x] = 0
          · have hstep : runActs (fun c k => oneBody d p c k) c r (acts.drop j) = runActs (fun c k => oneBody d p c k) c r (acts.drop (j + 1)) := by
              rw [HD.out]; simp [runActs, hk, hx, rdI, hxl, h0]
            have HST := Lib.hid hstep
            rw [hx] at k3 hg1 hg2
            rw [h0] at hcw
            clear hstep hk hx h0 e2 hcx hoR'
            go_wp2
            go_roundw
            case rel => exact ⟨j + 1, c, r, Ac, some ⟨gr, 0, none⟩, cc2, cr, by omega, by go_num, rfl, rfl, rfl, HR3.out, hoC.al _, hoR.al _, by unfold Hid; rw [HA.out, HST.out], hbr.alloc hbr.size _⟩
            case measure => simp [intOf]; omega
          · have hstep : runActs (fun c k => oneBody d p c k) c r (acts.drop j) = some (c, true) := by
              rw [HD.out]; simp [runActs, hk, hx, rdI, hxl, h0]
            have HST := Lib.hid hstep
            have hb0 : (r[x] == 0) = false := by simp [h0]
            rw [hx] at k3 hg1 hg2
            clear hstep hk hx h0 e2 hcx hoR'
            go_wp2
            rw [Exit.noGoto_ret]
            go_ret3
            exact HE2.out _ (hbw2.alloc hbw2.size _) _ _ _ (by rw [HA.out, HST.out]) (hoC.al _)
      · go_wp2
        rw [Exit.noGoto_ret]
        go_ret3
        exact HE2.out _ hbw2 _ _ _ (by rw [HA.out, List.drop_of_length_le (by omega)]; rfl) hoC
end Go.Proofs.Ytcpabkfoalhldaa
namespace Go.Proofs.Ytcpabkfoalhldaa
open Go.RowKit
set_option linter.unusedVariables false
set_option linter.unusedSimpArgs false

set_option maxHeartbeats 2000000 in
set_option maxRecDepth 100000 in
theorem implOneRun_calls (p : Prog) (A B : Option Addr) (ca cb : Nat) (w : World) (S : Nat → Prop) (hA : Row Kd.int w S A p.cells) (hB : Row (Kd.slice kAct) w S B p.bodies) :
    Calls Try.prog 36 #[.agg #[.slice A p.cells.length ca, .slice B p.bodies.length cb]] w fun e w' => ResOne (oneRun p) w.heap.size e w' ∧ Below w.heap.size w w' := by
  have hb1 : ∀ o, Below w.heap.size w (w.alloc o) := fun o => (Below.refl _ _).alloc (Nat.le_refl _) _
  have hA1 := fun o => hA.belowAll (hb1 o)
  have hB1 := fun o => hB.belowAll (hb1 o)
  cases hok : progOk p
  · have hr : oneRun p = none := by simp [oneRun, hok]
    rw [hr]
    have HF := Lib.hid hok
    clear hok hr
    go_enter Try.func36, Try.ntmps36
    go_wp2_with (go_at_call 32; refine (implProgOk_calls p _ _ _ _ _ S (hA1 _) (hB1 _)).mono ?_; rintro e w1 ⟨rfl, hb2⟩; rw [HF.out])
    go_ret3
    exact ⟨rfl, (hb1 _).trans (hb2.mono (by simp))⟩
  · have hr : oneRun p = oneBody 4 p p.cells 0 := by simp [oneRun, hok]
    rw [hr]
    have HF := Lib.hid hok
    have hform : formOk p = true := by simp only [progOk, Bool.and_eq_true] at hok; exact hok.1
    have HFO := Lib.hid hform
    have hlen := formOk_len hform
    clear hok hr hform
    go_enter Try.func36, Try.ntmps36
    go_wp2_with (go_at_call 32; refine (implProgOk_calls p _ _ _ _ _ S (hA1 _) (hB1 _)).mono ?_; rintro e w1 ⟨rfl, hb2⟩; rw [HF.out])
    have hb3 := (hb1 (Obj.cells #[.slice A p.cells.length ca, .slice B p.bodies.length cb] 26)).trans (hb2.mono (by simp))
    have hc1 := hb2.cell (p := ⟨w.heap.size, 0, none⟩) (by simp)
    have hc2 := hb2.cell (p := ⟨w.heap.size, 1, none⟩) (by simp)
    have hz1 : w.heap.size < w1.heap.size := by have := hb2.size; simp at this; omega
    simp [go_sem] at hc1 hc2
    have hbw : Below w1.heap.size w1 w1.drew := (Below.refl _ _).drew
    have hAw := hA.belowAll hb3
    have hBw := hB.belowAll hb3
    cases hob : oneBody 4 p p.cells 0 with
    | none =>
      have HOB := Lib.hid hob
      clear hob
      go_region_held3 (fun w' => w'.cell? ⟨w.heap.size, 0, none⟩ = some (.slice A p.cells.length ca) ∧ w'.cell? ⟨w.heap.size, 1, none⟩ = some (.slice B p.bodies.length cb) ∧ Below w1.heap.size w1 w') (go_keep)
        (first | (go_at_call 65; refine (cloneInt_calls p.cells _ _ _ S (Row.belowAll hAw ‹Below w1.heap.size w1 _›) (by omega)).mono ?_; rintro e w2 ⟨vc, rfl, hoc, hbc⟩; have q0 := below_then ‹Below w1.heap.size w1 _› (Below.size ‹Below w1.heap.size w1 _›) hbc; have q1 := (q0.cell (p := ⟨w.heap.size, 0, none⟩) hz1).trans hc1; have q2 := (q0.cell (p := ⟨w.heap.size, 1, none⟩) hz1).trans hc2; obtain ⟨Ac, cc, rfl, hcc, hrc⟩ := OwnI.row hoc; clear hrc) | (go_at_call 64; refine (implOneBody_calls p HFO.out 4 (by omega) 0 (by omega) (by omega) _ _ _ _ p.cells _ w.heap.size _ S (Row.belowAll hBw ‹Below w1.heap.size w1 _›) (OwnI.lower (Nat.le_trans (Nat.le_of_lt hz1) (Below.size ‹Below w1.heap.size w1 _›)) (OwnI.belowAll hoc (Below.refl _ _))) (Nat.le_trans (Nat.le_of_lt hz1) (Below.size ‹Below w1.heap.size w1 _›))).mono ?_; rw [HOB.out]; rintro e w4 ⟨rfl, hb4⟩; have q0 := below_then ‹Below w1.heap.size w1 _› (Below.size ‹Below w1.heap.size w1 _›) hb4; have q1 := (q0.cell (p := ⟨w.heap.size, 0, none⟩) hz1).trans hc1; have q2 := (q0.cell (p := ⟨w.heap.size, 1, none⟩) hz1).trans hc2))
      obtain ⟨_, _, hbx⟩ := ‹_ ∧ _ ∧ Below w1.heap.size w1 _›
      go_wp2
      go_ret3
      exact ⟨by rw [HOB.out]; exact rfl, hb3.trans (hbx.mono (Nat.le_of_lt hz1))⟩
    | some x =>
      obtain ⟨c, f⟩ := x
      have HOB := Lib.hid hob
      clear hob
      go_region_held3 (fun w' => w'.cell? ⟨w.heap.size, 0, none⟩ = some (.slice A p.cells.length ca) ∧ w'.cell? ⟨w.heap.size, 1, none⟩ = some (.slice B p.bodies.length cb) ∧ Below w1.heap.size w1 w') (go_keep)
        (first | (go_at_call 65; refine (cloneInt_calls p.cells _ _ _ S (Row.belowAll hAw ‹Below w1.heap.size w1 _›) (by omega)).mono ?_; rintro e w2 ⟨vc, rfl, hoc, hbc⟩; have q0 := below_then ‹Below w1.heap.size w1 _› (Below.size ‹Below w1.heap.size w1 _›) hbc; have q1 := (q0.cell (p := ⟨w.heap.size, 0, none⟩) hz1).trans hc1; have q2 := (q0.cell (p := ⟨w.heap.size, 1, none⟩) hz1).trans hc2; obtain ⟨Ac, cc, rfl, hcc, hrc⟩ := OwnI.row hoc; clear hrc) | (go_at_call 64; refine (implOneBody_calls p HFO.out 4 (by omega) 0 (by omega) (by omega) _ _ _ _ p.cells _ w.heap.size _ S (Row.belowAll hBw ‹Below w1.heap.size w1 _›) (OwnI.lower (Nat.le_trans (Nat.le_of_lt hz1) (Below.size ‹Below w1.heap.size w1 _›)) (OwnI.belowAll hoc (Below.refl _ _))) (Nat.le_trans (Nat.le_of_lt hz1) (Below.size ‹Below w1.heap.size w1 _›))).mono ?_; rw [HOB.out]; rintro e w4 ⟨⟨vr, rfl, hor⟩, hb4⟩; have q0 := below_then ‹Below w1.heap.size w1 _› (Below.size ‹Below w1.heap.size w1 _›) hb4; have q1 := (q0.cell (p := ⟨w.heap.size, 0, none⟩) hz1).trans hc1; have q2 := (q0.cell (p := ⟨w.heap.size, 1, none⟩) hz1).trans hc2))
      obtain ⟨_, _, hbx⟩ := ‹_ ∧ _ ∧ Below w1.heap.size w1 _›
      go_wp2
      go_ret3
      exact ⟨by rw [HOB.out]; exact ⟨_, rfl, hor⟩, hb3.trans (hbx.mono (Nat.le_of_lt hz1))⟩
end Go.Proofs.Ytcpabkfoalhldaa
namespace Go.Proofs.Ytcpabkfoalhldaa
open Go.RowKit
set_option linter.unusedVariables false
set_option linter.unusedSimpArgs false

theorem runKids_len (f : List Int → Nat → Option (List Int × Bool)) (hf : ∀ c k c' b, f c k = some (c', b) → c'.length = c.length) (l : List Int) : ∀ cells c b, runKids f cells l = some (c, b) → c.length = cells.length := by
  induction l with
  | nil => intro cells c b h; simp [runKids] at h; rw [h.1]
  | cons k r ih =>
    intro cells c b h
    unfold runKids at h
    cases hk : f cells k.toNat with
    | none => rw [hk] at h; cases h
    | some x =>
      obtain ⟨c1, b1⟩ := x
      rw [hk] at h
      have h1 := hf _ _ _ _ hk
      cases b1 with
      | true => simp at h; rw [← h.1]; exact h1
      | false => exact (ih _ _ _ h).trans h1
theorem runActs_len (f : List Int → Nat → Option (List Int × Bool)) (hf : ∀ c k c' b, f c k = some (c', b) → c'.length = c.length) (l : List Act) : ∀ cells regs c b, runActs f cells regs l = some (c, b) → c.length = cells.length := by
  induction l with
  | nil => intro cells regs c b h; simp [runActs] at h; rw [h.1]
  | cons a r ih =>
    intro cells regs c b h
    unfold runActs at h
    by_cases h1 : a.kind = 1
    · rw [if_pos h1] at h
      cases hk : changeDo cells regs a.deeds with
      | none => rw [hk] at h; cases h
      | some x =>
        obtain ⟨c1, rg⟩ := x
        rw [hk] at h
        exact (ih _ _ _ _ h).trans (changeDo_desk hk).cl
    · rw [if_neg h1] at h
      by_cases h2 : a.kind = 2
      · rw [if_pos h2] at h
        cases hk : runKids f cells a.kids with
        | none => rw [hk] at h; cases h
        | some x =>
          obtain ⟨c1, b1⟩ := x
          rw [hk] at h
          have h3 := runKids_len f hf _ _ _ _ hk
          cases b1 with
          | true => simp at h; rw [← h.1]; exact h3
          | false => exact (ih _ _ _ _ h).trans h3
      · rw [if_neg h2] at h
        split at h
        · exact ih _ _ _ _ h
        · simp at h; rw [h.1]
theorem oneBody_len (p : Prog) : ∀ n cells b c f, oneBody n p cells b = some (c, f) → c.length = cells.length := by
  intro n
  induction n with
  | zero => intro cells b c f h; cases h
  | succ n ih =>
    intro cells b c f h
    unfold oneBody at h
    exact runActs_len _ (fun c k c' b h => ih _ _ _ _ h) _ _ _ _ _ h
theorem oneRun_len {p : Prog} {c : List Int} {f : Bool} (h : oneRun p = some (c, f)) : c.length = p.cells.length := by
  unfold oneRun at h
  split at h
  · exact oneBody_len p 4 _ _ _ _ h
  · cases h
def rC (r : Option (List Int × Bool)) : List Int := match r with | none => [] | some x => x.1
def rF (r : Option (List Int × Bool)) : Bool := match r with | none => false | some x => x.2
theorem rC_len (p : Prog) : (rC (oneRun p)).length ≤ p.cells.length := by
  cases h : oneRun p with
  | none => simp [rC]
  | some x => obtain ⟨c, f⟩ := x; have := oneRun_len h; simp [rC]; omega
theorem ResRun.one {r : Option (List Int × Bool)} {B : Nat} {e : Ending} {w' : World} (h : ResRun r B e w') : ∃ vc, e = .returned (.tuple #[vc, .bool (rF r), .bool r.isSome]) ∧ OwnI 3 w' B vc (rC r) := by
  match r, h with
  | none, h => exact h
  | some (c, f), h => exact h
theorem ResOne.one {r : Option (List Int × Bool)} {B : Nat} {e : Ending} {w' : World} (h : ResOne r B e w') : ∃ vc, e = .returned (.tuple #[vc, .bool (rF r), .bool r.isSome]) ∧ OwnI 3 w' B vc (rC r) := by
  match r, h with
  | none, h => exact ⟨_, h, OwnI.nil _ _ _⟩
  | some (c, f), h => exact h
/-- The shape of bodies: how many deeds and kids each act has. -/
def shA (l : List Act) : List (Nat × Nat) := l.map fun a => (a.deeds.length, a.kids.length)
def shB (l : List (List Act)) : List (List (Nat × Nat)) := l.map shA
theorem tot_map_le {α β : Type} (f : β → Int) (g : α → β) (h : α → Int) (l : List α) (H : ∀ x, f (g x) ≤ h x) : tot f (l.map g) ≤ tot h l := by
  induction l with
  | nil => simp [tot]
  | cons a r ih => have := H a; simp only [tot, List.map_cons, List.sum_cons] at *; omega
theorem tot_scale {α : Type} (f : α → Int) (l : List α) (c d : Int) : tot (fun x => c + d * f x) l = c * l.length + d * tot f l := by
  induction l with
  | nil => simp [tot]
  | cons a r ih =>
    simp only [tot, List.map_cons, List.sum_cons, List.length_cons] at *
    rw [ih]
    have : ((r.length + 1 : Nat) : Int) = r.length + 1 := by omega
    rw [this, Int.mul_add, Int.mul_add]
    omega
theorem wActs_le (l : List Act) : wActs (shA l) ≤ 3 * sizeOf1 l := by
  have h := tot_map_le wAct (fun a : Act => (a.deeds.length, a.kids.length)) (fun a => 2 + 3 * sizeAct a) l (fun a => by unfold wAct sizeAct; simp only; omega)
  rw [tot_scale] at h
  unfold wActs shA sizeOf1
  omega
theorem wAll_le (l : List (List Act)) : wAll (shB l) ≤ 3 * sizeOf2 l := by
  have h := tot_map_le wActs shA (fun a => 0 + 3 * sizeOf1 a) l (fun a => by have := wActs_le a; omega)
  rw [tot_scale] at h
  unfold wAll shB sizeOf2
  omega
theorem tot_mem {α : Type} (f : α → Int) (l : List α) (hf : ∀ x, 0 ≤ f x) (x : α) (hx : x ∈ l) : f x ≤ tot f l := by
  induction l with
  | nil => cases hx
  | cons a r ih =>
    have h1 := tot_pos f r hf
    have h2 := hf a
    simp only [tot, List.map_cons, List.sum_cons] at *
    rcases List.mem_cons.1 hx with rfl | hx
    · omega
    · have := ih hx; omega
theorem size_bounds {p : Prog} (h : sizeOf3 p ≤ 1048576) : p.cells.length ≤ 1048576 ∧ p.bodies.length ≤ 1048576 ∧ (∀ l ∈ p.bodies, l.length ≤ 1048576 ∧ ∀ a ∈ l, a.deeds.length ≤ 1048576 ∧ a.kids.length ≤ 1048576) ∧ 1 + (p.cells.length : Int) + wAll (shB p.bodies) ≤ top := by
  have h1 := wAll_le p.bodies
  have h2 := tot_pos sizeOf1 p.bodies sizeOf1_pos
  unfold sizeOf3 at h
  have h3 : sizeOf2 p.bodies = p.bodies.length + tot sizeOf1 p.bodies := rfl
  refine ⟨by omega, by omega, fun l hl => ?_, by unfold top; omega⟩
  have h4 := tot_mem sizeOf1 p.bodies sizeOf1_pos l hl
  have h5 : sizeOf1 l = l.length + tot sizeAct l := rfl
  have h6 := tot_pos sizeAct l sizeAct_pos
  refine ⟨by omega, fun a ha => ?_⟩
  have h7 := tot_mem sizeAct l sizeAct_pos a ha
  have h8 : sizeAct a = a.deeds.length + a.kids.length := rfl
  omega
section
variable {α : Type} {d : Kd α} {e : Nat} {w : World} {base : Nat} {S T : Nat → Prop} {v : Value} {xs : List α}
/-- A row of one's own, as a block. -/
theorem Own.asBlock (h : Own d e w base S v xs) (hT : ∀ k, S k → T k) : ∃ A c, v = .slice A xs.length c ∧ xs.length ≤ c ∧ xs.length ≤ 9223372036854775807 ∧ (xs = [] ∨ ∃ (g : Nat) (cs : Array Value), A = some ⟨g, 0, none⟩ ∧ T g ∧ w.heap[g]? = some (.cells cs e (0, 0)) ∧ ∀ j (hj : j < xs.length), ∃ c, d.K w S xs[j] c ∧ ∀ i u, c[i]? = some u → cs[j * d.sz + i]? = some u) := by
  have hm := h.maxLen
  obtain ⟨A, c, rfl, hc⟩ := h.slice
  refine ⟨A, c, rfl, hc, hm, ?_⟩
  by_cases hn : xs = []
  · exact .inl hn
  · have hl : 0 < xs.length := List.length_pos_iff.2 hn
    obtain ⟨g, cap, e1, _, _, hg, _⟩ := h.place hl
    injection e1 with e1 _ e3
    subst e1; subst e3
    obtain ⟨cs, hb⟩ : ∃ cs, w.heap[g]? = some (.cells cs e (0, 0)) := by
      obtain ⟨css, h1, _⟩ := h
      rcases h1.2 with ⟨h2, _⟩ | ⟨g', cap', cur, h2, _, h3, _⟩
      · cases h2
      · injection h2 with h2; injection h2 with h2; injection h2 with h2; subst h2; exact ⟨cur, h3⟩
    refine .inr ⟨g, cs, rfl, hT g hg, hb, fun j hj => ?_⟩
    obtain ⟨c, hk, hcell, _⟩ := Own.cellAt h hj
    refine ⟨c, d.mono (fun k hk => hk.1) hk, fun i u hu => ?_⟩
    have := hcell i u hu
    rwa [cell_of_row _ _ _ _ _ _ hb] at this
end
theorem ShN.ofInts {e : Nat} {w : World} {base : Nat} {S T : Nat → Prop} {v : Value} {xs : List Int} (h : Own Kd.int e w base S v xs) (hT : ∀ k, S k → T k) : ShN T 1 w v xs.length := by
  obtain ⟨A, c, rfl, h1, h2, h3⟩ := h.asBlock hT
  refine ⟨A, c, rfl, h1, h2, ?_⟩
  rcases h3 with rfl | ⟨g, cs, rfl, hg, hb, hc⟩
  · exact .inl rfl
  · refine .inr ⟨g, cs, e, rfl, hg, hb, fun i hi => ?_⟩
    obtain ⟨c, ⟨rfl, _⟩, hcell⟩ := hc i (by omega)
    exact ⟨xs[i], by simpa [kInt_sz] using hcell 0 _ rfl⟩
theorem ShN.ofDeeds {e : Nat} {w : World} {base : Nat} {S T : Nat → Prop} {v : Value} {xs : List Deed} (h : Own kDeed e w base S v xs) (hT : ∀ k, S k → T k) : ShN T 3 w v xs.length := by
  obtain ⟨A, c, rfl, h1, h2, h3⟩ := h.asBlock hT
  refine ⟨A, c, rfl, h1, h2, ?_⟩
  rcases h3 with rfl | ⟨g, cs, rfl, hg, hb, hc⟩
  · exact .inl rfl
  · refine .inr ⟨g, cs, e, rfl, hg, hb, fun i hi => ?_⟩
    obtain ⟨c, hk, hcell⟩ := hc (i / 3) (by omega)
    obtain ⟨rfl, _⟩ := kDeed_open hk
    have hr : i % 3 = 0 ∨ i % 3 = 1 ∨ i % 3 = 2 := by omega
    have he : i = i / 3 * 3 + i % 3 := by omega
    rw [he]
    rcases hr with hr | hr | hr
    · rw [hr]; exact ⟨_, hcell 0 _ rfl⟩
    · rw [hr]; exact ⟨_, hcell 1 _ rfl⟩
    · rw [hr]; exact ⟨_, hcell 2 _ rfl⟩
theorem ShA.ofOwn {b e : Nat} {w : World} {base : Nat} {S T : Nat → Prop} {v : Value} {xs : List Act} (h : Own (kActO b) e w base S v xs) (hT : ∀ k, S k → T k) : ShA T w v (shA xs) := by
  obtain ⟨A, c, rfl, h1, h2, h3⟩ := h.asBlock hT
  have hl : (shA xs).length = xs.length := by simp [shA]
  refine ⟨A, c, by rw [hl], by omega, by omega, ?_⟩
  rcases h3 with rfl | ⟨g, cs, rfl, hg, hb, hc⟩
  · exact .inl rfl
  · refine .inr ⟨g, cs, e, rfl, hg, hb, fun j nm hj => ?_⟩
    have hjl : j < xs.length := by have := (List.getElem?_eq_some_iff.1 hj).1; omega
    simp only [shA, List.getElem?_map, List.getElem?_eq_getElem hjl, Option.map_some, Option.some.injEq] at hj
    subst hj
    obtain ⟨c, hk, hcell⟩ := hc j hjl
    obtain ⟨v, u, rfl, hv, hu, _⟩ := kActO_open hk
    obtain ⟨B, d1, rfl, _⟩ := hv.slice
    obtain ⟨D, e1, rfl, _⟩ := hu.slice
    exact ⟨_, _, B, D, d1, e1, hcell 0 _ rfl, hcell 1 _ rfl, hcell 2 _ rfl, hcell 3 _ rfl, ShN.ofDeeds hv hT, ShN.ofInts hu hT⟩
theorem ShB.ofOwn {b e : Nat} {w : World} {base : Nat} {S T : Nat → Prop} {v : Value} {xs : List (List Act)} (h : Own (kBodyO b) e w base S v xs) (hT : ∀ k, S k → T k) : ShB T w v (shB xs) := by
  obtain ⟨A, c, rfl, h1, h2, h3⟩ := h.asBlock hT
  have hl : (shB xs).length = xs.length := by simp [shB]
  refine ⟨A, c, by rw [hl], by omega, by omega, ?_⟩
  rcases h3 with rfl | ⟨g, cs, rfl, hg, hb, hc⟩
  · exact .inl rfl
  · refine .inr ⟨g, cs, e, rfl, hg, hb, fun j l hj => ?_⟩
    have hjl : j < xs.length := by have := (List.getElem?_eq_some_iff.1 hj).1; omega
    simp only [shB, List.getElem?_map, List.getElem?_eq_getElem hjl, Option.map_some, Option.some.injEq] at hj
    subst hj
    obtain ⟨c, ⟨v, rfl, hv⟩, hcell⟩ := hc j hjl
    obtain ⟨B, d1, rfl, _⟩ := hv.slice
    have e1 : (shA xs[j]).length = xs[j].length := by simp [shA]
    have := hcell 0 _ rfl
    refine ⟨B, d1, ?_, by rw [e1]; exact ShA.ofOwn hv hT⟩
    rw [e1]
    simpa [kBodyO_sz] using this
end Go.Proofs.Ytcpabkfoalhldaa
namespace Go.Proofs.Ytcpabkfoalhldaa
open Go.RowKit
set_option linter.unusedVariables false
set_option linter.unusedSimpArgs false

theorem ProgO.rows {p : Prog} {B : Nat} {v : Value} {w : World} (h : ProgO p B v w) : ∃ C D cc cd, v = .agg #[.slice C p.cells.length cc, .slice D p.bodies.length cd] ∧ Row Kd.int w (fun k => B ≤ k ∧ k < w.heap.size) C p.cells ∧ Row (Kd.slice kAct) w (fun k => B ≤ k ∧ k < w.heap.size) D p.bodies ∧ ShN (fun k => B ≤ k ∧ k < w.heap.size) 1 w (.slice C p.cells.length cc) p.cells.length ∧ ShB (fun k => B ≤ k ∧ k < w.heap.size) w (.slice D p.bodies.length cd) (shB p.bodies) := by
  obtain ⟨C, D, cc, cd, rfl, hc, hd⟩ := h.ex
  refine ⟨C, D, cc, cd, rfl, ?_, ?_, ShN.ofInts hc.bound (fun k hk => hk), ShB.ofOwn hd.bound (fun k hk => hk)⟩
  · obtain ⟨A', c', e, _, hr⟩ := hc.bound.row
    injection e with e1 _ _
    subst e1; exact hr
  · obtain ⟨A', c', e, _, hr⟩ := hd.bound.row
    injection e with e1 _ _
    subst e1
    exact Row.map (d := kBodyO B) (d' := Kd.slice kAct) rfl (fun x cs => kBodyO_read) hr
theorem markProgP_calls (p : Prog) (C D : Option Addr) (cc cd : Nat) (T : Nat → Prop) (w : World) (h : ShN T 1 w (.slice C p.cells.length cc) p.cells.length) (hB : ShB T w (.slice D p.bodies.length cd) (shB p.bodies)) (hT : ∀ b, T b → b < w.heap.size) (hs : sizeOf3 p ≤ 1048576) :
    Calls Try.prog 29 #[.agg #[.slice C p.cells.length cc, .slice D p.bodies.length cd], .int .i64 1] w fun e w' => ∃ K : Int, e = .returned (.int .i64 K) ∧ ¬ K < 0 ∧ Mk T w w' := by
  have hl : (shB p.bodies).length = p.bodies.length := by simp [shB]
  have hb := (size_bounds hs).2.2.2
  have hp := wAll_pos (shB p.bodies)
  rw [← hl] at hB ⊢
  refine (markProg_calls T C D p.cells.length cc cd (shB p.bodies) 1 w h hB hT (by omega) hb).mono ?_
  rintro e w' ⟨rfl, hm⟩
  exact ⟨_, rfl, by omega, hm⟩
theorem Mk.ofBelow {T : Nat → Prop} {w w' : World} (h : Below w.heap.size w w') : Mk T w w' := ⟨Keep.of_belowAll _ h, fun b cs t hb => ⟨cs, (h.block b (Array.getElem?_eq_some_iff.1 hb).1).trans hb, fun i u hu => .inl hu⟩⟩
theorem OwnI.rowAt {e : Nat} {w : World} {base : Nat} {A : Option Addr} {n c : Nat} {xs : List Int} (h : OwnI e w base (.slice A n c) xs) : Row Kd.int w (fun k => (Value.slice A n c).ownBlock = some k) A xs := by
  obtain ⟨A', c', e1, _, hr⟩ := OwnI.row h
  injection e1 with e1 _ _
  subst e1; exact hr
theorem Mk.row {α : Type} {d : Kd α} {T S : Nat → Prop} {w w' : World} {A : Option Addr} {xs : List α} (h : Row d w S A xs) (hm : Mk T w w') (hT : ∀ k, S k → ¬ T k) : Row d w' S A xs := h.keep hm.k fun k hk _ => hT k hk
end Go.Proofs.Ytcpabkfoalhldaa
namespace Go.Proofs.Ytcpabkfoalhldaa
open Go.RowKit Go.ChangeShapes Go.WideShapes Go.Deep Go.Joins
set_option linter.unusedVariables false
set_option linter.unusedSimpArgs false

theorem row_of {α : Type} {d : Kd α} {W : World} {a : Addr} {len : Nat} (hm : len ≤ 9223372036854775807) (hd : 0 < d.sz) (H : ∀ i, i < len → ∃ x c, d.K W (fun k => k < W.heap.size) x c ∧ ∀ j u, c[j]? = some u → W.cell? (a.add (i * d.sz + j)) = some u) : ∃ xs : List α, xs.length = len ∧ Row d W (fun k => k < W.heap.size) (some a) xs := by
  by_cases h0 : len = 0
  · exact ⟨[], by simp [h0], Row.nil _ _ _ _⟩
  · obtain ⟨x0, c0, hk0, hc0⟩ := H 0 (by omega)
    have hl0 := d.len hk0
    have hlt : a.block < W.heap.size := by
      have := block_lt_of_cell (hc0 0 (c0[0]'(by omega)) (List.getElem?_eq_getElem (by omega)))
      rwa [block_add] at this
    have H2 : ∀ i, ∃ x, i < len → ∃ c, d.K W (fun k => k < W.heap.size) x c ∧ ∀ j u, c[j]? = some u → W.cell? (a.add (i * d.sz + j)) = some u := fun i => by
      by_cases hi : i < len
      · obtain ⟨x, c, h⟩ := H i hi
        exact ⟨x, fun _ => ⟨c, h⟩⟩
      · exact ⟨x0, fun h => absurd h hi⟩
    obtain ⟨f, hf⟩ := Classical.skolem.1 H2
    refine ⟨(List.range len).map f, by simp, by simpa using hm, fun _ => ⟨a, rfl, hlt, hlt, fun j x hj => ?_⟩⟩
    have hjl : j < len := by have := (List.getElem?_eq_some_iff.1 hj).1; simpa using this
    rw [List.getElem?_map, List.getElem?_range hjl] at hj
    simp at hj
    subst hj
    exact hf j hjl
section
variable {H : Type} {enc : TypeId × Value → H} {W : World} {base : Nat} {spare : Nat → Bool} {held : Bool} {fuel : Nat} {cs : List Value} {x : DataW H × List MemPlace}
theorem op_int (h : DataW.trod enc Try.prog W base spare held fuel 3 cs = some x) : ∃ n, cs = [.int .i64 n] ∧ i64 n := by
  obtain ⟨n, rfl, _, hw⟩ := DataW.trod_int Try.underlying3 h
  simp [Lit.wf] at hw
  exact ⟨n, rfl, hw⟩
set_option maxRecDepth 100000 in
theorem el_deed (h : DataW.trod enc Try.prog W base spare held fuel 167 cs = some x) : ∃ a b c, cs = [.int .i64 a, .int .i64 b, .int .i64 c] ∧ i64 a ∧ i64 b ∧ i64 c := by
  have hi : Try.prog.cellsOf 3 = 1 := by kernel_rfl
  have hC : Try.prog.cellsOf 167 = 3 := by kernel_rfl
  obtain ⟨xs, n, _, _, hl, hlen, hf⟩ := DataW.trod_struct Try.underlying167 h
  rw [hC] at hl
  match cs, hl, xs, hlen with
  | [v0, v1, v2], _, [y0, y1, y2], _ =>
    have h0 := hf 0 _ rfl
    have h1 := hf 1 _ rfl
    have h2 := hf 2 _ rfl
    simp [hi] at h0 h1 h2
    obtain ⟨a, e0, i0⟩ := op_int h0
    obtain ⟨b, e1, i1⟩ := op_int h1
    obtain ⟨c, e2, i2⟩ := op_int h2
    injection e0 with e0; injection e1 with e1; injection e2 with e2
    exact ⟨a, b, c, by rw [e0, e1, e2], i0, i1, i2⟩
set_option maxRecDepth 100000 in
theorem el_act (h : DataW.trod enc Try.prog W base spare held fuel 123 cs = some x) : ∃ v0 v1 v2 v3 y0 y1 y2 y3 n, cs = [v0, v1, v2, v3] ∧ DataW.trod enc Try.prog W base spare held n 3 [v0] = some y0 ∧ DataW.trod enc Try.prog W base spare held n 121 [v1] = some y1 ∧ DataW.trod enc Try.prog W base spare held n 23 [v2] = some y2 ∧ DataW.trod enc Try.prog W base spare held n 3 [v3] = some y3 := by
  have hi : Try.prog.cellsOf 3 = 1 := by kernel_rfl
  have hd : Try.prog.cellsOf 121 = 1 := by kernel_rfl
  have hk : Try.prog.cellsOf 23 = 1 := by kernel_rfl
  have hC : Try.prog.cellsOf 123 = 4 := by kernel_rfl
  obtain ⟨xs, n, _, _, hl, hlen, hf⟩ := DataW.trod_struct Try.underlying123 h
  rw [hC] at hl
  match cs, hl, xs, hlen with
  | [v0, v1, v2, v3], _, [y0, y1, y2, y3], _ =>
    have h0 := hf 0 _ rfl
    have h1 := hf 1 _ rfl
    have h2 := hf 2 _ rfl
    have h3 := hf 3 _ rfl
    simp [hi, hd, hk] at h0 h1 h2 h3
    exact ⟨v0, v1, v2, v3, y0, y1, y2, y3, n, rfl, h0, h1, h2, h3⟩
/-- The cells of an element. -/
theorem el_cells {a : Addr} {i m : Nat} {cs' : List Value} (hc : W.cells? base (a.add (i * m)) m = some cs') : ∀ j u, cs'[j]? = some u → W.cell? (a.add (i * m + j)) = some u := by
  obtain ⟨_, hcl, hat⟩ := World.cells?_some hc
  intro j u hu
  have hj : j < m := by have := (List.getElem?_eq_some_iff.1 hu).1; omega
  have := hat j hj
  rw [hu, Go.Deep.add_add] at this
  exact this
theorem op_ints (h : DataW.trod enc Try.prog W base spare held fuel 23 cs = some x) : ∃ A c, ∃ xs : List Int, cs = [.slice A xs.length c] ∧ xs.length ≤ c ∧ Row Kd.int W (fun k => k < W.heap.size) A xs := by
  rcases open_ints Try.underlying23 Try.underlying3 (by kernel_rfl) h with ⟨rfl, _⟩ | ⟨a, len, cap, zs, rfl, _, hl, hm, hz, _, hcell, hwz⟩
  · exact ⟨none, 0, [], rfl, Nat.le_refl _, Row.nil _ _ _ _⟩
  · have hzl : len ≤ zs.length := by rw [hz]; split <;> omega
    obtain ⟨xs, hx, hr⟩ := row_of (d := Kd.int) (W := W) (a := a) (len := len) (by simp only [_root_.Go.maxLen] at hm; omega) (by decide) (fun i hi => ⟨zs.getD i 0, [.int .i64 (zs.getD i 0)], ⟨rfl, by
      have := hwz (zs.getD i 0) (by rw [getD_at _ _ _ (by omega)]; exact List.getElem_mem _)
      simp [Lit.wf] at this
      exact this⟩, fun j u hu => by
      match j with
      | 0 => simp at hu; subst hu; simpa [kInt_sz] using hcell i (by omega)
      | j + 1 => simp at hu⟩)
    subst hx
    exact ⟨some a, cap, xs, rfl, hl, hr⟩
theorem op_deeds (h : DataW.trod enc Try.prog W base spare held fuel 121 cs = some x) : ∃ A c, ∃ xs : List Deed, cs = [.slice A xs.length c] ∧ xs.length ≤ c ∧ Row kDeed W (fun k => k < W.heap.size) A xs := by
  have hC : Try.prog.cellsOf 167 = 3 := by kernel_rfl
  rcases open_slice Try.underlying121 h with ⟨rfl, _⟩ | ⟨a, len, cap, m, n, D, Pl, rfl, _, hl, hm, hmm, _, hi⟩
  · exact ⟨none, 0, [], rfl, Nat.le_refl _, Row.nil _ _ _ _⟩
  · have hml : len ≤ m := by rw [hmm]; split <;> omega
    rw [hC] at hi
    obtain ⟨xs, hx, hr⟩ := row_of (d := kDeed) (W := W) (a := a) (len := len) (by simp only [_root_.Go.maxLen] at hm; omega) (by decide) (fun i hil => by
      obtain ⟨cs', hc, ht⟩ := hi i (by omega)
      obtain ⟨k, b, c, rfl, i0, i1, i2⟩ := el_deed ht
      exact ⟨⟨k, b, c⟩, _, kDeed_mk _ _ ⟨k, b, c⟩ i0 i1 i2, el_cells hc⟩)
    subst hx
    exact ⟨some a, cap, xs, rfl, hl, hr⟩
theorem op_acts (h : DataW.trod enc Try.prog W base spare held fuel 95 cs = some x) : ∃ A c, ∃ xs : List Act, cs = [.slice A xs.length c] ∧ xs.length ≤ c ∧ Row kAct W (fun k => k < W.heap.size) A xs := by
  have hC : Try.prog.cellsOf 123 = 4 := by kernel_rfl
  rcases open_slice Try.underlying95 h with ⟨rfl, _⟩ | ⟨a, len, cap, m, n, D, Pl, rfl, _, hl, hm, hmm, _, hi⟩
  · exact ⟨none, 0, [], rfl, Nat.le_refl _, Row.nil _ _ _ _⟩
  · have hml : len ≤ m := by rw [hmm]; split <;> omega
    rw [hC] at hi
    obtain ⟨xs, hx, hr⟩ := row_of (d := kAct) (W := W) (a := a) (len := len) (by simp only [_root_.Go.maxLen] at hm; omega) (by decide) (fun i hil => by
      obtain ⟨cs', hc, ht⟩ := hi i (by omega)
      obtain ⟨v0, v1, v2, v3, y0, y1, y2, y3, n', rfl, t0, t1, t2, t3⟩ := el_act ht
      obtain ⟨k, e0, i0⟩ := op_int t0
      obtain ⟨A1, d1, ds, e1, l1, r1⟩ := op_deeds t1
      obtain ⟨A2, d2, ks, e2, l2, r2⟩ := op_ints t2
      obtain ⟨r, e3, i3⟩ := op_int t3
      injection e0 with e0; injection e1 with e1; injection e2 with e2; injection e3 with e3
      subst e0; subst e1; subst e2; subst e3
      exact ⟨⟨k, ds, ks, r⟩, _, kAct_mk ⟨k, ds, ks, r⟩ l1 l2 r1 r2 i0 i3, el_cells hc⟩)
    subst hx
    exact ⟨some a, cap, xs, rfl, hl, hr⟩
theorem op_bodies (h : DataW.trod enc Try.prog W base spare held fuel 41 cs = some x) : ∃ A c, ∃ xs : List (List Act), cs = [.slice A xs.length c] ∧ xs.length ≤ c ∧ Row (Kd.slice kAct) W (fun k => k < W.heap.size) A xs := by
  have hC : Try.prog.cellsOf 95 = 1 := by kernel_rfl
  rcases open_slice Try.underlying41 h with ⟨rfl, _⟩ | ⟨a, len, cap, m, n, D, Pl, rfl, _, hl, hm, hmm, _, hi⟩
  · exact ⟨none, 0, [], rfl, Nat.le_refl _, Row.nil _ _ _ _⟩
  · have hml : len ≤ m := by rw [hmm]; split <;> omega
    rw [hC] at hi
    obtain ⟨xs, hx, hr⟩ := row_of (d := Kd.slice kAct) (W := W) (a := a) (len := len) (by simp only [_root_.Go.maxLen] at hm; omega) (by decide) (fun i hil => by
      obtain ⟨cs', hc, ht⟩ := hi i (by omega)
      obtain ⟨B, d1, ys, rfl, l1, r1⟩ := op_acts ht
      exact ⟨ys, _, ⟨B, d1, rfl, l1, r1⟩, el_cells hc⟩)
    subst hx
    exact ⟨some a, cap, xs, rfl, hl, hr⟩
end
end Go.Proofs.Ytcpabkfoalhldaa
namespace Go.Proofs
open Go.Shelf
def Try.laysBS_ren : Go.Shelf.Ren := ⟨fun | 25 => 75 | 31 => 97 | 32 => 98 | 37 => 125 | n => n, fun | 22 => 23 | 3 => 3 | 4 => 4 | 40 => 115 | 0 => 0 | n => n, fun | n => n⟩
theorem Try.laysBS : Go.Proofs.Lays2.n25 Try.prog Try.laysBS_ren := {
  mixed := by kernel_rfl
  f25 := Try.func75.trans (congrArg some (by kernel_rfl))
  f31 := Try.func97.trans (congrArg some (by kernel_rfl))
  f32 := Try.func98.trans (congrArg some (by kernel_rfl))
  f37 := Try.func125.trans (congrArg some (by kernel_rfl))
  t0 := Try.underlying0
  a0 := Try.isAgg0
  z0 := Try.sizeOf0
  v0 := Try.zeroValue0
  t3 := Try.underlying3
  a3 := Try.isAgg3
  z3 := Try.sizeOf3
  v3 := Try.zeroValue3
  t4 := Try.underlying4
  a4 := Try.isAgg4
  z4 := Try.sizeOf4
  v4 := Try.zeroValue4
  t22 := Try.underlying23
  a22 := Try.isAgg23
  z22 := Try.sizeOf23
  v22 := Try.zeroValue23
  t40 := Try.underlying115
  a40 := Try.isAgg115
  z40 := Try.sizeOf115
  v40 := Try.zeroValue115 }
def Try.laysIns_ren : Go.Shelf.Ren := ⟨fun | 21 => 76 | 27 => 99 | 28 => 100 | 35 => 126 | 39 => 141 | n => n, fun | 22 => 23 | 3 => 3 | 4 => 4 | 0 => 0 | n => n, fun | n => n⟩
theorem Try.laysIns : Go.Proofs.Lays2.n21 Try.prog Try.laysIns_ren := {
  mixed := by kernel_rfl
  f21 := Try.func76.trans (congrArg some (by kernel_rfl))
  f27 := Try.func99.trans (congrArg some (by kernel_rfl))
  f28 := Try.func100.trans (congrArg some (by kernel_rfl))
  f35 := Try.func126.trans (congrArg some (by kernel_rfl))
  f39 := Try.func141.trans (congrArg some (by kernel_rfl))
  t0 := Try.underlying0
  a0 := Try.isAgg0
  z0 := Try.sizeOf0
  v0 := Try.zeroValue0
  t3 := Try.underlying3
  a3 := Try.isAgg3
  z3 := Try.sizeOf3
  v3 := Try.zeroValue3
  t4 := Try.underlying4
  a4 := Try.isAgg4
  z4 := Try.sizeOf4
  v4 := Try.zeroValue4
  t22 := Try.underlying23
  a22 := Try.isAgg23
  z22 := Try.sizeOf23
  v22 := Try.zeroValue23
  i3 := by kernel_rfl }
end Go.Proofs
namespace Go.Proofs.Ytcpabkfoalhldaa
open Go.RowKit
set_option linter.unusedVariables false
set_option linter.unusedSimpArgs false

section
variable {w : World} {base : Nat} {S2 : Nat → Prop} {v : Value} {xs ys : List Int}
/-- 'append(v, ys...)' onto a row of numbers of the call's own. -/
theorem wpList_app_ints {ops : Array Oper} {rest : List Oper} {o : Oper} {a : Go.Act} {Q : Exit → Go.Act → World → Prop} (hgd : o.guard = none) (s x : Operand) (ho : o.op = .call { callee := .builtin .append, args := #[s, x], argTypes := #[23, 23] })
    (hs : a.eval s = v) (HO : OwnI 3 w base v xs) (A : Option Addr) (c : Nat) (hx : a.eval x = .slice A ys.length c) (HR : Row Kd.int w S2 A ys) (hne : ∀ k, S2 k → some k ≠ v.ownBlock) (hl : xs.length + ys.length ≤ 1000000) (hbase : base ≤ w.heap.size)
    (h : ∀ v' w', OwnI 3 w' base v' (xs ++ ys) → w.grownBy w' v.ownBlock → (v'.ownBlock = v.ownBlock ∨ v'.ownBlock = some w.heap.size) → wpList Try.prog ops Q rest (a.put o.dst v') w') : wpList Try.prog ops Q (o :: rest) a w :=
  wpList_append_kd (d := Kd.int) hgd s x 23 ho Try.underlying23 _ 8 infoInt rfl (by decide) (by decide) hs HO A c hx HR hne (by omega) hbase fun v' w' h1 h2 h3 => h v' w' (OwnI.of h1) h2 h3
end

/-- Two rows of numbers of the call's own, apart, in blocks of G. -/
structure Pair (G : Nat → Prop) (w : World) (base : Nat) (v u : Value) (xs ys : List Int) : Prop where
  a : OwnI 3 w base v xs
  b : OwnI 3 w base u ys
  ne : ∀ k, v.ownBlock = some k → u.ownBlock ≠ some k
  ga : ∀ k, v.ownBlock = some k → G k
  gb : ∀ k, u.ownBlock = some k → G k
section
variable {G G' : Nat → Prop} {w w' : World} {base : Nat} {v u v' : Value} {xs ys zs : List Int}
theorem Pair.symm (h : Pair G w base v u xs ys) : Pair G w base u v ys xs := ⟨h.b, h.a, fun k h1 h2 => h.ne k h2 h1, h.gb, h.ga⟩
theorem Pair.below (h : Pair G w base v u xs ys) (hb : Below w.heap.size w w') : Pair G w' base v u xs ys := ⟨h.a.belowAll hb, h.b.belowAll hb, h.ne, h.ga, h.gb⟩
theorem Pair.drew (h : Pair G w base v u xs ys) : Pair G w.drew base v u xs ys := h.below (Below.refl _ _).drew
theorem Pair.mono (hG : ∀ k, G k → k < w.heap.size → G' k) (h : Pair G w base v u xs ys) : Pair G' w base v u xs ys := ⟨h.a, h.b, h.ne, fun k hk => hG k (h.ga k hk) (h.a.blk k hk).2, fun k hk => hG k (h.gb k hk) (h.b.blk k hk).2⟩
/-- The first row grows. -/
theorem Pair.app (h : Pair G w base v u xs ys) (hg : w.grownBy w' v.ownBlock) (ho : OwnI 3 w' base v' zs) (hv : v'.ownBlock = v.ownBlock ∨ v'.ownBlock = some w.heap.size) (hG : G w.heap.size) : Pair G w' base v' u zs ys ∧ Keep G w w' := by
  refine ⟨⟨ho, h.b.grown hg (fun k hk e => h.ne k e.symm hk), fun k hk hu => ?_, fun k hk => ?_, h.gb⟩, Keep.of_grown hg h.ga⟩
  · rcases hv with e | e
    · exact h.ne k (by rw [← e]; exact hk) hu
    · rw [e] at hk
      injection hk with hk
      have := (h.b.blk k hu).2
      omega
  · rcases hv with e | e
    · exact h.ga k (by rw [← e]; exact hk)
    · rw [e] at hk
      injection hk with hk
      rw [← hk]; exact hG
end
end Go.Proofs.Ytcpabkfoalhldaa
