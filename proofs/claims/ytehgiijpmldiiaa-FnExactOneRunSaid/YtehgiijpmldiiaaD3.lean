/- The program does a change at once: where all is in form. -/
import Derived.Test.YtehgiijpmldiiaaD2
namespace Go.Proofs.Ytehgiijpmldiiaa
open Go.RowKit
set_option linter.unusedVariables false
set_option linter.unusedSimpArgs false

set_option maxHeartbeats 4000000 in
set_option maxRecDepth 100000 in
theorem implChangeDo_good (cells regs : List Int) (deeds : List Deed) (A B D : Option Addr) (ca cb cd : Nat) (w : World) (S : Nat → Prop) (hA : Row Kd.int w S A cells) (hB : Row Kd.int w S B regs) (hD : Row kDeed w S D deeds) (hok : deskOk cells regs deeds = true) :
    Calls Try.prog 66 #[.slice A cells.length ca, .slice B regs.length cb, .slice D deeds.length cd] w fun e w' => ResCDi (doDeeds (cells, regs) deeds) w.heap.size e w' ∧ Below w.heap.size w w' := by
  have hm := hA.1
  have hm3 := hD.1
  have hdesk := deskOk_desk hok
  have hok' := hok
  simp only [deskOk, Bool.and_eq_true, decide_eq_true_eq] at hok'
  obtain ⟨⟨h1, h2⟩, h3, h4⟩ := hok'
  have H1 := Lib.hid h1
  have H2 := Lib.hid h2
  have H3 := Lib.hid h3
  have H4 := Lib.hid h4
  have h5 : ((regs.length : Int) != 3) = false := by simp [h4]
  have HDK := Lib.hid hdesk
  have hcl := hdesk.2.2.2
  have hrl : regs.length ≤ 3 := by omega
  have hdl := hdesk.2.2.1
  clear h1 h2 h3 h4 hok hdesk
  go_enter Try.func66, Try.ntmps66
  go_wp2_with (first | (go_at_call 95; refine (changeOk_calls deeds _ _ _ _ S hD (by omega)).mono ?_; rintro e w1 ⟨rfl, hb1⟩; rw [H1.out]) | (go_at_call 62; with_reducible refine (allNums_calls cells _ _ _ S (hA.belowAll hb1)).mono ?_; rintro e w' ⟨rfl, rfl⟩; rw [H2.out]) | (go_at_call 62; refine (allNums_calls regs _ _ _ S (hB.belowAll hb1)).mono ?_; rintro e w' ⟨rfl, rfl⟩; rw [H3.out]) | (go_at_call 34; with_reducible refine (cloneInt_calls cells _ _ _ S (hA.belowAll hb1) (by omega)).mono ?_; rintro e w2 ⟨vc, rfl, hoc, hbc⟩; obtain ⟨Ac, cc, rfl, hcc, hrowc⟩ := OwnI.row hoc; clear hrowc) | (go_at_call 34; refine (cloneInt_calls regs _ _ _ S ((hB.belowAll hb1).belowAll hbc) (by omega)).mono ?_; rintro e w3 ⟨vr, rfl, hor, hbr3⟩; obtain ⟨gr, cr, rfl, hgr1, hgr2⟩ := OwnI.place hor (by have := H4.out; omega)) | (go_at_call 97; refine (does_calls _).mono ?_; rintro e w4 ⟨rfl, hb4⟩; unfold doesV fnV))
  have hwd : ∀ o, DeskAt (w3.alloc (Obj.cells #[.slice Ac cells.length cc, .slice (some ⟨gr, 0, none⟩) regs.length cr] o)) w.heap.size w3.heap.size (.slice Ac cells.length cc) (.slice (some ⟨gr, 0, none⟩) regs.length cr) cells regs := by
    intro o
    have hc3 : OwnI 3 w3 w.heap.size (.slice Ac cells.length cc) cells := (hoc.lower hb1.size).belowAll hbr3
    have hr3 : OwnI 3 w3 w.heap.size (.slice (some ⟨gr, 0, none⟩) regs.length cr) regs := hor.lower (by have := hb1.size; have := hbc.size; omega)
    refine ⟨by simp [go_sem], by simp [go_sem], hc3.al _, hr3.al _, fun k hk => ⟨by have := (hc3.blk k hk).2; omega, fun e => ?_⟩, fun k hk => by have := (hr3.blk k hk).2; omega, by simp⟩
    have := (hoc.blk k hk).2
    have := (hor.blk k e).1
    omega
  have hd4 := (hwd 158).keep (Keep.of_belowAll (fun _ => False) hb4) (fun h => h) (fun _ _ h => h) (fun _ _ h => h)
  have hB4 : Below w.heap.size w w4 := below_then (below_then (below_then hb1 hb1.size hbc) (by have := hb1.size; have := hbc.size; omega) hbr3 |>.alloc (by have := hb1.size; have := hbc.size; have := hbr3.size; omega) _) (by have := hb1.size; have := hbc.size; have := hbr3.size; simp; omega) hb4
  obtain ⟨W5, HW5⟩ : ∃ W5, W5 = w4.alloc (Obj.cells #[fnV 121, fnV 122, fnV 123, fnV 124, fnV 125, fnV 126] 160) := ⟨_, rfl⟩
  have hk5 : Keep (fun _ => False) w4 W5 := by rw [HW5]; exact (Keep.refl _ _).alloc _
  have hd5 := hd4.keep hk5 (fun h => h) (fun _ _ h => h) (fun _ _ h => h)
  have har5 : ∀ (i : Nat) (f : Value), [fnV 121, fnV 122, fnV 123, fnV 124, fnV 125, fnV 126][i]? = some f → W5.cell? ⟨w4.heap.size, i, none⟩ = some f := by
    intro i f h
    rw [HW5]; simp [go_sem]; exact h
  have hz5 : w4.heap.size < W5.heap.size := by rw [HW5]; simp
  have hB5 : Below w.heap.size w W5 := by rw [HW5]; exact hB4.alloc hB4.size _
  unfold fnV at HW5
  rw [← HW5]
  have HAR := Lib.hid har5
  have HZ5 := Lib.hid hz5
  have HD5 := Lib.hid hd5
  have hcz : ∀ k, Value.ownBlock (.slice Ac cells.length cc) = some k → w.heap.size ≤ k := fun k hk => (hd5.C.blk k hk).1
  have hrz : w.heap.size ≤ gr := (hd5.R.blk gr rfl).1
  have hne4 : (∀ k, Value.ownBlock (.slice Ac cells.length cc) = some k → k ≠ w4.heap.size) ∧ gr ≠ w4.heap.size := ⟨fun k hk => by have := (hd4.C.blk k hk).2; omega, by have := (hd4.R.blk gr rfl).2; omega⟩
  have HCZ := Lib.hid hcz
  have HNE := Lib.hid hne4
  clear HW5 hwd hd4 har5 hz5 hcz hne4 hk5
  go_loopw [41] (fun i wr => ∃ (k : Nat) (c r : List Int), k ≤ deeds.length ∧ i = .int .i64 k ∧ Hid (doDeeds (cells, regs) (deeds.take k) = some (c, r)) ∧ DeskAt wr w.heap.size w3.heap.size (.slice Ac cells.length cc) (.slice (some ⟨gr, 0, none⟩) regs.length cr) c r ∧ Keep (fun k => Value.ownBlock (.slice Ac cells.length cc) = some k ∨ Value.ownBlock (.slice (some ⟨gr, 0, none⟩) regs.length cr) = some k) W5 wr) (fun i _ => deeds.length - (intOf i).toNat)
  case atStart => exact ⟨0, cells, regs, Nat.zero_le _, rfl, by simp [Hid, doDeeds], hd5, Keep.refl _ _⟩
  case round =>
    obtain ⟨k, c, r, hk, rfl, HA, hda, hkr⟩ := hrel
    have hdk : Desk cells.length (c, r) := (HDK.out).1.deeds (by
      have := (HDK.out).2.1
      rw [List.all_eq_true] at this ⊢
      exact fun x hx => this x (List.mem_of_mem_take hx)) HA.out
    have hke : ∀ w7, Keep (fun k => Value.ownBlock (.slice Ac cells.length cc) = some k ∨ Value.ownBlock (.slice (some ⟨gr, 0, none⟩) regs.length cr) = some k) wr w7 → Keep (fun k => Value.ownBlock (.slice Ac cells.length cc) = some k ∨ Value.ownBlock (.slice (some ⟨gr, 0, none⟩) regs.length cr) = some k) W5 w7 := fun w7 h => hkr.trans h
    have hfin : ∀ w7, Keep (fun k => Value.ownBlock (.slice Ac cells.length cc) = some k ∨ Value.ownBlock (.slice (some ⟨gr, 0, none⟩) regs.length cr) = some k) wr w7 → Below w.heap.size w w7 := fun w7 h =>
      hB5.trans ((hke w7 h).below (fun q hq e => by
        rcases e with e | e
        · have := HCZ.out q e; omega
        · simp [Value.ownBlock] at e; omega) hB5.size)
    by_cases hlt : k < deeds.length
    · have hlar : w4.heap.size < wr.heap.size := Nat.lt_of_lt_of_le HZ5.out hkr.size
      have har : ∀ (i : Nat) (f : Value), [fnV 121, fnV 122, fnV 123, fnV 124, fnV 125, fnV 126][i]? = some f → wr.cell? ⟨w4.heap.size, i, none⟩ = some f := fun i f h =>
        (hkr.cell (p := ⟨w4.heap.size, i, none⟩) HZ5.out (fun e => by
          rcases e with e | e
          · exact HNE.out.1 _ e rfl
          · simp [Value.ownBlock] at e; exact HNE.out.2 e)).trans (HAR.out i f h)
      have hDr : Row kDeed wr S D deeds := hD.belowAll (by have := hfin wr (Keep.refl _ _); exact ⟨this.os, this.tape, this.output, this.size, this.block⟩)
      obtain ⟨ad, rfl, hl, hc1, hc2, hc4, hi1, hi2, hi3⟩ := at_deed hDr hlt
      have hdo : deedOk deeds[k] cells.length = true := by
        have := (HDK.out).2.1
        rw [List.all_eq_true] at this
        exact this _ (List.getElem_mem hlt)
      clear hDr
      rcases deedOk_kinds hdo with ⟨hkd, ha, hb⟩ | ⟨hkd, ha, hb⟩ | ⟨hkd, ha, hb⟩ | ⟨hkd, ha, hb⟩ | ⟨hkd, ha, hb⟩
      · obtain ⟨x, hx⟩ : ∃ x : Nat, deeds[k].a = (x : Int) := ⟨deeds[k].a.toNat, by omega⟩
        obtain ⟨y, hy⟩ : ∃ y : Nat, deeds[k].b = (y : Int) := ⟨deeds[k].b.toNat, by omega⟩
        rw [hkd] at hc1
        rw [hx] at hc2 ha
        rw [hy] at hc4 hb
        have he : deeds[k] = ⟨1, x, y⟩ := by
          cases hdq : deeds[k] with | mk a b c => rw [hdq] at hkd hx hy; simp at hkd hx hy; rw [hkd, hx, hy]
        have HE := Lib.hid he
        clear hkd hx hy he
        go_wp2
        obtain ⟨W6, HW⟩ : ∃ W6, W6 = wr.alloc (Obj.cells #[.int .i64 1, .int .i64 (x : Nat), .int .i64 (y : Nat)] 142) := ⟨_, rfl⟩
        have hk6 : Keep (fun _ => False) wr W6 := by rw [HW]; exact (Keep.refl _ _).alloc _
        have d0 : W6.cell? ⟨wr.heap.size, 0, none⟩ = some (.int .i64 1) := by rw [HW]; simp [go_sem]
        have d1 : W6.cell? ⟨wr.heap.size, 1, none⟩ = some (.int .i64 (x : Nat)) := by rw [HW]; simp [go_sem]
        have d2 : W6.cell? ⟨wr.heap.size, 2, none⟩ = some (.int .i64 (y : Nat)) := by rw [HW]; simp [go_sem]
        have dar := (hk6.cell (p := ⟨w4.heap.size, 1, none⟩) hlar (fun h => h)).trans (har 1 _ rfl)
        have hdw0 := hda.keep hk6 (fun h => h) (fun _ _ h => h) (fun _ _ h => h)
        have hdw := hdw0.keep (T := fun _ => False) ((Keep.refl _ W6).drewN 1) (fun h => h) (fun _ _ h => h) (fun _ _ h => h)
        rw [← HW]
        clear HW
        unfold fnV at dar
        go_still_tail 5, (by kernel_rfl)
        cases hdd : doDeed (c, r) ⟨1, x, y⟩
        · have HDD := Lib.hid hdd
          clear hdd
          go_wp2_with (go_at_call 122; refine (does2 hdw hdk x y (by omega) (by omega) hcl).mono ?_; rw [HDD.out]; rintro e w7 ⟨hk7, rfl, hd7⟩)
          go_ret3
          refine ⟨?_, hfin _ ((hk6.drewN 1).mono (fun _ h => h.elim) |>.trans hk7)⟩
          have : doDeeds (cells, regs) deeds = none := by
            refine doDeeds_none _ _ k hlt ?_
            rw [doDeeds_take _ _ _ hlt, HA.out, HE.out]; exact HDD.out
          rw [this]
          exact rfl
        · rename_i cr'
          have HDD := Lib.hid hdd
          clear hdd
          go_wp2_with (go_at_call 122; refine (does2 hdw hdk x y (by omega) (by omega) hcl).mono ?_; rw [HDD.out]; rintro e w7 ⟨hk7, rfl, hd7⟩)
          go_roundw
          case rel => exact ⟨k + 1, cr'.1, cr'.2, by omega, by go_num, by unfold Hid; rw [doDeeds_take _ _ _ hlt, HA.out, HE.out]; exact HDD.out, hd7, hke _ ((hk6.drewN 1).mono (fun _ h => h.elim) |>.trans hk7)⟩
          case measure => simp [intOf]; omega
      · obtain ⟨x, hx⟩ : ∃ x : Nat, deeds[k].a = (x : Int) := ⟨deeds[k].a.toNat, by omega⟩
        obtain ⟨y, hy⟩ : ∃ y : Nat, deeds[k].b = (y : Int) := ⟨deeds[k].b.toNat, by omega⟩
        rw [hkd] at hc1
        rw [hx] at hc2 ha
        rw [hy] at hc4 hb
        have he : deeds[k] = ⟨2, x, y⟩ := by
          cases hdq : deeds[k] with | mk a b c => rw [hdq] at hkd hx hy; simp at hkd hx hy; rw [hkd, hx, hy]
        have HE := Lib.hid he
        clear hkd hx hy he
        go_wp2
        obtain ⟨W6, HW⟩ : ∃ W6, W6 = wr.alloc (Obj.cells #[.int .i64 2, .int .i64 (x : Nat), .int .i64 (y : Nat)] 142) := ⟨_, rfl⟩
        have hk6 : Keep (fun _ => False) wr W6 := by rw [HW]; exact (Keep.refl _ _).alloc _
        have d0 : W6.cell? ⟨wr.heap.size, 0, none⟩ = some (.int .i64 2) := by rw [HW]; simp [go_sem]
        have d1 : W6.cell? ⟨wr.heap.size, 1, none⟩ = some (.int .i64 (x : Nat)) := by rw [HW]; simp [go_sem]
        have d2 : W6.cell? ⟨wr.heap.size, 2, none⟩ = some (.int .i64 (y : Nat)) := by rw [HW]; simp [go_sem]
        have dar := (hk6.cell (p := ⟨w4.heap.size, 2, none⟩) hlar (fun h => h)).trans (har 2 _ rfl)
        have hdw0 := hda.keep hk6 (fun h => h) (fun _ _ h => h) (fun _ _ h => h)
        have hdw := hdw0.keep (T := fun _ => False) ((Keep.refl _ W6).drewN 1) (fun h => h) (fun _ _ h => h) (fun _ _ h => h)
        rw [← HW]
        clear HW
        unfold fnV at dar
        go_still_tail 5, (by kernel_rfl)
        cases hdd : doDeed (c, r) ⟨2, x, y⟩
        · have HDD := Lib.hid hdd
          clear hdd
          go_wp2_with (go_at_call 123; refine (does3 hdw hdk x y (by omega) (by omega) hcl).mono ?_; rw [HDD.out]; rintro e w7 ⟨hk7, rfl, hd7⟩)
          go_ret3
          refine ⟨?_, hfin _ ((hk6.drewN 1).mono (fun _ h => h.elim) |>.trans hk7)⟩
          have : doDeeds (cells, regs) deeds = none := by
            refine doDeeds_none _ _ k hlt ?_
            rw [doDeeds_take _ _ _ hlt, HA.out, HE.out]; exact HDD.out
          rw [this]
          exact rfl
        · rename_i cr'
          have HDD := Lib.hid hdd
          clear hdd
          go_wp2_with (go_at_call 123; refine (does3 hdw hdk x y (by omega) (by omega) hcl).mono ?_; rw [HDD.out]; rintro e w7 ⟨hk7, rfl, hd7⟩)
          go_roundw
          case rel => exact ⟨k + 1, cr'.1, cr'.2, by omega, by go_num, by unfold Hid; rw [doDeeds_take _ _ _ hlt, HA.out, HE.out]; exact HDD.out, hd7, hke _ ((hk6.drewN 1).mono (fun _ h => h.elim) |>.trans hk7)⟩
          case measure => simp [intOf]; omega
      · obtain ⟨x, hx⟩ : ∃ x : Nat, deeds[k].a = (x : Int) := ⟨deeds[k].a.toNat, by omega⟩
        obtain ⟨y, hy⟩ : ∃ y : Nat, deeds[k].b = (y : Int) := ⟨deeds[k].b.toNat, by omega⟩
        rw [hkd] at hc1
        rw [hx] at hc2 ha
        rw [hy] at hc4 hb
        have he : deeds[k] = ⟨3, x, y⟩ := by
          cases hdq : deeds[k] with | mk a b c => rw [hdq] at hkd hx hy; simp at hkd hx hy; rw [hkd, hx, hy]
        have HE := Lib.hid he
        clear hkd hx hy he
        go_wp2
        obtain ⟨W6, HW⟩ : ∃ W6, W6 = wr.alloc (Obj.cells #[.int .i64 3, .int .i64 (x : Nat), .int .i64 (y : Nat)] 142) := ⟨_, rfl⟩
        have hk6 : Keep (fun _ => False) wr W6 := by rw [HW]; exact (Keep.refl _ _).alloc _
        have d0 : W6.cell? ⟨wr.heap.size, 0, none⟩ = some (.int .i64 3) := by rw [HW]; simp [go_sem]
        have d1 : W6.cell? ⟨wr.heap.size, 1, none⟩ = some (.int .i64 (x : Nat)) := by rw [HW]; simp [go_sem]
        have d2 : W6.cell? ⟨wr.heap.size, 2, none⟩ = some (.int .i64 (y : Nat)) := by rw [HW]; simp [go_sem]
        have dar := (hk6.cell (p := ⟨w4.heap.size, 3, none⟩) hlar (fun h => h)).trans (har 3 _ rfl)
        have hdw0 := hda.keep hk6 (fun h => h) (fun _ _ h => h) (fun _ _ h => h)
        have hdw := hdw0.keep (T := fun _ => False) ((Keep.refl _ W6).drewN 1) (fun h => h) (fun _ _ h => h) (fun _ _ h => h)
        rw [← HW]
        clear HW
        unfold fnV at dar
        go_still_tail 5, (by kernel_rfl)
        cases hdd : doDeed (c, r) ⟨3, x, y⟩
        · have HDD := Lib.hid hdd
          clear hdd
          go_wp2_with (go_at_call 124; refine (does4 hdw hdk x y (by omega) (by omega) hcl).mono ?_; rw [HDD.out]; rintro e w7 ⟨hk7, rfl, hd7⟩)
          go_ret3
          refine ⟨?_, hfin _ ((hk6.drewN 1).mono (fun _ h => h.elim) |>.trans hk7)⟩
          have : doDeeds (cells, regs) deeds = none := by
            refine doDeeds_none _ _ k hlt ?_
            rw [doDeeds_take _ _ _ hlt, HA.out, HE.out]; exact HDD.out
          rw [this]
          exact rfl
        · rename_i cr'
          have HDD := Lib.hid hdd
          clear hdd
          go_wp2_with (go_at_call 124; refine (does4 hdw hdk x y (by omega) (by omega) hcl).mono ?_; rw [HDD.out]; rintro e w7 ⟨hk7, rfl, hd7⟩)
          go_roundw
          case rel => exact ⟨k + 1, cr'.1, cr'.2, by omega, by go_num, by unfold Hid; rw [doDeeds_take _ _ _ hlt, HA.out, HE.out]; exact HDD.out, hd7, hke _ ((hk6.drewN 1).mono (fun _ h => h.elim) |>.trans hk7)⟩
          case measure => simp [intOf]; omega
      · obtain ⟨x, hx⟩ : ∃ x : Nat, deeds[k].a = (x : Int) := ⟨deeds[k].a.toNat, by omega⟩
        obtain ⟨y, hy⟩ : ∃ y : Nat, deeds[k].b = (y : Int) := ⟨deeds[k].b.toNat, by omega⟩
        rw [hkd] at hc1
        rw [hx] at hc2 ha
        rw [hy] at hc4 hb
        have he : deeds[k] = ⟨4, x, y⟩ := by
          cases hdq : deeds[k] with | mk a b c => rw [hdq] at hkd hx hy; simp at hkd hx hy; rw [hkd, hx, hy]
        have HE := Lib.hid he
        clear hkd hx hy he
        go_wp2
        obtain ⟨W6, HW⟩ : ∃ W6, W6 = wr.alloc (Obj.cells #[.int .i64 4, .int .i64 (x : Nat), .int .i64 (y : Nat)] 142) := ⟨_, rfl⟩
        have hk6 : Keep (fun _ => False) wr W6 := by rw [HW]; exact (Keep.refl _ _).alloc _
        have d0 : W6.cell? ⟨wr.heap.size, 0, none⟩ = some (.int .i64 4) := by rw [HW]; simp [go_sem]
        have d1 : W6.cell? ⟨wr.heap.size, 1, none⟩ = some (.int .i64 (x : Nat)) := by rw [HW]; simp [go_sem]
        have d2 : W6.cell? ⟨wr.heap.size, 2, none⟩ = some (.int .i64 (y : Nat)) := by rw [HW]; simp [go_sem]
        have dar := (hk6.cell (p := ⟨w4.heap.size, 4, none⟩) hlar (fun h => h)).trans (har 4 _ rfl)
        have hdw0 := hda.keep hk6 (fun h => h) (fun _ _ h => h) (fun _ _ h => h)
        have hdw := hdw0.keep (T := fun _ => False) ((Keep.refl _ W6).drewN 1) (fun h => h) (fun _ _ h => h) (fun _ _ h => h)
        rw [← HW]
        clear HW
        unfold fnV at dar
        go_still_tail 5, (by kernel_rfl)
        cases hdd : doDeed (c, r) ⟨4, x, y⟩
        · have HDD := Lib.hid hdd
          clear hdd
          go_wp2_with (go_at_call 125; refine (does5 hdw hdk x y (by omega) (by omega) hcl).mono ?_; rw [HDD.out]; rintro e w7 ⟨hk7, rfl, hd7⟩)
          go_ret3
          refine ⟨?_, hfin _ ((hk6.drewN 1).mono (fun _ h => h.elim) |>.trans hk7)⟩
          have : doDeeds (cells, regs) deeds = none := by
            refine doDeeds_none _ _ k hlt ?_
            rw [doDeeds_take _ _ _ hlt, HA.out, HE.out]; exact HDD.out
          rw [this]
          exact rfl
        · rename_i cr'
          have HDD := Lib.hid hdd
          clear hdd
          go_wp2_with (go_at_call 125; refine (does5 hdw hdk x y (by omega) (by omega) hcl).mono ?_; rw [HDD.out]; rintro e w7 ⟨hk7, rfl, hd7⟩)
          go_roundw
          case rel => exact ⟨k + 1, cr'.1, cr'.2, by omega, by go_num, by unfold Hid; rw [doDeeds_take _ _ _ hlt, HA.out, HE.out]; exact HDD.out, hd7, hke _ ((hk6.drewN 1).mono (fun _ h => h.elim) |>.trans hk7)⟩
          case measure => simp [intOf]; omega
      · obtain ⟨x, hx⟩ : ∃ x : Nat, deeds[k].a = (x : Int) := ⟨deeds[k].a.toNat, by omega⟩
        have hy := hb
        rw [hkd] at hc1
        rw [hx] at hc2 ha
        rw [hy] at hc4
        have he : deeds[k] = ⟨5, x, 0⟩ := by
          cases hdq : deeds[k] with | mk a b c => rw [hdq] at hkd hx hy; simp at hkd hx hy; rw [hkd, hx, hy]
        have HE := Lib.hid he
        clear hkd hx hy he hb
        go_wp2
        obtain ⟨W6, HW⟩ : ∃ W6, W6 = wr.alloc (Obj.cells #[.int .i64 5, .int .i64 (x : Nat), .int .i64 0] 142) := ⟨_, rfl⟩
        have hk6 : Keep (fun _ => False) wr W6 := by rw [HW]; exact (Keep.refl _ _).alloc _
        have d0 : W6.cell? ⟨wr.heap.size, 0, none⟩ = some (.int .i64 5) := by rw [HW]; simp [go_sem]
        have d1 : W6.cell? ⟨wr.heap.size, 1, none⟩ = some (.int .i64 (x : Nat)) := by rw [HW]; simp [go_sem]
        have d2 : W6.cell? ⟨wr.heap.size, 2, none⟩ = some (.int .i64 0) := by rw [HW]; simp [go_sem]
        have dar := (hk6.cell (p := ⟨w4.heap.size, 5, none⟩) hlar (fun h => h)).trans (har 5 _ rfl)
        have hdw0 := hda.keep hk6 (fun h => h) (fun _ _ h => h) (fun _ _ h => h)
        have hdw := hdw0.keep (T := fun _ => False) ((Keep.refl _ W6).drewN 1) (fun h => h) (fun _ _ h => h) (fun _ _ h => h)
        rw [← HW]
        clear HW
        unfold fnV at dar
        go_still_tail 5, (by kernel_rfl)
        cases hdd : doDeed (c, r) ⟨5, x, 0⟩
        · have HDD := Lib.hid hdd
          clear hdd
          go_wp2_with (go_at_call 126; refine (does6 hdw hdk x (by omega) hcl).mono ?_; rw [HDD.out]; rintro e w7 ⟨hk7, rfl, hd7⟩)
          go_ret3
          refine ⟨?_, hfin _ ((hk6.drewN 1).mono (fun _ h => h.elim) |>.trans hk7)⟩
          have : doDeeds (cells, regs) deeds = none := by
            refine doDeeds_none _ _ k hlt ?_
            rw [doDeeds_take _ _ _ hlt, HA.out, HE.out]; exact HDD.out
          rw [this]
          exact rfl
        · rename_i cr'
          have HDD := Lib.hid hdd
          clear hdd
          go_wp2_with (go_at_call 126; refine (does6 hdw hdk x (by omega) hcl).mono ?_; rw [HDD.out]; rintro e w7 ⟨hk7, rfl, hd7⟩)
          go_roundw
          case rel => exact ⟨k + 1, cr'.1, cr'.2, by omega, by go_num, by unfold Hid; rw [doDeeds_take _ _ _ hlt, HA.out, HE.out]; exact HDD.out, hd7, hke _ ((hk6.drewN 1).mono (fun _ h => h.elim) |>.trans hk7)⟩
          case measure => simp [intOf]; omega
    · have e0 := hda.c0
      have e1 := hda.c1
      go_wp2
      go_quiet (fail)
      go_wp2
      go_ret3
      refine ⟨?_, (hfin wr (Keep.refl _ _)).trans (below_drewN' (Below.refl _ _) _)⟩
      have := HA.out
      rw [List.take_of_length_le (by omega)] at this
      rw [this]
      exact ⟨_, _, rfl, hda.C.drewN _, hda.R.drewN _, fun q hq => (hda.gc q hq).2⟩
end Go.Proofs.Ytehgiijpmldiiaa
