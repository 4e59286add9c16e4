/- The reference does a change at once: all of it. -/
import Derived.Test.YtehgiijpmldiiaaC1
namespace Go.Proofs.Ytehgiijpmldiiaa
open Go.RowKit
set_option linter.unusedVariables false
set_option linter.unusedSimpArgs false

/-- What comes back of a change: rows of the call's own. -/
def ResCD (r : Option (List Int × List Int)) (B : Nat) (e : Ending) (w' : World) : Prop :=
  match r with
  | none => ∃ vc vr, e = .returned (.tuple #[vc, vr, .bool false]) ∧ OwnI 3 w' B vc [] ∧ OwnI 3 w' B vr []
  | some (c, r) => ∃ vc vr, e = .returned (.tuple #[vc, vr, .bool true]) ∧ OwnI 3 w' B vc c ∧ OwnI 3 w' B vr r ∧ ∀ k, vc.ownBlock = some k → vr.ownBlock ≠ some k

set_option maxHeartbeats 2000000 in
set_option maxRecDepth 100000 in
theorem specChangeDo_bad (cells regs : List Int) (deeds : List Deed) (A B D : Option Addr) (ca cb cd : Nat) (w : World) (S : Nat → Prop) (hA : Row Kd.int w S A cells) (hB : Row Kd.int w S B regs) (hD : Row kDeed w S D deeds) (hbad : deskOk cells regs deeds = false) :
    Calls Try.prog 61 #[.slice A cells.length ca, .slice B regs.length cb, .slice D deeds.length cd] w fun e w' => ResCD none w.heap.size e w' ∧ Below w.heap.size w w' := by
  have hm := hA.1
  cases h1 : changeOk deeds cells.length
  · have H1 := Lib.hid h1
    clear h1 hbad
    go_enter Try.func61, Try.ntmps61
    go_wp2_with (go_at_call 91; refine (specChangeOk_calls deeds _ _ _ _ S hD (by omega) (by omega)).mono ?_; rintro e w1 ⟨rfl, hb1⟩; rw [H1.out])
    go_ret3
    refine ⟨⟨_, _, rfl, ?_, ?_⟩, (hb1.alloc hb1.size _).alloc (by have := hb1.size; simp; omega) _⟩
    · exact (ownI_empty _ _ _ hb1.size).al _
    · exact ownI_empty2 _ _ _ _ hb1.size
  · cases h2 : numsOk cells
    · have H1 := Lib.hid h1
      have H2 := Lib.hid h2
      clear h1 h2 hbad
      go_enter Try.func61, Try.ntmps61
      go_wp2_with (first | (go_at_call 91; refine (specChangeOk_calls deeds _ _ _ _ S hD (by omega) (by omega)).mono ?_; rintro e w1 ⟨rfl, hb1⟩; rw [H1.out]) | (go_at_call 92; refine (l2Nums_calls cells _ _ _ _ S (hA.belowAll hb1)).mono ?_; rintro e w' ⟨rfl, rfl⟩; rw [H2.out, Bool.false_and]))
      go_ret3
      refine ⟨⟨_, _, rfl, ?_, ?_⟩, (hb1.alloc hb1.size _).alloc (by have := hb1.size; simp; omega) _⟩
      · exact (ownI_empty _ _ _ hb1.size).al _
      · exact ownI_empty2 _ _ _ _ hb1.size
    · have h3 : (numsOk regs && ((regs.length : Int) == 3)) = false := by
        simp only [deskOk, h1, h2, Bool.true_and] at hbad
        rw [← hbad]; congr 1; rw [Bool.eq_iff_iff]; simp; omega
      have H1 := Lib.hid h1
      have H2 := Lib.hid h2
      have H3 := Lib.hid h3
      clear h1 h2 h3 hbad
      go_enter Try.func61, Try.ntmps61
      go_wp2_with (first | (go_at_call 91; refine (specChangeOk_calls deeds _ _ _ _ S hD (by omega) (by omega)).mono ?_; rintro e w1 ⟨rfl, hb1⟩; rw [H1.out]) | (go_at_call 92; with_reducible refine (l2Nums_calls regs 3 _ _ _ S (hB.belowAll hb1)).mono ?_; rintro e w' ⟨rfl, rfl⟩; rw [H3.out]) | (go_at_call 92; refine (l2Nums_calls cells _ _ _ _ S (hA.belowAll hb1)).mono ?_; rintro e w' ⟨rfl, rfl⟩; rw [H2.out, Bool.true_and, show ((cells.length : Int) == cells.length) = true from beq_self_eq_true _]))
      go_ret3
      refine ⟨⟨_, _, rfl, ?_, ?_⟩, (hb1.alloc hb1.size _).alloc (by have := hb1.size; simp; omega) _⟩
      · exact (ownI_empty _ _ _ hb1.size).al _
      · exact ownI_empty2 _ _ _ _ hb1.size

set_option maxHeartbeats 2000000 in
set_option maxRecDepth 100000 in
theorem specChangeDo_good (cells regs : List Int) (deeds : List Deed) (A B D : Option Addr) (ca cb cd : Nat) (w : World) (S : Nat → Prop) (hA : Row Kd.int w S A cells) (hB : Row Kd.int w S B regs) (hD : Row kDeed w S D deeds) (hok : deskOk cells regs deeds = true) :
    Calls Try.prog 61 #[.slice A cells.length ca, .slice B regs.length cb, .slice D deeds.length cd] w fun e w' => ResCD (doDeeds (cells, regs) deeds) w.heap.size e w' ∧ Below w.heap.size w w' := by
  have hm := hA.1
  have hdesk := deskOk_desk hok
  have hok' := hok
  simp only [deskOk, Bool.and_eq_true, decide_eq_true_eq] at hok'
  obtain ⟨⟨h1, h2⟩, h3, h4⟩ := hok'
  have H1 := Lib.hid h1
  have H2 := Lib.hid h2
  have H3 := Lib.hid h3
  have H4 := Lib.hid h4
  have HDK := Lib.hid hdesk
  have hcl := hdesk.2.2.2
  have hrl : regs.length ≤ 3 := by omega
  have hdl := hdesk.2.2.1
  clear h1 h2 h3 h4 hok hdesk
  go_enter Try.func61, Try.ntmps61
  go_wp2_with (first | (go_at_call 91; refine (specChangeOk_calls deeds _ _ _ _ S hD (by omega) (by omega)).mono ?_; rintro e w1 ⟨rfl, hb1⟩; rw [H1.out]) | (go_at_call 92; with_reducible refine (l2Nums_calls regs 3 _ _ _ S (hB.belowAll hb1)).mono ?_; rintro e w' ⟨rfl, rfl⟩; rw [H3.out, Bool.true_and, show ((regs.length : Int) == 3) = true from by have := H4.out; simp; omega]) | (go_at_call 92; refine (l2Nums_calls cells _ _ _ _ S (hA.belowAll hb1)).mono ?_; rintro e w' ⟨rfl, rfl⟩; rw [H2.out, Bool.true_and, show ((cells.length : Int) == cells.length) = true from beq_self_eq_true _]) | (at_builtin; refine wpList_clone_kd (d := Kd.int) rfl (.tmp 32) (.tmp 33) _ rfl Try.underlying23 _ 8 infoInt rfl (by decide) (by decide) rfl A ca rfl (hA.belowAll hb1) (by omega) ?_; intro vc w2 hoc hbc) | (at_builtin; refine wpList_clone_kd (d := Kd.int) rfl (.tmp 35) (.tmp 36) _ rfl Try.underlying23 _ 8 infoInt rfl (by decide) (by decide) rfl B cb rfl ((hB.belowAll hb1).belowAll hbc) (by omega) ?_; intro vr w3 hor hbr3))
  have HC0 : OwnI 3 w3 w.heap.size vc cells := ((OwnI.of hoc).lower hb1.size).belowAll hbr3
  have HR0 : OwnI 3 w3 w.heap.size vr regs := (OwnI.of hor).lower (by have := hb1.size; have := hbc.size; omega)
  have hdis : ∀ k, vc.ownBlock = some k → vr.ownBlock ≠ some k := by
    intro k h1 h2
    have := (OwnI.of hoc).blk k h1
    have := (OwnI.of hor).blk k h2
    omega
  have hB3 : Below w.heap.size w w3 := below_then (below_then hb1 hb1.size hbc) (by have := hb1.size; have := hbc.size; omega) hbr3
  obtain ⟨gr, cr, hvr, hgr1, hgr2⟩ := HR0.place (by have := H4.out; omega)
  have hrl3 : regs.length = 3 := H4.out
  rw [hrl3] at hvr
  subst hvr
  obtain ⟨Ac, cc, hvc, hcc, _⟩ := HC0.row
  have hgc : 0 < cells.length → ∃ g, Ac = some ⟨g, 0, none⟩ ∧ g ≠ gr := by
    intro h0
    obtain ⟨g, c, h1, h2, h3⟩ := HC0.place h0
    rw [hvc] at h1
    injection h1 with h1
    refine ⟨g, h1, fun e => hdis g (by rw [hvc, h1]; rfl) (by rw [e]; rfl)⟩
  subst hvc
  have hm3 := hD.1
  have HDIS := Lib.hid hdis
  clear hdis hoc hor hb1 hbc hbr3 hrl3
  go_loopw [11] (fun i wr => ∃ (k : Nat) (c r : List Int), k ≤ deeds.length ∧ i = .int .i64 k ∧ Hid (doDeeds (cells, regs) (deeds.take k) = some (c, r)) ∧ OwnI 3 wr w.heap.size (.slice Ac cells.length cc) c ∧ OwnI 3 wr w.heap.size (.slice (some ⟨gr, 0, none⟩) 3 cr) r ∧ Below w.heap.size w wr) (fun i _ => deeds.length - (intOf i).toNat)
  case atStart => exact ⟨0, cells, regs, Nat.zero_le _, rfl, by simp [Hid, doDeeds], HC0, HR0, hB3⟩
  case round =>
    obtain ⟨k, c, r, hk, rfl, HA, HC, HR, hbr⟩ := hrel
    have hdk : Desk cells.length (c, r) := (HDK.out).1.deeds (by
      have := (HDK.out).2.1
      rw [List.all_eq_true] at this ⊢
      exact fun x hx => this x (List.mem_of_mem_take hx)) HA.out
    have hcl2 : c.length = cells.length := hdk.cl
    have hrl2 : r.length = 3 := hdk.rl
    by_cases hlt : k < deeds.length
    · obtain ⟨ad, rfl, hl, hc1, hc2, hc4, hi1, hi2, hi3⟩ := at_deed (hD.belowAll hbr) hlt
      have hdo : deedOk deeds[k] cells.length = true := by
        have := (HDK.out).2.1
        rw [List.all_eq_true] at this
        exact this _ (List.getElem_mem hlt)
      have hnext : ∀ cr', doDeed (c, r) deeds[k] = some cr' → Hid (doDeeds (cells, regs) (deeds.take (k + 1)) = some (cr'.1, cr'.2)) := by
        intro cr' h
        unfold Hid
        rw [doDeeds_take _ _ _ hlt, HA.out]; exact h
      have hnone : doDeed (c, r) deeds[k] = none → Hid (doDeeds (cells, regs) deeds = none) := by
        intro h
        unfold Hid
        refine doDeeds_none _ _ k hlt ?_
        rw [doDeeds_take _ _ _ hlt, HA.out]; exact h
      have HN := Lib.hid hnext
      have HNN := Lib.hid hnone
      have HL := Lib.hid hcl2
      have hnone' := HNN.out
      clear hnext hnone hcl2
      rcases deedOk_kinds hdo with ⟨hkd, ha, hb⟩ | ⟨hkd, ha, hb⟩ | ⟨hkd, ha, hb⟩ | ⟨hkd, ha, hb⟩ | ⟨hkd, ha, hb⟩

      · -- kind 1
        have ha0 := ha.1
        have hb0 := hb.1
        obtain ⟨x, hx⟩ : ∃ x : Nat, deeds[k].a = (x : Int) := ⟨deeds[k].a.toNat, by omega⟩
        obtain ⟨y, hy⟩ : ∃ y : Nat, deeds[k].b = (y : Int) := ⟨deeds[k].b.toNat, by omega⟩
        rw [hkd] at hc1
        rw [hx] at hc2 ha
        rw [hy] at hc4 hb
        obtain ⟨gc, rfl, hne⟩ := hgc (by omega)
        have hyl : y < c.length := by rw [HL.out]; omega
        rw [← hdk.cl] at HC
        rw [hdk.cl] at HC
        have H1 := Lib.hid hkd; have H2 := Lib.hid hx; have H3 := Lib.hid hy
        clear hkd hx hy
        go_wp2
        obtain ⟨W2, HW⟩ : ∃ W2, W2 = wr.alloc (Obj.cells #[.int .i64 1, .int .i64 (x : Nat), .int .i64 (y : Nat)] 142) := ⟨_, rfl⟩
        have hbw : Below w.heap.size w W2 := by rw [HW]; exact hbr.alloc hbr.size _
        have HC2 : OwnI 3 W2 w.heap.size (.slice (some ⟨gc, 0, none⟩) cells.length cc) c := by rw [HW]; exact HC.al _
        have HR2 : OwnI 3 W2 w.heap.size (.slice (some ⟨gr, 0, none⟩) 3 cr) r := by rw [HW]; exact HR.al _
        have d0 : W2.cell? ⟨wr.heap.size, 0, none⟩ = some (.int .i64 1) := by rw [HW]; simp [go_sem]
        have d1 : W2.cell? ⟨wr.heap.size, 1, none⟩ = some (.int .i64 (x : Nat)) := by rw [HW]; simp [go_sem]
        have d2 : W2.cell? ⟨wr.heap.size, 2, none⟩ = some (.int .i64 (y : Nat)) := by rw [HW]; simp [go_sem]
        have hc2' := HC2
        rw [← hdk.cl] at hc2'
        have hr2' := HR2
        rw [← hrl2] at hr2'
        have hxl : x < r.length := by omega
        obtain ⟨hcy, hfy⟩ := hc2'.cell hyl
        obtain ⟨hrx, hfx⟩ := hr2'.cell hxl
        have hcI := HC2.all y hyl
        rw [← HW]
        clear HW hc2' hr2'
        have x1 : (x : Int) < 3 := by omega
        have x2 : (0 : Int) ≤ x := by omega
        have y1 : (y : Int) < cells.length := by omega
        have y2 : (0 : Int) ≤ y := by omega
        have hdd : doDeed (c, r) deeds[k] = some (c, r.set x c[y]) := by simp [doDeed, H1.out, H2.out, H3.out, rdI, hyl]
        have HDD := Lib.hid hdd
        have HL3 := Lib.hid hrl2
        clear hdd hrl2
        go_still_tail 9, (by kernel_rfl)
        go_wp2
        go_roundw
        case rel =>
          refine ⟨k + 1, c, r.set x c[y], by omega, by go_num, HN.out _ HDD.out, (HC2.drewN _).far (fun q hq => ?_) _, ?_, (below_drewN' hbw _).setCell hgr1 _⟩
          · simp [Value.ownBlock] at hq; subst hq; exact hne
          · have hr3 := HR2.drewN 1
            rw [← HL3.out] at hr3 ⊢
            exact hr3.set_ hxl _ hcI
        case measure => simp [intOf]; omega

      · -- kind 2
        have ha0 := ha.1
        have hb0 := hb.1
        obtain ⟨x, hx⟩ : ∃ x : Nat, deeds[k].a = (x : Int) := ⟨deeds[k].a.toNat, by omega⟩
        obtain ⟨y, hy⟩ : ∃ y : Nat, deeds[k].b = (y : Int) := ⟨deeds[k].b.toNat, by omega⟩
        rw [hkd] at hc1
        rw [hx] at hc2 ha
        rw [hy] at hc4 hb

        obtain ⟨gc, rfl, hne⟩ := hgc (by omega)
        have hxl : x < c.length := by rw [HL.out]; omega
        have H1 := Lib.hid hkd; have H2 := Lib.hid hx; have H3 := Lib.hid hy
        clear hkd hx hy
        go_wp2
        obtain ⟨W2, HW⟩ : ∃ W2, W2 = wr.alloc (Obj.cells #[.int .i64 2, .int .i64 (x : Nat), .int .i64 (y : Nat)] 142) := ⟨_, rfl⟩
        have hbw : Below w.heap.size w W2 := by rw [HW]; exact hbr.alloc hbr.size _
        have HC2 : OwnI 3 W2 w.heap.size (.slice (some ⟨gc, 0, none⟩) cells.length cc) c := by rw [HW]; exact HC.al _
        have HR2 : OwnI 3 W2 w.heap.size (.slice (some ⟨gr, 0, none⟩) 3 cr) r := by rw [HW]; exact HR.al _
        have d0 : W2.cell? ⟨wr.heap.size, 0, none⟩ = some (.int .i64 2) := by rw [HW]; simp [go_sem]
        have d1 : W2.cell? ⟨wr.heap.size, 1, none⟩ = some (.int .i64 (x : Nat)) := by rw [HW]; simp [go_sem]
        have d2 : W2.cell? ⟨wr.heap.size, 2, none⟩ = some (.int .i64 (y : Nat)) := by rw [HW]; simp [go_sem]
        have hc2' := HC2
        rw [← hdk.cl] at hc2'
        have hr2' := HR2
        rw [← hrl2] at hr2'
        have hyl : y < r.length := by omega
        obtain ⟨hcy, hfy⟩ := hc2'.cell hxl
        obtain ⟨hrx, hfx⟩ := hr2'.cell hyl
        have hcI := HR2.all y hyl
        rw [← HW]
        clear HW hc2' hr2'
        have x1 : (x : Int) < cells.length := by omega
        have x2 : (0 : Int) ≤ x := by omega
        have y1 : (y : Int) < 3 := by omega
        have y2 : (0 : Int) ≤ y := by omega
        have hdd : doDeed (c, r) deeds[k] = some (c.set x r[y], r) := by simp [doDeed, H1.out, H2.out, H3.out, rdI, hyl]
        have HDD := Lib.hid hdd
        clear hdd hrl2
        have hgc1 : w.heap.size ≤ gc := (HC2.blk gc rfl).1
        go_still_tail 9, (by kernel_rfl)
        go_wp2
        go_roundw
        case rel =>
          refine ⟨k + 1, c.set x r[y], r, by omega, by go_num, HN.out _ HDD.out, ?_, (HR2.drewN _).far (fun q hq => ?_) _, (below_drewN' hbw _).setCell hgc1 _⟩
          · have hr3 := HC2.drewN 1
            rw [← HL.out] at hr3 ⊢
            exact hr3.set_ hxl _ hcI
          · simp [Value.ownBlock] at hq; subst hq; exact fun e => hne e.symm
        case measure => simp [intOf]; omega
      · -- kind 3
        have ha0 := ha.1
        have hb0 := hb.1
        obtain ⟨x, hx⟩ : ∃ x : Nat, deeds[k].a = (x : Int) := ⟨deeds[k].a.toNat, by omega⟩
        obtain ⟨y, hy⟩ : ∃ y : Nat, deeds[k].b = (y : Int) := ⟨deeds[k].b.toNat, by omega⟩
        rw [hkd] at hc1
        rw [hx] at hc2 ha
        rw [hy] at hc4 hb

        have H1 := Lib.hid hkd; have H2 := Lib.hid hx; have H3 := Lib.hid hy
        have hrn := hdk.r
        have HL3 := Lib.hid hrl2
        have HRN := Lib.hid hrn
        clear hkd hx hy hrl2 hrn
        go_wp2_with (go_at_call 93; refine (l2Reg_calls 3 x y r _ w.heap.size _ HL3.out (HR.al _) HRN.out (by left; simp [inR] <;> omega)).mono ?_; rintro e w4 ⟨rfl, r', hd', hr', hg'⟩)
        go_roundw
        case rel =>
          have hdd : doDeed (c, r) deeds[k] = some (c, r') := by
            have e : deeds[k] = ⟨3, x, y⟩ := by
              have h1 := H1.out; have h2 := H2.out; have h3 := H3.out
              cases hdq : deeds[k] with | mk a b c => rw [hdq] at h1 h2 h3; simp at h1 h2 h3; rw [h1, h2, h3]
            rw [e]; exact doDeed_reg (by simp) hd'
          refine ⟨k + 1, c, r', by omega, by go_num, HN.out _ hdd, (HC.al _).grown hg' (fun q hq hq2 => HDIS.out q hq (by rw [← hq2])), hr', (hbr.alloc hbr.size _).grown hg' (Nat.le_trans hbr.size (by simp)) (fun q hq => by simp [Value.ownBlock] at hq; omega)⟩
        case measure => simp [intOf]; omega
      · -- kind 4
        have ha0 := ha.1
        have hb0 := hb.1
        obtain ⟨x, hx⟩ : ∃ x : Nat, deeds[k].a = (x : Int) := ⟨deeds[k].a.toNat, by omega⟩
        obtain ⟨y, hy⟩ : ∃ y : Nat, deeds[k].b = (y : Int) := ⟨deeds[k].b.toNat, by omega⟩
        rw [hkd] at hc1
        rw [hx] at hc2 ha
        rw [hy] at hc4 hb
        have H1 := Lib.hid hkd; have H2 := Lib.hid hx; have H3 := Lib.hid hy
        have hrn := hdk.r
        have HL3 := Lib.hid hrl2
        have HRN := Lib.hid hrn
        clear hkd hx hy hrl2 hrn
        go_wp2_with (go_at_call 93; refine (l2Reg_calls 4 x y r _ w.heap.size _ HL3.out (HR.al _) HRN.out (by right; simp [inR] <;> omega)).mono ?_; rintro e w4 ⟨rfl, r', hd', hr', hg'⟩)
        go_roundw
        case rel =>
          have hdd : doDeed (c, r) deeds[k] = some (c, r') := by
            have e : deeds[k] = ⟨4, x, y⟩ := by
              have h1 := H1.out; have h2 := H2.out; have h3 := H3.out
              cases hdq : deeds[k] with | mk a b c => rw [hdq] at h1 h2 h3; simp at h1 h2 h3; rw [h1, h2, h3]
            rw [e]; exact doDeed_reg (by simp) hd'
          refine ⟨k + 1, c, r', by omega, by go_num, HN.out _ hdd, (HC.al _).grown hg' (fun q hq hq2 => HDIS.out q hq (by rw [← hq2])), hr', (hbr.alloc hbr.size _).grown hg' (Nat.le_trans hbr.size (by simp)) (fun q hq => by simp [Value.ownBlock] at hq; omega)⟩
        case measure => simp [intOf]; omega
      · have ha0 := ha.1
        obtain ⟨x, hx⟩ : ∃ x : Nat, deeds[k].a = (x : Int) := ⟨deeds[k].a.toNat, by omega⟩
        rw [hkd] at hc1
        rw [hx] at hc2 ha
        have hxl : x < r.length := by omega
        have hr2' := HR
        rw [← hrl2] at hr2'
        obtain ⟨hrx, hfx⟩ := hr2'.cell hxl
        have hwx : ∀ o, (wr.alloc o).cell? ⟨gr, x, none⟩ = some (.int .i64 r[x]) := fun o => by rw [World.cell?_alloc_lt _ _ _ (HR.blk gr rfl).2]; exact hrx
        by_cases h0 : r[x] = 0
        · have hdd : doDeed (c, r) deeds[k] = none := by simp [doDeed, hkd, hx, rdI, hxl, h0]
          have HDD := hnone' hdd
          rw [h0] at hwx
          clear hkd hx hrl2 hr2' hrx h0 hdd
          go_wp2
          go_ret3
          refine ⟨?_, ((hbr.alloc hbr.size _).alloc (by have := hbr.size; simp; omega) _).alloc (by have := hbr.size; simp; omega) _⟩
          rw [HDD.out]
          refine ⟨_, _, rfl, ?_, ?_⟩
          · have h := (ownI_empty 3 (wr.alloc (Obj.cells #[.int .i64 5, .int .i64 (x : Nat), .int .i64 0] 142)) w.heap.size (Nat.le_trans hbr.size (by simp))).al (.cells #[] 3)
            simpa using h
          · have h := ownI_empty2 3 (wr.alloc (Obj.cells #[.int .i64 5, .int .i64 (x : Nat), .int .i64 0] 142)) w.heap.size (.cells #[] 3) (Nat.le_trans hbr.size (by simp))
            simpa using h
        · have hdd : doDeed (c, r) deeds[k] = some (c, r) := by simp [doDeed, hkd, hx, rdI, hxl, h0]
          have HDD := Lib.hid hdd
          have hb0 : (r[x] == 0) = false := by simp [h0]
          clear hkd hx hrl2 hr2' hrx hdd h0
          go_wp2
          go_roundw
          case rel => exact ⟨k + 1, c, r, by omega, by go_num, HN.out _ HDD.out, HC.al _, HR.al _, hbr.alloc hbr.size _⟩
          case measure => simp [intOf]; omega
    · go_wp2
      go_ret3
      refine ⟨?_, hbr⟩
      have := HA.out
      rw [List.take_of_length_le (by omega)] at this
      rw [this]
      exact ⟨_, _, rfl, HC, HR, HDIS.out⟩
end Go.Proofs.Ytehgiijpmldiiaa
