/- The reference does a change at once. -/
import Derived.Test.YtehgiijpmldiiaaA4
import Derived.Test.YtehgiijpmldiiaaLib3
import Derived.Test.YtehgiijpmldiiaaM2
import Derived.StillTailTactics
namespace Go.Proofs.Ytehgiijpmldiiaa
open Go.RowKit
set_option linter.unusedVariables false
set_option linter.unusedSimpArgs false

theorem infoInt : (Try.prog.info? 3).map (fun i => (i.zero, i.size, i.bytes)) = some (some (.int .i64 0), 1, 8) := by kernel_rfl

set_option maxHeartbeats 1000000 in
set_option maxRecDepth 100000 in
theorem l2Nums_calls (l : List Int) (n : Int) (A : Option Addr) (cap : Nat) (w : World) (S : Nat → Prop) (hr : Row Kd.int w S A l) :
    Calls Try.prog 92 #[.slice A l.length cap, .int .i64 n] w fun e w' => e = .returned (.bool (numsOk l && ((l.length : Int) == n))) ∧ w = w' := by
  have hm := hr.1
  go_enter Try.func92, Try.ntmps92
  go_wp2
  go_loop [5] (fun i => ∃ k : Nat, k ≤ l.length ∧ i = .int .i64 k ∧ Hid ((l.take k).all (fun k => inR k 0 99) = true)) (fun i => l.length - (intOf i).toNat)
  case atStart => exact ⟨0, Nat.zero_le _, rfl, by simp [Hid]⟩
  case round =>
    obtain ⟨k, hk, rfl, HA⟩ := hrel
    by_cases hlt : k < l.length
    · obtain ⟨ad, rfl, hl, hc, hi⟩ := at_int hr hlt
      cases hin : inR l[k] 0 99
      all_goals
        have HI := Lib.hid hin
        clear hin
        go_wp2_with (go_at_call 76; refine (l6In_calls _ _ _ _).mono ?_; rintro e w' ⟨rfl, rfl⟩; simp only [HI.out])
      · go_ret
        refine ⟨ret_bool ?_, rfl⟩
        rw [numsOk, all_false_of _ _ k hlt HI.out]; rfl
      · go_round
        case rel => exact ⟨k + 1, by omega, by go_num, by unfold Hid; rw [all_take_snoc _ _ _ hlt, HA.out, HI.out]; rfl⟩
        case measure => simp [intOf]; omega
    · go_wp2
      go_ret
      refine ⟨ret_bool ?_, rfl⟩
      have := HA.out
      rw [all_take_all _ _ _ (by omega)] at this
      simp [numsOk, this]

set_option maxHeartbeats 1000000 in
set_option maxRecDepth 100000 in
theorem specChangeOk_calls (deeds : List Deed) (c : Int) (A : Option Addr) (cap : Nat) (w : World) (S : Nat → Prop) (hr : Row kDeed w S A deeds) (h0 : 0 ≤ c) (h1 : c ≤ 9223372036854775807) :
    Calls Try.prog 91 #[.slice A deeds.length cap, .int .i64 c] w fun e w' => e = .returned (.bool (changeOk deeds c)) ∧ Below w.heap.size w w' := by
  have hm := hr.1
  go_enter Try.func91, Try.ntmps91
  go_wp2
  go_loopw [5] (fun i wr => ∃ k : Nat, k ≤ deeds.length ∧ i = .int .i64 k ∧ Hid ((deeds.take k).all (deedOk · c) = true) ∧ Below w.heap.size w wr) (fun i _ => deeds.length - (intOf i).toNat)
  case atStart => exact ⟨0, Nat.zero_le _, rfl, by simp [Hid], Below.refl _ _⟩
  case round =>
    obtain ⟨k, hk, rfl, HA, hbr⟩ := hrel
    by_cases hlt : k < deeds.length
    · obtain ⟨ad, rfl, hl, hc1, hc2, hc4, hi1, hi2, hi3⟩ := at_deed (hr.belowAll hbr) hlt
      cases hin : deedOk deeds[k] c
      all_goals
        have HI := Lib.hid hin
        clear hin
        go_wp2_with (go_at_call 117; refine (l1Deed_calls _ _ _ _ _ h0 h1).mono ?_; rintro e w2 ⟨rfl, hb2⟩; rw [HI.out])
      · go_ret
        refine ⟨ret_bool ?_, below_then hbr hbr.size hb2⟩
        simp [changeOk, all_false_of (deedOk · c) _ k hlt HI.out]
      · go_roundw
        case rel => exact ⟨k + 1, by omega, by go_num, by unfold Hid; rw [all_take_snoc _ _ _ hlt, HA.out, HI.out]; rfl, below_then hbr hbr.size hb2⟩
        case measure => simp [intOf]; omega
    · have := HA.out
      rw [all_take_all _ _ _ (by omega)] at this
      have HB := Lib.hid this
      clear this
      by_cases h5 : deeds.length ≤ 5
      · go_wp2_with (go_at_call 76; refine (l6In_calls _ _ _ _).mono ?_; rintro e w' ⟨rfl, rfl⟩)
        go_ret
        refine ⟨ret_bool ?_, hbr⟩
        simp [changeOk, HB.out, h5]
      · have h6 : 5 < deeds.length := by omega
        go_wp2_with (go_at_call 76; refine (l6In_calls _ _ _ _).mono ?_; rintro e w' ⟨rfl, rfl⟩)
        go_ret
        refine ⟨ret_bool ?_, hbr⟩
        simp [changeOk, h5]

set_option maxHeartbeats 1000000 in
set_option maxRecDepth 100000 in
theorem l2Reg_calls (k a b : Int) (regs : List Int) (v : Value) (base : Nat) (w : World) (hn : regs.length = 3) (ho : OwnI 3 w base v regs) (hv : numsOk regs = true) (hd : k = 3 ∧ inR a 0 2 = true ∧ inR b 0 99 = true ∨ k = 4 ∧ inR a 0 2 = true ∧ inR b 0 2 = true) :
    Calls Try.prog 93 #[v, .agg #[.int .i64 k, .int .i64 a, .int .i64 b]] w fun e w' => e = .returned (.tuple #[]) ∧ ∃ regs', doDeed ([], regs) ⟨k, a, b⟩ = some ([], regs') ∧ OwnI 3 w' base v regs' ∧ w.grownBy w' v.ownBlock := by
  obtain ⟨g, cap, rfl, hb, hl⟩ := ho.place (by omega)
  rcases hd with ⟨rfl, ha, hb'⟩ | ⟨rfl, ha, hb'⟩
  · simp [inR] at ha hb'
    obtain ⟨i, rfl⟩ := Int.eq_ofNat_of_zero_le ha.1
    obtain ⟨hc, hf⟩ := ho.cell (j := i) (by omega)
    go_enter Try.func93, Try.ntmps93
    go_wp2
    go_end0
    have hb3 : isI b := by unfold isI; omega
    exact ⟨rfl, regs.set i b, by simp [doDeed], (ho.set_ (by omega) b hb3).al _, grown_al (grown_set (grown_refl _ _) _ _) _⟩
  · simp [inR] at ha hb'
    obtain ⟨i, rfl⟩ := Int.eq_ofNat_of_zero_le ha.1
    obtain ⟨j, rfl⟩ := Int.eq_ofNat_of_zero_le hb'.1
    have hi : i < regs.length := by omega
    have hj : j < regs.length := by omega
    obtain ⟨hc, hf⟩ := ho.cell hi
    obtain ⟨hc2, hf2⟩ := ho.cell hj
    have hr1 : 0 ≤ regs[i] ∧ regs[i] ≤ 99 := by have := List.all_eq_true.1 hv _ (List.getElem_mem hi); simpa [inR] using this
    have hr2 : 0 ≤ regs[j] ∧ regs[j] ≤ 99 := by have := List.all_eq_true.1 hv _ (List.getElem_mem hj); simpa [inR] using this
    go_enter Try.func93, Try.ntmps93
    go_wp2
    obtain ⟨W2, HW⟩ : ∃ W2, W2 = w.alloc (Obj.cells #[.int .i64 4, .int .i64 (i : Nat), .int .i64 (j : Nat)] 142) := ⟨_, rfl⟩
    have ho2 : OwnI 3 W2 base (.slice (some ⟨g, 0, none⟩) regs.length cap) regs := by rw [HW]; exact ho.al _
    have hg2 : w.grownBy W2 (some g) := by rw [HW]; exact grown_al (grown_refl _ _) _
    have c0 : W2.cell? ⟨w.heap.size, 0, none⟩ = some (.int .i64 4) := by rw [HW]; simp [go_sem]
    have c1 : W2.cell? ⟨w.heap.size, 1, none⟩ = some (.int .i64 (i : Nat)) := by rw [HW]; simp [go_sem]
    have c2 : W2.cell? ⟨w.heap.size, 2, none⟩ = some (.int .i64 (j : Nat)) := by rw [HW]; simp [go_sem]
    obtain ⟨hc3, hf3⟩ := ho2.cell hi
    obtain ⟨hc4, hf4⟩ := ho2.cell hj
    rw [← HW]
    clear HW hc hc2
    have i1 : (i : Int) < 3 := by omega
    have i2 : (0 : Int) ≤ i := by omega
    have j1 : (j : Int) < 3 := by omega
    have j2 : (0 : Int) ≤ j := by omega
    have e1 : IntKind.i64.wrap (regs[i] + regs[j]) = regs[i] + regs[j] := IntWalk.i64_in _ (by omega)
    have e2 : 0 ≤ regs[i] + regs[j] := by omega
    go_still_tail 16, (by kernel_rfl)
    go_wp2
    go_end0
    have hb3 : isI ((regs[i] + regs[j]) % 100) := by unfold isI; omega
    exact ⟨rfl, regs.set i ((regs[i] + regs[j]) % 100), by simp [doDeed, rdI, hi, hj], (ho2.drewN _).set_ (by omega) _ hb3, grown_set (grown_drewN hg2 _) _ _⟩
end Go.Proofs.Ytehgiijpmldiiaa
