/- The program's look at acts. -/
import Derived.Test.YtehgiijpmldiiaaB1
namespace Go.Proofs.Ytehgiijpmldiiaa
open Go.RowKit
set_option linter.unusedVariables false
set_option linter.unusedSimpArgs false
attribute [local go_sem] ta_loadDeed_loadDeed ta_storeDeed_loadDeed ta_numDeed_loadDeed ta_addDeed_loadDeed ta_needDeed_loadDeed ta_nil_loadDeed ta_loadDeed_storeDeed ta_storeDeed_storeDeed ta_numDeed_storeDeed ta_addDeed_storeDeed ta_needDeed_storeDeed ta_nil_storeDeed ta_loadDeed_numDeed ta_storeDeed_numDeed ta_numDeed_numDeed ta_addDeed_numDeed ta_needDeed_numDeed ta_nil_numDeed ta_loadDeed_addDeed ta_storeDeed_addDeed ta_numDeed_addDeed ta_addDeed_addDeed ta_needDeed_addDeed ta_nil_addDeed ta_loadDeed_needDeed ta_storeDeed_needDeed ta_numDeed_needDeed ta_addDeed_needDeed ta_needDeed_needDeed ta_nil_needDeed ta_tryAct_tryAct ta_forkAct_tryAct ta_failAct_tryAct ta_failIfAct_tryAct ta_nil_tryAct ta_tryAct_forkAct ta_forkAct_forkAct ta_failAct_forkAct ta_failIfAct_forkAct ta_nil_forkAct ta_tryAct_failAct ta_forkAct_failAct ta_failAct_failAct ta_failIfAct_failAct ta_nil_failAct ta_tryAct_failIfAct ta_forkAct_failIfAct ta_failAct_failIfAct ta_failIfAct_failIfAct ta_nil_failIfAct

def partAV (k : Int) (deeds : List Deed) (kids : List Int) (reg : Int) (D E : Option Addr) (cd ce : Nat) : Value :=
  if k = 1 ∧ kids = [] ∧ reg = 0 then .iface 150 (.agg #[.slice D deeds.length cd])
  else if k = 2 ∧ deeds = [] ∧ reg = 0 then .iface 152 (.agg #[.slice E kids.length ce])
  else if k = 3 ∧ deeds = [] ∧ kids = [] ∧ reg = 0 then .iface 154 (.agg #[])
  else if k = 4 ∧ deeds = [] ∧ kids = [] then .iface 156 (.agg #[.int .i64 reg])
  else .nilIface

set_option maxHeartbeats 2000000 in
set_option maxRecDepth 100000 in
theorem partOfAct_calls (k : Int) (deeds : List Deed) (kids : List Int) (reg : Int) (D E : Option Addr) (cd ce : Nat) (w : World) (hm3 : deeds.length ≤ 9223372036854775807) (hm4 : kids.length ≤ 9223372036854775807) :
    Calls Try.prog 64 #[.agg #[.int .i64 k, .slice D deeds.length cd, .slice E kids.length ce, .int .i64 reg]] w
      fun e w' => e = .returned (partAV k deeds kids reg D E cd ce) ∧ Below w.heap.size w w' := by
  by_cases hr : reg = 0 <;> rcases deeds with _ | ⟨d0, dr⟩ <;> rcases kids with _ | ⟨k0, kr⟩
  all_goals
    simp only [List.length_cons, List.length_nil] at *
    try subst hr
    go_enter Try.func64, Try.ntmps64
    go_wp2
    go_quiet (fail)
    go_wp2
    all_goals
      go_ret
      exact ⟨by simp_all [partAV], (by repeat (first | exact Below.refl _ _ | (refine Below.alloc ?_ (by simp) _) | (refine Below.setCell ?_ (by simp) _) | (refine below_drewN' ?_ _) | (refine Below.drew ?_)))⟩

set_option maxHeartbeats 2000000 in
set_option maxRecDepth 100000 in
theorem actOk_nil (c body bodies : Int) (w : World) : Calls Try.prog 63 #[.nilIface, .int .i64 c, .int .i64 body, .int .i64 bodies] w fun e w' => e = .returned (.bool false) ∧ Below w.heap.size w w' := by
  go_enter Try.func63, Try.ntmps63
  go_wp2
  go_ret
  exact ⟨rfl, (by repeat (first | exact Below.refl _ _ | (refine Below.alloc ?_ (by simp) _) | (refine Below.setCell ?_ (by simp) _) | (refine below_drewN' ?_ _) | (refine Below.drew ?_)))⟩
set_option maxHeartbeats 2000000 in
set_option maxRecDepth 100000 in
theorem actOk_fail (c body bodies : Int) (w : World) : Calls Try.prog 63 #[.iface 154 (.agg #[]), .int .i64 c, .int .i64 body, .int .i64 bodies] w fun e w' => e = .returned (.bool true) ∧ Below w.heap.size w w' := by
  go_enter Try.func63, Try.ntmps63
  go_wp2
  go_ret
  exact ⟨rfl, (by repeat (first | exact Below.refl _ _ | (refine Below.alloc ?_ (by simp) _) | (refine Below.setCell ?_ (by simp) _) | (refine below_drewN' ?_ _) | (refine Below.drew ?_)))⟩
set_option maxHeartbeats 2000000 in
set_option maxRecDepth 100000 in
theorem actOk_failIf (reg c body bodies : Int) (w : World) : Calls Try.prog 63 #[.iface 156 (.agg #[.int .i64 reg]), .int .i64 c, .int .i64 body, .int .i64 bodies] w fun e w' => e = .returned (.bool (inR reg 0 2)) ∧ Below w.heap.size w w' := by
  go_enter Try.func63, Try.ntmps63
  go_wp2_with (go_at_call 96; refine (isReg_calls _ _).mono ?_; rintro e w' ⟨rfl, rfl⟩)
  go_ret
  exact ⟨rfl, (by repeat (first | exact Below.refl _ _ | (refine Below.alloc ?_ (by simp) _) | (refine Below.setCell ?_ (by simp) _) | (refine below_drewN' ?_ _) | (refine Below.drew ?_)))⟩
set_option maxHeartbeats 2000000 in
set_option maxRecDepth 100000 in
theorem actOk_try (deeds : List Deed) (D : Option Addr) (cd : Nat) (c body bodies : Int) (w : World) (S : Nat → Prop) (hd : Row kDeed w S D deeds) (h1 : c ≤ 9223372036854775807) :
    Calls Try.prog 63 #[.iface 150 (.agg #[.slice D deeds.length cd]), .int .i64 c, .int .i64 body, .int .i64 bodies] w fun e w' => e = .returned (.bool (changeOk deeds c)) ∧ Below w.heap.size w w' := by
  have hd1 := fun o => hd.belowAll ((Below.refl _ w).alloc (Nat.le_refl _) o)
  go_enter Try.func63, Try.ntmps63
  go_wp2_with (go_at_call 95; refine (changeOk_calls deeds _ _ _ _ S (hd1 _) h1).mono ?_; rintro e w1 ⟨rfl, hb1⟩)
  go_ret
  exact ⟨rfl, ((Below.refl _ _).alloc (Nat.le_refl _) _).trans (hb1.mono (by simp))⟩
set_option maxHeartbeats 2000000 in
set_option maxRecDepth 100000 in
theorem actOk_fork (kids : List Int) (E : Option Addr) (ce : Nat) (c body bodies : Int) (w : World) (S : Nat → Prop) (hk : Row Kd.int w S E kids) :
    Calls Try.prog 63 #[.iface 152 (.agg #[.slice E kids.length ce]), .int .i64 c, .int .i64 body, .int .i64 bodies] w fun e w' => e = .returned (.bool (kidsOk kids body bodies)) ∧ Below w.heap.size w w' := by
  have hm := hk.1
  go_enter Try.func63, Try.ntmps63
  go_wp2
  obtain ⟨W2, HW⟩ : ∃ W2, W2 = w.alloc (Obj.cells #[.slice E kids.length ce] 152) := ⟨_, rfl⟩
  have hb2 : Below w.heap.size w W2 := by rw [HW]; exact (by repeat (first | exact Below.refl _ _ | (refine Below.alloc ?_ (by simp) _) | (refine Below.setCell ?_ (by simp) _) | (refine below_drewN' ?_ _) | (refine Below.drew ?_)))
  have hk2 := hk.belowAll hb2
  have c0 : W2.cell? ⟨w.heap.size, 0, none⟩ = some (.slice E kids.length ce) := by rw [HW]; simp [go_sem]
  rw [← HW]
  clear HW
  go_loop [12, 29] (fun _ i => ∃ k : Nat, k ≤ kids.length ∧ i = .int .i64 k ∧ Hid ((kids.take k).all (fun k => inR k (body + 1) (bodies - 1)) = true)) (fun _ i => kids.length - (intOf i).toNat)
  case atStart => exact ⟨0, Nat.zero_le _, rfl, by simp [Hid]⟩
  case round =>
    obtain ⟨k, hk, rfl, HA⟩ := hrel
    by_cases hlt : k < kids.length
    · obtain ⟨ad, rfl, hl, hc, hi⟩ := at_int hk2 hlt
      by_cases h1 : kids[k] ≤ body
      · go_wp2
        go_ret
        refine ⟨ret_bool ?_, hb2⟩
        rw [kidsOk, all_false_of _ _ k hlt (by simp [inR]; omega)]; rfl
      · by_cases h2 : bodies ≤ kids[k]
        · go_wp2
          go_ret
          refine ⟨ret_bool ?_, hb2⟩
          rw [kidsOk, all_false_of _ _ k hlt (by simp [inR]; omega)]; rfl
        · go_wp2
          go_round
          case rel => exact ⟨k + 1, by omega, by go_num, by unfold Hid; rw [all_take_snoc _ _ _ hlt, HA.out]; simp [inR]; omega⟩
          case measure => simp [intOf]; omega
    · have := HA.out
      rw [all_take_all _ _ _ (by omega)] at this
      have HB := Lib.hid this
      clear this
      by_cases hn : kids.length ≤ 2
      · by_cases h0 : 1 ≤ kids.length
        · go_wp2
          go_ret
          refine ⟨ret_bool ?_, hb2⟩
          rw [kidsOk, HB.out]; simp [inR]; omega
        · have h00 : kids.length < 1 := by omega
          go_wp2
          go_ret
          refine ⟨ret_bool ?_, hb2⟩
          rw [kidsOk, HB.out]; simp [inR]; omega
      · have h3 : 2 < kids.length := by omega
        go_wp2
        go_ret
        refine ⟨ret_bool ?_, hb2⟩
        rw [kidsOk, HB.out]; simp [inR]; omega
end Go.Proofs.Ytehgiijpmldiiaa
