/- The program's look at deeds: parts behind an interface. -/
import Derived.Test.YtehgiijpmldiiaaK1
namespace Go.Proofs.Ytehgiijpmldiiaa
open Go.RowKit
set_option linter.unusedVariables false
set_option linter.unusedSimpArgs false

theorem ta_loadDeed_loadDeed (v : Value) (w : World) : (Instr.typeAssert (.iface 193 v) 107 193 true).run Try.prog w = .ok (.tuple #[v, .bool true]) w := by kernel_rfl
theorem ta_storeDeed_loadDeed (v : Value) (w : World) : (Instr.typeAssert (.iface 195 v) 107 193 true).run Try.prog w = .ok (.tuple #[.agg #[.int .i64 0, .int .i64 0], .bool false]) w := by kernel_rfl
theorem ta_numDeed_loadDeed (v : Value) (w : World) : (Instr.typeAssert (.iface 197 v) 107 193 true).run Try.prog w = .ok (.tuple #[.agg #[.int .i64 0, .int .i64 0], .bool false]) w := by kernel_rfl
theorem ta_addDeed_loadDeed (v : Value) (w : World) : (Instr.typeAssert (.iface 199 v) 107 193 true).run Try.prog w = .ok (.tuple #[.agg #[.int .i64 0, .int .i64 0], .bool false]) w := by kernel_rfl
theorem ta_needDeed_loadDeed (v : Value) (w : World) : (Instr.typeAssert (.iface 200 v) 107 193 true).run Try.prog w = .ok (.tuple #[.agg #[.int .i64 0, .int .i64 0], .bool false]) w := by kernel_rfl
theorem ta_nil_loadDeed (w : World) : (Instr.typeAssert .nilIface 107 193 true).run Try.prog w = .ok (.tuple #[.agg #[.int .i64 0, .int .i64 0], .bool false]) w := by kernel_rfl
theorem ta_loadDeed_storeDeed (v : Value) (w : World) : (Instr.typeAssert (.iface 193 v) 107 195 true).run Try.prog w = .ok (.tuple #[.agg #[.int .i64 0, .int .i64 0], .bool false]) w := by kernel_rfl
theorem ta_storeDeed_storeDeed (v : Value) (w : World) : (Instr.typeAssert (.iface 195 v) 107 195 true).run Try.prog w = .ok (.tuple #[v, .bool true]) w := by kernel_rfl
theorem ta_numDeed_storeDeed (v : Value) (w : World) : (Instr.typeAssert (.iface 197 v) 107 195 true).run Try.prog w = .ok (.tuple #[.agg #[.int .i64 0, .int .i64 0], .bool false]) w := by kernel_rfl
theorem ta_addDeed_storeDeed (v : Value) (w : World) : (Instr.typeAssert (.iface 199 v) 107 195 true).run Try.prog w = .ok (.tuple #[.agg #[.int .i64 0, .int .i64 0], .bool false]) w := by kernel_rfl
theorem ta_needDeed_storeDeed (v : Value) (w : World) : (Instr.typeAssert (.iface 200 v) 107 195 true).run Try.prog w = .ok (.tuple #[.agg #[.int .i64 0, .int .i64 0], .bool false]) w := by kernel_rfl
theorem ta_nil_storeDeed (w : World) : (Instr.typeAssert .nilIface 107 195 true).run Try.prog w = .ok (.tuple #[.agg #[.int .i64 0, .int .i64 0], .bool false]) w := by kernel_rfl
theorem ta_loadDeed_numDeed (v : Value) (w : World) : (Instr.typeAssert (.iface 193 v) 107 197 true).run Try.prog w = .ok (.tuple #[.agg #[.int .i64 0, .int .i64 0], .bool false]) w := by kernel_rfl
theorem ta_storeDeed_numDeed (v : Value) (w : World) : (Instr.typeAssert (.iface 195 v) 107 197 true).run Try.prog w = .ok (.tuple #[.agg #[.int .i64 0, .int .i64 0], .bool false]) w := by kernel_rfl
theorem ta_numDeed_numDeed (v : Value) (w : World) : (Instr.typeAssert (.iface 197 v) 107 197 true).run Try.prog w = .ok (.tuple #[v, .bool true]) w := by kernel_rfl
theorem ta_addDeed_numDeed (v : Value) (w : World) : (Instr.typeAssert (.iface 199 v) 107 197 true).run Try.prog w = .ok (.tuple #[.agg #[.int .i64 0, .int .i64 0], .bool false]) w := by kernel_rfl
theorem ta_needDeed_numDeed (v : Value) (w : World) : (Instr.typeAssert (.iface 200 v) 107 197 true).run Try.prog w = .ok (.tuple #[.agg #[.int .i64 0, .int .i64 0], .bool false]) w := by kernel_rfl
theorem ta_nil_numDeed (w : World) : (Instr.typeAssert .nilIface 107 197 true).run Try.prog w = .ok (.tuple #[.agg #[.int .i64 0, .int .i64 0], .bool false]) w := by kernel_rfl
theorem ta_loadDeed_addDeed (v : Value) (w : World) : (Instr.typeAssert (.iface 193 v) 107 199 true).run Try.prog w = .ok (.tuple #[.agg #[.int .i64 0, .int .i64 0], .bool false]) w := by kernel_rfl
theorem ta_storeDeed_addDeed (v : Value) (w : World) : (Instr.typeAssert (.iface 195 v) 107 199 true).run Try.prog w = .ok (.tuple #[.agg #[.int .i64 0, .int .i64 0], .bool false]) w := by kernel_rfl
theorem ta_numDeed_addDeed (v : Value) (w : World) : (Instr.typeAssert (.iface 197 v) 107 199 true).run Try.prog w = .ok (.tuple #[.agg #[.int .i64 0, .int .i64 0], .bool false]) w := by kernel_rfl
theorem ta_addDeed_addDeed (v : Value) (w : World) : (Instr.typeAssert (.iface 199 v) 107 199 true).run Try.prog w = .ok (.tuple #[v, .bool true]) w := by kernel_rfl
theorem ta_needDeed_addDeed (v : Value) (w : World) : (Instr.typeAssert (.iface 200 v) 107 199 true).run Try.prog w = .ok (.tuple #[.agg #[.int .i64 0, .int .i64 0], .bool false]) w := by kernel_rfl
theorem ta_nil_addDeed (w : World) : (Instr.typeAssert .nilIface 107 199 true).run Try.prog w = .ok (.tuple #[.agg #[.int .i64 0, .int .i64 0], .bool false]) w := by kernel_rfl
theorem ta_loadDeed_needDeed (v : Value) (w : World) : (Instr.typeAssert (.iface 193 v) 107 200 true).run Try.prog w = .ok (.tuple #[.agg #[.int .i64 0], .bool false]) w := by kernel_rfl
theorem ta_storeDeed_needDeed (v : Value) (w : World) : (Instr.typeAssert (.iface 195 v) 107 200 true).run Try.prog w = .ok (.tuple #[.agg #[.int .i64 0], .bool false]) w := by kernel_rfl
theorem ta_numDeed_needDeed (v : Value) (w : World) : (Instr.typeAssert (.iface 197 v) 107 200 true).run Try.prog w = .ok (.tuple #[.agg #[.int .i64 0], .bool false]) w := by kernel_rfl
theorem ta_addDeed_needDeed (v : Value) (w : World) : (Instr.typeAssert (.iface 199 v) 107 200 true).run Try.prog w = .ok (.tuple #[.agg #[.int .i64 0], .bool false]) w := by kernel_rfl
theorem ta_needDeed_needDeed (v : Value) (w : World) : (Instr.typeAssert (.iface 200 v) 107 200 true).run Try.prog w = .ok (.tuple #[v, .bool true]) w := by kernel_rfl
theorem ta_nil_needDeed (w : World) : (Instr.typeAssert .nilIface 107 200 true).run Try.prog w = .ok (.tuple #[.agg #[.int .i64 0], .bool false]) w := by kernel_rfl
theorem ta_tryAct_tryAct (v : Value) (w : World) : (Instr.typeAssert (.iface 150 v) 107 150 true).run Try.prog w = .ok (.tuple #[v, .bool true]) w := by kernel_rfl
theorem ta_forkAct_tryAct (v : Value) (w : World) : (Instr.typeAssert (.iface 152 v) 107 150 true).run Try.prog w = .ok (.tuple #[.agg #[.slice none 0 0], .bool false]) w := by kernel_rfl
theorem ta_failAct_tryAct (v : Value) (w : World) : (Instr.typeAssert (.iface 154 v) 107 150 true).run Try.prog w = .ok (.tuple #[.agg #[.slice none 0 0], .bool false]) w := by kernel_rfl
theorem ta_failIfAct_tryAct (v : Value) (w : World) : (Instr.typeAssert (.iface 156 v) 107 150 true).run Try.prog w = .ok (.tuple #[.agg #[.slice none 0 0], .bool false]) w := by kernel_rfl
theorem ta_nil_tryAct (w : World) : (Instr.typeAssert .nilIface 107 150 true).run Try.prog w = .ok (.tuple #[.agg #[.slice none 0 0], .bool false]) w := by kernel_rfl
theorem ta_tryAct_forkAct (v : Value) (w : World) : (Instr.typeAssert (.iface 150 v) 107 152 true).run Try.prog w = .ok (.tuple #[.agg #[.slice none 0 0], .bool false]) w := by kernel_rfl
theorem ta_forkAct_forkAct (v : Value) (w : World) : (Instr.typeAssert (.iface 152 v) 107 152 true).run Try.prog w = .ok (.tuple #[v, .bool true]) w := by kernel_rfl
theorem ta_failAct_forkAct (v : Value) (w : World) : (Instr.typeAssert (.iface 154 v) 107 152 true).run Try.prog w = .ok (.tuple #[.agg #[.slice none 0 0], .bool false]) w := by kernel_rfl
theorem ta_failIfAct_forkAct (v : Value) (w : World) : (Instr.typeAssert (.iface 156 v) 107 152 true).run Try.prog w = .ok (.tuple #[.agg #[.slice none 0 0], .bool false]) w := by kernel_rfl
theorem ta_nil_forkAct (w : World) : (Instr.typeAssert .nilIface 107 152 true).run Try.prog w = .ok (.tuple #[.agg #[.slice none 0 0], .bool false]) w := by kernel_rfl
theorem ta_tryAct_failAct (v : Value) (w : World) : (Instr.typeAssert (.iface 150 v) 107 154 true).run Try.prog w = .ok (.tuple #[.agg #[], .bool false]) w := by kernel_rfl
theorem ta_forkAct_failAct (v : Value) (w : World) : (Instr.typeAssert (.iface 152 v) 107 154 true).run Try.prog w = .ok (.tuple #[.agg #[], .bool false]) w := by kernel_rfl
theorem ta_failAct_failAct (v : Value) (w : World) : (Instr.typeAssert (.iface 154 v) 107 154 true).run Try.prog w = .ok (.tuple #[v, .bool true]) w := by kernel_rfl
theorem ta_failIfAct_failAct (v : Value) (w : World) : (Instr.typeAssert (.iface 156 v) 107 154 true).run Try.prog w = .ok (.tuple #[.agg #[], .bool false]) w := by kernel_rfl
theorem ta_nil_failAct (w : World) : (Instr.typeAssert .nilIface 107 154 true).run Try.prog w = .ok (.tuple #[.agg #[], .bool false]) w := by kernel_rfl
theorem ta_tryAct_failIfAct (v : Value) (w : World) : (Instr.typeAssert (.iface 150 v) 107 156 true).run Try.prog w = .ok (.tuple #[.agg #[.int .i64 0], .bool false]) w := by kernel_rfl
theorem ta_forkAct_failIfAct (v : Value) (w : World) : (Instr.typeAssert (.iface 152 v) 107 156 true).run Try.prog w = .ok (.tuple #[.agg #[.int .i64 0], .bool false]) w := by kernel_rfl
theorem ta_failAct_failIfAct (v : Value) (w : World) : (Instr.typeAssert (.iface 154 v) 107 156 true).run Try.prog w = .ok (.tuple #[.agg #[.int .i64 0], .bool false]) w := by kernel_rfl
theorem ta_failIfAct_failIfAct (v : Value) (w : World) : (Instr.typeAssert (.iface 156 v) 107 156 true).run Try.prog w = .ok (.tuple #[v, .bool true]) w := by kernel_rfl
theorem ta_nil_failIfAct (w : World) : (Instr.typeAssert .nilIface 107 156 true).run Try.prog w = .ok (.tuple #[.agg #[.int .i64 0], .bool false]) w := by kernel_rfl
attribute [local go_sem] ta_loadDeed_loadDeed ta_storeDeed_loadDeed ta_numDeed_loadDeed ta_addDeed_loadDeed ta_needDeed_loadDeed ta_nil_loadDeed ta_loadDeed_storeDeed ta_storeDeed_storeDeed ta_numDeed_storeDeed ta_addDeed_storeDeed ta_needDeed_storeDeed ta_nil_storeDeed ta_loadDeed_numDeed ta_storeDeed_numDeed ta_numDeed_numDeed ta_addDeed_numDeed ta_needDeed_numDeed ta_nil_numDeed ta_loadDeed_addDeed ta_storeDeed_addDeed ta_numDeed_addDeed ta_addDeed_addDeed ta_needDeed_addDeed ta_nil_addDeed ta_loadDeed_needDeed ta_storeDeed_needDeed ta_numDeed_needDeed ta_addDeed_needDeed ta_needDeed_needDeed ta_nil_needDeed ta_tryAct_tryAct ta_forkAct_tryAct ta_failAct_tryAct ta_failIfAct_tryAct ta_nil_tryAct ta_tryAct_forkAct ta_forkAct_forkAct ta_failAct_forkAct ta_failIfAct_forkAct ta_nil_forkAct ta_tryAct_failAct ta_forkAct_failAct ta_failAct_failAct ta_failIfAct_failAct ta_nil_failAct ta_tryAct_failIfAct ta_forkAct_failIfAct ta_failAct_failIfAct ta_failIfAct_failIfAct ta_nil_failIfAct

def partV (k a b : Int) : Value :=
  if k = 1 then .iface 193 (.agg #[.int .i64 a, .int .i64 b])
  else if k = 2 then .iface 195 (.agg #[.int .i64 a, .int .i64 b])
  else if k = 3 then .iface 197 (.agg #[.int .i64 a, .int .i64 b])
  else if k = 4 then .iface 199 (.agg #[.int .i64 a, .int .i64 b])
  else if k = 5 then (if b = 0 then .iface 200 (.agg #[.int .i64 a]) else .nilIface)
  else .nilIface

set_option maxHeartbeats 1000000 in
set_option maxRecDepth 100000 in
theorem partOfDeed_calls (k a b : Int) (w : World) :
    Calls Try.prog 120 #[.agg #[.int .i64 k, .int .i64 a, .int .i64 b]] w fun e w' => e = .returned (partV k a b) ∧ Below w.heap.size w w' := by
    go_enter Try.func120, Try.ntmps120
    go_wp2
    all_goals
      go_ret
      exact ⟨by simp_all [partV], (Below.refl _ _).alloc (Nat.le_refl _) _⟩

set_option maxRecDepth 100000 in
theorem isPlace_calls (i n : Int) (w : World) (h0 : -9223372036854775808 < n) :
    Calls Try.prog 82 #[.int .i64 i, .int .i64 n] w fun e w' => e = .returned (.bool (inR i 0 (n - 1))) ∧ w = w' := by
  by_cases h : 0 ≤ i
  all_goals
    go_enter Try.func82, Try.ntmps82
    go_wp2
    go_ret
    exact ⟨by simp [inR, h] <;> omega, rfl⟩
set_option maxRecDepth 100000 in
theorem isReg_calls (i : Int) (w : World) :
    Calls Try.prog 96 #[.int .i64 i] w fun e w' => e = .returned (.bool (inR i 0 2)) ∧ w = w' := by
    go_enter Try.func96, Try.ntmps96
    go_wp2_with (go_at_call 82; refine (isPlace_calls _ _ _ (by omega)).mono ?_; rintro e w' ⟨rfl, rfl⟩)
    go_ret
    exact ⟨rfl, rfl⟩
set_option maxRecDepth 100000 in
theorem isNum_calls (i : Int) (w : World) :
    Calls Try.prog 94 #[.int .i64 i] w fun e w' => e = .returned (.bool (inR i 0 99)) ∧ w = w' := by
    go_enter Try.func94, Try.ntmps94
    go_wp2_with (go_at_call 82; refine (isPlace_calls _ _ _ (by omega)).mono ?_; rintro e w' ⟨rfl, rfl⟩)
    go_ret
    exact ⟨rfl, rfl⟩

set_option maxHeartbeats 2000000 in
set_option maxRecDepth 100000 in
theorem deedOk_calls (k a b c : Int) (w : World) (h0 : 0 ≤ c) :
    Calls Try.prog 119 #[partV k a b, .int .i64 c] w fun e w' => e = .returned (.bool (deedOk ⟨k, a, b⟩ c)) ∧ Below w.heap.size w w' := by
  by_cases h1 : k = 1
  · subst h1
    have hv : partV 1 a b = .iface 193 (.agg #[.int .i64 a, .int .i64 b]) := rfl
    rw [hv]
    clear hv
    go_enter Try.func119, Try.ntmps119
    go_wp2_with (first | (go_at_call 96; refine (isReg_calls _ _).mono ?_; rintro e w' ⟨rfl, rfl⟩) | (go_at_call 94; refine (isNum_calls _ _).mono ?_; rintro e w' ⟨rfl, rfl⟩) | (go_at_call 82; refine (isPlace_calls _ _ _ (by omega)).mono ?_; rintro e w' ⟨rfl, rfl⟩))
    all_goals
      go_ret
      exact ⟨by simp_all [deedOk], (by repeat (first | exact Below.refl _ _ | (refine Below.alloc ?_ (by simp) _) | (refine Below.setCell ?_ (by simp) _) | (refine below_drewN' ?_ _) | (refine Below.drew ?_)))⟩
  by_cases h2 : k = 2
  · subst h2
    have hv : partV 2 a b = .iface 195 (.agg #[.int .i64 a, .int .i64 b]) := rfl
    rw [hv]
    clear hv
    go_enter Try.func119, Try.ntmps119
    go_wp2_with (first | (go_at_call 96; refine (isReg_calls _ _).mono ?_; rintro e w' ⟨rfl, rfl⟩) | (go_at_call 94; refine (isNum_calls _ _).mono ?_; rintro e w' ⟨rfl, rfl⟩) | (go_at_call 82; refine (isPlace_calls _ _ _ (by omega)).mono ?_; rintro e w' ⟨rfl, rfl⟩))
    all_goals
      go_ret
      exact ⟨by simp_all [deedOk], (by repeat (first | exact Below.refl _ _ | (refine Below.alloc ?_ (by simp) _) | (refine Below.setCell ?_ (by simp) _) | (refine below_drewN' ?_ _) | (refine Below.drew ?_)))⟩
  by_cases h3 : k = 3
  · subst h3
    have hv : partV 3 a b = .iface 197 (.agg #[.int .i64 a, .int .i64 b]) := rfl
    rw [hv]
    clear hv
    go_enter Try.func119, Try.ntmps119
    go_wp2_with (first | (go_at_call 96; refine (isReg_calls _ _).mono ?_; rintro e w' ⟨rfl, rfl⟩) | (go_at_call 94; refine (isNum_calls _ _).mono ?_; rintro e w' ⟨rfl, rfl⟩) | (go_at_call 82; refine (isPlace_calls _ _ _ (by omega)).mono ?_; rintro e w' ⟨rfl, rfl⟩))
    all_goals
      go_ret
      exact ⟨by simp_all [deedOk], (by repeat (first | exact Below.refl _ _ | (refine Below.alloc ?_ (by simp) _) | (refine Below.setCell ?_ (by simp) _) | (refine below_drewN' ?_ _) | (refine Below.drew ?_)))⟩
  by_cases h4 : k = 4
  · subst h4
    have hv : partV 4 a b = .iface 199 (.agg #[.int .i64 a, .int .i64 b]) := rfl
    rw [hv]
    clear hv
    go_enter Try.func119, Try.ntmps119
    go_wp2_with (first | (go_at_call 96; refine (isReg_calls _ _).mono ?_; rintro e w' ⟨rfl, rfl⟩) | (go_at_call 94; refine (isNum_calls _ _).mono ?_; rintro e w' ⟨rfl, rfl⟩) | (go_at_call 82; refine (isPlace_calls _ _ _ (by omega)).mono ?_; rintro e w' ⟨rfl, rfl⟩))
    all_goals
      go_ret
      exact ⟨by simp_all [deedOk], (by repeat (first | exact Below.refl _ _ | (refine Below.alloc ?_ (by simp) _) | (refine Below.setCell ?_ (by simp) _) | (refine below_drewN' ?_ _) | (refine Below.drew ?_)))⟩
  by_cases h5 : k = 5
  · subst h5
    by_cases hb : b = 0
    · subst hb
      have hv : partV 5 a 0 = .iface 200 (.agg #[.int .i64 a]) := rfl
      rw [hv]
      clear hv
      go_enter Try.func119, Try.ntmps119
      go_wp2_with (go_at_call 96; refine (isReg_calls _ _).mono ?_; rintro e w' ⟨rfl, rfl⟩)
      all_goals
        go_ret
        exact ⟨by simp_all [deedOk], (by repeat (first | exact Below.refl _ _ | (refine Below.alloc ?_ (by simp) _) | (refine Below.setCell ?_ (by simp) _) | (refine below_drewN' ?_ _) | (refine Below.drew ?_)))⟩
    · have hv : partV 5 a b = .nilIface := by simp [partV, hb]
      rw [hv]
      have HB := Lib.hid hb
      clear hv hb
      go_enter Try.func119, Try.ntmps119
      go_wp2
      go_ret
      exact ⟨by simp [deedOk, HB.out], (by repeat (first | exact Below.refl _ _ | (refine Below.alloc ?_ (by simp) _) | (refine Below.setCell ?_ (by simp) _) | (refine below_drewN' ?_ _) | (refine Below.drew ?_)))⟩
  · have hv : partV k a b = .nilIface := by simp [partV, h1, h2, h3, h4, h5]
    rw [hv]
    clear hv
    go_enter Try.func119, Try.ntmps119
    go_wp2
    go_ret
    exact ⟨by simp [deedOk, h1, h2, h3, h4, h5], (by repeat (first | exact Below.refl _ _ | (refine Below.alloc ?_ (by simp) _) | (refine Below.setCell ?_ (by simp) _) | (refine below_drewN' ?_ _) | (refine Below.drew ?_)))⟩

set_option maxHeartbeats 1000000 in
set_option maxRecDepth 100000 in
theorem allNums_calls (l : List Int) (A : Option Addr) (cap : Nat) (w : World) (S : Nat → Prop) (hr : Row Kd.int w S A l) :
    Calls Try.prog 62 #[.slice A l.length cap] w fun e w' => e = .returned (.bool (numsOk l)) ∧ w = w' := by
  have hm := hr.1
  go_enter Try.func62, Try.ntmps62
  go_wp2
  go_loop [4, 7] (fun _ i => ∃ k : Nat, k ≤ l.length ∧ i = .int .i64 k ∧ Hid ((l.take k).all (fun k => inR k 0 99) = true)) (fun _ i => l.length - (intOf i).toNat)
  case atStart => exact ⟨0, Nat.zero_le _, rfl, by simp [Hid]⟩
  case round =>
    obtain ⟨k, hk, rfl, HA⟩ := hrel
    by_cases hlt : k < l.length
    · obtain ⟨ad, rfl, hl, hc, hi⟩ := at_int hr hlt
      cases hin : inR l[k] 0 99
      all_goals
        have HI := Lib.hid hin
        clear hin
        go_wp2_with (go_at_call 94; refine (isNum_calls _ _).mono ?_; rintro e w' ⟨rfl, rfl⟩; simp only [HI.out])
      · go_ret
        refine ⟨ret_bool ?_, rfl⟩
        rw [numsOk, all_false_of _ _ k hlt HI.out]
      · go_round
        case rel => exact ⟨k + 1, by omega, by go_num, by unfold Hid; rw [all_take_snoc _ _ _ hlt, HA.out, HI.out]; rfl⟩
        case measure => simp [intOf]; omega
    · go_wp2
      go_ret
      refine ⟨?_, rfl⟩
      have := HA.out
      rw [all_take_all _ _ _ (by omega)] at this
      simp [numsOk, this]

set_option maxHeartbeats 1000000 in
set_option maxRecDepth 100000 in
theorem changeOk_calls (deeds : List Deed) (c : Int) (A : Option Addr) (cap : Nat) (w : World) (S : Nat → Prop) (hr : Row kDeed w S A deeds) (h1 : c ≤ 9223372036854775807) :
    Calls Try.prog 95 #[.slice A deeds.length cap, .int .i64 c] w fun e w' => e = .returned (.bool (changeOk deeds c)) ∧ Below w.heap.size w w' := by
  have hm := hr.1
  by_cases hc : 0 ≤ c ∧ c ≤ 3 ∧ deeds.length ≤ 5
  rotate_left
  · have hf : changeOk deeds c = false := by
      simp only [changeOk, inR]
      rcases Classical.em (deeds.length ≤ 5) with h5 | h5
      · have : ¬ (0 ≤ c ∧ c ≤ 3) := by omega
        simp; omega
      · simp [h5]
    rw [hf]
    by_cases h0 : c < 0
    · go_enter Try.func95, Try.ntmps95
      go_wp2
      go_ret
      exact ⟨rfl, Below.refl _ _⟩
    · by_cases h3 : 3 < c
      · go_enter Try.func95, Try.ntmps95
        go_wp2
        go_ret
        exact ⟨rfl, Below.refl _ _⟩
      · have h5 : 5 < deeds.length := by omega
        go_enter Try.func95, Try.ntmps95
        go_wp2
        go_ret
        exact ⟨rfl, Below.refl _ _⟩
  obtain ⟨hc0, hc3, hc5⟩ := hc
  go_enter Try.func95, Try.ntmps95
  go_wp2
  go_loopw [6, 20] (fun _ i wr => ∃ k : Nat, k ≤ deeds.length ∧ i = .int .i64 k ∧ Hid ((deeds.take k).all (deedOk · c) = true) ∧ Below w.heap.size w wr) (fun _ i _ => deeds.length - (intOf i).toNat)
  case atStart => exact ⟨0, Nat.zero_le _, rfl, by simp [Hid], Below.refl _ _⟩
  case round =>
    obtain ⟨k, hk, rfl, HA, hbr⟩ := hrel
    by_cases hlt : k < deeds.length
    · obtain ⟨ad, rfl, hl, hc1, hc2, hc4, hi1, hi2, hi3⟩ := at_deed (hr.belowAll hbr) hlt
      cases hin : deedOk deeds[k] c
      all_goals
        have HI := Lib.hid hin
        clear hin
        go_wp2_with (first | (go_at_call 120; refine (partOfDeed_calls _ _ _ _).mono ?_; rintro e w1 ⟨rfl, hb1⟩) | (go_at_call 119; refine (deedOk_calls _ _ _ _ _ (by omega)).mono ?_; rintro e w2 ⟨rfl, hb2⟩; rw [HI.out]))
      all_goals have hbx : Below w.heap.size w w2 := below_then (below_then (hbr.alloc hbr.size _) (by have := hbr.size; simp; omega) hb1) (by have := hbr.size; have := hb1.size; simp at this; omega) hb2
      · go_ret
        refine ⟨?_, hbx⟩
        simp [changeOk, all_false_of (deedOk · c) _ k hlt HI.out]
      · go_roundw
        case rel => exact ⟨k + 1, by omega, by go_num, by unfold Hid; rw [all_take_snoc _ _ _ hlt, HA.out, HI.out]; rfl, hbx⟩
        case measure => simp [intOf]; omega
    · go_wp2
      go_ret
      refine ⟨?_, hbr⟩
      have := HA.out
      rw [all_take_all _ _ _ (by omega)] at this
      simp [changeOk, this, inR, hc0, hc3, hc5]
end Go.Proofs.Ytehgiijpmldiiaa
