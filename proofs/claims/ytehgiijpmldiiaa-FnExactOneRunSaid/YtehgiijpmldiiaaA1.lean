/- The reference's look at a program's form. -/
import Derived.Test.YtehgiijpmldiiaaK1
namespace Go.Proofs.Ytehgiijpmldiiaa
open Go.RowKit
set_option linter.unusedVariables false
set_option linter.unusedSimpArgs false

set_option maxRecDepth 100000 in
theorem l6In_calls (n lo hi : Int) (w : World) :
    Calls Try.prog 76 #[.int .i64 n, .int .i64 lo, .int .i64 hi] w fun e w' => e = .returned (.bool (inR n lo hi)) ∧ w = w' := by
  by_cases h : lo ≤ n
  all_goals
    go_enter Try.func76, Try.ntmps76
    go_wp2
    go_ret
    exact ⟨by simp [inR, h] <;> omega, rfl⟩

set_option maxHeartbeats 1000000 in
set_option maxRecDepth 100000 in
theorem l1Deed_calls (k a b c : Int) (w : World) (h0 : 0 ≤ c) (h1 : c ≤ 9223372036854775807) :
    Calls Try.prog 117 #[.agg #[.int .i64 k, .int .i64 a, .int .i64 b], .int .i64 c] w fun e w' => e = .returned (.bool (deedOk ⟨k, a, b⟩ c)) ∧ Below w.heap.size w w' := by
  go_enter Try.func117, Try.ntmps117
  go_wp2_with (go_at_call 76; refine (l6In_calls _ _ _ _).mono ?_; rintro e w' ⟨rfl, rfl⟩)
  all_goals
    go_ret
    refine ⟨?_, ?_⟩
    · simp_all [deedOk]
    · exact (Below.refl _ _).alloc (Nat.le_refl _) _

theorem i64_toNat_add (k : Nat) (h : k < 9223372036854775807) : (k : Int) + 1 = ((k + 1 : Nat) : Int) := by omega
set_option maxHeartbeats 1000000 in
set_option maxRecDepth 100000 in
theorem l1Kids_calls (kids : List Int) (A : Option Addr) (cap : Nat) (body bodies : Int) (w : World) (S : Nat → Prop) (hr : Row Kd.int w S A kids) (h0 : 0 ≤ body) (h1 : body ≤ 100) (h2 : 0 ≤ bodies) (h3 : bodies ≤ 9223372036854775807) :
    Calls Try.prog 118 #[.slice A kids.length cap, .int .i64 body, .int .i64 bodies] w fun e w' => e = .returned (.bool (kidsOk kids body bodies)) ∧ w = w' := by
  have hm := hr.1
  go_enter Try.func118, Try.ntmps118
  go_wp2
  go_loop [7] (fun i => ∃ k : Nat, k ≤ kids.length ∧ i = .int .i64 k ∧ Hid ((kids.take k).all (fun k => inR k (body + 1) (bodies - 1)) = true)) (fun i => kids.length - (intOf i).toNat)
  case atStart => exact ⟨0, Nat.zero_le _, rfl, by simp [Hid]⟩
  case round =>
    obtain ⟨k, hk, rfl, HA⟩ := hrel
    by_cases hlt : k < kids.length
    · obtain ⟨ad, rfl, hl, hc, hi⟩ := at_int hr hlt
      cases hin : inR kids[k] (body + 1) (bodies - 1)
      all_goals
        have HI := Lib.hid hin
        clear hin
        go_wp2_with (go_at_call 76; refine (l6In_calls _ _ _ _).mono ?_; rintro e w' ⟨rfl, rfl⟩; simp only [HI.out])
      · go_ret
        refine ⟨?_, rfl⟩
        rw [kidsOk, all_false_of _ _ k hlt HI.out]; rfl
      · go_round
        case rel => exact ⟨k + 1, by omega, by go_num, by unfold Hid; rw [all_take_snoc _ _ _ hlt, HA.out, HI.out]; rfl⟩
        case measure => simp [intOf]; omega
    · go_wp2_with (go_at_call 76; refine (l6In_calls _ _ _ _).mono ?_; rintro e w' ⟨rfl, rfl⟩)
      go_ret
      refine ⟨?_, rfl⟩
      have := HA.out
      rw [all_take_all _ _ _ (by omega)] at this
      simp [kidsOk, this]
end Go.Proofs.Ytehgiijpmldiiaa
