/- The reference's look at an act. -/
import Derived.Test.YtehgiijpmldiiaaA1
import Derived.StillTailTactics
namespace Go.Proofs.Ytehgiijpmldiiaa
open Go.RowKit
set_option linter.unusedVariables false
set_option linter.unusedSimpArgs false


section
variable (A B D E : Option Addr) (ca cb cd ce : Nat) (w : World) (S : Nat → Prop)
def l1ActArgs (p : Prog) (a : Act) (body : Int) : Array Value := #[.agg #[.slice A p.cells.length ca, .slice B p.bodies.length cb], .int .i64 body, .agg #[.int .i64 a.kind, .slice D a.deeds.length cd, .slice E a.kids.length ce, .int .i64 a.reg]]

set_option maxHeartbeats 1000000 in
set_option maxRecDepth 100000 in
theorem l1Act_other (p : Prog) (k : Int) (deeds : List Deed) (kids : List Int) (reg body : Int) (h1 : k ≠ 1) (h2 : k ≠ 2) (h3 : k ≠ 3) (h4 : k ≠ 4) (hm3 : deeds.length ≤ 9223372036854775807) (hm4 : kids.length ≤ 9223372036854775807) :
    Calls Try.prog 90 #[.agg #[.slice A p.cells.length ca, .slice B p.bodies.length cb], .int .i64 body, .agg #[.int .i64 k, .slice D deeds.length cd, .slice E kids.length ce, .int .i64 reg]] w
      fun e w' => e = .returned (.bool false) ∧ Below w.heap.size w w' := by
  by_cases hr : reg = 0 <;> rcases deeds with _ | ⟨d0, dr⟩ <;> rcases kids with _ | ⟨k0, kr⟩
  all_goals
    simp only [List.length_cons, List.length_nil] at *
    go_enter Try.func90, Try.ntmps90
    go_wp2_with fail
    all_goals
      go_ret
      exact ⟨rfl, ((Below.refl _ _).alloc (Nat.le_refl _) _).alloc (by simp) _⟩

set_option maxHeartbeats 1000000 in
set_option maxRecDepth 100000 in
theorem l1Act_3 (p : Prog) (deeds : List Deed) (kids : List Int) (reg body : Int) (hm3 : deeds.length ≤ 9223372036854775807) (hm4 : kids.length ≤ 9223372036854775807) :
    Calls Try.prog 90 #[.agg #[.slice A p.cells.length ca, .slice B p.bodies.length cb], .int .i64 body, .agg #[.int .i64 3, .slice D deeds.length cd, .slice E kids.length ce, .int .i64 reg]] w
      fun e w' => e = .returned (.bool (actOk ⟨3, deeds, kids, reg⟩ p.cells.length body p.bodies.length)) ∧ Below w.heap.size w w' := by
  by_cases hr : reg = 0 <;> rcases deeds with _ | ⟨d0, dr⟩ <;> rcases kids with _ | ⟨k0, kr⟩
  all_goals
    simp only [List.length_cons, List.length_nil] at *
    go_enter Try.func90, Try.ntmps90
    go_wp2_with fail
    all_goals
      go_ret
      exact ⟨by simp [actOk, hr], ((Below.refl _ _).alloc (Nat.le_refl _) _).alloc (by simp) _⟩

set_option maxHeartbeats 1000000 in
set_option maxRecDepth 100000 in
theorem l1Act_4 (p : Prog) (deeds : List Deed) (kids : List Int) (reg body : Int) (hm3 : deeds.length ≤ 9223372036854775807) (hm4 : kids.length ≤ 9223372036854775807) :
    Calls Try.prog 90 #[.agg #[.slice A p.cells.length ca, .slice B p.bodies.length cb], .int .i64 body, .agg #[.int .i64 4, .slice D deeds.length cd, .slice E kids.length ce, .int .i64 reg]] w
      fun e w' => e = .returned (.bool (actOk ⟨4, deeds, kids, reg⟩ p.cells.length body p.bodies.length)) ∧ Below w.heap.size w w' := by
  rcases deeds with _ | ⟨d0, dr⟩ <;> rcases kids with _ | ⟨k0, kr⟩
  all_goals
    simp only [List.length_cons, List.length_nil] at *
    go_enter Try.func90, Try.ntmps90
    go_wp2_with (go_at_call 76; refine (l6In_calls _ _ _ _).mono ?_; rintro e w' ⟨rfl, rfl⟩)
    all_goals
      go_ret
      exact ⟨by simp [actOk], ((Below.refl _ _).alloc (Nat.le_refl _) _).alloc (by simp) _⟩

set_option maxHeartbeats 1000000 in
set_option maxRecDepth 100000 in
theorem l1Act_2 (p : Prog) (deeds : List Deed) (kids : List Int) (reg body : Int) (hm3 : deeds.length ≤ 9223372036854775807) (hm2 : p.bodies.length ≤ 9223372036854775807) (hk : Row Kd.int w S E kids) (h0 : 0 ≤ body) (h1 : body ≤ 100) :
    Calls Try.prog 90 #[.agg #[.slice A p.cells.length ca, .slice B p.bodies.length cb], .int .i64 body, .agg #[.int .i64 2, .slice D deeds.length cd, .slice E kids.length ce, .int .i64 reg]] w
      fun e w' => e = .returned (.bool (actOk ⟨2, deeds, kids, reg⟩ p.cells.length body p.bodies.length)) ∧ Below w.heap.size w w' := by
  have hm4 := hk.1
  by_cases hr : reg = 0 <;> rcases deeds with _ | ⟨d0, dr⟩
  all_goals
    simp only [List.length_cons, List.length_nil] at *
    have hkk := fun o o' => (hk.belowAll (((Below.refl w.heap.size w).alloc (Nat.le_refl _) o).alloc (by simp) o'))
    go_enter Try.func90, Try.ntmps90
    go_wp2_with (go_at_call 118; refine (l1Kids_calls kids _ _ _ _ _ _ (hkk _ _) (by omega) (by omega) (by omega) (by omega)).mono ?_; rintro e w' ⟨rfl, rfl⟩)
    all_goals
      go_ret
      exact ⟨by simp [actOk, hr], ((Below.refl _ _).alloc (Nat.le_refl _) _).alloc (by simp) _⟩

end
end Go.Proofs.Ytehgiijpmldiiaa
