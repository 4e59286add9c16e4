/- The program does a change at once. -/
import Derived.Test.YtehgiijpmldiiaaD1
import Derived.Test.YtehgiijpmldiiaaC1
import Derived.Laws.EntriesVeiled
namespace Go.Proofs.Ytehgiijpmldiiaa
open Go.RowKit
set_option linter.unusedVariables false
set_option linter.unusedSimpArgs false

def fnV (f : Nat) : Value := .func (.func f) #[] #[]
def doesV : Value := .agg #[fnV 121, fnV 122, fnV 123, fnV 124, fnV 125, fnV 126]
set_option maxHeartbeats 1000000 in
set_option maxRecDepth 100000 in
theorem does_calls (w : World) : Calls Try.prog 97 #[] w fun e w' => e = .returned doesV ∧ Below w.heap.size w w' := by
  go_enter Try.func97, Try.ntmps97
  go_wp2
  exact bodyPost_ret (v := doesV) (by simp [results, Try.results97, go_sem, doesV, fnV]) rfl ⟨rfl, (by repeat (first | exact Below.refl _ _ | (refine Below.alloc ?_ (by simp) _) | (refine Below.setCell ?_ (by simp) _) | (refine below_drewN' ?_ _) | (refine Below.drew ?_)))⟩

set_option maxHeartbeats 1000000 in
set_option maxRecDepth 100000 in
theorem cloneInt_calls (xs : List Int) (A : Option Addr) (c : Nat) (w : World) (S : Nat → Prop) (hr : Row Kd.int w S A xs) (hl : xs.length ≤ 1000000) :
    Calls Try.prog 34 #[.slice A xs.length c] w fun e w' => ∃ v, e = .returned v ∧ OwnI 3 w' w.heap.size v xs ∧ Below w.heap.size w w' := by
  cases A with
  | none =>
    have hx : xs = [] := by
      rcases Classical.em (xs = []) with h | h
      · exact h
      · obtain ⟨ad, e, _⟩ := hr.2 h; cases e
    subst hx
    have hn := Lib.run_eql_slice_nil (P := Try.prog) w 23 3 none 0 c 0 0 Try.underlying23
    go_enter Try.func34, Try.ntmps34
    go_wp2
    go_ret
    exact ⟨_, rfl, OwnI.nil _ _ _, Below.refl _ _⟩
  | some ad =>
    have hn := Lib.run_eql_slice_nil (P := Try.prog) w 23 3 (some ad) xs.length c 0 0 Try.underlying23
    go_enter Try.func34, Try.ntmps34
    go_wp2_with (at_builtin; refine wpList_clone_kd (d := Kd.int) rfl (.tmp 5) (.tmp 6) _ rfl Try.underlying23 _ 8 infoInt rfl (by decide) (by decide) rfl (some ad) c rfl hr (by omega) ?_; intro v w1 ho hb)
    go_ret
    exact ⟨v, rfl, OwnI.of ho, hb⟩

/-- What comes back of a change: rows of the call's own. -/
def ResCDi (r : Option (List Int × List Int)) (B : Nat) (e : Ending) (w' : World) : Prop :=
  match r with
  | none => e = .returned (.tuple #[.slice none 0 0, .slice none 0 0, .bool false])
  | some (c, r) => ∃ vc vr, e = .returned (.tuple #[vc, vr, .bool true]) ∧ OwnI 3 w' B vc c ∧ OwnI 3 w' B vr r ∧ ∀ k, vc.ownBlock = some k → vr.ownBlock ≠ some k

set_option maxHeartbeats 2000000 in
set_option maxRecDepth 100000 in
theorem implChangeDo_bad (cells regs : List Int) (deeds : List Deed) (A B D : Option Addr) (ca cb cd : Nat) (w : World) (S : Nat → Prop) (hA : Row Kd.int w S A cells) (hB : Row Kd.int w S B regs) (hD : Row kDeed w S D deeds) (hbad : deskOk cells regs deeds = false) :
    Calls Try.prog 66 #[.slice A cells.length ca, .slice B regs.length cb, .slice D deeds.length cd] w fun e w' => ResCDi none w.heap.size e w' ∧ Below w.heap.size w w' := by
  have hm := hA.1
  have hm2 := hB.1
  cases h1 : changeOk deeds cells.length
  · have H1 := Lib.hid h1
    clear h1 hbad
    go_enter Try.func66, Try.ntmps66
    go_wp2_with (go_at_call 95; refine (changeOk_calls deeds _ _ _ _ S hD (by omega)).mono ?_; rintro e w1 ⟨rfl, hb1⟩; rw [H1.out])
    go_ret3
    exact ⟨rfl, hb1⟩
  · cases h2 : numsOk cells
    · have H1 := Lib.hid h1
      have H2 := Lib.hid h2
      clear h1 h2 hbad
      go_enter Try.func66, Try.ntmps66
      go_wp2_with (first | (go_at_call 95; refine (changeOk_calls deeds _ _ _ _ S hD (by omega)).mono ?_; rintro e w1 ⟨rfl, hb1⟩; rw [H1.out]) | (go_at_call 62; refine (allNums_calls cells _ _ _ S (hA.belowAll hb1)).mono ?_; rintro e w' ⟨rfl, rfl⟩; rw [H2.out]))
      go_ret3
      exact ⟨rfl, hb1⟩
    · by_cases h4 : regs.length = 3
      · have h3 : numsOk regs = false := by simpa [deskOk, h1, h2, h4] using hbad
        have H1 := Lib.hid h1
        have H2 := Lib.hid h2
        have H3 := Lib.hid h3
        have h5 : ((regs.length : Int) != 3) = false := by simp [h4]
        clear h1 h2 h3 h4 hbad
        go_enter Try.func66, Try.ntmps66
        go_wp2_with (first | (go_at_call 95; refine (changeOk_calls deeds _ _ _ _ S hD (by omega)).mono ?_; rintro e w1 ⟨rfl, hb1⟩; rw [H1.out]) | (go_at_call 62; with_reducible refine (allNums_calls cells _ _ _ S (hA.belowAll hb1)).mono ?_; rintro e w' ⟨rfl, rfl⟩; rw [H2.out]) | (go_at_call 62; refine (allNums_calls regs _ _ _ S (hB.belowAll hb1)).mono ?_; rintro e w' ⟨rfl, rfl⟩; rw [H3.out]))
        go_ret3
        exact ⟨rfl, hb1⟩
      · have H1 := Lib.hid h1
        have H2 := Lib.hid h2
        have h5 : ((regs.length : Int) != 3) = true := by simp; omega
        clear h1 h2 h4 hbad
        go_enter Try.func66, Try.ntmps66
        go_wp2_with (first | (go_at_call 95; refine (changeOk_calls deeds _ _ _ _ S hD (by omega)).mono ?_; rintro e w1 ⟨rfl, hb1⟩; rw [H1.out]) | (go_at_call 62; refine (allNums_calls cells _ _ _ S (hA.belowAll hb1)).mono ?_; rintro e w' ⟨rfl, rfl⟩; rw [H2.out]))
        go_ret3
        exact ⟨rfl, hb1⟩
end Go.Proofs.Ytehgiijpmldiiaa
