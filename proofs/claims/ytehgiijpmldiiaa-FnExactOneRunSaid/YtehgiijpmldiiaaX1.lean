/- The laws' helpers: sizes; rows of numbers compared. -/
import Derived.Test.YtehgiijpmldiiaaE3
namespace Go.Proofs.Ytehgiijpmldiiaa
open Go.RowKit
set_option linter.unusedVariables false
set_option linter.unusedSimpArgs false

theorem bal' (w : World) (o : Obj) : Below w.heap.size w (w.alloc o) := (Below.refl _ _).alloc (Nat.le_refl _) o
/-- What is left of 'left' behind n; -1: too much. -/
def dec (left n : Int) : Int := if n ≤ left then left - n else -1
theorem dec_ok {left n : Int} (h : n ≤ left) : dec left n = left - n := if_pos h
theorem dec_no {left n : Int} (h : ¬ n ≤ left) : dec left n = -1 := if_neg h
def sizeAct (a : Act) : Int := a.deeds.length + a.kids.length
theorem sumOf_nonneg {α : Type} (f : α → Int) (l : List α) (h : ∀ x, 0 ≤ f x) : 0 ≤ (l.map f).sum := by
  induction l with
  | nil => simp
  | cons a r ih => have := h a; simp only [List.map_cons, List.sum_cons]; omega
def tot {α : Type} (f : α → Int) (l : List α) : Int := (l.map f).sum
theorem tot_snoc {α : Type} (f : α → Int) (l : List α) (k : Nat) (h : k < l.length) : tot f (l.take (k + 1)) = tot f (l.take k) + f l[k] := by
  unfold tot; rw [List.take_succ_eq_append_getElem h]; simp only [List.map_append, List.sum_append, List.map_cons, List.map_nil, List.sum_cons, List.sum_nil, Int.add_zero]
theorem tot_le {α : Type} (f : α → Int) (l : List α) (k : Nat) (h : ∀ x, 0 ≤ f x) : tot f (l.take k) ≤ tot f l := by
  have e : tot f l = tot f (l.take k) + tot f (l.drop k) := by
    unfold tot
    rw [← List.sum_append, ← List.map_append, List.take_append_drop]
  have := sumOf_nonneg f (l.drop k) h
  unfold tot at *; omega
theorem tot_pos {α : Type} (f : α → Int) (l : List α) (h : ∀ x, 0 ≤ f x) : 0 ≤ tot f l := sumOf_nonneg f l h
theorem sizeAct_pos (a : Act) : 0 ≤ sizeAct a := by unfold sizeAct; omega
def sizeOf1 (l : List Act) : Int := l.length + tot sizeAct l
theorem sizeOf1_pos (l : List Act) : 0 ≤ sizeOf1 l := by have := tot_pos sizeAct l sizeAct_pos; unfold sizeOf1; omega
def sizeOf2 (l : List (List Act)) : Int := l.length + tot sizeOf1 l
theorem sizeOf2_pos (l : List (List Act)) : 0 ≤ sizeOf2 l := by have := tot_pos sizeOf1 l sizeOf1_pos; unfold sizeOf2; omega
def sizeOf3 (p : Prog) : Int := p.cells.length + sizeOf2 p.bodies

set_option maxHeartbeats 1000000 in
theorem szIntS_calls (A : Option Addr) (n c : Nat) (left : Int) (w : World) (h0 : 0 ≤ left) (h1 : left ≤ 1048576) (hn : n ≤ 9223372036854775807) :
    Calls Try.prog 35 #[.slice A n c, .int .i64 left] w fun e w' => e = .returned (.int .i64 (dec left n)) ∧ w' = w := by
  have hw := IntWalk.i64_in (left - n) (by omega)
  by_cases h : (n : Int) ≤ left
  · have h2 : ¬ left - (n : Int) < 0 := by omega
    rw [dec_ok h]
    clear h h0 h1 hn
    go_enter Try.func35, Try.ntmps35
    go_wp2
    go_ret
    exact ⟨rfl, rfl⟩
  · have h2 : left - (n : Int) < 0 := by omega
    rw [dec_no h]
    clear h h0 h1 hn
    go_enter Try.func35, Try.ntmps35
    go_wp2
    go_ret
    exact ⟨rfl, rfl⟩
set_option maxHeartbeats 1000000 in
theorem szDeedS_calls (A : Option Addr) (n c : Nat) (left : Int) (w : World) (h0 : 0 ≤ left) (h1 : left ≤ 1048576) (hn : n ≤ 9223372036854775807) :
    Calls Try.prog 127 #[.slice A n c, .int .i64 left] w fun e w' => e = .returned (.int .i64 (dec left n)) ∧ w' = w := by
  have hw := IntWalk.i64_in (left - n) (by omega)
  by_cases h : (n : Int) ≤ left
  · have h2 : ¬ left - (n : Int) < 0 := by omega
    rw [dec_ok h]
    clear h h0 h1 hn
    go_enter Try.func127, Try.ntmps127
    go_wp2
    go_ret
    exact ⟨rfl, rfl⟩
  · have h2 : left - (n : Int) < 0 := by omega
    rw [dec_no h]
    clear h h0 h1 hn
    go_enter Try.func127, Try.ntmps127
    go_wp2
    go_ret
    exact ⟨rfl, rfl⟩
set_option maxHeartbeats 1000000 in
theorem szAct_calls (A B : Option Addr) (n m c d : Nat) (k r left : Int) (w : World) (h0 : 0 ≤ left) (h1 : left ≤ 1048576) (hn : n ≤ 9223372036854775807) (hm : m ≤ 9223372036854775807) :
    Calls Try.prog 98 #[.agg #[.int .i64 k, .slice A n c, .slice B m d, .int .i64 r], .int .i64 left] w fun e w' => e = .returned (.int .i64 (dec left (n + m))) ∧ Below w.heap.size w w' := by
  have hb := fun o => bal' w o
  by_cases h : (n : Int) ≤ left
  · have h2 : ¬ left - (n : Int) < 0 := by omega
    by_cases h3 : (m : Int) ≤ left - n
    · have h4 : ¬ left - (n : Int) - m < 0 := by omega
      have e1 := dec_ok h
      have e2 := dec_ok h3
      have e3 : dec left (n + m) = left - n - m := by rw [dec_ok (by omega)]; omega
      rw [e3]
      have HE := Lib.hid (And.intro e1 e2)
      have H0 := Lib.hid (show 0 ≤ left ∧ 0 ≤ left - (n : Int) ∧ left - (n : Int) ≤ 1048576 by omega)
      clear h h3 e1 e2 e3 h0
      go_enter Try.func98, Try.ntmps98
      go_wp2_with (first | (go_at_call 127; refine (szDeedS_calls _ n _ left _ H0.out.1 h1 hn).mono ?_; rintro e w' ⟨rfl, rfl⟩; rw [HE.out.1]) | (go_at_call 35; refine (szIntS_calls _ m _ (left - n) _ H0.out.2.1 H0.out.2.2 hm).mono ?_; rintro e w' ⟨rfl, rfl⟩; rw [HE.out.2]))
      go_ret
      exact ⟨rfl, hb _⟩
    · have e1 := dec_ok h
      have e2 := dec_no h3
      have e3 : dec left (n + m) = -1 := dec_no (by omega)
      rw [e3]
      have HE := Lib.hid (And.intro e1 e2)
      have H0 := Lib.hid (show 0 ≤ left ∧ 0 ≤ left - (n : Int) ∧ left - (n : Int) ≤ 1048576 by omega)
      clear h h3 e1 e2 e3 h0
      go_enter Try.func98, Try.ntmps98
      go_wp2_with (first | (go_at_call 127; refine (szDeedS_calls _ n _ left _ H0.out.1 h1 hn).mono ?_; rintro e w' ⟨rfl, rfl⟩; rw [HE.out.1]) | (go_at_call 35; refine (szIntS_calls _ m _ (left - n) _ H0.out.2.1 H0.out.2.2 hm).mono ?_; rintro e w' ⟨rfl, rfl⟩; rw [HE.out.2]))
      go_ret
      exact ⟨rfl, hb _⟩
  · have e1 := dec_no h
    have e3 : dec left (n + m) = -1 := dec_no (by omega)
    rw [e3]
    have HE := Lib.hid e1
    clear h e1 e3
    go_enter Try.func98, Try.ntmps98
    go_wp2_with (go_at_call 127; refine (szDeedS_calls _ n _ left _ h0 h1 hn).mono ?_; rintro e w' ⟨rfl, rfl⟩; rw [HE.out])
    go_ret
    exact ⟨rfl, hb _⟩
set_option maxHeartbeats 2000000 in
set_option maxRecDepth 100000 in
theorem eqIntS_calls (xs ys : List Int) (A B : Option Addr) (ca cb : Nat) (w : World) (S S2 : Nat → Prop) (hA : Row Kd.int w S A xs) (hB : Row Kd.int w S2 B ys) :
    Calls Try.prog 13 #[.slice A xs.length ca, .slice B ys.length cb] w fun e w' => e = .returned (.bool (decide (xs = ys))) ∧ Below w.heap.size w w' := by
  have hm := hA.1
  have hm2 := hB.1
  by_cases hl : xs.length = ys.length
  rotate_left
  · have hne : ((xs.length : Int) != ys.length) = true := by simp; omega
    have hd : decide (xs = ys) = false := by simp; intro e; exact hl (by rw [e])
    rw [hd]
    clear hl hd
    go_enter Try.func13, Try.ntmps13
    go_wp2
    go_ret
    exact ⟨rfl, Below.refl _ _⟩
  · have hne : ((xs.length : Int) != ys.length) = false := by simp; omega
    have HL := Lib.hid hl
    clear hl
    go_enter Try.func13, Try.ntmps13
    go_wp2
    go_loopw [5] (fun i wr => ∃ k : Nat, k ≤ xs.length ∧ i = .int .i64 k ∧ Hid (xs.take k = ys.take k) ∧ Below w.heap.size w wr) (fun i _ => xs.length - (intOf i).toNat)
    case atStart => exact ⟨0, Nat.zero_le _, rfl, rfl, Below.refl _ _⟩
    case round =>
      obtain ⟨k, hk, rfl, HA, hbr⟩ := hrel
      by_cases hlt : k < xs.length
      · have hlt2 : k < ys.length := by rw [← HL.out]; exact hlt
        obtain ⟨ad, rfl, hl1, hc1, hi1⟩ := at_int (hA.belowAll hbr) hlt
        obtain ⟨ad2, rfl, hl2, hc2, hi2⟩ := at_int (hB.belowAll hbr) hlt2
        have x1 : (k : Int) < xs.length := by omega
        have x2 : (k : Int) < ys.length := by omega
        have x3 : (0 : Int) ≤ k := by omega
        by_cases he : xs[k] = ys[k]
        · have hb : (xs[k] != ys[k]) = false := by simp [he]
          have HEQ := Lib.hid he
          clear he
          go_wp2
          go_quiet (fail)
          go_wp2
          go_roundw
          case rel => exact ⟨k + 1, by omega, by go_num, by unfold Hid; rw [List.take_succ_eq_append_getElem hlt, List.take_succ_eq_append_getElem hlt2, HA.out, HEQ.out], below_drewN' hbr _⟩
          case measure => simp [intOf]; omega
        · have hb : (xs[k] != ys[k]) = true := by simp [he]
          have hd : decide (xs = ys) = false := by simp; intro e; subst e; exact he rfl
          have HDD := Lib.hid hd
          clear he hd
          go_wp2
          go_quiet (fail)
          go_wp2
          go_ret
          exact ⟨ret_bool HDD.out.symm, below_drewN' hbr _⟩
      · have hd : decide (xs = ys) = true := by
          have := HA.out
          rw [List.take_of_length_le (by omega), List.take_of_length_le (by rw [← HL.out]; omega)] at this
          simp [this]
        have HDD := Lib.hid hd
        clear hd
        go_wp2
        go_ret
        exact ⟨ret_bool HDD.out.symm, hbr⟩
end Go.Proofs.Ytehgiijpmldiiaa
