/- The laws' helpers: marks over a whole program. -/
import Derived.Test.YtehgiijpmldiiaaX8
namespace Go.Proofs.Ytehgiijpmldiiaa
open Go.RowKit
set_option linter.unusedVariables false
set_option linter.unusedSimpArgs false

theorem set_other {cs : Array Value} {i j : Nat} {u v : Value} (h : cs[j]? = some v) (hn : i ≠ j) : (cs.setIfInBounds i u)[j]? = some v := by rw [Array.getElem?_setIfInBounds_ne hn]; exact h
set_option maxHeartbeats 2000000 in
set_option maxRecDepth 100000 in
theorem markDeedS_calls (T : Nat → Prop) (v : Value) (n : Nat) (k : Int) (w : World) (h : ShN T 3 w v n) (h0 : 0 ≤ k) (h1 : k + 3 * n ≤ top) :
    Calls Try.prog 101 #[v, .int .i64 k] w fun e w' => e = .returned (.int .i64 (k + 3 * n)) ∧ Mk T w w' := by
  have hS := Lib.hid h
  obtain ⟨A, c, rfl, hc1, hc2, hr⟩ := h
  have HT := Lib.hid (And.intro h0 h1)
  clear h0 h1
  go_enter Try.func101, Try.ntmps101
  go_wp2
  go_loopw [1, 5] (fun l i wr => ∃ j : Nat, j ≤ n ∧ i = .int .i64 j ∧ l = .int .i64 (k + 3 * j) ∧ Mk T w wr) (fun _ i _ => n - (intOf i).toNat)
  case atStart => exact ⟨0, Nat.zero_le _, rfl, by simp, Mk.refl _ _⟩
  case round =>
    obtain ⟨j, hj, rfl, rfl, hm⟩ := hrel
    by_cases hlt : j < n
    · rcases hr with hr | ⟨g, cs0, t, rfl, hT, _, _⟩
      · omega
      · obtain ⟨A', c', e, _, _, h3⟩ := hS.out.mk hm
        injection e with e1 e2 e3
        subst e1; subst e3
        rcases h3 with h3 | ⟨g', cs, t', e, _, hb, hc⟩
        · omega
        · injection e with e; injection e with e; subst e
          obtain ⟨y0, hy0⟩ := hc (j * 3) (by omega)
          obtain ⟨y1, hy1⟩ := hc (j * 3 + 1) (by omega)
          obtain ⟨y2, hy2⟩ := hc (j * 3 + 2) (by omega)
          have s0 := cellv hb hy0
          have s1 := frozen_of_row hb (j * 3)
          have s2 := cellv hb hy1
          have s3 := frozen_of_row hb (j * 3 + 1)
          have s4 := cellv hb hy2
          have s5 := frozen_of_row hb (j * 3 + 2)
          have x1 : (j : Int) < n := by omega
          have x3 : (0 : Int) ≤ j := by omega
          generalize hL : k + 3 * (j : Int) = L
          have hLb : 0 ≤ L ∧ L + 3 ≤ top := by have := HT.out; omega
          have hw1 := IntWalk.i64_in (L + 1) (by unfold top at hLb; omega)
          have hw2 := IntWalk.i64_in (L + 1 + 1) (by unfold top at hLb; omega)
          have hw3 := IntWalk.i64_in (L + 1 + 1 + 1) (by unfold top at hLb; omega)
          have m1 := hm.set hT hb hy0 L
          have b1 := heap_set_row (i := j * 3) hb (.int .i64 L)
          have m2 := m1.set hT b1 (set_other hy1 (by omega)) (L + 1)
          have b2 := heap_set_row (i := j * 3 + 1) b1 (.int .i64 (L + 1))
          have m3 := Lib.hid (m2.set hT b2 (set_other (set_other hy2 (by omega)) (by omega)) (L + 1 + 1))
          have HL := Lib.hid hL
          clear hm hb hLb m1 m2 b1 b2 hL
          go_wp2
          go_roundw
          case rel => exact ⟨j + 1, by omega, by go_num, val_int (by have := HL.out; omega), m3.out⟩
          case measure => simp [intOf]; omega
    · obtain rfl : j = n := by omega
      go_wp2
      go_ret
      exact ⟨rfl, hm⟩
def wAct (nm : Nat × Nat) : Int := 2 + 3 * nm.1 + nm.2
theorem wAct_pos (nm : Nat × Nat) : 0 ≤ wAct nm := by unfold wAct; omega
def wActs (l : List (Nat × Nat)) : Int := tot wAct l
theorem wActs_pos (l : List (Nat × Nat)) : 0 ≤ wActs l := tot_pos wAct l wAct_pos
/-- An act of a row that is marked. -/
theorem ShA.at_ {T : Nat → Prop} {w : World} {g c : Nat} {l : List (Nat × Nat)} (h : ShA T w (.slice (some ⟨g, 0, none⟩) l.length c) l) {j : Nat} (hj : j < l.length) : ∃ (cs : Array Value) (t : TypeId) (x y : Int) (B D : Option Addr) (d e : Nat), T g ∧ w.heap[g]? = some (.cells cs t (0, 0)) ∧ cs[j * 4]? = some (.int .i64 x) ∧ cs[j * 4 + 1]? = some (.slice B l[j].1 d) ∧ cs[j * 4 + 2]? = some (.slice D l[j].2 e) ∧ cs[j * 4 + 3]? = some (.int .i64 y) ∧ ShN T 3 w (.slice B l[j].1 d) l[j].1 ∧ ShN T 1 w (.slice D l[j].2 e) l[j].2 := by
  obtain ⟨A', c', e, _, _, h3⟩ := h
  injection e with e1 e2 e3
  subst e1; subst e3
  rcases h3 with h3 | ⟨g', cs, t', e, hT, hb, hc⟩
  · subst h3; simp at hj
  · injection e with e; injection e with e; subst e
    obtain ⟨x, y, B, D, d, e, h⟩ := hc j _ (List.getElem?_eq_getElem hj)
    exact ⟨cs, t', x, y, B, D, d, e, hT, hb, h⟩
theorem ShA.addr {T : Nat → Prop} {w : World} {v : Value} {l : List (Nat × Nat)} (h : ShA T w v l) (hl : 0 < l.length) : ∃ g c, v = .slice (some ⟨g, 0, none⟩) l.length c := by
  obtain ⟨A', c', rfl, _, _, h3⟩ := h
  rcases h3 with h3 | ⟨g', cs, t', rfl, hT, hb, hc⟩
  · subst h3; simp at hl
  · exact ⟨g', c', rfl⟩
set_option maxHeartbeats 4000000 in
set_option maxRecDepth 100000 in
theorem markActS_calls (T : Nat → Prop) (v : Value) (l : List (Nat × Nat)) (k : Int) (w : World) (h : ShA T w v l) (h0 : 0 ≤ k) (h1 : k + wActs l ≤ top) :
    Calls Try.prog 70 #[v, .int .i64 k] w fun e w' => e = .returned (.int .i64 (k + wActs l)) ∧ Mk T w w' := by
  have hS := Lib.hid h
  obtain ⟨A, c, rfl, hc1, hc2, hr⟩ := h
  have HT := Lib.hid (And.intro h0 h1)
  clear h0 h1 hr
  go_enter Try.func70, Try.ntmps70
  go_wp2
  go_loopw [1, 5] (fun m i wr => ∃ j : Nat, j ≤ l.length ∧ i = .int .i64 j ∧ m = .int .i64 (k + tot wAct (l.take j)) ∧ Mk T w wr) (fun _ i _ => l.length - (intOf i).toNat)
  case atStart => exact ⟨0, Nat.zero_le _, rfl, by simp [tot], Mk.refl _ _⟩
  case round =>
    obtain ⟨j, hj, rfl, rfl, hm⟩ := hrel
    by_cases hlt : j < l.length
    · obtain ⟨g, c', e⟩ := hS.out.addr (by omega)
      injection e with e1 e2 e3
      subst e1; subst e3
      obtain ⟨cs, t, x, y, B, D, d, e, hT, hb, c0, c1, c2, c3, hd, hi⟩ := (hS.out.mk hm).at_ hlt
      have s0 := cellv hb c0
      have s1 := frozen_of_row hb (j * 4)
      have s2 := cellv hb c1
      have x1 : (j : Int) < l.length := by omega
      have x3 : (0 : Int) ≤ j := by omega
      have hs := tot_snoc wAct l j hlt
      have hp := tot_pos wAct (l.take j) wAct_pos
      have hq := tot_le wAct l (j + 1) wAct_pos
      generalize hL : k + tot wAct (l.take j) = L
      have hLb : 0 ≤ L ∧ L + wAct l[j] ≤ top := by have := HT.out; unfold wActs at this; omega
      have hw1 := IntWalk.i64_in (L + 1) (by unfold top wAct at hLb; omega)
      have m1 := hm.set hT hb c0 L
      have n1 := (Mk.refl T wr).set hT hb c0 L
      have HL := Lib.hid (And.intro hL (And.intro hs hLb))
      have HM := Lib.hid (And.intro m1 (And.intro (hd.mk n1) (hi.mk n1)))
      generalize hnd : l[j].1 = nd at *
      generalize hnk : l[j].2 = nk at *
      have hwa : wAct l[j] = 2 + 3 * nd + nk := by unfold wAct; rw [hnd, hnk]
      have HW := Lib.hid hwa
      have hw2 := IntWalk.i64_in (L + 1 + 3 * nd + nk + 1) (by unfold top at hLb; omega)
      clear hm hb hLb m1 n1 hL hs hp hq hd hi hwa
      go_wp2_with (first
        | (go_at_call 101; refine (markDeedS_calls T _ nd (L + 1) _ HM.out.2.1 (by have := HL.out; omega) (by have := HL.out; have := HW.out; omega)).mono ?_; rintro e w1 ⟨rfl, hm1⟩; have hmt := HM.out.1.trans hm1; obtain ⟨cs1, t1, x', y', B', D', d', e', _, hb1, a0, a1, a2, a3, _, hi1⟩ := (hS.out.mk hmt).at_ hlt; rw [hnk] at a2 hi1; have u2 := cellv hb1 a2) | (go_at_call 16; refine (markIntS_calls T _ nk (L + 1 + 3 * nd) _ hi1 (by have := HL.out; omega) (by have := HL.out; have := HW.out; omega)).mono ?_; rintro e w2 ⟨rfl, hm2⟩; have hmt2 := hmt.trans hm2; obtain ⟨cs2, t2, x2, y2, B2, D2, d2, e2, _, hb2, g0, g1, g2, g3, _, _⟩ := (hS.out.mk hmt2).at_ hlt; have u3 := cellv hb2 g3; have u4 := frozen_of_row hb2 (j * 4 + 3); have m3 := Lib.hid (hmt2.set hT hb2 g3 (L + 1 + 3 * nd + nk))))
      go_roundw
      case rel => exact ⟨j + 1, by omega, by go_num, val_int (by have := HL.out; have := HW.out; omega), m3.out⟩
      case measure => simp [intOf]; omega
    · obtain rfl : j = l.length := by omega
      have e0 : tot wAct (l.take l.length) = wActs l := by rw [List.take_length]; rfl
      have HE := Lib.hid e0
      go_wp2
      go_ret
      exact ⟨ret_int (by rw [HE.out]), hm⟩
end Go.Proofs.Ytehgiijpmldiiaa
