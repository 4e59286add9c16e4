/- The laws' helpers: a program copied in new memory. -/
import Derived.Test.YtehgiijpmldiiaaX5
namespace Go.Proofs.Ytehgiijpmldiiaa
open Go.RowKit
set_option linter.unusedVariables false
set_option linter.unusedSimpArgs false

theorem Own.map {α : Type} {d d' : Kd α} {e : Nat} {w : World} {base : Nat} {S : Nat → Prop} {v : Value} {xs : List α} (hs : d.sz = d'.sz) (hK : ∀ S x cs, d.K w S x cs → d'.K w S x cs) (h : Own d e w base S v xs) : Own d' e w base S v xs := by
  obtain ⟨css, h1, h2, h3, h4⟩ := h
  refine own_intro css (by rw [← hs]; exact h1) h2 h3 fun j x hj => ?_
  obtain ⟨c, hc, hk⟩ := h4 j x hj
  exact ⟨c, hc, hK _ _ _ hk⟩
theorem kActO_lower {b b' : Nat} (hb : b' ≤ b) {w : World} {S : Nat → Prop} {x : Act} {cs : List Value} (h : (kActO b).K w S x cs) : (kActO b').K w S x cs := by
  obtain ⟨v, u, rfl, hv, hu, h1, h2⟩ := kActO_open h
  exact kActO_mk x (hv.lower hb) (hu.lower hb) h1 h2
theorem kActO_zero (b : Nat) (w : World) (S : Nat → Prop) : (kActO b).K w S ⟨0, [], [], 0⟩ [.int .i64 0, .slice none 0 0, .slice none 0 0, .int .i64 0] := kActO_mk ⟨0, [], [], 0⟩ (Own.nil _ _ _ _ _) (Own.nil _ _ _ _ _) (by unfold i64; simp) (by unfold i64; simp)
theorem Own.nextAct {e b : Nat} {w : World} {base : Nat} {S : Nat → Prop} {xs : List Act} {g cap k : Nat} (h : Own (kActO b) e w base S (.slice (some ⟨g, 0, none⟩) xs.length cap) (xs.take k ++ List.replicate (xs.length - k) ⟨0, [], [], 0⟩)) (hk : k < xs.length) (h1 : i64 xs[k].kind) (h2 : i64 xs[k].reg) {v u : Value}
    (hv : Own kDeed 142 w b (fun k => S k ∧ k ≠ g) v xs[k].deeds) (hu : Own Kd.int 3 w b (fun k => S k ∧ k ≠ g) u xs[k].kids) :
    Own (kActO b) e ((((w.setCell ⟨g, k * 4, none⟩ (.int .i64 xs[k].kind)).setCell ⟨g, k * 4 + 1, none⟩ v).setCell ⟨g, k * 4 + 2, none⟩ u).setCell ⟨g, k * 4 + 3, none⟩ (.int .i64 xs[k].reg)) base S (.slice (some ⟨g, 0, none⟩) xs.length cap) (xs.take (k + 1) ++ List.replicate (xs.length - (k + 1)) ⟨0, [], [], 0⟩) := by
  have hl := put_len xs ⟨0, [], [], 0⟩ k (Nat.le_of_lt hk)
  have hz := put_at xs ⟨0, [], [], 0⟩ k hk (by omega)
  have z0 : i64 0 := by unfold i64; simp
  have mv : ∀ {α : Type} {d : Kd α} {e' : Nat} {v' : Value} {l : List α} {w1 : World} (o : Nat) (x : Value), Own d e' w1 b (fun k => S k ∧ k ≠ g) v' l → Own d e' (w1.setCell ⟨g, o, none⟩ x) b (fun k => S k ∧ k ≠ g) v' l := fun o x h => h.step fun k hs _ => Below.heap_setCell _ _ x k hs.2
  have a1 := Own.setN h hl.symm (j := k) (by omega) (i := 0) (by show 0 < 4; omega) (.int .i64 xs[k].kind) ⟨xs[k].kind, [], [], 0⟩ (fun c hc => by
    rw [hz] at hc
    obtain ⟨v', u', rfl, hv', hu', _⟩ := kActO_open hc
    exact kActO_mk ⟨xs[k].kind, [], [], 0⟩ hv' hu' h1 z0)
  have v1 := mv (k * 4 + 0) (.int .i64 xs[k].kind) hv
  have u1 := mv (k * 4 + 0) (.int .i64 xs[k].kind) hu
  have a2 := Own.setN a1 (by simp; omega) (j := k) (by simp; omega) (i := 1) (by show 1 < 4; omega) v ⟨xs[k].kind, xs[k].deeds, [], 0⟩ (fun c hc => by
    simp only [List.getElem_set_self] at hc
    obtain ⟨v', u', rfl, hv', hu', _⟩ := kActO_open hc
    exact kActO_mk ⟨xs[k].kind, xs[k].deeds, [], 0⟩ v1 hu' h1 z0)
  have v2 := mv (k * 4 + 1) v v1
  have u2 := mv (k * 4 + 1) v u1
  have a3 := Own.setN a2 (by simp; omega) (j := k) (by simp; omega) (i := 2) (by show 2 < 4; omega) u ⟨xs[k].kind, xs[k].deeds, xs[k].kids, 0⟩ (fun c hc => by
    simp only [List.getElem_set_self] at hc
    obtain ⟨v', u', rfl, hv', hu', _⟩ := kActO_open hc
    exact kActO_mk ⟨xs[k].kind, xs[k].deeds, xs[k].kids, 0⟩ hv' u2 h1 z0)
  have v3 := mv (k * 4 + 2) u v2
  have u3 := mv (k * 4 + 2) u u2
  have a4 := Own.setN a3 (by simp; omega) (j := k) (by simp; omega) (i := 3) (by show 3 < 4; omega) (.int .i64 xs[k].reg) xs[k] (fun c hc => by
    simp only [List.getElem_set_self] at hc
    obtain ⟨v', u', rfl, hv', hu', _⟩ := kActO_open hc
    exact kActO_mk xs[k] hv' hu' h1 h2)
  rw [List.set_set, List.set_set, List.set_set, put_next xs ⟨0, [], [], 0⟩ k hk] at a4
  exact a4
set_option maxHeartbeats 2000000 in
set_option maxRecDepth 100000 in
theorem toActS_calls (xs : List Act) (A : Option Addr) (c : Nat) (w : World) (S : Nat → Prop) (hA : Row kAct w S A xs) (hS : ∀ k, S k → k < w.heap.size) (hn : xs.length ≤ 1048576) (ha : ∀ a ∈ xs, a.deeds.length ≤ 1048576 ∧ a.kids.length ≤ 1048576) :
    Calls Try.prog 68 #[.slice A xs.length c] w (Copied (kActO w.heap.size) 34 xs w) := by
  have hmk := make_row Try.underlying31 infoAct [.int .i64 0, .slice none 0 0, .slice none 0 0, .int .i64 0] rfl xs.length (by omega) (by omega)
  have h00 : Own (kActO w.heap.size) 34 (w.alloc (.cells (madeCells [.int .i64 0, .slice none 0 0, .slice none 0 0, .int .i64 0].toArray (xs.length * 4)) 34)) w.heap.size (fun k => w.heap.size ≤ k) (.slice (some ⟨w.heap.size, 0, none⟩) xs.length xs.length) (List.replicate xs.length ⟨0, [], [], 0⟩) := Own.zeros (d := kActO w.heap.size) xs.length _ _ rfl (by show 0 < 4; omega) (kActO_zero w.heap.size) (Nat.le_refl _) (Nat.le_refl _) (by omega)
  have hb0 := bal' w (.cells (madeCells [.int .i64 0, .slice none 0 0, .slice none 0 0, .int .i64 0].toArray (xs.length * 4)) 34)
  go_enter Try.func68, Try.ntmps68
  go_wp2
  go_loopw [4] (fun i wr => ∃ k : Nat, k ≤ xs.length ∧ i = .int .i64 k ∧ Own (kActO w.heap.size) 34 wr w.heap.size (fun k => w.heap.size ≤ k) (.slice (some ⟨w.heap.size, 0, none⟩) xs.length xs.length) (xs.take k ++ List.replicate (xs.length - k) ⟨0, [], [], 0⟩) ∧ Below w.heap.size w wr ∧ w.heap.size < wr.heap.size) (fun i _ => xs.length - (intOf i).toNat)
  case atStart => exact ⟨0, Nat.zero_le _, rfl, by simpa using h00, by simpa using hb0, by simp⟩
  case round =>
    obtain ⟨k, hk, rfl, ho, hbr, hsl⟩ := hrel
    clear h00 hb0 hmk
    by_cases hlt : k < xs.length
    · obtain ⟨ad, D, cd, E, ce, rfl, hl1, p0, p1, p2, p3, hcd, hce, hD, hE, i1, i2⟩ := at_act (hA.belowAll hbr) hlt
      have x1 : (k : Int) < xs.length := by omega
      have x3 : (0 : Int) ≤ k := by omega
      have hx := ha _ (List.getElem_mem hlt)
      have HO := Lib.hid ho
      have HB := Lib.hid hbr
      clear ho hbr
      go_wp2_with (go_at_call 99; refine (toAct_calls xs[k] _ _ _ _ _ S hD hE (fun k hk => Nat.lt_trans (hS k hk) hsl) hx.1 hx.2).mono ?_; rintro e w1 ⟨v, u, rfl, hv, hu, hb1⟩; obtain ⟨A1, c1, rfl, hc1⟩ := hv.slice; obtain ⟨A2, c2, rfl, hc2⟩ := hu.slice; have ho1 := HO.out.belowAll hb1; obtain ⟨⟨v0, s0⟩, s1⟩ := Own.spot ho1 hlt (i := 0) (by show 0 < 4; omega); obtain ⟨⟨v1, s2⟩, s3⟩ := Own.spot ho1 hlt (i := 1) (by show 1 < 4; omega); obtain ⟨⟨v2, s4⟩, s5⟩ := Own.spot ho1 hlt (i := 2) (by show 2 < 4; omega); obtain ⟨⟨v3, s6⟩, s7⟩ := Own.spot ho1 hlt (i := 3) (by show 3 < 4; omega); simp only [kActO_sz, Nat.add_zero] at s0 s1 s2 s3 s4 s5 s6 s7; have ho2 := Own.nextAct ho1 hlt i1 i2 ((hv.lower (by omega)).mono (fun k hk => ⟨by omega, by omega⟩)) ((hu.lower (by omega)).mono (fun k hk => ⟨by omega, by omega⟩)); have hb2 := below_then HB.out HB.out.size hb1; have hz1 := hb1.size; have HO2 := Lib.hid (And.intro ho2 hb2); clear ho1 ho2 hb2 hv hu)
      have hb3 := (((HO2.out.2.setCell (p := ⟨w.heap.size, k * 4, none⟩) (Nat.le_refl _) (.int .i64 xs[k].kind)).setCell (p := ⟨w.heap.size, k * 4 + 1, none⟩) (Nat.le_refl _) (.slice A1 xs[k].deeds.length c1)).setCell (p := ⟨w.heap.size, k * 4 + 2, none⟩) (Nat.le_refl _) (.slice A2 xs[k].kids.length c2)).setCell (p := ⟨w.heap.size, k * 4 + 3, none⟩) (Nat.le_refl _) (.int .i64 xs[k].reg)
      exact ⟨⟨k + 1, by omega, by go_num, HO2.out.1, hb3, by simp; omega⟩, by simp [intOf]; omega⟩
    · obtain rfl : k = xs.length := by omega
      have e0 : xs.take xs.length ++ List.replicate (xs.length - xs.length) (⟨0, [], [], 0⟩ : Act) = xs := by simp
      rw [e0] at ho
      go_wp2
      go_ret
      exact ⟨_, rfl, ho, hbr⟩
set_option maxHeartbeats 2000000 in
set_option maxRecDepth 100000 in
theorem toActSS_calls (xs : List (List Act)) (A : Option Addr) (c : Nat) (w : World) (S : Nat → Prop) (hA : Row (Kd.slice kAct) w S A xs) (hS : ∀ k, S k → k < w.heap.size) (hn : xs.length ≤ 1048576) (ha : ∀ l ∈ xs, l.length ≤ 1048576 ∧ ∀ a ∈ l, a.deeds.length ≤ 1048576 ∧ a.kids.length ≤ 1048576) :
    Calls Try.prog 38 #[.slice A xs.length c] w (Copied (kBodyO w.heap.size) 31 xs w) := by
  have hmk := make_row Try.underlying24 infoActS [.slice none 0 0] rfl xs.length (by omega) (by omega)
  have h00 : Own (kBodyO w.heap.size) 31 (w.alloc (.cells (madeCells [.slice none 0 0].toArray (xs.length * 1)) 31)) w.heap.size (fun k => w.heap.size ≤ k) (.slice (some ⟨w.heap.size, 0, none⟩) xs.length xs.length) (List.replicate xs.length []) := Own.zeros (d := kBodyO w.heap.size) xs.length _ _ rfl (by show 0 < 1; omega) (fun w S => ⟨_, rfl, Own.nil _ _ _ _ _⟩) (Nat.le_refl _) (Nat.le_refl _) (by omega)
  have hb0 := bal' w (.cells (madeCells [.slice none 0 0].toArray (xs.length * 1)) 31)
  go_enter Try.func38, Try.ntmps38
  go_wp2
  go_loopw [4] (fun i wr => ∃ k : Nat, k ≤ xs.length ∧ i = .int .i64 k ∧ Own (kBodyO w.heap.size) 31 wr w.heap.size (fun k => w.heap.size ≤ k) (.slice (some ⟨w.heap.size, 0, none⟩) xs.length xs.length) (xs.take k ++ List.replicate (xs.length - k) []) ∧ Below w.heap.size w wr ∧ w.heap.size < wr.heap.size) (fun i _ => xs.length - (intOf i).toNat)
  case atStart => exact ⟨0, Nat.zero_le _, rfl, by simpa using h00, by simpa using hb0, by simp⟩
  case round =>
    obtain ⟨k, hk, rfl, ho, hbr, hsl⟩ := hrel
    clear h00 hb0 hmk
    by_cases hlt : k < xs.length
    · obtain ⟨ad, B, cb, rfl, hl1, p0, hlc, hr⟩ := at_slice (hA.belowAll hbr) hlt
      have x1 : (k : Int) < xs.length := by omega
      have x3 : (0 : Int) ≤ k := by omega
      have hx := ha _ (List.getElem_mem hlt)
      have HO := Lib.hid ho
      have HB := Lib.hid hbr
      clear ho hbr
      go_wp2_with (go_at_call 68; refine (toActS_calls xs[k] _ _ _ S hr (fun k hk => Nat.lt_trans (hS k hk) hsl) hx.1 hx.2).mono ?_; rintro e w1 ⟨v, rfl, hv, hb1⟩; obtain ⟨A1, c1, rfl, hc1⟩ := hv.slice; have ho1 := HO.out.belowAll hb1; obtain ⟨⟨v0, s0⟩, s1⟩ := Own.spot ho1 hlt (i := 0) (by show 0 < 1; omega); simp only [kBodyO_sz, Nat.mul_one, Nat.add_zero] at s0 s1; have ho2 := Own.next1 ho1 rfl hlt (.slice A1 xs[k].length c1) ⟨_, rfl, ((Own.map (d := kActO wr.heap.size) (d' := kActO w.heap.size) rfl (fun S x cs h => kActO_lower (Nat.le_of_lt hsl) h) hv).lower (by omega)).mono (fun k hk => ⟨by omega, by omega⟩)⟩; have hb2 := below_then HB.out HB.out.size hb1; have hz1 := hb1.size; have HO2 := Lib.hid (And.intro ho2 hb2); clear ho1 ho2 hb2 hv)
      have hb3 := HO2.out.2.setCell (p := ⟨w.heap.size, k, none⟩) (Nat.le_refl _) (.slice A1 xs[k].length c1)
      exact ⟨⟨k + 1, by omega, by go_num, HO2.out.1, hb3, by simp; omega⟩, by simp [intOf]; omega⟩
    · obtain rfl : k = xs.length := by omega
      have e0 : xs.take xs.length ++ List.replicate (xs.length - xs.length) ([] : List Act) = xs := by simp
      rw [e0] at ho
      go_wp2
      go_ret
      exact ⟨_, rfl, ho, hbr⟩
end Go.Proofs.Ytehgiijpmldiiaa
