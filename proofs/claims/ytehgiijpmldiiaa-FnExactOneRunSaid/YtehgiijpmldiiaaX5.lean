/- The laws' helpers: copies in new memory. -/
import Derived.Test.YtehgiijpmldiiaaX4
namespace Go.Proofs.Ytehgiijpmldiiaa
open Go.RowKit
set_option linter.unusedVariables false
set_option linter.unusedSimpArgs false

theorem make_row {t e : TypeId} {z0 : Value} {sz bytes : Nat} (ht : Try.prog.underlying t = some (.slice e)) (hinfo : (Try.prog.info? e).map (fun i => (i.zero, i.size, i.bytes)) = some (some z0, sz, bytes)) (zs : List Value) (hz : z0.cells = zs.toArray) (n : Nat) (hn : bytes * n ≤ 281474976710656) (hm : n ≤ 9223372036854775807) (w : World) :
    (Instr.makeSlice t (.int .i64 n) (.int .i64 n)).run Try.prog w = .ok (.slice (some ⟨w.heap.size, 0, none⟩) n n) (w.alloc (.cells (madeCells zs.toArray (n * sz)) e)) := by
  cases h : Try.prog.info? e with
  | none => rw [h] at hinfo; cases hinfo
  | some i =>
    rw [h] at hinfo
    simp only [Option.map_some, Option.some.injEq, Prod.mk.injEq] at hinfo
    obtain ⟨h1, h2, h3⟩ := hinfo
    have := run_make (P := Try.prog) w t e i z0 ht h h1 .i64 .i64 n n (by omega) (by omega) (by rw [h3]; omega) (by omega)
    rw [hz, h2] at this
    simpa using this
section
variable {α : Type} {d : Kd α} {e : Nat} {w : World} {base : Nat} {S : Nat → Prop} {xs : List α} {x0 : α}
theorem Own.setN {g cap n : Nat} (h : Own d e w base S (.slice (some ⟨g, 0, none⟩) n cap) xs) (hn : n = xs.length) {j : Nat} (hj : j < xs.length) {i : Nat} (hi : i < d.sz) (u : Value) (y : α)
    (hy : ∀ c, d.K w (fun k => S k ∧ k ≠ g) xs[j] c → d.K w (fun k => S k ∧ k ≠ g) y (c.set i u)) :
    Own d e (w.setCell ⟨g, j * d.sz + i, none⟩ u) base S (.slice (some ⟨g, 0, none⟩) n cap) (xs.set j y) := by
  subst hn; exact Own.setAt h hj hi u y hy
theorem Own.next1 {g cap k : Nat} (h : Own d e w base S (.slice (some ⟨g, 0, none⟩) xs.length cap) (xs.take k ++ List.replicate (xs.length - k) x0)) (hsz : d.sz = 1) (hk : k < xs.length) (u : Value) (hy : d.K w (fun b => S b ∧ b ≠ g) xs[k] [u]) :
    Own d e (w.setCell ⟨g, k, none⟩ u) base S (.slice (some ⟨g, 0, none⟩) xs.length cap) (xs.take (k + 1) ++ List.replicate (xs.length - (k + 1)) x0) := by
  have hl := put_len xs x0 k (Nat.le_of_lt hk)
  have := Own.setN h hl.symm (j := k) (by omega) (i := 0) (by omega) u xs[k] (fun c hc => by
    have := d.len hc
    rw [hsz] at this
    match c, this with
    | [c0], _ => exact hy)
  rw [put_next xs x0 k hk, hsz, Nat.mul_one, Nat.add_zero] at this
  exact this
theorem Own.spot {g cap k i : Nat} (h : Own d e w base S (.slice (some ⟨g, 0, none⟩) xs.length cap) (xs.take k ++ List.replicate (xs.length - k) x0)) (hk : k < xs.length) (hi : i < d.sz) : (∃ v, w.cell? ⟨g, k * d.sz + i, none⟩ = some v) ∧ w.frozen? ⟨g, k * d.sz + i, none⟩ = false := by
  have hl := put_len xs x0 k (Nat.le_of_lt hk)
  have h' : Own d e w base S (.slice (some ⟨g, 0, none⟩) (xs.take k ++ List.replicate (xs.length - k) x0).length cap) (xs.take k ++ List.replicate (xs.length - k) x0) := by rw [hl]; exact h
  obtain ⟨c, hc, hcell, hf⟩ := Own.cellAt h' (j := k) (by omega)
  have hcl := d.len hc
  exact ⟨⟨c[i], hcell i _ (List.getElem?_eq_getElem (by omega))⟩, hf _⟩
end

/-- What a copy of a row is: the call's own, in new memory. -/
def Copied {α : Type} (d : Kd α) (e : Nat) (xs : List α) (w : World) (en : Ending) (w' : World) : Prop :=
  ∃ v, en = .returned v ∧ Own d e w' w.heap.size (fun k => w.heap.size ≤ k) v xs ∧ Below w.heap.size w w'

set_option maxHeartbeats 2000000 in
set_option maxRecDepth 100000 in
theorem toIntS_calls (xs : List Int) (A : Option Addr) (c : Nat) (w : World) (S : Nat → Prop) (hA : Row Kd.int w S A xs) (hn : xs.length ≤ 1048576) :
    Calls Try.prog 37 #[.slice A xs.length c] w (Copied Kd.int 3 xs w) := by
  have hmk := make_row Try.underlying23 infoInt [.int .i64 0] rfl xs.length (by omega) (by omega)
  have h00 : Own Kd.int 3 (w.alloc (.cells (madeCells [.int .i64 0].toArray (xs.length * 1)) 3)) w.heap.size (fun k => w.heap.size ≤ k) (.slice (some ⟨w.heap.size, 0, none⟩) xs.length xs.length) (List.replicate xs.length 0) := Own.zeros (d := Kd.int) xs.length [.int .i64 0] 0 rfl (by decide) (fun _ _ => ⟨rfl, by omega, by omega⟩) (Nat.le_refl _) (Nat.le_refl _) (by omega)
  have hb0 := bal' w (.cells (madeCells [.int .i64 0].toArray (xs.length * 1)) 3)
  go_enter Try.func37, Try.ntmps37
  go_wp2
  go_loopw [4] (fun i wr => ∃ k : Nat, k ≤ xs.length ∧ i = .int .i64 k ∧ Own Kd.int 3 wr w.heap.size (fun k => w.heap.size ≤ k) (.slice (some ⟨w.heap.size, 0, none⟩) xs.length xs.length) (xs.take k ++ List.replicate (xs.length - k) 0) ∧ Below w.heap.size w wr) (fun i _ => xs.length - (intOf i).toNat)
  case atStart => exact ⟨0, Nat.zero_le _, rfl, by simpa using h00, by simpa using hb0⟩
  case round =>
    obtain ⟨k, hk, rfl, ho, hbr⟩ := hrel
    clear h00 hb0 hmk
    by_cases hlt : k < xs.length
    · obtain ⟨ad, rfl, hl1, p0, hi1⟩ := at_int (hA.belowAll hbr) hlt
      have x1 : (k : Int) < xs.length := by omega
      have x3 : (0 : Int) ≤ k := by omega
      obtain ⟨⟨v0, s0⟩, s1⟩ := Own.spot ho hlt (i := 0) (by decide)
      simp only [kInt_sz, Nat.mul_one, Nat.add_zero] at s0 s1
      have ho2 := Own.next1 ho rfl hlt (.int .i64 xs[k]) ⟨rfl, hi1⟩
      have hb2 : Below w.heap.size w (wr.setCell ⟨w.heap.size, k, none⟩ (.int .i64 xs[k])) := hbr.setCell (by simp) _
      have HO := Lib.hid (And.intro ho2 hb2)
      clear ho ho2 hb2
      go_wp2
      go_roundw
      case rel => exact ⟨k + 1, by omega, by go_num, HO.out.1, HO.out.2⟩
      case measure => simp [intOf]; omega
    · obtain rfl : k = xs.length := by omega
      have e0 : xs.take xs.length ++ List.replicate (xs.length - xs.length) 0 = xs := by simp
      rw [e0] at ho
      go_wp2
      go_ret
      exact ⟨_, rfl, ho, hbr⟩
set_option maxHeartbeats 1000000 in
theorem toDeed_calls (k a b : Int) (w : World) : Calls Try.prog 137 #[.agg #[.int .i64 k, .int .i64 a, .int .i64 b]] w fun e w' => e = .returned (.agg #[.int .i64 k, .int .i64 a, .int .i64 b]) ∧ Below w.heap.size w w' := by
  have hb := fun o1 o2 o3 => ((bal2' w o1 o2).alloc (by simp; omega) o3)
  go_enter Try.func137, Try.ntmps137
  go_wp2
  refine bodyPost_ret (v := .agg #[.int .i64 k, .int .i64 a, .int .i64 b]) (by simp [results, Try.results137, go_sem]) rfl ⟨rfl, ?_⟩
  exact hb _ _ _
theorem kDeed_zero (w : World) (S : Nat → Prop) : kDeed.K w S ⟨0, 0, 0⟩ [.int .i64 0, .int .i64 0, .int .i64 0] := kDeed_mk w S ⟨0, 0, 0⟩ (by unfold i64; simp) (by unfold i64; simp) (by unfold i64; simp)
theorem Own.nextDeed {e : Nat} {w : World} {base : Nat} {S : Nat → Prop} {xs : List Deed} {g cap k : Nat} (h : Own kDeed e w base S (.slice (some ⟨g, 0, none⟩) xs.length cap) (xs.take k ++ List.replicate (xs.length - k) ⟨0, 0, 0⟩)) (hk : k < xs.length) (h1 : i64 xs[k].kind) (h2 : i64 xs[k].a) (h3 : i64 xs[k].b) :
    Own kDeed e (((w.setCell ⟨g, k * 3, none⟩ (.int .i64 xs[k].kind)).setCell ⟨g, k * 3 + 1, none⟩ (.int .i64 xs[k].a)).setCell ⟨g, k * 3 + 2, none⟩ (.int .i64 xs[k].b)) base S (.slice (some ⟨g, 0, none⟩) xs.length cap) (xs.take (k + 1) ++ List.replicate (xs.length - (k + 1)) ⟨0, 0, 0⟩) := by
  have hl := put_len xs ⟨0, 0, 0⟩ k (Nat.le_of_lt hk)
  have hz := put_at xs ⟨0, 0, 0⟩ k hk (by omega)
  have z0 : i64 0 := by unfold i64; simp
  have a1 := Own.setN h hl.symm (j := k) (by omega) (i := 0) (by decide) (.int .i64 xs[k].kind) ⟨xs[k].kind, 0, 0⟩ (fun c hc => by
    rw [hz] at hc
    obtain ⟨rfl, _⟩ := kDeed_open hc
    exact kDeed_mk _ _ ⟨xs[k].kind, 0, 0⟩ h1 z0 z0)
  have a2 := Own.setN a1 (by simp; omega) (j := k) (by simp; omega) (i := 1) (by decide) (.int .i64 xs[k].a) ⟨xs[k].kind, xs[k].a, 0⟩ (fun c hc => by
    simp only [List.getElem_set_self] at hc
    obtain ⟨rfl, _⟩ := kDeed_open hc
    exact kDeed_mk _ _ ⟨xs[k].kind, xs[k].a, 0⟩ h1 h2 z0)
  have a3 := Own.setN a2 (by simp; omega) (j := k) (by simp; omega) (i := 2) (by decide) (.int .i64 xs[k].b) xs[k] (fun c hc => by
    simp only [List.getElem_set_self] at hc
    obtain ⟨rfl, _⟩ := kDeed_open hc
    exact kDeed_mk _ _ xs[k] h1 h2 h3)
  rw [List.set_set, List.set_set, put_next xs ⟨0, 0, 0⟩ k hk] at a3
  exact a3
set_option maxHeartbeats 2000000 in
set_option maxRecDepth 100000 in
theorem toDeedS_calls (xs : List Deed) (A : Option Addr) (c : Nat) (w : World) (S : Nat → Prop) (hA : Row kDeed w S A xs) (hn : xs.length ≤ 1048576) :
    Calls Try.prog 128 #[.slice A xs.length c] w (Copied kDeed 142 xs w) := by
  have hmk := make_row Try.underlying32 infoDeed [.int .i64 0, .int .i64 0, .int .i64 0] rfl xs.length (by omega) (by omega)
  have h00 : Own kDeed 142 (w.alloc (.cells (madeCells [.int .i64 0, .int .i64 0, .int .i64 0].toArray (xs.length * 3)) 142)) w.heap.size (fun k => w.heap.size ≤ k) (.slice (some ⟨w.heap.size, 0, none⟩) xs.length xs.length) (List.replicate xs.length ⟨0, 0, 0⟩) := Own.zeros (d := kDeed) xs.length _ _ rfl (by decide) kDeed_zero (Nat.le_refl _) (Nat.le_refl _) (by omega)
  have hb0 := bal' w (.cells (madeCells [.int .i64 0, .int .i64 0, .int .i64 0].toArray (xs.length * 3)) 142)
  go_enter Try.func128, Try.ntmps128
  go_wp2
  go_loopw [4] (fun i wr => ∃ k : Nat, k ≤ xs.length ∧ i = .int .i64 k ∧ Own kDeed 142 wr w.heap.size (fun k => w.heap.size ≤ k) (.slice (some ⟨w.heap.size, 0, none⟩) xs.length xs.length) (xs.take k ++ List.replicate (xs.length - k) ⟨0, 0, 0⟩) ∧ Below w.heap.size w wr) (fun i _ => xs.length - (intOf i).toNat)
  case atStart => exact ⟨0, Nat.zero_le _, rfl, by simpa using h00, by simpa using hb0⟩
  case round =>
    obtain ⟨k, hk, rfl, ho, hbr⟩ := hrel
    clear h00 hb0 hmk
    by_cases hlt : k < xs.length
    · obtain ⟨ad, rfl, hl1, p0, p1, p2, i1, i2, i3⟩ := at_deed (hA.belowAll hbr) hlt
      have x1 : (k : Int) < xs.length := by omega
      have x3 : (0 : Int) ≤ k := by omega
      have HO := Lib.hid ho
      have HB := Lib.hid hbr
      clear ho hbr
      go_wp2_with (go_at_call 137; refine (toDeed_calls _ _ _ _).mono ?_; rintro e w1 ⟨rfl, hb1⟩; have ho1 := HO.out.belowAll hb1; obtain ⟨⟨v0, s0⟩, s1⟩ := Own.spot ho1 hlt (i := 0) (by decide); obtain ⟨⟨v1, s2⟩, s3⟩ := Own.spot ho1 hlt (i := 1) (by decide); obtain ⟨⟨v2, s4⟩, s5⟩ := Own.spot ho1 hlt (i := 2) (by decide); simp only [kDeed_sz, Nat.add_zero] at s0 s1 s2 s3 s4 s5; have ho2 := Own.nextDeed ho1 hlt i1 i2 i3; have hb2 := below_then HB.out HB.out.size hb1; have HO2 := Lib.hid (And.intro ho2 hb2); clear ho1 ho2 hb2)
      have hb3 := ((HO2.out.2.setCell (p := ⟨w.heap.size, k * 3, none⟩) (Nat.le_refl _) (.int .i64 xs[k].kind)).setCell (p := ⟨w.heap.size, k * 3 + 1, none⟩) (Nat.le_refl _) (.int .i64 xs[k].a)).setCell (p := ⟨w.heap.size, k * 3 + 2, none⟩) (Nat.le_refl _) (.int .i64 xs[k].b)
      exact ⟨⟨k + 1, by omega, by go_num, HO2.out.1, hb3⟩, by simp [intOf]; omega⟩
    · obtain rfl : k = xs.length := by omega
      have e0 : xs.take xs.length ++ List.replicate (xs.length - xs.length) (⟨0, 0, 0⟩ : Deed) = xs := by simp
      rw [e0] at ho
      go_wp2
      go_ret
      exact ⟨_, rfl, ho, hbr⟩
theorem heap_set_row {w : World} {b i : Nat} {cs : Array Value} {t : TypeId} (h : w.heap[b]? = some (.cells cs t (0, 0))) (u : Value) : (w.setCell ⟨b, i, none⟩ u).heap[b]? = some (.cells (cs.setIfInBounds i u) t (0, 0)) := by
  simp [World.setCell, Array.getElem?_modify, h]
theorem heap_set_far {w : World} {b b2 i : Nat} {o : Option Obj} (h : w.heap[b]? = o) (u : Value) (hn : b ≠ b2) : (w.setCell ⟨b2, i, none⟩ u).heap[b]? = o := (Below.heap_setCell w _ u b hn).trans h
theorem three_news (w : World) (o1 o2 o3 : Obj) : (((w.alloc o1).alloc o2).alloc o3).heap[w.heap.size]? = some o1 ∧ (((w.alloc o1).alloc o2).alloc o3).heap[w.heap.size + 1]? = some o2 ∧ (((w.alloc o1).alloc o2).alloc o3).heap[w.heap.size + 1 + 1]? = some o3 := by
  refine ⟨(Below.heap_alloc _ o3 _ (by simp; omega)).trans (World.alloc2_first w o1 o2), (Below.heap_alloc _ o3 _ (by simp)).trans (heap_new2' w o1 o2), ?_⟩
  have := heap_alloc_new ((w.alloc o1).alloc o2) o3
  simpa using this
set_option maxHeartbeats 2000000 in
set_option maxRecDepth 100000 in
theorem toAct_calls (x : Act) (A B : Option Addr) (c d : Nat) (w : World) (S : Nat → Prop) (hA : Row kDeed w S A x.deeds) (hB : Row Kd.int w S B x.kids) (hS : ∀ k, S k → k < w.heap.size) (hn : x.deeds.length ≤ 1048576) (hm : x.kids.length ≤ 1048576) :
    Calls Try.prog 99 #[.agg #[.int .i64 x.kind, .slice A x.deeds.length c, .slice B x.kids.length d, .int .i64 x.reg]] w fun e w' => ∃ v u, e = .returned (.agg #[.int .i64 x.kind, v, u, .int .i64 x.reg]) ∧ Own kDeed 142 w' w.heap.size (fun k => w.heap.size ≤ k) v x.deeds ∧ Own Kd.int 3 w' w.heap.size (fun k => w.heap.size ≤ k) u x.kids ∧ Below w.heap.size w w' := by
  have hb := fun o1 o2 o3 => ((bal2' w o1 o2).alloc (by simp; omega) o3)
  have hN := three_news w
  have HA := fun o1 o2 o3 => Lib.hid (hA.belowAll (hb o1 o2 o3))
  have HB := fun o1 o2 o3 => Lib.hid (hB.belowAll (hb o1 o2 o3))
  clear hA
  go_enter Try.func99, Try.ntmps99
  go_wp2_with (first
    | (go_at_call 128; refine (toDeedS_calls x.deeds _ _ _ S (HA _ _ _).out hn).mono ?_; rintro e w1 ⟨v, rfl, ho1, hb1⟩; have z1 := hb1.size; (try simp at z1); have f1 := (hb1.block w.heap.size (by simp; omega)).trans (hN _ _ _).1; have f2 := (hb1.block (w.heap.size + 1) (by simp)).trans (hN _ _ _).2.1; have f3 := (hb1.block (w.heap.size + 1 + 1) (by simp)).trans (hN _ _ _).2.2; obtain ⟨A1, c1, rfl, hc1⟩ := ho1.slice; have e1 := cell_of_row _ _ 1 _ _ _ f3; have e2 := frozen_of_row f3; have g1 := heap_set_far (i := 1) (b2 := w.heap.size + 1 + 1) f1 (.slice A1 x.deeds.length c1) (by omega); have g2 := heap_set_far (i := 1) (b2 := w.heap.size + 1 + 1) f2 (.slice A1 x.deeds.length c1) (by omega); have g3 := heap_set_row (i := 1) f3 (.slice A1 x.deeds.length c1); have e3 := cell_of_row _ _ 2 _ _ _ g1; simp at e1 e3 g3; have hw1 := (below_then (hb _ _ _) (by simp; omega) hb1).setCell (p := ⟨w.heap.size + 1 + 1, 1, none⟩) (by show w.heap.size ≤ w.heap.size + 1 + 1; omega) (.slice A1 x.deeds.length c1); have ho1' := ho1.step (w' := w1.setCell ⟨w.heap.size + 1 + 1, 1, none⟩ (.slice A1 x.deeds.length c1)) (fun k hk _ => Below.heap_setCell w1 _ _ k (by intro e; have e : k = w.heap.size + 1 + 1 := e; simp at hk; omega)); have hBB := hB.below hw1 (fun k hk _ => hS k hk)) | (go_at_call 37; refine (toIntS_calls x.kids _ _ _ S hBB hm).mono ?_; rintro e w2 ⟨u, rfl, ho2, hb2⟩; have z2 := hb2.size; (try simp at z2); have k1 := (hb2.block w.heap.size (by simp; omega)).trans g1; have k2 := (hb2.block (w.heap.size + 1) (by simp; omega)).trans g2; have k3 := (hb2.block (w.heap.size + 1 + 1) (by simp; omega)).trans g3; obtain ⟨A2, c2, rfl, hc2⟩ := ho2.slice; have n1 := cell_of_row _ _ 2 _ _ _ k3; have n2 := frozen_of_row k3; have l1 := heap_set_far (i := 2) (b2 := w.heap.size + 1 + 1) k1 (.slice A2 x.kids.length c2) (by omega); have l2 := heap_set_far (i := 2) (b2 := w.heap.size + 1 + 1) k2 (.slice A2 x.kids.length c2) (by omega); have l3 := heap_set_row (i := 2) k3 (.slice A2 x.kids.length c2); have n3 := cell_of_row _ _ 3 _ _ _ l1; have n4 := cell_of_row _ _ 3 _ _ _ l3; have n5 := frozen_of_row l3; have p2 := heap_set_far (i := 3) (b2 := w.heap.size + 1 + 1) l2 (.int .i64 x.reg) (by omega); have p3 := heap_set_row (i := 3) l3 (.int .i64 x.reg); have r0 := cell_of_row _ _ 0 _ _ _ p3; have r1 := cell_of_row _ _ 1 _ _ _ p3; have r2 := cell_of_row _ _ 2 _ _ _ p3; have r3 := cell_of_row _ _ 3 _ _ _ p3; have q0 := cell_of_row _ _ 0 _ _ _ p2; have q1 := cell_of_row _ _ 1 _ _ _ p2; have q2 := cell_of_row _ _ 2 _ _ _ p2; have q3 := cell_of_row _ _ 3 _ _ _ p2; have q4 := frozen_of_row p2; simp at n1 n3 n4 r0 r1 r2 r3 q0 q1 q2 q3))
  have hk := Keep.setCell (T := fun k => k = w.heap.size + 1 + 1 ∨ k = w.heap.size + 1) (p := ⟨w.heap.size + 1 + 1, 3, none⟩) (Keep.setCell (T := fun k => k = w.heap.size + 1 + 1 ∨ k = w.heap.size + 1) (p := ⟨w.heap.size + 1 + 1, 2, none⟩) (Keep.refl _ w2) (fun _ => .inl rfl) (.slice A2 x.kids.length c2)) (fun _ => .inl rfl) (.int .i64 x.reg)
  have hk2 := Keep.setCell (T := fun k => k = w.heap.size + 1 + 1 ∨ k = w.heap.size + 1) (p := ⟨w.heap.size + 1, 3, none⟩) (Keep.setCell (T := fun k => k = w.heap.size + 1 + 1 ∨ k = w.heap.size + 1) (p := ⟨w.heap.size + 1, 2, none⟩) (Keep.setCell (T := fun k => k = w.heap.size + 1 + 1 ∨ k = w.heap.size + 1) (p := ⟨w.heap.size + 1, 1, none⟩) (Keep.setCell (T := fun k => k = w.heap.size + 1 + 1 ∨ k = w.heap.size + 1) (p := ⟨w.heap.size + 1, 0, none⟩) hk (fun _ => .inr rfl) (.int .i64 x.kind)) (fun _ => .inr rfl) (.slice A1 x.deeds.length c1)) (fun _ => .inr rfl) (.slice A2 x.kids.length c2)) (fun _ => .inr rfl) (.int .i64 x.reg)
  have hkk : ∀ k, w.heap.size + 1 + 1 + 1 ≤ k → ¬ (k = w.heap.size + 1 + 1 ∨ k = w.heap.size + 1) := fun k hk => by omega
  refine bodyPost_ret (v := .agg #[.int .i64 x.kind, .slice A1 x.deeds.length c1, .slice A2 x.kids.length c2, .int .i64 x.reg]) (by simp [results, Try.results99, go_sem, q0, q1, q2, q3, q4]) rfl ⟨_, _, rfl, ?_, ?_, ?_⟩
  · exact (((ho1'.belowAll hb2).step (fun k hs hl => hk2.block k hl (hkk k (by simpa using hs)))).lower (by simp; omega)).mono (fun k hk => by simp at hk; omega)
  · exact ((ho2.step (fun k hs hl => hk2.block k hl (hkk k (by simp at hs; omega)))).lower (by simp; omega)).mono (fun k hk => by simp at hk; omega)
  · have hb9 := below_then hw1 (by simp; omega) hb2
    exact hb9.trans (hk2.below (fun k hk e => by omega) hb9.size)
end Go.Proofs.Ytehgiijpmldiiaa
