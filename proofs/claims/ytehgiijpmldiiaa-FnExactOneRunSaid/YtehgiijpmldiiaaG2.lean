/- Draws: a reader is opened; a deed is drawn. -/
import Derived.Test.YtehgiijpmldiiaaG1
namespace Go.Proofs.Ytehgiijpmldiiaa
open Go.RowKit
set_option linter.unusedVariables false
set_option linter.unusedSimpArgs false

theorem Row.take {α : Type} {d : Kd α} {w : World} {S : Nat → Prop} {A : Option Addr} {xs : List α} (h : Row d w S A xs) (n : Nat) : Row d w S A (xs.take n) := by
  refine ⟨by have := h.1; rw [List.length_take]; omega, fun hn => ?_⟩
  obtain ⟨ad, e, hs, hl, hc⟩ := h.2 (by rintro rfl; simp at hn)
  refine ⟨ad, e, hs, hl, fun j x hj => hc j x ?_⟩
  rw [List.getElem?_take] at hj
  split at hj
  · exact hj
  · cases hj

/-- A reader in new memory. -/
def Opened (w : World) (S : Nat → Prop) (e : Ending) (w' : World) : Prop :=
  ∃ (g : Nat) (A : Option Addr) (c : Nat) (bs : List Int), e = .returned (.pointer (some ⟨g, 0, none⟩)) ∧ RdAt w' g S A c bs 1099511627776 ∧ w.heap.size ≤ g ∧ Below w.heap.size w w'
set_option maxHeartbeats 1000000 in
set_option maxRecDepth 100000 in
theorem l6Open_calls (bs : List Int) (A : Option Addr) (c : Nat) (w : World) (S : Nat → Prop) (hr : Row Kd.byte w S A bs) (hS : ∀ k, S k → k < w.heap.size) (hc : bs.length ≤ c) :
    Calls Try.prog 29 #[.slice A bs.length c] w (Opened w S) := by
  have hm := hr.1
  have mk : ∀ (ys : List Int), Row Kd.byte w S A ys → ys.length ≤ 2000 → Opened w S (.returned (.pointer (some ⟨w.heap.size, 0, none⟩))) (w.alloc (.cells #[.slice A ys.length c, .int .i64 0] 101)) := by
    intro ys hy hl
    have hb : Below w.heap.size w (w.alloc (.cells #[.slice A ys.length c, .int .i64 0] 101)) := (by repeat (first | exact Below.refl _ _ | (refine Below.alloc ?_ (by simp) _) | (refine Below.setCell ?_ (by simp) _) | (refine below_drewN' ?_ _) | (refine Below.drew ?_)))
    exact ⟨w.heap.size, A, c, ys, rfl, ⟨⟨0, heap_alloc_new w _, by omega⟩, hy.belowAll hb, fun k hk => hS k hk, hl⟩, Nat.le_refl _, hb⟩
  by_cases h : bs.length ≤ 2000
  · have mk1 := mk bs hr h
    have HM := Lib.hid mk1
    clear mk mk1
    go_enter Try.func29, Try.ntmps29
    go_wp2
    go_ret
    exact HM.out
  · have h2 : 2000 < bs.length := by omega
    have mk1 := mk (bs.take 2000) (hr.take _) (by rw [List.length_take]; omega)
    rw [List.length_take, Nat.min_eq_left (by omega)] at mk1
    have HM := Lib.hid mk1
    have hc2 : 2000 ≤ c := by omega
    clear mk mk1
    go_enter Try.func29, Try.ntmps29
    go_wp2
    go_ret
    exact HM.out

theorem frozen_of_row {w : World} {b : Nat} {cs : Array Value} {t : TypeId} (h : w.heap[b]? = some (.cells cs t (0, 0))) (i : Nat) : w.frozen? ⟨b, i, none⟩ = false := by simp [World.frozen?, h]
/-- What a draw leaves: a value, and the reader, further on. -/
def Drew (R : Value → World → Prop) (w : World) (g : Nat) (S : Nat → Prop) (A : Option Addr) (c : Nat) (bs : List Int) (f : Nat) (e : Ending) (w' : World) : Prop :=
  ∃ v, e = .returned v ∧ R v w' ∧ RdAt w' g S A c bs f ∧ Keep (fun k => k = g) w w'
def isDeed (v : Value) : Prop := ∃ d : Deed, v = .agg #[.int .i64 d.kind, .int .i64 d.a, .int .i64 d.b] ∧ i64 d.kind ∧ i64 d.a ∧ i64 d.b
theorem isDeed_mk {k a b : Int} (hk : i64 k) (ha : i64 a) (hb : i64 b) : isDeed (.agg #[.int .i64 k, .int .i64 a, .int .i64 b]) := ⟨⟨k, a, b⟩, rfl, hk, ha, hb⟩

set_option maxHeartbeats 4000000 in
set_option maxRecDepth 100000 in
theorem l71Deed_calls (cells : Int) (w : World) (g : Nat) (S : Nat → Prop) (A : Option Addr) (c : Nat) (bs : List Int) (f : Nat) (hR : RdAt w g S A c bs (f + 3)) (h0 : 0 ≤ cells) (hc : cells ≤ 1000) :
    Calls Try.prog 116 #[.pointer (some ⟨g, 0, none⟩), .int .i64 cells] w (Drew (fun v _ => isDeed v) w g S A c bs f) := by
  have hgl := hR.lt
  have hwz : w.heap.size = w.heap.size := rfl
  by_cases hz : cells = 0
  · subst hz
    have hgne : ¬ w.heap.size = g := by omega
    have hRo := fun o => hR.below (w' := w.alloc o) (by repeat (first | exact Below.refl _ _ | (refine Below.alloc ?_ (by simp) _) | (refine Below.setCell ?_ (by simp) _) | (refine below_drewN' ?_ _) | (refine Below.drew ?_)))
    clear hR
    go_enter Try.func116, Try.ntmps116
    go_wp2_with (first | (go_at_call 57; refine (pick_calls _ _ _ _ _ _ _ _ hR1 (by omega)).mono ?_; rintro e w2 ⟨y, rfl, hy0, hy1, hR2, hk⟩; have hT2 := hk.blk hT1 hgne; have hK2 := Keep.trans hK1 hk; have hq0 := cell_of_row _ _ 0 _ _ _ hT2; have hq1 := cell_of_row _ _ 1 _ _ _ hT2; have hq2 := cell_of_row _ _ 2 _ _ _ hT2; have hq3 := frozen_of_row hT2; simp at hq0 hq1 hq2; clear hk hT1 hK1 hR1) | (go_at_call 57; refine (pick_calls _ _ _ _ _ _ _ _ (hRo _) (by omega)).mono ?_; rintro e w1 ⟨x, rfl, hx0, hx1, hR1, hk⟩; have hT1 := hk.blk (heap_alloc_new w _) hgne; have hK1 := Keep.trans (Keep.alloc (Keep.refl (fun k => k = g) w) _) hk; clear hk hRo))
    exact bodyPost_ret (v := .agg #[.int .i64 3, .int .i64 x, .int .i64 y]) (by simp [results, Try.results116, go_sem, hq0, hq1, hq2, hq3]) rfl ⟨_, rfl, isDeed_mk (by unfold i64; omega) (by unfold i64; omega) (by unfold i64; omega), (((hR2.set hgl _).set hgl _).set hgl _).less (by omega), ((hK2.setCell (fun h => absurd h (Nat.lt_irrefl _)) _).setCell (fun h => absurd h (Nat.lt_irrefl _)) _).setCell (fun h => absurd h (Nat.lt_irrefl _)) _⟩
  · have hgne : ¬ w.heap.size = g := by omega
    have hRo := fun o => hR.below (w' := w.alloc o) (by repeat (first | exact Below.refl _ _ | (refine Below.alloc ?_ (by simp) _) | (refine Below.setCell ?_ (by simp) _) | (refine below_drewN' ?_ _) | (refine Below.drew ?_)))
    clear hR
    go_enter Try.func116, Try.ntmps116
    go_wp2_with (first | (go_at_call 57; refine (pick_calls _ _ _ _ _ _ _ _ hR2 (by omega)).mono ?_; rintro e w3 ⟨z, rfl, hz0, hz1, hR3, hk⟩; have hT3 := hk.blk hT2 hgne; have hK3 := Keep.trans hK2 hk; have hq0 := cell_of_row _ _ 0 _ _ _ hT3; have hq1 := cell_of_row _ _ 1 _ _ _ hT3; have hq2 := cell_of_row _ _ 2 _ _ _ hT3; have hq3 := frozen_of_row hT3; simp at hq0 hq1 hq2; clear hk hT2 hK2 hR2) | (go_at_call 57; refine (pick_calls _ _ _ _ _ _ _ _ hR1 (by omega)).mono ?_; rintro e w2 ⟨y, rfl, hy0, hy1, hR2, hk⟩; have hT2 := hk.blk hT1 hgne; have hK2 := Keep.trans hK1 hk; have hq0 := cell_of_row _ _ 0 _ _ _ hT2; have hq1 := cell_of_row _ _ 1 _ _ _ hT2; have hq2 := cell_of_row _ _ 2 _ _ _ hT2; have hq3 := frozen_of_row hT2; simp at hq0 hq1 hq2; clear hk hT1 hK1 hR1) | (go_at_call 57; refine (pick_calls _ _ _ _ _ _ _ _ (hRo _) (by omega)).mono ?_; rintro e w1 ⟨x, rfl, hx0, hx1, hR1, hk⟩; have hT1 := hk.blk (heap_alloc_new w _) hgne; have hK1 := Keep.trans (Keep.alloc (Keep.refl (fun k => k = g) w) _) hk; clear hk hRo))
    all_goals first | (refine bodyPost_ret (v := .agg #[.int .i64 1, .int .i64 y, .int .i64 z]) ?_ rfl ⟨_, rfl, isDeed_mk (by unfold i64; omega) (by unfold i64; omega) (by unfold i64; omega), (((hR3.set hgl _).set hgl _).set hgl _).less (by omega), ((hK3.setCell (fun h => absurd h (Nat.lt_irrefl _)) _).setCell (fun h => absurd h (Nat.lt_irrefl _)) _).setCell (fun h => absurd h (Nat.lt_irrefl _)) _⟩; simp [results, Try.results116, go_sem, hq0, hq1, hq2, hq3]; done) | (refine bodyPost_ret (v := .agg #[.int .i64 2, .int .i64 y, .int .i64 z]) ?_ rfl ⟨_, rfl, isDeed_mk (by unfold i64; omega) (by unfold i64; omega) (by unfold i64; omega), (((hR3.set hgl _).set hgl _).set hgl _).less (by omega), ((hK3.setCell (fun h => absurd h (Nat.lt_irrefl _)) _).setCell (fun h => absurd h (Nat.lt_irrefl _)) _).setCell (fun h => absurd h (Nat.lt_irrefl _)) _⟩; simp [results, Try.results116, go_sem, hq0, hq1, hq2, hq3]; done) | (refine bodyPost_ret (v := .agg #[.int .i64 3, .int .i64 y, .int .i64 z]) ?_ rfl ⟨_, rfl, isDeed_mk (by unfold i64; omega) (by unfold i64; omega) (by unfold i64; omega), (((hR3.set hgl _).set hgl _).set hgl _).less (by omega), ((hK3.setCell (fun h => absurd h (Nat.lt_irrefl _)) _).setCell (fun h => absurd h (Nat.lt_irrefl _)) _).setCell (fun h => absurd h (Nat.lt_irrefl _)) _⟩; simp [results, Try.results116, go_sem, hq0, hq1, hq2, hq3]; done) | (refine bodyPost_ret (v := .agg #[.int .i64 4, .int .i64 y, .int .i64 z]) ?_ rfl ⟨_, rfl, isDeed_mk (by unfold i64; omega) (by unfold i64; omega) (by unfold i64; omega), (((hR3.set hgl _).set hgl _).set hgl _).less (by omega), ((hK3.setCell (fun h => absurd h (Nat.lt_irrefl _)) _).setCell (fun h => absurd h (Nat.lt_irrefl _)) _).setCell (fun h => absurd h (Nat.lt_irrefl _)) _⟩; simp [results, Try.results116, go_sem, hq0, hq1, hq2, hq3]; done) | (refine bodyPost_ret (v := .agg #[.int .i64 5, .int .i64 y, .int .i64 0]) ?_ rfl ⟨_, rfl, isDeed_mk (by unfold i64; omega) (by unfold i64; omega) (by unfold i64; omega), (((hR2.set hgl _).set hgl _).set hgl _).less (by omega), ((hK2.setCell (fun h => absurd h (Nat.lt_irrefl _)) _).setCell (fun h => absurd h (Nat.lt_irrefl _)) _).setCell (fun h => absurd h (Nat.lt_irrefl _)) _⟩; simp [results, Try.results116, go_sem, hq0, hq1, hq2, hq3]; done)
end Go.Proofs.Ytehgiijpmldiiaa
