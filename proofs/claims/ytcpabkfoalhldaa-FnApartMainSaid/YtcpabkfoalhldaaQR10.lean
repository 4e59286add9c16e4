/- FnApartMain: whatever the bytes are, the law returns true, and they read as they did. -/
import Derived.Deep.RegionHeld3
import Derived.Deep.DrawnRows
import Derived.Deep.Cut
import Derived.Test.YtcpabkfoalhldaaRows
import Derived.WalkKit
import Derived.ProofKit
import Derived.OpenShut
import Derived.ShutString
import Derived.ChangeOld
import Derived.Below
import Derived.SizedLaws
import Derived.ChangeSlices
import Derived.Test.YtcpabkfoalhldaaQm
namespace Go.Proofs.Ytcpabkfoalhldaa
open Go.RowKit
set_option linter.unusedVariables false
set_option linter.unusedSimpArgs false
attribute [local go_sem ↓] Go.wp_at_zero Go.wp_at_succ

theorem Own.empty_at {α : Type} {d : Kd α} {e : Nat} {w : World} {base : Nat} {S : Nat → Prop} (b : Nat) (hb : b = w.heap.size) (h1 : base ≤ b) (h2 : S b) : Own d e (w.alloc (.cells #[] e)) base S (.slice (some ⟨b, 0, none⟩) 0 0) [] := by
  subst hb; exact Own.empty_ d e w base S h1 h2
theorem two_first (w : World) (o o' : Obj) : ((w.alloc o).alloc o').heap[w.heap.size]? = some o := (Below.heap_alloc _ _ _ (by simp)).trans (heap_alloc_new w o)
theorem two_second (w : World) (o o' : Obj) : ((w.alloc o).alloc o').heap[w.heap.size + 1]? = some o' := by
  have := heap_alloc_new (w.alloc o) o'
  simpa using this
theorem Own.al_ {α : Type} {d : Kd α} {e : Nat} {w : World} {base : Nat} {S : Nat → Prop} {v : Value} {xs : List α} (h : Own d e w base S v xs) (o : Obj) : Own d e (w.alloc o) base S v xs := Own.belowAll h (bal (Below.refl _ _) o)
theorem Own.drew_ {α : Type} {d : Kd α} {e : Nat} {w : World} {base : Nat} {S : Nat → Prop} {v : Value} {xs : List α} (h : Own d e w base S v xs) : Own d e w.drew base S v xs := Own.belowAll h (Below.drew (Below.refl _ _))
set_option maxHeartbeats 8000000 in
set_option maxRecDepth 100000 in
theorem fnApartMain_calls (xs : List Int) (A : Option Addr) (c : Nat) (w : World) (S : Nat → Prop) (hr : Row Kd.byte w S A xs) (hS : ∀ k, S k → k < w.heap.size) (hc : xs.length ≤ c) :
    Calls Try.prog 5 #[.slice A xs.length c] w fun e w' => e = .returned (.bool true) ∧ Below w.heap.size w w' := by
  by_cases hbig : 1048576 < xs.length
  · have hb : (1048576 : Int) < xs.length := by omega
    go_enter Try.func5, Try.ntmps5
    go_wp2
    go_ret
    exact ⟨rfl, Below.refl _ _⟩
  · have hb : ¬ (1048576 : Int) < xs.length := by omega
    go_enter Try.func5, Try.ntmps5
    go_wp2_with (first | (go_at_call 22; refine (drawApartOk_calls xs A c _ S hr hS hc).mono ?_; rintro e w1 ⟨_, rfl, ⟨p, C, D, cc, cd, rfl, hcc, hcd, hC, hD⟩, hb1⟩) | (go_at_call 23; fail))
    have hz1 := hb1.size
    have hC1 := fun o => hC.belowAll (bal' w1 o)
    have hD1 := fun o => hD.belowAll (bal' w1 o)
    have hmd := hD.1
    have tok1 : True := trivial
    cases hapt : apartOk p with
    | false =>
      have HA := Lib.hid hapt
      clear hapt
      go_wp2_with (first
        | (go_at_call 23; refine (implApartOk_calls p C D cc cd _ _ (hC1 _) (hD1 _)).mono ?_; rintro e w2 ⟨rfl, hb2⟩; rw [HA.out]; have hz2 := hb2.size; simp at hz2; have hx2 := (hb2.block w1.heap.size (by simp)).trans (heap_alloc_new w1 _); have g0 := cell_of_row _ _ 0 _ _ _ hx2; have g1 := cell_of_row _ _ 1 _ _ _ hx2; simp at g0 g1; have hC2 := (hC1 _).belowAll hb2; have hD2 := (hD1 _).belowAll hb2; have hbw2 := hb1.trans (((bal' w1 _).trans (hb2.mono (by simp))).mono hz1)) | (go_at_call 24; have _t := tok1; refine (specApartOk_calls p C D cc cd w2 _ hC2 hD2).mono ?_; rintro e w3 ⟨rfl, hb3⟩; rw [HA.out]; have hz3 := hb3.size; have hx3 := (hb3.block w1.heap.size (by omega)).trans hx2; have g03 := cell_of_row _ _ 0 _ _ _ hx3; have g13 := cell_of_row _ _ 1 _ _ _ hx3; simp at g03 g13; have hC3 := hC2.belowAll hb3; have hD3 := hD2.belowAll hb3; have hbw3 := below_then hbw2 hbw2.size hb3; clear tok1; have tok2 : True := trivial) | (go_at_call 24; have _t := tok2; refine (specApartOk_calls p C D cc cd w3 _ hC3 hD3).mono ?_; rintro e w4 ⟨rfl, hb4⟩; rw [HA.out]; have hbw4 := below_then hbw3 hbw3.size hb4))
      go_ret
      exact ⟨rfl, hbw4⟩
    | true =>
      have HA := Lib.hid hapt
      have hq1 := apartOk_emptied hapt
      have hlen := formOk_len (progOk_form (by unfold apartOk at hapt; simp only [Bool.and_eq_true] at hapt; exact hapt.1))
      clear hapt
      go_wp2_with (first
        | (go_at_call 23; refine (implApartOk_calls p C D cc cd _ _ (hC1 _) (hD1 _)).mono ?_; rintro e w2 ⟨rfl, hb2⟩; rw [HA.out]; have hz2 := hb2.size; simp at hz2; have hx2 := (hb2.block w1.heap.size (by simp)).trans (heap_alloc_new w1 _); have g0 := cell_of_row _ _ 0 _ _ _ hx2; have g1 := cell_of_row _ _ 1 _ _ _ hx2; simp at g0 g1; have hC2 := (hC1 _).belowAll hb2; have hD2 := (hD1 _).belowAll hb2; have hbw2 := hb1.trans (((bal' w1 _).trans (hb2.mono (by simp))).mono hz1)) | (go_at_call 24; have _t := tok1; refine (specApartOk_calls p C D cc cd w2 _ hC2 hD2).mono ?_; rintro e w3 ⟨rfl, hb3⟩; rw [HA.out]; have hz3 := hb3.size; have hx3 := (hb3.block w1.heap.size (by omega)).trans hx2; have g03 := cell_of_row _ _ 0 _ _ _ hx3; have g13 := cell_of_row _ _ 1 _ _ _ hx3; simp at g03 g13; have hC3 := hC2.belowAll hb3; have hD3 := hD2.belowAll hb3; have hbw3 := below_then hbw2 hbw2.size hb3; clear tok1; have tok2 : True := trivial))
      have hl1 : w1.heap.size < w3.heap.size := by omega
      clear hC1 hD1 hC hD g0 g1 hC2 hD2 hx2 hb2 hb3 hbw2 hb1 hx3
      have hDb := hD3.bound
      have HBW := Lib.hid hbw3
      clear hbw3 tok2
      have hso : ∀ w', Below w3.heap.size w3 w' → (w'.cell? ⟨w1.heap.size, 0, none⟩ = some (.slice C p.cells.length cc) ∧ w'.cell? ⟨w1.heap.size, 1, none⟩ = some (.slice D p.bodies.length cd) ∧ Below w3.heap.size w3 w') := fun w' h => ⟨(h.cell hl1).trans g03, (h.cell hl1).trans g13, h⟩
      have HS := Lib.hid hso
      clear hso
      go_cut [5] from 25 (fun s5 wr => ∃ (q gd cd' : Nat), s5 = .pointer (some ⟨q, 0, none⟩) ∧ wr.heap[q]? = some (.cells #[.slice C p.cells.length cc, .slice (some ⟨gd, 0, none⟩) p.bodies.length cd'] 26 (0, 0)) ∧ Own (Kd.slice kAct) 32 wr w3.heap.size (fun k => k ≠ q) (.slice (some ⟨gd, 0, none⟩) p.bodies.length cd') p.bodies ∧ w3.heap.size ≤ q ∧ Below w3.heap.size w3 wr)
      case first =>
        go_region_held3 (fun w' => w'.cell? ⟨w1.heap.size, 0, none⟩ = some (.slice C p.cells.length cc) ∧ w'.cell? ⟨w1.heap.size, 1, none⟩ = some (.slice D p.bodies.length cd) ∧ Below w3.heap.size w3 w') (first | (go_keep; done) | exact ⟨x0, x1, hb4⟩ | exact HS.out _ (HY.out _ _) | exact HS.out _ (by repeat' (first | exact hb4 | exact Below.refl _ _ | apply Below.drew | (refine bal ?_ _))) | fail)
          (first | (refine step_append_kd (d := Kd.slice kAct) (base := w3.heap.size) (S := fun k => k = w3.heap.size + 1) (xs := []) (v := .slice (some ⟨w3.heap.size + 1, 0, none⟩) 0 0) (by rfl) _ _ _ (by rfl) Try.underlying24 _ 24 infoActS rfl (by decide) (by decide) (by rfl) (by repeat' (first | exact Own.empty_at (w3.heap.size + 1) (by simp) (by omega) rfl | refine Own.drew_ ?_ | refine Own.al_ ?_ _)) D cd (by rfl) (Row.belowAll hDb (by (repeat' (first | exact Below.refl _ _ | apply Below.drew | (refine bal ?_ _))))) (fun k hk e => by have h9 := hk.2; injection e with e; subst e; dsimp only at h9; omega) (by simp; omega) (by simp; try omega) ?_; intro v2 w2 ho2 hg2 hv2; have hkg := Keep.of_grown (T := fun k => k = w3.heap.size + 1) hg2 (fun k hk => by simp [Value.ownBlock] at hk; omega); have hb4 : Below w3.heap.size w3 w2 := Below.trans (by (repeat' (first | exact Below.refl _ _ | apply Below.drew | (refine bal ?_ _)))) (Keep.below hkg (fun k hk e => by omega) (by simp; try omega)); have x0 := (hb4.cell (p := ⟨w1.heap.size, 0, none⟩) hl1).trans g03; have x1 := (hb4.cell (p := ⟨w1.heap.size, 1, none⟩) hl1).trans g13; rw [List.nil_append] at ho2; have hzz := hkg.size; (try simp at hzz); obtain ⟨gd, cd2, rfl, hgd1, hgd2, hgd3, hcd2⟩ := Own.place ho2 (by omega); have hqz : w2.heap[w3.heap.size]? = some (.cells #[.slice none 0 0, .slice none 0 0] 26 (0, 0)) := hkg.blk (two_first w3 _ (.cells #[] 32)) (by omega); have hQ : ∀ u v, ((w2.setCell ⟨w3.heap.size, 0, none⟩ u).setCell ⟨w3.heap.size, 1, none⟩ v).heap[w3.heap.size]? = some (.cells #[u, v] 26 (0, 0)) := (fun u v => by simp [World.setCell, Array.getElem?_modify, hqz]); have hset : ∀ u v, Keep (fun k => k = w3.heap.size) w2 ((w2.setCell ⟨w3.heap.size, 0, none⟩ u).setCell ⟨w3.heap.size, 1, none⟩ v) := (fun u v => Keep.set2 (Keep.refl _ _) 0 1 u v); have hOw := (fun u v => Own.step (ho2.mono (S' := fun k => k ≠ w3.heap.size) (fun k hk => by rcases hk with hk | hk | hk; omega; have := hk.2; omega; (simp at hk; omega))) (fun k hs hl => (hset u v).block k hl hs)); have y4 := (fun u v => Below.trans hb4 (Keep.below (hset u v) (fun k hk e => by omega) (by omega))); have HQ := Lib.hid hQ; have HOW := Lib.hid hOw; have HY := Lib.hid y4; clear hQ hOw y4; have c0 := cell_of_row _ _ 0 _ _ _ hqz; have c1 := cell_of_row _ _ 1 _ _ _ hqz; have c2 := frozen_of_row hqz; simp at c0 c1; clear hset) | (refine step_append_kd (d := Kd.slice kAct) (base := w3.heap.size) (S := fun k => k = w3.heap.size) (xs := []) (v := .slice (some ⟨w3.heap.size, 0, none⟩) 0 0) (by rfl) _ _ _ (by rfl) Try.underlying24 _ 24 infoActS rfl (by decide) (by decide) (by rfl) (by repeat' (first | exact Own.empty_at w3.heap.size (by simp) (by omega) rfl | refine Own.drew_ ?_ | refine Own.al_ ?_ _)) D cd (by rfl) (Row.belowAll hDb (by (repeat' (first | exact Below.refl _ _ | apply Below.drew | (refine bal ?_ _))))) (fun k hk e => by have h9 := hk.2; injection e with e; subst e; dsimp only at h9; omega) (by simp; omega) (by simp; try omega) ?_; intro v2 w2 ho2 hg2 hv2; have hkg := Keep.of_grown (T := fun k => k = w3.heap.size) hg2 (fun k hk => by simp [Value.ownBlock] at hk; omega); have hb4 : Below w3.heap.size w3 w2 := Below.trans (by (repeat' (first | exact Below.refl _ _ | apply Below.drew | (refine bal ?_ _)))) (Keep.below hkg (fun k hk e => by omega) (by simp; try omega)); have x0 := (hb4.cell (p := ⟨w1.heap.size, 0, none⟩) hl1).trans g03; have x1 := (hb4.cell (p := ⟨w1.heap.size, 1, none⟩) hl1).trans g13; rw [List.nil_append] at ho2; have hzz := hkg.size; (try simp at hzz); obtain ⟨gd, cd2, rfl, hgd1, hgd2, hgd3, hcd2⟩ := Own.place ho2 (by omega); have hqz : w2.heap[w3.heap.size + 1]? = some (.cells #[.slice none 0 0, .slice none 0 0] 26 (0, 0)) := hkg.blk (two_second w3 (.cells #[] 32) _) (by omega); have hQ : ∀ u v, ((w2.setCell ⟨w3.heap.size + 1, 0, none⟩ u).setCell ⟨w3.heap.size + 1, 1, none⟩ v).heap[w3.heap.size + 1]? = some (.cells #[u, v] 26 (0, 0)) := (fun u v => by simp [World.setCell, Array.getElem?_modify, hqz]); have hset : ∀ u v, Keep (fun k => k = w3.heap.size + 1) w2 ((w2.setCell ⟨w3.heap.size + 1, 0, none⟩ u).setCell ⟨w3.heap.size + 1, 1, none⟩ v) := (fun u v => Keep.set2 (Keep.refl _ _) 0 1 u v); have hOw := (fun u v => Own.step (ho2.mono (S' := fun k => k ≠ w3.heap.size + 1) (fun k hk => by rcases hk with hk | hk | hk; omega; have := hk.2; omega; (simp at hk; omega))) (fun k hs hl => (hset u v).block k hl hs)); have y4 := (fun u v => Below.trans hb4 (Keep.below (hset u v) (fun k hk e => by omega) (by omega))); have HQ := Lib.hid hQ; have HOW := Lib.hid hOw; have HY := Lib.hid y4; clear hQ hOw y4; have c0 := cell_of_row _ _ 0 _ _ _ hqz; have c1 := cell_of_row _ _ 1 _ _ _ hqz; have c2 := frozen_of_row hqz; simp at c0 c1; clear hset) | (refine step_append_kd (d := Kd.slice kAct) (base := w3.heap.size) (S := fun k => k = w3.heap.size) (xs := []) (v := .slice (some ⟨w3.heap.size, 0, none⟩) 0 0) (by rfl) _ _ _ (by rfl) Try.underlying24 _ 24 infoActS rfl (by decide) (by decide) (by rfl) (by repeat' (first | exact Own.empty_at w3.heap.size (by simp) (by omega) rfl | refine Own.drew_ ?_ | refine Own.al_ ?_ _)) D cd (by rfl) (Row.belowAll hDb (by (repeat' (first | exact Below.refl _ _ | apply Below.drew | (refine bal ?_ _))))) (fun k hk e => by have h9 := hk.2; injection e with e; subst e; dsimp only at h9; omega) (by simp; omega) (by simp; try omega) ?_; intro v2 w2 ho2 hg2 hv2; have hkg := Keep.of_grown (T := fun k => k = w3.heap.size) hg2 (fun k hk => by simp [Value.ownBlock] at hk; omega); have hb4 : Below w3.heap.size w3 w2 := Below.trans (by (repeat' (first | exact Below.refl _ _ | apply Below.drew | (refine bal ?_ _)))) (Keep.below hkg (fun k hk e => by omega) (by simp; try omega)); have x0 := (hb4.cell (p := ⟨w1.heap.size, 0, none⟩) hl1).trans g03; have x1 := (hb4.cell (p := ⟨w1.heap.size, 1, none⟩) hl1).trans g13; rw [List.nil_append] at ho2; have hzz := hkg.size; (try simp at hzz); obtain ⟨gd, cd2, rfl, hgd1, hgd2, hgd3, hcd2⟩ := Own.place ho2 (by omega); have hQ : ∀ u v, (w2.alloc (.cells #[u, v] 26)).heap[w2.heap.size]? = some (.cells #[u, v] 26 (0, 0)) := (fun u v => heap_alloc_new w2 _); have hOw := (fun (u v : Value) => Own.al_ ((Own.bound ho2).mono (S' := fun k => k ≠ w2.heap.size) (fun k hk => by have h9 := hk.2; omega)) (.cells #[u, v] 26)); have y4 := (fun (u v : Value) => Below.trans hb4 ((bal (Below.refl _ w2) (.cells #[u, v] 26)).mono hb4.size)); have HQ := Lib.hid hQ; have HOW := Lib.hid hOw; have HY := Lib.hid y4; clear hQ hOw y4) | fail)
        all_goals
          go_wp2
          go_meet
          exact ⟨_, gd, cd2, rfl, HQ.out _ _, HOW.out _ _, by omega, HY.out _ _⟩
      case rest =>
        obtain ⟨q, gd, cd', rfl, hq0, hOq, hqs, hbc⟩ := hcut
        have q0 := cell_of_row _ _ 0 _ _ _ hq0
        have q1 := cell_of_row _ _ 1 _ _ _ hq0
        simp at q0 q1
        have hql := (Array.getElem?_eq_some_iff.1 hq0).1
        have p1 := (hbc.cell (p := ⟨w1.heap.size, 1, none⟩) hl1).trans g13
        have hCc := hC3.belowAll hbc
        obtain ⟨ad, E, ce, rfl, hadl, hadc, hadcl, hE0⟩ := at_slice hD3 (j := 0) (by omega)
        have e1 := (hbc.cell (p := ad.add 0) (by rw [block_add]; exact hadl)).trans hadc
        have hgb := hOq.blk gd rfl
        obtain ⟨cx, ⟨A', c'', rfl, _⟩, hcx, hfx⟩ := Own.cellAt hOq (j := 0) (by omega)
        have gx := hcx 0 _ rfl
        have gf := hfx 0
        simp at gx gf
        have e2 : wc.cell? ad = some (.slice E p.bodies[0].length ce) := by simpa [Addr.add] using e1
        have hset := Own.setAt hOq (j := 0) (by omega) (i := 0) (by decide) (.slice E 0 ce) [] (fun cz hz => ⟨E, ce, by obtain ⟨_, _, rfl, _⟩ := hz; rfl, Nat.zero_le _, Row.nil _ _ _ _⟩)
        simp only [kSlice_sz, Nat.zero_mul, Nat.add_zero] at hset
        have hlp : (0 : Int) < (p.bodies.length : Int) := by omega
        have hlp2 : 0 < p.bodies.length := by omega
        have hgq : gd ≠ q := hgb.2.2
        have s0 := (World.cell?_setCell_far wc ⟨gd, 0, none⟩ ⟨q, 1, none⟩ (.slice E 0 ce) (by simp; omega)).trans q1
        have s1 := (World.cell?_setCell_far wc ⟨gd, 0, none⟩ ⟨w1.heap.size, 1, none⟩ (.slice E 0 ce) (by simp; omega)).trans p1
        have s2 := (World.cell?_setCell_far wc ⟨gd, 0, none⟩ ad (.slice E 0 ce) (by simp; omega)).trans e2
        go_wp2_with fail
        go_region_held3 (fun w' => w'.cell? ⟨q, 1, none⟩ = some (.slice (some ⟨gd, 0, none⟩) p.bodies.length cd') ∧ w'.cell? ⟨w1.heap.size, 1, none⟩ = some (.slice (some ad) p.bodies.length cd) ∧ w'.cell? ad = some (.slice E p.bodies[0].length ce)) (first | (go_keep; done) | exact ⟨s0, s1, s2⟩ | fail) (fail)
        all_goals
          obtain ⟨W, HW⟩ : ∃ W, W = wc.setCell ⟨gd, 0, none⟩ (.slice E 0 ce) := ⟨_, rfl⟩
          rw [← HW]
          have hkw : Keep (fun k => k = gd) wc W := by rw [HW]; exact Keep.setCell (T := fun k => k = gd) (p := ⟨gd, 0, none⟩) (Keep.refl _ _) (fun _ => rfl) _
          have hqw := hkw.blk hq0 (fun h => hgq h.symm)
          have hOw : Own (Kd.slice kAct) 32 W w3.heap.size (fun k => k ≠ q) (.slice (some ⟨gd, 0, none⟩) p.bodies.length cd') (p.bodies.set 0 []) := by rw [HW]; exact hset
          have hbW : Below w3.heap.size w3 W := Below.trans hbc (Keep.below hkw (fun k hk e => by omega) hbc.size)
          have hCW := (hC3.bound.belowAll hbW).mono (S' := fun _ => True) (fun _ _ => trivial)
          have hDW : Row (Kd.slice kAct) W (fun _ => True) (some ⟨gd, 0, none⟩) (emptied p).bodies := (own_rowAt hOw).mono (fun _ _ => trivial)
          have k1 : ∀ w', Row Kd.int w' (fun _ => True) C p.cells → Row (Kd.slice kAct) w' (fun _ => True) (some ⟨gd, 0, none⟩) (emptied p).bodies → Calls Try.prog 23 #[.agg #[.slice C p.cells.length cc, .slice (some ⟨gd, 0, none⟩) p.bodies.length cd']] w' fun e w2 => e = .returned (.bool true) ∧ Below w'.heap.size w' w2 := fun w' h1 h2 => by
            have := implApartOk_calls (emptied p) C (some ⟨gd, 0, none⟩) cc cd' w' _ h1 h2
            rw [emptied_len, hq1] at this; exact this
          have k2 : ∀ w', Row Kd.int w' (fun _ => True) C p.cells → Row (Kd.slice kAct) w' (fun _ => True) (some ⟨gd, 0, none⟩) (emptied p).bodies → Calls Try.prog 19 #[.agg #[.slice C p.cells.length cc, .slice (some ⟨gd, 0, none⟩) p.bodies.length cd'], .int .i64 0] w' fun e w2 => (∃ A c, e = .returned (.slice A 0 c)) ∧ Below w'.heap.size w' w2 := fun w' h1 h2 => by
            have := implApartReads_calls (emptied p) 0 C (some ⟨gd, 0, none⟩) cc cd' w' _ h1 h2
            rw [emptied_len, apartSet_emptied] at this
            refine this.mono ?_; rintro e w2 ⟨v, rfl, ho, hb⟩; obtain ⟨A, c, rfl, _⟩ := OwnI.row ho; exact ⟨⟨A, c, rfl⟩, hb⟩
          have k3 : ∀ w', Row Kd.int w' (fun _ => True) C p.cells → Row (Kd.slice kAct) w' (fun _ => True) (some ⟨gd, 0, none⟩) (emptied p).bodies → Calls Try.prog 11 #[.agg #[.slice C p.cells.length cc, .slice (some ⟨gd, 0, none⟩) p.bodies.length cd'], .int .i64 0] w' fun e w2 => (∃ A c, e = .returned (.slice A 0 c)) ∧ Below w'.heap.size w' w2 := fun w' h1 h2 => by
            have := implApartWrites_calls (emptied p) 0 C (some ⟨gd, 0, none⟩) cc cd' w' _ h1 h2
            rw [emptied_len, apartSet_emptied] at this
            refine this.mono ?_; rintro e w2 ⟨v, rfl, ho, hb⟩; obtain ⟨A, c, rfl, _⟩ := OwnI.row ho; exact ⟨⟨A, c, rfl⟩, hb⟩
          have m0 := cell_of_row _ _ 0 _ _ _ hqw
          have m1 := cell_of_row _ _ 1 _ _ _ hqw
          simp at m0 m1
          have K1 := Lib.hid k1
          have K2 := Lib.hid k2
          have K3 := Lib.hid k3
          clear k1 k2 k3 s0 s1 s2 q0 q1 p1 e1 e2 gx gf hcx hfx hset HW g03 g13
          go_wp2_with (first
            | (go_at_call 23; refine (K1.out _ (Row.belowAll hCW (by (repeat' (first | exact Below.refl _ _ | apply Below.drew | (refine bal ?_ _))))) (Row.belowAll hDW (by (repeat' (first | exact Below.refl _ _ | apply Below.drew | (refine bal ?_ _)))))).mono ?_; rintro e w5 ⟨rfl, hb5⟩; have hb5 : Below W.heap.size W w5 := Below.trans (show Below W.heap.size W W.drew from Below.drew (Below.refl _ _)) hb5; have hq5 := (hb5.block q (Array.getElem?_eq_some_iff.1 hqw).1).trans hqw; have m50 := cell_of_row _ _ 0 _ _ _ hq5; have m51 := cell_of_row _ _ 1 _ _ _ hq5; simp at m50 m51; have hC5 := hCW.belowAll hb5; have hD5 := hDW.belowAll hb5; clear K1) | (go_at_call 19; refine (K2.out _ hC5 hD5).mono ?_; rintro e w6 ⟨⟨A6, c6, rfl⟩, hb6⟩; have hq6 := (hb6.block q (Array.getElem?_eq_some_iff.1 hq5).1).trans hq5; have m60 := cell_of_row _ _ 0 _ _ _ hq6; have m61 := cell_of_row _ _ 1 _ _ _ hq6; simp at m60 m61; have hC6 := hC5.belowAll hb6; have hD6 := hD5.belowAll hb6; clear K2) | (go_at_call 11; refine (K3.out _ hC6 hD6).mono ?_; rintro e w7 ⟨⟨A7, c7, rfl⟩, hb7⟩; clear K3))
          go_ret
          exact ⟨rfl, Below.trans HBW.out (Below.trans (hbW.mono (by have := HBW.out.size; omega)) ((below_then (below_then hb5 hb5.size hb6) (Nat.le_trans hb5.size hb6.size) hb7).mono (by have := HBW.out.size; have := hbW.size; omega)))⟩
end Go.Proofs.Ytcpabkfoalhldaa
namespace Go.Proofs.Ytcpabkfoalhldaa.fnApartMain
open Go.ChangeShapes Go.WideShapes Go.ChangeAt Go.RowKit
set_option linter.unusedSimpArgs false
set_option linter.unusedVariables false
theorem own : ownKnob Try.prog.godebug = none := by kernel_rfl
theorem laidOut : laidOutB Try.prog = true := by kernel_rfl
/-- A slice of bytes as it comes in. -/
def IsRow (k : IntKind) (w : World) (a : Option Addr) (len cap : Nat) (zs : List Int) : Prop :=
  (a = none ∧ len = 0 ∧ cap = 0 ∧ zs = []) ∨
  ∃ x, a = some x ∧ len ≤ cap ∧ cap ≤ maxLen ∧ zs.length = cap ∧ (∀ i, i < zs.length → w.cell? (x.add i) = some (.int k (zs.getD i 0))) ∧ ∀ n ∈ zs, (Lit.int k n).wf = true
theorem IsRow.bytes {w : World} {a : Option Addr} {len cap : Nat} {zs : List Int} (h : IsRow .u8 w a len cap zs) : ∃ bs : List Int, len = bs.length ∧ bs.length ≤ cap ∧ Row Kd.byte w (fun k => k < w.heap.size) a bs := by
  rcases h with ⟨rfl, rfl, rfl, rfl⟩ | ⟨x, rfl, hl, hm, hz, hc, hw⟩
  · exact ⟨[], rfl, Nat.le_refl _, Row.nil _ _ _ _⟩
  · refine ⟨zs.take len, by simp; omega, by simp; omega, by simp [maxLen] at hm ⊢; omega, fun hne => ?_⟩
    have hpos : 0 < zs.length := by
      rcases Nat.eq_zero_or_pos zs.length with h | h
      · exact absurd (List.length_eq_zero_iff.1 (by simp; omega)) hne
      · exact h
    have hlt : x.block < w.heap.size := by
      have := block_lt_of_cell (hc 0 hpos)
      rwa [block_add] at this
    refine ⟨x, rfl, hlt, hlt, fun j y hj => ?_⟩
    have hjl : j < zs.length := by
      have := (List.getElem?_eq_some_iff.1 hj).1
      simp at this; omega
    have hy : zs[j]? = some y := by
      rw [List.getElem?_take] at hj
      split at hj
      · exact hj
      · cases hj
    have hcj := hc j hjl
    rw [List.getD_eq_getElem?_getD, hy, Option.getD_some] at hcj
    have hwj := hw y (List.mem_of_getElem? hy)
    refine ⟨_, ⟨rfl, ?_⟩, fun i u hu => ?_⟩
    · simp [Lit.wf] at hwj
      exact hwj
    · match i with
      | 0 => simp at hu; subst hu; simpa [Kd.byte] using hcj
      | i + 1 => simp at hu
set_option maxRecDepth 100000 in
theorem lifted (os : Os) (started : os.Started) (H : Type) (enc : TypeId × Value → H) :
    ReturnsInHanded {} Try.checked os 5 .any (Rows.fnApartMainSpec.pre6 enc Try.prog Try.f5 Rows.fnApartMainRow.domain false) (Rows.fnApartMainSpec.post enc Try.prog Try.f5 false true false false) := by
  refine returnsInHanded_of_change_sized (C := Try.checked) own started (by kernel_rfl) Try.func5
    (ChangeSpec.witness6 (enc := enc) (C := Try.checked) false ⟨#[], #[.slice none 0 0], []⟩ 8 (by kernel_rfl) (by kernel_rfl) (by kernel_rfl) (by kernel_rfl)) ?_
  intro W base args ds gs before hval0 hW hcnd hsz0 _
  have hval : ∀ (j : Nat) t v, Try.f5.params[j]? = some t → args[j]? = some v → Value.okWide Try.prog W .any base t v := hval0
  have hW' := hW
  obtain ⟨p, q, hA0, hV, rfl, hfz, hnd⟩ := hW
  have hA : DataW.TrodAll enc Try.prog W 0 (fun _ => true) true Try.f5.params.toList args.toList ds p := hA0
  rw [Try.params5] at hA hval
  obtain ⟨v0, vs0, d0, ds0, p0, q0, hargs, rfl, rfl, h0, r0⟩ := trodAll_cons hA
  obtain ⟨rfl, rfl, rfl⟩ := trodAll_nil r0
  obtain rfl : args = #[v0] := by cases args; simp_all
  obtain ⟨rfl, rfl⟩ := trodVars_none hV
  obtain ⟨a0, len0, cap0, rfl⟩ := okWide_slice Try.underlying22 (hval 0 22 v0 rfl rfl)
  have k0 := h0
  have lt0 : ∀ x ∈ p0, x.block < W.heap.size := by obtain ⟨m, hm⟩ := k0; exact DataW.trod_lt m _ _ _ hm
  obtain ⟨z0, w0⟩ : ∃ zs, IsRow .u8 W a0 len0 cap0 zs := by
    obtain ⟨fuel, hf⟩ := h0
    rcases open_ints Try.underlying22 Try.underlying5 (by kernel_rfl) hf with ⟨hcs, _⟩ | ⟨x, l, c, zs, hcs, _, hl, hm, hz, hx, hcell, hwz⟩
    · simp [Value.cells] at hcs
      obtain ⟨rfl, rfl, rfl⟩ := hcs
      exact ⟨[], .inl ⟨rfl, rfl, rfl, rfl⟩⟩
    · simp [Value.cells] at hcs
      obtain ⟨rfl, rfl, rfl⟩ := hcs
      exact ⟨zs, .inr ⟨_, rfl, hl, hm, by simpa using hz, hcell, hwz⟩⟩
  obtain ⟨bs, rfl, hbc, hrow⟩ := w0.bytes
  clear hA0 hval0 hsz0
  refine (fnApartMain_calls bs a0 cap0 W (fun k => k < W.heap.size) hrow (fun k hk => hk) hbc).mono fun e W' ⟨he, bel⟩ => ?_
  subst he
  exact ⟨_, rfl, _, _, _, [], _, [], hW', trodAll_mk1 (shut_bool Try.underlying4 _), (trodAll_cons_mk (Below.trod laidOut (by kernel_rfl) (of_decide_eq_true (by kernel_rfl)) k0 bel lt0) trodAll_mk0), rfl, bel.frame _, fun h => by cases h⟩
theorem over : Rows.fnApartMainRow.holds Try.pinned (OpenSpec.ofChange Rows.fnApartMainSpec) :=
  OpenClaim.holds_of_wide 5 Try.f5 rfl rfl rfl rfl rfl rfl rfl ⟨rfl, rfl, rfl, rfl, rfl⟩ rfl rfl rfl rfl rfl (by kernel_rfl) Try.func5 (by kernel_rfl)
    (of_decide_eq_true (by kernel_rfl)) (by unfold Func.isWrapper; first | (rw [if_pos (by decide +kernel)]; kernel_rfl) | (rw [if_neg (by decide +kernel)]; exact ⟨rfl, rfl⟩))
    (fun os started H enc _ => lifted os started H enc)
theorem proved : Rows.FnApartMainSaid := over
end Go.Proofs.Ytcpabkfoalhldaa.fnApartMain
namespace Go.Proofs.Ytcpabkfoalhldaa
/-- The statement, under a short name. -/
theorem fnApartMain_holds : Rows.FnApartMainSaid := fnApartMain.proved
end Go.Proofs.Ytcpabkfoalhldaa
