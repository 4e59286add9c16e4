/- Draws: a program for the apart laws. -/
import Derived.Test.YtcpabkfoalhldaaQl
namespace Go.Proofs.Ytcpabkfoalhldaa
open Go.RowKit
set_option linter.unusedVariables false
set_option linter.unusedSimpArgs false

set_option maxHeartbeats 1000000 in
set_option maxRecDepth 100000 in
theorem drawApartOk_calls (xs : List Int) (A : Option Addr) (c : Nat) (w : World) (S : Nat → Prop) (hr : Row Kd.byte w S A xs) (hS : ∀ k, S k → k < w.heap.size) (hc : xs.length ≤ c) :
    Calls Try.prog 22 #[.slice A xs.length c] w (fun e w' => ∃ v, e = .returned v ∧ BentIn (fun k => w.heap.size ≤ k) v w' ∧ Below w.heap.size w w') := by
  obtain ⟨wo, rfl⟩ : ∃ wo, wo = w := ⟨_, rfl⟩
  have hr0 := fun o => hr.belowAll (w' := wo.alloc o) (bal (Below.refl _ _) o)
  have hS0 : ∀ o k, S k → k < (wo.alloc o).heap.size := fun o k hk => by have := hS k hk; simp; omega
  go_enter Try.func22, Try.ntmps22
  go_wp2_with (first | (go_at_call 48; refine (l6Open_calls xs A c _ S (hr0 _) (hS0 _) hc).mono ?_; rintro e w1 ⟨g, A1, c1, bs, rfl, hR1, hg1, hb1⟩; have hl1 := hb1.size; simp at hl1 hg1; have hz1 := (hb1.block wo.heap.size (by simp)).trans (heap_alloc_new wo _)) | (go_at_call 49; refine (pick_calls _ _ _ _ _ _ _ 20000 (hR1.less (by omega)) (by omega)).mono ?_; rintro e w3 ⟨q, rfl, hq0, hq1, hR3, hk3⟩; have hz3 := hk3.blk hz1 (by omega); have hl3 := hk3.size) | (go_at_call 50; refine (l71Any_calls w3 g S A1 c1 bs 0 (hR3.less (by omega))).mono ?_; rintro e w2 ⟨_, rfl, ⟨q, C, D, cc, cd, rfl, hq⟩, hR2, hk2⟩; have hz2 := hk2.blk hz3 (by omega); have t0 := cell_of_row _ _ 0 _ _ _ hz2; have t1 := cell_of_row _ _ 1 _ _ _ hz2; have t2 := frozen_of_row hz2; simp at t0 t1) | (go_at_call 51; refine (l71Apart_calls w3 g S A1 c1 bs 0 (hR3.less (by omega))).mono ?_; rintro e w2 ⟨_, rfl, ⟨q, C, D, cc, cd, rfl, hq⟩, hR2, hk2⟩; have hz2 := hk2.blk hz3 (by omega); have t0 := cell_of_row _ _ 0 _ _ _ hz2; have t1 := cell_of_row _ _ 1 _ _ _ hz2; have t2 := frozen_of_row hz2; simp at t0 t1))
  all_goals
    have hB2 : BentIn (fun k => wo.heap.size + 1 ≤ k) (.agg #[.slice C q.cells.length cc, .slice D q.bodies.length cd]) w2 := BentIn.mono ⟨q, C, D, cc, cd, rfl, hq⟩ (fun k hk => by omega)
    have hbb : Below wo.heap.size wo w2 := Below.trans (below_then (bal (Below.refl _ wo) _) (by simp) hb1) (Keep.below (hk3.trans hk2) (fun k hk e => by omega) (by omega))
    refine bodyPost_ret (v := .agg #[.slice C q.cells.length cc, .slice D q.bodies.length cd]) (by simp [results, Try.results22, go_sem, t0, t1, t2]) rfl ⟨_, rfl, ?_, ?_⟩
    · exact (hB2.keep (Keep.set2 (Keep.refl (fun k => k = wo.heap.size) _) 0 1 _ _) (fun k h1 _ h2 => by omega)).mono (fun k hk => by omega)
    · exact Below.trans hbb ((Keep.set2 (Keep.refl (fun k => k = wo.heap.size) _) 0 1 _ _).below (fun k hk e => by omega) hbb.size)
end Go.Proofs.Ytcpabkfoalhldaa
