/- Draws: any program; the draw of one run. -/
import Derived.Test.YtehgiijpmldiiaaG8
import Derived.Test.YtehgiijpmldiiaaG2
namespace Go.Proofs.Ytehgiijpmldiiaa
open Go.RowKit
set_option linter.unusedVariables false
set_option linter.unusedSimpArgs false

theorem BentIn.mono {P P' : Nat → Prop} {v : Value} {w : World} (h : BentIn P v w) (hP : ∀ k, P k → P' k) : BentIn P' v w := by
  obtain ⟨q, C, D, cc, cd, e, h1, h2, h3, h4⟩ := h
  exact ⟨q, C, D, cc, cd, e, h1, h2, h3.mono hP, h4.mono hP⟩
theorem BentIn.keep {P T : Nat → Prop} {v : Value} {w w' : World} (h : BentIn P v w) (hk : Keep T w w') (hP : ∀ k, P k → k < w.heap.size → ¬ T k) : BentIn P v w' := by
  obtain ⟨q, C, D, cc, cd, e, h1, h2, h3, h4⟩ := h
  exact ⟨q, C, D, cc, cd, e, h1, h2, h3.keep hk hP, h4.keep hk hP⟩
theorem Drew.toAny {wo w : World} {g b2 : Nat} {S : Nat → Prop} {A : Option Addr} {c : Nat} {bs : List Int} {f : Nat} {v : Value} (h : BentIn (fun k => wo.heap.size + 1 ≤ k) v w) (hR : RdAt w g S A c bs f) (hk : Keep (fun k => k = g) wo w) (hb : b2 = wo.heap.size) (hg : g < wo.heap.size) (u1 u2 : Value) :
    Drew (BentIn (fun k => wo.heap.size ≤ k)) wo g S A c bs f (.returned v) ((w.setCell ⟨b2, 0, none⟩ u1).setCell ⟨b2, 1, none⟩ u2) := by
  have hk2 : Keep (fun k => k = b2) w ((w.setCell ⟨b2, 0, none⟩ u1).setCell ⟨b2, 1, none⟩ u2) := Keep.set2 (Keep.refl _ _) 0 1 u1 u2
  exact ⟨_, rfl, (h.keep hk2 (fun k h1 _ h2 => by omega)).mono (fun k hk => by omega), hR.keep hk2 (by omega) (fun k hs _ => by have := hR.ne k hs; omega), hk.then_ hk2 (fun i hi e => by omega)⟩

set_option maxHeartbeats 4000000 in
set_option maxRecDepth 100000 in
theorem l71Any_calls (w : World) (g : Nat) (S : Nat → Prop) (A : Option Addr) (c : Nat) (bs : List Int) (f : Nat) (hR : RdAt w g S A c bs (f + 10100)) :
    Calls Try.prog 28 #[.pointer (some ⟨g, 0, none⟩)] w (Drew (BentIn (fun k => w.heap.size ≤ k)) w g S A c bs f) := by
  have hgl := hR.lt
  obtain ⟨wo, rfl⟩ : ∃ wo, wo = w := ⟨_, rfl⟩
  have hR0 := fun o => (hR.below (w' := wo.alloc o) (bal (Below.refl _ _) o)).less (f' := f + 100 + 10000) (by omega)
  clear hR
  go_enter Try.func28, Try.ntmps28
  go_wp2_with (first | (go_at_call 56; refine (l71Prog_calls _ _ _ _ _ _ (f + 100) (hR0 _)).mono ?_; rintro e w1 ⟨_, rfl, ⟨p, C, D, cc, cd, rfl, hcc, hcd, hrC, hrD, hok, hc1⟩, hR1, hk1⟩; have hl1 := hk1.size; have hz1 := hk1.blk (heap_alloc_new wo _) (by omega)) | (go_at_call 57; refine (pick_calls _ _ _ _ _ _ _ _ (RdAt.below (hR1.less (f' := f + 50 + 1) (by omega)) (bal (Below.refl _ _) _)) (by omega)).mono ?_; rintro e w2 ⟨m, rfl, hm0, hm1, hR2, hk2⟩; have hl2 := hk2.size; simp at hl1 hl2; have hz2 := hk2.blk ((Below.heap_alloc w1 _ _ (by omega)).trans hz1) (by omega); have hy2 := hk2.blk (heap_alloc_new w1 _) (by omega); have s0 := cell_of_row _ _ 0 _ _ _ hy2; have s1 := cell_of_row _ _ 1 _ _ _ hy2; simp at s0 s1; have hC2 : Row Kd.int w2 (fun k => wo.heap.size + 1 ≤ k ∧ k < w1.heap.size) C p.cells := Row.keep (Row.belowAll (hrC.bound.mono (fun k hk => ⟨by simpa using hk.1, hk.2⟩)) (bal (Below.refl _ _) _)) hk2 (fun k hk _ => by omega); have hD2 : Row (Kd.slice kAct) w2 (fun k => wo.heap.size + 1 ≤ k ∧ k < w1.heap.size) D p.bodies := Row.keep (Row.belowAll (hrD.bound.mono (fun k hk => ⟨by simpa using hk.1, hk.2⟩)) (bal (Below.refl _ _) _)) hk2 (fun k hk _ => by omega); have hkk : Keep (fun k => k = g) wo w2 := (((Keep.refl _ wo).alloc _).trans hk1).trans (((Keep.refl _ w1).alloc _).trans hk2); have t0 := cell_of_row _ _ 0 _ _ _ hz2; have t1 := cell_of_row _ _ 1 _ _ _ hz2; have t2 := frozen_of_row hz2; simp at t0 t1) | (go_at_call 58; refine (l71Bent_calls p hok hc1 C D cc cd (fun k => wo.heap.size + 1 ≤ k ∧ k < w1.heap.size) _ _ _ _ _ _ f (hR2.less (by omega)) (fun k hk => ⟨by omega, by omega⟩) hC2 hD2).mono ?_; rintro e w3 ⟨_, rfl, ⟨q, C', D', cc', cd', rfl, hq⟩, hR3, hk3⟩; have hz3 := hk3.blk hz2 (by omega); have t3 := cell_of_row _ _ 0 _ _ _ hz3; have t4 := cell_of_row _ _ 1 _ _ _ hz3; have t5 := frozen_of_row hz3; simp at t3 t4; have hB3 : BentIn (fun k => wo.heap.size + 1 ≤ k) (.agg #[.slice C' q.cells.length cc', .slice D' q.bodies.length cd']) w3 := BentIn.mono ⟨q, C', D', cc', cd', rfl, hq⟩ (fun k hk => by omega)))
  · exact bodyPost_ret (v := .agg #[.slice C' q.cells.length cc', .slice D' q.bodies.length cd']) (by simp [results, Try.results28, go_sem, t3, t4, t5]) rfl (Drew.toAny hB3 hR3 (hkk.trans hk3) rfl hgl _ _)
  · exact bodyPost_ret (v := .agg #[.slice C p.cells.length cc, .slice D p.bodies.length cd]) (by simp [results, Try.results28, go_sem, t0, t1, t2]) rfl (Drew.toAny ⟨p, C, D, cc, cd, rfl, hcc, hcd, hC2.mono fun k hk => hk.1, hD2.mono fun k hk => hk.1⟩ (hR2.less (by omega)) hkk rfl hgl _ _)
set_option maxHeartbeats 1000000 in
set_option maxRecDepth 100000 in
theorem drawOneRun_calls (xs : List Int) (A : Option Addr) (c : Nat) (w : World) (S : Nat → Prop) (hr : Row Kd.byte w S A xs) (hS : ∀ k, S k → k < w.heap.size) (hc : xs.length ≤ c) :
    Calls Try.prog 7 #[.slice A xs.length c] w (fun e w' => ∃ v, e = .returned v ∧ BentIn (fun k => w.heap.size ≤ k) v w' ∧ Below w.heap.size w w') := by
  obtain ⟨wo, rfl⟩ : ∃ wo, wo = w := ⟨_, rfl⟩
  have hr0 := fun o => hr.belowAll (w' := wo.alloc o) (bal (Below.refl _ _) o)
  have hS0 : ∀ o k, S k → k < (wo.alloc o).heap.size := fun o k hk => by have := hS k hk; simp; omega
  go_enter Try.func7, Try.ntmps7
  go_wp2_with (first | (go_at_call 29; refine (l6Open_calls xs A c _ S (hr0 _) (hS0 _) hc).mono ?_; rintro e w1 ⟨g, A1, c1, bs, rfl, hR1, hg1, hb1⟩; have hl1 := hb1.size; simp at hl1 hg1; have hz1 := (hb1.block wo.heap.size (by simp)).trans (heap_alloc_new wo _)) | (go_at_call 28; refine (l71Any_calls w1 g S A1 c1 bs 0 (hR1.less (by omega))).mono ?_; rintro e w2 ⟨_, rfl, ⟨q, C, D, cc, cd, rfl, hq⟩, hR2, hk2⟩; have hz2 := hk2.blk hz1 (by omega); have t0 := cell_of_row _ _ 0 _ _ _ hz2; have t1 := cell_of_row _ _ 1 _ _ _ hz2; have t2 := frozen_of_row hz2; simp at t0 t1; have hB2 : BentIn (fun k => wo.heap.size + 1 ≤ k) (.agg #[.slice C q.cells.length cc, .slice D q.bodies.length cd]) w2 := BentIn.mono ⟨q, C, D, cc, cd, rfl, hq⟩ (fun k hk => by omega); have hbb : Below wo.heap.size wo w2 := Below.trans (below_then (bal (Below.refl _ wo) _) (by simp) hb1) (Keep.below hk2 (fun k hk e => by omega) (by omega))))
  refine bodyPost_ret (v := .agg #[.slice C q.cells.length cc, .slice D q.bodies.length cd]) (by simp [results, Try.results7, go_sem, t0, t1, t2]) rfl ⟨_, rfl, ?_, ?_⟩
  · exact (hB2.keep (Keep.set2 (Keep.refl (fun k => k = wo.heap.size) _) 0 1 _ _) (fun k h1 _ h2 => by omega)).mono (fun k hk => by omega)
  · exact Below.trans hbb ((Keep.set2 (Keep.refl (fun k => k = wo.heap.size) _) 0 1 _ _).below (fun k hk e => by omega) hbb.size)
end Go.Proofs.Ytehgiijpmldiiaa
