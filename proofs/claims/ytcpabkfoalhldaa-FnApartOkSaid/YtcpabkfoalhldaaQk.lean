/- Draws: any program; the draw of one run. Draws: a program and a body. The laws' words on rows of numbers: is one among them; are all among others; do they ascend. Draws: a change of one cell. -/
import Derived.Deep.RegionHeld3
import Derived.Deep.DrawnRows
import Derived.Test.YtcpabkfoalhldaaQj
namespace Go.Proofs.Ytcpabkfoalhldaa
open Go.RowKit
set_option linter.unusedVariables false
set_option linter.unusedSimpArgs false

theorem BentIn.mono {P P' : Nat → Prop} {v : Value} {w : World} (h : BentIn P v w) (hP : ∀ k, P k → P' k) : BentIn P' v w := by
  obtain ⟨q, C, D, cc, cd, e, h1, h2, h3, h4⟩ := h
  exact ⟨q, C, D, cc, cd, e, h1, h2, h3.mono hP, h4.mono hP⟩
theorem BentIn.keep {P T : Nat → Prop} {v : Value} {w w' : World} (h : BentIn P v w) (hk : Keep T w w') (hP : ∀ k, P k → k < w.heap.size → ¬ T k) : BentIn P v w' := by
  obtain ⟨q, C, D, cc, cd, e, h1, h2, h3, h4⟩ := h
  exact ⟨q, C, D, cc, cd, e, h1, h2, h3.keep hk hP, h4.keep hk hP⟩
theorem Drew.toAny {wo w : World} {g b2 : Nat} {S : Nat → Prop} {A : Option Addr} {c : Nat} {bs : List Int} {f : Nat} {v : Value} (h : BentIn (fun k => wo.heap.size + 1 ≤ k) v w) (hR : RdAt w g S A c bs f) (hk : Keep (fun k => k = g) wo w) (hb : b2 = wo.heap.size) (hg : g < wo.heap.size) (u1 u2 : Value) :
    Drew (BentIn (fun k => wo.heap.size ≤ k)) wo g S A c bs f (.returned v) ((w.setCell ⟨b2, 0, none⟩ u1).setCell ⟨b2, 1, none⟩ u2) := by
  have hk2 : Keep (fun k => k = b2) w ((w.setCell ⟨b2, 0, none⟩ u1).setCell ⟨b2, 1, none⟩ u2) := Keep.set2 (Keep.refl _ _) 0 1 u1 u2
  exact ⟨_, rfl, (h.keep hk2 (fun k h1 _ h2 => by omega)).mono (fun k hk => by omega), hR.keep hk2 (by omega) (fun k hs _ => by have := hR.ne k hs; omega), hk.then_ hk2 (fun i hi e => by omega)⟩

set_option maxHeartbeats 4000000 in
set_option maxRecDepth 100000 in
theorem l71Any_calls (w : World) (g : Nat) (S : Nat → Prop) (A : Option Addr) (c : Nat) (bs : List Int) (f : Nat) (hR : RdAt w g S A c bs (f + 10100)) :
    Calls Try.prog 50 #[.pointer (some ⟨g, 0, none⟩)] w (Drew (BentIn (fun k => w.heap.size ≤ k)) w g S A c bs f) := by
  have hgl := hR.lt
  obtain ⟨wo, rfl⟩ : ∃ wo, wo = w := ⟨_, rfl⟩
  have hR0 := fun o => (hR.below (w' := wo.alloc o) (bal (Below.refl _ _) o)).less (f' := f + 100 + 10000) (by omega)
  clear hR
  go_enter Try.func50, Try.ntmps50
  go_wp2_with (first | (go_at_call 77; refine (l71Prog_calls _ _ _ _ _ _ (f + 100) (hR0 _)).mono ?_; rintro e w1 ⟨_, rfl, ⟨p, C, D, cc, cd, rfl, hcc, hcd, hrC, hrD, hok, hc1⟩, hR1, hk1⟩; have hl1 := hk1.size; have hz1 := hk1.blk (heap_alloc_new wo _) (by omega)) | (go_at_call 49; refine (pick_calls _ _ _ _ _ _ _ _ (RdAt.below (hR1.less (f' := f + 50 + 1) (by omega)) (bal (Below.refl _ _) _)) (by omega)).mono ?_; rintro e w2 ⟨m, rfl, hm0, hm1, hR2, hk2⟩; have hl2 := hk2.size; simp at hl1 hl2; have hz2 := hk2.blk ((Below.heap_alloc w1 _ _ (by omega)).trans hz1) (by omega); have hy2 := hk2.blk (heap_alloc_new w1 _) (by omega); have s0 := cell_of_row _ _ 0 _ _ _ hy2; have s1 := cell_of_row _ _ 1 _ _ _ hy2; simp at s0 s1; have hC2 : Row Kd.int w2 (fun k => wo.heap.size + 1 ≤ k ∧ k < w1.heap.size) C p.cells := Row.keep (Row.belowAll (hrC.bound.mono (fun k hk => ⟨by simpa using hk.1, hk.2⟩)) (bal (Below.refl _ _) _)) hk2 (fun k hk _ => by omega); have hD2 : Row (Kd.slice kAct) w2 (fun k => wo.heap.size + 1 ≤ k ∧ k < w1.heap.size) D p.bodies := Row.keep (Row.belowAll (hrD.bound.mono (fun k hk => ⟨by simpa using hk.1, hk.2⟩)) (bal (Below.refl _ _) _)) hk2 (fun k hk _ => by omega); have hkk : Keep (fun k => k = g) wo w2 := (((Keep.refl _ wo).alloc _).trans hk1).trans (((Keep.refl _ w1).alloc _).trans hk2); have t0 := cell_of_row _ _ 0 _ _ _ hz2; have t1 := cell_of_row _ _ 1 _ _ _ hz2; have t2 := frozen_of_row hz2; simp at t0 t1) | (go_at_call 78; refine (l71Bent_calls p hok hc1 C D cc cd (fun k => wo.heap.size + 1 ≤ k ∧ k < w1.heap.size) _ _ _ _ _ _ f (hR2.less (by omega)) (fun k hk => ⟨by omega, by omega⟩) hC2 hD2).mono ?_; rintro e w3 ⟨_, rfl, ⟨q, C', D', cc', cd', rfl, hq⟩, hR3, hk3⟩; have hz3 := hk3.blk hz2 (by omega); have t3 := cell_of_row _ _ 0 _ _ _ hz3; have t4 := cell_of_row _ _ 1 _ _ _ hz3; have t5 := frozen_of_row hz3; simp at t3 t4; have hB3 : BentIn (fun k => wo.heap.size + 1 ≤ k) (.agg #[.slice C' q.cells.length cc', .slice D' q.bodies.length cd']) w3 := BentIn.mono ⟨q, C', D', cc', cd', rfl, hq⟩ (fun k hk => by omega)))
  · exact bodyPost_ret (v := .agg #[.slice C' q.cells.length cc', .slice D' q.bodies.length cd']) (by simp [results, Try.results50, go_sem, t3, t4, t5]) rfl (Drew.toAny hB3 hR3 (hkk.trans hk3) rfl hgl _ _)
  · exact bodyPost_ret (v := .agg #[.slice C p.cells.length cc, .slice D p.bodies.length cd]) (by simp [results, Try.results50, go_sem, t0, t1, t2]) rfl (Drew.toAny ⟨p, C, D, cc, cd, rfl, hcc, hcd, hC2.mono fun k hk => hk.1, hD2.mono fun k hk => hk.1⟩ (hR2.less (by omega)) hkk rfl hgl _ _)
set_option maxHeartbeats 1000000 in
set_option maxRecDepth 100000 in
theorem drawOneRun_calls (xs : List Int) (A : Option Addr) (c : Nat) (w : World) (S : Nat → Prop) (hr : Row Kd.byte w S A xs) (hS : ∀ k, S k → k < w.heap.size) (hc : xs.length ≤ c) :
    Calls Try.prog 34 #[.slice A xs.length c] w (fun e w' => ∃ v, e = .returned v ∧ BentIn (fun k => w.heap.size ≤ k) v w' ∧ Below w.heap.size w w') := by
  obtain ⟨wo, rfl⟩ : ∃ wo, wo = w := ⟨_, rfl⟩
  have hr0 := fun o => hr.belowAll (w' := wo.alloc o) (bal (Below.refl _ _) o)
  have hS0 : ∀ o k, S k → k < (wo.alloc o).heap.size := fun o k hk => by have := hS k hk; simp; omega
  go_enter Try.func34, Try.ntmps34
  go_wp2_with (first | (go_at_call 48; refine (l6Open_calls xs A c _ S (hr0 _) (hS0 _) hc).mono ?_; rintro e w1 ⟨g, A1, c1, bs, rfl, hR1, hg1, hb1⟩; have hl1 := hb1.size; simp at hl1 hg1; have hz1 := (hb1.block wo.heap.size (by simp)).trans (heap_alloc_new wo _)) | (go_at_call 50; refine (l71Any_calls w1 g S A1 c1 bs 0 (hR1.less (by omega))).mono ?_; rintro e w2 ⟨_, rfl, ⟨q, C, D, cc, cd, rfl, hq⟩, hR2, hk2⟩; have hz2 := hk2.blk hz1 (by omega); have t0 := cell_of_row _ _ 0 _ _ _ hz2; have t1 := cell_of_row _ _ 1 _ _ _ hz2; have t2 := frozen_of_row hz2; simp at t0 t1; have hB2 : BentIn (fun k => wo.heap.size + 1 ≤ k) (.agg #[.slice C q.cells.length cc, .slice D q.bodies.length cd]) w2 := BentIn.mono ⟨q, C, D, cc, cd, rfl, hq⟩ (fun k hk => by omega); have hbb : Below wo.heap.size wo w2 := Below.trans (below_then (bal (Below.refl _ wo) _) (by simp) hb1) (Keep.below hk2 (fun k hk e => by omega) (by omega))))
  refine bodyPost_ret (v := .agg #[.slice C q.cells.length cc, .slice D q.bodies.length cd]) (by simp [results, Try.results34, go_sem, t0, t1, t2]) rfl ⟨_, rfl, ?_, ?_⟩
  · exact (hB2.keep (Keep.set2 (Keep.refl (fun k => k = wo.heap.size) _) 0 1 _ _) (fun k h1 _ h2 => by omega)).mono (fun k hk => by omega)
  · exact Below.trans hbb ((Keep.set2 (Keep.refl (fun k => k = wo.heap.size) _) 0 1 _ _).below (fun k hk e => by omega) hbb.size)
end Go.Proofs.Ytcpabkfoalhldaa
namespace Go.Proofs.Ytcpabkfoalhldaa
open Go.RowKit
set_option linter.unusedVariables false
set_option linter.unusedSimpArgs false
attribute [local go_sem ↓] Go.wp_at_zero Go.wp_at_succ

/-- A program and a body, drawn: any program in new memory, any small number. -/
def DrawnTree (w : World) (e : Ending) (w' : World) : Prop := ∃ v n, e = .returned (.tuple #[v, .int .i64 n]) ∧ isI n ∧ BentIn (fun k => w.heap.size ≤ k) v w' ∧ Below w.heap.size w w'
set_option maxHeartbeats 4000000 in
set_option maxRecDepth 100000 in
theorem drawProgTree_calls (xs : List Int) (A : Option Addr) (c : Nat) (w : World) (S : Nat → Prop) (hr : Row Kd.byte w S A xs) (hS : ∀ k, S k → k < w.heap.size) (hc : xs.length ≤ c) :
    Calls Try.prog 37 #[.slice A xs.length c] w (DrawnTree w) := by
  obtain ⟨wo, rfl⟩ : ∃ wo, wo = w := ⟨_, rfl⟩
  have hr0 := fun o => hr.belowAll (w' := wo.alloc o) (bal (Below.refl _ _) o)
  have hS0 : ∀ o k, S k → k < (wo.alloc o).heap.size := fun o k hk => by have := hS k hk; simp; omega
  go_enter Try.func37, Try.ntmps37
  go_wp2_with (first | (go_at_call 48; refine (l6Open_calls xs A c _ S (hr0 _) (hS0 _) hc).mono ?_; rintro e w1 ⟨g, A1, c1, bs, rfl, hR1, hg1, hb1⟩; have hl1 := hb1.size; simp at hl1 hg1; have hz1 := (hb1.block wo.heap.size (by simp)).trans (heap_alloc_new wo _)) | (go_at_call 50; refine (l71Any_calls w1 g S A1 c1 bs 100 (hR1.less (by omega))).mono ?_; rintro e w2 ⟨_, rfl, ⟨q, C, D, cc, cd, rfl, hq⟩, hR2, hk2⟩; have hz2 := hk2.blk hz1 (by omega)))
  have hl2 := hk2.size
  have hz3 := (Below.heap_alloc w2 (Obj.cells #[.slice C q.cells.length cc, .slice D q.bodies.length cd] 26) wo.heap.size (by omega)).trans hz2
  have hR3 : RdAt (w2.alloc (Obj.cells #[.slice C q.cells.length cc, .slice D q.bodies.length cd] 26)) g S A1 c1 bs 100 := hR2.below (bal (Below.refl _ _) _)
  obtain ⟨W, HW⟩ : ∃ W, W = w2.alloc (Obj.cells #[.slice C q.cells.length cc, .slice D q.bodies.length cd] 26) := ⟨_, rfl⟩
  have a0 : W.cell? ⟨w2.heap.size, 0, none⟩ = some (.slice C q.cells.length cc) := by rw [HW]; simp [go_sem]
  have a1 : W.cell? ⟨w2.heap.size, 1, none⟩ = some (.slice D q.bodies.length cd) := by rw [HW]; simp [go_sem]
  rw [← HW] at hz3 hR3 ⊢
  have hzW : W.heap.size = w2.heap.size + 1 := by rw [HW]; simp
  have hgW := hR3.lt
  have hgne : ¬ w2.heap.size = g := by have := hR2.lt; omega
  have hgo : ¬ wo.heap.size = g := by omega
  have hol : wo.heap.size < w2.heap.size := by omega
  have HWW := Lib.hid HW
  clear HW
  go_region_held3 (fun w' => w'.cell? ⟨w2.heap.size, 0, none⟩ = some (.slice C q.cells.length cc) ∧ w'.cell? ⟨w2.heap.size, 1, none⟩ = some (.slice D q.bodies.length cd)) (first | (go_keep; done) | exact ⟨a0, a1⟩ | exact ⟨x0, x1⟩ | exact ⟨y0, y1⟩ | exact ⟨((Keep.set2 (Keep.refl (fun k => k = wo.heap.size) w5) 0 1 _ _).cell (p := ⟨w2.heap.size, 0, none⟩) (by have := hk4.size; have := hk5.size; simp; omega) (by simp; omega)).trans y0, ((Keep.set2 (Keep.refl (fun k => k = wo.heap.size) w5) 0 1 _ _).cell (p := ⟨w2.heap.size, 1, none⟩) (by have := hk4.size; have := hk5.size; simp; omega) (by simp; omega)).trans y1⟩)
    (first | (go_at_call 49; refine (pick_calls _ _ _ _ _ _ _ 98 (RdAt.below hR4 (by repeat' (first | exact Below.refl _ _ | apply Below.drew))) (by omega)).mono ?_; rintro e w5 ⟨y, rfl, hy0, hy1, hR5, hk5⟩; have hk5 : Keep (fun k => k = g) w4 w5 := Keep.trans (show Keep (fun k => k = g) w4 _ by repeat' (first | exact Keep.refl _ _ | apply Keep.drew)) hk5; have y0 := (hk5.cell (p := ⟨w2.heap.size, 0, none⟩) (by have := hk4.size; simp; omega) (by simpa using hgne)).trans x0; have y1 := (hk5.cell (p := ⟨w2.heap.size, 1, none⟩) (by have := hk4.size; simp; omega) (by simpa using hgne)).trans x1; have z5 := hk5.blk (hk4.blk hz3 hgo) hgo; have t0 := cell_of_row _ _ 0 _ _ _ z5; have t1 := cell_of_row _ _ 1 _ _ _ z5; have t2 := frozen_of_row z5; simp at t0 t1) | (go_at_call 49; refine (pick_calls _ _ _ _ _ _ _ 99 (RdAt.below hR3 (by repeat' (first | exact Below.refl _ _ | apply Below.drew))) (by first | omega | (rw [IntKind.wrap_i64]; omega))).mono ?_; rintro e w4 ⟨x, rfl, hx0, hx1, hR4, hk4⟩; have hk4 : Keep (fun k => k = g) W w4 := Keep.trans (show Keep (fun k => k = g) W _ by repeat' (first | exact Keep.refl _ _ | apply Keep.drew)) hk4; have x0 := (hk4.cell (p := ⟨w2.heap.size, 0, none⟩) (by simp; omega) (by simpa using hgne)).trans a0; have x1 := (hk4.cell (p := ⟨w2.heap.size, 1, none⟩) (by simp; omega) (by simpa using hgne)).trans a1))
  go_wp2
  have hW2 : Keep (fun k => k = g) w1 W := hk2.trans (by rw [HWW.out]; exact (Keep.refl _ w2).alloc _)
  have hkk : Keep (fun k => k = g) w1 w5 := (hW2.trans hk4).trans hk5
  have hB5 : BentIn (fun k => wo.heap.size + 1 ≤ k) (.agg #[.slice C q.cells.length cc, .slice D q.bodies.length cd]) w5 := by
    have hg1' := hR1.lt
    have h0 : BentIn (fun k => w1.heap.size ≤ k ∧ k < w2.heap.size) (.agg #[.slice C q.cells.length cc, .slice D q.bodies.length cd]) w2 := ⟨q, C, D, cc, cd, rfl, hq.1, hq.2.1, hq.2.2.1.bound.mono fun k hk => ⟨by omega, hk.2⟩, hq.2.2.2.bound.mono fun k hk => ⟨by omega, hk.2⟩⟩
    have h1 : Keep (fun k => k = g) w2 w5 := (((by rw [HWW.out]; exact (Keep.refl _ w2).alloc _ : Keep (fun k => k = g) w2 W)).trans hk4).trans hk5
    exact (h0.keep h1 (fun k h1 _ h2 => by omega)).mono fun k hk => by omega
  have hbb : Below wo.heap.size wo w5 := Below.trans (below_then (bal (Below.refl _ wo) _) (by simp) hb1) (Keep.below hkk (fun k hk e => by omega) (by omega))
  refine bodyPost_ret (v := .tuple #[.agg #[.slice C q.cells.length cc, .slice D q.bodies.length cd], .int .i64 (IntKind.i64.wrap (x - IntKind.i64.wrap (y.tdiv 8)))]) (by simp [results, Try.results37, go_sem, t0, t1, t2]) rfl ⟨_, _, rfl, ?_, ?_, ?_⟩
  · unfold isI; rw [IntKind.wrap_i64]; omega
  · exact (hB5.keep (Keep.set2 (Keep.refl (fun k => k = wo.heap.size) _) 0 1 _ _) (fun k h1 _ h2 => by omega)).mono (fun k hk => by omega)
  · exact Below.trans hbb ((Keep.set2 (Keep.refl (fun k => k = wo.heap.size) _) 0 1 _ _).below (fun k hk e => by omega) hbb.size)
set_option maxHeartbeats 1000000 in
set_option maxRecDepth 100000 in
theorem drawApartReads_calls (xs : List Int) (A : Option Addr) (c : Nat) (w : World) (S : Nat → Prop) (hr : Row Kd.byte w S A xs) (hS : ∀ k, S k → k < w.heap.size) (hc : xs.length ≤ c) :
    Calls Try.prog 18 #[.slice A xs.length c] w (DrawnTree w) := by
  obtain ⟨wo, rfl⟩ : ∃ wo, wo = w := ⟨_, rfl⟩
  have hr0 := fun o => hr.belowAll (w' := wo.alloc o) (bal (Below.refl _ _) o)
  have hS0 : ∀ o k, S k → k < (wo.alloc o).heap.size := fun o k hk => by have := hS k hk; simp; omega
  go_enter Try.func18, Try.ntmps18
  go_wp2_with (go_at_call 37; refine (drawProgTree_calls xs A c _ S (hr0 _) (hS0 _) hc).mono ?_; rintro e w1 ⟨_, n, rfl, hn, ⟨q, C, D, cc, cd, rfl, hq⟩, hb1⟩; have hl1 := hb1.size; simp at hl1; have z1 := (hb1.block wo.heap.size (by simp)).trans (heap_alloc_new wo _); have t0 := cell_of_row _ _ 0 _ _ _ z1; have t1 := cell_of_row _ _ 1 _ _ _ z1; have t2 := frozen_of_row z1; simp at t0 t1)
  refine bodyPost_ret (v := .tuple #[.agg #[.slice C q.cells.length cc, .slice D q.bodies.length cd], .int .i64 n]) (by simp [results, Try.results18, go_sem, t0, t1, t2]) rfl ⟨_, _, rfl, hn, ?_, ?_⟩
  · exact (BentIn.keep (P := fun k => wo.heap.size + 1 ≤ k) (BentIn.mono ⟨q, C, D, cc, cd, rfl, hq⟩ (fun k hk => by simpa using hk)) (Keep.set2 (Keep.refl (fun k => k = wo.heap.size) _) 0 1 _ _) (fun k h1 _ h2 => by omega)).mono (fun k hk => by omega)
  · have hbb : Below wo.heap.size wo w1 := below_then (bal (Below.refl _ wo) _) (by simp) hb1
    exact Below.trans hbb ((Keep.set2 (Keep.refl (fun k => k = wo.heap.size) _) 0 1 _ _).below (fun k hk e => by omega) hbb.size)
set_option maxHeartbeats 1000000 in
set_option maxRecDepth 100000 in
theorem drawApartWrites_calls (xs : List Int) (A : Option Addr) (c : Nat) (w : World) (S : Nat → Prop) (hr : Row Kd.byte w S A xs) (hS : ∀ k, S k → k < w.heap.size) (hc : xs.length ≤ c) :
    Calls Try.prog 10 #[.slice A xs.length c] w (DrawnTree w) := by
  obtain ⟨wo, rfl⟩ : ∃ wo, wo = w := ⟨_, rfl⟩
  have hr0 := fun o => hr.belowAll (w' := wo.alloc o) (bal (Below.refl _ _) o)
  have hS0 : ∀ o k, S k → k < (wo.alloc o).heap.size := fun o k hk => by have := hS k hk; simp; omega
  go_enter Try.func10, Try.ntmps10
  go_wp2_with (go_at_call 37; refine (drawProgTree_calls xs A c _ S (hr0 _) (hS0 _) hc).mono ?_; rintro e w1 ⟨_, n, rfl, hn, ⟨q, C, D, cc, cd, rfl, hq⟩, hb1⟩; have hl1 := hb1.size; simp at hl1; have z1 := (hb1.block wo.heap.size (by simp)).trans (heap_alloc_new wo _); have t0 := cell_of_row _ _ 0 _ _ _ z1; have t1 := cell_of_row _ _ 1 _ _ _ z1; have t2 := frozen_of_row z1; simp at t0 t1)
  refine bodyPost_ret (v := .tuple #[.agg #[.slice C q.cells.length cc, .slice D q.bodies.length cd], .int .i64 n]) (by simp [results, Try.results10, go_sem, t0, t1, t2]) rfl ⟨_, _, rfl, hn, ?_, ?_⟩
  · exact (BentIn.keep (P := fun k => wo.heap.size + 1 ≤ k) (BentIn.mono ⟨q, C, D, cc, cd, rfl, hq⟩ (fun k hk => by simpa using hk)) (Keep.set2 (Keep.refl (fun k => k = wo.heap.size) _) 0 1 _ _) (fun k h1 _ h2 => by omega)).mono (fun k hk => by omega)
  · have hbb : Below wo.heap.size wo w1 := below_then (bal (Below.refl _ wo) _) (by simp) hb1
    exact Below.trans hbb ((Keep.set2 (Keep.refl (fun k => k = wo.heap.size) _) 0 1 _ _).below (fun k hk e => by omega) hbb.size)
end Go.Proofs.Ytcpabkfoalhldaa
namespace Go.Proofs.Ytcpabkfoalhldaa
open Go.RowKit
set_option linter.unusedVariables false
set_option linter.unusedSimpArgs false

set_option maxHeartbeats 2000000 in
set_option maxRecDepth 100000 in
theorem lqHas_calls (xs : List Int) (A : Option Addr) (c : Nat) (n : Int) (w : World) (S : Nat → Prop) (hA : Row Kd.int w S A xs) :
    Calls Try.prog 33 #[.slice A xs.length c, .int .i64 n] w fun e w' => e = .returned (.bool (decide (n ∈ xs))) ∧ Below w.heap.size w w' := by
  have hn := hA.1
  go_enter Try.func33, Try.ntmps33
  go_wp2
  go_loopw [5] (fun i wr => ∃ k : Nat, k ≤ xs.length ∧ i = .int .i64 k ∧ Hid (n ∉ xs.take k) ∧ Below w.heap.size w wr) (fun i _ => xs.length - (intOf i).toNat)
  case atStart => exact ⟨0, Nat.zero_le _, rfl, by unfold Hid; simp, Below.refl _ _⟩
  case round =>
    obtain ⟨k, hk, rfl, HA, hbr⟩ := hrel
    by_cases hlt : k < xs.length
    · obtain ⟨ad, rfl, hl1, hc1, hi1⟩ := at_int (hA.belowAll hbr) hlt
      have x1 : (k : Int) < xs.length := by omega
      have x3 : (0 : Int) ≤ k := by omega
      by_cases he : xs[k] = n
      · have hb : (xs[k] == n) = true := by simp [he]
        have hd : decide (n ∈ xs) = true := by simp; rw [← he]; exact List.getElem_mem _
        have HDD := Lib.hid hd
        clear he hd
        go_wp2
        go_ret
        exact ⟨ret_bool HDD.out.symm, hbr⟩
      · have hb : (xs[k] == n) = false := by simp [he]
        have HEQ := Lib.hid he
        clear he
        go_wp2
        go_roundw
        case rel => exact ⟨k + 1, by omega, by go_num, by unfold Hid; rw [List.take_succ_eq_append_getElem hlt, List.mem_append]; rintro (h | h); exact HA.out h; exact HEQ.out (List.mem_singleton.1 h).symm, hbr⟩
        case measure => simp [intOf]; omega
    · have hd : decide (n ∈ xs) = false := by
        have := HA.out
        rw [List.take_of_length_le (by omega)] at this
        simp [this]
      have HDD := Lib.hid hd
      clear hd
      go_wp2
      go_ret
      exact ⟨ret_bool HDD.out.symm, hbr⟩

set_option maxHeartbeats 2000000 in
set_option maxRecDepth 100000 in
/-- The world is as it was. -/
theorem lqHas_same (xs : List Int) (A : Option Addr) (c : Nat) (n : Int) (w : World) (S : Nat → Prop) (hA : Row Kd.int w S A xs) :
    Calls Try.prog 33 #[.slice A xs.length c, .int .i64 n] w fun e w' => e = .returned (.bool (decide (n ∈ xs))) ∧ w = w' := by
  have hn := hA.1
  go_enter Try.func33, Try.ntmps33
  go_wp2
  go_loop [5] (fun i => ∃ k : Nat, k ≤ xs.length ∧ i = .int .i64 k ∧ Hid (n ∉ xs.take k)) (fun i => xs.length - (intOf i).toNat)
  case atStart => exact ⟨0, Nat.zero_le _, rfl, by unfold Hid; simp⟩
  case round =>
    obtain ⟨k, hk, rfl, HA⟩ := hrel
    by_cases hlt : k < xs.length
    · obtain ⟨ad, rfl, hl1, hc1, hi1⟩ := at_int hA hlt
      have x1 : (k : Int) < xs.length := by omega
      have x3 : (0 : Int) ≤ k := by omega
      by_cases he : xs[k] = n
      · have hb : (xs[k] == n) = true := by simp [he]
        have hd : decide (n ∈ xs) = true := by simp; rw [← he]; exact List.getElem_mem _
        have HDD := Lib.hid hd
        clear he hd
        go_wp2
        go_ret
        exact ⟨ret_bool HDD.out.symm, rfl⟩
      · have hb : (xs[k] == n) = false := by simp [he]
        have HEQ := Lib.hid he
        clear he
        go_wp2
        go_round
        case rel => exact ⟨k + 1, by omega, by go_num, by unfold Hid; rw [List.take_succ_eq_append_getElem hlt, List.mem_append]; rintro (h | h); exact HA.out h; exact HEQ.out (List.mem_singleton.1 h).symm⟩
        case measure => simp [intOf]; omega
    · have hd : decide (n ∈ xs) = false := by
        have := HA.out
        rw [List.take_of_length_le (by omega)] at this
        simp [this]
      have HDD := Lib.hid hd
      clear hd
      go_wp2
      go_ret
      exact ⟨ret_bool HDD.out.symm, rfl⟩
def within (a b : List Int) : Bool := a.all fun x => decide (x ∈ b)
set_option maxHeartbeats 2000000 in
set_option maxRecDepth 100000 in
theorem lqWithin_calls (xs ys : List Int) (A B : Option Addr) (c d : Nat) (w : World) (S S2 : Nat → Prop) (hA : Row Kd.int w S A xs) (hB : Row Kd.int w S2 B ys) :
    Calls Try.prog 15 #[.slice A xs.length c, .slice B ys.length d] w fun e w' => e = .returned (.bool (within xs ys)) ∧ Below w.heap.size w w' := by
  have hn := hA.1
  go_enter Try.func15, Try.ntmps15
  go_wp2
  go_loopw [5] (fun i wr => ∃ k : Nat, k ≤ xs.length ∧ i = .int .i64 k ∧ Hid (within (xs.take k) ys = true) ∧ Below w.heap.size w wr) (fun i _ => xs.length - (intOf i).toNat)
  case atStart => exact ⟨0, Nat.zero_le _, rfl, by simp [Hid, within], Below.refl _ _⟩
  case round =>
    obtain ⟨k, hk, rfl, HA, hbr⟩ := hrel
    by_cases hlt : k < xs.length
    · obtain ⟨ad, rfl, hl1, hc1, hi1⟩ := at_int (hA.belowAll hbr) hlt
      cases he : decide (xs[k] ∈ ys)
      all_goals
        have HE := Lib.hid he
        clear he
        go_wp2_with (go_at_call 33; refine (lqHas_calls ys _ _ _ _ S2 (hB.belowAll hbr)).mono ?_; rintro e w1 ⟨rfl, hb1⟩; rw [HE.out]; have hbr1 := below_then hbr hbr.size hb1)
      · go_ret
        refine ⟨ret_bool ?_, hbr1⟩
        exact (all_false_of _ _ k hlt HE.out).symm
      · go_roundw
        case rel => exact ⟨k + 1, by omega, by go_num, by unfold Hid within; have := HA.out; unfold within at this; rw [all_take_snoc _ _ _ hlt, this, HE.out]; rfl, hbr1⟩
        case measure => simp [intOf]; omega
    · have hd : within xs ys = true := by
        have := HA.out
        rwa [List.take_of_length_le (by omega)] at this
      have HDD := Lib.hid hd
      clear hd
      go_wp2
      go_ret
      exact ⟨ret_bool HDD.out.symm, hbr⟩
def ascends (a : List Int) : Bool := (List.range (a.length - 1)).all fun i => decide (a.getD i 0 < a.getD (i + 1) 0)
theorem ascends_of {a : List Int} (h : a.Pairwise (· < ·)) : ascends a = true := by
  unfold ascends
  rw [List.all_eq_true]
  intro i hi
  have hi := List.mem_range.1 hi
  rw [getD_at _ _ _ (by omega), getD_at _ _ _ (by omega)]
  simp only [decide_eq_true_eq]
  exact List.pairwise_iff_getElem.1 h i (i + 1) (by omega) (by omega) (by omega)
set_option maxHeartbeats 2000000 in
set_option maxRecDepth 100000 in
/-- Of a row that ascends: yes. -/
theorem lqUp_calls (xs : List Int) (hx : xs.Pairwise (· < ·)) (A : Option Addr) (c : Nat) (w : World) (S : Nat → Prop) (hA : Row Kd.int w S A xs) :
    Calls Try.prog 17 #[.slice A xs.length c] w fun e w' => e = .returned (.bool true) ∧ Below w.heap.size w w' := by
  have hn := hA.1
  have HX := Lib.hid hx
  clear hx
  go_enter Try.func17, Try.ntmps17
  go_wp2
  go_loopw [3] (fun i wr => ∃ k : Nat, (k ≤ xs.length ∨ k = 1) ∧ 1 ≤ k ∧ i = .int .i64 k ∧ Below w.heap.size w wr) (fun i _ => xs.length - (intOf i).toNat)
  case atStart => exact ⟨1, .inr rfl, by omega, rfl, Below.refl _ _⟩
  case round =>
    obtain ⟨k, hk, hk1, rfl, hbr⟩ := hrel
    by_cases hlt : k < xs.length
    · obtain ⟨j, rfl⟩ : ∃ j, k = j + 1 := ⟨k - 1, by omega⟩
      obtain ⟨ad, rfl, hl1, hc1, hi1⟩ := at_int (hA.belowAll hbr) (j := j + 1) hlt
      obtain ⟨ad', e', hl2, hc2, hi2⟩ := at_int (hA.belowAll hbr) (j := j) (by omega)
      injection e' with e'
      subst e'
      have hup : xs[j] < xs[j + 1] := List.pairwise_iff_getElem.1 HX.out j (j + 1) (by omega) (by omega) (by omega)
      have hcast : ((j + 1 : Nat) : Int) = (j : Int) + 1 := by omega
      rw [hcast]
      have hc1' : wr.cell? ⟨ad.block, ad.off + (j + 1), none⟩ = some (.int .i64 xs[j + 1]) := (show ad.add (j + 1) = ⟨ad.block, ad.off + (j + 1), none⟩ by simp [Addr.add]) ▸ hc1
      clear hc1
      have b1 : (j : Int) < xs.length := by omega
      have b2 : (j : Int) + 1 < xs.length := by omega
      have b3 : (0 : Int) ≤ j := by omega
      have b4 : (0 : Int) ≤ (j : Int) + 1 := by omega
      have b5 : ((j : Int) + 1).toNat = j + 1 := by omega
      go_wp2
      go_region
      go_wp2
      go_roundw
      case rel => exact ⟨j + 2, by omega, by omega, by go_num, by repeat' (first | exact hbr | apply Below.drew)⟩
      case measure => simp [intOf]; omega
    · go_wp2
      go_ret
      exact ⟨rfl, hbr⟩
end Go.Proofs.Ytcpabkfoalhldaa
namespace Go.Proofs.Ytcpabkfoalhldaa
open Go.RowKit
set_option linter.unusedVariables false
set_option linter.unusedSimpArgs false

set_option maxHeartbeats 4000000 in
set_option maxRecDepth 100000 in
theorem l71Only_calls (cell : Int) (w : World) (g : Nat) (S : Nat → Prop) (A : Option Addr) (c : Nat) (bs : List Int) (f : Nat) (hR : RdAt w g S A c bs (f + 20)) (h0 : 0 ≤ cell) (hc : cell ≤ 1000) :
    Calls Try.prog 80 #[.pointer (some ⟨g, 0, none⟩), .int .i64 cell] w (Drew (newRow kDeed 4 w.heap.size) w g S A c bs f) := by
  have hgl := hR.lt
  go_enter Try.func80, Try.ntmps80
  go_wp2_with (go_at_call 49; refine (pick_calls _ _ _ _ _ _ _ _ (hR.below (w' := w.alloc _) (bal' w _)) (by omega)).mono ?_; rintro e w2 ⟨n, rfl, hn0, hn1, hR2, hk⟩; have ho2 := Own.step (Own.empty_ kDeed 63 w w.heap.size (fun k => w.heap.size ≤ k) (Nat.le_refl _) (Nat.le_refl _)) (fun k hs hl => hk.block k hl (by omega)); have hk2 := Keep.trans ((Keep.refl (fun k => k = g) w).alloc _) hk; clear hk hR)
  obtain ⟨m, rfl⟩ := Int.eq_ofNat_of_zero_le hn0
  have hR3 := Lib.hid (hR2.less (f' := f + 3 * (1 + m)) (by omega))
  have hm5 : 1 + m ≤ 4 := by omega
  have hws := hk2.size
  clear hR2 hn0 hn1
  obtain ⟨wo, rfl⟩ : ∃ wo, wo = w := ⟨_, rfl⟩
  go_loopw [5, 6] (fun v n wr => ∃ (ds : List Deed) (k : Nat), n = .int .i64 k ∧ Own kDeed 63 wr wo.heap.size (fun k => wo.heap.size ≤ k) v ds ∧ ds.length + k ≤ 4 ∧ RdAt wr g S A c bs (f + 3 * k) ∧ Keep (fun k => k = g) wo wr) (fun _ n _ => (intOf n).toNat)
  case atStart => exact ⟨[], 1 + m, by go_num, ho2, by simpa using hm5, hR3.out, hk2⟩
  case round =>
    obtain ⟨ds, k, rfl, ho, hl, hRr, hkr⟩ := hrel
    have hwr := hkr.size
    by_cases hlt : 0 < k
    · obtain ⟨k, rfl⟩ : ∃ j, k = j + 1 := ⟨k - 1, by omega⟩
      have hRs := Lib.hid (hRr.less (f' := f + 3 * k + 3) (by omega))
      clear hRr hlt
      go_wp2_with (first | (go_at_call 102; refine (l71Deed_calls _ _ _ _ _ _ _ _ hRs.out (by omega) (by omega)).mono ?_; rintro e w4 ⟨_, rfl, ⟨d, rfl, hd4⟩, hR4, hk4⟩; have ho4 := ho.step (fun k hs hl => hk4.block k hl (by omega)); have hk5 := Keep.trans hkr hk4; have hbx := fun o => bal' w4 o; have hR4 := Lib.hid hR4; clear hk4 ho hkr) | (at_builtin; refine wpList_append_kd (d := kDeed) rfl (.tmp 33) (.tmp 35) _ rfl Try.underlying33 _ 24 infoDeed rfl (by decide) (by decide) rfl (ho4.belowAll (bal2' w4 _ _)) _ _ rfl (Row.one_at (e := 63) (w4.heap.size + 1) (isDeed_K (S := fun _ => False) (⟨d.kind, d.a, cell⟩) ⟨by first | exact hd4.1 | (unfold i64; dsimp only; omega), by first | exact hd4.2.1 | (unfold i64; dsimp only; omega), by first | exact hd4.2.2 | (unfold i64; dsimp only; omega)⟩) (by simp)) (fun k hk e => by have := ho4.blk k e.symm; rcases hk with hk | hk; exact hk; omega) (by simp; omega) (by simp; have := hk5.size; omega) ?_; intro v5 w5 ho5 hg5 hv5) | (at_builtin; refine wpList_append_kd (d := kDeed) rfl (.tmp 33) (.tmp 35) _ rfl Try.underlying33 _ 24 infoDeed rfl (by decide) (by decide) rfl (ho4.belowAll (bal2' w4 _ _)) _ _ rfl (Row.one_at (e := 63) (w4.heap.size + 1) (isDeed_K (S := fun _ => False) (⟨d.kind, cell, d.b⟩) ⟨by first | exact hd4.1 | (unfold i64; dsimp only; omega), by first | exact hd4.2.1 | (unfold i64; dsimp only; omega), by first | exact hd4.2.2 | (unfold i64; dsimp only; omega)⟩) (by simp)) (fun k hk e => by have := ho4.blk k e.symm; rcases hk with hk | hk; exact hk; omega) (by simp; omega) (by simp; have := hk5.size; omega) ?_; intro v5 w5 ho5 hg5 hv5) | (at_builtin; refine wpList_append_kd (d := kDeed) rfl (.tmp 33) (.tmp 35) _ rfl Try.underlying33 _ 24 infoDeed rfl (by decide) (by decide) rfl (ho4.belowAll (bal2' w4 _ _)) _ _ rfl (Row.one_at (e := 63) (w4.heap.size + 1) (isDeed_K (S := fun _ => False) (⟨3, d.a, 7⟩) ⟨by first | exact hd4.1 | (unfold i64; dsimp only; omega), by first | exact hd4.2.1 | (unfold i64; dsimp only; omega), by first | exact hd4.2.2 | (unfold i64; dsimp only; omega)⟩) (by simp)) (fun k hk e => by have := ho4.blk k e.symm; rcases hk with hk | hk; exact hk; omega) (by simp; omega) (by simp; have := hk5.size; omega) ?_; intro v5 w5 ho5 hg5 hv5) | (at_builtin; refine wpList_append_kd (d := kDeed) rfl (.tmp 33) (.tmp 35) _ rfl Try.underlying33 _ 24 infoDeed rfl (by decide) (by decide) rfl (ho4.belowAll (bal2' w4 _ _)) _ _ rfl (Row.one_at (e := 63) (w4.heap.size + 1) (isDeed_K (S := fun _ => False) (d) ⟨by first | exact hd4.1 | (unfold i64; dsimp only; omega), by first | exact hd4.2.1 | (unfold i64; dsimp only; omega), by first | exact hd4.2.2 | (unfold i64; dsimp only; omega)⟩) (by simp)) (fun k hk e => by have := ho4.blk k e.symm; rcases hk with hk | hk; exact hk; omega) (by simp; omega) (by simp; have := hk5.size; omega) ?_; intro v5 w5 ho5 hg5 hv5))
      all_goals
        have h54 := hk5.size
        have hu := ho4.above
        have hR4 := hR4.out
        exact ⟨⟨ds ++ [_], k, rfl, ho5.snoc (fun k hk => by rcases hk with hk | hk; exact hk.elim; omega) (by simp; omega), by simp; omega, (hR4.below (bal2' w4 _ _)).app (v := u5) hg5 (fun k hk => by have := hu k hk; omega), ((hk5.alloc _).alloc _).app (v := u5) hg5 hu⟩, by simp [intOf]⟩
    · have hk0 : k = 0 := by omega
      subst hk0
      go_wp2
      go_ret
      exact ⟨_, rfl, ho.newRow (by omega), hRr.less (by omega), hkr⟩
end Go.Proofs.Ytcpabkfoalhldaa
