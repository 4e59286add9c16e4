/- The program's deeds at a desk. -/
import Derived.Test.YtehgiijpmldiiaaB1
import Derived.Test.YtehgiijpmldiiaaLib4
import Derived.Test.YtehgiijpmldiiaaM2
import Derived.StillTailTactics
namespace Go.Proofs.Ytehgiijpmldiiaa
open Go.RowKit
set_option linter.unusedVariables false
set_option linter.unusedSimpArgs false

/-- A desk at block g: rows of cells, and of registers, of the call's own. -/
structure DeskAt (w : World) (base g : Nat) (vc vr : Value) (c r : List Int) : Prop where
  c0 : w.cell? ⟨g, 0, none⟩ = some vc
  c1 : w.cell? ⟨g, 1, none⟩ = some vr
  C : OwnI 3 w base vc c
  R : OwnI 3 w base vr r
  gc : ∀ k, vc.ownBlock = some k → k ≠ g ∧ vr.ownBlock ≠ some k
  gr : ∀ k, vr.ownBlock = some k → k ≠ g
  lt : g < w.heap.size
theorem DeskAt.keep {w w' : World} {base g : Nat} {vc vr : Value} {c r : List Int} {T : Nat → Prop} (h : DeskAt w base g vc vr c r) (hk : Keep T w w') (hg : ¬ T g) (hc : ∀ k, vc.ownBlock = some k → ¬ T k) (hr : ∀ k, vr.ownBlock = some k → ¬ T k) : DeskAt w' base g vc vr c r :=
  ⟨(hk.cell (p := ⟨g, 0, none⟩) h.lt hg).trans h.c0, (hk.cell (p := ⟨g, 1, none⟩) h.lt hg).trans h.c1, h.C.keep hk hc, h.R.keep hk hr, h.gc, h.gr, Nat.lt_of_lt_of_le h.lt hk.size⟩
theorem DeskAt.setR {w : World} {base g gr : Nat} {vc : Value} {c r : List Int} {cap : Nat} (h : DeskAt w base g vc (.slice (some ⟨gr, 0, none⟩) r.length cap) c r) {j : Nat} (hj : j < r.length) (n : Int) (hn : isI n) :
    DeskAt (w.setCell ⟨gr, j, none⟩ (.int .i64 n)) base g vc (.slice (some ⟨gr, 0, none⟩) r.length cap) c (r.set j n) := by
  have hgr := h.gr gr rfl
  refine ⟨?_, ?_, h.C.far (fun k hk e => (h.gc k hk).2 (by rw [e]; rfl)) _, h.R.set_ hj n hn, h.gc, h.gr, by simpa [World.setCell] using h.lt⟩
  · exact (World.cell?_of_block (w := w) (Below.heap_setCell w _ _ g (fun e => hgr e.symm))).trans h.c0
  · exact (World.cell?_of_block (w := w) (Below.heap_setCell w _ _ g (fun e => hgr e.symm))).trans h.c1
theorem DeskAt.setC {w : World} {base g gc : Nat} {vr : Value} {c r : List Int} {cap : Nat} (h : DeskAt w base g (.slice (some ⟨gc, 0, none⟩) c.length cap) vr c r) {j : Nat} (hj : j < c.length) (n : Int) (hn : isI n) :
    DeskAt (w.setCell ⟨gc, j, none⟩ (.int .i64 n)) base g (.slice (some ⟨gc, 0, none⟩) c.length cap) vr (c.set j n) r := by
  have hgc := (h.gc gc rfl)
  refine ⟨?_, ?_, h.C.set_ hj n hn, h.R.far (fun k hk e => hgc.2 (by rw [hk, e])) _, h.gc, h.gr, by simpa [World.setCell] using h.lt⟩
  · exact (World.cell?_of_block (w := w) (Below.heap_setCell w _ _ g (fun e => hgc.1 e.symm))).trans h.c0
  · exact (World.cell?_of_block (w := w) (Below.heap_setCell w _ _ g (fun e => hgc.1 e.symm))).trans h.c1

/-- What a deed leaves at the desk. -/
def Did (res : Option (List Int × List Int)) (w : World) (base g : Nat) (vc vr : Value) (c r : List Int) (e : Ending) (w' : World) : Prop :=
  Keep (fun k => vc.ownBlock = some k ∨ vr.ownBlock = some k) w w' ∧ match res with
  | none => e = .returned (.bool false) ∧ DeskAt w' base g vc vr c r
  | some cr => e = .returned (.bool true) ∧ DeskAt w' base g vc vr cr.1 cr.2

section
variable {w : World} {base g : Nat} {vc vr : Value} {c r : List Int} {n : Nat}
set_option maxHeartbeats 1000000 in
set_option maxRecDepth 100000 in
theorem does2 (h : DeskAt w base g vc vr c r) (hd : Desk n (c, r)) (a b : Int) (ha : 0 ≤ a ∧ a ≤ 2) (hb : 0 ≤ b ∧ b ≤ (n : Int) - 1) (hn : n ≤ 3) :
    Calls Try.prog 122 #[.pointer (some ⟨g, 0, none⟩), .agg #[.int .i64 1, .int .i64 a, .int .i64 b]] w (Did (doDeed (c, r) ⟨1, a, b⟩) w base g vc vr c r) := by
  have hcl : c.length = n := hd.cl
  have hrl : r.length = 3 := hd.rl
  obtain ⟨x, rfl⟩ := Int.eq_ofNat_of_zero_le ha.1
  obtain ⟨y, rfl⟩ := Int.eq_ofNat_of_zero_le hb.1
  have hxl : x < r.length := by omega
  have hyl : y < c.length := by omega
  obtain ⟨gr, cr, hvr, hgr1, hgr2⟩ := h.R.place (by omega)
  obtain ⟨gc, cc, hvc, hgc1, hgc2⟩ := h.C.place (by omega)
  subst hvr; subst hvc
  have hdd : doDeed (c, r) ⟨1, (x : Int), (y : Int)⟩ = some (c, r.set x c[y]) := by simp [doDeed, rdI, hyl]
  rw [hdd]
  have hcI := h.C.all y hyl
  have hkw : ∀ o, Keep (fun k => some gc = some k ∨ some gr = some k) w (w.alloc o) := fun o => (Keep.refl _ _).alloc o
  have h2 : ∀ o, DeskAt (w.alloc o) base g _ _ c r := fun o => h.keep (T := fun _ => False) ((Keep.refl _ _).alloc o) (fun h => h) (fun _ _ h => h) (fun _ _ h => h)
  clear hdd hd
  go_enter Try.func122, Try.ntmps122
  go_wp2
  obtain ⟨W2, HW⟩ : ∃ W2, W2 = w.alloc (Obj.cells #[.int .i64 1, .int .i64 (x : Nat), .int .i64 (y : Nat)] 142) := ⟨_, rfl⟩
  have hk2 := hkw (Obj.cells #[.int .i64 1, .int .i64 (x : Nat), .int .i64 (y : Nat)] 142)
  have hd2 := h2 (Obj.cells #[.int .i64 1, .int .i64 (x : Nat), .int .i64 (y : Nat)] 142)
  rw [← HW] at hk2 hd2 ⊢
  have d0 : W2.cell? ⟨w.heap.size, 0, none⟩ = some (.int .i64 1) := by rw [HW]; simp [go_sem]
  have d1 : W2.cell? ⟨w.heap.size, 1, none⟩ = some (.int .i64 (x : Nat)) := by rw [HW]; simp [go_sem]
  have d2 : W2.cell? ⟨w.heap.size, 2, none⟩ = some (.int .i64 (y : Nat)) := by rw [HW]; simp [go_sem]
  have e0 := hd2.c0
  have e1 := hd2.c1
  obtain ⟨f0, f1⟩ := hd2.C.cell hyl
  obtain ⟨f2, f3⟩ := hd2.R.cell hxl
  clear HW hkw h2
  have x1 : (x : Int) < r.length := by omega
  have x2 : (0 : Int) ≤ x := by omega
  have y1 : (y : Int) < c.length := by omega
  have y2 : (0 : Int) ≤ y := by omega
  have HRL := Lib.hid hrl; have HCL := Lib.hid hcl
  clear hrl hcl
  go_still_tail 15, (by kernel_rfl)
  go_wp2
  go_ret
  refine ⟨(hk2.drewN 1).setCell (fun _ => .inr rfl) _, rfl, ?_⟩
  exact (hd2.keep (T := fun _ => False) ((Keep.refl _ _).drewN 1) (fun h => h) (fun _ _ h => h) (fun _ _ h => h)).setR hxl _ hcI
set_option maxHeartbeats 1000000 in
set_option maxRecDepth 100000 in
theorem does3 (h : DeskAt w base g vc vr c r) (hd : Desk n (c, r)) (a b : Int) (ha : 0 ≤ a ∧ a ≤ (n : Int) - 1) (hb : 0 ≤ b ∧ b ≤ 2) (hn : n ≤ 3) :
    Calls Try.prog 123 #[.pointer (some ⟨g, 0, none⟩), .agg #[.int .i64 2, .int .i64 a, .int .i64 b]] w (Did (doDeed (c, r) ⟨2, a, b⟩) w base g vc vr c r) := by
  have hcl : c.length = n := hd.cl
  have hrl : r.length = 3 := hd.rl
  obtain ⟨x, rfl⟩ := Int.eq_ofNat_of_zero_le ha.1
  obtain ⟨y, rfl⟩ := Int.eq_ofNat_of_zero_le hb.1
  have hxl : x < c.length := by omega
  have hyl : y < r.length := by omega
  obtain ⟨gr, cr, hvr, hgr1, hgr2⟩ := h.R.place (by omega)
  obtain ⟨gc, cc, hvc, hgc1, hgc2⟩ := h.C.place (by omega)
  subst hvr; subst hvc
  have hdd : doDeed (c, r) ⟨2, (x : Int), (y : Int)⟩ = some (c.set x r[y], r) := by simp [doDeed, rdI, hyl]
  rw [hdd]
  have hcI := h.R.all y hyl
  have hkw : ∀ o, Keep (fun k => some gc = some k ∨ some gr = some k) w (w.alloc o) := fun o => (Keep.refl _ _).alloc o
  have h2 : ∀ o, DeskAt (w.alloc o) base g _ _ c r := fun o => h.keep (T := fun _ => False) ((Keep.refl _ _).alloc o) (fun h => h) (fun _ _ h => h) (fun _ _ h => h)
  clear hdd hd
  go_enter Try.func123, Try.ntmps123
  go_wp2
  obtain ⟨W2, HW⟩ : ∃ W2, W2 = w.alloc (Obj.cells #[.int .i64 2, .int .i64 (x : Nat), .int .i64 (y : Nat)] 142) := ⟨_, rfl⟩
  have hk2 := hkw (Obj.cells #[.int .i64 2, .int .i64 (x : Nat), .int .i64 (y : Nat)] 142)
  have hd2 := h2 (Obj.cells #[.int .i64 2, .int .i64 (x : Nat), .int .i64 (y : Nat)] 142)
  rw [← HW] at hk2 hd2 ⊢
  have d0 : W2.cell? ⟨w.heap.size, 0, none⟩ = some (.int .i64 2) := by rw [HW]; simp [go_sem]
  have d1 : W2.cell? ⟨w.heap.size, 1, none⟩ = some (.int .i64 (x : Nat)) := by rw [HW]; simp [go_sem]
  have d2 : W2.cell? ⟨w.heap.size, 2, none⟩ = some (.int .i64 (y : Nat)) := by rw [HW]; simp [go_sem]
  have e0 := hd2.c0
  have e1 := hd2.c1
  obtain ⟨f0, f1⟩ := hd2.C.cell hxl
  obtain ⟨f2, f3⟩ := hd2.R.cell hyl
  clear HW hkw h2
  have x1 : (x : Int) < c.length := by omega
  have x2 : (0 : Int) ≤ x := by omega
  have y1 : (y : Int) < r.length := by omega
  have y2 : (0 : Int) ≤ y := by omega
  have HRL := Lib.hid hrl; have HCL := Lib.hid hcl
  clear hrl hcl
  go_still_tail 15, (by kernel_rfl)
  go_wp2
  go_ret
  refine ⟨(hk2.drewN 1).setCell (fun _ => .inl rfl) _, rfl, ?_⟩
  exact (hd2.keep (T := fun _ => False) ((Keep.refl _ _).drewN 1) (fun h => h) (fun _ _ h => h) (fun _ _ h => h)).setC hxl _ hcI
set_option maxHeartbeats 1000000 in
set_option maxRecDepth 100000 in
theorem does4 (h : DeskAt w base g vc vr c r) (hd : Desk n (c, r)) (a b : Int) (ha : 0 ≤ a ∧ a ≤ 2) (hb : 0 ≤ b ∧ b ≤ 99) (hn : n ≤ 3) :
    Calls Try.prog 124 #[.pointer (some ⟨g, 0, none⟩), .agg #[.int .i64 3, .int .i64 a, .int .i64 b]] w (Did (doDeed (c, r) ⟨3, a, b⟩) w base g vc vr c r) := by
  have hcl : c.length = n := hd.cl
  have hrl : r.length = 3 := hd.rl
  obtain ⟨x, rfl⟩ := Int.eq_ofNat_of_zero_le ha.1
  obtain ⟨y, rfl⟩ := Int.eq_ofNat_of_zero_le hb.1
  have hxl : x < r.length := by omega
  obtain ⟨gr, cr, hvr, hgr1, hgr2⟩ := h.R.place (by omega)
  subst hvr
  have hdd : doDeed (c, r) ⟨3, (x : Int), (y : Int)⟩ = some (c, r.set x (y : Int)) := by simp [doDeed]
  rw [hdd]
  have hcI : isI (y : Int) := by unfold isI; omega
  have hkw : ∀ o, Keep (fun k => vc.ownBlock = some k ∨ some gr = some k) w (w.alloc o) := fun o => (Keep.refl _ _).alloc o
  have h2 : ∀ o, DeskAt (w.alloc o) base g _ _ c r := fun o => h.keep (T := fun _ => False) ((Keep.refl _ _).alloc o) (fun h => h) (fun _ _ h => h) (fun _ _ h => h)
  clear hdd hd
  go_enter Try.func124, Try.ntmps124
  go_wp2
  obtain ⟨W2, HW⟩ : ∃ W2, W2 = w.alloc (Obj.cells #[.int .i64 3, .int .i64 (x : Nat), .int .i64 (y : Nat)] 142) := ⟨_, rfl⟩
  have hk2 := hkw (Obj.cells #[.int .i64 3, .int .i64 (x : Nat), .int .i64 (y : Nat)] 142)
  have hd2 := h2 (Obj.cells #[.int .i64 3, .int .i64 (x : Nat), .int .i64 (y : Nat)] 142)
  rw [← HW] at hk2 hd2 ⊢
  have d0 : W2.cell? ⟨w.heap.size, 0, none⟩ = some (.int .i64 3) := by rw [HW]; simp [go_sem]
  have d1 : W2.cell? ⟨w.heap.size, 1, none⟩ = some (.int .i64 (x : Nat)) := by rw [HW]; simp [go_sem]
  have d2 : W2.cell? ⟨w.heap.size, 2, none⟩ = some (.int .i64 (y : Nat)) := by rw [HW]; simp [go_sem]
  have e0 := hd2.c0
  have e1 := hd2.c1
  obtain ⟨f2, f3⟩ := hd2.R.cell hxl
  clear HW hkw h2
  have x1 : (x : Int) < r.length := by omega
  have x2 : (0 : Int) ≤ x := by omega
  have y2 : (0 : Int) ≤ y := by omega
  have HRL := Lib.hid hrl; have HCL := Lib.hid hcl
  clear hrl hcl
  go_still_tail 8, (by kernel_rfl)
  go_wp2
  go_ret
  refine ⟨(hk2.drewN 1).setCell (fun _ => .inr rfl) _, rfl, ?_⟩
  exact (hd2.keep (T := fun _ => False) ((Keep.refl _ _).drewN 1) (fun h => h) (fun _ _ h => h) (fun _ _ h => h)).setR hxl _ hcI
set_option maxHeartbeats 1000000 in
set_option maxRecDepth 100000 in
theorem does5 (h : DeskAt w base g vc vr c r) (hd : Desk n (c, r)) (a b : Int) (ha : 0 ≤ a ∧ a ≤ 2) (hb : 0 ≤ b ∧ b ≤ 2) (hn : n ≤ 3) :
    Calls Try.prog 125 #[.pointer (some ⟨g, 0, none⟩), .agg #[.int .i64 4, .int .i64 a, .int .i64 b]] w (Did (doDeed (c, r) ⟨4, a, b⟩) w base g vc vr c r) := by
  have hcl : c.length = n := hd.cl
  have hrl : r.length = 3 := hd.rl
  obtain ⟨x, rfl⟩ := Int.eq_ofNat_of_zero_le ha.1
  obtain ⟨y, rfl⟩ := Int.eq_ofNat_of_zero_le hb.1
  have hxl : x < r.length := by omega
  have hyl : y < r.length := by omega
  obtain ⟨gr, cr, hvr, hgr1, hgr2⟩ := h.R.place (by omega)
  subst hvr
  have hdd : doDeed (c, r) ⟨4, (x : Int), (y : Int)⟩ = some (c, r.set x ((r[x] + r[y]) % 100)) := by simp [doDeed, rdI, hyl, hxl]
  rw [hdd]
  have hr1 : 0 ≤ r[x] ∧ r[x] ≤ 99 := numsOk_get hd.r x hxl
  have hr2 : 0 ≤ r[y] ∧ r[y] ≤ 99 := numsOk_get hd.r y hyl
  have hcI : isI ((r[x] + r[y]) % 100) := by unfold isI; omega
  have e4 : IntKind.i64.wrap (r[x] + r[y]) = r[x] + r[y] := IntWalk.i64_in _ (by omega)
  have e5 : 0 ≤ r[x] + r[y] := by omega
  have hkw : ∀ o, Keep (fun k => vc.ownBlock = some k ∨ some gr = some k) w (w.alloc o) := fun o => (Keep.refl _ _).alloc o
  have h2 : ∀ o, DeskAt (w.alloc o) base g _ _ c r := fun o => h.keep (T := fun _ => False) ((Keep.refl _ _).alloc o) (fun h => h) (fun _ _ h => h) (fun _ _ h => h)
  clear hdd hd
  go_enter Try.func125, Try.ntmps125
  go_wp2
  obtain ⟨W2, HW⟩ : ∃ W2, W2 = w.alloc (Obj.cells #[.int .i64 4, .int .i64 (x : Nat), .int .i64 (y : Nat)] 142) := ⟨_, rfl⟩
  have hk2 := hkw (Obj.cells #[.int .i64 4, .int .i64 (x : Nat), .int .i64 (y : Nat)] 142)
  have hd2 := h2 (Obj.cells #[.int .i64 4, .int .i64 (x : Nat), .int .i64 (y : Nat)] 142)
  rw [← HW] at hk2 hd2 ⊢
  have d0 : W2.cell? ⟨w.heap.size, 0, none⟩ = some (.int .i64 4) := by rw [HW]; simp [go_sem]
  have d1 : W2.cell? ⟨w.heap.size, 1, none⟩ = some (.int .i64 (x : Nat)) := by rw [HW]; simp [go_sem]
  have d2 : W2.cell? ⟨w.heap.size, 2, none⟩ = some (.int .i64 (y : Nat)) := by rw [HW]; simp [go_sem]
  have e0 := hd2.c0
  have e1 := hd2.c1
  obtain ⟨f0, f1⟩ := hd2.R.cell hyl
  obtain ⟨f2, f3⟩ := hd2.R.cell hxl
  clear HW hkw h2
  have x1 : (x : Int) < r.length := by omega
  have x2 : (0 : Int) ≤ x := by omega
  have y1 : (y : Int) < r.length := by omega
  have y2 : (0 : Int) ≤ y := by omega
  have HRL := Lib.hid hrl; have HCL := Lib.hid hcl
  clear hrl hcl
  go_still_tail 25, (by kernel_rfl)
  go_wp2
  go_ret
  refine ⟨(hk2.drewN 1).setCell (fun _ => .inr rfl) _, rfl, ?_⟩
  exact (hd2.keep (T := fun _ => False) ((Keep.refl _ _).drewN 1) (fun h => h) (fun _ _ h => h) (fun _ _ h => h)).setR hxl _ hcI
set_option maxHeartbeats 1000000 in
set_option maxRecDepth 100000 in
theorem does6 (h : DeskAt w base g vc vr c r) (hd : Desk n (c, r)) (a : Int) (ha : 0 ≤ a ∧ a ≤ 2) (hn : n ≤ 3) :
    Calls Try.prog 126 #[.pointer (some ⟨g, 0, none⟩), .agg #[.int .i64 5, .int .i64 a, .int .i64 0]] w (Did (doDeed (c, r) ⟨5, a, 0⟩) w base g vc vr c r) := by
  have hrl : r.length = 3 := hd.rl
  obtain ⟨x, rfl⟩ := Int.eq_ofNat_of_zero_le ha.1
  have hxl : x < r.length := by omega
  obtain ⟨gr, cr, hvr, hgr1, hgr2⟩ := h.R.place (by omega)
  subst hvr
  have hkw : ∀ o, Keep (fun k => vc.ownBlock = some k ∨ some gr = some k) w (w.alloc o) := fun o => (Keep.refl _ _).alloc o
  have h2 : ∀ o, DeskAt (w.alloc o) base g _ _ c r := fun o => h.keep (T := fun _ => False) ((Keep.refl _ _).alloc o) (fun h => h) (fun _ _ h => h) (fun _ _ h => h)
  by_cases h0 : r[x] = 0
  · have hdd : doDeed (c, r) ⟨5, (x : Int), 0⟩ = none := by simp [doDeed, rdI, hxl, h0]
    rw [hdd]
    have hbn : (r[x] != 0) = false := by simp [h0]
    clear hdd hd h0
    go_enter Try.func126, Try.ntmps126
    go_wp2
    obtain ⟨W2, HW⟩ : ∃ W2, W2 = w.alloc (Obj.cells #[.int .i64 5, .int .i64 (x : Nat), .int .i64 0] 142) := ⟨_, rfl⟩
    have hk2 := hkw (Obj.cells #[.int .i64 5, .int .i64 (x : Nat), .int .i64 0] 142)
    have hd2 := h2 (Obj.cells #[.int .i64 5, .int .i64 (x : Nat), .int .i64 0] 142)
    rw [← HW] at hk2 hd2 ⊢
    have d1 : W2.cell? ⟨w.heap.size, 1, none⟩ = some (.int .i64 (x : Nat)) := by rw [HW]; simp [go_sem]
    have e0 := hd2.c0
    have e1 := hd2.c1
    obtain ⟨f2, f3⟩ := hd2.R.cell hxl
    clear HW hkw h2
    have x1 : (x : Int) < r.length := by omega
    have x2 : (0 : Int) ≤ x := by omega
    have HRL := Lib.hid hrl
    clear hrl
    go_quiet (fail)
    go_wp2
    go_ret
    exact ⟨hk2.drewN _, rfl, hd2.keep (T := fun _ => False) ((Keep.refl _ _).drewN _) (fun h => h) (fun _ _ h => h) (fun _ _ h => h)⟩
  · have hdd : doDeed (c, r) ⟨5, (x : Int), 0⟩ = some (c, r) := by simp [doDeed, rdI, hxl, h0]
    rw [hdd]
    have hbn : (r[x] != 0) = true := by simp [h0]
    clear hdd hd h0
    go_enter Try.func126, Try.ntmps126
    go_wp2
    obtain ⟨W2, HW⟩ : ∃ W2, W2 = w.alloc (Obj.cells #[.int .i64 5, .int .i64 (x : Nat), .int .i64 0] 142) := ⟨_, rfl⟩
    have hk2 := hkw (Obj.cells #[.int .i64 5, .int .i64 (x : Nat), .int .i64 0] 142)
    have hd2 := h2 (Obj.cells #[.int .i64 5, .int .i64 (x : Nat), .int .i64 0] 142)
    rw [← HW] at hk2 hd2 ⊢
    have d1 : W2.cell? ⟨w.heap.size, 1, none⟩ = some (.int .i64 (x : Nat)) := by rw [HW]; simp [go_sem]
    have e0 := hd2.c0
    have e1 := hd2.c1
    obtain ⟨f2, f3⟩ := hd2.R.cell hxl
    clear HW hkw h2
    have x1 : (x : Int) < r.length := by omega
    have x2 : (0 : Int) ≤ x := by omega
    have HRL := Lib.hid hrl
    clear hrl
    go_quiet (fail)
    go_wp2
    go_ret
    exact ⟨hk2.drewN _, rfl, hd2.keep (T := fun _ => False) ((Keep.refl _ _).drewN _) (fun h => h) (fun _ _ h => h) (fun _ _ h => h)⟩
end
end Go.Proofs.Ytehgiijpmldiiaa
