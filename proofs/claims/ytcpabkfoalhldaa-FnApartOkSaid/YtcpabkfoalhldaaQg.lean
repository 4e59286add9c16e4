/- Draws: a body is drawn. -/
import Derived.Test.YtcpabkfoalhldaaQf
namespace Go.Proofs.Ytcpabkfoalhldaa
open Go.RowKit
set_option linter.unusedVariables false
set_option linter.unusedSimpArgs false

/-- One element, laid in a new block of the call's own. -/
theorem Own.one_ {α : Type} {d : Kd α} {e : Nat} {w : World} {B : Nat} {S : Nat → Prop} {x : α} {cs : List Value} (h : d.K w S x cs) (hb : B ≤ w.heap.size) (hS : S w.heap.size) : Own d e (w.alloc (.cells cs.toArray e)) B S (.slice (some ⟨w.heap.size, 0, none⟩) 1 1) [x] := by
  have hl := d.len h
  refine own_intro [cs] ⟨by simp [hl], .inr ⟨w.heap.size, 1, cs.toArray, rfl, hb, heap_alloc_new w _, Nat.le_refl _, by simp [_root_.Go.maxLen], by simp [← hl], by simp [← hl]⟩⟩ rfl (fun k hk => by simp [Value.ownBlock] at hk; rw [← hk]; exact hS) (fun j y hj => ?_)
  have hj0 : j = 0 := by
    have := (List.getElem?_eq_some_iff.1 hj).1
    simp at this; exact this
  subst hj0
  simp at hj
  subst hj
  refine ⟨cs, rfl, d.mono (fun k hk => ⟨hk.1, fun e => ?_⟩) (Kd.belowAll (w' := w.alloc (.cells cs.toArray e)) (d.bound h) ((Below.refl _ _).alloc (Nat.le_refl _) _))⟩
  injection e with e
  have := hk.2
  have e' : k = w.heap.size := e
  omega

/-- Midway: a reader, a row of the call's own that grows; what was made since wr lies past it. -/
structure Mid {α : Type} (d : Kd α) (e : Nat) (wo wr w : World) (g : Nat) (S : Nat → Prop) (A : Option Addr) (c : Nat) (bs : List Int) (f : Nat) (v : Value) (xs : List α) : Prop where
  R : RdAt w g S A c bs f
  k : Keep (fun k => k = g) wo w
  o : Own d e w wo.heap.size (fun k => wo.heap.size ≤ k ∧ k < wr.heap.size) v xs
  sz : wr.heap.size ≤ w.heap.size
  gl : g < wo.heap.size
  ol : wo.heap.size ≤ wr.heap.size
section
variable {α : Type} {d : Kd α} {e : Nat} {wo wr w w' : World} {g : Nat} {S : Nat → Prop} {A : Option Addr} {c : Nat} {bs : List Int} {f f' : Nat} {v v' : Value} {xs : List α} {x : α}
theorem Mid.start (h1 : RdAt w g S A c bs f) (h2 : Keep (fun k => k = g) wo w) (h3 : Own d e w wo.heap.size (fun k => wo.heap.size ≤ k) v xs) (h4 : g < wo.heap.size) : Mid d e wo w w g S A c bs f v xs :=
  ⟨h1, h2, h3.bound, Nat.le_refl _, h4, h2.size⟩
theorem Mid.less (h : Mid d e wo wr w g S A c bs f v xs) (hf : f' ≤ f) : Mid d e wo wr w g S A c bs f' v xs := ⟨h.R.less hf, h.k, h.o, h.sz, h.gl, h.ol⟩
theorem Mid.pick (h : Mid d e wo wr w g S A c bs f v xs) (hR : RdAt w' g S A c bs f') (hk : Keep (fun k => k = g) w w') : Mid d e wo wr w' g S A c bs f' v xs :=
  ⟨hR, h.k.trans hk, h.o.step (fun k hs hl => hk.block k hl (by have := h.gl; omega)), Nat.le_trans h.sz hk.size, h.gl, h.ol⟩
theorem Mid.below (h : Mid d e wo wr w g S A c bs f v xs) (hk : Below w.heap.size w w') : Mid d e wo wr w' g S A c bs f v xs := h.pick (h.R.below hk) (Keep.of_belowAll _ hk)
theorem Mid.al (h : Mid d e wo wr w g S A c bs f v xs) (o : Obj) : Mid d e wo wr (w.alloc o) g S A c bs f v xs := h.below ((Below.refl _ _).alloc (Nat.le_refl _) _)
theorem Mid.grown (h : Mid d e wo wr w g S A c bs f v xs) {row : Option Nat} (hg : w.grownBy w' row) (hr : ∀ k, row = some k → wr.heap.size ≤ k) : Mid d e wo wr w' g S A c bs f v xs :=
  have hk : Keep (fun k => row = some k) w w' := Keep.of_grown hg fun k hk => hk
  have hT : ∀ k, k < wr.heap.size → ¬ row = some k := fun k hl e => by have := hr _ e; omega
  ⟨h.R.keep hk (hT g (Nat.lt_of_lt_of_le h.gl h.ol)) (fun k hs _ => hT k (by have := h.gl; have := h.ol; have := h.R.ne k hs; omega)),
   h.k.then_ hk (fun i hi e => absurd e (hT i (Nat.lt_of_lt_of_le hi h.ol))), h.o.step (fun k hs hl => hk.block k hl (hT k hs.2)), Nat.le_trans h.sz hg.size, h.gl, h.ol⟩
theorem Mid.far (h : Mid d e wo wr w g S A c bs f v xs) : ∀ k, (wr.heap.size ≤ k ∨ k = w.heap.size) → some k ≠ v.ownBlock := fun k hk e => by
  have := h.o.blk k e.symm
  have := h.sz
  omega
theorem Mid.snoc (h : Mid d e wo wr w g S A c bs f v xs) {n : Nat} (ho : Own d e w' wo.heap.size (fun k => (wo.heap.size ≤ k ∧ k < wr.heap.size) ∨ (wr.heap.size ≤ k ∨ k = n) ∨ k = w.heap.size) v' (xs ++ [x])) (hn : wo.heap.size ≤ n) (hg : w.grownBy w' v.ownBlock) :
    RdAt w' g S A c bs f ∧ Keep (fun k => k = g) wo w' ∧ Own d e w' wo.heap.size (fun k => wo.heap.size ≤ k) v' (xs ++ [x]) :=
  ⟨h.R.app hg (fun k hk => by have := h.o.above k hk; have := h.gl; omega), h.k.app hg h.o.above, ho.mono fun k hk => by have := h.ol; have := h.sz; omega⟩
end

def act0 (k : Int) : Act := ⟨k, [], [], 0⟩
theorem act_K {w : World} {S : Nat → Prop} (k r : Int) (hk : i64 k) (hr : i64 r) : kAct.K w S ⟨k, [], [], r⟩ [.int .i64 k, .slice none 0 0, .slice none 0 0, .int .i64 r] :=
  kAct_mk (w := w) (S := S) (A := none) (B := none) (c := 0) (e := 0) ⟨k, [], [], r⟩ (by simp) (by simp) (Row.nil _ _ _ _) (Row.nil _ _ _ _) hk hr
theorem act_K_kids {w : World} {S : Nat → Prop} (kids : List Int) {B : Option Addr} {e : Nat} (he : kids.length ≤ e) (hB : Row Kd.int w S B kids) : kAct.K w S ⟨2, [], kids, 0⟩ [.int .i64 2, .slice none 0 0, .slice B kids.length e, .int .i64 0] :=
  kAct_mk (w := w) (S := S) (A := none) (B := B) (c := 0) (e := e) ⟨2, [], kids, 0⟩ (by simp) he (Row.nil _ _ _ _) hB (by unfold i64; simp) (by unfold i64; simp)
theorem act_K_deeds {w : World} {S : Nat → Prop} (ds : List Deed) {A : Option Addr} {c : Nat} (hc : ds.length ≤ c) (hA : Row kDeed w S A ds) : kAct.K w S ⟨1, ds, [], 0⟩ [.int .i64 1, .slice A ds.length c, .slice none 0 0, .int .i64 0] :=
  kAct_mk (w := w) (S := S) (A := A) (B := none) (c := c) (e := 0) ⟨1, ds, [], 0⟩ hc (by simp) hA (Row.nil _ _ _ _) (by unfold i64; simp) (by unfold i64; simp)

set_option maxHeartbeats 8000000 in
set_option maxRecDepth 100000 in
theorem l71Body_calls (body bodies cells : Int) (w : World) (g : Nat) (S : Nat → Prop) (A : Option Addr) (c : Nat) (bs : List Int) (f : Nat) (hR : RdAt w g S A c bs (f + 100)) (h0 : 1 ≤ cells) (hc : cells ≤ 1000) (hb0 : 0 ≤ body) (hb1 : body < bodies) (hb2 : bodies ≤ 1000) :
    Calls Try.prog 101 #[.pointer (some ⟨g, 0, none⟩), .int .i64 body, .int .i64 bodies, .int .i64 cells] w (Drew (newRow kAct 3 w.heap.size) w g S A c bs f) := by
  have hgl := hR.lt
  obtain ⟨wo, rfl⟩ : ∃ wo, wo = w := ⟨_, rfl⟩
  go_enter Try.func101, Try.ntmps101
  go_wp2_with (go_at_call 49; refine (pick_calls _ _ _ _ _ _ _ _ (hR.below (w' := wo.alloc _) (by repeat (first | exact Below.refl _ _ | (refine Below.alloc ?_ (by simp) _) | (refine Below.setCell ?_ (by simp) _) | (refine below_drewN' ?_ _) | (refine Below.drew ?_)))) (by omega)).mono ?_; rintro e w2 ⟨n, rfl, hn0, hn1, hR2, hk⟩; have ho2 := Own.step (Own.empty_ kAct 35 wo wo.heap.size (fun k => wo.heap.size ≤ k) (Nat.le_refl _) (Nat.le_refl _)) (fun k hs hl => hk.block k hl (by omega)); have hk2 := Keep.trans ((Keep.refl _ wo).alloc _) hk; clear hk hR)
  obtain ⟨m, rfl⟩ := Int.eq_ofNat_of_zero_le hn0
  have hR3 := Lib.hid (hR2.less (f' := f + 25 * (1 + m)) (by omega))
  have hm5 : 1 + m ≤ 3 := by omega
  clear hR2 hn0 hn1
  go_loopw [9, 10, 11] (fun v n _ wr => ∃ (acts : List Act) (k : Nat), n = .int .i64 k ∧ Own kAct 35 wr wo.heap.size (fun k => wo.heap.size ≤ k) v acts ∧ acts.length + k ≤ 3 ∧ RdAt wr g S A c bs (f + 25 * k) ∧ Keep (fun k => k = g) wo wr) (fun _ n _ _ => (intOf n).toNat)
  case atStart => exact ⟨[], 1 + m, by go_num, ho2, by simpa using hm5, hR3.out, hk2⟩
  case round =>
    obtain ⟨acts, k, rfl, ho, hl, hRr, hkr⟩ := hrel
    have hwr := hkr.size
    by_cases hlt : 0 < k
    · obtain ⟨k, rfl⟩ : ∃ j, k = j + 1 := ⟨k - 1, by omega⟩
      have hM := Mid.start (hRr.less (f' := f + 25 * k + 25) (by omega)) hkr ho hgl
      clear hRr hlt ho hkr ho2 hk2 hR3 hm5
      go_wp2_with (first | (go_at_call 49; refine (pick_calls _ _ _ _ _ _ _ _ hM.R (by omega)).mono ?_; rintro e w3 ⟨x, rfl, hx0, hx1, hRn, hk⟩; have hM3 := hM.pick hRn hk; clear hRn hk hM) | (go_at_call 49; refine (pick_calls _ _ _ _ _ _ _ _ hM3.R (by omega)).mono ?_; rintro e w4 ⟨y, rfl, hy0, hy1, hRn, hk⟩; have hM4 := hM3.pick hRn hk; clear hRn hk hM3) | (go_at_call 49; refine (pick_calls _ _ _ _ _ _ _ _ (hM4.R.below (w' := w4.alloc _) (by repeat (first | exact Below.refl _ _ | (refine Below.alloc ?_ (by simp) _) | (refine Below.setCell ?_ (by simp) _) | (refine below_drewN' ?_ _) | (refine Below.drew ?_)))) (by omega)).mono ?_; rintro e w5 ⟨z, rfl, hz0, hz1, hRn, hk⟩; have hM5 := (hM4.al _).pick hRn hk; have hKo := (Own.one_ (d := Kd.int) (e := 3) (w := w4) (B := wr.heap.size) (S := (fun k => wr.heap.size ≤ k)) (x := body + 1 + y) ⟨rfl, by omega, by omega⟩ hM4.sz hM4.sz).step (fun k hs hl => hk.block k hl (by have := hM5.gl; have := hM5.ol; omega)); have hKr := (Row.mono (S' := (fun k => wr.heap.size ≤ k)) (fun k hk => by have := hM4.sz; rcases hk with hk | hk; exact hk.elim; omega) (Row.one_ (d := Kd.int) (e := 3) (w := w4) (S := fun _ => False) (x := body + 1 + y) ⟨rfl, by omega, by omega⟩)).keep hk (fun k hs _ e => by have := hM5.gl; have := hM5.ol; omega); clear hRn hk hM4) | (go_at_call 49; refine (pick_calls _ _ _ _ _ _ _ _ hM5.R (by omega)).mono ?_; rintro e w6 ⟨t, rfl, ht0, ht1, hRn, hk⟩; have hM6 := hM5.pick hRn hk; have hKo6 := hKo.step (fun k hs hl => hk.block k hl (by have := hM6.gl; have := hM6.ol; omega)); clear hRn hk hM5 hKo hKr) | (at_builtin; refine wpList_append_kd (d := Kd.int) rfl (.tmp 68) (.tmp 78) _ rfl Try.underlying23 _ 8 infoInt rfl (by decide) (by decide) rfl (hKo6.belowAll (w' := w6.alloc _) (by repeat (first | exact Below.refl _ _ | (refine Below.alloc ?_ (by simp) _) | (refine Below.setCell ?_ (by simp) _) | (refine below_drewN' ?_ _) | (refine Below.drew ?_)))) _ _ rfl (Row.one_ (d := Kd.int) (e := 3) (w := w6) (S := fun _ => False) (x := body + 1 + t) ⟨rfl, by omega, by omega⟩) (fun k hk e => by have := hKo6.blk k e.symm; rcases hk with hk | hk; exact hk; omega) (by simp) (by have := hM6.sz; simp; omega) ?_; intro v7 w7 hK7 hg7 hv7; have hM7 := (hM6.al _).grown hg7 (fun k hk => (hKo6.blk k hk).1); obtain ⟨K, ck, rfl, hck, hKr⟩ := hK7.row; have hKs := Row.mono (S' := (fun k => wr.heap.size ≤ k)) (fun k hk => by have := hM6.sz; rcases hk with hk | hk | hk; exact hk; rcases hk with hk | hk; exact hk.elim; omega; simp at hk; omega) hKr; clear hM6 hKo6 hKr) | (at_builtin; refine wpList_append_kd (d := kAct) rfl (.tmp 80) (.tmp 83) _ rfl Try.underlying32 _ 64 infoAct rfl (by decide) (by decide) rfl (hM7.al _).o _ _ rfl (Row.one_ (e := 35) (act_K_kids (w := w7) [body + 1 + y, body + 1 + t] hck hKs)) (fun k hk => hM7.far k hk) (by simp; omega) (by have := hM7.k.size; simp; omega) ?_; intro v9 w9 ho9 hg9 hv9; obtain ⟨hR9, hk9, ho9⟩ := (hM7.al _).snoc ho9 hM7.k.size hg9) | (at_builtin; refine wpList_append_kd (d := kAct) rfl (.tmp 80) (.tmp 83) _ rfl Try.underlying32 _ 64 infoAct rfl (by decide) (by decide) rfl (hM5.al _).o _ _ rfl (Row.one_ (e := 35) (act_K_kids (w := w5) [body + 1 + y] (Nat.le_refl _) hKr)) (fun k hk => hM5.far k hk) (by simp; omega) (by have := hM5.k.size; simp; omega) ?_; intro v9 w9 ho9 hg9 hv9; obtain ⟨hR9, hk9, ho9⟩ := (hM5.al _).snoc ho9 hM5.k.size hg9) | (at_builtin; refine wpList_append_kd (d := kAct) rfl (.tmp 34) (.tmp 36) _ rfl Try.underlying32 _ 64 infoAct rfl (by decide) (by decide) rfl (hM4.al _).o _ _ rfl (Row.one_ (e := 35) (act_K (w := w4) (S := (fun k => wr.heap.size ≤ k)) 3 0 (by unfold i64; omega) (by unfold i64; omega))) (fun k hk => hM4.far k hk) (by simp; omega) (by have := hM4.k.size; simp; omega) ?_; intro v9 w9 ho9 hg9 hv9; obtain ⟨hR9, hk9, ho9⟩ := (hM4.al _).snoc ho9 hM4.k.size hg9) | (at_builtin; refine wpList_append_kd (d := kAct) rfl (.tmp 40) (.tmp 44) _ rfl Try.underlying32 _ 64 infoAct rfl (by decide) (by decide) rfl (hM4.al _).o _ _ rfl (Row.one_ (e := 35) (act_K (w := w4) (S := (fun k => wr.heap.size ≤ k)) 4 y (by unfold i64; omega) (by unfold i64; omega))) (fun k hk => hM4.far k hk) (by simp; omega) (by have := hM4.k.size; simp; omega) ?_; intro v9 w9 ho9 hg9 hv9; obtain ⟨hR9, hk9, ho9⟩ := (hM4.al _).snoc ho9 hM4.k.size hg9) | (go_at_call 79; refine (l71Deeds_calls _ _ _ _ _ _ _ _ hM3.R (by omega) (by omega)).mono ?_; rintro e w4 ⟨_, rfl, ⟨ds, D, cd, rfl, hcd, hdl, hrd⟩, hRn, hk⟩; have hM4 := hM3.pick hRn hk; have hrs := hrd.mono (S' := (fun k => wr.heap.size ≤ k)) (fun k hk => Nat.le_trans hM3.sz hk); clear hRn hk hM3 hrd) | (at_builtin; refine wpList_append_kd (d := kAct) rfl (.tmp 22) (.tmp 27) _ rfl Try.underlying32 _ 64 infoAct rfl (by decide) (by decide) rfl (hM4.al _).o _ _ rfl (Row.one_ (e := 35) (act_K_deeds (w := w4) ds hcd hrs)) (fun k hk => hM4.far k hk) (by simp; omega) (by have := hM4.k.size; simp; omega) ?_; intro v9 w9 ho9 hg9 hv9; obtain ⟨hR9, hk9, ho9⟩ := (hM4.al _).snoc ho9 hM4.k.size hg9))
      all_goals first | exact ⟨⟨_, k, rfl, ho9, by simp; omega, hR9.less (by omega), hk9⟩, by simp [intOf]⟩ | exact ⟨⟨_, k, rfl, hM4.o.mono (fun k hk => hk.1), by omega, hM4.R.less (by omega), hM4.k⟩, by simp [intOf]⟩ | exact ⟨⟨_, k, rfl, hM3.o.mono (fun k hk => hk.1), by omega, hM3.R.less (by omega), hM3.k⟩, by simp [intOf]⟩
    · have hk0 : k = 0 := by omega
      subst hk0
      go_wp2
      go_ret
      exact ⟨_, rfl, ho.newRow (by omega), hRr.less (by omega), hkr⟩
end Go.Proofs.Ytcpabkfoalhldaa
