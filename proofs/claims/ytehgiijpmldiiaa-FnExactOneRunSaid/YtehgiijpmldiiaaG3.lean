/- Draws: a change is drawn. -/
import Derived.Test.YtehgiijpmldiiaaG2
import Derived.Test.YtehgiijpmldiiaaC1
namespace Go.Proofs.Ytehgiijpmldiiaa
open Go.RowKit
set_option linter.unusedVariables false
set_option linter.unusedSimpArgs false

theorem infoDeed : (Try.prog.info? 142).map (fun i => (i.zero, i.size, i.bytes)) = some (some (.agg #[.int .i64 0, .int .i64 0, .int .i64 0]), 3, 24) := by kernel_rfl
theorem infoAct : (Try.prog.info? 34).map (fun i => (i.zero, i.size, i.bytes)) = some (some (.agg #[.int .i64 0, .slice none 0 0, .slice none 0 0, .int .i64 0]), 4, 64) := by kernel_rfl
theorem infoActS : (Try.prog.info? 31).map (fun i => (i.zero, i.size, i.bytes)) = some (some (.slice none 0 0), 1, 24) := by kernel_rfl

/-- A row, at most M long, in new memory. -/
def newRow {α : Type} (d : Kd α) (M B : Nat) (v : Value) (w' : World) : Prop := ∃ (xs : List α) (A : Option Addr) (c : Nat), v = .slice A xs.length c ∧ xs.length ≤ c ∧ xs.length ≤ M ∧ Row d w' (fun k => B ≤ k) A xs

/-- A row laid in a new block. -/
theorem Row.laid {α : Type} {d : Kd α} {e : Nat} {w : World} {S : Nat → Prop} {xs : List α} (cs : Array Value) (hs : S w.heap.size) (hm : xs.length ≤ 9223372036854775807)
    (h : ∀ j x, xs[j]? = some x → ∃ c, d.K w S x c ∧ ∀ i u, c[i]? = some u → cs[j * d.sz + i]? = some u) : Row d (w.alloc (.cells cs e)) S (some ⟨w.heap.size, 0, none⟩) xs := by
  refine ⟨hm, fun _ => ⟨_, rfl, hs, by simp, fun j x hj => ?_⟩⟩
  obtain ⟨c, hk, hc⟩ := h j x hj
  refine ⟨c, Kd.belowAll hk ((Below.refl _ _).alloc (Nat.le_refl _) _), fun i u hu => ?_⟩
  have := World.news_of_block (w := w.alloc (.cells cs e)) (B := w.heap.size) (cs := cs) (t := e) (fr := (0, 0)) (heap_alloc_new w _) (j * d.sz + i) u (by simpa using hc i u hu)
  exact this
theorem isDeed_K {w : World} {S : Nat → Prop} (d : Deed) (h : i64 d.kind ∧ i64 d.a ∧ i64 d.b) : kDeed.K w S d [.int .i64 d.kind, .int .i64 d.a, .int .i64 d.b] := kDeed_mk w S d h.1 h.2.1 h.2.2
theorem four_deeds (w : World) (S : Nat → Prop) (hs : S w.heap.size) (e : Nat) (c y : Int) (hc : i64 c) (hy : i64 y) :
    Row kDeed (w.alloc (.cells #[.int .i64 1, .int .i64 0, .int .i64 c, .int .i64 3, .int .i64 1, .int .i64 y, .int .i64 4, .int .i64 0, .int .i64 1, .int .i64 2, .int .i64 c, .int .i64 0] e)) S (some ⟨w.heap.size, 0, none⟩) [⟨1, 0, c⟩, ⟨3, 1, y⟩, ⟨4, 0, 1⟩, ⟨2, c, 0⟩] := by
  have z : ∀ n : Int, 0 ≤ n → n ≤ 10 → i64 n := fun n h1 h2 => by unfold i64; omega
  refine Row.laid _ hs (by simp) fun j x hj => ?_
  match j with
  | 0 => injection hj with hj; subst hj; refine ⟨_, isDeed_K _ ⟨z _ (by simp) (by simp), z _ (by simp) (by simp), hc⟩, fun i u hu => ?_⟩; match i with | 0 | 1 | 2 => exact hu | i + 3 => simp at hu
  | 1 => injection hj with hj; subst hj; refine ⟨_, isDeed_K _ ⟨z _ (by simp) (by simp), z _ (by simp) (by simp), hy⟩, fun i u hu => ?_⟩; match i with | 0 | 1 | 2 => exact hu | i + 3 => simp at hu
  | 2 => injection hj with hj; subst hj; refine ⟨_, isDeed_K _ ⟨z _ (by simp) (by simp), z _ (by simp) (by simp), z _ (by simp) (by simp)⟩, fun i u hu => ?_⟩; match i with | 0 | 1 | 2 => exact hu | i + 3 => simp at hu
  | 3 => injection hj with hj; subst hj; refine ⟨_, isDeed_K _ ⟨z _ (by simp) (by simp), hc, z _ (by simp) (by simp)⟩, fun i u hu => ?_⟩; match i with | 0 | 1 | 2 => exact hu | i + 3 => simp at hu
  | j + 4 => simp at hj

/-- A row that the call makes, as it grows: one appended. -/
theorem Own.snoc {α : Type} {d : Kd α} {e : Nat} {w w' : World} {B : Nat} {v' : Value} {xs : List α} {S2 : Nat → Prop} {x : α} (h : Own d e w' B (fun k => B ≤ k ∨ S2 k ∨ k = w.heap.size) v' (xs ++ [x])) (h2 : ∀ k, S2 k → B ≤ k) (hb : B ≤ w.heap.size) : Own d e w' B (fun k => B ≤ k) v' (xs ++ [x]) :=
  h.mono fun k hk => by
    rcases hk with hk | hk | hk
    · exact hk
    · exact h2 k hk
    · omega
theorem Keep.app {T : Nat → Prop} {w w1 w2 : World} {v : Value} (h : Keep T w w1) (hg : w1.grownBy w2 v.ownBlock) (hv : ∀ k, v.ownBlock = some k → w.heap.size ≤ k) : Keep T w w2 :=
  h.then_ (T' := fun k => v.ownBlock = some k) (Keep.of_grown hg fun k hk => hk) fun i hi hk => by have := hv i hk; omega
theorem RdAt.app {w1 w2 : World} {g : Nat} {S : Nat → Prop} {A : Option Addr} {c : Nat} {bs : List Int} {f : Nat} {v : Value} (h : RdAt w1 g S A c bs f) (hg : w1.grownBy w2 v.ownBlock) (hv : ∀ k, v.ownBlock = some k → g < k) : RdAt w2 g S A c bs f :=
  h.keep (T := fun k => v.ownBlock = some k) (Keep.of_grown hg fun k hk => hk) (fun hk => by have := hv g hk; omega) (fun k hs _ hk => by have := hv k hk; have := h.ne k hs; omega)
theorem Own.above {α : Type} {d : Kd α} {e : Nat} {w : World} {B : Nat} {S : Nat → Prop} {v : Value} {xs : List α} (h : Own d e w B S v xs) : ∀ k, v.ownBlock = some k → B ≤ k := fun k hk => (h.blk k hk).1
theorem Own.newRow {α : Type} {d : Kd α} {e : Nat} {w : World} {B M : Nat} {v : Value} {xs : List α} (h : Own d e w B (fun k => B ≤ k) v xs) (hm : xs.length ≤ M) : newRow d M B v w := by
  obtain ⟨A, c, rfl, hc, hr⟩ := h.row
  exact ⟨xs, A, c, rfl, hc, hm, hr⟩
theorem below_g {w w' : World} {g : Nat} {T : Nat → Prop} (h : Keep T w w') (hg : g < w.heap.size) : g < w'.heap.size := Nat.lt_of_lt_of_le hg h.size

set_option maxHeartbeats 4000000 in
set_option maxRecDepth 100000 in
theorem l71Deeds_calls (cells : Int) (w : World) (g : Nat) (S : Nat → Prop) (A : Option Addr) (c : Nat) (bs : List Int) (f : Nat) (hR : RdAt w g S A c bs (f + 20)) (h0 : 1 ≤ cells) (hc : cells ≤ 1000) :
    Calls Try.prog 89 #[.pointer (some ⟨g, 0, none⟩), .int .i64 cells] w (Drew (newRow kDeed 5 w.heap.size) w g S A c bs f) := by
  have hgl := hR.lt
  have hd : decide ((0 : Int) < cells) = true := decide_eq_true (by omega)
  go_enter Try.func89, Try.ntmps89
  go_wp2_with (first | (go_at_call 57; refine (pick_calls _ _ _ _ _ _ _ _ hR (by omega)).mono ?_; rintro e w1 ⟨x, rfl, hx0, hx1, hR1, hk1⟩; clear hR) | (go_at_call 57; refine (pick_calls _ _ _ _ _ _ _ _ hR1 (by omega)).mono ?_; rintro e w2 ⟨y, rfl, hy0, hy1, hR2, hk⟩; have hk2 := Keep.trans hk1 hk; clear hk hR1) | (go_at_call 57; refine (pick_calls _ _ _ _ _ _ _ _ hR2 (by omega)).mono ?_; rintro e w3 ⟨z, rfl, hz0, hz1, hR3, hk⟩; have hk3 := Keep.trans hk2 hk; clear hk hR2) | (go_at_call 57; refine (pick_calls _ _ _ _ _ _ _ _ (hR1.below (w' := w1.alloc _) (by repeat (first | exact Below.refl _ _ | (refine Below.alloc ?_ (by simp) _) | (refine Below.setCell ?_ (by simp) _) | (refine below_drewN' ?_ _) | (refine Below.drew ?_)))) (by omega)).mono ?_; rintro e w2 ⟨n, rfl, hn0, hn1, hR2, hk⟩; have ho2 := Own.step (Own.empty_ kDeed 142 w1 w.heap.size (fun k => w.heap.size ≤ k) hk1.size hk1.size) (fun k hs hl => hk.block k hl (by omega)); have hk2 := Keep.trans (hk1.alloc _) hk; clear hk hR1 hk1))
  · go_ret
    exact ⟨_, rfl, ⟨_, _, 4, rfl, by simp, by simp, four_deeds _ _ hk3.size _ _ _ (by unfold i64; omega) (by unfold i64; omega)⟩, (hR3.below (by repeat (first | exact Below.refl _ _ | (refine Below.alloc ?_ (by simp) _) | (refine Below.setCell ?_ (by simp) _) | (refine below_drewN' ?_ _) | (refine Below.drew ?_)))).less (by omega), hk3.alloc _⟩
  · obtain ⟨m, rfl⟩ := Int.eq_ofNat_of_zero_le hn0
    have hR3 := Lib.hid (hR2.less (f' := f + 3 * (1 + m)) (by omega))
    have hm5 : 1 + m ≤ 5 := by omega
    have hws := hk2.size
    clear hR2 hn0 hn1 hx0 hx1
    obtain ⟨wo, rfl⟩ : ∃ wo, wo = w := ⟨_, rfl⟩
    go_loopw [6, 7] (fun v n wr => ∃ (ds : List Deed) (k : Nat), n = .int .i64 k ∧ Own kDeed 142 wr wo.heap.size (fun k => wo.heap.size ≤ k) v ds ∧ ds.length + k ≤ 5 ∧ RdAt wr g S A c bs (f + 3 * k) ∧ Keep (fun k => k = g) wo wr) (fun _ n _ => (intOf n).toNat)
    case atStart => exact ⟨[], 1 + m, by go_num, ho2, by simpa using hm5, hR3.out, hk2⟩
    case round =>
      obtain ⟨ds, k, rfl, ho, hl, hRr, hkr⟩ := hrel
      have hwr := hkr.size
      by_cases hlt : 0 < k
      · obtain ⟨k, rfl⟩ : ∃ j, k = j + 1 := ⟨k - 1, by omega⟩
        have hRs := Lib.hid (hRr.less (f' := f + 3 * k + 3) (by omega))
        clear hRr hlt
        go_wp2_with (first | (go_at_call 116; refine (l71Deed_calls _ _ _ _ _ _ _ _ hRs.out (by omega) (by omega)).mono ?_; rintro e w4 ⟨_, rfl, ⟨d, rfl, hd4⟩, hR4, hk4⟩; have ho4 := ho.step (fun k hs hl => hk4.block k hl (by omega)); have hk5 := Keep.trans hkr hk4; clear hk4 ho hkr) | (at_builtin; refine wpList_append_kd (d := kDeed) rfl (.tmp 36) (.tmp 40) _ rfl Try.underlying32 _ 24 infoDeed rfl (by decide) (by decide) rfl (ho4.belowAll (w' := w4.alloc _) (by repeat (first | exact Below.refl _ _ | (refine Below.alloc ?_ (by simp) _) | (refine Below.setCell ?_ (by simp) _) | (refine below_drewN' ?_ _) | (refine Below.drew ?_)))) _ _ rfl (Row.one_ (e := 142) (isDeed_K (w := w4) (S := fun _ => False) d hd4)) (fun k hk e => by have := ho4.blk k e.symm; rcases hk with hk | hk; exact hk; omega) (by simp; omega) (by simp; have := hk5.size; omega) ?_; intro v5 w5 ho5 hg5 hv5))
        have h54 := hk5.size
        have hu := ho4.above
        exact ⟨⟨ds ++ [d], k, rfl, ho5.snoc (fun k hk => by rcases hk with hk | hk; exact hk.elim; omega) (by simp; omega), by simp; omega, (hR4.below (by repeat (first | exact Below.refl _ _ | (refine Below.alloc ?_ (by simp) _) | (refine Below.setCell ?_ (by simp) _) | (refine below_drewN' ?_ _) | (refine Below.drew ?_)))).app (v := u6) hg5 (fun k hk => by have := hu k hk; omega), (hk5.alloc _).app (v := u6) hg5 hu⟩, by simp [intOf]⟩
      · have hk0 : k = 0 := by omega
        subst hk0
        go_wp2
        go_ret
        exact ⟨_, rfl, ho.newRow (by omega), hRr.less (by omega), hkr⟩
end Go.Proofs.Ytehgiijpmldiiaa
