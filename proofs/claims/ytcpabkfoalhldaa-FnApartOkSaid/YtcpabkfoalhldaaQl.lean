/- Draws: a program whose tasks are apart, mostly. -/
import Derived.Deep.RegionHeld3
import Derived.Deep.Cut
import Derived.Deep.RegionLaw
import Derived.Deep.DrawnRows
import Derived.Test.YtcpabkfoalhldaaQk
namespace Go.Proofs.Ytcpabkfoalhldaa
open Go.RowKit
set_option linter.unusedVariables false
set_option linter.unusedSimpArgs false
attribute [local go_sem ↓] Go.wp_at_zero Go.wp_at_succ

theorem ownI_three (w : World) (base : Nat) (hb : base ≤ w.heap.size) {x y z : Int} (hx : isI x) (hy : isI y) (hz : isI z) : OwnI 3 (w.alloc (.cells #[.int .i64 x, .int .i64 y, .int .i64 z] 3)) base (.slice (some ⟨w.heap.size, 0, none⟩) 3 3) [x, y, z] := by
  refine own_intro [[.int .i64 x], [.int .i64 y], [.int .i64 z]] ⟨rfl, .inr ⟨w.heap.size, 3, _, rfl, hb, heap_alloc_new w _, Nat.le_refl _, by simp [maxLen], rfl, rfl⟩⟩ rfl (fun k hk => hk) (fun j u hj => ?_)
  have hj3 : j < 3 := (List.getElem?_eq_some_iff.1 hj).1
  have : j = 0 ∨ j = 1 ∨ j = 2 := by omega
  rcases this with rfl | rfl | rfl
  · simp at hj; subst hj; exact ⟨_, rfl, rfl, hx⟩
  · simp at hj; subst hj; exact ⟨_, rfl, rfl, hy⟩
  · simp at hj; subst hj; exact ⟨_, rfl, rfl, hz⟩

theorem row_deed_act (w : World) {B : Nat} {x : Int} (hB : B ≤ w.heap.size) (hx : i64 x) :
    Row kAct ((w.alloc (.cells #[.int .i64 1, .int .i64 x, .int .i64 2] 63)).alloc (.cells #[.int .i64 1, .slice (some ⟨w.heap.size, 0, none⟩) 1 1, .slice none 0 0, .int .i64 0] 35)) (fun k => B ≤ k) (some ⟨w.heap.size + 1, 0, none⟩) [⟨1, [⟨1, x, 2⟩], [], 0⟩] := by
  have h1 : Row kDeed (w.alloc (.cells #[.int .i64 1, .int .i64 x, .int .i64 2] 63)) (fun k => B ≤ k) (some ⟨w.heap.size, 0, none⟩) [⟨1, x, 2⟩] := (Row.one_ (S := fun _ => False) (isDeed_K ⟨1, x, 2⟩ ⟨show i64 1 by unfold i64; omega, hx, show i64 2 by unfold i64; omega⟩)).mono fun k hk => by rcases hk with hk | hk; exact hk.elim; omega
  have h2 := heap_alloc_new (w.alloc (.cells #[.int .i64 1, .int .i64 x, .int .i64 2] 63)) (.cells #[.int .i64 1, .slice (some ⟨w.heap.size, 0, none⟩) 1 1, .slice none 0 0, .int .i64 0] 35)
  exact row_acts1 (by simpa using h2) (by omega) (act_K_deeds [⟨1, x, 2⟩] (Nat.le_refl _) (h1.belowAll (bal (Below.refl _ _) _)))
theorem own_rowAt {α : Type} {d : Kd α} {e : Nat} {w : World} {B : Nat} {S : Nat → Prop} {A : Option Addr} {n c : Nat} {xs : List α} (h : Own d e w B S (.slice A n c) xs) : Row d w S A xs := by
  obtain ⟨A', c', e1, _, hr⟩ := Own.row h
  injection e1 with e1 _ _
  subst e1; exact hr
theorem Drew.bent {ok : Prog → Prop} {B : Nat} {wo w' : World} {g : Nat} {S : Nat → Prop} {A : Option Addr} {c : Nat} {bs : List Int} {f : Nat} {e : Ending} (h : Drew (newProg ok B) wo g S A c bs f e w') : Drew (BentIn (fun k => B ≤ k)) wo g S A c bs f e w' := by
  obtain ⟨v, rfl, ⟨p, C, D, cc, cd, rfl, h1, h2, h3, h4, _⟩, hR, hk⟩ := h
  exact ⟨_, rfl, ⟨p, C, D, cc, cd, rfl, h1, h2, h3, h4⟩, hR, hk⟩
theorem PAt.doneBent {wo w : World} {g : Nat} {S : Nat → Prop} {A : Option Addr} {c : Nat} {bs : List Int} {f b2 bp n m : Nat} {C D : Option Addr} {cc cd : Nat} {cs : List Int} {bds : List (List Act)} (h : PAt wo w g S A c bs f b2 bp (.slice C n cc) (.slice D m cd) cs bds) (hn : n = cs.length) (hm : m = bds.length) (u1 u2 : Value) :
    Drew (BentIn (fun k => wo.heap.size ≤ k)) wo g S A c bs f (.returned (.agg #[.slice C n cc, .slice D m cd])) ((w.setCell ⟨b2, 0, none⟩ u1).setCell ⟨b2, 1, none⟩ u2) := by
  subst hn; subst hm; exact Drew.bent (PAt.done h u1 u2 (fun _ => True) trivial)
theorem row_two_acts (w : World) {B : Nat} {ds : List Deed} {K D : Option Addr} {cd : Nat} (hB : B ≤ w.heap.size) (hk : Row Kd.int w (fun k => B ≤ k) K [1, 2]) (hc : ds.length ≤ cd) (hd : Row kDeed w (fun k => B ≤ k) D ds) :
    Row kAct (w.alloc (.cells #[.int .i64 2, .slice none 0 0, .slice K 2 2, .int .i64 0, .int .i64 1, .slice D ds.length cd, .slice none 0 0, .int .i64 0] 35)) (fun k => B ≤ k) (some ⟨w.heap.size, 0, none⟩) [⟨2, [], [1, 2], 0⟩, ⟨1, ds, [], 0⟩] :=
  row_acts2 (heap_alloc_new w _) hB (act_K_kids [1, 2] (Nat.le_refl _) (hk.belowAll (bal (Below.refl _ _) _))) (act_K_deeds ds hc (hd.belowAll (bal (Below.refl _ _) _)))
theorem row_two_kids (w : World) {B : Nat} {ds : List Deed} {D : Option Addr} {cd : Nat} (hB : B ≤ w.heap.size) (hc : ds.length ≤ cd) (hd : Row kDeed w (fun k => B ≤ k) D ds) :
    Row kAct ((w.alloc (.cells #[.int .i64 1, .int .i64 2] 3)).alloc (.cells #[.int .i64 2, .slice none 0 0, .slice (some ⟨w.heap.size, 0, none⟩) 2 2, .int .i64 0, .int .i64 1, .slice D ds.length cd, .slice none 0 0, .int .i64 0] 35)) (fun k => B ≤ k) (some ⟨w.heap.size + 1, 0, none⟩) [⟨2, [], [1, 2], 0⟩, ⟨1, ds, [], 0⟩] := by
  have := row_two_acts (w.alloc (.cells #[.int .i64 1, .int .i64 2] 3)) (B := B) (by simp; omega) (row_two (heap_alloc_new w _) hB (by unfold i64; omega) (by unfold i64; omega)) hc (hd.belowAll (bal (Below.refl _ _) _))
  simpa using this

set_option maxHeartbeats 16000000 in
set_option maxRecDepth 100000 in
theorem l71Apart_calls (w : World) (g : Nat) (S : Nat → Prop) (A : Option Addr) (c : Nat) (bs : List Int) (f : Nat) (hR : RdAt w g S A c bs (f + 1000)) :
    Calls Try.prog 51 #[.pointer (some ⟨g, 0, none⟩)] w (Drew (BentIn (fun k => w.heap.size ≤ k)) w g S A c bs f) := by
  have hgl := hR.lt
  obtain ⟨wo, rfl⟩ : ∃ wo, wo = w := ⟨_, rfl⟩
  have hR0 := fun o => (hR.below (w' := wo.alloc o) (by repeat (first | exact Below.refl _ _ | (refine Below.alloc ?_ (by simp) _) | (refine Below.setCell ?_ (by simp) _) | (refine below_drewN' ?_ _) | (refine Below.drew ?_)))).less (f' := f + 997 + 3) (by omega)
  have hz0 := heap_alloc_new wo (.cells #[.slice none 0 0, .slice none 0 0] 26)
  have hk0 : Keep (fun k => k = g) wo (wo.alloc (.cells #[.slice none 0 0, .slice none 0 0] 26)) := (Keep.refl _ _).alloc _
  have hs0 : (wo.alloc (.cells #[.slice none 0 0, .slice none 0 0] 26)).heap.size = wo.heap.size + 1 := by simp
  clear hR
  have tok1 : True := trivial
  have tok2 : True := trivial
  have tok3 : True := trivial
  go_enter Try.func51, Try.ntmps51
  go_wp2_with (first | (go_at_call 49; have _t := tok1; refine (pick_calls _ _ _ _ _ _ _ (f + 999) (hR0 _) (by omega)).mono ?_; rintro e w1 ⟨x, rfl, hx0, hx1, hR1, hk1⟩; have hz1 := hk1.blk hz0 (by omega); have hk1 := hk0.trans hk1; clear tok1 hR0) | (go_at_call 49; have _t := tok2; refine (pick_calls _ _ _ _ _ _ _ (f + 998) hR1 (by omega)).mono ?_; rintro e w2 ⟨y, rfl, hy0, hy1, hR2, hk2⟩; have hz2 := hk2.blk hz1 (by omega); have hk2 := hk1.trans hk2; clear tok2 hR1) | (go_at_call 49; have _t := tok3; refine (pick_calls _ _ _ _ _ _ _ (f + 997) hR2 (by omega)).mono ?_; rintro e w3 ⟨z, rfl, hzz0, hzz1, hR3, hk3⟩; have hz3 := hk3.blk hz2 (by omega); have hk3 := hk2.trans hk3; clear tok3 hR2))
  have hl3 := (Array.getElem?_eq_some_iff.1 hz3).1
  obtain ⟨W, HW⟩ : ∃ W, W = (w3.alloc (.cells #[.int .i64 x, .int .i64 y, .int .i64 z] 3)).alloc (.cells #[.slice (some ⟨w3.heap.size, 0, none⟩) 3 3, .slice none 0 0] 26) := ⟨_, rfl⟩
  have hP0 : PAt wo W g S A c bs (f + 997) wo.heap.size (w3.heap.size + 1) (.slice (some ⟨w3.heap.size, 0, none⟩) 3 3) (.slice none 0 0) [x, y, z] [] := by
    subst HW
    refine ⟨(hR3.below (bal (bal (Below.refl _ _) _) _)).less (by omega), (hk3.alloc _).alloc _, ((bal (bal (Below.refl _ w3) _) _).block _ hl3).trans hz3, ?_, (ownI_three w3 _ (by omega) (by unfold isI; omega) (by unfold isI; omega) (by unfold isI; omega)).al _, Own.nil _ _ _ _ _, Nat.le_refl _, by omega, by omega, fun k hk => ?_, hgl⟩
    · have := heap_alloc_new (w3.alloc (.cells #[.int .i64 x, .int .i64 y, .int .i64 z] 3)) (.cells #[.slice (some ⟨w3.heap.size, 0, none⟩) 3 3, .slice none 0 0] 26)
      simpa using this
    · simp [Value.ownBlock] at hk; omega
  rw [← HW]
  have hWs : w3.heap.size + 2 ≤ W.heap.size := by rw [HW]; simp
  have hl3g := Nat.lt_of_lt_of_le hgl (Nat.le_of_lt hl3)
  generalize hbp : w3.heap.size + 1 = bp at *
  generalize hv3 : Value.slice (some ⟨w3.heap.size, 0, none⟩) 3 3 = vc at *
  clear HW hR3 hk0 hk1 hk2 hk3 hz0 hz1 hz2 hz3 hs0
  have hP0 := hP0.less (f' := f + 970 + 20) (by omega)
  have q1 := hP0.c1
  have hbl0 := (Array.getElem?_eq_some_iff.1 hP0.rp).1
  go_cut [15] from 15 (fun _ wr => ∃ (vb : Value) (bd : List (List Act)), bd.length = 1 ∧ PAt wo wr g S A c bs (f + 700) wo.heap.size bp vc vb [x, y, z] bd)
  case first =>
    refine wp_region_noPanic ?_
    refine wp_region_held_drew (S := (fun w' => True)) (by kernel_rfl) (by (try dsimp only) <;> (trivial)) (fun hHeld => ?_)
    refine wpAnyH_take (i := 0) (v := _) rfl (by kernel_rfl) (by kernel_rfl) (by kernel_rfl) (fun _ _ _ h => h) (Or.inl ⟨by rfl, by (intro w hSw; (try dsimp only at hSw); go_simp <;> with_reducible rfl)⟩) (by assumption) ?_
    (try simp only [List.getElem_toArray, List.getElem_cons_zero, List.getElem_cons_succ, Act.put, List.setIfInBounds_toArray, List.set_cons_zero, List.set_cons_succ])
    refine wpAnyH_take (i := 4) (v := _) rfl (by kernel_rfl) (by kernel_rfl) (by kernel_rfl) (fun _ _ _ h => h) (Or.inl ⟨by rfl, by (intro w hSw; (try dsimp only at hSw); go_simp <;> with_reducible rfl)⟩) (by assumption) ?_
    (try simp only [List.getElem_toArray, List.getElem_cons_zero, List.getElem_cons_succ, Act.put, List.setIfInBounds_toArray, List.set_cons_zero, List.set_cons_succ])
    refine wpAnyH_ready (rs := [1, 2, 5]) (by kernel_rfl) (by simp) ?_
    refine AllReadyH.cons rfl (fun Kq hKq => ?_) ?_
    · (try simp only [List.getElem_toArray, List.getElem_cons_zero, List.getElem_cons_succ])
      refine step_fold (a := ⟨_, _⟩) ?_
      go_simp
      refine hKq.out _ _ (by (try dsimp only) <;> (trivial)) (fun hHeld => ?_)
      clear hKq Kq
      (try simp only [List.getElem_toArray, List.getElem_cons_zero, List.getElem_cons_succ, Act.put, List.setIfInBounds_toArray, List.set_cons_zero, List.set_cons_succ])
      refine wpAnyH_ready (rs := [2, 5]) (by kernel_rfl) (by simp) ?_
      refine AllReadyH.cons rfl (fun Kq hKq => ?_) ?_
      · (try simp only [List.getElem_toArray, List.getElem_cons_zero, List.getElem_cons_succ])
        refine step_fold (a := ⟨_, _⟩) ?_
        go_simp
        refine hKq.out _ _ (by (try dsimp only) <;> (trivial)) (fun hHeld => ?_)
        clear hKq Kq
        (try simp only [List.getElem_toArray, List.getElem_cons_zero, List.getElem_cons_succ, Act.put, List.setIfInBounds_toArray, List.set_cons_zero, List.set_cons_succ])
        refine wpAnyH_take (i := 3) (v := _) rfl (by kernel_rfl) (by kernel_rfl) (by kernel_rfl) (fun _ _ _ h => h) (Or.inl ⟨by rfl, by (intro w hSw; (try dsimp only at hSw); go_simp <;> with_reducible rfl)⟩) (by assumption) ?_
        (try simp only [List.getElem_toArray, List.getElem_cons_zero, List.getElem_cons_succ, Act.put, List.setIfInBounds_toArray, List.set_cons_zero, List.set_cons_succ])
        refine wpAnyH_ready (rs := [5]) (by kernel_rfl) (by simp) ?_
        refine AllReadyH.cons rfl (fun Kq hKq => ?_) ?_
        · (try simp only [List.getElem_toArray, List.getElem_cons_zero, List.getElem_cons_succ])
          refine step_fold (a := ⟨_, _⟩) ?_
          go_simp
          first | (go_at_call 79; refine (l71Deeds_calls _ _ _ _ _ _ _ (f + 970) (PAt.R (PAt.below hP0 (by (repeat' (first | exact Below.refl _ _ | apply Below.drew | (refine bal ?_ _)))))) (by omega) (by omega)).mono ?_; rintro e w6 ⟨_, rfl, ⟨ds, D, cd, rfl, hcd, hdl, hrd⟩, hRn, hk⟩; have hkid : w6.heap[W.heap.size]? = some (.cells #[.int .i64 1, .int .i64 2] 3 (0, 0)) := (hk.blk (heap_alloc_new _ _) (by omega)); have hP1 := PAt.pick (PAt.below hP0 (by (repeat' (first | exact Below.refl _ _ | apply Below.drew | (refine bal ?_ _))))) hRn hk; have q3 := hP1.c1; have hbl1 := (Array.getElem?_eq_some_iff.1 hP1.rp).1; have q41 : ∀ o1, (w6.alloc o1).cell? ⟨bp, 1, none⟩ = some (.slice none 0 0) := (fun o1 => ((bal (Below.refl _ _) o1).cell hbl1).trans q3); have q42 : ∀ o1 o2, ((w6.alloc o1).alloc o2).cell? ⟨bp, 1, none⟩ = some (.slice none 0 0) := (fun o1 o2 => ((bal (bal (Below.refl _ _) o1) o2).cell hbl1).trans q3); have q43 : ∀ o1 o2 o3, (((w6.alloc o1).alloc o2).alloc o3).cell? ⟨bp, 1, none⟩ = some (.slice none 0 0) := (fun o1 o2 o3 => ((bal (bal (bal (Below.refl _ _) o1) o2) o3).cell hbl1).trans q3); have hz6 := hk.size; (try simp at hz6); have hrs := hrd.mono (S' := fun k => W.heap.size ≤ k) (fun k hk => by first | omega | (simp at hk; omega)); have hkids : Row Kd.int w6 (fun k => W.heap.size ≤ k) (some ⟨W.heap.size, 0, none⟩) [1, 2] := row_two hkid (Nat.le_refl _) (by unfold i64; omega) (by unfold i64; omega); have hrow := row_two_acts w6 (B := W.heap.size) (by omega) hkids hcd hrs; clear hRn hk) | (go_at_call 79; refine (l71Deeds_calls _ _ _ _ _ _ _ (f + 970) (PAt.R (PAt.below hP0 (by (repeat' (first | exact Below.refl _ _ | apply Below.drew | (refine bal ?_ _)))))) (by omega) (by omega)).mono ?_; rintro e w6 ⟨_, rfl, ⟨ds, D, cd, rfl, hcd, hdl, hrd⟩, hRn, hk⟩; have hP1 := PAt.pick (PAt.below hP0 (by (repeat' (first | exact Below.refl _ _ | apply Below.drew | (refine bal ?_ _))))) hRn hk; have q3 := hP1.c1; have hbl1 := (Array.getElem?_eq_some_iff.1 hP1.rp).1; have q41 : ∀ o1, (w6.alloc o1).cell? ⟨bp, 1, none⟩ = some (.slice none 0 0) := (fun o1 => ((bal (Below.refl _ _) o1).cell hbl1).trans q3); have q42 : ∀ o1 o2, ((w6.alloc o1).alloc o2).cell? ⟨bp, 1, none⟩ = some (.slice none 0 0) := (fun o1 o2 => ((bal (bal (Below.refl _ _) o1) o2).cell hbl1).trans q3); have q43 : ∀ o1 o2 o3, (((w6.alloc o1).alloc o2).alloc o3).cell? ⟨bp, 1, none⟩ = some (.slice none 0 0) := (fun o1 o2 o3 => ((bal (bal (bal (Below.refl _ _) o1) o2) o3).cell hbl1).trans q3); have hz6 := hk.size; (try simp at hz6); have hrs := hrd.mono (S' := fun k => W.heap.size ≤ k) (fun k hk => by first | omega | (simp at hk; omega)); have hrow := row_two_kids w6 (B := W.heap.size) (by omega) hcd hrs; clear hRn hk)
          refine hKq.out _ _ (by (try dsimp only) <;> (trivial)) (fun hHeld => ?_)
          clear hKq Kq
          (try simp only [List.getElem_toArray, List.getElem_cons_zero, List.getElem_cons_succ, Act.put, List.setIfInBounds_toArray, List.set_cons_zero, List.set_cons_succ])
          refine wpAnyH_take (i := 6) (v := _) rfl (by kernel_rfl) (by kernel_rfl) (by kernel_rfl) (fun _ _ _ h => h) (Or.inl ⟨by rfl, by (intro w hSw; (try dsimp only at hSw); go_simp <;> with_reducible rfl)⟩) (by assumption) ?_
          (try simp only [List.getElem_toArray, List.getElem_cons_zero, List.getElem_cons_succ, Act.put, List.setIfInBounds_toArray, List.set_cons_zero, List.set_cons_succ])
          refine wpAnyH_ready (rs := [7]) (by kernel_rfl) (by simp) ?_
          refine AllReadyH.cons rfl (fun Kq hKq => ?_) ?_
          · (try simp only [List.getElem_toArray, List.getElem_cons_zero, List.getElem_cons_succ])
            refine step_fold (a := ⟨_, _⟩) ?_
            go_simp
            refine hKq.out _ _ (by (try dsimp only) <;> (trivial)) (fun hHeld => ?_)
            clear hKq Kq
            (try simp only [List.getElem_toArray, List.getElem_cons_zero, List.getElem_cons_succ, Act.put, List.setIfInBounds_toArray, List.set_cons_zero, List.set_cons_succ])
            refine wpAnyH_ready (rs := [8]) (by kernel_rfl) (by simp) ?_
            refine AllReadyH.cons rfl (fun Kq hKq => ?_) ?_
            · (try simp only [List.getElem_toArray, List.getElem_cons_zero, List.getElem_cons_succ])
              refine step_fold (a := ⟨_, _⟩) ?_
              go_simp
              refine hKq.out _ _ (by (try dsimp only) <;> (trivial)) (fun hHeld => ?_)
              clear hKq Kq
              (try simp only [List.getElem_toArray, List.getElem_cons_zero, List.getElem_cons_succ, Act.put, List.setIfInBounds_toArray, List.set_cons_zero, List.set_cons_succ])
              refine wpAnyH_ready (rs := [9]) (by kernel_rfl) (by simp) ?_
              refine AllReadyH.cons rfl (fun Kq hKq => ?_) ?_
              · (try simp only [List.getElem_toArray, List.getElem_cons_zero, List.getElem_cons_succ])
                refine step_fold (a := ⟨_, _⟩) ?_
                first | (refine step_append_kd (d := Kd.slice kAct) (by rfl) _ _ _ (by rfl) Try.underlying24 _ 24 infoActS rfl (by decide) (by decide) (by rfl) (Own.belowAll hP1.B (by (repeat' (first | exact Below.refl _ _ | apply Below.drew | (refine bal ?_ _))))) _ _ (by rfl) (Row.one_at (d := Kd.slice kAct) (e := 32) (S := fun k => W.heap.size ≤ k) (x := [⟨2, [], [1, 2], 0⟩, ⟨1, ds, [], 0⟩]) _ ⟨_, 2, rfl, Nat.le_refl _, hrow⟩ (by simp)) (fun k hk e => by cases e) (by simp) (by have := hP1.k.size; simp; omega) ?_; intro v2 w2 ho2 hg2 hv2; have hrp := PAt.rpB (PAt.below hP1 (by (repeat' (first | exact Below.refl _ _ | apply Below.drew | (refine bal ?_ _))))) hg2; have q5 := cell_of_row _ _ 1 _ _ _ hrp; have q6 := frozen_of_row hrp; have hP2 := PAt.setB (PAt.below hP1 (by (repeat' (first | exact Below.refl _ _ | apply Below.drew | (refine bal ?_ _))))) hg2 (ho2.mono (fun k hk => by rcases hk with hk | hk | hk; exact hk; exact hP0.past (by omega); exact hP0.past (by simp at hk; omega))); simp at q5; obtain ⟨Ac, cc, rfl, hcc, hrc⟩ := Own.row ho2; clear hrc) | fail
                refine hKq.out _ _ (by (try dsimp only) <;> (trivial)) (fun hHeld => ?_)
                clear hKq Kq
                (try simp only [List.getElem_toArray, List.getElem_cons_zero, List.getElem_cons_succ, Act.put, List.setIfInBounds_toArray, List.set_cons_zero, List.set_cons_succ])
                refine wpAnyH_take (i := 10) (v := _) rfl (by kernel_rfl) (by kernel_rfl) (by kernel_rfl) (fun _ _ _ h => h) (Or.inl ⟨by rfl, by (intro w hSw; (try dsimp only at hSw); go_simp <;> with_reducible rfl)⟩) (by assumption) ?_
                (try simp only [List.getElem_toArray, List.getElem_cons_zero, List.getElem_cons_succ, Act.put, List.setIfInBounds_toArray, List.set_cons_zero, List.set_cons_succ])
                refine wpAnyH_ready (rs := [11]) (by kernel_rfl) (by simp) ?_
                refine AllReadyH.cons rfl (fun Kq hKq => ?_) ?_
                · (try simp only [List.getElem_toArray, List.getElem_cons_zero, List.getElem_cons_succ])
                  refine step_fold (a := ⟨_, _⟩) ?_
                  go_simp
                  refine hKq.out _ _ (by (try dsimp only) <;> (trivial)) (fun hHeld => ?_)
                  clear hKq Kq
                  (try simp only [List.getElem_toArray, List.getElem_cons_zero, List.getElem_cons_succ, Act.put, List.setIfInBounds_toArray, List.set_cons_zero, List.set_cons_succ])
                  refine wpAnyH_done (by kernel_rfl) ?_ _
                  refine NoPanic.normal ?_
                  have hP3 := hP2.less (f' := f + 700) (by omega)
                  go_wp2
                  go_meet
                  exact ⟨_, _, rfl, hP3⟩
                exact AllReadyH.nil
              exact AllReadyH.nil
            exact AllReadyH.nil
          exact AllReadyH.nil
        exact AllReadyH.nil
      refine AllReadyH.cons rfl (fun Kq hKq => ?_) ?_
      · (try simp only [List.getElem_toArray, List.getElem_cons_zero, List.getElem_cons_succ])
        refine step_fold (a := ⟨_, _⟩) ?_
        go_simp
        first | (go_at_call 79; refine (l71Deeds_calls _ _ _ _ _ _ _ (f + 970) (PAt.R (PAt.below hP0 (by (repeat' (first | exact Below.refl _ _ | apply Below.drew | (refine bal ?_ _)))))) (by omega) (by omega)).mono ?_; rintro e w6 ⟨_, rfl, ⟨ds, D, cd, rfl, hcd, hdl, hrd⟩, hRn, hk⟩; have hkid : w6.heap[W.heap.size]? = some (.cells #[.int .i64 1, .int .i64 2] 3 (0, 0)) := (hk.blk (heap_alloc_new _ _) (by omega)); have hP1 := PAt.pick (PAt.below hP0 (by (repeat' (first | exact Below.refl _ _ | apply Below.drew | (refine bal ?_ _))))) hRn hk; have q3 := hP1.c1; have hbl1 := (Array.getElem?_eq_some_iff.1 hP1.rp).1; have q41 : ∀ o1, (w6.alloc o1).cell? ⟨bp, 1, none⟩ = some (.slice none 0 0) := (fun o1 => ((bal (Below.refl _ _) o1).cell hbl1).trans q3); have q42 : ∀ o1 o2, ((w6.alloc o1).alloc o2).cell? ⟨bp, 1, none⟩ = some (.slice none 0 0) := (fun o1 o2 => ((bal (bal (Below.refl _ _) o1) o2).cell hbl1).trans q3); have q43 : ∀ o1 o2 o3, (((w6.alloc o1).alloc o2).alloc o3).cell? ⟨bp, 1, none⟩ = some (.slice none 0 0) := (fun o1 o2 o3 => ((bal (bal (bal (Below.refl _ _) o1) o2) o3).cell hbl1).trans q3); have hz6 := hk.size; (try simp at hz6); have hrs := hrd.mono (S' := fun k => W.heap.size ≤ k) (fun k hk => by first | omega | (simp at hk; omega)); have hkids : Row Kd.int w6 (fun k => W.heap.size ≤ k) (some ⟨W.heap.size, 0, none⟩) [1, 2] := row_two hkid (Nat.le_refl _) (by unfold i64; omega) (by unfold i64; omega); have hrow := row_two_acts w6 (B := W.heap.size) (by omega) hkids hcd hrs; clear hRn hk) | (go_at_call 79; refine (l71Deeds_calls _ _ _ _ _ _ _ (f + 970) (PAt.R (PAt.below hP0 (by (repeat' (first | exact Below.refl _ _ | apply Below.drew | (refine bal ?_ _)))))) (by omega) (by omega)).mono ?_; rintro e w6 ⟨_, rfl, ⟨ds, D, cd, rfl, hcd, hdl, hrd⟩, hRn, hk⟩; have hP1 := PAt.pick (PAt.below hP0 (by (repeat' (first | exact Below.refl _ _ | apply Below.drew | (refine bal ?_ _))))) hRn hk; have q3 := hP1.c1; have hbl1 := (Array.getElem?_eq_some_iff.1 hP1.rp).1; have q41 : ∀ o1, (w6.alloc o1).cell? ⟨bp, 1, none⟩ = some (.slice none 0 0) := (fun o1 => ((bal (Below.refl _ _) o1).cell hbl1).trans q3); have q42 : ∀ o1 o2, ((w6.alloc o1).alloc o2).cell? ⟨bp, 1, none⟩ = some (.slice none 0 0) := (fun o1 o2 => ((bal (bal (Below.refl _ _) o1) o2).cell hbl1).trans q3); have q43 : ∀ o1 o2 o3, (((w6.alloc o1).alloc o2).alloc o3).cell? ⟨bp, 1, none⟩ = some (.slice none 0 0) := (fun o1 o2 o3 => ((bal (bal (bal (Below.refl _ _) o1) o2) o3).cell hbl1).trans q3); have hz6 := hk.size; (try simp at hz6); have hrs := hrd.mono (S' := fun k => W.heap.size ≤ k) (fun k hk => by first | omega | (simp at hk; omega)); have hrow := row_two_kids w6 (B := W.heap.size) (by omega) hcd hrs; clear hRn hk)
        refine hKq.out _ _ (by (try dsimp only) <;> (trivial)) (fun hHeld => ?_)
        clear hKq Kq
        (try simp only [List.getElem_toArray, List.getElem_cons_zero, List.getElem_cons_succ, Act.put, List.setIfInBounds_toArray, List.set_cons_zero, List.set_cons_succ])
        refine wpAnyH_take (i := 6) (v := _) rfl (by kernel_rfl) (by kernel_rfl) (by kernel_rfl) (fun _ _ _ h => h) (Or.inl ⟨by rfl, by (intro w hSw; (try dsimp only at hSw); go_simp <;> with_reducible rfl)⟩) (by assumption) ?_
        (try simp only [List.getElem_toArray, List.getElem_cons_zero, List.getElem_cons_succ, Act.put, List.setIfInBounds_toArray, List.set_cons_zero, List.set_cons_succ])
        refine wpAnyH_ready (rs := [2]) (by kernel_rfl) (by simp) ?_
        refine AllReadyH.cons rfl (fun Kq hKq => ?_) ?_
        · (try simp only [List.getElem_toArray, List.getElem_cons_zero, List.getElem_cons_succ])
          refine step_fold (a := ⟨_, _⟩) ?_
          go_simp
          refine hKq.out _ _ (by (try dsimp only) <;> (trivial)) (fun hHeld => ?_)
          clear hKq Kq
          (try simp only [List.getElem_toArray, List.getElem_cons_zero, List.getElem_cons_succ, Act.put, List.setIfInBounds_toArray, List.set_cons_zero, List.set_cons_succ])
          refine wpAnyH_take (i := 3) (v := _) rfl (by kernel_rfl) (by kernel_rfl) (by kernel_rfl) (fun _ _ _ h => h) (Or.inl ⟨by rfl, by (intro w hSw; (try dsimp only at hSw); go_simp <;> with_reducible rfl)⟩) (by assumption) ?_
          (try simp only [List.getElem_toArray, List.getElem_cons_zero, List.getElem_cons_succ, Act.put, List.setIfInBounds_toArray, List.set_cons_zero, List.set_cons_succ])
          refine wpAnyH_ready (rs := [7]) (by kernel_rfl) (by simp) ?_
          refine AllReadyH.cons rfl (fun Kq hKq => ?_) ?_
          · (try simp only [List.getElem_toArray, List.getElem_cons_zero, List.getElem_cons_succ])
            refine step_fold (a := ⟨_, _⟩) ?_
            go_simp
            refine hKq.out _ _ (by (try dsimp only) <;> (trivial)) (fun hHeld => ?_)
            clear hKq Kq
            (try simp only [List.getElem_toArray, List.getElem_cons_zero, List.getElem_cons_succ, Act.put, List.setIfInBounds_toArray, List.set_cons_zero, List.set_cons_succ])
            refine wpAnyH_ready (rs := [8]) (by kernel_rfl) (by simp) ?_
            refine AllReadyH.cons rfl (fun Kq hKq => ?_) ?_
            · (try simp only [List.getElem_toArray, List.getElem_cons_zero, List.getElem_cons_succ])
              refine step_fold (a := ⟨_, _⟩) ?_
              go_simp
              refine hKq.out _ _ (by (try dsimp only) <;> (trivial)) (fun hHeld => ?_)
              clear hKq Kq
              (try simp only [List.getElem_toArray, List.getElem_cons_zero, List.getElem_cons_succ, Act.put, List.setIfInBounds_toArray, List.set_cons_zero, List.set_cons_succ])
              refine wpAnyH_ready (rs := [9]) (by kernel_rfl) (by simp) ?_
              refine AllReadyH.cons rfl (fun Kq hKq => ?_) ?_
              · (try simp only [List.getElem_toArray, List.getElem_cons_zero, List.getElem_cons_succ])
                refine step_fold (a := ⟨_, _⟩) ?_
                first | (refine step_append_kd (d := Kd.slice kAct) (by rfl) _ _ _ (by rfl) Try.underlying24 _ 24 infoActS rfl (by decide) (by decide) (by rfl) (Own.belowAll hP1.B (by (repeat' (first | exact Below.refl _ _ | apply Below.drew | (refine bal ?_ _))))) _ _ (by rfl) (Row.one_at (d := Kd.slice kAct) (e := 32) (S := fun k => W.heap.size ≤ k) (x := [⟨2, [], [1, 2], 0⟩, ⟨1, ds, [], 0⟩]) _ ⟨_, 2, rfl, Nat.le_refl _, hrow⟩ (by simp)) (fun k hk e => by cases e) (by simp) (by have := hP1.k.size; simp; omega) ?_; intro v2 w2 ho2 hg2 hv2; have hrp := PAt.rpB (PAt.below hP1 (by (repeat' (first | exact Below.refl _ _ | apply Below.drew | (refine bal ?_ _))))) hg2; have q5 := cell_of_row _ _ 1 _ _ _ hrp; have q6 := frozen_of_row hrp; have hP2 := PAt.setB (PAt.below hP1 (by (repeat' (first | exact Below.refl _ _ | apply Below.drew | (refine bal ?_ _))))) hg2 (ho2.mono (fun k hk => by rcases hk with hk | hk | hk; exact hk; exact hP0.past (by omega); exact hP0.past (by simp at hk; omega))); simp at q5; obtain ⟨Ac, cc, rfl, hcc, hrc⟩ := Own.row ho2; clear hrc) | fail
                refine hKq.out _ _ (by (try dsimp only) <;> (trivial)) (fun hHeld => ?_)
                clear hKq Kq
                (try simp only [List.getElem_toArray, List.getElem_cons_zero, List.getElem_cons_succ, Act.put, List.setIfInBounds_toArray, List.set_cons_zero, List.set_cons_succ])
                refine wpAnyH_take (i := 10) (v := _) rfl (by kernel_rfl) (by kernel_rfl) (by kernel_rfl) (fun _ _ _ h => h) (Or.inl ⟨by rfl, by (intro w hSw; (try dsimp only at hSw); go_simp <;> with_reducible rfl)⟩) (by assumption) ?_
                (try simp only [List.getElem_toArray, List.getElem_cons_zero, List.getElem_cons_succ, Act.put, List.setIfInBounds_toArray, List.set_cons_zero, List.set_cons_succ])
                refine wpAnyH_ready (rs := [11]) (by kernel_rfl) (by simp) ?_
                refine AllReadyH.cons rfl (fun Kq hKq => ?_) ?_
                · (try simp only [List.getElem_toArray, List.getElem_cons_zero, List.getElem_cons_succ])
                  refine step_fold (a := ⟨_, _⟩) ?_
                  go_simp
                  refine hKq.out _ _ (by (try dsimp only) <;> (trivial)) (fun hHeld => ?_)
                  clear hKq Kq
                  (try simp only [List.getElem_toArray, List.getElem_cons_zero, List.getElem_cons_succ, Act.put, List.setIfInBounds_toArray, List.set_cons_zero, List.set_cons_succ])
                  refine wpAnyH_done (by kernel_rfl) ?_ _
                  refine NoPanic.normal ?_
                  have hP3 := hP2.less (f' := f + 700) (by omega)
                  go_wp2
                  go_meet
                  exact ⟨_, _, rfl, hP3⟩
                exact AllReadyH.nil
              exact AllReadyH.nil
            exact AllReadyH.nil
          exact AllReadyH.nil
        exact AllReadyH.nil
      exact AllReadyH.nil
    refine AllReadyH.cons rfl (fun Kq hKq => ?_) ?_
    · (try simp only [List.getElem_toArray, List.getElem_cons_zero, List.getElem_cons_succ])
      refine step_fold (a := ⟨_, _⟩) ?_
      go_simp
      refine hKq.out _ _ (by (try dsimp only) <;> (trivial)) (fun hHeld => ?_)
      clear hKq Kq
      (try simp only [List.getElem_toArray, List.getElem_cons_zero, List.getElem_cons_succ, Act.put, List.setIfInBounds_toArray, List.set_cons_zero, List.set_cons_succ])
      refine wpAnyH_take (i := 3) (v := _) rfl (by kernel_rfl) (by kernel_rfl) (by kernel_rfl) (fun _ _ _ h => h) (Or.inl ⟨by rfl, by (intro w hSw; (try dsimp only at hSw); go_simp <;> with_reducible rfl)⟩) (by assumption) ?_
      (try simp only [List.getElem_toArray, List.getElem_cons_zero, List.getElem_cons_succ, Act.put, List.setIfInBounds_toArray, List.set_cons_zero, List.set_cons_succ])
      refine wpAnyH_ready (rs := [1, 5]) (by kernel_rfl) (by simp) ?_
      refine AllReadyH.cons rfl (fun Kq hKq => ?_) ?_
      · (try simp only [List.getElem_toArray, List.getElem_cons_zero, List.getElem_cons_succ])
        refine step_fold (a := ⟨_, _⟩) ?_
        go_simp
        refine hKq.out _ _ (by (try dsimp only) <;> (trivial)) (fun hHeld => ?_)
        clear hKq Kq
        (try simp only [List.getElem_toArray, List.getElem_cons_zero, List.getElem_cons_succ, Act.put, List.setIfInBounds_toArray, List.set_cons_zero, List.set_cons_succ])
        refine wpAnyH_ready (rs := [5]) (by kernel_rfl) (by simp) ?_
        refine AllReadyH.cons rfl (fun Kq hKq => ?_) ?_
        · (try simp only [List.getElem_toArray, List.getElem_cons_zero, List.getElem_cons_succ])
          refine step_fold (a := ⟨_, _⟩) ?_
          go_simp
          first | (go_at_call 79; refine (l71Deeds_calls _ _ _ _ _ _ _ (f + 970) (PAt.R (PAt.below hP0 (by (repeat' (first | exact Below.refl _ _ | apply Below.drew | (refine bal ?_ _)))))) (by omega) (by omega)).mono ?_; rintro e w6 ⟨_, rfl, ⟨ds, D, cd, rfl, hcd, hdl, hrd⟩, hRn, hk⟩; have hkid : w6.heap[W.heap.size]? = some (.cells #[.int .i64 1, .int .i64 2] 3 (0, 0)) := (hk.blk (heap_alloc_new _ _) (by omega)); have hP1 := PAt.pick (PAt.below hP0 (by (repeat' (first | exact Below.refl _ _ | apply Below.drew | (refine bal ?_ _))))) hRn hk; have q3 := hP1.c1; have hbl1 := (Array.getElem?_eq_some_iff.1 hP1.rp).1; have q41 : ∀ o1, (w6.alloc o1).cell? ⟨bp, 1, none⟩ = some (.slice none 0 0) := (fun o1 => ((bal (Below.refl _ _) o1).cell hbl1).trans q3); have q42 : ∀ o1 o2, ((w6.alloc o1).alloc o2).cell? ⟨bp, 1, none⟩ = some (.slice none 0 0) := (fun o1 o2 => ((bal (bal (Below.refl _ _) o1) o2).cell hbl1).trans q3); have q43 : ∀ o1 o2 o3, (((w6.alloc o1).alloc o2).alloc o3).cell? ⟨bp, 1, none⟩ = some (.slice none 0 0) := (fun o1 o2 o3 => ((bal (bal (bal (Below.refl _ _) o1) o2) o3).cell hbl1).trans q3); have hz6 := hk.size; (try simp at hz6); have hrs := hrd.mono (S' := fun k => W.heap.size ≤ k) (fun k hk => by first | omega | (simp at hk; omega)); have hkids : Row Kd.int w6 (fun k => W.heap.size ≤ k) (some ⟨W.heap.size, 0, none⟩) [1, 2] := row_two hkid (Nat.le_refl _) (by unfold i64; omega) (by unfold i64; omega); have hrow := row_two_acts w6 (B := W.heap.size) (by omega) hkids hcd hrs; clear hRn hk) | (go_at_call 79; refine (l71Deeds_calls _ _ _ _ _ _ _ (f + 970) (PAt.R (PAt.below hP0 (by (repeat' (first | exact Below.refl _ _ | apply Below.drew | (refine bal ?_ _)))))) (by omega) (by omega)).mono ?_; rintro e w6 ⟨_, rfl, ⟨ds, D, cd, rfl, hcd, hdl, hrd⟩, hRn, hk⟩; have hP1 := PAt.pick (PAt.below hP0 (by (repeat' (first | exact Below.refl _ _ | apply Below.drew | (refine bal ?_ _))))) hRn hk; have q3 := hP1.c1; have hbl1 := (Array.getElem?_eq_some_iff.1 hP1.rp).1; have q41 : ∀ o1, (w6.alloc o1).cell? ⟨bp, 1, none⟩ = some (.slice none 0 0) := (fun o1 => ((bal (Below.refl _ _) o1).cell hbl1).trans q3); have q42 : ∀ o1 o2, ((w6.alloc o1).alloc o2).cell? ⟨bp, 1, none⟩ = some (.slice none 0 0) := (fun o1 o2 => ((bal (bal (Below.refl _ _) o1) o2).cell hbl1).trans q3); have q43 : ∀ o1 o2 o3, (((w6.alloc o1).alloc o2).alloc o3).cell? ⟨bp, 1, none⟩ = some (.slice none 0 0) := (fun o1 o2 o3 => ((bal (bal (bal (Below.refl _ _) o1) o2) o3).cell hbl1).trans q3); have hz6 := hk.size; (try simp at hz6); have hrs := hrd.mono (S' := fun k => W.heap.size ≤ k) (fun k hk => by first | omega | (simp at hk; omega)); have hrow := row_two_kids w6 (B := W.heap.size) (by omega) hcd hrs; clear hRn hk)
          refine hKq.out _ _ (by (try dsimp only) <;> (trivial)) (fun hHeld => ?_)
          clear hKq Kq
          (try simp only [List.getElem_toArray, List.getElem_cons_zero, List.getElem_cons_succ, Act.put, List.setIfInBounds_toArray, List.set_cons_zero, List.set_cons_succ])
          refine wpAnyH_take (i := 6) (v := _) rfl (by kernel_rfl) (by kernel_rfl) (by kernel_rfl) (fun _ _ _ h => h) (Or.inl ⟨by rfl, by (intro w hSw; (try dsimp only at hSw); go_simp <;> with_reducible rfl)⟩) (by assumption) ?_
          (try simp only [List.getElem_toArray, List.getElem_cons_zero, List.getElem_cons_succ, Act.put, List.setIfInBounds_toArray, List.set_cons_zero, List.set_cons_succ])
          refine wpAnyH_ready (rs := [7]) (by kernel_rfl) (by simp) ?_
          refine AllReadyH.cons rfl (fun Kq hKq => ?_) ?_
          · (try simp only [List.getElem_toArray, List.getElem_cons_zero, List.getElem_cons_succ])
            refine step_fold (a := ⟨_, _⟩) ?_
            go_simp
            refine hKq.out _ _ (by (try dsimp only) <;> (trivial)) (fun hHeld => ?_)
            clear hKq Kq
            (try simp only [List.getElem_toArray, List.getElem_cons_zero, List.getElem_cons_succ, Act.put, List.setIfInBounds_toArray, List.set_cons_zero, List.set_cons_succ])
            refine wpAnyH_ready (rs := [8]) (by kernel_rfl) (by simp) ?_
            refine AllReadyH.cons rfl (fun Kq hKq => ?_) ?_
            · (try simp only [List.getElem_toArray, List.getElem_cons_zero, List.getElem_cons_succ])
              refine step_fold (a := ⟨_, _⟩) ?_
              go_simp
              refine hKq.out _ _ (by (try dsimp only) <;> (trivial)) (fun hHeld => ?_)
              clear hKq Kq
              (try simp only [List.getElem_toArray, List.getElem_cons_zero, List.getElem_cons_succ, Act.put, List.setIfInBounds_toArray, List.set_cons_zero, List.set_cons_succ])
              refine wpAnyH_ready (rs := [9]) (by kernel_rfl) (by simp) ?_
              refine AllReadyH.cons rfl (fun Kq hKq => ?_) ?_
              · (try simp only [List.getElem_toArray, List.getElem_cons_zero, List.getElem_cons_succ])
                refine step_fold (a := ⟨_, _⟩) ?_
                first | (refine step_append_kd (d := Kd.slice kAct) (by rfl) _ _ _ (by rfl) Try.underlying24 _ 24 infoActS rfl (by decide) (by decide) (by rfl) (Own.belowAll hP1.B (by (repeat' (first | exact Below.refl _ _ | apply Below.drew | (refine bal ?_ _))))) _ _ (by rfl) (Row.one_at (d := Kd.slice kAct) (e := 32) (S := fun k => W.heap.size ≤ k) (x := [⟨2, [], [1, 2], 0⟩, ⟨1, ds, [], 0⟩]) _ ⟨_, 2, rfl, Nat.le_refl _, hrow⟩ (by simp)) (fun k hk e => by cases e) (by simp) (by have := hP1.k.size; simp; omega) ?_; intro v2 w2 ho2 hg2 hv2; have hrp := PAt.rpB (PAt.below hP1 (by (repeat' (first | exact Below.refl _ _ | apply Below.drew | (refine bal ?_ _))))) hg2; have q5 := cell_of_row _ _ 1 _ _ _ hrp; have q6 := frozen_of_row hrp; have hP2 := PAt.setB (PAt.below hP1 (by (repeat' (first | exact Below.refl _ _ | apply Below.drew | (refine bal ?_ _))))) hg2 (ho2.mono (fun k hk => by rcases hk with hk | hk | hk; exact hk; exact hP0.past (by omega); exact hP0.past (by simp at hk; omega))); simp at q5; obtain ⟨Ac, cc, rfl, hcc, hrc⟩ := Own.row ho2; clear hrc) | fail
                refine hKq.out _ _ (by (try dsimp only) <;> (trivial)) (fun hHeld => ?_)
                clear hKq Kq
                (try simp only [List.getElem_toArray, List.getElem_cons_zero, List.getElem_cons_succ, Act.put, List.setIfInBounds_toArray, List.set_cons_zero, List.set_cons_succ])
                refine wpAnyH_take (i := 10) (v := _) rfl (by kernel_rfl) (by kernel_rfl) (by kernel_rfl) (fun _ _ _ h => h) (Or.inl ⟨by rfl, by (intro w hSw; (try dsimp only at hSw); go_simp <;> with_reducible rfl)⟩) (by assumption) ?_
                (try simp only [List.getElem_toArray, List.getElem_cons_zero, List.getElem_cons_succ, Act.put, List.setIfInBounds_toArray, List.set_cons_zero, List.set_cons_succ])
                refine wpAnyH_ready (rs := [11]) (by kernel_rfl) (by simp) ?_
                refine AllReadyH.cons rfl (fun Kq hKq => ?_) ?_
                · (try simp only [List.getElem_toArray, List.getElem_cons_zero, List.getElem_cons_succ])
                  refine step_fold (a := ⟨_, _⟩) ?_
                  go_simp
                  refine hKq.out _ _ (by (try dsimp only) <;> (trivial)) (fun hHeld => ?_)
                  clear hKq Kq
                  (try simp only [List.getElem_toArray, List.getElem_cons_zero, List.getElem_cons_succ, Act.put, List.setIfInBounds_toArray, List.set_cons_zero, List.set_cons_succ])
                  refine wpAnyH_done (by kernel_rfl) ?_ _
                  refine NoPanic.normal ?_
                  have hP3 := hP2.less (f' := f + 700) (by omega)
                  go_wp2
                  go_meet
                  exact ⟨_, _, rfl, hP3⟩
                exact AllReadyH.nil
              exact AllReadyH.nil
            exact AllReadyH.nil
          exact AllReadyH.nil
        exact AllReadyH.nil
      refine AllReadyH.cons rfl (fun Kq hKq => ?_) ?_
      · (try simp only [List.getElem_toArray, List.getElem_cons_zero, List.getElem_cons_succ])
        refine step_fold (a := ⟨_, _⟩) ?_
        go_simp
        first | (go_at_call 79; refine (l71Deeds_calls _ _ _ _ _ _ _ (f + 970) (PAt.R (PAt.below hP0 (by (repeat' (first | exact Below.refl _ _ | apply Below.drew | (refine bal ?_ _)))))) (by omega) (by omega)).mono ?_; rintro e w6 ⟨_, rfl, ⟨ds, D, cd, rfl, hcd, hdl, hrd⟩, hRn, hk⟩; have hkid : w6.heap[W.heap.size]? = some (.cells #[.int .i64 1, .int .i64 2] 3 (0, 0)) := (hk.blk (heap_alloc_new _ _) (by omega)); have hP1 := PAt.pick (PAt.below hP0 (by (repeat' (first | exact Below.refl _ _ | apply Below.drew | (refine bal ?_ _))))) hRn hk; have q3 := hP1.c1; have hbl1 := (Array.getElem?_eq_some_iff.1 hP1.rp).1; have q41 : ∀ o1, (w6.alloc o1).cell? ⟨bp, 1, none⟩ = some (.slice none 0 0) := (fun o1 => ((bal (Below.refl _ _) o1).cell hbl1).trans q3); have q42 : ∀ o1 o2, ((w6.alloc o1).alloc o2).cell? ⟨bp, 1, none⟩ = some (.slice none 0 0) := (fun o1 o2 => ((bal (bal (Below.refl _ _) o1) o2).cell hbl1).trans q3); have q43 : ∀ o1 o2 o3, (((w6.alloc o1).alloc o2).alloc o3).cell? ⟨bp, 1, none⟩ = some (.slice none 0 0) := (fun o1 o2 o3 => ((bal (bal (bal (Below.refl _ _) o1) o2) o3).cell hbl1).trans q3); have hz6 := hk.size; (try simp at hz6); have hrs := hrd.mono (S' := fun k => W.heap.size ≤ k) (fun k hk => by first | omega | (simp at hk; omega)); have hkids : Row Kd.int w6 (fun k => W.heap.size ≤ k) (some ⟨W.heap.size, 0, none⟩) [1, 2] := row_two hkid (Nat.le_refl _) (by unfold i64; omega) (by unfold i64; omega); have hrow := row_two_acts w6 (B := W.heap.size) (by omega) hkids hcd hrs; clear hRn hk) | (go_at_call 79; refine (l71Deeds_calls _ _ _ _ _ _ _ (f + 970) (PAt.R (PAt.below hP0 (by (repeat' (first | exact Below.refl _ _ | apply Below.drew | (refine bal ?_ _)))))) (by omega) (by omega)).mono ?_; rintro e w6 ⟨_, rfl, ⟨ds, D, cd, rfl, hcd, hdl, hrd⟩, hRn, hk⟩; have hP1 := PAt.pick (PAt.below hP0 (by (repeat' (first | exact Below.refl _ _ | apply Below.drew | (refine bal ?_ _))))) hRn hk; have q3 := hP1.c1; have hbl1 := (Array.getElem?_eq_some_iff.1 hP1.rp).1; have q41 : ∀ o1, (w6.alloc o1).cell? ⟨bp, 1, none⟩ = some (.slice none 0 0) := (fun o1 => ((bal (Below.refl _ _) o1).cell hbl1).trans q3); have q42 : ∀ o1 o2, ((w6.alloc o1).alloc o2).cell? ⟨bp, 1, none⟩ = some (.slice none 0 0) := (fun o1 o2 => ((bal (bal (Below.refl _ _) o1) o2).cell hbl1).trans q3); have q43 : ∀ o1 o2 o3, (((w6.alloc o1).alloc o2).alloc o3).cell? ⟨bp, 1, none⟩ = some (.slice none 0 0) := (fun o1 o2 o3 => ((bal (bal (bal (Below.refl _ _) o1) o2) o3).cell hbl1).trans q3); have hz6 := hk.size; (try simp at hz6); have hrs := hrd.mono (S' := fun k => W.heap.size ≤ k) (fun k hk => by first | omega | (simp at hk; omega)); have hrow := row_two_kids w6 (B := W.heap.size) (by omega) hcd hrs; clear hRn hk)
        refine hKq.out _ _ (by (try dsimp only) <;> (trivial)) (fun hHeld => ?_)
        clear hKq Kq
        (try simp only [List.getElem_toArray, List.getElem_cons_zero, List.getElem_cons_succ, Act.put, List.setIfInBounds_toArray, List.set_cons_zero, List.set_cons_succ])
        refine wpAnyH_take (i := 6) (v := _) rfl (by kernel_rfl) (by kernel_rfl) (by kernel_rfl) (fun _ _ _ h => h) (Or.inl ⟨by rfl, by (intro w hSw; (try dsimp only at hSw); go_simp <;> with_reducible rfl)⟩) (by assumption) ?_
        (try simp only [List.getElem_toArray, List.getElem_cons_zero, List.getElem_cons_succ, Act.put, List.setIfInBounds_toArray, List.set_cons_zero, List.set_cons_succ])
        refine wpAnyH_ready (rs := [1, 7]) (by kernel_rfl) (by simp) ?_
        refine AllReadyH.cons rfl (fun Kq hKq => ?_) ?_
        · (try simp only [List.getElem_toArray, List.getElem_cons_zero, List.getElem_cons_succ])
          refine step_fold (a := ⟨_, _⟩) ?_
          go_simp
          refine hKq.out _ _ (by (try dsimp only) <;> (trivial)) (fun hHeld => ?_)
          clear hKq Kq
          (try simp only [List.getElem_toArray, List.getElem_cons_zero, List.getElem_cons_succ, Act.put, List.setIfInBounds_toArray, List.set_cons_zero, List.set_cons_succ])
          refine wpAnyH_ready (rs := [7]) (by kernel_rfl) (by simp) ?_
          refine AllReadyH.cons rfl (fun Kq hKq => ?_) ?_
          · (try simp only [List.getElem_toArray, List.getElem_cons_zero, List.getElem_cons_succ])
            refine step_fold (a := ⟨_, _⟩) ?_
            go_simp
            refine hKq.out _ _ (by (try dsimp only) <;> (trivial)) (fun hHeld => ?_)
            clear hKq Kq
            (try simp only [List.getElem_toArray, List.getElem_cons_zero, List.getElem_cons_succ, Act.put, List.setIfInBounds_toArray, List.set_cons_zero, List.set_cons_succ])
            refine wpAnyH_ready (rs := [8]) (by kernel_rfl) (by simp) ?_
            refine AllReadyH.cons rfl (fun Kq hKq => ?_) ?_
            · (try simp only [List.getElem_toArray, List.getElem_cons_zero, List.getElem_cons_succ])
              refine step_fold (a := ⟨_, _⟩) ?_
              go_simp
              refine hKq.out _ _ (by (try dsimp only) <;> (trivial)) (fun hHeld => ?_)
              clear hKq Kq
              (try simp only [List.getElem_toArray, List.getElem_cons_zero, List.getElem_cons_succ, Act.put, List.setIfInBounds_toArray, List.set_cons_zero, List.set_cons_succ])
              refine wpAnyH_ready (rs := [9]) (by kernel_rfl) (by simp) ?_
              refine AllReadyH.cons rfl (fun Kq hKq => ?_) ?_
              · (try simp only [List.getElem_toArray, List.getElem_cons_zero, List.getElem_cons_succ])
                refine step_fold (a := ⟨_, _⟩) ?_
                first | (refine step_append_kd (d := Kd.slice kAct) (by rfl) _ _ _ (by rfl) Try.underlying24 _ 24 infoActS rfl (by decide) (by decide) (by rfl) (Own.belowAll hP1.B (by (repeat' (first | exact Below.refl _ _ | apply Below.drew | (refine bal ?_ _))))) _ _ (by rfl) (Row.one_at (d := Kd.slice kAct) (e := 32) (S := fun k => W.heap.size ≤ k) (x := [⟨2, [], [1, 2], 0⟩, ⟨1, ds, [], 0⟩]) _ ⟨_, 2, rfl, Nat.le_refl _, hrow⟩ (by simp)) (fun k hk e => by cases e) (by simp) (by have := hP1.k.size; simp; omega) ?_; intro v2 w2 ho2 hg2 hv2; have hrp := PAt.rpB (PAt.below hP1 (by (repeat' (first | exact Below.refl _ _ | apply Below.drew | (refine bal ?_ _))))) hg2; have q5 := cell_of_row _ _ 1 _ _ _ hrp; have q6 := frozen_of_row hrp; have hP2 := PAt.setB (PAt.below hP1 (by (repeat' (first | exact Below.refl _ _ | apply Below.drew | (refine bal ?_ _))))) hg2 (ho2.mono (fun k hk => by rcases hk with hk | hk | hk; exact hk; exact hP0.past (by omega); exact hP0.past (by simp at hk; omega))); simp at q5; obtain ⟨Ac, cc, rfl, hcc, hrc⟩ := Own.row ho2; clear hrc) | fail
                refine hKq.out _ _ (by (try dsimp only) <;> (trivial)) (fun hHeld => ?_)
                clear hKq Kq
                (try simp only [List.getElem_toArray, List.getElem_cons_zero, List.getElem_cons_succ, Act.put, List.setIfInBounds_toArray, List.set_cons_zero, List.set_cons_succ])
                refine wpAnyH_take (i := 10) (v := _) rfl (by kernel_rfl) (by kernel_rfl) (by kernel_rfl) (fun _ _ _ h => h) (Or.inl ⟨by rfl, by (intro w hSw; (try dsimp only at hSw); go_simp <;> with_reducible rfl)⟩) (by assumption) ?_
                (try simp only [List.getElem_toArray, List.getElem_cons_zero, List.getElem_cons_succ, Act.put, List.setIfInBounds_toArray, List.set_cons_zero, List.set_cons_succ])
                refine wpAnyH_ready (rs := [11]) (by kernel_rfl) (by simp) ?_
                refine AllReadyH.cons rfl (fun Kq hKq => ?_) ?_
                · (try simp only [List.getElem_toArray, List.getElem_cons_zero, List.getElem_cons_succ])
                  refine step_fold (a := ⟨_, _⟩) ?_
                  go_simp
                  refine hKq.out _ _ (by (try dsimp only) <;> (trivial)) (fun hHeld => ?_)
                  clear hKq Kq
                  (try simp only [List.getElem_toArray, List.getElem_cons_zero, List.getElem_cons_succ, Act.put, List.setIfInBounds_toArray, List.set_cons_zero, List.set_cons_succ])
                  refine wpAnyH_done (by kernel_rfl) ?_ _
                  refine NoPanic.normal ?_
                  have hP3 := hP2.less (f' := f + 700) (by omega)
                  go_wp2
                  go_meet
                  exact ⟨_, _, rfl, hP3⟩
                exact AllReadyH.nil
              exact AllReadyH.nil
            exact AllReadyH.nil
          exact AllReadyH.nil
        refine AllReadyH.cons rfl (fun Kq hKq => ?_) ?_
        · (try simp only [List.getElem_toArray, List.getElem_cons_zero, List.getElem_cons_succ])
          refine step_fold (a := ⟨_, _⟩) ?_
          go_simp
          refine hKq.out _ _ (by (try dsimp only) <;> (trivial)) (fun hHeld => ?_)
          clear hKq Kq
          (try simp only [List.getElem_toArray, List.getElem_cons_zero, List.getElem_cons_succ, Act.put, List.setIfInBounds_toArray, List.set_cons_zero, List.set_cons_succ])
          refine wpAnyH_ready (rs := [1, 8]) (by kernel_rfl) (by simp) ?_
          refine AllReadyH.cons rfl (fun Kq hKq => ?_) ?_
          · (try simp only [List.getElem_toArray, List.getElem_cons_zero, List.getElem_cons_succ])
            refine step_fold (a := ⟨_, _⟩) ?_
            go_simp
            refine hKq.out _ _ (by (try dsimp only) <;> (trivial)) (fun hHeld => ?_)
            clear hKq Kq
            (try simp only [List.getElem_toArray, List.getElem_cons_zero, List.getElem_cons_succ, Act.put, List.setIfInBounds_toArray, List.set_cons_zero, List.set_cons_succ])
            refine wpAnyH_ready (rs := [8]) (by kernel_rfl) (by simp) ?_
            refine AllReadyH.cons rfl (fun Kq hKq => ?_) ?_
            · (try simp only [List.getElem_toArray, List.getElem_cons_zero, List.getElem_cons_succ])
              refine step_fold (a := ⟨_, _⟩) ?_
              go_simp
              refine hKq.out _ _ (by (try dsimp only) <;> (trivial)) (fun hHeld => ?_)
              clear hKq Kq
              (try simp only [List.getElem_toArray, List.getElem_cons_zero, List.getElem_cons_succ, Act.put, List.setIfInBounds_toArray, List.set_cons_zero, List.set_cons_succ])
              refine wpAnyH_ready (rs := [9]) (by kernel_rfl) (by simp) ?_
              refine AllReadyH.cons rfl (fun Kq hKq => ?_) ?_
              · (try simp only [List.getElem_toArray, List.getElem_cons_zero, List.getElem_cons_succ])
                refine step_fold (a := ⟨_, _⟩) ?_
                first | (refine step_append_kd (d := Kd.slice kAct) (by rfl) _ _ _ (by rfl) Try.underlying24 _ 24 infoActS rfl (by decide) (by decide) (by rfl) (Own.belowAll hP1.B (by (repeat' (first | exact Below.refl _ _ | apply Below.drew | (refine bal ?_ _))))) _ _ (by rfl) (Row.one_at (d := Kd.slice kAct) (e := 32) (S := fun k => W.heap.size ≤ k) (x := [⟨2, [], [1, 2], 0⟩, ⟨1, ds, [], 0⟩]) _ ⟨_, 2, rfl, Nat.le_refl _, hrow⟩ (by simp)) (fun k hk e => by cases e) (by simp) (by have := hP1.k.size; simp; omega) ?_; intro v2 w2 ho2 hg2 hv2; have hrp := PAt.rpB (PAt.below hP1 (by (repeat' (first | exact Below.refl _ _ | apply Below.drew | (refine bal ?_ _))))) hg2; have q5 := cell_of_row _ _ 1 _ _ _ hrp; have q6 := frozen_of_row hrp; have hP2 := PAt.setB (PAt.below hP1 (by (repeat' (first | exact Below.refl _ _ | apply Below.drew | (refine bal ?_ _))))) hg2 (ho2.mono (fun k hk => by rcases hk with hk | hk | hk; exact hk; exact hP0.past (by omega); exact hP0.past (by simp at hk; omega))); simp at q5; obtain ⟨Ac, cc, rfl, hcc, hrc⟩ := Own.row ho2; clear hrc) | fail
                refine hKq.out _ _ (by (try dsimp only) <;> (trivial)) (fun hHeld => ?_)
                clear hKq Kq
                (try simp only [List.getElem_toArray, List.getElem_cons_zero, List.getElem_cons_succ, Act.put, List.setIfInBounds_toArray, List.set_cons_zero, List.set_cons_succ])
                refine wpAnyH_take (i := 10) (v := _) rfl (by kernel_rfl) (by kernel_rfl) (by kernel_rfl) (fun _ _ _ h => h) (Or.inl ⟨by rfl, by (intro w hSw; (try dsimp only at hSw); go_simp <;> with_reducible rfl)⟩) (by assumption) ?_
                (try simp only [List.getElem_toArray, List.getElem_cons_zero, List.getElem_cons_succ, Act.put, List.setIfInBounds_toArray, List.set_cons_zero, List.set_cons_succ])
                refine wpAnyH_ready (rs := [11]) (by kernel_rfl) (by simp) ?_
                refine AllReadyH.cons rfl (fun Kq hKq => ?_) ?_
                · (try simp only [List.getElem_toArray, List.getElem_cons_zero, List.getElem_cons_succ])
                  refine step_fold (a := ⟨_, _⟩) ?_
                  go_simp
                  refine hKq.out _ _ (by (try dsimp only) <;> (trivial)) (fun hHeld => ?_)
                  clear hKq Kq
                  (try simp only [List.getElem_toArray, List.getElem_cons_zero, List.getElem_cons_succ, Act.put, List.setIfInBounds_toArray, List.set_cons_zero, List.set_cons_succ])
                  refine wpAnyH_done (by kernel_rfl) ?_ _
                  refine NoPanic.normal ?_
                  have hP3 := hP2.less (f' := f + 700) (by omega)
                  go_wp2
                  go_meet
                  exact ⟨_, _, rfl, hP3⟩
                exact AllReadyH.nil
              exact AllReadyH.nil
            exact AllReadyH.nil
          refine AllReadyH.cons rfl (fun Kq hKq => ?_) ?_
          · (try simp only [List.getElem_toArray, List.getElem_cons_zero, List.getElem_cons_succ])
            refine step_fold (a := ⟨_, _⟩) ?_
            go_simp
            refine hKq.out _ _ (by (try dsimp only) <;> (trivial)) (fun hHeld => ?_)
            clear hKq Kq
            (try simp only [List.getElem_toArray, List.getElem_cons_zero, List.getElem_cons_succ, Act.put, List.setIfInBounds_toArray, List.set_cons_zero, List.set_cons_succ])
            refine wpAnyH_ready (rs := [1]) (by kernel_rfl) (by simp) ?_
            refine AllReadyH.cons rfl (fun Kq hKq => ?_) ?_
            · (try simp only [List.getElem_toArray, List.getElem_cons_zero, List.getElem_cons_succ])
              refine step_fold (a := ⟨_, _⟩) ?_
              go_simp
              refine hKq.out _ _ (by (try dsimp only) <;> (trivial)) (fun hHeld => ?_)
              clear hKq Kq
              (try simp only [List.getElem_toArray, List.getElem_cons_zero, List.getElem_cons_succ, Act.put, List.setIfInBounds_toArray, List.set_cons_zero, List.set_cons_succ])
              refine wpAnyH_ready (rs := [9]) (by kernel_rfl) (by simp) ?_
              refine AllReadyH.cons rfl (fun Kq hKq => ?_) ?_
              · (try simp only [List.getElem_toArray, List.getElem_cons_zero, List.getElem_cons_succ])
                refine step_fold (a := ⟨_, _⟩) ?_
                first | (refine step_append_kd (d := Kd.slice kAct) (by rfl) _ _ _ (by rfl) Try.underlying24 _ 24 infoActS rfl (by decide) (by decide) (by rfl) (Own.belowAll hP1.B (by (repeat' (first | exact Below.refl _ _ | apply Below.drew | (refine bal ?_ _))))) _ _ (by rfl) (Row.one_at (d := Kd.slice kAct) (e := 32) (S := fun k => W.heap.size ≤ k) (x := [⟨2, [], [1, 2], 0⟩, ⟨1, ds, [], 0⟩]) _ ⟨_, 2, rfl, Nat.le_refl _, hrow⟩ (by simp)) (fun k hk e => by cases e) (by simp) (by have := hP1.k.size; simp; omega) ?_; intro v2 w2 ho2 hg2 hv2; have hrp := PAt.rpB (PAt.below hP1 (by (repeat' (first | exact Below.refl _ _ | apply Below.drew | (refine bal ?_ _))))) hg2; have q5 := cell_of_row _ _ 1 _ _ _ hrp; have q6 := frozen_of_row hrp; have hP2 := PAt.setB (PAt.below hP1 (by (repeat' (first | exact Below.refl _ _ | apply Below.drew | (refine bal ?_ _))))) hg2 (ho2.mono (fun k hk => by rcases hk with hk | hk | hk; exact hk; exact hP0.past (by omega); exact hP0.past (by simp at hk; omega))); simp at q5; obtain ⟨Ac, cc, rfl, hcc, hrc⟩ := Own.row ho2; clear hrc) | fail
                refine hKq.out _ _ (by (try dsimp only) <;> (trivial)) (fun hHeld => ?_)
                clear hKq Kq
                (try simp only [List.getElem_toArray, List.getElem_cons_zero, List.getElem_cons_succ, Act.put, List.setIfInBounds_toArray, List.set_cons_zero, List.set_cons_succ])
                refine wpAnyH_take (i := 10) (v := _) rfl (by kernel_rfl) (by kernel_rfl) (by kernel_rfl) (fun _ _ _ h => h) (Or.inl ⟨by rfl, by (intro w hSw; (try dsimp only at hSw); go_simp <;> with_reducible rfl)⟩) (by assumption) ?_
                (try simp only [List.getElem_toArray, List.getElem_cons_zero, List.getElem_cons_succ, Act.put, List.setIfInBounds_toArray, List.set_cons_zero, List.set_cons_succ])
                refine wpAnyH_ready (rs := [11]) (by kernel_rfl) (by simp) ?_
                refine AllReadyH.cons rfl (fun Kq hKq => ?_) ?_
                · (try simp only [List.getElem_toArray, List.getElem_cons_zero, List.getElem_cons_succ])
                  refine step_fold (a := ⟨_, _⟩) ?_
                  go_simp
                  refine hKq.out _ _ (by (try dsimp only) <;> (trivial)) (fun hHeld => ?_)
                  clear hKq Kq
                  (try simp only [List.getElem_toArray, List.getElem_cons_zero, List.getElem_cons_succ, Act.put, List.setIfInBounds_toArray, List.set_cons_zero, List.set_cons_succ])
                  refine wpAnyH_done (by kernel_rfl) ?_ _
                  refine NoPanic.normal ?_
                  have hP3 := hP2.less (f' := f + 700) (by omega)
                  go_wp2
                  go_meet
                  exact ⟨_, _, rfl, hP3⟩
                exact AllReadyH.nil
              exact AllReadyH.nil
            exact AllReadyH.nil
          exact AllReadyH.nil
        exact AllReadyH.nil
      exact AllReadyH.nil
    refine AllReadyH.cons rfl (fun Kq hKq => ?_) ?_
    · (try simp only [List.getElem_toArray, List.getElem_cons_zero, List.getElem_cons_succ])
      refine step_fold (a := ⟨_, _⟩) ?_
      go_simp
      first | (go_at_call 79; refine (l71Deeds_calls _ _ _ _ _ _ _ (f + 970) (PAt.R (PAt.below hP0 (by (repeat' (first | exact Below.refl _ _ | apply Below.drew | (refine bal ?_ _)))))) (by omega) (by omega)).mono ?_; rintro e w6 ⟨_, rfl, ⟨ds, D, cd, rfl, hcd, hdl, hrd⟩, hRn, hk⟩; have hkid : w6.heap[W.heap.size]? = some (.cells #[.int .i64 1, .int .i64 2] 3 (0, 0)) := (hk.blk (heap_alloc_new _ _) (by omega)); have hP1 := PAt.pick (PAt.below hP0 (by (repeat' (first | exact Below.refl _ _ | apply Below.drew | (refine bal ?_ _))))) hRn hk; have q3 := hP1.c1; have hbl1 := (Array.getElem?_eq_some_iff.1 hP1.rp).1; have q41 : ∀ o1, (w6.alloc o1).cell? ⟨bp, 1, none⟩ = some (.slice none 0 0) := (fun o1 => ((bal (Below.refl _ _) o1).cell hbl1).trans q3); have q42 : ∀ o1 o2, ((w6.alloc o1).alloc o2).cell? ⟨bp, 1, none⟩ = some (.slice none 0 0) := (fun o1 o2 => ((bal (bal (Below.refl _ _) o1) o2).cell hbl1).trans q3); have q43 : ∀ o1 o2 o3, (((w6.alloc o1).alloc o2).alloc o3).cell? ⟨bp, 1, none⟩ = some (.slice none 0 0) := (fun o1 o2 o3 => ((bal (bal (bal (Below.refl _ _) o1) o2) o3).cell hbl1).trans q3); have hz6 := hk.size; (try simp at hz6); have hrs := hrd.mono (S' := fun k => W.heap.size ≤ k) (fun k hk => by first | omega | (simp at hk; omega)); have hkids : Row Kd.int w6 (fun k => W.heap.size ≤ k) (some ⟨W.heap.size, 0, none⟩) [1, 2] := row_two hkid (Nat.le_refl _) (by unfold i64; omega) (by unfold i64; omega); have hrow := row_two_acts w6 (B := W.heap.size) (by omega) hkids hcd hrs; clear hRn hk) | (go_at_call 79; refine (l71Deeds_calls _ _ _ _ _ _ _ (f + 970) (PAt.R (PAt.below hP0 (by (repeat' (first | exact Below.refl _ _ | apply Below.drew | (refine bal ?_ _)))))) (by omega) (by omega)).mono ?_; rintro e w6 ⟨_, rfl, ⟨ds, D, cd, rfl, hcd, hdl, hrd⟩, hRn, hk⟩; have hP1 := PAt.pick (PAt.below hP0 (by (repeat' (first | exact Below.refl _ _ | apply Below.drew | (refine bal ?_ _))))) hRn hk; have q3 := hP1.c1; have hbl1 := (Array.getElem?_eq_some_iff.1 hP1.rp).1; have q41 : ∀ o1, (w6.alloc o1).cell? ⟨bp, 1, none⟩ = some (.slice none 0 0) := (fun o1 => ((bal (Below.refl _ _) o1).cell hbl1).trans q3); have q42 : ∀ o1 o2, ((w6.alloc o1).alloc o2).cell? ⟨bp, 1, none⟩ = some (.slice none 0 0) := (fun o1 o2 => ((bal (bal (Below.refl _ _) o1) o2).cell hbl1).trans q3); have q43 : ∀ o1 o2 o3, (((w6.alloc o1).alloc o2).alloc o3).cell? ⟨bp, 1, none⟩ = some (.slice none 0 0) := (fun o1 o2 o3 => ((bal (bal (bal (Below.refl _ _) o1) o2) o3).cell hbl1).trans q3); have hz6 := hk.size; (try simp at hz6); have hrs := hrd.mono (S' := fun k => W.heap.size ≤ k) (fun k hk => by first | omega | (simp at hk; omega)); have hrow := row_two_kids w6 (B := W.heap.size) (by omega) hcd hrs; clear hRn hk)
      refine hKq.out _ _ (by (try dsimp only) <;> (trivial)) (fun hHeld => ?_)
      clear hKq Kq
      (try simp only [List.getElem_toArray, List.getElem_cons_zero, List.getElem_cons_succ, Act.put, List.setIfInBounds_toArray, List.set_cons_zero, List.set_cons_succ])
      refine wpAnyH_take (i := 6) (v := _) rfl (by kernel_rfl) (by kernel_rfl) (by kernel_rfl) (fun _ _ _ h => h) (Or.inl ⟨by rfl, by (intro w hSw; (try dsimp only at hSw); go_simp <;> with_reducible rfl)⟩) (by assumption) ?_
      (try simp only [List.getElem_toArray, List.getElem_cons_zero, List.getElem_cons_succ, Act.put, List.setIfInBounds_toArray, List.set_cons_zero, List.set_cons_succ])
      refine wpAnyH_ready (rs := [1, 2]) (by kernel_rfl) (by simp) ?_
      refine AllReadyH.cons rfl (fun Kq hKq => ?_) ?_
      · (try simp only [List.getElem_toArray, List.getElem_cons_zero, List.getElem_cons_succ])
        refine step_fold (a := ⟨_, _⟩) ?_
        go_simp
        refine hKq.out _ _ (by (try dsimp only) <;> (trivial)) (fun hHeld => ?_)
        clear hKq Kq
        (try simp only [List.getElem_toArray, List.getElem_cons_zero, List.getElem_cons_succ, Act.put, List.setIfInBounds_toArray, List.set_cons_zero, List.set_cons_succ])
        refine wpAnyH_ready (rs := [2]) (by kernel_rfl) (by simp) ?_
        refine AllReadyH.cons rfl (fun Kq hKq => ?_) ?_
        · (try simp only [List.getElem_toArray, List.getElem_cons_zero, List.getElem_cons_succ])
          refine step_fold (a := ⟨_, _⟩) ?_
          go_simp
          refine hKq.out _ _ (by (try dsimp only) <;> (trivial)) (fun hHeld => ?_)
          clear hKq Kq
          (try simp only [List.getElem_toArray, List.getElem_cons_zero, List.getElem_cons_succ, Act.put, List.setIfInBounds_toArray, List.set_cons_zero, List.set_cons_succ])
          refine wpAnyH_take (i := 3) (v := _) rfl (by kernel_rfl) (by kernel_rfl) (by kernel_rfl) (fun _ _ _ h => h) (Or.inl ⟨by rfl, by (intro w hSw; (try dsimp only at hSw); go_simp <;> with_reducible rfl)⟩) (by assumption) ?_
          (try simp only [List.getElem_toArray, List.getElem_cons_zero, List.getElem_cons_succ, Act.put, List.setIfInBounds_toArray, List.set_cons_zero, List.set_cons_succ])
          refine wpAnyH_ready (rs := [7]) (by kernel_rfl) (by simp) ?_
          refine AllReadyH.cons rfl (fun Kq hKq => ?_) ?_
          · (try simp only [List.getElem_toArray, List.getElem_cons_zero, List.getElem_cons_succ])
            refine step_fold (a := ⟨_, _⟩) ?_
            go_simp
            refine hKq.out _ _ (by (try dsimp only) <;> (trivial)) (fun hHeld => ?_)
            clear hKq Kq
            (try simp only [List.getElem_toArray, List.getElem_cons_zero, List.getElem_cons_succ, Act.put, List.setIfInBounds_toArray, List.set_cons_zero, List.set_cons_succ])
            refine wpAnyH_ready (rs := [8]) (by kernel_rfl) (by simp) ?_
            refine AllReadyH.cons rfl (fun Kq hKq => ?_) ?_
            · (try simp only [List.getElem_toArray, List.getElem_cons_zero, List.getElem_cons_succ])
              refine step_fold (a := ⟨_, _⟩) ?_
              go_simp
              refine hKq.out _ _ (by (try dsimp only) <;> (trivial)) (fun hHeld => ?_)
              clear hKq Kq
              (try simp only [List.getElem_toArray, List.getElem_cons_zero, List.getElem_cons_succ, Act.put, List.setIfInBounds_toArray, List.set_cons_zero, List.set_cons_succ])
              refine wpAnyH_ready (rs := [9]) (by kernel_rfl) (by simp) ?_
              refine AllReadyH.cons rfl (fun Kq hKq => ?_) ?_
              · (try simp only [List.getElem_toArray, List.getElem_cons_zero, List.getElem_cons_succ])
                refine step_fold (a := ⟨_, _⟩) ?_
                first | (refine step_append_kd (d := Kd.slice kAct) (by rfl) _ _ _ (by rfl) Try.underlying24 _ 24 infoActS rfl (by decide) (by decide) (by rfl) (Own.belowAll hP1.B (by (repeat' (first | exact Below.refl _ _ | apply Below.drew | (refine bal ?_ _))))) _ _ (by rfl) (Row.one_at (d := Kd.slice kAct) (e := 32) (S := fun k => W.heap.size ≤ k) (x := [⟨2, [], [1, 2], 0⟩, ⟨1, ds, [], 0⟩]) _ ⟨_, 2, rfl, Nat.le_refl _, hrow⟩ (by simp)) (fun k hk e => by cases e) (by simp) (by have := hP1.k.size; simp; omega) ?_; intro v2 w2 ho2 hg2 hv2; have hrp := PAt.rpB (PAt.below hP1 (by (repeat' (first | exact Below.refl _ _ | apply Below.drew | (refine bal ?_ _))))) hg2; have q5 := cell_of_row _ _ 1 _ _ _ hrp; have q6 := frozen_of_row hrp; have hP2 := PAt.setB (PAt.below hP1 (by (repeat' (first | exact Below.refl _ _ | apply Below.drew | (refine bal ?_ _))))) hg2 (ho2.mono (fun k hk => by rcases hk with hk | hk | hk; exact hk; exact hP0.past (by omega); exact hP0.past (by simp at hk; omega))); simp at q5; obtain ⟨Ac, cc, rfl, hcc, hrc⟩ := Own.row ho2; clear hrc) | fail
                refine hKq.out _ _ (by (try dsimp only) <;> (trivial)) (fun hHeld => ?_)
                clear hKq Kq
                (try simp only [List.getElem_toArray, List.getElem_cons_zero, List.getElem_cons_succ, Act.put, List.setIfInBounds_toArray, List.set_cons_zero, List.set_cons_succ])
                refine wpAnyH_take (i := 10) (v := _) rfl (by kernel_rfl) (by kernel_rfl) (by kernel_rfl) (fun _ _ _ h => h) (Or.inl ⟨by rfl, by (intro w hSw; (try dsimp only at hSw); go_simp <;> with_reducible rfl)⟩) (by assumption) ?_
                (try simp only [List.getElem_toArray, List.getElem_cons_zero, List.getElem_cons_succ, Act.put, List.setIfInBounds_toArray, List.set_cons_zero, List.set_cons_succ])
                refine wpAnyH_ready (rs := [11]) (by kernel_rfl) (by simp) ?_
                refine AllReadyH.cons rfl (fun Kq hKq => ?_) ?_
                · (try simp only [List.getElem_toArray, List.getElem_cons_zero, List.getElem_cons_succ])
                  refine step_fold (a := ⟨_, _⟩) ?_
                  go_simp
                  refine hKq.out _ _ (by (try dsimp only) <;> (trivial)) (fun hHeld => ?_)
                  clear hKq Kq
                  (try simp only [List.getElem_toArray, List.getElem_cons_zero, List.getElem_cons_succ, Act.put, List.setIfInBounds_toArray, List.set_cons_zero, List.set_cons_succ])
                  refine wpAnyH_done (by kernel_rfl) ?_ _
                  refine NoPanic.normal ?_
                  have hP3 := hP2.less (f' := f + 700) (by omega)
                  go_wp2
                  go_meet
                  exact ⟨_, _, rfl, hP3⟩
                exact AllReadyH.nil
              exact AllReadyH.nil
            exact AllReadyH.nil
          exact AllReadyH.nil
        exact AllReadyH.nil
      refine AllReadyH.cons rfl (fun Kq hKq => ?_) ?_
      · (try simp only [List.getElem_toArray, List.getElem_cons_zero, List.getElem_cons_succ])
        refine step_fold (a := ⟨_, _⟩) ?_
        go_simp
        refine hKq.out _ _ (by (try dsimp only) <;> (trivial)) (fun hHeld => ?_)
        clear hKq Kq
        (try simp only [List.getElem_toArray, List.getElem_cons_zero, List.getElem_cons_succ, Act.put, List.setIfInBounds_toArray, List.set_cons_zero, List.set_cons_succ])
        refine wpAnyH_take (i := 3) (v := _) rfl (by kernel_rfl) (by kernel_rfl) (by kernel_rfl) (fun _ _ _ h => h) (Or.inl ⟨by rfl, by (intro w hSw; (try dsimp only at hSw); go_simp <;> with_reducible rfl)⟩) (by assumption) ?_
        (try simp only [List.getElem_toArray, List.getElem_cons_zero, List.getElem_cons_succ, Act.put, List.setIfInBounds_toArray, List.set_cons_zero, List.set_cons_succ])
        refine wpAnyH_ready (rs := [1, 7]) (by kernel_rfl) (by simp) ?_
        refine AllReadyH.cons rfl (fun Kq hKq => ?_) ?_
        · (try simp only [List.getElem_toArray, List.getElem_cons_zero, List.getElem_cons_succ])
          refine step_fold (a := ⟨_, _⟩) ?_
          go_simp
          refine hKq.out _ _ (by (try dsimp only) <;> (trivial)) (fun hHeld => ?_)
          clear hKq Kq
          (try simp only [List.getElem_toArray, List.getElem_cons_zero, List.getElem_cons_succ, Act.put, List.setIfInBounds_toArray, List.set_cons_zero, List.set_cons_succ])
          refine wpAnyH_ready (rs := [7]) (by kernel_rfl) (by simp) ?_
          refine AllReadyH.cons rfl (fun Kq hKq => ?_) ?_
          · (try simp only [List.getElem_toArray, List.getElem_cons_zero, List.getElem_cons_succ])
            refine step_fold (a := ⟨_, _⟩) ?_
            go_simp
            refine hKq.out _ _ (by (try dsimp only) <;> (trivial)) (fun hHeld => ?_)
            clear hKq Kq
            (try simp only [List.getElem_toArray, List.getElem_cons_zero, List.getElem_cons_succ, Act.put, List.setIfInBounds_toArray, List.set_cons_zero, List.set_cons_succ])
            refine wpAnyH_ready (rs := [8]) (by kernel_rfl) (by simp) ?_
            refine AllReadyH.cons rfl (fun Kq hKq => ?_) ?_
            · (try simp only [List.getElem_toArray, List.getElem_cons_zero, List.getElem_cons_succ])
              refine step_fold (a := ⟨_, _⟩) ?_
              go_simp
              refine hKq.out _ _ (by (try dsimp only) <;> (trivial)) (fun hHeld => ?_)
              clear hKq Kq
              (try simp only [List.getElem_toArray, List.getElem_cons_zero, List.getElem_cons_succ, Act.put, List.setIfInBounds_toArray, List.set_cons_zero, List.set_cons_succ])
              refine wpAnyH_ready (rs := [9]) (by kernel_rfl) (by simp) ?_
              refine AllReadyH.cons rfl (fun Kq hKq => ?_) ?_
              · (try simp only [List.getElem_toArray, List.getElem_cons_zero, List.getElem_cons_succ])
                refine step_fold (a := ⟨_, _⟩) ?_
                first | (refine step_append_kd (d := Kd.slice kAct) (by rfl) _ _ _ (by rfl) Try.underlying24 _ 24 infoActS rfl (by decide) (by decide) (by rfl) (Own.belowAll hP1.B (by (repeat' (first | exact Below.refl _ _ | apply Below.drew | (refine bal ?_ _))))) _ _ (by rfl) (Row.one_at (d := Kd.slice kAct) (e := 32) (S := fun k => W.heap.size ≤ k) (x := [⟨2, [], [1, 2], 0⟩, ⟨1, ds, [], 0⟩]) _ ⟨_, 2, rfl, Nat.le_refl _, hrow⟩ (by simp)) (fun k hk e => by cases e) (by simp) (by have := hP1.k.size; simp; omega) ?_; intro v2 w2 ho2 hg2 hv2; have hrp := PAt.rpB (PAt.below hP1 (by (repeat' (first | exact Below.refl _ _ | apply Below.drew | (refine bal ?_ _))))) hg2; have q5 := cell_of_row _ _ 1 _ _ _ hrp; have q6 := frozen_of_row hrp; have hP2 := PAt.setB (PAt.below hP1 (by (repeat' (first | exact Below.refl _ _ | apply Below.drew | (refine bal ?_ _))))) hg2 (ho2.mono (fun k hk => by rcases hk with hk | hk | hk; exact hk; exact hP0.past (by omega); exact hP0.past (by simp at hk; omega))); simp at q5; obtain ⟨Ac, cc, rfl, hcc, hrc⟩ := Own.row ho2; clear hrc) | fail
                refine hKq.out _ _ (by (try dsimp only) <;> (trivial)) (fun hHeld => ?_)
                clear hKq Kq
                (try simp only [List.getElem_toArray, List.getElem_cons_zero, List.getElem_cons_succ, Act.put, List.setIfInBounds_toArray, List.set_cons_zero, List.set_cons_succ])
                refine wpAnyH_take (i := 10) (v := _) rfl (by kernel_rfl) (by kernel_rfl) (by kernel_rfl) (fun _ _ _ h => h) (Or.inl ⟨by rfl, by (intro w hSw; (try dsimp only at hSw); go_simp <;> with_reducible rfl)⟩) (by assumption) ?_
                (try simp only [List.getElem_toArray, List.getElem_cons_zero, List.getElem_cons_succ, Act.put, List.setIfInBounds_toArray, List.set_cons_zero, List.set_cons_succ])
                refine wpAnyH_ready (rs := [11]) (by kernel_rfl) (by simp) ?_
                refine AllReadyH.cons rfl (fun Kq hKq => ?_) ?_
                · (try simp only [List.getElem_toArray, List.getElem_cons_zero, List.getElem_cons_succ])
                  refine step_fold (a := ⟨_, _⟩) ?_
                  go_simp
                  refine hKq.out _ _ (by (try dsimp only) <;> (trivial)) (fun hHeld => ?_)
                  clear hKq Kq
                  (try simp only [List.getElem_toArray, List.getElem_cons_zero, List.getElem_cons_succ, Act.put, List.setIfInBounds_toArray, List.set_cons_zero, List.set_cons_succ])
                  refine wpAnyH_done (by kernel_rfl) ?_ _
                  refine NoPanic.normal ?_
                  have hP3 := hP2.less (f' := f + 700) (by omega)
                  go_wp2
                  go_meet
                  exact ⟨_, _, rfl, hP3⟩
                exact AllReadyH.nil
              exact AllReadyH.nil
            exact AllReadyH.nil
          exact AllReadyH.nil
        refine AllReadyH.cons rfl (fun Kq hKq => ?_) ?_
        · (try simp only [List.getElem_toArray, List.getElem_cons_zero, List.getElem_cons_succ])
          refine step_fold (a := ⟨_, _⟩) ?_
          go_simp
          refine hKq.out _ _ (by (try dsimp only) <;> (trivial)) (fun hHeld => ?_)
          clear hKq Kq
          (try simp only [List.getElem_toArray, List.getElem_cons_zero, List.getElem_cons_succ, Act.put, List.setIfInBounds_toArray, List.set_cons_zero, List.set_cons_succ])
          refine wpAnyH_ready (rs := [1, 8]) (by kernel_rfl) (by simp) ?_
          refine AllReadyH.cons rfl (fun Kq hKq => ?_) ?_
          · (try simp only [List.getElem_toArray, List.getElem_cons_zero, List.getElem_cons_succ])
            refine step_fold (a := ⟨_, _⟩) ?_
            go_simp
            refine hKq.out _ _ (by (try dsimp only) <;> (trivial)) (fun hHeld => ?_)
            clear hKq Kq
            (try simp only [List.getElem_toArray, List.getElem_cons_zero, List.getElem_cons_succ, Act.put, List.setIfInBounds_toArray, List.set_cons_zero, List.set_cons_succ])
            refine wpAnyH_ready (rs := [8]) (by kernel_rfl) (by simp) ?_
            refine AllReadyH.cons rfl (fun Kq hKq => ?_) ?_
            · (try simp only [List.getElem_toArray, List.getElem_cons_zero, List.getElem_cons_succ])
              refine step_fold (a := ⟨_, _⟩) ?_
              go_simp
              refine hKq.out _ _ (by (try dsimp only) <;> (trivial)) (fun hHeld => ?_)
              clear hKq Kq
              (try simp only [List.getElem_toArray, List.getElem_cons_zero, List.getElem_cons_succ, Act.put, List.setIfInBounds_toArray, List.set_cons_zero, List.set_cons_succ])
              refine wpAnyH_ready (rs := [9]) (by kernel_rfl) (by simp) ?_
              refine AllReadyH.cons rfl (fun Kq hKq => ?_) ?_
              · (try simp only [List.getElem_toArray, List.getElem_cons_zero, List.getElem_cons_succ])
                refine step_fold (a := ⟨_, _⟩) ?_
                first | (refine step_append_kd (d := Kd.slice kAct) (by rfl) _ _ _ (by rfl) Try.underlying24 _ 24 infoActS rfl (by decide) (by decide) (by rfl) (Own.belowAll hP1.B (by (repeat' (first | exact Below.refl _ _ | apply Below.drew | (refine bal ?_ _))))) _ _ (by rfl) (Row.one_at (d := Kd.slice kAct) (e := 32) (S := fun k => W.heap.size ≤ k) (x := [⟨2, [], [1, 2], 0⟩, ⟨1, ds, [], 0⟩]) _ ⟨_, 2, rfl, Nat.le_refl _, hrow⟩ (by simp)) (fun k hk e => by cases e) (by simp) (by have := hP1.k.size; simp; omega) ?_; intro v2 w2 ho2 hg2 hv2; have hrp := PAt.rpB (PAt.below hP1 (by (repeat' (first | exact Below.refl _ _ | apply Below.drew | (refine bal ?_ _))))) hg2; have q5 := cell_of_row _ _ 1 _ _ _ hrp; have q6 := frozen_of_row hrp; have hP2 := PAt.setB (PAt.below hP1 (by (repeat' (first | exact Below.refl _ _ | apply Below.drew | (refine bal ?_ _))))) hg2 (ho2.mono (fun k hk => by rcases hk with hk | hk | hk; exact hk; exact hP0.past (by omega); exact hP0.past (by simp at hk; omega))); simp at q5; obtain ⟨Ac, cc, rfl, hcc, hrc⟩ := Own.row ho2; clear hrc) | fail
                refine hKq.out _ _ (by (try dsimp only) <;> (trivial)) (fun hHeld => ?_)
                clear hKq Kq
                (try simp only [List.getElem_toArray, List.getElem_cons_zero, List.getElem_cons_succ, Act.put, List.setIfInBounds_toArray, List.set_cons_zero, List.set_cons_succ])
                refine wpAnyH_take (i := 10) (v := _) rfl (by kernel_rfl) (by kernel_rfl) (by kernel_rfl) (fun _ _ _ h => h) (Or.inl ⟨by rfl, by (intro w hSw; (try dsimp only at hSw); go_simp <;> with_reducible rfl)⟩) (by assumption) ?_
                (try simp only [List.getElem_toArray, List.getElem_cons_zero, List.getElem_cons_succ, Act.put, List.setIfInBounds_toArray, List.set_cons_zero, List.set_cons_succ])
                refine wpAnyH_ready (rs := [11]) (by kernel_rfl) (by simp) ?_
                refine AllReadyH.cons rfl (fun Kq hKq => ?_) ?_
                · (try simp only [List.getElem_toArray, List.getElem_cons_zero, List.getElem_cons_succ])
                  refine step_fold (a := ⟨_, _⟩) ?_
                  go_simp
                  refine hKq.out _ _ (by (try dsimp only) <;> (trivial)) (fun hHeld => ?_)
                  clear hKq Kq
                  (try simp only [List.getElem_toArray, List.getElem_cons_zero, List.getElem_cons_succ, Act.put, List.setIfInBounds_toArray, List.set_cons_zero, List.set_cons_succ])
                  refine wpAnyH_done (by kernel_rfl) ?_ _
                  refine NoPanic.normal ?_
                  have hP3 := hP2.less (f' := f + 700) (by omega)
                  go_wp2
                  go_meet
                  exact ⟨_, _, rfl, hP3⟩
                exact AllReadyH.nil
              exact AllReadyH.nil
            exact AllReadyH.nil
          refine AllReadyH.cons rfl (fun Kq hKq => ?_) ?_
          · (try simp only [List.getElem_toArray, List.getElem_cons_zero, List.getElem_cons_succ])
            refine step_fold (a := ⟨_, _⟩) ?_
            go_simp
            refine hKq.out _ _ (by (try dsimp only) <;> (trivial)) (fun hHeld => ?_)
            clear hKq Kq
            (try simp only [List.getElem_toArray, List.getElem_cons_zero, List.getElem_cons_succ, Act.put, List.setIfInBounds_toArray, List.set_cons_zero, List.set_cons_succ])
            refine wpAnyH_ready (rs := [1]) (by kernel_rfl) (by simp) ?_
            refine AllReadyH.cons rfl (fun Kq hKq => ?_) ?_
            · (try simp only [List.getElem_toArray, List.getElem_cons_zero, List.getElem_cons_succ])
              refine step_fold (a := ⟨_, _⟩) ?_
              go_simp
              refine hKq.out _ _ (by (try dsimp only) <;> (trivial)) (fun hHeld => ?_)
              clear hKq Kq
              (try simp only [List.getElem_toArray, List.getElem_cons_zero, List.getElem_cons_succ, Act.put, List.setIfInBounds_toArray, List.set_cons_zero, List.set_cons_succ])
              refine wpAnyH_ready (rs := [9]) (by kernel_rfl) (by simp) ?_
              refine AllReadyH.cons rfl (fun Kq hKq => ?_) ?_
              · (try simp only [List.getElem_toArray, List.getElem_cons_zero, List.getElem_cons_succ])
                refine step_fold (a := ⟨_, _⟩) ?_
                first | (refine step_append_kd (d := Kd.slice kAct) (by rfl) _ _ _ (by rfl) Try.underlying24 _ 24 infoActS rfl (by decide) (by decide) (by rfl) (Own.belowAll hP1.B (by (repeat' (first | exact Below.refl _ _ | apply Below.drew | (refine bal ?_ _))))) _ _ (by rfl) (Row.one_at (d := Kd.slice kAct) (e := 32) (S := fun k => W.heap.size ≤ k) (x := [⟨2, [], [1, 2], 0⟩, ⟨1, ds, [], 0⟩]) _ ⟨_, 2, rfl, Nat.le_refl _, hrow⟩ (by simp)) (fun k hk e => by cases e) (by simp) (by have := hP1.k.size; simp; omega) ?_; intro v2 w2 ho2 hg2 hv2; have hrp := PAt.rpB (PAt.below hP1 (by (repeat' (first | exact Below.refl _ _ | apply Below.drew | (refine bal ?_ _))))) hg2; have q5 := cell_of_row _ _ 1 _ _ _ hrp; have q6 := frozen_of_row hrp; have hP2 := PAt.setB (PAt.below hP1 (by (repeat' (first | exact Below.refl _ _ | apply Below.drew | (refine bal ?_ _))))) hg2 (ho2.mono (fun k hk => by rcases hk with hk | hk | hk; exact hk; exact hP0.past (by omega); exact hP0.past (by simp at hk; omega))); simp at q5; obtain ⟨Ac, cc, rfl, hcc, hrc⟩ := Own.row ho2; clear hrc) | fail
                refine hKq.out _ _ (by (try dsimp only) <;> (trivial)) (fun hHeld => ?_)
                clear hKq Kq
                (try simp only [List.getElem_toArray, List.getElem_cons_zero, List.getElem_cons_succ, Act.put, List.setIfInBounds_toArray, List.set_cons_zero, List.set_cons_succ])
                refine wpAnyH_take (i := 10) (v := _) rfl (by kernel_rfl) (by kernel_rfl) (by kernel_rfl) (fun _ _ _ h => h) (Or.inl ⟨by rfl, by (intro w hSw; (try dsimp only at hSw); go_simp <;> with_reducible rfl)⟩) (by assumption) ?_
                (try simp only [List.getElem_toArray, List.getElem_cons_zero, List.getElem_cons_succ, Act.put, List.setIfInBounds_toArray, List.set_cons_zero, List.set_cons_succ])
                refine wpAnyH_ready (rs := [11]) (by kernel_rfl) (by simp) ?_
                refine AllReadyH.cons rfl (fun Kq hKq => ?_) ?_
                · (try simp only [List.getElem_toArray, List.getElem_cons_zero, List.getElem_cons_succ])
                  refine step_fold (a := ⟨_, _⟩) ?_
                  go_simp
                  refine hKq.out _ _ (by (try dsimp only) <;> (trivial)) (fun hHeld => ?_)
                  clear hKq Kq
                  (try simp only [List.getElem_toArray, List.getElem_cons_zero, List.getElem_cons_succ, Act.put, List.setIfInBounds_toArray, List.set_cons_zero, List.set_cons_succ])
                  refine wpAnyH_done (by kernel_rfl) ?_ _
                  refine NoPanic.normal ?_
                  have hP3 := hP2.less (f' := f + 700) (by omega)
                  go_wp2
                  go_meet
                  exact ⟨_, _, rfl, hP3⟩
                exact AllReadyH.nil
              exact AllReadyH.nil
            exact AllReadyH.nil
          exact AllReadyH.nil
        exact AllReadyH.nil
      exact AllReadyH.nil
    exact AllReadyH.nil
  case rest =>
    obtain ⟨vb0, bd0, hbd, hP3⟩ := hcut
    have hP3 := Lib.hid hP3
    clear hP0 q1 hbl0
    go_wp2
    go_loopw [4, 5, 6] (fun b _ _ wr => ∃ (k : Nat) (vb : Value) (bds : List (List Act)), b = .int .i64 k ∧ 1 ≤ k ∧ k ≤ 3 ∧ bds.length = k ∧ PAt wo wr g S A c bs (f + 100 + 200 * (3 - k)) wo.heap.size bp vc vb [x, y, z] bds) (fun b _ _ _ => 3 - (intOf b).toNat)
    case atStart => exact ⟨1, _, _, by go_num, by omega, by omega, hbd, hP3.out.less (by omega)⟩
    case round =>
      obtain ⟨k, vb, bds, rfl, hk1, hk3, hbl, hP⟩ := hrel
      clear hP3
      by_cases hkl : k < 3
      · have hk' : (k : Int) < 3 := by omega
        generalize hF : f + 100 + 200 * (3 - (k + 1)) = F at *
        have hPc := hP.less (f' := F + 199 + 1) (by omega)
        have HF := Lib.hid hF
        have HCL := Lib.hid hbl
        have HKL := Lib.hid hkl
        have HK1 := Lib.hid hk1
        clear hF hbl hkl hP hk3 hk1
        have hgi := hPc.R.lt
        obtain ⟨wi, rfl⟩ : ∃ w0 : World, w0 = wr := ⟨_, rfl⟩
        go_wp2_with (go_at_call 49; refine (pick_calls _ _ _ _ _ _ _ (F + 199) (PAt.R (PAt.al hPc _)) (by omega)).mono ?_; rintro e w1 ⟨n, rfl, hn0, hn1, hRn, hk⟩; have ho1 := Own.step (Own.empty_ kAct 35 wi wi.heap.size (fun k => wi.heap.size ≤ k) (Nat.le_refl _) (Nat.le_refl _)) (fun k hs hl => hk.block k hl (by omega)); have hk1 := Keep.trans ((Keep.refl _ wi).alloc _) hk; clear hk)
        obtain ⟨m, rfl⟩ := Int.eq_ofNat_of_zero_le hn0
        have hR3 := Lib.hid (hRn.less (f' := F + 40 + 30 * (1 + m)) (by omega))
        have hm5 : 1 + m ≤ 3 := by omega
        clear hRn hn0 hn1
        go_loopw [5, 6] (fun v n wr => ∃ (acs : List Act) (j : Nat), n = .int .i64 j ∧ Own kAct 35 wr wi.heap.size (fun k => wi.heap.size ≤ k) v acs ∧ acs.length + j ≤ 3 ∧ RdAt wr g S A c bs (F + 40 + 30 * j) ∧ Keep (fun k => k = g) wi wr) (fun _ n _ => (intOf n).toNat)
        case atStart => exact ⟨[], 1 + m, by go_num, ho1, by simpa using hm5, hR3.out, hk1⟩
        case round =>
          obtain ⟨acs, j, rfl, ho, hl, hRr, hkr⟩ := hrel
          clear hR3 ho1 hk1 hm5
          by_cases hlt : 0 < j
          · obtain ⟨j, rfl⟩ : ∃ i, j = i + 1 := ⟨j - 1, by omega⟩
            have hM := Mid.start (hRr.less (f' := F + 40 + 30 * j + 10 + 20) (by omega)) hkr ho hgi
            clear hRr hlt ho hkr
            have hkw : 0 ≤ IntKind.i64.wrap ((k : Int) - 1) ∧ IntKind.i64.wrap ((k : Int) - 1) ≤ 1000 := by rw [IntWalk.i64_in _ (by have := HK1.out; omega)]; have := HK1.out; omega
            go_wp2_with (first | (go_at_call 80; refine (l71Only_calls _ _ _ _ _ _ _ _ hM.R (by first | exact hkw.1 | (have := HK1.out; omega)) (by first | exact hkw.2 | omega)).mono ?_; rintro e w4 ⟨_, rfl, ⟨ds, D, cd, rfl, hcd, hdl, hrd⟩, hRn, hk⟩; have hM4 := hM.pick hRn hk; clear hRn hk hM) | (at_builtin; refine wpList_append_kd (d := kAct) rfl (.tmp 38) (.tmp 44) _ rfl Try.underlying32 _ 64 infoAct rfl (by decide) (by decide) rfl (hM4.al _).o _ _ rfl (Row.one_ (e := 35) (act_K_deeds (w := w4) ds hcd hrd)) (fun k hk => hM4.far k hk) (by simp; omega) (by have := hM4.k.size; simp; omega) ?_; intro v9 w9 ho9 hg9 hv9; obtain ⟨hR9, hk9, ho9⟩ := (hM4.al _).snoc ho9 hM4.k.size hg9))
            exact ⟨⟨_, j, rfl, ho9, by simp; omega, hR9.less (by omega), hk9⟩, by simp [intOf]⟩
          · have hj0 : j = 0 := by omega
            subst hj0
            obtain ⟨D, cd, rfl, hcd, _⟩ := ho.row
            have hM := Mid.start (hRr.less (f' := F + 30 + 1) (by omega)) hkr ho hgi
            clear hRr hlt ho hkr
            go_wp2_with (first | (go_at_call 49; refine (pick_calls _ _ _ _ _ _ _ (F + 30) hM.R (by omega)).mono ?_; rintro e w5 ⟨q, rfl, hq0, hq1, hRn, hk⟩; have hM5 := hM.pick hRn hk; clear hRn hk hM; have hP5 := PAt.pick hPc hM5.R hM5.k; have c5 := hP5.c1; have hrw := own_rowAt hM5.o) | (at_builtin; refine wpList_append_kd (d := kAct) rfl (.tmp 49) (.tmp 52) _ rfl Try.underlying32 _ 64 infoAct rfl (by decide) (by decide) rfl ((hM5.al _).al _).o _ _ rfl (Row.one_at (e := 35) (S := fun k => wr.heap.size ≤ k) (w5.heap.size + 1) (act_K_kids [3] (Nat.le_refl _) (row_oneI (heap_alloc_new w5 _) hM5.sz (by unfold i64; omega))) (by simp)) (fun k hk => hM5.far k (by have := hM5.sz; rcases hk with hk | hk; exact .inl hk; exact .inl (by omega))) (by simp; omega) (by have := hM5.k.size; simp; omega) ?_; intro v9 w9 ho9 hg9 hv9; obtain ⟨hR9, hk9, ho9⟩ := ((hM5.al _).al _).snoc ho9 (by have := hM5.k.size; omega) hg9; obtain ⟨D9, cd9, rfl, hcd9, hrw9⟩ := ho9.row; have hP9 := PAt.pick hPc hR9 hk9; have c9 := hP9.c1; clear hP5 c5 hrw) | (at_builtin; refine wpList_append_kd (d := Kd.slice kAct) rfl (.tmp 55) (.tmp 57) _ rfl Try.underlying24 _ 24 infoActS rfl (by decide) (by decide) rfl (Own.belowAll hP5.B (bal (Below.refl _ _) _)) _ _ rfl (Row.one_ (e := 32) (S := fun k => wi.heap.size ≤ k) (x := acs) ⟨D, cd, rfl, hcd, hrw.mono fun k hk => hk.1⟩) (fun k hk e => by have := hPc.lts.2.2.2 k e.symm; have := hM5.k.size; rcases hk with hk | hk; omega; omega) (by have := HCL.out; have := HKL.out; simp; omega) (by have := hP5.k.size; simp; omega) ?_; intro v2 w2 ho2 hg2 hv2; have hrp := PAt.rpB (PAt.al hP5 _) hg2; have q5 := cell_of_row _ _ 1 _ _ _ hrp; have q6 := frozen_of_row hrp; have hP2 := PAt.setB (PAt.al hP5 _) hg2 (ho2.mono (fun k hk => by have := hM5.k.size; rcases hk with hk | hk | hk; exact hk; exact hPc.past (by omega); exact hPc.past (by simp at hk; omega))); simp at q5; obtain ⟨Ac, cc, rfl, hcc, hrc⟩ := Own.row ho2; clear hrc) | (at_builtin; refine wpList_append_kd (d := Kd.slice kAct) rfl (.tmp 55) (.tmp 57) _ rfl Try.underlying24 _ 24 infoActS rfl (by decide) (by decide) rfl (Own.belowAll hP9.B (bal (Below.refl _ _) _)) _ _ rfl (Row.one_ (e := 32) (S := fun k => wi.heap.size ≤ k) (x := acs ++ [⟨2, [], [3], 0⟩]) ⟨D9, cd9, by simp, hcd9, hrw9⟩) (fun k hk e => by have := hPc.lts.2.2.2 k e.symm; have := hk9.size; rcases hk with hk | hk; omega; omega) (by have := HCL.out; have := HKL.out; simp; omega) (by have := hP9.k.size; simp; omega) ?_; intro v2 w2 ho2 hg2 hv2; have hrp := PAt.rpB (PAt.al hP9 _) hg2; have q5 := cell_of_row _ _ 1 _ _ _ hrp; have q6 := frozen_of_row hrp; have hP2 := PAt.setB (PAt.al hP9 _) hg2 (ho2.mono (fun k hk => by have := hk9.size; rcases hk with hk | hk | hk; exact hk; exact hPc.past (by omega); exact hPc.past (by simp at hk; omega))); simp at q5; obtain ⟨Ac, cc, rfl, hcc, hrc⟩ := Own.row ho2; clear hrc))
            all_goals
              have hP8 := hP2.less (f' := f + 100 + 200 * (3 - (k + 1))) (by have := HF.out; omega)
              simp only [List.length_append, List.length_cons, List.length_nil, Nat.zero_add] at hP8
              exact ⟨⟨k + 1, _, _, by go_num, by omega, by have := HKL.out; omega, by have := HCL.out; simp; omega, hP8⟩, by have := HKL.out; simp [intOf]; omega⟩
      · obtain rfl : k = 3 := by omega
        have hPd := hP.less (f' := f + 50 + 1) (by omega)
        obtain ⟨C', cC, hvc, hcC, _⟩ := OwnI.row hPd.C
        subst hvc
        have q1 := hPd.c1
        have hbl1 := (Array.getElem?_eq_some_iff.1 hPd.rp).1
        have HBL := Lib.hid hbl
        clear hbl hP hkl hk1 hk3 hv3
        go_wp2
        refine wp_region_noPanic ?_
        refine wp_region_held_drew (S := (fun w' => True)) (by kernel_rfl) (by (try dsimp only) <;> (trivial)) (fun hHeld => ?_)
        refine wpAnyH_take (i := 0) (v := _) rfl (by kernel_rfl) (by kernel_rfl) (by kernel_rfl) (fun _ _ _ h => h) (Or.inl ⟨by rfl, by (intro w hSw; (try dsimp only at hSw); go_simp <;> with_reducible rfl)⟩) (by assumption) ?_
        (try simp only [List.getElem_toArray, List.getElem_cons_zero, List.getElem_cons_succ, Act.put, List.setIfInBounds_toArray, List.set_cons_zero, List.set_cons_succ])
        refine wpAnyH_take (i := 2) (v := _) rfl (by kernel_rfl) (by kernel_rfl) (by kernel_rfl) (fun _ _ _ h => h) (Or.inl ⟨by rfl, by (intro w hSw; (try dsimp only at hSw); go_simp <;> with_reducible rfl)⟩) (by assumption) ?_
        (try simp only [List.getElem_toArray, List.getElem_cons_zero, List.getElem_cons_succ, Act.put, List.setIfInBounds_toArray, List.set_cons_zero, List.set_cons_succ])
        refine wpAnyH_ready (rs := [1, 3]) (by kernel_rfl) (by simp) ?_
        refine AllReadyH.cons rfl (fun Kq hKq => ?_) ?_
        · (try simp only [List.getElem_toArray, List.getElem_cons_zero, List.getElem_cons_succ])
          refine step_fold (a := ⟨_, _⟩) ?_
          go_simp
          refine hKq.out _ _ (by (try dsimp only) <;> (trivial)) (fun hHeld => ?_)
          clear hKq Kq
          (try simp only [List.getElem_toArray, List.getElem_cons_zero, List.getElem_cons_succ, Act.put, List.setIfInBounds_toArray, List.set_cons_zero, List.set_cons_succ])
          refine wpAnyH_ready (rs := [3]) (by kernel_rfl) (by simp) ?_
          refine AllReadyH.cons rfl (fun Kq hKq => ?_) ?_
          · (try simp only [List.getElem_toArray, List.getElem_cons_zero, List.getElem_cons_succ])
            refine step_fold (a := ⟨_, _⟩) ?_
            go_simp
            (go_at_call 49; refine (pick_calls _ _ _ _ _ _ _ (f + 50) (PAt.R (PAt.below hPd (by (repeat' (first | exact Below.refl _ _ | apply Below.drew | (refine bal ?_ _)))))) (by omega)).mono ?_; rintro e w7 ⟨x7, rfl, hx70, hx71, hRn, hk⟩; have hP1 := PAt.pick (PAt.below hPd (by (repeat' (first | exact Below.refl _ _ | apply Below.drew | (refine bal ?_ _))))) hRn hk; have q3 := hP1.c1; have hbl2 := (Array.getElem?_eq_some_iff.1 hP1.rp).1; have q41 : ∀ o1, (w7.alloc o1).cell? ⟨bp, 1, none⟩ = some vb := (fun o1 => ((bal (Below.refl _ _) o1).cell hbl2).trans q3); have q42 : ∀ o1 o2, ((w7.alloc o1).alloc o2).cell? ⟨bp, 1, none⟩ = some vb := (fun o1 o2 => ((bal (bal (Below.refl _ _) o1) o2).cell hbl2).trans q3); have q43 : ∀ o1 o2 o3, (((w7.alloc o1).alloc o2).alloc o3).cell? ⟨bp, 1, none⟩ = some vb := (fun o1 o2 o3 => ((bal (bal (bal (Below.refl _ _) o1) o2) o3).cell hbl2).trans q3); have hz7 := hk.size; (try simp at hz7); have hrow := row_deed_act w7 (B := wr.heap.size) (x := x7) (by omega) (by unfold i64; omega); clear hRn hk)
            refine hKq.out _ _ (by (try dsimp only) <;> (trivial)) (fun hHeld => ?_)
            clear hKq Kq
            (try simp only [List.getElem_toArray, List.getElem_cons_zero, List.getElem_cons_succ, Act.put, List.setIfInBounds_toArray, List.set_cons_zero, List.set_cons_succ])
            refine wpAnyH_take (i := 4) (v := _) rfl (by kernel_rfl) (by kernel_rfl) (by kernel_rfl) (fun _ _ _ h => h) (Or.inl ⟨by rfl, by (intro w hSw; (try dsimp only at hSw); go_simp <;> with_reducible rfl)⟩) (by assumption) ?_
            (try simp only [List.getElem_toArray, List.getElem_cons_zero, List.getElem_cons_succ, Act.put, List.setIfInBounds_toArray, List.set_cons_zero, List.set_cons_succ])
            refine wpAnyH_ready (rs := [5]) (by kernel_rfl) (by simp) ?_
            refine AllReadyH.cons rfl (fun Kq hKq => ?_) ?_
            · (try simp only [List.getElem_toArray, List.getElem_cons_zero, List.getElem_cons_succ])
              refine step_fold (a := ⟨_, _⟩) ?_
              go_simp
              refine hKq.out _ _ (by (try dsimp only) <;> (trivial)) (fun hHeld => ?_)
              clear hKq Kq
              (try simp only [List.getElem_toArray, List.getElem_cons_zero, List.getElem_cons_succ, Act.put, List.setIfInBounds_toArray, List.set_cons_zero, List.set_cons_succ])
              refine wpAnyH_take (i := 6) (v := _) rfl (by kernel_rfl) (by kernel_rfl) (by kernel_rfl) (fun _ _ _ h => h) (Or.inl ⟨by rfl, by (intro w hSw; (try dsimp only at hSw); go_simp <;> with_reducible rfl)⟩) (by assumption) ?_
              (try simp only [List.getElem_toArray, List.getElem_cons_zero, List.getElem_cons_succ, Act.put, List.setIfInBounds_toArray, List.set_cons_zero, List.set_cons_succ])
              refine wpAnyH_ready (rs := [7]) (by kernel_rfl) (by simp) ?_
              refine AllReadyH.cons rfl (fun Kq hKq => ?_) ?_
              · (try simp only [List.getElem_toArray, List.getElem_cons_zero, List.getElem_cons_succ])
                refine step_fold (a := ⟨_, _⟩) ?_
                go_simp
                refine hKq.out _ _ (by (try dsimp only) <;> (trivial)) (fun hHeld => ?_)
                clear hKq Kq
                (try simp only [List.getElem_toArray, List.getElem_cons_zero, List.getElem_cons_succ, Act.put, List.setIfInBounds_toArray, List.set_cons_zero, List.set_cons_succ])
                refine wpAnyH_ready (rs := [8]) (by kernel_rfl) (by simp) ?_
                refine AllReadyH.cons rfl (fun Kq hKq => ?_) ?_
                · (try simp only [List.getElem_toArray, List.getElem_cons_zero, List.getElem_cons_succ])
                  refine step_fold (a := ⟨_, _⟩) ?_
                  go_simp
                  refine hKq.out _ _ (by (try dsimp only) <;> (trivial)) (fun hHeld => ?_)
                  clear hKq Kq
                  (try simp only [List.getElem_toArray, List.getElem_cons_zero, List.getElem_cons_succ, Act.put, List.setIfInBounds_toArray, List.set_cons_zero, List.set_cons_succ])
                  refine wpAnyH_ready (rs := [9]) (by kernel_rfl) (by simp) ?_
                  refine AllReadyH.cons rfl (fun Kq hKq => ?_) ?_
                  · (try simp only [List.getElem_toArray, List.getElem_cons_zero, List.getElem_cons_succ])
                    refine step_fold (a := ⟨_, _⟩) ?_
                    first | (refine step_append_kd (d := Kd.slice kAct) (by rfl) _ _ _ (by rfl) Try.underlying24 _ 24 infoActS rfl (by decide) (by decide) (by rfl) (Own.belowAll hP1.B (by (repeat' (first | exact Below.refl _ _ | apply Below.drew | (refine bal ?_ _))))) _ _ (by rfl) (Row.one_at (d := Kd.slice kAct) (e := 32) (S := fun k => wr.heap.size ≤ k) (x := [⟨1, [⟨1, x7, 2⟩], [], 0⟩]) _ ⟨_, 1, rfl, Nat.le_refl _, hrow⟩ (by simp)) (fun k hk e => by have := hPd.lts.2.2.2 k e.symm; rcases hk with hk | hk; omega; first | omega | (simp at hk; omega)) (by have := HBL.out; simp; omega) (by have := hP1.k.size; simp; omega) ?_; intro v2 w2 ho2 hg2 hv2; have hrp := PAt.rpB (PAt.below hP1 (by (repeat' (first | exact Below.refl _ _ | apply Below.drew | (refine bal ?_ _))))) hg2; have q5 := cell_of_row _ _ 1 _ _ _ hrp; have q6 := frozen_of_row hrp; have hP2 := PAt.setB (PAt.below hP1 (by (repeat' (first | exact Below.refl _ _ | apply Below.drew | (refine bal ?_ _))))) hg2 (ho2.mono (fun k hk => by rcases hk with hk | hk | hk; exact hk; exact hPd.past (by omega); exact hPd.past (by simp at hk; omega))); simp at q5; obtain ⟨Ac, cc, rfl, hcc, hrc⟩ := Own.row ho2; clear hrc) | fail
                    refine hKq.out _ _ (by (try dsimp only) <;> (trivial)) (fun hHeld => ?_)
                    clear hKq Kq
                    (try simp only [List.getElem_toArray, List.getElem_cons_zero, List.getElem_cons_succ, Act.put, List.setIfInBounds_toArray, List.set_cons_zero, List.set_cons_succ])
                    refine wpAnyH_take (i := 10) (v := _) rfl (by kernel_rfl) (by kernel_rfl) (by kernel_rfl) (fun _ _ _ h => h) (Or.inl ⟨by rfl, by (intro w hSw; (try dsimp only at hSw); go_simp <;> with_reducible rfl)⟩) (by assumption) ?_
                    (try simp only [List.getElem_toArray, List.getElem_cons_zero, List.getElem_cons_succ, Act.put, List.setIfInBounds_toArray, List.set_cons_zero, List.set_cons_succ])
                    refine wpAnyH_ready (rs := [11]) (by kernel_rfl) (by simp) ?_
                    refine AllReadyH.cons rfl (fun Kq hKq => ?_) ?_
                    · (try simp only [List.getElem_toArray, List.getElem_cons_zero, List.getElem_cons_succ])
                      refine step_fold (a := ⟨_, _⟩) ?_
                      go_simp
                      refine hKq.out _ _ (by (try dsimp only) <;> (trivial)) (fun hHeld => ?_)
                      clear hKq Kq
                      (try simp only [List.getElem_toArray, List.getElem_cons_zero, List.getElem_cons_succ, Act.put, List.setIfInBounds_toArray, List.set_cons_zero, List.set_cons_succ])
                      refine wpAnyH_done (by kernel_rfl) ?_ _
                      refine NoPanic.normal ?_
                      have hP9 := hP2.less (f' := f) (by omega)
                      simp only [List.length_append, List.length_cons, List.length_nil, Nat.zero_add] at hP9
                      have s2 := hP9.c0
                      have s3 := hP9.c1
                      have s4 := cell_of_row _ _ 0 _ _ _ hP9.r2
                      have s5 := cell_of_row _ _ 1 _ _ _ hP9.r2
                      have s6 := frozen_of_row hP9.r2
                      simp at s4 s5
                      generalize hW9 : w2.setCell _ _ = W9 at *
                      go_wp2
                      exact bodyPost_ret (v := .agg #[.slice C' 3 cC, .slice Ac (bds.length + 1) cc]) (by simp [results, Try.results51, go_sem, s4, s5, s6]) rfl (PAt.doneBent hP9 (by simp) (by simp) _ _)
                    exact AllReadyH.nil
                  exact AllReadyH.nil
                exact AllReadyH.nil
              exact AllReadyH.nil
            exact AllReadyH.nil
          exact AllReadyH.nil
        refine AllReadyH.cons rfl (fun Kq hKq => ?_) ?_
        · (try simp only [List.getElem_toArray, List.getElem_cons_zero, List.getElem_cons_succ])
          refine step_fold (a := ⟨_, _⟩) ?_
          go_simp
          (go_at_call 49; refine (pick_calls _ _ _ _ _ _ _ (f + 50) (PAt.R (PAt.below hPd (by (repeat' (first | exact Below.refl _ _ | apply Below.drew | (refine bal ?_ _)))))) (by omega)).mono ?_; rintro e w7 ⟨x7, rfl, hx70, hx71, hRn, hk⟩; have hP1 := PAt.pick (PAt.below hPd (by (repeat' (first | exact Below.refl _ _ | apply Below.drew | (refine bal ?_ _))))) hRn hk; have q3 := hP1.c1; have hbl2 := (Array.getElem?_eq_some_iff.1 hP1.rp).1; have q41 : ∀ o1, (w7.alloc o1).cell? ⟨bp, 1, none⟩ = some vb := (fun o1 => ((bal (Below.refl _ _) o1).cell hbl2).trans q3); have q42 : ∀ o1 o2, ((w7.alloc o1).alloc o2).cell? ⟨bp, 1, none⟩ = some vb := (fun o1 o2 => ((bal (bal (Below.refl _ _) o1) o2).cell hbl2).trans q3); have q43 : ∀ o1 o2 o3, (((w7.alloc o1).alloc o2).alloc o3).cell? ⟨bp, 1, none⟩ = some vb := (fun o1 o2 o3 => ((bal (bal (bal (Below.refl _ _) o1) o2) o3).cell hbl2).trans q3); have hz7 := hk.size; (try simp at hz7); have hrow := row_deed_act w7 (B := wr.heap.size) (x := x7) (by omega) (by unfold i64; omega); clear hRn hk)
          refine hKq.out _ _ (by (try dsimp only) <;> (trivial)) (fun hHeld => ?_)
          clear hKq Kq
          (try simp only [List.getElem_toArray, List.getElem_cons_zero, List.getElem_cons_succ, Act.put, List.setIfInBounds_toArray, List.set_cons_zero, List.set_cons_succ])
          refine wpAnyH_take (i := 4) (v := _) rfl (by kernel_rfl) (by kernel_rfl) (by kernel_rfl) (fun _ _ _ h => h) (Or.inl ⟨by rfl, by (intro w hSw; (try dsimp only at hSw); go_simp <;> with_reducible rfl)⟩) (by assumption) ?_
          (try simp only [List.getElem_toArray, List.getElem_cons_zero, List.getElem_cons_succ, Act.put, List.setIfInBounds_toArray, List.set_cons_zero, List.set_cons_succ])
          refine wpAnyH_ready (rs := [1, 5]) (by kernel_rfl) (by simp) ?_
          refine AllReadyH.cons rfl (fun Kq hKq => ?_) ?_
          · (try simp only [List.getElem_toArray, List.getElem_cons_zero, List.getElem_cons_succ])
            refine step_fold (a := ⟨_, _⟩) ?_
            go_simp
            refine hKq.out _ _ (by (try dsimp only) <;> (trivial)) (fun hHeld => ?_)
            clear hKq Kq
            (try simp only [List.getElem_toArray, List.getElem_cons_zero, List.getElem_cons_succ, Act.put, List.setIfInBounds_toArray, List.set_cons_zero, List.set_cons_succ])
            refine wpAnyH_ready (rs := [5]) (by kernel_rfl) (by simp) ?_
            refine AllReadyH.cons rfl (fun Kq hKq => ?_) ?_
            · (try simp only [List.getElem_toArray, List.getElem_cons_zero, List.getElem_cons_succ])
              refine step_fold (a := ⟨_, _⟩) ?_
              go_simp
              refine hKq.out _ _ (by (try dsimp only) <;> (trivial)) (fun hHeld => ?_)
              clear hKq Kq
              (try simp only [List.getElem_toArray, List.getElem_cons_zero, List.getElem_cons_succ, Act.put, List.setIfInBounds_toArray, List.set_cons_zero, List.set_cons_succ])
              refine wpAnyH_take (i := 6) (v := _) rfl (by kernel_rfl) (by kernel_rfl) (by kernel_rfl) (fun _ _ _ h => h) (Or.inl ⟨by rfl, by (intro w hSw; (try dsimp only at hSw); go_simp <;> with_reducible rfl)⟩) (by assumption) ?_
              (try simp only [List.getElem_toArray, List.getElem_cons_zero, List.getElem_cons_succ, Act.put, List.setIfInBounds_toArray, List.set_cons_zero, List.set_cons_succ])
              refine wpAnyH_ready (rs := [7]) (by kernel_rfl) (by simp) ?_
              refine AllReadyH.cons rfl (fun Kq hKq => ?_) ?_
              · (try simp only [List.getElem_toArray, List.getElem_cons_zero, List.getElem_cons_succ])
                refine step_fold (a := ⟨_, _⟩) ?_
                go_simp
                refine hKq.out _ _ (by (try dsimp only) <;> (trivial)) (fun hHeld => ?_)
                clear hKq Kq
                (try simp only [List.getElem_toArray, List.getElem_cons_zero, List.getElem_cons_succ, Act.put, List.setIfInBounds_toArray, List.set_cons_zero, List.set_cons_succ])
                refine wpAnyH_ready (rs := [8]) (by kernel_rfl) (by simp) ?_
                refine AllReadyH.cons rfl (fun Kq hKq => ?_) ?_
                · (try simp only [List.getElem_toArray, List.getElem_cons_zero, List.getElem_cons_succ])
                  refine step_fold (a := ⟨_, _⟩) ?_
                  go_simp
                  refine hKq.out _ _ (by (try dsimp only) <;> (trivial)) (fun hHeld => ?_)
                  clear hKq Kq
                  (try simp only [List.getElem_toArray, List.getElem_cons_zero, List.getElem_cons_succ, Act.put, List.setIfInBounds_toArray, List.set_cons_zero, List.set_cons_succ])
                  refine wpAnyH_ready (rs := [9]) (by kernel_rfl) (by simp) ?_
                  refine AllReadyH.cons rfl (fun Kq hKq => ?_) ?_
                  · (try simp only [List.getElem_toArray, List.getElem_cons_zero, List.getElem_cons_succ])
                    refine step_fold (a := ⟨_, _⟩) ?_
                    first | (refine step_append_kd (d := Kd.slice kAct) (by rfl) _ _ _ (by rfl) Try.underlying24 _ 24 infoActS rfl (by decide) (by decide) (by rfl) (Own.belowAll hP1.B (by (repeat' (first | exact Below.refl _ _ | apply Below.drew | (refine bal ?_ _))))) _ _ (by rfl) (Row.one_at (d := Kd.slice kAct) (e := 32) (S := fun k => wr.heap.size ≤ k) (x := [⟨1, [⟨1, x7, 2⟩], [], 0⟩]) _ ⟨_, 1, rfl, Nat.le_refl _, hrow⟩ (by simp)) (fun k hk e => by have := hPd.lts.2.2.2 k e.symm; rcases hk with hk | hk; omega; first | omega | (simp at hk; omega)) (by have := HBL.out; simp; omega) (by have := hP1.k.size; simp; omega) ?_; intro v2 w2 ho2 hg2 hv2; have hrp := PAt.rpB (PAt.below hP1 (by (repeat' (first | exact Below.refl _ _ | apply Below.drew | (refine bal ?_ _))))) hg2; have q5 := cell_of_row _ _ 1 _ _ _ hrp; have q6 := frozen_of_row hrp; have hP2 := PAt.setB (PAt.below hP1 (by (repeat' (first | exact Below.refl _ _ | apply Below.drew | (refine bal ?_ _))))) hg2 (ho2.mono (fun k hk => by rcases hk with hk | hk | hk; exact hk; exact hPd.past (by omega); exact hPd.past (by simp at hk; omega))); simp at q5; obtain ⟨Ac, cc, rfl, hcc, hrc⟩ := Own.row ho2; clear hrc) | fail
                    refine hKq.out _ _ (by (try dsimp only) <;> (trivial)) (fun hHeld => ?_)
                    clear hKq Kq
                    (try simp only [List.getElem_toArray, List.getElem_cons_zero, List.getElem_cons_succ, Act.put, List.setIfInBounds_toArray, List.set_cons_zero, List.set_cons_succ])
                    refine wpAnyH_take (i := 10) (v := _) rfl (by kernel_rfl) (by kernel_rfl) (by kernel_rfl) (fun _ _ _ h => h) (Or.inl ⟨by rfl, by (intro w hSw; (try dsimp only at hSw); go_simp <;> with_reducible rfl)⟩) (by assumption) ?_
                    (try simp only [List.getElem_toArray, List.getElem_cons_zero, List.getElem_cons_succ, Act.put, List.setIfInBounds_toArray, List.set_cons_zero, List.set_cons_succ])
                    refine wpAnyH_ready (rs := [11]) (by kernel_rfl) (by simp) ?_
                    refine AllReadyH.cons rfl (fun Kq hKq => ?_) ?_
                    · (try simp only [List.getElem_toArray, List.getElem_cons_zero, List.getElem_cons_succ])
                      refine step_fold (a := ⟨_, _⟩) ?_
                      go_simp
                      refine hKq.out _ _ (by (try dsimp only) <;> (trivial)) (fun hHeld => ?_)
                      clear hKq Kq
                      (try simp only [List.getElem_toArray, List.getElem_cons_zero, List.getElem_cons_succ, Act.put, List.setIfInBounds_toArray, List.set_cons_zero, List.set_cons_succ])
                      refine wpAnyH_done (by kernel_rfl) ?_ _
                      refine NoPanic.normal ?_
                      have hP9 := hP2.less (f' := f) (by omega)
                      simp only [List.length_append, List.length_cons, List.length_nil, Nat.zero_add] at hP9
                      have s2 := hP9.c0
                      have s3 := hP9.c1
                      have s4 := cell_of_row _ _ 0 _ _ _ hP9.r2
                      have s5 := cell_of_row _ _ 1 _ _ _ hP9.r2
                      have s6 := frozen_of_row hP9.r2
                      simp at s4 s5
                      generalize hW9 : w2.setCell _ _ = W9 at *
                      go_wp2
                      exact bodyPost_ret (v := .agg #[.slice C' 3 cC, .slice Ac (bds.length + 1) cc]) (by simp [results, Try.results51, go_sem, s4, s5, s6]) rfl (PAt.doneBent hP9 (by simp) (by simp) _ _)
                    exact AllReadyH.nil
                  exact AllReadyH.nil
                exact AllReadyH.nil
              exact AllReadyH.nil
            exact AllReadyH.nil
          refine AllReadyH.cons rfl (fun Kq hKq => ?_) ?_
          · (try simp only [List.getElem_toArray, List.getElem_cons_zero, List.getElem_cons_succ])
            refine step_fold (a := ⟨_, _⟩) ?_
            go_simp
            refine hKq.out _ _ (by (try dsimp only) <;> (trivial)) (fun hHeld => ?_)
            clear hKq Kq
            (try simp only [List.getElem_toArray, List.getElem_cons_zero, List.getElem_cons_succ, Act.put, List.setIfInBounds_toArray, List.set_cons_zero, List.set_cons_succ])
            refine wpAnyH_take (i := 6) (v := _) rfl (by kernel_rfl) (by kernel_rfl) (by kernel_rfl) (fun _ _ _ h => h) (Or.inl ⟨by rfl, by (intro w hSw; (try dsimp only at hSw); go_simp <;> with_reducible rfl)⟩) (by assumption) ?_
            (try simp only [List.getElem_toArray, List.getElem_cons_zero, List.getElem_cons_succ, Act.put, List.setIfInBounds_toArray, List.set_cons_zero, List.set_cons_succ])
            refine wpAnyH_ready (rs := [1, 7]) (by kernel_rfl) (by simp) ?_
            refine AllReadyH.cons rfl (fun Kq hKq => ?_) ?_
            · (try simp only [List.getElem_toArray, List.getElem_cons_zero, List.getElem_cons_succ])
              refine step_fold (a := ⟨_, _⟩) ?_
              go_simp
              refine hKq.out _ _ (by (try dsimp only) <;> (trivial)) (fun hHeld => ?_)
              clear hKq Kq
              (try simp only [List.getElem_toArray, List.getElem_cons_zero, List.getElem_cons_succ, Act.put, List.setIfInBounds_toArray, List.set_cons_zero, List.set_cons_succ])
              refine wpAnyH_ready (rs := [7]) (by kernel_rfl) (by simp) ?_
              refine AllReadyH.cons rfl (fun Kq hKq => ?_) ?_
              · (try simp only [List.getElem_toArray, List.getElem_cons_zero, List.getElem_cons_succ])
                refine step_fold (a := ⟨_, _⟩) ?_
                go_simp
                refine hKq.out _ _ (by (try dsimp only) <;> (trivial)) (fun hHeld => ?_)
                clear hKq Kq
                (try simp only [List.getElem_toArray, List.getElem_cons_zero, List.getElem_cons_succ, Act.put, List.setIfInBounds_toArray, List.set_cons_zero, List.set_cons_succ])
                refine wpAnyH_ready (rs := [8]) (by kernel_rfl) (by simp) ?_
                refine AllReadyH.cons rfl (fun Kq hKq => ?_) ?_
                · (try simp only [List.getElem_toArray, List.getElem_cons_zero, List.getElem_cons_succ])
                  refine step_fold (a := ⟨_, _⟩) ?_
                  go_simp
                  refine hKq.out _ _ (by (try dsimp only) <;> (trivial)) (fun hHeld => ?_)
                  clear hKq Kq
                  (try simp only [List.getElem_toArray, List.getElem_cons_zero, List.getElem_cons_succ, Act.put, List.setIfInBounds_toArray, List.set_cons_zero, List.set_cons_succ])
                  refine wpAnyH_ready (rs := [9]) (by kernel_rfl) (by simp) ?_
                  refine AllReadyH.cons rfl (fun Kq hKq => ?_) ?_
                  · (try simp only [List.getElem_toArray, List.getElem_cons_zero, List.getElem_cons_succ])
                    refine step_fold (a := ⟨_, _⟩) ?_
                    first | (refine step_append_kd (d := Kd.slice kAct) (by rfl) _ _ _ (by rfl) Try.underlying24 _ 24 infoActS rfl (by decide) (by decide) (by rfl) (Own.belowAll hP1.B (by (repeat' (first | exact Below.refl _ _ | apply Below.drew | (refine bal ?_ _))))) _ _ (by rfl) (Row.one_at (d := Kd.slice kAct) (e := 32) (S := fun k => wr.heap.size ≤ k) (x := [⟨1, [⟨1, x7, 2⟩], [], 0⟩]) _ ⟨_, 1, rfl, Nat.le_refl _, hrow⟩ (by simp)) (fun k hk e => by have := hPd.lts.2.2.2 k e.symm; rcases hk with hk | hk; omega; first | omega | (simp at hk; omega)) (by have := HBL.out; simp; omega) (by have := hP1.k.size; simp; omega) ?_; intro v2 w2 ho2 hg2 hv2; have hrp := PAt.rpB (PAt.below hP1 (by (repeat' (first | exact Below.refl _ _ | apply Below.drew | (refine bal ?_ _))))) hg2; have q5 := cell_of_row _ _ 1 _ _ _ hrp; have q6 := frozen_of_row hrp; have hP2 := PAt.setB (PAt.below hP1 (by (repeat' (first | exact Below.refl _ _ | apply Below.drew | (refine bal ?_ _))))) hg2 (ho2.mono (fun k hk => by rcases hk with hk | hk | hk; exact hk; exact hPd.past (by omega); exact hPd.past (by simp at hk; omega))); simp at q5; obtain ⟨Ac, cc, rfl, hcc, hrc⟩ := Own.row ho2; clear hrc) | fail
                    refine hKq.out _ _ (by (try dsimp only) <;> (trivial)) (fun hHeld => ?_)
                    clear hKq Kq
                    (try simp only [List.getElem_toArray, List.getElem_cons_zero, List.getElem_cons_succ, Act.put, List.setIfInBounds_toArray, List.set_cons_zero, List.set_cons_succ])
                    refine wpAnyH_take (i := 10) (v := _) rfl (by kernel_rfl) (by kernel_rfl) (by kernel_rfl) (fun _ _ _ h => h) (Or.inl ⟨by rfl, by (intro w hSw; (try dsimp only at hSw); go_simp <;> with_reducible rfl)⟩) (by assumption) ?_
                    (try simp only [List.getElem_toArray, List.getElem_cons_zero, List.getElem_cons_succ, Act.put, List.setIfInBounds_toArray, List.set_cons_zero, List.set_cons_succ])
                    refine wpAnyH_ready (rs := [11]) (by kernel_rfl) (by simp) ?_
                    refine AllReadyH.cons rfl (fun Kq hKq => ?_) ?_
                    · (try simp only [List.getElem_toArray, List.getElem_cons_zero, List.getElem_cons_succ])
                      refine step_fold (a := ⟨_, _⟩) ?_
                      go_simp
                      refine hKq.out _ _ (by (try dsimp only) <;> (trivial)) (fun hHeld => ?_)
                      clear hKq Kq
                      (try simp only [List.getElem_toArray, List.getElem_cons_zero, List.getElem_cons_succ, Act.put, List.setIfInBounds_toArray, List.set_cons_zero, List.set_cons_succ])
                      refine wpAnyH_done (by kernel_rfl) ?_ _
                      refine NoPanic.normal ?_
                      have hP9 := hP2.less (f' := f) (by omega)
                      simp only [List.length_append, List.length_cons, List.length_nil, Nat.zero_add] at hP9
                      have s2 := hP9.c0
                      have s3 := hP9.c1
                      have s4 := cell_of_row _ _ 0 _ _ _ hP9.r2
                      have s5 := cell_of_row _ _ 1 _ _ _ hP9.r2
                      have s6 := frozen_of_row hP9.r2
                      simp at s4 s5
                      generalize hW9 : w2.setCell _ _ = W9 at *
                      go_wp2
                      exact bodyPost_ret (v := .agg #[.slice C' 3 cC, .slice Ac (bds.length + 1) cc]) (by simp [results, Try.results51, go_sem, s4, s5, s6]) rfl (PAt.doneBent hP9 (by simp) (by simp) _ _)
                    exact AllReadyH.nil
                  exact AllReadyH.nil
                exact AllReadyH.nil
              exact AllReadyH.nil
            refine AllReadyH.cons rfl (fun Kq hKq => ?_) ?_
            · (try simp only [List.getElem_toArray, List.getElem_cons_zero, List.getElem_cons_succ])
              refine step_fold (a := ⟨_, _⟩) ?_
              go_simp
              refine hKq.out _ _ (by (try dsimp only) <;> (trivial)) (fun hHeld => ?_)
              clear hKq Kq
              (try simp only [List.getElem_toArray, List.getElem_cons_zero, List.getElem_cons_succ, Act.put, List.setIfInBounds_toArray, List.set_cons_zero, List.set_cons_succ])
              refine wpAnyH_ready (rs := [1, 8]) (by kernel_rfl) (by simp) ?_
              refine AllReadyH.cons rfl (fun Kq hKq => ?_) ?_
              · (try simp only [List.getElem_toArray, List.getElem_cons_zero, List.getElem_cons_succ])
                refine step_fold (a := ⟨_, _⟩) ?_
                go_simp
                refine hKq.out _ _ (by (try dsimp only) <;> (trivial)) (fun hHeld => ?_)
                clear hKq Kq
                (try simp only [List.getElem_toArray, List.getElem_cons_zero, List.getElem_cons_succ, Act.put, List.setIfInBounds_toArray, List.set_cons_zero, List.set_cons_succ])
                refine wpAnyH_ready (rs := [8]) (by kernel_rfl) (by simp) ?_
                refine AllReadyH.cons rfl (fun Kq hKq => ?_) ?_
                · (try simp only [List.getElem_toArray, List.getElem_cons_zero, List.getElem_cons_succ])
                  refine step_fold (a := ⟨_, _⟩) ?_
                  go_simp
                  refine hKq.out _ _ (by (try dsimp only) <;> (trivial)) (fun hHeld => ?_)
                  clear hKq Kq
                  (try simp only [List.getElem_toArray, List.getElem_cons_zero, List.getElem_cons_succ, Act.put, List.setIfInBounds_toArray, List.set_cons_zero, List.set_cons_succ])
                  refine wpAnyH_ready (rs := [9]) (by kernel_rfl) (by simp) ?_
                  refine AllReadyH.cons rfl (fun Kq hKq => ?_) ?_
                  · (try simp only [List.getElem_toArray, List.getElem_cons_zero, List.getElem_cons_succ])
                    refine step_fold (a := ⟨_, _⟩) ?_
                    first | (refine step_append_kd (d := Kd.slice kAct) (by rfl) _ _ _ (by rfl) Try.underlying24 _ 24 infoActS rfl (by decide) (by decide) (by rfl) (Own.belowAll hP1.B (by (repeat' (first | exact Below.refl _ _ | apply Below.drew | (refine bal ?_ _))))) _ _ (by rfl) (Row.one_at (d := Kd.slice kAct) (e := 32) (S := fun k => wr.heap.size ≤ k) (x := [⟨1, [⟨1, x7, 2⟩], [], 0⟩]) _ ⟨_, 1, rfl, Nat.le_refl _, hrow⟩ (by simp)) (fun k hk e => by have := hPd.lts.2.2.2 k e.symm; rcases hk with hk | hk; omega; first | omega | (simp at hk; omega)) (by have := HBL.out; simp; omega) (by have := hP1.k.size; simp; omega) ?_; intro v2 w2 ho2 hg2 hv2; have hrp := PAt.rpB (PAt.below hP1 (by (repeat' (first | exact Below.refl _ _ | apply Below.drew | (refine bal ?_ _))))) hg2; have q5 := cell_of_row _ _ 1 _ _ _ hrp; have q6 := frozen_of_row hrp; have hP2 := PAt.setB (PAt.below hP1 (by (repeat' (first | exact Below.refl _ _ | apply Below.drew | (refine bal ?_ _))))) hg2 (ho2.mono (fun k hk => by rcases hk with hk | hk | hk; exact hk; exact hPd.past (by omega); exact hPd.past (by simp at hk; omega))); simp at q5; obtain ⟨Ac, cc, rfl, hcc, hrc⟩ := Own.row ho2; clear hrc) | fail
                    refine hKq.out _ _ (by (try dsimp only) <;> (trivial)) (fun hHeld => ?_)
                    clear hKq Kq
                    (try simp only [List.getElem_toArray, List.getElem_cons_zero, List.getElem_cons_succ, Act.put, List.setIfInBounds_toArray, List.set_cons_zero, List.set_cons_succ])
                    refine wpAnyH_take (i := 10) (v := _) rfl (by kernel_rfl) (by kernel_rfl) (by kernel_rfl) (fun _ _ _ h => h) (Or.inl ⟨by rfl, by (intro w hSw; (try dsimp only at hSw); go_simp <;> with_reducible rfl)⟩) (by assumption) ?_
                    (try simp only [List.getElem_toArray, List.getElem_cons_zero, List.getElem_cons_succ, Act.put, List.setIfInBounds_toArray, List.set_cons_zero, List.set_cons_succ])
                    refine wpAnyH_ready (rs := [11]) (by kernel_rfl) (by simp) ?_
                    refine AllReadyH.cons rfl (fun Kq hKq => ?_) ?_
                    · (try simp only [List.getElem_toArray, List.getElem_cons_zero, List.getElem_cons_succ])
                      refine step_fold (a := ⟨_, _⟩) ?_
                      go_simp
                      refine hKq.out _ _ (by (try dsimp only) <;> (trivial)) (fun hHeld => ?_)
                      clear hKq Kq
                      (try simp only [List.getElem_toArray, List.getElem_cons_zero, List.getElem_cons_succ, Act.put, List.setIfInBounds_toArray, List.set_cons_zero, List.set_cons_succ])
                      refine wpAnyH_done (by kernel_rfl) ?_ _
                      refine NoPanic.normal ?_
                      have hP9 := hP2.less (f' := f) (by omega)
                      simp only [List.length_append, List.length_cons, List.length_nil, Nat.zero_add] at hP9
                      have s2 := hP9.c0
                      have s3 := hP9.c1
                      have s4 := cell_of_row _ _ 0 _ _ _ hP9.r2
                      have s5 := cell_of_row _ _ 1 _ _ _ hP9.r2
                      have s6 := frozen_of_row hP9.r2
                      simp at s4 s5
                      generalize hW9 : w2.setCell _ _ = W9 at *
                      go_wp2
                      exact bodyPost_ret (v := .agg #[.slice C' 3 cC, .slice Ac (bds.length + 1) cc]) (by simp [results, Try.results51, go_sem, s4, s5, s6]) rfl (PAt.doneBent hP9 (by simp) (by simp) _ _)
                    exact AllReadyH.nil
                  exact AllReadyH.nil
                exact AllReadyH.nil
              refine AllReadyH.cons rfl (fun Kq hKq => ?_) ?_
              · (try simp only [List.getElem_toArray, List.getElem_cons_zero, List.getElem_cons_succ])
                refine step_fold (a := ⟨_, _⟩) ?_
                go_simp
                refine hKq.out _ _ (by (try dsimp only) <;> (trivial)) (fun hHeld => ?_)
                clear hKq Kq
                (try simp only [List.getElem_toArray, List.getElem_cons_zero, List.getElem_cons_succ, Act.put, List.setIfInBounds_toArray, List.set_cons_zero, List.set_cons_succ])
                refine wpAnyH_ready (rs := [1]) (by kernel_rfl) (by simp) ?_
                refine AllReadyH.cons rfl (fun Kq hKq => ?_) ?_
                · (try simp only [List.getElem_toArray, List.getElem_cons_zero, List.getElem_cons_succ])
                  refine step_fold (a := ⟨_, _⟩) ?_
                  go_simp
                  refine hKq.out _ _ (by (try dsimp only) <;> (trivial)) (fun hHeld => ?_)
                  clear hKq Kq
                  (try simp only [List.getElem_toArray, List.getElem_cons_zero, List.getElem_cons_succ, Act.put, List.setIfInBounds_toArray, List.set_cons_zero, List.set_cons_succ])
                  refine wpAnyH_ready (rs := [9]) (by kernel_rfl) (by simp) ?_
                  refine AllReadyH.cons rfl (fun Kq hKq => ?_) ?_
                  · (try simp only [List.getElem_toArray, List.getElem_cons_zero, List.getElem_cons_succ])
                    refine step_fold (a := ⟨_, _⟩) ?_
                    first | (refine step_append_kd (d := Kd.slice kAct) (by rfl) _ _ _ (by rfl) Try.underlying24 _ 24 infoActS rfl (by decide) (by decide) (by rfl) (Own.belowAll hP1.B (by (repeat' (first | exact Below.refl _ _ | apply Below.drew | (refine bal ?_ _))))) _ _ (by rfl) (Row.one_at (d := Kd.slice kAct) (e := 32) (S := fun k => wr.heap.size ≤ k) (x := [⟨1, [⟨1, x7, 2⟩], [], 0⟩]) _ ⟨_, 1, rfl, Nat.le_refl _, hrow⟩ (by simp)) (fun k hk e => by have := hPd.lts.2.2.2 k e.symm; rcases hk with hk | hk; omega; first | omega | (simp at hk; omega)) (by have := HBL.out; simp; omega) (by have := hP1.k.size; simp; omega) ?_; intro v2 w2 ho2 hg2 hv2; have hrp := PAt.rpB (PAt.below hP1 (by (repeat' (first | exact Below.refl _ _ | apply Below.drew | (refine bal ?_ _))))) hg2; have q5 := cell_of_row _ _ 1 _ _ _ hrp; have q6 := frozen_of_row hrp; have hP2 := PAt.setB (PAt.below hP1 (by (repeat' (first | exact Below.refl _ _ | apply Below.drew | (refine bal ?_ _))))) hg2 (ho2.mono (fun k hk => by rcases hk with hk | hk | hk; exact hk; exact hPd.past (by omega); exact hPd.past (by simp at hk; omega))); simp at q5; obtain ⟨Ac, cc, rfl, hcc, hrc⟩ := Own.row ho2; clear hrc) | fail
                    refine hKq.out _ _ (by (try dsimp only) <;> (trivial)) (fun hHeld => ?_)
                    clear hKq Kq
                    (try simp only [List.getElem_toArray, List.getElem_cons_zero, List.getElem_cons_succ, Act.put, List.setIfInBounds_toArray, List.set_cons_zero, List.set_cons_succ])
                    refine wpAnyH_take (i := 10) (v := _) rfl (by kernel_rfl) (by kernel_rfl) (by kernel_rfl) (fun _ _ _ h => h) (Or.inl ⟨by rfl, by (intro w hSw; (try dsimp only at hSw); go_simp <;> with_reducible rfl)⟩) (by assumption) ?_
                    (try simp only [List.getElem_toArray, List.getElem_cons_zero, List.getElem_cons_succ, Act.put, List.setIfInBounds_toArray, List.set_cons_zero, List.set_cons_succ])
                    refine wpAnyH_ready (rs := [11]) (by kernel_rfl) (by simp) ?_
                    refine AllReadyH.cons rfl (fun Kq hKq => ?_) ?_
                    · (try simp only [List.getElem_toArray, List.getElem_cons_zero, List.getElem_cons_succ])
                      refine step_fold (a := ⟨_, _⟩) ?_
                      go_simp
                      refine hKq.out _ _ (by (try dsimp only) <;> (trivial)) (fun hHeld => ?_)
                      clear hKq Kq
                      (try simp only [List.getElem_toArray, List.getElem_cons_zero, List.getElem_cons_succ, Act.put, List.setIfInBounds_toArray, List.set_cons_zero, List.set_cons_succ])
                      refine wpAnyH_done (by kernel_rfl) ?_ _
                      refine NoPanic.normal ?_
                      have hP9 := hP2.less (f' := f) (by omega)
                      simp only [List.length_append, List.length_cons, List.length_nil, Nat.zero_add] at hP9
                      have s2 := hP9.c0
                      have s3 := hP9.c1
                      have s4 := cell_of_row _ _ 0 _ _ _ hP9.r2
                      have s5 := cell_of_row _ _ 1 _ _ _ hP9.r2
                      have s6 := frozen_of_row hP9.r2
                      simp at s4 s5
                      generalize hW9 : w2.setCell _ _ = W9 at *
                      go_wp2
                      exact bodyPost_ret (v := .agg #[.slice C' 3 cC, .slice Ac (bds.length + 1) cc]) (by simp [results, Try.results51, go_sem, s4, s5, s6]) rfl (PAt.doneBent hP9 (by simp) (by simp) _ _)
                    exact AllReadyH.nil
                  exact AllReadyH.nil
                exact AllReadyH.nil
              exact AllReadyH.nil
            exact AllReadyH.nil
          exact AllReadyH.nil
        exact AllReadyH.nil
end Go.Proofs.Ytcpabkfoalhldaa
