/- Draws: a program is bent. -/
import Derived.Deep.RegionHeld3
import Derived.Deep.DrawnRows
import Derived.Test.YtcpabkfoalhldaaQi
namespace Go.Proofs.Ytcpabkfoalhldaa
open Go.RowKit
set_option linter.unusedVariables false
set_option linter.unusedSimpArgs false
attribute [local go_sem ↓] Go.wp_at_zero Go.wp_at_succ

set_option maxHeartbeats 4000000 in
set_option maxRecDepth 100000 in
theorem l71Bent_calls (p : Prog) (hok : progOk p = true) (hc1 : 1 ≤ p.cells.length) (C D : Option Addr) (cc cd : Nat) (S2 : Nat → Prop) (w : World) (g : Nat) (S : Nat → Prop) (A : Option Addr) (c : Nat) (bs : List Int) (f : Nat) (hR : RdAt w g S A c bs (f + 20)) (h2 : ∀ k, S2 k → k ≠ g ∧ k < w.heap.size)
    (hC : Row Kd.int w S2 C p.cells) (hD : Row (Kd.slice kAct) w S2 D p.bodies) :
    Calls Try.prog 78 #[.pointer (some ⟨g, 0, none⟩), .agg #[.slice C p.cells.length cc, .slice D p.bodies.length cd]] w (Drew (BentIn (fun k => S2 k ∨ w.heap.size ≤ k)) w g S A c bs f) := by
  have hgl := hR.lt
  have hform : formOk p = true := by simp only [progOk, Bool.and_eq_true] at hok; exact hok.1
  have hlen := formOk_len hform
  have HFO := Lib.hid hform
  have HLEN := Lib.hid hlen
  have HC1 := Lib.hid hc1
  have hCw : ∀ o1 o2, Row Kd.int ((w.alloc o1).alloc o2) S2 C p.cells := fun o1 o2 => hC.belowAll (bal (bal (Below.refl _ _) o1) o2)
  obtain ⟨wo, rfl⟩ : ∃ wo, wo = w := ⟨_, rfl⟩
  have hsz : ∀ o1 o2, ((wo.alloc o1).alloc o2).heap.size = wo.heap.size + 1 + 1 := fun o1 o2 => by simp
  clear hok hform hlen hc1
  go_enter Try.func78, Try.ntmps78
  go_wp2_with (at_builtin; refine wpList_clone_kd (d := Kd.int) rfl (.tmp 8) (.tmp 10) _ rfl Try.underlying23 _ 8 infoInt rfl (by decide) (by decide) (by rw [hsz]; rfl) C cc rfl (hCw _ _) (by have := HLEN.out; omega) ?_; intro vc w2 hoc hbc; obtain ⟨Ac, cac, rfl, hcac, hrc⟩ := Own.row hoc; clear hrc)
  have hb2 : Below wo.heap.size wo w2 := below_then (bal (bal (Below.refl _ _) _) _) (by rw [hsz]; omega) hbc
  have hz2 := hbc.size
  rw [hsz] at hz2
  have hbox : w2.heap[wo.heap.size]? = some (.cells #[.slice C p.cells.length cc, .slice D p.bodies.length cd] 26 (0, 0)) := by
    refine (hbc.block _ (by rw [hsz]; omega)).trans ?_
    rw [Below.heap_alloc _ _ _ (by simp)]
    exact heap_alloc_new wo _
  have hans : w2.heap[wo.heap.size + 1]? = some (.cells #[.slice none 0 0, .slice none 0 0] 26 (0, 0)) := by
    refine (hbc.block _ (by rw [hsz]; omega)).trans ?_
    have := heap_alloc_new (wo.alloc (.cells #[.slice C p.cells.length cc, .slice D p.bodies.length cd] 26)) (.cells #[.slice none 0 0, .slice none 0 0] 26)
    simpa using this
  have hOc := OwnI.of hoc
  have hblk := hOc.blk
  have hP0 : PAt wo (w2.alloc (.cells #[.slice Ac p.cells.length cac, .slice none 0 0] 26)) g S A c bs (f + 20) (wo.heap.size + 1) w2.heap.size (.slice Ac p.cells.length cac) (.slice none 0 0) p.cells [] := by
    refine ⟨hR.below (bal hb2 _), Keep.of_belowAll _ (bal hb2 _), ?_, heap_alloc_new w2 _, (hOc.lower (by rw [hsz]; omega)).al _, Own.nil _ _ _ _ _, by omega, by omega, by omega, fun k hk => ?_, hgl⟩
    · rw [Below.heap_alloc _ _ _ (by omega)]; exact hans
    · have := hblk k hk
      rw [hsz] at this
      omega
  have hbox' : (w2.alloc (.cells #[.slice Ac p.cells.length cac, .slice none 0 0] 26)).heap[wo.heap.size]? = some (.cells #[.slice C p.cells.length cc, .slice D p.bodies.length cd] 26 (0, 0)) := by
    rw [Below.heap_alloc _ _ _ (by omega)]; exact hbox
  clear hoc hbc hOc hblk hbox hans hb2 hCw
  have HPN : ∀ k, wo.heap.size ≤ k → (S2 k ∨ wo.heap.size ≤ k) := fun k hk => .inr hk
  go_loopw [6] (fun i wr => ∃ k : Nat, i = .int .i64 k ∧ k ≤ p.bodies.length ∧ wr.heap[wo.heap.size]? = some (.cells #[.slice C p.cells.length cc, .slice D p.bodies.length cd] 26 (0, 0)) ∧
      ((k = 0 ∧ PAt wo wr g S A c bs (f + 20) (wo.heap.size + 1) w2.heap.size (.slice Ac p.cells.length cac) (.slice none 0 0) p.cells []) ∨
       ∃ (gb cab : Nat) (v0 : Value) (a0 : List Act) (rest : List (List Act)), rest.length + 1 = k ∧ a0.length ≤ 4 ∧ gb ≠ wo.heap.size ∧ BAt (fun k => S2 k ∨ wo.heap.size ≤ k) wo wr g S A c bs (f + 20) (wo.heap.size + 1) w2.heap.size gb cab (.slice Ac p.cells.length cac) v0 p.cells a0 rest)) (fun i _ => p.bodies.length - (intOf i).toNat)
  case atStart => exact ⟨0, rfl, Nat.zero_le _, hbox', .inl ⟨rfl, hP0⟩⟩
  case round =>
    obtain ⟨k, rfl, hk, hbx, hst⟩ := hrel
    have hbl := (Array.getElem?_eq_some_iff.1 hbx).1
    have hx0 := cell_of_row _ _ 0 _ _ _ hbx
    have hx1 := cell_of_row _ _ 1 _ _ _ hbx
    simp at hx0 hx1
    have hm := hD.1
    by_cases hlt : k < p.bodies.length
    · have hlti : (k : Int) < p.bodies.length := by omega
      rcases hst with ⟨rfl, hP⟩ | ⟨gb, cab, v0, a0, rest, hrk, ha4, hgw, hB⟩
      · obtain ⟨ad, B1, c1, rfl, hl1, hc1, hlc1, hr1⟩ := at_slice (hD.keep hP.k (fun k hs _ => (h2 k hs).1)) hlt
        have q1 := hP.c1
        have hbl1 := (Array.getElem?_eq_some_iff.1 hP.rp).1
        have HP := Lib.hid hP
        have hadd : ad.add 0 = ad := by simp [Addr.add]
        rw [hadd] at hc1
        clear hP0 hP hsz
        have hlti0 : (0 : Int) < p.bodies.length := by omega
        go_wp2_with fail
        have hL4 : p.bodies[0].length ≤ 4 := by
          have := formOk_body HFO.out hlt
          simp only [bodyOk, Bool.and_eq_true, decide_eq_true_eq] at this
          exact this.1
        have HL4 := Lib.hid hL4
        have hn1 : (⟨w2.heap.size, 1, none⟩ : Addr).block ≠ (⟨wo.heap.size, 1, none⟩ : Addr).block := by simp; omega
        have hn2 : (⟨w2.heap.size, 1, none⟩ : Addr).block ≠ ad.block := by
          obtain ⟨ad', e, hs, _⟩ := hD.2 (by intro h; rw [h] at hlt; simp at hlt)
          injection e with e
          subst e
          have := (h2 _ hs).2
          simp; omega
        clear hL4
        refine wp_region_noPanic ?_
        refine wp_region_held_drew (S := (fun w' => w'.cell? ⟨wo.heap.size, 1, none⟩ = some (.slice (some ad) p.bodies.length cd) ∧ w'.cell? ad = some (.slice B1 p.bodies[0].length c1))) (by kernel_rfl) (by (try dsimp only) <;> (first | (go_keep; done) | exact ⟨y3 _, y4 _⟩ | exact ⟨y1, y2⟩ | exact ⟨x1, x2⟩)) (fun hHeld => ?_)
        refine wpAnyH_take (i := 0) (v := _) rfl (by kernel_rfl) (by kernel_rfl) (by kernel_rfl) (fun _ _ _ h => h) (Or.inl ⟨by rfl, by (intro w hSw; (try dsimp only at hSw); go_simp <;> with_reducible rfl)⟩) (by assumption) ?_
        (try simp only [List.getElem_toArray, List.getElem_cons_zero, List.getElem_cons_succ, Act.put, List.setIfInBounds_toArray, List.set_cons_zero, List.set_cons_succ])
        refine wpAnyH_take (i := 3) (v := _) rfl (by kernel_rfl) (by kernel_rfl) (by kernel_rfl) (fun _ _ _ h => h) (Or.inl ⟨by rfl, by (intro w hSw; (try dsimp only at hSw); go_simp <;> with_reducible rfl)⟩) (by assumption) ?_
        (try simp only [List.getElem_toArray, List.getElem_cons_zero, List.getElem_cons_succ, Act.put, List.setIfInBounds_toArray, List.set_cons_zero, List.set_cons_succ])
        refine wpAnyH_take (i := 4) (v := _) rfl (by kernel_rfl) (by kernel_rfl) (by kernel_rfl) (fun _ _ _ h => h) (Or.inl ⟨by rfl, by (intro w hSw; (try dsimp only at hSw); go_simp <;> with_reducible rfl)⟩) (by assumption) ?_
        (try simp only [List.getElem_toArray, List.getElem_cons_zero, List.getElem_cons_succ, Act.put, List.setIfInBounds_toArray, List.set_cons_zero, List.set_cons_succ])
        refine wpAnyH_take (i := 5) (v := _) rfl (by kernel_rfl) (by kernel_rfl) (by kernel_rfl) (fun _ _ _ h => h) (Or.inl ⟨by rfl, by (intro w hSw; (try dsimp only at hSw); go_simp <;> with_reducible rfl)⟩) (by assumption) ?_
        (try simp only [List.getElem_toArray, List.getElem_cons_zero, List.getElem_cons_succ, Act.put, List.setIfInBounds_toArray, List.set_cons_zero, List.set_cons_succ])
        refine wpAnyH_take (i := 6) (v := _) rfl (by kernel_rfl) (by kernel_rfl) (by kernel_rfl) (fun _ _ _ h => h) (Or.inl ⟨by rfl, by (intro w hSw; (try dsimp only at hSw); go_simp <;> with_reducible rfl)⟩) (by assumption) ?_
        (try simp only [List.getElem_toArray, List.getElem_cons_zero, List.getElem_cons_succ, Act.put, List.setIfInBounds_toArray, List.set_cons_zero, List.set_cons_succ])
        refine wpAnyH_take (i := 7) (v := _) rfl (by kernel_rfl) (by kernel_rfl) (by kernel_rfl) (fun _ _ _ h => h) (Or.inl ⟨by rfl, by (intro w hSw; (try dsimp only at hSw); go_simp <;> with_reducible rfl)⟩) (by assumption) ?_
        (try simp only [List.getElem_toArray, List.getElem_cons_zero, List.getElem_cons_succ, Act.put, List.setIfInBounds_toArray, List.set_cons_zero, List.set_cons_succ])
        refine wpAnyH_ready (rs := [1, 2]) (by kernel_rfl) (by simp) ?_
        refine AllReadyH.cons rfl (fun Kq hKq => ?_) ?_
        · (try simp only [List.getElem_toArray, List.getElem_cons_zero, List.getElem_cons_succ])
          refine step_fold (a := ⟨_, _⟩) ?_
          go_simp
          refine hKq.out _ _ (by (try dsimp only) <;> (first | (go_keep; done) | exact ⟨y3 _, y4 _⟩ | exact ⟨y1, y2⟩ | exact ⟨x1, x2⟩)) (fun hHeld => ?_)
          clear hKq Kq
          (try simp only [List.getElem_toArray, List.getElem_cons_zero, List.getElem_cons_succ, Act.put, List.setIfInBounds_toArray, List.set_cons_zero, List.set_cons_succ])
          refine wpAnyH_ready (rs := [2]) (by kernel_rfl) (by simp) ?_
          refine AllReadyH.cons rfl (fun Kq hKq => ?_) ?_
          · (try simp only [List.getElem_toArray, List.getElem_cons_zero, List.getElem_cons_succ])
            refine step_fold (a := ⟨_, _⟩) ?_
            go_simp
            refine hKq.out _ _ (by (try dsimp only) <;> (first | (go_keep; done) | exact ⟨y3 _, y4 _⟩ | exact ⟨y1, y2⟩ | exact ⟨x1, x2⟩)) (fun hHeld => ?_)
            clear hKq Kq
            (try simp only [List.getElem_toArray, List.getElem_cons_zero, List.getElem_cons_succ, Act.put, List.setIfInBounds_toArray, List.set_cons_zero, List.set_cons_succ])
            refine wpAnyH_ready (rs := [8]) (by kernel_rfl) (by simp) ?_
            refine AllReadyH.cons rfl (fun Kq hKq => ?_) ?_
            · (try simp only [List.getElem_toArray, List.getElem_cons_zero, List.getElem_cons_succ])
              refine step_fold (a := ⟨_, _⟩) ?_
              first | (refine step_clone_kd (d := kAct) wr.drew (by rfl) (by rfl) _ _ _ (by rfl) Try.underlying32 _ 64 infoAct rfl (by decide) (by decide) (by rfl) B1 c1 (by rfl) (Row.belowAll hr1 (by (repeat' (first | exact Below.refl _ _ | apply Below.drew | (refine bal ?_ _))))) (by have := HL4.out; omega) ?_; intro v1 w1 ho1 hb1; have hP1 := PAt.below (PAt.below HP.out (by (repeat' (first | exact Below.refl _ _ | apply Below.drew | (refine bal ?_ _))))) hb1; have q2 := hP1.c1; have hbl2 := (Array.getElem?_eq_some_iff.1 hP1.rp).1; obtain ⟨A0, n0, rfl, hn0, hr0⟩ := Own.row ho1; have z1 : wo.heap.size < w1.heap.size := Nat.lt_of_lt_of_le hbl hb1.size; have z2 : ad.block < w1.heap.size := Nat.lt_of_lt_of_le hl1 hb1.size; have z3 : wr.heap.size ≤ w1.heap.size := hb1.size; have x1 := (hb1.cell (p := ⟨wo.heap.size, 1, none⟩) hbl).trans hx1; have x2 := (hb1.cell (p := ad) hl1).trans hc1; clear hr0) | (refine step_clone_kd (d := kAct) wr (by rfl) (by rfl) _ _ _ (by rfl) Try.underlying32 _ 64 infoAct rfl (by decide) (by decide) (by rfl) B1 c1 (by rfl) (Row.belowAll hr1 (by (repeat' (first | exact Below.refl _ _ | apply Below.drew | (refine bal ?_ _))))) (by have := HL4.out; omega) ?_; intro v1 w1 ho1 hb1; have hP1 := PAt.below (PAt.below HP.out (by (repeat' (first | exact Below.refl _ _ | apply Below.drew | (refine bal ?_ _))))) hb1; have q2 := hP1.c1; have hbl2 := (Array.getElem?_eq_some_iff.1 hP1.rp).1; obtain ⟨A0, n0, rfl, hn0, hr0⟩ := Own.row ho1; have z1 : wo.heap.size < w1.heap.size := Nat.lt_of_lt_of_le hbl hb1.size; have z2 : ad.block < w1.heap.size := Nat.lt_of_lt_of_le hl1 hb1.size; have z3 : wr.heap.size ≤ w1.heap.size := hb1.size; have x1 := (hb1.cell (p := ⟨wo.heap.size, 1, none⟩) hbl).trans hx1; have x2 := (hb1.cell (p := ad) hl1).trans hc1; clear hr0) | (refine step_clone_kd (d := kAct) wr.drew.drew (by rfl) (by rfl) _ _ _ (by rfl) Try.underlying32 _ 64 infoAct rfl (by decide) (by decide) (by rfl) B1 c1 (by rfl) (Row.belowAll hr1 (by (repeat' (first | exact Below.refl _ _ | apply Below.drew | (refine bal ?_ _))))) (by have := HL4.out; omega) ?_; intro v1 w1 ho1 hb1; have hP1 := PAt.below (PAt.below HP.out (by (repeat' (first | exact Below.refl _ _ | apply Below.drew | (refine bal ?_ _))))) hb1; have q2 := hP1.c1; have hbl2 := (Array.getElem?_eq_some_iff.1 hP1.rp).1; obtain ⟨A0, n0, rfl, hn0, hr0⟩ := Own.row ho1; have z1 : wo.heap.size < w1.heap.size := Nat.lt_of_lt_of_le hbl hb1.size; have z2 : ad.block < w1.heap.size := Nat.lt_of_lt_of_le hl1 hb1.size; have z3 : wr.heap.size ≤ w1.heap.size := hb1.size; have x1 := (hb1.cell (p := ⟨wo.heap.size, 1, none⟩) hbl).trans hx1; have x2 := (hb1.cell (p := ad) hl1).trans hc1; clear hr0)
              refine hKq.out _ _ (by (try dsimp only) <;> (first | (go_keep; done) | exact ⟨y3 _, y4 _⟩ | exact ⟨y1, y2⟩ | exact ⟨x1, x2⟩)) (fun hHeld => ?_)
              clear hKq Kq
              (try simp only [List.getElem_toArray, List.getElem_cons_zero, List.getElem_cons_succ, Act.put, List.setIfInBounds_toArray, List.set_cons_zero, List.set_cons_succ])
              refine wpAnyH_ready (rs := [9]) (by kernel_rfl) (by simp) ?_
              refine AllReadyH.cons rfl (fun Kq hKq => ?_) ?_
              · (try simp only [List.getElem_toArray, List.getElem_cons_zero, List.getElem_cons_succ])
                refine step_fold (a := ⟨_, _⟩) ?_
                go_simp
                refine hKq.out _ _ (by (try dsimp only) <;> (first | (go_keep; done) | exact ⟨y3 _, y4 _⟩ | exact ⟨y1, y2⟩ | exact ⟨x1, x2⟩)) (fun hHeld => ?_)
                clear hKq Kq
                (try simp only [List.getElem_toArray, List.getElem_cons_zero, List.getElem_cons_succ, Act.put, List.setIfInBounds_toArray, List.set_cons_zero, List.set_cons_succ])
                refine wpAnyH_ready (rs := [10]) (by kernel_rfl) (by simp) ?_
                refine AllReadyH.cons rfl (fun Kq hKq => ?_) ?_
                · (try simp only [List.getElem_toArray, List.getElem_cons_zero, List.getElem_cons_succ])
                  refine step_fold (a := ⟨_, _⟩) ?_
                  ((refine step_append_kd (d := Kd.hv (.slice A0 p.bodies[0].length n0) rfl (fun k => (Value.slice A0 p.bodies[0].length n0).ownBlock = some k) kAct) (by rfl) _ _ _ (by rfl) Try.underlying24 _ 24 infoActS rfl (by show 0 < 1; omega) (by decide) (by rfl) (Own.nil _ _ _ wo.heap.size (fun _ => False)) _ _ (by rfl) (Row.one_at (e := 32) (S := fun _ => False) (x := (true, p.bodies[0])) _ (Kd.hv_head rfl _ _ _ _) (by simp)) (fun k hk e => by simp [Value.ownBlock] at e) (by simp) (by have := hP1.k.size; simp; omega) ?_; intro v2 w3 ho2 hg2 hv2; have q5 := PAt.rpB (PAt.below hP1 (by (repeat' (first | exact Below.refl _ _ | apply Below.drew | (refine bal ?_ _))))) hg2; have q6 := cell_of_row _ _ 1 _ _ _ q5; have q7 := frozen_of_row q5; simp at q6; have hkg := Keep.of_grown (T := fun _ => False) hg2 (fun k hk => by cases hk); have y1 := ((hkg.cell (p := ⟨wo.heap.size, 1, none⟩) (by simp; omega) (fun h => h)).trans ((bal (Below.refl _ _) _).cell z1)).trans x1; have y2 := ((hkg.cell (p := ad) (by simp; omega) (fun h => h)).trans ((bal (Below.refl _ _) _).cell z2)).trans x2; have y3 := (fun u => (World.cell?_setCell_far w3 ⟨w2.heap.size, 1, none⟩ ⟨wo.heap.size, 1, none⟩ u hn1).trans y1); have y4 := (fun u => (World.cell?_setCell_far w3 ⟨w2.heap.size, 1, none⟩ ad u hn2).trans y2); have b1 := (fun u => (Below.heap_setCell w3 ⟨w2.heap.size, 1, none⟩ u wo.heap.size (by simp; omega)).trans ((hkg.block wo.heap.size (by simp; omega) (fun h => h)).trans ((Below.heap_alloc w1 _ wo.heap.size z1).trans ((hb1.block wo.heap.size hbl).trans hbx)))); obtain ⟨gb, cab, rfl, hB⟩ := BAt.first (P := fun k => S2 k ∨ wo.heap.size ≤ k) (PAt.below hP1 (by (repeat' (first | exact Below.refl _ _ | apply Below.drew | (refine bal ?_ _))))) (fun h => by rcases h with h | h; exact (h2 g h).1 rfl; omega) HPN (((ho1.lower (by have := HP.out.k.size; exact this)).mono (fun k hk => own2 HP.out h2 k hk)).belowAll (by (repeat' (first | exact Below.refl _ _ | apply Below.drew | (refine bal ?_ _))))) hg2 (ho2.mono (fun k hk => own3 HP.out z3 k (by rcases hk with hk | (hk | hk) | hk; exact hk.elim; exact hk.elim; omega; (simp at hk; omega)))) hv2))
                  refine hKq.out _ _ (by (try dsimp only) <;> (first | (go_keep; done) | exact ⟨y3 _, y4 _⟩ | exact ⟨y1, y2⟩ | exact ⟨x1, x2⟩)) (fun hHeld => ?_)
                  clear hKq Kq
                  (try simp only [List.getElem_toArray, List.getElem_cons_zero, List.getElem_cons_succ, Act.put, List.setIfInBounds_toArray, List.set_cons_zero, List.set_cons_succ])
                  refine wpAnyH_take (i := 11) (v := _) rfl (by kernel_rfl) (by kernel_rfl) (by kernel_rfl) (fun _ _ _ h => h) (Or.inl ⟨by rfl, by (intro w hSw; (try dsimp only at hSw); go_simp <;> with_reducible rfl)⟩) (by assumption) ?_
                  (try simp only [List.getElem_toArray, List.getElem_cons_zero, List.getElem_cons_succ, Act.put, List.setIfInBounds_toArray, List.set_cons_zero, List.set_cons_succ])
                  refine wpAnyH_ready (rs := [12]) (by kernel_rfl) (by simp) ?_
                  refine AllReadyH.cons rfl (fun Kq hKq => ?_) ?_
                  · (try simp only [List.getElem_toArray, List.getElem_cons_zero, List.getElem_cons_succ])
                    refine step_fold (a := ⟨_, _⟩) ?_
                    go_simp
                    refine hKq.out _ _ (by (try dsimp only) <;> (first | (go_keep; done) | exact ⟨y3 _, y4 _⟩ | exact ⟨y1, y2⟩ | exact ⟨x1, x2⟩)) (fun hHeld => ?_)
                    clear hKq Kq
                    (try simp only [List.getElem_toArray, List.getElem_cons_zero, List.getElem_cons_succ, Act.put, List.setIfInBounds_toArray, List.set_cons_zero, List.set_cons_succ])
                    refine wpAnyH_done (by kernel_rfl) ?_ _
                    refine NoPanic.normal ?_
                    go_wp2
                    exact ⟨⟨1, by go_num, by omega, b1 _, .inr ⟨gb, cab, _, _, [], rfl, HL4.out, by simp [Value.ownBlock] at hv2; omega, hB⟩⟩, by simp [intOf]; omega⟩
                  exact AllReadyH.nil
                exact AllReadyH.nil
              exact AllReadyH.nil
            exact AllReadyH.nil
          exact AllReadyH.nil
        refine AllReadyH.cons rfl (fun Kq hKq => ?_) ?_
        · (try simp only [List.getElem_toArray, List.getElem_cons_zero, List.getElem_cons_succ])
          refine step_fold (a := ⟨_, _⟩) ?_
          go_simp
          refine hKq.out _ _ (by (try dsimp only) <;> (first | (go_keep; done) | exact ⟨y3 _, y4 _⟩ | exact ⟨y1, y2⟩ | exact ⟨x1, x2⟩)) (fun hHeld => ?_)
          clear hKq Kq
          (try simp only [List.getElem_toArray, List.getElem_cons_zero, List.getElem_cons_succ, Act.put, List.setIfInBounds_toArray, List.set_cons_zero, List.set_cons_succ])
          refine wpAnyH_ready (rs := [1, 8]) (by kernel_rfl) (by simp) ?_
          refine AllReadyH.cons rfl (fun Kq hKq => ?_) ?_
          · (try simp only [List.getElem_toArray, List.getElem_cons_zero, List.getElem_cons_succ])
            refine step_fold (a := ⟨_, _⟩) ?_
            go_simp
            refine hKq.out _ _ (by (try dsimp only) <;> (first | (go_keep; done) | exact ⟨y3 _, y4 _⟩ | exact ⟨y1, y2⟩ | exact ⟨x1, x2⟩)) (fun hHeld => ?_)
            clear hKq Kq
            (try simp only [List.getElem_toArray, List.getElem_cons_zero, List.getElem_cons_succ, Act.put, List.setIfInBounds_toArray, List.set_cons_zero, List.set_cons_succ])
            refine wpAnyH_ready (rs := [8]) (by kernel_rfl) (by simp) ?_
            refine AllReadyH.cons rfl (fun Kq hKq => ?_) ?_
            · (try simp only [List.getElem_toArray, List.getElem_cons_zero, List.getElem_cons_succ])
              refine step_fold (a := ⟨_, _⟩) ?_
              first | (refine step_clone_kd (d := kAct) wr.drew (by rfl) (by rfl) _ _ _ (by rfl) Try.underlying32 _ 64 infoAct rfl (by decide) (by decide) (by rfl) B1 c1 (by rfl) (Row.belowAll hr1 (by (repeat' (first | exact Below.refl _ _ | apply Below.drew | (refine bal ?_ _))))) (by have := HL4.out; omega) ?_; intro v1 w1 ho1 hb1; have hP1 := PAt.below (PAt.below HP.out (by (repeat' (first | exact Below.refl _ _ | apply Below.drew | (refine bal ?_ _))))) hb1; have q2 := hP1.c1; have hbl2 := (Array.getElem?_eq_some_iff.1 hP1.rp).1; obtain ⟨A0, n0, rfl, hn0, hr0⟩ := Own.row ho1; have z1 : wo.heap.size < w1.heap.size := Nat.lt_of_lt_of_le hbl hb1.size; have z2 : ad.block < w1.heap.size := Nat.lt_of_lt_of_le hl1 hb1.size; have z3 : wr.heap.size ≤ w1.heap.size := hb1.size; have x1 := (hb1.cell (p := ⟨wo.heap.size, 1, none⟩) hbl).trans hx1; have x2 := (hb1.cell (p := ad) hl1).trans hc1; clear hr0) | (refine step_clone_kd (d := kAct) wr (by rfl) (by rfl) _ _ _ (by rfl) Try.underlying32 _ 64 infoAct rfl (by decide) (by decide) (by rfl) B1 c1 (by rfl) (Row.belowAll hr1 (by (repeat' (first | exact Below.refl _ _ | apply Below.drew | (refine bal ?_ _))))) (by have := HL4.out; omega) ?_; intro v1 w1 ho1 hb1; have hP1 := PAt.below (PAt.below HP.out (by (repeat' (first | exact Below.refl _ _ | apply Below.drew | (refine bal ?_ _))))) hb1; have q2 := hP1.c1; have hbl2 := (Array.getElem?_eq_some_iff.1 hP1.rp).1; obtain ⟨A0, n0, rfl, hn0, hr0⟩ := Own.row ho1; have z1 : wo.heap.size < w1.heap.size := Nat.lt_of_lt_of_le hbl hb1.size; have z2 : ad.block < w1.heap.size := Nat.lt_of_lt_of_le hl1 hb1.size; have z3 : wr.heap.size ≤ w1.heap.size := hb1.size; have x1 := (hb1.cell (p := ⟨wo.heap.size, 1, none⟩) hbl).trans hx1; have x2 := (hb1.cell (p := ad) hl1).trans hc1; clear hr0) | (refine step_clone_kd (d := kAct) wr.drew.drew (by rfl) (by rfl) _ _ _ (by rfl) Try.underlying32 _ 64 infoAct rfl (by decide) (by decide) (by rfl) B1 c1 (by rfl) (Row.belowAll hr1 (by (repeat' (first | exact Below.refl _ _ | apply Below.drew | (refine bal ?_ _))))) (by have := HL4.out; omega) ?_; intro v1 w1 ho1 hb1; have hP1 := PAt.below (PAt.below HP.out (by (repeat' (first | exact Below.refl _ _ | apply Below.drew | (refine bal ?_ _))))) hb1; have q2 := hP1.c1; have hbl2 := (Array.getElem?_eq_some_iff.1 hP1.rp).1; obtain ⟨A0, n0, rfl, hn0, hr0⟩ := Own.row ho1; have z1 : wo.heap.size < w1.heap.size := Nat.lt_of_lt_of_le hbl hb1.size; have z2 : ad.block < w1.heap.size := Nat.lt_of_lt_of_le hl1 hb1.size; have z3 : wr.heap.size ≤ w1.heap.size := hb1.size; have x1 := (hb1.cell (p := ⟨wo.heap.size, 1, none⟩) hbl).trans hx1; have x2 := (hb1.cell (p := ad) hl1).trans hc1; clear hr0)
              refine hKq.out _ _ (by (try dsimp only) <;> (first | (go_keep; done) | exact ⟨y3 _, y4 _⟩ | exact ⟨y1, y2⟩ | exact ⟨x1, x2⟩)) (fun hHeld => ?_)
              clear hKq Kq
              (try simp only [List.getElem_toArray, List.getElem_cons_zero, List.getElem_cons_succ, Act.put, List.setIfInBounds_toArray, List.set_cons_zero, List.set_cons_succ])
              refine wpAnyH_ready (rs := [9]) (by kernel_rfl) (by simp) ?_
              refine AllReadyH.cons rfl (fun Kq hKq => ?_) ?_
              · (try simp only [List.getElem_toArray, List.getElem_cons_zero, List.getElem_cons_succ])
                refine step_fold (a := ⟨_, _⟩) ?_
                go_simp
                refine hKq.out _ _ (by (try dsimp only) <;> (first | (go_keep; done) | exact ⟨y3 _, y4 _⟩ | exact ⟨y1, y2⟩ | exact ⟨x1, x2⟩)) (fun hHeld => ?_)
                clear hKq Kq
                (try simp only [List.getElem_toArray, List.getElem_cons_zero, List.getElem_cons_succ, Act.put, List.setIfInBounds_toArray, List.set_cons_zero, List.set_cons_succ])
                refine wpAnyH_ready (rs := [10]) (by kernel_rfl) (by simp) ?_
                refine AllReadyH.cons rfl (fun Kq hKq => ?_) ?_
                · (try simp only [List.getElem_toArray, List.getElem_cons_zero, List.getElem_cons_succ])
                  refine step_fold (a := ⟨_, _⟩) ?_
                  ((refine step_append_kd (d := Kd.hv (.slice A0 p.bodies[0].length n0) rfl (fun k => (Value.slice A0 p.bodies[0].length n0).ownBlock = some k) kAct) (by rfl) _ _ _ (by rfl) Try.underlying24 _ 24 infoActS rfl (by show 0 < 1; omega) (by decide) (by rfl) (Own.nil _ _ _ wo.heap.size (fun _ => False)) _ _ (by rfl) (Row.one_at (e := 32) (S := fun _ => False) (x := (true, p.bodies[0])) _ (Kd.hv_head rfl _ _ _ _) (by simp)) (fun k hk e => by simp [Value.ownBlock] at e) (by simp) (by have := hP1.k.size; simp; omega) ?_; intro v2 w3 ho2 hg2 hv2; have q5 := PAt.rpB (PAt.below hP1 (by (repeat' (first | exact Below.refl _ _ | apply Below.drew | (refine bal ?_ _))))) hg2; have q6 := cell_of_row _ _ 1 _ _ _ q5; have q7 := frozen_of_row q5; simp at q6; have hkg := Keep.of_grown (T := fun _ => False) hg2 (fun k hk => by cases hk); have y1 := ((hkg.cell (p := ⟨wo.heap.size, 1, none⟩) (by simp; omega) (fun h => h)).trans ((bal (Below.refl _ _) _).cell z1)).trans x1; have y2 := ((hkg.cell (p := ad) (by simp; omega) (fun h => h)).trans ((bal (Below.refl _ _) _).cell z2)).trans x2; have y3 := (fun u => (World.cell?_setCell_far w3 ⟨w2.heap.size, 1, none⟩ ⟨wo.heap.size, 1, none⟩ u hn1).trans y1); have y4 := (fun u => (World.cell?_setCell_far w3 ⟨w2.heap.size, 1, none⟩ ad u hn2).trans y2); have b1 := (fun u => (Below.heap_setCell w3 ⟨w2.heap.size, 1, none⟩ u wo.heap.size (by simp; omega)).trans ((hkg.block wo.heap.size (by simp; omega) (fun h => h)).trans ((Below.heap_alloc w1 _ wo.heap.size z1).trans ((hb1.block wo.heap.size hbl).trans hbx)))); obtain ⟨gb, cab, rfl, hB⟩ := BAt.first (P := fun k => S2 k ∨ wo.heap.size ≤ k) (PAt.below hP1 (by (repeat' (first | exact Below.refl _ _ | apply Below.drew | (refine bal ?_ _))))) (fun h => by rcases h with h | h; exact (h2 g h).1 rfl; omega) HPN (((ho1.lower (by have := HP.out.k.size; exact this)).mono (fun k hk => own2 HP.out h2 k hk)).belowAll (by (repeat' (first | exact Below.refl _ _ | apply Below.drew | (refine bal ?_ _))))) hg2 (ho2.mono (fun k hk => own3 HP.out z3 k (by rcases hk with hk | (hk | hk) | hk; exact hk.elim; exact hk.elim; omega; (simp at hk; omega)))) hv2))
                  refine hKq.out _ _ (by (try dsimp only) <;> (first | (go_keep; done) | exact ⟨y3 _, y4 _⟩ | exact ⟨y1, y2⟩ | exact ⟨x1, x2⟩)) (fun hHeld => ?_)
                  clear hKq Kq
                  (try simp only [List.getElem_toArray, List.getElem_cons_zero, List.getElem_cons_succ, Act.put, List.setIfInBounds_toArray, List.set_cons_zero, List.set_cons_succ])
                  refine wpAnyH_take (i := 11) (v := _) rfl (by kernel_rfl) (by kernel_rfl) (by kernel_rfl) (fun _ _ _ h => h) (Or.inl ⟨by rfl, by (intro w hSw; (try dsimp only at hSw); go_simp <;> with_reducible rfl)⟩) (by assumption) ?_
                  (try simp only [List.getElem_toArray, List.getElem_cons_zero, List.getElem_cons_succ, Act.put, List.setIfInBounds_toArray, List.set_cons_zero, List.set_cons_succ])
                  refine wpAnyH_ready (rs := [12]) (by kernel_rfl) (by simp) ?_
                  refine AllReadyH.cons rfl (fun Kq hKq => ?_) ?_
                  · (try simp only [List.getElem_toArray, List.getElem_cons_zero, List.getElem_cons_succ])
                    refine step_fold (a := ⟨_, _⟩) ?_
                    go_simp
                    refine hKq.out _ _ (by (try dsimp only) <;> (first | (go_keep; done) | exact ⟨y3 _, y4 _⟩ | exact ⟨y1, y2⟩ | exact ⟨x1, x2⟩)) (fun hHeld => ?_)
                    clear hKq Kq
                    (try simp only [List.getElem_toArray, List.getElem_cons_zero, List.getElem_cons_succ, Act.put, List.setIfInBounds_toArray, List.set_cons_zero, List.set_cons_succ])
                    refine wpAnyH_done (by kernel_rfl) ?_ _
                    refine NoPanic.normal ?_
                    go_wp2
                    exact ⟨⟨1, by go_num, by omega, b1 _, .inr ⟨gb, cab, _, _, [], rfl, HL4.out, by simp [Value.ownBlock] at hv2; omega, hB⟩⟩, by simp [intOf]; omega⟩
                  exact AllReadyH.nil
                exact AllReadyH.nil
              exact AllReadyH.nil
            exact AllReadyH.nil
          refine AllReadyH.cons rfl (fun Kq hKq => ?_) ?_
          · (try simp only [List.getElem_toArray, List.getElem_cons_zero, List.getElem_cons_succ])
            refine step_fold (a := ⟨_, _⟩) ?_
            first | (refine step_clone_kd (d := kAct) wr.drew (by rfl) (by rfl) _ _ _ (by rfl) Try.underlying32 _ 64 infoAct rfl (by decide) (by decide) (by rfl) B1 c1 (by rfl) (Row.belowAll hr1 (by (repeat' (first | exact Below.refl _ _ | apply Below.drew | (refine bal ?_ _))))) (by have := HL4.out; omega) ?_; intro v1 w1 ho1 hb1; have hP1 := PAt.below (PAt.below HP.out (by (repeat' (first | exact Below.refl _ _ | apply Below.drew | (refine bal ?_ _))))) hb1; have q2 := hP1.c1; have hbl2 := (Array.getElem?_eq_some_iff.1 hP1.rp).1; obtain ⟨A0, n0, rfl, hn0, hr0⟩ := Own.row ho1; have z1 : wo.heap.size < w1.heap.size := Nat.lt_of_lt_of_le hbl hb1.size; have z2 : ad.block < w1.heap.size := Nat.lt_of_lt_of_le hl1 hb1.size; have z3 : wr.heap.size ≤ w1.heap.size := hb1.size; have x1 := (hb1.cell (p := ⟨wo.heap.size, 1, none⟩) hbl).trans hx1; have x2 := (hb1.cell (p := ad) hl1).trans hc1; clear hr0) | (refine step_clone_kd (d := kAct) wr (by rfl) (by rfl) _ _ _ (by rfl) Try.underlying32 _ 64 infoAct rfl (by decide) (by decide) (by rfl) B1 c1 (by rfl) (Row.belowAll hr1 (by (repeat' (first | exact Below.refl _ _ | apply Below.drew | (refine bal ?_ _))))) (by have := HL4.out; omega) ?_; intro v1 w1 ho1 hb1; have hP1 := PAt.below (PAt.below HP.out (by (repeat' (first | exact Below.refl _ _ | apply Below.drew | (refine bal ?_ _))))) hb1; have q2 := hP1.c1; have hbl2 := (Array.getElem?_eq_some_iff.1 hP1.rp).1; obtain ⟨A0, n0, rfl, hn0, hr0⟩ := Own.row ho1; have z1 : wo.heap.size < w1.heap.size := Nat.lt_of_lt_of_le hbl hb1.size; have z2 : ad.block < w1.heap.size := Nat.lt_of_lt_of_le hl1 hb1.size; have z3 : wr.heap.size ≤ w1.heap.size := hb1.size; have x1 := (hb1.cell (p := ⟨wo.heap.size, 1, none⟩) hbl).trans hx1; have x2 := (hb1.cell (p := ad) hl1).trans hc1; clear hr0) | (refine step_clone_kd (d := kAct) wr.drew.drew (by rfl) (by rfl) _ _ _ (by rfl) Try.underlying32 _ 64 infoAct rfl (by decide) (by decide) (by rfl) B1 c1 (by rfl) (Row.belowAll hr1 (by (repeat' (first | exact Below.refl _ _ | apply Below.drew | (refine bal ?_ _))))) (by have := HL4.out; omega) ?_; intro v1 w1 ho1 hb1; have hP1 := PAt.below (PAt.below HP.out (by (repeat' (first | exact Below.refl _ _ | apply Below.drew | (refine bal ?_ _))))) hb1; have q2 := hP1.c1; have hbl2 := (Array.getElem?_eq_some_iff.1 hP1.rp).1; obtain ⟨A0, n0, rfl, hn0, hr0⟩ := Own.row ho1; have z1 : wo.heap.size < w1.heap.size := Nat.lt_of_lt_of_le hbl hb1.size; have z2 : ad.block < w1.heap.size := Nat.lt_of_lt_of_le hl1 hb1.size; have z3 : wr.heap.size ≤ w1.heap.size := hb1.size; have x1 := (hb1.cell (p := ⟨wo.heap.size, 1, none⟩) hbl).trans hx1; have x2 := (hb1.cell (p := ad) hl1).trans hc1; clear hr0)
            refine hKq.out _ _ (by (try dsimp only) <;> (first | (go_keep; done) | exact ⟨y3 _, y4 _⟩ | exact ⟨y1, y2⟩ | exact ⟨x1, x2⟩)) (fun hHeld => ?_)
            clear hKq Kq
            (try simp only [List.getElem_toArray, List.getElem_cons_zero, List.getElem_cons_succ, Act.put, List.setIfInBounds_toArray, List.set_cons_zero, List.set_cons_succ])
            refine wpAnyH_ready (rs := [1, 9]) (by kernel_rfl) (by simp) ?_
            refine AllReadyH.cons rfl (fun Kq hKq => ?_) ?_
            · (try simp only [List.getElem_toArray, List.getElem_cons_zero, List.getElem_cons_succ])
              refine step_fold (a := ⟨_, _⟩) ?_
              go_simp
              refine hKq.out _ _ (by (try dsimp only) <;> (first | (go_keep; done) | exact ⟨y3 _, y4 _⟩ | exact ⟨y1, y2⟩ | exact ⟨x1, x2⟩)) (fun hHeld => ?_)
              clear hKq Kq
              (try simp only [List.getElem_toArray, List.getElem_cons_zero, List.getElem_cons_succ, Act.put, List.setIfInBounds_toArray, List.set_cons_zero, List.set_cons_succ])
              refine wpAnyH_ready (rs := [9]) (by kernel_rfl) (by simp) ?_
              refine AllReadyH.cons rfl (fun Kq hKq => ?_) ?_
              · (try simp only [List.getElem_toArray, List.getElem_cons_zero, List.getElem_cons_succ])
                refine step_fold (a := ⟨_, _⟩) ?_
                go_simp
                refine hKq.out _ _ (by (try dsimp only) <;> (first | (go_keep; done) | exact ⟨y3 _, y4 _⟩ | exact ⟨y1, y2⟩ | exact ⟨x1, x2⟩)) (fun hHeld => ?_)
                clear hKq Kq
                (try simp only [List.getElem_toArray, List.getElem_cons_zero, List.getElem_cons_succ, Act.put, List.setIfInBounds_toArray, List.set_cons_zero, List.set_cons_succ])
                refine wpAnyH_ready (rs := [10]) (by kernel_rfl) (by simp) ?_
                refine AllReadyH.cons rfl (fun Kq hKq => ?_) ?_
                · (try simp only [List.getElem_toArray, List.getElem_cons_zero, List.getElem_cons_succ])
                  refine step_fold (a := ⟨_, _⟩) ?_
                  ((refine step_append_kd (d := Kd.hv (.slice A0 p.bodies[0].length n0) rfl (fun k => (Value.slice A0 p.bodies[0].length n0).ownBlock = some k) kAct) (by rfl) _ _ _ (by rfl) Try.underlying24 _ 24 infoActS rfl (by show 0 < 1; omega) (by decide) (by rfl) (Own.nil _ _ _ wo.heap.size (fun _ => False)) _ _ (by rfl) (Row.one_at (e := 32) (S := fun _ => False) (x := (true, p.bodies[0])) _ (Kd.hv_head rfl _ _ _ _) (by simp)) (fun k hk e => by simp [Value.ownBlock] at e) (by simp) (by have := hP1.k.size; simp; omega) ?_; intro v2 w3 ho2 hg2 hv2; have q5 := PAt.rpB (PAt.below hP1 (by (repeat' (first | exact Below.refl _ _ | apply Below.drew | (refine bal ?_ _))))) hg2; have q6 := cell_of_row _ _ 1 _ _ _ q5; have q7 := frozen_of_row q5; simp at q6; have hkg := Keep.of_grown (T := fun _ => False) hg2 (fun k hk => by cases hk); have y1 := ((hkg.cell (p := ⟨wo.heap.size, 1, none⟩) (by simp; omega) (fun h => h)).trans ((bal (Below.refl _ _) _).cell z1)).trans x1; have y2 := ((hkg.cell (p := ad) (by simp; omega) (fun h => h)).trans ((bal (Below.refl _ _) _).cell z2)).trans x2; have y3 := (fun u => (World.cell?_setCell_far w3 ⟨w2.heap.size, 1, none⟩ ⟨wo.heap.size, 1, none⟩ u hn1).trans y1); have y4 := (fun u => (World.cell?_setCell_far w3 ⟨w2.heap.size, 1, none⟩ ad u hn2).trans y2); have b1 := (fun u => (Below.heap_setCell w3 ⟨w2.heap.size, 1, none⟩ u wo.heap.size (by simp; omega)).trans ((hkg.block wo.heap.size (by simp; omega) (fun h => h)).trans ((Below.heap_alloc w1 _ wo.heap.size z1).trans ((hb1.block wo.heap.size hbl).trans hbx)))); obtain ⟨gb, cab, rfl, hB⟩ := BAt.first (P := fun k => S2 k ∨ wo.heap.size ≤ k) (PAt.below hP1 (by (repeat' (first | exact Below.refl _ _ | apply Below.drew | (refine bal ?_ _))))) (fun h => by rcases h with h | h; exact (h2 g h).1 rfl; omega) HPN (((ho1.lower (by have := HP.out.k.size; exact this)).mono (fun k hk => own2 HP.out h2 k hk)).belowAll (by (repeat' (first | exact Below.refl _ _ | apply Below.drew | (refine bal ?_ _))))) hg2 (ho2.mono (fun k hk => own3 HP.out z3 k (by rcases hk with hk | (hk | hk) | hk; exact hk.elim; exact hk.elim; omega; (simp at hk; omega)))) hv2))
                  refine hKq.out _ _ (by (try dsimp only) <;> (first | (go_keep; done) | exact ⟨y3 _, y4 _⟩ | exact ⟨y1, y2⟩ | exact ⟨x1, x2⟩)) (fun hHeld => ?_)
                  clear hKq Kq
                  (try simp only [List.getElem_toArray, List.getElem_cons_zero, List.getElem_cons_succ, Act.put, List.setIfInBounds_toArray, List.set_cons_zero, List.set_cons_succ])
                  refine wpAnyH_take (i := 11) (v := _) rfl (by kernel_rfl) (by kernel_rfl) (by kernel_rfl) (fun _ _ _ h => h) (Or.inl ⟨by rfl, by (intro w hSw; (try dsimp only at hSw); go_simp <;> with_reducible rfl)⟩) (by assumption) ?_
                  (try simp only [List.getElem_toArray, List.getElem_cons_zero, List.getElem_cons_succ, Act.put, List.setIfInBounds_toArray, List.set_cons_zero, List.set_cons_succ])
                  refine wpAnyH_ready (rs := [12]) (by kernel_rfl) (by simp) ?_
                  refine AllReadyH.cons rfl (fun Kq hKq => ?_) ?_
                  · (try simp only [List.getElem_toArray, List.getElem_cons_zero, List.getElem_cons_succ])
                    refine step_fold (a := ⟨_, _⟩) ?_
                    go_simp
                    refine hKq.out _ _ (by (try dsimp only) <;> (first | (go_keep; done) | exact ⟨y3 _, y4 _⟩ | exact ⟨y1, y2⟩ | exact ⟨x1, x2⟩)) (fun hHeld => ?_)
                    clear hKq Kq
                    (try simp only [List.getElem_toArray, List.getElem_cons_zero, List.getElem_cons_succ, Act.put, List.setIfInBounds_toArray, List.set_cons_zero, List.set_cons_succ])
                    refine wpAnyH_done (by kernel_rfl) ?_ _
                    refine NoPanic.normal ?_
                    go_wp2
                    exact ⟨⟨1, by go_num, by omega, b1 _, .inr ⟨gb, cab, _, _, [], rfl, HL4.out, by simp [Value.ownBlock] at hv2; omega, hB⟩⟩, by simp [intOf]; omega⟩
                  exact AllReadyH.nil
                exact AllReadyH.nil
              exact AllReadyH.nil
            refine AllReadyH.cons rfl (fun Kq hKq => ?_) ?_
            · (try simp only [List.getElem_toArray, List.getElem_cons_zero, List.getElem_cons_succ])
              refine step_fold (a := ⟨_, _⟩) ?_
              go_simp
              refine hKq.out _ _ (by (try dsimp only) <;> (first | (go_keep; done) | exact ⟨y3 _, y4 _⟩ | exact ⟨y1, y2⟩ | exact ⟨x1, x2⟩)) (fun hHeld => ?_)
              clear hKq Kq
              (try simp only [List.getElem_toArray, List.getElem_cons_zero, List.getElem_cons_succ, Act.put, List.setIfInBounds_toArray, List.set_cons_zero, List.set_cons_succ])
              refine wpAnyH_ready (rs := [1]) (by kernel_rfl) (by simp) ?_
              refine AllReadyH.cons rfl (fun Kq hKq => ?_) ?_
              · (try simp only [List.getElem_toArray, List.getElem_cons_zero, List.getElem_cons_succ])
                refine step_fold (a := ⟨_, _⟩) ?_
                go_simp
                refine hKq.out _ _ (by (try dsimp only) <;> (first | (go_keep; done) | exact ⟨y3 _, y4 _⟩ | exact ⟨y1, y2⟩ | exact ⟨x1, x2⟩)) (fun hHeld => ?_)
                clear hKq Kq
                (try simp only [List.getElem_toArray, List.getElem_cons_zero, List.getElem_cons_succ, Act.put, List.setIfInBounds_toArray, List.set_cons_zero, List.set_cons_succ])
                refine wpAnyH_ready (rs := [10]) (by kernel_rfl) (by simp) ?_
                refine AllReadyH.cons rfl (fun Kq hKq => ?_) ?_
                · (try simp only [List.getElem_toArray, List.getElem_cons_zero, List.getElem_cons_succ])
                  refine step_fold (a := ⟨_, _⟩) ?_
                  ((refine step_append_kd (d := Kd.hv (.slice A0 p.bodies[0].length n0) rfl (fun k => (Value.slice A0 p.bodies[0].length n0).ownBlock = some k) kAct) (by rfl) _ _ _ (by rfl) Try.underlying24 _ 24 infoActS rfl (by show 0 < 1; omega) (by decide) (by rfl) (Own.nil _ _ _ wo.heap.size (fun _ => False)) _ _ (by rfl) (Row.one_at (e := 32) (S := fun _ => False) (x := (true, p.bodies[0])) _ (Kd.hv_head rfl _ _ _ _) (by simp)) (fun k hk e => by simp [Value.ownBlock] at e) (by simp) (by have := hP1.k.size; simp; omega) ?_; intro v2 w3 ho2 hg2 hv2; have q5 := PAt.rpB (PAt.below hP1 (by (repeat' (first | exact Below.refl _ _ | apply Below.drew | (refine bal ?_ _))))) hg2; have q6 := cell_of_row _ _ 1 _ _ _ q5; have q7 := frozen_of_row q5; simp at q6; have hkg := Keep.of_grown (T := fun _ => False) hg2 (fun k hk => by cases hk); have y1 := ((hkg.cell (p := ⟨wo.heap.size, 1, none⟩) (by simp; omega) (fun h => h)).trans ((bal (Below.refl _ _) _).cell z1)).trans x1; have y2 := ((hkg.cell (p := ad) (by simp; omega) (fun h => h)).trans ((bal (Below.refl _ _) _).cell z2)).trans x2; have y3 := (fun u => (World.cell?_setCell_far w3 ⟨w2.heap.size, 1, none⟩ ⟨wo.heap.size, 1, none⟩ u hn1).trans y1); have y4 := (fun u => (World.cell?_setCell_far w3 ⟨w2.heap.size, 1, none⟩ ad u hn2).trans y2); have b1 := (fun u => (Below.heap_setCell w3 ⟨w2.heap.size, 1, none⟩ u wo.heap.size (by simp; omega)).trans ((hkg.block wo.heap.size (by simp; omega) (fun h => h)).trans ((Below.heap_alloc w1 _ wo.heap.size z1).trans ((hb1.block wo.heap.size hbl).trans hbx)))); obtain ⟨gb, cab, rfl, hB⟩ := BAt.first (P := fun k => S2 k ∨ wo.heap.size ≤ k) (PAt.below hP1 (by (repeat' (first | exact Below.refl _ _ | apply Below.drew | (refine bal ?_ _))))) (fun h => by rcases h with h | h; exact (h2 g h).1 rfl; omega) HPN (((ho1.lower (by have := HP.out.k.size; exact this)).mono (fun k hk => own2 HP.out h2 k hk)).belowAll (by (repeat' (first | exact Below.refl _ _ | apply Below.drew | (refine bal ?_ _))))) hg2 (ho2.mono (fun k hk => own3 HP.out z3 k (by rcases hk with hk | (hk | hk) | hk; exact hk.elim; exact hk.elim; omega; (simp at hk; omega)))) hv2))
                  refine hKq.out _ _ (by (try dsimp only) <;> (first | (go_keep; done) | exact ⟨y3 _, y4 _⟩ | exact ⟨y1, y2⟩ | exact ⟨x1, x2⟩)) (fun hHeld => ?_)
                  clear hKq Kq
                  (try simp only [List.getElem_toArray, List.getElem_cons_zero, List.getElem_cons_succ, Act.put, List.setIfInBounds_toArray, List.set_cons_zero, List.set_cons_succ])
                  refine wpAnyH_take (i := 11) (v := _) rfl (by kernel_rfl) (by kernel_rfl) (by kernel_rfl) (fun _ _ _ h => h) (Or.inl ⟨by rfl, by (intro w hSw; (try dsimp only at hSw); go_simp <;> with_reducible rfl)⟩) (by assumption) ?_
                  (try simp only [List.getElem_toArray, List.getElem_cons_zero, List.getElem_cons_succ, Act.put, List.setIfInBounds_toArray, List.set_cons_zero, List.set_cons_succ])
                  refine wpAnyH_ready (rs := [12]) (by kernel_rfl) (by simp) ?_
                  refine AllReadyH.cons rfl (fun Kq hKq => ?_) ?_
                  · (try simp only [List.getElem_toArray, List.getElem_cons_zero, List.getElem_cons_succ])
                    refine step_fold (a := ⟨_, _⟩) ?_
                    go_simp
                    refine hKq.out _ _ (by (try dsimp only) <;> (first | (go_keep; done) | exact ⟨y3 _, y4 _⟩ | exact ⟨y1, y2⟩ | exact ⟨x1, x2⟩)) (fun hHeld => ?_)
                    clear hKq Kq
                    (try simp only [List.getElem_toArray, List.getElem_cons_zero, List.getElem_cons_succ, Act.put, List.setIfInBounds_toArray, List.set_cons_zero, List.set_cons_succ])
                    refine wpAnyH_done (by kernel_rfl) ?_ _
                    refine NoPanic.normal ?_
                    go_wp2
                    exact ⟨⟨1, by go_num, by omega, b1 _, .inr ⟨gb, cab, _, _, [], rfl, HL4.out, by simp [Value.ownBlock] at hv2; omega, hB⟩⟩, by simp [intOf]; omega⟩
                  exact AllReadyH.nil
                exact AllReadyH.nil
              exact AllReadyH.nil
            exact AllReadyH.nil
          exact AllReadyH.nil
        exact AllReadyH.nil
      · obtain ⟨A0, n0, hv0, hn0, hr0⟩ := Own.row hB.O
        subst hv0
        clear hr0
        obtain ⟨ad, B1, c1, rfl, hl1, hc1, hlc1, hr1⟩ := at_slice (hD.keep hB.k (fun k hs _ => (h2 k hs).1)) hlt
        have q1 := hB.p1
        have hbl1 := (Array.getElem?_eq_some_iff.1 hB.rp).1
        have hadb : (ad.add k).block = ad.block := block_add _ _
        have hn1 : (⟨w2.heap.size, 1, none⟩ : Addr).block ≠ (⟨wo.heap.size, 1, none⟩ : Addr).block := by simp; omega
        have hn2 : (⟨w2.heap.size, 1, none⟩ : Addr).block ≠ (ad.add k).block := by
          rw [hadb]
          obtain ⟨ad', e, hs, _⟩ := hD.2 (by intro h; rw [h] at hlt; simp at hlt)
          injection e with e
          subst e
          have := (h2 _ hs).2
          simp; omega
        have hl1' : (ad.add k).block < wr.heap.size := by rw [hadb]; exact hl1
        have hn3 : (⟨wo.heap.size, 1, none⟩ : Addr).block ≠ gb := fun e => hgw e.symm
        have hn4 : (ad.add k).block ≠ gb := by
          rw [hadb]
          obtain ⟨ad', e, hs, _⟩ := hD.2 (by intro h; rw [h] at hlt; simp at hlt)
          injection e with e
          subst e
          have := (h2 _ hs).2
          have := hB.gbs.1
          omega
        have HB := Lib.hid hB
        have HRK := Lib.hid hrk
        have HA4 := Lib.hid ha4
        have HK := Lib.hid hk
        have hL4 : p.bodies[k].length ≤ 4 := by
          have := formOk_body HFO.out hlt
          simp only [bodyOk, Bool.and_eq_true, decide_eq_true_eq] at this
          exact this.1
        have HL4 := Lib.hid hL4
        clear hP0 hsz hB hrk ha4 hk hL4
        go_wp2_with fail
        refine wp_region_noPanic ?_
        refine wp_region_held_drew (S := (fun w' => w'.cell? ⟨wo.heap.size, 1, none⟩ = some (.slice (some ad) p.bodies.length cd) ∧ w'.cell? (ad.add k) = some (.slice B1 p.bodies[k].length c1))) (by kernel_rfl) (by (try dsimp only) <;> (first | (go_keep; done) | exact ⟨y3 _, y4 _⟩ | exact ⟨y1, y2⟩ | exact ⟨x1, x2⟩)) (fun hHeld => ?_)
        refine wpAnyH_take (i := 0) (v := _) rfl (by kernel_rfl) (by kernel_rfl) (by kernel_rfl) (fun _ _ _ h => h) (Or.inl ⟨by rfl, by (intro w hSw; (try dsimp only at hSw); go_simp <;> with_reducible rfl)⟩) (by assumption) ?_
        (try simp only [List.getElem_toArray, List.getElem_cons_zero, List.getElem_cons_succ, Act.put, List.setIfInBounds_toArray, List.set_cons_zero, List.set_cons_succ])
        refine wpAnyH_take (i := 3) (v := _) rfl (by kernel_rfl) (by kernel_rfl) (by kernel_rfl) (fun _ _ _ h => h) (Or.inl ⟨by rfl, by (intro w hSw; (try dsimp only at hSw); go_simp <;> with_reducible rfl)⟩) (by assumption) ?_
        (try simp only [List.getElem_toArray, List.getElem_cons_zero, List.getElem_cons_succ, Act.put, List.setIfInBounds_toArray, List.set_cons_zero, List.set_cons_succ])
        refine wpAnyH_take (i := 4) (v := _) rfl (by kernel_rfl) (by kernel_rfl) (by kernel_rfl) (fun _ _ _ h => h) (Or.inl ⟨by rfl, by (intro w hSw; (try dsimp only at hSw); go_simp <;> with_reducible rfl)⟩) (by assumption) ?_
        (try simp only [List.getElem_toArray, List.getElem_cons_zero, List.getElem_cons_succ, Act.put, List.setIfInBounds_toArray, List.set_cons_zero, List.set_cons_succ])
        refine wpAnyH_take (i := 5) (v := _) rfl (by kernel_rfl) (by kernel_rfl) (by kernel_rfl) (fun _ _ _ h => h) (Or.inl ⟨by rfl, by (intro w hSw; (try dsimp only at hSw); go_simp <;> with_reducible rfl)⟩) (by assumption) ?_
        (try simp only [List.getElem_toArray, List.getElem_cons_zero, List.getElem_cons_succ, Act.put, List.setIfInBounds_toArray, List.set_cons_zero, List.set_cons_succ])
        refine wpAnyH_take (i := 6) (v := _) rfl (by kernel_rfl) (by kernel_rfl) (by kernel_rfl) (fun _ _ _ h => h) (Or.inl ⟨by rfl, by (intro w hSw; (try dsimp only at hSw); go_simp <;> with_reducible rfl)⟩) (by assumption) ?_
        (try simp only [List.getElem_toArray, List.getElem_cons_zero, List.getElem_cons_succ, Act.put, List.setIfInBounds_toArray, List.set_cons_zero, List.set_cons_succ])
        refine wpAnyH_take (i := 7) (v := _) rfl (by kernel_rfl) (by kernel_rfl) (by kernel_rfl) (fun _ _ _ h => h) (Or.inl ⟨by rfl, by (intro w hSw; (try dsimp only at hSw); go_simp <;> with_reducible rfl)⟩) (by assumption) ?_
        (try simp only [List.getElem_toArray, List.getElem_cons_zero, List.getElem_cons_succ, Act.put, List.setIfInBounds_toArray, List.set_cons_zero, List.set_cons_succ])
        refine wpAnyH_ready (rs := [1, 2]) (by kernel_rfl) (by simp) ?_
        refine AllReadyH.cons rfl (fun Kq hKq => ?_) ?_
        · (try simp only [List.getElem_toArray, List.getElem_cons_zero, List.getElem_cons_succ])
          refine step_fold (a := ⟨_, _⟩) ?_
          go_simp
          refine hKq.out _ _ (by (try dsimp only) <;> (first | (go_keep; done) | exact ⟨y3 _, y4 _⟩ | exact ⟨y1, y2⟩ | exact ⟨x1, x2⟩)) (fun hHeld => ?_)
          clear hKq Kq
          (try simp only [List.getElem_toArray, List.getElem_cons_zero, List.getElem_cons_succ, Act.put, List.setIfInBounds_toArray, List.set_cons_zero, List.set_cons_succ])
          refine wpAnyH_ready (rs := [2]) (by kernel_rfl) (by simp) ?_
          refine AllReadyH.cons rfl (fun Kq hKq => ?_) ?_
          · (try simp only [List.getElem_toArray, List.getElem_cons_zero, List.getElem_cons_succ])
            refine step_fold (a := ⟨_, _⟩) ?_
            go_simp
            refine hKq.out _ _ (by (try dsimp only) <;> (first | (go_keep; done) | exact ⟨y3 _, y4 _⟩ | exact ⟨y1, y2⟩ | exact ⟨x1, x2⟩)) (fun hHeld => ?_)
            clear hKq Kq
            (try simp only [List.getElem_toArray, List.getElem_cons_zero, List.getElem_cons_succ, Act.put, List.setIfInBounds_toArray, List.set_cons_zero, List.set_cons_succ])
            refine wpAnyH_ready (rs := [8]) (by kernel_rfl) (by simp) ?_
            refine AllReadyH.cons rfl (fun Kq hKq => ?_) ?_
            · (try simp only [List.getElem_toArray, List.getElem_cons_zero, List.getElem_cons_succ])
              refine step_fold (a := ⟨_, _⟩) ?_
              first | (refine step_clone_kd (d := kAct) wr.drew (by rfl) (by rfl) _ _ _ (by rfl) Try.underlying32 _ 64 infoAct rfl (by decide) (by decide) (by rfl) B1 c1 (by rfl) (Row.belowAll hr1 (by (repeat' (first | exact Below.refl _ _ | apply Below.drew | (refine bal ?_ _))))) (by have := HL4.out; omega) ?_; intro v1 w1 ho1 hb1; have hB1 := BAt.below (BAt.below HB.out (by (repeat' (first | exact Below.refl _ _ | apply Below.drew | (refine bal ?_ _))))) hb1; have q2 := hB1.p1; have hbl2 := (Array.getElem?_eq_some_iff.1 hB1.rp).1; obtain ⟨A1, n1, rfl, hn1', hr1'⟩ := Own.row ho1; have z1 : wo.heap.size < w1.heap.size := Nat.lt_of_lt_of_le hbl hb1.size; have z2 : (ad.add k).block < w1.heap.size := Nat.lt_of_lt_of_le hl1' hb1.size; have z3 : wr.heap.size ≤ w1.heap.size := hb1.size; have x1 := (hb1.cell (p := ⟨wo.heap.size, 1, none⟩) hbl).trans hx1; have x2 := (hb1.cell (p := ad.add k) hl1').trans hc1; have hK1 := Kd.hv_tail (v := .slice A0 a0.length n0) rfl (fun k => (Value.slice A0 a0.length n0).ownBlock = some k) hr1' (fun k hk => (BAt.spot HB.out h2 hk).2.1) hn1') | (refine step_clone_kd (d := kAct) wr (by rfl) (by rfl) _ _ _ (by rfl) Try.underlying32 _ 64 infoAct rfl (by decide) (by decide) (by rfl) B1 c1 (by rfl) (Row.belowAll hr1 (by (repeat' (first | exact Below.refl _ _ | apply Below.drew | (refine bal ?_ _))))) (by have := HL4.out; omega) ?_; intro v1 w1 ho1 hb1; have hB1 := BAt.below (BAt.below HB.out (by (repeat' (first | exact Below.refl _ _ | apply Below.drew | (refine bal ?_ _))))) hb1; have q2 := hB1.p1; have hbl2 := (Array.getElem?_eq_some_iff.1 hB1.rp).1; obtain ⟨A1, n1, rfl, hn1', hr1'⟩ := Own.row ho1; have z1 : wo.heap.size < w1.heap.size := Nat.lt_of_lt_of_le hbl hb1.size; have z2 : (ad.add k).block < w1.heap.size := Nat.lt_of_lt_of_le hl1' hb1.size; have z3 : wr.heap.size ≤ w1.heap.size := hb1.size; have x1 := (hb1.cell (p := ⟨wo.heap.size, 1, none⟩) hbl).trans hx1; have x2 := (hb1.cell (p := ad.add k) hl1').trans hc1; have hK1 := Kd.hv_tail (v := .slice A0 a0.length n0) rfl (fun k => (Value.slice A0 a0.length n0).ownBlock = some k) hr1' (fun k hk => (BAt.spot HB.out h2 hk).2.1) hn1') | (refine step_clone_kd (d := kAct) wr.drew.drew (by rfl) (by rfl) _ _ _ (by rfl) Try.underlying32 _ 64 infoAct rfl (by decide) (by decide) (by rfl) B1 c1 (by rfl) (Row.belowAll hr1 (by (repeat' (first | exact Below.refl _ _ | apply Below.drew | (refine bal ?_ _))))) (by have := HL4.out; omega) ?_; intro v1 w1 ho1 hb1; have hB1 := BAt.below (BAt.below HB.out (by (repeat' (first | exact Below.refl _ _ | apply Below.drew | (refine bal ?_ _))))) hb1; have q2 := hB1.p1; have hbl2 := (Array.getElem?_eq_some_iff.1 hB1.rp).1; obtain ⟨A1, n1, rfl, hn1', hr1'⟩ := Own.row ho1; have z1 : wo.heap.size < w1.heap.size := Nat.lt_of_lt_of_le hbl hb1.size; have z2 : (ad.add k).block < w1.heap.size := Nat.lt_of_lt_of_le hl1' hb1.size; have z3 : wr.heap.size ≤ w1.heap.size := hb1.size; have x1 := (hb1.cell (p := ⟨wo.heap.size, 1, none⟩) hbl).trans hx1; have x2 := (hb1.cell (p := ad.add k) hl1').trans hc1; have hK1 := Kd.hv_tail (v := .slice A0 a0.length n0) rfl (fun k => (Value.slice A0 a0.length n0).ownBlock = some k) hr1' (fun k hk => (BAt.spot HB.out h2 hk).2.1) hn1')
              refine hKq.out _ _ (by (try dsimp only) <;> (first | (go_keep; done) | exact ⟨y3 _, y4 _⟩ | exact ⟨y1, y2⟩ | exact ⟨x1, x2⟩)) (fun hHeld => ?_)
              clear hKq Kq
              (try simp only [List.getElem_toArray, List.getElem_cons_zero, List.getElem_cons_succ, Act.put, List.setIfInBounds_toArray, List.set_cons_zero, List.set_cons_succ])
              refine wpAnyH_ready (rs := [9]) (by kernel_rfl) (by simp) ?_
              refine AllReadyH.cons rfl (fun Kq hKq => ?_) ?_
              · (try simp only [List.getElem_toArray, List.getElem_cons_zero, List.getElem_cons_succ])
                refine step_fold (a := ⟨_, _⟩) ?_
                go_simp
                refine hKq.out _ _ (by (try dsimp only) <;> (first | (go_keep; done) | exact ⟨y3 _, y4 _⟩ | exact ⟨y1, y2⟩ | exact ⟨x1, x2⟩)) (fun hHeld => ?_)
                clear hKq Kq
                (try simp only [List.getElem_toArray, List.getElem_cons_zero, List.getElem_cons_succ, Act.put, List.setIfInBounds_toArray, List.set_cons_zero, List.set_cons_succ])
                refine wpAnyH_ready (rs := [10]) (by kernel_rfl) (by simp) ?_
                refine AllReadyH.cons rfl (fun Kq hKq => ?_) ?_
                · (try simp only [List.getElem_toArray, List.getElem_cons_zero, List.getElem_cons_succ])
                  refine step_fold (a := ⟨_, _⟩) ?_
                  (refine step_append_kd (d := Kd.hv (.slice A0 a0.length n0) rfl (fun k => (Value.slice A0 a0.length n0).ownBlock = some k) kAct) (by rfl) _ _ _ (by rfl) Try.underlying24 _ 24 infoActS rfl (by show 0 < 1; omega) (by decide) (by rfl) (BAt.HO (BAt.below hB1 (by (repeat' (first | exact Below.refl _ _ | apply Below.drew | (refine bal ?_ _)))))) _ _ (by rfl) (Row.one_at (e := 32) (x := (false, p.bodies[k])) _ hK1 (by simp)) (fun k' hk' e => by simp [Value.ownBlock] at e; have hgb := HB.out.gbs; rcases hk' with hk' | hk'; exact (BAt.spot HB.out h2 hk').2.2 e; (first | omega | (simp at hk'; omega))) (by have := HRK.out; have := HLEN.out; have := HK.out; simp; omega) (by have := hB1.k.size; simp; omega) ?_; intro v2 w3 ho2 hg2 hv2; have q5 := BAt.rpB (BAt.below hB1 (by (repeat' (first | exact Below.refl _ _ | apply Below.drew | (refine bal ?_ _))))) hg2; have q6 := cell_of_row _ _ 1 _ _ _ q5; have q7 := frozen_of_row q5; simp at q6; have hkg := Keep.of_grown (T := fun k' => k' = gb) hg2 (fun k' hk' => by simp [Value.ownBlock] at hk'; exact hk'.symm); have y1 := ((hkg.cell (p := ⟨wo.heap.size, 1, none⟩) (by simp; omega) hn3).trans ((bal (Below.refl _ _) _).cell z1)).trans x1; have y2 := ((hkg.cell (p := ad.add k) (by simp; omega) hn4).trans ((bal (Below.refl _ _) _).cell z2)).trans x2; have y3 := (fun u => (World.cell?_setCell_far w3 ⟨w2.heap.size, 1, none⟩ ⟨wo.heap.size, 1, none⟩ u hn1).trans y1); have y4 := (fun u => (World.cell?_setCell_far w3 ⟨w2.heap.size, 1, none⟩ (ad.add k) u hn2).trans y2); have b1 := (fun u => (Below.heap_setCell w3 ⟨w2.heap.size, 1, none⟩ u wo.heap.size (by simp; omega)).trans ((hkg.block wo.heap.size (by simp; omega) hn3).trans ((Below.heap_alloc w1 _ wo.heap.size z1).trans ((hb1.block wo.heap.size hbl).trans hbx)))); obtain ⟨gb', cab', rfl, hB'⟩ := BAt.grow1 (BAt.below hB1 (by (repeat' (first | exact Below.refl _ _ | apply Below.drew | (refine bal ?_ _))))) hg2 ho2 (fun k' hk' => by rcases hk' with hk' | (hk' | hk') | hk'; exact hk'; exact (BAt.spot HB.out h2 hk').1; exact (BAt.spot HB.out h2 (.inr (by omega))).1; exact (BAt.spot HB.out h2 (.inr (by simp at hk'; omega))).1) hv2)
                  refine hKq.out _ _ (by (try dsimp only) <;> (first | (go_keep; done) | exact ⟨y3 _, y4 _⟩ | exact ⟨y1, y2⟩ | exact ⟨x1, x2⟩)) (fun hHeld => ?_)
                  clear hKq Kq
                  (try simp only [List.getElem_toArray, List.getElem_cons_zero, List.getElem_cons_succ, Act.put, List.setIfInBounds_toArray, List.set_cons_zero, List.set_cons_succ])
                  refine wpAnyH_take (i := 11) (v := _) rfl (by kernel_rfl) (by kernel_rfl) (by kernel_rfl) (fun _ _ _ h => h) (Or.inl ⟨by rfl, by (intro w hSw; (try dsimp only at hSw); go_simp <;> with_reducible rfl)⟩) (by assumption) ?_
                  (try simp only [List.getElem_toArray, List.getElem_cons_zero, List.getElem_cons_succ, Act.put, List.setIfInBounds_toArray, List.set_cons_zero, List.set_cons_succ])
                  refine wpAnyH_ready (rs := [12]) (by kernel_rfl) (by simp) ?_
                  refine AllReadyH.cons rfl (fun Kq hKq => ?_) ?_
                  · (try simp only [List.getElem_toArray, List.getElem_cons_zero, List.getElem_cons_succ])
                    refine step_fold (a := ⟨_, _⟩) ?_
                    go_simp
                    refine hKq.out _ _ (by (try dsimp only) <;> (first | (go_keep; done) | exact ⟨y3 _, y4 _⟩ | exact ⟨y1, y2⟩ | exact ⟨x1, x2⟩)) (fun hHeld => ?_)
                    clear hKq Kq
                    (try simp only [List.getElem_toArray, List.getElem_cons_zero, List.getElem_cons_succ, Act.put, List.setIfInBounds_toArray, List.set_cons_zero, List.set_cons_succ])
                    refine wpAnyH_done (by kernel_rfl) ?_ _
                    refine NoPanic.normal ?_
                    go_wp2
                    exact ⟨⟨k + 1, by go_num, by have := HRK.out; omega, b1 _, .inr ⟨gb', cab', _, _, rest ++ [p.bodies[k]], by have := HRK.out; simp; omega, HA4.out, by simp [Value.ownBlock] at hv2; omega, hB'⟩⟩, by simp [intOf]; omega⟩
                  exact AllReadyH.nil
                exact AllReadyH.nil
              exact AllReadyH.nil
            exact AllReadyH.nil
          exact AllReadyH.nil
        refine AllReadyH.cons rfl (fun Kq hKq => ?_) ?_
        · (try simp only [List.getElem_toArray, List.getElem_cons_zero, List.getElem_cons_succ])
          refine step_fold (a := ⟨_, _⟩) ?_
          go_simp
          refine hKq.out _ _ (by (try dsimp only) <;> (first | (go_keep; done) | exact ⟨y3 _, y4 _⟩ | exact ⟨y1, y2⟩ | exact ⟨x1, x2⟩)) (fun hHeld => ?_)
          clear hKq Kq
          (try simp only [List.getElem_toArray, List.getElem_cons_zero, List.getElem_cons_succ, Act.put, List.setIfInBounds_toArray, List.set_cons_zero, List.set_cons_succ])
          refine wpAnyH_ready (rs := [1, 8]) (by kernel_rfl) (by simp) ?_
          refine AllReadyH.cons rfl (fun Kq hKq => ?_) ?_
          · (try simp only [List.getElem_toArray, List.getElem_cons_zero, List.getElem_cons_succ])
            refine step_fold (a := ⟨_, _⟩) ?_
            go_simp
            refine hKq.out _ _ (by (try dsimp only) <;> (first | (go_keep; done) | exact ⟨y3 _, y4 _⟩ | exact ⟨y1, y2⟩ | exact ⟨x1, x2⟩)) (fun hHeld => ?_)
            clear hKq Kq
            (try simp only [List.getElem_toArray, List.getElem_cons_zero, List.getElem_cons_succ, Act.put, List.setIfInBounds_toArray, List.set_cons_zero, List.set_cons_succ])
            refine wpAnyH_ready (rs := [8]) (by kernel_rfl) (by simp) ?_
            refine AllReadyH.cons rfl (fun Kq hKq => ?_) ?_
            · (try simp only [List.getElem_toArray, List.getElem_cons_zero, List.getElem_cons_succ])
              refine step_fold (a := ⟨_, _⟩) ?_
              first | (refine step_clone_kd (d := kAct) wr.drew (by rfl) (by rfl) _ _ _ (by rfl) Try.underlying32 _ 64 infoAct rfl (by decide) (by decide) (by rfl) B1 c1 (by rfl) (Row.belowAll hr1 (by (repeat' (first | exact Below.refl _ _ | apply Below.drew | (refine bal ?_ _))))) (by have := HL4.out; omega) ?_; intro v1 w1 ho1 hb1; have hB1 := BAt.below (BAt.below HB.out (by (repeat' (first | exact Below.refl _ _ | apply Below.drew | (refine bal ?_ _))))) hb1; have q2 := hB1.p1; have hbl2 := (Array.getElem?_eq_some_iff.1 hB1.rp).1; obtain ⟨A1, n1, rfl, hn1', hr1'⟩ := Own.row ho1; have z1 : wo.heap.size < w1.heap.size := Nat.lt_of_lt_of_le hbl hb1.size; have z2 : (ad.add k).block < w1.heap.size := Nat.lt_of_lt_of_le hl1' hb1.size; have z3 : wr.heap.size ≤ w1.heap.size := hb1.size; have x1 := (hb1.cell (p := ⟨wo.heap.size, 1, none⟩) hbl).trans hx1; have x2 := (hb1.cell (p := ad.add k) hl1').trans hc1; have hK1 := Kd.hv_tail (v := .slice A0 a0.length n0) rfl (fun k => (Value.slice A0 a0.length n0).ownBlock = some k) hr1' (fun k hk => (BAt.spot HB.out h2 hk).2.1) hn1') | (refine step_clone_kd (d := kAct) wr (by rfl) (by rfl) _ _ _ (by rfl) Try.underlying32 _ 64 infoAct rfl (by decide) (by decide) (by rfl) B1 c1 (by rfl) (Row.belowAll hr1 (by (repeat' (first | exact Below.refl _ _ | apply Below.drew | (refine bal ?_ _))))) (by have := HL4.out; omega) ?_; intro v1 w1 ho1 hb1; have hB1 := BAt.below (BAt.below HB.out (by (repeat' (first | exact Below.refl _ _ | apply Below.drew | (refine bal ?_ _))))) hb1; have q2 := hB1.p1; have hbl2 := (Array.getElem?_eq_some_iff.1 hB1.rp).1; obtain ⟨A1, n1, rfl, hn1', hr1'⟩ := Own.row ho1; have z1 : wo.heap.size < w1.heap.size := Nat.lt_of_lt_of_le hbl hb1.size; have z2 : (ad.add k).block < w1.heap.size := Nat.lt_of_lt_of_le hl1' hb1.size; have z3 : wr.heap.size ≤ w1.heap.size := hb1.size; have x1 := (hb1.cell (p := ⟨wo.heap.size, 1, none⟩) hbl).trans hx1; have x2 := (hb1.cell (p := ad.add k) hl1').trans hc1; have hK1 := Kd.hv_tail (v := .slice A0 a0.length n0) rfl (fun k => (Value.slice A0 a0.length n0).ownBlock = some k) hr1' (fun k hk => (BAt.spot HB.out h2 hk).2.1) hn1') | (refine step_clone_kd (d := kAct) wr.drew.drew (by rfl) (by rfl) _ _ _ (by rfl) Try.underlying32 _ 64 infoAct rfl (by decide) (by decide) (by rfl) B1 c1 (by rfl) (Row.belowAll hr1 (by (repeat' (first | exact Below.refl _ _ | apply Below.drew | (refine bal ?_ _))))) (by have := HL4.out; omega) ?_; intro v1 w1 ho1 hb1; have hB1 := BAt.below (BAt.below HB.out (by (repeat' (first | exact Below.refl _ _ | apply Below.drew | (refine bal ?_ _))))) hb1; have q2 := hB1.p1; have hbl2 := (Array.getElem?_eq_some_iff.1 hB1.rp).1; obtain ⟨A1, n1, rfl, hn1', hr1'⟩ := Own.row ho1; have z1 : wo.heap.size < w1.heap.size := Nat.lt_of_lt_of_le hbl hb1.size; have z2 : (ad.add k).block < w1.heap.size := Nat.lt_of_lt_of_le hl1' hb1.size; have z3 : wr.heap.size ≤ w1.heap.size := hb1.size; have x1 := (hb1.cell (p := ⟨wo.heap.size, 1, none⟩) hbl).trans hx1; have x2 := (hb1.cell (p := ad.add k) hl1').trans hc1; have hK1 := Kd.hv_tail (v := .slice A0 a0.length n0) rfl (fun k => (Value.slice A0 a0.length n0).ownBlock = some k) hr1' (fun k hk => (BAt.spot HB.out h2 hk).2.1) hn1')
              refine hKq.out _ _ (by (try dsimp only) <;> (first | (go_keep; done) | exact ⟨y3 _, y4 _⟩ | exact ⟨y1, y2⟩ | exact ⟨x1, x2⟩)) (fun hHeld => ?_)
              clear hKq Kq
              (try simp only [List.getElem_toArray, List.getElem_cons_zero, List.getElem_cons_succ, Act.put, List.setIfInBounds_toArray, List.set_cons_zero, List.set_cons_succ])
              refine wpAnyH_ready (rs := [9]) (by kernel_rfl) (by simp) ?_
              refine AllReadyH.cons rfl (fun Kq hKq => ?_) ?_
              · (try simp only [List.getElem_toArray, List.getElem_cons_zero, List.getElem_cons_succ])
                refine step_fold (a := ⟨_, _⟩) ?_
                go_simp
                refine hKq.out _ _ (by (try dsimp only) <;> (first | (go_keep; done) | exact ⟨y3 _, y4 _⟩ | exact ⟨y1, y2⟩ | exact ⟨x1, x2⟩)) (fun hHeld => ?_)
                clear hKq Kq
                (try simp only [List.getElem_toArray, List.getElem_cons_zero, List.getElem_cons_succ, Act.put, List.setIfInBounds_toArray, List.set_cons_zero, List.set_cons_succ])
                refine wpAnyH_ready (rs := [10]) (by kernel_rfl) (by simp) ?_
                refine AllReadyH.cons rfl (fun Kq hKq => ?_) ?_
                · (try simp only [List.getElem_toArray, List.getElem_cons_zero, List.getElem_cons_succ])
                  refine step_fold (a := ⟨_, _⟩) ?_
                  (refine step_append_kd (d := Kd.hv (.slice A0 a0.length n0) rfl (fun k => (Value.slice A0 a0.length n0).ownBlock = some k) kAct) (by rfl) _ _ _ (by rfl) Try.underlying24 _ 24 infoActS rfl (by show 0 < 1; omega) (by decide) (by rfl) (BAt.HO (BAt.below hB1 (by (repeat' (first | exact Below.refl _ _ | apply Below.drew | (refine bal ?_ _)))))) _ _ (by rfl) (Row.one_at (e := 32) (x := (false, p.bodies[k])) _ hK1 (by simp)) (fun k' hk' e => by simp [Value.ownBlock] at e; have hgb := HB.out.gbs; rcases hk' with hk' | hk'; exact (BAt.spot HB.out h2 hk').2.2 e; (first | omega | (simp at hk'; omega))) (by have := HRK.out; have := HLEN.out; have := HK.out; simp; omega) (by have := hB1.k.size; simp; omega) ?_; intro v2 w3 ho2 hg2 hv2; have q5 := BAt.rpB (BAt.below hB1 (by (repeat' (first | exact Below.refl _ _ | apply Below.drew | (refine bal ?_ _))))) hg2; have q6 := cell_of_row _ _ 1 _ _ _ q5; have q7 := frozen_of_row q5; simp at q6; have hkg := Keep.of_grown (T := fun k' => k' = gb) hg2 (fun k' hk' => by simp [Value.ownBlock] at hk'; exact hk'.symm); have y1 := ((hkg.cell (p := ⟨wo.heap.size, 1, none⟩) (by simp; omega) hn3).trans ((bal (Below.refl _ _) _).cell z1)).trans x1; have y2 := ((hkg.cell (p := ad.add k) (by simp; omega) hn4).trans ((bal (Below.refl _ _) _).cell z2)).trans x2; have y3 := (fun u => (World.cell?_setCell_far w3 ⟨w2.heap.size, 1, none⟩ ⟨wo.heap.size, 1, none⟩ u hn1).trans y1); have y4 := (fun u => (World.cell?_setCell_far w3 ⟨w2.heap.size, 1, none⟩ (ad.add k) u hn2).trans y2); have b1 := (fun u => (Below.heap_setCell w3 ⟨w2.heap.size, 1, none⟩ u wo.heap.size (by simp; omega)).trans ((hkg.block wo.heap.size (by simp; omega) hn3).trans ((Below.heap_alloc w1 _ wo.heap.size z1).trans ((hb1.block wo.heap.size hbl).trans hbx)))); obtain ⟨gb', cab', rfl, hB'⟩ := BAt.grow1 (BAt.below hB1 (by (repeat' (first | exact Below.refl _ _ | apply Below.drew | (refine bal ?_ _))))) hg2 ho2 (fun k' hk' => by rcases hk' with hk' | (hk' | hk') | hk'; exact hk'; exact (BAt.spot HB.out h2 hk').1; exact (BAt.spot HB.out h2 (.inr (by omega))).1; exact (BAt.spot HB.out h2 (.inr (by simp at hk'; omega))).1) hv2)
                  refine hKq.out _ _ (by (try dsimp only) <;> (first | (go_keep; done) | exact ⟨y3 _, y4 _⟩ | exact ⟨y1, y2⟩ | exact ⟨x1, x2⟩)) (fun hHeld => ?_)
                  clear hKq Kq
                  (try simp only [List.getElem_toArray, List.getElem_cons_zero, List.getElem_cons_succ, Act.put, List.setIfInBounds_toArray, List.set_cons_zero, List.set_cons_succ])
                  refine wpAnyH_take (i := 11) (v := _) rfl (by kernel_rfl) (by kernel_rfl) (by kernel_rfl) (fun _ _ _ h => h) (Or.inl ⟨by rfl, by (intro w hSw; (try dsimp only at hSw); go_simp <;> with_reducible rfl)⟩) (by assumption) ?_
                  (try simp only [List.getElem_toArray, List.getElem_cons_zero, List.getElem_cons_succ, Act.put, List.setIfInBounds_toArray, List.set_cons_zero, List.set_cons_succ])
                  refine wpAnyH_ready (rs := [12]) (by kernel_rfl) (by simp) ?_
                  refine AllReadyH.cons rfl (fun Kq hKq => ?_) ?_
                  · (try simp only [List.getElem_toArray, List.getElem_cons_zero, List.getElem_cons_succ])
                    refine step_fold (a := ⟨_, _⟩) ?_
                    go_simp
                    refine hKq.out _ _ (by (try dsimp only) <;> (first | (go_keep; done) | exact ⟨y3 _, y4 _⟩ | exact ⟨y1, y2⟩ | exact ⟨x1, x2⟩)) (fun hHeld => ?_)
                    clear hKq Kq
                    (try simp only [List.getElem_toArray, List.getElem_cons_zero, List.getElem_cons_succ, Act.put, List.setIfInBounds_toArray, List.set_cons_zero, List.set_cons_succ])
                    refine wpAnyH_done (by kernel_rfl) ?_ _
                    refine NoPanic.normal ?_
                    go_wp2
                    exact ⟨⟨k + 1, by go_num, by have := HRK.out; omega, b1 _, .inr ⟨gb', cab', _, _, rest ++ [p.bodies[k]], by have := HRK.out; simp; omega, HA4.out, by simp [Value.ownBlock] at hv2; omega, hB'⟩⟩, by simp [intOf]; omega⟩
                  exact AllReadyH.nil
                exact AllReadyH.nil
              exact AllReadyH.nil
            exact AllReadyH.nil
          refine AllReadyH.cons rfl (fun Kq hKq => ?_) ?_
          · (try simp only [List.getElem_toArray, List.getElem_cons_zero, List.getElem_cons_succ])
            refine step_fold (a := ⟨_, _⟩) ?_
            first | (refine step_clone_kd (d := kAct) wr.drew (by rfl) (by rfl) _ _ _ (by rfl) Try.underlying32 _ 64 infoAct rfl (by decide) (by decide) (by rfl) B1 c1 (by rfl) (Row.belowAll hr1 (by (repeat' (first | exact Below.refl _ _ | apply Below.drew | (refine bal ?_ _))))) (by have := HL4.out; omega) ?_; intro v1 w1 ho1 hb1; have hB1 := BAt.below (BAt.below HB.out (by (repeat' (first | exact Below.refl _ _ | apply Below.drew | (refine bal ?_ _))))) hb1; have q2 := hB1.p1; have hbl2 := (Array.getElem?_eq_some_iff.1 hB1.rp).1; obtain ⟨A1, n1, rfl, hn1', hr1'⟩ := Own.row ho1; have z1 : wo.heap.size < w1.heap.size := Nat.lt_of_lt_of_le hbl hb1.size; have z2 : (ad.add k).block < w1.heap.size := Nat.lt_of_lt_of_le hl1' hb1.size; have z3 : wr.heap.size ≤ w1.heap.size := hb1.size; have x1 := (hb1.cell (p := ⟨wo.heap.size, 1, none⟩) hbl).trans hx1; have x2 := (hb1.cell (p := ad.add k) hl1').trans hc1; have hK1 := Kd.hv_tail (v := .slice A0 a0.length n0) rfl (fun k => (Value.slice A0 a0.length n0).ownBlock = some k) hr1' (fun k hk => (BAt.spot HB.out h2 hk).2.1) hn1') | (refine step_clone_kd (d := kAct) wr (by rfl) (by rfl) _ _ _ (by rfl) Try.underlying32 _ 64 infoAct rfl (by decide) (by decide) (by rfl) B1 c1 (by rfl) (Row.belowAll hr1 (by (repeat' (first | exact Below.refl _ _ | apply Below.drew | (refine bal ?_ _))))) (by have := HL4.out; omega) ?_; intro v1 w1 ho1 hb1; have hB1 := BAt.below (BAt.below HB.out (by (repeat' (first | exact Below.refl _ _ | apply Below.drew | (refine bal ?_ _))))) hb1; have q2 := hB1.p1; have hbl2 := (Array.getElem?_eq_some_iff.1 hB1.rp).1; obtain ⟨A1, n1, rfl, hn1', hr1'⟩ := Own.row ho1; have z1 : wo.heap.size < w1.heap.size := Nat.lt_of_lt_of_le hbl hb1.size; have z2 : (ad.add k).block < w1.heap.size := Nat.lt_of_lt_of_le hl1' hb1.size; have z3 : wr.heap.size ≤ w1.heap.size := hb1.size; have x1 := (hb1.cell (p := ⟨wo.heap.size, 1, none⟩) hbl).trans hx1; have x2 := (hb1.cell (p := ad.add k) hl1').trans hc1; have hK1 := Kd.hv_tail (v := .slice A0 a0.length n0) rfl (fun k => (Value.slice A0 a0.length n0).ownBlock = some k) hr1' (fun k hk => (BAt.spot HB.out h2 hk).2.1) hn1') | (refine step_clone_kd (d := kAct) wr.drew.drew (by rfl) (by rfl) _ _ _ (by rfl) Try.underlying32 _ 64 infoAct rfl (by decide) (by decide) (by rfl) B1 c1 (by rfl) (Row.belowAll hr1 (by (repeat' (first | exact Below.refl _ _ | apply Below.drew | (refine bal ?_ _))))) (by have := HL4.out; omega) ?_; intro v1 w1 ho1 hb1; have hB1 := BAt.below (BAt.below HB.out (by (repeat' (first | exact Below.refl _ _ | apply Below.drew | (refine bal ?_ _))))) hb1; have q2 := hB1.p1; have hbl2 := (Array.getElem?_eq_some_iff.1 hB1.rp).1; obtain ⟨A1, n1, rfl, hn1', hr1'⟩ := Own.row ho1; have z1 : wo.heap.size < w1.heap.size := Nat.lt_of_lt_of_le hbl hb1.size; have z2 : (ad.add k).block < w1.heap.size := Nat.lt_of_lt_of_le hl1' hb1.size; have z3 : wr.heap.size ≤ w1.heap.size := hb1.size; have x1 := (hb1.cell (p := ⟨wo.heap.size, 1, none⟩) hbl).trans hx1; have x2 := (hb1.cell (p := ad.add k) hl1').trans hc1; have hK1 := Kd.hv_tail (v := .slice A0 a0.length n0) rfl (fun k => (Value.slice A0 a0.length n0).ownBlock = some k) hr1' (fun k hk => (BAt.spot HB.out h2 hk).2.1) hn1')
            refine hKq.out _ _ (by (try dsimp only) <;> (first | (go_keep; done) | exact ⟨y3 _, y4 _⟩ | exact ⟨y1, y2⟩ | exact ⟨x1, x2⟩)) (fun hHeld => ?_)
            clear hKq Kq
            (try simp only [List.getElem_toArray, List.getElem_cons_zero, List.getElem_cons_succ, Act.put, List.setIfInBounds_toArray, List.set_cons_zero, List.set_cons_succ])
            refine wpAnyH_ready (rs := [1, 9]) (by kernel_rfl) (by simp) ?_
            refine AllReadyH.cons rfl (fun Kq hKq => ?_) ?_
            · (try simp only [List.getElem_toArray, List.getElem_cons_zero, List.getElem_cons_succ])
              refine step_fold (a := ⟨_, _⟩) ?_
              go_simp
              refine hKq.out _ _ (by (try dsimp only) <;> (first | (go_keep; done) | exact ⟨y3 _, y4 _⟩ | exact ⟨y1, y2⟩ | exact ⟨x1, x2⟩)) (fun hHeld => ?_)
              clear hKq Kq
              (try simp only [List.getElem_toArray, List.getElem_cons_zero, List.getElem_cons_succ, Act.put, List.setIfInBounds_toArray, List.set_cons_zero, List.set_cons_succ])
              refine wpAnyH_ready (rs := [9]) (by kernel_rfl) (by simp) ?_
              refine AllReadyH.cons rfl (fun Kq hKq => ?_) ?_
              · (try simp only [List.getElem_toArray, List.getElem_cons_zero, List.getElem_cons_succ])
                refine step_fold (a := ⟨_, _⟩) ?_
                go_simp
                refine hKq.out _ _ (by (try dsimp only) <;> (first | (go_keep; done) | exact ⟨y3 _, y4 _⟩ | exact ⟨y1, y2⟩ | exact ⟨x1, x2⟩)) (fun hHeld => ?_)
                clear hKq Kq
                (try simp only [List.getElem_toArray, List.getElem_cons_zero, List.getElem_cons_succ, Act.put, List.setIfInBounds_toArray, List.set_cons_zero, List.set_cons_succ])
                refine wpAnyH_ready (rs := [10]) (by kernel_rfl) (by simp) ?_
                refine AllReadyH.cons rfl (fun Kq hKq => ?_) ?_
                · (try simp only [List.getElem_toArray, List.getElem_cons_zero, List.getElem_cons_succ])
                  refine step_fold (a := ⟨_, _⟩) ?_
                  (refine step_append_kd (d := Kd.hv (.slice A0 a0.length n0) rfl (fun k => (Value.slice A0 a0.length n0).ownBlock = some k) kAct) (by rfl) _ _ _ (by rfl) Try.underlying24 _ 24 infoActS rfl (by show 0 < 1; omega) (by decide) (by rfl) (BAt.HO (BAt.below hB1 (by (repeat' (first | exact Below.refl _ _ | apply Below.drew | (refine bal ?_ _)))))) _ _ (by rfl) (Row.one_at (e := 32) (x := (false, p.bodies[k])) _ hK1 (by simp)) (fun k' hk' e => by simp [Value.ownBlock] at e; have hgb := HB.out.gbs; rcases hk' with hk' | hk'; exact (BAt.spot HB.out h2 hk').2.2 e; (first | omega | (simp at hk'; omega))) (by have := HRK.out; have := HLEN.out; have := HK.out; simp; omega) (by have := hB1.k.size; simp; omega) ?_; intro v2 w3 ho2 hg2 hv2; have q5 := BAt.rpB (BAt.below hB1 (by (repeat' (first | exact Below.refl _ _ | apply Below.drew | (refine bal ?_ _))))) hg2; have q6 := cell_of_row _ _ 1 _ _ _ q5; have q7 := frozen_of_row q5; simp at q6; have hkg := Keep.of_grown (T := fun k' => k' = gb) hg2 (fun k' hk' => by simp [Value.ownBlock] at hk'; exact hk'.symm); have y1 := ((hkg.cell (p := ⟨wo.heap.size, 1, none⟩) (by simp; omega) hn3).trans ((bal (Below.refl _ _) _).cell z1)).trans x1; have y2 := ((hkg.cell (p := ad.add k) (by simp; omega) hn4).trans ((bal (Below.refl _ _) _).cell z2)).trans x2; have y3 := (fun u => (World.cell?_setCell_far w3 ⟨w2.heap.size, 1, none⟩ ⟨wo.heap.size, 1, none⟩ u hn1).trans y1); have y4 := (fun u => (World.cell?_setCell_far w3 ⟨w2.heap.size, 1, none⟩ (ad.add k) u hn2).trans y2); have b1 := (fun u => (Below.heap_setCell w3 ⟨w2.heap.size, 1, none⟩ u wo.heap.size (by simp; omega)).trans ((hkg.block wo.heap.size (by simp; omega) hn3).trans ((Below.heap_alloc w1 _ wo.heap.size z1).trans ((hb1.block wo.heap.size hbl).trans hbx)))); obtain ⟨gb', cab', rfl, hB'⟩ := BAt.grow1 (BAt.below hB1 (by (repeat' (first | exact Below.refl _ _ | apply Below.drew | (refine bal ?_ _))))) hg2 ho2 (fun k' hk' => by rcases hk' with hk' | (hk' | hk') | hk'; exact hk'; exact (BAt.spot HB.out h2 hk').1; exact (BAt.spot HB.out h2 (.inr (by omega))).1; exact (BAt.spot HB.out h2 (.inr (by simp at hk'; omega))).1) hv2)
                  refine hKq.out _ _ (by (try dsimp only) <;> (first | (go_keep; done) | exact ⟨y3 _, y4 _⟩ | exact ⟨y1, y2⟩ | exact ⟨x1, x2⟩)) (fun hHeld => ?_)
                  clear hKq Kq
                  (try simp only [List.getElem_toArray, List.getElem_cons_zero, List.getElem_cons_succ, Act.put, List.setIfInBounds_toArray, List.set_cons_zero, List.set_cons_succ])
                  refine wpAnyH_take (i := 11) (v := _) rfl (by kernel_rfl) (by kernel_rfl) (by kernel_rfl) (fun _ _ _ h => h) (Or.inl ⟨by rfl, by (intro w hSw; (try dsimp only at hSw); go_simp <;> with_reducible rfl)⟩) (by assumption) ?_
                  (try simp only [List.getElem_toArray, List.getElem_cons_zero, List.getElem_cons_succ, Act.put, List.setIfInBounds_toArray, List.set_cons_zero, List.set_cons_succ])
                  refine wpAnyH_ready (rs := [12]) (by kernel_rfl) (by simp) ?_
                  refine AllReadyH.cons rfl (fun Kq hKq => ?_) ?_
                  · (try simp only [List.getElem_toArray, List.getElem_cons_zero, List.getElem_cons_succ])
                    refine step_fold (a := ⟨_, _⟩) ?_
                    go_simp
                    refine hKq.out _ _ (by (try dsimp only) <;> (first | (go_keep; done) | exact ⟨y3 _, y4 _⟩ | exact ⟨y1, y2⟩ | exact ⟨x1, x2⟩)) (fun hHeld => ?_)
                    clear hKq Kq
                    (try simp only [List.getElem_toArray, List.getElem_cons_zero, List.getElem_cons_succ, Act.put, List.setIfInBounds_toArray, List.set_cons_zero, List.set_cons_succ])
                    refine wpAnyH_done (by kernel_rfl) ?_ _
                    refine NoPanic.normal ?_
                    go_wp2
                    exact ⟨⟨k + 1, by go_num, by have := HRK.out; omega, b1 _, .inr ⟨gb', cab', _, _, rest ++ [p.bodies[k]], by have := HRK.out; simp; omega, HA4.out, by simp [Value.ownBlock] at hv2; omega, hB'⟩⟩, by simp [intOf]; omega⟩
                  exact AllReadyH.nil
                exact AllReadyH.nil
              exact AllReadyH.nil
            refine AllReadyH.cons rfl (fun Kq hKq => ?_) ?_
            · (try simp only [List.getElem_toArray, List.getElem_cons_zero, List.getElem_cons_succ])
              refine step_fold (a := ⟨_, _⟩) ?_
              go_simp
              refine hKq.out _ _ (by (try dsimp only) <;> (first | (go_keep; done) | exact ⟨y3 _, y4 _⟩ | exact ⟨y1, y2⟩ | exact ⟨x1, x2⟩)) (fun hHeld => ?_)
              clear hKq Kq
              (try simp only [List.getElem_toArray, List.getElem_cons_zero, List.getElem_cons_succ, Act.put, List.setIfInBounds_toArray, List.set_cons_zero, List.set_cons_succ])
              refine wpAnyH_ready (rs := [1]) (by kernel_rfl) (by simp) ?_
              refine AllReadyH.cons rfl (fun Kq hKq => ?_) ?_
              · (try simp only [List.getElem_toArray, List.getElem_cons_zero, List.getElem_cons_succ])
                refine step_fold (a := ⟨_, _⟩) ?_
                go_simp
                refine hKq.out _ _ (by (try dsimp only) <;> (first | (go_keep; done) | exact ⟨y3 _, y4 _⟩ | exact ⟨y1, y2⟩ | exact ⟨x1, x2⟩)) (fun hHeld => ?_)
                clear hKq Kq
                (try simp only [List.getElem_toArray, List.getElem_cons_zero, List.getElem_cons_succ, Act.put, List.setIfInBounds_toArray, List.set_cons_zero, List.set_cons_succ])
                refine wpAnyH_ready (rs := [10]) (by kernel_rfl) (by simp) ?_
                refine AllReadyH.cons rfl (fun Kq hKq => ?_) ?_
                · (try simp only [List.getElem_toArray, List.getElem_cons_zero, List.getElem_cons_succ])
                  refine step_fold (a := ⟨_, _⟩) ?_
                  (refine step_append_kd (d := Kd.hv (.slice A0 a0.length n0) rfl (fun k => (Value.slice A0 a0.length n0).ownBlock = some k) kAct) (by rfl) _ _ _ (by rfl) Try.underlying24 _ 24 infoActS rfl (by show 0 < 1; omega) (by decide) (by rfl) (BAt.HO (BAt.below hB1 (by (repeat' (first | exact Below.refl _ _ | apply Below.drew | (refine bal ?_ _)))))) _ _ (by rfl) (Row.one_at (e := 32) (x := (false, p.bodies[k])) _ hK1 (by simp)) (fun k' hk' e => by simp [Value.ownBlock] at e; have hgb := HB.out.gbs; rcases hk' with hk' | hk'; exact (BAt.spot HB.out h2 hk').2.2 e; (first | omega | (simp at hk'; omega))) (by have := HRK.out; have := HLEN.out; have := HK.out; simp; omega) (by have := hB1.k.size; simp; omega) ?_; intro v2 w3 ho2 hg2 hv2; have q5 := BAt.rpB (BAt.below hB1 (by (repeat' (first | exact Below.refl _ _ | apply Below.drew | (refine bal ?_ _))))) hg2; have q6 := cell_of_row _ _ 1 _ _ _ q5; have q7 := frozen_of_row q5; simp at q6; have hkg := Keep.of_grown (T := fun k' => k' = gb) hg2 (fun k' hk' => by simp [Value.ownBlock] at hk'; exact hk'.symm); have y1 := ((hkg.cell (p := ⟨wo.heap.size, 1, none⟩) (by simp; omega) hn3).trans ((bal (Below.refl _ _) _).cell z1)).trans x1; have y2 := ((hkg.cell (p := ad.add k) (by simp; omega) hn4).trans ((bal (Below.refl _ _) _).cell z2)).trans x2; have y3 := (fun u => (World.cell?_setCell_far w3 ⟨w2.heap.size, 1, none⟩ ⟨wo.heap.size, 1, none⟩ u hn1).trans y1); have y4 := (fun u => (World.cell?_setCell_far w3 ⟨w2.heap.size, 1, none⟩ (ad.add k) u hn2).trans y2); have b1 := (fun u => (Below.heap_setCell w3 ⟨w2.heap.size, 1, none⟩ u wo.heap.size (by simp; omega)).trans ((hkg.block wo.heap.size (by simp; omega) hn3).trans ((Below.heap_alloc w1 _ wo.heap.size z1).trans ((hb1.block wo.heap.size hbl).trans hbx)))); obtain ⟨gb', cab', rfl, hB'⟩ := BAt.grow1 (BAt.below hB1 (by (repeat' (first | exact Below.refl _ _ | apply Below.drew | (refine bal ?_ _))))) hg2 ho2 (fun k' hk' => by rcases hk' with hk' | (hk' | hk') | hk'; exact hk'; exact (BAt.spot HB.out h2 hk').1; exact (BAt.spot HB.out h2 (.inr (by omega))).1; exact (BAt.spot HB.out h2 (.inr (by simp at hk'; omega))).1) hv2)
                  refine hKq.out _ _ (by (try dsimp only) <;> (first | (go_keep; done) | exact ⟨y3 _, y4 _⟩ | exact ⟨y1, y2⟩ | exact ⟨x1, x2⟩)) (fun hHeld => ?_)
                  clear hKq Kq
                  (try simp only [List.getElem_toArray, List.getElem_cons_zero, List.getElem_cons_succ, Act.put, List.setIfInBounds_toArray, List.set_cons_zero, List.set_cons_succ])
                  refine wpAnyH_take (i := 11) (v := _) rfl (by kernel_rfl) (by kernel_rfl) (by kernel_rfl) (fun _ _ _ h => h) (Or.inl ⟨by rfl, by (intro w hSw; (try dsimp only at hSw); go_simp <;> with_reducible rfl)⟩) (by assumption) ?_
                  (try simp only [List.getElem_toArray, List.getElem_cons_zero, List.getElem_cons_succ, Act.put, List.setIfInBounds_toArray, List.set_cons_zero, List.set_cons_succ])
                  refine wpAnyH_ready (rs := [12]) (by kernel_rfl) (by simp) ?_
                  refine AllReadyH.cons rfl (fun Kq hKq => ?_) ?_
                  · (try simp only [List.getElem_toArray, List.getElem_cons_zero, List.getElem_cons_succ])
                    refine step_fold (a := ⟨_, _⟩) ?_
                    go_simp
                    refine hKq.out _ _ (by (try dsimp only) <;> (first | (go_keep; done) | exact ⟨y3 _, y4 _⟩ | exact ⟨y1, y2⟩ | exact ⟨x1, x2⟩)) (fun hHeld => ?_)
                    clear hKq Kq
                    (try simp only [List.getElem_toArray, List.getElem_cons_zero, List.getElem_cons_succ, Act.put, List.setIfInBounds_toArray, List.set_cons_zero, List.set_cons_succ])
                    refine wpAnyH_done (by kernel_rfl) ?_ _
                    refine NoPanic.normal ?_
                    go_wp2
                    exact ⟨⟨k + 1, by go_num, by have := HRK.out; omega, b1 _, .inr ⟨gb', cab', _, _, rest ++ [p.bodies[k]], by have := HRK.out; simp; omega, HA4.out, by simp [Value.ownBlock] at hv2; omega, hB'⟩⟩, by simp [intOf]; omega⟩
                  exact AllReadyH.nil
                exact AllReadyH.nil
              exact AllReadyH.nil
            exact AllReadyH.nil
          exact AllReadyH.nil
        exact AllReadyH.nil
    · rcases hst with ⟨rfl, _⟩ | ⟨gb, cab, v0, a0, rest, hrk, ha4, hgw, hB⟩
      · exfalso; have := HLEN.out; omega
      · obtain rfl : k = p.bodies.length := by omega
        obtain ⟨gc, cc', hvc, hgc1, hgc2⟩ := hB.C.place (by have := HC1.out; omega)
        injection hvc with hvc hvc2 hvc3
        subst hvc
        subst hvc3
        obtain ⟨A0, n0, hv0, hn0, hr0⟩ := Own.row hB.O
        subst hv0
        have HRK := Lib.hid hrk
        have HA4 := Lib.hid ha4
        clear hP0 hsz hrk ha4 hlt hk hx0 hbx hm hr0 hbox' hz2
        go_wp2_with (first | (go_at_call 49; refine (pick_calls _ _ _ _ _ _ _ _ hB.R (by omega)).mono ?_; rintro e w3 ⟨m, rfl, hm0, hm1, hRn, hk⟩; have hB3 := (BAt.pick hB hRn hk).less (f' := f + 10) (by omega); have u1 := hB3.p1; have u2 := hB3.p0; have hbl3 := hB3.lts; clear hRn hk) | (at_builtin; refine wpList_append_kd (d := Kd.int) rfl (.tmp 61) (.tmp 62) _ rfl Try.underlying23 _ 8 infoInt rfl (by decide) (by decide) rfl (OwnI.belowAll hB3.C (bal (Below.refl _ _) _)) _ _ rfl row3z (fun k hk e => by have := hB3.C.blk k e.symm; omega) (by have := HLEN.out; simp; omega) (by have := hB3.k.size; simp; omega) ?_; intro v4 w4 ho4 hg4 hv4; have hB4 := BAt.setC (hB3.al _) hg4 hv4 (OwnI.of ho4); obtain ⟨q1, q2, q3, q4, q5, q6⟩ := BAt.four (hB3.al _) hg4 (BAt.gbne hB3).2.1.1 (BAt.gbne hB3).2.1.2; obtain ⟨q7, q8, q9⟩ := BAt.fourS (hB3.al _) hg4 (BAt.gbne hB3).2.1.1 (BAt.gbne hB3).2.1.2 0; obtain ⟨A4, n4, rfl, hn4, hr4⟩ := Own.row ho4; clear hr4 u1 u2) | (at_builtin; refine wpList_append_kd (d := Kd.hv (.slice A0 a0.length n0) rfl (fun k => (Value.slice A0 a0.length n0).ownBlock = some k) kAct) rfl (.tmp 121) (.tmp 125) _ rfl Try.underlying24 _ 24 infoActS rfl (by show 0 < 1; omega) (by decide) rfl (BAt.HO (BAt.below hB3 (by (repeat' (first | exact Below.refl _ _ | apply Below.drew | (refine bal ?_ _)))))) _ _ rfl (row_none3 (S := fun k => w3.heap.size ≤ k) rfl (by have := heap_alloc_new (((w3.alloc (.cells #[] 35)).alloc (.cells #[] 35)).alloc (.cells #[] 35)) (.cells #[.slice (some ⟨w3.heap.size, 0, none⟩) 0 0, .slice (some ⟨w3.heap.size + 1, 0, none⟩) 0 0, .slice (some ⟨w3.heap.size + 1 + 1, 0, none⟩) 0 0] 32); simpa using this) (by show w3.heap.size ≤ _; omega) (fun k hk e => by have := (hB3.O.blk k e).2.1; omega)) (fun k hk e => by have e' : some k = some gb := e; injection e' with e'; have := hB3.gbs.2.1; have hk : w3.heap.size ≤ k := hk; omega) (by have := HLEN.out; have := HRK.out; simp; omega) (by have := hB3.k.size; simp; omega) ?_; intro v4 w4 ho4 hg4 hv4; obtain ⟨q1, q2, q3, q4, q5, q6⟩ := BAt.four (BAt.below hB3 (by (repeat' (first | exact Below.refl _ _ | apply Below.drew | (refine bal ?_ _))))) hg4 (BAt.gbne hB3).1.1 (BAt.gbne hB3).1.2; obtain ⟨q7, q8, q9⟩ := BAt.fourS (BAt.below hB3 (by (repeat' (first | exact Below.refl _ _ | apply Below.drew | (refine bal ?_ _))))) hg4 (BAt.gbne hB3).1.1 (BAt.gbne hB3).1.2 1; obtain ⟨gb', cab', rfl, hB4⟩ := BAt.grow3 (BAt.below hB3 (by (repeat' (first | exact Below.refl _ _ | apply Below.drew | (refine bal ?_ _))))) hg4 ho4 (fun k hk => by rcases hk with hk | hk | hk; exact hk; exact (BAt.spot hB3 h2 (.inr hk)).1; exact (BAt.spot hB3 h2 (.inr (by first | omega | (simp at hk; omega)))).1) hv4; clear u1 u2))
        · have HB := Lib.hid hB3
          have hblk2 := heap_alloc_new w3 (.cells #[.int .i64 (-1), .int .i64 100] 3)
          have hgcn := hB3.nc gc rfl
          have hgcn : gc ≠ w2.heap.size ∧ gc ≠ wo.heap.size + 1 := ⟨hgcn.2, hgcn.1⟩
          have hci : (0 : Int) < (p.cells.length : Int) := by have := HC1.out; omega
          have hgl3 : g < w3.heap.size := Nat.lt_of_lt_of_le hgl hB3.k.size
          clear hB3
          refine wp_region_noPanic ?_
          refine wp_region_held_drew (S := (fun w' => w'.cell? ⟨w2.heap.size, 0, none⟩ = some (.slice (some ⟨gc, 0, none⟩) p.cells.length cac))) (by kernel_rfl) (by (try dsimp only) <;> (first | (go_keep; done) | exact u2 | exact s2 | exact y1 _ | exact z1 _ _)) (fun hHeld => ?_)
          refine wpAnyH_take (i := 0) (v := _) rfl (by kernel_rfl) (by kernel_rfl) (by kernel_rfl) (fun _ _ _ h => h) (Or.inl ⟨by rfl, by (intro w hSw; (try dsimp only at hSw); go_simp <;> with_reducible rfl)⟩) (by assumption) ?_
          (try simp only [List.getElem_toArray, List.getElem_cons_zero, List.getElem_cons_succ, Act.put, List.setIfInBounds_toArray, List.set_cons_zero, List.set_cons_succ])
          refine wpAnyH_take (i := 1) (v := _) rfl (by kernel_rfl) (by kernel_rfl) (by kernel_rfl) (fun _ _ _ h => h) (Or.inl ⟨by rfl, by (intro w hSw; (try dsimp only at hSw); go_simp <;> with_reducible rfl)⟩) (by assumption) ?_
          (try simp only [List.getElem_toArray, List.getElem_cons_zero, List.getElem_cons_succ, Act.put, List.setIfInBounds_toArray, List.set_cons_zero, List.set_cons_succ])
          refine wpAnyH_take (i := 3) (v := _) rfl (by kernel_rfl) (by kernel_rfl) (by kernel_rfl) (fun _ _ _ h => h) (Or.inl ⟨by rfl, by (intro w hSw; (try dsimp only at hSw); go_simp <;> with_reducible rfl)⟩) (by assumption) ?_
          (try simp only [List.getElem_toArray, List.getElem_cons_zero, List.getElem_cons_succ, Act.put, List.setIfInBounds_toArray, List.set_cons_zero, List.set_cons_succ])
          refine wpAnyH_ready (rs := [2, 4]) (by kernel_rfl) (by simp) ?_
          refine AllReadyH.cons rfl (fun Kq hKq => ?_) ?_
          · (try simp only [List.getElem_toArray, List.getElem_cons_zero, List.getElem_cons_succ])
            refine step_fold (a := ⟨_, _⟩) ?_
            go_simp
            refine hKq.out _ _ (by (try dsimp only) <;> (first | (go_keep; done) | exact u2 | exact s2 | exact y1 _ | exact z1 _ _)) (fun hHeld => ?_)
            clear hKq Kq
            (try simp only [List.getElem_toArray, List.getElem_cons_zero, List.getElem_cons_succ, Act.put, List.setIfInBounds_toArray, List.set_cons_zero, List.set_cons_succ])
            refine wpAnyH_ready (rs := [4]) (by kernel_rfl) (by simp) ?_
            refine AllReadyH.cons rfl (fun Kq hKq => ?_) ?_
            · (try simp only [List.getElem_toArray, List.getElem_cons_zero, List.getElem_cons_succ])
              refine step_fold (a := ⟨_, _⟩) ?_
              go_simp
              first | (go_at_call 49; refine (pick_calls _ _ _ _ _ _ _ _ (BAt.R (BAt.below HB.out (by (repeat' (first | exact Below.refl _ _ | apply Below.drew | (refine bal ?_ _)))))) (by omega)).mono ?_; rintro e w4 ⟨x, rfl, hx0, hx1, hRn, hk⟩; obtain ⟨x, rfl⟩ := Int.eq_ofNat_of_zero_le hx0; have hx5 : x < 2 := (by omega); have hB4 := BAt.pick (BAt.below HB.out (by (repeat' (first | exact Below.refl _ _ | apply Below.drew | (refine bal ?_ _))))) hRn hk; obtain ⟨y, hy', hyI⟩ := nums2 (hk.blk hblk2 (by omega)) x hx5; have hy := (Lib.hid hy').out; clear hy'; obtain ⟨s0, s1⟩ := OwnI.cell (BAt.C hB4) (j := 0) HC1.out; have s2 := hB4.p0; obtain ⟨y1, y2, y3, y4, y5⟩ := BAt.farS hB4 (grown_refl w4 none) (by simp) (by simp) gc hgcn.1 hgcn.2; obtain ⟨z1, z2, z3, z4, z5⟩ := BAt.farA hB4 gc hgcn.1 hgcn.2; have hgc4 := (BAt.C hB4).blk gc rfl; have hgc5 := hgc4.2; have hbl4 := hB4.lts.2.1; have hB5 := BAt.setC0 hB4 HC1.out y hyI; have hxi : (0 : Int) ≤ (x : Int) := (by omega); have hxj : (x : Int) < 2 := (by omega); clear hRn hk hx0 hx1) | (go_at_call 49; refine (pick_calls _ _ _ _ _ _ _ _ (BAt.R (BAt.below HB.out (by (repeat' (first | exact Below.refl _ _ | apply Below.drew | (refine bal ?_ _)))))) (by omega)).mono ?_; rintro e w4 ⟨x, rfl, hx0, hx1, hRn, hk⟩; obtain ⟨x, rfl⟩ := Int.eq_ofNat_of_zero_le hx0; have hx5 : x < 2 := (by omega); have hB4 := BAt.pick (BAt.below HB.out (by (repeat' (first | exact Below.refl _ _ | apply Below.drew | (refine bal ?_ _))))) hRn hk; obtain ⟨y, hy', hyI⟩ := nums2_new w4 x hx5; have hy := (Lib.hid hy').out; clear hy'; obtain ⟨s0, s1⟩ := OwnI.cell (BAt.C hB4) (j := 0) HC1.out; have s2 := hB4.p0; obtain ⟨y1, y2, y3, y4, y5⟩ := BAt.farS hB4 (grown_refl w4 none) (by simp) (by simp) gc hgcn.1 hgcn.2; obtain ⟨z1, z2, z3, z4, z5⟩ := BAt.farA hB4 gc hgcn.1 hgcn.2; have hgc4 := (BAt.C hB4).blk gc rfl; have hgc5 := hgc4.2; have hbl4 := hB4.lts.2.1; have hB5 := BAt.setC0 (hB4.al (.cells #[.int .i64 (-1), .int .i64 100] 3)) HC1.out y hyI; have hxi : (0 : Int) ≤ (x : Int) := (by omega); have hxj : (x : Int) < 2 := (by omega); clear hRn hk hx0 hx1; rw [World.setCell_alloc_past _ _ _ _ hgc5] at hB5)
              refine hKq.out _ _ (by (try dsimp only) <;> (first | (go_keep; done) | exact u2 | exact s2 | exact y1 _ | exact z1 _ _)) (fun hHeld => ?_)
              clear hKq Kq
              (try simp only [List.getElem_toArray, List.getElem_cons_zero, List.getElem_cons_succ, Act.put, List.setIfInBounds_toArray, List.set_cons_zero, List.set_cons_succ])
              refine wpAnyH_take (i := 5) (v := _) rfl (by kernel_rfl) (by kernel_rfl) (by kernel_rfl) (fun _ _ _ h => h) (Or.inl ⟨by rfl, by (intro w hSw; (try dsimp only at hSw); go_simp <;> with_reducible rfl)⟩) (by assumption) ?_
              (try simp only [List.getElem_toArray, List.getElem_cons_zero, List.getElem_cons_succ, Act.put, List.setIfInBounds_toArray, List.set_cons_zero, List.set_cons_succ])
              refine wpAnyH_ready (rs := [6]) (by kernel_rfl) (by simp) ?_
              refine AllReadyH.cons rfl (fun Kq hKq => ?_) ?_
              · (try simp only [List.getElem_toArray, List.getElem_cons_zero, List.getElem_cons_succ])
                refine step_fold (a := ⟨_, _⟩) ?_
                go_simp
                refine hKq.out _ _ (by (try dsimp only) <;> (first | (go_keep; done) | exact u2 | exact s2 | exact y1 _ | exact z1 _ _)) (fun hHeld => ?_)
                clear hKq Kq
                (try simp only [List.getElem_toArray, List.getElem_cons_zero, List.getElem_cons_succ, Act.put, List.setIfInBounds_toArray, List.set_cons_zero, List.set_cons_succ])
                refine wpAnyH_ready (rs := [7]) (by kernel_rfl) (by simp) ?_
                refine AllReadyH.cons rfl (fun Kq hKq => ?_) ?_
                · (try simp only [List.getElem_toArray, List.getElem_cons_zero, List.getElem_cons_succ])
                  refine step_fold (a := ⟨_, _⟩) ?_
                  go_simp
                  first | (refine hKq.out _ _ (by (try dsimp only) <;> (first | (go_keep; done) | exact u2 | exact s2 | exact y1 _ | exact z1 _ _)) (fun hHeld => ?_)) | (go_wp2_with fail; refine hKq.out _ _ (by (try dsimp only) <;> (first | (go_keep; done) | exact u2 | exact s2 | exact y1 _ | exact z1 _ _)) (fun hHeld => ?_))
                  clear hKq Kq
                  (try simp only [List.getElem_toArray, List.getElem_cons_zero, List.getElem_cons_succ, Act.put, List.setIfInBounds_toArray, List.set_cons_zero, List.set_cons_succ])
                  refine wpAnyH_ready (rs := [8]) (by kernel_rfl) (by simp) ?_
                  refine AllReadyH.cons rfl (fun Kq hKq => ?_) ?_
                  · (try simp only [List.getElem_toArray, List.getElem_cons_zero, List.getElem_cons_succ])
                    refine step_fold (a := ⟨_, _⟩) ?_
                    go_simp
                    refine hKq.out _ _ (by (try dsimp only) <;> (first | (go_keep; done) | exact u2 | exact s2 | exact y1 _ | exact z1 _ _)) (fun hHeld => ?_)
                    clear hKq Kq
                    (try simp only [List.getElem_toArray, List.getElem_cons_zero, List.getElem_cons_succ, Act.put, List.setIfInBounds_toArray, List.set_cons_zero, List.set_cons_succ])
                    refine wpAnyH_done (by kernel_rfl) ?_ _
                    refine NoPanic.normal ?_
                    go_wp2
                    simp only [List.length_set] at hB5
                    exact bodyPost_ret (v := .agg #[.slice (some ⟨gc, 0, none⟩) p.cells.length cac, .slice (some ⟨gb, 0, none⟩) (rest.length + 1) cab]) (by simp [results, Try.results78, go_sem, y3, y4, y5, z3, z4, z5]) rfl (BAt.done (BAt.less hB5 (by omega)) _ _)
                  exact AllReadyH.nil
                exact AllReadyH.nil
              exact AllReadyH.nil
            exact AllReadyH.nil
          refine AllReadyH.cons rfl (fun Kq hKq => ?_) ?_
          · (try simp only [List.getElem_toArray, List.getElem_cons_zero, List.getElem_cons_succ])
            refine step_fold (a := ⟨_, _⟩) ?_
            go_simp
            first | (go_at_call 49; refine (pick_calls _ _ _ _ _ _ _ _ (BAt.R (BAt.below HB.out (by (repeat' (first | exact Below.refl _ _ | apply Below.drew | (refine bal ?_ _)))))) (by omega)).mono ?_; rintro e w4 ⟨x, rfl, hx0, hx1, hRn, hk⟩; obtain ⟨x, rfl⟩ := Int.eq_ofNat_of_zero_le hx0; have hx5 : x < 2 := (by omega); have hB4 := BAt.pick (BAt.below HB.out (by (repeat' (first | exact Below.refl _ _ | apply Below.drew | (refine bal ?_ _))))) hRn hk; obtain ⟨y, hy', hyI⟩ := nums2 (hk.blk hblk2 (by omega)) x hx5; have hy := (Lib.hid hy').out; clear hy'; obtain ⟨s0, s1⟩ := OwnI.cell (BAt.C hB4) (j := 0) HC1.out; have s2 := hB4.p0; obtain ⟨y1, y2, y3, y4, y5⟩ := BAt.farS hB4 (grown_refl w4 none) (by simp) (by simp) gc hgcn.1 hgcn.2; obtain ⟨z1, z2, z3, z4, z5⟩ := BAt.farA hB4 gc hgcn.1 hgcn.2; have hgc4 := (BAt.C hB4).blk gc rfl; have hgc5 := hgc4.2; have hbl4 := hB4.lts.2.1; have hB5 := BAt.setC0 hB4 HC1.out y hyI; have hxi : (0 : Int) ≤ (x : Int) := (by omega); have hxj : (x : Int) < 2 := (by omega); clear hRn hk hx0 hx1) | (go_at_call 49; refine (pick_calls _ _ _ _ _ _ _ _ (BAt.R (BAt.below HB.out (by (repeat' (first | exact Below.refl _ _ | apply Below.drew | (refine bal ?_ _)))))) (by omega)).mono ?_; rintro e w4 ⟨x, rfl, hx0, hx1, hRn, hk⟩; obtain ⟨x, rfl⟩ := Int.eq_ofNat_of_zero_le hx0; have hx5 : x < 2 := (by omega); have hB4 := BAt.pick (BAt.below HB.out (by (repeat' (first | exact Below.refl _ _ | apply Below.drew | (refine bal ?_ _))))) hRn hk; obtain ⟨y, hy', hyI⟩ := nums2_new w4 x hx5; have hy := (Lib.hid hy').out; clear hy'; obtain ⟨s0, s1⟩ := OwnI.cell (BAt.C hB4) (j := 0) HC1.out; have s2 := hB4.p0; obtain ⟨y1, y2, y3, y4, y5⟩ := BAt.farS hB4 (grown_refl w4 none) (by simp) (by simp) gc hgcn.1 hgcn.2; obtain ⟨z1, z2, z3, z4, z5⟩ := BAt.farA hB4 gc hgcn.1 hgcn.2; have hgc4 := (BAt.C hB4).blk gc rfl; have hgc5 := hgc4.2; have hbl4 := hB4.lts.2.1; have hB5 := BAt.setC0 (hB4.al (.cells #[.int .i64 (-1), .int .i64 100] 3)) HC1.out y hyI; have hxi : (0 : Int) ≤ (x : Int) := (by omega); have hxj : (x : Int) < 2 := (by omega); clear hRn hk hx0 hx1; rw [World.setCell_alloc_past _ _ _ _ hgc5] at hB5)
            refine hKq.out _ _ (by (try dsimp only) <;> (first | (go_keep; done) | exact u2 | exact s2 | exact y1 _ | exact z1 _ _)) (fun hHeld => ?_)
            clear hKq Kq
            (try simp only [List.getElem_toArray, List.getElem_cons_zero, List.getElem_cons_succ, Act.put, List.setIfInBounds_toArray, List.set_cons_zero, List.set_cons_succ])
            refine wpAnyH_ready (rs := [2]) (by kernel_rfl) (by simp) ?_
            refine AllReadyH.cons rfl (fun Kq hKq => ?_) ?_
            · (try simp only [List.getElem_toArray, List.getElem_cons_zero, List.getElem_cons_succ])
              refine step_fold (a := ⟨_, _⟩) ?_
              go_simp
              refine hKq.out _ _ (by (try dsimp only) <;> (first | (go_keep; done) | exact u2 | exact s2 | exact y1 _ | exact z1 _ _)) (fun hHeld => ?_)
              clear hKq Kq
              (try simp only [List.getElem_toArray, List.getElem_cons_zero, List.getElem_cons_succ, Act.put, List.setIfInBounds_toArray, List.set_cons_zero, List.set_cons_succ])
              refine wpAnyH_take (i := 5) (v := _) rfl (by kernel_rfl) (by kernel_rfl) (by kernel_rfl) (fun _ _ _ h => h) (Or.inl ⟨by rfl, by (intro w hSw; (try dsimp only at hSw); go_simp <;> with_reducible rfl)⟩) (by assumption) ?_
              (try simp only [List.getElem_toArray, List.getElem_cons_zero, List.getElem_cons_succ, Act.put, List.setIfInBounds_toArray, List.set_cons_zero, List.set_cons_succ])
              refine wpAnyH_ready (rs := [6]) (by kernel_rfl) (by simp) ?_
              refine AllReadyH.cons rfl (fun Kq hKq => ?_) ?_
              · (try simp only [List.getElem_toArray, List.getElem_cons_zero, List.getElem_cons_succ])
                refine step_fold (a := ⟨_, _⟩) ?_
                go_simp
                refine hKq.out _ _ (by (try dsimp only) <;> (first | (go_keep; done) | exact u2 | exact s2 | exact y1 _ | exact z1 _ _)) (fun hHeld => ?_)
                clear hKq Kq
                (try simp only [List.getElem_toArray, List.getElem_cons_zero, List.getElem_cons_succ, Act.put, List.setIfInBounds_toArray, List.set_cons_zero, List.set_cons_succ])
                refine wpAnyH_ready (rs := [7]) (by kernel_rfl) (by simp) ?_
                refine AllReadyH.cons rfl (fun Kq hKq => ?_) ?_
                · (try simp only [List.getElem_toArray, List.getElem_cons_zero, List.getElem_cons_succ])
                  refine step_fold (a := ⟨_, _⟩) ?_
                  go_simp
                  first | (refine hKq.out _ _ (by (try dsimp only) <;> (first | (go_keep; done) | exact u2 | exact s2 | exact y1 _ | exact z1 _ _)) (fun hHeld => ?_)) | (go_wp2_with fail; refine hKq.out _ _ (by (try dsimp only) <;> (first | (go_keep; done) | exact u2 | exact s2 | exact y1 _ | exact z1 _ _)) (fun hHeld => ?_))
                  clear hKq Kq
                  (try simp only [List.getElem_toArray, List.getElem_cons_zero, List.getElem_cons_succ, Act.put, List.setIfInBounds_toArray, List.set_cons_zero, List.set_cons_succ])
                  refine wpAnyH_ready (rs := [8]) (by kernel_rfl) (by simp) ?_
                  refine AllReadyH.cons rfl (fun Kq hKq => ?_) ?_
                  · (try simp only [List.getElem_toArray, List.getElem_cons_zero, List.getElem_cons_succ])
                    refine step_fold (a := ⟨_, _⟩) ?_
                    go_simp
                    refine hKq.out _ _ (by (try dsimp only) <;> (first | (go_keep; done) | exact u2 | exact s2 | exact y1 _ | exact z1 _ _)) (fun hHeld => ?_)
                    clear hKq Kq
                    (try simp only [List.getElem_toArray, List.getElem_cons_zero, List.getElem_cons_succ, Act.put, List.setIfInBounds_toArray, List.set_cons_zero, List.set_cons_succ])
                    refine wpAnyH_done (by kernel_rfl) ?_ _
                    refine NoPanic.normal ?_
                    go_wp2
                    simp only [List.length_set] at hB5
                    exact bodyPost_ret (v := .agg #[.slice (some ⟨gc, 0, none⟩) p.cells.length cac, .slice (some ⟨gb, 0, none⟩) (rest.length + 1) cab]) (by simp [results, Try.results78, go_sem, y3, y4, y5, z3, z4, z5]) rfl (BAt.done (BAt.less hB5 (by omega)) _ _)
                  exact AllReadyH.nil
                exact AllReadyH.nil
              exact AllReadyH.nil
            exact AllReadyH.nil
          exact AllReadyH.nil
        · simp only [List.length_append, List.length_cons, List.length_nil, Nat.zero_add, Nat.reduceAdd] at hB4
          exact bodyPost_ret (v := .agg #[.slice A4 (p.cells.length + 3) n4, .slice (some ⟨gb, 0, none⟩) (rest.length + 1) cab]) (by simp [results, Try.results78, go_sem, q7, q8, q9]) rfl (BAt.done (BAt.less hB4 (by omega)) _ _)
        · have HB := Lib.hid hB3
          have u3 := hB3.c0
          have hgl3 := hbl3.2.2.2.2
          clear hB3
          refine wp_region_noPanic ?_
          refine wp_region_held_drew (S := (fun w' => w'.cell? ⟨w2.heap.size, 1, none⟩ = some (.slice (some ⟨gb, 0, none⟩) (rest.length + 1) cab))) (by kernel_rfl) (by (try dsimp only) <;> (first | (go_keep; done) | exact u1 | exact s1w4 | exact x3 _ | exact x2)) (fun hHeld => ?_)
          refine wpAnyH_take (i := 0) (v := _) rfl (by kernel_rfl) (by kernel_rfl) (by kernel_rfl) (fun _ _ _ h => h) (Or.inl ⟨by rfl, by (intro w hSw; (try dsimp only at hSw); go_simp <;> with_reducible rfl)⟩) (by assumption) ?_
          (try simp only [List.getElem_toArray, List.getElem_cons_zero, List.getElem_cons_succ, Act.put, List.setIfInBounds_toArray, List.set_cons_zero, List.set_cons_succ])
          refine wpAnyH_take (i := 1) (v := _) rfl (by kernel_rfl) (by kernel_rfl) (by kernel_rfl) (fun _ _ _ h => h) (Or.inl ⟨by rfl, by (intro w hSw; (try dsimp only at hSw); go_simp <;> with_reducible rfl)⟩) (by assumption) ?_
          (try simp only [List.getElem_toArray, List.getElem_cons_zero, List.getElem_cons_succ, Act.put, List.setIfInBounds_toArray, List.set_cons_zero, List.set_cons_succ])
          refine wpAnyH_take (i := 2) (v := _) rfl (by kernel_rfl) (by kernel_rfl) (by kernel_rfl) (fun _ _ _ h => h) (Or.inl ⟨by rfl, by (intro w hSw; (try dsimp only at hSw); go_simp <;> with_reducible rfl)⟩) (by assumption) ?_
          (try simp only [List.getElem_toArray, List.getElem_cons_zero, List.getElem_cons_succ, Act.put, List.setIfInBounds_toArray, List.set_cons_zero, List.set_cons_succ])
          refine wpAnyH_take (i := 3) (v := _) rfl (by kernel_rfl) (by kernel_rfl) (by kernel_rfl) (fun _ _ _ h => h) (Or.inl ⟨by rfl, by (intro w hSw; (try dsimp only at hSw); go_simp <;> with_reducible rfl)⟩) (by assumption) ?_
          (try simp only [List.getElem_toArray, List.getElem_cons_zero, List.getElem_cons_succ, Act.put, List.setIfInBounds_toArray, List.set_cons_zero, List.set_cons_succ])
          refine wpAnyH_take (i := 4) (v := _) rfl (by kernel_rfl) (by kernel_rfl) (by kernel_rfl) (fun _ _ _ h => h) (Or.inl ⟨by rfl, by (intro w hSw; (try dsimp only at hSw); go_simp <;> with_reducible rfl)⟩) (by assumption) ?_
          (try simp only [List.getElem_toArray, List.getElem_cons_zero, List.getElem_cons_succ, Act.put, List.setIfInBounds_toArray, List.set_cons_zero, List.set_cons_succ])
          refine wpAnyH_take (i := 6) (v := _) rfl (by kernel_rfl) (by kernel_rfl) (by kernel_rfl) (fun _ _ _ h => h) (Or.inl ⟨by rfl, by (intro w hSw; (try dsimp only at hSw); go_simp <;> with_reducible rfl)⟩) (by assumption) ?_
          (try simp only [List.getElem_toArray, List.getElem_cons_zero, List.getElem_cons_succ, Act.put, List.setIfInBounds_toArray, List.set_cons_zero, List.set_cons_succ])
          refine wpAnyH_ready (rs := [5, 7]) (by kernel_rfl) (by simp) ?_
          refine AllReadyH.cons rfl (fun Kq hKq => ?_) ?_
          · (try simp only [List.getElem_toArray, List.getElem_cons_zero, List.getElem_cons_succ])
            refine step_fold (a := ⟨_, _⟩) ?_
            go_simp
            refine hKq.out _ _ (by (try dsimp only) <;> (first | (go_keep; done) | exact u1 | exact s1w4 | exact x3 _ | exact x2)) (fun hHeld => ?_)
            clear hKq Kq
            (try simp only [List.getElem_toArray, List.getElem_cons_zero, List.getElem_cons_succ, Act.put, List.setIfInBounds_toArray, List.set_cons_zero, List.set_cons_succ])
            refine wpAnyH_ready (rs := [7]) (by kernel_rfl) (by simp) ?_
            refine AllReadyH.cons rfl (fun Kq hKq => ?_) ?_
            · (try simp only [List.getElem_toArray, List.getElem_cons_zero, List.getElem_cons_succ])
              refine step_fold (a := ⟨_, _⟩) ?_
              go_simp
              (go_at_call 49; refine (pick_calls _ _ _ _ _ _ _ _ (BAt.R (BAt.below HB.out (by (repeat' (first | exact Below.refl _ _ | apply Below.drew | (refine bal ?_ _)))))) (by omega)).mono ?_; rintro e w4 ⟨t, rfl, ht0, ht1, hRn, hk⟩; have hwt := IntWalk.i64_in (t - 1) (by omega); have hB4 := BAt.pick (BAt.below HB.out (by (repeat' (first | exact Below.refl _ _ | apply Below.drew | (refine bal ?_ _))))) hRn hk; have s1w4 := hB4.p1; have s0w4 := hB4.c0; have hglw4 := hB4.lts.2.2.2.2; have hblw4 := hB4.lts.2.1; clear hRn hk)
              refine hKq.out _ _ (by (try dsimp only) <;> (first | (go_keep; done) | exact u1 | exact s1w4 | exact x3 _ | exact x2)) (fun hHeld => ?_)
              clear hKq Kq
              (try simp only [List.getElem_toArray, List.getElem_cons_zero, List.getElem_cons_succ, Act.put, List.setIfInBounds_toArray, List.set_cons_zero, List.set_cons_succ])
              refine wpAnyH_take (i := 8) (v := _) rfl (by kernel_rfl) (by kernel_rfl) (by kernel_rfl) (fun _ _ _ h => h) (Or.inl ⟨by rfl, by (intro w hSw; (try dsimp only at hSw); go_simp <;> with_reducible rfl)⟩) (by assumption) ?_
              (try simp only [List.getElem_toArray, List.getElem_cons_zero, List.getElem_cons_succ, Act.put, List.setIfInBounds_toArray, List.set_cons_zero, List.set_cons_succ])
              refine wpAnyH_take (i := 9) (v := _) rfl (by kernel_rfl) (by kernel_rfl) (by kernel_rfl) (fun _ _ _ h => h) (Or.inl ⟨by rfl, by (intro w hSw; (try dsimp only at hSw); go_simp <;> with_reducible rfl)⟩) (by assumption) ?_
              (try simp only [List.getElem_toArray, List.getElem_cons_zero, List.getElem_cons_succ, Act.put, List.setIfInBounds_toArray, List.set_cons_zero, List.set_cons_succ])
              refine wpAnyH_ready (rs := [10]) (by kernel_rfl) (by simp) ?_
              refine AllReadyH.cons rfl (fun Kq hKq => ?_) ?_
              · (try simp only [List.getElem_toArray, List.getElem_cons_zero, List.getElem_cons_succ])
                refine step_fold (a := ⟨_, _⟩) ?_
                go_simp
                refine hKq.out _ _ (by (try dsimp only) <;> (first | (go_keep; done) | exact u1 | exact s1w4 | exact x3 _ | exact x2)) (fun hHeld => ?_)
                clear hKq Kq
                (try simp only [List.getElem_toArray, List.getElem_cons_zero, List.getElem_cons_succ, Act.put, List.setIfInBounds_toArray, List.set_cons_zero, List.set_cons_succ])
                refine wpAnyH_ready (rs := [11]) (by kernel_rfl) (by simp) ?_
                refine AllReadyH.cons rfl (fun Kq hKq => ?_) ?_
                · (try simp only [List.getElem_toArray, List.getElem_cons_zero, List.getElem_cons_succ])
                  refine step_fold (a := ⟨_, _⟩) ?_
                  (refine step_append_kd (d := kAct) (by rfl) _ _ _ (by rfl) Try.underlying32 _ 64 infoAct rfl (by decide) (by decide) (by rfl) (Own.belowAll (BAt.O hB4) (by (repeat' (first | exact Below.refl _ _ | apply Below.drew | (refine bal ?_ _))))) _ _ (by rfl) (Row.one_at (d := kAct) (e := 35) (S := fun _ => False) (x := ⟨t - 1, [], [], 0⟩) _ (act_K (t - 1) 0 (by unfold i64; omega) (by unfold i64; omega)) (by simp)) (fun k hk e => BAt.farO hB4 (k := k) (by rcases hk with hk | hk; exact hk.elim; first | omega | (simp at hk; omega)) e) (by have := HA4.out; simp; omega) (by have := (BAt.k hB4).size; simp; omega) ?_; intro v5 w5 ho5 hg5 hv5; obtain ⟨x0, x1, x2, x3⟩ := BAt.appFacts (BAt.below hB4 (by (repeat' (first | exact Below.refl _ _ | apply Below.drew | (refine bal ?_ _))))) hg5; obtain ⟨y1, y2, y3, y4, y5⟩ := BAt.appEnds (BAt.below hB4 (by (repeat' (first | exact Below.refl _ _ | apply Below.drew | (refine bal ?_ _))))) hg5; have hB5 := BAt.app1 (BAt.below hB4 (by (repeat' (first | exact Below.refl _ _ | apply Below.drew | (refine bal ?_ _))))) hg5 hv5 ho5 (fun k hk => BAt.past hB4 (by rcases hk with hk | hk; exact hk.elim; first | omega | (simp at hk; omega))); obtain ⟨A5, n5, rfl, hn5, hr5⟩ := Own.row ho5; clear hr5)
                  refine hKq.out _ _ (by (try dsimp only) <;> (first | (go_keep; done) | exact u1 | exact s1w4 | exact x3 _ | exact x2)) (fun hHeld => ?_)
                  clear hKq Kq
                  (try simp only [List.getElem_toArray, List.getElem_cons_zero, List.getElem_cons_succ, Act.put, List.setIfInBounds_toArray, List.set_cons_zero, List.set_cons_succ])
                  refine wpAnyH_take (i := 12) (v := _) rfl (by kernel_rfl) (by kernel_rfl) (by kernel_rfl) (fun _ _ _ h => h) (Or.inl ⟨by rfl, by (intro w hSw; (try dsimp only at hSw); go_simp <;> with_reducible rfl)⟩) (by assumption) ?_
                  (try simp only [List.getElem_toArray, List.getElem_cons_zero, List.getElem_cons_succ, Act.put, List.setIfInBounds_toArray, List.set_cons_zero, List.set_cons_succ])
                  refine wpAnyH_ready (rs := [13]) (by kernel_rfl) (by simp) ?_
                  refine AllReadyH.cons rfl (fun Kq hKq => ?_) ?_
                  · (try simp only [List.getElem_toArray, List.getElem_cons_zero, List.getElem_cons_succ])
                    refine step_fold (a := ⟨_, _⟩) ?_
                    go_simp
                    refine hKq.out _ _ (by (try dsimp only) <;> (first | (go_keep; done) | exact u1 | exact s1w4 | exact x3 _ | exact x2)) (fun hHeld => ?_)
                    clear hKq Kq
                    (try simp only [List.getElem_toArray, List.getElem_cons_zero, List.getElem_cons_succ, Act.put, List.setIfInBounds_toArray, List.set_cons_zero, List.set_cons_succ])
                    refine wpAnyH_done (by kernel_rfl) ?_ _
                    refine NoPanic.normal ?_
                    go_wp2
                    simp only [List.length_append, List.length_cons, List.length_nil, Nat.zero_add, Nat.reduceAdd] at hB5
                    exact bodyPost_ret (v := .agg #[.slice (some ⟨gc, 0, none⟩) p.cells.length cac, .slice (some ⟨gb, 0, none⟩) (rest.length + 1) cab]) (by simp [results, Try.results78, go_sem, y3, y4, y5]) rfl (BAt.done (BAt.less hB5 (by omega)) _ _)
                  exact AllReadyH.nil
                exact AllReadyH.nil
              exact AllReadyH.nil
            exact AllReadyH.nil
          refine AllReadyH.cons rfl (fun Kq hKq => ?_) ?_
          · (try simp only [List.getElem_toArray, List.getElem_cons_zero, List.getElem_cons_succ])
            refine step_fold (a := ⟨_, _⟩) ?_
            go_simp
            (go_at_call 49; refine (pick_calls _ _ _ _ _ _ _ _ (BAt.R (BAt.below HB.out (by (repeat' (first | exact Below.refl _ _ | apply Below.drew | (refine bal ?_ _)))))) (by omega)).mono ?_; rintro e w4 ⟨t, rfl, ht0, ht1, hRn, hk⟩; have hwt := IntWalk.i64_in (t - 1) (by omega); have hB4 := BAt.pick (BAt.below HB.out (by (repeat' (first | exact Below.refl _ _ | apply Below.drew | (refine bal ?_ _))))) hRn hk; have s1w4 := hB4.p1; have s0w4 := hB4.c0; have hglw4 := hB4.lts.2.2.2.2; have hblw4 := hB4.lts.2.1; clear hRn hk)
            refine hKq.out _ _ (by (try dsimp only) <;> (first | (go_keep; done) | exact u1 | exact s1w4 | exact x3 _ | exact x2)) (fun hHeld => ?_)
            clear hKq Kq
            (try simp only [List.getElem_toArray, List.getElem_cons_zero, List.getElem_cons_succ, Act.put, List.setIfInBounds_toArray, List.set_cons_zero, List.set_cons_succ])
            refine wpAnyH_take (i := 8) (v := _) rfl (by kernel_rfl) (by kernel_rfl) (by kernel_rfl) (fun _ _ _ h => h) (Or.inl ⟨by rfl, by (intro w hSw; (try dsimp only at hSw); go_simp <;> with_reducible rfl)⟩) (by assumption) ?_
            (try simp only [List.getElem_toArray, List.getElem_cons_zero, List.getElem_cons_succ, Act.put, List.setIfInBounds_toArray, List.set_cons_zero, List.set_cons_succ])
            refine wpAnyH_take (i := 9) (v := _) rfl (by kernel_rfl) (by kernel_rfl) (by kernel_rfl) (fun _ _ _ h => h) (Or.inl ⟨by rfl, by (intro w hSw; (try dsimp only at hSw); go_simp <;> with_reducible rfl)⟩) (by assumption) ?_
            (try simp only [List.getElem_toArray, List.getElem_cons_zero, List.getElem_cons_succ, Act.put, List.setIfInBounds_toArray, List.set_cons_zero, List.set_cons_succ])
            refine wpAnyH_ready (rs := [5, 10]) (by kernel_rfl) (by simp) ?_
            refine AllReadyH.cons rfl (fun Kq hKq => ?_) ?_
            · (try simp only [List.getElem_toArray, List.getElem_cons_zero, List.getElem_cons_succ])
              refine step_fold (a := ⟨_, _⟩) ?_
              go_simp
              refine hKq.out _ _ (by (try dsimp only) <;> (first | (go_keep; done) | exact u1 | exact s1w4 | exact x3 _ | exact x2)) (fun hHeld => ?_)
              clear hKq Kq
              (try simp only [List.getElem_toArray, List.getElem_cons_zero, List.getElem_cons_succ, Act.put, List.setIfInBounds_toArray, List.set_cons_zero, List.set_cons_succ])
              refine wpAnyH_ready (rs := [10]) (by kernel_rfl) (by simp) ?_
              refine AllReadyH.cons rfl (fun Kq hKq => ?_) ?_
              · (try simp only [List.getElem_toArray, List.getElem_cons_zero, List.getElem_cons_succ])
                refine step_fold (a := ⟨_, _⟩) ?_
                go_simp
                refine hKq.out _ _ (by (try dsimp only) <;> (first | (go_keep; done) | exact u1 | exact s1w4 | exact x3 _ | exact x2)) (fun hHeld => ?_)
                clear hKq Kq
                (try simp only [List.getElem_toArray, List.getElem_cons_zero, List.getElem_cons_succ, Act.put, List.setIfInBounds_toArray, List.set_cons_zero, List.set_cons_succ])
                refine wpAnyH_ready (rs := [11]) (by kernel_rfl) (by simp) ?_
                refine AllReadyH.cons rfl (fun Kq hKq => ?_) ?_
                · (try simp only [List.getElem_toArray, List.getElem_cons_zero, List.getElem_cons_succ])
                  refine step_fold (a := ⟨_, _⟩) ?_
                  (refine step_append_kd (d := kAct) (by rfl) _ _ _ (by rfl) Try.underlying32 _ 64 infoAct rfl (by decide) (by decide) (by rfl) (Own.belowAll (BAt.O hB4) (by (repeat' (first | exact Below.refl _ _ | apply Below.drew | (refine bal ?_ _))))) _ _ (by rfl) (Row.one_at (d := kAct) (e := 35) (S := fun _ => False) (x := ⟨t - 1, [], [], 0⟩) _ (act_K (t - 1) 0 (by unfold i64; omega) (by unfold i64; omega)) (by simp)) (fun k hk e => BAt.farO hB4 (k := k) (by rcases hk with hk | hk; exact hk.elim; first | omega | (simp at hk; omega)) e) (by have := HA4.out; simp; omega) (by have := (BAt.k hB4).size; simp; omega) ?_; intro v5 w5 ho5 hg5 hv5; obtain ⟨x0, x1, x2, x3⟩ := BAt.appFacts (BAt.below hB4 (by (repeat' (first | exact Below.refl _ _ | apply Below.drew | (refine bal ?_ _))))) hg5; obtain ⟨y1, y2, y3, y4, y5⟩ := BAt.appEnds (BAt.below hB4 (by (repeat' (first | exact Below.refl _ _ | apply Below.drew | (refine bal ?_ _))))) hg5; have hB5 := BAt.app1 (BAt.below hB4 (by (repeat' (first | exact Below.refl _ _ | apply Below.drew | (refine bal ?_ _))))) hg5 hv5 ho5 (fun k hk => BAt.past hB4 (by rcases hk with hk | hk; exact hk.elim; first | omega | (simp at hk; omega))); obtain ⟨A5, n5, rfl, hn5, hr5⟩ := Own.row ho5; clear hr5)
                  refine hKq.out _ _ (by (try dsimp only) <;> (first | (go_keep; done) | exact u1 | exact s1w4 | exact x3 _ | exact x2)) (fun hHeld => ?_)
                  clear hKq Kq
                  (try simp only [List.getElem_toArray, List.getElem_cons_zero, List.getElem_cons_succ, Act.put, List.setIfInBounds_toArray, List.set_cons_zero, List.set_cons_succ])
                  refine wpAnyH_take (i := 12) (v := _) rfl (by kernel_rfl) (by kernel_rfl) (by kernel_rfl) (fun _ _ _ h => h) (Or.inl ⟨by rfl, by (intro w hSw; (try dsimp only at hSw); go_simp <;> with_reducible rfl)⟩) (by assumption) ?_
                  (try simp only [List.getElem_toArray, List.getElem_cons_zero, List.getElem_cons_succ, Act.put, List.setIfInBounds_toArray, List.set_cons_zero, List.set_cons_succ])
                  refine wpAnyH_ready (rs := [13]) (by kernel_rfl) (by simp) ?_
                  refine AllReadyH.cons rfl (fun Kq hKq => ?_) ?_
                  · (try simp only [List.getElem_toArray, List.getElem_cons_zero, List.getElem_cons_succ])
                    refine step_fold (a := ⟨_, _⟩) ?_
                    go_simp
                    refine hKq.out _ _ (by (try dsimp only) <;> (first | (go_keep; done) | exact u1 | exact s1w4 | exact x3 _ | exact x2)) (fun hHeld => ?_)
                    clear hKq Kq
                    (try simp only [List.getElem_toArray, List.getElem_cons_zero, List.getElem_cons_succ, Act.put, List.setIfInBounds_toArray, List.set_cons_zero, List.set_cons_succ])
                    refine wpAnyH_done (by kernel_rfl) ?_ _
                    refine NoPanic.normal ?_
                    go_wp2
                    simp only [List.length_append, List.length_cons, List.length_nil, Nat.zero_add, Nat.reduceAdd] at hB5
                    exact bodyPost_ret (v := .agg #[.slice (some ⟨gc, 0, none⟩) p.cells.length cac, .slice (some ⟨gb, 0, none⟩) (rest.length + 1) cab]) (by simp [results, Try.results78, go_sem, y3, y4, y5]) rfl (BAt.done (BAt.less hB5 (by omega)) _ _)
                  exact AllReadyH.nil
                exact AllReadyH.nil
              exact AllReadyH.nil
            refine AllReadyH.cons rfl (fun Kq hKq => ?_) ?_
            · (try simp only [List.getElem_toArray, List.getElem_cons_zero, List.getElem_cons_succ])
              refine step_fold (a := ⟨_, _⟩) ?_
              go_simp
              refine hKq.out _ _ (by (try dsimp only) <;> (first | (go_keep; done) | exact u1 | exact s1w4 | exact x3 _ | exact x2)) (fun hHeld => ?_)
              clear hKq Kq
              (try simp only [List.getElem_toArray, List.getElem_cons_zero, List.getElem_cons_succ, Act.put, List.setIfInBounds_toArray, List.set_cons_zero, List.set_cons_succ])
              refine wpAnyH_ready (rs := [5]) (by kernel_rfl) (by simp) ?_
              refine AllReadyH.cons rfl (fun Kq hKq => ?_) ?_
              · (try simp only [List.getElem_toArray, List.getElem_cons_zero, List.getElem_cons_succ])
                refine step_fold (a := ⟨_, _⟩) ?_
                go_simp
                refine hKq.out _ _ (by (try dsimp only) <;> (first | (go_keep; done) | exact u1 | exact s1w4 | exact x3 _ | exact x2)) (fun hHeld => ?_)
                clear hKq Kq
                (try simp only [List.getElem_toArray, List.getElem_cons_zero, List.getElem_cons_succ, Act.put, List.setIfInBounds_toArray, List.set_cons_zero, List.set_cons_succ])
                refine wpAnyH_ready (rs := [11]) (by kernel_rfl) (by simp) ?_
                refine AllReadyH.cons rfl (fun Kq hKq => ?_) ?_
                · (try simp only [List.getElem_toArray, List.getElem_cons_zero, List.getElem_cons_succ])
                  refine step_fold (a := ⟨_, _⟩) ?_
                  (refine step_append_kd (d := kAct) (by rfl) _ _ _ (by rfl) Try.underlying32 _ 64 infoAct rfl (by decide) (by decide) (by rfl) (Own.belowAll (BAt.O hB4) (by (repeat' (first | exact Below.refl _ _ | apply Below.drew | (refine bal ?_ _))))) _ _ (by rfl) (Row.one_at (d := kAct) (e := 35) (S := fun _ => False) (x := ⟨t - 1, [], [], 0⟩) _ (act_K (t - 1) 0 (by unfold i64; omega) (by unfold i64; omega)) (by simp)) (fun k hk e => BAt.farO hB4 (k := k) (by rcases hk with hk | hk; exact hk.elim; first | omega | (simp at hk; omega)) e) (by have := HA4.out; simp; omega) (by have := (BAt.k hB4).size; simp; omega) ?_; intro v5 w5 ho5 hg5 hv5; obtain ⟨x0, x1, x2, x3⟩ := BAt.appFacts (BAt.below hB4 (by (repeat' (first | exact Below.refl _ _ | apply Below.drew | (refine bal ?_ _))))) hg5; obtain ⟨y1, y2, y3, y4, y5⟩ := BAt.appEnds (BAt.below hB4 (by (repeat' (first | exact Below.refl _ _ | apply Below.drew | (refine bal ?_ _))))) hg5; have hB5 := BAt.app1 (BAt.below hB4 (by (repeat' (first | exact Below.refl _ _ | apply Below.drew | (refine bal ?_ _))))) hg5 hv5 ho5 (fun k hk => BAt.past hB4 (by rcases hk with hk | hk; exact hk.elim; first | omega | (simp at hk; omega))); obtain ⟨A5, n5, rfl, hn5, hr5⟩ := Own.row ho5; clear hr5)
                  refine hKq.out _ _ (by (try dsimp only) <;> (first | (go_keep; done) | exact u1 | exact s1w4 | exact x3 _ | exact x2)) (fun hHeld => ?_)
                  clear hKq Kq
                  (try simp only [List.getElem_toArray, List.getElem_cons_zero, List.getElem_cons_succ, Act.put, List.setIfInBounds_toArray, List.set_cons_zero, List.set_cons_succ])
                  refine wpAnyH_take (i := 12) (v := _) rfl (by kernel_rfl) (by kernel_rfl) (by kernel_rfl) (fun _ _ _ h => h) (Or.inl ⟨by rfl, by (intro w hSw; (try dsimp only at hSw); go_simp <;> with_reducible rfl)⟩) (by assumption) ?_
                  (try simp only [List.getElem_toArray, List.getElem_cons_zero, List.getElem_cons_succ, Act.put, List.setIfInBounds_toArray, List.set_cons_zero, List.set_cons_succ])
                  refine wpAnyH_ready (rs := [13]) (by kernel_rfl) (by simp) ?_
                  refine AllReadyH.cons rfl (fun Kq hKq => ?_) ?_
                  · (try simp only [List.getElem_toArray, List.getElem_cons_zero, List.getElem_cons_succ])
                    refine step_fold (a := ⟨_, _⟩) ?_
                    go_simp
                    refine hKq.out _ _ (by (try dsimp only) <;> (first | (go_keep; done) | exact u1 | exact s1w4 | exact x3 _ | exact x2)) (fun hHeld => ?_)
                    clear hKq Kq
                    (try simp only [List.getElem_toArray, List.getElem_cons_zero, List.getElem_cons_succ, Act.put, List.setIfInBounds_toArray, List.set_cons_zero, List.set_cons_succ])
                    refine wpAnyH_done (by kernel_rfl) ?_ _
                    refine NoPanic.normal ?_
                    go_wp2
                    simp only [List.length_append, List.length_cons, List.length_nil, Nat.zero_add, Nat.reduceAdd] at hB5
                    exact bodyPost_ret (v := .agg #[.slice (some ⟨gc, 0, none⟩) p.cells.length cac, .slice (some ⟨gb, 0, none⟩) (rest.length + 1) cab]) (by simp [results, Try.results78, go_sem, y3, y4, y5]) rfl (BAt.done (BAt.less hB5 (by omega)) _ _)
                  exact AllReadyH.nil
                exact AllReadyH.nil
              exact AllReadyH.nil
            exact AllReadyH.nil
          exact AllReadyH.nil
        · have HB := Lib.hid hB3
          have u3 := hB3.c0
          have hgl3 := hbl3.2.2.2.2
          clear hB3
          refine wp_region_noPanic ?_
          refine wp_region_held_drew (S := (fun w' => w'.cell? ⟨w2.heap.size, 1, none⟩ = some (.slice (some ⟨gb, 0, none⟩) (rest.length + 1) cab))) (by kernel_rfl) (by (try dsimp only) <;> (first | (go_keep; done) | exact u1 | exact s1w4 | exact x3 _ | exact x2)) (fun hHeld => ?_)
          refine wpAnyH_take (i := 0) (v := _) rfl (by kernel_rfl) (by kernel_rfl) (by kernel_rfl) (fun _ _ _ h => h) (Or.inl ⟨by rfl, by (intro w hSw; (try dsimp only at hSw); go_simp <;> with_reducible rfl)⟩) (by assumption) ?_
          (try simp only [List.getElem_toArray, List.getElem_cons_zero, List.getElem_cons_succ, Act.put, List.setIfInBounds_toArray, List.set_cons_zero, List.set_cons_succ])
          refine wpAnyH_take (i := 1) (v := _) rfl (by kernel_rfl) (by kernel_rfl) (by kernel_rfl) (fun _ _ _ h => h) (Or.inl ⟨by rfl, by (intro w hSw; (try dsimp only at hSw); go_simp <;> with_reducible rfl)⟩) (by assumption) ?_
          (try simp only [List.getElem_toArray, List.getElem_cons_zero, List.getElem_cons_succ, Act.put, List.setIfInBounds_toArray, List.set_cons_zero, List.set_cons_succ])
          refine wpAnyH_take (i := 2) (v := _) rfl (by kernel_rfl) (by kernel_rfl) (by kernel_rfl) (fun _ _ _ h => h) (Or.inl ⟨by rfl, by (intro w hSw; (try dsimp only at hSw); go_simp <;> with_reducible rfl)⟩) (by assumption) ?_
          (try simp only [List.getElem_toArray, List.getElem_cons_zero, List.getElem_cons_succ, Act.put, List.setIfInBounds_toArray, List.set_cons_zero, List.set_cons_succ])
          refine wpAnyH_take (i := 3) (v := _) rfl (by kernel_rfl) (by kernel_rfl) (by kernel_rfl) (fun _ _ _ h => h) (Or.inl ⟨by rfl, by (intro w hSw; (try dsimp only at hSw); go_simp <;> with_reducible rfl)⟩) (by assumption) ?_
          (try simp only [List.getElem_toArray, List.getElem_cons_zero, List.getElem_cons_succ, Act.put, List.setIfInBounds_toArray, List.set_cons_zero, List.set_cons_succ])
          refine wpAnyH_take (i := 4) (v := _) rfl (by kernel_rfl) (by kernel_rfl) (by kernel_rfl) (fun _ _ _ h => h) (Or.inl ⟨by rfl, by (intro w hSw; (try dsimp only at hSw); go_simp <;> with_reducible rfl)⟩) (by assumption) ?_
          (try simp only [List.getElem_toArray, List.getElem_cons_zero, List.getElem_cons_succ, Act.put, List.setIfInBounds_toArray, List.set_cons_zero, List.set_cons_succ])
          refine wpAnyH_take (i := 6) (v := _) rfl (by kernel_rfl) (by kernel_rfl) (by kernel_rfl) (fun _ _ _ h => h) (Or.inl ⟨by rfl, by (intro w hSw; (try dsimp only at hSw); go_simp <;> with_reducible rfl)⟩) (by assumption) ?_
          (try simp only [List.getElem_toArray, List.getElem_cons_zero, List.getElem_cons_succ, Act.put, List.setIfInBounds_toArray, List.set_cons_zero, List.set_cons_succ])
          refine wpAnyH_ready (rs := [5, 7]) (by kernel_rfl) (by simp) ?_
          refine AllReadyH.cons rfl (fun Kq hKq => ?_) ?_
          · (try simp only [List.getElem_toArray, List.getElem_cons_zero, List.getElem_cons_succ])
            refine step_fold (a := ⟨_, _⟩) ?_
            go_simp
            refine hKq.out _ _ (by (try dsimp only) <;> (first | (go_keep; done) | exact u1 | exact s1w4 | exact x3 _ | exact x2)) (fun hHeld => ?_)
            clear hKq Kq
            (try simp only [List.getElem_toArray, List.getElem_cons_zero, List.getElem_cons_succ, Act.put, List.setIfInBounds_toArray, List.set_cons_zero, List.set_cons_succ])
            refine wpAnyH_ready (rs := [7]) (by kernel_rfl) (by simp) ?_
            refine AllReadyH.cons rfl (fun Kq hKq => ?_) ?_
            · (try simp only [List.getElem_toArray, List.getElem_cons_zero, List.getElem_cons_succ])
              refine step_fold (a := ⟨_, _⟩) ?_
              go_simp
              (go_at_call 49; refine (pick_calls _ _ _ _ _ _ _ _ (BAt.R (BAt.below HB.out (by (repeat' (first | exact Below.refl _ _ | apply Below.drew | (refine bal ?_ _)))))) (by omega)).mono ?_; rintro e w4 ⟨t, rfl, ht0, ht1, hRn, hk⟩; have hwt := IntWalk.i64_in (t - 1) (by omega); have hB4 := BAt.pick (BAt.below HB.out (by (repeat' (first | exact Below.refl _ _ | apply Below.drew | (refine bal ?_ _))))) hRn hk; have s1w4 := hB4.p1; have s0w4 := hB4.c0; have hglw4 := hB4.lts.2.2.2.2; have hblw4 := hB4.lts.2.1; clear hRn hk)
              refine hKq.out _ _ (by (try dsimp only) <;> (first | (go_keep; done) | exact u1 | exact s1w4 | exact x3 _ | exact x2)) (fun hHeld => ?_)
              clear hKq Kq
              (try simp only [List.getElem_toArray, List.getElem_cons_zero, List.getElem_cons_succ, Act.put, List.setIfInBounds_toArray, List.set_cons_zero, List.set_cons_succ])
              refine wpAnyH_take (i := 8) (v := _) rfl (by kernel_rfl) (by kernel_rfl) (by kernel_rfl) (fun _ _ _ h => h) (Or.inl ⟨by rfl, by (intro w hSw; (try dsimp only at hSw); go_simp <;> with_reducible rfl)⟩) (by assumption) ?_
              (try simp only [List.getElem_toArray, List.getElem_cons_zero, List.getElem_cons_succ, Act.put, List.setIfInBounds_toArray, List.set_cons_zero, List.set_cons_succ])
              refine wpAnyH_ready (rs := [9]) (by kernel_rfl) (by simp) ?_
              refine AllReadyH.cons rfl (fun Kq hKq => ?_) ?_
              · (try simp only [List.getElem_toArray, List.getElem_cons_zero, List.getElem_cons_succ])
                refine step_fold (a := ⟨_, _⟩) ?_
                go_simp
                refine hKq.out _ _ (by (try dsimp only) <;> (first | (go_keep; done) | exact u1 | exact s1w4 | exact x3 _ | exact x2)) (fun hHeld => ?_)
                clear hKq Kq
                (try simp only [List.getElem_toArray, List.getElem_cons_zero, List.getElem_cons_succ, Act.put, List.setIfInBounds_toArray, List.set_cons_zero, List.set_cons_succ])
                refine wpAnyH_take (i := 10) (v := _) rfl (by kernel_rfl) (by kernel_rfl) (by kernel_rfl) (fun _ _ _ h => h) (Or.inl ⟨by rfl, by (intro w hSw; (try dsimp only at hSw); go_simp <;> with_reducible rfl)⟩) (by assumption) ?_
                (try simp only [List.getElem_toArray, List.getElem_cons_zero, List.getElem_cons_succ, Act.put, List.setIfInBounds_toArray, List.set_cons_zero, List.set_cons_succ])
                refine wpAnyH_ready (rs := [11]) (by kernel_rfl) (by simp) ?_
                refine AllReadyH.cons rfl (fun Kq hKq => ?_) ?_
                · (try simp only [List.getElem_toArray, List.getElem_cons_zero, List.getElem_cons_succ])
                  refine step_fold (a := ⟨_, _⟩) ?_
                  go_simp
                  refine hKq.out _ _ (by (try dsimp only) <;> (first | (go_keep; done) | exact u1 | exact s1w4 | exact x3 _ | exact x2)) (fun hHeld => ?_)
                  clear hKq Kq
                  (try simp only [List.getElem_toArray, List.getElem_cons_zero, List.getElem_cons_succ, Act.put, List.setIfInBounds_toArray, List.set_cons_zero, List.set_cons_succ])
                  refine wpAnyH_ready (rs := [12]) (by kernel_rfl) (by simp) ?_
                  refine AllReadyH.cons rfl (fun Kq hKq => ?_) ?_
                  · (try simp only [List.getElem_toArray, List.getElem_cons_zero, List.getElem_cons_succ])
                    refine step_fold (a := ⟨_, _⟩) ?_
                    (refine step_append_kd (d := kAct) (by rfl) _ _ _ (by rfl) Try.underlying32 _ 64 infoAct rfl (by decide) (by decide) (by rfl) (Own.belowAll (BAt.O hB4) (by (repeat' (first | exact Below.refl _ _ | apply Below.drew | (refine bal ?_ _))))) _ _ (by rfl) (Row.one_at (d := kAct) (e := 35) (S := fun k => k = w4.heap.size) (x := ⟨2, [], [t - 1], 0⟩) _ (act_K_kids [t - 1] (Nat.le_refl _) (row_oneI (heap_alloc_new w4 _) rfl (by unfold i64; omega))) (by simp)) (fun k hk e => BAt.farO hB4 (k := k) (by rcases hk with hk | hk; (first | omega | (simp at hk; omega)); (first | omega | (simp at hk; omega))) e) (by have := HA4.out; simp; omega) (by have := (BAt.k hB4).size; simp; omega) ?_; intro v5 w5 ho5 hg5 hv5; obtain ⟨x0, x1, x2, x3⟩ := BAt.appFacts (BAt.below hB4 (by (repeat' (first | exact Below.refl _ _ | apply Below.drew | (refine bal ?_ _))))) hg5; obtain ⟨y1, y2, y3, y4, y5⟩ := BAt.appEnds (BAt.below hB4 (by (repeat' (first | exact Below.refl _ _ | apply Below.drew | (refine bal ?_ _))))) hg5; have hB5 := BAt.app1 (BAt.below hB4 (by (repeat' (first | exact Below.refl _ _ | apply Below.drew | (refine bal ?_ _))))) hg5 hv5 ho5 (fun k hk => BAt.past hB4 (by rcases hk with hk | hk; (first | omega | (simp at hk; omega)); (first | omega | (simp at hk; omega)))); obtain ⟨A5, n5, rfl, hn5, hr5⟩ := Own.row ho5; clear hr5)
                    refine hKq.out _ _ (by (try dsimp only) <;> (first | (go_keep; done) | exact u1 | exact s1w4 | exact x3 _ | exact x2)) (fun hHeld => ?_)
                    clear hKq Kq
                    (try simp only [List.getElem_toArray, List.getElem_cons_zero, List.getElem_cons_succ, Act.put, List.setIfInBounds_toArray, List.set_cons_zero, List.set_cons_succ])
                    refine wpAnyH_take (i := 13) (v := _) rfl (by kernel_rfl) (by kernel_rfl) (by kernel_rfl) (fun _ _ _ h => h) (Or.inl ⟨by rfl, by (intro w hSw; (try dsimp only at hSw); go_simp <;> with_reducible rfl)⟩) (by assumption) ?_
                    (try simp only [List.getElem_toArray, List.getElem_cons_zero, List.getElem_cons_succ, Act.put, List.setIfInBounds_toArray, List.set_cons_zero, List.set_cons_succ])
                    refine wpAnyH_ready (rs := [14]) (by kernel_rfl) (by simp) ?_
                    refine AllReadyH.cons rfl (fun Kq hKq => ?_) ?_
                    · (try simp only [List.getElem_toArray, List.getElem_cons_zero, List.getElem_cons_succ])
                      refine step_fold (a := ⟨_, _⟩) ?_
                      go_simp
                      refine hKq.out _ _ (by (try dsimp only) <;> (first | (go_keep; done) | exact u1 | exact s1w4 | exact x3 _ | exact x2)) (fun hHeld => ?_)
                      clear hKq Kq
                      (try simp only [List.getElem_toArray, List.getElem_cons_zero, List.getElem_cons_succ, Act.put, List.setIfInBounds_toArray, List.set_cons_zero, List.set_cons_succ])
                      refine wpAnyH_done (by kernel_rfl) ?_ _
                      refine NoPanic.normal ?_
                      go_wp2
                      simp only [List.length_append, List.length_cons, List.length_nil, Nat.zero_add, Nat.reduceAdd] at hB5
                      exact bodyPost_ret (v := .agg #[.slice (some ⟨gc, 0, none⟩) p.cells.length cac, .slice (some ⟨gb, 0, none⟩) (rest.length + 1) cab]) (by simp [results, Try.results78, go_sem, y3, y4, y5]) rfl (BAt.done (BAt.less hB5 (by omega)) _ _)
                    exact AllReadyH.nil
                  exact AllReadyH.nil
                exact AllReadyH.nil
              exact AllReadyH.nil
            exact AllReadyH.nil
          refine AllReadyH.cons rfl (fun Kq hKq => ?_) ?_
          · (try simp only [List.getElem_toArray, List.getElem_cons_zero, List.getElem_cons_succ])
            refine step_fold (a := ⟨_, _⟩) ?_
            go_simp
            (go_at_call 49; refine (pick_calls _ _ _ _ _ _ _ _ (BAt.R (BAt.below HB.out (by (repeat' (first | exact Below.refl _ _ | apply Below.drew | (refine bal ?_ _)))))) (by omega)).mono ?_; rintro e w4 ⟨t, rfl, ht0, ht1, hRn, hk⟩; have hwt := IntWalk.i64_in (t - 1) (by omega); have hB4 := BAt.pick (BAt.below HB.out (by (repeat' (first | exact Below.refl _ _ | apply Below.drew | (refine bal ?_ _))))) hRn hk; have s1w4 := hB4.p1; have s0w4 := hB4.c0; have hglw4 := hB4.lts.2.2.2.2; have hblw4 := hB4.lts.2.1; clear hRn hk)
            refine hKq.out _ _ (by (try dsimp only) <;> (first | (go_keep; done) | exact u1 | exact s1w4 | exact x3 _ | exact x2)) (fun hHeld => ?_)
            clear hKq Kq
            (try simp only [List.getElem_toArray, List.getElem_cons_zero, List.getElem_cons_succ, Act.put, List.setIfInBounds_toArray, List.set_cons_zero, List.set_cons_succ])
            refine wpAnyH_take (i := 8) (v := _) rfl (by kernel_rfl) (by kernel_rfl) (by kernel_rfl) (fun _ _ _ h => h) (Or.inl ⟨by rfl, by (intro w hSw; (try dsimp only at hSw); go_simp <;> with_reducible rfl)⟩) (by assumption) ?_
            (try simp only [List.getElem_toArray, List.getElem_cons_zero, List.getElem_cons_succ, Act.put, List.setIfInBounds_toArray, List.set_cons_zero, List.set_cons_succ])
            refine wpAnyH_ready (rs := [5, 9]) (by kernel_rfl) (by simp) ?_
            refine AllReadyH.cons rfl (fun Kq hKq => ?_) ?_
            · (try simp only [List.getElem_toArray, List.getElem_cons_zero, List.getElem_cons_succ])
              refine step_fold (a := ⟨_, _⟩) ?_
              go_simp
              refine hKq.out _ _ (by (try dsimp only) <;> (first | (go_keep; done) | exact u1 | exact s1w4 | exact x3 _ | exact x2)) (fun hHeld => ?_)
              clear hKq Kq
              (try simp only [List.getElem_toArray, List.getElem_cons_zero, List.getElem_cons_succ, Act.put, List.setIfInBounds_toArray, List.set_cons_zero, List.set_cons_succ])
              refine wpAnyH_ready (rs := [9]) (by kernel_rfl) (by simp) ?_
              refine AllReadyH.cons rfl (fun Kq hKq => ?_) ?_
              · (try simp only [List.getElem_toArray, List.getElem_cons_zero, List.getElem_cons_succ])
                refine step_fold (a := ⟨_, _⟩) ?_
                go_simp
                refine hKq.out _ _ (by (try dsimp only) <;> (first | (go_keep; done) | exact u1 | exact s1w4 | exact x3 _ | exact x2)) (fun hHeld => ?_)
                clear hKq Kq
                (try simp only [List.getElem_toArray, List.getElem_cons_zero, List.getElem_cons_succ, Act.put, List.setIfInBounds_toArray, List.set_cons_zero, List.set_cons_succ])
                refine wpAnyH_take (i := 10) (v := _) rfl (by kernel_rfl) (by kernel_rfl) (by kernel_rfl) (fun _ _ _ h => h) (Or.inl ⟨by rfl, by (intro w hSw; (try dsimp only at hSw); go_simp <;> with_reducible rfl)⟩) (by assumption) ?_
                (try simp only [List.getElem_toArray, List.getElem_cons_zero, List.getElem_cons_succ, Act.put, List.setIfInBounds_toArray, List.set_cons_zero, List.set_cons_succ])
                refine wpAnyH_ready (rs := [11]) (by kernel_rfl) (by simp) ?_
                refine AllReadyH.cons rfl (fun Kq hKq => ?_) ?_
                · (try simp only [List.getElem_toArray, List.getElem_cons_zero, List.getElem_cons_succ])
                  refine step_fold (a := ⟨_, _⟩) ?_
                  go_simp
                  refine hKq.out _ _ (by (try dsimp only) <;> (first | (go_keep; done) | exact u1 | exact s1w4 | exact x3 _ | exact x2)) (fun hHeld => ?_)
                  clear hKq Kq
                  (try simp only [List.getElem_toArray, List.getElem_cons_zero, List.getElem_cons_succ, Act.put, List.setIfInBounds_toArray, List.set_cons_zero, List.set_cons_succ])
                  refine wpAnyH_ready (rs := [12]) (by kernel_rfl) (by simp) ?_
                  refine AllReadyH.cons rfl (fun Kq hKq => ?_) ?_
                  · (try simp only [List.getElem_toArray, List.getElem_cons_zero, List.getElem_cons_succ])
                    refine step_fold (a := ⟨_, _⟩) ?_
                    (refine step_append_kd (d := kAct) (by rfl) _ _ _ (by rfl) Try.underlying32 _ 64 infoAct rfl (by decide) (by decide) (by rfl) (Own.belowAll (BAt.O hB4) (by (repeat' (first | exact Below.refl _ _ | apply Below.drew | (refine bal ?_ _))))) _ _ (by rfl) (Row.one_at (d := kAct) (e := 35) (S := fun k => k = w4.heap.size) (x := ⟨2, [], [t - 1], 0⟩) _ (act_K_kids [t - 1] (Nat.le_refl _) (row_oneI (heap_alloc_new w4 _) rfl (by unfold i64; omega))) (by simp)) (fun k hk e => BAt.farO hB4 (k := k) (by rcases hk with hk | hk; (first | omega | (simp at hk; omega)); (first | omega | (simp at hk; omega))) e) (by have := HA4.out; simp; omega) (by have := (BAt.k hB4).size; simp; omega) ?_; intro v5 w5 ho5 hg5 hv5; obtain ⟨x0, x1, x2, x3⟩ := BAt.appFacts (BAt.below hB4 (by (repeat' (first | exact Below.refl _ _ | apply Below.drew | (refine bal ?_ _))))) hg5; obtain ⟨y1, y2, y3, y4, y5⟩ := BAt.appEnds (BAt.below hB4 (by (repeat' (first | exact Below.refl _ _ | apply Below.drew | (refine bal ?_ _))))) hg5; have hB5 := BAt.app1 (BAt.below hB4 (by (repeat' (first | exact Below.refl _ _ | apply Below.drew | (refine bal ?_ _))))) hg5 hv5 ho5 (fun k hk => BAt.past hB4 (by rcases hk with hk | hk; (first | omega | (simp at hk; omega)); (first | omega | (simp at hk; omega)))); obtain ⟨A5, n5, rfl, hn5, hr5⟩ := Own.row ho5; clear hr5)
                    refine hKq.out _ _ (by (try dsimp only) <;> (first | (go_keep; done) | exact u1 | exact s1w4 | exact x3 _ | exact x2)) (fun hHeld => ?_)
                    clear hKq Kq
                    (try simp only [List.getElem_toArray, List.getElem_cons_zero, List.getElem_cons_succ, Act.put, List.setIfInBounds_toArray, List.set_cons_zero, List.set_cons_succ])
                    refine wpAnyH_take (i := 13) (v := _) rfl (by kernel_rfl) (by kernel_rfl) (by kernel_rfl) (fun _ _ _ h => h) (Or.inl ⟨by rfl, by (intro w hSw; (try dsimp only at hSw); go_simp <;> with_reducible rfl)⟩) (by assumption) ?_
                    (try simp only [List.getElem_toArray, List.getElem_cons_zero, List.getElem_cons_succ, Act.put, List.setIfInBounds_toArray, List.set_cons_zero, List.set_cons_succ])
                    refine wpAnyH_ready (rs := [14]) (by kernel_rfl) (by simp) ?_
                    refine AllReadyH.cons rfl (fun Kq hKq => ?_) ?_
                    · (try simp only [List.getElem_toArray, List.getElem_cons_zero, List.getElem_cons_succ])
                      refine step_fold (a := ⟨_, _⟩) ?_
                      go_simp
                      refine hKq.out _ _ (by (try dsimp only) <;> (first | (go_keep; done) | exact u1 | exact s1w4 | exact x3 _ | exact x2)) (fun hHeld => ?_)
                      clear hKq Kq
                      (try simp only [List.getElem_toArray, List.getElem_cons_zero, List.getElem_cons_succ, Act.put, List.setIfInBounds_toArray, List.set_cons_zero, List.set_cons_succ])
                      refine wpAnyH_done (by kernel_rfl) ?_ _
                      refine NoPanic.normal ?_
                      go_wp2
                      simp only [List.length_append, List.length_cons, List.length_nil, Nat.zero_add, Nat.reduceAdd] at hB5
                      exact bodyPost_ret (v := .agg #[.slice (some ⟨gc, 0, none⟩) p.cells.length cac, .slice (some ⟨gb, 0, none⟩) (rest.length + 1) cab]) (by simp [results, Try.results78, go_sem, y3, y4, y5]) rfl (BAt.done (BAt.less hB5 (by omega)) _ _)
                    exact AllReadyH.nil
                  exact AllReadyH.nil
                exact AllReadyH.nil
              exact AllReadyH.nil
            refine AllReadyH.cons rfl (fun Kq hKq => ?_) ?_
            · (try simp only [List.getElem_toArray, List.getElem_cons_zero, List.getElem_cons_succ])
              refine step_fold (a := ⟨_, _⟩) ?_
              go_simp
              refine hKq.out _ _ (by (try dsimp only) <;> (first | (go_keep; done) | exact u1 | exact s1w4 | exact x3 _ | exact x2)) (fun hHeld => ?_)
              clear hKq Kq
              (try simp only [List.getElem_toArray, List.getElem_cons_zero, List.getElem_cons_succ, Act.put, List.setIfInBounds_toArray, List.set_cons_zero, List.set_cons_succ])
              refine wpAnyH_take (i := 10) (v := _) rfl (by kernel_rfl) (by kernel_rfl) (by kernel_rfl) (fun _ _ _ h => h) (Or.inl ⟨by rfl, by (intro w hSw; (try dsimp only at hSw); go_simp <;> with_reducible rfl)⟩) (by assumption) ?_
              (try simp only [List.getElem_toArray, List.getElem_cons_zero, List.getElem_cons_succ, Act.put, List.setIfInBounds_toArray, List.set_cons_zero, List.set_cons_succ])
              refine wpAnyH_ready (rs := [5, 11]) (by kernel_rfl) (by simp) ?_
              refine AllReadyH.cons rfl (fun Kq hKq => ?_) ?_
              · (try simp only [List.getElem_toArray, List.getElem_cons_zero, List.getElem_cons_succ])
                refine step_fold (a := ⟨_, _⟩) ?_
                go_simp
                refine hKq.out _ _ (by (try dsimp only) <;> (first | (go_keep; done) | exact u1 | exact s1w4 | exact x3 _ | exact x2)) (fun hHeld => ?_)
                clear hKq Kq
                (try simp only [List.getElem_toArray, List.getElem_cons_zero, List.getElem_cons_succ, Act.put, List.setIfInBounds_toArray, List.set_cons_zero, List.set_cons_succ])
                refine wpAnyH_ready (rs := [11]) (by kernel_rfl) (by simp) ?_
                refine AllReadyH.cons rfl (fun Kq hKq => ?_) ?_
                · (try simp only [List.getElem_toArray, List.getElem_cons_zero, List.getElem_cons_succ])
                  refine step_fold (a := ⟨_, _⟩) ?_
                  go_simp
                  refine hKq.out _ _ (by (try dsimp only) <;> (first | (go_keep; done) | exact u1 | exact s1w4 | exact x3 _ | exact x2)) (fun hHeld => ?_)
                  clear hKq Kq
                  (try simp only [List.getElem_toArray, List.getElem_cons_zero, List.getElem_cons_succ, Act.put, List.setIfInBounds_toArray, List.set_cons_zero, List.set_cons_succ])
                  refine wpAnyH_ready (rs := [12]) (by kernel_rfl) (by simp) ?_
                  refine AllReadyH.cons rfl (fun Kq hKq => ?_) ?_
                  · (try simp only [List.getElem_toArray, List.getElem_cons_zero, List.getElem_cons_succ])
                    refine step_fold (a := ⟨_, _⟩) ?_
                    (refine step_append_kd (d := kAct) (by rfl) _ _ _ (by rfl) Try.underlying32 _ 64 infoAct rfl (by decide) (by decide) (by rfl) (Own.belowAll (BAt.O hB4) (by (repeat' (first | exact Below.refl _ _ | apply Below.drew | (refine bal ?_ _))))) _ _ (by rfl) (Row.one_at (d := kAct) (e := 35) (S := fun k => k = w4.heap.size) (x := ⟨2, [], [t - 1], 0⟩) _ (act_K_kids [t - 1] (Nat.le_refl _) (row_oneI (heap_alloc_new w4 _) rfl (by unfold i64; omega))) (by simp)) (fun k hk e => BAt.farO hB4 (k := k) (by rcases hk with hk | hk; (first | omega | (simp at hk; omega)); (first | omega | (simp at hk; omega))) e) (by have := HA4.out; simp; omega) (by have := (BAt.k hB4).size; simp; omega) ?_; intro v5 w5 ho5 hg5 hv5; obtain ⟨x0, x1, x2, x3⟩ := BAt.appFacts (BAt.below hB4 (by (repeat' (first | exact Below.refl _ _ | apply Below.drew | (refine bal ?_ _))))) hg5; obtain ⟨y1, y2, y3, y4, y5⟩ := BAt.appEnds (BAt.below hB4 (by (repeat' (first | exact Below.refl _ _ | apply Below.drew | (refine bal ?_ _))))) hg5; have hB5 := BAt.app1 (BAt.below hB4 (by (repeat' (first | exact Below.refl _ _ | apply Below.drew | (refine bal ?_ _))))) hg5 hv5 ho5 (fun k hk => BAt.past hB4 (by rcases hk with hk | hk; (first | omega | (simp at hk; omega)); (first | omega | (simp at hk; omega)))); obtain ⟨A5, n5, rfl, hn5, hr5⟩ := Own.row ho5; clear hr5)
                    refine hKq.out _ _ (by (try dsimp only) <;> (first | (go_keep; done) | exact u1 | exact s1w4 | exact x3 _ | exact x2)) (fun hHeld => ?_)
                    clear hKq Kq
                    (try simp only [List.getElem_toArray, List.getElem_cons_zero, List.getElem_cons_succ, Act.put, List.setIfInBounds_toArray, List.set_cons_zero, List.set_cons_succ])
                    refine wpAnyH_take (i := 13) (v := _) rfl (by kernel_rfl) (by kernel_rfl) (by kernel_rfl) (fun _ _ _ h => h) (Or.inl ⟨by rfl, by (intro w hSw; (try dsimp only at hSw); go_simp <;> with_reducible rfl)⟩) (by assumption) ?_
                    (try simp only [List.getElem_toArray, List.getElem_cons_zero, List.getElem_cons_succ, Act.put, List.setIfInBounds_toArray, List.set_cons_zero, List.set_cons_succ])
                    refine wpAnyH_ready (rs := [14]) (by kernel_rfl) (by simp) ?_
                    refine AllReadyH.cons rfl (fun Kq hKq => ?_) ?_
                    · (try simp only [List.getElem_toArray, List.getElem_cons_zero, List.getElem_cons_succ])
                      refine step_fold (a := ⟨_, _⟩) ?_
                      go_simp
                      refine hKq.out _ _ (by (try dsimp only) <;> (first | (go_keep; done) | exact u1 | exact s1w4 | exact x3 _ | exact x2)) (fun hHeld => ?_)
                      clear hKq Kq
                      (try simp only [List.getElem_toArray, List.getElem_cons_zero, List.getElem_cons_succ, Act.put, List.setIfInBounds_toArray, List.set_cons_zero, List.set_cons_succ])
                      refine wpAnyH_done (by kernel_rfl) ?_ _
                      refine NoPanic.normal ?_
                      go_wp2
                      simp only [List.length_append, List.length_cons, List.length_nil, Nat.zero_add, Nat.reduceAdd] at hB5
                      exact bodyPost_ret (v := .agg #[.slice (some ⟨gc, 0, none⟩) p.cells.length cac, .slice (some ⟨gb, 0, none⟩) (rest.length + 1) cab]) (by simp [results, Try.results78, go_sem, y3, y4, y5]) rfl (BAt.done (BAt.less hB5 (by omega)) _ _)
                    exact AllReadyH.nil
                  exact AllReadyH.nil
                exact AllReadyH.nil
              refine AllReadyH.cons rfl (fun Kq hKq => ?_) ?_
              · (try simp only [List.getElem_toArray, List.getElem_cons_zero, List.getElem_cons_succ])
                refine step_fold (a := ⟨_, _⟩) ?_
                go_simp
                refine hKq.out _ _ (by (try dsimp only) <;> (first | (go_keep; done) | exact u1 | exact s1w4 | exact x3 _ | exact x2)) (fun hHeld => ?_)
                clear hKq Kq
                (try simp only [List.getElem_toArray, List.getElem_cons_zero, List.getElem_cons_succ, Act.put, List.setIfInBounds_toArray, List.set_cons_zero, List.set_cons_succ])
                refine wpAnyH_ready (rs := [5]) (by kernel_rfl) (by simp) ?_
                refine AllReadyH.cons rfl (fun Kq hKq => ?_) ?_
                · (try simp only [List.getElem_toArray, List.getElem_cons_zero, List.getElem_cons_succ])
                  refine step_fold (a := ⟨_, _⟩) ?_
                  go_simp
                  refine hKq.out _ _ (by (try dsimp only) <;> (first | (go_keep; done) | exact u1 | exact s1w4 | exact x3 _ | exact x2)) (fun hHeld => ?_)
                  clear hKq Kq
                  (try simp only [List.getElem_toArray, List.getElem_cons_zero, List.getElem_cons_succ, Act.put, List.setIfInBounds_toArray, List.set_cons_zero, List.set_cons_succ])
                  refine wpAnyH_ready (rs := [12]) (by kernel_rfl) (by simp) ?_
                  refine AllReadyH.cons rfl (fun Kq hKq => ?_) ?_
                  · (try simp only [List.getElem_toArray, List.getElem_cons_zero, List.getElem_cons_succ])
                    refine step_fold (a := ⟨_, _⟩) ?_
                    (refine step_append_kd (d := kAct) (by rfl) _ _ _ (by rfl) Try.underlying32 _ 64 infoAct rfl (by decide) (by decide) (by rfl) (Own.belowAll (BAt.O hB4) (by (repeat' (first | exact Below.refl _ _ | apply Below.drew | (refine bal ?_ _))))) _ _ (by rfl) (Row.one_at (d := kAct) (e := 35) (S := fun k => k = w4.heap.size) (x := ⟨2, [], [t - 1], 0⟩) _ (act_K_kids [t - 1] (Nat.le_refl _) (row_oneI (heap_alloc_new w4 _) rfl (by unfold i64; omega))) (by simp)) (fun k hk e => BAt.farO hB4 (k := k) (by rcases hk with hk | hk; (first | omega | (simp at hk; omega)); (first | omega | (simp at hk; omega))) e) (by have := HA4.out; simp; omega) (by have := (BAt.k hB4).size; simp; omega) ?_; intro v5 w5 ho5 hg5 hv5; obtain ⟨x0, x1, x2, x3⟩ := BAt.appFacts (BAt.below hB4 (by (repeat' (first | exact Below.refl _ _ | apply Below.drew | (refine bal ?_ _))))) hg5; obtain ⟨y1, y2, y3, y4, y5⟩ := BAt.appEnds (BAt.below hB4 (by (repeat' (first | exact Below.refl _ _ | apply Below.drew | (refine bal ?_ _))))) hg5; have hB5 := BAt.app1 (BAt.below hB4 (by (repeat' (first | exact Below.refl _ _ | apply Below.drew | (refine bal ?_ _))))) hg5 hv5 ho5 (fun k hk => BAt.past hB4 (by rcases hk with hk | hk; (first | omega | (simp at hk; omega)); (first | omega | (simp at hk; omega)))); obtain ⟨A5, n5, rfl, hn5, hr5⟩ := Own.row ho5; clear hr5)
                    refine hKq.out _ _ (by (try dsimp only) <;> (first | (go_keep; done) | exact u1 | exact s1w4 | exact x3 _ | exact x2)) (fun hHeld => ?_)
                    clear hKq Kq
                    (try simp only [List.getElem_toArray, List.getElem_cons_zero, List.getElem_cons_succ, Act.put, List.setIfInBounds_toArray, List.set_cons_zero, List.set_cons_succ])
                    refine wpAnyH_take (i := 13) (v := _) rfl (by kernel_rfl) (by kernel_rfl) (by kernel_rfl) (fun _ _ _ h => h) (Or.inl ⟨by rfl, by (intro w hSw; (try dsimp only at hSw); go_simp <;> with_reducible rfl)⟩) (by assumption) ?_
                    (try simp only [List.getElem_toArray, List.getElem_cons_zero, List.getElem_cons_succ, Act.put, List.setIfInBounds_toArray, List.set_cons_zero, List.set_cons_succ])
                    refine wpAnyH_ready (rs := [14]) (by kernel_rfl) (by simp) ?_
                    refine AllReadyH.cons rfl (fun Kq hKq => ?_) ?_
                    · (try simp only [List.getElem_toArray, List.getElem_cons_zero, List.getElem_cons_succ])
                      refine step_fold (a := ⟨_, _⟩) ?_
                      go_simp
                      refine hKq.out _ _ (by (try dsimp only) <;> (first | (go_keep; done) | exact u1 | exact s1w4 | exact x3 _ | exact x2)) (fun hHeld => ?_)
                      clear hKq Kq
                      (try simp only [List.getElem_toArray, List.getElem_cons_zero, List.getElem_cons_succ, Act.put, List.setIfInBounds_toArray, List.set_cons_zero, List.set_cons_succ])
                      refine wpAnyH_done (by kernel_rfl) ?_ _
                      refine NoPanic.normal ?_
                      go_wp2
                      simp only [List.length_append, List.length_cons, List.length_nil, Nat.zero_add, Nat.reduceAdd] at hB5
                      exact bodyPost_ret (v := .agg #[.slice (some ⟨gc, 0, none⟩) p.cells.length cac, .slice (some ⟨gb, 0, none⟩) (rest.length + 1) cab]) (by simp [results, Try.results78, go_sem, y3, y4, y5]) rfl (BAt.done (BAt.less hB5 (by omega)) _ _)
                    exact AllReadyH.nil
                  exact AllReadyH.nil
                exact AllReadyH.nil
              exact AllReadyH.nil
            exact AllReadyH.nil
          exact AllReadyH.nil
        · have HB := Lib.hid hB3
          have u3 := hB3.c0
          have hgl3 := hbl3.2.2.2.2
          clear hB3
          refine wp_region_noPanic ?_
          refine wp_region_held_drew (S := (fun w' => w'.cell? ⟨w2.heap.size, 1, none⟩ = some (.slice (some ⟨gb, 0, none⟩) (rest.length + 1) cab))) (by kernel_rfl) (by (try dsimp only) <;> (first | (go_keep; done) | exact u1 | exact s1w4 | exact s1w6 | exact s1w7 | exact x3 _ | exact x2)) (fun hHeld => ?_)
          refine wpAnyH_take (i := 0) (v := _) rfl (by kernel_rfl) (by kernel_rfl) (by kernel_rfl) (fun _ _ _ h => h) (Or.inl ⟨by rfl, by (intro w hSw; (try dsimp only at hSw); go_simp <;> with_reducible rfl)⟩) (by assumption) ?_
          (try simp only [List.getElem_toArray, List.getElem_cons_zero, List.getElem_cons_succ, Act.put, List.setIfInBounds_toArray, List.set_cons_zero, List.set_cons_succ])
          refine wpAnyH_take (i := 1) (v := _) rfl (by kernel_rfl) (by kernel_rfl) (by kernel_rfl) (fun _ _ _ h => h) (Or.inl ⟨by rfl, by (intro w hSw; (try dsimp only at hSw); go_simp <;> with_reducible rfl)⟩) (by assumption) ?_
          (try simp only [List.getElem_toArray, List.getElem_cons_zero, List.getElem_cons_succ, Act.put, List.setIfInBounds_toArray, List.set_cons_zero, List.set_cons_succ])
          refine wpAnyH_take (i := 2) (v := _) rfl (by kernel_rfl) (by kernel_rfl) (by kernel_rfl) (fun _ _ _ h => h) (Or.inl ⟨by rfl, by (intro w hSw; (try dsimp only at hSw); go_simp <;> with_reducible rfl)⟩) (by assumption) ?_
          (try simp only [List.getElem_toArray, List.getElem_cons_zero, List.getElem_cons_succ, Act.put, List.setIfInBounds_toArray, List.set_cons_zero, List.set_cons_succ])
          refine wpAnyH_take (i := 3) (v := _) rfl (by kernel_rfl) (by kernel_rfl) (by kernel_rfl) (fun _ _ _ h => h) (Or.inl ⟨by rfl, by (intro w hSw; (try dsimp only at hSw); go_simp <;> with_reducible rfl)⟩) (by assumption) ?_
          (try simp only [List.getElem_toArray, List.getElem_cons_zero, List.getElem_cons_succ, Act.put, List.setIfInBounds_toArray, List.set_cons_zero, List.set_cons_succ])
          refine wpAnyH_take (i := 4) (v := _) rfl (by kernel_rfl) (by kernel_rfl) (by kernel_rfl) (fun _ _ _ h => h) (Or.inl ⟨by rfl, by (intro w hSw; (try dsimp only at hSw); go_simp <;> with_reducible rfl)⟩) (by assumption) ?_
          (try simp only [List.getElem_toArray, List.getElem_cons_zero, List.getElem_cons_succ, Act.put, List.setIfInBounds_toArray, List.set_cons_zero, List.set_cons_succ])
          refine wpAnyH_take (i := 6) (v := _) rfl (by kernel_rfl) (by kernel_rfl) (by kernel_rfl) (fun _ _ _ h => h) (Or.inl ⟨by rfl, by (intro w hSw; (try dsimp only at hSw); go_simp <;> with_reducible rfl)⟩) (by assumption) ?_
          (try simp only [List.getElem_toArray, List.getElem_cons_zero, List.getElem_cons_succ, Act.put, List.setIfInBounds_toArray, List.set_cons_zero, List.set_cons_succ])
          refine wpAnyH_take (i := 8) (v := _) rfl (by kernel_rfl) (by kernel_rfl) (by kernel_rfl) (fun _ _ _ h => h) (Or.inl ⟨by rfl, by (intro w hSw; (try dsimp only at hSw); go_simp <;> with_reducible rfl)⟩) (by assumption) ?_
          (try simp only [List.getElem_toArray, List.getElem_cons_zero, List.getElem_cons_succ, Act.put, List.setIfInBounds_toArray, List.set_cons_zero, List.set_cons_succ])
          refine wpAnyH_take (i := 11) (v := _) rfl (by kernel_rfl) (by kernel_rfl) (by kernel_rfl) (fun _ _ _ h => h) (Or.inl ⟨by rfl, by (intro w hSw; (try dsimp only at hSw); go_simp <;> with_reducible rfl)⟩) (by assumption) ?_
          (try simp only [List.getElem_toArray, List.getElem_cons_zero, List.getElem_cons_succ, Act.put, List.setIfInBounds_toArray, List.set_cons_zero, List.set_cons_succ])
          refine wpAnyH_ready (rs := [5, 7]) (by kernel_rfl) (by simp) ?_
          refine AllReadyH.cons rfl (fun Kq hKq => ?_) ?_
          · (try simp only [List.getElem_toArray, List.getElem_cons_zero, List.getElem_cons_succ])
            refine step_fold (a := ⟨_, _⟩) ?_
            go_simp
            refine hKq.out _ _ (by (try dsimp only) <;> (first | (go_keep; done) | exact u1 | exact s1w4 | exact s1w6 | exact s1w7 | exact x3 _ | exact x2)) (fun hHeld => ?_)
            clear hKq Kq
            (try simp only [List.getElem_toArray, List.getElem_cons_zero, List.getElem_cons_succ, Act.put, List.setIfInBounds_toArray, List.set_cons_zero, List.set_cons_succ])
            refine wpAnyH_ready (rs := [7]) (by kernel_rfl) (by simp) ?_
            refine AllReadyH.cons rfl (fun Kq hKq => ?_) ?_
            · (try simp only [List.getElem_toArray, List.getElem_cons_zero, List.getElem_cons_succ])
              refine step_fold (a := ⟨_, _⟩) ?_
              go_simp
              first | (go_at_call 49; refine (pick_calls _ _ _ _ _ _ _ _ (BAt.R (BAt.below hB6 (by (repeat' (first | exact Below.refl _ _ | apply Below.drew | (refine bal ?_ _)))))) (by omega)).mono ?_; rintro e w7 ⟨t3, rfl, ht30, ht31, hRn, hk⟩; have hwt3 := IntWalk.i64_in (t3 - 1) (by omega); have hB7 := BAt.pick (BAt.below hB6 (by (repeat' (first | exact Below.refl _ _ | apply Below.drew | (refine bal ?_ _))))) hRn hk; have s1w7 := hB7.p1; have s0w7 := hB7.c0; have hglw7 := hB7.lts.2.2.2.2; have hblw7 := hB7.lts.2.1; clear hRn hk) | (go_at_call 49; refine (pick_calls _ _ _ _ _ _ _ _ (BAt.R (BAt.below hB4 (by (repeat' (first | exact Below.refl _ _ | apply Below.drew | (refine bal ?_ _)))))) (by omega)).mono ?_; rintro e w6 ⟨t2, rfl, ht20, ht21, hRn, hk⟩; have hwt2 := IntWalk.i64_in (t2 - 1) (by omega); have hB6 := BAt.pick (BAt.below hB4 (by (repeat' (first | exact Below.refl _ _ | apply Below.drew | (refine bal ?_ _))))) hRn hk; have s1w6 := hB6.p1; have s0w6 := hB6.c0; have hglw6 := hB6.lts.2.2.2.2; have hblw6 := hB6.lts.2.1; clear hRn hk) | (go_at_call 49; refine (pick_calls _ _ _ _ _ _ _ _ (BAt.R (BAt.below HB.out (by (repeat' (first | exact Below.refl _ _ | apply Below.drew | (refine bal ?_ _)))))) (by omega)).mono ?_; rintro e w4 ⟨t, rfl, ht0, ht1, hRn, hk⟩; have hB4 := BAt.pick (BAt.below HB.out (by (repeat' (first | exact Below.refl _ _ | apply Below.drew | (refine bal ?_ _))))) hRn hk; have s1w4 := hB4.p1; have s0w4 := hB4.c0; have hglw4 := hB4.lts.2.2.2.2; have hblw4 := hB4.lts.2.1; clear hRn hk)
              refine hKq.out _ _ (by (try dsimp only) <;> (first | (go_keep; done) | exact u1 | exact s1w4 | exact s1w6 | exact s1w7 | exact x3 _ | exact x2)) (fun hHeld => ?_)
              clear hKq Kq
              (try simp only [List.getElem_toArray, List.getElem_cons_zero, List.getElem_cons_succ, Act.put, List.setIfInBounds_toArray, List.set_cons_zero, List.set_cons_succ])
              refine wpAnyH_ready (rs := [9]) (by kernel_rfl) (by simp) ?_
              refine AllReadyH.cons rfl (fun Kq hKq => ?_) ?_
              · (try simp only [List.getElem_toArray, List.getElem_cons_zero, List.getElem_cons_succ])
                refine step_fold (a := ⟨_, _⟩) ?_
                go_simp
                first | (go_at_call 49; refine (pick_calls _ _ _ _ _ _ _ _ (BAt.R (BAt.below hB6 (by (repeat' (first | exact Below.refl _ _ | apply Below.drew | (refine bal ?_ _)))))) (by omega)).mono ?_; rintro e w7 ⟨t3, rfl, ht30, ht31, hRn, hk⟩; have hwt3 := IntWalk.i64_in (t3 - 1) (by omega); have hB7 := BAt.pick (BAt.below hB6 (by (repeat' (first | exact Below.refl _ _ | apply Below.drew | (refine bal ?_ _))))) hRn hk; have s1w7 := hB7.p1; have s0w7 := hB7.c0; have hglw7 := hB7.lts.2.2.2.2; have hblw7 := hB7.lts.2.1; clear hRn hk) | (go_at_call 49; refine (pick_calls _ _ _ _ _ _ _ _ (BAt.R (BAt.below hB4 (by (repeat' (first | exact Below.refl _ _ | apply Below.drew | (refine bal ?_ _)))))) (by omega)).mono ?_; rintro e w6 ⟨t2, rfl, ht20, ht21, hRn, hk⟩; have hwt2 := IntWalk.i64_in (t2 - 1) (by omega); have hB6 := BAt.pick (BAt.below hB4 (by (repeat' (first | exact Below.refl _ _ | apply Below.drew | (refine bal ?_ _))))) hRn hk; have s1w6 := hB6.p1; have s0w6 := hB6.c0; have hglw6 := hB6.lts.2.2.2.2; have hblw6 := hB6.lts.2.1; clear hRn hk) | (go_at_call 49; refine (pick_calls _ _ _ _ _ _ _ _ (BAt.R (BAt.below HB.out (by (repeat' (first | exact Below.refl _ _ | apply Below.drew | (refine bal ?_ _)))))) (by omega)).mono ?_; rintro e w4 ⟨t, rfl, ht0, ht1, hRn, hk⟩; have hB4 := BAt.pick (BAt.below HB.out (by (repeat' (first | exact Below.refl _ _ | apply Below.drew | (refine bal ?_ _))))) hRn hk; have s1w4 := hB4.p1; have s0w4 := hB4.c0; have hglw4 := hB4.lts.2.2.2.2; have hblw4 := hB4.lts.2.1; clear hRn hk)
                refine hKq.out _ _ (by (try dsimp only) <;> (first | (go_keep; done) | exact u1 | exact s1w4 | exact s1w6 | exact s1w7 | exact x3 _ | exact x2)) (fun hHeld => ?_)
                clear hKq Kq
                (try simp only [List.getElem_toArray, List.getElem_cons_zero, List.getElem_cons_succ, Act.put, List.setIfInBounds_toArray, List.set_cons_zero, List.set_cons_succ])
                refine wpAnyH_take (i := 10) (v := _) rfl (by kernel_rfl) (by kernel_rfl) (by kernel_rfl) (fun _ _ _ h => h) (Or.inl ⟨by rfl, by (intro w hSw; (try dsimp only at hSw); go_simp <;> with_reducible rfl)⟩) (by assumption) ?_
                (try simp only [List.getElem_toArray, List.getElem_cons_zero, List.getElem_cons_succ, Act.put, List.setIfInBounds_toArray, List.set_cons_zero, List.set_cons_succ])
                refine wpAnyH_ready (rs := [12]) (by kernel_rfl) (by simp) ?_
                refine AllReadyH.cons rfl (fun Kq hKq => ?_) ?_
                · (try simp only [List.getElem_toArray, List.getElem_cons_zero, List.getElem_cons_succ])
                  refine step_fold (a := ⟨_, _⟩) ?_
                  go_simp
                  first | (go_at_call 49; refine (pick_calls _ _ _ _ _ _ _ _ (BAt.R (BAt.below hB6 (by (repeat' (first | exact Below.refl _ _ | apply Below.drew | (refine bal ?_ _)))))) (by omega)).mono ?_; rintro e w7 ⟨t3, rfl, ht30, ht31, hRn, hk⟩; have hwt3 := IntWalk.i64_in (t3 - 1) (by omega); have hB7 := BAt.pick (BAt.below hB6 (by (repeat' (first | exact Below.refl _ _ | apply Below.drew | (refine bal ?_ _))))) hRn hk; have s1w7 := hB7.p1; have s0w7 := hB7.c0; have hglw7 := hB7.lts.2.2.2.2; have hblw7 := hB7.lts.2.1; clear hRn hk) | (go_at_call 49; refine (pick_calls _ _ _ _ _ _ _ _ (BAt.R (BAt.below hB4 (by (repeat' (first | exact Below.refl _ _ | apply Below.drew | (refine bal ?_ _)))))) (by omega)).mono ?_; rintro e w6 ⟨t2, rfl, ht20, ht21, hRn, hk⟩; have hwt2 := IntWalk.i64_in (t2 - 1) (by omega); have hB6 := BAt.pick (BAt.below hB4 (by (repeat' (first | exact Below.refl _ _ | apply Below.drew | (refine bal ?_ _))))) hRn hk; have s1w6 := hB6.p1; have s0w6 := hB6.c0; have hglw6 := hB6.lts.2.2.2.2; have hblw6 := hB6.lts.2.1; clear hRn hk) | (go_at_call 49; refine (pick_calls _ _ _ _ _ _ _ _ (BAt.R (BAt.below HB.out (by (repeat' (first | exact Below.refl _ _ | apply Below.drew | (refine bal ?_ _)))))) (by omega)).mono ?_; rintro e w4 ⟨t, rfl, ht0, ht1, hRn, hk⟩; have hB4 := BAt.pick (BAt.below HB.out (by (repeat' (first | exact Below.refl _ _ | apply Below.drew | (refine bal ?_ _))))) hRn hk; have s1w4 := hB4.p1; have s0w4 := hB4.c0; have hglw4 := hB4.lts.2.2.2.2; have hblw4 := hB4.lts.2.1; clear hRn hk)
                  refine hKq.out _ _ (by (try dsimp only) <;> (first | (go_keep; done) | exact u1 | exact s1w4 | exact s1w6 | exact s1w7 | exact x3 _ | exact x2)) (fun hHeld => ?_)
                  clear hKq Kq
                  (try simp only [List.getElem_toArray, List.getElem_cons_zero, List.getElem_cons_succ, Act.put, List.setIfInBounds_toArray, List.set_cons_zero, List.set_cons_succ])
                  refine wpAnyH_take (i := 13) (v := _) rfl (by kernel_rfl) (by kernel_rfl) (by kernel_rfl) (fun _ _ _ h => h) (Or.inl ⟨by rfl, by (intro w hSw; (try dsimp only at hSw); go_simp <;> with_reducible rfl)⟩) (by assumption) ?_
                  (try simp only [List.getElem_toArray, List.getElem_cons_zero, List.getElem_cons_succ, Act.put, List.setIfInBounds_toArray, List.set_cons_zero, List.set_cons_succ])
                  refine wpAnyH_take (i := 14) (v := _) rfl (by kernel_rfl) (by kernel_rfl) (by kernel_rfl) (fun _ _ _ h => h) (Or.inl ⟨by rfl, by (intro w hSw; (try dsimp only at hSw); go_simp <;> with_reducible rfl)⟩) (by assumption) ?_
                  (try simp only [List.getElem_toArray, List.getElem_cons_zero, List.getElem_cons_succ, Act.put, List.setIfInBounds_toArray, List.set_cons_zero, List.set_cons_succ])
                  refine wpAnyH_ready (rs := [15]) (by kernel_rfl) (by simp) ?_
                  refine AllReadyH.cons rfl (fun Kq hKq => ?_) ?_
                  · (try simp only [List.getElem_toArray, List.getElem_cons_zero, List.getElem_cons_succ])
                    refine step_fold (a := ⟨_, _⟩) ?_
                    go_simp
                    refine hKq.out _ _ (by (try dsimp only) <;> (first | (go_keep; done) | exact u1 | exact s1w4 | exact s1w6 | exact s1w7 | exact x3 _ | exact x2)) (fun hHeld => ?_)
                    clear hKq Kq
                    (try simp only [List.getElem_toArray, List.getElem_cons_zero, List.getElem_cons_succ, Act.put, List.setIfInBounds_toArray, List.set_cons_zero, List.set_cons_succ])
                    refine wpAnyH_take (i := 16) (v := _) rfl (by kernel_rfl) (by kernel_rfl) (by kernel_rfl) (fun _ _ _ h => h) (Or.inl ⟨by rfl, by (intro w hSw; (try dsimp only at hSw); go_simp <;> with_reducible rfl)⟩) (by assumption) ?_
                    (try simp only [List.getElem_toArray, List.getElem_cons_zero, List.getElem_cons_succ, Act.put, List.setIfInBounds_toArray, List.set_cons_zero, List.set_cons_succ])
                    refine wpAnyH_ready (rs := [17]) (by kernel_rfl) (by simp) ?_
                    refine AllReadyH.cons rfl (fun Kq hKq => ?_) ?_
                    · (try simp only [List.getElem_toArray, List.getElem_cons_zero, List.getElem_cons_succ])
                      refine step_fold (a := ⟨_, _⟩) ?_
                      go_simp
                      refine hKq.out _ _ (by (try dsimp only) <;> (first | (go_keep; done) | exact u1 | exact s1w4 | exact s1w6 | exact s1w7 | exact x3 _ | exact x2)) (fun hHeld => ?_)
                      clear hKq Kq
                      (try simp only [List.getElem_toArray, List.getElem_cons_zero, List.getElem_cons_succ, Act.put, List.setIfInBounds_toArray, List.set_cons_zero, List.set_cons_succ])
                      refine wpAnyH_ready (rs := [18]) (by kernel_rfl) (by simp) ?_
                      refine AllReadyH.cons rfl (fun Kq hKq => ?_) ?_
                      · (try simp only [List.getElem_toArray, List.getElem_cons_zero, List.getElem_cons_succ])
                        refine step_fold (a := ⟨_, _⟩) ?_
                        (refine step_append_kd (d := kAct) (by rfl) _ _ _ (by rfl) Try.underlying32 _ 64 infoAct rfl (by decide) (by decide) (by rfl) (Own.belowAll (BAt.O hB7) (by (repeat' (first | exact Below.refl _ _ | apply Below.drew | (refine bal ?_ _))))) _ _ (by rfl) (Row.one_at (d := kAct) (e := 35) (S := fun k => False ∨ k = w7.heap.size) (x := ⟨1, [⟨t, t2 - 1, t3 - 1⟩], [], 0⟩) _ (act_K_deeds [⟨t, t2 - 1, t3 - 1⟩] (Nat.le_refl _) (Row.one_at (d := kDeed) (e := 63) (w := w7) (S := fun _ => False) (x := ⟨t, t2 - 1, t3 - 1⟩) _ (isDeed_K ⟨t, t2 - 1, t3 - 1⟩ ⟨(by show i64 (t); unfold i64; omega), (by show i64 (t2 - 1); unfold i64; omega), (by show i64 (t3 - 1); unfold i64; omega)⟩) rfl)) (by simp)) (fun k hk e => BAt.farO hB7 (k := k) (by rcases hk with (hk | hk) | hk; exact hk.elim; (first | omega | (simp at hk; omega)); (first | omega | (simp at hk; omega))) e) (by have := HA4.out; simp; omega) (by have := (BAt.k hB7).size; simp; omega) ?_; intro v5 w5 ho5 hg5 hv5; obtain ⟨x0, x1, x2, x3⟩ := BAt.appFacts (BAt.below hB7 (by (repeat' (first | exact Below.refl _ _ | apply Below.drew | (refine bal ?_ _))))) hg5; obtain ⟨y1, y2, y3, y4, y5⟩ := BAt.appEnds (BAt.below hB7 (by (repeat' (first | exact Below.refl _ _ | apply Below.drew | (refine bal ?_ _))))) hg5; have hB5 := BAt.app1 (BAt.below hB7 (by (repeat' (first | exact Below.refl _ _ | apply Below.drew | (refine bal ?_ _))))) hg5 hv5 ho5 (fun k hk => BAt.past hB7 (by rcases hk with (hk | hk) | hk; exact hk.elim; (first | omega | (simp at hk; omega)); (first | omega | (simp at hk; omega)))); obtain ⟨A5, n5, rfl, hn5, hr5⟩ := Own.row ho5; clear hr5)
                        refine hKq.out _ _ (by (try dsimp only) <;> (first | (go_keep; done) | exact u1 | exact s1w4 | exact s1w6 | exact s1w7 | exact x3 _ | exact x2)) (fun hHeld => ?_)
                        clear hKq Kq
                        (try simp only [List.getElem_toArray, List.getElem_cons_zero, List.getElem_cons_succ, Act.put, List.setIfInBounds_toArray, List.set_cons_zero, List.set_cons_succ])
                        refine wpAnyH_take (i := 19) (v := _) rfl (by kernel_rfl) (by kernel_rfl) (by kernel_rfl) (fun _ _ _ h => h) (Or.inl ⟨by rfl, by (intro w hSw; (try dsimp only at hSw); go_simp <;> with_reducible rfl)⟩) (by assumption) ?_
                        (try simp only [List.getElem_toArray, List.getElem_cons_zero, List.getElem_cons_succ, Act.put, List.setIfInBounds_toArray, List.set_cons_zero, List.set_cons_succ])
                        refine wpAnyH_ready (rs := [20]) (by kernel_rfl) (by simp) ?_
                        refine AllReadyH.cons rfl (fun Kq hKq => ?_) ?_
                        · (try simp only [List.getElem_toArray, List.getElem_cons_zero, List.getElem_cons_succ])
                          refine step_fold (a := ⟨_, _⟩) ?_
                          go_simp
                          refine hKq.out _ _ (by (try dsimp only) <;> (first | (go_keep; done) | exact u1 | exact s1w4 | exact s1w6 | exact s1w7 | exact x3 _ | exact x2)) (fun hHeld => ?_)
                          clear hKq Kq
                          (try simp only [List.getElem_toArray, List.getElem_cons_zero, List.getElem_cons_succ, Act.put, List.setIfInBounds_toArray, List.set_cons_zero, List.set_cons_succ])
                          refine wpAnyH_done (by kernel_rfl) ?_ _
                          refine NoPanic.normal ?_
                          go_wp2
                          simp only [List.length_append, List.length_cons, List.length_nil, Nat.zero_add, Nat.reduceAdd] at hB5
                          exact bodyPost_ret (v := .agg #[.slice (some ⟨gc, 0, none⟩) p.cells.length cac, .slice (some ⟨gb, 0, none⟩) (rest.length + 1) cab]) (by simp [results, Try.results78, go_sem, y3, y4, y5]) rfl (BAt.done (BAt.less hB5 (by omega)) _ _)
                        exact AllReadyH.nil
                      exact AllReadyH.nil
                    exact AllReadyH.nil
                  exact AllReadyH.nil
                exact AllReadyH.nil
              exact AllReadyH.nil
            exact AllReadyH.nil
          refine AllReadyH.cons rfl (fun Kq hKq => ?_) ?_
          · (try simp only [List.getElem_toArray, List.getElem_cons_zero, List.getElem_cons_succ])
            refine step_fold (a := ⟨_, _⟩) ?_
            go_simp
            first | (go_at_call 49; refine (pick_calls _ _ _ _ _ _ _ _ (BAt.R (BAt.below hB6 (by (repeat' (first | exact Below.refl _ _ | apply Below.drew | (refine bal ?_ _)))))) (by omega)).mono ?_; rintro e w7 ⟨t3, rfl, ht30, ht31, hRn, hk⟩; have hwt3 := IntWalk.i64_in (t3 - 1) (by omega); have hB7 := BAt.pick (BAt.below hB6 (by (repeat' (first | exact Below.refl _ _ | apply Below.drew | (refine bal ?_ _))))) hRn hk; have s1w7 := hB7.p1; have s0w7 := hB7.c0; have hglw7 := hB7.lts.2.2.2.2; have hblw7 := hB7.lts.2.1; clear hRn hk) | (go_at_call 49; refine (pick_calls _ _ _ _ _ _ _ _ (BAt.R (BAt.below hB4 (by (repeat' (first | exact Below.refl _ _ | apply Below.drew | (refine bal ?_ _)))))) (by omega)).mono ?_; rintro e w6 ⟨t2, rfl, ht20, ht21, hRn, hk⟩; have hwt2 := IntWalk.i64_in (t2 - 1) (by omega); have hB6 := BAt.pick (BAt.below hB4 (by (repeat' (first | exact Below.refl _ _ | apply Below.drew | (refine bal ?_ _))))) hRn hk; have s1w6 := hB6.p1; have s0w6 := hB6.c0; have hglw6 := hB6.lts.2.2.2.2; have hblw6 := hB6.lts.2.1; clear hRn hk) | (go_at_call 49; refine (pick_calls _ _ _ _ _ _ _ _ (BAt.R (BAt.below HB.out (by (repeat' (first | exact Below.refl _ _ | apply Below.drew | (refine bal ?_ _)))))) (by omega)).mono ?_; rintro e w4 ⟨t, rfl, ht0, ht1, hRn, hk⟩; have hB4 := BAt.pick (BAt.below HB.out (by (repeat' (first | exact Below.refl _ _ | apply Below.drew | (refine bal ?_ _))))) hRn hk; have s1w4 := hB4.p1; have s0w4 := hB4.c0; have hglw4 := hB4.lts.2.2.2.2; have hblw4 := hB4.lts.2.1; clear hRn hk)
            refine hKq.out _ _ (by (try dsimp only) <;> (first | (go_keep; done) | exact u1 | exact s1w4 | exact s1w6 | exact s1w7 | exact x3 _ | exact x2)) (fun hHeld => ?_)
            clear hKq Kq
            (try simp only [List.getElem_toArray, List.getElem_cons_zero, List.getElem_cons_succ, Act.put, List.setIfInBounds_toArray, List.set_cons_zero, List.set_cons_succ])
            refine wpAnyH_ready (rs := [5, 9]) (by kernel_rfl) (by simp) ?_
            refine AllReadyH.cons rfl (fun Kq hKq => ?_) ?_
            · (try simp only [List.getElem_toArray, List.getElem_cons_zero, List.getElem_cons_succ])
              refine step_fold (a := ⟨_, _⟩) ?_
              go_simp
              refine hKq.out _ _ (by (try dsimp only) <;> (first | (go_keep; done) | exact u1 | exact s1w4 | exact s1w6 | exact s1w7 | exact x3 _ | exact x2)) (fun hHeld => ?_)
              clear hKq Kq
              (try simp only [List.getElem_toArray, List.getElem_cons_zero, List.getElem_cons_succ, Act.put, List.setIfInBounds_toArray, List.set_cons_zero, List.set_cons_succ])
              refine wpAnyH_ready (rs := [9]) (by kernel_rfl) (by simp) ?_
              refine AllReadyH.cons rfl (fun Kq hKq => ?_) ?_
              · (try simp only [List.getElem_toArray, List.getElem_cons_zero, List.getElem_cons_succ])
                refine step_fold (a := ⟨_, _⟩) ?_
                go_simp
                first | (go_at_call 49; refine (pick_calls _ _ _ _ _ _ _ _ (BAt.R (BAt.below hB6 (by (repeat' (first | exact Below.refl _ _ | apply Below.drew | (refine bal ?_ _)))))) (by omega)).mono ?_; rintro e w7 ⟨t3, rfl, ht30, ht31, hRn, hk⟩; have hwt3 := IntWalk.i64_in (t3 - 1) (by omega); have hB7 := BAt.pick (BAt.below hB6 (by (repeat' (first | exact Below.refl _ _ | apply Below.drew | (refine bal ?_ _))))) hRn hk; have s1w7 := hB7.p1; have s0w7 := hB7.c0; have hglw7 := hB7.lts.2.2.2.2; have hblw7 := hB7.lts.2.1; clear hRn hk) | (go_at_call 49; refine (pick_calls _ _ _ _ _ _ _ _ (BAt.R (BAt.below hB4 (by (repeat' (first | exact Below.refl _ _ | apply Below.drew | (refine bal ?_ _)))))) (by omega)).mono ?_; rintro e w6 ⟨t2, rfl, ht20, ht21, hRn, hk⟩; have hwt2 := IntWalk.i64_in (t2 - 1) (by omega); have hB6 := BAt.pick (BAt.below hB4 (by (repeat' (first | exact Below.refl _ _ | apply Below.drew | (refine bal ?_ _))))) hRn hk; have s1w6 := hB6.p1; have s0w6 := hB6.c0; have hglw6 := hB6.lts.2.2.2.2; have hblw6 := hB6.lts.2.1; clear hRn hk) | (go_at_call 49; refine (pick_calls _ _ _ _ _ _ _ _ (BAt.R (BAt.below HB.out (by (repeat' (first | exact Below.refl _ _ | apply Below.drew | (refine bal ?_ _)))))) (by omega)).mono ?_; rintro e w4 ⟨t, rfl, ht0, ht1, hRn, hk⟩; have hB4 := BAt.pick (BAt.below HB.out (by (repeat' (first | exact Below.refl _ _ | apply Below.drew | (refine bal ?_ _))))) hRn hk; have s1w4 := hB4.p1; have s0w4 := hB4.c0; have hglw4 := hB4.lts.2.2.2.2; have hblw4 := hB4.lts.2.1; clear hRn hk)
                refine hKq.out _ _ (by (try dsimp only) <;> (first | (go_keep; done) | exact u1 | exact s1w4 | exact s1w6 | exact s1w7 | exact x3 _ | exact x2)) (fun hHeld => ?_)
                clear hKq Kq
                (try simp only [List.getElem_toArray, List.getElem_cons_zero, List.getElem_cons_succ, Act.put, List.setIfInBounds_toArray, List.set_cons_zero, List.set_cons_succ])
                refine wpAnyH_take (i := 10) (v := _) rfl (by kernel_rfl) (by kernel_rfl) (by kernel_rfl) (fun _ _ _ h => h) (Or.inl ⟨by rfl, by (intro w hSw; (try dsimp only at hSw); go_simp <;> with_reducible rfl)⟩) (by assumption) ?_
                (try simp only [List.getElem_toArray, List.getElem_cons_zero, List.getElem_cons_succ, Act.put, List.setIfInBounds_toArray, List.set_cons_zero, List.set_cons_succ])
                refine wpAnyH_ready (rs := [12]) (by kernel_rfl) (by simp) ?_
                refine AllReadyH.cons rfl (fun Kq hKq => ?_) ?_
                · (try simp only [List.getElem_toArray, List.getElem_cons_zero, List.getElem_cons_succ])
                  refine step_fold (a := ⟨_, _⟩) ?_
                  go_simp
                  first | (go_at_call 49; refine (pick_calls _ _ _ _ _ _ _ _ (BAt.R (BAt.below hB6 (by (repeat' (first | exact Below.refl _ _ | apply Below.drew | (refine bal ?_ _)))))) (by omega)).mono ?_; rintro e w7 ⟨t3, rfl, ht30, ht31, hRn, hk⟩; have hwt3 := IntWalk.i64_in (t3 - 1) (by omega); have hB7 := BAt.pick (BAt.below hB6 (by (repeat' (first | exact Below.refl _ _ | apply Below.drew | (refine bal ?_ _))))) hRn hk; have s1w7 := hB7.p1; have s0w7 := hB7.c0; have hglw7 := hB7.lts.2.2.2.2; have hblw7 := hB7.lts.2.1; clear hRn hk) | (go_at_call 49; refine (pick_calls _ _ _ _ _ _ _ _ (BAt.R (BAt.below hB4 (by (repeat' (first | exact Below.refl _ _ | apply Below.drew | (refine bal ?_ _)))))) (by omega)).mono ?_; rintro e w6 ⟨t2, rfl, ht20, ht21, hRn, hk⟩; have hwt2 := IntWalk.i64_in (t2 - 1) (by omega); have hB6 := BAt.pick (BAt.below hB4 (by (repeat' (first | exact Below.refl _ _ | apply Below.drew | (refine bal ?_ _))))) hRn hk; have s1w6 := hB6.p1; have s0w6 := hB6.c0; have hglw6 := hB6.lts.2.2.2.2; have hblw6 := hB6.lts.2.1; clear hRn hk) | (go_at_call 49; refine (pick_calls _ _ _ _ _ _ _ _ (BAt.R (BAt.below HB.out (by (repeat' (first | exact Below.refl _ _ | apply Below.drew | (refine bal ?_ _)))))) (by omega)).mono ?_; rintro e w4 ⟨t, rfl, ht0, ht1, hRn, hk⟩; have hB4 := BAt.pick (BAt.below HB.out (by (repeat' (first | exact Below.refl _ _ | apply Below.drew | (refine bal ?_ _))))) hRn hk; have s1w4 := hB4.p1; have s0w4 := hB4.c0; have hglw4 := hB4.lts.2.2.2.2; have hblw4 := hB4.lts.2.1; clear hRn hk)
                  refine hKq.out _ _ (by (try dsimp only) <;> (first | (go_keep; done) | exact u1 | exact s1w4 | exact s1w6 | exact s1w7 | exact x3 _ | exact x2)) (fun hHeld => ?_)
                  clear hKq Kq
                  (try simp only [List.getElem_toArray, List.getElem_cons_zero, List.getElem_cons_succ, Act.put, List.setIfInBounds_toArray, List.set_cons_zero, List.set_cons_succ])
                  refine wpAnyH_take (i := 13) (v := _) rfl (by kernel_rfl) (by kernel_rfl) (by kernel_rfl) (fun _ _ _ h => h) (Or.inl ⟨by rfl, by (intro w hSw; (try dsimp only at hSw); go_simp <;> with_reducible rfl)⟩) (by assumption) ?_
                  (try simp only [List.getElem_toArray, List.getElem_cons_zero, List.getElem_cons_succ, Act.put, List.setIfInBounds_toArray, List.set_cons_zero, List.set_cons_succ])
                  refine wpAnyH_take (i := 14) (v := _) rfl (by kernel_rfl) (by kernel_rfl) (by kernel_rfl) (fun _ _ _ h => h) (Or.inl ⟨by rfl, by (intro w hSw; (try dsimp only at hSw); go_simp <;> with_reducible rfl)⟩) (by assumption) ?_
                  (try simp only [List.getElem_toArray, List.getElem_cons_zero, List.getElem_cons_succ, Act.put, List.setIfInBounds_toArray, List.set_cons_zero, List.set_cons_succ])
                  refine wpAnyH_ready (rs := [15]) (by kernel_rfl) (by simp) ?_
                  refine AllReadyH.cons rfl (fun Kq hKq => ?_) ?_
                  · (try simp only [List.getElem_toArray, List.getElem_cons_zero, List.getElem_cons_succ])
                    refine step_fold (a := ⟨_, _⟩) ?_
                    go_simp
                    refine hKq.out _ _ (by (try dsimp only) <;> (first | (go_keep; done) | exact u1 | exact s1w4 | exact s1w6 | exact s1w7 | exact x3 _ | exact x2)) (fun hHeld => ?_)
                    clear hKq Kq
                    (try simp only [List.getElem_toArray, List.getElem_cons_zero, List.getElem_cons_succ, Act.put, List.setIfInBounds_toArray, List.set_cons_zero, List.set_cons_succ])
                    refine wpAnyH_take (i := 16) (v := _) rfl (by kernel_rfl) (by kernel_rfl) (by kernel_rfl) (fun _ _ _ h => h) (Or.inl ⟨by rfl, by (intro w hSw; (try dsimp only at hSw); go_simp <;> with_reducible rfl)⟩) (by assumption) ?_
                    (try simp only [List.getElem_toArray, List.getElem_cons_zero, List.getElem_cons_succ, Act.put, List.setIfInBounds_toArray, List.set_cons_zero, List.set_cons_succ])
                    refine wpAnyH_ready (rs := [17]) (by kernel_rfl) (by simp) ?_
                    refine AllReadyH.cons rfl (fun Kq hKq => ?_) ?_
                    · (try simp only [List.getElem_toArray, List.getElem_cons_zero, List.getElem_cons_succ])
                      refine step_fold (a := ⟨_, _⟩) ?_
                      go_simp
                      refine hKq.out _ _ (by (try dsimp only) <;> (first | (go_keep; done) | exact u1 | exact s1w4 | exact s1w6 | exact s1w7 | exact x3 _ | exact x2)) (fun hHeld => ?_)
                      clear hKq Kq
                      (try simp only [List.getElem_toArray, List.getElem_cons_zero, List.getElem_cons_succ, Act.put, List.setIfInBounds_toArray, List.set_cons_zero, List.set_cons_succ])
                      refine wpAnyH_ready (rs := [18]) (by kernel_rfl) (by simp) ?_
                      refine AllReadyH.cons rfl (fun Kq hKq => ?_) ?_
                      · (try simp only [List.getElem_toArray, List.getElem_cons_zero, List.getElem_cons_succ])
                        refine step_fold (a := ⟨_, _⟩) ?_
                        (refine step_append_kd (d := kAct) (by rfl) _ _ _ (by rfl) Try.underlying32 _ 64 infoAct rfl (by decide) (by decide) (by rfl) (Own.belowAll (BAt.O hB7) (by (repeat' (first | exact Below.refl _ _ | apply Below.drew | (refine bal ?_ _))))) _ _ (by rfl) (Row.one_at (d := kAct) (e := 35) (S := fun k => False ∨ k = w7.heap.size) (x := ⟨1, [⟨t, t2 - 1, t3 - 1⟩], [], 0⟩) _ (act_K_deeds [⟨t, t2 - 1, t3 - 1⟩] (Nat.le_refl _) (Row.one_at (d := kDeed) (e := 63) (w := w7) (S := fun _ => False) (x := ⟨t, t2 - 1, t3 - 1⟩) _ (isDeed_K ⟨t, t2 - 1, t3 - 1⟩ ⟨(by show i64 (t); unfold i64; omega), (by show i64 (t2 - 1); unfold i64; omega), (by show i64 (t3 - 1); unfold i64; omega)⟩) rfl)) (by simp)) (fun k hk e => BAt.farO hB7 (k := k) (by rcases hk with (hk | hk) | hk; exact hk.elim; (first | omega | (simp at hk; omega)); (first | omega | (simp at hk; omega))) e) (by have := HA4.out; simp; omega) (by have := (BAt.k hB7).size; simp; omega) ?_; intro v5 w5 ho5 hg5 hv5; obtain ⟨x0, x1, x2, x3⟩ := BAt.appFacts (BAt.below hB7 (by (repeat' (first | exact Below.refl _ _ | apply Below.drew | (refine bal ?_ _))))) hg5; obtain ⟨y1, y2, y3, y4, y5⟩ := BAt.appEnds (BAt.below hB7 (by (repeat' (first | exact Below.refl _ _ | apply Below.drew | (refine bal ?_ _))))) hg5; have hB5 := BAt.app1 (BAt.below hB7 (by (repeat' (first | exact Below.refl _ _ | apply Below.drew | (refine bal ?_ _))))) hg5 hv5 ho5 (fun k hk => BAt.past hB7 (by rcases hk with (hk | hk) | hk; exact hk.elim; (first | omega | (simp at hk; omega)); (first | omega | (simp at hk; omega)))); obtain ⟨A5, n5, rfl, hn5, hr5⟩ := Own.row ho5; clear hr5)
                        refine hKq.out _ _ (by (try dsimp only) <;> (first | (go_keep; done) | exact u1 | exact s1w4 | exact s1w6 | exact s1w7 | exact x3 _ | exact x2)) (fun hHeld => ?_)
                        clear hKq Kq
                        (try simp only [List.getElem_toArray, List.getElem_cons_zero, List.getElem_cons_succ, Act.put, List.setIfInBounds_toArray, List.set_cons_zero, List.set_cons_succ])
                        refine wpAnyH_take (i := 19) (v := _) rfl (by kernel_rfl) (by kernel_rfl) (by kernel_rfl) (fun _ _ _ h => h) (Or.inl ⟨by rfl, by (intro w hSw; (try dsimp only at hSw); go_simp <;> with_reducible rfl)⟩) (by assumption) ?_
                        (try simp only [List.getElem_toArray, List.getElem_cons_zero, List.getElem_cons_succ, Act.put, List.setIfInBounds_toArray, List.set_cons_zero, List.set_cons_succ])
                        refine wpAnyH_ready (rs := [20]) (by kernel_rfl) (by simp) ?_
                        refine AllReadyH.cons rfl (fun Kq hKq => ?_) ?_
                        · (try simp only [List.getElem_toArray, List.getElem_cons_zero, List.getElem_cons_succ])
                          refine step_fold (a := ⟨_, _⟩) ?_
                          go_simp
                          refine hKq.out _ _ (by (try dsimp only) <;> (first | (go_keep; done) | exact u1 | exact s1w4 | exact s1w6 | exact s1w7 | exact x3 _ | exact x2)) (fun hHeld => ?_)
                          clear hKq Kq
                          (try simp only [List.getElem_toArray, List.getElem_cons_zero, List.getElem_cons_succ, Act.put, List.setIfInBounds_toArray, List.set_cons_zero, List.set_cons_succ])
                          refine wpAnyH_done (by kernel_rfl) ?_ _
                          refine NoPanic.normal ?_
                          go_wp2
                          simp only [List.length_append, List.length_cons, List.length_nil, Nat.zero_add, Nat.reduceAdd] at hB5
                          exact bodyPost_ret (v := .agg #[.slice (some ⟨gc, 0, none⟩) p.cells.length cac, .slice (some ⟨gb, 0, none⟩) (rest.length + 1) cab]) (by simp [results, Try.results78, go_sem, y3, y4, y5]) rfl (BAt.done (BAt.less hB5 (by omega)) _ _)
                        exact AllReadyH.nil
                      exact AllReadyH.nil
                    exact AllReadyH.nil
                  exact AllReadyH.nil
                exact AllReadyH.nil
              exact AllReadyH.nil
            refine AllReadyH.cons rfl (fun Kq hKq => ?_) ?_
            · (try simp only [List.getElem_toArray, List.getElem_cons_zero, List.getElem_cons_succ])
              refine step_fold (a := ⟨_, _⟩) ?_
              go_simp
              first | (go_at_call 49; refine (pick_calls _ _ _ _ _ _ _ _ (BAt.R (BAt.below hB6 (by (repeat' (first | exact Below.refl _ _ | apply Below.drew | (refine bal ?_ _)))))) (by omega)).mono ?_; rintro e w7 ⟨t3, rfl, ht30, ht31, hRn, hk⟩; have hwt3 := IntWalk.i64_in (t3 - 1) (by omega); have hB7 := BAt.pick (BAt.below hB6 (by (repeat' (first | exact Below.refl _ _ | apply Below.drew | (refine bal ?_ _))))) hRn hk; have s1w7 := hB7.p1; have s0w7 := hB7.c0; have hglw7 := hB7.lts.2.2.2.2; have hblw7 := hB7.lts.2.1; clear hRn hk) | (go_at_call 49; refine (pick_calls _ _ _ _ _ _ _ _ (BAt.R (BAt.below hB4 (by (repeat' (first | exact Below.refl _ _ | apply Below.drew | (refine bal ?_ _)))))) (by omega)).mono ?_; rintro e w6 ⟨t2, rfl, ht20, ht21, hRn, hk⟩; have hwt2 := IntWalk.i64_in (t2 - 1) (by omega); have hB6 := BAt.pick (BAt.below hB4 (by (repeat' (first | exact Below.refl _ _ | apply Below.drew | (refine bal ?_ _))))) hRn hk; have s1w6 := hB6.p1; have s0w6 := hB6.c0; have hglw6 := hB6.lts.2.2.2.2; have hblw6 := hB6.lts.2.1; clear hRn hk) | (go_at_call 49; refine (pick_calls _ _ _ _ _ _ _ _ (BAt.R (BAt.below HB.out (by (repeat' (first | exact Below.refl _ _ | apply Below.drew | (refine bal ?_ _)))))) (by omega)).mono ?_; rintro e w4 ⟨t, rfl, ht0, ht1, hRn, hk⟩; have hB4 := BAt.pick (BAt.below HB.out (by (repeat' (first | exact Below.refl _ _ | apply Below.drew | (refine bal ?_ _))))) hRn hk; have s1w4 := hB4.p1; have s0w4 := hB4.c0; have hglw4 := hB4.lts.2.2.2.2; have hblw4 := hB4.lts.2.1; clear hRn hk)
              refine hKq.out _ _ (by (try dsimp only) <;> (first | (go_keep; done) | exact u1 | exact s1w4 | exact s1w6 | exact s1w7 | exact x3 _ | exact x2)) (fun hHeld => ?_)
              clear hKq Kq
              (try simp only [List.getElem_toArray, List.getElem_cons_zero, List.getElem_cons_succ, Act.put, List.setIfInBounds_toArray, List.set_cons_zero, List.set_cons_succ])
              refine wpAnyH_take (i := 10) (v := _) rfl (by kernel_rfl) (by kernel_rfl) (by kernel_rfl) (fun _ _ _ h => h) (Or.inl ⟨by rfl, by (intro w hSw; (try dsimp only at hSw); go_simp <;> with_reducible rfl)⟩) (by assumption) ?_
              (try simp only [List.getElem_toArray, List.getElem_cons_zero, List.getElem_cons_succ, Act.put, List.setIfInBounds_toArray, List.set_cons_zero, List.set_cons_succ])
              refine wpAnyH_ready (rs := [5, 12]) (by kernel_rfl) (by simp) ?_
              refine AllReadyH.cons rfl (fun Kq hKq => ?_) ?_
              · (try simp only [List.getElem_toArray, List.getElem_cons_zero, List.getElem_cons_succ])
                refine step_fold (a := ⟨_, _⟩) ?_
                go_simp
                refine hKq.out _ _ (by (try dsimp only) <;> (first | (go_keep; done) | exact u1 | exact s1w4 | exact s1w6 | exact s1w7 | exact x3 _ | exact x2)) (fun hHeld => ?_)
                clear hKq Kq
                (try simp only [List.getElem_toArray, List.getElem_cons_zero, List.getElem_cons_succ, Act.put, List.setIfInBounds_toArray, List.set_cons_zero, List.set_cons_succ])
                refine wpAnyH_ready (rs := [12]) (by kernel_rfl) (by simp) ?_
                refine AllReadyH.cons rfl (fun Kq hKq => ?_) ?_
                · (try simp only [List.getElem_toArray, List.getElem_cons_zero, List.getElem_cons_succ])
                  refine step_fold (a := ⟨_, _⟩) ?_
                  go_simp
                  first | (go_at_call 49; refine (pick_calls _ _ _ _ _ _ _ _ (BAt.R (BAt.below hB6 (by (repeat' (first | exact Below.refl _ _ | apply Below.drew | (refine bal ?_ _)))))) (by omega)).mono ?_; rintro e w7 ⟨t3, rfl, ht30, ht31, hRn, hk⟩; have hwt3 := IntWalk.i64_in (t3 - 1) (by omega); have hB7 := BAt.pick (BAt.below hB6 (by (repeat' (first | exact Below.refl _ _ | apply Below.drew | (refine bal ?_ _))))) hRn hk; have s1w7 := hB7.p1; have s0w7 := hB7.c0; have hglw7 := hB7.lts.2.2.2.2; have hblw7 := hB7.lts.2.1; clear hRn hk) | (go_at_call 49; refine (pick_calls _ _ _ _ _ _ _ _ (BAt.R (BAt.below hB4 (by (repeat' (first | exact Below.refl _ _ | apply Below.drew | (refine bal ?_ _)))))) (by omega)).mono ?_; rintro e w6 ⟨t2, rfl, ht20, ht21, hRn, hk⟩; have hwt2 := IntWalk.i64_in (t2 - 1) (by omega); have hB6 := BAt.pick (BAt.below hB4 (by (repeat' (first | exact Below.refl _ _ | apply Below.drew | (refine bal ?_ _))))) hRn hk; have s1w6 := hB6.p1; have s0w6 := hB6.c0; have hglw6 := hB6.lts.2.2.2.2; have hblw6 := hB6.lts.2.1; clear hRn hk) | (go_at_call 49; refine (pick_calls _ _ _ _ _ _ _ _ (BAt.R (BAt.below HB.out (by (repeat' (first | exact Below.refl _ _ | apply Below.drew | (refine bal ?_ _)))))) (by omega)).mono ?_; rintro e w4 ⟨t, rfl, ht0, ht1, hRn, hk⟩; have hB4 := BAt.pick (BAt.below HB.out (by (repeat' (first | exact Below.refl _ _ | apply Below.drew | (refine bal ?_ _))))) hRn hk; have s1w4 := hB4.p1; have s0w4 := hB4.c0; have hglw4 := hB4.lts.2.2.2.2; have hblw4 := hB4.lts.2.1; clear hRn hk)
                  refine hKq.out _ _ (by (try dsimp only) <;> (first | (go_keep; done) | exact u1 | exact s1w4 | exact s1w6 | exact s1w7 | exact x3 _ | exact x2)) (fun hHeld => ?_)
                  clear hKq Kq
                  (try simp only [List.getElem_toArray, List.getElem_cons_zero, List.getElem_cons_succ, Act.put, List.setIfInBounds_toArray, List.set_cons_zero, List.set_cons_succ])
                  refine wpAnyH_take (i := 13) (v := _) rfl (by kernel_rfl) (by kernel_rfl) (by kernel_rfl) (fun _ _ _ h => h) (Or.inl ⟨by rfl, by (intro w hSw; (try dsimp only at hSw); go_simp <;> with_reducible rfl)⟩) (by assumption) ?_
                  (try simp only [List.getElem_toArray, List.getElem_cons_zero, List.getElem_cons_succ, Act.put, List.setIfInBounds_toArray, List.set_cons_zero, List.set_cons_succ])
                  refine wpAnyH_take (i := 14) (v := _) rfl (by kernel_rfl) (by kernel_rfl) (by kernel_rfl) (fun _ _ _ h => h) (Or.inl ⟨by rfl, by (intro w hSw; (try dsimp only at hSw); go_simp <;> with_reducible rfl)⟩) (by assumption) ?_
                  (try simp only [List.getElem_toArray, List.getElem_cons_zero, List.getElem_cons_succ, Act.put, List.setIfInBounds_toArray, List.set_cons_zero, List.set_cons_succ])
                  refine wpAnyH_ready (rs := [15]) (by kernel_rfl) (by simp) ?_
                  refine AllReadyH.cons rfl (fun Kq hKq => ?_) ?_
                  · (try simp only [List.getElem_toArray, List.getElem_cons_zero, List.getElem_cons_succ])
                    refine step_fold (a := ⟨_, _⟩) ?_
                    go_simp
                    refine hKq.out _ _ (by (try dsimp only) <;> (first | (go_keep; done) | exact u1 | exact s1w4 | exact s1w6 | exact s1w7 | exact x3 _ | exact x2)) (fun hHeld => ?_)
                    clear hKq Kq
                    (try simp only [List.getElem_toArray, List.getElem_cons_zero, List.getElem_cons_succ, Act.put, List.setIfInBounds_toArray, List.set_cons_zero, List.set_cons_succ])
                    refine wpAnyH_take (i := 16) (v := _) rfl (by kernel_rfl) (by kernel_rfl) (by kernel_rfl) (fun _ _ _ h => h) (Or.inl ⟨by rfl, by (intro w hSw; (try dsimp only at hSw); go_simp <;> with_reducible rfl)⟩) (by assumption) ?_
                    (try simp only [List.getElem_toArray, List.getElem_cons_zero, List.getElem_cons_succ, Act.put, List.setIfInBounds_toArray, List.set_cons_zero, List.set_cons_succ])
                    refine wpAnyH_ready (rs := [17]) (by kernel_rfl) (by simp) ?_
                    refine AllReadyH.cons rfl (fun Kq hKq => ?_) ?_
                    · (try simp only [List.getElem_toArray, List.getElem_cons_zero, List.getElem_cons_succ])
                      refine step_fold (a := ⟨_, _⟩) ?_
                      go_simp
                      refine hKq.out _ _ (by (try dsimp only) <;> (first | (go_keep; done) | exact u1 | exact s1w4 | exact s1w6 | exact s1w7 | exact x3 _ | exact x2)) (fun hHeld => ?_)
                      clear hKq Kq
                      (try simp only [List.getElem_toArray, List.getElem_cons_zero, List.getElem_cons_succ, Act.put, List.setIfInBounds_toArray, List.set_cons_zero, List.set_cons_succ])
                      refine wpAnyH_ready (rs := [18]) (by kernel_rfl) (by simp) ?_
                      refine AllReadyH.cons rfl (fun Kq hKq => ?_) ?_
                      · (try simp only [List.getElem_toArray, List.getElem_cons_zero, List.getElem_cons_succ])
                        refine step_fold (a := ⟨_, _⟩) ?_
                        (refine step_append_kd (d := kAct) (by rfl) _ _ _ (by rfl) Try.underlying32 _ 64 infoAct rfl (by decide) (by decide) (by rfl) (Own.belowAll (BAt.O hB7) (by (repeat' (first | exact Below.refl _ _ | apply Below.drew | (refine bal ?_ _))))) _ _ (by rfl) (Row.one_at (d := kAct) (e := 35) (S := fun k => False ∨ k = w7.heap.size) (x := ⟨1, [⟨t, t2 - 1, t3 - 1⟩], [], 0⟩) _ (act_K_deeds [⟨t, t2 - 1, t3 - 1⟩] (Nat.le_refl _) (Row.one_at (d := kDeed) (e := 63) (w := w7) (S := fun _ => False) (x := ⟨t, t2 - 1, t3 - 1⟩) _ (isDeed_K ⟨t, t2 - 1, t3 - 1⟩ ⟨(by show i64 (t); unfold i64; omega), (by show i64 (t2 - 1); unfold i64; omega), (by show i64 (t3 - 1); unfold i64; omega)⟩) rfl)) (by simp)) (fun k hk e => BAt.farO hB7 (k := k) (by rcases hk with (hk | hk) | hk; exact hk.elim; (first | omega | (simp at hk; omega)); (first | omega | (simp at hk; omega))) e) (by have := HA4.out; simp; omega) (by have := (BAt.k hB7).size; simp; omega) ?_; intro v5 w5 ho5 hg5 hv5; obtain ⟨x0, x1, x2, x3⟩ := BAt.appFacts (BAt.below hB7 (by (repeat' (first | exact Below.refl _ _ | apply Below.drew | (refine bal ?_ _))))) hg5; obtain ⟨y1, y2, y3, y4, y5⟩ := BAt.appEnds (BAt.below hB7 (by (repeat' (first | exact Below.refl _ _ | apply Below.drew | (refine bal ?_ _))))) hg5; have hB5 := BAt.app1 (BAt.below hB7 (by (repeat' (first | exact Below.refl _ _ | apply Below.drew | (refine bal ?_ _))))) hg5 hv5 ho5 (fun k hk => BAt.past hB7 (by rcases hk with (hk | hk) | hk; exact hk.elim; (first | omega | (simp at hk; omega)); (first | omega | (simp at hk; omega)))); obtain ⟨A5, n5, rfl, hn5, hr5⟩ := Own.row ho5; clear hr5)
                        refine hKq.out _ _ (by (try dsimp only) <;> (first | (go_keep; done) | exact u1 | exact s1w4 | exact s1w6 | exact s1w7 | exact x3 _ | exact x2)) (fun hHeld => ?_)
                        clear hKq Kq
                        (try simp only [List.getElem_toArray, List.getElem_cons_zero, List.getElem_cons_succ, Act.put, List.setIfInBounds_toArray, List.set_cons_zero, List.set_cons_succ])
                        refine wpAnyH_take (i := 19) (v := _) rfl (by kernel_rfl) (by kernel_rfl) (by kernel_rfl) (fun _ _ _ h => h) (Or.inl ⟨by rfl, by (intro w hSw; (try dsimp only at hSw); go_simp <;> with_reducible rfl)⟩) (by assumption) ?_
                        (try simp only [List.getElem_toArray, List.getElem_cons_zero, List.getElem_cons_succ, Act.put, List.setIfInBounds_toArray, List.set_cons_zero, List.set_cons_succ])
                        refine wpAnyH_ready (rs := [20]) (by kernel_rfl) (by simp) ?_
                        refine AllReadyH.cons rfl (fun Kq hKq => ?_) ?_
                        · (try simp only [List.getElem_toArray, List.getElem_cons_zero, List.getElem_cons_succ])
                          refine step_fold (a := ⟨_, _⟩) ?_
                          go_simp
                          refine hKq.out _ _ (by (try dsimp only) <;> (first | (go_keep; done) | exact u1 | exact s1w4 | exact s1w6 | exact s1w7 | exact x3 _ | exact x2)) (fun hHeld => ?_)
                          clear hKq Kq
                          (try simp only [List.getElem_toArray, List.getElem_cons_zero, List.getElem_cons_succ, Act.put, List.setIfInBounds_toArray, List.set_cons_zero, List.set_cons_succ])
                          refine wpAnyH_done (by kernel_rfl) ?_ _
                          refine NoPanic.normal ?_
                          go_wp2
                          simp only [List.length_append, List.length_cons, List.length_nil, Nat.zero_add, Nat.reduceAdd] at hB5
                          exact bodyPost_ret (v := .agg #[.slice (some ⟨gc, 0, none⟩) p.cells.length cac, .slice (some ⟨gb, 0, none⟩) (rest.length + 1) cab]) (by simp [results, Try.results78, go_sem, y3, y4, y5]) rfl (BAt.done (BAt.less hB5 (by omega)) _ _)
                        exact AllReadyH.nil
                      exact AllReadyH.nil
                    exact AllReadyH.nil
                  exact AllReadyH.nil
                exact AllReadyH.nil
              refine AllReadyH.cons rfl (fun Kq hKq => ?_) ?_
              · (try simp only [List.getElem_toArray, List.getElem_cons_zero, List.getElem_cons_succ])
                refine step_fold (a := ⟨_, _⟩) ?_
                go_simp
                first | (go_at_call 49; refine (pick_calls _ _ _ _ _ _ _ _ (BAt.R (BAt.below hB6 (by (repeat' (first | exact Below.refl _ _ | apply Below.drew | (refine bal ?_ _)))))) (by omega)).mono ?_; rintro e w7 ⟨t3, rfl, ht30, ht31, hRn, hk⟩; have hwt3 := IntWalk.i64_in (t3 - 1) (by omega); have hB7 := BAt.pick (BAt.below hB6 (by (repeat' (first | exact Below.refl _ _ | apply Below.drew | (refine bal ?_ _))))) hRn hk; have s1w7 := hB7.p1; have s0w7 := hB7.c0; have hglw7 := hB7.lts.2.2.2.2; have hblw7 := hB7.lts.2.1; clear hRn hk) | (go_at_call 49; refine (pick_calls _ _ _ _ _ _ _ _ (BAt.R (BAt.below hB4 (by (repeat' (first | exact Below.refl _ _ | apply Below.drew | (refine bal ?_ _)))))) (by omega)).mono ?_; rintro e w6 ⟨t2, rfl, ht20, ht21, hRn, hk⟩; have hwt2 := IntWalk.i64_in (t2 - 1) (by omega); have hB6 := BAt.pick (BAt.below hB4 (by (repeat' (first | exact Below.refl _ _ | apply Below.drew | (refine bal ?_ _))))) hRn hk; have s1w6 := hB6.p1; have s0w6 := hB6.c0; have hglw6 := hB6.lts.2.2.2.2; have hblw6 := hB6.lts.2.1; clear hRn hk) | (go_at_call 49; refine (pick_calls _ _ _ _ _ _ _ _ (BAt.R (BAt.below HB.out (by (repeat' (first | exact Below.refl _ _ | apply Below.drew | (refine bal ?_ _)))))) (by omega)).mono ?_; rintro e w4 ⟨t, rfl, ht0, ht1, hRn, hk⟩; have hB4 := BAt.pick (BAt.below HB.out (by (repeat' (first | exact Below.refl _ _ | apply Below.drew | (refine bal ?_ _))))) hRn hk; have s1w4 := hB4.p1; have s0w4 := hB4.c0; have hglw4 := hB4.lts.2.2.2.2; have hblw4 := hB4.lts.2.1; clear hRn hk)
                refine hKq.out _ _ (by (try dsimp only) <;> (first | (go_keep; done) | exact u1 | exact s1w4 | exact s1w6 | exact s1w7 | exact x3 _ | exact x2)) (fun hHeld => ?_)
                clear hKq Kq
                (try simp only [List.getElem_toArray, List.getElem_cons_zero, List.getElem_cons_succ, Act.put, List.setIfInBounds_toArray, List.set_cons_zero, List.set_cons_succ])
                refine wpAnyH_take (i := 13) (v := _) rfl (by kernel_rfl) (by kernel_rfl) (by kernel_rfl) (fun _ _ _ h => h) (Or.inl ⟨by rfl, by (intro w hSw; (try dsimp only at hSw); go_simp <;> with_reducible rfl)⟩) (by assumption) ?_
                (try simp only [List.getElem_toArray, List.getElem_cons_zero, List.getElem_cons_succ, Act.put, List.setIfInBounds_toArray, List.set_cons_zero, List.set_cons_succ])
                refine wpAnyH_take (i := 14) (v := _) rfl (by kernel_rfl) (by kernel_rfl) (by kernel_rfl) (fun _ _ _ h => h) (Or.inl ⟨by rfl, by (intro w hSw; (try dsimp only at hSw); go_simp <;> with_reducible rfl)⟩) (by assumption) ?_
                (try simp only [List.getElem_toArray, List.getElem_cons_zero, List.getElem_cons_succ, Act.put, List.setIfInBounds_toArray, List.set_cons_zero, List.set_cons_succ])
                refine wpAnyH_ready (rs := [5, 15]) (by kernel_rfl) (by simp) ?_
                refine AllReadyH.cons rfl (fun Kq hKq => ?_) ?_
                · (try simp only [List.getElem_toArray, List.getElem_cons_zero, List.getElem_cons_succ])
                  refine step_fold (a := ⟨_, _⟩) ?_
                  go_simp
                  refine hKq.out _ _ (by (try dsimp only) <;> (first | (go_keep; done) | exact u1 | exact s1w4 | exact s1w6 | exact s1w7 | exact x3 _ | exact x2)) (fun hHeld => ?_)
                  clear hKq Kq
                  (try simp only [List.getElem_toArray, List.getElem_cons_zero, List.getElem_cons_succ, Act.put, List.setIfInBounds_toArray, List.set_cons_zero, List.set_cons_succ])
                  refine wpAnyH_ready (rs := [15]) (by kernel_rfl) (by simp) ?_
                  refine AllReadyH.cons rfl (fun Kq hKq => ?_) ?_
                  · (try simp only [List.getElem_toArray, List.getElem_cons_zero, List.getElem_cons_succ])
                    refine step_fold (a := ⟨_, _⟩) ?_
                    go_simp
                    refine hKq.out _ _ (by (try dsimp only) <;> (first | (go_keep; done) | exact u1 | exact s1w4 | exact s1w6 | exact s1w7 | exact x3 _ | exact x2)) (fun hHeld => ?_)
                    clear hKq Kq
                    (try simp only [List.getElem_toArray, List.getElem_cons_zero, List.getElem_cons_succ, Act.put, List.setIfInBounds_toArray, List.set_cons_zero, List.set_cons_succ])
                    refine wpAnyH_take (i := 16) (v := _) rfl (by kernel_rfl) (by kernel_rfl) (by kernel_rfl) (fun _ _ _ h => h) (Or.inl ⟨by rfl, by (intro w hSw; (try dsimp only at hSw); go_simp <;> with_reducible rfl)⟩) (by assumption) ?_
                    (try simp only [List.getElem_toArray, List.getElem_cons_zero, List.getElem_cons_succ, Act.put, List.setIfInBounds_toArray, List.set_cons_zero, List.set_cons_succ])
                    refine wpAnyH_ready (rs := [17]) (by kernel_rfl) (by simp) ?_
                    refine AllReadyH.cons rfl (fun Kq hKq => ?_) ?_
                    · (try simp only [List.getElem_toArray, List.getElem_cons_zero, List.getElem_cons_succ])
                      refine step_fold (a := ⟨_, _⟩) ?_
                      go_simp
                      refine hKq.out _ _ (by (try dsimp only) <;> (first | (go_keep; done) | exact u1 | exact s1w4 | exact s1w6 | exact s1w7 | exact x3 _ | exact x2)) (fun hHeld => ?_)
                      clear hKq Kq
                      (try simp only [List.getElem_toArray, List.getElem_cons_zero, List.getElem_cons_succ, Act.put, List.setIfInBounds_toArray, List.set_cons_zero, List.set_cons_succ])
                      refine wpAnyH_ready (rs := [18]) (by kernel_rfl) (by simp) ?_
                      refine AllReadyH.cons rfl (fun Kq hKq => ?_) ?_
                      · (try simp only [List.getElem_toArray, List.getElem_cons_zero, List.getElem_cons_succ])
                        refine step_fold (a := ⟨_, _⟩) ?_
                        (refine step_append_kd (d := kAct) (by rfl) _ _ _ (by rfl) Try.underlying32 _ 64 infoAct rfl (by decide) (by decide) (by rfl) (Own.belowAll (BAt.O hB7) (by (repeat' (first | exact Below.refl _ _ | apply Below.drew | (refine bal ?_ _))))) _ _ (by rfl) (Row.one_at (d := kAct) (e := 35) (S := fun k => False ∨ k = w7.heap.size) (x := ⟨1, [⟨t, t2 - 1, t3 - 1⟩], [], 0⟩) _ (act_K_deeds [⟨t, t2 - 1, t3 - 1⟩] (Nat.le_refl _) (Row.one_at (d := kDeed) (e := 63) (w := w7) (S := fun _ => False) (x := ⟨t, t2 - 1, t3 - 1⟩) _ (isDeed_K ⟨t, t2 - 1, t3 - 1⟩ ⟨(by show i64 (t); unfold i64; omega), (by show i64 (t2 - 1); unfold i64; omega), (by show i64 (t3 - 1); unfold i64; omega)⟩) rfl)) (by simp)) (fun k hk e => BAt.farO hB7 (k := k) (by rcases hk with (hk | hk) | hk; exact hk.elim; (first | omega | (simp at hk; omega)); (first | omega | (simp at hk; omega))) e) (by have := HA4.out; simp; omega) (by have := (BAt.k hB7).size; simp; omega) ?_; intro v5 w5 ho5 hg5 hv5; obtain ⟨x0, x1, x2, x3⟩ := BAt.appFacts (BAt.below hB7 (by (repeat' (first | exact Below.refl _ _ | apply Below.drew | (refine bal ?_ _))))) hg5; obtain ⟨y1, y2, y3, y4, y5⟩ := BAt.appEnds (BAt.below hB7 (by (repeat' (first | exact Below.refl _ _ | apply Below.drew | (refine bal ?_ _))))) hg5; have hB5 := BAt.app1 (BAt.below hB7 (by (repeat' (first | exact Below.refl _ _ | apply Below.drew | (refine bal ?_ _))))) hg5 hv5 ho5 (fun k hk => BAt.past hB7 (by rcases hk with (hk | hk) | hk; exact hk.elim; (first | omega | (simp at hk; omega)); (first | omega | (simp at hk; omega)))); obtain ⟨A5, n5, rfl, hn5, hr5⟩ := Own.row ho5; clear hr5)
                        refine hKq.out _ _ (by (try dsimp only) <;> (first | (go_keep; done) | exact u1 | exact s1w4 | exact s1w6 | exact s1w7 | exact x3 _ | exact x2)) (fun hHeld => ?_)
                        clear hKq Kq
                        (try simp only [List.getElem_toArray, List.getElem_cons_zero, List.getElem_cons_succ, Act.put, List.setIfInBounds_toArray, List.set_cons_zero, List.set_cons_succ])
                        refine wpAnyH_take (i := 19) (v := _) rfl (by kernel_rfl) (by kernel_rfl) (by kernel_rfl) (fun _ _ _ h => h) (Or.inl ⟨by rfl, by (intro w hSw; (try dsimp only at hSw); go_simp <;> with_reducible rfl)⟩) (by assumption) ?_
                        (try simp only [List.getElem_toArray, List.getElem_cons_zero, List.getElem_cons_succ, Act.put, List.setIfInBounds_toArray, List.set_cons_zero, List.set_cons_succ])
                        refine wpAnyH_ready (rs := [20]) (by kernel_rfl) (by simp) ?_
                        refine AllReadyH.cons rfl (fun Kq hKq => ?_) ?_
                        · (try simp only [List.getElem_toArray, List.getElem_cons_zero, List.getElem_cons_succ])
                          refine step_fold (a := ⟨_, _⟩) ?_
                          go_simp
                          refine hKq.out _ _ (by (try dsimp only) <;> (first | (go_keep; done) | exact u1 | exact s1w4 | exact s1w6 | exact s1w7 | exact x3 _ | exact x2)) (fun hHeld => ?_)
                          clear hKq Kq
                          (try simp only [List.getElem_toArray, List.getElem_cons_zero, List.getElem_cons_succ, Act.put, List.setIfInBounds_toArray, List.set_cons_zero, List.set_cons_succ])
                          refine wpAnyH_done (by kernel_rfl) ?_ _
                          refine NoPanic.normal ?_
                          go_wp2
                          simp only [List.length_append, List.length_cons, List.length_nil, Nat.zero_add, Nat.reduceAdd] at hB5
                          exact bodyPost_ret (v := .agg #[.slice (some ⟨gc, 0, none⟩) p.cells.length cac, .slice (some ⟨gb, 0, none⟩) (rest.length + 1) cab]) (by simp [results, Try.results78, go_sem, y3, y4, y5]) rfl (BAt.done (BAt.less hB5 (by omega)) _ _)
                        exact AllReadyH.nil
                      exact AllReadyH.nil
                    exact AllReadyH.nil
                  exact AllReadyH.nil
                refine AllReadyH.cons rfl (fun Kq hKq => ?_) ?_
                · (try simp only [List.getElem_toArray, List.getElem_cons_zero, List.getElem_cons_succ])
                  refine step_fold (a := ⟨_, _⟩) ?_
                  go_simp
                  refine hKq.out _ _ (by (try dsimp only) <;> (first | (go_keep; done) | exact u1 | exact s1w4 | exact s1w6 | exact s1w7 | exact x3 _ | exact x2)) (fun hHeld => ?_)
                  clear hKq Kq
                  (try simp only [List.getElem_toArray, List.getElem_cons_zero, List.getElem_cons_succ, Act.put, List.setIfInBounds_toArray, List.set_cons_zero, List.set_cons_succ])
                  refine wpAnyH_take (i := 16) (v := _) rfl (by kernel_rfl) (by kernel_rfl) (by kernel_rfl) (fun _ _ _ h => h) (Or.inl ⟨by rfl, by (intro w hSw; (try dsimp only at hSw); go_simp <;> with_reducible rfl)⟩) (by assumption) ?_
                  (try simp only [List.getElem_toArray, List.getElem_cons_zero, List.getElem_cons_succ, Act.put, List.setIfInBounds_toArray, List.set_cons_zero, List.set_cons_succ])
                  refine wpAnyH_ready (rs := [5, 17]) (by kernel_rfl) (by simp) ?_
                  refine AllReadyH.cons rfl (fun Kq hKq => ?_) ?_
                  · (try simp only [List.getElem_toArray, List.getElem_cons_zero, List.getElem_cons_succ])
                    refine step_fold (a := ⟨_, _⟩) ?_
                    go_simp
                    refine hKq.out _ _ (by (try dsimp only) <;> (first | (go_keep; done) | exact u1 | exact s1w4 | exact s1w6 | exact s1w7 | exact x3 _ | exact x2)) (fun hHeld => ?_)
                    clear hKq Kq
                    (try simp only [List.getElem_toArray, List.getElem_cons_zero, List.getElem_cons_succ, Act.put, List.setIfInBounds_toArray, List.set_cons_zero, List.set_cons_succ])
                    refine wpAnyH_ready (rs := [17]) (by kernel_rfl) (by simp) ?_
                    refine AllReadyH.cons rfl (fun Kq hKq => ?_) ?_
                    · (try simp only [List.getElem_toArray, List.getElem_cons_zero, List.getElem_cons_succ])
                      refine step_fold (a := ⟨_, _⟩) ?_
                      go_simp
                      refine hKq.out _ _ (by (try dsimp only) <;> (first | (go_keep; done) | exact u1 | exact s1w4 | exact s1w6 | exact s1w7 | exact x3 _ | exact x2)) (fun hHeld => ?_)
                      clear hKq Kq
                      (try simp only [List.getElem_toArray, List.getElem_cons_zero, List.getElem_cons_succ, Act.put, List.setIfInBounds_toArray, List.set_cons_zero, List.set_cons_succ])
                      refine wpAnyH_ready (rs := [18]) (by kernel_rfl) (by simp) ?_
                      refine AllReadyH.cons rfl (fun Kq hKq => ?_) ?_
                      · (try simp only [List.getElem_toArray, List.getElem_cons_zero, List.getElem_cons_succ])
                        refine step_fold (a := ⟨_, _⟩) ?_
                        (refine step_append_kd (d := kAct) (by rfl) _ _ _ (by rfl) Try.underlying32 _ 64 infoAct rfl (by decide) (by decide) (by rfl) (Own.belowAll (BAt.O hB7) (by (repeat' (first | exact Below.refl _ _ | apply Below.drew | (refine bal ?_ _))))) _ _ (by rfl) (Row.one_at (d := kAct) (e := 35) (S := fun k => False ∨ k = w7.heap.size) (x := ⟨1, [⟨t, t2 - 1, t3 - 1⟩], [], 0⟩) _ (act_K_deeds [⟨t, t2 - 1, t3 - 1⟩] (Nat.le_refl _) (Row.one_at (d := kDeed) (e := 63) (w := w7) (S := fun _ => False) (x := ⟨t, t2 - 1, t3 - 1⟩) _ (isDeed_K ⟨t, t2 - 1, t3 - 1⟩ ⟨(by show i64 (t); unfold i64; omega), (by show i64 (t2 - 1); unfold i64; omega), (by show i64 (t3 - 1); unfold i64; omega)⟩) rfl)) (by simp)) (fun k hk e => BAt.farO hB7 (k := k) (by rcases hk with (hk | hk) | hk; exact hk.elim; (first | omega | (simp at hk; omega)); (first | omega | (simp at hk; omega))) e) (by have := HA4.out; simp; omega) (by have := (BAt.k hB7).size; simp; omega) ?_; intro v5 w5 ho5 hg5 hv5; obtain ⟨x0, x1, x2, x3⟩ := BAt.appFacts (BAt.below hB7 (by (repeat' (first | exact Below.refl _ _ | apply Below.drew | (refine bal ?_ _))))) hg5; obtain ⟨y1, y2, y3, y4, y5⟩ := BAt.appEnds (BAt.below hB7 (by (repeat' (first | exact Below.refl _ _ | apply Below.drew | (refine bal ?_ _))))) hg5; have hB5 := BAt.app1 (BAt.below hB7 (by (repeat' (first | exact Below.refl _ _ | apply Below.drew | (refine bal ?_ _))))) hg5 hv5 ho5 (fun k hk => BAt.past hB7 (by rcases hk with (hk | hk) | hk; exact hk.elim; (first | omega | (simp at hk; omega)); (first | omega | (simp at hk; omega)))); obtain ⟨A5, n5, rfl, hn5, hr5⟩ := Own.row ho5; clear hr5)
                        refine hKq.out _ _ (by (try dsimp only) <;> (first | (go_keep; done) | exact u1 | exact s1w4 | exact s1w6 | exact s1w7 | exact x3 _ | exact x2)) (fun hHeld => ?_)
                        clear hKq Kq
                        (try simp only [List.getElem_toArray, List.getElem_cons_zero, List.getElem_cons_succ, Act.put, List.setIfInBounds_toArray, List.set_cons_zero, List.set_cons_succ])
                        refine wpAnyH_take (i := 19) (v := _) rfl (by kernel_rfl) (by kernel_rfl) (by kernel_rfl) (fun _ _ _ h => h) (Or.inl ⟨by rfl, by (intro w hSw; (try dsimp only at hSw); go_simp <;> with_reducible rfl)⟩) (by assumption) ?_
                        (try simp only [List.getElem_toArray, List.getElem_cons_zero, List.getElem_cons_succ, Act.put, List.setIfInBounds_toArray, List.set_cons_zero, List.set_cons_succ])
                        refine wpAnyH_ready (rs := [20]) (by kernel_rfl) (by simp) ?_
                        refine AllReadyH.cons rfl (fun Kq hKq => ?_) ?_
                        · (try simp only [List.getElem_toArray, List.getElem_cons_zero, List.getElem_cons_succ])
                          refine step_fold (a := ⟨_, _⟩) ?_
                          go_simp
                          refine hKq.out _ _ (by (try dsimp only) <;> (first | (go_keep; done) | exact u1 | exact s1w4 | exact s1w6 | exact s1w7 | exact x3 _ | exact x2)) (fun hHeld => ?_)
                          clear hKq Kq
                          (try simp only [List.getElem_toArray, List.getElem_cons_zero, List.getElem_cons_succ, Act.put, List.setIfInBounds_toArray, List.set_cons_zero, List.set_cons_succ])
                          refine wpAnyH_done (by kernel_rfl) ?_ _
                          refine NoPanic.normal ?_
                          go_wp2
                          simp only [List.length_append, List.length_cons, List.length_nil, Nat.zero_add, Nat.reduceAdd] at hB5
                          exact bodyPost_ret (v := .agg #[.slice (some ⟨gc, 0, none⟩) p.cells.length cac, .slice (some ⟨gb, 0, none⟩) (rest.length + 1) cab]) (by simp [results, Try.results78, go_sem, y3, y4, y5]) rfl (BAt.done (BAt.less hB5 (by omega)) _ _)
                        exact AllReadyH.nil
                      exact AllReadyH.nil
                    exact AllReadyH.nil
                  refine AllReadyH.cons rfl (fun Kq hKq => ?_) ?_
                  · (try simp only [List.getElem_toArray, List.getElem_cons_zero, List.getElem_cons_succ])
                    refine step_fold (a := ⟨_, _⟩) ?_
                    go_simp
                    refine hKq.out _ _ (by (try dsimp only) <;> (first | (go_keep; done) | exact u1 | exact s1w4 | exact s1w6 | exact s1w7 | exact x3 _ | exact x2)) (fun hHeld => ?_)
                    clear hKq Kq
                    (try simp only [List.getElem_toArray, List.getElem_cons_zero, List.getElem_cons_succ, Act.put, List.setIfInBounds_toArray, List.set_cons_zero, List.set_cons_succ])
                    refine wpAnyH_ready (rs := [5]) (by kernel_rfl) (by simp) ?_
                    refine AllReadyH.cons rfl (fun Kq hKq => ?_) ?_
                    · (try simp only [List.getElem_toArray, List.getElem_cons_zero, List.getElem_cons_succ])
                      refine step_fold (a := ⟨_, _⟩) ?_
                      go_simp
                      refine hKq.out _ _ (by (try dsimp only) <;> (first | (go_keep; done) | exact u1 | exact s1w4 | exact s1w6 | exact s1w7 | exact x3 _ | exact x2)) (fun hHeld => ?_)
                      clear hKq Kq
                      (try simp only [List.getElem_toArray, List.getElem_cons_zero, List.getElem_cons_succ, Act.put, List.setIfInBounds_toArray, List.set_cons_zero, List.set_cons_succ])
                      refine wpAnyH_ready (rs := [18]) (by kernel_rfl) (by simp) ?_
                      refine AllReadyH.cons rfl (fun Kq hKq => ?_) ?_
                      · (try simp only [List.getElem_toArray, List.getElem_cons_zero, List.getElem_cons_succ])
                        refine step_fold (a := ⟨_, _⟩) ?_
                        (refine step_append_kd (d := kAct) (by rfl) _ _ _ (by rfl) Try.underlying32 _ 64 infoAct rfl (by decide) (by decide) (by rfl) (Own.belowAll (BAt.O hB7) (by (repeat' (first | exact Below.refl _ _ | apply Below.drew | (refine bal ?_ _))))) _ _ (by rfl) (Row.one_at (d := kAct) (e := 35) (S := fun k => False ∨ k = w7.heap.size) (x := ⟨1, [⟨t, t2 - 1, t3 - 1⟩], [], 0⟩) _ (act_K_deeds [⟨t, t2 - 1, t3 - 1⟩] (Nat.le_refl _) (Row.one_at (d := kDeed) (e := 63) (w := w7) (S := fun _ => False) (x := ⟨t, t2 - 1, t3 - 1⟩) _ (isDeed_K ⟨t, t2 - 1, t3 - 1⟩ ⟨(by show i64 (t); unfold i64; omega), (by show i64 (t2 - 1); unfold i64; omega), (by show i64 (t3 - 1); unfold i64; omega)⟩) rfl)) (by simp)) (fun k hk e => BAt.farO hB7 (k := k) (by rcases hk with (hk | hk) | hk; exact hk.elim; (first | omega | (simp at hk; omega)); (first | omega | (simp at hk; omega))) e) (by have := HA4.out; simp; omega) (by have := (BAt.k hB7).size; simp; omega) ?_; intro v5 w5 ho5 hg5 hv5; obtain ⟨x0, x1, x2, x3⟩ := BAt.appFacts (BAt.below hB7 (by (repeat' (first | exact Below.refl _ _ | apply Below.drew | (refine bal ?_ _))))) hg5; obtain ⟨y1, y2, y3, y4, y5⟩ := BAt.appEnds (BAt.below hB7 (by (repeat' (first | exact Below.refl _ _ | apply Below.drew | (refine bal ?_ _))))) hg5; have hB5 := BAt.app1 (BAt.below hB7 (by (repeat' (first | exact Below.refl _ _ | apply Below.drew | (refine bal ?_ _))))) hg5 hv5 ho5 (fun k hk => BAt.past hB7 (by rcases hk with (hk | hk) | hk; exact hk.elim; (first | omega | (simp at hk; omega)); (first | omega | (simp at hk; omega)))); obtain ⟨A5, n5, rfl, hn5, hr5⟩ := Own.row ho5; clear hr5)
                        refine hKq.out _ _ (by (try dsimp only) <;> (first | (go_keep; done) | exact u1 | exact s1w4 | exact s1w6 | exact s1w7 | exact x3 _ | exact x2)) (fun hHeld => ?_)
                        clear hKq Kq
                        (try simp only [List.getElem_toArray, List.getElem_cons_zero, List.getElem_cons_succ, Act.put, List.setIfInBounds_toArray, List.set_cons_zero, List.set_cons_succ])
                        refine wpAnyH_take (i := 19) (v := _) rfl (by kernel_rfl) (by kernel_rfl) (by kernel_rfl) (fun _ _ _ h => h) (Or.inl ⟨by rfl, by (intro w hSw; (try dsimp only at hSw); go_simp <;> with_reducible rfl)⟩) (by assumption) ?_
                        (try simp only [List.getElem_toArray, List.getElem_cons_zero, List.getElem_cons_succ, Act.put, List.setIfInBounds_toArray, List.set_cons_zero, List.set_cons_succ])
                        refine wpAnyH_ready (rs := [20]) (by kernel_rfl) (by simp) ?_
                        refine AllReadyH.cons rfl (fun Kq hKq => ?_) ?_
                        · (try simp only [List.getElem_toArray, List.getElem_cons_zero, List.getElem_cons_succ])
                          refine step_fold (a := ⟨_, _⟩) ?_
                          go_simp
                          refine hKq.out _ _ (by (try dsimp only) <;> (first | (go_keep; done) | exact u1 | exact s1w4 | exact s1w6 | exact s1w7 | exact x3 _ | exact x2)) (fun hHeld => ?_)
                          clear hKq Kq
                          (try simp only [List.getElem_toArray, List.getElem_cons_zero, List.getElem_cons_succ, Act.put, List.setIfInBounds_toArray, List.set_cons_zero, List.set_cons_succ])
                          refine wpAnyH_done (by kernel_rfl) ?_ _
                          refine NoPanic.normal ?_
                          go_wp2
                          simp only [List.length_append, List.length_cons, List.length_nil, Nat.zero_add, Nat.reduceAdd] at hB5
                          exact bodyPost_ret (v := .agg #[.slice (some ⟨gc, 0, none⟩) p.cells.length cac, .slice (some ⟨gb, 0, none⟩) (rest.length + 1) cab]) (by simp [results, Try.results78, go_sem, y3, y4, y5]) rfl (BAt.done (BAt.less hB5 (by omega)) _ _)
                        exact AllReadyH.nil
                      exact AllReadyH.nil
                    exact AllReadyH.nil
                  exact AllReadyH.nil
                exact AllReadyH.nil
              exact AllReadyH.nil
            exact AllReadyH.nil
          exact AllReadyH.nil
        · have := BAt.done (BAt.less hB4 (f' := f) (by omega)) (.slice (some ⟨gc, 0, none⟩) p.cells.length cac) (.slice (some ⟨gb', 0, none⟩) (rest.length + 3 + 1) cab')
          simp only [List.length_append, List.length_cons, List.length_nil, Nat.zero_add, Nat.reduceAdd] at this
          exact bodyPost_ret (v := .agg #[.slice (some ⟨gc, 0, none⟩) p.cells.length cac, .slice (some ⟨gb', 0, none⟩) (rest.length + 3 + 1) cab']) (by simp [results, Try.results78, go_sem, q7, q8, q9]) rfl this
        · have HB := Lib.hid hB3
          have u3 := hB3.c0
          have hgl3 := hbl3.2.2.2.2
          clear hB3
          refine wp_region_noPanic ?_
          refine wp_region_held_drew (S := (fun w' => w'.cell? ⟨w2.heap.size, 1, none⟩ = some (.slice (some ⟨gb, 0, none⟩) (rest.length + 1) cab))) (by kernel_rfl) (by (try dsimp only) <;> (first | (go_keep; done) | exact u1 | exact s1w4 | exact x3 _ | exact x2)) (fun hHeld => ?_)
          refine wpAnyH_take (i := 0) (v := _) rfl (by kernel_rfl) (by kernel_rfl) (by kernel_rfl) (fun _ _ _ h => h) (Or.inl ⟨by rfl, by (intro w hSw; (try dsimp only at hSw); go_simp <;> with_reducible rfl)⟩) (by assumption) ?_
          (try simp only [List.getElem_toArray, List.getElem_cons_zero, List.getElem_cons_succ, Act.put, List.setIfInBounds_toArray, List.set_cons_zero, List.set_cons_succ])
          refine wpAnyH_take (i := 1) (v := _) rfl (by kernel_rfl) (by kernel_rfl) (by kernel_rfl) (fun _ _ _ h => h) (Or.inl ⟨by rfl, by (intro w hSw; (try dsimp only at hSw); go_simp <;> with_reducible rfl)⟩) (by assumption) ?_
          (try simp only [List.getElem_toArray, List.getElem_cons_zero, List.getElem_cons_succ, Act.put, List.setIfInBounds_toArray, List.set_cons_zero, List.set_cons_succ])
          refine wpAnyH_take (i := 2) (v := _) rfl (by kernel_rfl) (by kernel_rfl) (by kernel_rfl) (fun _ _ _ h => h) (Or.inl ⟨by rfl, by (intro w hSw; (try dsimp only at hSw); go_simp <;> with_reducible rfl)⟩) (by assumption) ?_
          (try simp only [List.getElem_toArray, List.getElem_cons_zero, List.getElem_cons_succ, Act.put, List.setIfInBounds_toArray, List.set_cons_zero, List.set_cons_succ])
          refine wpAnyH_take (i := 3) (v := _) rfl (by kernel_rfl) (by kernel_rfl) (by kernel_rfl) (fun _ _ _ h => h) (Or.inl ⟨by rfl, by (intro w hSw; (try dsimp only at hSw); go_simp <;> with_reducible rfl)⟩) (by assumption) ?_
          (try simp only [List.getElem_toArray, List.getElem_cons_zero, List.getElem_cons_succ, Act.put, List.setIfInBounds_toArray, List.set_cons_zero, List.set_cons_succ])
          refine wpAnyH_take (i := 4) (v := _) rfl (by kernel_rfl) (by kernel_rfl) (by kernel_rfl) (fun _ _ _ h => h) (Or.inl ⟨by rfl, by (intro w hSw; (try dsimp only at hSw); go_simp <;> with_reducible rfl)⟩) (by assumption) ?_
          (try simp only [List.getElem_toArray, List.getElem_cons_zero, List.getElem_cons_succ, Act.put, List.setIfInBounds_toArray, List.set_cons_zero, List.set_cons_succ])
          refine wpAnyH_take (i := 6) (v := _) rfl (by kernel_rfl) (by kernel_rfl) (by kernel_rfl) (fun _ _ _ h => h) (Or.inl ⟨by rfl, by (intro w hSw; (try dsimp only at hSw); go_simp <;> with_reducible rfl)⟩) (by assumption) ?_
          (try simp only [List.getElem_toArray, List.getElem_cons_zero, List.getElem_cons_succ, Act.put, List.setIfInBounds_toArray, List.set_cons_zero, List.set_cons_succ])
          refine wpAnyH_ready (rs := [5, 7]) (by kernel_rfl) (by simp) ?_
          refine AllReadyH.cons rfl (fun Kq hKq => ?_) ?_
          · (try simp only [List.getElem_toArray, List.getElem_cons_zero, List.getElem_cons_succ])
            refine step_fold (a := ⟨_, _⟩) ?_
            go_simp
            refine hKq.out _ _ (by (try dsimp only) <;> (first | (go_keep; done) | exact u1 | exact s1w4 | exact x3 _ | exact x2)) (fun hHeld => ?_)
            clear hKq Kq
            (try simp only [List.getElem_toArray, List.getElem_cons_zero, List.getElem_cons_succ, Act.put, List.setIfInBounds_toArray, List.set_cons_zero, List.set_cons_succ])
            refine wpAnyH_ready (rs := [7]) (by kernel_rfl) (by simp) ?_
            refine AllReadyH.cons rfl (fun Kq hKq => ?_) ?_
            · (try simp only [List.getElem_toArray, List.getElem_cons_zero, List.getElem_cons_succ])
              refine step_fold (a := ⟨_, _⟩) ?_
              go_simp
              (go_at_call 49; refine (pick_calls _ _ _ _ _ _ _ _ (BAt.R (BAt.below HB.out (by (repeat' (first | exact Below.refl _ _ | apply Below.drew | (refine bal ?_ _)))))) (by omega)).mono ?_; rintro e w4 ⟨t, rfl, ht0, ht1, hRn, hk⟩; have hwt := IntWalk.i64_in (t - 1) (by omega); have hB4 := BAt.pick (BAt.below HB.out (by (repeat' (first | exact Below.refl _ _ | apply Below.drew | (refine bal ?_ _))))) hRn hk; have s1w4 := hB4.p1; have s0w4 := hB4.c0; have hglw4 := hB4.lts.2.2.2.2; have hblw4 := hB4.lts.2.1; clear hRn hk)
              refine hKq.out _ _ (by (try dsimp only) <;> (first | (go_keep; done) | exact u1 | exact s1w4 | exact x3 _ | exact x2)) (fun hHeld => ?_)
              clear hKq Kq
              (try simp only [List.getElem_toArray, List.getElem_cons_zero, List.getElem_cons_succ, Act.put, List.setIfInBounds_toArray, List.set_cons_zero, List.set_cons_succ])
              refine wpAnyH_take (i := 8) (v := _) rfl (by kernel_rfl) (by kernel_rfl) (by kernel_rfl) (fun _ _ _ h => h) (Or.inl ⟨by rfl, by (intro w hSw; (try dsimp only at hSw); go_simp <;> with_reducible rfl)⟩) (by assumption) ?_
              (try simp only [List.getElem_toArray, List.getElem_cons_zero, List.getElem_cons_succ, Act.put, List.setIfInBounds_toArray, List.set_cons_zero, List.set_cons_succ])
              refine wpAnyH_take (i := 9) (v := _) rfl (by kernel_rfl) (by kernel_rfl) (by kernel_rfl) (fun _ _ _ h => h) (Or.inl ⟨by rfl, by (intro w hSw; (try dsimp only at hSw); go_simp <;> with_reducible rfl)⟩) (by assumption) ?_
              (try simp only [List.getElem_toArray, List.getElem_cons_zero, List.getElem_cons_succ, Act.put, List.setIfInBounds_toArray, List.set_cons_zero, List.set_cons_succ])
              refine wpAnyH_ready (rs := [10]) (by kernel_rfl) (by simp) ?_
              refine AllReadyH.cons rfl (fun Kq hKq => ?_) ?_
              · (try simp only [List.getElem_toArray, List.getElem_cons_zero, List.getElem_cons_succ])
                refine step_fold (a := ⟨_, _⟩) ?_
                go_simp
                refine hKq.out _ _ (by (try dsimp only) <;> (first | (go_keep; done) | exact u1 | exact s1w4 | exact x3 _ | exact x2)) (fun hHeld => ?_)
                clear hKq Kq
                (try simp only [List.getElem_toArray, List.getElem_cons_zero, List.getElem_cons_succ, Act.put, List.setIfInBounds_toArray, List.set_cons_zero, List.set_cons_succ])
                refine wpAnyH_ready (rs := [11]) (by kernel_rfl) (by simp) ?_
                refine AllReadyH.cons rfl (fun Kq hKq => ?_) ?_
                · (try simp only [List.getElem_toArray, List.getElem_cons_zero, List.getElem_cons_succ])
                  refine step_fold (a := ⟨_, _⟩) ?_
                  (refine step_append_kd (d := kAct) (by rfl) _ _ _ (by rfl) Try.underlying32 _ 64 infoAct rfl (by decide) (by decide) (by rfl) (Own.belowAll (BAt.O hB4) (by (repeat' (first | exact Below.refl _ _ | apply Below.drew | (refine bal ?_ _))))) _ _ (by rfl) (Row.one_at (d := kAct) (e := 35) (S := fun _ => False) (x := ⟨4, [], [], t - 1⟩) _ (act_K 4 (t - 1) (by unfold i64; omega) (by unfold i64; omega)) (by simp)) (fun k hk e => BAt.farO hB4 (k := k) (by rcases hk with hk | hk; exact hk.elim; first | omega | (simp at hk; omega)) e) (by have := HA4.out; simp; omega) (by have := (BAt.k hB4).size; simp; omega) ?_; intro v5 w5 ho5 hg5 hv5; obtain ⟨x0, x1, x2, x3⟩ := BAt.appFacts (BAt.below hB4 (by (repeat' (first | exact Below.refl _ _ | apply Below.drew | (refine bal ?_ _))))) hg5; obtain ⟨y1, y2, y3, y4, y5⟩ := BAt.appEnds (BAt.below hB4 (by (repeat' (first | exact Below.refl _ _ | apply Below.drew | (refine bal ?_ _))))) hg5; have hB5 := BAt.app1 (BAt.below hB4 (by (repeat' (first | exact Below.refl _ _ | apply Below.drew | (refine bal ?_ _))))) hg5 hv5 ho5 (fun k hk => BAt.past hB4 (by rcases hk with hk | hk; exact hk.elim; first | omega | (simp at hk; omega))); obtain ⟨A5, n5, rfl, hn5, hr5⟩ := Own.row ho5; clear hr5)
                  refine hKq.out _ _ (by (try dsimp only) <;> (first | (go_keep; done) | exact u1 | exact s1w4 | exact x3 _ | exact x2)) (fun hHeld => ?_)
                  clear hKq Kq
                  (try simp only [List.getElem_toArray, List.getElem_cons_zero, List.getElem_cons_succ, Act.put, List.setIfInBounds_toArray, List.set_cons_zero, List.set_cons_succ])
                  refine wpAnyH_take (i := 12) (v := _) rfl (by kernel_rfl) (by kernel_rfl) (by kernel_rfl) (fun _ _ _ h => h) (Or.inl ⟨by rfl, by (intro w hSw; (try dsimp only at hSw); go_simp <;> with_reducible rfl)⟩) (by assumption) ?_
                  (try simp only [List.getElem_toArray, List.getElem_cons_zero, List.getElem_cons_succ, Act.put, List.setIfInBounds_toArray, List.set_cons_zero, List.set_cons_succ])
                  refine wpAnyH_ready (rs := [13]) (by kernel_rfl) (by simp) ?_
                  refine AllReadyH.cons rfl (fun Kq hKq => ?_) ?_
                  · (try simp only [List.getElem_toArray, List.getElem_cons_zero, List.getElem_cons_succ])
                    refine step_fold (a := ⟨_, _⟩) ?_
                    go_simp
                    refine hKq.out _ _ (by (try dsimp only) <;> (first | (go_keep; done) | exact u1 | exact s1w4 | exact x3 _ | exact x2)) (fun hHeld => ?_)
                    clear hKq Kq
                    (try simp only [List.getElem_toArray, List.getElem_cons_zero, List.getElem_cons_succ, Act.put, List.setIfInBounds_toArray, List.set_cons_zero, List.set_cons_succ])
                    refine wpAnyH_done (by kernel_rfl) ?_ _
                    refine NoPanic.normal ?_
                    go_wp2
                    simp only [List.length_append, List.length_cons, List.length_nil, Nat.zero_add, Nat.reduceAdd] at hB5
                    exact bodyPost_ret (v := .agg #[.slice (some ⟨gc, 0, none⟩) p.cells.length cac, .slice (some ⟨gb, 0, none⟩) (rest.length + 1) cab]) (by simp [results, Try.results78, go_sem, y3, y4, y5]) rfl (BAt.done (BAt.less hB5 (by omega)) _ _)
                  exact AllReadyH.nil
                exact AllReadyH.nil
              exact AllReadyH.nil
            exact AllReadyH.nil
          refine AllReadyH.cons rfl (fun Kq hKq => ?_) ?_
          · (try simp only [List.getElem_toArray, List.getElem_cons_zero, List.getElem_cons_succ])
            refine step_fold (a := ⟨_, _⟩) ?_
            go_simp
            (go_at_call 49; refine (pick_calls _ _ _ _ _ _ _ _ (BAt.R (BAt.below HB.out (by (repeat' (first | exact Below.refl _ _ | apply Below.drew | (refine bal ?_ _)))))) (by omega)).mono ?_; rintro e w4 ⟨t, rfl, ht0, ht1, hRn, hk⟩; have hwt := IntWalk.i64_in (t - 1) (by omega); have hB4 := BAt.pick (BAt.below HB.out (by (repeat' (first | exact Below.refl _ _ | apply Below.drew | (refine bal ?_ _))))) hRn hk; have s1w4 := hB4.p1; have s0w4 := hB4.c0; have hglw4 := hB4.lts.2.2.2.2; have hblw4 := hB4.lts.2.1; clear hRn hk)
            refine hKq.out _ _ (by (try dsimp only) <;> (first | (go_keep; done) | exact u1 | exact s1w4 | exact x3 _ | exact x2)) (fun hHeld => ?_)
            clear hKq Kq
            (try simp only [List.getElem_toArray, List.getElem_cons_zero, List.getElem_cons_succ, Act.put, List.setIfInBounds_toArray, List.set_cons_zero, List.set_cons_succ])
            refine wpAnyH_take (i := 8) (v := _) rfl (by kernel_rfl) (by kernel_rfl) (by kernel_rfl) (fun _ _ _ h => h) (Or.inl ⟨by rfl, by (intro w hSw; (try dsimp only at hSw); go_simp <;> with_reducible rfl)⟩) (by assumption) ?_
            (try simp only [List.getElem_toArray, List.getElem_cons_zero, List.getElem_cons_succ, Act.put, List.setIfInBounds_toArray, List.set_cons_zero, List.set_cons_succ])
            refine wpAnyH_take (i := 9) (v := _) rfl (by kernel_rfl) (by kernel_rfl) (by kernel_rfl) (fun _ _ _ h => h) (Or.inl ⟨by rfl, by (intro w hSw; (try dsimp only at hSw); go_simp <;> with_reducible rfl)⟩) (by assumption) ?_
            (try simp only [List.getElem_toArray, List.getElem_cons_zero, List.getElem_cons_succ, Act.put, List.setIfInBounds_toArray, List.set_cons_zero, List.set_cons_succ])
            refine wpAnyH_ready (rs := [5, 10]) (by kernel_rfl) (by simp) ?_
            refine AllReadyH.cons rfl (fun Kq hKq => ?_) ?_
            · (try simp only [List.getElem_toArray, List.getElem_cons_zero, List.getElem_cons_succ])
              refine step_fold (a := ⟨_, _⟩) ?_
              go_simp
              refine hKq.out _ _ (by (try dsimp only) <;> (first | (go_keep; done) | exact u1 | exact s1w4 | exact x3 _ | exact x2)) (fun hHeld => ?_)
              clear hKq Kq
              (try simp only [List.getElem_toArray, List.getElem_cons_zero, List.getElem_cons_succ, Act.put, List.setIfInBounds_toArray, List.set_cons_zero, List.set_cons_succ])
              refine wpAnyH_ready (rs := [10]) (by kernel_rfl) (by simp) ?_
              refine AllReadyH.cons rfl (fun Kq hKq => ?_) ?_
              · (try simp only [List.getElem_toArray, List.getElem_cons_zero, List.getElem_cons_succ])
                refine step_fold (a := ⟨_, _⟩) ?_
                go_simp
                refine hKq.out _ _ (by (try dsimp only) <;> (first | (go_keep; done) | exact u1 | exact s1w4 | exact x3 _ | exact x2)) (fun hHeld => ?_)
                clear hKq Kq
                (try simp only [List.getElem_toArray, List.getElem_cons_zero, List.getElem_cons_succ, Act.put, List.setIfInBounds_toArray, List.set_cons_zero, List.set_cons_succ])
                refine wpAnyH_ready (rs := [11]) (by kernel_rfl) (by simp) ?_
                refine AllReadyH.cons rfl (fun Kq hKq => ?_) ?_
                · (try simp only [List.getElem_toArray, List.getElem_cons_zero, List.getElem_cons_succ])
                  refine step_fold (a := ⟨_, _⟩) ?_
                  (refine step_append_kd (d := kAct) (by rfl) _ _ _ (by rfl) Try.underlying32 _ 64 infoAct rfl (by decide) (by decide) (by rfl) (Own.belowAll (BAt.O hB4) (by (repeat' (first | exact Below.refl _ _ | apply Below.drew | (refine bal ?_ _))))) _ _ (by rfl) (Row.one_at (d := kAct) (e := 35) (S := fun _ => False) (x := ⟨4, [], [], t - 1⟩) _ (act_K 4 (t - 1) (by unfold i64; omega) (by unfold i64; omega)) (by simp)) (fun k hk e => BAt.farO hB4 (k := k) (by rcases hk with hk | hk; exact hk.elim; first | omega | (simp at hk; omega)) e) (by have := HA4.out; simp; omega) (by have := (BAt.k hB4).size; simp; omega) ?_; intro v5 w5 ho5 hg5 hv5; obtain ⟨x0, x1, x2, x3⟩ := BAt.appFacts (BAt.below hB4 (by (repeat' (first | exact Below.refl _ _ | apply Below.drew | (refine bal ?_ _))))) hg5; obtain ⟨y1, y2, y3, y4, y5⟩ := BAt.appEnds (BAt.below hB4 (by (repeat' (first | exact Below.refl _ _ | apply Below.drew | (refine bal ?_ _))))) hg5; have hB5 := BAt.app1 (BAt.below hB4 (by (repeat' (first | exact Below.refl _ _ | apply Below.drew | (refine bal ?_ _))))) hg5 hv5 ho5 (fun k hk => BAt.past hB4 (by rcases hk with hk | hk; exact hk.elim; first | omega | (simp at hk; omega))); obtain ⟨A5, n5, rfl, hn5, hr5⟩ := Own.row ho5; clear hr5)
                  refine hKq.out _ _ (by (try dsimp only) <;> (first | (go_keep; done) | exact u1 | exact s1w4 | exact x3 _ | exact x2)) (fun hHeld => ?_)
                  clear hKq Kq
                  (try simp only [List.getElem_toArray, List.getElem_cons_zero, List.getElem_cons_succ, Act.put, List.setIfInBounds_toArray, List.set_cons_zero, List.set_cons_succ])
                  refine wpAnyH_take (i := 12) (v := _) rfl (by kernel_rfl) (by kernel_rfl) (by kernel_rfl) (fun _ _ _ h => h) (Or.inl ⟨by rfl, by (intro w hSw; (try dsimp only at hSw); go_simp <;> with_reducible rfl)⟩) (by assumption) ?_
                  (try simp only [List.getElem_toArray, List.getElem_cons_zero, List.getElem_cons_succ, Act.put, List.setIfInBounds_toArray, List.set_cons_zero, List.set_cons_succ])
                  refine wpAnyH_ready (rs := [13]) (by kernel_rfl) (by simp) ?_
                  refine AllReadyH.cons rfl (fun Kq hKq => ?_) ?_
                  · (try simp only [List.getElem_toArray, List.getElem_cons_zero, List.getElem_cons_succ])
                    refine step_fold (a := ⟨_, _⟩) ?_
                    go_simp
                    refine hKq.out _ _ (by (try dsimp only) <;> (first | (go_keep; done) | exact u1 | exact s1w4 | exact x3 _ | exact x2)) (fun hHeld => ?_)
                    clear hKq Kq
                    (try simp only [List.getElem_toArray, List.getElem_cons_zero, List.getElem_cons_succ, Act.put, List.setIfInBounds_toArray, List.set_cons_zero, List.set_cons_succ])
                    refine wpAnyH_done (by kernel_rfl) ?_ _
                    refine NoPanic.normal ?_
                    go_wp2
                    simp only [List.length_append, List.length_cons, List.length_nil, Nat.zero_add, Nat.reduceAdd] at hB5
                    exact bodyPost_ret (v := .agg #[.slice (some ⟨gc, 0, none⟩) p.cells.length cac, .slice (some ⟨gb, 0, none⟩) (rest.length + 1) cab]) (by simp [results, Try.results78, go_sem, y3, y4, y5]) rfl (BAt.done (BAt.less hB5 (by omega)) _ _)
                  exact AllReadyH.nil
                exact AllReadyH.nil
              exact AllReadyH.nil
            refine AllReadyH.cons rfl (fun Kq hKq => ?_) ?_
            · (try simp only [List.getElem_toArray, List.getElem_cons_zero, List.getElem_cons_succ])
              refine step_fold (a := ⟨_, _⟩) ?_
              go_simp
              refine hKq.out _ _ (by (try dsimp only) <;> (first | (go_keep; done) | exact u1 | exact s1w4 | exact x3 _ | exact x2)) (fun hHeld => ?_)
              clear hKq Kq
              (try simp only [List.getElem_toArray, List.getElem_cons_zero, List.getElem_cons_succ, Act.put, List.setIfInBounds_toArray, List.set_cons_zero, List.set_cons_succ])
              refine wpAnyH_ready (rs := [5]) (by kernel_rfl) (by simp) ?_
              refine AllReadyH.cons rfl (fun Kq hKq => ?_) ?_
              · (try simp only [List.getElem_toArray, List.getElem_cons_zero, List.getElem_cons_succ])
                refine step_fold (a := ⟨_, _⟩) ?_
                go_simp
                refine hKq.out _ _ (by (try dsimp only) <;> (first | (go_keep; done) | exact u1 | exact s1w4 | exact x3 _ | exact x2)) (fun hHeld => ?_)
                clear hKq Kq
                (try simp only [List.getElem_toArray, List.getElem_cons_zero, List.getElem_cons_succ, Act.put, List.setIfInBounds_toArray, List.set_cons_zero, List.set_cons_succ])
                refine wpAnyH_ready (rs := [11]) (by kernel_rfl) (by simp) ?_
                refine AllReadyH.cons rfl (fun Kq hKq => ?_) ?_
                · (try simp only [List.getElem_toArray, List.getElem_cons_zero, List.getElem_cons_succ])
                  refine step_fold (a := ⟨_, _⟩) ?_
                  (refine step_append_kd (d := kAct) (by rfl) _ _ _ (by rfl) Try.underlying32 _ 64 infoAct rfl (by decide) (by decide) (by rfl) (Own.belowAll (BAt.O hB4) (by (repeat' (first | exact Below.refl _ _ | apply Below.drew | (refine bal ?_ _))))) _ _ (by rfl) (Row.one_at (d := kAct) (e := 35) (S := fun _ => False) (x := ⟨4, [], [], t - 1⟩) _ (act_K 4 (t - 1) (by unfold i64; omega) (by unfold i64; omega)) (by simp)) (fun k hk e => BAt.farO hB4 (k := k) (by rcases hk with hk | hk; exact hk.elim; first | omega | (simp at hk; omega)) e) (by have := HA4.out; simp; omega) (by have := (BAt.k hB4).size; simp; omega) ?_; intro v5 w5 ho5 hg5 hv5; obtain ⟨x0, x1, x2, x3⟩ := BAt.appFacts (BAt.below hB4 (by (repeat' (first | exact Below.refl _ _ | apply Below.drew | (refine bal ?_ _))))) hg5; obtain ⟨y1, y2, y3, y4, y5⟩ := BAt.appEnds (BAt.below hB4 (by (repeat' (first | exact Below.refl _ _ | apply Below.drew | (refine bal ?_ _))))) hg5; have hB5 := BAt.app1 (BAt.below hB4 (by (repeat' (first | exact Below.refl _ _ | apply Below.drew | (refine bal ?_ _))))) hg5 hv5 ho5 (fun k hk => BAt.past hB4 (by rcases hk with hk | hk; exact hk.elim; first | omega | (simp at hk; omega))); obtain ⟨A5, n5, rfl, hn5, hr5⟩ := Own.row ho5; clear hr5)
                  refine hKq.out _ _ (by (try dsimp only) <;> (first | (go_keep; done) | exact u1 | exact s1w4 | exact x3 _ | exact x2)) (fun hHeld => ?_)
                  clear hKq Kq
                  (try simp only [List.getElem_toArray, List.getElem_cons_zero, List.getElem_cons_succ, Act.put, List.setIfInBounds_toArray, List.set_cons_zero, List.set_cons_succ])
                  refine wpAnyH_take (i := 12) (v := _) rfl (by kernel_rfl) (by kernel_rfl) (by kernel_rfl) (fun _ _ _ h => h) (Or.inl ⟨by rfl, by (intro w hSw; (try dsimp only at hSw); go_simp <;> with_reducible rfl)⟩) (by assumption) ?_
                  (try simp only [List.getElem_toArray, List.getElem_cons_zero, List.getElem_cons_succ, Act.put, List.setIfInBounds_toArray, List.set_cons_zero, List.set_cons_succ])
                  refine wpAnyH_ready (rs := [13]) (by kernel_rfl) (by simp) ?_
                  refine AllReadyH.cons rfl (fun Kq hKq => ?_) ?_
                  · (try simp only [List.getElem_toArray, List.getElem_cons_zero, List.getElem_cons_succ])
                    refine step_fold (a := ⟨_, _⟩) ?_
                    go_simp
                    refine hKq.out _ _ (by (try dsimp only) <;> (first | (go_keep; done) | exact u1 | exact s1w4 | exact x3 _ | exact x2)) (fun hHeld => ?_)
                    clear hKq Kq
                    (try simp only [List.getElem_toArray, List.getElem_cons_zero, List.getElem_cons_succ, Act.put, List.setIfInBounds_toArray, List.set_cons_zero, List.set_cons_succ])
                    refine wpAnyH_done (by kernel_rfl) ?_ _
                    refine NoPanic.normal ?_
                    go_wp2
                    simp only [List.length_append, List.length_cons, List.length_nil, Nat.zero_add, Nat.reduceAdd] at hB5
                    exact bodyPost_ret (v := .agg #[.slice (some ⟨gc, 0, none⟩) p.cells.length cac, .slice (some ⟨gb, 0, none⟩) (rest.length + 1) cab]) (by simp [results, Try.results78, go_sem, y3, y4, y5]) rfl (BAt.done (BAt.less hB5 (by omega)) _ _)
                  exact AllReadyH.nil
                exact AllReadyH.nil
              exact AllReadyH.nil
            exact AllReadyH.nil
          exact AllReadyH.nil
        · rename_i h0 h1 h2 h3 h4 h5 h6
          clear h0 h1 h2 h3 h4 h5 h6
          have HP3 := Lib.hid hB3
          clear hB3 u1 u2 hbl3 hx1
          go_loopw [7] (fun i wl => ∃ (j : Nat) (v1 : Value) (a1 : List Act), i = .int .i64 j ∧ j ≤ 5 ∧ a1.length ≤ 4 + j ∧ BAt (fun k => S2 k ∨ wo.heap.size ≤ k) wo wl g S A c bs (f + 10) (wo.heap.size + 1) w2.heap.size gb cab (.slice (some ⟨gc, 0, none⟩) p.cells.length cac) v1 p.cells a1 rest) (fun i _ => 5 - (intOf i).toNat)
          case atStart => exact ⟨0, _, a0, rfl, by omega, by have := HA4.out; omega, HP3.out⟩
          case round =>
            obtain ⟨j, v1, a1, rfl, hj, ha1, hB⟩ := hrel
            by_cases hlt : j < 5
            · obtain ⟨A1, n1, hv1, hn1, hr1⟩ := Own.row hB.O
              subst hv1
              have u1 := hB.p1
              have u3 := hB.c0
              have hgl3 := hB.lts.2.2.2.2
              have hbl3 := hB.lts.2.1
              have hltI : (j : Int) < 5 := by omega
              have HB := Lib.hid hB
              have HAL := Lib.hid ha1
              have HJ := Lib.hid hlt
              clear hr1 hB ha1 hj hlt
              go_wp2_with fail
              refine wp_region_noPanic ?_
              refine wp_region_held_drew (S := (fun w' => w'.cell? ⟨w2.heap.size, 1, none⟩ = some (.slice (some ⟨gb, 0, none⟩) (rest.length + 1) cab))) (by kernel_rfl) (by (try dsimp only) <;> (first | (go_keep; done) | exact u1 | exact x3 _ | exact x2)) (fun hHeld => ?_)
              refine wpAnyH_take (i := 0) (v := _) rfl (by kernel_rfl) (by kernel_rfl) (by kernel_rfl) (fun _ _ _ h => h) (Or.inl ⟨by rfl, by (intro w hSw; (try dsimp only at hSw); go_simp <;> with_reducible rfl)⟩) (by assumption) ?_
              (try simp only [List.getElem_toArray, List.getElem_cons_zero, List.getElem_cons_succ, Act.put, List.setIfInBounds_toArray, List.set_cons_zero, List.set_cons_succ])
              refine wpAnyH_take (i := 1) (v := _) rfl (by kernel_rfl) (by kernel_rfl) (by kernel_rfl) (fun _ _ _ h => h) (Or.inl ⟨by rfl, by (intro w hSw; (try dsimp only at hSw); go_simp <;> with_reducible rfl)⟩) (by assumption) ?_
              (try simp only [List.getElem_toArray, List.getElem_cons_zero, List.getElem_cons_succ, Act.put, List.setIfInBounds_toArray, List.set_cons_zero, List.set_cons_succ])
              refine wpAnyH_take (i := 2) (v := _) rfl (by kernel_rfl) (by kernel_rfl) (by kernel_rfl) (fun _ _ _ h => h) (Or.inl ⟨by rfl, by (intro w hSw; (try dsimp only at hSw); go_simp <;> with_reducible rfl)⟩) (by assumption) ?_
              (try simp only [List.getElem_toArray, List.getElem_cons_zero, List.getElem_cons_succ, Act.put, List.setIfInBounds_toArray, List.set_cons_zero, List.set_cons_succ])
              refine wpAnyH_take (i := 3) (v := _) rfl (by kernel_rfl) (by kernel_rfl) (by kernel_rfl) (fun _ _ _ h => h) (Or.inl ⟨by rfl, by (intro w hSw; (try dsimp only at hSw); go_simp <;> with_reducible rfl)⟩) (by assumption) ?_
              (try simp only [List.getElem_toArray, List.getElem_cons_zero, List.getElem_cons_succ, Act.put, List.setIfInBounds_toArray, List.set_cons_zero, List.set_cons_succ])
              refine wpAnyH_take (i := 4) (v := _) rfl (by kernel_rfl) (by kernel_rfl) (by kernel_rfl) (fun _ _ _ h => h) (Or.inl ⟨by rfl, by (intro w hSw; (try dsimp only at hSw); go_simp <;> with_reducible rfl)⟩) (by assumption) ?_
              (try simp only [List.getElem_toArray, List.getElem_cons_zero, List.getElem_cons_succ, Act.put, List.setIfInBounds_toArray, List.set_cons_zero, List.set_cons_succ])
              refine wpAnyH_take (i := 6) (v := _) rfl (by kernel_rfl) (by kernel_rfl) (by kernel_rfl) (fun _ _ _ h => h) (Or.inl ⟨by rfl, by (intro w hSw; (try dsimp only at hSw); go_simp <;> with_reducible rfl)⟩) (by assumption) ?_
              (try simp only [List.getElem_toArray, List.getElem_cons_zero, List.getElem_cons_succ, Act.put, List.setIfInBounds_toArray, List.set_cons_zero, List.set_cons_succ])
              refine wpAnyH_ready (rs := [5, 7]) (by kernel_rfl) (by simp) ?_
              refine AllReadyH.cons rfl (fun Kq hKq => ?_) ?_
              · (try simp only [List.getElem_toArray, List.getElem_cons_zero, List.getElem_cons_succ])
                refine step_fold (a := ⟨_, _⟩) ?_
                go_simp
                refine hKq.out _ _ (by (try dsimp only) <;> (first | (go_keep; done) | exact u1 | exact x3 _ | exact x2)) (fun hHeld => ?_)
                clear hKq Kq
                (try simp only [List.getElem_toArray, List.getElem_cons_zero, List.getElem_cons_succ, Act.put, List.setIfInBounds_toArray, List.set_cons_zero, List.set_cons_succ])
                refine wpAnyH_ready (rs := [7]) (by kernel_rfl) (by simp) ?_
                refine AllReadyH.cons rfl (fun Kq hKq => ?_) ?_
                · (try simp only [List.getElem_toArray, List.getElem_cons_zero, List.getElem_cons_succ])
                  refine step_fold (a := ⟨_, _⟩) ?_
                  go_simp
                  refine hKq.out _ _ (by (try dsimp only) <;> (first | (go_keep; done) | exact u1 | exact x3 _ | exact x2)) (fun hHeld => ?_)
                  clear hKq Kq
                  (try simp only [List.getElem_toArray, List.getElem_cons_zero, List.getElem_cons_succ, Act.put, List.setIfInBounds_toArray, List.set_cons_zero, List.set_cons_succ])
                  refine wpAnyH_ready (rs := [8]) (by kernel_rfl) (by simp) ?_
                  refine AllReadyH.cons rfl (fun Kq hKq => ?_) ?_
                  · (try simp only [List.getElem_toArray, List.getElem_cons_zero, List.getElem_cons_succ])
                    refine step_fold (a := ⟨_, _⟩) ?_
                    first | (refine step_append_kd (d := kAct) (by rfl) _ _ _ (by rfl) Try.underlying32 _ 64 infoAct rfl (by decide) (by decide) (by rfl) (Own.belowAll (BAt.O HB.out) (by (repeat' (first | exact Below.refl _ _ | apply Below.drew | (refine bal ?_ _))))) _ _ (by rfl) (Row.one_at (d := kAct) (e := 35) (S := fun _ => False) (x := ⟨3, [], [], 0⟩) _ (act_K 3 0 (by unfold i64; omega) (by unfold i64; omega)) (by simp)) (fun k hk e => BAt.farO HB.out (k := k) (by rcases hk with hk | hk; exact hk.elim; first | omega | (simp at hk; omega)) e) (by have := HAL.out; have := HJ.out; simp; omega) (by have := (BAt.k HB.out).size; simp; omega) ?_; intro v5 w5 ho5 hg5 hv5; obtain ⟨x0, x1, x2, x3⟩ := BAt.appFacts (BAt.below HB.out (by (repeat' (first | exact Below.refl _ _ | apply Below.drew | (refine bal ?_ _))))) hg5; obtain ⟨y1, y2, y3, y4, y5⟩ := BAt.appEnds (BAt.below HB.out (by (repeat' (first | exact Below.refl _ _ | apply Below.drew | (refine bal ?_ _))))) hg5; have hB5 := BAt.app1 (BAt.below HB.out (by (repeat' (first | exact Below.refl _ _ | apply Below.drew | (refine bal ?_ _))))) hg5 hv5 ho5 (fun k hk => BAt.past HB.out (by rcases hk with hk | hk; exact hk.elim; first | omega | (simp at hk; omega))); obtain ⟨A5, n5, rfl, hn5, hr5⟩ := Own.row ho5; clear hr5) | (refine step_append_kd (d := kAct) (by rfl) _ _ _ (by rfl) Try.underlying32 _ 64 infoAct rfl (by decide) (by decide) (by rfl) (Own.belowAll (BAt.O HB.out) (by (repeat' (first | exact Below.refl _ _ | apply Below.drew | (refine bal ?_ _))))) _ _ (by rfl) (Row.drew1 (Row.one_at (d := kAct) (e := 35) (S := fun _ => False) (x := ⟨3, [], [], 0⟩) _ (act_K 3 0 (by unfold i64; omega) (by unfold i64; omega)) (by simp))) (fun k hk e => BAt.farO HB.out (k := k) (by rcases hk with hk | hk; exact hk.elim; first | omega | (simp at hk; omega)) e) (by have := HAL.out; have := HJ.out; simp; omega) (by have := (BAt.k HB.out).size; simp; omega) ?_; intro v5 w5 ho5 hg5 hv5; obtain ⟨x0, x1, x2, x3⟩ := BAt.appFacts (BAt.below HB.out (by (repeat' (first | exact Below.refl _ _ | apply Below.drew | (refine bal ?_ _))))) hg5; obtain ⟨y1, y2, y3, y4, y5⟩ := BAt.appEnds (BAt.below HB.out (by (repeat' (first | exact Below.refl _ _ | apply Below.drew | (refine bal ?_ _))))) hg5; have hB5 := BAt.app1 (BAt.below HB.out (by (repeat' (first | exact Below.refl _ _ | apply Below.drew | (refine bal ?_ _))))) hg5 hv5 ho5 (fun k hk => BAt.past HB.out (by rcases hk with hk | hk; exact hk.elim; first | omega | (simp at hk; omega))); obtain ⟨A5, n5, rfl, hn5, hr5⟩ := Own.row ho5; clear hr5)
                    refine hKq.out _ _ (by (try dsimp only) <;> (first | (go_keep; done) | exact u1 | exact x3 _ | exact x2)) (fun hHeld => ?_)
                    clear hKq Kq
                    (try simp only [List.getElem_toArray, List.getElem_cons_zero, List.getElem_cons_succ, Act.put, List.setIfInBounds_toArray, List.set_cons_zero, List.set_cons_succ])
                    refine wpAnyH_take (i := 9) (v := _) rfl (by kernel_rfl) (by kernel_rfl) (by kernel_rfl) (fun _ _ _ h => h) (Or.inl ⟨by rfl, by (intro w hSw; (try dsimp only at hSw); go_simp <;> with_reducible rfl)⟩) (by assumption) ?_
                    (try simp only [List.getElem_toArray, List.getElem_cons_zero, List.getElem_cons_succ, Act.put, List.setIfInBounds_toArray, List.set_cons_zero, List.set_cons_succ])
                    refine wpAnyH_ready (rs := [10]) (by kernel_rfl) (by simp) ?_
                    refine AllReadyH.cons rfl (fun Kq hKq => ?_) ?_
                    · (try simp only [List.getElem_toArray, List.getElem_cons_zero, List.getElem_cons_succ])
                      refine step_fold (a := ⟨_, _⟩) ?_
                      go_simp
                      refine hKq.out _ _ (by (try dsimp only) <;> (first | (go_keep; done) | exact u1 | exact x3 _ | exact x2)) (fun hHeld => ?_)
                      clear hKq Kq
                      (try simp only [List.getElem_toArray, List.getElem_cons_zero, List.getElem_cons_succ, Act.put, List.setIfInBounds_toArray, List.set_cons_zero, List.set_cons_succ])
                      refine wpAnyH_done (by kernel_rfl) ?_ _
                      refine NoPanic.normal ?_
                      go_wp2
                      simp only [List.length_append, List.length_cons, List.length_nil, Nat.zero_add, Nat.reduceAdd] at hB5
                      exact ⟨⟨j + 1, _, _, by go_num, by have := HJ.out; omega, by have := HAL.out; simp; omega, hB5⟩, by have := HJ.out; simp [intOf]; omega⟩
                    exact AllReadyH.nil
                  exact AllReadyH.nil
                exact AllReadyH.nil
              refine AllReadyH.cons rfl (fun Kq hKq => ?_) ?_
              · (try simp only [List.getElem_toArray, List.getElem_cons_zero, List.getElem_cons_succ])
                refine step_fold (a := ⟨_, _⟩) ?_
                go_simp
                refine hKq.out _ _ (by (try dsimp only) <;> (first | (go_keep; done) | exact u1 | exact x3 _ | exact x2)) (fun hHeld => ?_)
                clear hKq Kq
                (try simp only [List.getElem_toArray, List.getElem_cons_zero, List.getElem_cons_succ, Act.put, List.setIfInBounds_toArray, List.set_cons_zero, List.set_cons_succ])
                refine wpAnyH_ready (rs := [5]) (by kernel_rfl) (by simp) ?_
                refine AllReadyH.cons rfl (fun Kq hKq => ?_) ?_
                · (try simp only [List.getElem_toArray, List.getElem_cons_zero, List.getElem_cons_succ])
                  refine step_fold (a := ⟨_, _⟩) ?_
                  go_simp
                  refine hKq.out _ _ (by (try dsimp only) <;> (first | (go_keep; done) | exact u1 | exact x3 _ | exact x2)) (fun hHeld => ?_)
                  clear hKq Kq
                  (try simp only [List.getElem_toArray, List.getElem_cons_zero, List.getElem_cons_succ, Act.put, List.setIfInBounds_toArray, List.set_cons_zero, List.set_cons_succ])
                  refine wpAnyH_ready (rs := [8]) (by kernel_rfl) (by simp) ?_
                  refine AllReadyH.cons rfl (fun Kq hKq => ?_) ?_
                  · (try simp only [List.getElem_toArray, List.getElem_cons_zero, List.getElem_cons_succ])
                    refine step_fold (a := ⟨_, _⟩) ?_
                    first | (refine step_append_kd (d := kAct) (by rfl) _ _ _ (by rfl) Try.underlying32 _ 64 infoAct rfl (by decide) (by decide) (by rfl) (Own.belowAll (BAt.O HB.out) (by (repeat' (first | exact Below.refl _ _ | apply Below.drew | (refine bal ?_ _))))) _ _ (by rfl) (Row.one_at (d := kAct) (e := 35) (S := fun _ => False) (x := ⟨3, [], [], 0⟩) _ (act_K 3 0 (by unfold i64; omega) (by unfold i64; omega)) (by simp)) (fun k hk e => BAt.farO HB.out (k := k) (by rcases hk with hk | hk; exact hk.elim; first | omega | (simp at hk; omega)) e) (by have := HAL.out; have := HJ.out; simp; omega) (by have := (BAt.k HB.out).size; simp; omega) ?_; intro v5 w5 ho5 hg5 hv5; obtain ⟨x0, x1, x2, x3⟩ := BAt.appFacts (BAt.below HB.out (by (repeat' (first | exact Below.refl _ _ | apply Below.drew | (refine bal ?_ _))))) hg5; obtain ⟨y1, y2, y3, y4, y5⟩ := BAt.appEnds (BAt.below HB.out (by (repeat' (first | exact Below.refl _ _ | apply Below.drew | (refine bal ?_ _))))) hg5; have hB5 := BAt.app1 (BAt.below HB.out (by (repeat' (first | exact Below.refl _ _ | apply Below.drew | (refine bal ?_ _))))) hg5 hv5 ho5 (fun k hk => BAt.past HB.out (by rcases hk with hk | hk; exact hk.elim; first | omega | (simp at hk; omega))); obtain ⟨A5, n5, rfl, hn5, hr5⟩ := Own.row ho5; clear hr5) | (refine step_append_kd (d := kAct) (by rfl) _ _ _ (by rfl) Try.underlying32 _ 64 infoAct rfl (by decide) (by decide) (by rfl) (Own.belowAll (BAt.O HB.out) (by (repeat' (first | exact Below.refl _ _ | apply Below.drew | (refine bal ?_ _))))) _ _ (by rfl) (Row.drew1 (Row.one_at (d := kAct) (e := 35) (S := fun _ => False) (x := ⟨3, [], [], 0⟩) _ (act_K 3 0 (by unfold i64; omega) (by unfold i64; omega)) (by simp))) (fun k hk e => BAt.farO HB.out (k := k) (by rcases hk with hk | hk; exact hk.elim; first | omega | (simp at hk; omega)) e) (by have := HAL.out; have := HJ.out; simp; omega) (by have := (BAt.k HB.out).size; simp; omega) ?_; intro v5 w5 ho5 hg5 hv5; obtain ⟨x0, x1, x2, x3⟩ := BAt.appFacts (BAt.below HB.out (by (repeat' (first | exact Below.refl _ _ | apply Below.drew | (refine bal ?_ _))))) hg5; obtain ⟨y1, y2, y3, y4, y5⟩ := BAt.appEnds (BAt.below HB.out (by (repeat' (first | exact Below.refl _ _ | apply Below.drew | (refine bal ?_ _))))) hg5; have hB5 := BAt.app1 (BAt.below HB.out (by (repeat' (first | exact Below.refl _ _ | apply Below.drew | (refine bal ?_ _))))) hg5 hv5 ho5 (fun k hk => BAt.past HB.out (by rcases hk with hk | hk; exact hk.elim; first | omega | (simp at hk; omega))); obtain ⟨A5, n5, rfl, hn5, hr5⟩ := Own.row ho5; clear hr5)
                    refine hKq.out _ _ (by (try dsimp only) <;> (first | (go_keep; done) | exact u1 | exact x3 _ | exact x2)) (fun hHeld => ?_)
                    clear hKq Kq
                    (try simp only [List.getElem_toArray, List.getElem_cons_zero, List.getElem_cons_succ, Act.put, List.setIfInBounds_toArray, List.set_cons_zero, List.set_cons_succ])
                    refine wpAnyH_take (i := 9) (v := _) rfl (by kernel_rfl) (by kernel_rfl) (by kernel_rfl) (fun _ _ _ h => h) (Or.inl ⟨by rfl, by (intro w hSw; (try dsimp only at hSw); go_simp <;> with_reducible rfl)⟩) (by assumption) ?_
                    (try simp only [List.getElem_toArray, List.getElem_cons_zero, List.getElem_cons_succ, Act.put, List.setIfInBounds_toArray, List.set_cons_zero, List.set_cons_succ])
                    refine wpAnyH_ready (rs := [10]) (by kernel_rfl) (by simp) ?_
                    refine AllReadyH.cons rfl (fun Kq hKq => ?_) ?_
                    · (try simp only [List.getElem_toArray, List.getElem_cons_zero, List.getElem_cons_succ])
                      refine step_fold (a := ⟨_, _⟩) ?_
                      go_simp
                      refine hKq.out _ _ (by (try dsimp only) <;> (first | (go_keep; done) | exact u1 | exact x3 _ | exact x2)) (fun hHeld => ?_)
                      clear hKq Kq
                      (try simp only [List.getElem_toArray, List.getElem_cons_zero, List.getElem_cons_succ, Act.put, List.setIfInBounds_toArray, List.set_cons_zero, List.set_cons_succ])
                      refine wpAnyH_done (by kernel_rfl) ?_ _
                      refine NoPanic.normal ?_
                      go_wp2
                      simp only [List.length_append, List.length_cons, List.length_nil, Nat.zero_add, Nat.reduceAdd] at hB5
                      exact ⟨⟨j + 1, _, _, by go_num, by have := HJ.out; omega, by have := HAL.out; simp; omega, hB5⟩, by have := HJ.out; simp [intOf]; omega⟩
                    exact AllReadyH.nil
                  exact AllReadyH.nil
                exact AllReadyH.nil
              exact AllReadyH.nil
            · obtain rfl : j = 5 := by omega
              obtain ⟨e1, e2, e3, e4, e5⟩ := hB.ends
              obtain ⟨A1, n1, hv1, hn1, hr1⟩ := Own.row hB.O
              subst hv1
              go_wp2
              exact bodyPost_ret (v := .agg #[.slice (some ⟨gc, 0, none⟩) p.cells.length cac, .slice (some ⟨gb, 0, none⟩) (rest.length + 1) cab]) (by simp [results, Try.results78, go_sem, e3, e4, e5]) rfl (BAt.done (BAt.less hB (by omega)) _ _)
end Go.Proofs.Ytcpabkfoalhldaa
