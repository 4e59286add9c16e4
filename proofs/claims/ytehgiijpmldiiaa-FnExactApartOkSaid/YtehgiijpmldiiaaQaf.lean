/- The program: whether tasks that are begun together are apart. The reference: whether two bodies are apart, whether a program's are; which cells a body touches. The reference: whether tasks of a program are apart. The program: whether tasks of a program are apart. FnExactApartOk: the walk of the law. -/
import Derived.Deep.RegionHeld3
import Derived.Deep.DrawnRows
import Derived.Test.YtehgiijpmldiiaaQae
namespace Go.Proofs.Ytehgiijpmldiiaa
open Go.RowKit
set_option linter.unusedVariables false
set_option linter.unusedSimpArgs false

def pairOk (p : Prog) (a b : Nat) : Bool := !(storesTo p a b || storesTo p b a)
def kidsApart (p : Prog) : List Int → Bool
  | [a, b] => pairOk p a.toNat b.toNat
  | _ => true

set_option maxHeartbeats 4000000 in
set_option maxRecDepth 100000 in
theorem kidsApart_two (p : Prog) (hf : formOk p = true) (x y : Nat) (hx : x < p.bodies.length) (hy : y < p.bodies.length) (A B E : Option Addr) (ca cb ce : Nat) (hce : 2 ≤ ce) (w : World) (S S2 : Nat → Prop) (hB : Row (Kd.slice kAct) w S B p.bodies) (hE : Row Kd.int w S2 E [(x : Int), (y : Int)]) :
    Calls Try.prog 42 #[.agg #[.slice A p.cells.length ca, .slice B p.bodies.length cb], .slice E 2 ce] w fun e w' => e = .returned (.bool (pairOk p x y)) ∧ Below w.heap.size w w' := by
  have hlen := formOk_len hf
  have HF := Lib.hid hf
  obtain ⟨W2, HW⟩ : ∃ W2, W2 = w.alloc (Obj.cells #[.slice A p.cells.length ca, .slice B p.bodies.length cb] 26) := ⟨_, rfl⟩
  have hb2 : Below w.heap.size w W2 := by rw [HW]; exact bal' _ _
  have hz2 : W2.heap.size = w.heap.size + 1 := by rw [HW]; simp
  have c0 : W2.cell? ⟨w.heap.size, 0, none⟩ = some (.slice A p.cells.length ca) := by rw [HW]; simp [go_sem]
  have c1 : W2.cell? ⟨w.heap.size, 1, none⟩ = some (.slice B p.bodies.length cb) := by rw [HW]; simp [go_sem]
  have hB2 := hB.belowAll hb2
  have hE2 := hE.belowAll hb2
  have HZ := Lib.hid hz2
  have HW' := Lib.hid HW
  clear hz2 hB HW hE
  rcases Nat.eq_or_lt_of_le hce with hce2 | hce2
  · subst hce2
    go_enter Try.func42, Try.ntmps42
    go_wp2
    rw [← HW'.out]
    go_loopw [11] (fun i wr => ∃ j : Int, (j = 0 ∨ j = 1 ∧ Hid (pairOk p x y = true) ∨ j = 2 ∧ Hid (pairOk p x y = true)) ∧ i = .int .i64 j ∧ Below W2.heap.size W2 wr) (fun i _ => 2 - (intOf i).toNat)
    case atStart => exact ⟨0, .inl rfl, rfl, Below.refl _ _⟩
    case round =>
      obtain ⟨j, hj, rfl, hbr⟩ := hrel
      clear HW'
      obtain ⟨ad, rfl, hl4, hc4, hi4⟩ := at_int (hE2.belowAll hbr) (j := 0) (by simp)
      obtain ⟨ad', e4, hl5, hc5, hi5⟩ := at_int (hE2.belowAll hbr) (j := 1) (by simp)
      injection e4 with e4
      subst e4
      simp only [List.getElem_cons_zero, List.getElem_cons_succ] at hc4 hc5
      have hc4' : wr.cell? ad = some (.int .i64 (x : Int)) := (show ad.add 0 = ad by simp [Addr.add]) ▸ hc4
      have hc5' : wr.cell? ⟨ad.block, ad.off + 1, none⟩ = some (.int .i64 (y : Int)) := (show ad.add 1 = ⟨ad.block, ad.off + 1, none⟩ by simp [Addr.add]) ▸ hc5
      clear hc4 hc5
      rcases hj with rfl | ⟨rfl, HP⟩ | ⟨rfl, HP⟩
      · go_wp2
        obtain ⟨w0, rfl⟩ : ∃ w0 : World, w0 = wr := ⟨_, rfl⟩
        go_loopw [21] (fun i wr => ∃ q : Int, (q = 0 ∨ q = 1 ∧ Hid (pairOk p x y = true)) ∧ i = .int .i64 q ∧ Below w0.heap.size w0 wr) (fun i _ => 1 - (intOf i).toNat)
        case atStart => exact ⟨0, .inl rfl, rfl, Below.refl _ _⟩
        case round =>
          obtain ⟨q, hq, rfl, hbq⟩ := hrel
          have hbx : Below W2.heap.size W2 wr := below_then hbr hbr.size hbq
          rcases hq with rfl | ⟨rfl, HQ⟩
          · have c0q := (hbx.cell (p := ⟨w.heap.size, 0, none⟩) (by rw [HZ.out]; simp)).trans c0
            have c1q := (hbx.cell (p := ⟨w.heap.size, 1, none⟩) (by rw [HZ.out]; simp)).trans c1
            have hcq := (hbq.cell (p := ⟨ad.block, ad.off + 1, none⟩) hl5).trans hc5'
            have hBq := hB2.belowAll hbx
            have hend : pairOk p x y = !(storesTo p x y || storesTo p y x) := rfl
            clear hc4' hc5'
            cases h1 : storesTo p x y <;> cases h2 : storesTo p y x
            all_goals
              rw [h1, h2] at hend
              have HM := Lib.hid (And.intro h1 h2)
              have HE := Lib.hid hend
              have tok1 : True := trivial
              clear h1 h2 hend
              go_wp2_with (first
                | (go_at_call 73; have _t := tok1; refine (storesTo_calls p HF.out x y hx hy _ _ _ _ _ S hBq).mono ?_; rintro e w3 ⟨rfl, hb3⟩; rw [HM.out.1]; have hb3x := below_then hbq hbq.size hb3; have d0 := (hb3.cell (p := ⟨w.heap.size, 0, none⟩) (by have := hbx.size; have := HZ.out; simp; omega)).trans c0q; have d1 := (hb3.cell (p := ⟨w.heap.size, 1, none⟩) (by have := hbx.size; have := HZ.out; simp; omega)).trans c1q; clear tok1) | (go_at_call 73; refine (storesTo_calls p HF.out y x hy hx _ _ _ _ _ S (hBq.belowAll hb3)).mono ?_; rintro e w4 ⟨rfl, hb4⟩; rw [HM.out.2]; have hb4x := below_then hb3x hb3x.size hb4))
            · go_roundw
              case rel => exact ⟨1, .inr ⟨rfl, by unfold Hid; rw [HE.out]; rfl⟩, rfl, by assumption⟩
              case measure => simp [intOf]
            all_goals
              go_ret
              exact ⟨ret_bool (by rw [HE.out]; rfl), hb2.trans ((below_then hbr hbr.size (by assumption)).mono (by rw [HZ.out]; omega))⟩
          · go_wp2
            go_roundw
            case rel => exact ⟨1, .inr (.inl ⟨rfl, HQ⟩), rfl, hbx⟩
            case measure => simp [intOf]
      · go_wp2
        all_goals
          obtain ⟨w0, rfl⟩ : ∃ w0 : World, w0 = wr := ⟨_, rfl⟩
          go_loopw [21] (fun i wr => i = .int .i64 0 ∧ Below w0.heap.size w0 wr) (fun i _ => 0)
          case atStart => exact ⟨rfl, Below.refl _ _⟩
          case round =>
            obtain ⟨rfl, hbq⟩ := hrel
            have hbx : Below W2.heap.size W2 wr := below_then hbr hbr.size hbq
            go_wp2
            go_roundw
            case rel => exact ⟨2, .inr (.inr ⟨rfl, HP⟩), rfl, hbx⟩
            case measure => simp [intOf]
      · go_wp2
        go_ret
        exact ⟨ret_bool HP.out.symm, hb2.trans (hbr.mono (by rw [HZ.out]; omega))⟩
  · go_enter Try.func42, Try.ntmps42
    go_wp2
    rw [← HW'.out]
    go_loopw [11] (fun i wr => ∃ j : Int, (j = 0 ∨ j = 1 ∧ Hid (pairOk p x y = true) ∨ j = 2 ∧ Hid (pairOk p x y = true)) ∧ i = .int .i64 j ∧ Below W2.heap.size W2 wr) (fun i _ => 2 - (intOf i).toNat)
    case atStart => exact ⟨0, .inl rfl, rfl, Below.refl _ _⟩
    case round =>
      obtain ⟨j, hj, rfl, hbr⟩ := hrel
      clear HW'
      obtain ⟨ad, rfl, hl4, hc4, hi4⟩ := at_int (hE2.belowAll hbr) (j := 0) (by simp)
      obtain ⟨ad', e4, hl5, hc5, hi5⟩ := at_int (hE2.belowAll hbr) (j := 1) (by simp)
      injection e4 with e4
      subst e4
      simp only [List.getElem_cons_zero, List.getElem_cons_succ] at hc4 hc5
      have hc4' : wr.cell? ad = some (.int .i64 (x : Int)) := (show ad.add 0 = ad by simp [Addr.add]) ▸ hc4
      have hc5' : wr.cell? ⟨ad.block, ad.off + 1, none⟩ = some (.int .i64 (y : Int)) := (show ad.add 1 = ⟨ad.block, ad.off + 1, none⟩ by simp [Addr.add]) ▸ hc5
      clear hc4 hc5
      rcases hj with rfl | ⟨rfl, HP⟩ | ⟨rfl, HP⟩
      · go_wp2
        obtain ⟨w0, rfl⟩ : ∃ w0 : World, w0 = wr := ⟨_, rfl⟩
        go_loopw [21] (fun i wr => ∃ q : Int, (q = 0 ∨ q = 1 ∧ Hid (pairOk p x y = true)) ∧ i = .int .i64 q ∧ Below w0.heap.size w0 wr) (fun i _ => 1 - (intOf i).toNat)
        case atStart => exact ⟨0, .inl rfl, rfl, Below.refl _ _⟩
        case round =>
          obtain ⟨q, hq, rfl, hbq⟩ := hrel
          have hbx : Below W2.heap.size W2 wr := below_then hbr hbr.size hbq
          rcases hq with rfl | ⟨rfl, HQ⟩
          · have c0q := (hbx.cell (p := ⟨w.heap.size, 0, none⟩) (by rw [HZ.out]; simp)).trans c0
            have c1q := (hbx.cell (p := ⟨w.heap.size, 1, none⟩) (by rw [HZ.out]; simp)).trans c1
            have hcq := (hbq.cell (p := ⟨ad.block, ad.off + 1, none⟩) hl5).trans hc5'
            have hBq := hB2.belowAll hbx
            have hend : pairOk p x y = !(storesTo p x y || storesTo p y x) := rfl
            clear hc4' hc5'
            cases h1 : storesTo p x y <;> cases h2 : storesTo p y x
            all_goals
              rw [h1, h2] at hend
              have HM := Lib.hid (And.intro h1 h2)
              have HE := Lib.hid hend
              have tok1 : True := trivial
              clear h1 h2 hend
              go_wp2_with (first
                | (go_at_call 73; have _t := tok1; refine (storesTo_calls p HF.out x y hx hy _ _ _ _ _ S hBq).mono ?_; rintro e w3 ⟨rfl, hb3⟩; rw [HM.out.1]; have hb3x := below_then hbq hbq.size hb3; have d0 := (hb3.cell (p := ⟨w.heap.size, 0, none⟩) (by have := hbx.size; have := HZ.out; simp; omega)).trans c0q; have d1 := (hb3.cell (p := ⟨w.heap.size, 1, none⟩) (by have := hbx.size; have := HZ.out; simp; omega)).trans c1q; clear tok1) | (go_at_call 73; refine (storesTo_calls p HF.out y x hy hx _ _ _ _ _ S (hBq.belowAll hb3)).mono ?_; rintro e w4 ⟨rfl, hb4⟩; rw [HM.out.2]; have hb4x := below_then hb3x hb3x.size hb4))
            · go_roundw
              case rel => exact ⟨1, .inr ⟨rfl, by unfold Hid; rw [HE.out]; rfl⟩, rfl, by assumption⟩
              case measure => simp [intOf]
            all_goals
              go_ret
              exact ⟨ret_bool (by rw [HE.out]; rfl), hb2.trans ((below_then hbr hbr.size (by assumption)).mono (by rw [HZ.out]; omega))⟩
          · go_wp2
            go_roundw
            case rel => exact ⟨1, .inr (.inl ⟨rfl, HQ⟩), rfl, hbx⟩
            case measure => simp [intOf]
      · go_wp2
        all_goals
          obtain ⟨w0, rfl⟩ : ∃ w0 : World, w0 = wr := ⟨_, rfl⟩
          go_loopw [21] (fun i wr => i = .int .i64 0 ∧ Below w0.heap.size w0 wr) (fun i _ => 0)
          case atStart => exact ⟨rfl, Below.refl _ _⟩
          case round =>
            obtain ⟨rfl, hbq⟩ := hrel
            have hbx : Below W2.heap.size W2 wr := below_then hbr hbr.size hbq
            go_wp2
            go_roundw
            case rel => exact ⟨2, .inr (.inr ⟨rfl, HP⟩), rfl, hbx⟩
            case measure => simp [intOf]
      · go_wp2
        go_ret
        exact ⟨ret_bool HP.out.symm, hb2.trans (hbr.mono (by rw [HZ.out]; omega))⟩
end Go.Proofs.Ytehgiijpmldiiaa
namespace Go.Proofs.Ytehgiijpmldiiaa
open Go.RowKit
set_option linter.unusedVariables false
set_option linter.unusedSimpArgs false

theorem touched_eq (f : List Deed → List Int) (p : Prog) (b : Nat) : touched f p b = setsOf f 4 p b := (setsOf_eq f 4 p b).symm

set_option maxHeartbeats 8000000 in
set_option maxRecDepth 100000 in
theorem l23Apart_calls (p : Prog) (hf : formOk p = true) (a b : Nat) (ha : a < p.bodies.length) (hb : b < p.bodies.length) (A B : Option Addr) (ca cb : Nat) (w : World) (S : Nat → Prop) (hB : Row (Kd.slice kAct) w S B p.bodies) :
    Calls Try.prog 41 #[.agg #[.slice A p.cells.length ca, .slice B p.bodies.length cb], .int .i64 (a : Nat), .int .i64 (b : Nat)] w fun e w' => e = .returned (.bool (apart2 p a b)) ∧ Below w.heap.size w w' := by
  have hlen := formOk_len hf
  have hc := fun f => l23Sets_calls p hf 4 (Nat.le_refl _) f
  have hB1 := fun o => hB.belowAll (bal' w o)
  have hend : apart2 p a b = (!meets (setsOf chWrites 4 p a) (setsOf chWrites 4 p b) && !meets (setsOf chWrites 4 p a) (setsOf chReads 4 p b) && !meets (setsOf chReads 4 p a) (setsOf chWrites 4 p b)) := by
    simp only [apart2, touched_eq]
  have HC := Lib.hid hc
  clear hc
  cases h1 : meets (setsOf chWrites 4 p a) (setsOf chWrites 4 p b) <;> cases h2 : meets (setsOf chWrites 4 p a) (setsOf chReads 4 p b) <;> cases h3 : meets (setsOf chReads 4 p a) (setsOf chWrites 4 p b)
  all_goals
    rw [h1, h2, h3] at hend
    have HM := Lib.hid (And.intro h1 (And.intro h2 h3))
    have HEND := Lib.hid hend
    clear h1 h2 h3 hend
    have tok1 : True := trivial
    go_enter Try.func41, Try.ntmps41
    go_wp2_with (first
      | (go_at_call 71; have _t := tok1; refine (HC.out a ha (by omega) _ _ _ _ _ S (hB1 _)).mono ?_; rintro e w1 ⟨v, u, rfl, hv, hu, hb1⟩; have hbw1 := (bal' w _).trans (hb1.mono (by simp)); have hc1 := hb1.cell (p := ⟨w.heap.size, 0, none⟩) (by simp); have hc2 := hb1.cell (p := ⟨w.heap.size, 1, none⟩) (by simp); simp [go_sem] at hc1 hc2; obtain ⟨A1, n1, rfl, _, hr1⟩ := OwnI.row hv; obtain ⟨A2, n2, rfl, _, hr2⟩ := OwnI.row hu; clear tok1) | (go_at_call 71; refine (HC.out b hb (by omega) _ _ _ _ _ S (hB.belowAll hbw1)).mono ?_; rintro e w2 ⟨v', u', rfl, hv', hu', hb2⟩; have hr3 := hr1.belowAll hb2; have hr4 := hr2.belowAll hb2; obtain ⟨A3, n3, rfl, _, hr5⟩ := OwnI.row hv'; obtain ⟨A4, n4, rfl, _, hr6⟩ := OwnI.row hu'; have hbw2 := hbw1.trans (hb2.mono hbw1.size); have tok2 : True := trivial) | (go_at_call 72; have _t := tok2; refine (l23Meet_calls _ _ _ _ _ _ _ _ _ hr4 hr6).mono ?_; rintro e w3 ⟨rfl, hb3⟩; rw [HM.out.1]; have hr7 := hr4.belowAll hb3; have hr8 := hr5.belowAll hb3; have hr9 := hr3.belowAll hb3; have hr10 := hr6.belowAll hb3; have hbw3 := hbw2.trans (hb3.mono hbw2.size); have tok3 : True := trivial; clear tok2) | (go_at_call 72; have _t := tok3; refine (l23Meet_calls _ _ _ _ _ _ _ _ _ hr7 hr8).mono ?_; rintro e w4 ⟨rfl, hb4⟩; rw [HM.out.2.1]; have hr11 := hr9.belowAll hb4; have hr12 := hr10.belowAll hb4; have hbw4 := hbw3.trans (hb4.mono hbw3.size); have tok4 : True := trivial; clear tok3) | (go_at_call 72; have _t := tok4; refine (l23Meet_calls _ _ _ _ _ _ _ _ _ hr11 hr12).mono ?_; rintro e w5 ⟨rfl, hb5⟩; rw [HM.out.2.2]; have hbw5 := hbw4.trans (hb5.mono hbw4.size)))
    go_ret
    exact ⟨ret_bool HEND.out.symm, by assumption⟩
end Go.Proofs.Ytehgiijpmldiiaa
namespace Go.Proofs.Ytehgiijpmldiiaa
open Go.RowKit
set_option linter.unusedVariables false
set_option linter.unusedSimpArgs false
attribute [local go_sem ↓] Go.wp_at_zero Go.wp_at_succ

theorem apartKids_two (p : Prog) {l : List Int} (h : l.length = 2) : apartKids p l = apart2 p (l[0]'(by omega)).toNat (l[1]'(by omega)).toNat := by
  match l, h with
  | [a, b], _ => rfl
theorem apartKids_not (p : Prog) {l : List Int} (h : l.length ≠ 2) : apartKids p l = true := by
  match l, h with
  | [], _ => rfl
  | [_], _ => rfl
  | [_, _], h => exact absurd rfl h
  | _ :: _ :: _ :: _, _ => rfl
def actsApart (p : Prog) (acts : List Act) : Bool := acts.all fun a => apartKids p a.kids
theorem apartOk_eq (p : Prog) : apartOk p = (progOk p && p.bodies.all (actsApart p)) := rfl

set_option maxHeartbeats 8000000 in
set_option maxRecDepth 100000 in
theorem specApartOk_calls (p : Prog) (A B : Option Addr) (ca cb : Nat) (w : World) (S : Nat → Prop) (hA : Row Kd.int w S A p.cells) (hB : Row (Kd.slice kAct) w S B p.bodies) :
    Calls Try.prog 18 #[.agg #[.slice A p.cells.length ca, .slice B p.bodies.length cb]] w fun e w' => e = .returned (.bool (apartOk p)) ∧ Below w.heap.size w w' := by
  have hA1 := fun o => hA.belowAll (bal' w o)
  have hB1 := fun o => hB.belowAll (bal' w o)
  cases hp : progOk p
  · have HP := Lib.hid hp
    clear hp
    go_enter Try.func18, Try.ntmps18
    go_wp2_with (go_at_call 30; refine (specProgOk_calls p _ _ _ _ _ S (hA1 _) (hB1 _)).mono ?_; rintro e w1 ⟨rfl, hb2⟩; rw [HP.out])
    go_ret
    exact ⟨by rw [apartOk_eq, HP.out]; rfl, (bal' w _).trans (hb2.mono (by simp))⟩
  · have hf : formOk p = true := by simp only [progOk, Bool.and_eq_true] at hp; exact hp.1
    have hlen := formOk_len hf
    have HP := Lib.hid hp
    have HF := Lib.hid hf
    have hm2 := hB.1
    clear hp hf
    go_enter Try.func18, Try.ntmps18
    go_wp2_with (go_at_call 30; refine (specProgOk_calls p _ _ _ _ _ S (hA1 _) (hB1 _)).mono ?_; rintro e w1 ⟨rfl, hb2⟩; rw [HP.out]; have hbw := (bal' w _).trans (hb2.mono (by simp)); have c0 := hb2.cell (p := ⟨w.heap.size, 0, none⟩) (by simp); have c1 := hb2.cell (p := ⟨w.heap.size, 1, none⟩) (by simp); simp [go_sem] at c0 c1)
    have hzz : w.heap.size < w1.heap.size := by have := hb2.size; simp at this; omega
    have hBw := hB.belowAll hbw
    clear hb2 hA1 hB1 hA hB
    go_loopw [3, 4, 5] (fun i _ _ wr => ∃ j : Nat, j ≤ p.bodies.length ∧ i = .int .i64 j ∧ Hid ((p.bodies.take j).all (actsApart p) = true) ∧ Below w1.heap.size w1 wr) (fun i _ _ _ => p.bodies.length - (intOf i).toNat)
    case atStart => exact ⟨0, Nat.zero_le _, rfl, by simp [Hid], Below.refl _ _⟩
    case round =>
      obtain ⟨j, hj, rfl, HA, hbr⟩ := hrel
      have c0r := (hbr.cell (p := ⟨w.heap.size, 0, none⟩) hzz).trans c0
      have c1r := (hbr.cell (p := ⟨w.heap.size, 1, none⟩) hzz).trans c1
      by_cases hlt : j < p.bodies.length
      · obtain ⟨ad, C, cc, rfl, hl, hc, hcl, hC⟩ := at_slice (hBw.belowAll hbr) hlt
        have hma := hC.1
        go_wp2
        obtain ⟨w0, rfl⟩ : ∃ w0 : World, w0 = wr := ⟨_, rfl⟩
        go_loopw [4, 5] (fun i _ wr => ∃ k : Nat, k ≤ p.bodies[j].length ∧ i = .int .i64 k ∧ Hid ((p.bodies[j].take k).all (fun a => apartKids p a.kids) = true) ∧ Below w0.heap.size w0 wr) (fun i _ _ => p.bodies[j].length - (intOf i).toNat)
        case atStart => exact ⟨0, Nat.zero_le _, rfl, by simp [Hid], Below.refl _ _⟩
        case round =>
          obtain ⟨k, hk, rfl, HB, hbk⟩ := hrel
          have hz0 := hbr.size
          have hbx : Below w1.heap.size w1 wr := below_then hbr hz0 hbk
          have c0k := (hbx.cell (p := ⟨w.heap.size, 0, none⟩) hzz).trans c0
          have c1k := (hbx.cell (p := ⟨w.heap.size, 1, none⟩) hzz).trans c1
          have hck := (hbk.cell (p := ad.add j) (by rw [block_add]; exact hl)).trans hc
          by_cases hlk : k < p.bodies[j].length
          · obtain ⟨ad2, D, cd, E, ce, rfl, hl3, k0, k1, k2, k3, hcd, hce, hD, hE, hi1, hi2⟩ := at_act (hC.belowAll hbk) hlk
            have hkids := (formOk_acts HF.out hlt).2 _ (List.getElem_mem hlk)
            by_cases h2 : p.bodies[j][k].kids.length = 2
            · obtain ⟨ad3, rfl, hl4, hc4, hi4⟩ := at_int hE (j := 0) (by omega)
              obtain ⟨ad4, e4, hl5, hc5, hi5⟩ := at_int hE (j := 1) (by omega)
              injection e4 with e4
              subst e4
              have ha1 := hkids.2 _ (List.getElem_mem (show 0 < p.bodies[j][k].kids.length by omega))
              have ha2 := hkids.2 _ (List.getElem_mem (show 1 < p.bodies[j][k].kids.length by omega))
              obtain ⟨x, hx⟩ : ∃ x : Nat, p.bodies[j][k].kids[0]'(by omega) = (x : Int) := ⟨(p.bodies[j][k].kids[0]'(by omega)).toNat, by omega⟩
              obtain ⟨y, hy⟩ : ∃ y : Nat, p.bodies[j][k].kids[1]'(by omega) = (y : Int) := ⟨(p.bodies[j][k].kids[1]'(by omega)).toNat, by omega⟩
              have hap := apartKids_two p h2
              rw [hx, hy] at hap
              rw [hx] at hc4 ha1
              rw [hy] at hc5 ha2
              rw [h2] at k2
              simp only [Int.toNat_natCast] at hap
              have hBk := hBw.belowAll hbx
              have hcall := fun w' hb => l23Apart_calls p HF.out x y (by omega) (by omega) A (some ad) ca cb w' S (hBk.belowAll hb)
              have HCALL := Lib.hid hcall
              have HI4 := Lib.hid hi4
              have hc4' : wr.cell? ad3 = some (.int .i64 (x : Int)) := (show ad3.add 0 = ad3 by simp [Addr.add]) ▸ hc4
              have hc5' : wr.cell? ⟨ad3.block, ad3.off + 1, none⟩ = some (.int .i64 (y : Int)) := (show ad3.add 1 = ⟨ad3.block, ad3.off + 1, none⟩ by simp [Addr.add]) ▸ hc5
              have HAP := Lib.hid hap
              clear hc5 hx hy hcall hE hD hi4 HI4 hi5 hc4 hap
              go_wp2
              have hbw2 : Below wr.heap.size wr wr.drew := (Below.refl _ _).drew
              have hzr := hbx.size
              cases hq : apart2 p x y
              all_goals
                have HQ := Lib.hid hq
                clear hq
                go_region_held3 (fun w' => w'.cell? ⟨w.heap.size, 0, none⟩ = some (.slice A p.cells.length ca) ∧ w'.cell? ⟨w.heap.size, 1, none⟩ = some (.slice (some ad) p.bodies.length cb) ∧ w'.cell? ad3 = some (.int .i64 (x : Int)) ∧ w'.cell? ⟨ad3.block, ad3.off + 1, none⟩ = some (.int .i64 (y : Int)) ∧ Below wr.heap.size wr w') (go_keep)
                  (first | (go_at_call 41; refine (HCALL.out _ ‹Below wr.heap.size wr _›).mono ?_; rintro e w3 ⟨rfl, hb3⟩; rw [HQ.out]; have q0 := below_then ‹Below wr.heap.size wr _› (Below.size ‹Below wr.heap.size wr _›) hb3; have q1 := (q0.cell (p := ⟨w.heap.size, 0, none⟩) (by simp; omega)).trans c0k; have q2 := (q0.cell (p := ⟨w.heap.size, 1, none⟩) (by simp; omega)).trans c1k; have q3 := (q0.cell (p := ad3) hl4).trans hc4'; have q4 := (q0.cell (p := ⟨ad3.block, ad3.off + 1, none⟩) hl5).trans hc5'))
                obtain ⟨_, _, _, _, hbx2⟩ := ‹_ ∧ _ ∧ _ ∧ _ ∧ Below wr.heap.size wr w3›
                go_wp2
              · go_ret
                refine ⟨ret_bool ?_, below_then hbw (by have := hbw.size; omega) (below_then hbx hbx.size hbx2)⟩
                rw [apartOk_eq, all_false_of _ _ j hlt (by unfold actsApart; exact all_false_of _ _ k hlk (by rw [HAP.out, HQ.out]))]; simp
              · go_roundw
                case rel => exact ⟨k + 1, by omega, by go_num, by unfold Hid; rw [all_take_snoc _ _ _ hlk, HB.out, HAP.out, HQ.out]; rfl, below_then hbk hbk.size hbx2⟩
                case measure => simp [intOf]; omega
            · have hap := apartKids_not p h2
              have hb : ((p.bodies[j][k].kids.length : Int) == 2) = false := by simp; omega
              have HAP := Lib.hid hap
              clear h2 hap
              go_wp2
              go_quiet (fail)
              go_wp2
              go_roundw
              case rel => exact ⟨k + 1, by omega, by go_num, by unfold Hid; rw [all_take_snoc _ _ _ hlk, HB.out, HAP.out]; rfl, by repeat (first | exact hbk | apply Below.drewN | refine below_drewN' ?_ _)⟩
              case measure => simp [intOf]; omega
          · go_wp2
            go_roundw
            case rel =>
              refine ⟨j + 1, by omega, by go_num, ?_, hbx⟩
              unfold Hid
              rw [all_take_snoc _ _ _ hlt, HA.out]
              have := HB.out
              rw [all_take_all _ _ _ (by omega)] at this
              simpa [actsApart] using this
            case measure => simp [intOf]; omega
      · go_wp2
        go_ret
        refine ⟨ret_bool ?_, below_then hbw (by have := hbw.size; omega) hbr⟩
        have := HA.out
        rw [all_take_all _ _ _ (by omega)] at this
        rw [apartOk_eq, HP.out, this]; rfl
end Go.Proofs.Ytehgiijpmldiiaa
namespace Go.Proofs.Ytehgiijpmldiiaa
open Go.RowKit
set_option linter.unusedVariables false
set_option linter.unusedSimpArgs false

set_option maxHeartbeats 4000000 in
set_option maxRecDepth 100000 in
theorem kidsApart_nil (p : Prog) (A B E : Option Addr) (ca cb ce : Nat) (w : World) :
    Calls Try.prog 42 #[.agg #[.slice A p.cells.length ca, .slice B p.bodies.length cb], .slice E 0 ce] w fun e w' => e = .returned (.bool true) ∧ Below w.heap.size w w' := by
  go_enter Try.func42, Try.ntmps42
  go_wp2
  go_loopw [11] (fun i wr => i = .int .i64 0 ∧ Below w.heap.size w wr) (fun i _ => 0)
  case atStart => exact ⟨rfl, bal' w _⟩
  case round =>
    obtain ⟨rfl, hbr⟩ := hrel
    go_wp2
    go_ret
    exact ⟨rfl, hbr⟩
set_option maxHeartbeats 4000000 in
set_option maxRecDepth 100000 in
theorem kidsApart_one (p : Prog) (x : Nat) (A B E : Option Addr) (ca cb ce : Nat) (hce : 1 ≤ ce) (w : World) (S2 : Nat → Prop) (hE : Row Kd.int w S2 E [(x : Int)]) :
    Calls Try.prog 42 #[.agg #[.slice A p.cells.length ca, .slice B p.bodies.length cb], .slice E 1 ce] w fun e w' => e = .returned (.bool true) ∧ Below w.heap.size w w' := by
  rcases Nat.eq_or_lt_of_le hce with hce2 | hce2
  · subst hce2
    go_enter Try.func42, Try.ntmps42
    go_wp2
    go_loopw [11] (fun i wr => ∃ j : Int, (j = 0 ∨ j = 1) ∧ i = .int .i64 j ∧ Below w.heap.size w wr) (fun i _ => 1 - (intOf i).toNat)
    case atStart => exact ⟨0, .inl rfl, rfl, bal' w _⟩
    case round =>
      obtain ⟨j, hj, rfl, hbr⟩ := hrel
      obtain ⟨ad, rfl, hl4, hc4, hi4⟩ := at_int (hE.belowAll hbr) (j := 0) (by simp)
      simp only [List.getElem_cons_zero] at hc4
      have hc4' : wr.cell? ad = some (.int .i64 (x : Int)) := (show ad.add 0 = ad by simp [Addr.add]) ▸ hc4
      clear hc4
      rcases hj with rfl | rfl
      · go_wp2
        obtain ⟨w0, rfl⟩ : ∃ w0 : World, w0 = wr := ⟨_, rfl⟩
        go_loopw [21] (fun i wr => i = .int .i64 0 ∧ Below w0.heap.size w0 wr) (fun i _ => 0)
        case atStart => exact ⟨rfl, Below.refl _ _⟩
        case round =>
          obtain ⟨rfl, hbq⟩ := hrel
          go_wp2
          go_roundw
          case rel => exact ⟨1, .inr rfl, rfl, below_then hbr hbr.size hbq⟩
          case measure => simp [intOf]
      · go_wp2
        go_ret
        exact ⟨rfl, hbr⟩
  · go_enter Try.func42, Try.ntmps42
    go_wp2
    go_loopw [11] (fun i wr => ∃ j : Int, (j = 0 ∨ j = 1) ∧ i = .int .i64 j ∧ Below w.heap.size w wr) (fun i _ => 1 - (intOf i).toNat)
    case atStart => exact ⟨0, .inl rfl, rfl, bal' w _⟩
    case round =>
      obtain ⟨j, hj, rfl, hbr⟩ := hrel
      obtain ⟨ad, rfl, hl4, hc4, hi4⟩ := at_int (hE.belowAll hbr) (j := 0) (by simp)
      simp only [List.getElem_cons_zero] at hc4
      have hc4' : wr.cell? ad = some (.int .i64 (x : Int)) := (show ad.add 0 = ad by simp [Addr.add]) ▸ hc4
      clear hc4
      rcases hj with rfl | rfl
      · go_wp2
        obtain ⟨w0, rfl⟩ : ∃ w0 : World, w0 = wr := ⟨_, rfl⟩
        go_loopw [21] (fun i wr => i = .int .i64 0 ∧ Below w0.heap.size w0 wr) (fun i _ => 0)
        case atStart => exact ⟨rfl, Below.refl _ _⟩
        case round =>
          obtain ⟨rfl, hbq⟩ := hrel
          go_wp2
          go_roundw
          case rel => exact ⟨1, .inr rfl, rfl, below_then hbr hbr.size hbq⟩
          case measure => simp [intOf]
      · go_wp2
        go_ret
        exact ⟨rfl, hbr⟩
theorem kidsApart_calls (p : Prog) (hf : formOk p = true) (kids : List Int) (hk2 : kids.length ≤ 2) (hkk : ∀ k ∈ kids, 0 ≤ k ∧ k < p.bodies.length) (A B E : Option Addr) (ca cb ce : Nat) (hce : kids.length ≤ ce) (w : World) (S S2 : Nat → Prop) (hB : Row (Kd.slice kAct) w S B p.bodies) (hE : Row Kd.int w S2 E kids) :
    Calls Try.prog 42 #[.agg #[.slice A p.cells.length ca, .slice B p.bodies.length cb], .slice E kids.length ce] w fun e w' => e = .returned (.bool (kidsApart p kids)) ∧ Below w.heap.size w w' := by
  match kids, hk2, hkk, hce, hE with
  | [], _, _, _, _ => exact kidsApart_nil p A B E ca cb ce w
  | [a], _, hkk, hce, hE =>
    have h1 := hkk a (by simp)
    obtain ⟨x, rfl⟩ : ∃ x : Nat, a = (x : Int) := ⟨a.toNat, by omega⟩
    exact kidsApart_one p x A B E ca cb ce hce w S2 hE
  | [a, b], _, hkk, hce, hE =>
    have h1 := hkk a (by simp)
    have h2 := hkk b (by simp)
    obtain ⟨x, rfl⟩ : ∃ x : Nat, a = (x : Int) := ⟨a.toNat, by omega⟩
    obtain ⟨y, rfl⟩ : ∃ y : Nat, b = (y : Int) := ⟨b.toNat, by omega⟩
    exact kidsApart_two p hf x y (by omega) (by omega) A B E ca cb ce hce w S S2 hB hE
  | _ :: _ :: _ :: _, h, _, _, _ => simp at h

/-! ### The same word as the reference's -/
theorem chReads_in (ds : List Deed) (c : Int) (h : c ∈ chReads ds) : 0 ≤ c ∧ c ≤ 2 := (mem_sort3.1 h).1
theorem chWrites_in (ds : List Deed) (c : Int) (h : c ∈ chWrites ds) : 0 ≤ c ∧ c ≤ 2 := (mem_sort3.1 h).1
theorem touch_in (f : List Deed → List Int) (hf : ∀ ds, ∀ c ∈ f ds, 0 ≤ c ∧ c ≤ 2) (p : Prog) : ∀ (n b : Nat), ∀ c ∈ touch f n p b, 0 ≤ c ∧ c ≤ 2 := by
  intro n
  induction n with
  | zero => intro b c h; simp [touch] at h
  | succ n ih =>
    intro b c h
    simp only [touch, List.mem_flatMap, List.mem_append] at h
    obtain ⟨a, _, h | ⟨k, _, h⟩⟩ := h
    · exact hf _ _ h
    · exact ih _ _ h
theorem mem_touched (f : List Deed → List Int) (hf : ∀ ds, ∀ c ∈ f ds, 0 ≤ c ∧ c ≤ 2) (p : Prog) (b : Nat) (c : Int) : c ∈ touched f p b ↔ c ∈ touch f 4 p b := by
  unfold touched
  rw [mem_sort3]
  exact ⟨fun h => h.2, fun h => ⟨touch_in f hf p 4 b c h, h⟩⟩
theorem meets_iff (a b : List Int) : meets a b = true ↔ ∃ c, c ∈ a ∧ c ∈ b := by
  simp [meets, List.any_eq_true]
theorem storesTo_iff (p : Prog) (a b : Nat) : storesTo p a b = true ↔ ∃ c, c ∈ touch chWrites 4 p a ∧ (c ∈ touch chReads 4 p b ∨ c ∈ touch chWrites 4 p b) := by
  simp [storesTo, List.any_eq_true]
theorem pairOk_eq (p : Prog) (a b : Nat) : pairOk p a b = apart2 p a b := by
  have hW := mem_touched chWrites chWrites_in p
  have hR := mem_touched chReads chReads_in p
  rw [Bool.eq_iff_iff]
  unfold pairOk apart2
  simp only [Bool.and_eq_true, Bool.not_eq_true', Bool.or_eq_false_iff]
  simp only [← Bool.not_eq_true, meets_iff, storesTo_iff, hW, hR]
  constructor
  · rintro ⟨h1, h2⟩
    refine ⟨⟨?_, ?_⟩, ?_⟩
    · rintro ⟨c, h3, h4⟩; exact h1 ⟨c, h3, .inr h4⟩
    · rintro ⟨c, h3, h4⟩; exact h1 ⟨c, h3, .inl h4⟩
    · rintro ⟨c, h3, h4⟩; exact h2 ⟨c, h4, .inl h3⟩
  · rintro ⟨⟨h1, h2⟩, h3⟩
    refine ⟨?_, ?_⟩
    · rintro ⟨c, h4, h5 | h5⟩
      · exact h2 ⟨c, h4, h5⟩
      · exact h1 ⟨c, h4, h5⟩
    · rintro ⟨c, h4, h5 | h5⟩
      · exact h3 ⟨c, h5, h4⟩
      · exact h1 ⟨c, h5, h4⟩
theorem kidsApart_eq (p : Prog) (kids : List Int) : kidsApart p kids = apartKids p kids := by
  match kids with
  | [] => rfl
  | [_] => rfl
  | [a, b] => exact pairOk_eq p _ _
  | _ :: _ :: _ :: _ => rfl

set_option maxHeartbeats 8000000 in
set_option maxRecDepth 100000 in
theorem implApartOk_calls (p : Prog) (A B : Option Addr) (ca cb : Nat) (w : World) (S : Nat → Prop) (hA : Row Kd.int w S A p.cells) (hB : Row (Kd.slice kAct) w S B p.bodies) :
    Calls Try.prog 19 #[.agg #[.slice A p.cells.length ca, .slice B p.bodies.length cb]] w fun e w' => e = .returned (.bool (apartOk p)) ∧ Below w.heap.size w w' := by
  have hA1 := fun o => hA.belowAll (bal' w o)
  have hB1 := fun o => hB.belowAll (bal' w o)
  cases hp : progOk p
  · have HP := Lib.hid hp
    clear hp
    go_enter Try.func19, Try.ntmps19
    go_wp2_with (go_at_call 32; refine (implProgOk_calls p _ _ _ _ _ S (hA1 _) (hB1 _)).mono ?_; rintro e w1 ⟨rfl, hb2⟩; rw [HP.out])
    go_ret
    exact ⟨by rw [apartOk_eq, HP.out]; rfl, (bal' w _).trans (hb2.mono (by simp))⟩
  · have hf : formOk p = true := by simp only [progOk, Bool.and_eq_true] at hp; exact hp.1
    have hlen := formOk_len hf
    have HP := Lib.hid hp
    have HF := Lib.hid hf
    have hm2 := hB.1
    clear hp hf
    go_enter Try.func19, Try.ntmps19
    go_wp2_with (go_at_call 32; refine (implProgOk_calls p _ _ _ _ _ S (hA1 _) (hB1 _)).mono ?_; rintro e w1 ⟨rfl, hb2⟩; rw [HP.out]; have hbw := (bal' w _).trans (hb2.mono (by simp)); have c0 := hb2.cell (p := ⟨w.heap.size, 0, none⟩) (by simp); have c1 := hb2.cell (p := ⟨w.heap.size, 1, none⟩) (by simp); simp [go_sem] at c0 c1)
    have hzz : w.heap.size < w1.heap.size := by have := hb2.size; simp at this; omega
    have hBw := hB.belowAll hbw
    clear hb2 hA1 hB1 hA hB
    go_loopw [13] (fun i wr => ∃ j : Nat, j ≤ p.bodies.length ∧ i = .int .i64 j ∧ Hid ((p.bodies.take j).all (actsApart p) = true) ∧ Below w1.heap.size w1 wr) (fun i _ => p.bodies.length - (intOf i).toNat)
    case atStart => exact ⟨0, Nat.zero_le _, rfl, by simp [Hid], Below.refl _ _⟩
    case round =>
      obtain ⟨j, hj, rfl, HA, hbr⟩ := hrel
      by_cases hlt : j < p.bodies.length
      · obtain ⟨ad, C, cc, rfl, hl, hc, hcl, hC⟩ := at_slice (hBw.belowAll hbr) hlt
        have hma := hC.1
        go_wp2
        obtain ⟨w0, rfl⟩ : ∃ w0 : World, w0 = wr := ⟨_, rfl⟩
        go_loopw [19] (fun i wr => ∃ k : Nat, k ≤ p.bodies[j].length ∧ i = .int .i64 k ∧ Hid ((p.bodies[j].take k).all (fun a => apartKids p a.kids) = true) ∧ Below w0.heap.size w0 wr) (fun i _ => p.bodies[j].length - (intOf i).toNat)
        case atStart => exact ⟨0, Nat.zero_le _, rfl, by simp [Hid], Below.refl _ _⟩
        case round =>
          obtain ⟨k, hk, rfl, HB, hbk⟩ := hrel
          have hz0 := hbr.size
          have hbx : Below w1.heap.size w1 wr := below_then hbr hz0 hbk
          by_cases hlk : k < p.bodies[j].length
          · have c0k := (hbx.cell (p := ⟨w.heap.size, 0, none⟩) hzz).trans c0
            have c1k := (hbx.cell (p := ⟨w.heap.size, 1, none⟩) hzz).trans c1
            obtain ⟨ad2, D, cd, E, ce, rfl, hl3, k0, k1, k2, k3, hcd, hce, hD, hE, hi1, hi2⟩ := at_act (hC.belowAll hbk) hlk
            have hkids := (formOk_acts HF.out hlt).2 _ (List.getElem_mem hlk)
            have hBk := hBw.belowAll hbx
            have hzw : w.heap.size < wr.heap.size := by have := hbx.size; omega
            have hap := kidsApart_eq p p.bodies[j][k].kids
            have hcall := fun o => kidsApart_calls p HF.out p.bodies[j][k].kids hkids.1 (fun x hx => by have := hkids.2 x hx; omega) A (some ad) E ca cb ce hce _ S _ (hBk.belowAll (bal' wr o)) (hE.belowAll (bal' wr o))
            have HC := Lib.hid hcall
            have HAP := Lib.hid hap
            clear hcall hap hD hE hBk
            cases hq : apartKids p p.bodies[j][k].kids
            all_goals
              have HQ := Lib.hid hq
              clear hq
              go_wp2_with (go_at_call 42; refine (HC.out _).mono ?_; rintro e w3 ⟨rfl, hb3⟩; rw [HAP.out, HQ.out]; have hb3x := below_then hbk hbk.size ((bal' wr _).trans (hb3.mono (by simp))))
            · go_ret
              refine ⟨ret_bool ?_, below_then hbw (by have := hbw.size; omega) (below_then hbr hz0 hb3x)⟩
              rw [apartOk_eq, all_false_of _ _ j hlt (by unfold actsApart; exact all_false_of _ _ k hlk HQ.out)]; simp
            · go_roundw
              case rel => exact ⟨k + 1, by omega, by go_num, by unfold Hid; rw [all_take_snoc _ _ _ hlk, HB.out, HQ.out]; rfl, hb3x⟩
              case measure => simp [intOf]; omega
          · go_wp2
            go_roundw
            case rel =>
              refine ⟨j + 1, by omega, by go_num, ?_, hbx⟩
              unfold Hid
              rw [all_take_snoc _ _ _ hlt, HA.out]
              have := HB.out
              rw [all_take_all _ _ _ (by omega)] at this
              simpa [actsApart] using this
            case measure => simp [intOf]; omega
      · go_wp2
        go_ret
        refine ⟨ret_bool ?_, below_then hbw (by have := hbw.size; omega) hbr⟩
        have := HA.out
        rw [all_take_all _ _ _ (by omega)] at this
        rw [apartOk_eq, HP.out, this]; rfl
end Go.Proofs.Ytehgiijpmldiiaa
namespace Go.Proofs.Ytehgiijpmldiiaa
open Go.RowKit
set_option linter.unusedVariables false
set_option linter.unusedSimpArgs false
attribute [local go_sem ↓] Go.wp_at_zero Go.wp_at_succ

set_option maxHeartbeats 8000000 in
set_option maxRecDepth 100000 in
theorem fnExactApartOk_calls (p : Prog) (A B : Option Addr) (c d : Nat) (w : World) (S : Nat → Prop) (hA : Row Kd.int w S A p.cells) (hB : Row (Kd.slice kAct) w S B p.bodies) (hS : ∀ k, S k → k < w.heap.size) :
    Calls Try.prog 5 #[.agg #[.slice A p.cells.length c, .slice B p.bodies.length d]] w fun e w' => e = .returned (.bool true) ∧ Below w.heap.size w w' := by
  have hA1 := fun o => hA.belowAll (bal' w o)
  have hB1 := fun o => hB.belowAll (bal' w o)
  by_cases hsz : sizeOf3 p ≤ 1048576
  rotate_left
  · have HE := Lib.hid (dec_no hsz)
    clear hsz
    go_enter Try.func5, Try.ntmps5
    go_wp2_with (go_at_call 11; refine (szProg_calls p _ _ _ _ 1048576 _ S (by omega) (by omega) (hA1 _) (hB1 _)).mono ?_; rintro e w1 ⟨rfl, hb1⟩; rw [HE.out])
    go_ret
    exact ⟨rfl, below_then (bal' w _) (by simp) hb1⟩
  · obtain ⟨m, hm, hm0⟩ : ∃ m, dec 1048576 (sizeOf3 p) = m ∧ ¬ m < 0 := ⟨_, dec_ok hsz, by omega⟩
    have HM := Lib.hid hm
    obtain ⟨q1, q2, q3, _⟩ := size_bounds hsz
    clear hm hsz
    obtain ⟨wo, rfl⟩ : ∃ wo, wo = w := ⟨_, rfl⟩
    cases hq : apartOk p
    all_goals
      have HQ := Lib.hid hq
      clear hq
      go_enter Try.func5, Try.ntmps5
      go_wp2_with (first
        | (go_at_call 11; refine (szProg_calls p _ _ _ _ 1048576 _ S (by omega) (by omega) (hA1 _) (hB1 _)).mono ?_; rintro e w1 ⟨rfl, hb1⟩; rw [HM.out]; have hz1 := hb1.size; simp at hz1; have f1 := (hb1.block wo.heap.size (by simp)).trans (heap_alloc_new wo _); have g1 := cell_of_row _ _ 0 _ _ _ f1; have g2 := cell_of_row _ _ 1 _ _ _ f1; simp at g1 g2; have hA2 := (hA1 _).belowAll hb1; have hB2 := (hB1 _).belowAll hb1; have hbb1 := below_then (bal' wo _) (by simp) hb1) | (go_at_call 12; refine (toProg_calls p _ _ _ _ w1 S hA2 hB2 (fun k hk => by have := hS k hk; omega) q1 q2 q3).mono ?_; rintro e w2 ⟨_, rfl, hP2, hb2⟩; obtain ⟨C2, D2, cc2, cd2, rfl, rc2, rd2, _, _⟩ := hP2.rows; have hz2 := hb2.size; clear hP2) | (go_at_call 18; refine (specApartOk_calls p C2 D2 cc2 cd2 w2 _ rc2 rd2).mono ?_; rintro e w3 ⟨rfl, hb3⟩; rw [HQ.out]; have hz3 := hb3.size; have f3 := ((hb3.block wo.heap.size (by omega)).trans (hb2.block wo.heap.size (by omega))).trans f1; have g3 := cell_of_row _ _ 0 _ _ _ f3; have g4 := cell_of_row _ _ 1 _ _ _ f3; simp at g3 g4; have hA3 := (hA2.belowAll hb2).belowAll hb3; have hB3 := (hB2.belowAll hb2).belowAll hb3; have hbb3 := below_then (below_then hbb1 (by omega) hb2) (by omega) hb3) | (go_at_call 12; refine (toProg_calls p _ _ _ _ w3 S hA3 hB3 (fun k hk => by have := hS k hk; omega) q1 q2 q3).mono ?_; rintro e w4 ⟨_, rfl, hP4, hb4⟩; obtain ⟨C4, D4, cc4, cd4, rfl, rc4, rd4, sc4, sd4⟩ := hP4.rows; have hz4 := hb4.size; clear hP4; have f4 := (hb4.block wo.heap.size (by omega)).trans f3) | (go_at_call 19; refine (implApartOk_calls p C4 D4 cc4 cd4 _ _ (rc4.belowAll (bal' w4 _)) (rd4.belowAll (bal' w4 _))).mono ?_; rintro e w6 ⟨rfl, hb5⟩; rw [HQ.out]; have hz5 := hb5.size; simp at hz5; have f6 := ((hb5.block wo.heap.size (by simp; omega)).trans (Below.heap_alloc w4 _ _ (by omega))).trans f4; have f67 := (hb5.block w4.heap.size (by simp)).trans (heap_alloc_new w4 _)))
      have a0 := cell_of_row _ _ 0 _ _ _ f6
      have a1 := cell_of_row _ _ 1 _ _ _ f6
      have b0 := cell_of_row _ _ 0 _ _ _ f67
      have b1 := cell_of_row _ _ 1 _ _ _ f67
      simp at a0 a1 b0 b1
      have hbb4 := below_then hbb3 (by omega) hb4
      have hm46 : Below w4.heap.size w4 w6 := below_then (bal' w4 _) (by simp) hb5
      have hbb6 := below_then hbb4 (by omega) hm46
      have hA6 := (hA3.belowAll hb4).belowAll hm46
      have hB6 := (hB3.belowAll hb4).belowAll hm46
      have rc6 := rc4.belowAll hm46
      have rd6 := rd4.belowAll hm46
      have hl1 : wo.heap.size < w6.heap.size := by omega
      have hl2 : w4.heap.size < w6.heap.size := by omega
      have hS6 : ∀ k, S k → k < w6.heap.size := fun k hk => by have := hS k hk; omega
      clear hA1 hB1 hA hB g1 g2 g3 g4 hA2 hB2 hA3 hB3 rc2 rd2 rc4 rd4 sc4 sd4 f1 f3 f4 hb1 hb2 hb3 hb4 hb5 hbb1 hbb3
      go_region_held3 (fun w' => w'.cell? ⟨wo.heap.size, 0, none⟩ = some (.slice A p.cells.length c) ∧ w'.cell? ⟨wo.heap.size, 1, none⟩ = some (.slice B p.bodies.length d) ∧ w'.cell? ⟨w4.heap.size, 0, none⟩ = some (.slice C4 p.cells.length cc4) ∧ w'.cell? ⟨w4.heap.size, 1, none⟩ = some (.slice D4 p.bodies.length cd4)) (first | (go_keep; done) | exact ⟨a0, a1, b0, b1⟩ | exact ⟨x0, x1, x2, x3⟩ | exact ⟨y0, y1, y2, y3⟩) (first | (go_at_call 12; refine (toProg_calls p _ _ _ _ _ S (Row.belowAll hA6 (by repeat' (first | exact Below.refl _ _ | apply Below.drew))) (Row.belowAll hB6 (by repeat' (first | exact Below.refl _ _ | apply Below.drew))) (fun k hk => by have := hS6 k hk; simpa using this) q1 q2 q3).mono ?_; rintro e w7 ⟨_, rfl, hP7, hb7⟩; have hb7 : Below w6.heap.size w6 w7 := Below.trans (show Below w6.heap.size w6 _ by repeat' (first | exact Below.refl _ _ | apply Below.drew)) hb7; obtain ⟨C7, D7, cc7, cd7, rfl, rc7, rd7, _, _⟩ := hP7.rows; clear hP7; have hz7 := hb7.size; have x0 := (hb7.cell (p := ⟨wo.heap.size, 0, none⟩) hl1).trans a0; have x1 := (hb7.cell (p := ⟨wo.heap.size, 1, none⟩) hl1).trans a1; have x2 := (hb7.cell (p := ⟨w4.heap.size, 0, none⟩) hl2).trans b0; have x3 := (hb7.cell (p := ⟨w4.heap.size, 1, none⟩) hl2).trans b1) | (go_at_call 14; refine (eqProg_calls p _ _ _ _ _ _ _ _ _ _ _ (Row.belowAll (rc6.belowAll hb7) (by repeat' (first | exact Below.refl _ _ | apply Below.drew))) (Row.belowAll rc7 (by repeat' (first | exact Below.refl _ _ | apply Below.drew))) (Row.belowAll (rd6.belowAll hb7) (by repeat' (first | exact Below.refl _ _ | apply Below.drew))) (Row.belowAll rd7 (by repeat' (first | exact Below.refl _ _ | apply Below.drew)))).mono ?_; rintro e w8 ⟨rfl, hb8⟩; have hb8 : Below w6.heap.size w6 w8 := below_then (below_then hb7 hz7 (show Below w7.heap.size w7 _ by repeat' (first | exact Below.refl _ _ | apply Below.drew))) (by simpa using hz7) hb8; have y0 := (hb8.cell (p := ⟨wo.heap.size, 0, none⟩) hl1).trans a0; have y1 := (hb8.cell (p := ⟨wo.heap.size, 1, none⟩) hl1).trans a1; have y2 := (hb8.cell (p := ⟨w4.heap.size, 0, none⟩) hl2).trans b0; have y3 := (hb8.cell (p := ⟨w4.heap.size, 1, none⟩) hl2).trans b1))
      go_wp2
      go_ret
      exact ⟨rfl, below_then hbb6 (by omega) hb8⟩
end Go.Proofs.Ytehgiijpmldiiaa
