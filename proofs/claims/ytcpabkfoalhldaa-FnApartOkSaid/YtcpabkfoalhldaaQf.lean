/- The program: which cells a body touches, as a map; whether one stores to what another one touches. The program: whether tasks that are begun together are apart. The reference: whether two bodies are apart, whether a program's are; which cells a body touches. The reference: whether tasks of a program are apart. The program: whether tasks of a program are apart. Contracts of Go's library, laid at this program: maps.Keys, slices.Sorted, slices.Sort at ints. The plain law of FnOneFails: a first body that fails at last leaves what it left, and failed. Plain laws of what bodies touch: a body touches what those do that it begins; what no body stores to stays; a body of nothing touches nothing. The numbers that a map counts, in order: slices.Sorted of maps.Keys. Which cells a body touches: ApartReads, ApartWrites of the reference and of the program; ProgTree. The plain law of FnApartMain: a firs -/
import Derived.Ground.GgzProg
import Derived.Ground.SlgmProg
import Derived.Shelf.SlIterI.Nil
import Derived.Shelf.SortM.Plain
import Derived.Shelf.SortM.SortNone
import Derived.Test.YtcpabkfoalhldaaProg
import Derived.Test.YtcpabkfoalhldaaQe
namespace Go.Proofs.Ytcpabkfoalhldaa
open Go.RowKit
set_option linter.unusedVariables false
set_option linter.unusedSimpArgs false

theorem flat_bound {α : Type} (g : α → List Int) (M : Nat) (l : List α) (h : ∀ x ∈ l, (g x).length ≤ M) : (l.flatMap g).length ≤ M * l.length := by
  induction l with
  | nil => simp
  | cons a r ih =>
    have h1 := h a (List.mem_cons_self ..)
    have h2 := ih fun x hx => h x (List.mem_cons_of_mem _ hx)
    simp only [List.flatMap_cons, List.length_append, List.length_cons, Nat.mul_add, Nat.mul_one]
    omega
theorem touch_len (f : List Deed → List Int) (h3 : ∀ ds, (f ds).length ≤ 3) {p : Prog} (hf : formOk p = true) : ∀ (n b : Nat), (touch f n p b).length ≤ 20 ^ n := by
  intro n
  induction n with
  | zero => intro b; simp [touch]
  | succ n ih =>
    intro b
    have hp : 1 ≤ 20 ^ n := Nat.one_le_pow _ _ (by omega)
    rcases Nat.lt_or_ge b p.bodies.length with hb | hb
    · rw [touch_eq f n p b hb]
      have ha := formOk_acts hf hb
      have h1 : (accT f n p p.bodies[b]).length ≤ (3 + 2 * 20 ^ n) * p.bodies[b].length := flat_bound _ _ _ fun a hm => by
        have h2 : (kidT f n p a.kids).length ≤ 20 ^ n * a.kids.length := flat_bound _ _ _ fun k _ => ih k.toNat
        have h4 := (ha.2 a hm).1
        have h5 := h3 a.deeds
        have h6 : 20 ^ n * a.kids.length ≤ 20 ^ n * 2 := Nat.mul_le_mul_left _ h4
        simp only [List.length_append]; omega
      have h7 : (3 + 2 * 20 ^ n) * p.bodies[b].length ≤ (3 + 2 * 20 ^ n) * 4 := Nat.mul_le_mul_left _ ha.1
      rw [Nat.pow_succ]; omega
    · rw [touch, List.getD_eq_getElem?_getD, List.getElem?_eq_none hb]
      simp
theorem touch_small (f : List Deed → List Int) (h3 : ∀ ds, (f ds).length ≤ 3) {p : Prog} (hf : formOk p = true) (b : Nat) : (touch f 4 p b).length ≤ 160000 := touch_len f h3 hf 4 b

set_option maxHeartbeats 2000000 in
set_option maxRecDepth 100000 in
theorem apartReads_calls (p : Prog) (hf : formOk p = true) (b : Nat) (hb : b < p.bodies.length) (A B : Option Addr) (ca cb : Nat) (w : World) (S : Nat → Prop) (hB : Row (Kd.slice kAct) w S B p.bodies) :
    Calls Try.prog 41 #[.agg #[.slice A p.cells.length ca, .slice B p.bodies.length cb], .int .i64 (b : Nat), .func (.func 21) #[] #[]] w fun e w' => ∃ bm, e = .returned (.map (some bm)) ∧ w.heap.size ≤ bm ∧ CntMap w' bm (touch chReads 4 p b) ∧ Below w.heap.size w w' := by
  have hlen := formOk_len hf
  have hl := touch_small chReads chReads_len hf b
  have hmm := @run_makeMap Try.prog
  have hB2 := hB.bound.belowAll (bal2' w (.cells #[.slice A p.cells.length ca, .slice B p.bodies.length cb] 26) (.map #[] 0))
  have hcm : CntMap ((w.alloc (.cells #[.slice A p.cells.length ca, .slice B p.bodies.length cb] 26)).alloc (.map #[] 0)) (w.heap.size + 1) [] := by
    have := CntMap.made (w.alloc (.cells #[.slice A p.cells.length ca, .slice B p.bodies.length cb] 26))
    simpa using this
  have HC := Lib.hid (intoReads_calls p hf 4 (Nat.le_refl _) b hb (by omega) A B ca cb _ _ hB2 (w.heap.size + 1) (fun k h => by have := h.2; omega) [] hcm (by simp; omega))
  clear hcm hB2
  go_enter Try.func41, Try.ntmps41
  go_wp2_with (go_at_call 69; refine HC.out.mono ?_; rintro e w1 ⟨rfl, hm, hk⟩)
  go_ret
  refine ⟨_, rfl, by omega, by simpa using hm, (bal2' w _ _).trans (Below.mono (hk.below (B := w.heap.size) (fun k h1 h2 => by omega) (by simp; omega)) (Nat.le_refl _))⟩

set_option maxHeartbeats 2000000 in
set_option maxRecDepth 100000 in
theorem apartWrites_calls (p : Prog) (hf : formOk p = true) (b : Nat) (hb : b < p.bodies.length) (A B : Option Addr) (ca cb : Nat) (w : World) (S : Nat → Prop) (hB : Row (Kd.slice kAct) w S B p.bodies) :
    Calls Try.prog 41 #[.agg #[.slice A p.cells.length ca, .slice B p.bodies.length cb], .int .i64 (b : Nat), .func (.func 16) #[] #[]] w fun e w' => ∃ bm, e = .returned (.map (some bm)) ∧ w.heap.size ≤ bm ∧ CntMap w' bm (touch chWrites 4 p b) ∧ Below w.heap.size w w' := by
  have hlen := formOk_len hf
  have hl := touch_small chWrites chWrites_len hf b
  have hmm := @run_makeMap Try.prog
  have hB2 := hB.bound.belowAll (bal2' w (.cells #[.slice A p.cells.length ca, .slice B p.bodies.length cb] 26) (.map #[] 0))
  have hcm : CntMap ((w.alloc (.cells #[.slice A p.cells.length ca, .slice B p.bodies.length cb] 26)).alloc (.map #[] 0)) (w.heap.size + 1) [] := by
    have := CntMap.made (w.alloc (.cells #[.slice A p.cells.length ca, .slice B p.bodies.length cb] 26))
    simpa using this
  have HC := Lib.hid (intoWrites_calls p hf 4 (Nat.le_refl _) b hb (by omega) A B ca cb _ _ hB2 (w.heap.size + 1) (fun k h => by have := h.2; omega) [] hcm (by simp; omega))
  clear hcm hB2
  go_enter Try.func41, Try.ntmps41
  go_wp2_with (go_at_call 69; refine HC.out.mono ?_; rintro e w1 ⟨rfl, hm, hk⟩)
  go_ret
  refine ⟨_, rfl, by omega, by simpa using hm, (bal2' w _ _).trans (Below.mono (hk.below (B := w.heap.size) (fun k h1 h2 => by omega) (by simp; omega)) (Nat.le_refl _))⟩

/-- What a body stores to another one touches. -/
def storesTo (p : Prog) (a b : Nat) : Bool := (touch chWrites 4 p a).any fun c => decide (c ∈ touch chReads 4 p b) || decide (c ∈ touch chWrites 4 p b)
set_option maxHeartbeats 4000000 in
set_option maxRecDepth 100000 in
theorem storesTo_calls (p : Prog) (hf : formOk p = true) (a b : Nat) (ha : a < p.bodies.length) (hb : b < p.bodies.length) (A B : Option Addr) (ca cb : Nat) (w : World) (S : Nat → Prop) (hB : Row (Kd.slice kAct) w S B p.bodies) :
    Calls Try.prog 81 #[.agg #[.slice A p.cells.length ca, .slice B p.bodies.length cb], .int .i64 (a : Nat), .int .i64 (b : Nat)] w fun e w' => e = .returned (.bool (storesTo p a b)) ∧ Below w.heap.size w w' := by
  have hB1 := fun o => hB.belowAll (bal' w o)
  have hl1 := touch_small chReads chReads_len hf b
  have hl2 := touch_small chWrites chWrites_len hf b
  have HB := Lib.hid hB
  have HF := Lib.hid hf
  have tok1 : True := trivial
  have tok2 : True := trivial
  clear hB
  go_enter Try.func81, Try.ntmps81
  go_wp2_with (first
    | (go_at_call 41; have _t := tok1; refine (apartReads_calls p HF.out b hb _ _ _ _ _ S (hB1 _)).mono ?_; rintro e w1 ⟨b1, rfl, hb1, hm1, hbw1⟩; have hbw1' := (bal' w _).trans (hbw1.mono (by simp)); have c0 := hbw1.cell (p := ⟨w.heap.size, 0, none⟩) (by simp); have c1 := hbw1.cell (p := ⟨w.heap.size, 1, none⟩) (by simp); simp [go_sem] at c0 c1; clear tok1) | (go_at_call 41; have _t := tok2; refine (apartWrites_calls p HF.out b hb _ _ _ _ _ S (HB.out.belowAll hbw1')).mono ?_; rintro e w2 ⟨b2, rfl, hb2, hm2, hbw2⟩; have hm12 := hm1.below hbw2; have hbw2' := hbw1'.trans (hbw2.mono hbw1'.size); have c02 := (hbw2.cell (p := ⟨w.heap.size, 0, none⟩) (by have := hbw1.size; simp at this; simp; omega)).trans c0; have c12 := (hbw2.cell (p := ⟨w.heap.size, 1, none⟩) (by have := hbw1.size; simp at this; simp; omega)).trans c1; clear tok2) | (go_at_call 41; refine (apartWrites_calls p HF.out a ha _ _ _ _ _ S (HB.out.belowAll hbw2')).mono ?_; rintro e w3 ⟨b3, rfl, hb3, hm3, hbw3⟩; have hm13 := hm12.below hbw3; have hm23 := hm2.below hbw3; have hbw3' := hbw2'.trans (hbw3.mono hbw2'.size); obtain ⟨D, ho, hat, hhas, hin⟩ := hm3) | (at_range; refine wpList_range_own _ rfl _ 57 rfl 3 3 keyedI Try.underlying57 _ b3 _ D rfl ho ?_; intro w4 hrg4 hg4 hs4))
  go_frame
  have hm14 := hm13.keep (Keep.of_grown (T := fun _ => False) hg4 (fun k hk => by cases hk)) (fun h => h)
  have hm24 := hm23.keep (Keep.of_grown (T := fun _ => False) hg4 (fun k hk => by cases hk)) (fun h => h)
  have hbw4 : Below w.heap.size w w4 := hbw3'.grown hg4 hbw3'.size (fun k hk => by cases hk)
  have h1l := hm13.lt
  have h2l := hm23.lt
  have hz3 := hbw3'.size
  clear hm1 hm2 hm12 hm13 hm23 ho hbw1 hbw2 hbw3 c0 c1 c02 c12 hB1
  go_loopw [9] (fun _ wr => ∃ (left : Lit → Bool) (cnt : Nat), wr.ranges Try.prog 3 (plainElem Try.prog 3) b3 w3.heap.size (touch chWrites 4 p a).length D left cnt ∧ CntMap wr b1 (touch chReads 4 p b) ∧ CntMap wr b2 (touch chWrites 4 p b) ∧ Below w.heap.size w wr ∧ Hid (∀ c, isI c → Maps.has D (.int .i64 c) = true → left (.int .i64 c) = false → (decide (c ∈ touch chReads 4 p b) || decide (c ∈ touch chWrites 4 p b)) = false))
    (fun _ wr => wr.rangeLeft b3 w3.heap.size)
  case atStart => exact ⟨_, _, hrg4, hm14, hm24, hbw4, fun c _ h1 h2 => by rw [h1] at h2; cases h2⟩
  case round =>
    obtain ⟨left, cnt, hrg, hr1, hr2, hbr, HN⟩ := hrel
    clear hrg4 hm14 hm24 hbw4 hg4
    go_wp2_with (at_next; refine wpList_next_ranges_ii _ rfl _ rfl 3 3 .i64 .i64 keyedI Try.underlying3 Try.underlying3 b3 w3.heap.size (touch chWrites 4 p a).length D left cnt rfl hrg ?_ ?_)
    · intro _ hl0
      have hend : storesTo p a b = false := by
        unfold storesTo
        rw [List.any_eq_false]
        intro c hc
        have := HN.out c (hin c hc) (by rw [hhas c (hin c hc)]; simpa using hc) (hl0 _)
        simpa using this
      have HE := Lib.hid hend
      clear hend
      go_wp2
      go_ret
      exact ⟨ret_bool HE.out.symm, hbr⟩
    · intro x c w5 cnt5 hwx hwc hlx hatx hrg5 hlt5 hg5 hs5 hen
      have hix : isI x := by
        simp [Lit.wf, IntKind.min, IntKind.max, IntKind.signed, IntKind.bits] at hwx
        exact ⟨by omega, by omega⟩
      have hbr5 : Below w.heap.size w w5 := hbr.grown hg5 hbr.size (fun k hk => by injection hk with hk; omega)
      have k5 : Keep (fun i => i = w3.heap.size) wr w5 := Keep.of_grown hg5 (fun k hk => by injection hk with hk; exact hk.symm)
      have hr15 := hr1.keep k5 (by omega)
      have hr25 := hr2.keep k5 (by omega)
      have hc1 : List.count x (touch chReads 4 p b) ≤ (touch chReads 4 p b).length := List.count_le_length
      have hc2 : List.count x (touch chWrites 4 p b) ≤ (touch chWrites 4 p b).length := List.count_le_length
      have hxin : x ∈ touch chWrites 4 p a := by
        have := hhas x hix
        rw [Maps.has_true_of_atKey hatx] at this
        simpa using this.symm
      have hp1 : 0 < List.count x (touch chReads 4 p b) ↔ x ∈ touch chReads 4 p b := List.count_pos_iff
      have hp2 : 0 < List.count x (touch chWrites 4 p b) ↔ x ∈ touch chWrites 4 p b := List.count_pos_iff
      obtain ⟨q1, hq1⟩ : ∃ q : Nat, q = List.count x (touch chReads 4 p b) := ⟨_, rfl⟩
      obtain ⟨q2, hq2⟩ : ∃ q : Nat, q = List.count x (touch chWrites 4 p b) := ⟨_, rfl⟩
      have HQ := Lib.hid (And.intro hq1 hq2)
      rw [← hq1] at hc1 hp1
      rw [← hq2] at hc2 hp2
      have hu1 : q1 ≤ 160000 := by omega
      have hu2 : q2 ≤ 160000 := by omega
      have HHAT := Lib.hid (And.intro hhas hat)
      have HHH := Lib.hid (And.intro hin hatx)
      by_cases hh : (decide (x ∈ touch chReads 4 p b) || decide (x ∈ touch chWrites 4 p b)) = true
      · have hend : storesTo p a b = true := List.any_eq_true.2 ⟨x, hxin, hh⟩
        have hpos : (0 : Int) < (q1 : Int) + (q2 : Int) := by
          rw [Bool.or_eq_true, decide_eq_true_eq, decide_eq_true_eq] at hh
          rcases hh with h | h
          · have := hp1.2 h; omega
          · have := hp2.2 h; omega
        have HE := Lib.hid hend
        clear hend hh hp1 hp2 hq1 hq2 hc1 hc2 hxin hhas hat hin hatx HN
        go_wp2_with (first
          | (at_lookup; refine wpList_cnt_look rfl (.tmp 24) (.tmp 25) rfl rfl hr15 _ rfl hix ?_; rw [← HQ.out.1]) | (at_lookup; refine wpList_cnt_look rfl (.tmp 27) (.tmp 28) rfl rfl hr25 _ rfl hix ?_; rw [← HQ.out.2]))
        go_ret
        exact ⟨ret_bool HE.out.symm, hbr5⟩
      · have hpos : (q1 : Int) + (q2 : Int) = 0 := by
          rw [Bool.or_eq_true, decide_eq_true_eq, decide_eq_true_eq] at hh
          have h1 : ¬ 0 < q1 := fun h => hh (.inl (hp1.1 h))
          have h2 : ¬ 0 < q2 := fun h => hh (.inr (hp2.1 h))
          omega
        obtain rfl : q1 = 0 := by omega
        obtain rfl : q2 = 0 := by omega
        have hh2 : (decide (x ∈ touch chReads 4 p b) || decide (x ∈ touch chWrites 4 p b)) = false := by simpa using hh
        have HN2 : Hid (∀ c, isI c → Maps.has D (.int .i64 c) = true → (left (.int .i64 c) && !(Lit.int .i64 c).sameKey (.int .i64 x)) = false → (decide (c ∈ touch chReads 4 p b) || decide (c ∈ touch chWrites 4 p b)) = false) := by
          intro c hic hhc hlc
          by_cases e : c = x
          · rw [e]; exact hh2
          · refine HN.out c hic hhc ?_
            have hns : (Lit.int .i64 c).sameKey (.int .i64 x) = false := by
              rw [Bool.eq_false_iff]
              intro h
              exact e (by have := (WideAt.sameKey_iff (a := .int .i64 c) (b := .int .i64 x) trivial).1 h; injection this)
            rw [hns] at hlc
            simpa using hlc
        clear hpos hh hh2 hp1 hp2 hq1 hq2 hc1 hc2 hxin hhas hat hin hatx HN hu1 hu2
        go_wp2_with (first
          | (at_lookup; refine wpList_cnt_look rfl (.tmp 24) (.tmp 25) rfl rfl hr15 _ rfl hix ?_; rw [← HQ.out.1]) | (at_lookup; refine wpList_cnt_look rfl (.tmp 27) (.tmp 28) rfl rfl hr25 _ rfl hix ?_; rw [← HQ.out.2]))
        go_roundw
        case rel => exact ⟨_, cnt5, hrg5, hr15, hr25, hbr5, HN2⟩
        case measure => rw [hrg5.left_eq, hrg.left_eq]; exact hlt5
end Go.Proofs.Ytcpabkfoalhldaa
namespace Go.Proofs.Ytcpabkfoalhldaa
open Go.RowKit
set_option linter.unusedVariables false
set_option linter.unusedSimpArgs false

def pairOk (p : Prog) (a b : Nat) : Bool := !(storesTo p a b || storesTo p b a)
def kidsApart (p : Prog) : List Int → Bool
  | [a, b] => pairOk p a.toNat b.toNat
  | _ => true

set_option maxHeartbeats 4000000 in
set_option maxRecDepth 100000 in
theorem kidsApart_two (p : Prog) (hf : formOk p = true) (x y : Nat) (hx : x < p.bodies.length) (hy : y < p.bodies.length) (A B E : Option Addr) (ca cb ce : Nat) (hce : 2 ≤ ce) (w : World) (S S2 : Nat → Prop) (hB : Row (Kd.slice kAct) w S B p.bodies) (hE : Row Kd.int w S2 E [(x : Int), (y : Int)]) :
    Calls Try.prog 52 #[.agg #[.slice A p.cells.length ca, .slice B p.bodies.length cb], .slice E 2 ce] w fun e w' => e = .returned (.bool (pairOk p x y)) ∧ Below w.heap.size w w' := by
  have hlen := formOk_len hf
  have HF := Lib.hid hf
  obtain ⟨W2, HW⟩ : ∃ W2, W2 = w.alloc (Obj.cells #[.slice A p.cells.length ca, .slice B p.bodies.length cb] 26) := ⟨_, rfl⟩
  have hb2 : Below w.heap.size w W2 := by rw [HW]; exact bal' _ _
  have hz2 : W2.heap.size = w.heap.size + 1 := by rw [HW]; simp
  have c0 : W2.cell? ⟨w.heap.size, 0, none⟩ = some (.slice A p.cells.length ca) := by rw [HW]; simp [go_sem]
  have c1 : W2.cell? ⟨w.heap.size, 1, none⟩ = some (.slice B p.bodies.length cb) := by rw [HW]; simp [go_sem]
  have hB2 := hB.belowAll hb2
  have hE2 := hE.belowAll hb2
  have HZ := Lib.hid hz2
  have HW' := Lib.hid HW
  clear hz2 hB HW hE
  rcases Nat.eq_or_lt_of_le hce with hce2 | hce2
  · subst hce2
    go_enter Try.func52, Try.ntmps52
    go_wp2
    rw [← HW'.out]
    go_loopw [11] (fun i wr => ∃ j : Int, (j = 0 ∨ j = 1 ∧ Hid (pairOk p x y = true) ∨ j = 2 ∧ Hid (pairOk p x y = true)) ∧ i = .int .i64 j ∧ Below W2.heap.size W2 wr) (fun i _ => 2 - (intOf i).toNat)
    case atStart => exact ⟨0, .inl rfl, rfl, Below.refl _ _⟩
    case round =>
      obtain ⟨j, hj, rfl, hbr⟩ := hrel
      clear HW'
      obtain ⟨ad, rfl, hl4, hc4, hi4⟩ := at_int (hE2.belowAll hbr) (j := 0) (by simp)
      obtain ⟨ad', e4, hl5, hc5, hi5⟩ := at_int (hE2.belowAll hbr) (j := 1) (by simp)
      injection e4 with e4
      subst e4
      simp only [List.getElem_cons_zero, List.getElem_cons_succ] at hc4 hc5
      have hc4' : wr.cell? ad = some (.int .i64 (x : Int)) := (show ad.add 0 = ad by simp [Addr.add]) ▸ hc4
      have hc5' : wr.cell? ⟨ad.block, ad.off + 1, none⟩ = some (.int .i64 (y : Int)) := (show ad.add 1 = ⟨ad.block, ad.off + 1, none⟩ by simp [Addr.add]) ▸ hc5
      clear hc4 hc5
      rcases hj with rfl | ⟨rfl, HP⟩ | ⟨rfl, HP⟩
      · go_wp2
        obtain ⟨w0, rfl⟩ : ∃ w0 : World, w0 = wr := ⟨_, rfl⟩
        go_loopw [21] (fun i wr => ∃ q : Int, (q = 0 ∨ q = 1 ∧ Hid (pairOk p x y = true)) ∧ i = .int .i64 q ∧ Below w0.heap.size w0 wr) (fun i _ => 1 - (intOf i).toNat)
        case atStart => exact ⟨0, .inl rfl, rfl, Below.refl _ _⟩
        case round =>
          obtain ⟨q, hq, rfl, hbq⟩ := hrel
          have hbx : Below W2.heap.size W2 wr := below_then hbr hbr.size hbq
          rcases hq with rfl | ⟨rfl, HQ⟩
          · have c0q := (hbx.cell (p := ⟨w.heap.size, 0, none⟩) (by rw [HZ.out]; simp)).trans c0
            have c1q := (hbx.cell (p := ⟨w.heap.size, 1, none⟩) (by rw [HZ.out]; simp)).trans c1
            have hcq := (hbq.cell (p := ⟨ad.block, ad.off + 1, none⟩) hl5).trans hc5'
            have hBq := hB2.belowAll hbx
            have hend : pairOk p x y = !(storesTo p x y || storesTo p y x) := rfl
            clear hc4' hc5'
            cases h1 : storesTo p x y <;> cases h2 : storesTo p y x
            all_goals
              rw [h1, h2] at hend
              have HM := Lib.hid (And.intro h1 h2)
              have HE := Lib.hid hend
              have tok1 : True := trivial
              clear h1 h2 hend
              go_wp2_with (first
                | (go_at_call 81; have _t := tok1; refine (storesTo_calls p HF.out x y hx hy _ _ _ _ _ S hBq).mono ?_; rintro e w3 ⟨rfl, hb3⟩; rw [HM.out.1]; have hb3x := below_then hbq hbq.size hb3; have d0 := (hb3.cell (p := ⟨w.heap.size, 0, none⟩) (by have := hbx.size; have := HZ.out; simp; omega)).trans c0q; have d1 := (hb3.cell (p := ⟨w.heap.size, 1, none⟩) (by have := hbx.size; have := HZ.out; simp; omega)).trans c1q; clear tok1) | (go_at_call 81; refine (storesTo_calls p HF.out y x hy hx _ _ _ _ _ S (hBq.belowAll hb3)).mono ?_; rintro e w4 ⟨rfl, hb4⟩; rw [HM.out.2]; have hb4x := below_then hb3x hb3x.size hb4))
            · go_roundw
              case rel => exact ⟨1, .inr ⟨rfl, by unfold Hid; rw [HE.out]; rfl⟩, rfl, by assumption⟩
              case measure => simp [intOf]
            all_goals
              go_ret
              exact ⟨ret_bool (by rw [HE.out]; rfl), hb2.trans ((below_then hbr hbr.size (by assumption)).mono (by rw [HZ.out]; omega))⟩
          · go_wp2
            go_roundw
            case rel => exact ⟨1, .inr (.inl ⟨rfl, HQ⟩), rfl, hbx⟩
            case measure => simp [intOf]
      · go_wp2
        all_goals
          obtain ⟨w0, rfl⟩ : ∃ w0 : World, w0 = wr := ⟨_, rfl⟩
          go_loopw [21] (fun i wr => i = .int .i64 0 ∧ Below w0.heap.size w0 wr) (fun i _ => 0)
          case atStart => exact ⟨rfl, Below.refl _ _⟩
          case round =>
            obtain ⟨rfl, hbq⟩ := hrel
            have hbx : Below W2.heap.size W2 wr := below_then hbr hbr.size hbq
            go_wp2
            go_roundw
            case rel => exact ⟨2, .inr (.inr ⟨rfl, HP⟩), rfl, hbx⟩
            case measure => simp [intOf]
      · go_wp2
        go_ret
        exact ⟨ret_bool HP.out.symm, hb2.trans (hbr.mono (by rw [HZ.out]; omega))⟩
  · go_enter Try.func52, Try.ntmps52
    go_wp2
    rw [← HW'.out]
    go_loopw [11] (fun i wr => ∃ j : Int, (j = 0 ∨ j = 1 ∧ Hid (pairOk p x y = true) ∨ j = 2 ∧ Hid (pairOk p x y = true)) ∧ i = .int .i64 j ∧ Below W2.heap.size W2 wr) (fun i _ => 2 - (intOf i).toNat)
    case atStart => exact ⟨0, .inl rfl, rfl, Below.refl _ _⟩
    case round =>
      obtain ⟨j, hj, rfl, hbr⟩ := hrel
      clear HW'
      obtain ⟨ad, rfl, hl4, hc4, hi4⟩ := at_int (hE2.belowAll hbr) (j := 0) (by simp)
      obtain ⟨ad', e4, hl5, hc5, hi5⟩ := at_int (hE2.belowAll hbr) (j := 1) (by simp)
      injection e4 with e4
      subst e4
      simp only [List.getElem_cons_zero, List.getElem_cons_succ] at hc4 hc5
      have hc4' : wr.cell? ad = some (.int .i64 (x : Int)) := (show ad.add 0 = ad by simp [Addr.add]) ▸ hc4
      have hc5' : wr.cell? ⟨ad.block, ad.off + 1, none⟩ = some (.int .i64 (y : Int)) := (show ad.add 1 = ⟨ad.block, ad.off + 1, none⟩ by simp [Addr.add]) ▸ hc5
      clear hc4 hc5
      rcases hj with rfl | ⟨rfl, HP⟩ | ⟨rfl, HP⟩
      · go_wp2
        obtain ⟨w0, rfl⟩ : ∃ w0 : World, w0 = wr := ⟨_, rfl⟩
        go_loopw [21] (fun i wr => ∃ q : Int, (q = 0 ∨ q = 1 ∧ Hid (pairOk p x y = true)) ∧ i = .int .i64 q ∧ Below w0.heap.size w0 wr) (fun i _ => 1 - (intOf i).toNat)
        case atStart => exact ⟨0, .inl rfl, rfl, Below.refl _ _⟩
        case round =>
          obtain ⟨q, hq, rfl, hbq⟩ := hrel
          have hbx : Below W2.heap.size W2 wr := below_then hbr hbr.size hbq
          rcases hq with rfl | ⟨rfl, HQ⟩
          · have c0q := (hbx.cell (p := ⟨w.heap.size, 0, none⟩) (by rw [HZ.out]; simp)).trans c0
            have c1q := (hbx.cell (p := ⟨w.heap.size, 1, none⟩) (by rw [HZ.out]; simp)).trans c1
            have hcq := (hbq.cell (p := ⟨ad.block, ad.off + 1, none⟩) hl5).trans hc5'
            have hBq := hB2.belowAll hbx
            have hend : pairOk p x y = !(storesTo p x y || storesTo p y x) := rfl
            clear hc4' hc5'
            cases h1 : storesTo p x y <;> cases h2 : storesTo p y x
            all_goals
              rw [h1, h2] at hend
              have HM := Lib.hid (And.intro h1 h2)
              have HE := Lib.hid hend
              have tok1 : True := trivial
              clear h1 h2 hend
              go_wp2_with (first
                | (go_at_call 81; have _t := tok1; refine (storesTo_calls p HF.out x y hx hy _ _ _ _ _ S hBq).mono ?_; rintro e w3 ⟨rfl, hb3⟩; rw [HM.out.1]; have hb3x := below_then hbq hbq.size hb3; have d0 := (hb3.cell (p := ⟨w.heap.size, 0, none⟩) (by have := hbx.size; have := HZ.out; simp; omega)).trans c0q; have d1 := (hb3.cell (p := ⟨w.heap.size, 1, none⟩) (by have := hbx.size; have := HZ.out; simp; omega)).trans c1q; clear tok1) | (go_at_call 81; refine (storesTo_calls p HF.out y x hy hx _ _ _ _ _ S (hBq.belowAll hb3)).mono ?_; rintro e w4 ⟨rfl, hb4⟩; rw [HM.out.2]; have hb4x := below_then hb3x hb3x.size hb4))
            · go_roundw
              case rel => exact ⟨1, .inr ⟨rfl, by unfold Hid; rw [HE.out]; rfl⟩, rfl, by assumption⟩
              case measure => simp [intOf]
            all_goals
              go_ret
              exact ⟨ret_bool (by rw [HE.out]; rfl), hb2.trans ((below_then hbr hbr.size (by assumption)).mono (by rw [HZ.out]; omega))⟩
          · go_wp2
            go_roundw
            case rel => exact ⟨1, .inr (.inl ⟨rfl, HQ⟩), rfl, hbx⟩
            case measure => simp [intOf]
      · go_wp2
        all_goals
          obtain ⟨w0, rfl⟩ : ∃ w0 : World, w0 = wr := ⟨_, rfl⟩
          go_loopw [21] (fun i wr => i = .int .i64 0 ∧ Below w0.heap.size w0 wr) (fun i _ => 0)
          case atStart => exact ⟨rfl, Below.refl _ _⟩
          case round =>
            obtain ⟨rfl, hbq⟩ := hrel
            have hbx : Below W2.heap.size W2 wr := below_then hbr hbr.size hbq
            go_wp2
            go_roundw
            case rel => exact ⟨2, .inr (.inr ⟨rfl, HP⟩), rfl, hbx⟩
            case measure => simp [intOf]
      · go_wp2
        go_ret
        exact ⟨ret_bool HP.out.symm, hb2.trans (hbr.mono (by rw [HZ.out]; omega))⟩
end Go.Proofs.Ytcpabkfoalhldaa
namespace Go.Proofs.Ytcpabkfoalhldaa
open Go.RowKit
set_option linter.unusedVariables false
set_option linter.unusedSimpArgs false

theorem touched_eq (f : List Deed → List Int) (p : Prog) (b : Nat) : touched f p b = setsOf f 4 p b := (setsOf_eq f 4 p b).symm

set_option maxHeartbeats 8000000 in
set_option maxRecDepth 100000 in
theorem l23Apart_calls (p : Prog) (hf : formOk p = true) (a b : Nat) (ha : a < p.bodies.length) (hb : b < p.bodies.length) (A B : Option Addr) (ca cb : Nat) (w : World) (S : Nat → Prop) (hB : Row (Kd.slice kAct) w S B p.bodies) :
    Calls Try.prog 53 #[.agg #[.slice A p.cells.length ca, .slice B p.bodies.length cb], .int .i64 (a : Nat), .int .i64 (b : Nat)] w fun e w' => e = .returned (.bool (apart2 p a b)) ∧ Below w.heap.size w w' := by
  have hlen := formOk_len hf
  have hc := fun f => l23Sets_calls p hf 4 (Nat.le_refl _) f
  have hB1 := fun o => hB.belowAll (bal' w o)
  have hend : apart2 p a b = (!meets (setsOf chWrites 4 p a) (setsOf chWrites 4 p b) && !meets (setsOf chWrites 4 p a) (setsOf chReads 4 p b) && !meets (setsOf chReads 4 p a) (setsOf chWrites 4 p b)) := by
    simp only [apart2, touched_eq]
  have HC := Lib.hid hc
  clear hc
  cases h1 : meets (setsOf chWrites 4 p a) (setsOf chWrites 4 p b) <;> cases h2 : meets (setsOf chWrites 4 p a) (setsOf chReads 4 p b) <;> cases h3 : meets (setsOf chReads 4 p a) (setsOf chWrites 4 p b)
  all_goals
    rw [h1, h2, h3] at hend
    have HM := Lib.hid (And.intro h1 (And.intro h2 h3))
    have HEND := Lib.hid hend
    clear h1 h2 h3 hend
    have tok1 : True := trivial
    go_enter Try.func53, Try.ntmps53
    go_wp2_with (first
      | (go_at_call 44; have _t := tok1; refine (HC.out a ha (by omega) _ _ _ _ _ S (hB1 _)).mono ?_; rintro e w1 ⟨v, u, rfl, hv, hu, hb1⟩; have hbw1 := (bal' w _).trans (hb1.mono (by simp)); have hc1 := hb1.cell (p := ⟨w.heap.size, 0, none⟩) (by simp); have hc2 := hb1.cell (p := ⟨w.heap.size, 1, none⟩) (by simp); simp [go_sem] at hc1 hc2; obtain ⟨A1, n1, rfl, _, hr1⟩ := OwnI.row hv; obtain ⟨A2, n2, rfl, _, hr2⟩ := OwnI.row hu; clear tok1) | (go_at_call 44; refine (HC.out b hb (by omega) _ _ _ _ _ S (hB.belowAll hbw1)).mono ?_; rintro e w2 ⟨v', u', rfl, hv', hu', hb2⟩; have hr3 := hr1.belowAll hb2; have hr4 := hr2.belowAll hb2; obtain ⟨A3, n3, rfl, _, hr5⟩ := OwnI.row hv'; obtain ⟨A4, n4, rfl, _, hr6⟩ := OwnI.row hu'; have hbw2 := hbw1.trans (hb2.mono hbw1.size); have tok2 : True := trivial) | (go_at_call 82; have _t := tok2; refine (l23Meet_calls _ _ _ _ _ _ _ _ _ hr4 hr6).mono ?_; rintro e w3 ⟨rfl, hb3⟩; rw [HM.out.1]; have hr7 := hr4.belowAll hb3; have hr8 := hr5.belowAll hb3; have hr9 := hr3.belowAll hb3; have hr10 := hr6.belowAll hb3; have hbw3 := hbw2.trans (hb3.mono hbw2.size); have tok3 : True := trivial; clear tok2) | (go_at_call 82; have _t := tok3; refine (l23Meet_calls _ _ _ _ _ _ _ _ _ hr7 hr8).mono ?_; rintro e w4 ⟨rfl, hb4⟩; rw [HM.out.2.1]; have hr11 := hr9.belowAll hb4; have hr12 := hr10.belowAll hb4; have hbw4 := hbw3.trans (hb4.mono hbw3.size); have tok4 : True := trivial; clear tok3) | (go_at_call 82; have _t := tok4; refine (l23Meet_calls _ _ _ _ _ _ _ _ _ hr11 hr12).mono ?_; rintro e w5 ⟨rfl, hb5⟩; rw [HM.out.2.2]; have hbw5 := hbw4.trans (hb5.mono hbw4.size)))
    go_ret
    exact ⟨ret_bool HEND.out.symm, by assumption⟩
end Go.Proofs.Ytcpabkfoalhldaa
namespace Go.Proofs.Ytcpabkfoalhldaa
open Go.RowKit
set_option linter.unusedVariables false
set_option linter.unusedSimpArgs false
attribute [local go_sem ↓] Go.wp_at_zero Go.wp_at_succ

theorem apartKids_two (p : Prog) {l : List Int} (h : l.length = 2) : apartKids p l = apart2 p (l[0]'(by omega)).toNat (l[1]'(by omega)).toNat := by
  match l, h with
  | [a, b], _ => rfl
theorem apartKids_not (p : Prog) {l : List Int} (h : l.length ≠ 2) : apartKids p l = true := by
  match l, h with
  | [], _ => rfl
  | [_], _ => rfl
  | [_, _], h => exact absurd rfl h
  | _ :: _ :: _ :: _, _ => rfl
def actsApart (p : Prog) (acts : List Act) : Bool := acts.all fun a => apartKids p a.kids
theorem apartOk_eq (p : Prog) : apartOk p = (progOk p && p.bodies.all (actsApart p)) := rfl

set_option maxHeartbeats 8000000 in
set_option maxRecDepth 100000 in
theorem specApartOk_calls (p : Prog) (A B : Option Addr) (ca cb : Nat) (w : World) (S : Nat → Prop) (hA : Row Kd.int w S A p.cells) (hB : Row (Kd.slice kAct) w S B p.bodies) :
    Calls Try.prog 24 #[.agg #[.slice A p.cells.length ca, .slice B p.bodies.length cb]] w fun e w' => e = .returned (.bool (apartOk p)) ∧ Below w.heap.size w w' := by
  have hA1 := fun o => hA.belowAll (bal' w o)
  have hB1 := fun o => hB.belowAll (bal' w o)
  cases hp : progOk p
  · have HP := Lib.hid hp
    clear hp
    go_enter Try.func24, Try.ntmps24
    go_wp2_with (go_at_call 42; refine (specProgOk_calls p _ _ _ _ _ S (hA1 _) (hB1 _)).mono ?_; rintro e w1 ⟨rfl, hb2⟩; rw [HP.out])
    go_ret
    exact ⟨by rw [apartOk_eq, HP.out]; rfl, (bal' w _).trans (hb2.mono (by simp))⟩
  · have hf : formOk p = true := by simp only [progOk, Bool.and_eq_true] at hp; exact hp.1
    have hlen := formOk_len hf
    have HP := Lib.hid hp
    have HF := Lib.hid hf
    have hm2 := hB.1
    clear hp hf
    go_enter Try.func24, Try.ntmps24
    go_wp2_with (go_at_call 42; refine (specProgOk_calls p _ _ _ _ _ S (hA1 _) (hB1 _)).mono ?_; rintro e w1 ⟨rfl, hb2⟩; rw [HP.out]; have hbw := (bal' w _).trans (hb2.mono (by simp)); have c0 := hb2.cell (p := ⟨w.heap.size, 0, none⟩) (by simp); have c1 := hb2.cell (p := ⟨w.heap.size, 1, none⟩) (by simp); simp [go_sem] at c0 c1)
    have hzz : w.heap.size < w1.heap.size := by have := hb2.size; simp at this; omega
    have hBw := hB.belowAll hbw
    clear hb2 hA1 hB1 hA hB
    go_loopw [3, 4, 5] (fun i _ _ wr => ∃ j : Nat, j ≤ p.bodies.length ∧ i = .int .i64 j ∧ Hid ((p.bodies.take j).all (actsApart p) = true) ∧ Below w1.heap.size w1 wr) (fun i _ _ _ => p.bodies.length - (intOf i).toNat)
    case atStart => exact ⟨0, Nat.zero_le _, rfl, by simp [Hid], Below.refl _ _⟩
    case round =>
      obtain ⟨j, hj, rfl, HA, hbr⟩ := hrel
      have c0r := (hbr.cell (p := ⟨w.heap.size, 0, none⟩) hzz).trans c0
      have c1r := (hbr.cell (p := ⟨w.heap.size, 1, none⟩) hzz).trans c1
      by_cases hlt : j < p.bodies.length
      · obtain ⟨ad, C, cc, rfl, hl, hc, hcl, hC⟩ := at_slice (hBw.belowAll hbr) hlt
        have hma := hC.1
        go_wp2
        obtain ⟨w0, rfl⟩ : ∃ w0 : World, w0 = wr := ⟨_, rfl⟩
        go_loopw [4, 5] (fun i _ wr => ∃ k : Nat, k ≤ p.bodies[j].length ∧ i = .int .i64 k ∧ Hid ((p.bodies[j].take k).all (fun a => apartKids p a.kids) = true) ∧ Below w0.heap.size w0 wr) (fun i _ _ => p.bodies[j].length - (intOf i).toNat)
        case atStart => exact ⟨0, Nat.zero_le _, rfl, by simp [Hid], Below.refl _ _⟩
        case round =>
          obtain ⟨k, hk, rfl, HB, hbk⟩ := hrel
          have hz0 := hbr.size
          have hbx : Below w1.heap.size w1 wr := below_then hbr hz0 hbk
          have c0k := (hbx.cell (p := ⟨w.heap.size, 0, none⟩) hzz).trans c0
          have c1k := (hbx.cell (p := ⟨w.heap.size, 1, none⟩) hzz).trans c1
          have hck := (hbk.cell (p := ad.add j) (by rw [block_add]; exact hl)).trans hc
          by_cases hlk : k < p.bodies[j].length
          · obtain ⟨ad2, D, cd, E, ce, rfl, hl3, k0, k1, k2, k3, hcd, hce, hD, hE, hi1, hi2⟩ := at_act (hC.belowAll hbk) hlk
            have hkids := (formOk_acts HF.out hlt).2 _ (List.getElem_mem hlk)
            by_cases h2 : p.bodies[j][k].kids.length = 2
            · obtain ⟨ad3, rfl, hl4, hc4, hi4⟩ := at_int hE (j := 0) (by omega)
              obtain ⟨ad4, e4, hl5, hc5, hi5⟩ := at_int hE (j := 1) (by omega)
              injection e4 with e4
              subst e4
              have ha1 := hkids.2 _ (List.getElem_mem (show 0 < p.bodies[j][k].kids.length by omega))
              have ha2 := hkids.2 _ (List.getElem_mem (show 1 < p.bodies[j][k].kids.length by omega))
              obtain ⟨x, hx⟩ : ∃ x : Nat, p.bodies[j][k].kids[0]'(by omega) = (x : Int) := ⟨(p.bodies[j][k].kids[0]'(by omega)).toNat, by omega⟩
              obtain ⟨y, hy⟩ : ∃ y : Nat, p.bodies[j][k].kids[1]'(by omega) = (y : Int) := ⟨(p.bodies[j][k].kids[1]'(by omega)).toNat, by omega⟩
              have hap := apartKids_two p h2
              rw [hx, hy] at hap
              rw [hx] at hc4 ha1
              rw [hy] at hc5 ha2
              rw [h2] at k2
              simp only [Int.toNat_natCast] at hap
              have hBk := hBw.belowAll hbx
              have hcall := fun w' hb => l23Apart_calls p HF.out x y (by omega) (by omega) A (some ad) ca cb w' S (hBk.belowAll hb)
              have HCALL := Lib.hid hcall
              have HI4 := Lib.hid hi4
              have hc4' : wr.cell? ad3 = some (.int .i64 (x : Int)) := (show ad3.add 0 = ad3 by simp [Addr.add]) ▸ hc4
              have hc5' : wr.cell? ⟨ad3.block, ad3.off + 1, none⟩ = some (.int .i64 (y : Int)) := (show ad3.add 1 = ⟨ad3.block, ad3.off + 1, none⟩ by simp [Addr.add]) ▸ hc5
              have HAP := Lib.hid hap
              clear hc5 hx hy hcall hE hD hi4 HI4 hi5 hc4 hap
              go_wp2
              have hbw2 : Below wr.heap.size wr wr.drew := (Below.refl _ _).drew
              have hzr := hbx.size
              cases hq : apart2 p x y
              all_goals
                have HQ := Lib.hid hq
                clear hq
                go_region_held3 (fun w' => w'.cell? ⟨w.heap.size, 0, none⟩ = some (.slice A p.cells.length ca) ∧ w'.cell? ⟨w.heap.size, 1, none⟩ = some (.slice (some ad) p.bodies.length cb) ∧ w'.cell? ad3 = some (.int .i64 (x : Int)) ∧ w'.cell? ⟨ad3.block, ad3.off + 1, none⟩ = some (.int .i64 (y : Int)) ∧ Below wr.heap.size wr w') (go_keep)
                  (first | (go_at_call 53; refine (HCALL.out _ ‹Below wr.heap.size wr _›).mono ?_; rintro e w3 ⟨rfl, hb3⟩; rw [HQ.out]; have q0 := below_then ‹Below wr.heap.size wr _› (Below.size ‹Below wr.heap.size wr _›) hb3; have q1 := (q0.cell (p := ⟨w.heap.size, 0, none⟩) (by simp; omega)).trans c0k; have q2 := (q0.cell (p := ⟨w.heap.size, 1, none⟩) (by simp; omega)).trans c1k; have q3 := (q0.cell (p := ad3) hl4).trans hc4'; have q4 := (q0.cell (p := ⟨ad3.block, ad3.off + 1, none⟩) hl5).trans hc5'))
                obtain ⟨_, _, _, _, hbx2⟩ := ‹_ ∧ _ ∧ _ ∧ _ ∧ Below wr.heap.size wr w3›
                go_wp2
              · go_ret
                refine ⟨ret_bool ?_, below_then hbw (by have := hbw.size; omega) (below_then hbx hbx.size hbx2)⟩
                rw [apartOk_eq, all_false_of _ _ j hlt (by unfold actsApart; exact all_false_of _ _ k hlk (by rw [HAP.out, HQ.out]))]; simp
              · go_roundw
                case rel => exact ⟨k + 1, by omega, by go_num, by unfold Hid; rw [all_take_snoc _ _ _ hlk, HB.out, HAP.out, HQ.out]; rfl, below_then hbk hbk.size hbx2⟩
                case measure => simp [intOf]; omega
            · have hap := apartKids_not p h2
              have hb : ((p.bodies[j][k].kids.length : Int) == 2) = false := by simp; omega
              have HAP := Lib.hid hap
              clear h2 hap
              go_wp2
              go_quiet (fail)
              go_wp2
              go_roundw
              case rel => exact ⟨k + 1, by omega, by go_num, by unfold Hid; rw [all_take_snoc _ _ _ hlk, HB.out, HAP.out]; rfl, by repeat (first | exact hbk | apply Below.drewN | refine below_drewN' ?_ _)⟩
              case measure => simp [intOf]; omega
          · go_wp2
            go_roundw
            case rel =>
              refine ⟨j + 1, by omega, by go_num, ?_, hbx⟩
              unfold Hid
              rw [all_take_snoc _ _ _ hlt, HA.out]
              have := HB.out
              rw [all_take_all _ _ _ (by omega)] at this
              simpa [actsApart] using this
            case measure => simp [intOf]; omega
      · go_wp2
        go_ret
        refine ⟨ret_bool ?_, below_then hbw (by have := hbw.size; omega) hbr⟩
        have := HA.out
        rw [all_take_all _ _ _ (by omega)] at this
        rw [apartOk_eq, HP.out, this]; rfl
end Go.Proofs.Ytcpabkfoalhldaa
namespace Go.Proofs.Ytcpabkfoalhldaa
open Go.RowKit
set_option linter.unusedVariables false
set_option linter.unusedSimpArgs false

set_option maxHeartbeats 4000000 in
set_option maxRecDepth 100000 in
theorem kidsApart_nil (p : Prog) (A B E : Option Addr) (ca cb ce : Nat) (w : World) :
    Calls Try.prog 52 #[.agg #[.slice A p.cells.length ca, .slice B p.bodies.length cb], .slice E 0 ce] w fun e w' => e = .returned (.bool true) ∧ Below w.heap.size w w' := by
  go_enter Try.func52, Try.ntmps52
  go_wp2
  go_loopw [11] (fun i wr => i = .int .i64 0 ∧ Below w.heap.size w wr) (fun i _ => 0)
  case atStart => exact ⟨rfl, bal' w _⟩
  case round =>
    obtain ⟨rfl, hbr⟩ := hrel
    go_wp2
    go_ret
    exact ⟨rfl, hbr⟩
set_option maxHeartbeats 4000000 in
set_option maxRecDepth 100000 in
theorem kidsApart_one (p : Prog) (x : Nat) (A B E : Option Addr) (ca cb ce : Nat) (hce : 1 ≤ ce) (w : World) (S2 : Nat → Prop) (hE : Row Kd.int w S2 E [(x : Int)]) :
    Calls Try.prog 52 #[.agg #[.slice A p.cells.length ca, .slice B p.bodies.length cb], .slice E 1 ce] w fun e w' => e = .returned (.bool true) ∧ Below w.heap.size w w' := by
  rcases Nat.eq_or_lt_of_le hce with hce2 | hce2
  · subst hce2
    go_enter Try.func52, Try.ntmps52
    go_wp2
    go_loopw [11] (fun i wr => ∃ j : Int, (j = 0 ∨ j = 1) ∧ i = .int .i64 j ∧ Below w.heap.size w wr) (fun i _ => 1 - (intOf i).toNat)
    case atStart => exact ⟨0, .inl rfl, rfl, bal' w _⟩
    case round =>
      obtain ⟨j, hj, rfl, hbr⟩ := hrel
      obtain ⟨ad, rfl, hl4, hc4, hi4⟩ := at_int (hE.belowAll hbr) (j := 0) (by simp)
      simp only [List.getElem_cons_zero] at hc4
      have hc4' : wr.cell? ad = some (.int .i64 (x : Int)) := (show ad.add 0 = ad by simp [Addr.add]) ▸ hc4
      clear hc4
      rcases hj with rfl | rfl
      · go_wp2
        obtain ⟨w0, rfl⟩ : ∃ w0 : World, w0 = wr := ⟨_, rfl⟩
        go_loopw [21] (fun i wr => i = .int .i64 0 ∧ Below w0.heap.size w0 wr) (fun i _ => 0)
        case atStart => exact ⟨rfl, Below.refl _ _⟩
        case round =>
          obtain ⟨rfl, hbq⟩ := hrel
          go_wp2
          go_roundw
          case rel => exact ⟨1, .inr rfl, rfl, below_then hbr hbr.size hbq⟩
          case measure => simp [intOf]
      · go_wp2
        go_ret
        exact ⟨rfl, hbr⟩
  · go_enter Try.func52, Try.ntmps52
    go_wp2
    go_loopw [11] (fun i wr => ∃ j : Int, (j = 0 ∨ j = 1) ∧ i = .int .i64 j ∧ Below w.heap.size w wr) (fun i _ => 1 - (intOf i).toNat)
    case atStart => exact ⟨0, .inl rfl, rfl, bal' w _⟩
    case round =>
      obtain ⟨j, hj, rfl, hbr⟩ := hrel
      obtain ⟨ad, rfl, hl4, hc4, hi4⟩ := at_int (hE.belowAll hbr) (j := 0) (by simp)
      simp only [List.getElem_cons_zero] at hc4
      have hc4' : wr.cell? ad = some (.int .i64 (x : Int)) := (show ad.add 0 = ad by simp [Addr.add]) ▸ hc4
      clear hc4
      rcases hj with rfl | rfl
      · go_wp2
        obtain ⟨w0, rfl⟩ : ∃ w0 : World, w0 = wr := ⟨_, rfl⟩
        go_loopw [21] (fun i wr => i = .int .i64 0 ∧ Below w0.heap.size w0 wr) (fun i _ => 0)
        case atStart => exact ⟨rfl, Below.refl _ _⟩
        case round =>
          obtain ⟨rfl, hbq⟩ := hrel
          go_wp2
          go_roundw
          case rel => exact ⟨1, .inr rfl, rfl, below_then hbr hbr.size hbq⟩
          case measure => simp [intOf]
      · go_wp2
        go_ret
        exact ⟨rfl, hbr⟩
theorem kidsApart_calls (p : Prog) (hf : formOk p = true) (kids : List Int) (hk2 : kids.length ≤ 2) (hkk : ∀ k ∈ kids, 0 ≤ k ∧ k < p.bodies.length) (A B E : Option Addr) (ca cb ce : Nat) (hce : kids.length ≤ ce) (w : World) (S S2 : Nat → Prop) (hB : Row (Kd.slice kAct) w S B p.bodies) (hE : Row Kd.int w S2 E kids) :
    Calls Try.prog 52 #[.agg #[.slice A p.cells.length ca, .slice B p.bodies.length cb], .slice E kids.length ce] w fun e w' => e = .returned (.bool (kidsApart p kids)) ∧ Below w.heap.size w w' := by
  match kids, hk2, hkk, hce, hE with
  | [], _, _, _, _ => exact kidsApart_nil p A B E ca cb ce w
  | [a], _, hkk, hce, hE =>
    have h1 := hkk a (by simp)
    obtain ⟨x, rfl⟩ : ∃ x : Nat, a = (x : Int) := ⟨a.toNat, by omega⟩
    exact kidsApart_one p x A B E ca cb ce hce w S2 hE
  | [a, b], _, hkk, hce, hE =>
    have h1 := hkk a (by simp)
    have h2 := hkk b (by simp)
    obtain ⟨x, rfl⟩ : ∃ x : Nat, a = (x : Int) := ⟨a.toNat, by omega⟩
    obtain ⟨y, rfl⟩ : ∃ y : Nat, b = (y : Int) := ⟨b.toNat, by omega⟩
    exact kidsApart_two p hf x y (by omega) (by omega) A B E ca cb ce hce w S S2 hB hE
  | _ :: _ :: _ :: _, h, _, _, _ => simp at h

/-! ### The same word as the reference's -/
theorem chReads_in (ds : List Deed) (c : Int) (h : c ∈ chReads ds) : 0 ≤ c ∧ c ≤ 2 := (mem_sort3.1 h).1
theorem chWrites_in (ds : List Deed) (c : Int) (h : c ∈ chWrites ds) : 0 ≤ c ∧ c ≤ 2 := (mem_sort3.1 h).1
theorem touch_in (f : List Deed → List Int) (hf : ∀ ds, ∀ c ∈ f ds, 0 ≤ c ∧ c ≤ 2) (p : Prog) : ∀ (n b : Nat), ∀ c ∈ touch f n p b, 0 ≤ c ∧ c ≤ 2 := by
  intro n
  induction n with
  | zero => intro b c h; simp [touch] at h
  | succ n ih =>
    intro b c h
    simp only [touch, List.mem_flatMap, List.mem_append] at h
    obtain ⟨a, _, h | ⟨k, _, h⟩⟩ := h
    · exact hf _ _ h
    · exact ih _ _ h
theorem mem_touched (f : List Deed → List Int) (hf : ∀ ds, ∀ c ∈ f ds, 0 ≤ c ∧ c ≤ 2) (p : Prog) (b : Nat) (c : Int) : c ∈ touched f p b ↔ c ∈ touch f 4 p b := by
  unfold touched
  rw [mem_sort3]
  exact ⟨fun h => h.2, fun h => ⟨touch_in f hf p 4 b c h, h⟩⟩
theorem meets_iff (a b : List Int) : meets a b = true ↔ ∃ c, c ∈ a ∧ c ∈ b := by
  simp [meets, List.any_eq_true]
theorem storesTo_iff (p : Prog) (a b : Nat) : storesTo p a b = true ↔ ∃ c, c ∈ touch chWrites 4 p a ∧ (c ∈ touch chReads 4 p b ∨ c ∈ touch chWrites 4 p b) := by
  simp [storesTo, List.any_eq_true]
theorem pairOk_eq (p : Prog) (a b : Nat) : pairOk p a b = apart2 p a b := by
  have hW := mem_touched chWrites chWrites_in p
  have hR := mem_touched chReads chReads_in p
  rw [Bool.eq_iff_iff]
  unfold pairOk apart2
  simp only [Bool.and_eq_true, Bool.not_eq_true', Bool.or_eq_false_iff]
  simp only [← Bool.not_eq_true, meets_iff, storesTo_iff, hW, hR]
  constructor
  · rintro ⟨h1, h2⟩
    refine ⟨⟨?_, ?_⟩, ?_⟩
    · rintro ⟨c, h3, h4⟩; exact h1 ⟨c, h3, .inr h4⟩
    · rintro ⟨c, h3, h4⟩; exact h1 ⟨c, h3, .inl h4⟩
    · rintro ⟨c, h3, h4⟩; exact h2 ⟨c, h4, .inl h3⟩
  · rintro ⟨⟨h1, h2⟩, h3⟩
    refine ⟨?_, ?_⟩
    · rintro ⟨c, h4, h5 | h5⟩
      · exact h2 ⟨c, h4, h5⟩
      · exact h1 ⟨c, h4, h5⟩
    · rintro ⟨c, h4, h5 | h5⟩
      · exact h3 ⟨c, h5, h4⟩
      · exact h1 ⟨c, h5, h4⟩
theorem kidsApart_eq (p : Prog) (kids : List Int) : kidsApart p kids = apartKids p kids := by
  match kids with
  | [] => rfl
  | [_] => rfl
  | [a, b] => exact pairOk_eq p _ _
  | _ :: _ :: _ :: _ => rfl

set_option maxHeartbeats 8000000 in
set_option maxRecDepth 100000 in
theorem implApartOk_calls (p : Prog) (A B : Option Addr) (ca cb : Nat) (w : World) (S : Nat → Prop) (hA : Row Kd.int w S A p.cells) (hB : Row (Kd.slice kAct) w S B p.bodies) :
    Calls Try.prog 23 #[.agg #[.slice A p.cells.length ca, .slice B p.bodies.length cb]] w fun e w' => e = .returned (.bool (apartOk p)) ∧ Below w.heap.size w w' := by
  have hA1 := fun o => hA.belowAll (bal' w o)
  have hB1 := fun o => hB.belowAll (bal' w o)
  cases hp : progOk p
  · have HP := Lib.hid hp
    clear hp
    go_enter Try.func23, Try.ntmps23
    go_wp2_with (go_at_call 32; refine (implProgOk_calls p _ _ _ _ _ S (hA1 _) (hB1 _)).mono ?_; rintro e w1 ⟨rfl, hb2⟩; rw [HP.out])
    go_ret
    exact ⟨by rw [apartOk_eq, HP.out]; rfl, (bal' w _).trans (hb2.mono (by simp))⟩
  · have hf : formOk p = true := by simp only [progOk, Bool.and_eq_true] at hp; exact hp.1
    have hlen := formOk_len hf
    have HP := Lib.hid hp
    have HF := Lib.hid hf
    have hm2 := hB.1
    clear hp hf
    go_enter Try.func23, Try.ntmps23
    go_wp2_with (go_at_call 32; refine (implProgOk_calls p _ _ _ _ _ S (hA1 _) (hB1 _)).mono ?_; rintro e w1 ⟨rfl, hb2⟩; rw [HP.out]; have hbw := (bal' w _).trans (hb2.mono (by simp)); have c0 := hb2.cell (p := ⟨w.heap.size, 0, none⟩) (by simp); have c1 := hb2.cell (p := ⟨w.heap.size, 1, none⟩) (by simp); simp [go_sem] at c0 c1)
    have hzz : w.heap.size < w1.heap.size := by have := hb2.size; simp at this; omega
    have hBw := hB.belowAll hbw
    clear hb2 hA1 hB1 hA hB
    go_loopw [13] (fun i wr => ∃ j : Nat, j ≤ p.bodies.length ∧ i = .int .i64 j ∧ Hid ((p.bodies.take j).all (actsApart p) = true) ∧ Below w1.heap.size w1 wr) (fun i _ => p.bodies.length - (intOf i).toNat)
    case atStart => exact ⟨0, Nat.zero_le _, rfl, by simp [Hid], Below.refl _ _⟩
    case round =>
      obtain ⟨j, hj, rfl, HA, hbr⟩ := hrel
      by_cases hlt : j < p.bodies.length
      · obtain ⟨ad, C, cc, rfl, hl, hc, hcl, hC⟩ := at_slice (hBw.belowAll hbr) hlt
        have hma := hC.1
        go_wp2
        obtain ⟨w0, rfl⟩ : ∃ w0 : World, w0 = wr := ⟨_, rfl⟩
        go_loopw [19] (fun i wr => ∃ k : Nat, k ≤ p.bodies[j].length ∧ i = .int .i64 k ∧ Hid ((p.bodies[j].take k).all (fun a => apartKids p a.kids) = true) ∧ Below w0.heap.size w0 wr) (fun i _ => p.bodies[j].length - (intOf i).toNat)
        case atStart => exact ⟨0, Nat.zero_le _, rfl, by simp [Hid], Below.refl _ _⟩
        case round =>
          obtain ⟨k, hk, rfl, HB, hbk⟩ := hrel
          have hz0 := hbr.size
          have hbx : Below w1.heap.size w1 wr := below_then hbr hz0 hbk
          by_cases hlk : k < p.bodies[j].length
          · have c0k := (hbx.cell (p := ⟨w.heap.size, 0, none⟩) hzz).trans c0
            have c1k := (hbx.cell (p := ⟨w.heap.size, 1, none⟩) hzz).trans c1
            obtain ⟨ad2, D, cd, E, ce, rfl, hl3, k0, k1, k2, k3, hcd, hce, hD, hE, hi1, hi2⟩ := at_act (hC.belowAll hbk) hlk
            have hkids := (formOk_acts HF.out hlt).2 _ (List.getElem_mem hlk)
            have hBk := hBw.belowAll hbx
            have hzw : w.heap.size < wr.heap.size := by have := hbx.size; omega
            have hap := kidsApart_eq p p.bodies[j][k].kids
            have hcall := fun o => kidsApart_calls p HF.out p.bodies[j][k].kids hkids.1 (fun x hx => by have := hkids.2 x hx; omega) A (some ad) E ca cb ce hce _ S _ (hBk.belowAll (bal' wr o)) (hE.belowAll (bal' wr o))
            have HC := Lib.hid hcall
            have HAP := Lib.hid hap
            clear hcall hap hD hE hBk
            cases hq : apartKids p p.bodies[j][k].kids
            all_goals
              have HQ := Lib.hid hq
              clear hq
              go_wp2_with (go_at_call 52; refine (HC.out _).mono ?_; rintro e w3 ⟨rfl, hb3⟩; rw [HAP.out, HQ.out]; have hb3x := below_then hbk hbk.size ((bal' wr _).trans (hb3.mono (by simp))))
            · go_ret
              refine ⟨ret_bool ?_, below_then hbw (by have := hbw.size; omega) (below_then hbr hz0 hb3x)⟩
              rw [apartOk_eq, all_false_of _ _ j hlt (by unfold actsApart; exact all_false_of _ _ k hlk HQ.out)]; simp
            · go_roundw
              case rel => exact ⟨k + 1, by omega, by go_num, by unfold Hid; rw [all_take_snoc _ _ _ hlk, HB.out, HQ.out]; rfl, hb3x⟩
              case measure => simp [intOf]; omega
          · go_wp2
            go_roundw
            case rel =>
              refine ⟨j + 1, by omega, by go_num, ?_, hbx⟩
              unfold Hid
              rw [all_take_snoc _ _ _ hlt, HA.out]
              have := HB.out
              rw [all_take_all _ _ _ (by omega)] at this
              simpa [actsApart] using this
            case measure => simp [intOf]; omega
      · go_wp2
        go_ret
        refine ⟨ret_bool ?_, below_then hbw (by have := hbw.size; omega) hbr⟩
        have := HA.out
        rw [all_take_all _ _ _ (by omega)] at this
        rw [apartOk_eq, HP.out, this]; rfl
end Go.Proofs.Ytcpabkfoalhldaa
namespace Go.Proofs
open Go.Shelf
def Try.keysA_ren : Go.Shelf.Ren := ⟨fun | 7 => 40 | 10 => 68 | n => n, fun | 23 => 57 | 26 => 3 | 3 => 3 | 28 => 55 | 0 => 0 | 27 => 54 | 33 => 83 | 4 => 4 | n => n, fun | n => n⟩
theorem Try.keysA : Go.Proofs.SlLaysZI.n7 Try.prog Try.keysA_ren := {
  mixed := by kernel_rfl
  f7 := ⟨Try.f40.name, by decide, Try.func40.trans (congrArg some (by kernel_rfl))⟩
  f10 := ⟨Try.f68.name, by decide, Try.func68.trans (congrArg some (by kernel_rfl))⟩
  t0 := Try.underlying0
  a0 := Try.isAgg0
  z0 := Try.sizeOf0
  v0 := Try.zeroValue0
  t4 := Try.underlying4
  a4 := Try.isAgg4
  z4 := Try.sizeOf4
  v4 := Try.zeroValue4
  t23 := Try.underlying57
  a23 := Try.isAgg57
  z23 := Try.sizeOf57
  v23 := Try.zeroValue57
  t26 := Try.underlying3
  a26 := Try.isAgg3
  z26 := Try.sizeOf3
  v26 := Try.zeroValue3
  t27 := Try.underlying54
  a27 := Try.isAgg54
  z27 := Try.sizeOf54
  v27 := Try.zeroValue54
  t28 := Try.underlying55
  a28 := Try.isAgg55
  z28 := Try.sizeOf55
  v28 := Try.zeroValue55
  t33 := Try.underlying83
  a33 := Try.isAgg83
  z33 := Try.sizeOf83
  v33 := Try.zeroValue83 }
def Try.sortedA_ren : Go.Shelf.Ren := ⟨fun | 6 => 39 | 8 => 66 | 9 => 67 | 11 => 92 | 13 => 94 | 12 => 93 | 23 => 121 | 24 => 122 | 14 => 113 | 15 => 114 | 16 => 115 | 17 => 116 | 18 => 117 | 19 => 118 | 20 => 97 | 21 => 119 | 22 => 120 | 25 => 136 | 26 => 137 | 27 => 138 | 28 => 139 | 29 => 140 | 30 => 125 | 31 => 144 | n => n, fun | 26 => 3 | 28 => 55 | 24 => 23 | 0 => 0 | 3 => 3 | 37 => 115 | 48 => 144 | 50 => 146 | 4 => 4 | 40 => 138 | 39 => 137 | 45 => 87 | 5 => 5 | 9 => 9 | 51 => 160 | 55 => 164 | 57 => 169 | 58 => 170 | 33 => 83 | n => n, fun | n => n⟩
theorem Try.sortedA : Go.Proofs.SlLaysZI.n6 Try.prog Try.sortedA_ren := {
  mixed := by kernel_rfl
  f6 := ⟨Try.f39.name, by decide, Try.func39.trans (congrArg some (by kernel_rfl))⟩
  f8 := ⟨Try.f66.name, by decide, Try.func66.trans (congrArg some (by kernel_rfl))⟩
  f11 := ⟨Try.f92.name, by decide, Try.func92.trans (congrArg some (by kernel_rfl))⟩
  t0 := Try.underlying0
  a0 := Try.isAgg0
  z0 := Try.sizeOf0
  v0 := Try.zeroValue0
  t24 := Try.underlying23
  a24 := Try.isAgg23
  z24 := Try.sizeOf23
  v24 := Try.zeroValue23
  t26 := Try.underlying3
  a26 := Try.isAgg3
  z26 := Try.sizeOf3
  v26 := Try.zeroValue3
  t28 := Try.underlying55
  a28 := Try.isAgg55
  z28 := Try.sizeOf55
  v28 := Try.zeroValue55
  i26 := by kernel_rfl }
def Try.sortA_ren : Go.Shelf.Ren := ⟨fun | 5 => 67 | 8 => 94 | 7 => 93 | 19 => 121 | 20 => 122 | 10 => 113 | 11 => 114 | 12 => 115 | 13 => 116 | 14 => 117 | 15 => 118 | 16 => 97 | 17 => 119 | 18 => 120 | 30 => 136 | 31 => 137 | 32 => 138 | 33 => 139 | 34 => 140 | 35 => 125 | 40 => 144 | n => n, fun | 23 => 23 | 25 => 3 | 3 => 3 | 32 => 115 | 22 => 23 | 0 => 0 | 44 => 144 | 46 => 146 | 4 => 4 | 36 => 138 | 35 => 137 | 41 => 87 | 5 => 5 | 9 => 9 | 53 => 160 | 57 => 164 | 63 => 169 | 64 => 170 | n => n, fun | n => n⟩
theorem Try.sortA : Go.Proofs.SlLaysM.n5 Try.prog Try.sortA_ren := {
  mixed := by kernel_rfl
  f5 := ⟨Try.f67.name, by decide, Try.func67.trans (congrArg some (by kernel_rfl))⟩
  f7 := ⟨Try.f93.name, by decide, Try.func93.trans (congrArg some (by kernel_rfl))⟩
  f8 := Try.func94.trans (congrArg some (by kernel_rfl))
  f10 := ⟨Try.f113.name, by decide, Try.func113.trans (congrArg some (by kernel_rfl))⟩
  f11 := ⟨Try.f114.name, by decide, Try.func114.trans (congrArg some (by kernel_rfl))⟩
  f12 := ⟨Try.f115.name, by decide, Try.func115.trans (congrArg some (by kernel_rfl))⟩
  f13 := ⟨Try.f116.name, by decide, Try.func116.trans (congrArg some (by kernel_rfl))⟩
  f14 := ⟨Try.f117.name, by decide, Try.func117.trans (congrArg some (by kernel_rfl))⟩
  f15 := ⟨Try.f118.name, by decide, Try.func118.trans (congrArg some (by kernel_rfl))⟩
  f16 := ⟨Try.f97.name, by decide, Try.func97.trans (congrArg some (by kernel_rfl))⟩
  f17 := ⟨Try.f119.name, by decide, Try.func119.trans (congrArg some (by kernel_rfl))⟩
  f18 := ⟨Try.f120.name, by decide, Try.func120.trans (congrArg some (by kernel_rfl))⟩
  f19 := Try.func121.trans (congrArg some (by kernel_rfl))
  f20 := Try.func122.trans (congrArg some (by kernel_rfl))
  f30 := ⟨Try.f136.name, by decide, Try.func136.trans (congrArg some (by kernel_rfl))⟩
  f31 := Try.func137.trans (congrArg some (by kernel_rfl))
  f32 := Try.func138.trans (congrArg some (by kernel_rfl))
  f33 := ⟨Try.f139.name, by decide, Try.func139.trans (congrArg some (by kernel_rfl))⟩
  f34 := ⟨Try.f140.name, by decide, Try.func140.trans (congrArg some (by kernel_rfl))⟩
  f35 := ⟨Try.f125.name, by decide, Try.func125.trans (congrArg some (by kernel_rfl))⟩
  f40 := ⟨Try.f144.name, by decide, Try.func144.trans (congrArg some (by kernel_rfl))⟩
  t0 := Try.underlying0
  a0 := Try.isAgg0
  z0 := Try.sizeOf0
  v0 := Try.zeroValue0
  t3 := Try.underlying3
  a3 := Try.isAgg3
  z3 := Try.sizeOf3
  v3 := Try.zeroValue3
  t4 := Try.underlying4
  a4 := Try.isAgg4
  z4 := Try.sizeOf4
  v4 := Try.zeroValue4
  t5 := Try.underlying5
  a5 := Try.isAgg5
  z5 := Try.sizeOf5
  v5 := Try.zeroValue5
  t9 := Try.underlying9
  a9 := Try.isAgg9
  z9 := Try.sizeOf9
  v9 := Try.zeroValue9
  t22 := Try.underlying23
  a22 := Try.isAgg23
  z22 := Try.sizeOf23
  v22 := Try.zeroValue23
  t23 := Try.underlying23
  a23 := Try.isAgg23
  z23 := Try.sizeOf23
  v23 := Try.zeroValue23
  t25 := Try.underlying3
  a25 := Try.isAgg3
  z25 := Try.sizeOf3
  v25 := Try.zeroValue3
  t32 := Try.underlying115
  a32 := Try.isAgg115
  z32 := Try.sizeOf115
  v32 := Try.zeroValue115
  t35 := Try.underlying137
  a35 := Try.isAgg137
  z35 := Try.sizeOf137
  v35 := Try.zeroValue137
  t36 := Try.underlying138
  a36 := Try.isAgg138
  z36 := Try.sizeOf138
  v36 := Try.zeroValue138
  t41 := Try.underlying87
  a41 := Try.isAgg87
  z41 := Try.sizeOf87
  v41 := Try.zeroValue87
  t44 := Try.underlying144
  a44 := Try.isAgg144
  z44 := Try.sizeOf144
  v44 := Try.zeroValue144
  t46 := Try.underlying146
  a46 := Try.isAgg146
  z46 := Try.sizeOf146
  v46 := Try.zeroValue146
  t53 := Try.underlying160
  a53 := Try.isAgg160
  z53 := Try.sizeOf160
  v53 := Try.zeroValue160
  t57 := Try.underlying164
  a57 := Try.isAgg164
  z57 := Try.sizeOf164
  v57 := Try.zeroValue164
  t63 := Try.underlying169
  a63 := Try.isAgg169
  z63 := Try.sizeOf169
  v63 := Try.zeroValue169
  t64 := Try.underlying170
  a64 := Try.isAgg170
  z64 := Try.sizeOf170
  v64 := Try.zeroValue170 }
end Go.Proofs
namespace Go.Proofs.Ytcpabkfoalhldaa
set_option linter.unusedVariables false
set_option linter.unusedSimpArgs false

def actFail : Act := ⟨3, [], [], 0⟩
/-- A body with a failing act behind it. -/
theorem runActs_fail (f : List Int → Nat → Option (List Int × Bool)) (l : List Act) : ∀ (cells regs : List Int) (c : List Int) (b : Bool), runActs f cells regs l = some (c, b) → runActs f cells regs (l ++ [actFail]) = some (c, true) := by
  induction l with
  | nil =>
    intro cells regs c b h
    simp [runActs] at h
    simp [runActs, actFail, h.1]
  | cons a r ih =>
    intro cells regs c b h
    rw [List.cons_append]
    unfold runActs at h ⊢
    by_cases h1 : a.kind = 1
    · rw [if_pos h1] at h ⊢
      cases hc : changeDo cells regs a.deeds with
      | none => rw [hc] at h; cases h
      | some x => obtain ⟨c1, rg⟩ := x; rw [hc] at h; exact ih _ _ _ _ h
    · rw [if_neg h1] at h ⊢
      by_cases h2 : a.kind = 2
      · rw [if_pos h2] at h ⊢
        cases hc : runKids f cells a.kids with
        | none => rw [hc] at h; cases h
        | some x =>
          obtain ⟨c1, rg⟩ := x
          rw [hc] at h
          cases rg with
          | true => simp at h ⊢; exact h.1
          | false => exact ih _ _ _ _ h
      · rw [if_neg h2] at h ⊢
        by_cases h4 : a.kind = 4 ∧ rdI regs a.reg = 0
        · rw [if_pos h4] at h ⊢; exact ih _ _ _ _ h
        · rw [if_neg h4] at h ⊢
          simp at h ⊢; exact h.1
def failed (p : Prog) : Prog := ⟨p.cells, p.bodies.set 0 (p.bodies.getD 0 [] ++ [actFail])⟩
/-- Bodies but the first do not come upon the first. -/
theorem runKids_congr (f g : List Int → Nat → Option (List Int × Bool)) (l : List Int) (h : ∀ c, ∀ k ∈ l, f c k.toNat = g c k.toNat) : ∀ cells, runKids f cells l = runKids g cells l := by
  induction l with
  | nil => intro cells; rfl
  | cons a r ih =>
    intro cells
    unfold runKids
    rw [h cells a (List.mem_cons_self ..)]
    cases g cells a.toNat with
    | none => rfl
    | some x =>
      obtain ⟨c, b⟩ := x
      cases b with
      | true => rfl
      | false => exact ih (fun c k hk => h c k (List.mem_cons_of_mem _ hk)) c
theorem runActs_congr (f g : List Int → Nat → Option (List Int × Bool)) (l : List Act) (h : ∀ a ∈ l, a.kind = 2 → ∀ c, ∀ k ∈ a.kids, f c k.toNat = g c k.toNat) : ∀ cells regs, runActs f cells regs l = runActs g cells regs l := by
  induction l with
  | nil => intro cells regs; rfl
  | cons a r ih =>
    intro cells regs
    have ih' := ih fun b hb => h b (List.mem_cons_of_mem _ hb)
    unfold runActs
    by_cases h1 : a.kind = 1
    · rw [if_pos h1, if_pos h1]
      cases changeDo cells regs a.deeds with
      | none => rfl
      | some x => exact ih' _ _
    · rw [if_neg h1, if_neg h1]
      by_cases h2 : a.kind = 2
      · rw [if_pos h2, if_pos h2, runKids_congr f g a.kids (h a (List.mem_cons_self ..) h2)]
        cases runKids g cells a.kids with
        | none => rfl
        | some x =>
          obtain ⟨c, b⟩ := x
          cases b with
          | true => rfl
          | false => exact ih' _ _
      · rw [if_neg h2, if_neg h2, ih']
theorem body_kids {p : Prog} (hf : formOk p = true) {b : Nat} (hb : b < p.bodies.length) : ∀ a ∈ p.bodies[b], a.kind = 2 → ∀ k ∈ a.kids, (b : Int) + 1 ≤ k ∧ k ≤ (p.bodies.length : Int) - 1 := by
  intro a ha h2 k hk
  have h := formOk_body hf hb
  simp only [bodyOk, Bool.and_eq_true, List.all_eq_true] at h
  rcases actOk_kinds (h.2 a ha) with e | ⟨_, _, hk'⟩ | e | ⟨e, _⟩
  · omega
  · exact hk' k hk
  · omega
  · omega
theorem failed_body (p : Prog) (b : Nat) (hb : 0 < b) : (failed p).bodies.getD b [] = p.bodies.getD b [] := by
  simp only [failed, List.getD_eq_getElem?_getD]
  rw [List.getElem?_set_ne (by omega)]
theorem oneBody_failed {p : Prog} (hf : formOk p = true) : ∀ (n : Nat) (c : List Int) (b : Nat), 0 < b → oneBody n (failed p) c b = oneBody n p c b := by
  intro n
  induction n with
  | zero => intro c b _; rfl
  | succ n ih =>
    intro c b hb
    unfold oneBody
    rw [failed_body p b hb]
    refine runActs_congr _ _ _ (fun a ha h2 c k hk => ?_) _ _
    rcases Nat.lt_or_ge b p.bodies.length with hlt | hge
    · rw [List.getD_eq_getElem?_getD, List.getElem?_eq_getElem hlt, Option.getD_some] at ha
      have := body_kids hf hlt a ha h2 k hk
      exact ih _ _ (by omega)
    · rw [List.getD_eq_getElem?_getD, List.getElem?_eq_none hge] at ha
      simp at ha
theorem run_failed {p : Prog} (hf : formOk p = true) {n : Nat} {c c' : List Int} {b : Bool} (h : oneBody (n + 1) p c 0 = some (c', b)) : oneBody (n + 1) (failed p) c 0 = some (c', true) := by
  have hl := (formOk_len hf).2.1
  unfold oneBody at h ⊢
  have e : (failed p).bodies.getD 0 [] = p.bodies.getD 0 [] ++ [actFail] := by
    simp only [failed, List.getD_eq_getElem?_getD]
    rw [List.getElem?_set_self (by omega)]; rfl
  rw [e]
  refine runActs_fail _ _ _ _ c' b ?_
  rw [← h]
  refine (runActs_congr _ _ _ (fun a ha h2 c k hk => ?_) _ _)
  rw [List.getD_eq_getElem?_getD, List.getElem?_eq_getElem (by omega : 0 < p.bodies.length), Option.getD_some] at ha
  have := body_kids hf (by omega) a ha h2 k hk
  exact oneBody_failed hf _ _ _ (by omega)
theorem body_kids_all {p : Prog} (hf : formOk p = true) {b : Nat} (hb : b < p.bodies.length) : ∀ a ∈ p.bodies[b], ∀ k ∈ a.kids, (b : Int) + 1 ≤ k ∧ k ≤ (p.bodies.length : Int) - 1 := by
  intro a ha
  have h := formOk_body hf hb
  simp only [bodyOk, Bool.and_eq_true, List.all_eq_true] at h
  exact (actOk_kids (h.2 a ha)).2
theorem actsSum_congr (f g : Int → Int) (l : List Act) (h : ∀ a ∈ l, ∀ k ∈ a.kids, f k = g k) : actsSum f l = actsSum g l := by
  unfold actsSum sumOf
  congr 1
  refine List.map_congr_left fun k hk => ?_
  obtain ⟨a, ha, hk⟩ := List.mem_flatMap.1 hk
  exact h a ha k hk
theorem tree_failed {p : Prog} (hf : formOk p = true) : ∀ (n b : Nat), tree n (failed p) b = tree n p b := by
  intro n
  induction n with
  | zero => intro b; rfl
  | succ n ih =>
    intro b
    unfold tree
    have e : actsSum (fun k => tree n (failed p) k.toNat) ((failed p).bodies.getD b []) = actsSum (fun k => tree n p k.toNat) ((failed p).bodies.getD b []) := actsSum_congr _ _ _ fun _ _ k _ => ih _
    rw [e]
    rcases Nat.eq_zero_or_pos b with rfl | hb
    · have hl := (formOk_len hf).2.1
      have e : (failed p).bodies.getD 0 [] = p.bodies.getD 0 [] ++ [actFail] := by
        simp only [failed, List.getD_eq_getElem?_getD]
        rw [List.getElem?_set_self (by omega)]; rfl
      rw [e]
      simp [actsSum, sumOf, actFail]
    · rw [failed_body p b hb]
theorem progOk_failed {p : Prog} (h : progOk p = true) (hl : (p.bodies.getD 0 []).length < 4) : progOk (failed p) = true := by
  simp only [progOk, Bool.and_eq_true] at h ⊢
  refine ⟨?_, by rw [tree_failed h.1]; exact h.2⟩
  have hb := (formOk_len h.1).2.1
  have hf := h.1
  have hlen : (failed p).bodies.length = p.bodies.length := by simp [failed]
  simp only [formOk, Bool.and_eq_true, bodiesOk, List.all_eq_true, List.mem_range] at hf ⊢
  rw [hlen]
  refine ⟨hf.1, fun i hi => ?_⟩
  have hi' := hf.2 i hi
  rcases Nat.eq_zero_or_pos i with rfl | hp
  · have e : (failed p).bodies.getD 0 [] = p.bodies.getD 0 [] ++ [actFail] := by
      simp only [failed, List.getD_eq_getElem?_getD]
      rw [List.getElem?_set_self (by omega)]; rfl
    show bodyOk ((failed p).bodies.getD 0 []) _ _ _ = true
    rw [e]
    simp only [bodyOk, Bool.and_eq_true, decide_eq_true_eq, List.length_append, List.length_singleton, List.all_append] at hi' ⊢
    refine ⟨by omega, hi'.2, ?_⟩
    simp [actFail, actOk]
  · show bodyOk ((failed p).bodies.getD i []) _ _ _ = true
    rw [failed_body p i hp]
    exact hi'
/-- The plain law. -/
theorem oneRun_failed {p : Prog} {c : List Int} {b : Bool} (h : oneRun p = some (c, b)) (hl : (p.bodies.getD 0 []).length < 4) : oneRun (failed p) = some (c, true) := by
  unfold oneRun at h ⊢
  by_cases hp : progOk p = true
  · rw [if_pos hp] at h
    rw [if_pos (progOk_failed hp hl)]
    have hf : formOk p = true := by simp only [progOk, Bool.and_eq_true] at hp; exact hp.1
    exact run_failed hf h
  · rw [if_neg hp] at h; cases h
end Go.Proofs.Ytcpabkfoalhldaa
namespace Go.Proofs.Ytcpabkfoalhldaa
set_option linter.unusedVariables false
set_option linter.unusedSimpArgs false

/-- Which cells a body touches, ascending; nothing, if there is no such body of an ok program. -/
def apartSet (f : List Deed → List Int) (p : Prog) (b : Int) : List Int := if progOk p && inR b 0 ((p.bodies.length : Int) - 1) then touched f p b.toNat else []
theorem progOk_form {p : Prog} (h : progOk p = true) : formOk p = true := by simp only [progOk, Bool.and_eq_true] at h; exact h.1
theorem touch_body (f : List Deed → List Int) (n : Nat) (p : Prog) (b : Nat) (hb : b < p.bodies.length) (c : Int) : c ∈ touch f (n + 1) p b ↔ ∃ a ∈ p.bodies[b], c ∈ f a.deeds ∨ ∃ k ∈ a.kids, c ∈ touch f n p k.toNat := by
  rw [touch, getD_at _ _ _ hb]
  simp only [List.mem_flatMap, List.mem_append]
/-- It is enough to look as deep as there are bodies. -/
theorem touch_deep (f : List Deed → List Int) {p : Prog} (hf : formOk p = true) : ∀ (n b : Nat), p.bodies.length ≤ b + n → touch f (n + 1) p b = touch f n p b := by
  intro n
  induction n with
  | zero =>
    intro b hb
    simp only [touch, List.getD_eq_getElem?_getD, List.getElem?_eq_none (show p.bodies.length ≤ b by omega), Option.getD_none, List.flatMap_nil]
  | succ n ih =>
    intro b hb
    rcases Nat.lt_or_ge b p.bodies.length with hlt | hge
    · have ha := formOk_acts hf hlt
      rw [touch, touch, getD_at _ _ _ hlt]
      have hm : ∀ a ∈ p.bodies[b], (f a.deeds ++ a.kids.flatMap fun k => touch f (n + 1) p k.toNat) = (f a.deeds ++ a.kids.flatMap fun k => touch f n p k.toNat) := by
        intro a hm
        have hk := (ha.2 a hm).2
        congr 1
        have : ∀ k ∈ a.kids, touch f (n + 1) p k.toNat = touch f n p k.toNat := fun k hk' => ih k.toNat (by have := hk k hk'; omega)
        exact congrArg List.flatten (List.map_congr_left this)
      exact congrArg List.flatten (List.map_congr_left hm)
    · rw [touch, touch, List.getD_eq_getElem?_getD, List.getElem?_eq_none hge]
      simp
theorem touched_deed (f : List Deed → List Int) (hin : ∀ ds, ∀ c ∈ f ds, 0 ≤ c ∧ c ≤ 2) {p : Prog} {b : Nat} (hb : b < p.bodies.length) {a : Act} (ha : a ∈ p.bodies[b]) : ∀ c ∈ f a.deeds, c ∈ touched f p b := by
  intro c hc
  exact mem_sort3.2 ⟨hin _ _ hc, (touch_body f 3 p b hb c).2 ⟨a, ha, .inl hc⟩⟩
theorem touched_kid (f : List Deed → List Int) {p : Prog} (hf : formOk p = true) {b : Nat} (hb : b < p.bodies.length) {a : Act} (ha : a ∈ p.bodies[b]) {k : Int} (hk : k ∈ a.kids) : ∀ c ∈ touched f p k.toNat, c ∈ touched f p b := by
  intro c hc
  have h := mem_sort3.1 hc
  refine mem_sort3.2 ⟨h.1, (touch_body f 3 p b hb c).2 ⟨a, ha, .inr ⟨k, hk, ?_⟩⟩⟩
  have hl := formOk_len hf
  have hkk := ((formOk_acts hf hb).2 a ha).2 k hk
  rw [← touch_deep f hf 3 k.toNat (by omega)]
  exact h.2
theorem sort3_up (l : List Int) : (sort3 l).Pairwise (· < ·) := by
  unfold sort3
  exact List.Pairwise.filter _ (by decide)

/-! ### What no body stores to -/
theorem mem_raws (ds : List Deed) (c : Int) : c ∈ (raws ds).2 ↔ ∃ d ∈ ds, d.kind = 2 ∧ d.a = c := by
  have key : ∀ (l : List Deed) (rw : List Int × List Int), c ∈ (l.foldl rawStep rw).2 ↔ c ∈ rw.2 ∨ ∃ d ∈ l, d.kind = 2 ∧ d.a = c := by
    intro l
    induction l with
    | nil => intro rw; simp
    | cons d r ih =>
      intro rw
      rw [List.foldl_cons, ih]
      have hs : c ∈ (rawStep rw d).2 ↔ c ∈ rw.2 ∨ (d.kind = 2 ∧ d.a = c) := by
        unfold rawStep
        by_cases h1 : d.kind = 1
        · rw [if_pos h1]
          have : ¬ (d.kind = 2 ∧ d.a = c) := fun h => by omega
          split <;> simp [this]
        · rw [if_neg h1]
          by_cases h2 : d.kind = 2
          · rw [if_pos h2]; simp [h2, eq_comm]
          · rw [if_neg h2]; simp [h2]
      rw [hs]
      constructor
      · rintro ((h | h) | ⟨e, he, h⟩)
        · exact .inl h
        · exact .inr ⟨d, List.mem_cons_self .., h⟩
        · exact .inr ⟨e, List.mem_cons_of_mem _ he, h⟩
      · rintro (h | ⟨e, he, h⟩)
        · exact .inl (.inl h)
        · rcases List.mem_cons.1 he with rfl | he
          · exact .inl (.inr h)
          · exact .inr ⟨e, he, h⟩
  have := key ds ([], [])
  simpa [raws] using this
theorem doDeed_keeps {cr cr' : List Int × List Int} {d : Deed} {n : Int} (hd : deedOk d n = true) (h : doDeed cr d = some cr') (i : Nat) (hi : ¬ (d.kind = 2 ∧ d.a = i)) : cr'.1[i]? = cr.1[i]? := by
  unfold doDeed at h
  by_cases h1 : d.kind = 1
  · rw [if_pos h1] at h; injection h with h; rw [← h]
  · rw [if_neg h1] at h
    by_cases h2 : d.kind = 2
    · rw [if_pos h2] at h; injection h with h; rw [← h]
      have hr := deedOk_kinds hd
      have : d.a.toNat ≠ i := by omega
      rw [List.getElem?_set_ne this]
    · rw [if_neg h2] at h
      by_cases h3 : d.kind = 3
      · rw [if_pos h3] at h; injection h with h; rw [← h]
      · rw [if_neg h3] at h
        by_cases h4 : d.kind = 4
        · rw [if_pos h4] at h; injection h with h; rw [← h]
        · rw [if_neg h4] at h
          split at h
          · cases h
          · injection h with h; rw [← h]
theorem doDeeds_keeps {n : Int} (i : Nat) : ∀ (l : List Deed) (cr cr' : List Int × List Int), l.all (deedOk · n) = true → doDeeds cr l = some cr' → (∀ d ∈ l, ¬ (d.kind = 2 ∧ d.a = i)) → cr'.1[i]? = cr.1[i]? := by
  intro l
  induction l with
  | nil => intro cr cr' _ h _; simp [doDeeds] at h; rw [h]
  | cons d r ih =>
    intro cr cr' ha h hi
    simp only [List.all_cons, Bool.and_eq_true] at ha
    simp only [doDeeds] at h
    cases hx : doDeed cr d with
    | none => rw [hx] at h; simp at h
    | some x =>
      rw [hx] at h
      rw [ih x cr' ha.2 h (fun e he => hi e (List.mem_cons_of_mem _ he)), doDeed_keeps ha.1 hx i (hi d (List.mem_cons_self ..))]
theorem changeDo_keeps {cells regs : List Int} {ds : List Deed} {cr : List Int × List Int} (h : changeDo cells regs ds = some cr) (hl : cells.length ≤ 3) (i : Nat) (hi : (i : Int) ∉ chWrites ds) (hi3 : i ≤ 2) : cr.1[i]? = cells[i]? := by
  unfold changeDo at h
  split at h
  · rename_i hk
    have hd := (deskOk_desk hk).2.1
    refine doDeeds_keeps i ds (cells, regs) cr hd h fun d hd' he => hi ?_
    exact mem_sort3.2 ⟨⟨by omega, by omega⟩, (mem_raws ds _).2 ⟨d, hd', he.1, he.2⟩⟩
  · cases h
/-- Cells are numbers, so many; those that are not in T are as they were. -/
structure Kept (T : Int → Prop) (c c' : List Int) : Prop where
  len : c'.length = c.length
  nums : numsOk c = true → numsOk c' = true
  same : ∀ i : Nat, i ≤ 2 → ¬ T i → c'[i]? = c[i]?
theorem Kept.refl (T : Int → Prop) (c : List Int) : Kept T c c := ⟨rfl, id, fun _ _ _ => rfl⟩
theorem Kept.trans {T : Int → Prop} {a b c : List Int} (h : Kept T a b) (k : Kept T b c) : Kept T a c := ⟨k.len.trans h.len, fun x => k.nums (h.nums x), fun i h3 hi => (k.same i h3 hi).trans (h.same i h3 hi)⟩
theorem Kept.mono {T T' : Int → Prop} {a b : List Int} (h : Kept T a b) (hT : ∀ i, T i → T' i) : Kept T' a b := ⟨h.len, h.nums, fun i h3 hi => h.same i h3 fun x => hi (hT _ x)⟩
theorem changeDo_kept {cells regs : List Int} {ds : List Deed} {cr : List Int × List Int} (h : changeDo cells regs ds = some cr) (hl : cells.length ≤ 3) : Kept (· ∈ chWrites ds) cells cr.1 := by
  have hd := changeDo_desk h
  exact ⟨hd.cl, fun _ => hd.c, fun i h3 hi => changeDo_keeps h hl i hi h3⟩
theorem runKids_kept (f : List Int → Nat → Option (List Int × Bool)) (T : Int → Prop) (l : List Int) (h : ∀ k ∈ l, ∀ c c' b, c.length ≤ 3 → f c k.toNat = some (c', b) → Kept T c c') : ∀ (c c' : List Int) (b : Bool), c.length ≤ 3 → runKids f c l = some (c', b) → Kept T c c' := by
  induction l with
  | nil => intro c c' b _ he; simp [runKids] at he; rw [he.1]; exact Kept.refl _ _
  | cons k r ih =>
    intro c c' b hl he
    unfold runKids at he
    cases hk : f c k.toNat with
    | none => rw [hk] at he; cases he
    | some x =>
      obtain ⟨c1, b1⟩ := x
      rw [hk] at he
      have h1 := h k (List.mem_cons_self ..) _ _ _ hl hk
      cases b1 with
      | true => simp at he; rw [← he.1]; exact h1
      | false => exact h1.trans (ih (fun k hk => h k (List.mem_cons_of_mem _ hk)) _ _ _ (by have := h1.len; omega) he)
theorem runActs_kept (f : List Int → Nat → Option (List Int × Bool)) (T : Int → Prop) (l : List Act) (h : ∀ a ∈ l, (∀ c ∈ chWrites a.deeds, T c) ∧ ∀ k ∈ a.kids, ∀ c c' b, c.length ≤ 3 → f c k.toNat = some (c', b) → Kept T c c') : ∀ (c regs c' : List Int) (b : Bool), c.length ≤ 3 → runActs f c regs l = some (c', b) → Kept T c c' := by
  induction l with
  | nil => intro c regs c' b _ he; simp [runActs] at he; rw [he.1]; exact Kept.refl _ _
  | cons a r ih =>
    intro c regs c' b hl he
    have ha := h a (List.mem_cons_self ..)
    have ih' := ih fun a ha => h a (List.mem_cons_of_mem _ ha)
    unfold runActs at he
    by_cases h1 : a.kind = 1
    · rw [if_pos h1] at he
      cases hc : changeDo c regs a.deeds with
      | none => rw [hc] at he; cases he
      | some x =>
        obtain ⟨c1, rg⟩ := x
        rw [hc] at he
        have hk := (changeDo_kept hc hl).mono fun i hi => ha.1 i hi
        exact hk.trans (ih' _ _ _ _ (by have := hk.len; omega) he)
    · rw [if_neg h1] at he
      by_cases h2 : a.kind = 2
      · rw [if_pos h2] at he
        cases hc : runKids f c a.kids with
        | none => rw [hc] at he; cases he
        | some x =>
          obtain ⟨c1, b1⟩ := x
          rw [hc] at he
          have hk := runKids_kept f T a.kids ha.2 _ _ _ hl hc
          cases b1 with
          | true => simp at he; rw [← he.1]; exact hk
          | false => exact hk.trans (ih' _ _ _ _ (by have := hk.len; omega) he)
      · rw [if_neg h2] at he
        by_cases h4 : a.kind = 4 ∧ rdI regs a.reg = 0
        · rw [if_pos h4] at he; exact ih' _ _ _ _ hl he
        · rw [if_neg h4] at he; simp at he; rw [← he.1]; exact Kept.refl _ _
theorem oneBody_kept {p : Prog} : ∀ (n b : Nat) (c c' : List Int) (fl : Bool), c.length ≤ 3 → oneBody n p c b = some (c', fl) → Kept (· ∈ touch chWrites n p b) c c' := by
  intro n
  induction n with
  | zero => intro b c c' fl _ h; simp [oneBody] at h
  | succ n ih =>
    intro b c c' fl hl h
    unfold oneBody at h
    rcases Nat.lt_or_ge b p.bodies.length with hb | hb
    · rw [getD_at _ _ _ hb] at h
      refine runActs_kept _ _ _ (fun a ha => ⟨fun i hi => (touch_body chWrites n p b hb i).2 ⟨a, ha, .inl hi⟩, fun k hk c c' b' hl' he => ?_⟩) _ _ _ _ hl h
      exact (ih k.toNat c c' b' hl' he).mono fun i hi => (touch_body chWrites n p b hb i).2 ⟨a, ha, .inr ⟨k, hk, hi⟩⟩
    · rw [List.getD_eq_getElem?_getD, List.getElem?_eq_none hb] at h
      simp [runActs] at h
      rw [h.1]; exact Kept.refl _ _
/-- What no body stores to stays; all is numbers, so many. -/
theorem oneRun_kept {p : Prog} {c : List Int} {b : Bool} (h : oneRun p = some (c, b)) : c.length = p.cells.length ∧ numsOk c = true ∧ ∀ i : Nat, i ≤ 2 → (i : Int) ∉ apartSet chWrites p 0 → c[i]? = p.cells[i]? := by
  unfold oneRun at h
  split at h
  · rename_i hp
    have hf := progOk_form hp
    have hl := formOk_len hf
    have hk := oneBody_kept 4 0 _ _ _ hl.1 h
    have hn : numsOk p.cells = true := by simp only [formOk, Bool.and_eq_true] at hf; exact hf.1.2
    refine ⟨hk.len, hk.nums hn, fun i h3 hi => hk.same i h3 fun ht => hi ?_⟩
    unfold apartSet
    rw [hp, show inR 0 0 ((p.bodies.length : Int) - 1) = true by simp [inR]; omega]
    exact mem_sort3.2 ⟨⟨by omega, by omega⟩, ht⟩
  · cases h
/-! ### A first body of nothing -/
def emptied (p : Prog) : Prog := ⟨p.cells, p.bodies.set 0 []⟩
end Go.Proofs.Ytcpabkfoalhldaa
namespace Go.Proofs.Ytcpabkfoalhldaa
open Go.RowKit Go.Shelf
set_option linter.unusedVariables false
set_option linter.unusedSimpArgs false

theorem sortsA (m : Nat) : AnyZI.SortsIn Try.prog Try.sortedA_ren Fence.wide m :=
  ⟨fun blk off cap ss W hH hblk hsz => callsIn_wide.2 (AnyM.slices_Sort_int Try.sortA blk off cap ss W hH hblk hsz),
   fun p cap W => callsIn_wide.2 (AnyM.slices_Sort_int_none Try.sortA p cap W)⟩
theorem keys_calls (mb : Option Nat) (W : World) : Calls Try.prog 40 #[.map mb] W fun e w' => e = .returned (.func (.func 68) #[] #[.pointer (some ⟨W.heap.size, 0, none⟩)]) ∧ w' = W.alloc (.cells #[.map mb] 57) :=
  (callsIn_wide (n := 5)).1 (AnyZI.keys_in Try.keysA Fence.wide 5 trivial rfl mb W)
theorem sort3_merge {l : List Int} (h : l.Pairwise (· ≤ ·)) : l.mergeSort (fun x y => decide (x ≤ y)) = l := by
  refine List.mergeSort_of_pairwise ?_
  exact h.imp fun h => by simpa using h
theorem cnt_keys {w : World} {b : Nat} {cs : List Int} {D : DataW Unit} {n : Nat} (ho : w.ownsMap Try.prog 3 (plainElem Try.prog 3) b n D) (hh : ∀ k, isI k → Maps.has D (.int .i64 k) = decide (k ∈ cs)) (hin : ∀ c ∈ cs, 0 ≤ c ∧ c ≤ 2) : (sort3 cs).Perm (intKeys D) := by
  have ht := ho.tidy keyedI
  obtain ⟨es, rfl, hp⟩ := ht
  have hk : ∀ p ∈ es, ∃ x, p.1 = .int .i64 x ∧ isI x := by
    obtain ⟨es', clock, hb, F, hs, hD⟩ := ho
    injection hD with hD
    intro p hp'
    have h1 : p ∈ es'.toList.map (WideElems.rg Try.prog 3 (plainElem Try.prog 3)) := by
      rw [hD] at hp'
      exact (WideShapes.sorted_perm _).mem_iff.1 hp'
    have := Maps.fit_keys F p h1
    obtain ⟨key, hkey⟩ := this
    obtain ⟨x, rfl, hx, hw⟩ := Maps.keyOf_i64 Try.underlying3 hkey
    simp [Lit.wf, IntKind.min, IntKind.max, IntKind.signed, IntKind.bits] at hw
    exact ⟨x, hx, by omega, by omega⟩
  have hnd : (sort3 cs).Nodup := (sort3_up cs).imp fun h e => by omega
  refine perm_intKeys hp (fun p hp' => by obtain ⟨x, hx, _⟩ := hk p hp'; exact ⟨x, hx⟩) hnd fun x => ?_
  rw [mem_sort3]
  constructor
  · rintro ⟨⟨h0, h2⟩, hm⟩
    rw [hh x ⟨by omega, by omega⟩]
    simpa using hm
  · intro h
    have hx : isI x := by
      unfold Maps.has at h
      rw [List.any_eq_true] at h
      obtain ⟨p, hp', hs⟩ := h
      obtain ⟨y, hy, hi⟩ := hk p hp'
      rw [hy] at hs
      have := (WideAt.sameKey_iff (a := .int .i64 y) (b := .int .i64 x) trivial).1 hs
      injection this with _ e
      rw [← e]; exact hi
    rw [hh x hx] at h
    have hm : x ∈ cs := by simpa using h
    exact ⟨hin x hm, hm⟩
set_option maxHeartbeats 1000000 in
theorem sorted_calls {W0 : World} {bm : Nat} {cs : List Int} (hm : CntMap W0 bm cs) (hin : ∀ c ∈ cs, 0 ≤ c ∧ c ≤ 2) (hl : cs.length ≤ 1000000) :
    Calls Try.prog 39 #[.func (.func 68) #[] #[.pointer (some ⟨W0.heap.size, 0, none⟩)]] (W0.alloc (.cells #[.map (some bm)] 57)) fun e w' => ∃ v, e = .returned v ∧ OwnI 3 w' W0.heap.size v (sort3 cs) ∧ Below W0.heap.size W0 w' := by
  obtain ⟨D, ho, hat, hh, hI⟩ := hm
  have hbl := ho.lt
  have hown : (W0.alloc (.cells #[.map (some bm)] 57)).ownsMap Try.prog 3 (plainElem Try.prog 3) bm cs.length D := ho.alloc _
  have hseq : SeqGives Fence.wide 2 Try.prog 68 #[.pointer (some ⟨W0.heap.size, 0, none⟩)] encZ (fun ss => ss.Perm (intKeys D)) (Maps.size D) (W0.alloc (.cells #[.map (some bm)] 57)) :=
    AnyZI.keys_gives (ρ := Try.keysA_ren) { Try.keysA with } Fence.wide _ trivial rfl (by omega) W0.heap.size bm cs.length D _ (by simp) (by simp) hown
  have hsz : Maps.size D ≤ cs.length := ho.size_le
  have cS := AnyZI.sorted_in Try.sortedA Fence.wide 5 trivial trivial trivial trivial rfl (by omega) (sortsA _) (enters_of Try.func67 (by kernel_rfl) rfl) 68 #[.pointer (some ⟨W0.heap.size, 0, none⟩)] trivial (enters_of Try.func68 (by kernel_rfl) rfl) _ _ (by unfold _root_.Go.maxLen; omega) (by omega) _ hseq
  change CallsIn _ _ Try.prog 39 _ _ _ at cS
  refine (callsIn_wide.1 cS).mono ?_
  rintro e w' ⟨v, ss, rfl, hp, hrow, hnil, hb⟩
  have he : ss.mergeSort (fun x y => decide (x ≤ y)) = sort3 cs := by
    have h1 := mergeSort_of_perm_i (hp.trans (cnt_keys ho hh hin).symm)
    have h2 := sort3_merge (l := sort3 cs) ((sort3_up cs).imp fun h => by omega)
    exact h1.trans h2
  have hlen : ss.length = (sort3 cs).length := by rw [← he, List.length_mergeSort]
  rw [he, hlen] at hrow
  refine ⟨v, rfl, (OwnI.mk (base := (W0.alloc (.cells #[.map (some bm)] 57)).heap.size) hrow (fun x hx => by have := (mem_sort3.1 hx).1; exact ⟨by omega, by omega⟩)).lower (by simp), (bal' W0 _).trans (hb.mono (by simp))⟩
end Go.Proofs.Ytcpabkfoalhldaa
namespace Go.Proofs.Ytcpabkfoalhldaa
open Go.RowKit
set_option linter.unusedVariables false
set_option linter.unusedSimpArgs false

set_option maxHeartbeats 4000000 in
set_option maxRecDepth 100000 in
theorem specApartReads_calls (p : Prog) (b : Int) (A B : Option Addr) (ca cb : Nat) (w : World) (S : Nat → Prop) (hA : Row Kd.int w S A p.cells) (hB : Row (Kd.slice kAct) w S B p.bodies) :
    Calls Try.prog 20 #[.agg #[.slice A p.cells.length ca, .slice B p.bodies.length cb], .int .i64 b] w fun e w' => ∃ v, e = .returned v ∧ OwnI 3 w' w.heap.size v (apartSet chReads p b) ∧ Below w.heap.size w w' := by
  have hA1 := fun o => hA.belowAll (bal' w o)
  have hB1 := fun o => hB.belowAll (bal' w o)
  have hm2 := hB.1
  cases hp : progOk p
  · have HP := Lib.hid hp
    have he : apartSet chReads p b = [] := by unfold apartSet; rw [hp]; rfl
    have HE := Lib.hid he
    clear hp he
    go_enter Try.func20, Try.ntmps20
    go_wp2_with (go_at_call 42; refine (specProgOk_calls p _ _ _ _ _ S (hA1 _) (hB1 _)).mono ?_; rintro e w1 ⟨rfl, hb2⟩; rw [HP.out]; have hbw := (bal' w _).trans (hb2.mono (by simp)))
    go_ret
    exact ⟨_, rfl, by rw [HE.out]; exact ownI_empty 3 w1 w.heap.size hbw.size, hbw.alloc hbw.size _⟩
  · have hf := progOk_form hp
    have hlen := formOk_len hf
    cases hr : inR b 0 ((p.bodies.length : Int) - 1)
    · have he : apartSet chReads p b = [] := by unfold apartSet; rw [hp, hr]; rfl
      have HE := Lib.hid (And.intro hp (And.intro hr he))
      clear hp hr he
      go_enter Try.func20, Try.ntmps20
      go_wp2_with (first
        | (go_at_call 42; refine (specProgOk_calls p _ _ _ _ _ S (hA1 _) (hB1 _)).mono ?_; rintro e w1 ⟨rfl, hb2⟩; rw [HE.out.1]; have hbw := (bal' w _).trans (hb2.mono (by simp)); have c0 := hb2.cell (p := ⟨w.heap.size, 0, none⟩) (by simp); have c1 := hb2.cell (p := ⟨w.heap.size, 1, none⟩) (by simp); simp [go_sem] at c0 c1) | (go_at_call 43; refine (l6In_calls _ _ _ _).mono ?_; rintro e w2 ⟨rfl, rfl⟩; rw [HE.out.2.1]))
      go_ret
      exact ⟨_, rfl, by rw [HE.out.2.2]; exact ownI_empty 3 w1 w.heap.size hbw.size, hbw.alloc hbw.size _⟩
    · have he : apartSet chReads p b = setsOf chReads 4 p b.toNat := by unfold apartSet; rw [hp, hr, Bool.and_self, if_pos rfl, touched_eq]
      have hrr : 0 ≤ b ∧ b ≤ (p.bodies.length : Int) - 1 := by simpa [inR] using hr
      obtain ⟨z, rfl⟩ : ∃ z : Nat, b = (z : Int) := ⟨b.toNat, by omega⟩
      rw [Int.toNat_natCast] at he
      have HE := Lib.hid (And.intro hp (And.intro hr he))
      have HF := Lib.hid hf
      clear hp hr he hf
      go_enter Try.func20, Try.ntmps20
      go_wp2_with (first
        | (go_at_call 42; refine (specProgOk_calls p _ _ _ _ _ S (hA1 _) (hB1 _)).mono ?_; rintro e w1 ⟨rfl, hb2⟩; rw [HE.out.1]; have hbw := (bal' w _).trans (hb2.mono (by simp)); have c0 := hb2.cell (p := ⟨w.heap.size, 0, none⟩) (by simp); have c1 := hb2.cell (p := ⟨w.heap.size, 1, none⟩) (by simp); simp [go_sem] at c0 c1) | (go_at_call 43; refine (l6In_calls _ _ _ _).mono ?_; rintro e w2 ⟨rfl, rfl⟩; rw [HE.out.2.1]) | (go_at_call 44; refine (l23Sets_calls p HF.out 4 (Nat.le_refl _) z (by omega) (by omega) _ _ _ _ _ S (hB.belowAll hbw)).mono ?_; rintro e w3 ⟨v, u, rfl, hv, hu, hb3⟩))
      go_ret
      exact ⟨_, rfl, by rw [HE.out.2.2]; exact (hv).lower hbw.size, below_then hbw hbw.size hb3⟩
set_option maxHeartbeats 4000000 in
set_option maxRecDepth 100000 in
theorem implApartReads_calls (p : Prog) (b : Int) (A B : Option Addr) (ca cb : Nat) (w : World) (S : Nat → Prop) (hA : Row Kd.int w S A p.cells) (hB : Row (Kd.slice kAct) w S B p.bodies) :
    Calls Try.prog 19 #[.agg #[.slice A p.cells.length ca, .slice B p.bodies.length cb], .int .i64 b] w fun e w' => ∃ v, e = .returned v ∧ OwnI 3 w' w.heap.size v (apartSet chReads p b) ∧ Below w.heap.size w w' := by
  have hA1 := fun o => hA.belowAll (bal' w o)
  have hB1 := fun o => hB.belowAll (bal' w o)
  have hm2 := hB.1
  cases hp : progOk p
  · have HP := Lib.hid hp
    have he : apartSet chReads p b = [] := by unfold apartSet; rw [hp]; rfl
    have HE := Lib.hid he
    clear hp he
    go_enter Try.func19, Try.ntmps19
    go_wp2_with (go_at_call 32; refine (implProgOk_calls p _ _ _ _ _ S (hA1 _) (hB1 _)).mono ?_; rintro e w1 ⟨rfl, hb2⟩; rw [HP.out]; have hbw := (bal' w _).trans (hb2.mono (by simp)))
    go_ret
    exact ⟨_, rfl, by rw [HE.out]; exact OwnI.nil _ _ _, hbw⟩
  · have hf := progOk_form hp
    have hlen := formOk_len hf
    cases hr : inR b 0 ((p.bodies.length : Int) - 1)
    · have he : apartSet chReads p b = [] := by unfold apartSet; rw [hp, hr]; rfl
      have HE := Lib.hid (And.intro hp (And.intro hr he))
      clear hp hr he
      go_enter Try.func19, Try.ntmps19
      go_wp2_with (first
        | (go_at_call 32; refine (implProgOk_calls p _ _ _ _ _ S (hA1 _) (hB1 _)).mono ?_; rintro e w1 ⟨rfl, hb2⟩; rw [HE.out.1]; have hbw := (bal' w _).trans (hb2.mono (by simp)); have c0 := hb2.cell (p := ⟨w.heap.size, 0, none⟩) (by simp); have c1 := hb2.cell (p := ⟨w.heap.size, 1, none⟩) (by simp); simp [go_sem] at c0 c1) | (go_at_call 38; refine (isPlace_calls _ _ _ (by omega)).mono ?_; rintro e w2 ⟨rfl, rfl⟩; go_loud (rw [HE.out.2.1])))
      go_ret
      exact ⟨_, rfl, by rw [HE.out.2.2]; exact OwnI.nil _ _ _, hbw⟩
    · have he : apartSet chReads p b = sort3 (touch chReads 4 p b.toNat) := by unfold apartSet; rw [hp, hr, Bool.and_self, if_pos rfl]; rfl
      have hrr : 0 ≤ b ∧ b ≤ (p.bodies.length : Int) - 1 := by simpa [inR] using hr
      obtain ⟨z, rfl⟩ : ∃ z : Nat, b = (z : Int) := ⟨b.toNat, by omega⟩
      rw [Int.toNat_natCast] at he
      have hts := touch_small chReads chReads_len hf z
      have HE := Lib.hid (And.intro hp (And.intro hr he))
      have HF := Lib.hid hf
      clear hp hr he hf
      go_enter Try.func19, Try.ntmps19
      go_wp2_with (first
        | (go_at_call 32; refine (implProgOk_calls p _ _ _ _ _ S (hA1 _) (hB1 _)).mono ?_; rintro e w1 ⟨rfl, hb2⟩; rw [HE.out.1]; have hbw := (bal' w _).trans (hb2.mono (by simp)); have c0 := hb2.cell (p := ⟨w.heap.size, 0, none⟩) (by simp); have c1 := hb2.cell (p := ⟨w.heap.size, 1, none⟩) (by simp); simp [go_sem] at c0 c1) | (go_at_call 38; refine (isPlace_calls _ _ _ (by omega)).mono ?_; rintro e w2 ⟨rfl, rfl⟩; rw [HE.out.2.1]) | (go_at_call 41; refine (apartReads_calls p HF.out z (by omega) _ _ _ _ _ S (hB.belowAll hbw)).mono ?_; rintro e w3 ⟨bm, rfl, hbm, hm, hb3⟩) | (go_at_call 40; refine (keys_calls _ _).mono ?_; rintro e w4 ⟨rfl, rfl⟩) | (go_at_call 39; refine (sorted_calls hm (touch_in chReads chReads_in p 4 z) (by omega)).mono ?_; rintro e w5 ⟨v, rfl, ho, hb5⟩))
      go_ret
      have hz3 := hb3.size
      have hz1 := hbw.size
      exact ⟨_, rfl, by rw [HE.out.2.2]; exact ho.lower (by omega), below_then (below_then hbw hz1 hb3) (by omega) hb5⟩

set_option maxHeartbeats 4000000 in
set_option maxRecDepth 100000 in
theorem specApartWrites_calls (p : Prog) (b : Int) (A B : Option Addr) (ca cb : Nat) (w : World) (S : Nat → Prop) (hA : Row Kd.int w S A p.cells) (hB : Row (Kd.slice kAct) w S B p.bodies) :
    Calls Try.prog 13 #[.agg #[.slice A p.cells.length ca, .slice B p.bodies.length cb], .int .i64 b] w fun e w' => ∃ v, e = .returned v ∧ OwnI 3 w' w.heap.size v (apartSet chWrites p b) ∧ Below w.heap.size w w' := by
  have hA1 := fun o => hA.belowAll (bal' w o)
  have hB1 := fun o => hB.belowAll (bal' w o)
  have hm2 := hB.1
  cases hp : progOk p
  · have HP := Lib.hid hp
    have he : apartSet chWrites p b = [] := by unfold apartSet; rw [hp]; rfl
    have HE := Lib.hid he
    clear hp he
    go_enter Try.func13, Try.ntmps13
    go_wp2_with (go_at_call 42; refine (specProgOk_calls p _ _ _ _ _ S (hA1 _) (hB1 _)).mono ?_; rintro e w1 ⟨rfl, hb2⟩; rw [HP.out]; have hbw := (bal' w _).trans (hb2.mono (by simp)))
    go_ret
    exact ⟨_, rfl, by rw [HE.out]; exact ownI_empty 3 w1 w.heap.size hbw.size, hbw.alloc hbw.size _⟩
  · have hf := progOk_form hp
    have hlen := formOk_len hf
    cases hr : inR b 0 ((p.bodies.length : Int) - 1)
    · have he : apartSet chWrites p b = [] := by unfold apartSet; rw [hp, hr]; rfl
      have HE := Lib.hid (And.intro hp (And.intro hr he))
      clear hp hr he
      go_enter Try.func13, Try.ntmps13
      go_wp2_with (first
        | (go_at_call 42; refine (specProgOk_calls p _ _ _ _ _ S (hA1 _) (hB1 _)).mono ?_; rintro e w1 ⟨rfl, hb2⟩; rw [HE.out.1]; have hbw := (bal' w _).trans (hb2.mono (by simp)); have c0 := hb2.cell (p := ⟨w.heap.size, 0, none⟩) (by simp); have c1 := hb2.cell (p := ⟨w.heap.size, 1, none⟩) (by simp); simp [go_sem] at c0 c1) | (go_at_call 43; refine (l6In_calls _ _ _ _).mono ?_; rintro e w2 ⟨rfl, rfl⟩; rw [HE.out.2.1]))
      go_ret
      exact ⟨_, rfl, by rw [HE.out.2.2]; exact ownI_empty 3 w1 w.heap.size hbw.size, hbw.alloc hbw.size _⟩
    · have he : apartSet chWrites p b = setsOf chWrites 4 p b.toNat := by unfold apartSet; rw [hp, hr, Bool.and_self, if_pos rfl, touched_eq]
      have hrr : 0 ≤ b ∧ b ≤ (p.bodies.length : Int) - 1 := by simpa [inR] using hr
      obtain ⟨z, rfl⟩ : ∃ z : Nat, b = (z : Int) := ⟨b.toNat, by omega⟩
      rw [Int.toNat_natCast] at he
      have HE := Lib.hid (And.intro hp (And.intro hr he))
      have HF := Lib.hid hf
      clear hp hr he hf
      go_enter Try.func13, Try.ntmps13
      go_wp2_with (first
        | (go_at_call 42; refine (specProgOk_calls p _ _ _ _ _ S (hA1 _) (hB1 _)).mono ?_; rintro e w1 ⟨rfl, hb2⟩; rw [HE.out.1]; have hbw := (bal' w _).trans (hb2.mono (by simp)); have c0 := hb2.cell (p := ⟨w.heap.size, 0, none⟩) (by simp); have c1 := hb2.cell (p := ⟨w.heap.size, 1, none⟩) (by simp); simp [go_sem] at c0 c1) | (go_at_call 43; refine (l6In_calls _ _ _ _).mono ?_; rintro e w2 ⟨rfl, rfl⟩; rw [HE.out.2.1]) | (go_at_call 44; refine (l23Sets_calls p HF.out 4 (Nat.le_refl _) z (by omega) (by omega) _ _ _ _ _ S (hB.belowAll hbw)).mono ?_; rintro e w3 ⟨v, u, rfl, hv, hu, hb3⟩))
      go_ret
      exact ⟨_, rfl, by rw [HE.out.2.2]; exact (hu).lower hbw.size, below_then hbw hbw.size hb3⟩
set_option maxHeartbeats 4000000 in
set_option maxRecDepth 100000 in
theorem implApartWrites_calls (p : Prog) (b : Int) (A B : Option Addr) (ca cb : Nat) (w : World) (S : Nat → Prop) (hA : Row Kd.int w S A p.cells) (hB : Row (Kd.slice kAct) w S B p.bodies) :
    Calls Try.prog 11 #[.agg #[.slice A p.cells.length ca, .slice B p.bodies.length cb], .int .i64 b] w fun e w' => ∃ v, e = .returned v ∧ OwnI 3 w' w.heap.size v (apartSet chWrites p b) ∧ Below w.heap.size w w' := by
  have hA1 := fun o => hA.belowAll (bal' w o)
  have hB1 := fun o => hB.belowAll (bal' w o)
  have hm2 := hB.1
  cases hp : progOk p
  · have HP := Lib.hid hp
    have he : apartSet chWrites p b = [] := by unfold apartSet; rw [hp]; rfl
    have HE := Lib.hid he
    clear hp he
    go_enter Try.func11, Try.ntmps11
    go_wp2_with (go_at_call 32; refine (implProgOk_calls p _ _ _ _ _ S (hA1 _) (hB1 _)).mono ?_; rintro e w1 ⟨rfl, hb2⟩; rw [HP.out]; have hbw := (bal' w _).trans (hb2.mono (by simp)))
    go_ret
    exact ⟨_, rfl, by rw [HE.out]; exact OwnI.nil _ _ _, hbw⟩
  · have hf := progOk_form hp
    have hlen := formOk_len hf
    cases hr : inR b 0 ((p.bodies.length : Int) - 1)
    · have he : apartSet chWrites p b = [] := by unfold apartSet; rw [hp, hr]; rfl
      have HE := Lib.hid (And.intro hp (And.intro hr he))
      clear hp hr he
      go_enter Try.func11, Try.ntmps11
      go_wp2_with (first
        | (go_at_call 32; refine (implProgOk_calls p _ _ _ _ _ S (hA1 _) (hB1 _)).mono ?_; rintro e w1 ⟨rfl, hb2⟩; rw [HE.out.1]; have hbw := (bal' w _).trans (hb2.mono (by simp)); have c0 := hb2.cell (p := ⟨w.heap.size, 0, none⟩) (by simp); have c1 := hb2.cell (p := ⟨w.heap.size, 1, none⟩) (by simp); simp [go_sem] at c0 c1) | (go_at_call 38; refine (isPlace_calls _ _ _ (by omega)).mono ?_; rintro e w2 ⟨rfl, rfl⟩; go_loud (rw [HE.out.2.1])))
      go_ret
      exact ⟨_, rfl, by rw [HE.out.2.2]; exact OwnI.nil _ _ _, hbw⟩
    · have he : apartSet chWrites p b = sort3 (touch chWrites 4 p b.toNat) := by unfold apartSet; rw [hp, hr, Bool.and_self, if_pos rfl]; rfl
      have hrr : 0 ≤ b ∧ b ≤ (p.bodies.length : Int) - 1 := by simpa [inR] using hr
      obtain ⟨z, rfl⟩ : ∃ z : Nat, b = (z : Int) := ⟨b.toNat, by omega⟩
      rw [Int.toNat_natCast] at he
      have hts := touch_small chWrites chWrites_len hf z
      have HE := Lib.hid (And.intro hp (And.intro hr he))
      have HF := Lib.hid hf
      clear hp hr he hf
      go_enter Try.func11, Try.ntmps11
      go_wp2_with (first
        | (go_at_call 32; refine (implProgOk_calls p _ _ _ _ _ S (hA1 _) (hB1 _)).mono ?_; rintro e w1 ⟨rfl, hb2⟩; rw [HE.out.1]; have hbw := (bal' w _).trans (hb2.mono (by simp)); have c0 := hb2.cell (p := ⟨w.heap.size, 0, none⟩) (by simp); have c1 := hb2.cell (p := ⟨w.heap.size, 1, none⟩) (by simp); simp [go_sem] at c0 c1) | (go_at_call 38; refine (isPlace_calls _ _ _ (by omega)).mono ?_; rintro e w2 ⟨rfl, rfl⟩; rw [HE.out.2.1]) | (go_at_call 41; refine (apartWrites_calls p HF.out z (by omega) _ _ _ _ _ S (hB.belowAll hbw)).mono ?_; rintro e w3 ⟨bm, rfl, hbm, hm, hb3⟩) | (go_at_call 40; refine (keys_calls _ _).mono ?_; rintro e w4 ⟨rfl, rfl⟩) | (go_at_call 39; refine (sorted_calls hm (touch_in chWrites chWrites_in p 4 z) (by omega)).mono ?_; rintro e w5 ⟨v, rfl, ho, hb5⟩))
      go_ret
      have hz3 := hb3.size
      have hz1 := hbw.size
      exact ⟨_, rfl, by rw [HE.out.2.2]; exact ho.lower (by omega), below_then (below_then hbw hz1 hb3) (by omega) hb5⟩

theorem apartSet_len (f : List Deed → List Int) (p : Prog) (b : Int) : (apartSet f p b).length ≤ 3 := by
  unfold apartSet
  split
  · exact sort3_len _
  · simp
/-- How many tasks a body may be; -1, if there is no such body of an ok program. -/
def progTree (p : Prog) (b : Int) : Int := if progOk p && inR b 0 ((p.bodies.length : Int) - 1) then tree 4 p b.toNat else -1
set_option maxHeartbeats 4000000 in
set_option maxRecDepth 100000 in
theorem implProgTree_calls (p : Prog) (b : Int) (A B : Option Addr) (ca cb : Nat) (w : World) (S : Nat → Prop) (hA : Row Kd.int w S A p.cells) (hB : Row (Kd.slice kAct) w S B p.bodies) :
    Calls Try.prog 14 #[.agg #[.slice A p.cells.length ca, .slice B p.bodies.length cb], .int .i64 b] w fun e w' => e = .returned (.int .i64 (progTree p b)) ∧ Below w.heap.size w w' := by
  have hA1 := fun o => hA.belowAll (bal' w o)
  have hB1 := fun o => hB.belowAll (bal' w o)
  have hm2 := hB.1
  cases hp : progOk p
  · have HP := Lib.hid hp
    have he : progTree p b = -1 := by unfold progTree; rw [hp]; rfl
    have HE := Lib.hid he
    clear hp he
    go_enter Try.func14, Try.ntmps14
    go_wp2_with (go_at_call 32; refine (implProgOk_calls p _ _ _ _ _ S (hA1 _) (hB1 _)).mono ?_; rintro e w1 ⟨rfl, hb2⟩; rw [HP.out]; have hbw := (bal' w _).trans (hb2.mono (by simp)))
    go_ret
    exact ⟨ret_int HE.out.symm, hbw⟩
  · have hf := progOk_form hp
    have hlen := formOk_len hf
    cases hr : inR b 0 ((p.bodies.length : Int) - 1)
    · have he : progTree p b = -1 := by unfold progTree; rw [hp, hr]; rfl
      have HE := Lib.hid (And.intro hp (And.intro hr he))
      clear hp hr he
      go_enter Try.func14, Try.ntmps14
      go_wp2_with (first
        | (go_at_call 32; refine (implProgOk_calls p _ _ _ _ _ S (hA1 _) (hB1 _)).mono ?_; rintro e w1 ⟨rfl, hb2⟩; rw [HE.out.1]; have hbw := (bal' w _).trans (hb2.mono (by simp)); have c0 := hb2.cell (p := ⟨w.heap.size, 0, none⟩) (by simp); have c1 := hb2.cell (p := ⟨w.heap.size, 1, none⟩) (by simp); simp [go_sem] at c0 c1) | (go_at_call 38; refine (isPlace_calls _ _ _ (by omega)).mono ?_; rintro e w2 ⟨rfl, rfl⟩; rw [HE.out.2.1]))
      go_ret
      exact ⟨ret_int HE.out.2.2.symm, hbw⟩
    · have he : progTree p b = tree 4 p b.toNat := by unfold progTree; rw [hp, hr, Bool.and_self, if_pos rfl]
      have hrr : 0 ≤ b ∧ b ≤ (p.bodies.length : Int) - 1 := by simpa [inR] using hr
      obtain ⟨z, rfl⟩ : ∃ z : Nat, b = (z : Int) := ⟨b.toNat, by omega⟩
      rw [Int.toNat_natCast] at he
      have HE := Lib.hid (And.intro hp (And.intro hr he))
      have HF := Lib.hid hf
      clear hp hr he hf
      go_enter Try.func14, Try.ntmps14
      go_wp2_with (first
        | (go_at_call 32; refine (implProgOk_calls p _ _ _ _ _ S (hA1 _) (hB1 _)).mono ?_; rintro e w1 ⟨rfl, hb2⟩; rw [HE.out.1]; have hbw := (bal' w _).trans (hb2.mono (by simp)); have c0 := hb2.cell (p := ⟨w.heap.size, 0, none⟩) (by simp); have c1 := hb2.cell (p := ⟨w.heap.size, 1, none⟩) (by simp); simp [go_sem] at c0 c1) | (go_at_call 38; refine (isPlace_calls _ _ _ (by omega)).mono ?_; rintro e w2 ⟨rfl, rfl⟩; rw [HE.out.2.1]) | (go_at_call 45; refine (treeOf_calls p HF.out 4 (by omega) z (by omega) (by omega) _ _ _ _ _ S (hB.belowAll hbw)).mono ?_; rintro e w3 ⟨rfl, hb3⟩))
      go_ret
      exact ⟨ret_int HE.out.2.2.symm, below_then hbw hbw.size hb3⟩
theorem progTree_neg {p : Prog} {b : Int} (h : progTree p b < 0) : apartSet chReads p b = [] ∧ apartSet chWrites p b = [] := by
  unfold progTree at h
  unfold apartSet
  split at h
  · rename_i hc
    have hf := progOk_form (by simp only [Bool.and_eq_true] at hc; exact hc.1)
    have := (tree_bound hf 4 b.toNat).1
    omega
  · rename_i hc
    rw [if_neg hc, if_neg hc]; exact ⟨rfl, rfl⟩
theorem progTree_pos {p : Prog} {b : Int} (h : ¬ progTree p b < 0) : progOk p = true ∧ 0 ≤ b ∧ b < p.bodies.length := by
  unfold progTree at h
  split at h
  · rename_i hc
    simp only [Bool.and_eq_true, inR, decide_eq_true_eq] at hc
    exact ⟨hc.1, by omega, by omega⟩
  · omega
end Go.Proofs.Ytcpabkfoalhldaa
namespace Go.Proofs.Ytcpabkfoalhldaa
set_option linter.unusedVariables false
set_option linter.unusedSimpArgs false

theorem emptied_body (p : Prog) (b : Nat) (hb : 0 < b) : (emptied p).bodies.getD b [] = p.bodies.getD b [] := by
  simp only [emptied, List.getD_eq_getElem?_getD]
  rw [List.getElem?_set_ne (by omega)]
theorem emptied_len (p : Prog) : (emptied p).bodies.length = p.bodies.length := by simp [emptied]
theorem emptied_first (p : Prog) : (emptied p).bodies.getD 0 [] = [] := by
  cases h : p.bodies with
  | nil => simp [emptied, h]
  | cons a r => simp [emptied, h]
theorem progOk_emptied {p : Prog} (h : progOk p = true) : progOk (emptied p) = true := by
  simp only [progOk, Bool.and_eq_true] at h ⊢
  refine ⟨?_, by unfold tree; rw [emptied_first]; simp [actsSum, sumOf]⟩
  have hf := h.1
  simp only [formOk, Bool.and_eq_true, bodiesOk, List.all_eq_true, List.mem_range] at hf ⊢
  rw [emptied_len]
  refine ⟨hf.1, fun i hi => ?_⟩
  have hi' := hf.2 i hi
  rcases Nat.eq_zero_or_pos i with rfl | hp
  · rw [emptied_first]; simp [bodyOk]
  · rw [emptied_body p i hp]; exact hi'
theorem touch_emptied (f : List Deed → List Int) {p : Prog} (hf : formOk p = true) : ∀ (n b : Nat), 0 < b → touch f n (emptied p) b = touch f n p b := by
  intro n
  induction n with
  | zero => intro b _; rfl
  | succ n ih =>
    intro b hb
    rw [touch, touch, emptied_body p b hb]
    rcases Nat.lt_or_ge b p.bodies.length with hlt | hge
    · rw [getD_at _ _ _ hlt]
      have hk := body_kids_all hf hlt
      have hm : ∀ a ∈ p.bodies[b], (f a.deeds ++ a.kids.flatMap fun k => touch f n (emptied p) k.toNat) = (f a.deeds ++ a.kids.flatMap fun k => touch f n p k.toNat) := by
        intro a ha
        congr 1
        exact congrArg List.flatten (List.map_congr_left fun k hk' => ih k.toNat (by have := hk a ha k hk'; omega))
      exact congrArg List.flatten (List.map_congr_left hm)
    · rw [List.getD_eq_getElem?_getD, List.getElem?_eq_none hge]; simp
theorem apartKids_emptied {p : Prog} (hf : formOk p = true) {kids : List Int} (hk : ∀ k ∈ kids, 1 ≤ k) : apartKids (emptied p) kids = apartKids p kids := by
  have ht : ∀ f k, 1 ≤ k → touched f (emptied p) k = touched f p k := fun f k h => by unfold touched; rw [touch_emptied f hf 4 k (by omega)]
  match kids, hk with
  | [], _ => rfl
  | [_], _ => rfl
  | [a, b], hk =>
    have h1 := hk a (by simp)
    have h2 := hk b (by simp)
    simp only [apartKids, apart2, ht _ _ (show 1 ≤ a.toNat by omega), ht _ _ (show 1 ≤ b.toNat by omega)]
  | _ :: _ :: _ :: _, _ => rfl
theorem apartOk_emptied {p : Prog} (h : apartOk p = true) : apartOk (emptied p) = true := by
  simp only [apartOk, Bool.and_eq_true, List.all_eq_true] at h ⊢
  have hf := progOk_form h.1
  refine ⟨progOk_emptied h.1, fun acts ha a hm => ?_⟩
  obtain ⟨i, hi, rfl⟩ := List.mem_iff_getElem.1 ha
  rw [emptied_len] at hi
  rcases Nat.eq_zero_or_pos i with rfl | hp
  · have : (emptied p).bodies[0]'(by rw [emptied_len]; exact hi) = [] := by
      have := emptied_first p
      rwa [getD_at _ _ _ (by rw [emptied_len]; exact hi)] at this
    rw [this] at hm; simp at hm
  · have e : (emptied p).bodies[i]'(by rw [emptied_len]; exact hi) = p.bodies[i] := by
      have := emptied_body p i hp
      rwa [getD_at _ _ _ (by rw [emptied_len]; exact hi), getD_at _ _ _ hi] at this
    rw [e] at hm
    rw [apartKids_emptied hf fun k hk => by have := body_kids_all hf hi a hm k hk; omega]
    exact h.2 _ (List.getElem_mem hi) a hm
theorem apartSet_emptied (f : List Deed → List Int) (p : Prog) : apartSet f (emptied p) 0 = [] := by
  unfold apartSet
  split
  · unfold touched
    rw [show (0 : Int).toNat = 0 from rfl, touch, emptied_first]; rfl
  · rfl
end Go.Proofs.Ytcpabkfoalhldaa
