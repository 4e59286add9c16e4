/- FnExactApartReads: whatever the program and the body are, the law returns true, and it reads as it did. -/
import Derived.Deep.RegionHeld3
import Derived.Deep.DrawnRows
import Derived.Test.YtcpabkfoalhldaaRows
import Derived.WalkKit
import Derived.ProofKit
import Derived.OpenShut
import Derived.ShutString
import Derived.ChangeOld
import Derived.Below
import Derived.SizedLaws
import Derived.ChangeSlices
import Derived.Test.YtcpabkfoalhldaaQf
namespace Go.Proofs.Ytcpabkfoalhldaa
open Go.RowKit
set_option linter.unusedVariables false
set_option linter.unusedSimpArgs false
attribute [local go_sem ↓] Go.wp_at_zero Go.wp_at_succ

set_option maxHeartbeats 8000000 in
set_option maxRecDepth 100000 in
theorem fnExactApartReads_calls (p : Prog) (bd : Int) (A B : Option Addr) (c d : Nat) (w : World) (S : Nat → Prop) (hA : Row Kd.int w S A p.cells) (hB : Row (Kd.slice kAct) w S B p.bodies) (hS : ∀ k, S k → k < w.heap.size) :
    Calls Try.prog 8 #[.agg #[.slice A p.cells.length c, .slice B p.bodies.length d], .int .i64 bd] w fun e w' => e = .returned (.bool true) ∧ Below w.heap.size w w' := by
  have hA1 := fun o => hA.belowAll (bal' w o)
  have hB1 := fun o => hB.belowAll (bal' w o)
  by_cases hsz : sizeOf3 p ≤ 1048576
  rotate_left
  · have HE := Lib.hid (dec_no hsz)
    clear hsz
    go_enter Try.func8, Try.ntmps8
    go_wp2_with (go_at_call 25; refine (szProg_calls p _ _ _ _ 1048576 _ S (by omega) (by omega) (hA1 _) (hB1 _)).mono ?_; rintro e w1 ⟨rfl, hb1⟩; rw [HE.out])
    go_ret
    exact ⟨rfl, below_then (bal' w _) (by simp) hb1⟩
  · obtain ⟨m, hm, hm0⟩ : ∃ m, dec 1048576 (sizeOf3 p) = m ∧ ¬ m < 0 := ⟨_, dec_ok hsz, by omega⟩
    have HM := Lib.hid hm
    obtain ⟨q1, q2, q3, _⟩ := size_bounds hsz
    have HS := Lib.hid hsz
    have HRL := Lib.hid (apartSet_len chReads p bd)
    clear hm hsz
    obtain ⟨wo, rfl⟩ : ∃ wo, wo = w := ⟨_, rfl⟩
    go_enter Try.func8, Try.ntmps8
    go_wp2_with (first
      | (go_at_call 25; refine (szProg_calls p _ _ _ _ 1048576 _ S (by omega) (by omega) (hA1 _) (hB1 _)).mono ?_; rintro e w1 ⟨rfl, hb1⟩; rw [HM.out]; have hz1 := hb1.size; simp at hz1; have f1 := (hb1.block wo.heap.size (by simp)).trans (heap_alloc_new wo _); have g1 := cell_of_row _ _ 0 _ _ _ f1; have g2 := cell_of_row _ _ 1 _ _ _ f1; simp at g1 g2; have hA2 := (hA1 _).belowAll hb1; have hB2 := (hB1 _).belowAll hb1; have hbb1 := below_then (bal' wo _) (by simp) hb1) | (go_at_call 26; refine (toProg_calls p _ _ _ _ w1 S hA2 hB2 (fun k hk => by have := hS k hk; omega) q1 q2 q3).mono ?_; rintro e w2 ⟨_, rfl, hP2, hb2⟩; obtain ⟨C2, D2, cc2, cd2, rfl, rc2, rd2, _, _⟩ := hP2.rows; have hz2 := hb2.size; clear hP2) | (go_at_call 20; refine (specApartReads_calls p bd C2 D2 cc2 cd2 w2 _ rc2 rd2).mono ?_; rintro e w3 ⟨v3, rfl, ho3, hb3⟩; have hz3 := hb3.size; obtain ⟨A3, c3, rfl, hc3, hr3⟩ := OwnI.row ho3; have hr3 := hr3.bound; have f3 := ((hb3.block wo.heap.size (by omega)).trans (hb2.block wo.heap.size (by omega))).trans f1; have g3 := cell_of_row _ _ 0 _ _ _ f3; have g4 := cell_of_row _ _ 1 _ _ _ f3; simp at g3 g4; have hA3 := (hA2.belowAll hb2).belowAll hb3; have hB3 := (hB2.belowAll hb2).belowAll hb3; have hbb3 := below_then (below_then hbb1 (by omega) hb2) (by omega) hb3) | (go_at_call 26; refine (toProg_calls p _ _ _ _ w3 S hA3 hB3 (fun k hk => by have := hS k hk; omega) q1 q2 q3).mono ?_; rintro e w4 ⟨_, rfl, hP4, hb4⟩; obtain ⟨C4, D4, cc4, cd4, rfl, rc4, rd4, sc4, sd4⟩ := hP4.rows; have hz4 := hb4.size; clear hP4; have f4 := (hb4.block wo.heap.size (by omega)).trans f3; have hr34 := hr3.belowAll hb4) | (go_at_call 19; refine (implApartReads_calls p bd C4 D4 cc4 cd4 _ _ (rc4.belowAll (bal' w4 _)) (rd4.belowAll (bal' w4 _))).mono ?_; rintro e w5 ⟨v5, rfl, ho5, hb5⟩; have hz5 := hb5.size; simp at hz5; obtain ⟨A5, c5, rfl, hc5, hr5⟩ := OwnI.row ho5; have f5 := ((hb5.block wo.heap.size (by simp; omega)).trans (Below.heap_alloc w4 _ _ (by omega))).trans f4; have f57 := (hb5.block w4.heap.size (by simp)).trans (heap_alloc_new w4 _); have hr35 := (hr34.belowAll (bal' w4 _)).belowAll hb5) | (go_at_call 27; refine (eqIntS_calls _ _ _ _ _ _ w5 _ _ hr5 hr35).mono ?_; rintro e w6 ⟨rfl, hb6⟩; have hz6 := hb6.size))
    have f6 := (hb6.block wo.heap.size (by omega)).trans f5
    have f67 := (hb6.block w4.heap.size (by omega)).trans f57
    have a0 := cell_of_row _ _ 0 _ _ _ f6
    have a1 := cell_of_row _ _ 1 _ _ _ f6
    have b0 := cell_of_row _ _ 0 _ _ _ f67
    have b1 := cell_of_row _ _ 1 _ _ _ f67
    simp at a0 a1 b0 b1
    have hbb4 := below_then hbb3 (by omega) hb4
    have hm46 : Below w4.heap.size w4 w6 := below_then (below_then (bal' w4 _) (by simp) hb5) (by omega) hb6
    have hbb6 := below_then hbb4 (by omega) hm46
    have hA6 := (hA3.belowAll hb4).belowAll hm46
    have hB6 := (hB3.belowAll hb4).belowAll hm46
    have rc6 := rc4.belowAll hm46
    have rd6 := rd4.belowAll hm46
    have sc6 := sc4.mk (Mk.ofBelow hm46)
    have sd6 := sd4.mk (Mk.ofBelow hm46)
    have ho6 := ho5.belowAll hb6
    have hr36 := hr35.belowAll hb6
    have hl1 : wo.heap.size < w6.heap.size := by omega
    have hl2 : w4.heap.size < w6.heap.size := by omega
    have hS6 : ∀ k, S k → k < w6.heap.size := fun k hk => by have := hS k hk; omega
    clear hA1 hB1 hA hB g1 g2 g3 g4 hA2 hB2 hA3 hB3 rc2 rd2 rc4 rd4 sc4 sd4 hr3 hr34 hr35 hr5 ho3 f1 f3 f4 f5 f57 hb1 hb2 hb3 hb4 hb5 hb6 hbb1 hbb3
    go_region_held3 (fun w' => w'.cell? ⟨wo.heap.size, 0, none⟩ = some (.slice A p.cells.length c) ∧ w'.cell? ⟨wo.heap.size, 1, none⟩ = some (.slice B p.bodies.length d) ∧ w'.cell? ⟨w4.heap.size, 0, none⟩ = some (.slice C4 p.cells.length cc4) ∧ w'.cell? ⟨w4.heap.size, 1, none⟩ = some (.slice D4 p.bodies.length cd4)) (first | (go_keep; done) | exact ⟨a0, a1, b0, b1⟩ | exact ⟨x0, x1, x2, x3⟩ | exact ⟨y0, y1, y2, y3⟩) (first | (go_at_call 26; refine (toProg_calls p _ _ _ _ _ S (Row.belowAll hA6 (by repeat' (first | exact Below.refl _ _ | apply Below.drew))) (Row.belowAll hB6 (by repeat' (first | exact Below.refl _ _ | apply Below.drew))) (fun k hk => by have := hS6 k hk; simpa using this) q1 q2 q3).mono ?_; rintro e w7 ⟨_, rfl, hP7, hb7⟩; have hb7 : Below w6.heap.size w6 w7 := Below.trans (show Below w6.heap.size w6 _ by repeat' (first | exact Below.refl _ _ | apply Below.drew)) hb7; obtain ⟨C7, D7, cc7, cd7, rfl, rc7, rd7, _, _⟩ := hP7.rows; clear hP7; have hz7 := hb7.size; have x0 := (hb7.cell (p := ⟨wo.heap.size, 0, none⟩) hl1).trans a0; have x1 := (hb7.cell (p := ⟨wo.heap.size, 1, none⟩) hl1).trans a1; have x2 := (hb7.cell (p := ⟨w4.heap.size, 0, none⟩) hl2).trans b0; have x3 := (hb7.cell (p := ⟨w4.heap.size, 1, none⟩) hl2).trans b1) | (go_at_call 28; refine (eqProg_calls p _ _ _ _ _ _ _ _ _ _ _ (Row.belowAll (rc6.belowAll hb7) (by repeat' (first | exact Below.refl _ _ | apply Below.drew))) (Row.belowAll rc7 (by repeat' (first | exact Below.refl _ _ | apply Below.drew))) (Row.belowAll (rd6.belowAll hb7) (by repeat' (first | exact Below.refl _ _ | apply Below.drew))) (Row.belowAll rd7 (by repeat' (first | exact Below.refl _ _ | apply Below.drew)))).mono ?_; rintro e w8 ⟨rfl, hb8⟩; have hb8 : Below w6.heap.size w6 w8 := below_then (below_then hb7 hz7 (show Below w7.heap.size w7 _ by repeat' (first | exact Below.refl _ _ | apply Below.drew))) (by simpa using hz7) hb8; have y0 := (hb8.cell (p := ⟨wo.heap.size, 0, none⟩) hl1).trans a0; have y1 := (hb8.cell (p := ⟨wo.heap.size, 1, none⟩) hl1).trans a1; have y2 := (hb8.cell (p := ⟨w4.heap.size, 0, none⟩) hl2).trans b0; have y3 := (hb8.cell (p := ⟨w4.heap.size, 1, none⟩) hl2).trans b1))
    have f8 := (hb8.block wo.heap.size hl1).trans f6
    have hz8 := hb8.size
    have hbb8 := below_then hbb6 (by omega) hb8
    have hA8 := hA6.belowAll hb8
    have hB8 := hB6.belowAll hb8
    have sc8 := sc6.mk (Mk.ofBelow hb8)
    have sd8 := sd6.mk (Mk.ofBelow hb8)
    have ho8 := ho6.belowAll hb8
    have hr38 := hr36.belowAll hb8
    have hlen : 1 + ((apartSet chReads p bd).length : Int) ≤ top ∧ ¬ 1 + ((apartSet chReads p bd).length : Int) < 0 := by have := HRL.out; unfold top; omega
    have hx0 := hlen.2
    have HLEN := Lib.hid hlen.1
    clear a0 a1 b0 b1 f6 f67 hb7 hb8 hA6 hB6 sc6 sd6 ho6 hr36 rc6 rd6 rc7 rd7 hbb6 hbb4 hm46 ho5 hlen hS6
    clear x0 x1 x2 x3
    go_wp2_with (first
      | (go_at_call 29; refine (markProgP_calls p C4 D4 cc4 cd4 (fun k => w3.heap.size ≤ k ∧ k < w4.heap.size) w8 sc8 sd8 (fun k hk => by have := hk.2; omega) HS.out).mono ?_; rintro e w9 ⟨K, rfl, hK, hm9⟩; have hz9 := hm9.k.size; have ho9 := ho8.keep hm9.k (fun k hk h => by have := (ho8.blk k hk).1; simp at this; omega); have hr9 := ho9.rowAt; have hr39 := hr38.keep hm9.k (fun k hk _ h => by have := hk.2; omega); have f9 := hm9.k.blk f8 (fun h => by have := h.1; omega); have hA9 := hA8.keep hm9.k (fun k hk _ h => by have := h.1; have := hS k hk; omega); have hB9 := hB8.keep hm9.k (fun k hk _ h => by have := h.1; have := hS k hk; omega); have hbb9 := hbb8.trans (hm9.k.below (fun k hk h => by have := h.1; omega) hbb8.size)) | (go_at_call 27; refine (eqIntS_calls _ _ _ _ _ _ w9 _ _ hr9 hr39).mono ?_; rintro e w10 ⟨rfl, hb10⟩; have hz10 := hb10.size; have ho10 := ho9.belowAll hb10; have hr310 := hr39.belowAll hb10; have f10 := (hb10.block wo.heap.size (by omega)).trans f9; have hA10 := hA9.belowAll hb10; have hB10 := hB9.belowAll hb10; have hbb10 := below_then hbb9 (by omega) hb10; clear hr9 hr39) | (go_at_call 30; refine (markOwn_calls (apartSet chReads p bd) _ _ 1 w10 ho10 (by omega) HLEN.out).mono ?_; rintro e w11 ⟨rfl, ho11, hk11⟩; have hz11 := hk11.size; have hgb : ∀ k, (Value.slice A5 (apartSet chReads p bd).length c5).ownBlock = some k → w4.heap.size < k := (fun k hk => by have := (ho10.blk k hk).1; simp at this; omega); have hr11 := ho11.rowAt; have hr311 := hr310.keep hk11 (fun k hk _ h => by have := hk.2; have := hgb k h; omega); have f11 := hk11.blk f10 (fun h => by have := hgb _ h; omega); have hA11 := hA10.keep hk11 (fun k hk _ h => by have := hgb k h; have := hS k hk; omega); have hB11 := hB10.keep hk11 (fun k hk _ h => by have := hgb k h; have := hS k hk; omega); have hbb11 := hbb10.trans (hk11.below (fun k hk h => by have := hgb k h; omega) hbb10.size)) | (go_at_call 31; refine (heldIntS_calls (apartSet chReads p bd).length _ _ 1 w11 _ hr11 (by omega) HLEN.out).mono ?_; rintro e w12 ⟨rfl, hb12⟩; have hz12 := hb12.size; have f12 := (hb12.block wo.heap.size (by omega)).trans f11; have g12 := cell_of_row _ _ 0 _ _ _ f12; have g13 := cell_of_row _ _ 1 _ _ _ f12; simp at g12 g13; have hA12 := hA11.belowAll hb12; have hB12 := hB11.belowAll hb12; have hr12 := hr11.belowAll hb12; have hr312 := hr311.belowAll hb12; have hbb12 := below_then hbb11 (by omega) hb12; clear hr11 hr311) | (go_at_call 26; refine (toProg_calls p _ _ _ _ w12 S hA12 hB12 (fun k hk => by have := hS k hk; omega) q1 q2 q3).mono ?_; rintro e w13 ⟨_, rfl, hP13, hb13⟩; obtain ⟨C13, D13, cc13, cd13, rfl, rc13, rd13, _, _⟩ := hP13.rows; have hz13 := hb13.size; clear hP13; have hr13 := hr12.belowAll hb13; have hr313 := hr312.belowAll hb13; have hbb13 := below_then hbb12 (by omega) hb13) | (go_at_call 19; refine (implApartReads_calls p bd C13 D13 cc13 cd13 w13 _ rc13 rd13).mono ?_; rintro e w14 ⟨v14, rfl, ho14, hb14⟩; have hz14 := hb14.size; obtain ⟨A14, c14, rfl, hc14, hrh⟩ := OwnI.row ho14; have hr14 := hr13.belowAll hb14; have hr314 := hr313.belowAll hb14; have hbb14 := below_then hbb13 (by omega) hb14) | (go_at_call 27; refine (eqIntS_calls _ _ _ _ _ _ w14 _ _ hrh hr314).mono ?_; rintro e w15 ⟨rfl, hb15⟩; have hz15 := hb15.size; have hr15 := hr14.belowAll hb15; have hbb15 := below_then hbb14 (by omega) hb15) | (go_at_call 31; refine (heldIntS_calls (apartSet chReads p bd).length _ _ 1 w15 _ hr15 (by omega) HLEN.out).mono ?_; rintro e w16 ⟨rfl, hb16⟩; have hbb16 := below_then hbb15 (by omega) hb16))
    go_ret
    exact ⟨rfl, hbb16⟩
end Go.Proofs.Ytcpabkfoalhldaa
namespace Go.Proofs.Ytcpabkfoalhldaa.fnExactApartReads
open Go.ChangeShapes Go.WideShapes Go.ChangeAt Go.RowKit Go.Joins
set_option linter.unusedSimpArgs false
set_option linter.unusedVariables false
theorem own : ownKnob Try.prog.godebug = none := by kernel_rfl
theorem laidOut : laidOutB Try.prog = true := by kernel_rfl
set_option maxRecDepth 100000 in
theorem lifted (os : Os) (started : os.Started) (H : Type) (enc : TypeId × Value → H) :
    ReturnsInHanded {} Try.checked os 8 .any (Rows.fnExactApartReadsSpec.pre6 enc Try.prog Try.f8 Rows.fnExactApartReadsRow.domain false) (Rows.fnExactApartReadsSpec.post enc Try.prog Try.f8 false true false false) := by
  refine returnsInHanded_of_change_sized (C := Try.checked) own started (by kernel_rfl) Try.func8
    (ChangeSpec.witness6 (enc := enc) (C := Try.checked) false ⟨#[], #[.agg #[.slice none 0 0, .slice none 0 0], .int .i64 0], []⟩ 8 (by kernel_rfl) (by kernel_rfl) (by kernel_rfl) (by kernel_rfl)) ?_
  intro W base args ds gs before hval0 hW hcnd hsz0 _
  have hval : ∀ (j : Nat) t v, Try.f8.params[j]? = some t → args[j]? = some v → Value.okWide Try.prog W .any base t v := hval0
  have hW' := hW
  obtain ⟨p, q, hA0, hV, rfl, hfz, hnd⟩ := hW
  have hA : DataW.TrodAll enc Try.prog W 0 (fun _ => true) true Try.f8.params.toList args.toList ds p := hA0
  rw [Try.params8] at hA hval
  obtain ⟨v0, vs0, d0, ds0, p0, q0, hargs, rfl, rfl, h0, r0⟩ := trodAll_cons hA
  obtain ⟨v1, vs1, d1, ds1, p1, q1, rfl, rfl, rfl, h1, r1⟩ := trodAll_cons r0
  obtain ⟨rfl, rfl, rfl⟩ := trodAll_nil r1
  obtain rfl : args = #[v0, v1] := by cases args; simp_all
  obtain ⟨rfl, rfl⟩ := trodVars_none hV
  have hv0 := hval 0 43 v0 rfl rfl
  have hv1 := hval 1 3 v1 rfl rfl
  have k0 := h0
  have k1 := h1
  have lt1 : ∀ x ∈ p1, x.block < W.heap.size := by obtain ⟨m, hm⟩ := k1; exact DataW.trod_lt m _ _ _ hm
  obtain ⟨n1, rfl, _, _, _⟩ := open_int Try.underlying3 hv1 h1
  have lt0 : ∀ x ∈ p0, x.block < W.heap.size := by obtain ⟨m, hm⟩ := k0; exact DataW.trod_lt m _ _ _ hm
  obtain ⟨u0, u1, y0, y1, n, rfl, hd, hp, t0, t1⟩ := open_agg2 Try.underlying43 (by kernel_rfl) (by kernel_rfl) hv0 h0
  obtain ⟨A, c, xs, e0, l0, ra⟩ := op_ints t0
  obtain ⟨B, d, bds, e1, l1, rb⟩ := op_bodies t1
  injection e0 with e0
  injection e1 with e1
  subst e0
  subst e1
  clear hA0 hval0 hsz0
  refine (fnExactApartReads_calls ⟨xs, bds⟩ n1 A B c d W (fun k => k < W.heap.size) ra rb (fun k hk => hk)).mono fun e W' ⟨he, bel⟩ => ?_
  subst he
  exact ⟨_, rfl, _, _, _, [], _, [], hW', trodAll_mk1 (shut_bool Try.underlying4 _), (trodAll_cons_mk (Below.trod laidOut (by kernel_rfl) (of_decide_eq_true (by kernel_rfl)) k0 bel lt0) (trodAll_cons_mk (Below.trod laidOut (by kernel_rfl) (of_decide_eq_true (by kernel_rfl)) k1 bel lt1) trodAll_mk0)), rfl, bel.frame _, fun h => by cases h⟩
theorem over : Rows.fnExactApartReadsRow.holds Try.pinned (OpenSpec.ofChange Rows.fnExactApartReadsSpec) :=
  OpenClaim.holds_of_wide 8 Try.f8 rfl rfl rfl rfl rfl rfl rfl ⟨rfl, rfl, rfl, rfl, rfl⟩ rfl rfl rfl rfl rfl (by kernel_rfl) Try.func8 (by kernel_rfl)
    (of_decide_eq_true (by kernel_rfl)) (by unfold Func.isWrapper; first | (rw [if_pos (by decide +kernel)]; kernel_rfl) | (rw [if_neg (by decide +kernel)]; exact ⟨rfl, rfl⟩))
    (fun os started H enc _ => lifted os started H enc)
theorem proved : Rows.FnExactApartReadsSaid := over
end Go.Proofs.Ytcpabkfoalhldaa.fnExactApartReads
namespace Go.Proofs.Ytcpabkfoalhldaa
/-- The statement, under a short name. -/
theorem fnExactApartReads_holds : Rows.FnExactApartReadsSaid := fnExactApartReads.proved
end Go.Proofs.Ytcpabkfoalhldaa
