/- FnOneRun: whatever the bytes are, the law returns true, and they read as they did. -/
import Derived.Deep.RegionHeld3
import Derived.Deep.DrawnRows
import Derived.Test.YtcpabkfoalhldaaRows
import Derived.WalkKit
import Derived.ProofKit
import Derived.OpenShut
import Derived.ShutString
import Derived.ChangeOld
import Derived.Below
import Derived.SizedLaws
import Derived.ChangeSlices
import Derived.Test.YtcpabkfoalhldaaQk
namespace Go.Proofs.Ytcpabkfoalhldaa
open Go.RowKit
set_option linter.unusedVariables false
set_option linter.unusedSimpArgs false
attribute [local go_sem ↓] Go.wp_at_zero Go.wp_at_succ

def rc1 (r : Option (List Int × Bool)) : List Int := match r with | none => [] | some x => x.1
def rf1 (r : Option (List Int × Bool)) : Bool := match r with | none => false | some x => x.2
theorem ResRun.uni1 {r : Option (List Int × Bool)} {B : Nat} {e : Ending} {w' : World} (h : ResRun r B e w') : ∃ vc, e = .returned (.tuple #[vc, .bool (rf1 r), .bool r.isSome]) ∧ OwnI 3 w' B vc (rc1 r) := by
  match r, h with
  | none, h => exact h
  | some (c, f), h => exact h
theorem ResOne.uni1 {r : Option (List Int × Bool)} {B : Nat} {e : Ending} {w' : World} (h : ResOne r B e w') : ∃ vc, e = .returned (.tuple #[vc, .bool (rf1 r), .bool r.isSome]) ∧ OwnI 3 w' B vc (rc1 r) := by
  match r, h with
  | none, h => exact ⟨_, h, OwnI.nil _ _ _⟩
  | some (c, f), h => exact h
set_option maxHeartbeats 8000000 in
set_option maxRecDepth 100000 in
theorem fnOneRun_calls (xs : List Int) (A : Option Addr) (c : Nat) (w : World) (S : Nat → Prop) (hr : Row Kd.byte w S A xs) (hS : ∀ k, S k → k < w.heap.size) (hc : xs.length ≤ c) :
    Calls Try.prog 9 #[.slice A xs.length c] w fun e w' => e = .returned (.bool true) ∧ Below w.heap.size w w' := by
  by_cases hbig : 1048576 < xs.length
  · have hb : (1048576 : Int) < xs.length := by omega
    go_enter Try.func9, Try.ntmps9
    go_wp2
    go_ret
    exact ⟨rfl, Below.refl _ _⟩
  · have hb : ¬ (1048576 : Int) < xs.length := by omega
    go_enter Try.func9, Try.ntmps9
    go_wp2_with (first | (go_at_call 34; refine (drawOneRun_calls xs A c _ S hr hS hc).mono ?_; rintro e w1 ⟨_, rfl, ⟨p, C, D, cc, cd, rfl, hcc, hcd, hC, hD⟩, hb1⟩) | (go_at_call 35; fail))
    have hz1 := hb1.size
    have hC1 := fun o => hC.belowAll (bal' w1 o)
    have hD1 := fun o => hD.belowAll (bal' w1 o)
    have tok1 : True := trivial
    cases hrun : oneRun p with
    | none =>
      have HR := Lib.hid hrun
      clear hrun
      go_wp2_with (first
        | (go_at_call 35; refine (specOneRun_calls p C D cc cd _ _ (hC1 _) (hD1 _)).mono ?_; rintro e w2 ⟨hres, hb2⟩; rw [HR.out] at hres; obtain ⟨v2, rfl, ho2⟩ := ResRun.uni1 hres; clear hres; obtain ⟨A2, n2, rfl, _, hr2⟩ := OwnI.row ho2; have hz2 := hb2.size; simp at hz2; have hx2 := (hb2.block w1.heap.size (by simp)).trans (heap_alloc_new w1 _); have g0 := cell_of_row _ _ 0 _ _ _ hx2; have g1 := cell_of_row _ _ 1 _ _ _ hx2; simp at g0 g1; have hC2 := (hC1 _).belowAll hb2; have hD2 := (hD1 _).belowAll hb2; have hbw2 := hb1.trans (((bal' w1 _).trans (hb2.mono (by simp))).mono hz1)) | (go_at_call 36; refine (implOneRun_calls p C D cc cd w2 _ hC2 hD2).mono ?_; rintro e w3 ⟨hres, hb3⟩; rw [HR.out] at hres; obtain ⟨v3, rfl, ho3⟩ := ResOne.uni1 hres; clear hres; obtain ⟨A3, n3, rfl, _, hr3⟩ := OwnI.row ho3; have hr23 := hr2.belowAll hb3; have hbw3 := below_then hbw2 hbw2.size hb3) | (go_at_call 12; have _t := tok1; refine (lqInts_calls (rc1 none) (rc1 none) _ _ _ _ w3 _ _ hr3 hr23).mono ?_; rintro e w4 ⟨rfl, hb4⟩; rw [show decide (rc1 none = rc1 none) = true from decide_eq_true rfl]; have hr34 := hr3.belowAll hb4; have hr24 := hr23.belowAll hb4; have hbw4 := below_then hbw3 hbw3.size hb4; clear tok1) | (go_at_call 12; refine (lqInts_calls (rc1 none) (rc1 none) _ _ _ _ w4 _ _ hr34 hr24).mono ?_; rintro e w5 ⟨rfl, hb5⟩; rw [show decide (rc1 none = rc1 none) = true from decide_eq_true rfl]; have hbw5 := below_then hbw4 hbw4.size hb5))
      go_ret
      exact ⟨rfl, hbw5⟩
    | some x =>
      obtain ⟨cs, fl⟩ := x
      obtain ⟨hl, hn, hk⟩ := oneRun_kept hrun
      have hl3 : p.cells.length ≤ 3 := by
        unfold oneRun at hrun
        split at hrun
        · rename_i hp; exact (formOk_len (progOk_form hp)).1
        · cases hrun
      have HR := Lib.hid hrun
      have HL := Lib.hid hl
      clear hrun hl
      cases fl
      all_goals
        go_wp2_with (first
          | (go_at_call 35; refine (specOneRun_calls p C D cc cd _ _ (hC1 _) (hD1 _)).mono ?_; rintro e w2 ⟨hres, hb2⟩; rw [HR.out] at hres; obtain ⟨v2, rfl, ho2⟩ := hres; obtain ⟨A2, n2, rfl, _, hr2⟩ := OwnI.row ho2; have hz2 := hb2.size; simp at hz2; have hx2 := (hb2.block w1.heap.size (by simp)).trans (heap_alloc_new w1 _); have g0 := cell_of_row _ _ 0 _ _ _ hx2; have g1 := cell_of_row _ _ 1 _ _ _ hx2; simp at g0 g1; have hC2 := (hC1 _).belowAll hb2; have hD2 := (hD1 _).belowAll hb2; have hbw2 := hb1.trans (((bal' w1 _).trans (hb2.mono (by simp))).mono hz1)) | (go_at_call 36; refine (implOneRun_calls p C D cc cd w2 _ hC2 hD2).mono ?_; rintro e w3 ⟨hres, hb3⟩; rw [HR.out] at hres; obtain ⟨v3, rfl, ho3⟩ := hres; obtain ⟨A3, n3, rfl, _, hr3⟩ := OwnI.row ho3; have hz3 := hb3.size; have hx3 := (hb3.block w1.heap.size (by omega)).trans hx2; have hC3 := hC2.belowAll hb3; have hD3 := hD2.belowAll hb3; have hr23 := hr2.belowAll hb3; have hbw3 := below_then hbw2 hbw2.size hb3) | (go_at_call 12; refine (lqInts_calls cs cs _ _ _ _ w3 _ _ hr3 hr23).mono ?_; rintro e w4 ⟨rfl, hb4⟩; rw [show decide (cs = cs) = true from decide_eq_true rfl]; have hz4 := hb4.size; have hx4 := (hb4.block w1.heap.size (by omega)).trans hx3; have g04 := cell_of_row _ _ 0 _ _ _ hx4; have g14 := cell_of_row _ _ 1 _ _ _ hx4; simp at g04 g14; have hC4 := hC3.belowAll hb4; have hD4 := hD3.belowAll hb4; have hr34 := hr3.belowAll hb4; have hbw4 := below_then hbw3 hbw3.size hb4) | (go_at_call 11; refine (implApartWrites_calls p 0 C D cc cd w4 _ hC4 hD4).mono ?_; rintro e w5 ⟨v5, rfl, ho5, hb5⟩; obtain ⟨A5, n5, rfl, _, hr5⟩ := OwnI.row ho5; have hz5 := hb5.size; have hx5 := (hb5.block w1.heap.size (by omega)).trans hx4; have g05 := cell_of_row _ _ 0 _ _ _ hx5; have g15 := cell_of_row _ _ 1 _ _ _ hx5; simp at g05 g15; have hC5 := hC4.belowAll hb5; have hr35 := hr34.belowAll hb5; have hbw5 := below_then hbw4 hbw4.size hb5))
        have hl1 : w1.heap.size < w5.heap.size := by omega
        clear hC1 hD1 hC hD g0 g1 hC2 hD2 hr2 hx2 hr3 hC3 hD3 hr23 hx3 hC4 hD4 hx4 g04 g14 ho2 ho3 hb2 hb3 hb4 hb5 hbw2 hbw3 hbw4 hb1 hx5 hr34
        have hml := hr35.1
        go_loopw [11] (fun i wr => ∃ j : Nat, j ≤ cs.length ∧ i = .int .i64 j ∧ Below w5.heap.size w5 wr) (fun i _ => cs.length - (intOf i).toNat)
        case atStart => exact ⟨0, Nat.zero_le _, rfl, Below.refl _ _⟩
        case round =>
          obtain ⟨j, hj, rfl, hbr⟩ := hrel
          have h0r := (hbr.cell (p := ⟨w1.heap.size, 0, none⟩) hl1).trans g05
          by_cases hlt : j < cs.length
          · have hjp : j < p.cells.length := by have := HL.out; omega
            obtain ⟨ad, rfl, had, hcd', hci⟩ := at_int (hr35.belowAll hbr) hlt
            obtain ⟨ae, rfl, hae, hce, hcei⟩ := at_int (hC5.belowAll hbr) hjp
            have hrng := numsOk_get hn j hlt
            have n1 : ¬ cs[j] < 0 := by omega
            have n2 : ¬ cs[j] ≥ 100 := by omega
            have n3 : cs[j] < 100 := by omega
            have n4 : 0 ≤ cs[j] := by omega
            have hW5 := hr5.belowAll hbr
            have hlw1 : w1.heap.size < wr.heap.size := by have := hbr.size; omega
            have x1 : (j : Int) < p.cells.length := by omega
            have x2 : (j : Int) < cs.length := by omega
            have x3 : (0 : Int) ≤ j := by omega
            have hbw : Below wr.heap.size wr wr.drew := (Below.refl _ _).drew
            cases hin : decide ((j : Int) ∈ apartSet chWrites p 0)
            · have heq : cs[j] = p.cells[j] := by
                have := hk j (by omega) (by simpa using hin)
                rw [List.getElem?_eq_getElem hlt, List.getElem?_eq_getElem hjp] at this
                injection this
              have HIN := Lib.hid hin
              rw [← heq] at hce
              have HEQ := Lib.hid heq
              clear hin heq hk
              have hcall : ∀ n, Calls Try.prog 33 #[.slice A5 (apartSet chWrites p 0).length n5, .int .i64 (j : Int)] (wr.drewN n) fun e w' => e = .returned (.bool false) ∧ w' = wr.drewN n := by
                intro n
                have := lqHas_same (apartSet chWrites p 0) A5 n5 (j : Int) (wr.drewN n) _ (hW5.drewN n)
                rw [HIN.out] at this
                exact this.mono fun e w' h => ⟨h.1, h.2.symm⟩
              have d1 : decide (cs[j] < 0) = false := by simp; omega
              have d2 : decide (100 ≤ cs[j]) = false := by simp; omega
              go_wp2
              go_quiet (first | (go_at_call 33; refine Calls.quiet_of_same (hcall _)))
              go_wp2
              go_roundw
              case rel => exact ⟨j + 1, by omega, by go_num, by repeat' (first | exact hbr | apply below_drewN')⟩
              case measure => simp [intOf]; omega
            · have HIN := Lib.hid hin
              clear hin hk
              have hcall : ∀ n, Calls Try.prog 33 #[.slice A5 (apartSet chWrites p 0).length n5, .int .i64 (j : Int)] (wr.drewN n) fun e w' => e = .returned (.bool true) ∧ w' = wr.drewN n := by
                intro n
                have := lqHas_same (apartSet chWrites p 0) A5 n5 (j : Int) (wr.drewN n) _ (hW5.drewN n)
                rw [HIN.out] at this
                exact this.mono fun e w' h => ⟨h.1, h.2.symm⟩
              have d1 : decide (cs[j] < 0) = false := by simp; omega
              have d2 : decide (100 ≤ cs[j]) = false := by simp; omega
              go_wp2
              go_quiet (first | (go_at_call 33; refine Calls.quiet_of_same (hcall _)))
              go_wp2
              go_roundw
              case rel => exact ⟨j + 1, by omega, by go_num, by repeat' (first | exact hbr | apply below_drewN')⟩
              case measure => simp [intOf]; omega
          · have hll := HL.out
            have hle2 : ((cs.length : Int) == (p.cells.length : Int)) = true := by simp; omega
            go_wp2
            go_ret
            exact ⟨rfl, below_then hbw5 hbw5.size hbr⟩
end Go.Proofs.Ytcpabkfoalhldaa
namespace Go.Proofs.Ytcpabkfoalhldaa.fnOneRun
open Go.ChangeShapes Go.WideShapes Go.ChangeAt Go.RowKit
set_option linter.unusedSimpArgs false
set_option linter.unusedVariables false
theorem own : ownKnob Try.prog.godebug = none := by kernel_rfl
theorem laidOut : laidOutB Try.prog = true := by kernel_rfl
/-- A slice of bytes as it comes in. -/
def IsRow (k : IntKind) (w : World) (a : Option Addr) (len cap : Nat) (zs : List Int) : Prop :=
  (a = none ∧ len = 0 ∧ cap = 0 ∧ zs = []) ∨
  ∃ x, a = some x ∧ len ≤ cap ∧ cap ≤ maxLen ∧ zs.length = cap ∧ (∀ i, i < zs.length → w.cell? (x.add i) = some (.int k (zs.getD i 0))) ∧ ∀ n ∈ zs, (Lit.int k n).wf = true
theorem IsRow.bytes {w : World} {a : Option Addr} {len cap : Nat} {zs : List Int} (h : IsRow .u8 w a len cap zs) : ∃ bs : List Int, len = bs.length ∧ bs.length ≤ cap ∧ Row Kd.byte w (fun k => k < w.heap.size) a bs := by
  rcases h with ⟨rfl, rfl, rfl, rfl⟩ | ⟨x, rfl, hl, hm, hz, hc, hw⟩
  · exact ⟨[], rfl, Nat.le_refl _, Row.nil _ _ _ _⟩
  · refine ⟨zs.take len, by simp; omega, by simp; omega, by simp [maxLen] at hm ⊢; omega, fun hne => ?_⟩
    have hpos : 0 < zs.length := by
      rcases Nat.eq_zero_or_pos zs.length with h | h
      · exact absurd (List.length_eq_zero_iff.1 (by simp; omega)) hne
      · exact h
    have hlt : x.block < w.heap.size := by
      have := block_lt_of_cell (hc 0 hpos)
      rwa [block_add] at this
    refine ⟨x, rfl, hlt, hlt, fun j y hj => ?_⟩
    have hjl : j < zs.length := by
      have := (List.getElem?_eq_some_iff.1 hj).1
      simp at this; omega
    have hy : zs[j]? = some y := by
      rw [List.getElem?_take] at hj
      split at hj
      · exact hj
      · cases hj
    have hcj := hc j hjl
    rw [List.getD_eq_getElem?_getD, hy, Option.getD_some] at hcj
    have hwj := hw y (List.mem_of_getElem? hy)
    refine ⟨_, ⟨rfl, ?_⟩, fun i u hu => ?_⟩
    · simp [Lit.wf] at hwj
      exact hwj
    · match i with
      | 0 => simp at hu; subst hu; simpa [Kd.byte] using hcj
      | i + 1 => simp at hu
set_option maxRecDepth 100000 in
theorem lifted (os : Os) (started : os.Started) (H : Type) (enc : TypeId × Value → H) :
    ReturnsInHanded {} Try.checked os 9 .any (Rows.fnOneRunSpec.pre6 enc Try.prog Try.f9 Rows.fnOneRunRow.domain false) (Rows.fnOneRunSpec.post enc Try.prog Try.f9 false true false false) := by
  refine returnsInHanded_of_change_sized (C := Try.checked) own started (by kernel_rfl) Try.func9
    (ChangeSpec.witness6 (enc := enc) (C := Try.checked) false ⟨#[], #[.slice none 0 0], []⟩ 8 (by kernel_rfl) (by kernel_rfl) (by kernel_rfl) (by kernel_rfl)) ?_
  intro W base args ds gs before hval0 hW hcnd hsz0 _
  have hval : ∀ (j : Nat) t v, Try.f9.params[j]? = some t → args[j]? = some v → Value.okWide Try.prog W .any base t v := hval0
  have hW' := hW
  obtain ⟨p, q, hA0, hV, rfl, hfz, hnd⟩ := hW
  have hA : DataW.TrodAll enc Try.prog W 0 (fun _ => true) true Try.f9.params.toList args.toList ds p := hA0
  rw [Try.params9] at hA hval
  obtain ⟨v0, vs0, d0, ds0, p0, q0, hargs, rfl, rfl, h0, r0⟩ := trodAll_cons hA
  obtain ⟨rfl, rfl, rfl⟩ := trodAll_nil r0
  obtain rfl : args = #[v0] := by cases args; simp_all
  obtain ⟨rfl, rfl⟩ := trodVars_none hV
  obtain ⟨a0, len0, cap0, rfl⟩ := okWide_slice Try.underlying22 (hval 0 22 v0 rfl rfl)
  have k0 := h0
  have lt0 : ∀ x ∈ p0, x.block < W.heap.size := by obtain ⟨m, hm⟩ := k0; exact DataW.trod_lt m _ _ _ hm
  obtain ⟨z0, w0⟩ : ∃ zs, IsRow .u8 W a0 len0 cap0 zs := by
    obtain ⟨fuel, hf⟩ := h0
    rcases open_ints Try.underlying22 Try.underlying5 (by kernel_rfl) hf with ⟨hcs, _⟩ | ⟨x, l, c, zs, hcs, _, hl, hm, hz, hx, hcell, hwz⟩
    · simp [Value.cells] at hcs
      obtain ⟨rfl, rfl, rfl⟩ := hcs
      exact ⟨[], .inl ⟨rfl, rfl, rfl, rfl⟩⟩
    · simp [Value.cells] at hcs
      obtain ⟨rfl, rfl, rfl⟩ := hcs
      exact ⟨zs, .inr ⟨_, rfl, hl, hm, by simpa using hz, hcell, hwz⟩⟩
  obtain ⟨bs, rfl, hbc, hrow⟩ := w0.bytes
  clear hA0 hval0 hsz0
  refine (fnOneRun_calls bs a0 cap0 W (fun k => k < W.heap.size) hrow (fun k hk => hk) hbc).mono fun e W' ⟨he, bel⟩ => ?_
  subst he
  exact ⟨_, rfl, _, _, _, [], _, [], hW', trodAll_mk1 (shut_bool Try.underlying4 _), (trodAll_cons_mk (Below.trod laidOut (by kernel_rfl) (of_decide_eq_true (by kernel_rfl)) k0 bel lt0) trodAll_mk0), rfl, bel.frame _, fun h => by cases h⟩
theorem over : Rows.fnOneRunRow.holds Try.pinned (OpenSpec.ofChange Rows.fnOneRunSpec) :=
  OpenClaim.holds_of_wide 9 Try.f9 rfl rfl rfl rfl rfl rfl rfl ⟨rfl, rfl, rfl, rfl, rfl⟩ rfl rfl rfl rfl rfl (by kernel_rfl) Try.func9 (by kernel_rfl)
    (of_decide_eq_true (by kernel_rfl)) (by unfold Func.isWrapper; first | (rw [if_pos (by decide +kernel)]; kernel_rfl) | (rw [if_neg (by decide +kernel)]; exact ⟨rfl, rfl⟩))
    (fun os started H enc _ => lifted os started H enc)
theorem proved : Rows.FnOneRunSaid := over
end Go.Proofs.Ytcpabkfoalhldaa.fnOneRun
namespace Go.Proofs.Ytcpabkfoalhldaa
/-- The statement, under a short name. -/
theorem fnOneRun_holds : Rows.FnOneRunSaid := fnOneRun.proved
end Go.Proofs.Ytcpabkfoalhldaa
