/- The program does a body act by act. -/
import Derived.Test.YtehgiijpmldiiaaD3
import Derived.Test.YtehgiijpmldiiaaB4
namespace Go.Proofs.Ytehgiijpmldiiaa
open Go.RowKit
set_option linter.unusedVariables false
set_option linter.unusedSimpArgs false

theorem implChangeDo_calls (cells regs : List Int) (deeds : List Deed) (A B D : Option Addr) (ca cb cd : Nat) (w : World) (S S1 S2 : Nat → Prop) (hA : Row Kd.int w S1 A cells) (hB : Row Kd.int w S2 B regs) (hD : Row kDeed w S D deeds) :
    Calls Try.prog 66 #[.slice A cells.length ca, .slice B regs.length cb, .slice D deeds.length cd] w fun e w' => ResCDi (changeDo cells regs deeds) w.heap.size e w' ∧ Below w.heap.size w w' := by
  have h1 := hA.mono (S' := fun _ => True) (fun _ _ => trivial)
  have h2 := hB.mono (S' := fun _ => True) (fun _ _ => trivial)
  have h3 := hD.mono (S' := fun _ => True) (fun _ _ => trivial)
  unfold changeDo
  cases h : deskOk cells regs deeds
  · exact implChangeDo_bad cells regs deeds A B D ca cb cd w _ h1 h2 h3 h
  · exact implChangeDo_good cells regs deeds A B D ca cb cd w _ h1 h2 h3 h

theorem mk3 (w : World) : (Instr.makeSlice 23 (.int .i64 3) (.int .i64 3)).run Try.prog w = .ok (.slice (some ⟨w.heap.size, 0, none⟩) 3 3) (w.alloc (.cells #[.int .i64 0, .int .i64 0, .int .i64 0] 3)) := by kernel_rfl
theorem ownI_zeros (w : World) (base : Nat) (hb : base ≤ w.heap.size) : OwnI 3 (w.alloc (.cells #[.int .i64 0, .int .i64 0, .int .i64 0] 3)) base (.slice (some ⟨w.heap.size, 0, none⟩) 3 3) [0, 0, 0] := by
  refine own_intro [[.int .i64 0], [.int .i64 0], [.int .i64 0]] ⟨rfl, .inr ⟨w.heap.size, 3, _, rfl, hb, heap_alloc_new w _, Nat.le_refl _, by simp [maxLen], rfl, rfl⟩⟩ rfl (fun k hk => hk) (fun j x hj => ?_)
  have hj3 : j < 3 := (List.getElem?_eq_some_iff.1 hj).1
  have : j = 0 ∨ j = 1 ∨ j = 2 := by omega
  rcases this with rfl | rfl | rfl <;> (simp at hj; subst hj; exact ⟨_, rfl, rfl, by decide, by decide⟩)
/-- What comes back of a body. -/
def ResOne (r : Option (List Int × Bool)) (B : Nat) (e : Ending) (w' : World) : Prop :=
  match r with
  | none => e = .returned (.tuple #[.slice none 0 0, .bool false, .bool false])
  | some (c, f) => ∃ vc, e = .returned (.tuple #[vc, .bool f, .bool true]) ∧ OwnI 3 w' B vc c

set_option maxHeartbeats 4000000 in
set_option maxRecDepth 100000 in
theorem implOneBody_calls (p : Prog) (hf : formOk p = true) : ∀ (d : Nat) (hd : d ≤ 4) (b : Nat) (hb : b < p.bodies.length) (hbd : p.bodies.length ≤ b + d) (A B : Option Addr) (ca cb : Nat) (cells : List Int) (vc : Value) (base : Nat) (w : World) (S : Nat → Prop)
    (hB : Row (Kd.slice kAct) w S B p.bodies) (hC : OwnI 3 w base vc cells) (hbw : base ≤ w.heap.size),
    Calls Try.prog 33 #[.agg #[.slice A p.cells.length ca, .slice B p.bodies.length cb], vc, .int .i64 (b : Nat)] w fun e w' => ResOne (oneBody d p cells b) base e w' ∧ Below w.heap.size w w' := by
  intro d
  induction d with
  | zero => intro _ b hb hbd; omega
  | succ d ih0 =>
    intro hd b hb hbd A B ca cb cells vc base w S hB hC hbw
    have ih := Lib.hid ih0
    clear ih0
    have hacts := formOk_acts hf hb
    obtain ⟨acts, HA⟩ : ∃ acts, acts = p.bodies[b] := ⟨_, rfl⟩
    have hal : acts.length ≤ 4 := by rw [HA]; exact hacts.1
    have hlen := formOk_len hf
    have hend : oneBody (d + 1) p cells b = runActs (fun c k => oneBody d p c k) cells [0, 0, 0] acts := by rw [HA, oneBody, getD_at _ _ _ hb]
    have HE := Lib.hid hend
    have hkid : ∀ (i : Nat) (hi : i < acts.length), actOk acts[i] p.cells.length b p.bodies.length = true := by
      subst HA
      intro i hi
      have := formOk_body hf hb
      simp only [bodyOk, Bool.and_eq_true, List.all_eq_true] at this
      exact this.2 _ (List.getElem_mem hi)
    have HK := Lib.hid hkid
    obtain ⟨ad, C, cc, rfl, hl, hc, hcl, hC0⟩ := at_slice hB hb
    rw [← HA] at hc hcl hC0
    have hma := hC0.1
    have hm2 := hB.1
    clear hacts hend hkid HA
    have hmk := mk3
    obtain ⟨Av, cv, rfl, hcv, hrowv⟩ := hC.row
    clear hrowv
    go_enter Try.func33, Try.ntmps33
    go_wp2
    go_step3
    go_wp2
    refine wp_label ?_
    obtain ⟨W2, HW⟩ : ∃ W2, W2 = (w.alloc (Obj.cells #[.slice A p.cells.length ca, .slice (some ad) p.bodies.length cb] 26)).alloc (Obj.cells #[.int .i64 0, .int .i64 0, .int .i64 0] 3) := ⟨_, rfl⟩
    have hb2 : Below w.heap.size w W2 := by rw [HW]; exact (by repeat (first | exact Below.refl _ _ | (refine Below.alloc ?_ (by simp) _) | (refine Below.setCell ?_ (by simp) _) | (refine below_drewN' ?_ _) | (refine Below.drew ?_)))
    have hz2 : W2.heap.size = w.heap.size + 2 := by rw [HW]; simp
    have c0 : W2.cell? ⟨w.heap.size, 0, none⟩ = some (.slice A p.cells.length ca) := by rw [HW]; simp [go_sem]
    have c1 : W2.cell? ⟨w.heap.size, 1, none⟩ = some (.slice (some ad) p.bodies.length cb) := by rw [HW]; simp [go_sem]
    have hr2 : OwnI 3 W2 base (.slice (some ⟨w.heap.size + 1, 0, none⟩) 3 3) [0, 0, 0] := by
      have := ownI_zeros (w.alloc (Obj.cells #[.slice A p.cells.length ca, .slice (some ad) p.bodies.length cb] 26)) base (by simp; omega)
      rw [HW]; simpa using this
    have hcv2 : OwnI 3 W2 base (.slice Av cells.length cv) cells := hC.belowAll hb2
    have hB2 := hB.belowAll hb2
    have hC2 := hC0.belowAll hb2
    have hcc2 := (hb2.cell (p := ad.add b) (by rw [block_add]; exact hl)).trans hc
    rw [← HW]
    have HZ := Lib.hid hz2
    clear HW hz2 hB hC0 hc hC
    have hend2 : ∀ wr, Below w.heap.size w wr → ∀ (vC : Value) (c : List Int) (f : Bool), oneBody (d + 1) p cells b = some (c, f) → OwnI 3 wr base vC c → ResOne (oneBody (d + 1) p cells b) base (.returned (.tuple #[vC, .bool f, .bool true])) wr ∧ Below w.heap.size w wr := by
      intro wr h1 vC c f h2 h3
      rw [h2]; exact ⟨⟨_, rfl, h3⟩, h1⟩
    have hend3 : ∀ wr, Below w.heap.size w wr → oneBody (d + 1) p cells b = none → ResOne (oneBody (d + 1) p cells b) base (.returned (.tuple #[.slice none 0 0, .bool false, .bool false])) wr ∧ Below w.heap.size w wr := by
      intro wr h1 h2
      rw [h2]; exact ⟨rfl, h1⟩
    have HE2 := Lib.hid hend2
    have HE3 := Lib.hid hend3
    clear hend2 hend3
    go_wp2
    go_loopw [1, 9, 10, 28] (fun vC vR vF vI wr => ∃ (j : Nat) (c r : List Int) (Ac Ar : Option Addr) (cc cr : Nat), j ≤ acts.length ∧ vI = .int .i64 j ∧ vF = .bool false ∧ vC = .slice Ac c.length cc ∧ vR = .slice Ar 3 cr ∧ Hid (r.length = 3) ∧ OwnI 3 wr base (.slice Ac c.length cc) c ∧ OwnI 3 wr base (.slice Ar 3 cr) r ∧ Hid (oneBody (d + 1) p cells b = runActs (fun c k => oneBody d p c k) c r (acts.drop j)) ∧ Below W2.heap.size W2 wr) (fun _ _ _ vI _ => acts.length - (intOf vI).toNat)
    case atStart => exact ⟨0, cells, [0, 0, 0], Av, _, cv, 3, Nat.zero_le _, rfl, rfl, rfl, rfl, rfl, hcv2, hr2, by unfold Hid; rw [HE.out]; rfl, Below.refl _ _⟩
    case round =>
      obtain ⟨j, c, r, Ac, Ar, cc2, cr, hj, rfl, rfl, rfl, rfl, HR3, hoC, hoR, HA, hbr⟩ := hrel
      have hbw2 : Below w.heap.size w wr := hb2.trans (hbr.mono (by rw [HZ.out]; omega))
      have c0r := (hbr.cell (p := ⟨w.heap.size, 0, none⟩) (by rw [HZ.out]; simp)).trans c0
      have c1r := (hbr.cell (p := ⟨w.heap.size, 1, none⟩) (by rw [HZ.out]; simp)).trans c1
      by_cases hlt : j < acts.length
      · obtain ⟨ad2, D, cd, E, ce, rfl, hl3, k0, k1, k2, k3, hcd, hce, hD, hE, hi1, hi2⟩ := at_act (hC2.belowAll hbr) hlt
        have hdrop : acts.drop j = acts[j] :: acts.drop (j + 1) := List.drop_eq_getElem_cons hlt
        have HD := Lib.hid hdrop
        clear hdrop
        have hme := hE.1
        have hmd := hD.1
        rcases actOk_kinds (HK.out j hlt) with hk | ⟨hk, hkl, hkk⟩ | hk | ⟨hk, hg1, hg2⟩
        · -- a change
          have hal2 : ∀ o, Below wr.heap.size wr (wr.alloc o) := fun o => (by repeat (first | exact Below.refl _ _ | (refine Below.alloc ?_ (by simp) _) | (refine Below.setCell ?_ (by simp) _) | (refine below_drewN' ?_ _) | (refine Below.drew ?_)))
          have hDa := fun o => hD.belowAll (hal2 o)
          obtain ⟨Ac', cc', e1, _, hrC⟩ := hoC.row
          injection e1 with e1 e2 e3
          subst e1; subst e3
          have hoR' := hoR
          obtain ⟨Ar', cr', e1, _, hrR⟩ := hoR'.row
          injection e1 with e1 e2 e3
          subst e1; subst e3
          have hrCa := fun o => hrC.belowAll (hal2 o)
          have hrRa := fun o => hrR.belowAll (hal2 o)
          rw [hk] at k0
          have hstep : runActs (fun c k => oneBody d p c k) c r (acts.drop j) = match changeDo c r acts[j].deeds with | none => none | some (c', r') => runActs (fun c k => oneBody d p c k) c' r' (acts.drop (j + 1)) := by
            rw [HD.out]; simp only [runActs, hk, if_pos]; cases changeDo c r acts[j].deeds with | none => rfl | some x => rfl
          have HST := Lib.hid hstep
          have HKK := Lib.hid hk
          have h3 := implChangeDo_calls c r acts[j].deeds Ac Ar D cc2 cr cd
          rw [HR3.out] at h3
          have H3 := Lib.hid h3
          clear hstep hk h3 e2
          cases hdo : changeDo c r acts[j].deeds with
          | none =>
            have HDO := Lib.hid hdo
            clear hdo
            go_wp2_with (go_at_call 66; refine (H3.out _ _ _ _ (hrCa _) (hrRa _) (hDa _)).mono ?_; rw [HDO.out]; rintro e w3 ⟨rfl, hb3⟩)
            rw [Exit.noGoto_ret]
            go_ret3
            exact HE3.out _ (hbw2.trans ((hal2 _).trans (hb3.mono (by simp)) |>.mono hbw2.size)) (by rw [HA.out, HST.out, HDO.out])
          | some x =>
            obtain ⟨c', r'⟩ := x
            have HDO := Lib.hid hdo
            have hdk := changeDo_desk hdo
            have hr3 : r'.length = 3 := hdk.rl
            have HR4 := Lib.hid hr3
            clear hdo hdk hr3
            go_wp2_with (go_at_call 66; refine (H3.out _ _ _ _ (hrCa _) (hrRa _) (hDa _)).mono ?_; rw [HDO.out]; rintro e w3 ⟨⟨vC, vR, rfl, ho1, ho2, _⟩, hb3⟩; obtain ⟨A1, n1, rfl, _, hq1⟩ := ho1.row; obtain ⟨A2, n2, rfl, _, hq2⟩ := ho2.row; clear hq1 hq2)
            have hb5 : Below wr.heap.size wr w3 := (hal2 _).trans (hb3.mono (by simp))
            go_roundw
            case rel =>
              rw [HR4.out] at ho2 ⊢
              exact ⟨j + 1, c', r', A1, A2, n1, n2, by omega, by go_num, rfl, rfl, rfl, HR4.out, ho1.lower (by have := hbw2.size; simp; omega), ho2.lower (by have := hbw2.size; simp; omega), by unfold Hid; rw [HA.out, HST.out, HDO.out], below_then hbr hbr.size hb5⟩
            case measure => simp [intOf]; omega
        · -- a fork
          rw [hk] at k0
          have hstep : runActs (fun c k => oneBody d p c k) c r (acts.drop j) = match runKids (fun c k => oneBody d p c k) c acts[j].kids with | none => none | some (c, true) => some (c, true) | some (c, false) => runActs (fun c k => oneBody d p c k) c r (acts.drop (j + 1)) := by
            rw [HD.out]; simp only [runActs, hk]; rfl
          have HST := Lib.hid hstep
          have HKK := Lib.hid hkk
          clear hstep hk hkk
          go_wp2
          obtain ⟨wo, HWO⟩ : ∃ wo : World, wo = wr.alloc (Obj.cells #[.int .i64 2, .slice D acts[j].deeds.length cd, .slice E acts[j].kids.length ce, .int .i64 acts[j].reg] 34) := ⟨_, rfl⟩
          have hbo : Below W2.heap.size W2 wo := by rw [HWO]; exact hbr.alloc hbr.size _
          have hwo : Below wr.heap.size wr wo := by rw [HWO]; exact (by repeat (first | exact Below.refl _ _ | (refine Below.alloc ?_ (by simp) _) | (refine Below.setCell ?_ (by simp) _) | (refine below_drewN' ?_ _) | (refine Below.drew ?_)))
          have hEo : Row Kd.int wo S E acts[j].kids := hE.belowAll hwo
          have hoCo := hoC.belowAll hwo
          have hoRo := hoR.belowAll hwo
          have hbw0 : Below w.heap.size w wo := hbw2.trans (hwo.mono hbw2.size)
          rw [← HWO]
          clear HWO hwo
          go_loopw [1, 10, 58] (fun vC vF vI wr => ∃ (q : Nat) (c' : List Int) (A1 : Option Addr) (n1 : Nat), q ≤ acts[j].kids.length ∧ vI = .int .i64 q ∧ vF = .bool false ∧ vC = .slice A1 c'.length n1 ∧ OwnI 3 wr base (.slice A1 c'.length n1) c' ∧ Hid (runKids (fun c k => oneBody d p c k) c acts[j].kids = runKids (fun c k => oneBody d p c k) c' (acts[j].kids.drop q)) ∧ Below wo.heap.size wo wr) (fun _ _ vI _ => acts[j].kids.length - (intOf vI).toNat)
          case atStart => exact ⟨0, c, Ac, _, Nat.zero_le _, rfl, rfl, rfl, hoCo, rfl, Below.refl _ _⟩
          case round =>
            obtain ⟨q, c', A1, n1, hq, rfl, rfl, rfl, hoC', HKD, hbq⟩ := hrel
            have hbq2 : Below W2.heap.size W2 wr := below_then hbo hbo.size hbq
            have hbq0 : Below w.heap.size w wr := hbw0.trans (hbq.mono hbw0.size)
            have c0q := (hbq2.cell (p := ⟨w.heap.size, 0, none⟩) (by rw [HZ.out]; simp)).trans c0
            have c1q := (hbq2.cell (p := ⟨w.heap.size, 1, none⟩) (by rw [HZ.out]; simp)).trans c1
            by_cases hlq : q < acts[j].kids.length
            · obtain ⟨ad3, rfl, hl4, hck, hik⟩ := at_int (hEo.belowAll hbq) hlq
              have hkk := HKK.out _ (List.getElem_mem hlq)
              have hdr : acts[j].kids.drop q = acts[j].kids[q] :: acts[j].kids.drop (q + 1) := List.drop_eq_getElem_cons hlq
              obtain ⟨z, hz⟩ : ∃ z : Nat, acts[j].kids[q] = (z : Int) := ⟨acts[j].kids[q].toNat, by omega⟩
              have hst2 : runKids (fun c k => oneBody d p c k) c' (acts[j].kids.drop q) = match oneBody d p c' z with | none => none | some (c, true) => some (c, true) | some (c, false) => runKids (fun c k => oneBody d p c k) c (acts[j].kids.drop (q + 1)) := by
                rw [hdr, hz]; simp only [runKids, Int.toNat_natCast]; rcases oneBody d p c' z with _ | ⟨c, _ | _⟩ <;> rfl
              have HS2 := Lib.hid hst2
              rw [hz] at hck hkk
              have hBq := hB2.belowAll hbq2
              clear hdr hz hst2
              have hcall := ih.out (by omega) z (by omega) (by omega) A (some ad) ca cb c' (.slice A1 c'.length n1) base wr S hBq hoC' (by have := hbq0.size; omega)
              have HCALL := Lib.hid hcall
              clear hcall
              cases hob : oneBody d p c' z with
              | none =>
                have HOB := Lib.hid hob
                clear hob
                go_wp2_with (go_at_call 33; refine (HCALL.out).mono ?_; rw [HOB.out]; rintro e w3 ⟨rfl, hb3⟩)
                rw [Exit.noGoto_ret]
                go_ret3
                exact HE3.out _ (hbq0.trans (hb3.mono hbq0.size)) (by rw [HA.out, HST.out, HKD.out, HS2.out, HOB.out])
              | some x =>
                obtain ⟨c3, f3⟩ := x
                have HOB := Lib.hid hob
                clear hob
                cases f3 with
                | true =>
                  go_wp2_with (go_at_call 33; refine (HCALL.out).mono ?_; rw [HOB.out]; rintro e w3 ⟨⟨vC, rfl, ho1⟩, hb3⟩; obtain ⟨A3, n3, rfl, _, hq1⟩ := ho1.row; clear hq1)
                  rw [Exit.noGoto_ret]
                  go_ret3
                  exact HE2.out _ (hbq0.trans (hb3.mono hbq0.size)) _ _ _ (by rw [HA.out, HST.out, HKD.out, HS2.out, HOB.out]) ho1
                | false =>
                  go_wp2_with (go_at_call 33; refine (HCALL.out).mono ?_; rw [HOB.out]; rintro e w3 ⟨⟨vC, rfl, ho1⟩, hb3⟩; obtain ⟨A3, n3, rfl, _, hq1⟩ := ho1.row; clear hq1)
                  go_roundw
                  case rel => exact ⟨q + 1, c3, A3, n3, by omega, by go_num, rfl, rfl, ho1, by unfold Hid; rw [HKD.out, HS2.out, HOB.out], below_then hbq hbq.size hb3⟩
                  case measure => simp [intOf]; omega
            · have hnil : acts[j].kids.drop q = [] := List.drop_of_length_le (by omega)
              have HNIL := Lib.hid hnil
              clear hnil
              go_wp2
              go_roundw
              case rel => exact ⟨j + 1, c', r, A1, Ar, n1, cr, by omega, by go_num, rfl, rfl, rfl, HR3.out, hoC', hoRo.belowAll hbq, by unfold Hid; rw [HA.out, HST.out, HKD.out, HNIL.out]; rfl, hbq2⟩
              case measure => simp [intOf]; omega
        · -- it fails
          rw [hk] at k0
          have hstep : runActs (fun c k => oneBody d p c k) c r (acts.drop j) = some (c, true) := by
            rw [HD.out]; simp [runActs, hk]
          have HST := Lib.hid hstep
          clear hstep hk
          go_wp2
          rw [Exit.noGoto_ret]
          go_ret3
          exact HE2.out _ (hbw2.alloc hbw2.size _) _ _ _ (by rw [HA.out, HST.out]) (hoC.al _)
        · -- it fails, if there is something
          rw [hk] at k0
          obtain ⟨gr, cr', hvr, hgr1, hgr2⟩ := hoR.place (by rw [HR3.out]; omega)
          injection hvr with e1 e2 e3
          subst e1; subst e3
          obtain ⟨x, hx⟩ : ∃ x : Nat, acts[j].reg = (x : Int) := ⟨acts[j].reg.toNat, by omega⟩
          have hxl : x < r.length := by rw [HR3.out]; omega
          have hoR' := hoR
          rw [← HR3.out] at hoR'
          obtain ⟨hcx, hfx⟩ := hoR'.cell hxl
          have hcw : ∀ o, (wr.alloc o).cell? ⟨gr, x, none⟩ = some (.int .i64 r[x]) := fun o => by rw [World.cell?_alloc_lt _ _ _ hgr2]; exact hcx
          by_cases h0 : r[x] = 0
          · have hstep : runActs (fun c k => oneBody d p c k) c r (acts.drop j) = runActs (fun c k => oneBody d p c k) c r (acts.drop (j + 1)) := by
              rw [HD.out]; simp [runActs, hk, hx, rdI, hxl, h0]
            have HST := Lib.hid hstep
            rw [hx] at k3 hg1 hg2
            rw [h0] at hcw
            clear hstep hk hx h0 e2 hcx hoR'
            go_wp2
            go_roundw
            case rel => exact ⟨j + 1, c, r, Ac, some ⟨gr, 0, none⟩, cc2, cr, by omega, by go_num, rfl, rfl, rfl, HR3.out, hoC.al _, hoR.al _, by unfold Hid; rw [HA.out, HST.out], hbr.alloc hbr.size _⟩
            case measure => simp [intOf]; omega
          · have hstep : runActs (fun c k => oneBody d p c k) c r (acts.drop j) = some (c, true) := by
              rw [HD.out]; simp [runActs, hk, hx, rdI, hxl, h0]
            have HST := Lib.hid hstep
            have hb0 : (r[x] == 0) = false := by simp [h0]
            rw [hx] at k3 hg1 hg2
            clear hstep hk hx h0 e2 hcx hoR'
            go_wp2
            rw [Exit.noGoto_ret]
            go_ret3
            exact HE2.out _ (hbw2.alloc hbw2.size _) _ _ _ (by rw [HA.out, HST.out]) (hoC.al _)
      · go_wp2
        rw [Exit.noGoto_ret]
        go_ret3
        exact HE2.out _ hbw2 _ _ _ (by rw [HA.out, List.drop_of_length_le (by omega)]; rfl) hoC
end Go.Proofs.Ytehgiijpmldiiaa
