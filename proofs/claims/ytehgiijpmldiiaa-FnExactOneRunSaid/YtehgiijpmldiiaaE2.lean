/- The reference does a body act by act: the walk. -/
import Derived.Test.YtehgiijpmldiiaaE1
import Derived.Deep.RegionHeld3
namespace Go.Proofs.Ytehgiijpmldiiaa
open Go.RowKit
set_option linter.unusedVariables false
set_option linter.unusedSimpArgs false

set_option maxHeartbeats 4000000 in
set_option maxRecDepth 100000 in
theorem specBody_calls (p : Prog) (hf : formOk p = true) : ∀ (d : Nat) (hd : d ≤ 4) (b : Nat) (hb : b < p.bodies.length) (hbd : p.bodies.length ≤ b + d) (A B : Option Addr) (ca cb : Nat) (cells : List Int) (vc : Value) (base g : Nat) (w : World) (S : Nat → Prop)
    (hB : Row (Kd.slice kAct) w S B p.bodies) (hSg : ∀ k, S k → k ≠ g) (hO : OneAt w base g A B p.cells.length ca p.bodies.length cb vc cells false) (hbw : base ≤ w.heap.size),
    Calls Try.prog 31 #[.pointer (some ⟨g, 0, none⟩), .int .i64 (b : Nat)] w (ResBody (oneBody d p cells b) w base g A B p.cells.length ca p.bodies.length cb) := by
  intro d
  induction d with
  | zero => intro _ b hb hbd; omega
  | succ d ih0 =>
    intro hd b hb hbd A B ca cb cells vc base g w S hB hSg hO hbw
    have ih := Lib.hid ih0
    clear ih0
    have hacts := formOk_acts hf hb
    obtain ⟨acts, HA⟩ : ∃ acts, acts = p.bodies[b] := ⟨_, rfl⟩
    have hal : acts.length ≤ 4 := by rw [HA]; exact hacts.1
    have hlen := formOk_len hf
    have hend : oneBody (d + 1) p cells b = runActs (fun c k => oneBody d p c k) cells [0, 0, 0] acts := by rw [HA, oneBody, getD_at _ _ _ hb]
    have HE := Lib.hid hend
    have hkid : ∀ (i : Nat) (hi : i < acts.length), actOk acts[i] p.cells.length b p.bodies.length = true := by
      subst HA
      intro i hi
      have := formOk_body hf hb
      simp only [bodyOk, Bool.and_eq_true, List.all_eq_true] at this
      exact this.2 _ (List.getElem_mem hi)
    have HK := Lib.hid hkid
    obtain ⟨ad, C, cc, rfl, hl, hc, hcl, hC0⟩ := at_slice hB hb
    obtain ⟨ad', hade, hSad⟩ : ∃ ad', (some ad : Option Addr) = some ad' ∧ ad'.block ≠ g := by
      obtain ⟨ad', _, e, hs, _⟩ := hB.get hb
      exact ⟨ad', e, hSg _ hs⟩
    injection hade with hade
    subst hade
    rw [← HA] at hc hcl hC0
    have hma := hC0.1
    have hm2 := hB.1
    have hmk := mk3s
    have hgl := hO.lt
    have HSG := Lib.hid hSg
    clear hacts hend hkid HA hSg
    go_enter Try.func31, Try.ntmps31
    go_wp2
    obtain ⟨W2, HW⟩ : ∃ W2, W2 = w.alloc (Obj.cells #[.int .i64 0, .int .i64 0, .int .i64 0] 3) := ⟨_, rfl⟩
    have hk2 : Keep (fun k => k = g) w W2 := by rw [HW]; exact (Keep.refl _ _).alloc _
    have hb2 : Below w.heap.size w W2 := by rw [HW]; exact (by repeat (first | exact Below.refl _ _ | (refine Below.alloc ?_ (by simp) _) | (refine Below.setCell ?_ (by simp) _) | (refine below_drewN' ?_ _) | (refine Below.drew ?_)))
    have hr2 : OwnI 3 W2 base (.slice (some ⟨w.heap.size, 0, none⟩) 3 3) [0, 0, 0] := by rw [HW]; exact ownI_zeros' w base hbw
    have hO2 := hO.below hb2
    have hB2 := hB.belowAll hb2
    have hC2 := hC0.belowAll hb2
    have hcc2 := (hb2.cell (p := ad.add b) (by rw [block_add]; exact hl)).trans hc
    have hz2 := hb2.size
    rw [← HW]
    clear HW hB hC0 hc hO hb2
    go_loopw [5, 6] (fun vR vI wr => ∃ (j : Nat) (c r : List Int) (vC : Value) (Ar : Option Addr) (cr : Nat) (st : Bool), j ≤ acts.length ∧ vI = .int .i64 j ∧ vR = .slice Ar 3 cr ∧ Hid (r.length = 3) ∧ OneAt wr base g A (some ad) p.cells.length ca p.bodies.length cb vC c st ∧ OwnI 3 wr base (.slice Ar 3 cr) r ∧ Hid (∀ k, Value.ownBlock (.slice Ar 3 cr) = some k → k ≠ g) ∧ Hid (oneBody (d + 1) p cells b = if st then none else runActs (fun c k => oneBody d p c k) c r (acts.drop j)) ∧ Keep (fun k => k = g) W2 wr) (fun _ vI _ => acts.length - (intOf vI).toNat)
    case atStart => exact ⟨0, cells, [0, 0, 0], vc, _, 3, false, Nat.zero_le _, rfl, rfl, rfl, hO2, hr2, fun k hk => by simp [Value.ownBlock] at hk; omega, by unfold Hid; rw [HE.out]; rfl, Keep.refl _ _⟩
    case round =>
      obtain ⟨j, c, r, vC, Ar, cr, st, hj, rfl, rfl, HR3, hOr, hoR, HRG, HA, hkr⟩ := hrel
      have s0 := hOr.cell 0; have s1 := hOr.cell 1; have s2 := hOr.cell 2; have s3 := hOr.cell 3
      have f2 := hOr.frozen 2; have f3 := hOr.frozen 3
      simp at s0 s1 s2 s3
      have hcr := (hkr.cell (p := ad.add b) (by rw [block_add]; omega) (by rw [block_add]; exact hSad)).trans hcc2
      have hgr0 := hOr.lt
      cases st with
      | true =>
        by_cases hlt : j < acts.length
        all_goals
          go_wp2
          go_ret
          exact ⟨hk2.trans hkr, by rw [HA.out]; exact ⟨_, _, rfl, hOr⟩⟩
      | false =>
      by_cases hlt : j < acts.length
      · obtain ⟨ad2, D, cd, E, ce, rfl, hl3, k0, k1, k2, k3, hcd, hce, hD, hE, hi1, hi2⟩ := at_act (hC2.keep hkr (fun k h _ => HSG.out k h)) hlt
        have hdrop : acts.drop j = acts[j] :: acts.drop (j + 1) := List.drop_eq_getElem_cons hlt
        have HD := Lib.hid hdrop
        clear hdrop
        have hme := hE.1
        have hmd := hD.1
        rcases actOk_kinds (HK.out j hlt) with hk | ⟨hk, hkl, hkk⟩ | hk | ⟨hk, hg1, hg2⟩
        · -- a change
          obtain ⟨Ac, cc', rfl, hcl2, _⟩ := hOr.C.row
          rw [hk] at k0
          have hstep : runActs (fun c k => oneBody d p c k) c r (acts.drop j) = match changeDo c r acts[j].deeds with | none => none | some (c', r') => runActs (fun c k => oneBody d p c k) c' r' (acts.drop (j + 1)) := by
            rw [HD.out]; simp only [runActs, hk, if_pos]; cases changeDo c r acts[j].deeds with | none => rfl | some x => rfl
          have HST := Lib.hid hstep
          have h3 := specChangeDo_calls c r acts[j].deeds Ac Ar D cc' cr cd
          rw [HR3.out] at h3
          have H3 := Lib.hid h3
          clear hstep hk h3
          go_wp2
          obtain ⟨wo, HWO⟩ : ∃ wo, wo = wr.alloc (Obj.cells #[.int .i64 1, .slice D acts[j].deeds.length cd, .slice E acts[j].kids.length ce, .int .i64 acts[j].reg] 34) := ⟨_, rfl⟩
          have hbo : Below wr.heap.size wr wo := by rw [HWO]; exact (by repeat (first | exact Below.refl _ _ | (refine Below.alloc ?_ (by simp) _) | (refine Below.setCell ?_ (by simp) _) | (refine below_drewN' ?_ _) | (refine Below.drew ?_)))
          have hzo : wr.heap.size < wo.heap.size := by rw [HWO]; simp
          have m1 : wo.cell? ⟨wr.heap.size, 1, none⟩ = some (.slice D acts[j].deeds.length cd) := by rw [HWO]; simp [go_sem]
          have hOo := hOr.below hbo
          have s2o := hOo.cell 2
          simp at s2o
          have hDo := hD.belowAll hbo
          obtain ⟨_, _, e1, _, hrC⟩ := hOo.C.row
          injection e1 with e1 e2 e3
          subst e1; subst e3
          have hoRo := hoR.belowAll hbo
          obtain ⟨_, _, e1, _, hrR⟩ := hoRo.row
          injection e1 with e1 e4 e3
          subst e1; subst e3
          rw [← HWO]
          have hgo := hOo.lt
          clear HWO e2 e4
          have hbw : Below wo.heap.size wo wo.drew := (Below.refl _ _).drew
          cases hdo : changeDo c r acts[j].deeds with
          | none =>
            have HDO := Lib.hid hdo
            clear hdo
            go_region_held3 (fun w' => w'.cell? ⟨g, 2, none⟩ = some (.slice Ac c.length cc') ∧ w'.cell? ⟨wr.heap.size, 1, none⟩ = some (.slice D acts[j].deeds.length cd) ∧ Below wo.heap.size wo w') (go_keep)
              (first | (go_at_call 61; refine (H3.out _ _ _ _ (Row.belowAll hrC ‹Below wo.heap.size wo _›) (Row.belowAll hrR ‹Below wo.heap.size wo _›) (Row.belowAll hDo ‹Below wo.heap.size wo _›)).mono ?_; rw [HDO.out]; rintro e w3 ⟨⟨vc3, vr3, rfl, ho1, ho2⟩, hb3⟩; have hz4 := Below.size ‹Below wo.heap.size wo _›; have hbo3 := below_then ‹Below wo.heap.size wo _› hz4 hb3; have q1 := (hbo3.cell (p := ⟨g, 2, none⟩) hgo).trans s2o; have q2 := (hbo3.cell (p := ⟨wr.heap.size, 1, none⟩) hzo).trans m1; obtain ⟨A1, n1, rfl, _, hq1⟩ := OwnI.row ho1; obtain ⟨A2, n2, rfl, _, hq2⟩ := OwnI.row ho2; clear hq1 hq2))
            have hO3 := OneAt.below hOo hbo3
            have f3o := hO3.frozen 3; have s3o := hO3.cell 3; simp at s3o
            go_wp2
            go_ret
            have hk3 : Keep (fun k => k = g) wr w3 := (Keep.of_belowAll _ hbo).then_ (Keep.of_belowAll (fun _ => False) hbo3) (fun _ _ h => h.elim)
            refine ⟨hk2.trans (hkr.trans (hk3.setCell (fun _ => rfl) _)), ?_⟩
            rw [HA.out]
            rw [if_neg (by decide), HST.out, HDO.out]
            exact ⟨_, _, rfl, hO3.setStuck true⟩
          | some x =>
            obtain ⟨c', r'⟩ := x
            have HDO := Lib.hid hdo
            have hdk := changeDo_desk hdo
            have hr3 : r'.length = 3 := hdk.rl
            have HR4 := Lib.hid hr3
            clear hdo hdk hr3
            go_region_held3 (fun w' => w'.cell? ⟨g, 2, none⟩ = some (.slice Ac c.length cc') ∧ w'.cell? ⟨wr.heap.size, 1, none⟩ = some (.slice D acts[j].deeds.length cd) ∧ Below wo.heap.size wo w') (go_keep)
              (first | (go_at_call 61; refine (H3.out _ _ _ _ (Row.belowAll hrC ‹Below wo.heap.size wo _›) (Row.belowAll hrR ‹Below wo.heap.size wo _›) (Row.belowAll hDo ‹Below wo.heap.size wo _›)).mono ?_; rw [HDO.out]; rintro e w3 ⟨⟨vc3, vr3, rfl, ho1, ho2, _⟩, hb3⟩; have hz4 := Below.size ‹Below wo.heap.size wo _›; have hbo3 := below_then ‹Below wo.heap.size wo _› hz4 hb3; have q1 := (hbo3.cell (p := ⟨g, 2, none⟩) hgo).trans s2o; have q2 := (hbo3.cell (p := ⟨wr.heap.size, 1, none⟩) hzo).trans m1; obtain ⟨A1, n1, rfl, _, hq1⟩ := OwnI.row ho1; obtain ⟨A2, n2, rfl, _, hq2⟩ := OwnI.row ho2; clear hq1 hq2))
            have hO3 := OneAt.below hOo hbo3
            have f3o := hO3.frozen 2; have s3o := hO3.cell 2; simp at s3o
            go_wp2
            have hk3 : Keep (fun k => k = g) wr w3 := (Keep.of_belowAll _ hbo).then_ (Keep.of_belowAll (fun _ => False) hbo3) (fun _ _ h => h.elim)
            have hbz : base ≤ wo.heap.size := by have := hk2.size; have := hkr.size; omega
            go_roundw
            case rel =>
              rw [HR4.out] at ho2 ⊢
              refine ⟨j + 1, c', r', _, A2, n2, false, by omega, by go_num, rfl, HR4.out, hO3.setCells (ho1.lower (Nat.le_trans hbz hz4)) (fun k hk => by have := (ho1.blk k hk).1; omega), (ho2.lower (Nat.le_trans hbz hz4)).far (fun k hk => by have := (ho2.blk k hk).1; show k ≠ g; omega) _, fun k hk => by have := (ho2.blk k hk).1; omega, by unfold Hid; rw [HA.out, if_neg (by decide), HST.out, HDO.out]; rfl, hkr.trans (hk3.setCell (fun _ => rfl) _)⟩
            case measure => simp [intOf]; omega
        · -- a fork
          rw [hk] at k0
          have hstep : runActs (fun c k => oneBody d p c k) c r (acts.drop j) = match runKids (fun c k => oneBody d p c k) c acts[j].kids with | none => none | some (c, true) => some (c, true) | some (c, false) => runActs (fun c k => oneBody d p c k) c r (acts.drop (j + 1)) := by
            rw [HD.out]; simp only [runActs, hk]; rfl
          have HST := Lib.hid hstep
          have HKK := Lib.hid hkk
          clear hstep hk hkk
          go_wp2
          obtain ⟨wo, HWO⟩ : ∃ wo : World, wo = wr.alloc (Obj.cells #[.int .i64 2, .slice D acts[j].deeds.length cd, .slice E acts[j].kids.length ce, .int .i64 acts[j].reg] 34) := ⟨_, rfl⟩
          have hwo : Below wr.heap.size wr wo := by rw [HWO]; exact (by repeat (first | exact Below.refl _ _ | (refine Below.alloc ?_ (by simp) _) | (refine Below.setCell ?_ (by simp) _) | (refine below_drewN' ?_ _) | (refine Below.drew ?_)))
          have hzo : wr.heap.size < wo.heap.size := by rw [HWO]; simp
          have m2 : wo.cell? ⟨wr.heap.size, 2, none⟩ = some (.slice E acts[j].kids.length ce) := by rw [HWO]; simp [go_sem]
          have hEo : Row Kd.int wo S E acts[j].kids := hE.belowAll hwo
          have hOo := hOr.below hwo
          have hoRo := hoR.belowAll hwo
          have hko : Keep (fun k => k = g) W2 wo := hkr.trans (Keep.of_belowAll _ hwo)
          have hgwr : wr.heap.size ≠ g := by omega
          rw [← HWO]
          clear HWO hwo
          have hko0 := hko.size
          generalize wr.heap.size = n0 at *
          go_loopw [11] (fun vI wq => ∃ (q : Nat) (c' : List Int) (vC' : Value) (st : Bool), q ≤ acts[j].kids.length ∧ vI = .int .i64 q ∧ OneAt wq base g A (some ad) p.cells.length ca p.bodies.length cb vC' c' st ∧ Hid (oneBody (d + 1) p cells b = if st then none else match runKids (fun c k => oneBody d p c k) c' (acts[j].kids.drop q) with | none => none | some (c, true) => some (c, true) | some (c, false) => runActs (fun c k => oneBody d p c k) c r (acts.drop (j + 1))) ∧ Keep (fun k => k = g) wo wq) (fun vI _ => acts[j].kids.length - (intOf vI).toNat)
          case atStart => exact ⟨0, c, vC, false, Nat.zero_le _, rfl, hOo, by unfold Hid; rw [HA.out, if_neg (by decide), HST.out]; rfl, Keep.refl _ _⟩
          case round =>
            obtain ⟨q, c', vC', st, hq, rfl, hOq, HKD, hkq⟩ := hrel
            have m2q := (hkq.cell (p := ⟨n0, 2, none⟩) hzo hgwr).trans m2
            have t3 := hOq.cell 3
            simp at t3
            have hkq2 : Keep (fun k => k = g) W2 wr := hko.trans hkq
            cases st with
            | true =>
              by_cases hlq : q < acts[j].kids.length
              all_goals
                go_wp2
                go_roundw
                case rel => exact ⟨j + 1, c', r, vC', Ar, cr, true, by omega, by go_num, rfl, HR3.out, hOq, hoRo.keep hkq (fun k hk => HRG.out k hk), HRG.out, by unfold Hid; rw [HKD.out]; rfl, hkq2⟩
                case measure => simp [intOf]; omega
            | false =>
            by_cases hlq : q < acts[j].kids.length
            · obtain ⟨ad3, rfl, hl4, hck, hik⟩ := at_int (hEo.keep hkq (fun k h _ => HSG.out k h)) hlq
              have hkk := HKK.out _ (List.getElem_mem hlq)
              have hdr : acts[j].kids.drop q = acts[j].kids[q] :: acts[j].kids.drop (q + 1) := List.drop_eq_getElem_cons hlq
              obtain ⟨z, hz⟩ : ∃ z : Nat, acts[j].kids[q] = (z : Int) := ⟨acts[j].kids[q].toNat, by omega⟩
              have hst2 : runKids (fun c k => oneBody d p c k) c' (acts[j].kids.drop q) = match oneBody d p c' z with | none => none | some (c, true) => some (c, true) | some (c, false) => runKids (fun c k => oneBody d p c k) c (acts[j].kids.drop (q + 1)) := by
                rw [hdr, hz]; simp only [runKids, Int.toNat_natCast]; rcases oneBody d p c' z with _ | ⟨c, _ | _⟩ <;> rfl
              have HS2 := Lib.hid hst2
              rw [hz] at hck hkk
              have hBq := hB2.keep hkq2 (fun k h _ => HSG.out k h)
              clear hdr hz hst2
              have hcall := ih.out (by omega) z (by omega) (by omega) A (some ad) ca cb c' vC' base g wr S hBq HSG.out hOq (by have := hkq2.size; omega)
              have HCALL := Lib.hid hcall
              clear hcall
              cases hob : oneBody d p c' z with
              | none =>
                have HOB := Lib.hid hob
                clear hob
                go_wp2_with (go_at_call 31; refine (HCALL.out).mono ?_; rw [HOB.out]; rintro e w3 ⟨hk3, vc3, c3, rfl, hO3⟩)
                go_roundw
                case rel => exact ⟨q + 1, c3, vc3, true, by omega, by go_num, hO3, by unfold Hid; rw [HKD.out, if_neg (by decide), HS2.out, HOB.out]; rfl, hkq.trans hk3⟩
                case measure => simp [intOf]; omega
              | some x =>
                obtain ⟨c3, f3⟩ := x
                have HOB := Lib.hid hob
                clear hob
                cases f3 with
                | true =>
                  go_wp2_with (go_at_call 31; refine (HCALL.out).mono ?_; rw [HOB.out]; rintro e w3 ⟨hk3, vc3, rfl, hO3⟩; simp only [Bool.not_true])
                  go_ret
                  refine ⟨hk2.trans (hkq2.trans hk3), ?_⟩
                  rw [HKD.out, if_neg (by decide), HS2.out, HOB.out]
                  exact ⟨_, rfl, hO3⟩
                | false =>
                  go_wp2_with (go_at_call 31; refine (HCALL.out).mono ?_; rw [HOB.out]; rintro e w3 ⟨hk3, vc3, rfl, hO3⟩; simp only [Bool.not_false])
                  go_roundw
                  case rel => exact ⟨q + 1, c3, vc3, false, by omega, by go_num, hO3, by unfold Hid; rw [HKD.out, if_neg (by decide), HS2.out, HOB.out]; rfl, hkq.trans hk3⟩
                  case measure => simp [intOf]; omega
            · have hnil : acts[j].kids.drop q = [] := List.drop_of_length_le (by omega)
              have HNIL := Lib.hid hnil
              clear hnil
              go_wp2
              go_roundw
              case rel => exact ⟨j + 1, c', r, vC', Ar, cr, false, by omega, by go_num, rfl, HR3.out, hOq, hoRo.keep hkq (fun k hk => HRG.out k hk), HRG.out, by unfold Hid; rw [HKD.out, if_neg (by decide), HNIL.out]; rfl, hkq2⟩
              case measure => simp [intOf]; omega
        · -- it fails
          rw [hk] at k0
          have hstep : runActs (fun c k => oneBody d p c k) c r (acts.drop j) = some (c, true) := by
            rw [HD.out]; simp [runActs, hk]
          have HST := Lib.hid hstep
          clear hstep hk
          go_wp2
          go_ret
          refine ⟨hk2.trans (hkr.alloc _), ?_⟩
          rw [HA.out, if_neg (by decide), HST.out]
          exact ⟨_, rfl, hOr.below (by repeat (first | exact Below.refl _ _ | (refine Below.alloc ?_ (by simp) _) | (refine Below.setCell ?_ (by simp) _) | (refine below_drewN' ?_ _) | (refine Below.drew ?_)))⟩
        · -- it fails, if there is something
          rw [hk] at k0
          obtain ⟨gr, cr', hvr, hgr1, hgr2⟩ := hoR.place (by rw [HR3.out]; omega)
          injection hvr with e1 e2 e3
          subst e1; subst e3
          obtain ⟨x, hx⟩ : ∃ x : Nat, acts[j].reg = (x : Int) := ⟨acts[j].reg.toNat, by omega⟩
          have hxl : x < r.length := by rw [HR3.out]; omega
          have hoR' := hoR
          rw [← HR3.out] at hoR'
          obtain ⟨hcx, hfx⟩ := hoR'.cell hxl
          have hcw : ∀ o, (wr.alloc o).cell? ⟨gr, x, none⟩ = some (.int .i64 r[x]) := fun o => by rw [World.cell?_alloc_lt _ _ _ hgr2]; exact hcx
          by_cases h0 : r[x] = 0
          · have hstep : runActs (fun c k => oneBody d p c k) c r (acts.drop j) = runActs (fun c k => oneBody d p c k) c r (acts.drop (j + 1)) := by
              rw [HD.out]; simp [runActs, hk, hx, rdI, hxl, h0]
            have HST := Lib.hid hstep
            rw [hx] at k3 hg1 hg2
            rw [h0] at hcw
            clear hstep hk hx h0 e2 hcx hoR'
            go_wp2
            go_roundw
            case rel => exact ⟨j + 1, c, r, vC, some ⟨gr, 0, none⟩, cr, false, by omega, by go_num, rfl, HR3.out, hOr.below (by repeat (first | exact Below.refl _ _ | (refine Below.alloc ?_ (by simp) _) | (refine Below.setCell ?_ (by simp) _) | (refine below_drewN' ?_ _) | (refine Below.drew ?_))), hoR.al _, HRG.out, by unfold Hid; rw [HA.out, if_neg (by decide), HST.out]; rfl, hkr.alloc _⟩
            case measure => simp [intOf]; omega
          · have hstep : runActs (fun c k => oneBody d p c k) c r (acts.drop j) = some (c, true) := by
              rw [HD.out]; simp [runActs, hk, hx, rdI, hxl, h0]
            have HST := Lib.hid hstep
            have hb0 : (r[x] != 0) = true := by simp [h0]
            rw [hx] at k3 hg1 hg2
            clear hstep hk hx h0 e2 hcx hoR'
            go_wp2
            go_ret
            refine ⟨hk2.trans (hkr.alloc _), ?_⟩
            rw [HA.out, if_neg (by decide), HST.out]
            exact ⟨_, rfl, hOr.below (by repeat (first | exact Below.refl _ _ | (refine Below.alloc ?_ (by simp) _) | (refine Below.setCell ?_ (by simp) _) | (refine below_drewN' ?_ _) | (refine Below.drew ?_)))⟩
      · go_wp2
        go_ret
        refine ⟨hk2.trans hkr, ?_⟩
        rw [HA.out, List.drop_of_length_le (by omega)]
        exact ⟨_, rfl, hOr⟩
end Go.Proofs.Ytehgiijpmldiiaa
