/- The program's word on a program. -/
import Derived.Test.YtehgiijpmldiiaaA5
import Derived.Test.YtehgiijpmldiiaaB2
namespace Go.Proofs.Ytehgiijpmldiiaa
open Go.RowKit
set_option linter.unusedVariables false
set_option linter.unusedSimpArgs false

set_option maxHeartbeats 1000000 in
set_option maxRecDepth 100000 in
theorem treeOf_calls (p : Prog) (hf : formOk p = true) : ∀ (d : Nat) (hd : d ≤ 4) (b : Nat) (hb : b < p.bodies.length) (hbd : p.bodies.length ≤ b + d) (A B : Option Addr) (ca cb : Nat) (w : World) (S : Nat → Prop) (hB : Row (Kd.slice kAct) w S B p.bodies),
    Calls Try.prog 65 #[.agg #[.slice A p.cells.length ca, .slice B p.bodies.length cb], .int .i64 (b : Nat)] w fun e w' => e = .returned (.int .i64 (tree d p b)) ∧ Below w.heap.size w w' := by
  intro d
  induction d with
  | zero => intro _ b hb hbd; omega
  | succ d ih0 =>
    intro hd b hb hbd A B ca cb w S hB
    have ih := Lib.hid ih0
    clear ih0
    have hacts := formOk_acts hf hb
    obtain ⟨acts, HA⟩ : ∃ acts, acts = p.bodies[b] := ⟨_, rfl⟩
    have hal : acts.length ≤ 4 := by rw [HA]; exact hacts.1
    have hlen := formOk_len hf
    have hkid : ∀ (i : Nat) (hi : i < acts.length) (k : Nat) (hk : k < acts[i].kids.length), acts[i].kids.length ≤ 2 ∧ (b : Int) + 1 ≤ acts[i].kids[k] ∧ acts[i].kids[k] ≤ (p.bodies.length : Int) - 1 := by
      subst HA
      intro i hi k hk
      have := hacts.2 _ (List.getElem_mem hi)
      exact ⟨this.1, this.2 _ (List.getElem_mem hk)⟩
    have hsm : ∀ (i : Nat) (hi : i < acts.length) (k : Nat), 0 ≤ actsSum (fun k => tree d p k.toNat) (acts.take i) ∧ actsSum (fun k => tree d p k.toNat) (acts.take i) ≤ 52488 ∧ 0 ≤ sumOf (fun k => tree d p k.toNat) (acts[i].kids.take k) ∧ sumOf (fun k => tree d p k.toNat) (acts[i].kids.take k) ≤ 13122 := by
      subst HA
      intro i hi k
      exact treeSum_small hf d (by omega) b hb i k hi
    have hend : tree (d + 1) p b = 1 + actsSum (fun k => tree d p k.toNat) acts := by rw [HA, tree, getD_at _ _ _ hb]
    have HE := Lib.hid hend
    have HK := Lib.hid hkid
    have HS := Lib.hid hsm
    have hslot : Hid (p.bodies[b] = acts) := HA.symm
    have hm2 := hB.1
    obtain ⟨ad, C, cc, rfl, hl, hc, hcl, hC0⟩ := at_slice hB hb
    rw [← HA] at hc hcl hC0
    clear hacts hend hkid hsm HA
    have hma := hC0.1
    have hcW : ∀ o, (w.alloc o).cell? (ad.add b) = some (.slice C acts.length cc) := fun o => by rw [World.cell?_alloc_lt _ _ _ (by rw [block_add]; exact hl)]; exact hc
    go_enter Try.func65, Try.ntmps65
    go_wp2
    clear hcW
    obtain ⟨W2, HW⟩ : ∃ W2, W2 = w.alloc (Obj.cells #[.slice A p.cells.length ca, .slice (some ad) p.bodies.length cb] 26) := ⟨_, rfl⟩
    have hb2 : Below w.heap.size w W2 := by rw [HW]; exact (Below.refl _ _).alloc (Nat.le_refl _) _
    have hz2 : W2.heap.size = w.heap.size + 1 := by rw [HW]; simp
    have c0 : W2.cell? ⟨w.heap.size, 0, none⟩ = some (.slice A p.cells.length ca) := by rw [HW]; simp [go_sem]
    have c1 : W2.cell? ⟨w.heap.size, 1, none⟩ = some (.slice (some ad) p.bodies.length cb) := by rw [HW]; simp [go_sem]
    have hB2 := hB.belowAll hb2
    have hC2 := hC0.belowAll hb2
    rw [← HW]
    have HZ := Lib.hid hz2
    clear HW hz2 hB hC0 hc
    go_loopw [5, 16] (fun n i wr => ∃ j : Nat, j ≤ acts.length ∧ i = .int .i64 j ∧ n = .int .i64 (1 + actsSum (fun k => tree d p k.toNat) (acts.take j)) ∧ Below W2.heap.size W2 wr) (fun _ i _ => acts.length - (intOf i).toNat)
    case atStart => exact ⟨0, Nat.zero_le _, rfl, by simp [actsSum, sumOf], Below.refl _ _⟩
    case round =>
      obtain ⟨j, hj, rfl, rfl, hbr⟩ := hrel
      by_cases hlt : j < acts.length
      · obtain ⟨ad2, D, cd, E, ce, rfl, hl3, k0, k1, k2, k3, hcd, hce, hD, hE, hi1, hi2⟩ := at_act (hC2.belowAll hbr) hlt
        have hme := hE.1
        go_wp2
        obtain ⟨wo, HWO⟩ : ∃ wo : World, wo = wr.alloc (Obj.cells #[.int .i64 acts[j].kind, .slice D acts[j].deeds.length cd, .slice E acts[j].kids.length ce, .int .i64 acts[j].reg] 34) := ⟨_, rfl⟩
        have hbo : Below W2.heap.size W2 wo := by rw [HWO]; exact hbr.alloc hbr.size _
        have hEo : Row Kd.int wo S E acts[j].kids := hE.belowAll (by rw [HWO]; exact (by repeat (first | exact Below.refl _ _ | (refine Below.alloc ?_ (by simp) _) | (refine Below.setCell ?_ (by simp) _) | (refine below_drewN' ?_ _) | (refine Below.drew ?_))))
        rw [← HWO]
        clear HWO
        go_loopw [5, 23] (fun n v wr => ∃ k : Nat, k ≤ acts[j].kids.length ∧ v = .int .i64 k ∧ n = .int .i64 (1 + actsSum (fun k => tree d p k.toNat) (acts.take j) + sumOf (fun k => tree d p k.toNat) (acts[j].kids.take k)) ∧ Below wo.heap.size wo wr) (fun _ v _ => acts[j].kids.length - (intOf v).toNat)
        case atStart => exact ⟨0, Nat.zero_le _, rfl, by simp [sumOf], Below.refl _ _⟩
        case round =>
          obtain ⟨k, hk, rfl, rfl, hbj⟩ := hrel
          have hbj2 : Below W2.heap.size W2 wr := below_then hbo hbo.size hbj
          have c0j := (hbj2.cell (p := ⟨w.heap.size, 0, none⟩) (by rw [HZ.out]; simp)).trans c0
          have c1j := (hbj2.cell (p := ⟨w.heap.size, 1, none⟩) (by rw [HZ.out]; simp)).trans c1
          by_cases hlk : k < acts[j].kids.length
          · obtain ⟨ad3, rfl, hl4, hck, hik⟩ := at_int (hEo.belowAll hbj) hlk
            have hkk := HK.out j hlt k hlk
            have hss := HS.out j hlt k
            have hts := tree_small hf d acts[j].kids[k].toNat (by omega)
            obtain ⟨q, hq⟩ : ∃ q : Nat, acts[j].kids[k] = (q : Int) := ⟨acts[j].kids[k].toNat, by omega⟩
            have HQ := Lib.hid hq
            rw [hq] at hck hkk hts
            simp only [Int.toNat_natCast] at hts
            have hBq := hB2.belowAll hbj2
            clear hq
            go_wp2_with (go_at_call 65; refine (ih.out (by omega) q (by omega) (by omega) _ _ _ _ _ S hBq).mono ?_; rintro e w1 ⟨rfl, hb1⟩)
            go_roundw
            case rel =>
              refine ⟨k + 1, by omega, by go_num, ?_, below_then hbj hbj.size hb1⟩
              rw [sumOf_snoc _ _ _ hlk, HQ.out]
              exact val_int (by simp only [Int.toNat_natCast]; omega)
            case measure => simp [intOf]; omega
          · go_wp2
            go_roundw
            case rel =>
              refine ⟨j + 1, by omega, by go_num, ?_, hbj2⟩
              rw [actsSum_snoc _ _ _ hlt, sumOf_all _ _ _ (by omega)]; go_num
            case measure => simp [intOf]; omega
      · go_wp2
        go_ret
        refine ⟨?_, hb2.trans (hbr.mono (by rw [HZ.out]; omega))⟩
        exact ret_int (by rw [HE.out, actsSum_all _ _ _ (by omega)])

/-- What the program says of an act. -/
theorem actOk_part (a : Act) (D E : Option Addr) (cd ce : Nat) (c body bodies : Int) (w : World) (S : Nat → Prop) (hd : Row kDeed w S D a.deeds) (hk : Row Kd.int w S E a.kids) (h0 : 0 ≤ c) (h1 : c ≤ 3) :
    Calls Try.prog 63 #[partAV a.kind a.deeds a.kids a.reg D E cd ce, .int .i64 c, .int .i64 body, .int .i64 bodies] w fun e w' => e = .returned (.bool (actOk a c body bodies)) ∧ Below w.heap.size w w' := by
  obtain ⟨k, deeds, kids, reg⟩ := a
  by_cases k1 : k = 1 ∧ kids = [] ∧ reg = 0
  · obtain ⟨rfl, rfl, rfl⟩ := k1
    have := actOk_try deeds D cd c body bodies w S hd (by omega)
    simp only [partAV]
    refine this.mono ?_
    rintro e w' ⟨rfl, hb⟩
    refine ⟨?_, hb⟩
    simp only [actOk, changeOk, inR]
    simp [h0, h1]
  · by_cases k2 : k = 2 ∧ deeds = [] ∧ reg = 0
    · obtain ⟨rfl, rfl, rfl⟩ := k2
      have := actOk_fork kids E ce c body bodies w S hk
      simp only [partAV]
      refine this.mono ?_
      rintro e w' ⟨rfl, hb⟩
      exact ⟨by simp [actOk], hb⟩
    · by_cases k3 : k = 3 ∧ deeds = [] ∧ kids = [] ∧ reg = 0
      · obtain ⟨rfl, rfl, rfl, rfl⟩ := k3
        refine (actOk_fail c body bodies w).mono ?_
        rintro e w' ⟨rfl, hb⟩
        exact ⟨by simp [actOk], hb⟩
      · by_cases k4 : k = 4 ∧ deeds = [] ∧ kids = []
        · obtain ⟨rfl, rfl, rfl⟩ := k4
          refine (actOk_failIf reg c body bodies w).mono ?_
          rintro e w' ⟨rfl, hb⟩
          exact ⟨by simp [actOk], hb⟩
        · have hv : partAV k deeds kids reg D E cd ce = .nilIface := by simp only [partAV, if_neg k1, if_neg k2, if_neg k3, if_neg k4]
          simp only [hv]
          refine (actOk_nil c body bodies w).mono ?_
          rintro e w' ⟨rfl, hb⟩
          refine ⟨ret_bool ?_, hb⟩
          symm
          unfold actOk
          split
          · rename_i h; subst h; simp at k1; by_cases kids = [] <;> by_cases reg = 0 <;> simp_all
          · split
            · rename_i h; subst h; simp at k2; by_cases deeds = [] <;> by_cases reg = 0 <;> simp_all
            · split
              · rename_i h; subst h; simp at k3; by_cases deeds = [] <;> by_cases kids = [] <;> by_cases reg = 0 <;> simp_all
              · split
                · rename_i h; subst h; simp at k4; by_cases deeds = [] <;> by_cases kids = [] <;> simp_all
                · rfl
end Go.Proofs.Ytehgiijpmldiiaa
