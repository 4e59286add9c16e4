/- How many tasks a body may be, and the reference's word on a program. What a call leaves as it was: all old blocks but some. The reference does a body act by act. The reference does a body act by act: the walk. The reference's OneRun; the laws' word on two rows of numbers. The laws' helpers: sizes; rows of numbers compared. The laws' helpers: the size of a program. The laws' helpers: what is equal is found equal. The reader of draws: a number is picked. Draws: a reader is opened; a deed is drawn. Draws: a change is drawn. -/
import Derived.Deep.RegionHeld3
import Derived.Deep.DrawnRows
import Derived.Laws.BitsAllLaws
import Derived.Laws.BitsLemmas
import Derived.Test.YtcpabkfoalhldaaQa
namespace Go.Proofs.Ytcpabkfoalhldaa
open Go.RowKit
set_option linter.unusedVariables false
set_option linter.unusedSimpArgs false

theorem pow9_le (d : Nat) (h : d ≤ 4) : (9 : Int) ^ d ≤ 6561 := by
  have : d = 0 ∨ d = 1 ∨ d = 2 ∨ d = 3 ∨ d = 4 := by omega
  rcases this with rfl | rfl | rfl | rfl | rfl <;> decide
theorem tree_small {p : Prog} (h : formOk p = true) (d b : Nat) (hd : d ≤ 4) : 0 ≤ tree d p b ∧ tree d p b ≤ 6561 := by
  have := tree_bound h d b
  have := pow9_le d hd
  omega
theorem treeSum_small {p : Prog} (h : formOk p = true) (d : Nat) (hd : d ≤ 4) (b : Nat) (hb : b < p.bodies.length) (i k : Nat) (hi : i < p.bodies[b].length) :
    0 ≤ actsSum (fun k => tree d p k.toNat) (p.bodies[b].take i) ∧ actsSum (fun k => tree d p k.toNat) (p.bodies[b].take i) ≤ 52488 ∧ 0 ≤ sumOf (fun k => tree d p k.toNat) (p.bodies[b][i].kids.take k) ∧ sumOf (fun k => tree d p k.toNat) (p.bodies[b][i].kids.take k) ≤ 13122 := by
  have ha := formOk_acts h hb
  have h1 := actsSum_bound (fun k => tree d p k.toNat) 6561 (by decide) (p.bodies[b].take i) (fun a m => (ha.2 a (List.mem_of_mem_take m)).1) (fun a _ k _ => tree_small h d _ hd)
  have h2 := sumOf_bound (fun k => tree d p k.toNat) 6561 (p.bodies[b][i].kids.take k) (fun k _ => tree_small h d _ hd)
  have h3 : (p.bodies[b].take i).length ≤ 4 := by rw [List.length_take]; omega
  have h4 : (p.bodies[b][i].kids.take k).length ≤ 2 := by rw [List.length_take]; have := (ha.2 _ (List.getElem_mem hi)).1; omega
  omega

set_option maxHeartbeats 1000000 in
set_option maxRecDepth 100000 in
theorem l1Tree_calls (p : Prog) (hf : formOk p = true) : ∀ (d : Nat) (hd : d ≤ 4) (b : Nat) (hb : b < p.bodies.length) (hbd : p.bodies.length ≤ b + d) (A B : Option Addr) (ca cb : Nat) (w : World) (S : Nat → Prop) (hB : Row (Kd.slice kAct) w S B p.bodies),
    Calls Try.prog 71 #[.agg #[.slice A p.cells.length ca, .slice B p.bodies.length cb], .int .i64 (b : Nat)] w fun e w' => e = .returned (.int .i64 (tree d p b)) ∧ Below w.heap.size w w' := by
  intro d
  induction d with
  | zero => intro _ b hb hbd; omega
  | succ d ih0 =>
    intro hd b hb hbd A B ca cb w S hB
    have ih := Lib.hid ih0
    clear ih0
    have hacts := formOk_acts hf hb
    obtain ⟨acts, HA⟩ : ∃ acts, acts = p.bodies[b] := ⟨_, rfl⟩
    have hal : acts.length ≤ 4 := by rw [HA]; exact hacts.1
    have hlen := formOk_len hf
    have hkid : ∀ (i : Nat) (hi : i < acts.length) (k : Nat) (hk : k < acts[i].kids.length), acts[i].kids.length ≤ 2 ∧ (b : Int) + 1 ≤ acts[i].kids[k] ∧ acts[i].kids[k] ≤ (p.bodies.length : Int) - 1 := by
      subst HA
      intro i hi k hk
      have := hacts.2 _ (List.getElem_mem hi)
      exact ⟨this.1, this.2 _ (List.getElem_mem hk)⟩
    have hsm : ∀ (i : Nat) (hi : i < acts.length) (k : Nat), 0 ≤ actsSum (fun k => tree d p k.toNat) (acts.take i) ∧ actsSum (fun k => tree d p k.toNat) (acts.take i) ≤ 52488 ∧ 0 ≤ sumOf (fun k => tree d p k.toNat) (acts[i].kids.take k) ∧ sumOf (fun k => tree d p k.toNat) (acts[i].kids.take k) ≤ 13122 := by
      subst HA
      intro i hi k
      exact treeSum_small hf d (by omega) b hb i k hi
    have hend : tree (d + 1) p b = 1 + actsSum (fun k => tree d p k.toNat) acts := by rw [HA, tree, getD_at _ _ _ hb]
    have HE := Lib.hid hend
    have HK := Lib.hid hkid
    have HS := Lib.hid hsm
    have hslot : Hid (p.bodies[b] = acts) := HA.symm
    have hm2 := hB.1
    obtain ⟨ad, C, cc, rfl, hl, hc, hcl, hC0⟩ := at_slice hB hb
    rw [← HA] at hc hcl hC0
    clear hacts hend hkid hsm HA
    have hma := hC0.1
    go_enter Try.func71, Try.ntmps71
    go_wp2
    obtain ⟨W2, HW⟩ : ∃ W2, W2 = w.alloc (Obj.cells #[.slice A p.cells.length ca, .slice (some ad) p.bodies.length cb] 26) := ⟨_, rfl⟩
    have hb2 : Below w.heap.size w W2 := by rw [HW]; exact (Below.refl _ _).alloc (Nat.le_refl _) _
    have hz2 : W2.heap.size = w.heap.size + 1 := by rw [HW]; simp
    have c0 : W2.cell? ⟨w.heap.size, 0, none⟩ = some (.slice A p.cells.length ca) := by rw [HW]; simp [go_sem]
    have c1 : W2.cell? ⟨w.heap.size, 1, none⟩ = some (.slice (some ad) p.bodies.length cb) := by rw [HW]; simp [go_sem]
    have hB2 := hB.belowAll hb2
    have hC2 := hC0.belowAll hb2
    have hcc2 := (hb2.cell (p := ad.add b) (by rw [block_add]; exact hl)).trans hc
    have hl2 : ad.block < W2.heap.size := by omega
    rw [← HW]
    have HZ := Lib.hid hz2
    clear HW hz2 hB hC0 hc
    go_loopw [5, 6, 7, 8] (fun n i _ _ wr => ∃ j : Nat, j ≤ acts.length ∧ i = .int .i64 j ∧ n = .int .i64 (1 + actsSum (fun k => tree d p k.toNat) (acts.take j)) ∧ Below W2.heap.size W2 wr) (fun _ i _ _ _ => acts.length - (intOf i).toNat)
    case atStart => exact ⟨0, Nat.zero_le _, rfl, by simp [actsSum, sumOf], Below.refl _ _⟩
    case round =>
      obtain ⟨j, hj, rfl, rfl, hbr⟩ := hrel
      have c0r := (hbr.cell (p := ⟨w.heap.size, 0, none⟩) (by rw [HZ.out]; simp)).trans c0
      have c1r := (hbr.cell (p := ⟨w.heap.size, 1, none⟩) (by rw [HZ.out]; simp)).trans c1
      have hcr := (hbr.cell (p := ad.add b) (by rw [block_add]; exact hl2)).trans hcc2
      by_cases hlt : j < acts.length
      · obtain ⟨ad2, D, cd, E, ce, rfl, hl3, k0, k1, k2, k3, hcd, hce, hD, hE, hi1, hi2⟩ := at_act (hC2.belowAll hbr) hlt
        have hme := hE.1
        go_wp2
        obtain ⟨wo, rfl⟩ : ∃ wo : World, wo = wr := ⟨_, rfl⟩
        go_loopw [5, 8] (fun n v wr => ∃ k : Nat, k ≤ acts[j].kids.length ∧ v = .int .i64 k ∧ n = .int .i64 (1 + actsSum (fun k => tree d p k.toNat) (acts.take j) + sumOf (fun k => tree d p k.toNat) (acts[j].kids.take k)) ∧ Below wo.heap.size wo wr) (fun _ v _ => acts[j].kids.length - (intOf v).toNat)
        case atStart => exact ⟨0, Nat.zero_le _, rfl, by simp [sumOf], Below.refl _ _⟩
        case round =>
          obtain ⟨k, hk, rfl, rfl, hbj⟩ := hrel
          have hbj2 : Below W2.heap.size W2 wr := below_then hbr hbr.size hbj
          have c0j := (hbj2.cell (p := ⟨w.heap.size, 0, none⟩) (by rw [HZ.out]; simp)).trans c0
          have c1j := (hbj2.cell (p := ⟨w.heap.size, 1, none⟩) (by rw [HZ.out]; simp)).trans c1
          by_cases hlk : k < acts[j].kids.length
          · obtain ⟨ad3, rfl, hl4, hck, hik⟩ := at_int (hE.belowAll hbj) hlk
            have hkk := HK.out j hlt k hlk
            have hss := HS.out j hlt k
            have hts := tree_small hf d acts[j].kids[k].toNat (by omega)
            obtain ⟨q, hq⟩ : ∃ q : Nat, acts[j].kids[k] = (q : Int) := ⟨acts[j].kids[k].toNat, by omega⟩
            have HQ := Lib.hid hq
            rw [hq] at hck hkk hts
            simp only [Int.toNat_natCast] at hts
            have hBq := hB2.belowAll hbj2
            clear hq
            go_wp2
            have hbw : Below wr.heap.size wr wr.drew := (Below.refl _ _).drew
            go_region_held3 (fun w' => w'.cell? ⟨w.heap.size, 0, none⟩ = some (.slice A p.cells.length ca) ∧ w'.cell? ⟨w.heap.size, 1, none⟩ = some (.slice (some ad) p.bodies.length cb) ∧ w'.cell? (ad3.add k) = some (.int .i64 (q : Int)) ∧ Below wr.heap.size wr w') (go_keep)
              (first | (go_at_call 71; refine (ih.out (by omega) q (by omega) (by omega) _ _ _ _ _ S (Row.belowAll hBq ‹Below wr.heap.size wr _›)).mono ?_; rintro e w1 ⟨rfl, hb1⟩; have q0 := below_then ‹Below wr.heap.size wr _› (Below.size ‹Below wr.heap.size wr _›) hb1; have q1 := (q0.cell (p := ⟨w.heap.size, 0, none⟩) (by have := hbj2.size; rw [HZ.out] at this; simp; omega)).trans c0j; have q2 := (q0.cell (p := ⟨w.heap.size, 1, none⟩) (by have := hbj2.size; rw [HZ.out] at this; simp; omega)).trans c1j; have q3 := (q0.cell (p := ad3.add k) (by rw [block_add]; exact hl4)).trans hck))
            obtain ⟨_, _, _, hbx⟩ := ‹_ ∧ _ ∧ _ ∧ Below wr.heap.size wr w1›
            go_wp2
            go_roundw
            case rel =>
              refine ⟨k + 1, by omega, by go_num, ?_, below_then hbj hbj.size hbx⟩
              rw [sumOf_snoc _ _ _ hlk, HQ.out]
              exact val_int (by rw [IntWalk.i64_in _ (by omega)]; simp only [Int.toNat_natCast]; omega)
            case measure => simp [intOf]; omega
          · go_wp2
            go_roundw
            case rel =>
              refine ⟨j + 1, by omega, by go_num, ?_, hbj2⟩
              rw [actsSum_snoc _ _ _ hlt, sumOf_all _ _ _ (by omega)]; go_num
            case measure => simp [intOf]; omega
      · go_wp2
        go_ret
        refine ⟨?_, hb2.trans (hbr.mono (by rw [HZ.out]; omega))⟩
        exact ret_int (by rw [HE.out, actsSum_all _ _ _ (by omega)])

set_option maxHeartbeats 1000000 in
set_option maxRecDepth 100000 in
theorem specProgOk_calls (p : Prog) (A B : Option Addr) (ca cb : Nat) (w : World) (S : Nat → Prop) (hA : Row Kd.int w S A p.cells) (hB : Row (Kd.slice kAct) w S B p.bodies) :
    Calls Try.prog 42 #[.agg #[.slice A p.cells.length ca, .slice B p.bodies.length cb]] w fun e w' => e = .returned (.bool (progOk p)) ∧ Below w.heap.size w w' := by
  have hb1 : ∀ o, Below w.heap.size w (w.alloc o) := fun o => (Below.refl _ _).alloc (Nat.le_refl _) _
  have hA1 := fun o => hA.belowAll (hb1 o)
  have hB1 := fun o => hB.belowAll (hb1 o)
  cases hf : formOk p
  · have HF := Lib.hid hf
    clear hf
    go_enter Try.func42, Try.ntmps42
    go_wp2_with (go_at_call 70; refine (l1Form_calls p _ _ _ _ _ S (hA1 _) (hB1 _)).mono ?_; rintro e w1 ⟨rfl, hb2⟩; rw [HF.out])
    go_ret
    exact ⟨by simp [progOk, HF.out], (hb1 _).trans (hb2.mono (by simp))⟩
  · have HF := Lib.hid hf
    have hlen := formOk_len hf
    clear hf
    have HT := tree_small HF.out 4 0 (by omega)
    go_enter Try.func42, Try.ntmps42
    go_wp2_with (first | (go_at_call 70; refine (l1Form_calls p _ _ _ _ _ S (hA1 _) (hB1 _)).mono ?_; rintro e w1 ⟨rfl, hb2⟩; rw [HF.out]; have hb3 := (hb1 _).trans (hb2.mono (by simp)); have hc1 := hb2.cell (p := ⟨w.heap.size, 0, none⟩) (by simp); have hc2 := hb2.cell (p := ⟨w.heap.size, 1, none⟩) (by simp); simp [go_sem] at hc1 hc2) | (go_at_call 71; refine (l1Tree_calls p HF.out 4 (by omega) 0 (by omega) (by omega) _ _ _ _ _ S (hB.belowAll hb3)).mono ?_; rintro e w2 ⟨rfl, hb4⟩))
    go_ret
    refine ⟨?_, hb3.trans (hb4.mono hb3.size)⟩
    simp [progOk, HF.out]
end Go.Proofs.Ytcpabkfoalhldaa
namespace Go.Proofs.Ytcpabkfoalhldaa
open Go.RowKit
set_option linter.unusedSimpArgs false
set_option linter.unusedVariables false

/-- Of w's blocks only those of T may have turned. -/
structure Keep (T : Nat → Prop) (w w' : World) : Prop where
  os : w'.os = w.os
  tape : w'.tape = w.tape
  output : w'.output = w.output
  size : w.heap.size ≤ w'.heap.size
  block : ∀ k, k < w.heap.size → ¬ T k → w'.heap[k]? = w.heap[k]?
section
variable {T T' : Nat → Prop} {w w' w2 : World}
theorem Keep.refl (T : Nat → Prop) (w : World) : Keep T w w := ⟨rfl, rfl, rfl, Nat.le_refl _, fun _ _ _ => rfl⟩
theorem Keep.trans (h : Keep T w w') (k : Keep T w' w2) : Keep T w w2 :=
  ⟨k.os.trans h.os, k.tape.trans h.tape, k.output.trans h.output, Nat.le_trans h.size k.size, fun i hi hT => (k.block i (Nat.lt_of_lt_of_le hi h.size) hT).trans (h.block i hi hT)⟩
/-- The second step may turn what was made since, too. -/
theorem Keep.then_ (h : Keep T w w') (k : Keep T' w' w2) (hT : ∀ i, i < w.heap.size → T' i → T i) : Keep T w w2 :=
  ⟨k.os.trans h.os, k.tape.trans h.tape, k.output.trans h.output, Nat.le_trans h.size k.size, fun i hi hn => (k.block i (Nat.lt_of_lt_of_le hi h.size) (fun h => hn (hT i hi h))).trans (h.block i hi hn)⟩
theorem Keep.mono (h : Keep T w w') (hT : ∀ k, T k → T' k) : Keep T' w w' := ⟨h.os, h.tape, h.output, h.size, fun i hi hn => h.block i hi fun h => hn (hT i h)⟩
theorem Keep.alloc (h : Keep T w w') (o : Obj) : Keep T w (w'.alloc o) := h.trans ⟨rfl, rfl, rfl, by simp, fun k hk _ => Below.heap_alloc _ _ _ hk⟩
theorem Keep.drewN (h : Keep T w w') (n : Nat) : Keep T w (w'.drewN n) := ⟨h.os, h.tape, h.output, h.size, h.block⟩
theorem Keep.drew (h : Keep T w w') : Keep T w w'.drew := ⟨h.os, h.tape, h.output, h.size, h.block⟩
theorem Keep.setCell (h : Keep T w w') {p : Addr} (hp : p.block < w.heap.size → T p.block) (u : Value) : Keep T w (w'.setCell p u) :=
  ⟨h.os, h.tape, h.output, by simpa [World.setCell] using h.size, fun k hk hn => (Below.heap_setCell w' p u k (fun e => hn (by rw [e]; exact hp (by omega)))).trans (h.block k hk hn)⟩
theorem Keep.of_below {B : Nat} (h : Below B w w') (hB : ∀ k, B ≤ k → k < w.heap.size → T k) : Keep T w w' :=
  ⟨h.os, h.tape, h.output, h.size, fun k hk hn => by
    rcases Nat.lt_or_ge k B with h1 | h1
    · exact h.block k h1
    · exact absurd (hB k h1 hk) hn⟩
theorem Keep.of_belowAll (T : Nat → Prop) (h : Below w.heap.size w w') : Keep T w w' := ⟨h.os, h.tape, h.output, h.size, fun k hk _ => h.block k hk⟩
theorem Keep.of_grown {row : Option Nat} (h : w.grownBy w' row) (hr : ∀ k, row = some k → T k) : Keep T w w' := ⟨h.os, h.tape, h.output, h.size, fun k hk hn => h.block k hk (fun e => hn (hr k e.symm))⟩
theorem Keep.below {B : Nat} (h : Keep T w w') (hB : ∀ k, k < B → ¬ T k) (hs : B ≤ w.heap.size) : Below B w w' := ⟨h.os, h.tape, h.output, h.size, fun k hk => h.block k (by omega) (hB k hk)⟩
theorem Keep.belowAll (h : Keep (fun _ => False) w w') : Below w.heap.size w w' := ⟨h.os, h.tape, h.output, h.size, fun k hk => h.block k hk (fun h => h)⟩
theorem Keep.cell (h : Keep T w w') {p : Addr} (hp : p.block < w.heap.size) (hT : ¬ T p.block) : w'.cell? p = w.cell? p := World.cell?_of_block (w := w) (h.block p.block hp hT)
theorem Keep.frozen (h : Keep T w w') {p : Addr} (hp : p.block < w.heap.size) (hT : ¬ T p.block) : w'.frozen? p = w.frozen? p := World.frozen?_of_block (w := w) (h.block p.block hp hT)
theorem Keep.blk (h : Keep T w w') {k : Nat} {o : Obj} (hk : w.heap[k]? = some o) (hT : ¬ T k) : w'.heap[k]? = some o := (h.block k (Array.getElem?_eq_some_iff.1 hk).1 hT).trans hk
theorem OwnI.keep {e base : Nat} {v : Value} {xs : List Int} (h : OwnI e w base v xs) (hk : Keep T w w') (hT : ∀ k, v.ownBlock = some k → ¬ T k) : OwnI e w' base v xs := h.step fun k h1 h2 => hk.block k h2 (hT k h1)
theorem Row.keep {α : Type} {d : Kd α} {S : Nat → Prop} {A : Option Addr} {xs : List α} (h : Row d w S A xs) (hk : Keep T w w') (hT : ∀ k, S k → k < w.heap.size → ¬ T k) : Row d w' S A xs := h.step fun k h1 h2 => hk.block k h2 (hT k h1 h2)
theorem Kd.keep {α : Type} {d : Kd α} {S : Nat → Prop} {x : α} {cs : List Value} (h : d.K w S x cs) (hk : Keep T w w') (hT : ∀ k, S k → k < w.heap.size → ¬ T k) : d.K w' S x cs := Kd.step h fun k h1 h2 => hk.block k h2 (hT k h1 h2)
end
end Go.Proofs.Ytcpabkfoalhldaa
namespace Go.Proofs.Ytcpabkfoalhldaa
open Go.RowKit
set_option linter.unusedVariables false
set_option linter.unusedSimpArgs false

theorem specChangeDo_calls (cells regs : List Int) (deeds : List Deed) (A B D : Option Addr) (ca cb cd : Nat) (w : World) (S S1 S2 : Nat → Prop) (hA : Row Kd.int w S1 A cells) (hB : Row Kd.int w S2 B regs) (hD : Row kDeed w S D deeds) :
    Calls Try.prog 90 #[.slice A cells.length ca, .slice B regs.length cb, .slice D deeds.length cd] w fun e w' => ResCD (changeDo cells regs deeds) w.heap.size e w' ∧ Below w.heap.size w w' := by
  have h1 := hA.mono (S' := fun _ => True) (fun _ _ => trivial)
  have h2 := hB.mono (S' := fun _ => True) (fun _ _ => trivial)
  have h3 := hD.mono (S' := fun _ => True) (fun _ _ => trivial)
  unfold changeDo
  cases h : deskOk cells regs deeds
  · exact specChangeDo_bad cells regs deeds A B D ca cb cd w _ h1 h2 h3 h
  · exact specChangeDo_good cells regs deeds A B D ca cb cd w _ h1 h2 h3 h
theorem mk3s (w : World) : (Instr.makeSlice 23 (.int .i64 3) (.int .i64 3)).run Try.prog w = .ok (.slice (some ⟨w.heap.size, 0, none⟩) 3 3) (w.alloc (.cells #[.int .i64 0, .int .i64 0, .int .i64 0] 3)) := by kernel_rfl
theorem ownI_zeros' (w : World) (base : Nat) (hb : base ≤ w.heap.size) : OwnI 3 (w.alloc (.cells #[.int .i64 0, .int .i64 0, .int .i64 0] 3)) base (.slice (some ⟨w.heap.size, 0, none⟩) 3 3) [0, 0, 0] := by
  refine own_intro [[.int .i64 0], [.int .i64 0], [.int .i64 0]] ⟨rfl, .inr ⟨w.heap.size, 3, _, rfl, hb, heap_alloc_new w _, Nat.le_refl _, by simp [maxLen], rfl, rfl⟩⟩ rfl (fun k hk => hk) (fun j x hj => ?_)
  have hj3 : j < 3 := (List.getElem?_eq_some_iff.1 hj).1
  have : j = 0 ∨ j = 1 ∨ j = 2 := by omega
  rcases this with rfl | rfl | rfl <;> (simp at hj; subst hj; exact ⟨_, rfl, rfl, by decide, by decide⟩)

/-- The state of the reference's run: a program, cells of the call's own, and whether it is stuck; at block g. -/
structure OneAt (w : World) (base g : Nat) (A B : Option Addr) (nA ca nB cb : Nat) (vc : Value) (c : List Int) (stuck : Bool) : Prop where
  blk : w.heap[g]? = some (.cells #[.slice A nA ca, .slice B nB cb, vc, .bool stuck] 82 (0, 0))
  C : OwnI 3 w base vc c
  ne : ∀ k, vc.ownBlock = some k → k ≠ g
section
variable {w w' : World} {base g : Nat} {A B : Option Addr} {nA ca nB cb : Nat} {vc : Value} {c : List Int} {stuck : Bool}
theorem OneAt.lt (h : OneAt w base g A B nA ca nB cb vc c stuck) : g < w.heap.size := (Array.getElem?_eq_some_iff.1 h.blk).1
theorem OneAt.cell (h : OneAt w base g A B nA ca nB cb vc c stuck) (i : Nat) : w.cell? ⟨g, i, none⟩ = (#[.slice A nA ca, .slice B nB cb, vc, .bool stuck] : Array Value)[i]? := cell_of_row w g i _ _ _ h.blk
theorem OneAt.frozen (h : OneAt w base g A B nA ca nB cb vc c stuck) (i : Nat) : w.frozen? ⟨g, i, none⟩ = false := by
  have := h.blk
  simp [World.frozen?, this]
theorem OneAt.keep {T : Nat → Prop} (h : OneAt w base g A B nA ca nB cb vc c stuck) (hk : Keep T w w') (hg : ¬ T g) (hc : ∀ k, vc.ownBlock = some k → ¬ T k) : OneAt w' base g A B nA ca nB cb vc c stuck :=
  ⟨hk.blk h.blk hg, h.C.keep hk hc, h.ne⟩
theorem OneAt.below (h : OneAt w base g A B nA ca nB cb vc c stuck) (hb : Below w.heap.size w w') : OneAt w' base g A B nA ca nB cb vc c stuck :=
  h.keep (Keep.of_belowAll (fun _ => False) hb) (fun h => h) (fun _ _ h => h)
theorem OneAt.setStuck (h : OneAt w base g A B nA ca nB cb vc c stuck) (b : Bool) : OneAt (w.setCell ⟨g, 3, none⟩ (.bool b)) base g A B nA ca nB cb vc c b := by
  refine ⟨?_, h.C.far (fun k hk => h.ne k hk) _, h.ne⟩
  have := h.blk
  simp [World.setCell, Array.getElem?_modify, this]
theorem OneAt.setCells (h : OneAt w base g A B nA ca nB cb vc c stuck) {v' : Value} {c' : List Int} (ho : OwnI 3 w base v' c') (hne : ∀ k, v'.ownBlock = some k → k ≠ g) : OneAt (w.setCell ⟨g, 2, none⟩ v') base g A B nA ca nB cb v' c' stuck := by
  refine ⟨?_, ho.far (fun k hk => hne k hk) _, hne⟩
  have := h.blk
  simp [World.setCell, Array.getElem?_modify, this]
end

/-- What a body leaves: it fails, or comes to its end, or is stuck. -/
def ResBody (r : Option (List Int × Bool)) (w : World) (base g : Nat) (A B : Option Addr) (nA ca nB cb : Nat) (e : Ending) (w' : World) : Prop :=
  Keep (fun k => k = g) w w' ∧ match r with
  | none => ∃ vc c, e = .returned (.bool true) ∧ OneAt w' base g A B nA ca nB cb vc c true
  | some (c, f) => ∃ vc, e = .returned (.bool (!f)) ∧ OneAt w' base g A B nA ca nB cb vc c false
end Go.Proofs.Ytcpabkfoalhldaa
namespace Go.Proofs.Ytcpabkfoalhldaa
open Go.RowKit
set_option linter.unusedVariables false
set_option linter.unusedSimpArgs false

set_option maxHeartbeats 4000000 in
set_option maxRecDepth 100000 in
theorem specBody_calls (p : Prog) (hf : formOk p = true) : ∀ (d : Nat) (hd : d ≤ 4) (b : Nat) (hb : b < p.bodies.length) (hbd : p.bodies.length ≤ b + d) (A B : Option Addr) (ca cb : Nat) (cells : List Int) (vc : Value) (base g : Nat) (w : World) (S : Nat → Prop)
    (hB : Row (Kd.slice kAct) w S B p.bodies) (hSg : ∀ k, S k → k ≠ g) (hO : OneAt w base g A B p.cells.length ca p.bodies.length cb vc cells false) (hbw : base ≤ w.heap.size),
    Calls Try.prog 63 #[.pointer (some ⟨g, 0, none⟩), .int .i64 (b : Nat)] w (ResBody (oneBody d p cells b) w base g A B p.cells.length ca p.bodies.length cb) := by
  intro d
  induction d with
  | zero => intro _ b hb hbd; omega
  | succ d ih0 =>
    intro hd b hb hbd A B ca cb cells vc base g w S hB hSg hO hbw
    have ih := Lib.hid ih0
    clear ih0
    have hacts := formOk_acts hf hb
    obtain ⟨acts, HA⟩ : ∃ acts, acts = p.bodies[b] := ⟨_, rfl⟩
    have hal : acts.length ≤ 4 := by rw [HA]; exact hacts.1
    have hlen := formOk_len hf
    have hend : oneBody (d + 1) p cells b = runActs (fun c k => oneBody d p c k) cells [0, 0, 0] acts := by rw [HA, oneBody, getD_at _ _ _ hb]
    have HE := Lib.hid hend
    have hkid : ∀ (i : Nat) (hi : i < acts.length), actOk acts[i] p.cells.length b p.bodies.length = true := by
      subst HA
      intro i hi
      have := formOk_body hf hb
      simp only [bodyOk, Bool.and_eq_true, List.all_eq_true] at this
      exact this.2 _ (List.getElem_mem hi)
    have HK := Lib.hid hkid
    obtain ⟨ad, C, cc, rfl, hl, hc, hcl, hC0⟩ := at_slice hB hb
    obtain ⟨ad', hade, hSad⟩ : ∃ ad', (some ad : Option Addr) = some ad' ∧ ad'.block ≠ g := by
      obtain ⟨ad', _, e, hs, _⟩ := hB.get hb
      exact ⟨ad', e, hSg _ hs⟩
    injection hade with hade
    subst hade
    rw [← HA] at hc hcl hC0
    have hma := hC0.1
    have hm2 := hB.1
    have hmk := mk3s
    have hgl := hO.lt
    have HSG := Lib.hid hSg
    clear hacts hend hkid HA hSg
    go_enter Try.func63, Try.ntmps63
    go_wp2
    obtain ⟨W2, HW⟩ : ∃ W2, W2 = w.alloc (Obj.cells #[.int .i64 0, .int .i64 0, .int .i64 0] 3) := ⟨_, rfl⟩
    have hk2 : Keep (fun k => k = g) w W2 := by rw [HW]; exact (Keep.refl _ _).alloc _
    have hb2 : Below w.heap.size w W2 := by rw [HW]; exact (by repeat (first | exact Below.refl _ _ | (refine Below.alloc ?_ (by simp) _) | (refine Below.setCell ?_ (by simp) _) | (refine below_drewN' ?_ _) | (refine Below.drew ?_)))
    have hr2 : OwnI 3 W2 base (.slice (some ⟨w.heap.size, 0, none⟩) 3 3) [0, 0, 0] := by rw [HW]; exact ownI_zeros' w base hbw
    have hO2 := hO.below hb2
    have hB2 := hB.belowAll hb2
    have hC2 := hC0.belowAll hb2
    have hcc2 := (hb2.cell (p := ad.add b) (by rw [block_add]; exact hl)).trans hc
    have hz2 := hb2.size
    rw [← HW]
    clear HW hB hC0 hc hO hb2
    go_loopw [5, 6] (fun vR vI wr => ∃ (j : Nat) (c r : List Int) (vC : Value) (Ar : Option Addr) (cr : Nat) (st : Bool), j ≤ acts.length ∧ vI = .int .i64 j ∧ vR = .slice Ar 3 cr ∧ Hid (r.length = 3) ∧ OneAt wr base g A (some ad) p.cells.length ca p.bodies.length cb vC c st ∧ OwnI 3 wr base (.slice Ar 3 cr) r ∧ Hid (∀ k, Value.ownBlock (.slice Ar 3 cr) = some k → k ≠ g) ∧ Hid (oneBody (d + 1) p cells b = if st then none else runActs (fun c k => oneBody d p c k) c r (acts.drop j)) ∧ Keep (fun k => k = g) W2 wr) (fun _ vI _ => acts.length - (intOf vI).toNat)
    case atStart => exact ⟨0, cells, [0, 0, 0], vc, _, 3, false, Nat.zero_le _, rfl, rfl, rfl, hO2, hr2, fun k hk => by simp [Value.ownBlock] at hk; omega, by unfold Hid; rw [HE.out]; rfl, Keep.refl _ _⟩
    case round =>
      obtain ⟨j, c, r, vC, Ar, cr, st, hj, rfl, rfl, HR3, hOr, hoR, HRG, HA, hkr⟩ := hrel
      have s0 := hOr.cell 0; have s1 := hOr.cell 1; have s2 := hOr.cell 2; have s3 := hOr.cell 3
      have f2 := hOr.frozen 2; have f3 := hOr.frozen 3
      simp at s0 s1 s2 s3
      have hcr := (hkr.cell (p := ad.add b) (by rw [block_add]; omega) (by rw [block_add]; exact hSad)).trans hcc2
      have hgr0 := hOr.lt
      cases st with
      | true =>
        by_cases hlt : j < acts.length
        all_goals
          go_wp2
          go_ret
          exact ⟨hk2.trans hkr, by rw [HA.out]; exact ⟨_, _, rfl, hOr⟩⟩
      | false =>
      by_cases hlt : j < acts.length
      · obtain ⟨ad2, D, cd, E, ce, rfl, hl3, k0, k1, k2, k3, hcd, hce, hD, hE, hi1, hi2⟩ := at_act (hC2.keep hkr (fun k h _ => HSG.out k h)) hlt
        have hdrop : acts.drop j = acts[j] :: acts.drop (j + 1) := List.drop_eq_getElem_cons hlt
        have HD := Lib.hid hdrop
        clear hdrop
        have hme := hE.1
        have hmd := hD.1
        rcases actOk_kinds (HK.out j hlt) with hk | ⟨hk, hkl, hkk⟩ | hk | ⟨hk, hg1, hg2⟩
        · -- a change
          obtain ⟨Ac, cc', rfl, hcl2, _⟩ := hOr.C.row
          rw [hk] at k0
          have hstep : runActs (fun c k => oneBody d p c k) c r (acts.drop j) = match changeDo c r acts[j].deeds with | none => none | some (c', r') => runActs (fun c k => oneBody d p c k) c' r' (acts.drop (j + 1)) := by
            rw [HD.out]; simp only [runActs, hk, if_pos]; cases changeDo c r acts[j].deeds with | none => rfl | some x => rfl
          have HST := Lib.hid hstep
          have h3 := specChangeDo_calls c r acts[j].deeds Ac Ar D cc' cr cd
          rw [HR3.out] at h3
          have H3 := Lib.hid h3
          clear hstep hk h3
          go_wp2
          obtain ⟨wo, HWO⟩ : ∃ wo, wo = wr.alloc (Obj.cells #[.int .i64 1, .slice D acts[j].deeds.length cd, .slice E acts[j].kids.length ce, .int .i64 acts[j].reg] 35) := ⟨_, rfl⟩
          have hbo : Below wr.heap.size wr wo := by rw [HWO]; exact (by repeat (first | exact Below.refl _ _ | (refine Below.alloc ?_ (by simp) _) | (refine Below.setCell ?_ (by simp) _) | (refine below_drewN' ?_ _) | (refine Below.drew ?_)))
          have hzo : wr.heap.size < wo.heap.size := by rw [HWO]; simp
          have m1 : wo.cell? ⟨wr.heap.size, 1, none⟩ = some (.slice D acts[j].deeds.length cd) := by rw [HWO]; simp [go_sem]
          have hOo := hOr.below hbo
          have s2o := hOo.cell 2
          simp at s2o
          have hDo := hD.belowAll hbo
          obtain ⟨_, _, e1, _, hrC⟩ := hOo.C.row
          injection e1 with e1 e2 e3
          subst e1; subst e3
          have hoRo := hoR.belowAll hbo
          obtain ⟨_, _, e1, _, hrR⟩ := hoRo.row
          injection e1 with e1 e4 e3
          subst e1; subst e3
          rw [← HWO]
          have hgo := hOo.lt
          clear HWO e2 e4
          have hbw : Below wo.heap.size wo wo.drew := (Below.refl _ _).drew
          cases hdo : changeDo c r acts[j].deeds with
          | none =>
            have HDO := Lib.hid hdo
            clear hdo
            go_region_held3 (fun w' => w'.cell? ⟨g, 2, none⟩ = some (.slice Ac c.length cc') ∧ w'.cell? ⟨wr.heap.size, 1, none⟩ = some (.slice D acts[j].deeds.length cd) ∧ Below wo.heap.size wo w') (go_keep)
              (first | (go_at_call 90; refine (H3.out _ _ _ _ (Row.belowAll hrC ‹Below wo.heap.size wo _›) (Row.belowAll hrR ‹Below wo.heap.size wo _›) (Row.belowAll hDo ‹Below wo.heap.size wo _›)).mono ?_; rw [HDO.out]; rintro e w3 ⟨⟨vc3, vr3, rfl, ho1, ho2⟩, hb3⟩; have hz4 := Below.size ‹Below wo.heap.size wo _›; have hbo3 := below_then ‹Below wo.heap.size wo _› hz4 hb3; have q1 := (hbo3.cell (p := ⟨g, 2, none⟩) hgo).trans s2o; have q2 := (hbo3.cell (p := ⟨wr.heap.size, 1, none⟩) hzo).trans m1; obtain ⟨A1, n1, rfl, _, hq1⟩ := OwnI.row ho1; obtain ⟨A2, n2, rfl, _, hq2⟩ := OwnI.row ho2; clear hq1 hq2))
            have hO3 := OneAt.below hOo hbo3
            have f3o := hO3.frozen 3; have s3o := hO3.cell 3; simp at s3o
            go_wp2
            go_ret
            have hk3 : Keep (fun k => k = g) wr w3 := (Keep.of_belowAll _ hbo).then_ (Keep.of_belowAll (fun _ => False) hbo3) (fun _ _ h => h.elim)
            refine ⟨hk2.trans (hkr.trans (hk3.setCell (fun _ => rfl) _)), ?_⟩
            rw [HA.out]
            rw [if_neg (by decide), HST.out, HDO.out]
            exact ⟨_, _, rfl, hO3.setStuck true⟩
          | some x =>
            obtain ⟨c', r'⟩ := x
            have HDO := Lib.hid hdo
            have hdk := changeDo_desk hdo
            have hr3 : r'.length = 3 := hdk.rl
            have HR4 := Lib.hid hr3
            clear hdo hdk hr3
            go_region_held3 (fun w' => w'.cell? ⟨g, 2, none⟩ = some (.slice Ac c.length cc') ∧ w'.cell? ⟨wr.heap.size, 1, none⟩ = some (.slice D acts[j].deeds.length cd) ∧ Below wo.heap.size wo w') (go_keep)
              (first | (go_at_call 90; refine (H3.out _ _ _ _ (Row.belowAll hrC ‹Below wo.heap.size wo _›) (Row.belowAll hrR ‹Below wo.heap.size wo _›) (Row.belowAll hDo ‹Below wo.heap.size wo _›)).mono ?_; rw [HDO.out]; rintro e w3 ⟨⟨vc3, vr3, rfl, ho1, ho2, _⟩, hb3⟩; have hz4 := Below.size ‹Below wo.heap.size wo _›; have hbo3 := below_then ‹Below wo.heap.size wo _› hz4 hb3; have q1 := (hbo3.cell (p := ⟨g, 2, none⟩) hgo).trans s2o; have q2 := (hbo3.cell (p := ⟨wr.heap.size, 1, none⟩) hzo).trans m1; obtain ⟨A1, n1, rfl, _, hq1⟩ := OwnI.row ho1; obtain ⟨A2, n2, rfl, _, hq2⟩ := OwnI.row ho2; clear hq1 hq2))
            have hO3 := OneAt.below hOo hbo3
            have f3o := hO3.frozen 2; have s3o := hO3.cell 2; simp at s3o
            go_wp2
            have hk3 : Keep (fun k => k = g) wr w3 := (Keep.of_belowAll _ hbo).then_ (Keep.of_belowAll (fun _ => False) hbo3) (fun _ _ h => h.elim)
            have hbz : base ≤ wo.heap.size := by have := hk2.size; have := hkr.size; omega
            go_roundw
            case rel =>
              rw [HR4.out] at ho2 ⊢
              refine ⟨j + 1, c', r', _, A2, n2, false, by omega, by go_num, rfl, HR4.out, hO3.setCells (ho1.lower (Nat.le_trans hbz hz4)) (fun k hk => by have := (ho1.blk k hk).1; omega), (ho2.lower (Nat.le_trans hbz hz4)).far (fun k hk => by have := (ho2.blk k hk).1; show k ≠ g; omega) _, fun k hk => by have := (ho2.blk k hk).1; omega, by unfold Hid; rw [HA.out, if_neg (by decide), HST.out, HDO.out]; rfl, hkr.trans (hk3.setCell (fun _ => rfl) _)⟩
            case measure => simp [intOf]; omega
        · -- a fork
          rw [hk] at k0
          have hstep : runActs (fun c k => oneBody d p c k) c r (acts.drop j) = match runKids (fun c k => oneBody d p c k) c acts[j].kids with | none => none | some (c, true) => some (c, true) | some (c, false) => runActs (fun c k => oneBody d p c k) c r (acts.drop (j + 1)) := by
            rw [HD.out]; simp only [runActs, hk]; rfl
          have HST := Lib.hid hstep
          have HKK := Lib.hid hkk
          clear hstep hk hkk
          go_wp2
          obtain ⟨wo, HWO⟩ : ∃ wo : World, wo = wr.alloc (Obj.cells #[.int .i64 2, .slice D acts[j].deeds.length cd, .slice E acts[j].kids.length ce, .int .i64 acts[j].reg] 35) := ⟨_, rfl⟩
          have hwo : Below wr.heap.size wr wo := by rw [HWO]; exact (by repeat (first | exact Below.refl _ _ | (refine Below.alloc ?_ (by simp) _) | (refine Below.setCell ?_ (by simp) _) | (refine below_drewN' ?_ _) | (refine Below.drew ?_)))
          have hzo : wr.heap.size < wo.heap.size := by rw [HWO]; simp
          have m2 : wo.cell? ⟨wr.heap.size, 2, none⟩ = some (.slice E acts[j].kids.length ce) := by rw [HWO]; simp [go_sem]
          have hEo : Row Kd.int wo S E acts[j].kids := hE.belowAll hwo
          have hOo := hOr.below hwo
          have hoRo := hoR.belowAll hwo
          have hko : Keep (fun k => k = g) W2 wo := hkr.trans (Keep.of_belowAll _ hwo)
          have hgwr : wr.heap.size ≠ g := by omega
          rw [← HWO]
          clear HWO hwo
          have hko0 := hko.size
          generalize wr.heap.size = n0 at *
          go_loopw [11] (fun vI wq => ∃ (q : Nat) (c' : List Int) (vC' : Value) (st : Bool), q ≤ acts[j].kids.length ∧ vI = .int .i64 q ∧ OneAt wq base g A (some ad) p.cells.length ca p.bodies.length cb vC' c' st ∧ Hid (oneBody (d + 1) p cells b = if st then none else match runKids (fun c k => oneBody d p c k) c' (acts[j].kids.drop q) with | none => none | some (c, true) => some (c, true) | some (c, false) => runActs (fun c k => oneBody d p c k) c r (acts.drop (j + 1))) ∧ Keep (fun k => k = g) wo wq) (fun vI _ => acts[j].kids.length - (intOf vI).toNat)
          case atStart => exact ⟨0, c, vC, false, Nat.zero_le _, rfl, hOo, by unfold Hid; rw [HA.out, if_neg (by decide), HST.out]; rfl, Keep.refl _ _⟩
          case round =>
            obtain ⟨q, c', vC', st, hq, rfl, hOq, HKD, hkq⟩ := hrel
            have m2q := (hkq.cell (p := ⟨n0, 2, none⟩) hzo hgwr).trans m2
            have t3 := hOq.cell 3
            simp at t3
            have hkq2 : Keep (fun k => k = g) W2 wr := hko.trans hkq
            cases st with
            | true =>
              by_cases hlq : q < acts[j].kids.length
              all_goals
                go_wp2
                go_roundw
                case rel => exact ⟨j + 1, c', r, vC', Ar, cr, true, by omega, by go_num, rfl, HR3.out, hOq, hoRo.keep hkq (fun k hk => HRG.out k hk), HRG.out, by unfold Hid; rw [HKD.out]; rfl, hkq2⟩
                case measure => simp [intOf]; omega
            | false =>
            by_cases hlq : q < acts[j].kids.length
            · obtain ⟨ad3, rfl, hl4, hck, hik⟩ := at_int (hEo.keep hkq (fun k h _ => HSG.out k h)) hlq
              have hkk := HKK.out _ (List.getElem_mem hlq)
              have hdr : acts[j].kids.drop q = acts[j].kids[q] :: acts[j].kids.drop (q + 1) := List.drop_eq_getElem_cons hlq
              obtain ⟨z, hz⟩ : ∃ z : Nat, acts[j].kids[q] = (z : Int) := ⟨acts[j].kids[q].toNat, by omega⟩
              have hst2 : runKids (fun c k => oneBody d p c k) c' (acts[j].kids.drop q) = match oneBody d p c' z with | none => none | some (c, true) => some (c, true) | some (c, false) => runKids (fun c k => oneBody d p c k) c (acts[j].kids.drop (q + 1)) := by
                rw [hdr, hz]; simp only [runKids, Int.toNat_natCast]; rcases oneBody d p c' z with _ | ⟨c, _ | _⟩ <;> rfl
              have HS2 := Lib.hid hst2
              rw [hz] at hck hkk
              have hBq := hB2.keep hkq2 (fun k h _ => HSG.out k h)
              clear hdr hz hst2
              have hcall := ih.out (by omega) z (by omega) (by omega) A (some ad) ca cb c' vC' base g wr S hBq HSG.out hOq (by have := hkq2.size; omega)
              have HCALL := Lib.hid hcall
              clear hcall
              cases hob : oneBody d p c' z with
              | none =>
                have HOB := Lib.hid hob
                clear hob
                go_wp2_with (go_at_call 63; refine (HCALL.out).mono ?_; rw [HOB.out]; rintro e w3 ⟨hk3, vc3, c3, rfl, hO3⟩)
                go_roundw
                case rel => exact ⟨q + 1, c3, vc3, true, by omega, by go_num, hO3, by unfold Hid; rw [HKD.out, if_neg (by decide), HS2.out, HOB.out]; rfl, hkq.trans hk3⟩
                case measure => simp [intOf]; omega
              | some x =>
                obtain ⟨c3, f3⟩ := x
                have HOB := Lib.hid hob
                clear hob
                cases f3 with
                | true =>
                  go_wp2_with (go_at_call 63; refine (HCALL.out).mono ?_; rw [HOB.out]; rintro e w3 ⟨hk3, vc3, rfl, hO3⟩; simp only [Bool.not_true])
                  go_ret
                  refine ⟨hk2.trans (hkq2.trans hk3), ?_⟩
                  rw [HKD.out, if_neg (by decide), HS2.out, HOB.out]
                  exact ⟨_, rfl, hO3⟩
                | false =>
                  go_wp2_with (go_at_call 63; refine (HCALL.out).mono ?_; rw [HOB.out]; rintro e w3 ⟨hk3, vc3, rfl, hO3⟩; simp only [Bool.not_false])
                  go_roundw
                  case rel => exact ⟨q + 1, c3, vc3, false, by omega, by go_num, hO3, by unfold Hid; rw [HKD.out, if_neg (by decide), HS2.out, HOB.out]; rfl, hkq.trans hk3⟩
                  case measure => simp [intOf]; omega
            · have hnil : acts[j].kids.drop q = [] := List.drop_of_length_le (by omega)
              have HNIL := Lib.hid hnil
              clear hnil
              go_wp2
              go_roundw
              case rel => exact ⟨j + 1, c', r, vC', Ar, cr, false, by omega, by go_num, rfl, HR3.out, hOq, hoRo.keep hkq (fun k hk => HRG.out k hk), HRG.out, by unfold Hid; rw [HKD.out, if_neg (by decide), HNIL.out]; rfl, hkq2⟩
              case measure => simp [intOf]; omega
        · -- it fails
          rw [hk] at k0
          have hstep : runActs (fun c k => oneBody d p c k) c r (acts.drop j) = some (c, true) := by
            rw [HD.out]; simp [runActs, hk]
          have HST := Lib.hid hstep
          clear hstep hk
          go_wp2
          go_ret
          refine ⟨hk2.trans (hkr.alloc _), ?_⟩
          rw [HA.out, if_neg (by decide), HST.out]
          exact ⟨_, rfl, hOr.below (by repeat (first | exact Below.refl _ _ | (refine Below.alloc ?_ (by simp) _) | (refine Below.setCell ?_ (by simp) _) | (refine below_drewN' ?_ _) | (refine Below.drew ?_)))⟩
        · -- it fails, if there is something
          rw [hk] at k0
          obtain ⟨gr, cr', hvr, hgr1, hgr2⟩ := hoR.place (by rw [HR3.out]; omega)
          injection hvr with e1 e2 e3
          subst e1; subst e3
          obtain ⟨x, hx⟩ : ∃ x : Nat, acts[j].reg = (x : Int) := ⟨acts[j].reg.toNat, by omega⟩
          have hxl : x < r.length := by rw [HR3.out]; omega
          have hoR' := hoR
          rw [← HR3.out] at hoR'
          obtain ⟨hcx, hfx⟩ := hoR'.cell hxl
          have hcw : ∀ o, (wr.alloc o).cell? ⟨gr, x, none⟩ = some (.int .i64 r[x]) := fun o => by rw [World.cell?_alloc_lt _ _ _ hgr2]; exact hcx
          by_cases h0 : r[x] = 0
          · have hstep : runActs (fun c k => oneBody d p c k) c r (acts.drop j) = runActs (fun c k => oneBody d p c k) c r (acts.drop (j + 1)) := by
              rw [HD.out]; simp [runActs, hk, hx, rdI, hxl, h0]
            have HST := Lib.hid hstep
            rw [hx] at k3 hg1 hg2
            rw [h0] at hcw
            clear hstep hk hx h0 e2 hcx hoR'
            go_wp2
            go_roundw
            case rel => exact ⟨j + 1, c, r, vC, some ⟨gr, 0, none⟩, cr, false, by omega, by go_num, rfl, HR3.out, hOr.below (by repeat (first | exact Below.refl _ _ | (refine Below.alloc ?_ (by simp) _) | (refine Below.setCell ?_ (by simp) _) | (refine below_drewN' ?_ _) | (refine Below.drew ?_))), hoR.al _, HRG.out, by unfold Hid; rw [HA.out, if_neg (by decide), HST.out]; rfl, hkr.alloc _⟩
            case measure => simp [intOf]; omega
          · have hstep : runActs (fun c k => oneBody d p c k) c r (acts.drop j) = some (c, true) := by
              rw [HD.out]; simp [runActs, hk, hx, rdI, hxl, h0]
            have HST := Lib.hid hstep
            have hb0 : (r[x] != 0) = true := by simp [h0]
            rw [hx] at k3 hg1 hg2
            clear hstep hk hx h0 e2 hcx hoR'
            go_wp2
            go_ret
            refine ⟨hk2.trans (hkr.alloc _), ?_⟩
            rw [HA.out, if_neg (by decide), HST.out]
            exact ⟨_, rfl, hOr.below (by repeat (first | exact Below.refl _ _ | (refine Below.alloc ?_ (by simp) _) | (refine Below.setCell ?_ (by simp) _) | (refine below_drewN' ?_ _) | (refine Below.drew ?_)))⟩
      · go_wp2
        go_ret
        refine ⟨hk2.trans hkr, ?_⟩
        rw [HA.out, List.drop_of_length_le (by omega)]
        exact ⟨_, rfl, hOr⟩
end Go.Proofs.Ytcpabkfoalhldaa
namespace Go.Proofs.Ytcpabkfoalhldaa
open Go.RowKit
set_option linter.unusedVariables false
set_option linter.unusedSimpArgs false

/-- What comes back of a run. -/
def ResRun (r : Option (List Int × Bool)) (B : Nat) (e : Ending) (w' : World) : Prop :=
  match r with
  | none => ∃ vc, e = .returned (.tuple #[vc, .bool false, .bool false]) ∧ OwnI 3 w' B vc []
  | some (c, f) => ∃ vc, e = .returned (.tuple #[vc, .bool f, .bool true]) ∧ OwnI 3 w' B vc c

set_option maxHeartbeats 2000000 in
set_option maxRecDepth 100000 in
theorem specOneRun_calls (p : Prog) (A B : Option Addr) (ca cb : Nat) (w : World) (S : Nat → Prop) (hA : Row Kd.int w S A p.cells) (hB : Row (Kd.slice kAct) w S B p.bodies) :
    Calls Try.prog 35 #[.agg #[.slice A p.cells.length ca, .slice B p.bodies.length cb]] w fun e w' => ResRun (oneRun p) w.heap.size e w' ∧ Below w.heap.size w w' := by
  have hb1 : ∀ o, Below w.heap.size w (w.alloc o) := fun o => (Below.refl _ _).alloc (Nat.le_refl _) _
  have hA1 := fun o => hA.belowAll (hb1 o)
  have hB1 := fun o => hB.belowAll (hb1 o)
  cases hok : progOk p
  · have hr : oneRun p = none := by simp [oneRun, hok]
    rw [hr]
    have HF := Lib.hid hok
    clear hok hr
    go_enter Try.func35, Try.ntmps35
    go_wp2_with (go_at_call 42; refine (specProgOk_calls p _ _ _ _ _ S (hA1 _) (hB1 _)).mono ?_; rintro e w1 ⟨rfl, hb2⟩; rw [HF.out])
    go_ret3
    have hb3 := (hb1 (Obj.cells #[.slice A p.cells.length ca, .slice B p.bodies.length cb] 26)).trans (hb2.mono (by simp))
    exact ⟨⟨_, rfl, ownI_empty _ _ _ hb3.size⟩, hb3.alloc hb3.size _⟩
  · have hr : oneRun p = oneBody 4 p p.cells 0 := by simp [oneRun, hok]
    rw [hr]
    have HF := Lib.hid hok
    have hform : formOk p = true := by simp only [progOk, Bool.and_eq_true] at hok; exact hok.1
    have HFO := Lib.hid hform
    have hlen := formOk_len hform
    clear hok hr hform
    go_enter Try.func35, Try.ntmps35
    go_wp2_with (go_at_call 42; refine (specProgOk_calls p _ _ _ _ _ S (hA1 _) (hB1 _)).mono ?_; rintro e w1 ⟨rfl, hb2⟩; rw [HF.out])
    have hb3 := (hb1 (Obj.cells #[.slice A p.cells.length ca, .slice B p.bodies.length cb] 26)).trans (hb2.mono (by simp))
    have hc1 := hb2.cell (p := ⟨w.heap.size, 0, none⟩) (by simp)
    have hc2 := hb2.cell (p := ⟨w.heap.size, 1, none⟩) (by simp)
    have hz1 : w.heap.size < w1.heap.size := by have := hb2.size; simp at this; omega
    simp [go_sem] at hc1 hc2
    have hAw := hA.belowAll hb3
    have hBw := hB.belowAll hb3
    have hbw : Below w1.heap.size w1 w1.drew := (Below.refl _ _).drew
    go_region_held3 (fun w' => w'.cell? ⟨w.heap.size, 0, none⟩ = some (.slice A p.cells.length ca) ∧ w'.cell? ⟨w.heap.size, 1, none⟩ = some (.slice B p.bodies.length cb) ∧ Below w1.heap.size w1 w')
      (first | (go_keep; done) | ((try dsimp only); (refine ⟨?_, ?_, ?_⟩ <;> (first | (go_keep; done) | exact q1 | exact q2 | exact q0 | exact Below.alloc q0 (Below.size q0) _ | exact (by repeat (first | exact Below.refl _ _ | (refine Below.alloc ?_ (by simp) _) | (refine Below.setCell ?_ (by simp) _) | (refine below_drewN' ?_ _) | (refine Below.drew ?_)))))) | (go_split_ands; exact ⟨q1, q2, q0⟩))
      ((refine step_clone_kd (d := Kd.int) w1.drew rfl (by rfl) _ _ _ (by rfl) Try.underlying23 _ 8 infoInt rfl (by decide) (by decide) (by rfl) A ca (by rfl) (Row.belowAll hAw hbw) (by omega) ?_; intro vc w2 hoc hbc; have q0 : Below w1.heap.size w1 w2 := ⟨hbc.os, hbc.tape, hbc.output, hbc.size, hbc.block⟩; have q1 := (q0.cell (p := ⟨w.heap.size, 0, none⟩) hz1).trans hc1; have q2 := (q0.cell (p := ⟨w.heap.size, 1, none⟩) hz1).trans hc2; obtain ⟨Ac, cc, rfl, hcc, hrc⟩ := Own.row hoc; clear hrc))
    obtain ⟨_, _, hbx⟩ := ‹_ ∧ _ ∧ Below w1.heap.size w1 _›
    have hO : OneAt (w2.alloc (Obj.cells #[.slice A p.cells.length ca, .slice B p.bodies.length cb, .slice Ac p.cells.length cc, .bool false] 82)) w.heap.size w2.heap.size A B p.cells.length ca p.bodies.length cb (.slice Ac p.cells.length cc) p.cells false := by
      have ho2 : OwnI 3 w2 w.heap.size (.slice Ac p.cells.length cc) p.cells := (OwnI.of hoc).lower (by simp; omega)
      refine ⟨heap_alloc_new _ _, ho2.al _, fun k hk => ?_⟩
      have := (ho2.blk k hk).2
      omega
    obtain ⟨W5, HW⟩ : ∃ W5, W5 = w2.alloc (Obj.cells #[.slice A p.cells.length ca, .slice B p.bodies.length cb, .slice Ac p.cells.length cc, .bool false] 82) := ⟨_, rfl⟩
    have hz5 : w1.heap.size ≤ w2.heap.size := q0.size
    rw [← HW] at hO hbx ⊢
    have hB5 : Row (Kd.slice kAct) W5 (fun k => S k ∧ k < w.heap.size) B p.bodies := ((hB.bound.belowAll hb3).belowAll hbx)
    have hwz : w.heap.size ≤ W5.heap.size := by have := hbx.size; omega
    cases hob : oneBody 4 p p.cells 0 with
    | none =>
      have HOB := Lib.hid hob
      clear hob HW
      go_wp2_with (go_at_call 63; refine (specBody_calls p HFO.out 4 (by omega) 0 (by omega) (by omega) A B ca cb p.cells _ w.heap.size w2.heap.size W5 _ hB5 (fun k hk => by have := hk.2; omega) hO hwz).mono ?_; rw [HOB.out]; rintro e w6 ⟨hk6, vc6, c6, rfl, hO6⟩; have t2 := hO6.cell 2; have t3 := hO6.cell 3; simp at t2 t3)
      go_ret3
      have hb6 : Below w.heap.size w w6 := hb3.trans ((hbx.mono (Nat.le_of_lt hz1)).trans (hk6.below (fun k hk e => by omega) hwz))
      exact ⟨by rw [HOB.out]; exact ⟨_, rfl, ownI_empty _ _ _ hb6.size⟩, hb6.alloc hb6.size _⟩
    | some x =>
      obtain ⟨c, f⟩ := x
      have HOB := Lib.hid hob
      clear hob HW
      go_wp2_with (go_at_call 63; refine (specBody_calls p HFO.out 4 (by omega) 0 (by omega) (by omega) A B ca cb p.cells _ w.heap.size w2.heap.size W5 _ hB5 (fun k hk => by have := hk.2; omega) hO hwz).mono ?_; rw [HOB.out]; rintro e w6 ⟨hk6, vc6, rfl, hO6⟩; have t2 := hO6.cell 2; have t3 := hO6.cell 3; simp at t2 t3)
      go_ret3
      have hb6 : Below w.heap.size w w6 := hb3.trans ((hbx.mono (Nat.le_of_lt hz1)).trans (hk6.below (fun k hk e => by omega) hwz))
      exact ⟨by rw [HOB.out]; exact ⟨_, rfl, hO6.C⟩, hb6⟩

set_option maxHeartbeats 2000000 in
set_option maxRecDepth 100000 in
theorem lqInts_calls (xs ys : List Int) (A B : Option Addr) (ca cb : Nat) (w : World) (S S2 : Nat → Prop) (hA : Row Kd.int w S A xs) (hB : Row Kd.int w S2 B ys) :
    Calls Try.prog 12 #[.slice A xs.length ca, .slice B ys.length cb] w fun e w' => e = .returned (.bool (decide (xs = ys))) ∧ Below w.heap.size w w' := by
  have hm := hA.1
  have hm2 := hB.1
  by_cases hl : xs.length = ys.length
  rotate_left
  · have hne : ((xs.length : Int) != ys.length) = true := by simp; omega
    have hd : decide (xs = ys) = false := by simp; intro e; exact hl (by rw [e])
    rw [hd]
    clear hl hd
    go_enter Try.func12, Try.ntmps12
    go_wp2
    go_ret
    exact ⟨rfl, Below.refl _ _⟩
  · have hne : ((xs.length : Int) != ys.length) = false := by simp; omega
    have HL := Lib.hid hl
    clear hl
    go_enter Try.func12, Try.ntmps12
    go_wp2
    go_loopw [5] (fun i wr => ∃ k : Nat, k ≤ xs.length ∧ i = .int .i64 k ∧ Hid (xs.take k = ys.take k) ∧ Below w.heap.size w wr) (fun i _ => xs.length - (intOf i).toNat)
    case atStart => exact ⟨0, Nat.zero_le _, rfl, rfl, Below.refl _ _⟩
    case round =>
      obtain ⟨k, hk, rfl, HA, hbr⟩ := hrel
      by_cases hlt : k < xs.length
      · have hlt2 : k < ys.length := by rw [← HL.out]; exact hlt
        obtain ⟨ad, rfl, hl1, hc1, hi1⟩ := at_int (hA.belowAll hbr) hlt
        obtain ⟨ad2, rfl, hl2, hc2, hi2⟩ := at_int (hB.belowAll hbr) hlt2
        have x1 : (k : Int) < xs.length := by omega
        have x2 : (k : Int) < ys.length := by omega
        have x3 : (0 : Int) ≤ k := by omega
        by_cases he : xs[k] = ys[k]
        · have hb : (xs[k] != ys[k]) = false := by simp [he]
          have HEQ := Lib.hid he
          clear he
          go_wp2
          go_quiet (fail)
          go_wp2
          go_roundw
          case rel => exact ⟨k + 1, by omega, by go_num, by unfold Hid; rw [List.take_succ_eq_append_getElem hlt, List.take_succ_eq_append_getElem hlt2, HA.out, HEQ.out], below_drewN' hbr _⟩
          case measure => simp [intOf]; omega
        · have hb : (xs[k] != ys[k]) = true := by simp [he]
          have hd : decide (xs = ys) = false := by simp; intro e; subst e; exact he rfl
          have HDD := Lib.hid hd
          clear he hd
          go_wp2
          go_quiet (fail)
          go_wp2
          go_ret
          exact ⟨ret_bool HDD.out.symm, below_drewN' hbr _⟩
      · have hd : decide (xs = ys) = true := by
          have := HA.out
          rw [List.take_of_length_le (by omega), List.take_of_length_le (by rw [← HL.out]; omega)] at this
          simp [this]
        have HDD := Lib.hid hd
        clear hd
        go_wp2
        go_ret
        exact ⟨ret_bool HDD.out.symm, hbr⟩
end Go.Proofs.Ytcpabkfoalhldaa
namespace Go.Proofs.Ytcpabkfoalhldaa
open Go.RowKit
set_option linter.unusedVariables false
set_option linter.unusedSimpArgs false

theorem bal' (w : World) (o : Obj) : Below w.heap.size w (w.alloc o) := (Below.refl _ _).alloc (Nat.le_refl _) o
/-- What is left of 'left' behind n; -1: too much. -/
def dec (left n : Int) : Int := if n ≤ left then left - n else -1
theorem dec_ok {left n : Int} (h : n ≤ left) : dec left n = left - n := if_pos h
theorem dec_no {left n : Int} (h : ¬ n ≤ left) : dec left n = -1 := if_neg h
def sizeAct (a : Act) : Int := a.deeds.length + a.kids.length
theorem sumOf_nonneg {α : Type} (f : α → Int) (l : List α) (h : ∀ x, 0 ≤ f x) : 0 ≤ (l.map f).sum := by
  induction l with
  | nil => simp
  | cons a r ih => have := h a; simp only [List.map_cons, List.sum_cons]; omega
def tot {α : Type} (f : α → Int) (l : List α) : Int := (l.map f).sum
theorem tot_snoc {α : Type} (f : α → Int) (l : List α) (k : Nat) (h : k < l.length) : tot f (l.take (k + 1)) = tot f (l.take k) + f l[k] := by
  unfold tot; rw [List.take_succ_eq_append_getElem h]; simp only [List.map_append, List.sum_append, List.map_cons, List.map_nil, List.sum_cons, List.sum_nil, Int.add_zero]
theorem tot_le {α : Type} (f : α → Int) (l : List α) (k : Nat) (h : ∀ x, 0 ≤ f x) : tot f (l.take k) ≤ tot f l := by
  have e : tot f l = tot f (l.take k) + tot f (l.drop k) := by
    unfold tot
    rw [← List.sum_append, ← List.map_append, List.take_append_drop]
  have := sumOf_nonneg f (l.drop k) h
  unfold tot at *; omega
theorem tot_pos {α : Type} (f : α → Int) (l : List α) (h : ∀ x, 0 ≤ f x) : 0 ≤ tot f l := sumOf_nonneg f l h
theorem sizeAct_pos (a : Act) : 0 ≤ sizeAct a := by unfold sizeAct; omega
def sizeOf1 (l : List Act) : Int := l.length + tot sizeAct l
theorem sizeOf1_pos (l : List Act) : 0 ≤ sizeOf1 l := by have := tot_pos sizeAct l sizeAct_pos; unfold sizeOf1; omega
def sizeOf2 (l : List (List Act)) : Int := l.length + tot sizeOf1 l
theorem sizeOf2_pos (l : List (List Act)) : 0 ≤ sizeOf2 l := by have := tot_pos sizeOf1 l sizeOf1_pos; unfold sizeOf2; omega
def sizeOf3 (p : Prog) : Int := p.cells.length + sizeOf2 p.bodies

set_option maxHeartbeats 1000000 in
theorem szIntS_calls (A : Option Addr) (n c : Nat) (left : Int) (w : World) (h0 : 0 ≤ left) (h1 : left ≤ 1048576) (hn : n ≤ 9223372036854775807) :
    Calls Try.prog 54 #[.slice A n c, .int .i64 left] w fun e w' => e = .returned (.int .i64 (dec left n)) ∧ w' = w := by
  have hw := IntWalk.i64_in (left - n) (by omega)
  by_cases h : (n : Int) ≤ left
  · have h2 : ¬ left - (n : Int) < 0 := by omega
    rw [dec_ok h]
    clear h h0 h1 hn
    go_enter Try.func54, Try.ntmps54
    go_wp2
    go_ret
    exact ⟨rfl, rfl⟩
  · have h2 : left - (n : Int) < 0 := by omega
    rw [dec_no h]
    clear h h0 h1 hn
    go_enter Try.func54, Try.ntmps54
    go_wp2
    go_ret
    exact ⟨rfl, rfl⟩
set_option maxHeartbeats 1000000 in
theorem szDeedS_calls (A : Option Addr) (n c : Nat) (left : Int) (w : World) (h0 : 0 ≤ left) (h1 : left ≤ 1048576) (hn : n ≤ 9223372036854775807) :
    Calls Try.prog 127 #[.slice A n c, .int .i64 left] w fun e w' => e = .returned (.int .i64 (dec left n)) ∧ w' = w := by
  have hw := IntWalk.i64_in (left - n) (by omega)
  by_cases h : (n : Int) ≤ left
  · have h2 : ¬ left - (n : Int) < 0 := by omega
    rw [dec_ok h]
    clear h h0 h1 hn
    go_enter Try.func127, Try.ntmps127
    go_wp2
    go_ret
    exact ⟨rfl, rfl⟩
  · have h2 : left - (n : Int) < 0 := by omega
    rw [dec_no h]
    clear h h0 h1 hn
    go_enter Try.func127, Try.ntmps127
    go_wp2
    go_ret
    exact ⟨rfl, rfl⟩
set_option maxHeartbeats 1000000 in
theorem szAct_calls (A B : Option Addr) (n m c d : Nat) (k r left : Int) (w : World) (h0 : 0 ≤ left) (h1 : left ≤ 1048576) (hn : n ≤ 9223372036854775807) (hm : m ≤ 9223372036854775807) :
    Calls Try.prog 103 #[.agg #[.int .i64 k, .slice A n c, .slice B m d, .int .i64 r], .int .i64 left] w fun e w' => e = .returned (.int .i64 (dec left (n + m))) ∧ Below w.heap.size w w' := by
  have hb := fun o => bal' w o
  by_cases h : (n : Int) ≤ left
  · have h2 : ¬ left - (n : Int) < 0 := by omega
    by_cases h3 : (m : Int) ≤ left - n
    · have h4 : ¬ left - (n : Int) - m < 0 := by omega
      have e1 := dec_ok h
      have e2 := dec_ok h3
      have e3 : dec left (n + m) = left - n - m := by rw [dec_ok (by omega)]; omega
      rw [e3]
      have HE := Lib.hid (And.intro e1 e2)
      have H0 := Lib.hid (show 0 ≤ left ∧ 0 ≤ left - (n : Int) ∧ left - (n : Int) ≤ 1048576 by omega)
      clear h h3 e1 e2 e3 h0
      go_enter Try.func103, Try.ntmps103
      go_wp2_with (first | (go_at_call 127; refine (szDeedS_calls _ n _ left _ H0.out.1 h1 hn).mono ?_; rintro e w' ⟨rfl, rfl⟩; rw [HE.out.1]) | (go_at_call 54; refine (szIntS_calls _ m _ (left - n) _ H0.out.2.1 H0.out.2.2 hm).mono ?_; rintro e w' ⟨rfl, rfl⟩; rw [HE.out.2]))
      go_ret
      exact ⟨rfl, hb _⟩
    · have e1 := dec_ok h
      have e2 := dec_no h3
      have e3 : dec left (n + m) = -1 := dec_no (by omega)
      rw [e3]
      have HE := Lib.hid (And.intro e1 e2)
      have H0 := Lib.hid (show 0 ≤ left ∧ 0 ≤ left - (n : Int) ∧ left - (n : Int) ≤ 1048576 by omega)
      clear h h3 e1 e2 e3 h0
      go_enter Try.func103, Try.ntmps103
      go_wp2_with (first | (go_at_call 127; refine (szDeedS_calls _ n _ left _ H0.out.1 h1 hn).mono ?_; rintro e w' ⟨rfl, rfl⟩; rw [HE.out.1]) | (go_at_call 54; refine (szIntS_calls _ m _ (left - n) _ H0.out.2.1 H0.out.2.2 hm).mono ?_; rintro e w' ⟨rfl, rfl⟩; rw [HE.out.2]))
      go_ret
      exact ⟨rfl, hb _⟩
  · have e1 := dec_no h
    have e3 : dec left (n + m) = -1 := dec_no (by omega)
    rw [e3]
    have HE := Lib.hid e1
    clear h e1 e3
    go_enter Try.func103, Try.ntmps103
    go_wp2_with (go_at_call 127; refine (szDeedS_calls _ n _ left _ h0 h1 hn).mono ?_; rintro e w' ⟨rfl, rfl⟩; rw [HE.out])
    go_ret
    exact ⟨rfl, hb _⟩
set_option maxHeartbeats 2000000 in
set_option maxRecDepth 100000 in
theorem eqIntS_calls (xs ys : List Int) (A B : Option Addr) (ca cb : Nat) (w : World) (S S2 : Nat → Prop) (hA : Row Kd.int w S A xs) (hB : Row Kd.int w S2 B ys) :
    Calls Try.prog 27 #[.slice A xs.length ca, .slice B ys.length cb] w fun e w' => e = .returned (.bool (decide (xs = ys))) ∧ Below w.heap.size w w' := by
  have hm := hA.1
  have hm2 := hB.1
  by_cases hl : xs.length = ys.length
  rotate_left
  · have hne : ((xs.length : Int) != ys.length) = true := by simp; omega
    have hd : decide (xs = ys) = false := by simp; intro e; exact hl (by rw [e])
    rw [hd]
    clear hl hd
    go_enter Try.func27, Try.ntmps27
    go_wp2
    go_ret
    exact ⟨rfl, Below.refl _ _⟩
  · have hne : ((xs.length : Int) != ys.length) = false := by simp; omega
    have HL := Lib.hid hl
    clear hl
    go_enter Try.func27, Try.ntmps27
    go_wp2
    go_loopw [5] (fun i wr => ∃ k : Nat, k ≤ xs.length ∧ i = .int .i64 k ∧ Hid (xs.take k = ys.take k) ∧ Below w.heap.size w wr) (fun i _ => xs.length - (intOf i).toNat)
    case atStart => exact ⟨0, Nat.zero_le _, rfl, rfl, Below.refl _ _⟩
    case round =>
      obtain ⟨k, hk, rfl, HA, hbr⟩ := hrel
      by_cases hlt : k < xs.length
      · have hlt2 : k < ys.length := by rw [← HL.out]; exact hlt
        obtain ⟨ad, rfl, hl1, hc1, hi1⟩ := at_int (hA.belowAll hbr) hlt
        obtain ⟨ad2, rfl, hl2, hc2, hi2⟩ := at_int (hB.belowAll hbr) hlt2
        have x1 : (k : Int) < xs.length := by omega
        have x2 : (k : Int) < ys.length := by omega
        have x3 : (0 : Int) ≤ k := by omega
        by_cases he : xs[k] = ys[k]
        · have hb : (xs[k] != ys[k]) = false := by simp [he]
          have HEQ := Lib.hid he
          clear he
          go_wp2
          go_quiet (fail)
          go_wp2
          go_roundw
          case rel => exact ⟨k + 1, by omega, by go_num, by unfold Hid; rw [List.take_succ_eq_append_getElem hlt, List.take_succ_eq_append_getElem hlt2, HA.out, HEQ.out], below_drewN' hbr _⟩
          case measure => simp [intOf]; omega
        · have hb : (xs[k] != ys[k]) = true := by simp [he]
          have hd : decide (xs = ys) = false := by simp; intro e; subst e; exact he rfl
          have HDD := Lib.hid hd
          clear he hd
          go_wp2
          go_quiet (fail)
          go_wp2
          go_ret
          exact ⟨ret_bool HDD.out.symm, below_drewN' hbr _⟩
      · have hd : decide (xs = ys) = true := by
          have := HA.out
          rw [List.take_of_length_le (by omega), List.take_of_length_le (by rw [← HL.out]; omega)] at this
          simp [this]
        have HDD := Lib.hid hd
        clear hd
        go_wp2
        go_ret
        exact ⟨ret_bool HDD.out.symm, hbr⟩
end Go.Proofs.Ytcpabkfoalhldaa
namespace Go.Proofs.Ytcpabkfoalhldaa
open Go.RowKit
set_option linter.unusedVariables false
set_option linter.unusedSimpArgs false

set_option maxHeartbeats 2000000 in
set_option maxRecDepth 100000 in
theorem szActS_calls (xs : List Act) (A : Option Addr) (c : Nat) (left : Int) (w : World) (S : Nat → Prop) (h0 : 0 ≤ left) (h1 : left ≤ 1048576) (hA : Row kAct w S A xs) :
    Calls Try.prog 83 #[.slice A xs.length c, .int .i64 left] w fun e w' => e = .returned (.int .i64 (dec left (sizeOf1 xs))) ∧ Below w.heap.size w w' := by
  have hn := hA.1
  have hw := IntWalk.i64_in (left - xs.length) (by omega)
  by_cases h : (xs.length : Int) ≤ left
  rotate_left
  · have h2 : left - (xs.length : Int) < 0 := by omega
    have h3 := tot_pos sizeAct xs sizeAct_pos
    rw [dec_no (by unfold sizeOf1; omega)]
    clear h h0 h1 hn h3
    go_enter Try.func83, Try.ntmps83
    go_wp2
    go_ret
    exact ⟨rfl, Below.refl _ _⟩
  · have h2 : ¬ left - (xs.length : Int) < 0 := by omega
    have HB := Lib.hid (And.intro h0 (And.intro h1 h))
    clear h h0 h1
    go_enter Try.func83, Try.ntmps83
    go_wp2
    go_loopw [1, 5] (fun l i wr => ∃ k : Nat, k ≤ xs.length ∧ i = .int .i64 k ∧ l = .int .i64 (left - xs.length - tot sizeAct (xs.take k)) ∧ Hid (0 ≤ left - xs.length - tot sizeAct (xs.take k)) ∧ Below w.heap.size w wr) (fun _ i _ => xs.length - (intOf i).toNat)
    case atStart => exact ⟨0, Nat.zero_le _, rfl, by simp [tot], by unfold Hid; simp [tot]; have := HB.out; omega, Below.refl _ _⟩
    case round =>
      obtain ⟨k, hk, rfl, rfl, HP, hbr⟩ := hrel
      by_cases hlt : k < xs.length
      · obtain ⟨ad, D, cd, E, ce, rfl, hl2, k0, k1, k2, k3, hcd, hce, hD, hE, hi1, hi2⟩ := at_act (hA.belowAll hbr) hlt
        have x1 : (k : Int) < xs.length := by omega
        have x3 : (0 : Int) ≤ k := by omega
        have hs := tot_snoc sizeAct xs k hlt
        have hp := tot_pos sizeAct (xs.take k) sizeAct_pos
        have hq := tot_le sizeAct xs (k + 1) sizeAct_pos
        have HS := Lib.hid (And.intro hs (And.intro hp hq))
        generalize hL : left - (xs.length : Int) - tot sizeAct (xs.take k) = L
        rw [hL] at HP
        have HLL := Lib.hid hL
        have hL1 : L ≤ 1048576 := by have := HB.out; omega
        clear hs hp hq hL
        by_cases he : sizeAct xs[k] ≤ L
        · have e1 := dec_ok he
          have h4 : ¬ L - sizeAct xs[k] < 0 := by omega
          have HE := Lib.hid e1
          have HH := Lib.hid he
          clear e1 he
          go_wp2_with (go_at_call 103; refine (szAct_calls _ _ xs[k].deeds.length xs[k].kids.length _ _ _ _ L _ HP hL1 hD.1 hE.1).mono ?_; rintro e w1 ⟨rfl, hb1⟩; rw [show dec L ((xs[k].deeds.length : Int) + xs[k].kids.length) = dec L (sizeAct xs[k]) from rfl, HE.out])
          go_roundw
          case rel => exact ⟨k + 1, by omega, by go_num, by have := HS.out.1; have := HLL.out; first | omega | (rw [HS.out.1]; congr 1; omega), by unfold Hid; have := HS.out.1; have := HLL.out; have := HH.out; omega, below_then hbr hbr.size hb1⟩
          case measure => simp [intOf]; omega
        · have e1 := dec_no he
          have e3 : dec left (sizeOf1 xs) = -1 := dec_no (by have := HS.out; have := HLL.out; unfold sizeOf1; omega)
          have HE := Lib.hid (And.intro e1 e3)
          clear e1 e3 he
          go_wp2_with (go_at_call 103; refine (szAct_calls _ _ xs[k].deeds.length xs[k].kids.length _ _ _ _ L _ HP hL1 hD.1 hE.1).mono ?_; rintro e w1 ⟨rfl, hb1⟩; rw [show dec L ((xs[k].deeds.length : Int) + xs[k].kids.length) = dec L (sizeAct xs[k]) from rfl, HE.out.1])
          go_ret
          exact ⟨ret_int HE.out.2.symm, below_then hbr hbr.size hb1⟩
      · have e0 : xs.take k = xs := List.take_of_length_le (by omega)
        have e3 : dec left (sizeOf1 xs) = left - xs.length - tot sizeAct (xs.take k) := by rw [e0]; rw [dec_ok (by have := HP; unfold Hid at this; rw [e0] at this; unfold sizeOf1; omega)]; unfold sizeOf1; omega
        have HE := Lib.hid e3
        clear e3 e0
        go_wp2
        go_ret
        exact ⟨ret_int HE.out.symm, hbr⟩
set_option maxHeartbeats 2000000 in
set_option maxRecDepth 100000 in
theorem szActSS_calls (xs : List (List Act)) (A : Option Addr) (c : Nat) (left : Int) (w : World) (S : Nat → Prop) (h0 : 0 ≤ left) (h1 : left ≤ 1048576) (hA : Row (Kd.slice kAct) w S A xs) :
    Calls Try.prog 55 #[.slice A xs.length c, .int .i64 left] w fun e w' => e = .returned (.int .i64 (dec left (sizeOf2 xs))) ∧ Below w.heap.size w w' := by
  have hn := hA.1
  have hw := IntWalk.i64_in (left - xs.length) (by omega)
  by_cases h : (xs.length : Int) ≤ left
  rotate_left
  · have h2 : left - (xs.length : Int) < 0 := by omega
    have h3 := tot_pos sizeOf1 xs sizeOf1_pos
    rw [dec_no (by unfold sizeOf2; omega)]
    clear h h0 h1 hn h3
    go_enter Try.func55, Try.ntmps55
    go_wp2
    go_ret
    exact ⟨rfl, Below.refl _ _⟩
  · have h2 : ¬ left - (xs.length : Int) < 0 := by omega
    have HB := Lib.hid (And.intro h0 (And.intro h1 h))
    clear h h0 h1
    go_enter Try.func55, Try.ntmps55
    go_wp2
    go_loopw [1, 5] (fun l i wr => ∃ k : Nat, k ≤ xs.length ∧ i = .int .i64 k ∧ l = .int .i64 (left - xs.length - tot sizeOf1 (xs.take k)) ∧ Hid (0 ≤ left - xs.length - tot sizeOf1 (xs.take k)) ∧ Below w.heap.size w wr) (fun _ i _ => xs.length - (intOf i).toNat)
    case atStart => exact ⟨0, Nat.zero_le _, rfl, by simp [tot], by unfold Hid; simp [tot]; have := HB.out; omega, Below.refl _ _⟩
    case round =>
      obtain ⟨k, hk, rfl, rfl, HP, hbr⟩ := hrel
      by_cases hlt : k < xs.length
      · obtain ⟨ad, B, cb, rfl, hl1, hc1, hlc1, hr1⟩ := at_slice (hA.belowAll hbr) hlt
        have x1 : (k : Int) < xs.length := by omega
        have x3 : (0 : Int) ≤ k := by omega
        have hs := tot_snoc sizeOf1 xs k hlt
        have hp := tot_pos sizeOf1 (xs.take k) sizeOf1_pos
        have hq := tot_le sizeOf1 xs (k + 1) sizeOf1_pos
        have HS := Lib.hid (And.intro hs (And.intro hp hq))
        generalize hL : left - (xs.length : Int) - tot sizeOf1 (xs.take k) = L
        rw [hL] at HP
        have HLL := Lib.hid hL
        have hL1 : L ≤ 1048576 := by have := HB.out; omega
        clear hs hp hq hL
        by_cases he : sizeOf1 xs[k] ≤ L
        · have e1 := dec_ok he
          have h4 : ¬ L - sizeOf1 xs[k] < 0 := by omega
          have HE := Lib.hid e1
          have HH := Lib.hid he
          clear e1 he
          go_wp2_with (go_at_call 83; refine (szActS_calls xs[k] B cb L _ S HP hL1 hr1).mono ?_; rintro e w1 ⟨rfl, hb1⟩; rw [HE.out])
          go_roundw
          case rel => exact ⟨k + 1, by omega, by go_num, by have := HS.out.1; have := HLL.out; first | omega | (rw [HS.out.1]; congr 1; omega), by unfold Hid; have := HS.out.1; have := HLL.out; have := HH.out; omega, below_then hbr hbr.size hb1⟩
          case measure => simp [intOf]; omega
        · have e1 := dec_no he
          have e3 : dec left (sizeOf2 xs) = -1 := dec_no (by have := HS.out; have := HLL.out; unfold sizeOf2; omega)
          have HE := Lib.hid (And.intro e1 e3)
          clear e1 e3 he
          go_wp2_with (go_at_call 83; refine (szActS_calls xs[k] B cb L _ S HP hL1 hr1).mono ?_; rintro e w1 ⟨rfl, hb1⟩; rw [HE.out.1])
          go_ret
          exact ⟨ret_int HE.out.2.symm, below_then hbr hbr.size hb1⟩
      · have e0 : xs.take k = xs := List.take_of_length_le (by omega)
        have e3 : dec left (sizeOf2 xs) = left - xs.length - tot sizeOf1 (xs.take k) := by rw [e0]; rw [dec_ok (by have := HP; unfold Hid at this; rw [e0] at this; unfold sizeOf2; omega)]; unfold sizeOf2; omega
        have HE := Lib.hid e3
        clear e3 e0
        go_wp2
        go_ret
        exact ⟨ret_int HE.out.symm, hbr⟩
theorem szProg_calls (p : Prog) (A B : Option Addr) (ca cb : Nat) (left : Int) (w : World) (S : Nat → Prop) (h0 : 0 ≤ left) (h1 : left ≤ 1048576) (hA : Row Kd.int w S A p.cells) (hB : Row (Kd.slice kAct) w S B p.bodies) :
    Calls Try.prog 25 #[.agg #[.slice A p.cells.length ca, .slice B p.bodies.length cb], .int .i64 left] w fun e w' => e = .returned (.int .i64 (dec left (sizeOf3 p))) ∧ Below w.heap.size w w' := by
  have hb := fun o => bal' w o
  have hB1 := fun o => hB.belowAll (hb o)
  have hn := hA.1
  have hp2 := sizeOf2_pos p.bodies
  by_cases h : (p.cells.length : Int) ≤ left
  · by_cases h3 : sizeOf2 p.bodies ≤ left - p.cells.length
    · have h4 : ¬ left - (p.cells.length : Int) - sizeOf2 p.bodies < 0 := by omega
      have h2 : ¬ left - (p.cells.length : Int) < 0 := by omega
      have e1 := dec_ok h
      have e2 := dec_ok h3
      have e3 : dec left (sizeOf3 p) = left - p.cells.length - sizeOf2 p.bodies := by unfold sizeOf3; rw [dec_ok (by omega)]; omega
      rw [e3]
      have HE := Lib.hid (And.intro e1 e2)
      have H0 := Lib.hid (show 0 ≤ left ∧ 0 ≤ left - (p.cells.length : Int) ∧ left - (p.cells.length : Int) ≤ 1048576 by omega)
      clear h h3 e1 e2 e3 h0 hp2
      go_enter Try.func25, Try.ntmps25
      go_wp2_with (first | (go_at_call 54; refine (szIntS_calls _ p.cells.length _ left _ H0.out.1 h1 hn).mono ?_; rintro e w' ⟨rfl, rfl⟩; rw [HE.out.1]) | (go_at_call 55; refine (szActSS_calls p.bodies _ _ (left - p.cells.length) _ S H0.out.2.1 H0.out.2.2 (hB1 _)).mono ?_; rintro e w1 ⟨rfl, hb1⟩; rw [HE.out.2]))
      go_ret
      exact ⟨rfl, below_then (hb _) (by simp) hb1⟩
    · have h2 : ¬ left - (p.cells.length : Int) < 0 := by omega
      have e1 := dec_ok h
      have e2 := dec_no h3
      have e3 : dec left (sizeOf3 p) = -1 := dec_no (by unfold sizeOf3; omega)
      rw [e3]
      have HE := Lib.hid (And.intro e1 e2)
      have H0 := Lib.hid (show 0 ≤ left ∧ 0 ≤ left - (p.cells.length : Int) ∧ left - (p.cells.length : Int) ≤ 1048576 by omega)
      clear h h3 e1 e2 e3 h0 hp2
      go_enter Try.func25, Try.ntmps25
      go_wp2_with (first | (go_at_call 54; refine (szIntS_calls _ p.cells.length _ left _ H0.out.1 h1 hn).mono ?_; rintro e w' ⟨rfl, rfl⟩; rw [HE.out.1]) | (go_at_call 55; refine (szActSS_calls p.bodies _ _ (left - p.cells.length) _ S H0.out.2.1 H0.out.2.2 (hB1 _)).mono ?_; rintro e w1 ⟨rfl, hb1⟩; rw [HE.out.2]))
      go_ret
      exact ⟨rfl, below_then (hb _) (by simp) hb1⟩
  · have e1 := dec_no h
    have e3 : dec left (sizeOf3 p) = -1 := dec_no (by unfold sizeOf3; omega)
    rw [e3]
    have HE := Lib.hid e1
    clear h e1 e3 hp2
    go_enter Try.func25, Try.ntmps25
    go_wp2_with (go_at_call 54; refine (szIntS_calls _ p.cells.length _ left _ h0 h1 hn).mono ?_; rintro e w' ⟨rfl, rfl⟩; rw [HE.out])
    go_ret
    exact ⟨rfl, hb _⟩
end Go.Proofs.Ytcpabkfoalhldaa
namespace Go.Proofs.Ytcpabkfoalhldaa
open Go.RowKit
set_option linter.unusedVariables false
set_option linter.unusedSimpArgs false
attribute [local go_sem ↓] Go.wp_at_zero Go.wp_at_succ

theorem bal2' (w : World) (o1 o2 : Obj) : Below w.heap.size w ((w.alloc o1).alloc o2) := (bal' w o1).alloc (by simp) o2
theorem World.alloc2_first (w : World) (o1 o2 : Obj) : ((w.alloc o1).alloc o2).heap[w.heap.size]? = some o1 := (Below.heap_alloc (w.alloc o1) o2 w.heap.size (by simp)).trans (heap_alloc_new w o1)
theorem heap_new2' (w : World) (o1 o2 : Obj) : ((w.alloc o1).alloc o2).heap[w.heap.size + 1]? = some o2 := by
  have := heap_alloc_new (w.alloc o1) o2
  simpa using this
theorem eqDeed_calls (k a b : Int) (w : World) : Calls Try.prog 143 #[.agg #[.int .i64 k, .int .i64 a, .int .i64 b], .agg #[.int .i64 k, .int .i64 a, .int .i64 b]] w fun e w' => e = .returned (.bool true) ∧ Below w.heap.size w w' := by
  have hb := fun o1 o2 => bal2' w o1 o2
  go_enter Try.func143, Try.ntmps143
  go_wp2
  go_ret
  exact ⟨rfl, hb _ _⟩
set_option maxHeartbeats 2000000 in
set_option maxRecDepth 100000 in
theorem eqDeedS_calls (xs : List Deed) (A A2 : Option Addr) (c c2 : Nat) (w : World) (S S2 : Nat → Prop) (hA : Row kDeed w S A xs) (hB : Row kDeed w S2 A2 xs) :
    Calls Try.prog 129 #[.slice A xs.length c, .slice A2 xs.length c2] w fun e w' => e = .returned (.bool true) ∧ Below w.heap.size w w' := by
  have hn := hA.1
  have hne : ((xs.length : Int) != xs.length) = false := by simp
  go_enter Try.func129, Try.ntmps129
  go_wp2
  go_loopw [5] (fun i wr => ∃ k : Nat, k ≤ xs.length ∧ i = .int .i64 k ∧ Below w.heap.size w wr) (fun i _ => xs.length - (intOf i).toNat)
  case atStart => exact ⟨0, Nat.zero_le _, rfl, Below.refl _ _⟩
  case round =>
    obtain ⟨k, hk, rfl, hbr⟩ := hrel
    by_cases hlt : k < xs.length
    · obtain ⟨ad, rfl, hl1, p0, p1, p2, _, _, _⟩ := at_deed (hA.belowAll hbr) hlt
      obtain ⟨ae, rfl, hl2, q0, q1, q2, _, _, _⟩ := at_deed (hB.belowAll hbr) hlt
      have x1 : (k : Int) < xs.length := by omega
      have x3 : (0 : Int) ≤ k := by omega
      go_wp2
      go_region_held3 (fun w' => w'.cell? (ad.add (k * 3)) = some (.int .i64 xs[k].kind) ∧ w'.cell? ⟨(ad.add (k * 3)).block, (ad.add (k * 3)).off + 1, none⟩ = some (.int .i64 xs[k].a) ∧ w'.cell? ⟨(ad.add (k * 3)).block, (ad.add (k * 3)).off + 2, none⟩ = some (.int .i64 xs[k].b) ∧ w'.cell? (ae.add (k * 3)) = some (.int .i64 xs[k].kind) ∧ w'.cell? ⟨(ae.add (k * 3)).block, (ae.add (k * 3)).off + 1, none⟩ = some (.int .i64 xs[k].a) ∧ w'.cell? ⟨(ae.add (k * 3)).block, (ae.add (k * 3)).off + 2, none⟩ = some (.int .i64 xs[k].b)) (first | (go_keep; done) | exact ⟨p0, p1, p2, q0, q1, q2⟩ | exact ⟨y0, y1, y2, y3, y4, y5⟩) (first | (go_at_call 143; refine (eqDeed_calls _ _ _ _).mono ?_; rintro e w1 ⟨rfl, hb1⟩; have y0 := (hb1.cell (p := (ad.add (k * 3))) (by first | exact hl1 | (rw [block_add]; exact hl1) | (show (Addr.block _) < _; rw [block_add]; exact hl1))).trans p0; have y1 := (hb1.cell (p := ⟨(ad.add (k * 3)).block, (ad.add (k * 3)).off + 1, none⟩) (by first | exact hl1 | (rw [block_add]; exact hl1) | (show (Addr.block _) < _; rw [block_add]; exact hl1))).trans p1; have y2 := (hb1.cell (p := ⟨(ad.add (k * 3)).block, (ad.add (k * 3)).off + 2, none⟩) (by first | exact hl1 | (rw [block_add]; exact hl1) | (show (Addr.block _) < _; rw [block_add]; exact hl1))).trans p2; have y3 := (hb1.cell (p := (ae.add (k * 3))) (by first | exact hl2 | (rw [block_add]; exact hl2) | (show (Addr.block _) < _; rw [block_add]; exact hl2))).trans q0; have y4 := (hb1.cell (p := ⟨(ae.add (k * 3)).block, (ae.add (k * 3)).off + 1, none⟩) (by first | exact hl2 | (rw [block_add]; exact hl2) | (show (Addr.block _) < _; rw [block_add]; exact hl2))).trans q1; have y5 := (hb1.cell (p := ⟨(ae.add (k * 3)).block, (ae.add (k * 3)).off + 2, none⟩) (by first | exact hl2 | (rw [block_add]; exact hl2) | (show (Addr.block _) < _; rw [block_add]; exact hl2))).trans q2))
      all_goals
        go_wp2
        go_roundw
        case rel => exact ⟨k + 1, by omega, by go_num, below_then hbr hbr.size (Below.trans (Below.drew (Below.refl _ _)) hb1)⟩
        case measure => simp [intOf]; omega
    · go_wp2
      go_ret
      exact ⟨rfl, hbr⟩
set_option maxHeartbeats 1000000 in
theorem eqAct_calls (x : Act) (A B A2 B2 : Option Addr) (c d c2 d2 : Nat) (w : World) (S S2 : Nat → Prop) (hA : Row kDeed w S A x.deeds) (hA2 : Row kDeed w S2 A2 x.deeds) (hB : Row Kd.int w S B x.kids) (hB2 : Row Kd.int w S2 B2 x.kids) :
    Calls Try.prog 105 #[.agg #[.int .i64 x.kind, .slice A x.deeds.length c, .slice B x.kids.length d, .int .i64 x.reg], .agg #[.int .i64 x.kind, .slice A2 x.deeds.length c2, .slice B2 x.kids.length d2, .int .i64 x.reg]] w fun e w' => e = .returned (.bool true) ∧ Below w.heap.size w w' := by
  have hb := fun o1 o2 => bal2' w o1 o2
  have HA := fun o1 o2 => Lib.hid (hA.belowAll (hb o1 o2))
  have HA2 := fun o1 o2 => Lib.hid (hA2.belowAll (hb o1 o2))
  have HB := fun o1 o2 => Lib.hid (hB.belowAll (hb o1 o2))
  have HB2 := fun o1 o2 => Lib.hid (hB2.belowAll (hb o1 o2))
  have hx1 := fun o1 o2 => World.alloc2_first w o1 o2
  clear hA hA2 hB hB2
  go_enter Try.func105, Try.ntmps105
  go_wp2_with (first | (go_at_call 129; refine (eqDeedS_calls x.deeds _ _ _ _ _ S S2 (HA _ _).out (HA2 _ _).out).mono ?_; rintro e w1 ⟨rfl, hb1⟩; have z1 := hb1.size; (try simp at z1); have f1 := (hb1.block w.heap.size (by simp; omega)).trans (hx1 _ _); have f2 := (hb1.block (w.heap.size + 1) (by simp)).trans (heap_new2' w _ _); have g1 := cell_of_row _ _ 2 _ _ _ f1; have g2 := cell_of_row _ _ 3 _ _ _ f1; have g3 := cell_of_row _ _ 2 _ _ _ f2; have g4 := cell_of_row _ _ 3 _ _ _ f2; simp at g1 g2 g3 g4) | (go_at_call 27; refine (eqIntS_calls x.kids x.kids _ _ _ _ _ S S2 ((HB _ _).out.belowAll hb1) ((HB2 _ _).out.belowAll hb1)).mono ?_; rintro e w2 ⟨rfl, hb2⟩; have k1 := (hb2.block w.heap.size (by omega)).trans f1; have k2 := (hb2.block (w.heap.size + 1) (by omega)).trans f2; have j1 := cell_of_row _ _ 3 _ _ _ k1; have j2 := cell_of_row _ _ 3 _ _ _ k2; simp at j1 j2; have hE : decide (x.kids = x.kids) = true := decide_eq_true rfl; rw [hE]))
  go_ret
  exact ⟨rfl, below_then (below_then (hb _ _) (by simp; omega) hb1) (by omega) hb2⟩
set_option maxHeartbeats 2000000 in
set_option maxRecDepth 100000 in
theorem eqActS_calls (xs : List Act) (A A2 : Option Addr) (c c2 : Nat) (w : World) (S S2 : Nat → Prop) (hA : Row kAct w S A xs) (hB : Row kAct w S2 A2 xs) :
    Calls Try.prog 85 #[.slice A xs.length c, .slice A2 xs.length c2] w fun e w' => e = .returned (.bool true) ∧ Below w.heap.size w w' := by
  have hn := hA.1
  have hne : ((xs.length : Int) != xs.length) = false := by simp
  go_enter Try.func85, Try.ntmps85
  go_wp2
  go_loopw [5] (fun i wr => ∃ k : Nat, k ≤ xs.length ∧ i = .int .i64 k ∧ Below w.heap.size w wr) (fun i _ => xs.length - (intOf i).toNat)
  case atStart => exact ⟨0, Nat.zero_le _, rfl, Below.refl _ _⟩
  case round =>
    obtain ⟨k, hk, rfl, hbr⟩ := hrel
    by_cases hlt : k < xs.length
    · obtain ⟨ad, D, cd, E, ce, rfl, hl1, p0, p1, p2, p3, _, _, hD, hE, _, _⟩ := at_act (hA.belowAll hbr) hlt
      obtain ⟨ae, D2, cd2, E2, ce2, rfl, hl2, q0, q1, q2, q3, _, _, hD2, hE2, _, _⟩ := at_act (hB.belowAll hbr) hlt
      have x1 : (k : Int) < xs.length := by omega
      have x3 : (0 : Int) ≤ k := by omega
      go_wp2
      go_region_held3 (fun w' => w'.cell? (ad.add (k * 4)) = some (.int .i64 xs[k].kind) ∧ w'.cell? ⟨(ad.add (k * 4)).block, (ad.add (k * 4)).off + 1, none⟩ = some (.slice D xs[k].deeds.length cd) ∧ w'.cell? ⟨(ad.add (k * 4)).block, (ad.add (k * 4)).off + 2, none⟩ = some (.slice E xs[k].kids.length ce) ∧ w'.cell? ⟨(ad.add (k * 4)).block, (ad.add (k * 4)).off + 3, none⟩ = some (.int .i64 xs[k].reg) ∧ w'.cell? (ae.add (k * 4)) = some (.int .i64 xs[k].kind) ∧ w'.cell? ⟨(ae.add (k * 4)).block, (ae.add (k * 4)).off + 1, none⟩ = some (.slice D2 xs[k].deeds.length cd2) ∧ w'.cell? ⟨(ae.add (k * 4)).block, (ae.add (k * 4)).off + 2, none⟩ = some (.slice E2 xs[k].kids.length ce2) ∧ w'.cell? ⟨(ae.add (k * 4)).block, (ae.add (k * 4)).off + 3, none⟩ = some (.int .i64 xs[k].reg)) (first | (go_keep; done) | exact ⟨p0, p1, p2, p3, q0, q1, q2, q3⟩ | exact ⟨y0, y1, y2, y3, y4, y5, y6, y7⟩) (first | (go_at_call 105; refine (eqAct_calls xs[k] _ _ _ _ _ _ _ _ _ S S2 (Row.drewN hD 1) (Row.drewN hD2 1) (Row.drewN hE 1) (Row.drewN hE2 1)).mono ?_; rintro e w1 ⟨rfl, hb1⟩; have y0 := (hb1.cell (p := (ad.add (k * 4))) (by first | exact hl1 | (rw [block_add]; exact hl1) | (show (Addr.block _) < _; rw [block_add]; exact hl1))).trans p0; have y1 := (hb1.cell (p := ⟨(ad.add (k * 4)).block, (ad.add (k * 4)).off + 1, none⟩) (by first | exact hl1 | (rw [block_add]; exact hl1) | (show (Addr.block _) < _; rw [block_add]; exact hl1))).trans p1; have y2 := (hb1.cell (p := ⟨(ad.add (k * 4)).block, (ad.add (k * 4)).off + 2, none⟩) (by first | exact hl1 | (rw [block_add]; exact hl1) | (show (Addr.block _) < _; rw [block_add]; exact hl1))).trans p2; have y3 := (hb1.cell (p := ⟨(ad.add (k * 4)).block, (ad.add (k * 4)).off + 3, none⟩) (by first | exact hl1 | (rw [block_add]; exact hl1) | (show (Addr.block _) < _; rw [block_add]; exact hl1))).trans p3; have y4 := (hb1.cell (p := (ae.add (k * 4))) (by first | exact hl2 | (rw [block_add]; exact hl2) | (show (Addr.block _) < _; rw [block_add]; exact hl2))).trans q0; have y5 := (hb1.cell (p := ⟨(ae.add (k * 4)).block, (ae.add (k * 4)).off + 1, none⟩) (by first | exact hl2 | (rw [block_add]; exact hl2) | (show (Addr.block _) < _; rw [block_add]; exact hl2))).trans q1; have y6 := (hb1.cell (p := ⟨(ae.add (k * 4)).block, (ae.add (k * 4)).off + 2, none⟩) (by first | exact hl2 | (rw [block_add]; exact hl2) | (show (Addr.block _) < _; rw [block_add]; exact hl2))).trans q2; have y7 := (hb1.cell (p := ⟨(ae.add (k * 4)).block, (ae.add (k * 4)).off + 3, none⟩) (by first | exact hl2 | (rw [block_add]; exact hl2) | (show (Addr.block _) < _; rw [block_add]; exact hl2))).trans q3))
      all_goals
        go_wp2
        go_roundw
        case rel => exact ⟨k + 1, by omega, by go_num, below_then hbr hbr.size (Below.trans (Below.drew (Below.refl _ _)) hb1)⟩
        case measure => simp [intOf]; omega
    · go_wp2
      go_ret
      exact ⟨rfl, hbr⟩
set_option maxHeartbeats 2000000 in
set_option maxRecDepth 100000 in
theorem eqActSS_calls (xs : List (List Act)) (A A2 : Option Addr) (c c2 : Nat) (w : World) (S S2 : Nat → Prop) (hA : Row (Kd.slice kAct) w S A xs) (hB : Row (Kd.slice kAct) w S2 A2 xs) :
    Calls Try.prog 58 #[.slice A xs.length c, .slice A2 xs.length c2] w fun e w' => e = .returned (.bool true) ∧ Below w.heap.size w w' := by
  have hn := hA.1
  have hne : ((xs.length : Int) != xs.length) = false := by simp
  go_enter Try.func58, Try.ntmps58
  go_wp2
  go_loopw [5] (fun i wr => ∃ k : Nat, k ≤ xs.length ∧ i = .int .i64 k ∧ Below w.heap.size w wr) (fun i _ => xs.length - (intOf i).toNat)
  case atStart => exact ⟨0, Nat.zero_le _, rfl, Below.refl _ _⟩
  case round =>
    obtain ⟨k, hk, rfl, hbr⟩ := hrel
    by_cases hlt : k < xs.length
    · obtain ⟨ad, B, cb, rfl, hl1, p0, _, hr1⟩ := at_slice (hA.belowAll hbr) hlt
      obtain ⟨ae, B2, cb2, rfl, hl2, q0, _, hr2⟩ := at_slice (hB.belowAll hbr) hlt
      have x1 : (k : Int) < xs.length := by omega
      have x3 : (0 : Int) ≤ k := by omega
      go_wp2
      go_region_held3 (fun w' => w'.cell? (ad.add k) = some (.slice B xs[k].length cb) ∧ w'.cell? (ae.add k) = some (.slice B2 xs[k].length cb2)) (first | (go_keep; done) | exact ⟨p0, q0⟩ | exact ⟨y0, y1⟩) (first | (go_at_call 85; refine (eqActS_calls xs[k] _ _ _ _ _ S S2 (Row.drewN hr1 1) (Row.drewN hr2 1)).mono ?_; rintro e w1 ⟨rfl, hb1⟩; have y0 := (hb1.cell (p := (ad.add k)) (by first | exact hl1 | (rw [block_add]; exact hl1) | (show (Addr.block _) < _; rw [block_add]; exact hl1))).trans p0; have y1 := (hb1.cell (p := (ae.add k)) (by first | exact hl2 | (rw [block_add]; exact hl2) | (show (Addr.block _) < _; rw [block_add]; exact hl2))).trans q0))
      all_goals
        go_wp2
        go_roundw
        case rel => exact ⟨k + 1, by omega, by go_num, below_then hbr hbr.size (Below.trans (Below.drew (Below.refl _ _)) hb1)⟩
        case measure => simp [intOf]; omega
    · go_wp2
      go_ret
      exact ⟨rfl, hbr⟩
set_option maxHeartbeats 1000000 in
theorem eqProg_calls (p : Prog) (A B A2 B2 : Option Addr) (c d c2 d2 : Nat) (w : World) (S S2 : Nat → Prop) (hA : Row Kd.int w S A p.cells) (hA2 : Row Kd.int w S2 A2 p.cells) (hB : Row (Kd.slice kAct) w S B p.bodies) (hB2 : Row (Kd.slice kAct) w S2 B2 p.bodies) :
    Calls Try.prog 28 #[.agg #[.slice A p.cells.length c, .slice B p.bodies.length d], .agg #[.slice A2 p.cells.length c2, .slice B2 p.bodies.length d2]] w fun e w' => e = .returned (.bool true) ∧ Below w.heap.size w w' := by
  have hb := fun o1 o2 => bal2' w o1 o2
  have HA := fun o1 o2 => Lib.hid (hA.belowAll (hb o1 o2))
  have HA2 := fun o1 o2 => Lib.hid (hA2.belowAll (hb o1 o2))
  have HB := fun o1 o2 => Lib.hid (hB.belowAll (hb o1 o2))
  have HB2 := fun o1 o2 => Lib.hid (hB2.belowAll (hb o1 o2))
  have hx1 := fun o1 o2 => World.alloc2_first w o1 o2
  clear hA hA2 hB hB2
  go_enter Try.func28, Try.ntmps28
  go_wp2_with (first | (go_at_call 27; refine (eqIntS_calls p.cells p.cells _ _ _ _ _ S S2 (HA _ _).out (HA2 _ _).out).mono ?_; rintro e w1 ⟨rfl, hb1⟩; have z1 := hb1.size; (try simp at z1); have f1 := (hb1.block w.heap.size (by simp; omega)).trans (hx1 _ _); have f2 := (hb1.block (w.heap.size + 1) (by simp)).trans (heap_new2' w _ _); have g1 := cell_of_row _ _ 1 _ _ _ f1; have g3 := cell_of_row _ _ 1 _ _ _ f2; simp at g1 g3; have hE : decide (p.cells = p.cells) = true := decide_eq_true rfl; rw [hE]) | (go_at_call 58; refine (eqActSS_calls p.bodies _ _ _ _ _ S S2 ((HB _ _).out.belowAll hb1) ((HB2 _ _).out.belowAll hb1)).mono ?_; rintro e w2 ⟨rfl, hb2⟩))
  go_ret
  exact ⟨rfl, below_then (below_then (hb _ _) (by simp; omega) hb1) (by omega) hb2⟩
end Go.Proofs.Ytcpabkfoalhldaa
namespace Go.Proofs.Ytcpabkfoalhldaa
open Go.RowKit
set_option linter.unusedVariables false
set_option linter.unusedSimpArgs false

/-- A reader at block g, with f picks left at least; its bytes are read from S alone. -/
structure RdAt (w : World) (g : Nat) (S : Nat → Prop) (A : Option Addr) (c : Nat) (bs : List Int) (f : Nat) : Prop where
  st : ∃ p : Nat, w.heap[g]? = some (.cells #[.slice A bs.length c, .int .i64 (p : Nat)] 91 (0, 0)) ∧ p + f ≤ 1099511627776
  row : Row Kd.byte w S A bs
  ne : ∀ k, S k → k < g
  len : bs.length ≤ 2000
section
variable {w w' : World} {g : Nat} {S : Nat → Prop} {A : Option Addr} {c : Nat} {bs : List Int} {f : Nat}
theorem RdAt.lt (h : RdAt w g S A c bs f) : g < w.heap.size := by
  obtain ⟨p, hb, _⟩ := h.st
  exact (Array.getElem?_eq_some_iff.1 hb).1
theorem RdAt.keep {T : Nat → Prop} (h : RdAt w g S A c bs f) (hk : Keep T w w') (hg : ¬ T g) (hS : ∀ k, S k → k < w.heap.size → ¬ T k) : RdAt w' g S A c bs f := by
  obtain ⟨p, hb, hp⟩ := h.st
  exact ⟨⟨p, hk.blk hb hg, hp⟩, h.row.keep hk hS, h.ne, h.len⟩
theorem RdAt.below (h : RdAt w g S A c bs f) (hb : Below w.heap.size w w') : RdAt w' g S A c bs f := h.keep (Keep.of_belowAll (fun _ => False) hb) (fun h => h) (fun _ _ _ h => h)
theorem RdAt.set (h : RdAt w g S A c bs f) {p : Addr} (hp : g < p.block) (u : Value) : RdAt (w.setCell p u) g S A c bs f :=
  h.keep (T := fun k => k = p.block) (Keep.setCell (T := fun k => k = p.block) (p := p) (Keep.refl _ _) (fun _ => rfl) u) (by omega) (fun k hs _ e => by have := h.ne k hs; omega)
theorem RdAt.less (h : RdAt w g S A c bs f) {f' : Nat} (hf : f' ≤ f) : RdAt w g S A c bs f' := by
  obtain ⟨p, hb, hp⟩ := h.st
  exact ⟨⟨p, hb, by omega⟩, h.row, h.ne, h.len⟩
end
theorem at_byte {w : World} {S : Nat → Prop} {A : Option Addr} {xs : List Int} {j : Nat} (h : Row Kd.byte w S A xs) (hj : j < xs.length) : ∃ ad, A = some ad ∧ S ad.block ∧ ad.block < w.heap.size ∧ w.cell? (ad.add j) = some (.int .u8 xs[j]) ∧ 0 ≤ xs[j] ∧ xs[j] ≤ 255 := by
  obtain ⟨ad, c, rfl, hs, hl, ⟨rfl, hk⟩, hc⟩ := h.get hj
  refine ⟨ad, rfl, hs, hl, ?_, hk⟩
  have := hc 0 _ rfl
  have e : Kd.byte.sz = 1 := rfl
  simpa [e] using this

/-- What a pick leaves. -/
def Picked (n : Int) (w : World) (g : Nat) (S : Nat → Prop) (A : Option Addr) (c : Nat) (bs : List Int) (f : Nat) (e : Ending) (w' : World) : Prop :=
  ∃ x : Int, e = .returned (.int .i64 x) ∧ 0 ≤ x ∧ (x < n ∨ x = 0) ∧ RdAt w' g S A c bs f ∧ Keep (fun k => k = g) w w'

theorem xor_small (x : Nat) (hx : x < 9223372036854775808) : ∃ y : Nat, bits .xor .i64 (x : Int) ((x / 64 : Nat) : Int) = (y : Int) ∧ y < 9223372036854775808 := by
  have hz : x / 64 < 9223372036854775808 := by omega
  have h1 : x ^^^ (x / 64) < 2 ^ 63 := Nat.xor_lt_two_pow (by omega) (by omega)
  refine ⟨x ^^^ (x / 64), ?_, by omega⟩
  have o : ∀ a : Nat, a < 9223372036854775808 → (BitVec.ofInt 64 (a : Int)).toNat = a := fun a ha => by
    rw [BitVec.ofInt_natCast, BitVec.toNat_ofNat]; exact Nat.mod_eq_of_lt (by omega)
  show IntKind.i64.wrap ((BitVec.ofInt 64 (x : Int) ^^^ BitVec.ofInt 64 ((x / 64 : Nat) : Int)).toNat : Int) = _
  rw [BitVec.toNat_xor, o x hx, o _ hz, IntKind.wrap_i64]
  omega

set_option maxHeartbeats 4000000 in
set_option maxRecDepth 100000 in
theorem pick_calls (n : Int) (w : World) (g : Nat) (S : Nat → Prop) (A : Option Addr) (c : Nat) (bs : List Int) (f : Nat) (h : RdAt w g S A c bs (f + 1)) (hn : n ≤ 9223372036854775807) :
    Calls Try.prog 49 #[.pointer (some ⟨g, 0, none⟩), .int .i64 n] w (Picked n w g S A c bs f) := by
  obtain ⟨p, hb, hp⟩ := h.st
  have hlen := h.len
  have c0 : w.cell? ⟨g, 0, none⟩ = some (.slice A bs.length c) := by rw [cell_of_row w g 0 _ _ _ hb]; rfl
  have c1 : w.cell? ⟨g, 1, none⟩ = some (.int .i64 (p : Nat)) := by rw [cell_of_row w g 1 _ _ _ hb]; rfl
  have f1 : w.frozen? ⟨g, 1, none⟩ = false := by simp [World.frozen?, hb]
  have hk1 : Keep (fun k => k = g) w (w.setCell ⟨g, 1, none⟩ (.int .i64 ((p : Int) + 1))) := Keep.setCell (T := fun k => k = g) (p := ⟨g, 1, none⟩) (Keep.refl _ _) (fun _ => rfl) _
  have hr1 : RdAt (w.setCell ⟨g, 1, none⟩ (.int .i64 ((p : Int) + 1))) g S A c bs f := by
    refine ⟨⟨p + 1, ?_, by omega⟩, h.row.keep hk1 (fun k hs _ => Nat.ne_of_lt (h.ne k hs)), h.ne, hlen⟩
    simp [World.setCell, Array.getElem?_modify, hb]
  have hrow := hr1.row
  have hgl := h.lt
  by_cases h1 : n < 1
  · go_enter Try.func49, Try.ntmps49
    go_wp2
    go_ret
    exact ⟨0, rfl, by omega, .inr rfl, hr1, hk1⟩
  · by_cases h0 : bs.length = 0
    · rw [h0] at c0
      go_enter Try.func49, Try.ntmps49
      go_wp2
      go_ret
      exact ⟨0, rfl, by omega, .inr rfl, hr1, hk1⟩
    · have h0b : ((bs.length : Int) == 0) = false := beq_eq_false_iff_ne.2 (by omega)
      by_cases hlt : p < bs.length
      · obtain ⟨ad, rfl, hs, hl, hc, hx1, hx2⟩ := at_byte hrow hlt
        have hne := Nat.ne_of_lt (h.ne _ hs)
        have hcw : w.cell? (ad.add p) = some (.int .u8 bs[p]) := by
          rw [← hc]; exact (World.cell?_of_block (Below.heap_setCell w _ _ _ (by rw [block_add]; exact hne))).symm
        have hmod : bs[p] % n < n := Int.emod_lt_of_pos _ (show 0 < n by omega)
        have hmod0 : 0 ≤ bs[p] % n := Int.emod_nonneg _ (show n ≠ 0 by omega)
        go_enter Try.func49, Try.ntmps49
        go_wp2
        go_ret
        exact ⟨_, rfl, hmod0, .inl hmod, hr1, hk1⟩
      · have hL : 0 < bs.length := by omega
        obtain ⟨i1, hi1⟩ : ∃ i, i = p % bs.length := ⟨_, rfl⟩
        obtain ⟨i2, hi2⟩ : ∃ i, i = (p * 7 + 3) % bs.length := ⟨_, rfl⟩
        obtain ⟨q1, hq1⟩ : ∃ q, q = p / bs.length := ⟨_, rfl⟩
        have hl1 : i1 < bs.length := by rw [hi1]; exact Nat.mod_lt _ hL
        have hl2 : i2 < bs.length := by rw [hi2]; exact Nat.mod_lt _ hL
        have hq2 : q1 ≤ p := by rw [hq1]; exact Nat.div_le_self _ _
        obtain ⟨ad, rfl, hs, hl, hc, hx1, hx2⟩ := at_byte hrow hl1
        obtain ⟨ad', hade, _, _, hc', hy1, hy2⟩ := at_byte hrow hl2
        injection hade with hade
        subst hade
        have hne := Nat.ne_of_lt (h.ne _ hs)
        obtain ⟨b1, hb1⟩ : ∃ b, b = bs[i1] := ⟨_, rfl⟩
        obtain ⟨b2, hb2⟩ : ∃ b, b = bs[i2] := ⟨_, rfl⟩
        rw [← hb1] at hc hx1 hx2
        rw [← hb2] at hc' hy1 hy2
        have hm1 : (p : Int).tmod (bs.length : Int) = ((i1 : Nat) : Int) := by rw [Int.tmod_eq_emod_of_nonneg (by omega), hi1]; simp
        have hm2 : ((p : Int) * 7 + 3).tmod (bs.length : Int) = ((i2 : Nat) : Int) := by rw [Int.tmod_eq_emod_of_nonneg (by omega), hi2]; simp
        have hm3 : (p : Int).tdiv (bs.length : Int) = ((q1 : Nat) : Int) := by rw [Int.tdiv_eq_ediv_of_nonneg (by omega), hq1]; simp
        have l1 : (i1 : Int) < bs.length := by omega
        have l2 : (i2 : Int) < bs.length := by omega
        have l3 : (0 : Int) ≤ i1 := by omega
        have l4 : (0 : Int) ≤ i2 := by omega
        have l5 : (bs.length : Int) ≠ 0 := by omega
        have l6 : ((bs.length : Int) == 0) = false := beq_eq_false_iff_ne.2 l5
        have w1 : IntKind.i64.wrap ((p : Int) * 7) = (p : Int) * 7 := IntWalk.i64_in _ (by omega)
        have w2 : IntKind.i64.wrap ((p : Int) * 7 + 3) = (p : Int) * 7 + 3 := IntWalk.i64_in _ (by omega)
        have w3 : IntKind.i64.wrap b1 = b1 := IntWalk.i64_in _ (by omega)
        have w4 : IntKind.i64.wrap b2 = b2 := IntWalk.i64_in _ (by omega)
        have w5 : IntKind.i64.wrap (b1 * 131) = b1 * 131 := IntWalk.i64_in _ (by omega)
        have w6 : IntKind.i64.wrap (b2 * 1117) = b2 * 1117 := IntWalk.i64_in _ (by omega)
        have w7 : IntKind.i64.wrap (b1 * 131 + b2 * 1117) = b1 * 131 + b2 * 1117 := IntWalk.i64_in _ (by omega)
        have w8 : IntKind.i64.wrap ((p : Int) * 29) = (p : Int) * 29 := IntWalk.i64_in _ (by omega)
        have w9 : IntKind.i64.wrap (b1 * 131 + b2 * 1117 + (p : Int) * 29) = b1 * 131 + b2 * 1117 + (p : Int) * 29 := IntWalk.i64_in _ (by omega)
        have w10 : IntKind.i64.wrap ((q1 : Int) * 53) = (q1 : Int) * 53 := IntWalk.i64_in _ (by omega)
        have w11 : IntKind.i64.wrap (b1 * 131 + b2 * 1117 + (p : Int) * 29 + (q1 : Int) * 53) = b1 * 131 + b2 * 1117 + (p : Int) * 29 + (q1 : Int) * 53 := IntWalk.i64_in _ (by omega)
        clear hi1 hi2 hq1 hb1 hb2
        go_enter Try.func49, Try.ntmps49
        go_wp2
        obtain ⟨W2, HW⟩ : ∃ W2, W2 = w.setCell ⟨g, 1, none⟩ (.int .i64 ((p : Int) + 1)) := ⟨_, rfl⟩
        have z0 : W2.cell? ⟨g, 0, none⟩ = some (.slice (some ad) bs.length c) := by
          rw [HW, World.cell?_setCell_other _ _ _ _ (by simp)]; exact c0
        have z1 := hc
        have z2 := hc'
        rw [← HW] at z1 z2 hr1 hk1 ⊢
        clear HW hc hc' c0 c1 f1
        go_quiet (fail)
        obtain ⟨X, hX⟩ : ∃ X : Nat, b1 * 131 + b2 * 1117 + (p : Int) * 29 + (q1 : Int) * 53 = (X : Int) := ⟨(b1 * 131 + b2 * 1117 + (p : Int) * 29 + (q1 : Int) * 53).toNat, by omega⟩
        have hXb : X < 9223372036854775808 := by omega
        rw [hX]
        clear w1 w2 w3 w4 w5 w6 w7 w8 w9 w10 w11 hX hm1 hm2 hm3
        obtain ⟨Y, hY, hYb⟩ := xor_small X hXb
        have hY2 : bits .xor .i64 (X : Int) ((X : Int) / 64) = (Y : Int) := by rw [← hY]; simp
        clear hY
        have hmod : (Y : Int) % n < n := Int.emod_lt_of_pos _ (show 0 < n by omega)
        have hmod0 : 0 ≤ (Y : Int) % n := Int.emod_nonneg _ (show n ≠ 0 by omega)
        go_wp2
        go_ret
        exact ⟨_, rfl, hmod0, .inl hmod, hr1.below (below_drewN' (Below.refl _ _) _), hk1.drewN _⟩
/-- A step of a region, its frame's shape told. -/
theorem step_fold {P : Program} {ops : Array Oper} {o : Oper} {a : Go.Act} {K : Go.Act → World → Prop} {Q : Exit → Go.Act → World → Prop} {w : World} {E : Prop} (h : if Region.wanted o (yielded ops a.tmps) = true then Oper.wp P o a w K Q else E) : if Region.wanted o (yielded ops a.tmps) = true then Oper.wp P o a w K Q else E := h
end Go.Proofs.Ytcpabkfoalhldaa
namespace Go.Proofs.Ytcpabkfoalhldaa
open Go.RowKit
set_option linter.unusedVariables false
set_option linter.unusedSimpArgs false

theorem Row.take {α : Type} {d : Kd α} {w : World} {S : Nat → Prop} {A : Option Addr} {xs : List α} (h : Row d w S A xs) (n : Nat) : Row d w S A (xs.take n) := by
  refine ⟨by have := h.1; rw [List.length_take]; omega, fun hn => ?_⟩
  obtain ⟨ad, e, hs, hl, hc⟩ := h.2 (by rintro rfl; simp at hn)
  refine ⟨ad, e, hs, hl, fun j x hj => hc j x ?_⟩
  rw [List.getElem?_take] at hj
  split at hj
  · exact hj
  · cases hj

/-- A reader in new memory. -/
def Opened (w : World) (S : Nat → Prop) (e : Ending) (w' : World) : Prop :=
  ∃ (g : Nat) (A : Option Addr) (c : Nat) (bs : List Int), e = .returned (.pointer (some ⟨g, 0, none⟩)) ∧ RdAt w' g S A c bs 1099511627776 ∧ w.heap.size ≤ g ∧ Below w.heap.size w w'
set_option maxHeartbeats 1000000 in
set_option maxRecDepth 100000 in
theorem l6Open_calls (bs : List Int) (A : Option Addr) (c : Nat) (w : World) (S : Nat → Prop) (hr : Row Kd.byte w S A bs) (hS : ∀ k, S k → k < w.heap.size) (hc : bs.length ≤ c) :
    Calls Try.prog 48 #[.slice A bs.length c] w (Opened w S) := by
  have hm := hr.1
  have mk : ∀ (ys : List Int), Row Kd.byte w S A ys → ys.length ≤ 2000 → Opened w S (.returned (.pointer (some ⟨w.heap.size, 0, none⟩))) (w.alloc (.cells #[.slice A ys.length c, .int .i64 0] 91)) := by
    intro ys hy hl
    have hb : Below w.heap.size w (w.alloc (.cells #[.slice A ys.length c, .int .i64 0] 91)) := (by repeat (first | exact Below.refl _ _ | (refine Below.alloc ?_ (by simp) _) | (refine Below.setCell ?_ (by simp) _) | (refine below_drewN' ?_ _) | (refine Below.drew ?_)))
    exact ⟨w.heap.size, A, c, ys, rfl, ⟨⟨0, heap_alloc_new w _, by omega⟩, hy.belowAll hb, fun k hk => hS k hk, hl⟩, Nat.le_refl _, hb⟩
  by_cases h : bs.length ≤ 2000
  · have mk1 := mk bs hr h
    have HM := Lib.hid mk1
    clear mk mk1
    go_enter Try.func48, Try.ntmps48
    go_wp2
    go_ret
    exact HM.out
  · have h2 : 2000 < bs.length := by omega
    have mk1 := mk (bs.take 2000) (hr.take _) (by rw [List.length_take]; omega)
    rw [List.length_take, Nat.min_eq_left (by omega)] at mk1
    have HM := Lib.hid mk1
    have hc2 : 2000 ≤ c := by omega
    clear mk mk1
    go_enter Try.func48, Try.ntmps48
    go_wp2
    go_ret
    exact HM.out

theorem frozen_of_row {w : World} {b : Nat} {cs : Array Value} {t : TypeId} (h : w.heap[b]? = some (.cells cs t (0, 0))) (i : Nat) : w.frozen? ⟨b, i, none⟩ = false := by simp [World.frozen?, h]
/-- What a draw leaves: a value, and the reader, further on. -/
def Drew (R : Value → World → Prop) (w : World) (g : Nat) (S : Nat → Prop) (A : Option Addr) (c : Nat) (bs : List Int) (f : Nat) (e : Ending) (w' : World) : Prop :=
  ∃ v, e = .returned v ∧ R v w' ∧ RdAt w' g S A c bs f ∧ Keep (fun k => k = g) w w'
def isDeed (v : Value) : Prop := ∃ d : Deed, v = .agg #[.int .i64 d.kind, .int .i64 d.a, .int .i64 d.b] ∧ i64 d.kind ∧ i64 d.a ∧ i64 d.b
theorem isDeed_mk {k a b : Int} (hk : i64 k) (ha : i64 a) (hb : i64 b) : isDeed (.agg #[.int .i64 k, .int .i64 a, .int .i64 b]) := ⟨⟨k, a, b⟩, rfl, hk, ha, hb⟩

set_option maxHeartbeats 4000000 in
set_option maxRecDepth 100000 in
theorem l71Deed_calls (cells : Int) (w : World) (g : Nat) (S : Nat → Prop) (A : Option Addr) (c : Nat) (bs : List Int) (f : Nat) (hR : RdAt w g S A c bs (f + 3)) (h0 : 0 ≤ cells) (hc : cells ≤ 1000) :
    Calls Try.prog 102 #[.pointer (some ⟨g, 0, none⟩), .int .i64 cells] w (Drew (fun v _ => isDeed v) w g S A c bs f) := by
  have hgl := hR.lt
  have hwz : w.heap.size = w.heap.size := rfl
  by_cases hz : cells = 0
  · subst hz
    have hgne : ¬ w.heap.size = g := by omega
    have hRo := fun o => hR.below (w' := w.alloc o) (by repeat (first | exact Below.refl _ _ | (refine Below.alloc ?_ (by simp) _) | (refine Below.setCell ?_ (by simp) _) | (refine below_drewN' ?_ _) | (refine Below.drew ?_)))
    clear hR
    go_enter Try.func102, Try.ntmps102
    go_wp2_with (first | (go_at_call 49; refine (pick_calls _ _ _ _ _ _ _ _ hR1 (by omega)).mono ?_; rintro e w2 ⟨y, rfl, hy0, hy1, hR2, hk⟩; have hT2 := hk.blk hT1 hgne; have hK2 := Keep.trans hK1 hk; have hq0 := cell_of_row _ _ 0 _ _ _ hT2; have hq1 := cell_of_row _ _ 1 _ _ _ hT2; have hq2 := cell_of_row _ _ 2 _ _ _ hT2; have hq3 := frozen_of_row hT2; simp at hq0 hq1 hq2; clear hk hT1 hK1 hR1) | (go_at_call 49; refine (pick_calls _ _ _ _ _ _ _ _ (hRo _) (by omega)).mono ?_; rintro e w1 ⟨x, rfl, hx0, hx1, hR1, hk⟩; have hT1 := hk.blk (heap_alloc_new w _) hgne; have hK1 := Keep.trans (Keep.alloc (Keep.refl (fun k => k = g) w) _) hk; clear hk hRo))
    exact bodyPost_ret (v := .agg #[.int .i64 3, .int .i64 x, .int .i64 y]) (by simp [results, Try.results102, go_sem, hq0, hq1, hq2, hq3]) rfl ⟨_, rfl, isDeed_mk (by unfold i64; omega) (by unfold i64; omega) (by unfold i64; omega), (((hR2.set hgl _).set hgl _).set hgl _).less (by omega), ((hK2.setCell (fun h => absurd h (Nat.lt_irrefl _)) _).setCell (fun h => absurd h (Nat.lt_irrefl _)) _).setCell (fun h => absurd h (Nat.lt_irrefl _)) _⟩
  · have hgne : ¬ w.heap.size = g := by omega
    have hRo := fun o => hR.below (w' := w.alloc o) (by repeat (first | exact Below.refl _ _ | (refine Below.alloc ?_ (by simp) _) | (refine Below.setCell ?_ (by simp) _) | (refine below_drewN' ?_ _) | (refine Below.drew ?_)))
    clear hR
    go_enter Try.func102, Try.ntmps102
    go_wp2_with (first | (go_at_call 49; refine (pick_calls _ _ _ _ _ _ _ _ hR2 (by omega)).mono ?_; rintro e w3 ⟨z, rfl, hz0, hz1, hR3, hk⟩; have hT3 := hk.blk hT2 hgne; have hK3 := Keep.trans hK2 hk; have hq0 := cell_of_row _ _ 0 _ _ _ hT3; have hq1 := cell_of_row _ _ 1 _ _ _ hT3; have hq2 := cell_of_row _ _ 2 _ _ _ hT3; have hq3 := frozen_of_row hT3; simp at hq0 hq1 hq2; clear hk hT2 hK2 hR2) | (go_at_call 49; refine (pick_calls _ _ _ _ _ _ _ _ hR1 (by omega)).mono ?_; rintro e w2 ⟨y, rfl, hy0, hy1, hR2, hk⟩; have hT2 := hk.blk hT1 hgne; have hK2 := Keep.trans hK1 hk; have hq0 := cell_of_row _ _ 0 _ _ _ hT2; have hq1 := cell_of_row _ _ 1 _ _ _ hT2; have hq2 := cell_of_row _ _ 2 _ _ _ hT2; have hq3 := frozen_of_row hT2; simp at hq0 hq1 hq2; clear hk hT1 hK1 hR1) | (go_at_call 49; refine (pick_calls _ _ _ _ _ _ _ _ (hRo _) (by omega)).mono ?_; rintro e w1 ⟨x, rfl, hx0, hx1, hR1, hk⟩; have hT1 := hk.blk (heap_alloc_new w _) hgne; have hK1 := Keep.trans (Keep.alloc (Keep.refl (fun k => k = g) w) _) hk; clear hk hRo))
    all_goals first | (refine bodyPost_ret (v := .agg #[.int .i64 1, .int .i64 y, .int .i64 z]) ?_ rfl ⟨_, rfl, isDeed_mk (by unfold i64; omega) (by unfold i64; omega) (by unfold i64; omega), (((hR3.set hgl _).set hgl _).set hgl _).less (by omega), ((hK3.setCell (fun h => absurd h (Nat.lt_irrefl _)) _).setCell (fun h => absurd h (Nat.lt_irrefl _)) _).setCell (fun h => absurd h (Nat.lt_irrefl _)) _⟩; simp [results, Try.results102, go_sem, hq0, hq1, hq2, hq3]; done) | (refine bodyPost_ret (v := .agg #[.int .i64 2, .int .i64 y, .int .i64 z]) ?_ rfl ⟨_, rfl, isDeed_mk (by unfold i64; omega) (by unfold i64; omega) (by unfold i64; omega), (((hR3.set hgl _).set hgl _).set hgl _).less (by omega), ((hK3.setCell (fun h => absurd h (Nat.lt_irrefl _)) _).setCell (fun h => absurd h (Nat.lt_irrefl _)) _).setCell (fun h => absurd h (Nat.lt_irrefl _)) _⟩; simp [results, Try.results102, go_sem, hq0, hq1, hq2, hq3]; done) | (refine bodyPost_ret (v := .agg #[.int .i64 3, .int .i64 y, .int .i64 z]) ?_ rfl ⟨_, rfl, isDeed_mk (by unfold i64; omega) (by unfold i64; omega) (by unfold i64; omega), (((hR3.set hgl _).set hgl _).set hgl _).less (by omega), ((hK3.setCell (fun h => absurd h (Nat.lt_irrefl _)) _).setCell (fun h => absurd h (Nat.lt_irrefl _)) _).setCell (fun h => absurd h (Nat.lt_irrefl _)) _⟩; simp [results, Try.results102, go_sem, hq0, hq1, hq2, hq3]; done) | (refine bodyPost_ret (v := .agg #[.int .i64 4, .int .i64 y, .int .i64 z]) ?_ rfl ⟨_, rfl, isDeed_mk (by unfold i64; omega) (by unfold i64; omega) (by unfold i64; omega), (((hR3.set hgl _).set hgl _).set hgl _).less (by omega), ((hK3.setCell (fun h => absurd h (Nat.lt_irrefl _)) _).setCell (fun h => absurd h (Nat.lt_irrefl _)) _).setCell (fun h => absurd h (Nat.lt_irrefl _)) _⟩; simp [results, Try.results102, go_sem, hq0, hq1, hq2, hq3]; done) | (refine bodyPost_ret (v := .agg #[.int .i64 5, .int .i64 y, .int .i64 0]) ?_ rfl ⟨_, rfl, isDeed_mk (by unfold i64; omega) (by unfold i64; omega) (by unfold i64; omega), (((hR2.set hgl _).set hgl _).set hgl _).less (by omega), ((hK2.setCell (fun h => absurd h (Nat.lt_irrefl _)) _).setCell (fun h => absurd h (Nat.lt_irrefl _)) _).setCell (fun h => absurd h (Nat.lt_irrefl _)) _⟩; simp [results, Try.results102, go_sem, hq0, hq1, hq2, hq3]; done)
end Go.Proofs.Ytcpabkfoalhldaa
namespace Go.Proofs.Ytcpabkfoalhldaa
open Go.RowKit
set_option linter.unusedVariables false
set_option linter.unusedSimpArgs false

theorem infoDeed : (Try.prog.info? 63).map (fun i => (i.zero, i.size, i.bytes)) = some (some (.agg #[.int .i64 0, .int .i64 0, .int .i64 0]), 3, 24) := by kernel_rfl
theorem infoAct : (Try.prog.info? 35).map (fun i => (i.zero, i.size, i.bytes)) = some (some (.agg #[.int .i64 0, .slice none 0 0, .slice none 0 0, .int .i64 0]), 4, 64) := by kernel_rfl
theorem infoActS : (Try.prog.info? 32).map (fun i => (i.zero, i.size, i.bytes)) = some (some (.slice none 0 0), 1, 24) := by kernel_rfl

/-- A row, at most M long, in new memory. -/
def newRow {α : Type} (d : Kd α) (M B : Nat) (v : Value) (w' : World) : Prop := ∃ (xs : List α) (A : Option Addr) (c : Nat), v = .slice A xs.length c ∧ xs.length ≤ c ∧ xs.length ≤ M ∧ Row d w' (fun k => B ≤ k) A xs

/-- A row laid in a new block. -/
theorem Row.laid {α : Type} {d : Kd α} {e : Nat} {w : World} {S : Nat → Prop} {xs : List α} (cs : Array Value) (hs : S w.heap.size) (hm : xs.length ≤ 9223372036854775807)
    (h : ∀ j x, xs[j]? = some x → ∃ c, d.K w S x c ∧ ∀ i u, c[i]? = some u → cs[j * d.sz + i]? = some u) : Row d (w.alloc (.cells cs e)) S (some ⟨w.heap.size, 0, none⟩) xs := by
  refine ⟨hm, fun _ => ⟨_, rfl, hs, by simp, fun j x hj => ?_⟩⟩
  obtain ⟨c, hk, hc⟩ := h j x hj
  refine ⟨c, Kd.belowAll hk ((Below.refl _ _).alloc (Nat.le_refl _) _), fun i u hu => ?_⟩
  have := World.news_of_block (w := w.alloc (.cells cs e)) (B := w.heap.size) (cs := cs) (t := e) (fr := (0, 0)) (heap_alloc_new w _) (j * d.sz + i) u (by simpa using hc i u hu)
  exact this
theorem isDeed_K {w : World} {S : Nat → Prop} (d : Deed) (h : i64 d.kind ∧ i64 d.a ∧ i64 d.b) : kDeed.K w S d [.int .i64 d.kind, .int .i64 d.a, .int .i64 d.b] := kDeed_mk w S d h.1 h.2.1 h.2.2
theorem four_deeds (w : World) (S : Nat → Prop) (hs : S w.heap.size) (e : Nat) (c y : Int) (hc : i64 c) (hy : i64 y) :
    Row kDeed (w.alloc (.cells #[.int .i64 1, .int .i64 0, .int .i64 c, .int .i64 3, .int .i64 1, .int .i64 y, .int .i64 4, .int .i64 0, .int .i64 1, .int .i64 2, .int .i64 c, .int .i64 0] e)) S (some ⟨w.heap.size, 0, none⟩) [⟨1, 0, c⟩, ⟨3, 1, y⟩, ⟨4, 0, 1⟩, ⟨2, c, 0⟩] := by
  have z : ∀ n : Int, 0 ≤ n → n ≤ 10 → i64 n := fun n h1 h2 => by unfold i64; omega
  refine Row.laid _ hs (by simp) fun j x hj => ?_
  match j with
  | 0 => injection hj with hj; subst hj; refine ⟨_, isDeed_K _ ⟨z _ (by simp) (by simp), z _ (by simp) (by simp), hc⟩, fun i u hu => ?_⟩; match i with | 0 | 1 | 2 => exact hu | i + 3 => simp at hu
  | 1 => injection hj with hj; subst hj; refine ⟨_, isDeed_K _ ⟨z _ (by simp) (by simp), z _ (by simp) (by simp), hy⟩, fun i u hu => ?_⟩; match i with | 0 | 1 | 2 => exact hu | i + 3 => simp at hu
  | 2 => injection hj with hj; subst hj; refine ⟨_, isDeed_K _ ⟨z _ (by simp) (by simp), z _ (by simp) (by simp), z _ (by simp) (by simp)⟩, fun i u hu => ?_⟩; match i with | 0 | 1 | 2 => exact hu | i + 3 => simp at hu
  | 3 => injection hj with hj; subst hj; refine ⟨_, isDeed_K _ ⟨z _ (by simp) (by simp), hc, z _ (by simp) (by simp)⟩, fun i u hu => ?_⟩; match i with | 0 | 1 | 2 => exact hu | i + 3 => simp at hu
  | j + 4 => simp at hj

/-- A row that the call makes, as it grows: one appended. -/
theorem Own.snoc {α : Type} {d : Kd α} {e : Nat} {w w' : World} {B : Nat} {v' : Value} {xs : List α} {S2 : Nat → Prop} {x : α} (h : Own d e w' B (fun k => B ≤ k ∨ S2 k ∨ k = w.heap.size) v' (xs ++ [x])) (h2 : ∀ k, S2 k → B ≤ k) (hb : B ≤ w.heap.size) : Own d e w' B (fun k => B ≤ k) v' (xs ++ [x]) :=
  h.mono fun k hk => by
    rcases hk with hk | hk | hk
    · exact hk
    · exact h2 k hk
    · omega
theorem Keep.app {T : Nat → Prop} {w w1 w2 : World} {v : Value} (h : Keep T w w1) (hg : w1.grownBy w2 v.ownBlock) (hv : ∀ k, v.ownBlock = some k → w.heap.size ≤ k) : Keep T w w2 :=
  h.then_ (T' := fun k => v.ownBlock = some k) (Keep.of_grown hg fun k hk => hk) fun i hi hk => by have := hv i hk; omega
theorem RdAt.app {w1 w2 : World} {g : Nat} {S : Nat → Prop} {A : Option Addr} {c : Nat} {bs : List Int} {f : Nat} {v : Value} (h : RdAt w1 g S A c bs f) (hg : w1.grownBy w2 v.ownBlock) (hv : ∀ k, v.ownBlock = some k → g < k) : RdAt w2 g S A c bs f :=
  h.keep (T := fun k => v.ownBlock = some k) (Keep.of_grown hg fun k hk => hk) (fun hk => by have := hv g hk; omega) (fun k hs _ hk => by have := hv k hk; have := h.ne k hs; omega)
theorem Own.above {α : Type} {d : Kd α} {e : Nat} {w : World} {B : Nat} {S : Nat → Prop} {v : Value} {xs : List α} (h : Own d e w B S v xs) : ∀ k, v.ownBlock = some k → B ≤ k := fun k hk => (h.blk k hk).1
theorem Own.newRow {α : Type} {d : Kd α} {e : Nat} {w : World} {B M : Nat} {v : Value} {xs : List α} (h : Own d e w B (fun k => B ≤ k) v xs) (hm : xs.length ≤ M) : newRow d M B v w := by
  obtain ⟨A, c, rfl, hc, hr⟩ := h.row
  exact ⟨xs, A, c, rfl, hc, hm, hr⟩
theorem below_g {w w' : World} {g : Nat} {T : Nat → Prop} (h : Keep T w w') (hg : g < w.heap.size) : g < w'.heap.size := Nat.lt_of_lt_of_le hg h.size

set_option maxHeartbeats 4000000 in
set_option maxRecDepth 100000 in
theorem l71Deeds_calls (cells : Int) (w : World) (g : Nat) (S : Nat → Prop) (A : Option Addr) (c : Nat) (bs : List Int) (f : Nat) (hR : RdAt w g S A c bs (f + 20)) (h0 : 1 ≤ cells) (hc : cells ≤ 1000) :
    Calls Try.prog 79 #[.pointer (some ⟨g, 0, none⟩), .int .i64 cells] w (Drew (newRow kDeed 5 w.heap.size) w g S A c bs f) := by
  have hgl := hR.lt
  have hd : decide ((0 : Int) < cells) = true := decide_eq_true (by omega)
  go_enter Try.func79, Try.ntmps79
  go_wp2_with (first | (go_at_call 49; refine (pick_calls _ _ _ _ _ _ _ _ hR (by omega)).mono ?_; rintro e w1 ⟨x, rfl, hx0, hx1, hR1, hk1⟩; clear hR) | (go_at_call 49; refine (pick_calls _ _ _ _ _ _ _ _ hR1 (by omega)).mono ?_; rintro e w2 ⟨y, rfl, hy0, hy1, hR2, hk⟩; have hk2 := Keep.trans hk1 hk; clear hk hR1) | (go_at_call 49; refine (pick_calls _ _ _ _ _ _ _ _ hR2 (by omega)).mono ?_; rintro e w3 ⟨z, rfl, hz0, hz1, hR3, hk⟩; have hk3 := Keep.trans hk2 hk; clear hk hR2) | (go_at_call 49; refine (pick_calls _ _ _ _ _ _ _ _ (hR1.below (w' := w1.alloc _) (by repeat (first | exact Below.refl _ _ | (refine Below.alloc ?_ (by simp) _) | (refine Below.setCell ?_ (by simp) _) | (refine below_drewN' ?_ _) | (refine Below.drew ?_)))) (by omega)).mono ?_; rintro e w2 ⟨n, rfl, hn0, hn1, hR2, hk⟩; have ho2 := Own.step (Own.empty_ kDeed 63 w1 w.heap.size (fun k => w.heap.size ≤ k) hk1.size hk1.size) (fun k hs hl => hk.block k hl (by omega)); have hk2 := Keep.trans (hk1.alloc _) hk; clear hk hR1 hk1))
  · go_ret
    exact ⟨_, rfl, ⟨_, _, 4, rfl, by simp, by simp, four_deeds _ _ hk3.size _ _ _ (by unfold i64; omega) (by unfold i64; omega)⟩, (hR3.below (by repeat (first | exact Below.refl _ _ | (refine Below.alloc ?_ (by simp) _) | (refine Below.setCell ?_ (by simp) _) | (refine below_drewN' ?_ _) | (refine Below.drew ?_)))).less (by omega), hk3.alloc _⟩
  · obtain ⟨m, rfl⟩ := Int.eq_ofNat_of_zero_le hn0
    have hR3 := Lib.hid (hR2.less (f' := f + 3 * (1 + m)) (by omega))
    have hm5 : 1 + m ≤ 5 := by omega
    have hws := hk2.size
    clear hR2 hn0 hn1 hx0 hx1
    obtain ⟨wo, rfl⟩ : ∃ wo, wo = w := ⟨_, rfl⟩
    go_loopw [6, 7] (fun v n wr => ∃ (ds : List Deed) (k : Nat), n = .int .i64 k ∧ Own kDeed 63 wr wo.heap.size (fun k => wo.heap.size ≤ k) v ds ∧ ds.length + k ≤ 5 ∧ RdAt wr g S A c bs (f + 3 * k) ∧ Keep (fun k => k = g) wo wr) (fun _ n _ => (intOf n).toNat)
    case atStart => exact ⟨[], 1 + m, by go_num, ho2, by simpa using hm5, hR3.out, hk2⟩
    case round =>
      obtain ⟨ds, k, rfl, ho, hl, hRr, hkr⟩ := hrel
      have hwr := hkr.size
      by_cases hlt : 0 < k
      · obtain ⟨k, rfl⟩ : ∃ j, k = j + 1 := ⟨k - 1, by omega⟩
        have hRs := Lib.hid (hRr.less (f' := f + 3 * k + 3) (by omega))
        clear hRr hlt
        go_wp2_with (first | (go_at_call 102; refine (l71Deed_calls _ _ _ _ _ _ _ _ hRs.out (by omega) (by omega)).mono ?_; rintro e w4 ⟨_, rfl, ⟨d, rfl, hd4⟩, hR4, hk4⟩; have ho4 := ho.step (fun k hs hl => hk4.block k hl (by omega)); have hk5 := Keep.trans hkr hk4; clear hk4 ho hkr) | (at_builtin; refine wpList_append_kd (d := kDeed) rfl (.tmp 36) (.tmp 40) _ rfl Try.underlying33 _ 24 infoDeed rfl (by decide) (by decide) rfl (ho4.belowAll (w' := w4.alloc _) (by repeat (first | exact Below.refl _ _ | (refine Below.alloc ?_ (by simp) _) | (refine Below.setCell ?_ (by simp) _) | (refine below_drewN' ?_ _) | (refine Below.drew ?_)))) _ _ rfl (Row.one_ (e := 63) (isDeed_K (w := w4) (S := fun _ => False) d hd4)) (fun k hk e => by have := ho4.blk k e.symm; rcases hk with hk | hk; exact hk; omega) (by simp; omega) (by simp; have := hk5.size; omega) ?_; intro v5 w5 ho5 hg5 hv5))
        have h54 := hk5.size
        have hu := ho4.above
        exact ⟨⟨ds ++ [d], k, rfl, ho5.snoc (fun k hk => by rcases hk with hk | hk; exact hk.elim; omega) (by simp; omega), by simp; omega, (hR4.below (by repeat (first | exact Below.refl _ _ | (refine Below.alloc ?_ (by simp) _) | (refine Below.setCell ?_ (by simp) _) | (refine below_drewN' ?_ _) | (refine Below.drew ?_)))).app (v := u6) hg5 (fun k hk => by have := hu k hk; omega), (hk5.alloc _).app (v := u6) hg5 hu⟩, by simp [intOf]⟩
      · have hk0 : k = 0 := by omega
        subst hk0
        go_wp2
        go_ret
        exact ⟨_, rfl, ho.newRow (by omega), hRr.less (by omega), hkr⟩
end Go.Proofs.Ytcpabkfoalhldaa
