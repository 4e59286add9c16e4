/- The reader of draws: a number is picked. -/
import Derived.Test.YtehgiijpmldiiaaK1
import Derived.Test.YtehgiijpmldiiaaLib4
import Derived.Laws.BitsAllLaws
import Derived.Laws.BitsLemmas
namespace Go.Proofs.Ytehgiijpmldiiaa
open Go.RowKit
set_option linter.unusedVariables false
set_option linter.unusedSimpArgs false

/-- A reader at block g, with f picks left at least; its bytes are read from S alone. -/
structure RdAt (w : World) (g : Nat) (S : Nat → Prop) (A : Option Addr) (c : Nat) (bs : List Int) (f : Nat) : Prop where
  st : ∃ p : Nat, w.heap[g]? = some (.cells #[.slice A bs.length c, .int .i64 (p : Nat)] 101 (0, 0)) ∧ p + f ≤ 1099511627776
  row : Row Kd.byte w S A bs
  ne : ∀ k, S k → k < g
  len : bs.length ≤ 2000
section
variable {w w' : World} {g : Nat} {S : Nat → Prop} {A : Option Addr} {c : Nat} {bs : List Int} {f : Nat}
theorem RdAt.lt (h : RdAt w g S A c bs f) : g < w.heap.size := by
  obtain ⟨p, hb, _⟩ := h.st
  exact (Array.getElem?_eq_some_iff.1 hb).1
theorem RdAt.keep {T : Nat → Prop} (h : RdAt w g S A c bs f) (hk : Keep T w w') (hg : ¬ T g) (hS : ∀ k, S k → k < w.heap.size → ¬ T k) : RdAt w' g S A c bs f := by
  obtain ⟨p, hb, hp⟩ := h.st
  exact ⟨⟨p, hk.blk hb hg, hp⟩, h.row.keep hk hS, h.ne, h.len⟩
theorem RdAt.below (h : RdAt w g S A c bs f) (hb : Below w.heap.size w w') : RdAt w' g S A c bs f := h.keep (Keep.of_belowAll (fun _ => False) hb) (fun h => h) (fun _ _ _ h => h)
theorem RdAt.set (h : RdAt w g S A c bs f) {p : Addr} (hp : g < p.block) (u : Value) : RdAt (w.setCell p u) g S A c bs f :=
  h.keep (T := fun k => k = p.block) (Keep.setCell (T := fun k => k = p.block) (p := p) (Keep.refl _ _) (fun _ => rfl) u) (by omega) (fun k hs _ e => by have := h.ne k hs; omega)
theorem RdAt.less (h : RdAt w g S A c bs f) {f' : Nat} (hf : f' ≤ f) : RdAt w g S A c bs f' := by
  obtain ⟨p, hb, hp⟩ := h.st
  exact ⟨⟨p, hb, by omega⟩, h.row, h.ne, h.len⟩
end
theorem at_byte {w : World} {S : Nat → Prop} {A : Option Addr} {xs : List Int} {j : Nat} (h : Row Kd.byte w S A xs) (hj : j < xs.length) : ∃ ad, A = some ad ∧ S ad.block ∧ ad.block < w.heap.size ∧ w.cell? (ad.add j) = some (.int .u8 xs[j]) ∧ 0 ≤ xs[j] ∧ xs[j] ≤ 255 := by
  obtain ⟨ad, c, rfl, hs, hl, ⟨rfl, hk⟩, hc⟩ := h.get hj
  refine ⟨ad, rfl, hs, hl, ?_, hk⟩
  have := hc 0 _ rfl
  have e : Kd.byte.sz = 1 := rfl
  simpa [e] using this

/-- What a pick leaves. -/
def Picked (n : Int) (w : World) (g : Nat) (S : Nat → Prop) (A : Option Addr) (c : Nat) (bs : List Int) (f : Nat) (e : Ending) (w' : World) : Prop :=
  ∃ x : Int, e = .returned (.int .i64 x) ∧ 0 ≤ x ∧ (x < n ∨ x = 0) ∧ RdAt w' g S A c bs f ∧ Keep (fun k => k = g) w w'

theorem xor_small (x : Nat) (hx : x < 9223372036854775808) : ∃ y : Nat, bits .xor .i64 (x : Int) ((x / 64 : Nat) : Int) = (y : Int) ∧ y < 9223372036854775808 := by
  have hz : x / 64 < 9223372036854775808 := by omega
  have h1 : x ^^^ (x / 64) < 2 ^ 63 := Nat.xor_lt_two_pow (by omega) (by omega)
  refine ⟨x ^^^ (x / 64), ?_, by omega⟩
  have o : ∀ a : Nat, a < 9223372036854775808 → (BitVec.ofInt 64 (a : Int)).toNat = a := fun a ha => by
    rw [BitVec.ofInt_natCast, BitVec.toNat_ofNat]; exact Nat.mod_eq_of_lt (by omega)
  show IntKind.i64.wrap ((BitVec.ofInt 64 (x : Int) ^^^ BitVec.ofInt 64 ((x / 64 : Nat) : Int)).toNat : Int) = _
  rw [BitVec.toNat_xor, o x hx, o _ hz, IntKind.wrap_i64]
  omega

set_option maxHeartbeats 4000000 in
set_option maxRecDepth 100000 in
theorem pick_calls (n : Int) (w : World) (g : Nat) (S : Nat → Prop) (A : Option Addr) (c : Nat) (bs : List Int) (f : Nat) (h : RdAt w g S A c bs (f + 1)) (hn : n ≤ 9223372036854775807) :
    Calls Try.prog 57 #[.pointer (some ⟨g, 0, none⟩), .int .i64 n] w (Picked n w g S A c bs f) := by
  obtain ⟨p, hb, hp⟩ := h.st
  have hlen := h.len
  have c0 : w.cell? ⟨g, 0, none⟩ = some (.slice A bs.length c) := by rw [cell_of_row w g 0 _ _ _ hb]; rfl
  have c1 : w.cell? ⟨g, 1, none⟩ = some (.int .i64 (p : Nat)) := by rw [cell_of_row w g 1 _ _ _ hb]; rfl
  have f1 : w.frozen? ⟨g, 1, none⟩ = false := by simp [World.frozen?, hb]
  have hk1 : Keep (fun k => k = g) w (w.setCell ⟨g, 1, none⟩ (.int .i64 ((p : Int) + 1))) := Keep.setCell (T := fun k => k = g) (p := ⟨g, 1, none⟩) (Keep.refl _ _) (fun _ => rfl) _
  have hr1 : RdAt (w.setCell ⟨g, 1, none⟩ (.int .i64 ((p : Int) + 1))) g S A c bs f := by
    refine ⟨⟨p + 1, ?_, by omega⟩, h.row.keep hk1 (fun k hs _ => Nat.ne_of_lt (h.ne k hs)), h.ne, hlen⟩
    simp [World.setCell, Array.getElem?_modify, hb]
  have hrow := hr1.row
  have hgl := h.lt
  by_cases h1 : n < 1
  · go_enter Try.func57, Try.ntmps57
    go_wp2
    go_ret
    exact ⟨0, rfl, by omega, .inr rfl, hr1, hk1⟩
  · by_cases h0 : bs.length = 0
    · rw [h0] at c0
      go_enter Try.func57, Try.ntmps57
      go_wp2
      go_ret
      exact ⟨0, rfl, by omega, .inr rfl, hr1, hk1⟩
    · have h0b : ((bs.length : Int) == 0) = false := beq_eq_false_iff_ne.2 (by omega)
      by_cases hlt : p < bs.length
      · obtain ⟨ad, rfl, hs, hl, hc, hx1, hx2⟩ := at_byte hrow hlt
        have hne := Nat.ne_of_lt (h.ne _ hs)
        have hcw : w.cell? (ad.add p) = some (.int .u8 bs[p]) := by
          rw [← hc]; exact (World.cell?_of_block (Below.heap_setCell w _ _ _ (by rw [block_add]; exact hne))).symm
        have hmod : bs[p] % n < n := Int.emod_lt_of_pos _ (show 0 < n by omega)
        have hmod0 : 0 ≤ bs[p] % n := Int.emod_nonneg _ (show n ≠ 0 by omega)
        go_enter Try.func57, Try.ntmps57
        go_wp2
        go_ret
        exact ⟨_, rfl, hmod0, .inl hmod, hr1, hk1⟩
      · have hL : 0 < bs.length := by omega
        obtain ⟨i1, hi1⟩ : ∃ i, i = p % bs.length := ⟨_, rfl⟩
        obtain ⟨i2, hi2⟩ : ∃ i, i = (p * 7 + 3) % bs.length := ⟨_, rfl⟩
        obtain ⟨q1, hq1⟩ : ∃ q, q = p / bs.length := ⟨_, rfl⟩
        have hl1 : i1 < bs.length := by rw [hi1]; exact Nat.mod_lt _ hL
        have hl2 : i2 < bs.length := by rw [hi2]; exact Nat.mod_lt _ hL
        have hq2 : q1 ≤ p := by rw [hq1]; exact Nat.div_le_self _ _
        obtain ⟨ad, rfl, hs, hl, hc, hx1, hx2⟩ := at_byte hrow hl1
        obtain ⟨ad', hade, _, _, hc', hy1, hy2⟩ := at_byte hrow hl2
        injection hade with hade
        subst hade
        have hne := Nat.ne_of_lt (h.ne _ hs)
        obtain ⟨b1, hb1⟩ : ∃ b, b = bs[i1] := ⟨_, rfl⟩
        obtain ⟨b2, hb2⟩ : ∃ b, b = bs[i2] := ⟨_, rfl⟩
        rw [← hb1] at hc hx1 hx2
        rw [← hb2] at hc' hy1 hy2
        have hm1 : (p : Int).tmod (bs.length : Int) = ((i1 : Nat) : Int) := by rw [Int.tmod_eq_emod_of_nonneg (by omega), hi1]; simp
        have hm2 : ((p : Int) * 7 + 3).tmod (bs.length : Int) = ((i2 : Nat) : Int) := by rw [Int.tmod_eq_emod_of_nonneg (by omega), hi2]; simp
        have hm3 : (p : Int).tdiv (bs.length : Int) = ((q1 : Nat) : Int) := by rw [Int.tdiv_eq_ediv_of_nonneg (by omega), hq1]; simp
        have l1 : (i1 : Int) < bs.length := by omega
        have l2 : (i2 : Int) < bs.length := by omega
        have l3 : (0 : Int) ≤ i1 := by omega
        have l4 : (0 : Int) ≤ i2 := by omega
        have l5 : (bs.length : Int) ≠ 0 := by omega
        have l6 : ((bs.length : Int) == 0) = false := beq_eq_false_iff_ne.2 l5
        have w1 : IntKind.i64.wrap ((p : Int) * 7) = (p : Int) * 7 := IntWalk.i64_in _ (by omega)
        have w2 : IntKind.i64.wrap ((p : Int) * 7 + 3) = (p : Int) * 7 + 3 := IntWalk.i64_in _ (by omega)
        have w3 : IntKind.i64.wrap b1 = b1 := IntWalk.i64_in _ (by omega)
        have w4 : IntKind.i64.wrap b2 = b2 := IntWalk.i64_in _ (by omega)
        have w5 : IntKind.i64.wrap (b1 * 131) = b1 * 131 := IntWalk.i64_in _ (by omega)
        have w6 : IntKind.i64.wrap (b2 * 1117) = b2 * 1117 := IntWalk.i64_in _ (by omega)
        have w7 : IntKind.i64.wrap (b1 * 131 + b2 * 1117) = b1 * 131 + b2 * 1117 := IntWalk.i64_in _ (by omega)
        have w8 : IntKind.i64.wrap ((p : Int) * 29) = (p : Int) * 29 := IntWalk.i64_in _ (by omega)
        have w9 : IntKind.i64.wrap (b1 * 131 + b2 * 1117 + (p : Int) * 29) = b1 * 131 + b2 * 1117 + (p : Int) * 29 := IntWalk.i64_in _ (by omega)
        have w10 : IntKind.i64.wrap ((q1 : Int) * 53) = (q1 : Int) * 53 := IntWalk.i64_in _ (by omega)
        have w11 : IntKind.i64.wrap (b1 * 131 + b2 * 1117 + (p : Int) * 29 + (q1 : Int) * 53) = b1 * 131 + b2 * 1117 + (p : Int) * 29 + (q1 : Int) * 53 := IntWalk.i64_in _ (by omega)
        clear hi1 hi2 hq1 hb1 hb2
        go_enter Try.func57, Try.ntmps57
        go_wp2
        obtain ⟨W2, HW⟩ : ∃ W2, W2 = w.setCell ⟨g, 1, none⟩ (.int .i64 ((p : Int) + 1)) := ⟨_, rfl⟩
        have z0 : W2.cell? ⟨g, 0, none⟩ = some (.slice (some ad) bs.length c) := by
          rw [HW, World.cell?_setCell_other _ _ _ _ (by simp)]; exact c0
        have z1 := hc
        have z2 := hc'
        rw [← HW] at z1 z2 hr1 hk1 ⊢
        clear HW hc hc' c0 c1 f1
        go_quiet (fail)
        obtain ⟨X, hX⟩ : ∃ X : Nat, b1 * 131 + b2 * 1117 + (p : Int) * 29 + (q1 : Int) * 53 = (X : Int) := ⟨(b1 * 131 + b2 * 1117 + (p : Int) * 29 + (q1 : Int) * 53).toNat, by omega⟩
        have hXb : X < 9223372036854775808 := by omega
        rw [hX]
        clear w1 w2 w3 w4 w5 w6 w7 w8 w9 w10 w11 hX hm1 hm2 hm3
        obtain ⟨Y, hY, hYb⟩ := xor_small X hXb
        have hY2 : bits .xor .i64 (X : Int) ((X : Int) / 64) = (Y : Int) := by rw [← hY]; simp
        clear hY
        have hmod : (Y : Int) % n < n := Int.emod_lt_of_pos _ (show 0 < n by omega)
        have hmod0 : 0 ≤ (Y : Int) % n := Int.emod_nonneg _ (show n ≠ 0 by omega)
        go_wp2
        go_ret
        exact ⟨_, rfl, hmod0, .inl hmod, hr1.below (below_drewN' (Below.refl _ _) _), hk1.drewN _⟩
/-- A step of a region, its frame's shape told. -/
theorem step_fold {P : Program} {ops : Array Oper} {o : Oper} {a : Go.Act} {K : Go.Act → World → Prop} {Q : Exit → Go.Act → World → Prop} {w : World} {E : Prop} (h : if Region.wanted o (yielded ops a.tmps) = true then Oper.wp P o a w K Q else E) : if Region.wanted o (yielded ops a.tmps) = true then Oper.wp P o a w K Q else E := h
end Go.Proofs.Ytehgiijpmldiiaa
