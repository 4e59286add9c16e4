/- The laws' helpers: marks over a program; a row of numbers marked, and looked at again. -/
import Derived.Test.YtehgiijpmldiiaaX9
namespace Go.Proofs.Ytehgiijpmldiiaa
open Go.RowKit
set_option linter.unusedVariables false
set_option linter.unusedSimpArgs false

theorem ShB.at_ {T : Nat → Prop} {w : World} {g c : Nat} {L : List (List (Nat × Nat))} (h : ShB T w (.slice (some ⟨g, 0, none⟩) L.length c) L) {j : Nat} (hj : j < L.length) : ∃ (cs : Array Value) (t : TypeId) (B : Option Addr) (d : Nat), T g ∧ w.heap[g]? = some (.cells cs t (0, 0)) ∧ cs[j]? = some (.slice B L[j].length d) ∧ ShA T w (.slice B L[j].length d) L[j] := by
  obtain ⟨A', c', e, _, _, h3⟩ := h
  injection e with e1 e2 e3
  subst e1; subst e3
  rcases h3 with h3 | ⟨g', cs, t', e, hT, hb, hc⟩
  · subst h3; simp at hj
  · injection e with e; injection e with e; subst e
    obtain ⟨B, d, h⟩ := hc j _ (List.getElem?_eq_getElem hj)
    exact ⟨cs, t', B, d, hT, hb, h⟩
theorem ShB.addr {T : Nat → Prop} {w : World} {v : Value} {L : List (List (Nat × Nat))} (h : ShB T w v L) (hl : 0 < L.length) : ∃ g c, v = .slice (some ⟨g, 0, none⟩) L.length c := by
  obtain ⟨A', c', rfl, _, _, h3⟩ := h
  rcases h3 with h3 | ⟨g', cs, t', rfl, hT, hb, hc⟩
  · subst h3; simp at hl
  · exact ⟨g', c', rfl⟩
def wAll (L : List (List (Nat × Nat))) : Int := tot wActs L
theorem wAll_pos (L : List (List (Nat × Nat))) : 0 ≤ wAll L := tot_pos wActs L wActs_pos
set_option maxHeartbeats 4000000 in
set_option maxRecDepth 100000 in
theorem markActSS_calls (T : Nat → Prop) (v : Value) (L : List (List (Nat × Nat))) (k : Int) (w : World) (h : ShB T w v L) (h0 : 0 ≤ k) (h1 : k + wAll L ≤ top) :
    Calls Try.prog 40 #[v, .int .i64 k] w fun e w' => e = .returned (.int .i64 (k + wAll L)) ∧ Mk T w w' := by
  have hS := Lib.hid h
  obtain ⟨A, c, rfl, hc1, hc2, hr⟩ := h
  have HT := Lib.hid (And.intro h0 h1)
  clear h0 h1 hr
  go_enter Try.func40, Try.ntmps40
  go_wp2
  go_loopw [1, 5] (fun m i wr => ∃ j : Nat, j ≤ L.length ∧ i = .int .i64 j ∧ m = .int .i64 (k + tot wActs (L.take j)) ∧ Mk T w wr) (fun _ i _ => L.length - (intOf i).toNat)
  case atStart => exact ⟨0, Nat.zero_le _, rfl, by simp [tot], Mk.refl _ _⟩
  case round =>
    obtain ⟨j, hj, rfl, rfl, hm⟩ := hrel
    by_cases hlt : j < L.length
    · obtain ⟨g, c', e⟩ := hS.out.addr (by omega)
      injection e with e1 e2 e3
      subst e1; subst e3
      obtain ⟨cs, t, B, d, hT, hb, c0, ha⟩ := (hS.out.mk hm).at_ hlt
      have s0 := cellv hb c0
      have x1 : (j : Int) < L.length := by omega
      have x3 : (0 : Int) ≤ j := by omega
      have hs := tot_snoc wActs L j hlt
      have hp := tot_pos wActs (L.take j) wActs_pos
      have hq := tot_le wActs L (j + 1) wActs_pos
      generalize hL : k + tot wActs (L.take j) = m
      have hLb : 0 ≤ m ∧ m + wActs L[j] ≤ top := by have := HT.out; unfold wAll at this; omega
      have HL := Lib.hid (And.intro hL (And.intro hs hLb))
      have HM := Lib.hid hm
      clear hm hb hLb hL hs hp hq
      go_wp2_with (go_at_call 70; refine (markActS_calls T _ L[j] m _ ha (by have := HL.out; omega) (by have := HL.out; omega)).mono ?_; rintro e w1 ⟨rfl, hm1⟩; have hmt := Lib.hid (HM.out.trans hm1))
      go_roundw
      case rel => exact ⟨j + 1, by omega, by go_num, val_int (by have := HL.out; omega), hmt.out⟩
      case measure => simp [intOf]; omega
    · obtain rfl : j = L.length := by omega
      have e0 : tot wActs (L.take L.length) = wAll L := by rw [List.take_length]; rfl
      have HE := Lib.hid e0
      go_wp2
      go_ret
      exact ⟨ret_int (by rw [HE.out]), hm⟩
theorem Mk.alloc {T : Nat → Prop} {w w' : World} {o : Obj} (h : Mk T (w.alloc o) w') : Mk T w w' :=
  ⟨((Keep.refl T w).alloc o).trans h.k, fun b cs t hb => h.blk b cs t ((Below.heap_alloc w o b (Array.getElem?_eq_some_iff.1 hb).1).trans hb)⟩
theorem ShN.al {T : Nat → Prop} {m n : Nat} {w : World} {v : Value} (h : ShN T m w v n) (o : Obj) : ShN T m (w.alloc o) v n := h.mk ⟨(Keep.refl T w).alloc o, fun b cs t hb => ⟨cs, (Below.heap_alloc w o b (Array.getElem?_eq_some_iff.1 hb).1).trans hb, fun i u hu => .inl hu⟩⟩
theorem ShB.al {T : Nat → Prop} {L : List (List (Nat × Nat))} {w : World} {v : Value} (h : ShB T w v L) (o : Obj) : ShB T (w.alloc o) v L := h.mk ⟨(Keep.refl T w).alloc o, fun b cs t hb => ⟨cs, (Below.heap_alloc w o b (Array.getElem?_eq_some_iff.1 hb).1).trans hb, fun i u hu => .inl hu⟩⟩
set_option maxHeartbeats 1000000 in
theorem markProg_calls (T : Nat → Prop) (C D : Option Addr) (n cc cd : Nat) (L : List (List (Nat × Nat))) (k : Int) (w : World) (h : ShN T 1 w (.slice C n cc) n) (hB : ShB T w (.slice D L.length cd) L) (hT : ∀ b, T b → b < w.heap.size) (h0 : 0 ≤ k) (h1 : k + n + wAll L ≤ top) :
    Calls Try.prog 15 #[.agg #[.slice C n cc, .slice D L.length cd], .int .i64 k] w fun e w' => e = .returned (.int .i64 (k + n + wAll L)) ∧ Mk T w w' := by
  have hp := wAll_pos L
  have H := fun o => Lib.hid (h.al o)
  have HB := fun o => Lib.hid (hB.al o)
  have HK := Lib.hid (show 0 ≤ k ∧ k + n ≤ top ∧ 0 ≤ k + n ∧ k + n + wAll L ≤ top by omega)
  have hw9 := fun (o : Obj) => heap_alloc_new w o
  clear h0 h1 hp h hB
  go_enter Try.func15, Try.ntmps15
  go_wp2_with (first
    | (go_at_call 16; refine (markIntS_calls T _ n k _ (H _).out HK.out.1 HK.out.2.1).mono ?_; rintro e w1 ⟨rfl, hm1⟩; have f1 := (hm1.k.block w.heap.size (by simp) (fun h => by have := hT _ h; omega)).trans (hw9 _); have g1 := cell_of_row _ _ 1 _ _ _ f1; simp at g1) | (go_at_call 40; refine (markActSS_calls T _ L (k + n) _ ((HB _).out.mk hm1) HK.out.2.2.1 HK.out.2.2.2).mono ?_; rintro e w2 ⟨rfl, hm2⟩; have hmt := Lib.hid ((hm1.trans hm2).alloc)))
  go_ret
  exact ⟨rfl, hmt.out⟩
/-- k, k + 1, .. -/
def marks (k : Int) (n : Nat) : List Int := (List.range n).map fun (j : Nat) => k + (j : Int)
theorem marks_len (k : Int) (n : Nat) : (marks k n).length = n := by simp [marks]
theorem marks_at (k : Int) (n j : Nat) (h : j < (marks k n).length) : (marks k n)[j] = k + j := by simp [marks]
theorem marks_next (k : Int) (xs : List Int) (j : Nat) (h : j < xs.length) : (marks k j ++ xs.drop j).set j (k + j) = marks k (j + 1) ++ xs.drop (j + 1) := by
  rw [List.drop_eq_getElem_cons h, List.set_append_right _ _ (by rw [marks_len]; omega), marks_len, Nat.sub_self, List.set_cons_zero]
  have e : marks k (j + 1) = marks k j ++ [k + (j : Int)] := by simp [marks, List.range_succ]
  rw [e, List.append_assoc]
  rfl
set_option maxHeartbeats 2000000 in
set_option maxRecDepth 100000 in
theorem markOwn_calls (xs : List Int) (v : Value) (base : Nat) (k : Int) (w : World) (ho : OwnI 3 w base v xs) (h0 : 0 ≤ k) (h1 : k + xs.length ≤ top) :
    Calls Try.prog 16 #[v, .int .i64 k] w fun e w' => e = .returned (.int .i64 (k + xs.length)) ∧ OwnI 3 w' base v (marks k xs.length) ∧ Keep (fun b => v.ownBlock = some b) w w' := by
  have hS := Lib.hid ho
  have hn := Own.maxLen ho
  obtain ⟨A, c, rfl, hc⟩ := Own.slice ho
  have HT := Lib.hid (And.intro h0 h1)
  clear h0 h1 ho
  go_enter Try.func16, Try.ntmps16
  go_wp2
  go_loopw [1, 5] (fun l i wr => ∃ j : Nat, j ≤ xs.length ∧ i = .int .i64 j ∧ l = .int .i64 (k + j) ∧ OwnI 3 wr base (.slice A xs.length c) (marks k j ++ xs.drop j) ∧ Keep (fun b => (Value.slice A xs.length c).ownBlock = some b) w wr) (fun _ i _ => xs.length - (intOf i).toNat)
  case atStart => exact ⟨0, Nat.zero_le _, rfl, by simp, by simpa [marks] using hS.out, Keep.refl _ _⟩
  case round =>
    obtain ⟨j, hj, rfl, rfl, ho, hk⟩ := hrel
    by_cases hlt : j < xs.length
    · obtain ⟨g, cap, e, hg1, hg2⟩ := hS.out.place (by omega)
      injection e with e1 e2 e3
      subst e1; subst e3
      have hl : (marks k j ++ xs.drop j).length = xs.length := by rw [List.length_append, marks_len, List.length_drop]; omega
      have ho' : OwnI 3 wr base (.slice (some ⟨g, 0, none⟩) (marks k j ++ xs.drop j).length c) (marks k j ++ xs.drop j) := by rw [hl]; exact ho
      obtain ⟨y, s0, s1⟩ : ∃ y : Int, wr.cell? ⟨g, j, none⟩ = some (.int .i64 y) ∧ wr.frozen? ⟨g, j, none⟩ = false := ⟨_, ho'.cell (j := j) (by omega)⟩
      have x1 : (j : Int) < xs.length := by omega
      have x3 : (0 : Int) ≤ j := by omega
      have hw := IntWalk.i64_in (k + j + 1) (by have := HT.out; unfold top at this; omega)
      have hs := ho'.set_ (j := j) (by omega) (k + j) (by have := HT.out; unfold top at this; unfold isI; omega)
      rw [hl, marks_next k xs j hlt] at hs
      have hk2 := Keep.setCell (p := ⟨g, j, none⟩) hk (fun _ => rfl) (.int .i64 (k + j))
      have HH := Lib.hid (And.intro hs hk2)
      clear ho ho' hs hk2 hk hl
      go_wp2
      go_roundw
      case rel => exact ⟨j + 1, by omega, by go_num, by go_num, HH.out.1, HH.out.2⟩
      case measure => simp [intOf]; omega
    · obtain rfl : j = xs.length := by omega
      have e0 : marks k xs.length ++ xs.drop xs.length = marks k xs.length := by simp
      rw [e0] at ho
      go_wp2
      go_ret
      exact ⟨rfl, ho, hk⟩
set_option maxHeartbeats 2000000 in
set_option maxRecDepth 100000 in
theorem heldIntS_calls (n : Nat) (A : Option Addr) (c : Nat) (k : Int) (w : World) (S : Nat → Prop) (hr : Row Kd.int w S A (marks k n)) (h0 : 0 ≤ k) (h1 : k + n ≤ top) :
    Calls Try.prog 17 #[.slice A n c, .int .i64 k] w fun e w' => e = .returned (.int .i64 (k + n)) ∧ Below w.heap.size w w' := by
  have hn := hr.1
  rw [marks_len] at hn
  have HT := Lib.hid (And.intro h0 h1)
  clear h0 h1
  go_enter Try.func17, Try.ntmps17
  go_wp2
  go_loopw [1, 5] (fun l i wr => ∃ j : Nat, j ≤ n ∧ i = .int .i64 j ∧ l = .int .i64 (k + j) ∧ Below w.heap.size w wr) (fun _ i _ => n - (intOf i).toNat)
  case atStart => exact ⟨0, Nat.zero_le _, rfl, by simp, Below.refl _ _⟩
  case round =>
    obtain ⟨j, hj, rfl, rfl, hb⟩ := hrel
    by_cases hlt : j < n
    · obtain ⟨ad, rfl, hl1, p0, hi⟩ := at_int (hr.belowAll hb) (j := j) (by rw [marks_len]; exact hlt)
      rw [marks_at] at p0
      have x1 : (j : Int) < n := by omega
      have x3 : (0 : Int) ≤ j := by omega
      have hw := IntWalk.i64_in (k + j + 1) (by have := HT.out; unfold top at this; omega)
      go_wp2
      go_roundw
      case rel => exact ⟨j + 1, by omega, by go_num, by go_num, hb⟩
      case measure => simp [intOf]; omega
    · obtain rfl : j = n := by omega
      go_wp2
      go_ret
      exact ⟨rfl, hb⟩
end Go.Proofs.Ytehgiijpmldiiaa
