/- The laws' helpers: marks. What a mark may change: a number into a number. -/
import Derived.Test.YtehgiijpmldiiaaX7
namespace Go.Proofs.Ytehgiijpmldiiaa
open Go.RowKit
set_option linter.unusedVariables false
set_option linter.unusedSimpArgs false

/-- In blocks of T numbers may have become other numbers; all else is as it was. -/
structure Mk (T : Nat → Prop) (w w' : World) : Prop where
  k : Keep T w w'
  blk : ∀ (b : Nat) (cs : Array Value) (t : TypeId), w.heap[b]? = some (.cells cs t (0, 0)) → ∃ cs' : Array Value, w'.heap[b]? = some (.cells cs' t (0, 0)) ∧ ∀ (i : Nat) (u : Value), cs[i]? = some u → cs'[i]? = some u ∨ ∃ x y : Int, u = .int .i64 x ∧ cs'[i]? = some (.int .i64 y)
theorem Mk.refl (T : Nat → Prop) (w : World) : Mk T w w := ⟨Keep.refl _ _, fun b cs t h => ⟨cs, h, fun i u hu => .inl hu⟩⟩
theorem Mk.trans {T : Nat → Prop} {w w' w2 : World} (h : Mk T w w') (h2 : Mk T w' w2) : Mk T w w2 :=
  ⟨h.k.trans h2.k, fun b cs t hb => by
    obtain ⟨cs', hb', h1⟩ := h.blk b cs t hb
    obtain ⟨cs2, hb2, h3⟩ := h2.blk b cs' t hb'
    refine ⟨cs2, hb2, fun i u hu => ?_⟩
    rcases h1 i u hu with h4 | ⟨x, y, rfl, h4⟩
    · exact h3 i u h4
    · rcases h3 i _ h4 with h5 | ⟨x', y', h6, h5⟩
      · exact .inr ⟨x, y, rfl, h5⟩
      · exact .inr ⟨x, y', rfl, h5⟩⟩
theorem Mk.set {T : Nat → Prop} {w w' : World} {g i : Nat} {cs : Array Value} {t : TypeId} {x : Int} (h : Mk T w w') (hT : T g) (hb : w'.heap[g]? = some (.cells cs t (0, 0))) (hc : cs[i]? = some (.int .i64 x)) (y : Int) : Mk T w (w'.setCell ⟨g, i, none⟩ (.int .i64 y)) := by
  refine h.trans ⟨Keep.setCell (T := T) (p := ⟨g, i, none⟩) (Keep.refl _ _) (fun _ => hT) _, fun b cs' t' hb' => ?_⟩
  by_cases e : b = g
  · subst e
    rw [hb] at hb'
    injection hb' with hb'
    injection hb' with e1 e2
    subst e1; subst e2
    refine ⟨_, heap_set_row (i := i) hb (.int .i64 y), fun j u hu => ?_⟩
    by_cases ej : i = j
    · subst ej
      rw [hc] at hu
      injection hu with hu
      subst hu
      refine .inr ⟨x, y, rfl, ?_⟩
      have hl := (Array.getElem?_eq_some_iff.1 hc).1
      simp [hl]
    · left
      rw [Array.getElem?_setIfInBounds_ne ej]
      exact hu
  · exact ⟨cs', heap_set_far hb' _ e, fun i u hu => .inl hu⟩
theorem cellv {w : World} {b i : Nat} {cs : Array Value} {t : TypeId} {u : Value} (h : w.heap[b]? = some (.cells cs t (0, 0))) (hu : cs[i]? = some u) : w.cell? ⟨b, i, none⟩ = some u := by rw [cell_of_row _ _ i _ _ _ h]; exact hu
/-- n elements of m numbers each, in a block of T. -/
def ShN (T : Nat → Prop) (m : Nat) (w : World) (v : Value) (n : Nat) : Prop :=
  ∃ A c, v = .slice A n c ∧ n ≤ c ∧ n ≤ 9223372036854775807 ∧ (n = 0 ∨ ∃ (g : Nat) (cs : Array Value) (t : TypeId), A = some ⟨g, 0, none⟩ ∧ T g ∧ w.heap[g]? = some (.cells cs t (0, 0)) ∧ ∀ i, i < n * m → ∃ x, cs[i]? = some (.int .i64 x))
theorem ShN.mk {T : Nat → Prop} {m n : Nat} {w w' : World} {v : Value} (h : ShN T m w v n) (hk : Mk T w w') : ShN T m w' v n := by
  obtain ⟨A, c, rfl, h1, h2, h3⟩ := h
  refine ⟨A, c, rfl, h1, h2, ?_⟩
  rcases h3 with h3 | ⟨g, cs, t, rfl, hT, hb, hc⟩
  · exact .inl h3
  · obtain ⟨cs', hb', hk'⟩ := hk.blk g cs t hb
    refine .inr ⟨g, cs', t, rfl, hT, hb', fun i hi => ?_⟩
    obtain ⟨x, hx⟩ := hc i hi
    rcases hk' i _ hx with h4 | ⟨_, y, _, h4⟩
    · exact ⟨x, h4⟩
    · exact ⟨y, h4⟩
/-- Acts: numbers, and rows of numbers; l: how many deeds and kids. -/
def ShA (T : Nat → Prop) (w : World) (v : Value) (l : List (Nat × Nat)) : Prop :=
  ∃ A c, v = .slice A l.length c ∧ l.length ≤ c ∧ l.length ≤ 9223372036854775807 ∧ (l = [] ∨ ∃ (g : Nat) (cs : Array Value) (t : TypeId), A = some ⟨g, 0, none⟩ ∧ T g ∧ w.heap[g]? = some (.cells cs t (0, 0)) ∧
    ∀ (j : Nat) (nm : Nat × Nat), l[j]? = some nm → ∃ (x y : Int) (B D : Option Addr) (d e : Nat), cs[j * 4]? = some (.int .i64 x) ∧ cs[j * 4 + 1]? = some (.slice B nm.1 d) ∧ cs[j * 4 + 2]? = some (.slice D nm.2 e) ∧ cs[j * 4 + 3]? = some (.int .i64 y) ∧ ShN T 3 w (.slice B nm.1 d) nm.1 ∧ ShN T 1 w (.slice D nm.2 e) nm.2)
theorem ShA.mk {T : Nat → Prop} {l : List (Nat × Nat)} {w w' : World} {v : Value} (h : ShA T w v l) (hk : Mk T w w') : ShA T w' v l := by
  obtain ⟨A, c, rfl, h1, h2, h3⟩ := h
  refine ⟨A, c, rfl, h1, h2, ?_⟩
  rcases h3 with h3 | ⟨g, cs, t, rfl, hT, hb, hc⟩
  · exact .inl h3
  · obtain ⟨cs', hb', hk'⟩ := hk.blk g cs t hb
    have ki : ∀ (i : Nat) (x : Int), cs[i]? = some (Value.int .i64 x) → ∃ y : Int, cs'[i]? = some (Value.int .i64 y) := fun i x hx => by
      rcases hk' i _ hx with h4 | ⟨_, y, _, h4⟩
      · exact ⟨x, h4⟩
      · exact ⟨y, h4⟩
    have ks : ∀ (i : Nat) (A : Option Addr) (n c : Nat), cs[i]? = some (Value.slice A n c) → cs'[i]? = some (Value.slice A n c) := fun i A n c hx => by
      rcases hk' i _ hx with h4 | ⟨_, y, h5, h4⟩
      · exact h4
      · cases h5
    refine .inr ⟨g, cs', t, rfl, hT, hb', fun j nm hj => ?_⟩
    obtain ⟨x, y, B, D, d, e, c0, c1, c2, c3, hd, hi⟩ := hc j nm hj
    obtain ⟨x', c0'⟩ := ki _ _ c0
    obtain ⟨y', c3'⟩ := ki _ _ c3
    exact ⟨x', y', B, D, d, e, c0', ks _ _ _ _ c1, ks _ _ _ _ c2, c3', hd.mk hk, hi.mk hk⟩
def ShB (T : Nat → Prop) (w : World) (v : Value) (L : List (List (Nat × Nat))) : Prop :=
  ∃ A c, v = .slice A L.length c ∧ L.length ≤ c ∧ L.length ≤ 9223372036854775807 ∧ (L = [] ∨ ∃ (g : Nat) (cs : Array Value) (t : TypeId), A = some ⟨g, 0, none⟩ ∧ T g ∧ w.heap[g]? = some (.cells cs t (0, 0)) ∧
    ∀ (j : Nat) (l : List (Nat × Nat)), L[j]? = some l → ∃ (B : Option Addr) (d : Nat), cs[j]? = some (.slice B l.length d) ∧ ShA T w (.slice B l.length d) l)
theorem ShB.mk {T : Nat → Prop} {L : List (List (Nat × Nat))} {w w' : World} {v : Value} (h : ShB T w v L) (hk : Mk T w w') : ShB T w' v L := by
  obtain ⟨A, c, rfl, h1, h2, h3⟩ := h
  refine ⟨A, c, rfl, h1, h2, ?_⟩
  rcases h3 with h3 | ⟨g, cs, t, rfl, hT, hb, hc⟩
  · exact .inl h3
  · obtain ⟨cs', hb', hk'⟩ := hk.blk g cs t hb
    refine .inr ⟨g, cs', t, rfl, hT, hb', fun j l hj => ?_⟩
    obtain ⟨B, d, c0, ha⟩ := hc j l hj
    refine ⟨B, d, ?_, ha.mk hk⟩
    rcases hk' j _ c0 with h4 | ⟨_, y, h5, h4⟩
    · exact h4
    · cases h5
def top : Int := 4611686018427387904
set_option maxHeartbeats 2000000 in
set_option maxRecDepth 100000 in
theorem markIntS_calls (T : Nat → Prop) (v : Value) (n : Nat) (k : Int) (w : World) (h : ShN T 1 w v n) (h0 : 0 ≤ k) (h1 : k + n ≤ top) :
    Calls Try.prog 16 #[v, .int .i64 k] w fun e w' => e = .returned (.int .i64 (k + n)) ∧ Mk T w w' := by
  have hS := Lib.hid h
  obtain ⟨A, c, rfl, hc1, hc2, hr⟩ := h
  have HT := Lib.hid (And.intro h0 h1)
  clear h0 h1
  go_enter Try.func16, Try.ntmps16
  go_wp2
  go_loopw [1, 5] (fun l i wr => ∃ j : Nat, j ≤ n ∧ i = .int .i64 j ∧ l = .int .i64 (k + j) ∧ Mk T w wr) (fun _ i _ => n - (intOf i).toNat)
  case atStart => exact ⟨0, Nat.zero_le _, rfl, by simp, Mk.refl _ _⟩
  case round =>
    obtain ⟨j, hj, rfl, rfl, hm⟩ := hrel
    by_cases hlt : j < n
    · rcases hr with hr | ⟨g, cs0, t, rfl, hT, _, _⟩
      · omega
      · obtain ⟨A', c', e, _, _, h3⟩ := hS.out.mk hm
        injection e with e1 e2 e3
        subst e1; subst e3
        rcases h3 with h3 | ⟨g', cs, t', e, _, hb, hc⟩
        · omega
        · injection e with e; injection e with e; subst e
          obtain ⟨x, hx⟩ := hc j (by omega)
          have s0 := cellv hb hx
          have s1 := frozen_of_row hb j
          have x1 : (j : Int) < n := by omega
          have x3 : (0 : Int) ≤ j := by omega
          have hw := IntWalk.i64_in (k + j + 1) (by have := HT.out; unfold top at this; omega)
          have hm2 := Lib.hid (hm.set hT hb hx (k + j))
          clear hm hb
          go_wp2
          go_roundw
          case rel => exact ⟨j + 1, by omega, by go_num, by go_num, hm2.out⟩
          case measure => simp [intOf]; omega
    · obtain rfl : j = n := by omega
      go_wp2
      go_ret
      exact ⟨rfl, hm⟩
end Go.Proofs.Ytehgiijpmldiiaa
