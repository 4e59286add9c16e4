/- Programs as they come in: a struct's data opened to rows. -/
import Derived.Test.YtehgiijpmldiiaaY3
import Derived.Deep.Slices
import Derived.Deep.Fields
import Derived.ChangeSame
import Derived.ChangeSlices
import Derived.Lib.SmallJoins
namespace Go.Proofs.Ytehgiijpmldiiaa
open Go.RowKit Go.ChangeShapes Go.WideShapes Go.Deep Go.Joins
set_option linter.unusedVariables false
set_option linter.unusedSimpArgs false

theorem row_of {α : Type} {d : Kd α} {W : World} {a : Addr} {len : Nat} (hm : len ≤ 9223372036854775807) (hd : 0 < d.sz) (H : ∀ i, i < len → ∃ x c, d.K W (fun k => k < W.heap.size) x c ∧ ∀ j u, c[j]? = some u → W.cell? (a.add (i * d.sz + j)) = some u) : ∃ xs : List α, xs.length = len ∧ Row d W (fun k => k < W.heap.size) (some a) xs := by
  by_cases h0 : len = 0
  · exact ⟨[], by simp [h0], Row.nil _ _ _ _⟩
  · obtain ⟨x0, c0, hk0, hc0⟩ := H 0 (by omega)
    have hl0 := d.len hk0
    have hlt : a.block < W.heap.size := by
      have := block_lt_of_cell (hc0 0 (c0[0]'(by omega)) (List.getElem?_eq_getElem (by omega)))
      rwa [block_add] at this
    have H2 : ∀ i, ∃ x, i < len → ∃ c, d.K W (fun k => k < W.heap.size) x c ∧ ∀ j u, c[j]? = some u → W.cell? (a.add (i * d.sz + j)) = some u := fun i => by
      by_cases hi : i < len
      · obtain ⟨x, c, h⟩ := H i hi
        exact ⟨x, fun _ => ⟨c, h⟩⟩
      · exact ⟨x0, fun h => absurd h hi⟩
    obtain ⟨f, hf⟩ := Classical.skolem.1 H2
    refine ⟨(List.range len).map f, by simp, by simpa using hm, fun _ => ⟨a, rfl, hlt, hlt, fun j x hj => ?_⟩⟩
    have hjl : j < len := by have := (List.getElem?_eq_some_iff.1 hj).1; simpa using this
    rw [List.getElem?_map, List.getElem?_range hjl] at hj
    simp at hj
    subst hj
    exact hf j hjl
section
variable {H : Type} {enc : TypeId × Value → H} {W : World} {base : Nat} {spare : Nat → Bool} {held : Bool} {fuel : Nat} {cs : List Value} {x : DataW H × List MemPlace}
theorem op_int (h : DataW.trod enc Try.prog W base spare held fuel 3 cs = some x) : ∃ n, cs = [.int .i64 n] ∧ i64 n := by
  obtain ⟨n, rfl, _, hw⟩ := DataW.trod_int Try.underlying3 h
  simp [Lit.wf] at hw
  exact ⟨n, rfl, hw⟩
set_option maxRecDepth 100000 in
theorem el_deed (h : DataW.trod enc Try.prog W base spare held fuel 202 cs = some x) : ∃ a b c, cs = [.int .i64 a, .int .i64 b, .int .i64 c] ∧ i64 a ∧ i64 b ∧ i64 c := by
  have hi : Try.prog.cellsOf 3 = 1 := by kernel_rfl
  have hC : Try.prog.cellsOf 202 = 3 := by kernel_rfl
  obtain ⟨xs, n, _, _, hl, hlen, hf⟩ := DataW.trod_struct Try.underlying202 h
  rw [hC] at hl
  match cs, hl, xs, hlen with
  | [v0, v1, v2], _, [y0, y1, y2], _ =>
    have h0 := hf 0 _ rfl
    have h1 := hf 1 _ rfl
    have h2 := hf 2 _ rfl
    simp [hi] at h0 h1 h2
    obtain ⟨a, e0, i0⟩ := op_int h0
    obtain ⟨b, e1, i1⟩ := op_int h1
    obtain ⟨c, e2, i2⟩ := op_int h2
    injection e0 with e0; injection e1 with e1; injection e2 with e2
    exact ⟨a, b, c, by rw [e0, e1, e2], i0, i1, i2⟩
set_option maxRecDepth 100000 in
theorem el_act (h : DataW.trod enc Try.prog W base spare held fuel 166 cs = some x) : ∃ v0 v1 v2 v3 y0 y1 y2 y3 n, cs = [v0, v1, v2, v3] ∧ DataW.trod enc Try.prog W base spare held n 3 [v0] = some y0 ∧ DataW.trod enc Try.prog W base spare held n 164 [v1] = some y1 ∧ DataW.trod enc Try.prog W base spare held n 23 [v2] = some y2 ∧ DataW.trod enc Try.prog W base spare held n 3 [v3] = some y3 := by
  have hi : Try.prog.cellsOf 3 = 1 := by kernel_rfl
  have hd : Try.prog.cellsOf 164 = 1 := by kernel_rfl
  have hk : Try.prog.cellsOf 23 = 1 := by kernel_rfl
  have hC : Try.prog.cellsOf 166 = 4 := by kernel_rfl
  obtain ⟨xs, n, _, _, hl, hlen, hf⟩ := DataW.trod_struct Try.underlying166 h
  rw [hC] at hl
  match cs, hl, xs, hlen with
  | [v0, v1, v2, v3], _, [y0, y1, y2, y3], _ =>
    have h0 := hf 0 _ rfl
    have h1 := hf 1 _ rfl
    have h2 := hf 2 _ rfl
    have h3 := hf 3 _ rfl
    simp [hi, hd, hk] at h0 h1 h2 h3
    exact ⟨v0, v1, v2, v3, y0, y1, y2, y3, n, rfl, h0, h1, h2, h3⟩
/-- The cells of an element. -/
theorem el_cells {a : Addr} {i m : Nat} {cs' : List Value} (hc : W.cells? base (a.add (i * m)) m = some cs') : ∀ j u, cs'[j]? = some u → W.cell? (a.add (i * m + j)) = some u := by
  obtain ⟨_, hcl, hat⟩ := World.cells?_some hc
  intro j u hu
  have hj : j < m := by have := (List.getElem?_eq_some_iff.1 hu).1; omega
  have := hat j hj
  rw [hu, Go.Deep.add_add] at this
  exact this
theorem op_ints (h : DataW.trod enc Try.prog W base spare held fuel 23 cs = some x) : ∃ A c, ∃ xs : List Int, cs = [.slice A xs.length c] ∧ xs.length ≤ c ∧ Row Kd.int W (fun k => k < W.heap.size) A xs := by
  rcases open_ints Try.underlying23 Try.underlying3 (by kernel_rfl) h with ⟨rfl, _⟩ | ⟨a, len, cap, zs, rfl, _, hl, hm, hz, _, hcell, hwz⟩
  · exact ⟨none, 0, [], rfl, Nat.le_refl _, Row.nil _ _ _ _⟩
  · have hzl : len ≤ zs.length := by rw [hz]; split <;> omega
    obtain ⟨xs, hx, hr⟩ := row_of (d := Kd.int) (W := W) (a := a) (len := len) (by simp only [_root_.Go.maxLen] at hm; omega) (by decide) (fun i hi => ⟨zs.getD i 0, [.int .i64 (zs.getD i 0)], ⟨rfl, by
      have := hwz (zs.getD i 0) (by rw [getD_at _ _ _ (by omega)]; exact List.getElem_mem _)
      simp [Lit.wf] at this
      exact this⟩, fun j u hu => by
      match j with
      | 0 => simp at hu; subst hu; simpa [kInt_sz] using hcell i (by omega)
      | j + 1 => simp at hu⟩)
    subst hx
    exact ⟨some a, cap, xs, rfl, hl, hr⟩
theorem op_deeds (h : DataW.trod enc Try.prog W base spare held fuel 164 cs = some x) : ∃ A c, ∃ xs : List Deed, cs = [.slice A xs.length c] ∧ xs.length ≤ c ∧ Row kDeed W (fun k => k < W.heap.size) A xs := by
  have hC : Try.prog.cellsOf 202 = 3 := by kernel_rfl
  rcases open_slice Try.underlying164 h with ⟨rfl, _⟩ | ⟨a, len, cap, m, n, D, Pl, rfl, _, hl, hm, hmm, _, hi⟩
  · exact ⟨none, 0, [], rfl, Nat.le_refl _, Row.nil _ _ _ _⟩
  · have hml : len ≤ m := by rw [hmm]; split <;> omega
    rw [hC] at hi
    obtain ⟨xs, hx, hr⟩ := row_of (d := kDeed) (W := W) (a := a) (len := len) (by simp only [_root_.Go.maxLen] at hm; omega) (by decide) (fun i hil => by
      obtain ⟨cs', hc, ht⟩ := hi i (by omega)
      obtain ⟨k, b, c, rfl, i0, i1, i2⟩ := el_deed ht
      exact ⟨⟨k, b, c⟩, _, kDeed_mk _ _ ⟨k, b, c⟩ i0 i1 i2, el_cells hc⟩)
    subst hx
    exact ⟨some a, cap, xs, rfl, hl, hr⟩
theorem op_acts (h : DataW.trod enc Try.prog W base spare held fuel 110 cs = some x) : ∃ A c, ∃ xs : List Act, cs = [.slice A xs.length c] ∧ xs.length ≤ c ∧ Row kAct W (fun k => k < W.heap.size) A xs := by
  have hC : Try.prog.cellsOf 166 = 4 := by kernel_rfl
  rcases open_slice Try.underlying110 h with ⟨rfl, _⟩ | ⟨a, len, cap, m, n, D, Pl, rfl, _, hl, hm, hmm, _, hi⟩
  · exact ⟨none, 0, [], rfl, Nat.le_refl _, Row.nil _ _ _ _⟩
  · have hml : len ≤ m := by rw [hmm]; split <;> omega
    rw [hC] at hi
    obtain ⟨xs, hx, hr⟩ := row_of (d := kAct) (W := W) (a := a) (len := len) (by simp only [_root_.Go.maxLen] at hm; omega) (by decide) (fun i hil => by
      obtain ⟨cs', hc, ht⟩ := hi i (by omega)
      obtain ⟨v0, v1, v2, v3, y0, y1, y2, y3, n', rfl, t0, t1, t2, t3⟩ := el_act ht
      obtain ⟨k, e0, i0⟩ := op_int t0
      obtain ⟨A1, d1, ds, e1, l1, r1⟩ := op_deeds t1
      obtain ⟨A2, d2, ks, e2, l2, r2⟩ := op_ints t2
      obtain ⟨r, e3, i3⟩ := op_int t3
      injection e0 with e0; injection e1 with e1; injection e2 with e2; injection e3 with e3
      subst e0; subst e1; subst e2; subst e3
      exact ⟨⟨k, ds, ks, r⟩, _, kAct_mk ⟨k, ds, ks, r⟩ l1 l2 r1 r2 i0 i3, el_cells hc⟩)
    subst hx
    exact ⟨some a, cap, xs, rfl, hl, hr⟩
theorem op_bodies (h : DataW.trod enc Try.prog W base spare held fuel 36 cs = some x) : ∃ A c, ∃ xs : List (List Act), cs = [.slice A xs.length c] ∧ xs.length ≤ c ∧ Row (Kd.slice kAct) W (fun k => k < W.heap.size) A xs := by
  have hC : Try.prog.cellsOf 110 = 1 := by kernel_rfl
  rcases open_slice Try.underlying36 h with ⟨rfl, _⟩ | ⟨a, len, cap, m, n, D, Pl, rfl, _, hl, hm, hmm, _, hi⟩
  · exact ⟨none, 0, [], rfl, Nat.le_refl _, Row.nil _ _ _ _⟩
  · have hml : len ≤ m := by rw [hmm]; split <;> omega
    rw [hC] at hi
    obtain ⟨xs, hx, hr⟩ := row_of (d := Kd.slice kAct) (W := W) (a := a) (len := len) (by simp only [_root_.Go.maxLen] at hm; omega) (by decide) (fun i hil => by
      obtain ⟨cs', hc, ht⟩ := hi i (by omega)
      obtain ⟨B, d1, ys, rfl, l1, r1⟩ := op_acts ht
      exact ⟨ys, _, ⟨B, d1, rfl, l1, r1⟩, el_cells hc⟩)
    subst hx
    exact ⟨some a, cap, xs, rfl, hl, hr⟩
end
end Go.Proofs.Ytehgiijpmldiiaa
