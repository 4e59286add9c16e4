/- Rows of one's own within rows of one's own; a row made of zeros. -/
import Derived.Test.YtehgiijpmldiiaaX3
import Derived.Test.YtehgiijpmldiiaaG3
namespace Go.Proofs.Ytehgiijpmldiiaa
open Go.RowKit
set_option linter.unusedVariables false
set_option linter.unusedSimpArgs false

/-- An element that is a row of the call's own, from block 'base' on. -/
def Kd.own {α : Type} (e base : Nat) (d : Kd α) : Kd (List α) where
  sz := 1
  K := fun w S xs cs => ∃ v, cs = [v] ∧ Own d e w base S v xs
  len := by rintro w S x cs ⟨v, rfl, _⟩; rfl
  one := by
    rintro w S x cs ⟨v, rfl, h⟩ u hu
    obtain ⟨A, c, rfl, _⟩ := h.slice
    rw [List.mem_singleton.1 hu]; rfl
  mono := by rintro w S S' x cs hS ⟨v, rfl, h⟩; exact ⟨v, rfl, h.mono hS⟩
  bound := by rintro w S x cs ⟨v, rfl, h⟩; exact ⟨v, rfl, h.bound⟩
  move := by rintro w w' S x cs hm ⟨v, rfl, h⟩; exact ⟨v, rfl, h.move hm⟩
def kActO (base : Nat) : Kd Act := Kd.iso (Kd.pair Kd.int (Kd.pair (Kd.own 142 base kDeed) (Kd.pair (Kd.own 3 base Kd.int) Kd.int))) (fun x : Act => (x.kind, x.deeds, x.kids, x.reg))
def kBodyO (base : Nat) : Kd (List Act) := Kd.own 34 base (kActO base)
theorem kActO_sz (b : Nat) : (kActO b).sz = 4 := rfl
theorem kBodyO_sz (b : Nat) : (kBodyO b).sz = 1 := rfl
theorem kActO_open {b : Nat} {w : World} {S : Nat → Prop} {x : Act} {cs : List Value} (h : (kActO b).K w S x cs) :
    ∃ v u, cs = [.int .i64 x.kind, v, u, .int .i64 x.reg] ∧ Own kDeed 142 w b S v x.deeds ∧ Own Kd.int 3 w b S u x.kids ∧ i64 x.kind ∧ i64 x.reg := by
  obtain ⟨_, _, rfl, ⟨rfl, h1⟩, _, _, rfl, ⟨v, rfl, hv⟩, _, _, rfl, ⟨u, rfl, hu⟩, ⟨rfl, h2⟩⟩ := h
  exact ⟨v, u, rfl, hv, hu, h1, h2⟩
theorem kActO_mk {b : Nat} {w : World} {S : Nat → Prop} (x : Act) {v u : Value} (hv : Own kDeed 142 w b S v x.deeds) (hu : Own Kd.int 3 w b S u x.kids) (h1 : i64 x.kind) (h2 : i64 x.reg) : (kActO b).K w S x [.int .i64 x.kind, v, u, .int .i64 x.reg] :=
  ⟨[.int .i64 x.kind], _, rfl, ⟨rfl, h1⟩, [v], _, rfl, ⟨v, rfl, hv⟩, [u], _, rfl, ⟨u, rfl, hu⟩, ⟨rfl, h2⟩⟩
theorem kActO_read {b : Nat} {w : World} {S : Nat → Prop} {x : Act} {cs : List Value} (h : (kActO b).K w S x cs) : kAct.K w S x cs := by
  obtain ⟨v, u, rfl, hv, hu, h1, h2⟩ := kActO_open h
  obtain ⟨A, c, rfl, hc, hA⟩ := hv.row
  obtain ⟨B, e, rfl, he, hB⟩ := hu.row
  exact kAct_mk x hc he hA hB h1 h2
theorem Row.map {α : Type} {d d' : Kd α} {w : World} {S : Nat → Prop} {A : Option Addr} {xs : List α} (hs : d.sz = d'.sz) (hK : ∀ x cs, d.K w S x cs → d'.K w S x cs) (h : Row d w S A xs) : Row d' w S A xs :=
  ⟨h.1, fun hn => by
    obtain ⟨ad, e, hb, hl, hc⟩ := h.2 hn
    refine ⟨ad, e, hb, hl, fun j x hj => ?_⟩
    obtain ⟨c, hk, hcell⟩ := hc j x hj
    exact ⟨c, hK x c hk, by rw [← hs]; exact hcell⟩⟩
theorem kBodyO_read {b : Nat} {w : World} {S : Nat → Prop} {x : List Act} {cs : List Value} (h : (kBodyO b).K w S x cs) : (Kd.slice kAct).K w S x cs := by
  obtain ⟨v, rfl, hv⟩ := h
  obtain ⟨A, c, rfl, hc, hA⟩ := hv.row
  exact ⟨A, c, rfl, hc, Row.map (d := kActO b) (d' := kAct) rfl (fun x cs => kActO_read) hA⟩
theorem made_flatten (z : List Value) (hz : 0 < z.length) (n : Nat) : (madeCells z.toArray (n * z.length)).toList = (List.replicate n z).flatten := by
  have key : ∀ n, (List.range (n * z.length)).map (fun i => z[i % z.length]!) = (List.replicate n z).flatten := by
    intro n
    induction n with
    | zero => simp
    | succ n ih =>
      have e : List.replicate (n + 1) z = List.replicate n z ++ [z] := by rw [List.replicate_succ']
      rw [e, List.flatten_append, Nat.succ_mul, List.range_add, List.map_append, ih]
      congr 1
      simp only [List.flatten_cons, List.flatten_nil, List.append_nil, List.map_map]
      refine List.ext_getElem (by simp) fun i h1 h2 => ?_
      have hi : i < z.length := h2
      simp only [List.getElem_map, List.getElem_range, Function.comp]
      rw [Nat.add_comm, Nat.add_mul_mod_self_right, Nat.mod_eq_of_lt hi]
      simp [hi]
  rw [← key n]
  simp [madeCells]
theorem Own.zeros {α : Type} {d : Kd α} {e : Nat} {w : World} {base : Nat} {S : Nat → Prop} (n : Nat) (z : List Value) (x0 : α) (hz : z.length = d.sz) (h0 : 0 < d.sz) (hk : ∀ w S, d.K w S x0 z) (hb : base ≤ w.heap.size) (hS : S w.heap.size) (hn : n ≤ 9223372036854775807) :
    Own d e (w.alloc (.cells (madeCells z.toArray (n * d.sz)) e)) base S (.slice (some ⟨w.heap.size, 0, none⟩) n n) (List.replicate n x0) := by
  have hf := made_flatten z (by omega) n
  rw [hz] at hf
  have hl : ((List.replicate n z).flatten).length = n * d.sz := by rw [← hf]; simp [size_madeCells]
  refine own_intro (List.replicate n z) ⟨by rw [List.length_replicate]; exact hl, .inr ⟨w.heap.size, n, _, by simp, hb, heap_alloc_new w _, by simp, by simp only [_root_.Go.maxLen]; omega, by rw [size_madeCells], ?_⟩⟩ (by simp) (fun k hk => by simp [Value.ownBlock] at hk; rw [← hk]; exact hS) (fun j x hj => ?_)
  · rw [hf, List.length_replicate, List.take_of_length_le (by omega)]
  · have hjn : j < n := by have := (List.getElem?_eq_some_iff.1 hj).1; simpa using this
    rw [List.getElem?_replicate, if_pos hjn] at hj
    injection hj with hj
    subst hj
    exact ⟨z, by rw [List.getElem?_replicate, if_pos hjn], hk _ _⟩
/-- Element k of 'the first k, and zeros behind' is put. -/
theorem put_next {α : Type} (xs : List α) (x0 : α) (k : Nat) (h : k < xs.length) : (xs.take k ++ List.replicate (xs.length - k) x0).set k xs[k] = xs.take (k + 1) ++ List.replicate (xs.length - (k + 1)) x0 := by
  have e : xs.length - k = (xs.length - (k + 1)) + 1 := by omega
  rw [e, List.replicate_succ, List.set_append_right _ _ (by simp; omega), List.length_take, Nat.min_eq_left (by omega), Nat.sub_self, List.set_cons_zero, List.take_succ_eq_append_getElem h, List.append_assoc]
  rfl
theorem put_len {α : Type} (xs : List α) (x0 : α) (k : Nat) (h : k ≤ xs.length) : (xs.take k ++ List.replicate (xs.length - k) x0).length = xs.length := by simp; omega
theorem put_at {α : Type} (xs : List α) (x0 : α) (k : Nat) (h : k < xs.length) (h2 : k < (xs.take k ++ List.replicate (xs.length - k) x0).length) : (xs.take k ++ List.replicate (xs.length - k) x0)[k] = x0 := by
  rw [List.getElem_append_right (by simp; omega)]
  simp
end Go.Proofs.Ytehgiijpmldiiaa
