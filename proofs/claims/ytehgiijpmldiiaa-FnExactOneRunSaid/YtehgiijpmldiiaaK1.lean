/- How programs lie in memory. -/
import Derived.Test.YtehgiijpmldiiaaLib
import Derived.Test.YtehgiijpmldiiaaM1
import Derived.Test.YtehgiijpmldiiaaProg
namespace Go.Proofs.Ytehgiijpmldiiaa
open Go.RowKit
set_option linter.unusedVariables false
set_option linter.unusedSimpArgs false

def kDeed : Kd Deed := Kd.iso (Kd.pair Kd.int (Kd.pair Kd.int Kd.int)) (fun x : Deed => (x.kind, x.a, x.b))
def kAct : Kd Act := Kd.iso (Kd.pair Kd.int (Kd.pair (Kd.slice kDeed) (Kd.pair (Kd.slice Kd.int) Kd.int))) (fun x : Act => (x.kind, x.deeds, x.kids, x.reg))
def kProg : Kd Prog := Kd.iso (Kd.pair (Kd.slice Kd.int) (Kd.slice (Kd.slice kAct))) (fun x : Prog => (x.cells, x.bodies))
def i64 (n : Int) : Prop := -9223372036854775808 ≤ n ∧ n ≤ 9223372036854775807
theorem kDeed_sz : kDeed.sz = 3 := rfl
theorem kAct_sz : kAct.sz = 4 := rfl
theorem kProg_sz : kProg.sz = 2 := rfl
theorem kInt_sz : Kd.int.sz = 1 := rfl
theorem kSlice_sz {α : Type} (d : Kd α) : (Kd.slice d).sz = 1 := rfl

theorem kDeed_open {w : World} {S : Nat → Prop} {x : Deed} {cs : List Value} (h : kDeed.K w S x cs) : cs = [.int .i64 x.kind, .int .i64 x.a, .int .i64 x.b] ∧ i64 x.kind ∧ i64 x.a ∧ i64 x.b := by
  obtain ⟨_, _, rfl, ⟨rfl, h1⟩, _, _, rfl, ⟨rfl, h2⟩, ⟨rfl, h3⟩⟩ := h
  exact ⟨rfl, h1, h2, h3⟩
theorem kDeed_mk (w : World) (S : Nat → Prop) (x : Deed) (h1 : i64 x.kind) (h2 : i64 x.a) (h3 : i64 x.b) : kDeed.K w S x [.int .i64 x.kind, .int .i64 x.a, .int .i64 x.b] :=
  ⟨[.int .i64 x.kind], _, rfl, ⟨rfl, h1⟩, [.int .i64 x.a], _, rfl, ⟨rfl, h2⟩, ⟨rfl, h3⟩⟩
theorem kAct_open {w : World} {S : Nat → Prop} {x : Act} {cs : List Value} (h : kAct.K w S x cs) :
    ∃ A c B e, cs = [.int .i64 x.kind, .slice A x.deeds.length c, .slice B x.kids.length e, .int .i64 x.reg] ∧ x.deeds.length ≤ c ∧ x.kids.length ≤ e ∧ Row kDeed w S A x.deeds ∧ Row Kd.int w S B x.kids ∧ i64 x.kind ∧ i64 x.reg := by
  obtain ⟨_, _, rfl, ⟨rfl, h1⟩, _, _, rfl, ⟨A, c, rfl, hc, hA⟩, _, _, rfl, ⟨B, e, rfl, he, hB⟩, ⟨rfl, h2⟩⟩ := h
  exact ⟨A, c, B, e, rfl, hc, he, hA, hB, h1, h2⟩
theorem kAct_mk {w : World} {S : Nat → Prop} (x : Act) {A B : Option Addr} {c e : Nat} (hc : x.deeds.length ≤ c) (he : x.kids.length ≤ e) (hA : Row kDeed w S A x.deeds) (hB : Row Kd.int w S B x.kids) (h1 : i64 x.kind) (h2 : i64 x.reg) :
    kAct.K w S x [.int .i64 x.kind, .slice A x.deeds.length c, .slice B x.kids.length e, .int .i64 x.reg] :=
  ⟨[.int .i64 x.kind], _, rfl, ⟨rfl, h1⟩, [.slice A x.deeds.length c], _, rfl, ⟨A, c, rfl, hc, hA⟩, [.slice B x.kids.length e], _, rfl, ⟨B, e, rfl, he, hB⟩, ⟨rfl, h2⟩⟩
theorem kProg_open {w : World} {S : Nat → Prop} {x : Prog} {cs : List Value} (h : kProg.K w S x cs) :
    ∃ A c B e, cs = [.slice A x.cells.length c, .slice B x.bodies.length e] ∧ x.cells.length ≤ c ∧ x.bodies.length ≤ e ∧ Row Kd.int w S A x.cells ∧ Row (Kd.slice kAct) w S B x.bodies := by
  obtain ⟨_, _, rfl, ⟨A, c, rfl, hc, hA⟩, ⟨B, e, rfl, he, hB⟩⟩ := h
  exact ⟨A, c, B, e, rfl, hc, he, hA, hB⟩
theorem kProg_mk {w : World} {S : Nat → Prop} (x : Prog) {A B : Option Addr} {c e : Nat} (hc : x.cells.length ≤ c) (he : x.bodies.length ≤ e) (hA : Row Kd.int w S A x.cells) (hB : Row (Kd.slice kAct) w S B x.bodies) :
    kProg.K w S x [.slice A x.cells.length c, .slice B x.bodies.length e] :=
  ⟨[.slice A x.cells.length c], _, rfl, ⟨A, c, rfl, hc, hA⟩, ⟨B, e, rfl, he, hB⟩⟩

section
variable {w : World} {S : Nat → Prop} {A : Option Addr} {j : Nat}
theorem at_int {xs : List Int} (h : Row Kd.int w S A xs) (hj : j < xs.length) : ∃ ad, A = some ad ∧ ad.block < w.heap.size ∧ w.cell? (ad.add j) = some (.int .i64 xs[j]) ∧ i64 xs[j] := by
  obtain ⟨ad, c, rfl, _, hl, ⟨rfl, hk⟩, hc⟩ := h.get hj
  refine ⟨ad, rfl, hl, ?_, hk⟩
  have := hc 0 _ rfl
  simpa [kInt_sz] using this
theorem at_slice {α : Type} {d : Kd α} {xs : List (List α)} (h : Row (Kd.slice d) w S A xs) (hj : j < xs.length) :
    ∃ ad B c, A = some ad ∧ ad.block < w.heap.size ∧ w.cell? (ad.add j) = some (.slice B xs[j].length c) ∧ xs[j].length ≤ c ∧ Row d w S B xs[j] := by
  obtain ⟨ad, c, rfl, _, hl, ⟨B, c', rfl, hle, hr⟩, hc⟩ := h.get hj
  refine ⟨ad, B, c', rfl, hl, ?_, hle, hr⟩
  have := hc 0 _ rfl
  simpa [kSlice_sz] using this
theorem at_deed {xs : List Deed} (h : Row kDeed w S A xs) (hj : j < xs.length) :
    ∃ ad, A = some ad ∧ ad.block < w.heap.size ∧ w.cell? (ad.add (j * 3)) = some (.int .i64 xs[j].kind) ∧ w.cell? ⟨(ad.add (j * 3)).block, (ad.add (j * 3)).off + 1, none⟩ = some (.int .i64 xs[j].a) ∧
      w.cell? ⟨(ad.add (j * 3)).block, (ad.add (j * 3)).off + 2, none⟩ = some (.int .i64 xs[j].b) ∧ i64 xs[j].kind ∧ i64 xs[j].a ∧ i64 xs[j].b := by
  obtain ⟨ad, c, rfl, _, hl, hk, hc⟩ := h.get hj
  obtain ⟨rfl, h1, h2, h3⟩ := kDeed_open hk
  exact ⟨ad, rfl, hl, hc 0 _ rfl, by rw [← add_pos' _ _ 1 (by omega)]; exact hc 1 _ rfl, by rw [← add_pos' _ _ 2 (by omega)]; exact hc 2 _ rfl, h1, h2, h3⟩
theorem at_act {xs : List Act} (h : Row kAct w S A xs) (hj : j < xs.length) :
    ∃ ad B c D e, A = some ad ∧ ad.block < w.heap.size ∧ w.cell? (ad.add (j * 4)) = some (.int .i64 xs[j].kind) ∧ w.cell? ⟨(ad.add (j * 4)).block, (ad.add (j * 4)).off + 1, none⟩ = some (.slice B xs[j].deeds.length c) ∧
      w.cell? ⟨(ad.add (j * 4)).block, (ad.add (j * 4)).off + 2, none⟩ = some (.slice D xs[j].kids.length e) ∧ w.cell? ⟨(ad.add (j * 4)).block, (ad.add (j * 4)).off + 3, none⟩ = some (.int .i64 xs[j].reg) ∧
      xs[j].deeds.length ≤ c ∧ xs[j].kids.length ≤ e ∧ Row kDeed w S B xs[j].deeds ∧ Row Kd.int w S D xs[j].kids ∧ i64 xs[j].kind ∧ i64 xs[j].reg := by
  obtain ⟨ad, c, rfl, _, hl, hk, hc⟩ := h.get hj
  obtain ⟨B, c', D, e, rfl, h1, h2, h3, h4, h5, h6⟩ := kAct_open hk
  exact ⟨ad, B, c', D, e, rfl, hl, hc 0 _ rfl, by rw [← add_pos' _ _ 1 (by omega)]; exact hc 1 _ rfl, by rw [← add_pos' _ _ 2 (by omega)]; exact hc 2 _ rfl, by rw [← add_pos' _ _ 3 (by omega)]; exact hc 3 _ rfl, h1, h2, h3, h4, h5, h6⟩
end
end Go.Proofs.Ytehgiijpmldiiaa
