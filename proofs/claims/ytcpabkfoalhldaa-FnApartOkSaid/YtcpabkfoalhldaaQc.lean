/- Rows of one's own within rows of one's own; a row made of zeros. The laws' helpers: copies in new memory. The laws' helpers: a program copied in new memory. The laws' helpers: toProg. The laws' helpers: marks. What a mark may change: a number into a number. The laws' helpers: marks over a whole program. The laws' helpers: marks over a program; a row of numbers marked, and looked at again. The program's look at deeds: parts behind an interface. The program's deeds at a desk. The program does a change at once. -/
import Derived.StillTailTactics
import Derived.Laws.EntriesVeiled
import Derived.Test.YtcpabkfoalhldaaQb
namespace Go.Proofs.Ytcpabkfoalhldaa
open Go.RowKit
set_option linter.unusedVariables false
set_option linter.unusedSimpArgs false

/-- An element that is a row of the call's own, from block 'base' on. -/
def Kd.own {α : Type} (e base : Nat) (d : Kd α) : Kd (List α) where
  sz := 1
  K := fun w S xs cs => ∃ v, cs = [v] ∧ Own d e w base S v xs
  len := by rintro w S x cs ⟨v, rfl, _⟩; rfl
  one := by
    rintro w S x cs ⟨v, rfl, h⟩ u hu
    obtain ⟨A, c, rfl, _⟩ := h.slice
    rw [List.mem_singleton.1 hu]; rfl
  mono := by rintro w S S' x cs hS ⟨v, rfl, h⟩; exact ⟨v, rfl, h.mono hS⟩
  bound := by rintro w S x cs ⟨v, rfl, h⟩; exact ⟨v, rfl, h.bound⟩
  move := by rintro w w' S x cs hm ⟨v, rfl, h⟩; exact ⟨v, rfl, h.move hm⟩
def kActO (base : Nat) : Kd Act := Kd.iso (Kd.pair Kd.int (Kd.pair (Kd.own 63 base kDeed) (Kd.pair (Kd.own 3 base Kd.int) Kd.int))) (fun x : Act => (x.kind, x.deeds, x.kids, x.reg))
def kBodyO (base : Nat) : Kd (List Act) := Kd.own 35 base (kActO base)
theorem kActO_sz (b : Nat) : (kActO b).sz = 4 := rfl
theorem kBodyO_sz (b : Nat) : (kBodyO b).sz = 1 := rfl
theorem kActO_open {b : Nat} {w : World} {S : Nat → Prop} {x : Act} {cs : List Value} (h : (kActO b).K w S x cs) :
    ∃ v u, cs = [.int .i64 x.kind, v, u, .int .i64 x.reg] ∧ Own kDeed 63 w b S v x.deeds ∧ Own Kd.int 3 w b S u x.kids ∧ i64 x.kind ∧ i64 x.reg := by
  obtain ⟨_, _, rfl, ⟨rfl, h1⟩, _, _, rfl, ⟨v, rfl, hv⟩, _, _, rfl, ⟨u, rfl, hu⟩, ⟨rfl, h2⟩⟩ := h
  exact ⟨v, u, rfl, hv, hu, h1, h2⟩
theorem kActO_mk {b : Nat} {w : World} {S : Nat → Prop} (x : Act) {v u : Value} (hv : Own kDeed 63 w b S v x.deeds) (hu : Own Kd.int 3 w b S u x.kids) (h1 : i64 x.kind) (h2 : i64 x.reg) : (kActO b).K w S x [.int .i64 x.kind, v, u, .int .i64 x.reg] :=
  ⟨[.int .i64 x.kind], _, rfl, ⟨rfl, h1⟩, [v], _, rfl, ⟨v, rfl, hv⟩, [u], _, rfl, ⟨u, rfl, hu⟩, ⟨rfl, h2⟩⟩
theorem kActO_read {b : Nat} {w : World} {S : Nat → Prop} {x : Act} {cs : List Value} (h : (kActO b).K w S x cs) : kAct.K w S x cs := by
  obtain ⟨v, u, rfl, hv, hu, h1, h2⟩ := kActO_open h
  obtain ⟨A, c, rfl, hc, hA⟩ := hv.row
  obtain ⟨B, e, rfl, he, hB⟩ := hu.row
  exact kAct_mk x hc he hA hB h1 h2
theorem Row.map {α : Type} {d d' : Kd α} {w : World} {S : Nat → Prop} {A : Option Addr} {xs : List α} (hs : d.sz = d'.sz) (hK : ∀ x cs, d.K w S x cs → d'.K w S x cs) (h : Row d w S A xs) : Row d' w S A xs :=
  ⟨h.1, fun hn => by
    obtain ⟨ad, e, hb, hl, hc⟩ := h.2 hn
    refine ⟨ad, e, hb, hl, fun j x hj => ?_⟩
    obtain ⟨c, hk, hcell⟩ := hc j x hj
    exact ⟨c, hK x c hk, by rw [← hs]; exact hcell⟩⟩
theorem kBodyO_read {b : Nat} {w : World} {S : Nat → Prop} {x : List Act} {cs : List Value} (h : (kBodyO b).K w S x cs) : (Kd.slice kAct).K w S x cs := by
  obtain ⟨v, rfl, hv⟩ := h
  obtain ⟨A, c, rfl, hc, hA⟩ := hv.row
  exact ⟨A, c, rfl, hc, Row.map (d := kActO b) (d' := kAct) rfl (fun x cs => kActO_read) hA⟩
theorem made_flatten (z : List Value) (hz : 0 < z.length) (n : Nat) : (madeCells z.toArray (n * z.length)).toList = (List.replicate n z).flatten := by
  have key : ∀ n, (List.range (n * z.length)).map (fun i => z[i % z.length]!) = (List.replicate n z).flatten := by
    intro n
    induction n with
    | zero => simp
    | succ n ih =>
      have e : List.replicate (n + 1) z = List.replicate n z ++ [z] := by rw [List.replicate_succ']
      rw [e, List.flatten_append, Nat.succ_mul, List.range_add, List.map_append, ih]
      congr 1
      simp only [List.flatten_cons, List.flatten_nil, List.append_nil, List.map_map]
      refine List.ext_getElem (by simp) fun i h1 h2 => ?_
      have hi : i < z.length := h2
      simp only [List.getElem_map, List.getElem_range, Function.comp]
      rw [Nat.add_comm, Nat.add_mul_mod_self_right, Nat.mod_eq_of_lt hi]
      simp [hi]
  rw [← key n]
  simp [madeCells]
theorem Own.zeros {α : Type} {d : Kd α} {e : Nat} {w : World} {base : Nat} {S : Nat → Prop} (n : Nat) (z : List Value) (x0 : α) (hz : z.length = d.sz) (h0 : 0 < d.sz) (hk : ∀ w S, d.K w S x0 z) (hb : base ≤ w.heap.size) (hS : S w.heap.size) (hn : n ≤ 9223372036854775807) :
    Own d e (w.alloc (.cells (madeCells z.toArray (n * d.sz)) e)) base S (.slice (some ⟨w.heap.size, 0, none⟩) n n) (List.replicate n x0) := by
  have hf := made_flatten z (by omega) n
  rw [hz] at hf
  have hl : ((List.replicate n z).flatten).length = n * d.sz := by rw [← hf]; simp [size_madeCells]
  refine own_intro (List.replicate n z) ⟨by rw [List.length_replicate]; exact hl, .inr ⟨w.heap.size, n, _, by simp, hb, heap_alloc_new w _, by simp, by simp only [_root_.Go.maxLen]; omega, by rw [size_madeCells], ?_⟩⟩ (by simp) (fun k hk => by simp [Value.ownBlock] at hk; rw [← hk]; exact hS) (fun j x hj => ?_)
  · rw [hf, List.length_replicate, List.take_of_length_le (by omega)]
  · have hjn : j < n := by have := (List.getElem?_eq_some_iff.1 hj).1; simpa using this
    rw [List.getElem?_replicate, if_pos hjn] at hj
    injection hj with hj
    subst hj
    exact ⟨z, by rw [List.getElem?_replicate, if_pos hjn], hk _ _⟩
/-- Element k of 'the first k, and zeros behind' is put. -/
theorem put_next {α : Type} (xs : List α) (x0 : α) (k : Nat) (h : k < xs.length) : (xs.take k ++ List.replicate (xs.length - k) x0).set k xs[k] = xs.take (k + 1) ++ List.replicate (xs.length - (k + 1)) x0 := by
  have e : xs.length - k = (xs.length - (k + 1)) + 1 := by omega
  rw [e, List.replicate_succ, List.set_append_right _ _ (by simp; omega), List.length_take, Nat.min_eq_left (by omega), Nat.sub_self, List.set_cons_zero, List.take_succ_eq_append_getElem h, List.append_assoc]
  rfl
theorem put_len {α : Type} (xs : List α) (x0 : α) (k : Nat) (h : k ≤ xs.length) : (xs.take k ++ List.replicate (xs.length - k) x0).length = xs.length := by simp; omega
theorem put_at {α : Type} (xs : List α) (x0 : α) (k : Nat) (h : k < xs.length) (h2 : k < (xs.take k ++ List.replicate (xs.length - k) x0).length) : (xs.take k ++ List.replicate (xs.length - k) x0)[k] = x0 := by
  rw [List.getElem_append_right (by simp; omega)]
  simp
end Go.Proofs.Ytcpabkfoalhldaa
namespace Go.Proofs.Ytcpabkfoalhldaa
open Go.RowKit
set_option linter.unusedVariables false
set_option linter.unusedSimpArgs false

theorem make_row {t e : TypeId} {z0 : Value} {sz bytes : Nat} (ht : Try.prog.underlying t = some (.slice e)) (hinfo : (Try.prog.info? e).map (fun i => (i.zero, i.size, i.bytes)) = some (some z0, sz, bytes)) (zs : List Value) (hz : z0.cells = zs.toArray) (n : Nat) (hn : bytes * n ≤ 281474976710656) (hm : n ≤ 9223372036854775807) (w : World) :
    (Instr.makeSlice t (.int .i64 n) (.int .i64 n)).run Try.prog w = .ok (.slice (some ⟨w.heap.size, 0, none⟩) n n) (w.alloc (.cells (madeCells zs.toArray (n * sz)) e)) := by
  cases h : Try.prog.info? e with
  | none => rw [h] at hinfo; cases hinfo
  | some i =>
    rw [h] at hinfo
    simp only [Option.map_some, Option.some.injEq, Prod.mk.injEq] at hinfo
    obtain ⟨h1, h2, h3⟩ := hinfo
    have := run_make (P := Try.prog) w t e i z0 ht h h1 .i64 .i64 n n (by omega) (by omega) (by rw [h3]; omega) (by omega)
    rw [hz, h2] at this
    simpa using this
section
variable {α : Type} {d : Kd α} {e : Nat} {w : World} {base : Nat} {S : Nat → Prop} {xs : List α} {x0 : α}
theorem Own.setN {g cap n : Nat} (h : Own d e w base S (.slice (some ⟨g, 0, none⟩) n cap) xs) (hn : n = xs.length) {j : Nat} (hj : j < xs.length) {i : Nat} (hi : i < d.sz) (u : Value) (y : α)
    (hy : ∀ c, d.K w (fun k => S k ∧ k ≠ g) xs[j] c → d.K w (fun k => S k ∧ k ≠ g) y (c.set i u)) :
    Own d e (w.setCell ⟨g, j * d.sz + i, none⟩ u) base S (.slice (some ⟨g, 0, none⟩) n cap) (xs.set j y) := by
  subst hn; exact Own.setAt h hj hi u y hy
theorem Own.next1 {g cap k : Nat} (h : Own d e w base S (.slice (some ⟨g, 0, none⟩) xs.length cap) (xs.take k ++ List.replicate (xs.length - k) x0)) (hsz : d.sz = 1) (hk : k < xs.length) (u : Value) (hy : d.K w (fun b => S b ∧ b ≠ g) xs[k] [u]) :
    Own d e (w.setCell ⟨g, k, none⟩ u) base S (.slice (some ⟨g, 0, none⟩) xs.length cap) (xs.take (k + 1) ++ List.replicate (xs.length - (k + 1)) x0) := by
  have hl := put_len xs x0 k (Nat.le_of_lt hk)
  have := Own.setN h hl.symm (j := k) (by omega) (i := 0) (by omega) u xs[k] (fun c hc => by
    have := d.len hc
    rw [hsz] at this
    match c, this with
    | [c0], _ => exact hy)
  rw [put_next xs x0 k hk, hsz, Nat.mul_one, Nat.add_zero] at this
  exact this
theorem Own.spot {g cap k i : Nat} (h : Own d e w base S (.slice (some ⟨g, 0, none⟩) xs.length cap) (xs.take k ++ List.replicate (xs.length - k) x0)) (hk : k < xs.length) (hi : i < d.sz) : (∃ v, w.cell? ⟨g, k * d.sz + i, none⟩ = some v) ∧ w.frozen? ⟨g, k * d.sz + i, none⟩ = false := by
  have hl := put_len xs x0 k (Nat.le_of_lt hk)
  have h' : Own d e w base S (.slice (some ⟨g, 0, none⟩) (xs.take k ++ List.replicate (xs.length - k) x0).length cap) (xs.take k ++ List.replicate (xs.length - k) x0) := by rw [hl]; exact h
  obtain ⟨c, hc, hcell, hf⟩ := Own.cellAt h' (j := k) (by omega)
  have hcl := d.len hc
  exact ⟨⟨c[i], hcell i _ (List.getElem?_eq_getElem (by omega))⟩, hf _⟩
end

/-- What a copy of a row is: the call's own, in new memory. -/
def Copied {α : Type} (d : Kd α) (e : Nat) (xs : List α) (w : World) (en : Ending) (w' : World) : Prop :=
  ∃ v, en = .returned v ∧ Own d e w' w.heap.size (fun k => w.heap.size ≤ k) v xs ∧ Below w.heap.size w w'

set_option maxHeartbeats 2000000 in
set_option maxRecDepth 100000 in
theorem toIntS_calls (xs : List Int) (A : Option Addr) (c : Nat) (w : World) (S : Nat → Prop) (hA : Row Kd.int w S A xs) (hn : xs.length ≤ 1048576) :
    Calls Try.prog 56 #[.slice A xs.length c] w (Copied Kd.int 3 xs w) := by
  have hmk := make_row Try.underlying23 infoInt [.int .i64 0] rfl xs.length (by omega) (by omega)
  have h00 : Own Kd.int 3 (w.alloc (.cells (madeCells [.int .i64 0].toArray (xs.length * 1)) 3)) w.heap.size (fun k => w.heap.size ≤ k) (.slice (some ⟨w.heap.size, 0, none⟩) xs.length xs.length) (List.replicate xs.length 0) := Own.zeros (d := Kd.int) xs.length [.int .i64 0] 0 rfl (by decide) (fun _ _ => ⟨rfl, by omega, by omega⟩) (Nat.le_refl _) (Nat.le_refl _) (by omega)
  have hb0 := bal' w (.cells (madeCells [.int .i64 0].toArray (xs.length * 1)) 3)
  go_enter Try.func56, Try.ntmps56
  go_wp2
  go_loopw [4] (fun i wr => ∃ k : Nat, k ≤ xs.length ∧ i = .int .i64 k ∧ Own Kd.int 3 wr w.heap.size (fun k => w.heap.size ≤ k) (.slice (some ⟨w.heap.size, 0, none⟩) xs.length xs.length) (xs.take k ++ List.replicate (xs.length - k) 0) ∧ Below w.heap.size w wr) (fun i _ => xs.length - (intOf i).toNat)
  case atStart => exact ⟨0, Nat.zero_le _, rfl, by simpa using h00, by simpa using hb0⟩
  case round =>
    obtain ⟨k, hk, rfl, ho, hbr⟩ := hrel
    clear h00 hb0 hmk
    by_cases hlt : k < xs.length
    · obtain ⟨ad, rfl, hl1, p0, hi1⟩ := at_int (hA.belowAll hbr) hlt
      have x1 : (k : Int) < xs.length := by omega
      have x3 : (0 : Int) ≤ k := by omega
      obtain ⟨⟨v0, s0⟩, s1⟩ := Own.spot ho hlt (i := 0) (by decide)
      simp only [kInt_sz, Nat.mul_one, Nat.add_zero] at s0 s1
      have ho2 := Own.next1 ho rfl hlt (.int .i64 xs[k]) ⟨rfl, hi1⟩
      have hb2 : Below w.heap.size w (wr.setCell ⟨w.heap.size, k, none⟩ (.int .i64 xs[k])) := hbr.setCell (by simp) _
      have HO := Lib.hid (And.intro ho2 hb2)
      clear ho ho2 hb2
      go_wp2
      go_roundw
      case rel => exact ⟨k + 1, by omega, by go_num, HO.out.1, HO.out.2⟩
      case measure => simp [intOf]; omega
    · obtain rfl : k = xs.length := by omega
      have e0 : xs.take xs.length ++ List.replicate (xs.length - xs.length) 0 = xs := by simp
      rw [e0] at ho
      go_wp2
      go_ret
      exact ⟨_, rfl, ho, hbr⟩
set_option maxHeartbeats 1000000 in
theorem toDeed_calls (k a b : Int) (w : World) : Calls Try.prog 142 #[.agg #[.int .i64 k, .int .i64 a, .int .i64 b]] w fun e w' => e = .returned (.agg #[.int .i64 k, .int .i64 a, .int .i64 b]) ∧ Below w.heap.size w w' := by
  have hb := fun o1 o2 o3 => ((bal2' w o1 o2).alloc (by simp; omega) o3)
  go_enter Try.func142, Try.ntmps142
  go_wp2
  refine bodyPost_ret (v := .agg #[.int .i64 k, .int .i64 a, .int .i64 b]) (by simp [results, Try.results142, go_sem]) rfl ⟨rfl, ?_⟩
  exact hb _ _ _
theorem kDeed_zero (w : World) (S : Nat → Prop) : kDeed.K w S ⟨0, 0, 0⟩ [.int .i64 0, .int .i64 0, .int .i64 0] := kDeed_mk w S ⟨0, 0, 0⟩ (by unfold i64; simp) (by unfold i64; simp) (by unfold i64; simp)
theorem Own.nextDeed {e : Nat} {w : World} {base : Nat} {S : Nat → Prop} {xs : List Deed} {g cap k : Nat} (h : Own kDeed e w base S (.slice (some ⟨g, 0, none⟩) xs.length cap) (xs.take k ++ List.replicate (xs.length - k) ⟨0, 0, 0⟩)) (hk : k < xs.length) (h1 : i64 xs[k].kind) (h2 : i64 xs[k].a) (h3 : i64 xs[k].b) :
    Own kDeed e (((w.setCell ⟨g, k * 3, none⟩ (.int .i64 xs[k].kind)).setCell ⟨g, k * 3 + 1, none⟩ (.int .i64 xs[k].a)).setCell ⟨g, k * 3 + 2, none⟩ (.int .i64 xs[k].b)) base S (.slice (some ⟨g, 0, none⟩) xs.length cap) (xs.take (k + 1) ++ List.replicate (xs.length - (k + 1)) ⟨0, 0, 0⟩) := by
  have hl := put_len xs ⟨0, 0, 0⟩ k (Nat.le_of_lt hk)
  have hz := put_at xs ⟨0, 0, 0⟩ k hk (by omega)
  have z0 : i64 0 := by unfold i64; simp
  have a1 := Own.setN h hl.symm (j := k) (by omega) (i := 0) (by decide) (.int .i64 xs[k].kind) ⟨xs[k].kind, 0, 0⟩ (fun c hc => by
    rw [hz] at hc
    obtain ⟨rfl, _⟩ := kDeed_open hc
    exact kDeed_mk _ _ ⟨xs[k].kind, 0, 0⟩ h1 z0 z0)
  have a2 := Own.setN a1 (by simp; omega) (j := k) (by simp; omega) (i := 1) (by decide) (.int .i64 xs[k].a) ⟨xs[k].kind, xs[k].a, 0⟩ (fun c hc => by
    simp only [List.getElem_set_self] at hc
    obtain ⟨rfl, _⟩ := kDeed_open hc
    exact kDeed_mk _ _ ⟨xs[k].kind, xs[k].a, 0⟩ h1 h2 z0)
  have a3 := Own.setN a2 (by simp; omega) (j := k) (by simp; omega) (i := 2) (by decide) (.int .i64 xs[k].b) xs[k] (fun c hc => by
    simp only [List.getElem_set_self] at hc
    obtain ⟨rfl, _⟩ := kDeed_open hc
    exact kDeed_mk _ _ xs[k] h1 h2 h3)
  rw [List.set_set, List.set_set, put_next xs ⟨0, 0, 0⟩ k hk] at a3
  exact a3
set_option maxHeartbeats 2000000 in
set_option maxRecDepth 100000 in
theorem toDeedS_calls (xs : List Deed) (A : Option Addr) (c : Nat) (w : World) (S : Nat → Prop) (hA : Row kDeed w S A xs) (hn : xs.length ≤ 1048576) :
    Calls Try.prog 128 #[.slice A xs.length c] w (Copied kDeed 63 xs w) := by
  have hmk := make_row Try.underlying33 infoDeed [.int .i64 0, .int .i64 0, .int .i64 0] rfl xs.length (by omega) (by omega)
  have h00 : Own kDeed 63 (w.alloc (.cells (madeCells [.int .i64 0, .int .i64 0, .int .i64 0].toArray (xs.length * 3)) 63)) w.heap.size (fun k => w.heap.size ≤ k) (.slice (some ⟨w.heap.size, 0, none⟩) xs.length xs.length) (List.replicate xs.length ⟨0, 0, 0⟩) := Own.zeros (d := kDeed) xs.length _ _ rfl (by decide) kDeed_zero (Nat.le_refl _) (Nat.le_refl _) (by omega)
  have hb0 := bal' w (.cells (madeCells [.int .i64 0, .int .i64 0, .int .i64 0].toArray (xs.length * 3)) 63)
  go_enter Try.func128, Try.ntmps128
  go_wp2
  go_loopw [4] (fun i wr => ∃ k : Nat, k ≤ xs.length ∧ i = .int .i64 k ∧ Own kDeed 63 wr w.heap.size (fun k => w.heap.size ≤ k) (.slice (some ⟨w.heap.size, 0, none⟩) xs.length xs.length) (xs.take k ++ List.replicate (xs.length - k) ⟨0, 0, 0⟩) ∧ Below w.heap.size w wr) (fun i _ => xs.length - (intOf i).toNat)
  case atStart => exact ⟨0, Nat.zero_le _, rfl, by simpa using h00, by simpa using hb0⟩
  case round =>
    obtain ⟨k, hk, rfl, ho, hbr⟩ := hrel
    clear h00 hb0 hmk
    by_cases hlt : k < xs.length
    · obtain ⟨ad, rfl, hl1, p0, p1, p2, i1, i2, i3⟩ := at_deed (hA.belowAll hbr) hlt
      have x1 : (k : Int) < xs.length := by omega
      have x3 : (0 : Int) ≤ k := by omega
      have HO := Lib.hid ho
      have HB := Lib.hid hbr
      clear ho hbr
      go_wp2_with (go_at_call 142; refine (toDeed_calls _ _ _ _).mono ?_; rintro e w1 ⟨rfl, hb1⟩; have ho1 := HO.out.belowAll hb1; obtain ⟨⟨v0, s0⟩, s1⟩ := Own.spot ho1 hlt (i := 0) (by decide); obtain ⟨⟨v1, s2⟩, s3⟩ := Own.spot ho1 hlt (i := 1) (by decide); obtain ⟨⟨v2, s4⟩, s5⟩ := Own.spot ho1 hlt (i := 2) (by decide); simp only [kDeed_sz, Nat.add_zero] at s0 s1 s2 s3 s4 s5; have ho2 := Own.nextDeed ho1 hlt i1 i2 i3; have hb2 := below_then HB.out HB.out.size hb1; have HO2 := Lib.hid (And.intro ho2 hb2); clear ho1 ho2 hb2)
      have hb3 := ((HO2.out.2.setCell (p := ⟨w.heap.size, k * 3, none⟩) (Nat.le_refl _) (.int .i64 xs[k].kind)).setCell (p := ⟨w.heap.size, k * 3 + 1, none⟩) (Nat.le_refl _) (.int .i64 xs[k].a)).setCell (p := ⟨w.heap.size, k * 3 + 2, none⟩) (Nat.le_refl _) (.int .i64 xs[k].b)
      exact ⟨⟨k + 1, by omega, by go_num, HO2.out.1, hb3⟩, by simp [intOf]; omega⟩
    · obtain rfl : k = xs.length := by omega
      have e0 : xs.take xs.length ++ List.replicate (xs.length - xs.length) (⟨0, 0, 0⟩ : Deed) = xs := by simp
      rw [e0] at ho
      go_wp2
      go_ret
      exact ⟨_, rfl, ho, hbr⟩
theorem heap_set_row {w : World} {b i : Nat} {cs : Array Value} {t : TypeId} (h : w.heap[b]? = some (.cells cs t (0, 0))) (u : Value) : (w.setCell ⟨b, i, none⟩ u).heap[b]? = some (.cells (cs.setIfInBounds i u) t (0, 0)) := by
  simp [World.setCell, Array.getElem?_modify, h]
theorem heap_set_far {w : World} {b b2 i : Nat} {o : Option Obj} (h : w.heap[b]? = o) (u : Value) (hn : b ≠ b2) : (w.setCell ⟨b2, i, none⟩ u).heap[b]? = o := (Below.heap_setCell w _ u b hn).trans h
theorem three_news (w : World) (o1 o2 o3 : Obj) : (((w.alloc o1).alloc o2).alloc o3).heap[w.heap.size]? = some o1 ∧ (((w.alloc o1).alloc o2).alloc o3).heap[w.heap.size + 1]? = some o2 ∧ (((w.alloc o1).alloc o2).alloc o3).heap[w.heap.size + 1 + 1]? = some o3 := by
  refine ⟨(Below.heap_alloc _ o3 _ (by simp; omega)).trans (World.alloc2_first w o1 o2), (Below.heap_alloc _ o3 _ (by simp)).trans (heap_new2' w o1 o2), ?_⟩
  have := heap_alloc_new ((w.alloc o1).alloc o2) o3
  simpa using this
set_option maxHeartbeats 2000000 in
set_option maxRecDepth 100000 in
theorem toAct_calls (x : Act) (A B : Option Addr) (c d : Nat) (w : World) (S : Nat → Prop) (hA : Row kDeed w S A x.deeds) (hB : Row Kd.int w S B x.kids) (hS : ∀ k, S k → k < w.heap.size) (hn : x.deeds.length ≤ 1048576) (hm : x.kids.length ≤ 1048576) :
    Calls Try.prog 104 #[.agg #[.int .i64 x.kind, .slice A x.deeds.length c, .slice B x.kids.length d, .int .i64 x.reg]] w fun e w' => ∃ v u, e = .returned (.agg #[.int .i64 x.kind, v, u, .int .i64 x.reg]) ∧ Own kDeed 63 w' w.heap.size (fun k => w.heap.size ≤ k) v x.deeds ∧ Own Kd.int 3 w' w.heap.size (fun k => w.heap.size ≤ k) u x.kids ∧ Below w.heap.size w w' := by
  have hb := fun o1 o2 o3 => ((bal2' w o1 o2).alloc (by simp; omega) o3)
  have hN := three_news w
  have HA := fun o1 o2 o3 => Lib.hid (hA.belowAll (hb o1 o2 o3))
  have HB := fun o1 o2 o3 => Lib.hid (hB.belowAll (hb o1 o2 o3))
  clear hA
  go_enter Try.func104, Try.ntmps104
  go_wp2_with (first
    | (go_at_call 128; refine (toDeedS_calls x.deeds _ _ _ S (HA _ _ _).out hn).mono ?_; rintro e w1 ⟨v, rfl, ho1, hb1⟩; have z1 := hb1.size; (try simp at z1); have f1 := (hb1.block w.heap.size (by simp; omega)).trans (hN _ _ _).1; have f2 := (hb1.block (w.heap.size + 1) (by simp)).trans (hN _ _ _).2.1; have f3 := (hb1.block (w.heap.size + 1 + 1) (by simp)).trans (hN _ _ _).2.2; obtain ⟨A1, c1, rfl, hc1⟩ := ho1.slice; have e1 := cell_of_row _ _ 1 _ _ _ f3; have e2 := frozen_of_row f3; have g1 := heap_set_far (i := 1) (b2 := w.heap.size + 1 + 1) f1 (.slice A1 x.deeds.length c1) (by omega); have g2 := heap_set_far (i := 1) (b2 := w.heap.size + 1 + 1) f2 (.slice A1 x.deeds.length c1) (by omega); have g3 := heap_set_row (i := 1) f3 (.slice A1 x.deeds.length c1); have e3 := cell_of_row _ _ 2 _ _ _ g1; simp at e1 e3 g3; have hw1 := (below_then (hb _ _ _) (by simp; omega) hb1).setCell (p := ⟨w.heap.size + 1 + 1, 1, none⟩) (by show w.heap.size ≤ w.heap.size + 1 + 1; omega) (.slice A1 x.deeds.length c1); have ho1' := ho1.step (w' := w1.setCell ⟨w.heap.size + 1 + 1, 1, none⟩ (.slice A1 x.deeds.length c1)) (fun k hk _ => Below.heap_setCell w1 _ _ k (by intro e; have e : k = w.heap.size + 1 + 1 := e; simp at hk; omega)); have hBB := hB.below hw1 (fun k hk _ => hS k hk)) | (go_at_call 56; refine (toIntS_calls x.kids _ _ _ S hBB hm).mono ?_; rintro e w2 ⟨u, rfl, ho2, hb2⟩; have z2 := hb2.size; (try simp at z2); have k1 := (hb2.block w.heap.size (by simp; omega)).trans g1; have k2 := (hb2.block (w.heap.size + 1) (by simp; omega)).trans g2; have k3 := (hb2.block (w.heap.size + 1 + 1) (by simp; omega)).trans g3; obtain ⟨A2, c2, rfl, hc2⟩ := ho2.slice; have n1 := cell_of_row _ _ 2 _ _ _ k3; have n2 := frozen_of_row k3; have l1 := heap_set_far (i := 2) (b2 := w.heap.size + 1 + 1) k1 (.slice A2 x.kids.length c2) (by omega); have l2 := heap_set_far (i := 2) (b2 := w.heap.size + 1 + 1) k2 (.slice A2 x.kids.length c2) (by omega); have l3 := heap_set_row (i := 2) k3 (.slice A2 x.kids.length c2); have n3 := cell_of_row _ _ 3 _ _ _ l1; have n4 := cell_of_row _ _ 3 _ _ _ l3; have n5 := frozen_of_row l3; have p2 := heap_set_far (i := 3) (b2 := w.heap.size + 1 + 1) l2 (.int .i64 x.reg) (by omega); have p3 := heap_set_row (i := 3) l3 (.int .i64 x.reg); have r0 := cell_of_row _ _ 0 _ _ _ p3; have r1 := cell_of_row _ _ 1 _ _ _ p3; have r2 := cell_of_row _ _ 2 _ _ _ p3; have r3 := cell_of_row _ _ 3 _ _ _ p3; have q0 := cell_of_row _ _ 0 _ _ _ p2; have q1 := cell_of_row _ _ 1 _ _ _ p2; have q2 := cell_of_row _ _ 2 _ _ _ p2; have q3 := cell_of_row _ _ 3 _ _ _ p2; have q4 := frozen_of_row p2; simp at n1 n3 n4 r0 r1 r2 r3 q0 q1 q2 q3))
  have hk := Keep.setCell (T := fun k => k = w.heap.size + 1 + 1 ∨ k = w.heap.size + 1) (p := ⟨w.heap.size + 1 + 1, 3, none⟩) (Keep.setCell (T := fun k => k = w.heap.size + 1 + 1 ∨ k = w.heap.size + 1) (p := ⟨w.heap.size + 1 + 1, 2, none⟩) (Keep.refl _ w2) (fun _ => .inl rfl) (.slice A2 x.kids.length c2)) (fun _ => .inl rfl) (.int .i64 x.reg)
  have hk2 := Keep.setCell (T := fun k => k = w.heap.size + 1 + 1 ∨ k = w.heap.size + 1) (p := ⟨w.heap.size + 1, 3, none⟩) (Keep.setCell (T := fun k => k = w.heap.size + 1 + 1 ∨ k = w.heap.size + 1) (p := ⟨w.heap.size + 1, 2, none⟩) (Keep.setCell (T := fun k => k = w.heap.size + 1 + 1 ∨ k = w.heap.size + 1) (p := ⟨w.heap.size + 1, 1, none⟩) (Keep.setCell (T := fun k => k = w.heap.size + 1 + 1 ∨ k = w.heap.size + 1) (p := ⟨w.heap.size + 1, 0, none⟩) hk (fun _ => .inr rfl) (.int .i64 x.kind)) (fun _ => .inr rfl) (.slice A1 x.deeds.length c1)) (fun _ => .inr rfl) (.slice A2 x.kids.length c2)) (fun _ => .inr rfl) (.int .i64 x.reg)
  have hkk : ∀ k, w.heap.size + 1 + 1 + 1 ≤ k → ¬ (k = w.heap.size + 1 + 1 ∨ k = w.heap.size + 1) := fun k hk => by omega
  refine bodyPost_ret (v := .agg #[.int .i64 x.kind, .slice A1 x.deeds.length c1, .slice A2 x.kids.length c2, .int .i64 x.reg]) (by simp [results, Try.results104, go_sem, q0, q1, q2, q3, q4]) rfl ⟨_, _, rfl, ?_, ?_, ?_⟩
  · exact (((ho1'.belowAll hb2).step (fun k hs hl => hk2.block k hl (hkk k (by simpa using hs)))).lower (by simp; omega)).mono (fun k hk => by simp at hk; omega)
  · exact ((ho2.step (fun k hs hl => hk2.block k hl (hkk k (by simp at hs; omega)))).lower (by simp; omega)).mono (fun k hk => by simp at hk; omega)
  · have hb9 := below_then hw1 (by simp; omega) hb2
    exact hb9.trans (hk2.below (fun k hk e => by omega) hb9.size)
end Go.Proofs.Ytcpabkfoalhldaa
namespace Go.Proofs.Ytcpabkfoalhldaa
open Go.RowKit
set_option linter.unusedVariables false
set_option linter.unusedSimpArgs false

theorem Own.map {α : Type} {d d' : Kd α} {e : Nat} {w : World} {base : Nat} {S : Nat → Prop} {v : Value} {xs : List α} (hs : d.sz = d'.sz) (hK : ∀ S x cs, d.K w S x cs → d'.K w S x cs) (h : Own d e w base S v xs) : Own d' e w base S v xs := by
  obtain ⟨css, h1, h2, h3, h4⟩ := h
  refine own_intro css (by rw [← hs]; exact h1) h2 h3 fun j x hj => ?_
  obtain ⟨c, hc, hk⟩ := h4 j x hj
  exact ⟨c, hc, hK _ _ _ hk⟩
theorem kActO_lower {b b' : Nat} (hb : b' ≤ b) {w : World} {S : Nat → Prop} {x : Act} {cs : List Value} (h : (kActO b).K w S x cs) : (kActO b').K w S x cs := by
  obtain ⟨v, u, rfl, hv, hu, h1, h2⟩ := kActO_open h
  exact kActO_mk x (hv.lower hb) (hu.lower hb) h1 h2
theorem kActO_zero (b : Nat) (w : World) (S : Nat → Prop) : (kActO b).K w S ⟨0, [], [], 0⟩ [.int .i64 0, .slice none 0 0, .slice none 0 0, .int .i64 0] := kActO_mk ⟨0, [], [], 0⟩ (Own.nil _ _ _ _ _) (Own.nil _ _ _ _ _) (by unfold i64; simp) (by unfold i64; simp)
theorem Own.nextAct {e b : Nat} {w : World} {base : Nat} {S : Nat → Prop} {xs : List Act} {g cap k : Nat} (h : Own (kActO b) e w base S (.slice (some ⟨g, 0, none⟩) xs.length cap) (xs.take k ++ List.replicate (xs.length - k) ⟨0, [], [], 0⟩)) (hk : k < xs.length) (h1 : i64 xs[k].kind) (h2 : i64 xs[k].reg) {v u : Value}
    (hv : Own kDeed 63 w b (fun k => S k ∧ k ≠ g) v xs[k].deeds) (hu : Own Kd.int 3 w b (fun k => S k ∧ k ≠ g) u xs[k].kids) :
    Own (kActO b) e ((((w.setCell ⟨g, k * 4, none⟩ (.int .i64 xs[k].kind)).setCell ⟨g, k * 4 + 1, none⟩ v).setCell ⟨g, k * 4 + 2, none⟩ u).setCell ⟨g, k * 4 + 3, none⟩ (.int .i64 xs[k].reg)) base S (.slice (some ⟨g, 0, none⟩) xs.length cap) (xs.take (k + 1) ++ List.replicate (xs.length - (k + 1)) ⟨0, [], [], 0⟩) := by
  have hl := put_len xs ⟨0, [], [], 0⟩ k (Nat.le_of_lt hk)
  have hz := put_at xs ⟨0, [], [], 0⟩ k hk (by omega)
  have z0 : i64 0 := by unfold i64; simp
  have mv : ∀ {α : Type} {d : Kd α} {e' : Nat} {v' : Value} {l : List α} {w1 : World} (o : Nat) (x : Value), Own d e' w1 b (fun k => S k ∧ k ≠ g) v' l → Own d e' (w1.setCell ⟨g, o, none⟩ x) b (fun k => S k ∧ k ≠ g) v' l := fun o x h => h.step fun k hs _ => Below.heap_setCell _ _ x k hs.2
  have a1 := Own.setN h hl.symm (j := k) (by omega) (i := 0) (by show 0 < 4; omega) (.int .i64 xs[k].kind) ⟨xs[k].kind, [], [], 0⟩ (fun c hc => by
    rw [hz] at hc
    obtain ⟨v', u', rfl, hv', hu', _⟩ := kActO_open hc
    exact kActO_mk ⟨xs[k].kind, [], [], 0⟩ hv' hu' h1 z0)
  have v1 := mv (k * 4 + 0) (.int .i64 xs[k].kind) hv
  have u1 := mv (k * 4 + 0) (.int .i64 xs[k].kind) hu
  have a2 := Own.setN a1 (by simp; omega) (j := k) (by simp; omega) (i := 1) (by show 1 < 4; omega) v ⟨xs[k].kind, xs[k].deeds, [], 0⟩ (fun c hc => by
    simp only [List.getElem_set_self] at hc
    obtain ⟨v', u', rfl, hv', hu', _⟩ := kActO_open hc
    exact kActO_mk ⟨xs[k].kind, xs[k].deeds, [], 0⟩ v1 hu' h1 z0)
  have v2 := mv (k * 4 + 1) v v1
  have u2 := mv (k * 4 + 1) v u1
  have a3 := Own.setN a2 (by simp; omega) (j := k) (by simp; omega) (i := 2) (by show 2 < 4; omega) u ⟨xs[k].kind, xs[k].deeds, xs[k].kids, 0⟩ (fun c hc => by
    simp only [List.getElem_set_self] at hc
    obtain ⟨v', u', rfl, hv', hu', _⟩ := kActO_open hc
    exact kActO_mk ⟨xs[k].kind, xs[k].deeds, xs[k].kids, 0⟩ hv' u2 h1 z0)
  have v3 := mv (k * 4 + 2) u v2
  have u3 := mv (k * 4 + 2) u u2
  have a4 := Own.setN a3 (by simp; omega) (j := k) (by simp; omega) (i := 3) (by show 3 < 4; omega) (.int .i64 xs[k].reg) xs[k] (fun c hc => by
    simp only [List.getElem_set_self] at hc
    obtain ⟨v', u', rfl, hv', hu', _⟩ := kActO_open hc
    exact kActO_mk xs[k] hv' hu' h1 h2)
  rw [List.set_set, List.set_set, List.set_set, put_next xs ⟨0, [], [], 0⟩ k hk] at a4
  exact a4
set_option maxHeartbeats 2000000 in
set_option maxRecDepth 100000 in
theorem toActS_calls (xs : List Act) (A : Option Addr) (c : Nat) (w : World) (S : Nat → Prop) (hA : Row kAct w S A xs) (hS : ∀ k, S k → k < w.heap.size) (hn : xs.length ≤ 1048576) (ha : ∀ a ∈ xs, a.deeds.length ≤ 1048576 ∧ a.kids.length ≤ 1048576) :
    Calls Try.prog 84 #[.slice A xs.length c] w (Copied (kActO w.heap.size) 35 xs w) := by
  have hmk := make_row Try.underlying32 infoAct [.int .i64 0, .slice none 0 0, .slice none 0 0, .int .i64 0] rfl xs.length (by omega) (by omega)
  have h00 : Own (kActO w.heap.size) 35 (w.alloc (.cells (madeCells [.int .i64 0, .slice none 0 0, .slice none 0 0, .int .i64 0].toArray (xs.length * 4)) 35)) w.heap.size (fun k => w.heap.size ≤ k) (.slice (some ⟨w.heap.size, 0, none⟩) xs.length xs.length) (List.replicate xs.length ⟨0, [], [], 0⟩) := Own.zeros (d := kActO w.heap.size) xs.length _ _ rfl (by show 0 < 4; omega) (kActO_zero w.heap.size) (Nat.le_refl _) (Nat.le_refl _) (by omega)
  have hb0 := bal' w (.cells (madeCells [.int .i64 0, .slice none 0 0, .slice none 0 0, .int .i64 0].toArray (xs.length * 4)) 35)
  go_enter Try.func84, Try.ntmps84
  go_wp2
  go_loopw [4] (fun i wr => ∃ k : Nat, k ≤ xs.length ∧ i = .int .i64 k ∧ Own (kActO w.heap.size) 35 wr w.heap.size (fun k => w.heap.size ≤ k) (.slice (some ⟨w.heap.size, 0, none⟩) xs.length xs.length) (xs.take k ++ List.replicate (xs.length - k) ⟨0, [], [], 0⟩) ∧ Below w.heap.size w wr ∧ w.heap.size < wr.heap.size) (fun i _ => xs.length - (intOf i).toNat)
  case atStart => exact ⟨0, Nat.zero_le _, rfl, by simpa using h00, by simpa using hb0, by simp⟩
  case round =>
    obtain ⟨k, hk, rfl, ho, hbr, hsl⟩ := hrel
    clear h00 hb0 hmk
    by_cases hlt : k < xs.length
    · obtain ⟨ad, D, cd, E, ce, rfl, hl1, p0, p1, p2, p3, hcd, hce, hD, hE, i1, i2⟩ := at_act (hA.belowAll hbr) hlt
      have x1 : (k : Int) < xs.length := by omega
      have x3 : (0 : Int) ≤ k := by omega
      have hx := ha _ (List.getElem_mem hlt)
      have HO := Lib.hid ho
      have HB := Lib.hid hbr
      clear ho hbr
      go_wp2_with (go_at_call 104; refine (toAct_calls xs[k] _ _ _ _ _ S hD hE (fun k hk => Nat.lt_trans (hS k hk) hsl) hx.1 hx.2).mono ?_; rintro e w1 ⟨v, u, rfl, hv, hu, hb1⟩; obtain ⟨A1, c1, rfl, hc1⟩ := hv.slice; obtain ⟨A2, c2, rfl, hc2⟩ := hu.slice; have ho1 := HO.out.belowAll hb1; obtain ⟨⟨v0, s0⟩, s1⟩ := Own.spot ho1 hlt (i := 0) (by show 0 < 4; omega); obtain ⟨⟨v1, s2⟩, s3⟩ := Own.spot ho1 hlt (i := 1) (by show 1 < 4; omega); obtain ⟨⟨v2, s4⟩, s5⟩ := Own.spot ho1 hlt (i := 2) (by show 2 < 4; omega); obtain ⟨⟨v3, s6⟩, s7⟩ := Own.spot ho1 hlt (i := 3) (by show 3 < 4; omega); simp only [kActO_sz, Nat.add_zero] at s0 s1 s2 s3 s4 s5 s6 s7; have ho2 := Own.nextAct ho1 hlt i1 i2 ((hv.lower (by omega)).mono (fun k hk => ⟨by omega, by omega⟩)) ((hu.lower (by omega)).mono (fun k hk => ⟨by omega, by omega⟩)); have hb2 := below_then HB.out HB.out.size hb1; have hz1 := hb1.size; have HO2 := Lib.hid (And.intro ho2 hb2); clear ho1 ho2 hb2 hv hu)
      have hb3 := (((HO2.out.2.setCell (p := ⟨w.heap.size, k * 4, none⟩) (Nat.le_refl _) (.int .i64 xs[k].kind)).setCell (p := ⟨w.heap.size, k * 4 + 1, none⟩) (Nat.le_refl _) (.slice A1 xs[k].deeds.length c1)).setCell (p := ⟨w.heap.size, k * 4 + 2, none⟩) (Nat.le_refl _) (.slice A2 xs[k].kids.length c2)).setCell (p := ⟨w.heap.size, k * 4 + 3, none⟩) (Nat.le_refl _) (.int .i64 xs[k].reg)
      exact ⟨⟨k + 1, by omega, by go_num, HO2.out.1, hb3, by simp; omega⟩, by simp [intOf]; omega⟩
    · obtain rfl : k = xs.length := by omega
      have e0 : xs.take xs.length ++ List.replicate (xs.length - xs.length) (⟨0, [], [], 0⟩ : Act) = xs := by simp
      rw [e0] at ho
      go_wp2
      go_ret
      exact ⟨_, rfl, ho, hbr⟩
set_option maxHeartbeats 2000000 in
set_option maxRecDepth 100000 in
theorem toActSS_calls (xs : List (List Act)) (A : Option Addr) (c : Nat) (w : World) (S : Nat → Prop) (hA : Row (Kd.slice kAct) w S A xs) (hS : ∀ k, S k → k < w.heap.size) (hn : xs.length ≤ 1048576) (ha : ∀ l ∈ xs, l.length ≤ 1048576 ∧ ∀ a ∈ l, a.deeds.length ≤ 1048576 ∧ a.kids.length ≤ 1048576) :
    Calls Try.prog 57 #[.slice A xs.length c] w (Copied (kBodyO w.heap.size) 32 xs w) := by
  have hmk := make_row Try.underlying24 infoActS [.slice none 0 0] rfl xs.length (by omega) (by omega)
  have h00 : Own (kBodyO w.heap.size) 32 (w.alloc (.cells (madeCells [.slice none 0 0].toArray (xs.length * 1)) 32)) w.heap.size (fun k => w.heap.size ≤ k) (.slice (some ⟨w.heap.size, 0, none⟩) xs.length xs.length) (List.replicate xs.length []) := Own.zeros (d := kBodyO w.heap.size) xs.length _ _ rfl (by show 0 < 1; omega) (fun w S => ⟨_, rfl, Own.nil _ _ _ _ _⟩) (Nat.le_refl _) (Nat.le_refl _) (by omega)
  have hb0 := bal' w (.cells (madeCells [.slice none 0 0].toArray (xs.length * 1)) 32)
  go_enter Try.func57, Try.ntmps57
  go_wp2
  go_loopw [4] (fun i wr => ∃ k : Nat, k ≤ xs.length ∧ i = .int .i64 k ∧ Own (kBodyO w.heap.size) 32 wr w.heap.size (fun k => w.heap.size ≤ k) (.slice (some ⟨w.heap.size, 0, none⟩) xs.length xs.length) (xs.take k ++ List.replicate (xs.length - k) []) ∧ Below w.heap.size w wr ∧ w.heap.size < wr.heap.size) (fun i _ => xs.length - (intOf i).toNat)
  case atStart => exact ⟨0, Nat.zero_le _, rfl, by simpa using h00, by simpa using hb0, by simp⟩
  case round =>
    obtain ⟨k, hk, rfl, ho, hbr, hsl⟩ := hrel
    clear h00 hb0 hmk
    by_cases hlt : k < xs.length
    · obtain ⟨ad, B, cb, rfl, hl1, p0, hlc, hr⟩ := at_slice (hA.belowAll hbr) hlt
      have x1 : (k : Int) < xs.length := by omega
      have x3 : (0 : Int) ≤ k := by omega
      have hx := ha _ (List.getElem_mem hlt)
      have HO := Lib.hid ho
      have HB := Lib.hid hbr
      clear ho hbr
      go_wp2_with (go_at_call 84; refine (toActS_calls xs[k] _ _ _ S hr (fun k hk => Nat.lt_trans (hS k hk) hsl) hx.1 hx.2).mono ?_; rintro e w1 ⟨v, rfl, hv, hb1⟩; obtain ⟨A1, c1, rfl, hc1⟩ := hv.slice; have ho1 := HO.out.belowAll hb1; obtain ⟨⟨v0, s0⟩, s1⟩ := Own.spot ho1 hlt (i := 0) (by show 0 < 1; omega); simp only [kBodyO_sz, Nat.mul_one, Nat.add_zero] at s0 s1; have ho2 := Own.next1 ho1 rfl hlt (.slice A1 xs[k].length c1) ⟨_, rfl, ((Own.map (d := kActO wr.heap.size) (d' := kActO w.heap.size) rfl (fun S x cs h => kActO_lower (Nat.le_of_lt hsl) h) hv).lower (by omega)).mono (fun k hk => ⟨by omega, by omega⟩)⟩; have hb2 := below_then HB.out HB.out.size hb1; have hz1 := hb1.size; have HO2 := Lib.hid (And.intro ho2 hb2); clear ho1 ho2 hb2 hv)
      have hb3 := HO2.out.2.setCell (p := ⟨w.heap.size, k, none⟩) (Nat.le_refl _) (.slice A1 xs[k].length c1)
      exact ⟨⟨k + 1, by omega, by go_num, HO2.out.1, hb3, by simp; omega⟩, by simp [intOf]; omega⟩
    · obtain rfl : k = xs.length := by omega
      have e0 : xs.take xs.length ++ List.replicate (xs.length - xs.length) ([] : List Act) = xs := by simp
      rw [e0] at ho
      go_wp2
      go_ret
      exact ⟨_, rfl, ho, hbr⟩
end Go.Proofs.Ytcpabkfoalhldaa
namespace Go.Proofs.Ytcpabkfoalhldaa
open Go.RowKit
set_option linter.unusedVariables false
set_option linter.unusedSimpArgs false

theorem kBodyO_lower {b b' : Nat} (hb : b' ≤ b) {w : World} {S : Nat → Prop} {x : List Act} {cs : List Value} (h : (kBodyO b).K w S x cs) : (kBodyO b').K w S x cs := by
  obtain ⟨v, rfl, hv⟩ := h
  exact ⟨v, rfl, (Own.map (d := kActO b) (d' := kActO b') rfl (fun S x cs h => kActO_lower hb h) hv).lower hb⟩
theorem Own.bodyLower {b b' e base : Nat} {w : World} {S : Nat → Prop} {v : Value} {xs : List (List Act)} (h : Own (kBodyO b) e w base S v xs) (hb : b' ≤ b) : Own (kBodyO b') e w base S v xs := Own.map (d := kBodyO b) (d' := kBodyO b') rfl (fun S x cs h => kBodyO_lower hb h) h
/-- A program in memory of its own, from block B on. -/
structure ProgO (p : Prog) (B : Nat) (v : Value) (w : World) : Prop where
  ex : ∃ C D cc cd, v = .agg #[.slice C p.cells.length cc, .slice D p.bodies.length cd] ∧ Own Kd.int 3 w B (fun k => B ≤ k) (.slice C p.cells.length cc) p.cells ∧ Own (kBodyO B) 32 w B (fun k => B ≤ k) (.slice D p.bodies.length cd) p.bodies
set_option maxHeartbeats 2000000 in
set_option maxRecDepth 100000 in
theorem toProg_calls (p : Prog) (A B : Option Addr) (c d : Nat) (w : World) (S : Nat → Prop) (hA : Row Kd.int w S A p.cells) (hB : Row (Kd.slice kAct) w S B p.bodies) (hS : ∀ k, S k → k < w.heap.size) (hn : p.cells.length ≤ 1048576) (hm : p.bodies.length ≤ 1048576) (ha : ∀ l ∈ p.bodies, l.length ≤ 1048576 ∧ ∀ a ∈ l, a.deeds.length ≤ 1048576 ∧ a.kids.length ≤ 1048576) :
    Calls Try.prog 26 #[.agg #[.slice A p.cells.length c, .slice B p.bodies.length d]] w fun e w' => ∃ v, e = .returned v ∧ ProgO p w.heap.size v w' ∧ Below w.heap.size w w' := by
  have hb := fun o1 o2 o3 => ((bal2' w o1 o2).alloc (by simp; omega) o3)
  have hN := three_news w
  have HA := fun o1 o2 o3 => Lib.hid (hA.belowAll (hb o1 o2 o3))
  clear hA
  go_enter Try.func26, Try.ntmps26
  go_wp2_with (first
    | (go_at_call 56; refine (toIntS_calls p.cells _ _ _ S (HA _ _ _).out hn).mono ?_; rintro e w1 ⟨v, rfl, ho1, hb1⟩; have z1 := hb1.size; (try simp at z1); have f1 := (hb1.block w.heap.size (by simp; omega)).trans (hN _ _ _).1; have f2 := (hb1.block (w.heap.size + 1) (by simp)).trans (hN _ _ _).2.1; have f3 := (hb1.block (w.heap.size + 1 + 1) (by simp)).trans (hN _ _ _).2.2; obtain ⟨A1, c1, rfl, hc1⟩ := ho1.slice; have e1 := cell_of_row _ _ 0 _ _ _ f3; have e2 := frozen_of_row f3; have g1 := heap_set_far (i := 0) (b2 := w.heap.size + 1 + 1) f1 (.slice A1 p.cells.length c1) (by omega); have g2 := heap_set_far (i := 0) (b2 := w.heap.size + 1 + 1) f2 (.slice A1 p.cells.length c1) (by omega); have g3 := heap_set_row (i := 0) f3 (.slice A1 p.cells.length c1); have e3 := cell_of_row _ _ 1 _ _ _ g1; simp at e1 e3 g3; have hw1 := (below_then (hb _ _ _) (by simp; omega) hb1).setCell (p := ⟨w.heap.size + 1 + 1, 0, none⟩) (by show w.heap.size ≤ w.heap.size + 1 + 1; omega) (.slice A1 p.cells.length c1); have ho1' := ho1.step (w' := w1.setCell ⟨w.heap.size + 1 + 1, 0, none⟩ (.slice A1 p.cells.length c1)) (fun k hk _ => Below.heap_setCell w1 _ _ k (by intro e; have e : k = w.heap.size + 1 + 1 := e; simp at hk; omega)); have hBB := hB.below hw1 (fun k hk _ => hS k hk); have hz9 : ∀ k, S k → k < (w1.setCell ⟨w.heap.size + 1 + 1, 0, none⟩ (.slice A1 p.cells.length c1)).heap.size := (fun k hk => by have := hS k hk; simp; omega)) | (go_at_call 57; refine (toActSS_calls p.bodies _ _ _ S hBB hz9 hm ha).mono ?_; rintro e w2 ⟨u, rfl, ho2, hb2⟩; have z2 := hb2.size; (try simp at z2); have k2 := (hb2.block (w.heap.size + 1) (by simp; omega)).trans g2; have k3 := (hb2.block (w.heap.size + 1 + 1) (by simp; omega)).trans g3; obtain ⟨A2, c2, rfl, hc2⟩ := ho2.slice; have n1 := cell_of_row _ _ 1 _ _ _ k3; have n2 := frozen_of_row k3; have l2 := heap_set_far (i := 1) (b2 := w.heap.size + 1 + 1) k2 (.slice A2 p.bodies.length c2) (by omega); have l3 := heap_set_row (i := 1) k3 (.slice A2 p.bodies.length c2); have r0 := cell_of_row _ _ 0 _ _ _ l3; have r1 := cell_of_row _ _ 1 _ _ _ l3; have q0 := cell_of_row _ _ 0 _ _ _ l2; have q1 := cell_of_row _ _ 1 _ _ _ l2; have q4 := frozen_of_row l2; simp at n1 r0 r1 q0 q1))
  have hk := Keep.setCell (T := fun k => k = w.heap.size + 1 + 1 ∨ k = w.heap.size + 1) (p := ⟨w.heap.size + 1 + 1, 1, none⟩) (Keep.refl _ w2) (fun _ => .inl rfl) (.slice A2 p.bodies.length c2)
  have hk2 := Keep.setCell (T := fun k => k = w.heap.size + 1 + 1 ∨ k = w.heap.size + 1) (p := ⟨w.heap.size + 1, 1, none⟩) (Keep.setCell (T := fun k => k = w.heap.size + 1 + 1 ∨ k = w.heap.size + 1) (p := ⟨w.heap.size + 1, 0, none⟩) hk (fun _ => .inr rfl) (.slice A1 p.cells.length c1)) (fun _ => .inr rfl) (.slice A2 p.bodies.length c2)
  have hkk : ∀ k, w.heap.size + 1 + 1 + 1 ≤ k → ¬ (k = w.heap.size + 1 + 1 ∨ k = w.heap.size + 1) := fun k hk => by omega
  refine bodyPost_ret (v := .agg #[.slice A1 p.cells.length c1, .slice A2 p.bodies.length c2]) (by simp [results, Try.results26, go_sem, q0, q1, q4]) rfl ⟨_, rfl, ⟨_, _, _, _, rfl, ?_, ?_⟩, ?_⟩
  · exact (((ho1'.belowAll hb2).step (fun k hs hl => hk2.block k hl (hkk k (by simpa using hs)))).lower (by simp; omega)).mono (fun k hk => by simp at hk; omega)
  · exact (((ho2.step (fun k hs hl => hk2.block k hl (hkk k (by simp at hs; omega)))).bodyLower (b' := w.heap.size) (by simp; omega)).lower (by simp; omega)).mono (fun k hk => by simp at hk; omega)
  · have hb9 := below_then hw1 (by simp; omega) hb2
    exact hb9.trans (hk2.below (fun k hk e => by omega) hb9.size)
end Go.Proofs.Ytcpabkfoalhldaa
namespace Go.Proofs.Ytcpabkfoalhldaa
open Go.RowKit
set_option linter.unusedVariables false
set_option linter.unusedSimpArgs false

/-- In blocks of T numbers may have become other numbers; all else is as it was. -/
structure Mk (T : Nat → Prop) (w w' : World) : Prop where
  k : Keep T w w'
  blk : ∀ (b : Nat) (cs : Array Value) (t : TypeId), w.heap[b]? = some (.cells cs t (0, 0)) → ∃ cs' : Array Value, w'.heap[b]? = some (.cells cs' t (0, 0)) ∧ ∀ (i : Nat) (u : Value), cs[i]? = some u → cs'[i]? = some u ∨ ∃ x y : Int, u = .int .i64 x ∧ cs'[i]? = some (.int .i64 y)
theorem Mk.refl (T : Nat → Prop) (w : World) : Mk T w w := ⟨Keep.refl _ _, fun b cs t h => ⟨cs, h, fun i u hu => .inl hu⟩⟩
theorem Mk.trans {T : Nat → Prop} {w w' w2 : World} (h : Mk T w w') (h2 : Mk T w' w2) : Mk T w w2 :=
  ⟨h.k.trans h2.k, fun b cs t hb => by
    obtain ⟨cs', hb', h1⟩ := h.blk b cs t hb
    obtain ⟨cs2, hb2, h3⟩ := h2.blk b cs' t hb'
    refine ⟨cs2, hb2, fun i u hu => ?_⟩
    rcases h1 i u hu with h4 | ⟨x, y, rfl, h4⟩
    · exact h3 i u h4
    · rcases h3 i _ h4 with h5 | ⟨x', y', h6, h5⟩
      · exact .inr ⟨x, y, rfl, h5⟩
      · exact .inr ⟨x, y', rfl, h5⟩⟩
theorem Mk.set {T : Nat → Prop} {w w' : World} {g i : Nat} {cs : Array Value} {t : TypeId} {x : Int} (h : Mk T w w') (hT : T g) (hb : w'.heap[g]? = some (.cells cs t (0, 0))) (hc : cs[i]? = some (.int .i64 x)) (y : Int) : Mk T w (w'.setCell ⟨g, i, none⟩ (.int .i64 y)) := by
  refine h.trans ⟨Keep.setCell (T := T) (p := ⟨g, i, none⟩) (Keep.refl _ _) (fun _ => hT) _, fun b cs' t' hb' => ?_⟩
  by_cases e : b = g
  · subst e
    rw [hb] at hb'
    injection hb' with hb'
    injection hb' with e1 e2
    subst e1; subst e2
    refine ⟨_, heap_set_row (i := i) hb (.int .i64 y), fun j u hu => ?_⟩
    by_cases ej : i = j
    · subst ej
      rw [hc] at hu
      injection hu with hu
      subst hu
      refine .inr ⟨x, y, rfl, ?_⟩
      have hl := (Array.getElem?_eq_some_iff.1 hc).1
      simp [hl]
    · left
      rw [Array.getElem?_setIfInBounds_ne ej]
      exact hu
  · exact ⟨cs', heap_set_far hb' _ e, fun i u hu => .inl hu⟩
theorem cellv {w : World} {b i : Nat} {cs : Array Value} {t : TypeId} {u : Value} (h : w.heap[b]? = some (.cells cs t (0, 0))) (hu : cs[i]? = some u) : w.cell? ⟨b, i, none⟩ = some u := by rw [cell_of_row _ _ i _ _ _ h]; exact hu
/-- n elements of m numbers each, in a block of T. -/
def ShN (T : Nat → Prop) (m : Nat) (w : World) (v : Value) (n : Nat) : Prop :=
  ∃ A c, v = .slice A n c ∧ n ≤ c ∧ n ≤ 9223372036854775807 ∧ (n = 0 ∨ ∃ (g : Nat) (cs : Array Value) (t : TypeId), A = some ⟨g, 0, none⟩ ∧ T g ∧ w.heap[g]? = some (.cells cs t (0, 0)) ∧ ∀ i, i < n * m → ∃ x, cs[i]? = some (.int .i64 x))
theorem ShN.mk {T : Nat → Prop} {m n : Nat} {w w' : World} {v : Value} (h : ShN T m w v n) (hk : Mk T w w') : ShN T m w' v n := by
  obtain ⟨A, c, rfl, h1, h2, h3⟩ := h
  refine ⟨A, c, rfl, h1, h2, ?_⟩
  rcases h3 with h3 | ⟨g, cs, t, rfl, hT, hb, hc⟩
  · exact .inl h3
  · obtain ⟨cs', hb', hk'⟩ := hk.blk g cs t hb
    refine .inr ⟨g, cs', t, rfl, hT, hb', fun i hi => ?_⟩
    obtain ⟨x, hx⟩ := hc i hi
    rcases hk' i _ hx with h4 | ⟨_, y, _, h4⟩
    · exact ⟨x, h4⟩
    · exact ⟨y, h4⟩
/-- Acts: numbers, and rows of numbers; l: how many deeds and kids. -/
def ShA (T : Nat → Prop) (w : World) (v : Value) (l : List (Nat × Nat)) : Prop :=
  ∃ A c, v = .slice A l.length c ∧ l.length ≤ c ∧ l.length ≤ 9223372036854775807 ∧ (l = [] ∨ ∃ (g : Nat) (cs : Array Value) (t : TypeId), A = some ⟨g, 0, none⟩ ∧ T g ∧ w.heap[g]? = some (.cells cs t (0, 0)) ∧
    ∀ (j : Nat) (nm : Nat × Nat), l[j]? = some nm → ∃ (x y : Int) (B D : Option Addr) (d e : Nat), cs[j * 4]? = some (.int .i64 x) ∧ cs[j * 4 + 1]? = some (.slice B nm.1 d) ∧ cs[j * 4 + 2]? = some (.slice D nm.2 e) ∧ cs[j * 4 + 3]? = some (.int .i64 y) ∧ ShN T 3 w (.slice B nm.1 d) nm.1 ∧ ShN T 1 w (.slice D nm.2 e) nm.2)
theorem ShA.mk {T : Nat → Prop} {l : List (Nat × Nat)} {w w' : World} {v : Value} (h : ShA T w v l) (hk : Mk T w w') : ShA T w' v l := by
  obtain ⟨A, c, rfl, h1, h2, h3⟩ := h
  refine ⟨A, c, rfl, h1, h2, ?_⟩
  rcases h3 with h3 | ⟨g, cs, t, rfl, hT, hb, hc⟩
  · exact .inl h3
  · obtain ⟨cs', hb', hk'⟩ := hk.blk g cs t hb
    have ki : ∀ (i : Nat) (x : Int), cs[i]? = some (Value.int .i64 x) → ∃ y : Int, cs'[i]? = some (Value.int .i64 y) := fun i x hx => by
      rcases hk' i _ hx with h4 | ⟨_, y, _, h4⟩
      · exact ⟨x, h4⟩
      · exact ⟨y, h4⟩
    have ks : ∀ (i : Nat) (A : Option Addr) (n c : Nat), cs[i]? = some (Value.slice A n c) → cs'[i]? = some (Value.slice A n c) := fun i A n c hx => by
      rcases hk' i _ hx with h4 | ⟨_, y, h5, h4⟩
      · exact h4
      · cases h5
    refine .inr ⟨g, cs', t, rfl, hT, hb', fun j nm hj => ?_⟩
    obtain ⟨x, y, B, D, d, e, c0, c1, c2, c3, hd, hi⟩ := hc j nm hj
    obtain ⟨x', c0'⟩ := ki _ _ c0
    obtain ⟨y', c3'⟩ := ki _ _ c3
    exact ⟨x', y', B, D, d, e, c0', ks _ _ _ _ c1, ks _ _ _ _ c2, c3', hd.mk hk, hi.mk hk⟩
def ShB (T : Nat → Prop) (w : World) (v : Value) (L : List (List (Nat × Nat))) : Prop :=
  ∃ A c, v = .slice A L.length c ∧ L.length ≤ c ∧ L.length ≤ 9223372036854775807 ∧ (L = [] ∨ ∃ (g : Nat) (cs : Array Value) (t : TypeId), A = some ⟨g, 0, none⟩ ∧ T g ∧ w.heap[g]? = some (.cells cs t (0, 0)) ∧
    ∀ (j : Nat) (l : List (Nat × Nat)), L[j]? = some l → ∃ (B : Option Addr) (d : Nat), cs[j]? = some (.slice B l.length d) ∧ ShA T w (.slice B l.length d) l)
theorem ShB.mk {T : Nat → Prop} {L : List (List (Nat × Nat))} {w w' : World} {v : Value} (h : ShB T w v L) (hk : Mk T w w') : ShB T w' v L := by
  obtain ⟨A, c, rfl, h1, h2, h3⟩ := h
  refine ⟨A, c, rfl, h1, h2, ?_⟩
  rcases h3 with h3 | ⟨g, cs, t, rfl, hT, hb, hc⟩
  · exact .inl h3
  · obtain ⟨cs', hb', hk'⟩ := hk.blk g cs t hb
    refine .inr ⟨g, cs', t, rfl, hT, hb', fun j l hj => ?_⟩
    obtain ⟨B, d, c0, ha⟩ := hc j l hj
    refine ⟨B, d, ?_, ha.mk hk⟩
    rcases hk' j _ c0 with h4 | ⟨_, y, h5, h4⟩
    · exact h4
    · cases h5
def top : Int := 4611686018427387904
set_option maxHeartbeats 2000000 in
set_option maxRecDepth 100000 in
theorem markIntS_calls (T : Nat → Prop) (v : Value) (n : Nat) (k : Int) (w : World) (h : ShN T 1 w v n) (h0 : 0 ≤ k) (h1 : k + n ≤ top) :
    Calls Try.prog 30 #[v, .int .i64 k] w fun e w' => e = .returned (.int .i64 (k + n)) ∧ Mk T w w' := by
  have hS := Lib.hid h
  obtain ⟨A, c, rfl, hc1, hc2, hr⟩ := h
  have HT := Lib.hid (And.intro h0 h1)
  clear h0 h1
  go_enter Try.func30, Try.ntmps30
  go_wp2
  go_loopw [1, 5] (fun l i wr => ∃ j : Nat, j ≤ n ∧ i = .int .i64 j ∧ l = .int .i64 (k + j) ∧ Mk T w wr) (fun _ i _ => n - (intOf i).toNat)
  case atStart => exact ⟨0, Nat.zero_le _, rfl, by simp, Mk.refl _ _⟩
  case round =>
    obtain ⟨j, hj, rfl, rfl, hm⟩ := hrel
    by_cases hlt : j < n
    · rcases hr with hr | ⟨g, cs0, t, rfl, hT, _, _⟩
      · omega
      · obtain ⟨A', c', e, _, _, h3⟩ := hS.out.mk hm
        injection e with e1 e2 e3
        subst e1; subst e3
        rcases h3 with h3 | ⟨g', cs, t', e, _, hb, hc⟩
        · omega
        · injection e with e; injection e with e; subst e
          obtain ⟨x, hx⟩ := hc j (by omega)
          have s0 := cellv hb hx
          have s1 := frozen_of_row hb j
          have x1 : (j : Int) < n := by omega
          have x3 : (0 : Int) ≤ j := by omega
          have hw := IntWalk.i64_in (k + j + 1) (by have := HT.out; unfold top at this; omega)
          have hm2 := Lib.hid (hm.set hT hb hx (k + j))
          clear hm hb
          go_wp2
          go_roundw
          case rel => exact ⟨j + 1, by omega, by go_num, by go_num, hm2.out⟩
          case measure => simp [intOf]; omega
    · obtain rfl : j = n := by omega
      go_wp2
      go_ret
      exact ⟨rfl, hm⟩
end Go.Proofs.Ytcpabkfoalhldaa
namespace Go.Proofs.Ytcpabkfoalhldaa
open Go.RowKit
set_option linter.unusedVariables false
set_option linter.unusedSimpArgs false

theorem set_other {cs : Array Value} {i j : Nat} {u v : Value} (h : cs[j]? = some v) (hn : i ≠ j) : (cs.setIfInBounds i u)[j]? = some v := by rw [Array.getElem?_setIfInBounds_ne hn]; exact h
set_option maxHeartbeats 2000000 in
set_option maxRecDepth 100000 in
theorem markDeedS_calls (T : Nat → Prop) (v : Value) (n : Nat) (k : Int) (w : World) (h : ShN T 3 w v n) (h0 : 0 ≤ k) (h1 : k + 3 * n ≤ top) :
    Calls Try.prog 106 #[v, .int .i64 k] w fun e w' => e = .returned (.int .i64 (k + 3 * n)) ∧ Mk T w w' := by
  have hS := Lib.hid h
  obtain ⟨A, c, rfl, hc1, hc2, hr⟩ := h
  have HT := Lib.hid (And.intro h0 h1)
  clear h0 h1
  go_enter Try.func106, Try.ntmps106
  go_wp2
  go_loopw [1, 5] (fun l i wr => ∃ j : Nat, j ≤ n ∧ i = .int .i64 j ∧ l = .int .i64 (k + 3 * j) ∧ Mk T w wr) (fun _ i _ => n - (intOf i).toNat)
  case atStart => exact ⟨0, Nat.zero_le _, rfl, by simp, Mk.refl _ _⟩
  case round =>
    obtain ⟨j, hj, rfl, rfl, hm⟩ := hrel
    by_cases hlt : j < n
    · rcases hr with hr | ⟨g, cs0, t, rfl, hT, _, _⟩
      · omega
      · obtain ⟨A', c', e, _, _, h3⟩ := hS.out.mk hm
        injection e with e1 e2 e3
        subst e1; subst e3
        rcases h3 with h3 | ⟨g', cs, t', e, _, hb, hc⟩
        · omega
        · injection e with e; injection e with e; subst e
          obtain ⟨y0, hy0⟩ := hc (j * 3) (by omega)
          obtain ⟨y1, hy1⟩ := hc (j * 3 + 1) (by omega)
          obtain ⟨y2, hy2⟩ := hc (j * 3 + 2) (by omega)
          have s0 := cellv hb hy0
          have s1 := frozen_of_row hb (j * 3)
          have s2 := cellv hb hy1
          have s3 := frozen_of_row hb (j * 3 + 1)
          have s4 := cellv hb hy2
          have s5 := frozen_of_row hb (j * 3 + 2)
          have x1 : (j : Int) < n := by omega
          have x3 : (0 : Int) ≤ j := by omega
          generalize hL : k + 3 * (j : Int) = L
          have hLb : 0 ≤ L ∧ L + 3 ≤ top := by have := HT.out; omega
          have hw1 := IntWalk.i64_in (L + 1) (by unfold top at hLb; omega)
          have hw2 := IntWalk.i64_in (L + 1 + 1) (by unfold top at hLb; omega)
          have hw3 := IntWalk.i64_in (L + 1 + 1 + 1) (by unfold top at hLb; omega)
          have m1 := hm.set hT hb hy0 L
          have b1 := heap_set_row (i := j * 3) hb (.int .i64 L)
          have m2 := m1.set hT b1 (set_other hy1 (by omega)) (L + 1)
          have b2 := heap_set_row (i := j * 3 + 1) b1 (.int .i64 (L + 1))
          have m3 := Lib.hid (m2.set hT b2 (set_other (set_other hy2 (by omega)) (by omega)) (L + 1 + 1))
          have HL := Lib.hid hL
          clear hm hb hLb m1 m2 b1 b2 hL
          go_wp2
          go_roundw
          case rel => exact ⟨j + 1, by omega, by go_num, val_int (by have := HL.out; omega), m3.out⟩
          case measure => simp [intOf]; omega
    · obtain rfl : j = n := by omega
      go_wp2
      go_ret
      exact ⟨rfl, hm⟩
def wAct (nm : Nat × Nat) : Int := 2 + 3 * nm.1 + nm.2
theorem wAct_pos (nm : Nat × Nat) : 0 ≤ wAct nm := by unfold wAct; omega
def wActs (l : List (Nat × Nat)) : Int := tot wAct l
theorem wActs_pos (l : List (Nat × Nat)) : 0 ≤ wActs l := tot_pos wAct l wAct_pos
/-- An act of a row that is marked. -/
theorem ShA.at_ {T : Nat → Prop} {w : World} {g c : Nat} {l : List (Nat × Nat)} (h : ShA T w (.slice (some ⟨g, 0, none⟩) l.length c) l) {j : Nat} (hj : j < l.length) : ∃ (cs : Array Value) (t : TypeId) (x y : Int) (B D : Option Addr) (d e : Nat), T g ∧ w.heap[g]? = some (.cells cs t (0, 0)) ∧ cs[j * 4]? = some (.int .i64 x) ∧ cs[j * 4 + 1]? = some (.slice B l[j].1 d) ∧ cs[j * 4 + 2]? = some (.slice D l[j].2 e) ∧ cs[j * 4 + 3]? = some (.int .i64 y) ∧ ShN T 3 w (.slice B l[j].1 d) l[j].1 ∧ ShN T 1 w (.slice D l[j].2 e) l[j].2 := by
  obtain ⟨A', c', e, _, _, h3⟩ := h
  injection e with e1 e2 e3
  subst e1; subst e3
  rcases h3 with h3 | ⟨g', cs, t', e, hT, hb, hc⟩
  · subst h3; simp at hj
  · injection e with e; injection e with e; subst e
    obtain ⟨x, y, B, D, d, e, h⟩ := hc j _ (List.getElem?_eq_getElem hj)
    exact ⟨cs, t', x, y, B, D, d, e, hT, hb, h⟩
theorem ShA.addr {T : Nat → Prop} {w : World} {v : Value} {l : List (Nat × Nat)} (h : ShA T w v l) (hl : 0 < l.length) : ∃ g c, v = .slice (some ⟨g, 0, none⟩) l.length c := by
  obtain ⟨A', c', rfl, _, _, h3⟩ := h
  rcases h3 with h3 | ⟨g', cs, t', rfl, hT, hb, hc⟩
  · subst h3; simp at hl
  · exact ⟨g', c', rfl⟩
set_option maxHeartbeats 4000000 in
set_option maxRecDepth 100000 in
theorem markActS_calls (T : Nat → Prop) (v : Value) (l : List (Nat × Nat)) (k : Int) (w : World) (h : ShA T w v l) (h0 : 0 ≤ k) (h1 : k + wActs l ≤ top) :
    Calls Try.prog 86 #[v, .int .i64 k] w fun e w' => e = .returned (.int .i64 (k + wActs l)) ∧ Mk T w w' := by
  have hS := Lib.hid h
  obtain ⟨A, c, rfl, hc1, hc2, hr⟩ := h
  have HT := Lib.hid (And.intro h0 h1)
  clear h0 h1 hr
  go_enter Try.func86, Try.ntmps86
  go_wp2
  go_loopw [1, 5] (fun m i wr => ∃ j : Nat, j ≤ l.length ∧ i = .int .i64 j ∧ m = .int .i64 (k + tot wAct (l.take j)) ∧ Mk T w wr) (fun _ i _ => l.length - (intOf i).toNat)
  case atStart => exact ⟨0, Nat.zero_le _, rfl, by simp [tot], Mk.refl _ _⟩
  case round =>
    obtain ⟨j, hj, rfl, rfl, hm⟩ := hrel
    by_cases hlt : j < l.length
    · obtain ⟨g, c', e⟩ := hS.out.addr (by omega)
      injection e with e1 e2 e3
      subst e1; subst e3
      obtain ⟨cs, t, x, y, B, D, d, e, hT, hb, c0, c1, c2, c3, hd, hi⟩ := (hS.out.mk hm).at_ hlt
      have s0 := cellv hb c0
      have s1 := frozen_of_row hb (j * 4)
      have s2 := cellv hb c1
      have x1 : (j : Int) < l.length := by omega
      have x3 : (0 : Int) ≤ j := by omega
      have hs := tot_snoc wAct l j hlt
      have hp := tot_pos wAct (l.take j) wAct_pos
      have hq := tot_le wAct l (j + 1) wAct_pos
      generalize hL : k + tot wAct (l.take j) = L
      have hLb : 0 ≤ L ∧ L + wAct l[j] ≤ top := by have := HT.out; unfold wActs at this; omega
      have hw1 := IntWalk.i64_in (L + 1) (by unfold top wAct at hLb; omega)
      have m1 := hm.set hT hb c0 L
      have n1 := (Mk.refl T wr).set hT hb c0 L
      have HL := Lib.hid (And.intro hL (And.intro hs hLb))
      have HM := Lib.hid (And.intro m1 (And.intro (hd.mk n1) (hi.mk n1)))
      generalize hnd : l[j].1 = nd at *
      generalize hnk : l[j].2 = nk at *
      have hwa : wAct l[j] = 2 + 3 * nd + nk := by unfold wAct; rw [hnd, hnk]
      have HW := Lib.hid hwa
      have hw2 := IntWalk.i64_in (L + 1 + 3 * nd + nk + 1) (by unfold top at hLb; omega)
      clear hm hb hLb m1 n1 hL hs hp hq hd hi hwa
      go_wp2_with (first
        | (go_at_call 106; refine (markDeedS_calls T _ nd (L + 1) _ HM.out.2.1 (by have := HL.out; omega) (by have := HL.out; have := HW.out; omega)).mono ?_; rintro e w1 ⟨rfl, hm1⟩; have hmt := HM.out.1.trans hm1; obtain ⟨cs1, t1, x', y', B', D', d', e', _, hb1, a0, a1, a2, a3, _, hi1⟩ := (hS.out.mk hmt).at_ hlt; rw [hnk] at a2 hi1; have u2 := cellv hb1 a2) | (go_at_call 30; refine (markIntS_calls T _ nk (L + 1 + 3 * nd) _ hi1 (by have := HL.out; omega) (by have := HL.out; have := HW.out; omega)).mono ?_; rintro e w2 ⟨rfl, hm2⟩; have hmt2 := hmt.trans hm2; obtain ⟨cs2, t2, x2, y2, B2, D2, d2, e2, _, hb2, g0, g1, g2, g3, _, _⟩ := (hS.out.mk hmt2).at_ hlt; have u3 := cellv hb2 g3; have u4 := frozen_of_row hb2 (j * 4 + 3); have m3 := Lib.hid (hmt2.set hT hb2 g3 (L + 1 + 3 * nd + nk))))
      go_roundw
      case rel => exact ⟨j + 1, by omega, by go_num, val_int (by have := HL.out; have := HW.out; omega), m3.out⟩
      case measure => simp [intOf]; omega
    · obtain rfl : j = l.length := by omega
      have e0 : tot wAct (l.take l.length) = wActs l := by rw [List.take_length]; rfl
      have HE := Lib.hid e0
      go_wp2
      go_ret
      exact ⟨ret_int (by rw [HE.out]), hm⟩
end Go.Proofs.Ytcpabkfoalhldaa
namespace Go.Proofs.Ytcpabkfoalhldaa
open Go.RowKit
set_option linter.unusedVariables false
set_option linter.unusedSimpArgs false

theorem ShB.at_ {T : Nat → Prop} {w : World} {g c : Nat} {L : List (List (Nat × Nat))} (h : ShB T w (.slice (some ⟨g, 0, none⟩) L.length c) L) {j : Nat} (hj : j < L.length) : ∃ (cs : Array Value) (t : TypeId) (B : Option Addr) (d : Nat), T g ∧ w.heap[g]? = some (.cells cs t (0, 0)) ∧ cs[j]? = some (.slice B L[j].length d) ∧ ShA T w (.slice B L[j].length d) L[j] := by
  obtain ⟨A', c', e, _, _, h3⟩ := h
  injection e with e1 e2 e3
  subst e1; subst e3
  rcases h3 with h3 | ⟨g', cs, t', e, hT, hb, hc⟩
  · subst h3; simp at hj
  · injection e with e; injection e with e; subst e
    obtain ⟨B, d, h⟩ := hc j _ (List.getElem?_eq_getElem hj)
    exact ⟨cs, t', B, d, hT, hb, h⟩
theorem ShB.addr {T : Nat → Prop} {w : World} {v : Value} {L : List (List (Nat × Nat))} (h : ShB T w v L) (hl : 0 < L.length) : ∃ g c, v = .slice (some ⟨g, 0, none⟩) L.length c := by
  obtain ⟨A', c', rfl, _, _, h3⟩ := h
  rcases h3 with h3 | ⟨g', cs, t', rfl, hT, hb, hc⟩
  · subst h3; simp at hl
  · exact ⟨g', c', rfl⟩
def wAll (L : List (List (Nat × Nat))) : Int := tot wActs L
theorem wAll_pos (L : List (List (Nat × Nat))) : 0 ≤ wAll L := tot_pos wActs L wActs_pos
set_option maxHeartbeats 4000000 in
set_option maxRecDepth 100000 in
theorem markActSS_calls (T : Nat → Prop) (v : Value) (L : List (List (Nat × Nat))) (k : Int) (w : World) (h : ShB T w v L) (h0 : 0 ≤ k) (h1 : k + wAll L ≤ top) :
    Calls Try.prog 59 #[v, .int .i64 k] w fun e w' => e = .returned (.int .i64 (k + wAll L)) ∧ Mk T w w' := by
  have hS := Lib.hid h
  obtain ⟨A, c, rfl, hc1, hc2, hr⟩ := h
  have HT := Lib.hid (And.intro h0 h1)
  clear h0 h1 hr
  go_enter Try.func59, Try.ntmps59
  go_wp2
  go_loopw [1, 5] (fun m i wr => ∃ j : Nat, j ≤ L.length ∧ i = .int .i64 j ∧ m = .int .i64 (k + tot wActs (L.take j)) ∧ Mk T w wr) (fun _ i _ => L.length - (intOf i).toNat)
  case atStart => exact ⟨0, Nat.zero_le _, rfl, by simp [tot], Mk.refl _ _⟩
  case round =>
    obtain ⟨j, hj, rfl, rfl, hm⟩ := hrel
    by_cases hlt : j < L.length
    · obtain ⟨g, c', e⟩ := hS.out.addr (by omega)
      injection e with e1 e2 e3
      subst e1; subst e3
      obtain ⟨cs, t, B, d, hT, hb, c0, ha⟩ := (hS.out.mk hm).at_ hlt
      have s0 := cellv hb c0
      have x1 : (j : Int) < L.length := by omega
      have x3 : (0 : Int) ≤ j := by omega
      have hs := tot_snoc wActs L j hlt
      have hp := tot_pos wActs (L.take j) wActs_pos
      have hq := tot_le wActs L (j + 1) wActs_pos
      generalize hL : k + tot wActs (L.take j) = m
      have hLb : 0 ≤ m ∧ m + wActs L[j] ≤ top := by have := HT.out; unfold wAll at this; omega
      have HL := Lib.hid (And.intro hL (And.intro hs hLb))
      have HM := Lib.hid hm
      clear hm hb hLb hL hs hp hq
      go_wp2_with (go_at_call 86; refine (markActS_calls T _ L[j] m _ ha (by have := HL.out; omega) (by have := HL.out; omega)).mono ?_; rintro e w1 ⟨rfl, hm1⟩; have hmt := Lib.hid (HM.out.trans hm1))
      go_roundw
      case rel => exact ⟨j + 1, by omega, by go_num, val_int (by have := HL.out; omega), hmt.out⟩
      case measure => simp [intOf]; omega
    · obtain rfl : j = L.length := by omega
      have e0 : tot wActs (L.take L.length) = wAll L := by rw [List.take_length]; rfl
      have HE := Lib.hid e0
      go_wp2
      go_ret
      exact ⟨ret_int (by rw [HE.out]), hm⟩
theorem Mk.alloc {T : Nat → Prop} {w w' : World} {o : Obj} (h : Mk T (w.alloc o) w') : Mk T w w' :=
  ⟨((Keep.refl T w).alloc o).trans h.k, fun b cs t hb => h.blk b cs t ((Below.heap_alloc w o b (Array.getElem?_eq_some_iff.1 hb).1).trans hb)⟩
theorem ShN.al {T : Nat → Prop} {m n : Nat} {w : World} {v : Value} (h : ShN T m w v n) (o : Obj) : ShN T m (w.alloc o) v n := h.mk ⟨(Keep.refl T w).alloc o, fun b cs t hb => ⟨cs, (Below.heap_alloc w o b (Array.getElem?_eq_some_iff.1 hb).1).trans hb, fun i u hu => .inl hu⟩⟩
theorem ShB.al {T : Nat → Prop} {L : List (List (Nat × Nat))} {w : World} {v : Value} (h : ShB T w v L) (o : Obj) : ShB T (w.alloc o) v L := h.mk ⟨(Keep.refl T w).alloc o, fun b cs t hb => ⟨cs, (Below.heap_alloc w o b (Array.getElem?_eq_some_iff.1 hb).1).trans hb, fun i u hu => .inl hu⟩⟩
set_option maxHeartbeats 1000000 in
theorem markProg_calls (T : Nat → Prop) (C D : Option Addr) (n cc cd : Nat) (L : List (List (Nat × Nat))) (k : Int) (w : World) (h : ShN T 1 w (.slice C n cc) n) (hB : ShB T w (.slice D L.length cd) L) (hT : ∀ b, T b → b < w.heap.size) (h0 : 0 ≤ k) (h1 : k + n + wAll L ≤ top) :
    Calls Try.prog 29 #[.agg #[.slice C n cc, .slice D L.length cd], .int .i64 k] w fun e w' => e = .returned (.int .i64 (k + n + wAll L)) ∧ Mk T w w' := by
  have hp := wAll_pos L
  have H := fun o => Lib.hid (h.al o)
  have HB := fun o => Lib.hid (hB.al o)
  have HK := Lib.hid (show 0 ≤ k ∧ k + n ≤ top ∧ 0 ≤ k + n ∧ k + n + wAll L ≤ top by omega)
  have hw9 := fun (o : Obj) => heap_alloc_new w o
  clear h0 h1 hp h hB
  go_enter Try.func29, Try.ntmps29
  go_wp2_with (first
    | (go_at_call 30; refine (markIntS_calls T _ n k _ (H _).out HK.out.1 HK.out.2.1).mono ?_; rintro e w1 ⟨rfl, hm1⟩; have f1 := (hm1.k.block w.heap.size (by simp) (fun h => by have := hT _ h; omega)).trans (hw9 _); have g1 := cell_of_row _ _ 1 _ _ _ f1; simp at g1) | (go_at_call 59; refine (markActSS_calls T _ L (k + n) _ ((HB _).out.mk hm1) HK.out.2.2.1 HK.out.2.2.2).mono ?_; rintro e w2 ⟨rfl, hm2⟩; have hmt := Lib.hid ((hm1.trans hm2).alloc)))
  go_ret
  exact ⟨rfl, hmt.out⟩
/-- k, k + 1, .. -/
def marks (k : Int) (n : Nat) : List Int := (List.range n).map fun (j : Nat) => k + (j : Int)
theorem marks_len (k : Int) (n : Nat) : (marks k n).length = n := by simp [marks]
theorem marks_at (k : Int) (n j : Nat) (h : j < (marks k n).length) : (marks k n)[j] = k + j := by simp [marks]
theorem marks_next (k : Int) (xs : List Int) (j : Nat) (h : j < xs.length) : (marks k j ++ xs.drop j).set j (k + j) = marks k (j + 1) ++ xs.drop (j + 1) := by
  rw [List.drop_eq_getElem_cons h, List.set_append_right _ _ (by rw [marks_len]; omega), marks_len, Nat.sub_self, List.set_cons_zero]
  have e : marks k (j + 1) = marks k j ++ [k + (j : Int)] := by simp [marks, List.range_succ]
  rw [e, List.append_assoc]
  rfl
set_option maxHeartbeats 2000000 in
set_option maxRecDepth 100000 in
theorem markOwn_calls (xs : List Int) (v : Value) (base : Nat) (k : Int) (w : World) (ho : OwnI 3 w base v xs) (h0 : 0 ≤ k) (h1 : k + xs.length ≤ top) :
    Calls Try.prog 30 #[v, .int .i64 k] w fun e w' => e = .returned (.int .i64 (k + xs.length)) ∧ OwnI 3 w' base v (marks k xs.length) ∧ Keep (fun b => v.ownBlock = some b) w w' := by
  have hS := Lib.hid ho
  have hn := Own.maxLen ho
  obtain ⟨A, c, rfl, hc⟩ := Own.slice ho
  have HT := Lib.hid (And.intro h0 h1)
  clear h0 h1 ho
  go_enter Try.func30, Try.ntmps30
  go_wp2
  go_loopw [1, 5] (fun l i wr => ∃ j : Nat, j ≤ xs.length ∧ i = .int .i64 j ∧ l = .int .i64 (k + j) ∧ OwnI 3 wr base (.slice A xs.length c) (marks k j ++ xs.drop j) ∧ Keep (fun b => (Value.slice A xs.length c).ownBlock = some b) w wr) (fun _ i _ => xs.length - (intOf i).toNat)
  case atStart => exact ⟨0, Nat.zero_le _, rfl, by simp, by simpa [marks] using hS.out, Keep.refl _ _⟩
  case round =>
    obtain ⟨j, hj, rfl, rfl, ho, hk⟩ := hrel
    by_cases hlt : j < xs.length
    · obtain ⟨g, cap, e, hg1, hg2⟩ := hS.out.place (by omega)
      injection e with e1 e2 e3
      subst e1; subst e3
      have hl : (marks k j ++ xs.drop j).length = xs.length := by rw [List.length_append, marks_len, List.length_drop]; omega
      have ho' : OwnI 3 wr base (.slice (some ⟨g, 0, none⟩) (marks k j ++ xs.drop j).length c) (marks k j ++ xs.drop j) := by rw [hl]; exact ho
      obtain ⟨y, s0, s1⟩ : ∃ y : Int, wr.cell? ⟨g, j, none⟩ = some (.int .i64 y) ∧ wr.frozen? ⟨g, j, none⟩ = false := ⟨_, ho'.cell (j := j) (by omega)⟩
      have x1 : (j : Int) < xs.length := by omega
      have x3 : (0 : Int) ≤ j := by omega
      have hw := IntWalk.i64_in (k + j + 1) (by have := HT.out; unfold top at this; omega)
      have hs := ho'.set_ (j := j) (by omega) (k + j) (by have := HT.out; unfold top at this; unfold isI; omega)
      rw [hl, marks_next k xs j hlt] at hs
      have hk2 := Keep.setCell (p := ⟨g, j, none⟩) hk (fun _ => rfl) (.int .i64 (k + j))
      have HH := Lib.hid (And.intro hs hk2)
      clear ho ho' hs hk2 hk hl
      go_wp2
      go_roundw
      case rel => exact ⟨j + 1, by omega, by go_num, by go_num, HH.out.1, HH.out.2⟩
      case measure => simp [intOf]; omega
    · obtain rfl : j = xs.length := by omega
      have e0 : marks k xs.length ++ xs.drop xs.length = marks k xs.length := by simp
      rw [e0] at ho
      go_wp2
      go_ret
      exact ⟨rfl, ho, hk⟩
set_option maxHeartbeats 2000000 in
set_option maxRecDepth 100000 in
theorem heldIntS_calls (n : Nat) (A : Option Addr) (c : Nat) (k : Int) (w : World) (S : Nat → Prop) (hr : Row Kd.int w S A (marks k n)) (h0 : 0 ≤ k) (h1 : k + n ≤ top) :
    Calls Try.prog 31 #[.slice A n c, .int .i64 k] w fun e w' => e = .returned (.int .i64 (k + n)) ∧ Below w.heap.size w w' := by
  have hn := hr.1
  rw [marks_len] at hn
  have HT := Lib.hid (And.intro h0 h1)
  clear h0 h1
  go_enter Try.func31, Try.ntmps31
  go_wp2
  go_loopw [1, 5] (fun l i wr => ∃ j : Nat, j ≤ n ∧ i = .int .i64 j ∧ l = .int .i64 (k + j) ∧ Below w.heap.size w wr) (fun _ i _ => n - (intOf i).toNat)
  case atStart => exact ⟨0, Nat.zero_le _, rfl, by simp, Below.refl _ _⟩
  case round =>
    obtain ⟨j, hj, rfl, rfl, hb⟩ := hrel
    by_cases hlt : j < n
    · obtain ⟨ad, rfl, hl1, p0, hi⟩ := at_int (hr.belowAll hb) (j := j) (by rw [marks_len]; exact hlt)
      rw [marks_at] at p0
      have x1 : (j : Int) < n := by omega
      have x3 : (0 : Int) ≤ j := by omega
      have hw := IntWalk.i64_in (k + j + 1) (by have := HT.out; unfold top at this; omega)
      go_wp2
      go_roundw
      case rel => exact ⟨j + 1, by omega, by go_num, by go_num, hb⟩
      case measure => simp [intOf]; omega
    · obtain rfl : j = n := by omega
      go_wp2
      go_ret
      exact ⟨rfl, hb⟩
end Go.Proofs.Ytcpabkfoalhldaa
namespace Go.Proofs.Ytcpabkfoalhldaa
open Go.RowKit
set_option linter.unusedVariables false
set_option linter.unusedSimpArgs false

theorem ta_loadDeed_loadDeed (v : Value) (w : World) : (Instr.typeAssert (.iface 152 v) 78 152 true).run Try.prog w = .ok (.tuple #[v, .bool true]) w := by kernel_rfl
theorem ta_storeDeed_loadDeed (v : Value) (w : World) : (Instr.typeAssert (.iface 154 v) 78 152 true).run Try.prog w = .ok (.tuple #[.agg #[.int .i64 0, .int .i64 0], .bool false]) w := by kernel_rfl
theorem ta_numDeed_loadDeed (v : Value) (w : World) : (Instr.typeAssert (.iface 156 v) 78 152 true).run Try.prog w = .ok (.tuple #[.agg #[.int .i64 0, .int .i64 0], .bool false]) w := by kernel_rfl
theorem ta_addDeed_loadDeed (v : Value) (w : World) : (Instr.typeAssert (.iface 158 v) 78 152 true).run Try.prog w = .ok (.tuple #[.agg #[.int .i64 0, .int .i64 0], .bool false]) w := by kernel_rfl
theorem ta_needDeed_loadDeed (v : Value) (w : World) : (Instr.typeAssert (.iface 159 v) 78 152 true).run Try.prog w = .ok (.tuple #[.agg #[.int .i64 0, .int .i64 0], .bool false]) w := by kernel_rfl
theorem ta_nil_loadDeed (w : World) : (Instr.typeAssert .nilIface 78 152 true).run Try.prog w = .ok (.tuple #[.agg #[.int .i64 0, .int .i64 0], .bool false]) w := by kernel_rfl
theorem ta_loadDeed_storeDeed (v : Value) (w : World) : (Instr.typeAssert (.iface 152 v) 78 154 true).run Try.prog w = .ok (.tuple #[.agg #[.int .i64 0, .int .i64 0], .bool false]) w := by kernel_rfl
theorem ta_storeDeed_storeDeed (v : Value) (w : World) : (Instr.typeAssert (.iface 154 v) 78 154 true).run Try.prog w = .ok (.tuple #[v, .bool true]) w := by kernel_rfl
theorem ta_numDeed_storeDeed (v : Value) (w : World) : (Instr.typeAssert (.iface 156 v) 78 154 true).run Try.prog w = .ok (.tuple #[.agg #[.int .i64 0, .int .i64 0], .bool false]) w := by kernel_rfl
theorem ta_addDeed_storeDeed (v : Value) (w : World) : (Instr.typeAssert (.iface 158 v) 78 154 true).run Try.prog w = .ok (.tuple #[.agg #[.int .i64 0, .int .i64 0], .bool false]) w := by kernel_rfl
theorem ta_needDeed_storeDeed (v : Value) (w : World) : (Instr.typeAssert (.iface 159 v) 78 154 true).run Try.prog w = .ok (.tuple #[.agg #[.int .i64 0, .int .i64 0], .bool false]) w := by kernel_rfl
theorem ta_nil_storeDeed (w : World) : (Instr.typeAssert .nilIface 78 154 true).run Try.prog w = .ok (.tuple #[.agg #[.int .i64 0, .int .i64 0], .bool false]) w := by kernel_rfl
theorem ta_loadDeed_numDeed (v : Value) (w : World) : (Instr.typeAssert (.iface 152 v) 78 156 true).run Try.prog w = .ok (.tuple #[.agg #[.int .i64 0, .int .i64 0], .bool false]) w := by kernel_rfl
theorem ta_storeDeed_numDeed (v : Value) (w : World) : (Instr.typeAssert (.iface 154 v) 78 156 true).run Try.prog w = .ok (.tuple #[.agg #[.int .i64 0, .int .i64 0], .bool false]) w := by kernel_rfl
theorem ta_numDeed_numDeed (v : Value) (w : World) : (Instr.typeAssert (.iface 156 v) 78 156 true).run Try.prog w = .ok (.tuple #[v, .bool true]) w := by kernel_rfl
theorem ta_addDeed_numDeed (v : Value) (w : World) : (Instr.typeAssert (.iface 158 v) 78 156 true).run Try.prog w = .ok (.tuple #[.agg #[.int .i64 0, .int .i64 0], .bool false]) w := by kernel_rfl
theorem ta_needDeed_numDeed (v : Value) (w : World) : (Instr.typeAssert (.iface 159 v) 78 156 true).run Try.prog w = .ok (.tuple #[.agg #[.int .i64 0, .int .i64 0], .bool false]) w := by kernel_rfl
theorem ta_nil_numDeed (w : World) : (Instr.typeAssert .nilIface 78 156 true).run Try.prog w = .ok (.tuple #[.agg #[.int .i64 0, .int .i64 0], .bool false]) w := by kernel_rfl
theorem ta_loadDeed_addDeed (v : Value) (w : World) : (Instr.typeAssert (.iface 152 v) 78 158 true).run Try.prog w = .ok (.tuple #[.agg #[.int .i64 0, .int .i64 0], .bool false]) w := by kernel_rfl
theorem ta_storeDeed_addDeed (v : Value) (w : World) : (Instr.typeAssert (.iface 154 v) 78 158 true).run Try.prog w = .ok (.tuple #[.agg #[.int .i64 0, .int .i64 0], .bool false]) w := by kernel_rfl
theorem ta_numDeed_addDeed (v : Value) (w : World) : (Instr.typeAssert (.iface 156 v) 78 158 true).run Try.prog w = .ok (.tuple #[.agg #[.int .i64 0, .int .i64 0], .bool false]) w := by kernel_rfl
theorem ta_addDeed_addDeed (v : Value) (w : World) : (Instr.typeAssert (.iface 158 v) 78 158 true).run Try.prog w = .ok (.tuple #[v, .bool true]) w := by kernel_rfl
theorem ta_needDeed_addDeed (v : Value) (w : World) : (Instr.typeAssert (.iface 159 v) 78 158 true).run Try.prog w = .ok (.tuple #[.agg #[.int .i64 0, .int .i64 0], .bool false]) w := by kernel_rfl
theorem ta_nil_addDeed (w : World) : (Instr.typeAssert .nilIface 78 158 true).run Try.prog w = .ok (.tuple #[.agg #[.int .i64 0, .int .i64 0], .bool false]) w := by kernel_rfl
theorem ta_loadDeed_needDeed (v : Value) (w : World) : (Instr.typeAssert (.iface 152 v) 78 159 true).run Try.prog w = .ok (.tuple #[.agg #[.int .i64 0], .bool false]) w := by kernel_rfl
theorem ta_storeDeed_needDeed (v : Value) (w : World) : (Instr.typeAssert (.iface 154 v) 78 159 true).run Try.prog w = .ok (.tuple #[.agg #[.int .i64 0], .bool false]) w := by kernel_rfl
theorem ta_numDeed_needDeed (v : Value) (w : World) : (Instr.typeAssert (.iface 156 v) 78 159 true).run Try.prog w = .ok (.tuple #[.agg #[.int .i64 0], .bool false]) w := by kernel_rfl
theorem ta_addDeed_needDeed (v : Value) (w : World) : (Instr.typeAssert (.iface 158 v) 78 159 true).run Try.prog w = .ok (.tuple #[.agg #[.int .i64 0], .bool false]) w := by kernel_rfl
theorem ta_needDeed_needDeed (v : Value) (w : World) : (Instr.typeAssert (.iface 159 v) 78 159 true).run Try.prog w = .ok (.tuple #[v, .bool true]) w := by kernel_rfl
theorem ta_nil_needDeed (w : World) : (Instr.typeAssert .nilIface 78 159 true).run Try.prog w = .ok (.tuple #[.agg #[.int .i64 0], .bool false]) w := by kernel_rfl
theorem ta_tryAct_tryAct (v : Value) (w : World) : (Instr.typeAssert (.iface 102 v) 78 102 true).run Try.prog w = .ok (.tuple #[v, .bool true]) w := by kernel_rfl
theorem ta_forkAct_tryAct (v : Value) (w : World) : (Instr.typeAssert (.iface 105 v) 78 102 true).run Try.prog w = .ok (.tuple #[.agg #[.slice none 0 0], .bool false]) w := by kernel_rfl
theorem ta_failAct_tryAct (v : Value) (w : World) : (Instr.typeAssert (.iface 107 v) 78 102 true).run Try.prog w = .ok (.tuple #[.agg #[.slice none 0 0], .bool false]) w := by kernel_rfl
theorem ta_failIfAct_tryAct (v : Value) (w : World) : (Instr.typeAssert (.iface 109 v) 78 102 true).run Try.prog w = .ok (.tuple #[.agg #[.slice none 0 0], .bool false]) w := by kernel_rfl
theorem ta_nil_tryAct (w : World) : (Instr.typeAssert .nilIface 78 102 true).run Try.prog w = .ok (.tuple #[.agg #[.slice none 0 0], .bool false]) w := by kernel_rfl
theorem ta_tryAct_forkAct (v : Value) (w : World) : (Instr.typeAssert (.iface 102 v) 78 105 true).run Try.prog w = .ok (.tuple #[.agg #[.slice none 0 0], .bool false]) w := by kernel_rfl
theorem ta_forkAct_forkAct (v : Value) (w : World) : (Instr.typeAssert (.iface 105 v) 78 105 true).run Try.prog w = .ok (.tuple #[v, .bool true]) w := by kernel_rfl
theorem ta_failAct_forkAct (v : Value) (w : World) : (Instr.typeAssert (.iface 107 v) 78 105 true).run Try.prog w = .ok (.tuple #[.agg #[.slice none 0 0], .bool false]) w := by kernel_rfl
theorem ta_failIfAct_forkAct (v : Value) (w : World) : (Instr.typeAssert (.iface 109 v) 78 105 true).run Try.prog w = .ok (.tuple #[.agg #[.slice none 0 0], .bool false]) w := by kernel_rfl
theorem ta_nil_forkAct (w : World) : (Instr.typeAssert .nilIface 78 105 true).run Try.prog w = .ok (.tuple #[.agg #[.slice none 0 0], .bool false]) w := by kernel_rfl
theorem ta_tryAct_failAct (v : Value) (w : World) : (Instr.typeAssert (.iface 102 v) 78 107 true).run Try.prog w = .ok (.tuple #[.agg #[], .bool false]) w := by kernel_rfl
theorem ta_forkAct_failAct (v : Value) (w : World) : (Instr.typeAssert (.iface 105 v) 78 107 true).run Try.prog w = .ok (.tuple #[.agg #[], .bool false]) w := by kernel_rfl
theorem ta_failAct_failAct (v : Value) (w : World) : (Instr.typeAssert (.iface 107 v) 78 107 true).run Try.prog w = .ok (.tuple #[v, .bool true]) w := by kernel_rfl
theorem ta_failIfAct_failAct (v : Value) (w : World) : (Instr.typeAssert (.iface 109 v) 78 107 true).run Try.prog w = .ok (.tuple #[.agg #[], .bool false]) w := by kernel_rfl
theorem ta_nil_failAct (w : World) : (Instr.typeAssert .nilIface 78 107 true).run Try.prog w = .ok (.tuple #[.agg #[], .bool false]) w := by kernel_rfl
theorem ta_tryAct_failIfAct (v : Value) (w : World) : (Instr.typeAssert (.iface 102 v) 78 109 true).run Try.prog w = .ok (.tuple #[.agg #[.int .i64 0], .bool false]) w := by kernel_rfl
theorem ta_forkAct_failIfAct (v : Value) (w : World) : (Instr.typeAssert (.iface 105 v) 78 109 true).run Try.prog w = .ok (.tuple #[.agg #[.int .i64 0], .bool false]) w := by kernel_rfl
theorem ta_failAct_failIfAct (v : Value) (w : World) : (Instr.typeAssert (.iface 107 v) 78 109 true).run Try.prog w = .ok (.tuple #[.agg #[.int .i64 0], .bool false]) w := by kernel_rfl
theorem ta_failIfAct_failIfAct (v : Value) (w : World) : (Instr.typeAssert (.iface 109 v) 78 109 true).run Try.prog w = .ok (.tuple #[v, .bool true]) w := by kernel_rfl
theorem ta_nil_failIfAct (w : World) : (Instr.typeAssert .nilIface 78 109 true).run Try.prog w = .ok (.tuple #[.agg #[.int .i64 0], .bool false]) w := by kernel_rfl
attribute [local go_sem] ta_loadDeed_loadDeed ta_storeDeed_loadDeed ta_numDeed_loadDeed ta_addDeed_loadDeed ta_needDeed_loadDeed ta_nil_loadDeed ta_loadDeed_storeDeed ta_storeDeed_storeDeed ta_numDeed_storeDeed ta_addDeed_storeDeed ta_needDeed_storeDeed ta_nil_storeDeed ta_loadDeed_numDeed ta_storeDeed_numDeed ta_numDeed_numDeed ta_addDeed_numDeed ta_needDeed_numDeed ta_nil_numDeed ta_loadDeed_addDeed ta_storeDeed_addDeed ta_numDeed_addDeed ta_addDeed_addDeed ta_needDeed_addDeed ta_nil_addDeed ta_loadDeed_needDeed ta_storeDeed_needDeed ta_numDeed_needDeed ta_addDeed_needDeed ta_needDeed_needDeed ta_nil_needDeed ta_tryAct_tryAct ta_forkAct_tryAct ta_failAct_tryAct ta_failIfAct_tryAct ta_nil_tryAct ta_tryAct_forkAct ta_forkAct_forkAct ta_failAct_forkAct ta_failIfAct_forkAct ta_nil_forkAct ta_tryAct_failAct ta_forkAct_failAct ta_failAct_failAct ta_failIfAct_failAct ta_nil_failAct ta_tryAct_failIfAct ta_forkAct_failIfAct ta_failAct_failIfAct ta_failIfAct_failIfAct ta_nil_failIfAct

def partV (k a b : Int) : Value :=
  if k = 1 then .iface 152 (.agg #[.int .i64 a, .int .i64 b])
  else if k = 2 then .iface 154 (.agg #[.int .i64 a, .int .i64 b])
  else if k = 3 then .iface 156 (.agg #[.int .i64 a, .int .i64 b])
  else if k = 4 then .iface 158 (.agg #[.int .i64 a, .int .i64 b])
  else if k = 5 then (if b = 0 then .iface 159 (.agg #[.int .i64 a]) else .nilIface)
  else .nilIface

set_option maxHeartbeats 1000000 in
set_option maxRecDepth 100000 in
theorem partOfDeed_calls (k a b : Int) (w : World) :
    Calls Try.prog 108 #[.agg #[.int .i64 k, .int .i64 a, .int .i64 b]] w fun e w' => e = .returned (partV k a b) ∧ Below w.heap.size w w' := by
    go_enter Try.func108, Try.ntmps108
    go_wp2
    all_goals
      go_ret
      exact ⟨by simp_all [partV], (Below.refl _ _).alloc (Nat.le_refl _) _⟩

set_option maxRecDepth 100000 in
theorem isPlace_calls (i n : Int) (w : World) (h0 : -9223372036854775808 < n) :
    Calls Try.prog 38 #[.int .i64 i, .int .i64 n] w fun e w' => e = .returned (.bool (inR i 0 (n - 1))) ∧ w = w' := by
  by_cases h : 0 ≤ i
  all_goals
    go_enter Try.func38, Try.ntmps38
    go_wp2
    go_ret
    exact ⟨by simp [inR, h] <;> omega, rfl⟩
set_option maxRecDepth 100000 in
theorem isReg_calls (i : Int) (w : World) :
    Calls Try.prog 89 #[.int .i64 i] w fun e w' => e = .returned (.bool (inR i 0 2)) ∧ w = w' := by
    go_enter Try.func89, Try.ntmps89
    go_wp2_with (go_at_call 38; refine (isPlace_calls _ _ _ (by omega)).mono ?_; rintro e w' ⟨rfl, rfl⟩)
    go_ret
    exact ⟨rfl, rfl⟩
set_option maxRecDepth 100000 in
theorem isNum_calls (i : Int) (w : World) :
    Calls Try.prog 87 #[.int .i64 i] w fun e w' => e = .returned (.bool (inR i 0 99)) ∧ w = w' := by
    go_enter Try.func87, Try.ntmps87
    go_wp2_with (go_at_call 38; refine (isPlace_calls _ _ _ (by omega)).mono ?_; rintro e w' ⟨rfl, rfl⟩)
    go_ret
    exact ⟨rfl, rfl⟩

set_option maxHeartbeats 2000000 in
set_option maxRecDepth 100000 in
theorem deedOk_calls (k a b c : Int) (w : World) (h0 : 0 ≤ c) :
    Calls Try.prog 107 #[partV k a b, .int .i64 c] w fun e w' => e = .returned (.bool (deedOk ⟨k, a, b⟩ c)) ∧ Below w.heap.size w w' := by
  by_cases h1 : k = 1
  · subst h1
    have hv : partV 1 a b = .iface 152 (.agg #[.int .i64 a, .int .i64 b]) := rfl
    rw [hv]
    clear hv
    go_enter Try.func107, Try.ntmps107
    go_wp2_with (first | (go_at_call 89; refine (isReg_calls _ _).mono ?_; rintro e w' ⟨rfl, rfl⟩) | (go_at_call 87; refine (isNum_calls _ _).mono ?_; rintro e w' ⟨rfl, rfl⟩) | (go_at_call 38; refine (isPlace_calls _ _ _ (by omega)).mono ?_; rintro e w' ⟨rfl, rfl⟩))
    all_goals
      go_ret
      exact ⟨by simp_all [deedOk], (by repeat (first | exact Below.refl _ _ | (refine Below.alloc ?_ (by simp) _) | (refine Below.setCell ?_ (by simp) _) | (refine below_drewN' ?_ _) | (refine Below.drew ?_)))⟩
  by_cases h2 : k = 2
  · subst h2
    have hv : partV 2 a b = .iface 154 (.agg #[.int .i64 a, .int .i64 b]) := rfl
    rw [hv]
    clear hv
    go_enter Try.func107, Try.ntmps107
    go_wp2_with (first | (go_at_call 89; refine (isReg_calls _ _).mono ?_; rintro e w' ⟨rfl, rfl⟩) | (go_at_call 87; refine (isNum_calls _ _).mono ?_; rintro e w' ⟨rfl, rfl⟩) | (go_at_call 38; refine (isPlace_calls _ _ _ (by omega)).mono ?_; rintro e w' ⟨rfl, rfl⟩))
    all_goals
      go_ret
      exact ⟨by simp_all [deedOk], (by repeat (first | exact Below.refl _ _ | (refine Below.alloc ?_ (by simp) _) | (refine Below.setCell ?_ (by simp) _) | (refine below_drewN' ?_ _) | (refine Below.drew ?_)))⟩
  by_cases h3 : k = 3
  · subst h3
    have hv : partV 3 a b = .iface 156 (.agg #[.int .i64 a, .int .i64 b]) := rfl
    rw [hv]
    clear hv
    go_enter Try.func107, Try.ntmps107
    go_wp2_with (first | (go_at_call 89; refine (isReg_calls _ _).mono ?_; rintro e w' ⟨rfl, rfl⟩) | (go_at_call 87; refine (isNum_calls _ _).mono ?_; rintro e w' ⟨rfl, rfl⟩) | (go_at_call 38; refine (isPlace_calls _ _ _ (by omega)).mono ?_; rintro e w' ⟨rfl, rfl⟩))
    all_goals
      go_ret
      exact ⟨by simp_all [deedOk], (by repeat (first | exact Below.refl _ _ | (refine Below.alloc ?_ (by simp) _) | (refine Below.setCell ?_ (by simp) _) | (refine below_drewN' ?_ _) | (refine Below.drew ?_)))⟩
  by_cases h4 : k = 4
  · subst h4
    have hv : partV 4 a b = .iface 158 (.agg #[.int .i64 a, .int .i64 b]) := rfl
    rw [hv]
    clear hv
    go_enter Try.func107, Try.ntmps107
    go_wp2_with (first | (go_at_call 89; refine (isReg_calls _ _).mono ?_; rintro e w' ⟨rfl, rfl⟩) | (go_at_call 87; refine (isNum_calls _ _).mono ?_; rintro e w' ⟨rfl, rfl⟩) | (go_at_call 38; refine (isPlace_calls _ _ _ (by omega)).mono ?_; rintro e w' ⟨rfl, rfl⟩))
    all_goals
      go_ret
      exact ⟨by simp_all [deedOk], (by repeat (first | exact Below.refl _ _ | (refine Below.alloc ?_ (by simp) _) | (refine Below.setCell ?_ (by simp) _) | (refine below_drewN' ?_ _) | (refine Below.drew ?_)))⟩
  by_cases h5 : k = 5
  · subst h5
    by_cases hb : b = 0
    · subst hb
      have hv : partV 5 a 0 = .iface 159 (.agg #[.int .i64 a]) := rfl
      rw [hv]
      clear hv
      go_enter Try.func107, Try.ntmps107
      go_wp2_with (go_at_call 89; refine (isReg_calls _ _).mono ?_; rintro e w' ⟨rfl, rfl⟩)
      all_goals
        go_ret
        exact ⟨by simp_all [deedOk], (by repeat (first | exact Below.refl _ _ | (refine Below.alloc ?_ (by simp) _) | (refine Below.setCell ?_ (by simp) _) | (refine below_drewN' ?_ _) | (refine Below.drew ?_)))⟩
    · have hv : partV 5 a b = .nilIface := by simp [partV, hb]
      rw [hv]
      have HB := Lib.hid hb
      clear hv hb
      go_enter Try.func107, Try.ntmps107
      go_wp2
      go_ret
      exact ⟨by simp [deedOk, HB.out], (by repeat (first | exact Below.refl _ _ | (refine Below.alloc ?_ (by simp) _) | (refine Below.setCell ?_ (by simp) _) | (refine below_drewN' ?_ _) | (refine Below.drew ?_)))⟩
  · have hv : partV k a b = .nilIface := by simp [partV, h1, h2, h3, h4, h5]
    rw [hv]
    clear hv
    go_enter Try.func107, Try.ntmps107
    go_wp2
    go_ret
    exact ⟨by simp [deedOk, h1, h2, h3, h4, h5], (by repeat (first | exact Below.refl _ _ | (refine Below.alloc ?_ (by simp) _) | (refine Below.setCell ?_ (by simp) _) | (refine below_drewN' ?_ _) | (refine Below.drew ?_)))⟩

set_option maxHeartbeats 1000000 in
set_option maxRecDepth 100000 in
theorem allNums_calls (l : List Int) (A : Option Addr) (cap : Nat) (w : World) (S : Nat → Prop) (hr : Row Kd.int w S A l) :
    Calls Try.prog 60 #[.slice A l.length cap] w fun e w' => e = .returned (.bool (numsOk l)) ∧ w = w' := by
  have hm := hr.1
  go_enter Try.func60, Try.ntmps60
  go_wp2
  go_loop [4, 7] (fun _ i => ∃ k : Nat, k ≤ l.length ∧ i = .int .i64 k ∧ Hid ((l.take k).all (fun k => inR k 0 99) = true)) (fun _ i => l.length - (intOf i).toNat)
  case atStart => exact ⟨0, Nat.zero_le _, rfl, by simp [Hid]⟩
  case round =>
    obtain ⟨k, hk, rfl, HA⟩ := hrel
    by_cases hlt : k < l.length
    · obtain ⟨ad, rfl, hl, hc, hi⟩ := at_int hr hlt
      cases hin : inR l[k] 0 99
      all_goals
        have HI := Lib.hid hin
        clear hin
        go_wp2_with (go_at_call 87; refine (isNum_calls _ _).mono ?_; rintro e w' ⟨rfl, rfl⟩; simp only [HI.out])
      · go_ret
        refine ⟨ret_bool ?_, rfl⟩
        rw [numsOk, all_false_of _ _ k hlt HI.out]
      · go_round
        case rel => exact ⟨k + 1, by omega, by go_num, by unfold Hid; rw [all_take_snoc _ _ _ hlt, HA.out, HI.out]; rfl⟩
        case measure => simp [intOf]; omega
    · go_wp2
      go_ret
      refine ⟨?_, rfl⟩
      have := HA.out
      rw [all_take_all _ _ _ (by omega)] at this
      simp [numsOk, this]

set_option maxHeartbeats 1000000 in
set_option maxRecDepth 100000 in
theorem changeOk_calls (deeds : List Deed) (c : Int) (A : Option Addr) (cap : Nat) (w : World) (S : Nat → Prop) (hr : Row kDeed w S A deeds) (h1 : c ≤ 9223372036854775807) :
    Calls Try.prog 88 #[.slice A deeds.length cap, .int .i64 c] w fun e w' => e = .returned (.bool (changeOk deeds c)) ∧ Below w.heap.size w w' := by
  have hm := hr.1
  by_cases hc : 0 ≤ c ∧ c ≤ 3 ∧ deeds.length ≤ 5
  rotate_left
  · have hf : changeOk deeds c = false := by
      simp only [changeOk, inR]
      rcases Classical.em (deeds.length ≤ 5) with h5 | h5
      · have : ¬ (0 ≤ c ∧ c ≤ 3) := by omega
        simp; omega
      · simp [h5]
    rw [hf]
    by_cases h0 : c < 0
    · go_enter Try.func88, Try.ntmps88
      go_wp2
      go_ret
      exact ⟨rfl, Below.refl _ _⟩
    · by_cases h3 : 3 < c
      · go_enter Try.func88, Try.ntmps88
        go_wp2
        go_ret
        exact ⟨rfl, Below.refl _ _⟩
      · have h5 : 5 < deeds.length := by omega
        go_enter Try.func88, Try.ntmps88
        go_wp2
        go_ret
        exact ⟨rfl, Below.refl _ _⟩
  obtain ⟨hc0, hc3, hc5⟩ := hc
  go_enter Try.func88, Try.ntmps88
  go_wp2
  go_loopw [6, 20] (fun _ i wr => ∃ k : Nat, k ≤ deeds.length ∧ i = .int .i64 k ∧ Hid ((deeds.take k).all (deedOk · c) = true) ∧ Below w.heap.size w wr) (fun _ i _ => deeds.length - (intOf i).toNat)
  case atStart => exact ⟨0, Nat.zero_le _, rfl, by simp [Hid], Below.refl _ _⟩
  case round =>
    obtain ⟨k, hk, rfl, HA, hbr⟩ := hrel
    by_cases hlt : k < deeds.length
    · obtain ⟨ad, rfl, hl, hc1, hc2, hc4, hi1, hi2, hi3⟩ := at_deed (hr.belowAll hbr) hlt
      cases hin : deedOk deeds[k] c
      all_goals
        have HI := Lib.hid hin
        clear hin
        go_wp2_with (first | (go_at_call 108; refine (partOfDeed_calls _ _ _ _).mono ?_; rintro e w1 ⟨rfl, hb1⟩) | (go_at_call 107; refine (deedOk_calls _ _ _ _ _ (by omega)).mono ?_; rintro e w2 ⟨rfl, hb2⟩; rw [HI.out]))
      all_goals have hbx : Below w.heap.size w w2 := below_then (below_then (hbr.alloc hbr.size _) (by have := hbr.size; simp; omega) hb1) (by have := hbr.size; have := hb1.size; simp at this; omega) hb2
      · go_ret
        refine ⟨?_, hbx⟩
        simp [changeOk, all_false_of (deedOk · c) _ k hlt HI.out]
      · go_roundw
        case rel => exact ⟨k + 1, by omega, by go_num, by unfold Hid; rw [all_take_snoc _ _ _ hlt, HA.out, HI.out]; rfl, hbx⟩
        case measure => simp [intOf]; omega
    · go_wp2
      go_ret
      refine ⟨?_, hbr⟩
      have := HA.out
      rw [all_take_all _ _ _ (by omega)] at this
      simp [changeOk, this, inR, hc0, hc3, hc5]
end Go.Proofs.Ytcpabkfoalhldaa
namespace Go.Proofs.Ytcpabkfoalhldaa
open Go.RowKit
set_option linter.unusedVariables false
set_option linter.unusedSimpArgs false

/-- A desk at block g: rows of cells, and of registers, of the call's own. -/
structure DeskAt (w : World) (base g : Nat) (vc vr : Value) (c r : List Int) : Prop where
  c0 : w.cell? ⟨g, 0, none⟩ = some vc
  c1 : w.cell? ⟨g, 1, none⟩ = some vr
  C : OwnI 3 w base vc c
  R : OwnI 3 w base vr r
  gc : ∀ k, vc.ownBlock = some k → k ≠ g ∧ vr.ownBlock ≠ some k
  gr : ∀ k, vr.ownBlock = some k → k ≠ g
  lt : g < w.heap.size
theorem DeskAt.keep {w w' : World} {base g : Nat} {vc vr : Value} {c r : List Int} {T : Nat → Prop} (h : DeskAt w base g vc vr c r) (hk : Keep T w w') (hg : ¬ T g) (hc : ∀ k, vc.ownBlock = some k → ¬ T k) (hr : ∀ k, vr.ownBlock = some k → ¬ T k) : DeskAt w' base g vc vr c r :=
  ⟨(hk.cell (p := ⟨g, 0, none⟩) h.lt hg).trans h.c0, (hk.cell (p := ⟨g, 1, none⟩) h.lt hg).trans h.c1, h.C.keep hk hc, h.R.keep hk hr, h.gc, h.gr, Nat.lt_of_lt_of_le h.lt hk.size⟩
theorem DeskAt.setR {w : World} {base g gr : Nat} {vc : Value} {c r : List Int} {cap : Nat} (h : DeskAt w base g vc (.slice (some ⟨gr, 0, none⟩) r.length cap) c r) {j : Nat} (hj : j < r.length) (n : Int) (hn : isI n) :
    DeskAt (w.setCell ⟨gr, j, none⟩ (.int .i64 n)) base g vc (.slice (some ⟨gr, 0, none⟩) r.length cap) c (r.set j n) := by
  have hgr := h.gr gr rfl
  refine ⟨?_, ?_, h.C.far (fun k hk e => (h.gc k hk).2 (by rw [e]; rfl)) _, h.R.set_ hj n hn, h.gc, h.gr, by simpa [World.setCell] using h.lt⟩
  · exact (World.cell?_of_block (w := w) (Below.heap_setCell w _ _ g (fun e => hgr e.symm))).trans h.c0
  · exact (World.cell?_of_block (w := w) (Below.heap_setCell w _ _ g (fun e => hgr e.symm))).trans h.c1
theorem DeskAt.setC {w : World} {base g gc : Nat} {vr : Value} {c r : List Int} {cap : Nat} (h : DeskAt w base g (.slice (some ⟨gc, 0, none⟩) c.length cap) vr c r) {j : Nat} (hj : j < c.length) (n : Int) (hn : isI n) :
    DeskAt (w.setCell ⟨gc, j, none⟩ (.int .i64 n)) base g (.slice (some ⟨gc, 0, none⟩) c.length cap) vr (c.set j n) r := by
  have hgc := (h.gc gc rfl)
  refine ⟨?_, ?_, h.C.set_ hj n hn, h.R.far (fun k hk e => hgc.2 (by rw [hk, e])) _, h.gc, h.gr, by simpa [World.setCell] using h.lt⟩
  · exact (World.cell?_of_block (w := w) (Below.heap_setCell w _ _ g (fun e => hgc.1 e.symm))).trans h.c0
  · exact (World.cell?_of_block (w := w) (Below.heap_setCell w _ _ g (fun e => hgc.1 e.symm))).trans h.c1

/-- What a deed leaves at the desk. -/
def Did (res : Option (List Int × List Int)) (w : World) (base g : Nat) (vc vr : Value) (c r : List Int) (e : Ending) (w' : World) : Prop :=
  Keep (fun k => vc.ownBlock = some k ∨ vr.ownBlock = some k) w w' ∧ match res with
  | none => e = .returned (.bool false) ∧ DeskAt w' base g vc vr c r
  | some cr => e = .returned (.bool true) ∧ DeskAt w' base g vc vr cr.1 cr.2

section
variable {w : World} {base g : Nat} {vc vr : Value} {c r : List Int} {n : Nat}
set_option maxHeartbeats 1000000 in
set_option maxRecDepth 100000 in
theorem does2 (h : DeskAt w base g vc vr c r) (hd : Desk n (c, r)) (a b : Int) (ha : 0 ≤ a ∧ a ≤ 2) (hb : 0 ≤ b ∧ b ≤ (n : Int) - 1) (hn : n ≤ 3) :
    Calls Try.prog 131 #[.pointer (some ⟨g, 0, none⟩), .agg #[.int .i64 1, .int .i64 a, .int .i64 b]] w (Did (doDeed (c, r) ⟨1, a, b⟩) w base g vc vr c r) := by
  have hcl : c.length = n := hd.cl
  have hrl : r.length = 3 := hd.rl
  obtain ⟨x, rfl⟩ := Int.eq_ofNat_of_zero_le ha.1
  obtain ⟨y, rfl⟩ := Int.eq_ofNat_of_zero_le hb.1
  have hxl : x < r.length := by omega
  have hyl : y < c.length := by omega
  obtain ⟨gr, cr, hvr, hgr1, hgr2⟩ := h.R.place (by omega)
  obtain ⟨gc, cc, hvc, hgc1, hgc2⟩ := h.C.place (by omega)
  subst hvr; subst hvc
  have hdd : doDeed (c, r) ⟨1, (x : Int), (y : Int)⟩ = some (c, r.set x c[y]) := by simp [doDeed, rdI, hyl]
  rw [hdd]
  have hcI := h.C.all y hyl
  have hkw : ∀ o, Keep (fun k => some gc = some k ∨ some gr = some k) w (w.alloc o) := fun o => (Keep.refl _ _).alloc o
  have h2 : ∀ o, DeskAt (w.alloc o) base g _ _ c r := fun o => h.keep (T := fun _ => False) ((Keep.refl _ _).alloc o) (fun h => h) (fun _ _ h => h) (fun _ _ h => h)
  clear hdd hd
  go_enter Try.func131, Try.ntmps131
  go_wp2
  obtain ⟨W2, HW⟩ : ∃ W2, W2 = w.alloc (Obj.cells #[.int .i64 1, .int .i64 (x : Nat), .int .i64 (y : Nat)] 63) := ⟨_, rfl⟩
  have hk2 := hkw (Obj.cells #[.int .i64 1, .int .i64 (x : Nat), .int .i64 (y : Nat)] 63)
  have hd2 := h2 (Obj.cells #[.int .i64 1, .int .i64 (x : Nat), .int .i64 (y : Nat)] 63)
  rw [← HW] at hk2 hd2 ⊢
  have d0 : W2.cell? ⟨w.heap.size, 0, none⟩ = some (.int .i64 1) := by rw [HW]; simp [go_sem]
  have d1 : W2.cell? ⟨w.heap.size, 1, none⟩ = some (.int .i64 (x : Nat)) := by rw [HW]; simp [go_sem]
  have d2 : W2.cell? ⟨w.heap.size, 2, none⟩ = some (.int .i64 (y : Nat)) := by rw [HW]; simp [go_sem]
  have e0 := hd2.c0
  have e1 := hd2.c1
  obtain ⟨f0, f1⟩ := hd2.C.cell hyl
  obtain ⟨f2, f3⟩ := hd2.R.cell hxl
  clear HW hkw h2
  have x1 : (x : Int) < r.length := by omega
  have x2 : (0 : Int) ≤ x := by omega
  have y1 : (y : Int) < c.length := by omega
  have y2 : (0 : Int) ≤ y := by omega
  have HRL := Lib.hid hrl; have HCL := Lib.hid hcl
  clear hrl hcl
  go_still_tail 15, (by kernel_rfl)
  go_wp2
  go_ret
  refine ⟨(hk2.drewN 1).setCell (fun _ => .inr rfl) _, rfl, ?_⟩
  exact (hd2.keep (T := fun _ => False) ((Keep.refl _ _).drewN 1) (fun h => h) (fun _ _ h => h) (fun _ _ h => h)).setR hxl _ hcI
set_option maxHeartbeats 1000000 in
set_option maxRecDepth 100000 in
theorem does3 (h : DeskAt w base g vc vr c r) (hd : Desk n (c, r)) (a b : Int) (ha : 0 ≤ a ∧ a ≤ (n : Int) - 1) (hb : 0 ≤ b ∧ b ≤ 2) (hn : n ≤ 3) :
    Calls Try.prog 132 #[.pointer (some ⟨g, 0, none⟩), .agg #[.int .i64 2, .int .i64 a, .int .i64 b]] w (Did (doDeed (c, r) ⟨2, a, b⟩) w base g vc vr c r) := by
  have hcl : c.length = n := hd.cl
  have hrl : r.length = 3 := hd.rl
  obtain ⟨x, rfl⟩ := Int.eq_ofNat_of_zero_le ha.1
  obtain ⟨y, rfl⟩ := Int.eq_ofNat_of_zero_le hb.1
  have hxl : x < c.length := by omega
  have hyl : y < r.length := by omega
  obtain ⟨gr, cr, hvr, hgr1, hgr2⟩ := h.R.place (by omega)
  obtain ⟨gc, cc, hvc, hgc1, hgc2⟩ := h.C.place (by omega)
  subst hvr; subst hvc
  have hdd : doDeed (c, r) ⟨2, (x : Int), (y : Int)⟩ = some (c.set x r[y], r) := by simp [doDeed, rdI, hyl]
  rw [hdd]
  have hcI := h.R.all y hyl
  have hkw : ∀ o, Keep (fun k => some gc = some k ∨ some gr = some k) w (w.alloc o) := fun o => (Keep.refl _ _).alloc o
  have h2 : ∀ o, DeskAt (w.alloc o) base g _ _ c r := fun o => h.keep (T := fun _ => False) ((Keep.refl _ _).alloc o) (fun h => h) (fun _ _ h => h) (fun _ _ h => h)
  clear hdd hd
  go_enter Try.func132, Try.ntmps132
  go_wp2
  obtain ⟨W2, HW⟩ : ∃ W2, W2 = w.alloc (Obj.cells #[.int .i64 2, .int .i64 (x : Nat), .int .i64 (y : Nat)] 63) := ⟨_, rfl⟩
  have hk2 := hkw (Obj.cells #[.int .i64 2, .int .i64 (x : Nat), .int .i64 (y : Nat)] 63)
  have hd2 := h2 (Obj.cells #[.int .i64 2, .int .i64 (x : Nat), .int .i64 (y : Nat)] 63)
  rw [← HW] at hk2 hd2 ⊢
  have d0 : W2.cell? ⟨w.heap.size, 0, none⟩ = some (.int .i64 2) := by rw [HW]; simp [go_sem]
  have d1 : W2.cell? ⟨w.heap.size, 1, none⟩ = some (.int .i64 (x : Nat)) := by rw [HW]; simp [go_sem]
  have d2 : W2.cell? ⟨w.heap.size, 2, none⟩ = some (.int .i64 (y : Nat)) := by rw [HW]; simp [go_sem]
  have e0 := hd2.c0
  have e1 := hd2.c1
  obtain ⟨f0, f1⟩ := hd2.C.cell hxl
  obtain ⟨f2, f3⟩ := hd2.R.cell hyl
  clear HW hkw h2
  have x1 : (x : Int) < c.length := by omega
  have x2 : (0 : Int) ≤ x := by omega
  have y1 : (y : Int) < r.length := by omega
  have y2 : (0 : Int) ≤ y := by omega
  have HRL := Lib.hid hrl; have HCL := Lib.hid hcl
  clear hrl hcl
  go_still_tail 15, (by kernel_rfl)
  go_wp2
  go_ret
  refine ⟨(hk2.drewN 1).setCell (fun _ => .inl rfl) _, rfl, ?_⟩
  exact (hd2.keep (T := fun _ => False) ((Keep.refl _ _).drewN 1) (fun h => h) (fun _ _ h => h) (fun _ _ h => h)).setC hxl _ hcI
set_option maxHeartbeats 1000000 in
set_option maxRecDepth 100000 in
theorem does4 (h : DeskAt w base g vc vr c r) (hd : Desk n (c, r)) (a b : Int) (ha : 0 ≤ a ∧ a ≤ 2) (hb : 0 ≤ b ∧ b ≤ 99) (hn : n ≤ 3) :
    Calls Try.prog 133 #[.pointer (some ⟨g, 0, none⟩), .agg #[.int .i64 3, .int .i64 a, .int .i64 b]] w (Did (doDeed (c, r) ⟨3, a, b⟩) w base g vc vr c r) := by
  have hcl : c.length = n := hd.cl
  have hrl : r.length = 3 := hd.rl
  obtain ⟨x, rfl⟩ := Int.eq_ofNat_of_zero_le ha.1
  obtain ⟨y, rfl⟩ := Int.eq_ofNat_of_zero_le hb.1
  have hxl : x < r.length := by omega
  obtain ⟨gr, cr, hvr, hgr1, hgr2⟩ := h.R.place (by omega)
  subst hvr
  have hdd : doDeed (c, r) ⟨3, (x : Int), (y : Int)⟩ = some (c, r.set x (y : Int)) := by simp [doDeed]
  rw [hdd]
  have hcI : isI (y : Int) := by unfold isI; omega
  have hkw : ∀ o, Keep (fun k => vc.ownBlock = some k ∨ some gr = some k) w (w.alloc o) := fun o => (Keep.refl _ _).alloc o
  have h2 : ∀ o, DeskAt (w.alloc o) base g _ _ c r := fun o => h.keep (T := fun _ => False) ((Keep.refl _ _).alloc o) (fun h => h) (fun _ _ h => h) (fun _ _ h => h)
  clear hdd hd
  go_enter Try.func133, Try.ntmps133
  go_wp2
  obtain ⟨W2, HW⟩ : ∃ W2, W2 = w.alloc (Obj.cells #[.int .i64 3, .int .i64 (x : Nat), .int .i64 (y : Nat)] 63) := ⟨_, rfl⟩
  have hk2 := hkw (Obj.cells #[.int .i64 3, .int .i64 (x : Nat), .int .i64 (y : Nat)] 63)
  have hd2 := h2 (Obj.cells #[.int .i64 3, .int .i64 (x : Nat), .int .i64 (y : Nat)] 63)
  rw [← HW] at hk2 hd2 ⊢
  have d0 : W2.cell? ⟨w.heap.size, 0, none⟩ = some (.int .i64 3) := by rw [HW]; simp [go_sem]
  have d1 : W2.cell? ⟨w.heap.size, 1, none⟩ = some (.int .i64 (x : Nat)) := by rw [HW]; simp [go_sem]
  have d2 : W2.cell? ⟨w.heap.size, 2, none⟩ = some (.int .i64 (y : Nat)) := by rw [HW]; simp [go_sem]
  have e0 := hd2.c0
  have e1 := hd2.c1
  obtain ⟨f2, f3⟩ := hd2.R.cell hxl
  clear HW hkw h2
  have x1 : (x : Int) < r.length := by omega
  have x2 : (0 : Int) ≤ x := by omega
  have y2 : (0 : Int) ≤ y := by omega
  have HRL := Lib.hid hrl; have HCL := Lib.hid hcl
  clear hrl hcl
  go_still_tail 8, (by kernel_rfl)
  go_wp2
  go_ret
  refine ⟨(hk2.drewN 1).setCell (fun _ => .inr rfl) _, rfl, ?_⟩
  exact (hd2.keep (T := fun _ => False) ((Keep.refl _ _).drewN 1) (fun h => h) (fun _ _ h => h) (fun _ _ h => h)).setR hxl _ hcI
set_option maxHeartbeats 1000000 in
set_option maxRecDepth 100000 in
theorem does5 (h : DeskAt w base g vc vr c r) (hd : Desk n (c, r)) (a b : Int) (ha : 0 ≤ a ∧ a ≤ 2) (hb : 0 ≤ b ∧ b ≤ 2) (hn : n ≤ 3) :
    Calls Try.prog 134 #[.pointer (some ⟨g, 0, none⟩), .agg #[.int .i64 4, .int .i64 a, .int .i64 b]] w (Did (doDeed (c, r) ⟨4, a, b⟩) w base g vc vr c r) := by
  have hcl : c.length = n := hd.cl
  have hrl : r.length = 3 := hd.rl
  obtain ⟨x, rfl⟩ := Int.eq_ofNat_of_zero_le ha.1
  obtain ⟨y, rfl⟩ := Int.eq_ofNat_of_zero_le hb.1
  have hxl : x < r.length := by omega
  have hyl : y < r.length := by omega
  obtain ⟨gr, cr, hvr, hgr1, hgr2⟩ := h.R.place (by omega)
  subst hvr
  have hdd : doDeed (c, r) ⟨4, (x : Int), (y : Int)⟩ = some (c, r.set x ((r[x] + r[y]) % 100)) := by simp [doDeed, rdI, hyl, hxl]
  rw [hdd]
  have hr1 : 0 ≤ r[x] ∧ r[x] ≤ 99 := numsOk_get hd.r x hxl
  have hr2 : 0 ≤ r[y] ∧ r[y] ≤ 99 := numsOk_get hd.r y hyl
  have hcI : isI ((r[x] + r[y]) % 100) := by unfold isI; omega
  have e4 : IntKind.i64.wrap (r[x] + r[y]) = r[x] + r[y] := IntWalk.i64_in _ (by omega)
  have e5 : 0 ≤ r[x] + r[y] := by omega
  have hkw : ∀ o, Keep (fun k => vc.ownBlock = some k ∨ some gr = some k) w (w.alloc o) := fun o => (Keep.refl _ _).alloc o
  have h2 : ∀ o, DeskAt (w.alloc o) base g _ _ c r := fun o => h.keep (T := fun _ => False) ((Keep.refl _ _).alloc o) (fun h => h) (fun _ _ h => h) (fun _ _ h => h)
  clear hdd hd
  go_enter Try.func134, Try.ntmps134
  go_wp2
  obtain ⟨W2, HW⟩ : ∃ W2, W2 = w.alloc (Obj.cells #[.int .i64 4, .int .i64 (x : Nat), .int .i64 (y : Nat)] 63) := ⟨_, rfl⟩
  have hk2 := hkw (Obj.cells #[.int .i64 4, .int .i64 (x : Nat), .int .i64 (y : Nat)] 63)
  have hd2 := h2 (Obj.cells #[.int .i64 4, .int .i64 (x : Nat), .int .i64 (y : Nat)] 63)
  rw [← HW] at hk2 hd2 ⊢
  have d0 : W2.cell? ⟨w.heap.size, 0, none⟩ = some (.int .i64 4) := by rw [HW]; simp [go_sem]
  have d1 : W2.cell? ⟨w.heap.size, 1, none⟩ = some (.int .i64 (x : Nat)) := by rw [HW]; simp [go_sem]
  have d2 : W2.cell? ⟨w.heap.size, 2, none⟩ = some (.int .i64 (y : Nat)) := by rw [HW]; simp [go_sem]
  have e0 := hd2.c0
  have e1 := hd2.c1
  obtain ⟨f0, f1⟩ := hd2.R.cell hyl
  obtain ⟨f2, f3⟩ := hd2.R.cell hxl
  clear HW hkw h2
  have x1 : (x : Int) < r.length := by omega
  have x2 : (0 : Int) ≤ x := by omega
  have y1 : (y : Int) < r.length := by omega
  have y2 : (0 : Int) ≤ y := by omega
  have HRL := Lib.hid hrl; have HCL := Lib.hid hcl
  clear hrl hcl
  go_still_tail 25, (by kernel_rfl)
  go_wp2
  go_ret
  refine ⟨(hk2.drewN 1).setCell (fun _ => .inr rfl) _, rfl, ?_⟩
  exact (hd2.keep (T := fun _ => False) ((Keep.refl _ _).drewN 1) (fun h => h) (fun _ _ h => h) (fun _ _ h => h)).setR hxl _ hcI
set_option maxHeartbeats 1000000 in
set_option maxRecDepth 100000 in
theorem does6 (h : DeskAt w base g vc vr c r) (hd : Desk n (c, r)) (a : Int) (ha : 0 ≤ a ∧ a ≤ 2) (hn : n ≤ 3) :
    Calls Try.prog 135 #[.pointer (some ⟨g, 0, none⟩), .agg #[.int .i64 5, .int .i64 a, .int .i64 0]] w (Did (doDeed (c, r) ⟨5, a, 0⟩) w base g vc vr c r) := by
  have hrl : r.length = 3 := hd.rl
  obtain ⟨x, rfl⟩ := Int.eq_ofNat_of_zero_le ha.1
  have hxl : x < r.length := by omega
  obtain ⟨gr, cr, hvr, hgr1, hgr2⟩ := h.R.place (by omega)
  subst hvr
  have hkw : ∀ o, Keep (fun k => vc.ownBlock = some k ∨ some gr = some k) w (w.alloc o) := fun o => (Keep.refl _ _).alloc o
  have h2 : ∀ o, DeskAt (w.alloc o) base g _ _ c r := fun o => h.keep (T := fun _ => False) ((Keep.refl _ _).alloc o) (fun h => h) (fun _ _ h => h) (fun _ _ h => h)
  by_cases h0 : r[x] = 0
  · have hdd : doDeed (c, r) ⟨5, (x : Int), 0⟩ = none := by simp [doDeed, rdI, hxl, h0]
    rw [hdd]
    have hbn : (r[x] != 0) = false := by simp [h0]
    clear hdd hd h0
    go_enter Try.func135, Try.ntmps135
    go_wp2
    obtain ⟨W2, HW⟩ : ∃ W2, W2 = w.alloc (Obj.cells #[.int .i64 5, .int .i64 (x : Nat), .int .i64 0] 63) := ⟨_, rfl⟩
    have hk2 := hkw (Obj.cells #[.int .i64 5, .int .i64 (x : Nat), .int .i64 0] 63)
    have hd2 := h2 (Obj.cells #[.int .i64 5, .int .i64 (x : Nat), .int .i64 0] 63)
    rw [← HW] at hk2 hd2 ⊢
    have d1 : W2.cell? ⟨w.heap.size, 1, none⟩ = some (.int .i64 (x : Nat)) := by rw [HW]; simp [go_sem]
    have e0 := hd2.c0
    have e1 := hd2.c1
    obtain ⟨f2, f3⟩ := hd2.R.cell hxl
    clear HW hkw h2
    have x1 : (x : Int) < r.length := by omega
    have x2 : (0 : Int) ≤ x := by omega
    have HRL := Lib.hid hrl
    clear hrl
    go_quiet (fail)
    go_wp2
    go_ret
    exact ⟨hk2.drewN _, rfl, hd2.keep (T := fun _ => False) ((Keep.refl _ _).drewN _) (fun h => h) (fun _ _ h => h) (fun _ _ h => h)⟩
  · have hdd : doDeed (c, r) ⟨5, (x : Int), 0⟩ = some (c, r) := by simp [doDeed, rdI, hxl, h0]
    rw [hdd]
    have hbn : (r[x] != 0) = true := by simp [h0]
    clear hdd hd h0
    go_enter Try.func135, Try.ntmps135
    go_wp2
    obtain ⟨W2, HW⟩ : ∃ W2, W2 = w.alloc (Obj.cells #[.int .i64 5, .int .i64 (x : Nat), .int .i64 0] 63) := ⟨_, rfl⟩
    have hk2 := hkw (Obj.cells #[.int .i64 5, .int .i64 (x : Nat), .int .i64 0] 63)
    have hd2 := h2 (Obj.cells #[.int .i64 5, .int .i64 (x : Nat), .int .i64 0] 63)
    rw [← HW] at hk2 hd2 ⊢
    have d1 : W2.cell? ⟨w.heap.size, 1, none⟩ = some (.int .i64 (x : Nat)) := by rw [HW]; simp [go_sem]
    have e0 := hd2.c0
    have e1 := hd2.c1
    obtain ⟨f2, f3⟩ := hd2.R.cell hxl
    clear HW hkw h2
    have x1 : (x : Int) < r.length := by omega
    have x2 : (0 : Int) ≤ x := by omega
    have HRL := Lib.hid hrl
    clear hrl
    go_quiet (fail)
    go_wp2
    go_ret
    exact ⟨hk2.drewN _, rfl, hd2.keep (T := fun _ => False) ((Keep.refl _ _).drewN _) (fun h => h) (fun _ _ h => h) (fun _ _ h => h)⟩
end
end Go.Proofs.Ytcpabkfoalhldaa
namespace Go.Proofs.Ytcpabkfoalhldaa
open Go.RowKit
set_option linter.unusedVariables false
set_option linter.unusedSimpArgs false

def fnV (f : Nat) : Value := .func (.func f) #[] #[]
def doesV : Value := .agg #[fnV 130, fnV 131, fnV 132, fnV 133, fnV 134, fnV 135]
set_option maxHeartbeats 1000000 in
set_option maxRecDepth 100000 in
theorem does_calls (w : World) : Calls Try.prog 112 #[] w fun e w' => e = .returned doesV ∧ Below w.heap.size w w' := by
  go_enter Try.func112, Try.ntmps112
  go_wp2
  exact bodyPost_ret (v := doesV) (by simp [results, Try.results112, go_sem, doesV, fnV]) rfl ⟨rfl, (by repeat (first | exact Below.refl _ _ | (refine Below.alloc ?_ (by simp) _) | (refine Below.setCell ?_ (by simp) _) | (refine below_drewN' ?_ _) | (refine Below.drew ?_)))⟩

set_option maxHeartbeats 1000000 in
set_option maxRecDepth 100000 in
theorem cloneInt_calls (xs : List Int) (A : Option Addr) (c : Nat) (w : World) (S : Nat → Prop) (hr : Row Kd.int w S A xs) (hl : xs.length ≤ 1000000) :
    Calls Try.prog 65 #[.slice A xs.length c] w fun e w' => ∃ v, e = .returned v ∧ OwnI 3 w' w.heap.size v xs ∧ Below w.heap.size w w' := by
  cases A with
  | none =>
    have hx : xs = [] := by
      rcases Classical.em (xs = []) with h | h
      · exact h
      · obtain ⟨ad, e, _⟩ := hr.2 h; cases e
    subst hx
    have hn := Lib.run_eql_slice_nil (P := Try.prog) w 23 3 none 0 c 0 0 Try.underlying23
    go_enter Try.func65, Try.ntmps65
    go_wp2
    go_ret
    exact ⟨_, rfl, OwnI.nil _ _ _, Below.refl _ _⟩
  | some ad =>
    have hn := Lib.run_eql_slice_nil (P := Try.prog) w 23 3 (some ad) xs.length c 0 0 Try.underlying23
    go_enter Try.func65, Try.ntmps65
    go_wp2_with (at_builtin; refine wpList_clone_kd (d := Kd.int) rfl (.tmp 5) (.tmp 6) _ rfl Try.underlying23 _ 8 infoInt rfl (by decide) (by decide) rfl (some ad) c rfl hr (by omega) ?_; intro v w1 ho hb)
    go_ret
    exact ⟨v, rfl, OwnI.of ho, hb⟩

/-- What comes back of a change: rows of the call's own. -/
def ResCDi (r : Option (List Int × List Int)) (B : Nat) (e : Ending) (w' : World) : Prop :=
  match r with
  | none => e = .returned (.tuple #[.slice none 0 0, .slice none 0 0, .bool false])
  | some (c, r) => ∃ vc vr, e = .returned (.tuple #[vc, vr, .bool true]) ∧ OwnI 3 w' B vc c ∧ OwnI 3 w' B vr r ∧ ∀ k, vc.ownBlock = some k → vr.ownBlock ≠ some k

set_option maxHeartbeats 2000000 in
set_option maxRecDepth 100000 in
theorem implChangeDo_bad (cells regs : List Int) (deeds : List Deed) (A B D : Option Addr) (ca cb cd : Nat) (w : World) (S : Nat → Prop) (hA : Row Kd.int w S A cells) (hB : Row Kd.int w S B regs) (hD : Row kDeed w S D deeds) (hbad : deskOk cells regs deeds = false) :
    Calls Try.prog 91 #[.slice A cells.length ca, .slice B regs.length cb, .slice D deeds.length cd] w fun e w' => ResCDi none w.heap.size e w' ∧ Below w.heap.size w w' := by
  have hm := hA.1
  have hm2 := hB.1
  cases h1 : changeOk deeds cells.length
  · have H1 := Lib.hid h1
    clear h1 hbad
    go_enter Try.func91, Try.ntmps91
    go_wp2_with (go_at_call 88; refine (changeOk_calls deeds _ _ _ _ S hD (by omega)).mono ?_; rintro e w1 ⟨rfl, hb1⟩; rw [H1.out])
    go_ret3
    exact ⟨rfl, hb1⟩
  · cases h2 : numsOk cells
    · have H1 := Lib.hid h1
      have H2 := Lib.hid h2
      clear h1 h2 hbad
      go_enter Try.func91, Try.ntmps91
      go_wp2_with (first | (go_at_call 88; refine (changeOk_calls deeds _ _ _ _ S hD (by omega)).mono ?_; rintro e w1 ⟨rfl, hb1⟩; rw [H1.out]) | (go_at_call 60; refine (allNums_calls cells _ _ _ S (hA.belowAll hb1)).mono ?_; rintro e w' ⟨rfl, rfl⟩; rw [H2.out]))
      go_ret3
      exact ⟨rfl, hb1⟩
    · by_cases h4 : regs.length = 3
      · have h3 : numsOk regs = false := by simpa [deskOk, h1, h2, h4] using hbad
        have H1 := Lib.hid h1
        have H2 := Lib.hid h2
        have H3 := Lib.hid h3
        have h5 : ((regs.length : Int) != 3) = false := by simp [h4]
        clear h1 h2 h3 h4 hbad
        go_enter Try.func91, Try.ntmps91
        go_wp2_with (first | (go_at_call 88; refine (changeOk_calls deeds _ _ _ _ S hD (by omega)).mono ?_; rintro e w1 ⟨rfl, hb1⟩; rw [H1.out]) | (go_at_call 60; with_reducible refine (allNums_calls cells _ _ _ S (hA.belowAll hb1)).mono ?_; rintro e w' ⟨rfl, rfl⟩; rw [H2.out]) | (go_at_call 60; refine (allNums_calls regs _ _ _ S (hB.belowAll hb1)).mono ?_; rintro e w' ⟨rfl, rfl⟩; rw [H3.out]))
        go_ret3
        exact ⟨rfl, hb1⟩
      · have H1 := Lib.hid h1
        have H2 := Lib.hid h2
        have h5 : ((regs.length : Int) != 3) = true := by simp; omega
        clear h1 h2 h4 hbad
        go_enter Try.func91, Try.ntmps91
        go_wp2_with (first | (go_at_call 88; refine (changeOk_calls deeds _ _ _ _ S hD (by omega)).mono ?_; rintro e w1 ⟨rfl, hb1⟩; rw [H1.out]) | (go_at_call 60; refine (allNums_calls cells _ _ _ S (hA.belowAll hb1)).mono ?_; rintro e w' ⟨rfl, rfl⟩; rw [H2.out]))
        go_ret3
        exact ⟨rfl, hb1⟩
end Go.Proofs.Ytcpabkfoalhldaa
