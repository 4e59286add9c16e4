/- slices.Insert of one number into a row of the call's own; slices.BinarySearch of such a row. What changes and bodies touch: plain Lean. Cells are 0, 1, 2. The reference's sets, sorted at each body: the same as sorted at last. The program's rows of cells: withCell, hasCell. The reference's rows of cells: l2Has, l2Sort. The reference's ChangeWrites. The program's ChangeReads, ChangeWrites. A map that counts numbers: what it holds, read and written. The program's ChangeWrites. The reference's ChangeReads. The reference: do two rows meet. The reference: which cells a body touches. The program counts what bodies touch. -/
import Derived.Maps.OwnSet
import Derived.Maps.RangeWalk
import Derived.Deep.RegionHeld3
import Derived.Deep.DrawnRows
import Derived.Test.YtcpabkfoalhldaaQd
namespace Go.Proofs.Ytcpabkfoalhldaa
open Go.RowKit
set_option linter.unusedVariables false
set_option linter.unusedSimpArgs false

/-- Cells written from o on. -/
def putL (l : List Value) (o : Nat) (vs : List Value) : List Value := l.take o ++ vs ++ l.drop (o + vs.length)
theorem putL_len (l : List Value) (o : Nat) (vs : List Value) (h : o + vs.length ≤ l.length) : (putL l o vs).length = l.length := by
  unfold putL; simp; omega
theorem heap_setCells (b : Nat) (e : TypeId) : ∀ (vs : List Value) (o : Nat) (w : World) (cur : Array Value), w.heap[b]? = some (.cells cur e (0, 0)) → o + vs.length ≤ cur.size →
    ∃ cur', (w.setCells b o vs).heap[b]? = some (.cells cur' e (0, 0)) ∧ cur'.toList = putL cur.toList o vs ∧ cur'.size = cur.size := by
  intro vs
  induction vs with
  | nil => intro o w cur h _; exact ⟨cur, h, by simp [putL], rfl⟩
  | cons v r ih =>
    intro o w cur h hl
    simp only [List.length_cons] at hl
    obtain ⟨cur', h1, h2, h3⟩ := ih (o + 1) (w.setCell ⟨b, o, none⟩ v) (cur.setIfInBounds o v) (heap_setCell_same w b o cur e v h) (by simp; omega)
    refine ⟨cur', h1, ?_, by rw [h3]; simp⟩
    rw [h2, Array.toList_setIfInBounds]
    unfold putL
    have hlt : o < cur.toList.length := by simp; omega
    rw [List.take_succ_eq_append_getElem (by simpa using hlt), List.take_set, List.drop_set_of_lt (by omega)]
    rw [List.set_eq_of_length_le (by rw [List.length_take]; exact Nat.min_le_left _ _)]
    simp only [List.getElem_set_self, List.append_assoc, List.cons_append, List.nil_append, List.length_cons]
    congr 4
    omega
theorem setCells_frame (b : Nat) : ∀ (vs : List Value) (o : Nat) (w : World), w.grownBy (w.setCells b o vs) (some b) := by
  intro vs
  induction vs with
  | nil => intro o w; exact grown_refl w _
  | cons v r ih =>
    intro o w
    exact (grown_set (grown_refl w _) o v).trans (ih (o + 1) _)
theorem ins_shift (cur cs : List Value) (n i : Nat) (x : Value) (h : cur.take n = cs) (hn : n + 1 ≤ cur.length) (hi : i < n) : (putL (putL cur (i + 1) (cs.drop i)) i [x]).take (n + 1) = cs.take i ++ x :: cs.drop i := by
  have hcl : cs.length = n := by rw [← h, List.length_take]; omega
  have e1 : (putL cur (i + 1) (cs.drop i)) = cur.take (i + 1) ++ (cs.drop i ++ cur.drop (n + 1)) := by
    unfold putL; rw [List.length_drop, hcl, List.append_assoc]; congr 3; omega
  have e2 : (putL cur (i + 1) (cs.drop i)).take i = cs.take i := by
    rw [e1, List.take_append_of_le_length (by simp; omega), List.take_take, ← h, List.take_take]
    congr 1; omega
  have e3 : (putL cur (i + 1) (cs.drop i)).drop (i + 1) = cs.drop i ++ cur.drop (n + 1) := by
    rw [e1, List.drop_append_of_le_length (by simp; omega), List.drop_of_length_le (by simp; omega), List.nil_append]
  rw [putL, e2]
  simp only [List.length_cons, List.length_nil, Nat.zero_add]
  rw [e3, List.append_assoc, List.singleton_append]
  rw [List.take_append, List.take_of_length_le (by simp; omega)]
  congr 1
  have : n + 1 - (cs.take i).length = (cs.drop i).length + 1 := by simp; omega
  rw [this, List.take_succ_cons]
  congr 1
  rw [List.take_append_of_le_length (Nat.le_refl _), List.take_of_length_le (Nat.le_refl _)]
theorem ins_end (cur cs : List Value) (n : Nat) (x : Value) (h : cur.take n = cs) (hn : n + 1 ≤ cur.length) : (putL cur n [x]).take (n + 1) = cs ++ [x] := by
  have hcl : cs.length = n := by rw [← h, List.length_take]; omega
  unfold putL
  rw [h, List.append_assoc, List.take_append, List.take_of_length_le (by omega)]
  congr 1
  have : n + 1 - cs.length = 1 := by omega
  rw [this]; rfl

theorem ins_grow (cur cs : List Value) (n i : Nat) (x : Value) (hcl : cs.length = n) (h : cur.take i = cs.take i) (hn : n + 1 ≤ cur.length) (hi : i < n) : (putL (putL cur i [x]) (i + 1) (cs.drop i)).take (n + 1) = cs.take i ++ x :: cs.drop i := by
  have hti : (cs.take i).length = i := by rw [List.length_take]; omega
  have e1 : (putL cur i [x]).take (i + 1) = cs.take i ++ [x] := by
    unfold putL
    rw [h, List.take_append_of_le_length (by simp; omega), List.take_of_length_le (by simp; omega)]
  rw [show putL (putL cur i [x]) (i + 1) (cs.drop i) = (putL cur i [x]).take (i + 1) ++ cs.drop i ++ (putL cur i [x]).drop (i + 1 + (cs.drop i).length) from rfl, e1]
  rw [List.take_append_of_le_length (by simp; omega), List.take_of_length_le (by simp; omega), List.append_assoc]
  rfl
section
variable {w w' : World} {base : Nat} {v : Value} {xs : List Int}
def encI (x : Int) : Value := .int .i64 x
/-- A row of numbers: its cells written out. -/
theorem OwnI.plain (h : OwnI 3 w base v xs) : w.ownsRow base 3 1 v xs.length (xs.map encI) ∧ ∀ x ∈ xs, isI x := by
  have hall := fun j hj => h.all j hj
  obtain ⟨css, h1, h2, h3, h4⟩ := h
  have e : css.flatten = xs.map encI := by
    have : css = xs.map fun x => [encI x] := by
      refine List.ext_getElem (by simp [h2]) fun j hj hj' => ?_
      simp only [List.length_map] at hj'
      obtain ⟨c, hc, hk, _⟩ := h4 j _ (List.getElem?_eq_getElem hj')
      rw [List.getElem?_eq_getElem hj] at hc
      injection hc with hc
      rw [hc, List.getElem_map]; exact hk
    rw [this]
    clear h1 h2 h3 h4 hall this
    induction xs with
    | nil => rfl
    | cons a r ih => simp only [List.map_cons, List.flatten_cons, List.singleton_append, ih]
  refine ⟨by rw [← e]; exact h1, fun x hx => ?_⟩
  obtain ⟨j, hj, rfl⟩ := List.mem_iff_getElem.1 hx
  exact hall j hj
theorem OwnI.mk (h : w.ownsRow base 3 1 v xs.length (xs.map encI)) (hx : ∀ x ∈ xs, isI x) : OwnI 3 w base v xs := by
  have e : (xs.map fun x => [encI x]).flatten = xs.map encI := by
    clear h hx
    induction xs with
    | nil => rfl
    | cons a r ih => simp only [List.map_cons, List.flatten_cons, List.singleton_append, ih]
  refine own_intro (d := Kd.int) (xs.map fun x => [encI x]) (by rw [e]; exact h) (by simp) (fun k hk => hk) (fun j x hj => ?_)
  refine ⟨[encI x], by simp [hj], rfl, ?_⟩
  obtain ⟨hj', e⟩ := List.getElem?_eq_some_iff.1 hj
  rw [← e]
  exact hx _ (List.getElem_mem hj')
theorem one_enc : ∀ (l : List Int), ∀ u ∈ l.map encI, u.oneCell' = true := by
  intro l u hu
  obtain ⟨x, _, rfl⟩ := List.mem_map.1 hu
  rfl
theorem cells_of {cur : Array Value} {g : Nat} (hb : w.heap[g]? = some (.cells cur 3 (0, 0))) (j : Nat) : w.cell? ⟨g, j, none⟩ = cur[j]? := by
  simp [World.cell?, hb]
theorem frozen_of {cur : Array Value} {g : Nat} (hb : w.heap[g]? = some (.cells cur 3 (0, 0))) (j : Nat) : w.frozen? ⟨g, j, none⟩ = false := by
  simp [World.frozen?, hb]

/-- What an insertion leaves. -/
def Inserted (w : World) (base : Nat) (v : Value) (ys : List Int) (e : Ending) (w' : World) : Prop :=
  ∃ v', e = .returned v' ∧ OwnI 3 w' base v' ys ∧ w.grownBy w' v.ownBlock ∧ (v'.ownBlock = v.ownBlock ∨ ∀ k, v'.ownBlock = some k → w.heap.size ≤ k)
set_option maxRecDepth 100000 in
set_option maxHeartbeats 4000000 in
theorem insert_calls (i : Nat) (hi : i ≤ xs.length) (x : Int) (hx : isI x) (hl : xs.length ≤ 1000) (vb : Nat) (hvb : w.heap[vb]? = some (.cells #[.int .i64 x] 3 (0, 0))) (hne : v.ownBlock ≠ some vb) (HO : OwnI 3 w base v xs) (hbase : base ≤ w.heap.size) :
    Calls Try.prog 76 #[v, .int .i64 (i : Nat), .slice (some ⟨vb, 0, none⟩) 1 1] w fun e w' => Inserted w base v (xs.take i ++ x :: xs.drop i) e w' := by
  obtain ⟨⟨hlen, hown⟩, hall⟩ := HO.plain
  have hall' : ∀ y ∈ xs.take i ++ x :: xs.drop i, isI y := by
    intro y hy
    rcases List.mem_append.1 hy with h | h
    · exact hall y (List.mem_of_mem_take h)
    · rcases List.mem_cons.1 h with rfl | h
      · exact hx
      · exact hall y (List.mem_of_mem_drop h)
  have hlen' : (xs.take i ++ x :: xs.drop i).length = xs.length + 1 := by simp; omega
  have hmap : (xs.take i ++ x :: xs.drop i).map encI = (xs.map encI).take i ++ encI x :: (xs.map encI).drop i := by simp [List.map_take, List.map_drop]
  have hvs : ∀ j u, [encI x][j]? = some u → w.cell? ⟨vb, 0 + j, none⟩ = some u := by
    intro j u hj
    rw [Nat.zero_add, cells_of hvb]
    match j, hj with
    | 0, hj => simpa [encI] using hj
  have h1v : ∀ u ∈ [encI x], u.oneCell' = true := by intro u hu; rw [List.mem_singleton.1 hu]; rfl
  rcases hown with ⟨rfl, h0⟩ | ⟨g, cap, cur, rfl, hg, hb, hnc, hcm, hcs, htake⟩
  · -- nil
    have hx0 : xs = [] := List.eq_nil_of_length_eq_zero h0
    subst hx0
    obtain rfl : i = 0 := by simpa using hi
    have hc := Any2.slices_Insert_int_end_grow Try.laysIns none 0 0 vb 0 1 1 [] [encI x] w (by omega) (by omega) (by omega) (by omega) rfl rfl (fun _ => rfl) (fun a h => by cases h) hvs h1v
    change Calls Try.prog 76 _ _ _ at hc
    refine hc.mono ?_
    rintro e w' ⟨rfl, rfl⟩
    have hgc := grownCap_ge w (0 + 1) 0 3
    have hgm := grownCap_le_maxLen w (0 + 1) 0 3 (by simp [_root_.Go.maxLen])
    refine ⟨_, rfl, OwnI.mk ⟨by simp, .inr ⟨w.heap.size, _, _, rfl, hbase, heap_alloc_new w.drew _, hgc, hgm, ?_, ?_⟩⟩ hall', ⟨rfl, rfl, rfl, by simp, fun k hk _ => Below.heap_alloc w.drew _ k hk⟩, .inr (fun k hk => by simp [Value.ownBlock] at hk; omega)⟩
    · have hs : (Builtin.zeroCells (Value.int .i64 0).cells (grownCap w (0 + 1) 0 3 - (0 + 1))).size = grownCap w (0 + 1) 0 3 - (0 + 1) := by rw [Go.size_zeroCells]; simp [Value.cells]
      rw [Array.size_append]
      have : ([] ++ [encI x]).toArray.size = 1 := rfl
      rw [this]
      have hx := hs
      simp only [show (Try.laysIns_ren.t 3) = 3 from rfl] at *
      omega
    · simp [encI]
  · have hcur : cur.size = cap := by omega
    have hbs := (Array.getElem?_eq_some_iff.1 hb).1
    have hcl : (xs.map encI).length = xs.length := by simp
    have hcs' : ∀ j u, (xs.map encI)[j]? = some u → w.cell? ⟨g, 0 + j, none⟩ = some u := by
      intro j u hj
      rw [Nat.zero_add, cells_of hb]
      rw [← htake, List.getElem?_take] at hj
      split at hj
      · simpa using hj
      · cases hj
    have hone := one_enc xs
    have hgv : vb ≠ g := fun e => hne (by rw [e]; rfl)
    by_cases hroom : xs.length + 1 ≤ cap
    · rcases Nat.lt_or_ge i xs.length with hlt | hge
      · -- in place, in the midst
        have hc := Any2.slices_Insert_int_shift Try.laysIns g 0 xs.length cap i vb 0 1 1 (xs.map encI) [encI x] w hlt (by omega) hroom (by simp only [_root_.Go.maxLen] at hcm; omega) hgv hcl rfl hcs'
          (fun j hj => by rw [Nat.zero_add, cells_of hb]; rw [Array.getElem?_eq_getElem (by omega)]; rfl) (fun j hj => frozen_of hb _) hvs hone h1v 3 3 1 cap
          (by simp [World.shape?, hvb]) (by simp [World.shape?, hb, hcur]) (by omega) (frozen_of hvb _) (frozen_of hvb _)
        change Calls Try.prog 76 _ _ _ at hc
        refine hc.mono ?_
        rintro e w' ⟨rfl, rfl⟩
        have hbd : w.drew.heap[g]? = some (.cells cur 3 (0, 0)) := hb
        obtain ⟨cur1, a1, a2, a3⟩ := heap_setCells g 3 ((xs.map encI).drop i) (0 + (i + 1)) w.drew cur hbd (by simp; omega)
        obtain ⟨cur2, b1, b2, b3⟩ := heap_setCells g 3 [encI x] (0 + i) _ cur1 a1 (by simp; omega)
        refine ⟨_, rfl, OwnI.mk ⟨by simp, .inr ⟨g, cap, cur2, by rw [hlen'], hg, b1, by omega, hcm, by omega, ?_⟩⟩ hall', ?_, .inl rfl⟩
        · rw [hmap, b2, a2, hlen', Nat.mul_one, Nat.zero_add, Nat.zero_add]
          exact ins_shift cur.toList (xs.map encI) xs.length i (encI x) (by simpa using htake) (by simp; omega) hlt
        · have : w.grownBy w.drew (some g) := ⟨rfl, rfl, rfl, Nat.le_refl _, fun _ _ _ => rfl⟩
          exact (this.trans (setCells_frame g _ _ _)).trans (setCells_frame g _ _ _)
      · -- in place, at the end
        obtain rfl : i = xs.length := by omega
        have hc := Any2.slices_Insert_int_end_room Try.laysIns g 0 xs.length cap vb 0 1 1 [encI x] w (by omega) hroom (by simp only [_root_.Go.maxLen] at hcm; omega) rfl
          (fun j hj => by rw [cells_of hb]; rw [Array.getElem?_eq_getElem (by omega)]; rfl) (fun j hj => frozen_of hb _) hvs h1v
        change Calls Try.prog 76 _ _ _ at hc
        refine hc.mono ?_
        rintro e w' ⟨rfl, rfl⟩
        obtain ⟨cur2, b1, b2, b3⟩ := heap_setCells g 3 [encI x] (0 + xs.length) w cur hb (by simp; omega)
        refine ⟨_, rfl, OwnI.mk ⟨by simp, .inr ⟨g, cap, cur2, by rw [hlen'], hg, b1, by omega, hcm, by omega, ?_⟩⟩ hall', setCells_frame g _ _ _, .inl rfl⟩
        have e1 : (xs.map encI).take xs.length = xs.map encI := List.take_of_length_le (by simp)
        have e2 : (xs.map encI).drop xs.length = [] := List.drop_of_length_le (by simp)
        rw [hmap, b2, hlen', Nat.mul_one, Nat.zero_add, e1, e2]
        exact ins_end cur.toList (xs.map encI) xs.length (encI x) (by simpa using htake) (by simp; omega)
    · rcases Nat.lt_or_ge i xs.length with hlt | hge
      · -- a new row, in the midst
        have hc := Any2.slices_Insert_int_grow Try.laysIns g 0 xs.length cap i vb 0 1 1 (xs.map encI) [encI x] w hlt (by omega) hnc (by omega) (by omega) hcl rfl hcs' hvs hone h1v
        change Calls Try.prog 76 _ _ _ at hc
        refine hc.mono ?_
        rintro e w' ⟨rfl, rfl⟩
        have hgc := grownCap_ge w (xs.length + 1) cap 3
        have hgm := grownCap_le_maxLen w (xs.length + 1) cap 3 (by simp [_root_.Go.maxLen]; omega)
        simp only [show (Try.laysIns_ren.t 3) = 3 from rfl] at *
        generalize grownCap w (xs.length + 1) cap 3 = gc at hgc hgm
        have hz1 : (Builtin.zeroCells (Value.int .i64 0).cells (xs.length + 1 - i)).size = xs.length + 1 - i := by rw [Go.size_zeroCells]; simp [Value.cells]
        have hz2 : (Builtin.zeroCells (Value.int .i64 0).cells (gc - (xs.length + 1))).size = gc - (xs.length + 1) := by rw [Go.size_zeroCells]; simp [Value.cells]
        generalize Builtin.zeroCells (Value.int .i64 0).cells (xs.length + 1 - i) = z1 at hz1
        generalize Builtin.zeroCells (Value.int .i64 0).cells (gc - (xs.length + 1)) = z2 at hz2
        obtain ⟨cur0, hc0⟩ : ∃ cur0, cur0 = (((xs.map encI).take i).toArray ++ z1 ++ z2) := ⟨_, rfl⟩
        have hc0s : cur0.size = gc := by rw [hc0]; simp; omega
        have hc0t : cur0.toList.take i = (xs.map encI).take i := by
          have hti : ((xs.map encI).take i).length = i := by simp; omega
          rw [hc0]; simp only [Array.toList_append, List.append_assoc]; rw [List.take_append_of_le_length (by omega)]; exact List.take_of_length_le (by omega)
        rw [← hc0]
        have hb0 : (w.alloc (.cells cur0 3)).drew.heap[w.heap.size]? = some (.cells cur0 3 (0, 0)) := heap_alloc_new w _
        obtain ⟨cur1, a1, a2, a3⟩ := heap_setCells w.heap.size 3 [encI x] i _ cur0 hb0 (by simp; omega)
        have a1' : (((w.alloc (.cells cur0 3)).drew.setCells w.heap.size i [encI x]).drew).heap[w.heap.size]? = some (.cells cur1 3 (0, 0)) := a1
        obtain ⟨cur2, b1, b2, b3⟩ := heap_setCells w.heap.size 3 ((xs.map encI).drop i) (i + 1) _ cur1 a1' (by rw [List.length_drop, List.length_map, a3, hc0s]; omega)
        refine ⟨_, rfl, OwnI.mk ⟨by simp, .inr ⟨w.heap.size, gc, cur2, by rw [hlen'], hbase, b1, by omega, hgm, by omega, ?_⟩⟩ hall', ?_, .inr (fun k hk => by simp [Value.ownBlock] at hk; omega)⟩
        · rw [hmap, b2, a2, hlen', Nat.mul_one]
          exact ins_grow cur0.toList (xs.map encI) xs.length i (encI x) hcl hc0t (by simp; omega) hlt
        · have g0 : w.grownBy (w.alloc (.cells cur0 3)).drew (some g) := ⟨rfl, rfl, rfl, by simp, fun k hk _ => Below.heap_alloc w _ k hk⟩
          have G1 := setCells_frame w.heap.size [encI x] i (w.alloc (.cells cur0 3)).drew
          have G2 := setCells_frame w.heap.size ((xs.map encI).drop i) (i + 1) (((w.alloc (.cells cur0 3)).drew.setCells w.heap.size i [encI x]).drew)
          have hz : w.heap.size < (w.alloc (.cells cur0 3)).drew.heap.size := by simp
          refine ⟨G2.os.trans G1.os, G2.tape.trans G1.tape, G2.output.trans G1.output, Nat.le_trans (Nat.le_of_lt hz) (Nat.le_trans G1.size G2.size), fun k hk hn => ?_⟩
          have h1 := G2.block k (Nat.lt_of_lt_of_le (by omega) G1.size) (by simp; omega)
          have h2 := G1.block k (by omega) (by simp; omega)
          exact h1.trans (h2.trans (g0.block k hk hn))
      · -- a new row, at the end
        obtain rfl : i = xs.length := by omega
        have hc := Any2.slices_Insert_int_end_grow Try.laysIns (some ⟨g, 0, none⟩) xs.length cap vb 0 1 1 (xs.map encI) [encI x] w (by omega) hnc (by omega) (by omega) hcl rfl (fun h => by cases h)
          (fun a ha j u hj => by injection ha with ha; subst ha; have := hcs' j u hj; rw [Nat.zero_add] at this; rw [show (⟨g, 0, none⟩ : Addr).add j = ⟨g, j, none⟩ by simp [Addr.add]; omega]; exact this) hvs h1v
        change Calls Try.prog 76 _ _ _ at hc
        refine hc.mono ?_
        rintro e w' ⟨rfl, rfl⟩
        have hgc := grownCap_ge w (xs.length + 1) cap 3
        have hgm := grownCap_le_maxLen w (xs.length + 1) cap 3 (by simp [_root_.Go.maxLen]; omega)
        simp only [show (Try.laysIns_ren.t 3) = 3 from rfl] at *
        generalize grownCap w (xs.length + 1) cap 3 = gc at hgc hgm
        have hz2 : (Builtin.zeroCells (Value.int .i64 0).cells (gc - (xs.length + 1))).size = gc - (xs.length + 1) := by rw [Go.size_zeroCells]; simp [Value.cells]
        generalize Builtin.zeroCells (Value.int .i64 0).cells (gc - (xs.length + 1)) = z2 at hz2
        refine ⟨_, rfl, OwnI.mk ⟨by simp, .inr ⟨w.heap.size, gc, _, by rw [hlen'], hbase, heap_alloc_new w.drew _, by omega, hgm, by simp; omega, ?_⟩⟩ hall', ⟨rfl, rfl, rfl, by simp, fun k hk _ => Below.heap_alloc w.drew _ k hk⟩, .inr (fun k hk => by simp [Value.ownBlock] at hk; omega)⟩
        rw [hmap, hlen', Nat.mul_one]
        have e1 : (xs.map encI).take xs.length = xs.map encI := List.take_of_length_le (by simp)
        have e2 : (xs.map encI).drop xs.length = [] := List.drop_of_length_le (by simp)
        rw [e1, e2]
        simp only [Array.toList_append]
        rw [List.take_append_of_le_length (by simp)]
        exact List.take_of_length_le (by simp)
end
end Go.Proofs.Ytcpabkfoalhldaa
namespace Go.Proofs.Ytcpabkfoalhldaa
set_option linter.unusedVariables false
set_option linter.unusedSimpArgs false

/-- Which of the cells are among some, ascending. -/
def sort3 (l : List Int) : List Int := ([0, 1, 2] : List Int).filter fun i => decide (i ∈ l)
theorem mem_sort3 {l : List Int} {i : Int} : i ∈ sort3 l ↔ (0 ≤ i ∧ i ≤ 2) ∧ i ∈ l := by
  unfold sort3
  rw [List.mem_filter]
  simp only [List.mem_cons, List.not_mem_nil, or_false, decide_eq_true_eq]
  constructor
  · rintro ⟨h, hl⟩; exact ⟨by omega, hl⟩
  · rintro ⟨h, hl⟩; exact ⟨by omega, hl⟩
theorem sort3_congr {l l' : List Int} (h : ∀ i, 0 ≤ i → i ≤ 2 → (i ∈ l ↔ i ∈ l')) : sort3 l = sort3 l' := by
  unfold sort3
  refine List.filter_congr fun i hi => ?_
  simp only [List.mem_cons, List.not_mem_nil, or_false] at hi
  have := h i (by omega) (by omega)
  simp [this]
theorem sort3_len (l : List Int) : (sort3 l).length ≤ 3 := by
  unfold sort3
  exact Nat.le_trans (List.length_filter_le _ _) (by simp)
/-- Reads that were not stored to ahead; stores: in the order of the deeds. -/
def rawStep (rw : List Int × List Int) (d : Deed) : List Int × List Int :=
  if d.kind = 1 then (if d.b ∈ rw.2 then rw else (rw.1 ++ [d.b], rw.2))
  else if d.kind = 2 then (rw.1, rw.2 ++ [d.a]) else rw
def raws (ds : List Deed) : List Int × List Int := ds.foldl rawStep ([], [])
def chReads (ds : List Deed) : List Int := sort3 (raws ds).1
def chWrites (ds : List Deed) : List Int := sort3 (raws ds).2
theorem raws_take (ds : List Deed) (k : Nat) (h : k < ds.length) : raws (ds.take (k + 1)) = rawStep (raws (ds.take k)) ds[k] := by
  unfold raws
  rw [List.take_succ_eq_append_getElem h, List.foldl_append]
  rfl
/-- What a body, with all that it begins, touches. -/
def touch (f : List Deed → List Int) : Nat → Prog → Nat → List Int
  | 0, _, _ => []
  | n + 1, p, b => (p.bodies.getD b []).flatMap fun a => f a.deeds ++ a.kids.flatMap fun k => touch f n p k.toNat
def touched (f : List Deed → List Int) (p : Prog) (b : Nat) : List Int := sort3 (touch f 4 p b)
def meets (a b : List Int) : Bool := a.any fun i => decide (i ∈ b)
/-- Neither of two bodies touches what the other one stores to. -/
def apart2 (p : Prog) (a b : Nat) : Bool :=
  !meets (touched chWrites p a) (touched chWrites p b) && !meets (touched chWrites p a) (touched chReads p b) && !meets (touched chReads p a) (touched chWrites p b)
def apartKids (p : Prog) : List Int → Bool
  | [a, b] => apart2 p a.toNat b.toNat
  | _ => true
def apartOk (p : Prog) : Bool := progOk p && p.bodies.all fun acts => acts.all fun a => apartKids p a.kids
theorem apart2_comm (p : Prog) (a b : Nat) : apart2 p a b = apart2 p b a := by
  have hm : ∀ x y : List Int, meets x y = meets y x := fun x y => by
    rw [Bool.eq_iff_iff]
    simp only [meets, List.any_eq_true, decide_eq_true_eq]
    exact ⟨fun ⟨i, h1, h2⟩ => ⟨i, h2, h1⟩, fun ⟨i, h1, h2⟩ => ⟨i, h2, h1⟩⟩
  unfold apart2
  rw [hm (touched chWrites p a) (touched chWrites p b), hm (touched chWrites p a) (touched chReads p b), hm (touched chReads p a) (touched chWrites p b)]
  cases meets (touched chWrites p b) (touched chWrites p a) <;> cases meets (touched chReads p b) (touched chWrites p a) <;> cases meets (touched chWrites p b) (touched chReads p a) <;> rfl
end Go.Proofs.Ytcpabkfoalhldaa
namespace Go.Proofs.Ytcpabkfoalhldaa
set_option linter.unusedVariables false
set_option linter.unusedSimpArgs false

/-- As the reference goes: each body's row is sorted. -/
def setsOf (f : List Deed → List Int) : Nat → Prog → Nat → List Int
  | 0, _, _ => []
  | n + 1, p, b => sort3 ((p.bodies.getD b []).flatMap fun a => f a.deeds ++ a.kids.flatMap fun k => setsOf f n p k.toNat)
theorem sort3_sort3 (l : List Int) : sort3 (sort3 l) = sort3 l := sort3_congr fun i h0 h2 => by rw [mem_sort3]; exact ⟨fun h => h.2, fun h => ⟨⟨h0, h2⟩, h⟩⟩
theorem setsOf_eq (f : List Deed → List Int) (n : Nat) (p : Prog) (b : Nat) : setsOf f n p b = sort3 (touch f n p b) := by
  induction n generalizing b with
  | zero => simp [setsOf, touch, sort3]
  | succ n ih =>
    unfold setsOf touch
    refine sort3_congr fun i h0 h2 => ?_
    simp only [List.mem_flatMap, List.mem_append]
    constructor
    · rintro ⟨a, ha, h | ⟨k, hk, h⟩⟩
      · exact ⟨a, ha, .inl h⟩
      · rw [ih, mem_sort3] at h
        exact ⟨a, ha, .inr ⟨k, hk, h.2⟩⟩
    · rintro ⟨a, ha, h | ⟨k, hk, h⟩⟩
      · exact ⟨a, ha, .inl h⟩
      · refine ⟨a, ha, .inr ⟨k, hk, ?_⟩⟩
        rw [ih, mem_sort3]
        exact ⟨⟨h0, h2⟩, h⟩
theorem actOk_deeds {a : Act} {c b n : Int} (h : actOk a c b n = true) : a.deeds.length ≤ 5 := by
  unfold actOk at h
  split at h
  · simp at h; exact h.2
  · split at h
    · simp at h; simp [h.1.1]
    · split at h
      · simp at h; simp [h.1.1]
      · split at h
        · simp at h; simp [h.1.1]
        · simp at h
theorem formOk_deeds {p : Prog} (h : formOk p = true) {b : Nat} (hb : b < p.bodies.length) : ∀ a ∈ p.bodies[b], a.deeds.length ≤ 5 := by
  have := formOk_body h hb
  simp only [bodyOk, Bool.and_eq_true, decide_eq_true_eq, List.all_eq_true] at this
  exact fun a ha => actOk_deeds (this.2 a ha)
end Go.Proofs.Ytcpabkfoalhldaa
namespace Go.Proofs.Ytcpabkfoalhldaa
open Go.RowKit
set_option linter.unusedVariables false
set_option linter.unusedSimpArgs false

theorem sort3_sorted (l : List Int) : (sort3 l).Pairwise (· ≤ ·) := by
  unfold sort3
  exact List.Pairwise.filter _ (by decide)
theorem sort3_contains (l : List Int) (c : Int) (h0 : 0 ≤ c) (h2 : c ≤ 2) : (sort3 l).contains c = decide (c ∈ l) := by
  rw [Bool.eq_iff_iff, List.contains_iff_mem, mem_sort3]
  simp [h0, h2]
theorem sort3_mem (l : List Int) (c : Int) (h : c ∈ l) : sort3 (l ++ [c]) = sort3 l := sort3_congr fun i _ _ => by
  simp only [List.mem_append, List.mem_singleton]
  exact ⟨fun h' => h'.elim id fun e => e ▸ h, .inl⟩
theorem sort3_new (l : List Int) (c : Int) (h0 : 0 ≤ c) (h2 : c ≤ 2) (h : c ∉ l) : sort3 (l ++ [c]) = (sort3 l).take ((sort3 l).countP (· < c)) ++ c :: (sort3 l).drop ((sort3 l).countP (· < c)) := by
  have hc : c = 0 ∨ c = 1 ∨ c = 2 := by omega
  rcases hc with rfl | rfl | rfl
  · by_cases a1 : (1 : Int) ∈ l <;> by_cases a2 : (2 : Int) ∈ l <;> simp [sort3, h, a1, a2]
  · by_cases a1 : (0 : Int) ∈ l <;> by_cases a2 : (2 : Int) ∈ l <;> simp [sort3, h, a1, a2]
  · by_cases a1 : (0 : Int) ∈ l <;> by_cases a2 : (1 : Int) ∈ l <;> simp [sort3, h, a1, a2]
section
variable {w : World} {base : Nat} {v : Value} {xs : List Int}
/-- slices.BinarySearch of a row of the call's own, in order. -/
theorem search_calls (x : Int) (hl : xs.length ≤ 1000) (hs : xs.Pairwise (· ≤ ·)) (HO : OwnI 3 w base v xs) :
    Calls Try.prog 75 #[v, .int .i64 x] w fun e w' => e = .returned (.tuple #[.int .i64 (xs.countP (· < x) : Nat), .bool (xs.contains x)]) ∧ ∃ q, w' = w.drewN q := by
  rcases Nat.eq_zero_or_pos xs.length with h0 | hpos
  · obtain ⟨A, c, rfl, _⟩ := Own.slice HO
    have hx0 : xs = [] := List.eq_nil_of_length_eq_zero h0
    subst hx0
    have hc := Any.slices_BinarySearch_int_empty Try.laysBS A c x w
    change Calls Try.prog 75 _ _ _ at hc
    refine hc.mono ?_
    rintro e w' ⟨rfl, rfl⟩
    exact ⟨by simp, 0, rfl⟩
  · obtain ⟨g, cap, rfl, hg, hgl⟩ := HO.place hpos
    have hc := Any.slices_BinarySearch_int Try.laysBS g 0 xs.length cap xs x w (Nat.le_refl _) (by omega)
      (fun j hj => by rw [Nat.zero_add, (HO.cell hj).1, getD_at _ _ _ hj]) (by rw [List.take_length]; exact hs)
    change Calls Try.prog 75 _ _ _ at hc
    rw [List.take_length] at hc
    exact hc
set_option maxRecDepth 100000 in
set_option maxHeartbeats 1000000 in
theorem hasCell_calls (l : List Int) (c : Int) (h0 : 0 ≤ c) (h2 : c ≤ 2) (HO : OwnI 3 w base v (sort3 l)) :
    Calls Try.prog 47 #[v, .int .i64 c] w fun e w' => e = .returned (.bool (decide (c ∈ l))) ∧ ∃ q, w' = w.drewN q := by
  have hlen := sort3_len l
  have hc := search_calls c (by omega) (sort3_sorted l) HO
  rw [sort3_contains l c h0 h2] at hc
  have HC := Lib.hid hc
  clear hc
  go_enter Try.func47, Try.ntmps47
  go_wp2_with (go_at_call 75; refine HC.out.mono ?_; rintro e w1 ⟨rfl, q, rfl⟩)
  go_ret
  exact ⟨rfl, q, rfl⟩
set_option maxRecDepth 100000 in
set_option maxHeartbeats 1000000 in
theorem withCell_calls (l : List Int) (c : Int) (h0 : 0 ≤ c) (h2 : c ≤ 2) (HO : OwnI 3 w base v (sort3 l)) (hbase : base ≤ w.heap.size) :
    Calls Try.prog 46 #[v, .int .i64 c] w fun e w' => Inserted w base v (sort3 (l ++ [c])) e w' := by
  have hlen := sort3_len l
  have hc := search_calls c (by omega) (sort3_sorted l) HO
  rw [sort3_contains l c h0 h2] at hc
  have hcnt : (sort3 l).countP (· < c) ≤ (sort3 l).length := List.countP_le_length
  by_cases hm : c ∈ l
  · have HC := Lib.hid hc
    have HM := Lib.hid (And.intro (decide_eq_true hm) (sort3_mem l c hm))
    clear hc hm
    go_enter Try.func46, Try.ntmps46
    go_wp2_with (go_at_call 75; refine HC.out.mono ?_; rintro e w1 ⟨rfl, q, rfl⟩; rw [HM.out.1])
    go_ret
    refine ⟨v, rfl, ?_, grown_drewN (grown_refl w _) q, .inl rfl⟩
    rw [HM.out.2]
    exact HO.drewN q
  · have hins : ∀ q, Calls Try.prog 76 #[v, .int .i64 ((sort3 l).countP (· < c) : Nat), .slice (some ⟨w.heap.size, 0, none⟩) 1 1] ((w.drewN q).alloc (.cells #[.int .i64 c] 3)) fun e w' => Inserted w base v (sort3 (l ++ [c])) e w' := by
      intro q
      have := insert_calls (w := (w.drewN q).alloc (.cells #[.int .i64 c] 3)) ((sort3 l).countP (· < c)) hcnt c ⟨by omega, by omega⟩ (by omega) w.heap.size (heap_alloc_new (w.drewN q) _) (fun e => by have := (HO.blk _ e).2; omega) ((HO.drewN q).al _) (by simp; omega)
      refine this.mono ?_
      rintro e w' ⟨v', rfl, h1, h2', h3⟩
      refine ⟨v', rfl, by rw [sort3_new l c h0 h2 hm]; exact h1, ?_, h3.imp id (fun h k hk => by have := h k hk; simp at this; omega)⟩
      have g0 : w.grownBy ((w.drewN q).alloc (.cells #[.int .i64 c] 3)) v.ownBlock := grown_al (grown_drewN (grown_refl w _) q) _
      exact g0.trans h2'
    have HC := Lib.hid hc
    have HM := Lib.hid (decide_eq_false hm)
    have HI := Lib.hid hins
    clear hc hm hins
    go_enter Try.func46, Try.ntmps46
    go_wp2_with (first | (go_at_call 75; refine HC.out.mono ?_; rintro e w1 ⟨rfl, q, rfl⟩; rw [HM.out]) | (go_at_call 76; refine (HI.out _).mono ?_; rintro e w2 ⟨v', rfl, h1, h2', h3⟩))
    go_ret
    exact ⟨v', rfl, h1, h2', h3⟩
end
end Go.Proofs.Ytcpabkfoalhldaa
namespace Go.Proofs.Ytcpabkfoalhldaa
open Go.RowKit
set_option linter.unusedVariables false
set_option linter.unusedSimpArgs false

set_option maxHeartbeats 2000000 in
set_option maxRecDepth 100000 in
theorem l2Has_calls (xs : List Int) (A : Option Addr) (c : Nat) (n : Int) (w : World) (S : Nat → Prop) (hA : Row Kd.int w S A xs) :
    Calls Try.prog 96 #[.slice A xs.length c, .int .i64 n] w fun e w' => e = .returned (.bool (decide (n ∈ xs))) ∧ Below w.heap.size w w' := by
  have hn := hA.1
  go_enter Try.func96, Try.ntmps96
  go_wp2
  go_loopw [5] (fun i wr => ∃ k : Nat, k ≤ xs.length ∧ i = .int .i64 k ∧ Hid (n ∉ xs.take k) ∧ Below w.heap.size w wr) (fun i _ => xs.length - (intOf i).toNat)
  case atStart => exact ⟨0, Nat.zero_le _, rfl, by unfold Hid; simp, Below.refl _ _⟩
  case round =>
    obtain ⟨k, hk, rfl, HA, hbr⟩ := hrel
    by_cases hlt : k < xs.length
    · obtain ⟨ad, rfl, hl1, hc1, hi1⟩ := at_int (hA.belowAll hbr) hlt
      have x1 : (k : Int) < xs.length := by omega
      have x3 : (0 : Int) ≤ k := by omega
      by_cases he : xs[k] = n
      · have hb : (xs[k] == n) = true := by simp [he]
        have hd : decide (n ∈ xs) = true := by simp; rw [← he]; exact List.getElem_mem _
        have HDD := Lib.hid hd
        clear he hd
        go_wp2
        go_ret
        exact ⟨ret_bool HDD.out.symm, hbr⟩
      · have hb : (xs[k] == n) = false := by simp [he]
        have HEQ := Lib.hid he
        clear he
        go_wp2
        go_roundw
        case rel => exact ⟨k + 1, by omega, by go_num, by unfold Hid; rw [List.take_succ_eq_append_getElem hlt, List.mem_append]; rintro (h | h); exact HA.out h; exact HEQ.out (List.mem_singleton.1 h).symm, hbr⟩
        case measure => simp [intOf]; omega
    · have hd : decide (n ∈ xs) = false := by
        have := HA.out
        rw [List.take_of_length_le (by omega)] at this
        simp [this]
      have HDD := Lib.hid hd
      clear hd
      go_wp2
      go_ret
      exact ⟨ret_bool HDD.out.symm, hbr⟩
def sortTo (l : List Int) (k : Nat) : List Int := (([0, 1, 2] : List Int).take k).filter fun i => decide (i ∈ l)
theorem sortTo_next (l : List Int) (k : Nat) (h : k < 3) : sortTo l (k + 1) = sortTo l k ++ (if (k : Int) ∈ l then [(k : Int)] else []) := by
  unfold sortTo
  match k, h with
  | 0, _ => by_cases h : (0 : Int) ∈ l <;> simp [h]
  | 1, _ => by_cases h0 : (0 : Int) ∈ l <;> by_cases h1 : (1 : Int) ∈ l <;> simp [h0, h1]
  | 2, _ => by_cases h0 : (0 : Int) ∈ l <;> by_cases h1 : (1 : Int) ∈ l <;> by_cases h2 : (2 : Int) ∈ l <;> simp [h0, h1, h2]
theorem sortTo_len (l : List Int) (k : Nat) : (sortTo l k).length ≤ 3 := by
  unfold sortTo
  refine Nat.le_trans (List.length_filter_le _ _) ?_
  rw [List.length_take]; simp; omega
set_option maxHeartbeats 2000000 in
set_option maxRecDepth 100000 in
theorem l2Sort_calls (xs : List Int) (A : Option Addr) (c : Nat) (w : World) (S : Nat → Prop) (hA : Row Kd.int w S A xs) (hS : ∀ k, S k → k < w.heap.size) :
    Calls Try.prog 74 #[.slice A xs.length c] w fun e w' => ∃ v, e = .returned v ∧ OwnI 3 w' w.heap.size v (sort3 xs) ∧ Below w.heap.size w w' := by
  have h00 := ownI_empty 3 w w.heap.size (Nat.le_refl _)
  have hb0 := bal' w (.cells #[] 3)
  go_enter Try.func74, Try.ntmps74
  go_wp2
  go_loopw [3, 4] (fun v i wr => ∃ k : Nat, k ≤ 3 ∧ i = .int .i64 k ∧ OwnI 3 wr w.heap.size v (sortTo xs k) ∧ Below w.heap.size w wr) (fun _ i _ => 3 - (intOf i).toNat)
  case atStart => exact ⟨0, by omega, rfl, by simpa [sortTo] using h00, hb0⟩
  case round =>
    obtain ⟨k, hk, rfl, ho, hbr⟩ := hrel
    clear h00 hb0
    by_cases hlt : k < 3
    · have x1 : (k : Int) < 3 := by omega
      have hs := sortTo_next xs k hlt
      have hls := sortTo_len xs k
      by_cases hm : (k : Int) ∈ xs
      · rw [if_pos hm] at hs
        have HD := Lib.hid (decide_eq_true hm)
        have HS := Lib.hid (And.intro hs hls)
        clear hs hm hls
        go_wp2_with (first | (go_at_call 96; refine (l2Has_calls xs _ _ _ _ S (hA.belowAll hbr)).mono ?_; rintro e w1 ⟨rfl, hb1⟩; rw [HD.out]; have ho1 := ho.belowAll hb1; have hbr1 := below_then hbr hbr.size hb1) | (at_builtin; refine wpList_append_kd (d := Kd.int) rfl (.tmp 13) (.tmp 15) _ rfl Try.underlying23 _ 8 infoInt rfl (by decide) (by decide) rfl (OwnI.belowAll ho1 (bal' _ _)) _ _ rfl (Row.one_ (d := Kd.int) (e := 3) (w := w1) (S := fun _ => False) (x := (k : Int)) ⟨rfl, by omega, by omega⟩) (fun k hk e => by have := ho1.blk k e.symm; rcases hk with hk | hk; exact hk; omega) (by have := HS.out.2; simp; omega) (by have := hbr1.size; simp; omega) ?_; intro v2 w2 ho2 hg2 hv2; have ho3 := OwnI.of ho2; have hbr2 := Below.grown (hbr1.alloc hbr1.size _) hg2 (by have := hbr1.size; simp; omega) (fun k hk => (ho1.blk k hk).1)))
        exact ⟨⟨k + 1, by omega, by go_num, by rw [HS.out.1]; exact ho3, hbr2⟩, by simp [intOf]; omega⟩
      · rw [if_neg hm, List.append_nil] at hs
        have HD := Lib.hid (decide_eq_false hm)
        have HS := Lib.hid hs
        clear hs hm hls
        go_wp2_with (go_at_call 96; refine (l2Has_calls xs _ _ _ _ S (hA.belowAll hbr)).mono ?_; rintro e w1 ⟨rfl, hb1⟩; rw [HD.out]; have ho1 := ho.belowAll hb1; have hbr1 := below_then hbr hbr.size hb1)
        exact ⟨⟨k + 1, by omega, by go_num, by rw [HS.out]; exact ho1, hbr1⟩, by simp [intOf]; omega⟩
    · obtain rfl : k = 3 := by omega
      go_wp2
      go_ret
      exact ⟨_, rfl, ho, hbr⟩
end Go.Proofs.Ytcpabkfoalhldaa
namespace Go.Proofs.Ytcpabkfoalhldaa
open Go.RowKit
set_option linter.unusedVariables false
set_option linter.unusedSimpArgs false

theorem rawStep_len (rw : List Int × List Int) (d : Deed) : (rawStep rw d).1.length ≤ rw.1.length + 1 ∧ (rawStep rw d).2.length ≤ rw.2.length + 1 := by
  unfold rawStep
  split
  · split <;> simp
  · split <;> simp
theorem raws_len (ds : List Deed) (k : Nat) (h : k ≤ ds.length) : (raws (ds.take k)).1.length ≤ k ∧ (raws (ds.take k)).2.length ≤ k := by
  induction k with
  | zero => simp [raws]
  | succ k ih =>
    have := ih (by omega)
    rw [raws_take ds k h]
    have := rawStep_len (raws (ds.take k)) ds[k]
    omega
set_option maxHeartbeats 2000000 in
set_option maxRecDepth 100000 in
theorem specChangeWrites_calls (ds : List Deed) (A : Option Addr) (c : Nat) (w : World) (S : Nat → Prop) (hA : Row kDeed w S A ds) (hS : ∀ k, S k → k < w.heap.size) (hl : ds.length ≤ 1000) :
    Calls Try.prog 73 #[.slice A ds.length c] w fun e w' => ∃ v, e = .returned v ∧ OwnI 3 w' w.heap.size v (chWrites ds) ∧ Below w.heap.size w w' := by
  have h00 := ownI_empty 3 w w.heap.size (Nat.le_refl _)
  have hb0 := bal' w (.cells #[] 3)
  go_enter Try.func73, Try.ntmps73
  go_wp2
  go_loopw [3, 4] (fun v i wr => ∃ k : Nat, k ≤ ds.length ∧ i = .int .i64 k ∧ OwnI 3 wr w.heap.size v (raws (ds.take k)).2 ∧ Below w.heap.size w wr) (fun _ i _ => ds.length - (intOf i).toNat)
  case atStart => exact ⟨0, by omega, rfl, by simpa [raws] using h00, hb0⟩
  case round =>
    obtain ⟨k, hk, rfl, ho, hbr⟩ := hrel
    clear h00 hb0
    by_cases hlt : k < ds.length
    · obtain ⟨ad, rfl, hl1, p0, p1, p2, i1, i2, i3⟩ := at_deed (hA.belowAll hbr) hlt
      have x1 : (k : Int) < ds.length := by omega
      have x3 : (0 : Int) ≤ k := by omega
      have hs := raws_take ds k hlt
      have hls := (raws_len ds k hk).2
      by_cases hm : ds[k].kind = 2
      · have hs2 : (raws (ds.take (k + 1))).2 = (raws (ds.take k)).2 ++ [ds[k].a] := by rw [hs]; unfold rawStep; rw [if_neg (by omega), if_pos hm]
        have hb : (ds[k].kind == 2) = true := by simp [hm]
        have HS := Lib.hid (And.intro hs2 hls)
        clear hs hs2 hm hls
        go_wp2_with (at_builtin; refine wpList_append_kd (d := Kd.int) rfl (.tmp 18) (.tmp 24) _ rfl Try.underlying23 _ 8 infoInt rfl (by decide) (by decide) rfl (OwnI.belowAll ho (bal' _ _)) _ _ rfl (Row.one_ (d := Kd.int) (e := 3) (w := wr) (S := fun _ => False) (x := ds[k].a) ⟨rfl, i2⟩) (fun k hk e => by have := ho.blk k e.symm; rcases hk with hk | hk; exact hk; omega) (by have := HS.out.2; simp; omega) (by have := hbr.size; simp; omega) ?_; intro v2 w2 ho2 hg2 hv2; have ho3 := OwnI.of ho2; have hbr2 := Below.grown (hbr.alloc hbr.size _) hg2 (by have := hbr.size; simp; omega) (fun k hk => (ho.blk k hk).1))
        exact ⟨⟨k + 1, by omega, by go_num, by rw [HS.out.1]; exact ho3, hbr2⟩, by simp [intOf]; omega⟩
      · have hs2 : (raws (ds.take (k + 1))).2 = (raws (ds.take k)).2 := by
          rw [hs]; unfold rawStep
          by_cases h1 : ds[k].kind = 1
          · rw [if_pos h1]; split <;> rfl
          · rw [if_neg h1, if_neg hm]
        have hb : (ds[k].kind == 2) = false := by simp [hm]
        have HS := Lib.hid hs2
        clear hs hs2 hm hls
        go_wp2
        exact ⟨⟨k + 1, by omega, by go_num, by rw [HS.out]; exact ho, hbr⟩, by simp [intOf]; omega⟩
    · obtain rfl : k = ds.length := by omega
      have e0 : (raws (ds.take ds.length)).2 = (raws ds).2 := by rw [List.take_length]
      rw [e0] at ho
      obtain ⟨A2, c2, rfl, hc2, hr2⟩ := OwnI.row ho
      have hzb := hbr.size
      go_wp2_with (go_at_call 74; refine (l2Sort_calls (raws ds).2 _ _ _ _ hr2 (fun k hk => (ho.blk k hk).2)).mono ?_; rintro e w1 ⟨v, rfl, ho1, hb1⟩)
      go_ret
      exact ⟨_, rfl, ho1.lower hzb, below_then hbr hzb hb1⟩
end Go.Proofs.Ytcpabkfoalhldaa
namespace Go.Proofs.Ytcpabkfoalhldaa
open Go.RowKit
set_option linter.unusedVariables false
set_option linter.unusedSimpArgs false

/-- Cells that deeds touch are 0, 1, 2. -/
def cellsIn (ds : List Deed) : Prop := ∀ d ∈ ds, (d.kind = 1 → 0 ≤ d.b ∧ d.b ≤ 2) ∧ (d.kind = 2 → 0 ≤ d.a ∧ d.a ≤ 2)
theorem Pair.put {w w' : World} {base : Nat} {v u v' : Value} {xs ys zs : List Int} (h : Pair (fun _ => True) w base v u xs ys) (hg : w.grownBy w' v.ownBlock) (ho : OwnI 3 w' base v' zs) (hv : v'.ownBlock = v.ownBlock ∨ ∀ k, v'.ownBlock = some k → w.heap.size ≤ k) : Pair (fun _ => True) w' base v' u zs ys := by
  refine ⟨ho, h.b.grown hg (fun k hk e => h.ne k e.symm hk), fun k hk hu => ?_, fun _ _ => trivial, h.gb⟩
  rcases hv with e | e
  · exact h.ne k (by rw [← e]; exact hk) hu
  · have := (h.b.blk k hu).2
    have := e k hk
    omega
theorem below_put {w w1 w' : World} {v : Value} (h : Below w.heap.size w w1) (hg : w1.grownBy w' v.ownBlock) (hb : ∀ k, v.ownBlock = some k → w.heap.size ≤ k) : Below w.heap.size w w' := h.grown hg h.size hb

set_option maxHeartbeats 4000000 in
set_option maxRecDepth 100000 in
theorem implChangeReads_calls (ds : List Deed) (A : Option Addr) (c : Nat) (w : World) (S : Nat → Prop) (hA : Row kDeed w S A ds) (hds : cellsIn ds) :
    Calls Try.prog 21 #[.slice A ds.length c] w fun e w' => ∃ v, e = .returned v ∧ OwnI 3 w' w.heap.size v (chReads ds) ∧ Below w.heap.size w w' := by
  have hm := hA.1
  have h00 : Pair (fun _ => True) w w.heap.size (.slice none 0 0) (.slice none 0 0) [] [] := ⟨OwnI.nil _ _ _, OwnI.nil _ _ _, fun k h1 h2 => by simp [Value.ownBlock] at h1, fun _ _ => trivial, fun _ _ => trivial⟩
  have H00 := Lib.hid h00
  clear h00
  go_enter Try.func21, Try.ntmps21
  go_wp2
  go_loopw [3, 4, 9] (fun v u i wr => ∃ k : Nat, k ≤ ds.length ∧ i = .int .i64 k ∧ Pair (fun _ => True) wr w.heap.size v u (sort3 (raws (ds.take k)).1) (sort3 (raws (ds.take k)).2) ∧ Below w.heap.size w wr) (fun _ _ i _ => ds.length - (intOf i).toNat)
  case atStart => exact ⟨0, by omega, rfl, by simpa [raws, sort3] using H00.out, Below.refl _ _⟩
  case round =>
    obtain ⟨k, hk, rfl, ho, hbr⟩ := hrel
    clear H00
    by_cases hlt : k < ds.length
    · obtain ⟨ad, rfl, hl1, p0, p1, p2, i1, i2, i3⟩ := at_deed (hA.belowAll hbr) hlt
      have hdk := hds _ (List.getElem_mem hlt)
      have hs := raws_take ds k hlt
      have hzb := hbr.size
      by_cases hm1 : ds[k].kind = 1
      · have hb1 := hdk.1 hm1
        have hca : ∀ o, _ := fun o => hasCell_calls (w := wr.alloc o) (base := w.heap.size) (v := u4) (raws (ds.take k)).2 ds[k].b hb1.1 hb1.2 (ho.b.al _)
        by_cases hin : ds[k].b ∈ (raws (ds.take k)).2
        · have hs2 : raws (ds.take (k + 1)) = raws (ds.take k) := by rw [hs]; unfold rawStep; rw [if_pos hm1, if_pos hin]
          have HS := Lib.hid hs2
          have HD := Lib.hid (decide_eq_true hin)
          have HC := Lib.hid hca
          rw [hm1] at p0
          clear hs hs2 hm1 hin hca hdk
          go_wp2_with (go_at_call 47; refine (HC.out _).mono ?_; rintro e w1 ⟨rfl, q, rfl⟩; rw [HD.out])
          go_roundw
          case rel => exact ⟨k + 1, by omega, by go_num, by rw [HS.out]; exact ho.below (below_drewN' (bal' _ _) q), below_drewN' (hbr.alloc hzb _) q⟩
          case measure => simp [intOf]; omega
        · have hs2 : raws (ds.take (k + 1)) = ((raws (ds.take k)).1 ++ [ds[k].b], (raws (ds.take k)).2) := by rw [hs]; unfold rawStep; rw [if_pos hm1, if_neg hin]
          have hwa : ∀ o q, _ := fun o q => withCell_calls (w := (wr.alloc o).drewN q) (base := w.heap.size) (v := u3) (raws (ds.take k)).1 ds[k].b hb1.1 hb1.2 ((ho.a.al _).drewN q) (by simp; omega)
          have HS := Lib.hid hs2
          have HD := Lib.hid (decide_eq_false hin)
          have HC := Lib.hid hca
          have HW := Lib.hid hwa
          rw [hm1] at p0
          clear hs hs2 hm1 hin hca hdk hwa
          go_wp2_with (first | (go_at_call 47; refine (HC.out _).mono ?_; rintro e w1 ⟨rfl, q, rfl⟩; rw [HD.out]) | (go_at_call 46; refine (HW.out _ _).mono ?_; rintro e w2 ⟨v', rfl, h1, h2', h3⟩))
          have hb5 := below_drewN' (hbr.alloc hzb (.cells #[.int .i64 1, .int .i64 ds[k].a, .int .i64 ds[k].b] 63)) q
          go_roundw
          case rel => exact ⟨k + 1, by omega, by go_num, by rw [HS.out]; exact (ho.below (below_drewN' (bal' _ _) q)).put h2' h1 h3, below_put hb5 h2' (fun k hk => (ho.a.blk k hk).1)⟩
          case measure => simp [intOf]; omega
      · by_cases hm2 : ds[k].kind = 2
        · have hb2 := hdk.2 hm2
          have hs2 : raws (ds.take (k + 1)) = ((raws (ds.take k)).1, (raws (ds.take k)).2 ++ [ds[k].a]) := by rw [hs]; unfold rawStep; rw [if_neg hm1, if_pos hm2]
          have hwa : ∀ o, _ := fun o => withCell_calls (w := wr.alloc o) (base := w.heap.size) (v := u4) (raws (ds.take k)).2 ds[k].a hb2.1 hb2.2 (ho.b.al _) (by simp; omega)
          have HS := Lib.hid hs2
          have HW := Lib.hid hwa
          rw [hm2] at p0
          clear hs hs2 hm1 hm2 hdk hwa
          go_wp2_with (go_at_call 46; refine (HW.out _).mono ?_; rintro e w2 ⟨v', rfl, h1, h2', h3⟩)
          have hb5 := hbr.alloc hzb (.cells #[.int .i64 2, .int .i64 ds[k].a, .int .i64 ds[k].b] 63)
          go_roundw
          case rel => exact ⟨k + 1, by omega, by go_num, by rw [HS.out]; exact ((ho.below (bal' _ _)).symm.put h2' h1 h3).symm, below_put hb5 h2' (fun k hk => (ho.b.blk k hk).1)⟩
          case measure => simp [intOf]; omega
        · have hb1 : (ds[k].kind == 1) = false := by simp [hm1]
          have hb2 : (ds[k].kind == 2) = false := by simp [hm2]
          have hs2 : raws (ds.take (k + 1)) = raws (ds.take k) := by rw [hs]; unfold rawStep; rw [if_neg hm1, if_neg hm2]
          have HS := Lib.hid hs2
          clear hs hs2 hm1 hm2 hdk
          go_wp2
          go_roundw
          case rel => exact ⟨k + 1, by omega, by go_num, by rw [HS.out]; exact ho.below (bal' _ _), hbr.alloc hzb _⟩
          case measure => simp [intOf]; omega
    · obtain rfl : k = ds.length := by omega
      rw [List.take_length] at ho
      go_wp2
      go_ret
      exact ⟨_, rfl, ho.a, hbr⟩
end Go.Proofs.Ytcpabkfoalhldaa
namespace Go.Proofs.Ytcpabkfoalhldaa
open Go.RowKit
set_option linter.unusedVariables false
set_option linter.unusedSimpArgs false

theorem keyedI : Go.Maps.Keyed Try.prog 3 := Go.Maps.int_keyed Try.underlying3
theorem zeroI (w : World) : (zeroValue 3).run Try.prog w = .ok (.int .i64 0) w := by kernel_rfl
theorem wfI {a : Int} (h : isI a) : (Lit.int .i64 a).wf = true := WalkArith.wf_i64 (by unfold isI at h; omega)
theorem keyI {a : Int} (h : isI a) : keyOf Try.prog 3 (.int .i64 a) = some (.int .i64 a) := Go.Maps.keyOf_int_mk Try.underlying3 (wfI h)
/-- Map block b counts the numbers of a row. -/
def CntMap (w : World) (b : Nat) (cs : List Int) : Prop :=
  ∃ D : DataW Unit, w.ownsMap Try.prog 3 (plainElem Try.prog 3) b cs.length D ∧ (∀ k, isI k → D.atKey (.int .i64 k) (.lit (.int .i64 0)) = .lit (.int .i64 (cs.count k : Nat))) ∧ (∀ k, isI k → Maps.has D (.int .i64 k) = decide (k ∈ cs)) ∧ (∀ x ∈ cs, isI x)
section
variable {w w' : World} {b : Nat} {cs : List Int}
theorem CntMap.made (w : World) : CntMap (w.alloc (.map #[] 0)) w.heap.size [] :=
  ⟨.map [], World.ownsMap_made w _ _ _, fun k _ => by simp [DataW.atKey], fun k _ => by simp [Maps.has], fun x hx => by simp at hx⟩
theorem CntMap.lt (h : CntMap w b cs) : b < w.heap.size := by obtain ⟨D, h, _⟩ := h; exact h.lt
theorem CntMap.keep {T : Nat → Prop} (h : CntMap w b cs) (hk : Keep T w w') (hT : ¬ T b) : CntMap w' b cs := by
  obtain ⟨D, ⟨es, clock, hb, r⟩, h2⟩ := h
  exact ⟨D, ⟨es, clock, hk.blk hb hT, r⟩, h2⟩
theorem CntMap.below (h : CntMap w b cs) (hb : Below w.heap.size w w') : CntMap w' b cs := h.keep (Keep.of_belowAll (fun _ => False) hb) (fun h => h)
/-- 'm[x]'. -/
theorem wpList_cnt_look {ops : Array Oper} {rest : List Oper} {o : Oper} {a : Go.Act} {Q : Exit → Go.Act → World → Prop} (hg : o.guard = none) (m x : Operand) (hop : o.op = Op.lookup 57 m x false)
    (hm : a.eval m = .map (some b)) (h : CntMap w b cs) (k : Int) (hx : a.eval x = .int .i64 k) (hk : isI k)
    (hK : wpList Try.prog ops Q rest (a.put o.dst (.int .i64 (cs.count k : Nat))) w) : wpList Try.prog ops Q (o :: rest) a w := by
  obtain ⟨D, h1, h2, h3⟩ := h
  refine wpList_lookup_own_int w hg m x 57 hop 3 3 .i64 keyedI Try.underlying57 Try.underlying3 (zeroI _) b cs.length D hm h1 _ (.int .i64 k) hx (keyI hk) fun c hat _ => ?_
  rw [h2 k hk] at hat
  injection hat with hat
  injection hat with _ hat
  rw [← hat]; exact hK
/-- 'm[x] = m[x] + 1'. -/
theorem wpList_cnt_put {ops : Array Oper} {rest : List Oper} {o : Oper} {a : Go.Act} {Q : Exit → Go.Act → World → Prop} (hg : o.guard = none) (m x v : Operand) (hop : o.op = Op.mapUpdate 57 m x v)
    (hm : a.eval m = .map (some b)) (h : CntMap w b cs) (k : Int) (hx : a.eval x = .int .i64 k) (hk : isI k) (hv : a.eval v = .int .i64 (cs.count k + 1)) (hl : cs.length ≤ 1000000)
    (hK : ∀ w', CntMap w' b (cs ++ [k]) → Keep (fun i => i = b) w w' → wpList Try.prog ops Q rest (a.put o.dst undef) w') : wpList Try.prog ops Q (o :: rest) a w := by
  obtain ⟨D, h1, h2, h3, h4⟩ := h
  have hc : cs.count k ≤ cs.length := List.count_le_length
  refine wpList_mapUpdate_own w hg m x v 57 hop 3 3 keyedI Try.underlying57 _ b cs.length D hm h1 (by unfold _root_.Go.maxLen; omega) _ _ (.int .i64 k) hx hv (keyI hk) _ [] (plainElem_int Try.underlying3 (wfI ⟨by omega, by omega⟩)) fun w' ho hgr => ?_
  have hD := h1.isMap
  refine hK w' ⟨_, by simpa using ho, fun y hy => ?_, fun y hy => ?_, fun y hy => ?_⟩ (Keep.of_grown hgr (fun i hi => by injection hi with hi; exact hi.symm))
  · by_cases e : y = k
    · subst e
      rw [Maps.atKey_put_same hD (by simp [WideAt.IsKeyLit])]
      simp [List.count_append]
    · rw [Maps.atKey_put_other (by intro h; injection h; contradiction), h2 y hy]
      rw [List.count_append, List.count_singleton]
      have e2 : ¬ k = y := fun h => e h.symm
      simp [e2]
  · by_cases e : y = k
    · subst e
      rw [Maps.has_put_same hD (by simp [WideAt.IsKeyLit])]
      simp
    · rw [Maps.has_put_other (by intro h; injection h; contradiction), h3 y hy]
      simp [e]
  · rcases List.mem_append.1 hy with h | h
    · exact h4 y h
    · rw [List.mem_singleton.1 h]; exact hk
end
end Go.Proofs.Ytcpabkfoalhldaa
namespace Go.Proofs.Ytcpabkfoalhldaa
open Go.RowKit
set_option linter.unusedVariables false
set_option linter.unusedSimpArgs false

theorem sort3_lens (l : List Int) : (sort3 l).length ≤ 3 := sort3_len l
set_option maxHeartbeats 4000000 in
set_option maxRecDepth 100000 in
theorem implChangeWrites_calls (ds : List Deed) (A : Option Addr) (c : Nat) (w : World) (S : Nat → Prop) (hA : Row kDeed w S A ds) (hds : cellsIn ds) :
    Calls Try.prog 16 #[.slice A ds.length c] w fun e w' => ∃ v, e = .returned v ∧ OwnI 3 w' w.heap.size v (chWrites ds) ∧ Below w.heap.size w w' := by
  have hm := hA.1
  have H00 := Lib.hid (OwnI.nil 3 w w.heap.size)
  go_enter Try.func16, Try.ntmps16
  go_wp2
  go_loopw [3, 8] (fun v i wr => ∃ k : Nat, k ≤ ds.length ∧ i = .int .i64 k ∧ OwnI 3 wr w.heap.size v (sort3 (raws (ds.take k)).2) ∧ Below w.heap.size w wr) (fun _ i _ => ds.length - (intOf i).toNat)
  case atStart => exact ⟨0, by omega, rfl, by simpa [raws, sort3] using H00.out, Below.refl _ _⟩
  case round =>
    obtain ⟨k, hk, rfl, ho, hbr⟩ := hrel
    clear H00
    by_cases hlt : k < ds.length
    · obtain ⟨ad, rfl, hl1, p0, p1, p2, i1, i2, i3⟩ := at_deed (hA.belowAll hbr) hlt
      have hdk := hds _ (List.getElem_mem hlt)
      have hs := raws_take ds k hlt
      have hzb := hbr.size
      by_cases hm2 : ds[k].kind = 2
      · have hb2 := hdk.2 hm2
        have hs2 : (raws (ds.take (k + 1))).2 = (raws (ds.take k)).2 ++ [ds[k].a] := by rw [hs]; unfold rawStep; rw [if_neg (by omega), if_pos hm2]
        have hwa : ∀ o, _ := fun o => withCell_calls (w := wr.alloc o) (base := w.heap.size) (v := u3) (raws (ds.take k)).2 ds[k].a hb2.1 hb2.2 (ho.al _) (by simp; omega)
        have HS := Lib.hid hs2
        have HW := Lib.hid hwa
        rw [hm2] at p0
        clear hs hs2 hm2 hdk hwa
        go_wp2_with (go_at_call 46; refine (HW.out _).mono ?_; rintro e w2 ⟨v', rfl, h1, h2', h3⟩)
        have hb5 := hbr.alloc hzb (.cells #[.int .i64 2, .int .i64 ds[k].a, .int .i64 ds[k].b] 63)
        go_roundw
        case rel => exact ⟨k + 1, by omega, by go_num, by rw [HS.out]; exact h1, below_put hb5 h2' (fun k hk => (ho.blk k hk).1)⟩
        case measure => simp [intOf]; omega
      · have hb2 : (ds[k].kind == 2) = false := by simp [hm2]
        have hs2 : (raws (ds.take (k + 1))).2 = (raws (ds.take k)).2 := by
          rw [hs]; unfold rawStep
          by_cases h1 : ds[k].kind = 1
          · rw [if_pos h1]; split <;> rfl
          · rw [if_neg h1, if_neg hm2]
        have HS := Lib.hid hs2
        clear hs hs2 hm2 hdk
        go_wp2
        go_roundw
        case rel => exact ⟨k + 1, by omega, by go_num, by rw [HS.out]; exact ho.al _, hbr.alloc hzb _⟩
        case measure => simp [intOf]; omega
    · obtain rfl : k = ds.length := by omega
      rw [List.take_length] at ho
      go_wp2
      go_ret
      exact ⟨_, rfl, ho, hbr⟩
end Go.Proofs.Ytcpabkfoalhldaa
namespace Go.Proofs.Ytcpabkfoalhldaa
open Go.RowKit
set_option linter.unusedVariables false
set_option linter.unusedSimpArgs false

/-- Two rows of numbers of the call's own, apart. -/
structure Two (w : World) (base : Nat) (v u : Value) (xs ys : List Int) : Prop where
  a : OwnI 3 w base v xs
  b : OwnI 3 w base u ys
  ne : ∀ k, v.ownBlock = some k → u.ownBlock ≠ some k
theorem Two.symm {w : World} {base : Nat} {v u : Value} {xs ys : List Int} (h : Two w base v u xs ys) : Two w base u v ys xs := ⟨h.b, h.a, fun k h1 h2 => h.ne k h2 h1⟩
theorem Two.below {w w' : World} {base : Nat} {v u : Value} {xs ys : List Int} (h : Two w base v u xs ys) (hb : Below w.heap.size w w') : Two w' base v u xs ys := ⟨h.a.belowAll hb, h.b.belowAll hb, h.ne⟩
/-- The first row grows. -/
theorem Two.app {w w' : World} {base : Nat} {v u v' : Value} {xs ys zs : List Int} {o : Obj} (h : Two w base v u xs ys) (hg : (w.alloc o).grownBy w' v.ownBlock) (ho : OwnI 3 w' base v' zs) (hv : v'.ownBlock = v.ownBlock ∨ v'.ownBlock = some (w.alloc o).heap.size) : Two w' base v' u zs ys := by
  refine ⟨ho, (h.b.al o).grown hg (fun k hk e => h.ne k e.symm hk), fun k hk hu => ?_⟩
  rcases hv with e | e
  · exact h.ne k (by rw [← e]; exact hk) hu
  · rw [e] at hk
    injection hk with hk
    have := (h.b.blk k hu).2
    simp at hk
    omega
set_option maxHeartbeats 4000000 in
set_option maxRecDepth 100000 in
theorem specChangeReads_calls (ds : List Deed) (A : Option Addr) (c : Nat) (w : World) (S : Nat → Prop) (hA : Row kDeed w S A ds) (hS : ∀ k, S k → k < w.heap.size) (hl : ds.length ≤ 1000) :
    Calls Try.prog 72 #[.slice A ds.length c] w fun e w' => ∃ v, e = .returned v ∧ OwnI 3 w' w.heap.size v (chReads ds) ∧ Below w.heap.size w w' := by
  have h00 : Two ((w.alloc (.cells #[] 3)).alloc (.cells #[] 3)) w.heap.size (.slice (some ⟨w.heap.size, 0, none⟩) 0 0) (.slice (some ⟨w.heap.size + 1, 0, none⟩) 0 0) [] [] := ⟨(ownI_empty 3 w w.heap.size (Nat.le_refl _)).al _, ownI_empty2 3 w w.heap.size _ (Nat.le_refl _), fun k h1 h2 => by simp [Value.ownBlock] at h1 h2; omega⟩
  have hb0 := bal2' w (.cells #[] 3) (.cells #[] 3)
  go_enter Try.func72, Try.ntmps72
  go_wp2
  go_loopw [3, 4, 5] (fun v u i wr => ∃ k : Nat, k ≤ ds.length ∧ i = .int .i64 k ∧ Two wr w.heap.size v u (raws (ds.take k)).1 (raws (ds.take k)).2 ∧ Below w.heap.size w wr) (fun _ _ i _ => ds.length - (intOf i).toNat)
  case atStart => exact ⟨0, by omega, rfl, by simpa [raws] using h00, hb0⟩
  case round =>
    obtain ⟨k, hk, rfl, ho, hbr⟩ := hrel
    clear h00 hb0
    by_cases hlt : k < ds.length
    · obtain ⟨ad, rfl, hl1, p0, p1, p2, i1, i2, i3⟩ := at_deed (hA.belowAll hbr) hlt
      have x1 : (k : Int) < ds.length := by omega
      have x3 : (0 : Int) ≤ k := by omega
      have hs := raws_take ds k hlt
      have hls := raws_len ds k hk
      by_cases hm : ds[k].kind = 1
      · have hb : (ds[k].kind == 1) = true := by simp [hm]
        obtain ⟨Au, cu, hue, _, hru⟩ := OwnI.row ho.b
        subst hue
        by_cases hin : ds[k].b ∈ (raws (ds.take k)).2
        · have hs2 : raws (ds.take (k + 1)) = raws (ds.take k) := by rw [hs]; unfold rawStep; rw [if_pos hm, if_pos hin]
          have HS := Lib.hid hs2
          have HD := Lib.hid (decide_eq_true hin)
          clear hs hs2 hm hls hin
          go_wp2_with (go_at_call 96; refine (l2Has_calls _ _ _ _ _ _ hru).mono ?_; rintro e w1 ⟨rfl, hb1⟩; rw [HD.out]; have ho1 := ho.below hb1; have hbr1 := below_then hbr hbr.size hb1)
          exact ⟨⟨k + 1, by omega, by go_num, by rw [HS.out]; exact ho1, hbr1⟩, by simp [intOf]; omega⟩
        · have hs2 : raws (ds.take (k + 1)) = ((raws (ds.take k)).1 ++ [ds[k].b], (raws (ds.take k)).2) := by rw [hs]; unfold rawStep; rw [if_pos hm, if_neg hin]
          have HS := Lib.hid (And.intro hs2 hls)
          have HD := Lib.hid (decide_eq_false hin)
          clear hs hs2 hm hls hin
          go_wp2_with (first | (go_at_call 96; refine (l2Has_calls _ _ _ _ _ _ hru).mono ?_; rintro e w1 ⟨rfl, hb1⟩; rw [HD.out]; have ho1 := ho.below hb1; have hbr1 := below_then hbr hbr.size hb1; have q2 := (hb1.cell (by rw [show (⟨(ad.add (k * 3)).block, (ad.add (k * 3)).off + 2, none⟩ : Addr).block = (ad.add (k * 3)).block from rfl, block_add]; exact hl1)).trans p2) | (at_builtin; refine wpList_append_kd (d := Kd.int) rfl (.tmp 29) (.tmp 35) _ rfl Try.underlying23 _ 8 infoInt rfl (by decide) (by decide) rfl (OwnI.belowAll ho1.a (bal' _ _)) _ _ rfl (Row.one_ (d := Kd.int) (e := 3) (w := w1) (S := fun _ => False) (x := ds[k].b) ⟨rfl, i3⟩) (fun k hk e => by have := ho1.a.blk k e.symm; rcases hk with hk | hk; exact hk; omega) (by have := HS.out.2; simp; omega) (by have := hbr1.size; simp; omega) ?_; intro v2 w2 ho2 hg2 hv2; have ho3 := ho1.app hg2 (OwnI.of ho2) hv2; have hbr2 := Below.grown (hbr1.alloc hbr1.size _) hg2 (by have := hbr1.size; simp; omega) (fun k hk => (ho1.a.blk k hk).1)))
          exact ⟨⟨k + 1, by omega, by go_num, by rw [HS.out.1]; exact ho3, hbr2⟩, by simp [intOf]; omega⟩
      · have hb : (ds[k].kind == 1) = false := by simp [hm]
        by_cases hm2 : ds[k].kind = 2
        · have hb2 : (ds[k].kind == 2) = true := by simp [hm2]
          have hs2 : raws (ds.take (k + 1)) = ((raws (ds.take k)).1, (raws (ds.take k)).2 ++ [ds[k].a]) := by rw [hs]; unfold rawStep; rw [if_neg hm, if_pos hm2]
          have HS := Lib.hid (And.intro hs2 hls)
          clear hs hs2 hm hls hm2
          go_wp2_with (at_builtin; refine wpList_append_kd (d := Kd.int) rfl (.tmp 39) (.tmp 45) _ rfl Try.underlying23 _ 8 infoInt rfl (by decide) (by decide) rfl (OwnI.belowAll ho.b (bal' _ _)) _ _ rfl (Row.one_ (d := Kd.int) (e := 3) (w := wr) (S := fun _ => False) (x := ds[k].a) ⟨rfl, i2⟩) (fun k hk e => by have := ho.b.blk k e.symm; rcases hk with hk | hk; exact hk; omega) (by have := HS.out.2; simp; omega) (by have := hbr.size; simp; omega) ?_; intro v2 w2 ho2 hg2 hv2; have ho3 := (ho.symm.app hg2 (OwnI.of ho2) hv2).symm; have hbr2 := Below.grown (hbr.alloc hbr.size _) hg2 (by have := hbr.size; simp; omega) (fun k hk => (ho.b.blk k hk).1))
          exact ⟨⟨k + 1, by omega, by go_num, by rw [HS.out.1]; exact ho3, hbr2⟩, by simp [intOf]; omega⟩
        · have hb2 : (ds[k].kind == 2) = false := by simp [hm2]
          have hs2 : raws (ds.take (k + 1)) = raws (ds.take k) := by rw [hs]; unfold rawStep; rw [if_neg hm, if_neg hm2]
          have HS := Lib.hid hs2
          clear hs hs2 hm hls hm2
          go_wp2
          exact ⟨⟨k + 1, by omega, by go_num, by rw [HS.out]; exact ho, hbr⟩, by simp [intOf]; omega⟩
    · obtain rfl : k = ds.length := by omega
      have e0 : raws (ds.take ds.length) = raws ds := by rw [List.take_length]
      rw [e0] at ho
      obtain ⟨A2, c2, rfl, hc2, hr2⟩ := OwnI.row ho.a
      have hzb := hbr.size
      go_wp2_with (go_at_call 74; refine (l2Sort_calls (raws ds).1 _ _ _ _ hr2 (fun k hk => (ho.a.blk k hk).2)).mono ?_; rintro e w1 ⟨v, rfl, ho1, hb1⟩)
      go_ret
      exact ⟨_, rfl, ho1.lower hzb, below_then hbr hzb hb1⟩
end Go.Proofs.Ytcpabkfoalhldaa
namespace Go.Proofs.Ytcpabkfoalhldaa
open Go.RowKit
set_option linter.unusedVariables false
set_option linter.unusedSimpArgs false

set_option maxHeartbeats 2000000 in
set_option maxRecDepth 100000 in
theorem l23Meet_calls (xs ys : List Int) (A B : Option Addr) (c d : Nat) (w : World) (S S2 : Nat → Prop) (hA : Row Kd.int w S A xs) (hB : Row Kd.int w S2 B ys) :
    Calls Try.prog 82 #[.slice A xs.length c, .slice B ys.length d] w fun e w' => e = .returned (.bool (meets xs ys)) ∧ Below w.heap.size w w' := by
  have hn := hA.1
  go_enter Try.func82, Try.ntmps82
  go_wp2
  go_loopw [5] (fun i wr => ∃ k : Nat, k ≤ xs.length ∧ i = .int .i64 k ∧ Hid (meets (xs.take k) ys = false) ∧ Below w.heap.size w wr) (fun i _ => xs.length - (intOf i).toNat)
  case atStart => exact ⟨0, Nat.zero_le _, rfl, by unfold Hid; simp [meets], Below.refl _ _⟩
  case round =>
    obtain ⟨k, hk, rfl, HA, hbr⟩ := hrel
    by_cases hlt : k < xs.length
    · obtain ⟨ad, rfl, hl1, hc1, hi1⟩ := at_int (hA.belowAll hbr) hlt
      have x1 : (k : Int) < xs.length := by omega
      have x3 : (0 : Int) ≤ k := by omega
      by_cases he : xs[k] ∈ ys
      · have hd : meets xs ys = true := by unfold meets; rw [List.any_eq_true]; exact ⟨xs[k], List.getElem_mem _, by simpa using he⟩
        have HDD := Lib.hid (And.intro hd (decide_eq_true he))
        clear he hd
        go_wp2_with (go_at_call 96; refine (l2Has_calls ys _ _ _ _ S2 (hB.belowAll hbr)).mono ?_; rintro e w1 ⟨rfl, hb1⟩; rw [HDD.out.2]; have hbr1 := below_then hbr hbr.size hb1)
        go_ret
        exact ⟨ret_bool HDD.out.1.symm, hbr1⟩
      · have hd : meets (xs.take (k + 1)) ys = false := by
          have := HA.out
          unfold meets at *
          rw [List.take_succ_eq_append_getElem hlt, List.any_append, this]
          simp [he]
        have HDD := Lib.hid (And.intro hd (decide_eq_false he))
        clear he hd
        go_wp2_with (go_at_call 96; refine (l2Has_calls ys _ _ _ _ S2 (hB.belowAll hbr)).mono ?_; rintro e w1 ⟨rfl, hb1⟩; rw [HDD.out.2]; have hbr1 := below_then hbr hbr.size hb1)
        exact ⟨⟨k + 1, by omega, by go_num, HDD.out.1, hbr1⟩, by simp [intOf]; omega⟩
    · have hd : meets xs ys = false := by
        have := HA.out
        rwa [List.take_of_length_le (by omega)] at this
      have HDD := Lib.hid hd
      clear hd
      go_wp2
      go_ret
      exact ⟨ret_bool HDD.out.symm, hbr⟩
end Go.Proofs.Ytcpabkfoalhldaa
namespace Go.Proofs.Ytcpabkfoalhldaa
open Go.RowKit
set_option linter.unusedVariables false
set_option linter.unusedSimpArgs false
attribute [local go_sem ↓] Go.wp_at_zero Go.wp_at_succ

/-- The rows of the acts so far. -/
def accTo (f : List Deed → List Int) (n : Nat) (p : Prog) (acts : List Act) : List Int := acts.flatMap fun a => f a.deeds ++ a.kids.flatMap fun k => setsOf f n p k.toNat
theorem accTo_take (f : List Deed → List Int) (n : Nat) (p : Prog) (acts : List Act) (k : Nat) (h : k < acts.length) : accTo f n p (acts.take (k + 1)) = accTo f n p (acts.take k) ++ (f acts[k].deeds ++ acts[k].kids.flatMap fun k => setsOf f n p k.toNat) := by
  unfold accTo
  rw [List.take_succ_eq_append_getElem h, List.flatMap_append]
  simp
def kidsTo (f : List Deed → List Int) (n : Nat) (p : Prog) (kids : List Int) : List Int := kids.flatMap fun k => setsOf f n p k.toNat
theorem kidsTo_take (f : List Deed → List Int) (n : Nat) (p : Prog) (kids : List Int) (k : Nat) (h : k < kids.length) : kidsTo f n p (kids.take (k + 1)) = kidsTo f n p (kids.take k) ++ setsOf f n p kids[k].toNat := by
  unfold kidsTo
  rw [List.take_succ_eq_append_getElem h, List.flatMap_append]
  simp
theorem setsOf_len (f : List Deed → List Int) (n : Nat) (p : Prog) (b : Nat) : (setsOf f n p b).length ≤ 3 := by rw [setsOf_eq]; exact sort3_len _
theorem kidsTo_len (f : List Deed → List Int) (n : Nat) (p : Prog) (kids : List Int) : (kidsTo f n p kids).length ≤ 3 * kids.length := by
  unfold kidsTo
  induction kids with
  | nil => simp
  | cons a r ih =>
    have := setsOf_len f n p a.toNat
    simp only [List.flatMap_cons, List.length_append, List.length_cons]
    omega
theorem accTo_len (f : List Deed → List Int) (hf : ∀ ds, (f ds).length ≤ 3) (n : Nat) (p : Prog) (acts : List Act) (h : ∀ a ∈ acts, a.kids.length ≤ 2) : (accTo f n p acts).length ≤ 9 * acts.length := by
  induction acts with
  | nil => simp [accTo]
  | cons a r ih =>
    have h1 := ih fun b hb => h b (List.mem_cons_of_mem _ hb)
    have h2 := kidsTo_len f n p a.kids
    have h3 := h a (List.mem_cons_self ..)
    have h4 := hf a.deeds
    have e : accTo f n p (a :: r) = (f a.deeds ++ kidsTo f n p a.kids) ++ accTo f n p r := by simp [accTo, kidsTo]
    rw [e]
    simp only [List.length_append, List.length_cons]
    omega
theorem accTo_lens {p : Prog} (hf : formOk p = true) (f : List Deed → List Int) (h3 : ∀ ds, (f ds).length ≤ 3) (n b : Nat) (hb : b < p.bodies.length) (j : Nat) : (accTo f n p (p.bodies[b].take j)).length ≤ 36 := by
  have ha := formOk_acts hf hb
  have := accTo_len f h3 n p (p.bodies[b].take j) (fun a m => (ha.2 a (List.mem_of_mem_take m)).1)
  have : (p.bodies[b].take j).length ≤ 4 := by rw [List.length_take]; omega
  omega
theorem chReads_len (ds : List Deed) : (chReads ds).length ≤ 3 := sort3_len _
theorem chWrites_len (ds : List Deed) : (chWrites ds).length ≤ 3 := sort3_len _

set_option maxHeartbeats 8000000 in
set_option maxRecDepth 100000 in
theorem l23Sets_calls (p : Prog) (hf : formOk p = true) : ∀ (n : Nat) (hn : n ≤ 4) (b : Nat) (hb : b < p.bodies.length) (hbd : p.bodies.length ≤ b + n) (A B : Option Addr) (ca cb : Nat) (w : World) (S : Nat → Prop) (hB : Row (Kd.slice kAct) w S B p.bodies),
    Calls Try.prog 44 #[.agg #[.slice A p.cells.length ca, .slice B p.bodies.length cb], .int .i64 (b : Nat)] w fun e w' => ∃ v u, e = .returned (.tuple #[v, u]) ∧ OwnI 3 w' w.heap.size v (setsOf chReads n p b) ∧ OwnI 3 w' w.heap.size u (setsOf chWrites n p b) ∧ Below w.heap.size w w' := by
  intro n
  induction n with
  | zero => intro _ b hb hbd; omega
  | succ n ih0 =>
    intro hn b hb hbd A B ca cb w S hB
    have ih := Lib.hid ih0
    clear ih0
    have hacts := formOk_acts hf hb
    obtain ⟨acts, HA⟩ : ∃ acts, acts = p.bodies[b] := ⟨_, rfl⟩
    have hal : acts.length ≤ 4 := by rw [HA]; exact hacts.1
    have hlen := formOk_len hf
    have hkid : ∀ (i : Nat) (hi : i < acts.length), acts[i].kids.length ≤ 2 ∧ acts[i].deeds.length ≤ 5 ∧ ∀ (k : Nat) (hk : k < acts[i].kids.length), (b : Int) + 1 ≤ acts[i].kids[k] ∧ acts[i].kids[k] ≤ (p.bodies.length : Int) - 1 := by
      subst HA
      intro i hi
      have := hacts.2 _ (List.getElem_mem hi)
      exact ⟨this.1, formOk_deeds hf hb _ (List.getElem_mem hi), fun k hk => this.2 _ (List.getElem_mem hk)⟩
    have hlr : ∀ j, (accTo chReads n p (acts.take j)).length ≤ 36 := fun j => by rw [HA]; exact accTo_lens hf chReads chReads_len n b hb j
    have hlw : ∀ j, (accTo chWrites n p (acts.take j)).length ≤ 36 := fun j => by rw [HA]; exact accTo_lens hf chWrites chWrites_len n b hb j
    have hend : ∀ f, setsOf f (n + 1) p b = sort3 (accTo f n p acts) := fun f => by rw [HA, setsOf, getD_at _ _ _ hb]; rfl
    have HE := Lib.hid hend
    have HK := Lib.hid hkid
    have HL := Lib.hid (And.intro hlr hlw)
    have hslot : Hid (p.bodies[b] = acts) := HA.symm
    have hm2 := hB.1
    obtain ⟨ad, C, cc, rfl, hl, hc, hcl, hC0⟩ := at_slice hB hb
    rw [← HA] at hc hcl hC0
    clear hacts hend hkid hlr hlw HA
    have hma := hC0.1
    obtain ⟨W2, HW⟩ : ∃ W2, W2 = w.alloc (Obj.cells #[.slice A p.cells.length ca, .slice (some ad) p.bodies.length cb] 26) := ⟨_, rfl⟩
    have hb2 : Below w.heap.size w W2 := by rw [HW]; exact bal' _ _
    have hz2 : W2.heap.size = w.heap.size + 1 := by rw [HW]; simp
    have c0 : W2.cell? ⟨w.heap.size, 0, none⟩ = some (.slice A p.cells.length ca) := by rw [HW]; simp [go_sem]
    have c1 : W2.cell? ⟨w.heap.size, 1, none⟩ = some (.slice (some ad) p.bodies.length cb) := by rw [HW]; simp [go_sem]
    have hB2 := hB.belowAll hb2
    have hC2 := hC0.belowAll hb2
    have hcc2 := (hb2.cell (p := ad.add b) (by rw [block_add]; exact hl)).trans hc
    have hl2 : ad.block < W2.heap.size := by omega
    have h00 : Pair (fun k => W2.heap.size ≤ k) ((W2.alloc (.cells #[] 3)).alloc (.cells #[] 3)) W2.heap.size (.slice (some ⟨w.heap.size + 1, 0, none⟩) 0 0) (.slice (some ⟨w.heap.size + 2, 0, none⟩) 0 0) [] [] := by
      have e1 := ownI_empty 3 W2 W2.heap.size (Nat.le_refl _)
      have e2 := ownI_empty2 3 W2 W2.heap.size (.cells #[] 3) (Nat.le_refl _)
      rw [hz2] at e1 e2 ⊢
      exact ⟨e1.al _, e2, fun k h1 h2 => by simp [Value.ownBlock] at h1 h2; omega, fun k hk => by simp [Value.ownBlock] at hk; omega, fun k hk => by simp [Value.ownBlock] at hk; omega⟩
    have hb0 : Below W2.heap.size W2 ((W2.alloc (.cells #[] 3)).alloc (.cells #[] 3)) := bal2' _ _ _
    have H00 := Lib.hid (And.intro h00 hb0)
    have HZ := Lib.hid hz2
    have HW' := Lib.hid HW
    clear hz2 hB hC0 hc h00 hb0 HW
    go_enter Try.func44, Try.ntmps44
    go_wp2
    rw [← HW'.out]
    have H0 := H00.out
    clear H00 HW'
    go_loopw [6, 7, 8, 9, 10, 11, 12] (fun v u i _ _ _ _ wr => ∃ j : Nat, j ≤ acts.length ∧ i = .int .i64 j ∧ Pair (fun k => W2.heap.size ≤ k) wr W2.heap.size v u (accTo chReads n p (acts.take j)) (accTo chWrites n p (acts.take j)) ∧ Below W2.heap.size W2 wr) (fun _ _ i _ _ _ _ _ => acts.length - (intOf i).toNat)
    case atStart => exact ⟨0, Nat.zero_le _, rfl, by simpa [accTo] using H0.1, H0.2⟩
    case round =>
      obtain ⟨j, hj, rfl, ho, hbr⟩ := hrel
      clear H0
      have c0r := (hbr.cell (p := ⟨w.heap.size, 0, none⟩) (by rw [HZ.out]; simp)).trans c0
      have c1r := (hbr.cell (p := ⟨w.heap.size, 1, none⟩) (by rw [HZ.out]; simp)).trans c1
      have hcr := (hbr.cell (p := ad.add b) (by rw [block_add]; exact hl2)).trans hcc2
      by_cases hlt : j < acts.length
      · obtain ⟨w0, rfl⟩ : ∃ w0 : World, w0 = wr := ⟨_, rfl⟩
        have hC3 := hC2.bound.belowAll hbr
        obtain ⟨ad2, D, cd, E, ce, rfl, hl3, k0, k1, k2, k3, hcd, hce, hD, hE, hi1, hi2⟩ := at_act hC3 hlt
        have hme := hE.1
        have hmd := hD.1
        have hzr := hbr.size
        obtain ⟨wo, HO⟩ : ∃ wo, wo = w0.alloc (Obj.cells #[.int .i64 acts[j].kind, .slice D acts[j].deeds.length cd, .slice E acts[j].kids.length ce, .int .i64 acts[j].reg] 35) := ⟨_, rfl⟩
        have hwo : Below w0.heap.size w0 wo := by rw [HO]; exact bal' _ _
        have hzo : wo.heap.size = w0.heap.size + 1 := by rw [HO]; simp
        have o1 : wo.cell? ⟨w0.heap.size, 1, none⟩ = some (.slice D acts[j].deeds.length cd) := by rw [HO]; simp [go_sem]
        have o2 : wo.cell? ⟨w0.heap.size, 2, none⟩ = some (.slice E acts[j].kids.length ce) := by rw [HO]; simp [go_sem]
        have hDo := hD.belowAll hwo
        have hEo := hE.belowAll hwo
        have c0o := (hwo.cell (p := ⟨w.heap.size, 0, none⟩) (by have := HZ.out; simp; omega)).trans c0r
        have c1o := (hwo.cell (p := ⟨w.heap.size, 1, none⟩) (by have := HZ.out; simp; omega)).trans c1r
        have hoo := (ho.mono (G' := fun k => W2.heap.size ≤ k ∧ k ≠ w0.heap.size) (fun k h1 h2 => ⟨h1, by omega⟩)).below hwo
        have HP := Lib.hid (And.intro hoo (And.intro ho.a ho.b))
        have HZO := Lib.hid hzo
        have HOO := Lib.hid HO
        clear hoo hzo HO ho hD hE
        have hls := HL.out.1 j
        have hlu := HL.out.2 j
        have hdl := (HK.out j hlt).2.1
        have hkl := (HK.out j hlt).1
        have hr3 := chReads_len acts[j].deeds
        have hw3 := chWrites_len acts[j].deeds
        go_wp2_with (first
          | (go_at_call 72; rw [← HOO.out]; refine (specChangeReads_calls acts[j].deeds _ _ _ _ hDo.bound (fun k hk => hk.2) (by omega)).mono ?_; rintro e w1 ⟨v1, rfl, hv1, hb1⟩; obtain ⟨A1, n1, rfl, _, hr1⟩ := OwnI.row hv1; have ho1 := HP.out.1.below hb1; have kk1 := Keep.of_belowAll (fun k => W2.heap.size ≤ k ∧ k ≠ w0.heap.size) hb1) | (at_builtin; refine wpList_app_ints rfl (.tmp 33) (.tmp 36) rfl rfl ho1.a _ _ rfl hr1 (fun k hk e => by have h1 := (hv1.blk k hk).1; have h2 := (HP.out.2.1.blk k e.symm).2; have := HZO.out; omega) (by omega) (by have := hb1.size; have := HZO.out; omega) ?_; intro v2 w2 ho2 hg2 hv2; obtain ⟨hp2, hk2⟩ := ho1.app hg2 ho2 hv2 ⟨by have := hb1.size; have := HZO.out; omega, by have := hb1.size; have := HZO.out; omega⟩; have kk2 := kk1.trans hk2; have d1 := (kk2.cell (p := ⟨w0.heap.size, 1, none⟩) (by have := HZO.out; simp; omega) (by simp)).trans o1; have hD2 := hDo.keep kk2 (fun k h1 _ h2 => by have := h1.2; have := h2.1; omega)) | (go_at_call 73; refine (specChangeWrites_calls acts[j].deeds _ _ _ _ hD2.bound (fun k hk => hk.2) (by omega)).mono ?_; rintro e w3 ⟨v3, rfl, hv3, hb3⟩; obtain ⟨A3, n3, rfl, _, hr3'⟩ := OwnI.row hv3; have ho3 := hp2.below hb3; have kk3 := kk2.trans (Keep.of_belowAll (fun k => W2.heap.size ≤ k ∧ k ≠ w0.heap.size) hb3)) | (at_builtin; refine wpList_app_ints rfl (.tmp 38) (.tmp 41) rfl rfl ho3.b _ _ rfl hr3' (fun k hk e => by have h1 := (hv3.blk k hk).1; have h2 := (hp2.b.blk k e.symm).2; omega) (by omega) (by have := hb3.size; have := kk2.size; have := HZO.out; omega) ?_; intro v4 w4 ho4 hg4 hv4; obtain ⟨hp4', hk4⟩ := ho3.symm.app hg4 ho4 hv4 ⟨by have := kk3.size; have := HZO.out; omega, by have := kk3.size; have := HZO.out; omega⟩; have hp4 := hp4'.symm; have kk4 := kk3.trans hk4; have d2 := (kk4.cell (p := ⟨w0.heap.size, 2, none⟩) (by have := HZO.out; simp; omega) (by simp)).trans o2))
        have HP4 := Lib.hid hp4
        have KK4 := Lib.hid kk4
        clear hg2 hg4 ho2 ho4 hv2 hv4 hp2 hp4 hp4' hk2 hk4 kk1 kk2 kk3 kk4 ho1 ho3 hb1 hb3 hv1 hv3 hr1 hr3' hD2 HP HOO d1
        go_loopw [6, 7, 10, 11, 12] (fun v u i _ _ wr => ∃ q : Nat, q ≤ acts[j].kids.length ∧ i = .int .i64 q ∧ Pair (fun k => W2.heap.size ≤ k ∧ k ≠ w0.heap.size) wr W2.heap.size v u (accTo chReads n p (acts.take j) ++ chReads acts[j].deeds ++ kidsTo chReads n p (acts[j].kids.take q)) (accTo chWrites n p (acts.take j) ++ chWrites acts[j].deeds ++ kidsTo chWrites n p (acts[j].kids.take q)) ∧ Keep (fun k => W2.heap.size ≤ k ∧ k ≠ w0.heap.size) wo wr) (fun _ _ i _ _ _ => acts[j].kids.length - (intOf i).toNat)
        case atStart => exact ⟨0, Nat.zero_le _, rfl, by simpa [kidsTo] using HP4.out, KK4.out⟩
        case round =>
          clear d2
          obtain ⟨q, hq, rfl, hp, hk⟩ := hrel
          have c0q := (hk.cell (p := ⟨w.heap.size, 0, none⟩) (by have := HZO.out; have := HZ.out; simp; omega) (by have := HZ.out; simp; omega)).trans c0o
          have c1q := (hk.cell (p := ⟨w.heap.size, 1, none⟩) (by have := HZO.out; have := HZ.out; simp; omega) (by have := HZ.out; simp; omega)).trans c1o
          have d2q := (hk.cell (p := ⟨w0.heap.size, 2, none⟩) (by have := HZO.out; simp; omega) (by simp)).trans o2
          by_cases hlq : q < acts[j].kids.length
          · obtain ⟨ad3, rfl, hl4, hck, hik⟩ := at_int (hEo.keep hk (fun k h1 _ h2 => by have := h1.2; have := h2.1; omega)) hlq
            have hkk := (HK.out j hlt).2.2 q hlq
            obtain ⟨z, hz⟩ : ∃ z : Nat, acts[j].kids[q] = (z : Int) := ⟨acts[j].kids[q].toNat, by omega⟩
            have HQ := Lib.hid hz
            rw [hz] at hck hkk
            have hbq : Below W2.heap.size W2 wr := (hbr.trans (hwo.mono hzr)).trans (hk.below (fun k h1 h2 => by have := h2.1; omega) (by have := HZO.out; omega))
            have hBq := hB2.belowAll hbq
            have hs1 := kidsTo_len chReads n p (acts[j].kids.take q)
            have hs2 := kidsTo_len chWrites n p (acts[j].kids.take q)
            rw [List.length_take, Nat.min_eq_left hq] at hs1 hs2
            have hs3 := setsOf_len chReads n p z
            have hs4 := setsOf_len chWrites n p z
            have hlL : (accTo chReads n p (acts.take j) ++ chReads acts[j].deeds ++ kidsTo chReads n p (acts[j].kids.take q)).length ≤ 100 := by simp only [List.length_append]; omega
            have hlR : (accTo chWrites n p (acts.take j) ++ chWrites acts[j].deeds ++ kidsTo chWrites n p (acts[j].kids.take q)).length ≤ 100 := by simp only [List.length_append]; omega
            have HLL := Lib.hid (And.intro hlL hlR)
            have hzq := hk.size
            clear hz hs1 hs2 hlL hlR
            go_wp2
            have hbw : Below wr.heap.size wr wr.drew := (Below.refl _ _).drew
            go_region_held3 (fun w' => w'.cell? ⟨w.heap.size, 0, none⟩ = some (.slice A p.cells.length ca) ∧ w'.cell? ⟨w.heap.size, 1, none⟩ = some (.slice (some ad) p.bodies.length cb) ∧ w'.cell? ⟨w0.heap.size, 2, none⟩ = some (.slice (some ad3) acts[j].kids.length ce) ∧ w'.cell? (ad3.add q) = some (.int .i64 (z : Int)) ∧ Below wr.heap.size wr w') (go_keep)
              (first | (go_at_call 44; refine (ih.out (by omega) z (by omega) (by omega) _ _ _ _ _ _ (Row.belowAll hBq ‹Below wr.heap.size wr _›)).mono ?_; rintro e w1 ⟨va, ua, rfl, hva, hua, hb1⟩; have q0 := below_then ‹Below wr.heap.size wr _› (Below.size ‹Below wr.heap.size wr _›) hb1; have q1 := (q0.cell (p := ⟨w.heap.size, 0, none⟩) (by have := HZ.out; have := HZO.out; simp; omega)).trans c0q; have q2 := (q0.cell (p := ⟨w.heap.size, 1, none⟩) (by have := HZ.out; have := HZO.out; simp; omega)).trans c1q; have q3 := (q0.cell (p := ⟨w0.heap.size, 2, none⟩) (by have := HZO.out; simp; omega)).trans d2q; have q4 := (q0.cell (p := ad3.add q) (by rw [block_add]; exact hl4)).trans hck))
            obtain ⟨_, _, _, _, hbx⟩ := ‹_ ∧ _ ∧ _ ∧ _ ∧ Below wr.heap.size wr w1›
            have HVA := Lib.hid (And.intro hva hua)
            obtain ⟨A5, c5, rfl, _, hr5⟩ := OwnI.row hva
            obtain ⟨A6, c6, rfl, _, hr6⟩ := OwnI.row hua
            have hp1 := hp.below hbx
            have kx := Keep.of_belowAll (fun k => W2.heap.size ≤ k ∧ k ≠ w0.heap.size) hbx
            have HPB := Lib.hid (And.intro hp.a hp.b)
            clear hva hua hp c0q c1q d2q hck hb1 hBq
            go_wp2_with (first
              | (at_builtin; refine wpList_app_ints rfl (.tmp 60) (.tmp 61) rfl rfl hp1.a _ _ rfl hr5 (fun k hk e => by have h1 := (HVA.out.1.blk k hk).1; have h2 := (HPB.out.1.blk k e.symm).2; simp at h1; omega) (by have := HLL.out.1; omega) (by have := hbx.size; have := HZO.out; omega) ?_; intro v7 w7 ho7 hg7 hv7; obtain ⟨hp7, hk7⟩ := hp1.app hg7 ho7 hv7 ⟨by have := hbx.size; have := HZO.out; omega, by have := hbx.size; have := HZO.out; omega⟩; have kk7 := kx.trans hk7; have hr7 := hr6.step (fun k h1 h2 => hg7.block k h2 (fun e => by have h1 := (HVA.out.2.blk k h1).1; have h2 := (HPB.out.1.blk k e.symm).2; simp at h1; omega))) | (at_builtin; refine wpList_app_ints rfl (.tmp 63) (.tmp 64) rfl rfl hp7.b _ _ rfl hr7 (fun k hk e => by have h1 := (HVA.out.2.blk k hk).1; have h2 := (HPB.out.2.blk k e.symm).2; simp at h1; omega) (by have := HLL.out.2; omega) (by have := kk7.size; have := HZO.out; omega) ?_; intro v8 w8 ho8 hg8 hv8; obtain ⟨hp8, hk8⟩ := hp7.symm.app hg8 ho8 hv8 ⟨by have := kk7.size; have := HZO.out; omega, by have := kk7.size; have := HZO.out; omega⟩; have kk8 := kk7.trans hk8))
            go_roundw
            case rel =>
              refine ⟨q + 1, by omega, by go_num, ?_, hk.trans kk8⟩
              rw [kidsTo_take _ _ _ _ _ hlq, kidsTo_take _ _ _ _ _ hlq, HQ.out, ← List.append_assoc, ← List.append_assoc]
              exact hp8.symm
            case measure => simp [intOf]; omega
          · obtain rfl : q = acts[j].kids.length := by omega
            go_wp2
            go_roundw
            case rel =>
              refine ⟨j + 1, by omega, by go_num, ?_, ?_⟩
              · rw [accTo_take _ _ _ _ _ hlt, accTo_take _ _ _ _ _ hlt]
                have := hp.mono (G' := fun k => W2.heap.size ≤ k) (fun k h1 _ => h1.1)
                rw [List.take_length, List.append_assoc, List.append_assoc] at this
                exact this
              · exact (hbr.trans (hwo.mono hzr)).trans (hk.below (fun k h1 h2 => by have := h2.1; omega) (by have := HZO.out; omega))
            case measure => simp [intOf]; omega
      · obtain rfl : j = acts.length := by omega
        rw [List.take_length] at ho
        have HEE := Lib.hid (And.intro (HE.out chReads) (HE.out chWrites))
        have hzb := hbr.size
        obtain ⟨A2, c2, rfl, hc2, hr2⟩ := OwnI.row ho.a
        obtain ⟨A3, c3, rfl, hc3, hr3⟩ := OwnI.row ho.b
        go_wp2_with (first
          | (go_at_call 74; refine (l2Sort_calls _ _ _ _ _ hr2 (fun k hk => (ho.a.blk k hk).2)).mono ?_; rintro e w1 ⟨v1, rfl, ho1, hb1⟩; have hr4 := hr3.belowAll hb1; have hok := hb1.size; clear hr2) | (go_at_call 74; refine (l2Sort_calls _ _ _ _ _ hr4 (fun k hk => by have := (ho.b.blk k hk).2; omega)).mono ?_; rintro e w2 ⟨v2, rfl, ho2, hb2'⟩))
        go_ret2
        have HZZ := HZ.out
        refine ⟨_, _, rfl, ?_, ?_, ?_⟩
        · rw [HEE.out.1]; exact (ho1.belowAll hb2').lower (by omega)
        · rw [HEE.out.2]; exact ho2.lower (by omega)
        · exact hb2.trans (((hbr.trans (hb1.mono hzb)).trans (hb2'.mono (by omega))).mono (by omega))
end Go.Proofs.Ytcpabkfoalhldaa
namespace Go.Proofs.Ytcpabkfoalhldaa
open Go.RowKit
set_option linter.unusedVariables false
set_option linter.unusedSimpArgs false

def kidT (f : List Deed → List Int) (n : Nat) (p : Prog) (kids : List Int) : List Int := kids.flatMap fun k => touch f n p k.toNat
def accT (f : List Deed → List Int) (n : Nat) (p : Prog) (acts : List Act) : List Int := acts.flatMap fun a => f a.deeds ++ kidT f n p a.kids
theorem accT_take (f : List Deed → List Int) (n : Nat) (p : Prog) (acts : List Act) (k : Nat) (h : k < acts.length) : accT f n p (acts.take (k + 1)) = accT f n p (acts.take k) ++ (f acts[k].deeds ++ kidT f n p acts[k].kids) := by
  unfold accT
  rw [List.take_succ_eq_append_getElem h, List.flatMap_append]
  simp
theorem kidT_take (f : List Deed → List Int) (n : Nat) (p : Prog) (kids : List Int) (k : Nat) (h : k < kids.length) : kidT f n p (kids.take (k + 1)) = kidT f n p (kids.take k) ++ touch f n p kids[k].toNat := by
  unfold kidT
  rw [List.take_succ_eq_append_getElem h, List.flatMap_append]
  simp
theorem accT_le (f : List Deed → List Int) (n : Nat) (p : Prog) (acts : List Act) (k : Nat) (h : k < acts.length) : (accT f n p (acts.take k)).length + ((f acts[k].deeds).length + (kidT f n p acts[k].kids).length) ≤ (accT f n p acts).length := by
  have e : accT f n p acts = accT f n p (acts.take (k + 1)) ++ accT f n p (acts.drop (k + 1)) := by
    unfold accT; rw [← List.flatMap_append, List.take_append_drop]
  rw [e, accT_take _ _ _ _ _ h]
  simp only [List.length_append]; omega
theorem kidT_le (f : List Deed → List Int) (n : Nat) (p : Prog) (kids : List Int) (k : Nat) (h : k < kids.length) : (kidT f n p (kids.take k)).length + (touch f n p kids[k].toNat).length ≤ (kidT f n p kids).length := by
  have e : kidT f n p kids = kidT f n p (kids.take (k + 1)) ++ kidT f n p (kids.drop (k + 1)) := by
    unfold kidT; rw [← List.flatMap_append, List.take_append_drop]
  rw [e, kidT_take _ _ _ _ _ h]
  simp only [List.length_append]; omega
theorem touch_eq (f : List Deed → List Int) (n : Nat) (p : Prog) (b : Nat) (hb : b < p.bodies.length) : touch f (n + 1) p b = accT f n p p.bodies[b] := by
  rw [touch, getD_at _ _ _ hb]; rfl
theorem deedOk_cells {d : Deed} {c : Int} (h : deedOk d c = true) (hc : c ≤ 3) : (d.kind = 1 → 0 ≤ d.b ∧ d.b ≤ 2) ∧ (d.kind = 2 → 0 ≤ d.a ∧ d.a ≤ 2) := by
  rcases deedOk_kinds h with h | h | h | h | h <;> exact ⟨fun e => by omega, fun e => by omega⟩
theorem actOk_cells {a : Act} {c b n : Int} (h : actOk a c b n = true) (hc : c ≤ 3) : cellsIn a.deeds := by
  unfold actOk at h
  split at h
  · simp only [Bool.and_eq_true, List.all_eq_true] at h
    exact fun d hd => deedOk_cells (h.1.2 d hd) hc
  · split at h
    · simp at h; rw [h.1.1]; intro d hd; simp at hd
    · split at h
      · simp at h; rw [h.1.1]; intro d hd; simp at hd
      · split at h
        · simp at h; rw [h.1.1]; intro d hd; simp at hd
        · simp at h
theorem formOk_cells {p : Prog} (h : formOk p = true) {b : Nat} (hb : b < p.bodies.length) : ∀ a ∈ p.bodies[b], cellsIn a.deeds := by
  have := formOk_body h hb
  have hl := formOk_len h
  simp only [bodyOk, Bool.and_eq_true, decide_eq_true_eq, List.all_eq_true] at this
  exact fun a ha => actOk_cells (this.2 a ha) (by omega)

set_option maxHeartbeats 8000000 in
set_option maxRecDepth 100000 in
theorem intoReads_calls (p : Prog) (hf : formOk p = true) : ∀ (n : Nat) (hn : n ≤ 4) (b : Nat) (hb : b < p.bodies.length) (hbd : p.bodies.length ≤ b + n) (A B : Option Addr) (ca cb : Nat) (w : World) (S : Nat → Prop) (hB : Row (Kd.slice kAct) w S B p.bodies) (bm : Nat) (hSb : ∀ k, S k → k ≠ bm) (cs : List Int) (hcm : CntMap w bm cs) (hcl : cs.length + (touch chReads n p b).length ≤ 1000000),
    Calls Try.prog 69 #[.agg #[.slice A p.cells.length ca, .slice B p.bodies.length cb], .int .i64 (b : Nat), .func (.func 21) #[] #[], .map (some bm)] w fun e w' => e = .returned (.tuple #[]) ∧ CntMap w' bm (cs ++ touch chReads n p b) ∧ Keep (fun k => k = bm) w w' := by
  intro n
  induction n with
  | zero => intro _ b hb hbd; omega
  | succ n ih0 =>
    intro hn b hb hbd A B ca cb w S hB bm hSb cs hcm hcl
    have ih := Lib.hid ih0
    clear ih0
    have hacts := formOk_acts hf hb
    have hend := touch_eq chReads n p b hb
    rw [hend] at hcl ⊢
    obtain ⟨acts, HA⟩ : ∃ acts, acts = p.bodies[b] := ⟨_, rfl⟩
    rw [← HA] at hcl ⊢
    have hal : acts.length ≤ 4 := by rw [HA]; exact hacts.1
    have hlen := formOk_len hf
    have hkid : ∀ (i : Nat) (hi : i < acts.length), acts[i].kids.length ≤ 2 ∧ cellsIn acts[i].deeds ∧ ∀ (k : Nat) (hk : k < acts[i].kids.length), (b : Int) + 1 ≤ acts[i].kids[k] ∧ acts[i].kids[k] ≤ (p.bodies.length : Int) - 1 := by
      subst HA
      intro i hi
      have := hacts.2 _ (List.getElem_mem hi)
      exact ⟨this.1, formOk_cells hf hb _ (List.getElem_mem hi), fun k hk => this.2 _ (List.getElem_mem hk)⟩
    have HK := Lib.hid hkid
    have hslot : Hid (p.bodies[b] = acts) := HA.symm
    have hm2 := hB.1
    obtain ⟨ad, C, cc, rfl, hl, hc, hcl0, hC0⟩ := at_slice hB hb
    rw [← HA] at hc hcl0 hC0
    clear hacts hend hkid HA
    have hma := hC0.1
    have hbl := hcm.lt
    obtain ⟨W2, HW⟩ : ∃ W2, W2 = w.alloc (Obj.cells #[.slice A p.cells.length ca, .slice (some ad) p.bodies.length cb] 26) := ⟨_, rfl⟩
    have hb2 : Below w.heap.size w W2 := by rw [HW]; exact bal' _ _
    have hz2 : W2.heap.size = w.heap.size + 1 := by rw [HW]; simp
    have c0 : W2.cell? ⟨w.heap.size, 0, none⟩ = some (.slice A p.cells.length ca) := by rw [HW]; simp [go_sem]
    have c1 : W2.cell? ⟨w.heap.size, 1, none⟩ = some (.slice (some ad) p.bodies.length cb) := by rw [HW]; simp [go_sem]
    have hB2 := hB.belowAll hb2
    have hC2 := hC0.belowAll hb2
    have hcm2 := hcm.below hb2
    have hcw : ∀ o, (w.alloc o).cell? (ad.add b) = some (.slice C acts.length cc) := fun o => by rw [World.cell?_alloc_lt _ _ _ (by rw [block_add]; exact hl)]; exact hc
    have HZ := Lib.hid hz2
    have HW' := Lib.hid HW
    have HCL := Lib.hid hcl
    clear hz2 hB hC0 HW hcm hcl
    go_enter Try.func69, Try.ntmps69
    go_wp2
    rw [← HW'.out]
    go_loopw [20] (fun i wr => ∃ j : Nat, j ≤ acts.length ∧ i = .int .i64 j ∧ CntMap wr bm (cs ++ accT chReads n p (acts.take j)) ∧ Keep (fun k => k = bm) W2 wr) (fun i _ => acts.length - (intOf i).toNat)
    case atStart => exact ⟨0, Nat.zero_le _, rfl, by simpa [accT] using hcm2, Keep.refl _ _⟩
    case round =>
      obtain ⟨j, hj, rfl, hm, hk0⟩ := hrel
      clear HW' hc hcm2 hcw
      by_cases hlt : j < acts.length
      · obtain ⟨w0, rfl⟩ : ∃ w0 : World, w0 = wr := ⟨_, rfl⟩
        obtain ⟨ad2, D, cd, E, ce, rfl, hl3, k0, k1, k2, k3, hcd, hce, hD, hE, hi1, hi2⟩ := at_act (hC2.keep hk0 (fun k h1 _ h2 => hSb k h1 h2)) hlt
        have hme := hE.1
        have hmd := hD.1
        have hzr := hk0.size
        obtain ⟨wo, HO⟩ : ∃ wo, wo = w0.alloc (Obj.cells #[.int .i64 acts[j].kind, .slice D acts[j].deeds.length cd, .slice E acts[j].kids.length ce, .int .i64 acts[j].reg] 35) := ⟨_, rfl⟩
        have hwo : Below w0.heap.size w0 wo := by rw [HO]; exact bal' _ _
        have hzo : wo.heap.size = w0.heap.size + 1 := by rw [HO]; simp
        have o2 : wo.cell? ⟨w0.heap.size, 2, none⟩ = some (.slice E acts[j].kids.length ce) := by rw [HO]; simp [go_sem]
        have hDo := hD.belowAll hwo
        have hEo := hE.belowAll hwo
        have hkO : Keep (fun k => k = bm) W2 wo := hk0.trans (Keep.of_belowAll _ hwo)
        have hmo := hm.below hwo
        have hle := accT_le chReads n p acts j hlt
        have HLE := Lib.hid hle
        have hr3 := chReads_len acts[j].deeds
        have HZO := Lib.hid hzo
        have HOO := Lib.hid HO
        clear HO hzo hD hE hm hle
        go_wp2_with (go_at_call 21; rw [← HOO.out]; refine (implChangeReads_calls acts[j].deeds _ _ _ _ hDo (HK.out j hlt).2.1).mono ?_; rintro e w1 ⟨v1, rfl, hv1, hb1⟩; obtain ⟨A1, n1, rfl, _, hr1⟩ := OwnI.row hv1; have hm1 := hmo.below hb1; have hk1 := hkO.trans (Keep.of_belowAll (fun k => k = bm) hb1); have hE1 := hEo.belowAll hb1; have d2 := (hb1.cell (p := ⟨w0.heap.size, 2, none⟩) (by have := HZO.out; simp; omega)).trans o2)
        have HV1 := Lib.hid hv1
        have hz1 := hb1.size
        clear HOO hmo hDo hEo o2 hv1
        have hml := hr1.1
        go_loopw [29] (fun i wr => ∃ q : Nat, q ≤ (chReads acts[j].deeds).length ∧ i = .int .i64 q ∧ CntMap wr bm (cs ++ accT chReads n p (acts.take j) ++ (chReads acts[j].deeds).take q) ∧ Keep (fun k => k = bm) w1 wr) (fun i _ => (chReads acts[j].deeds).length - (intOf i).toNat)
        case atStart => exact ⟨0, Nat.zero_le _, rfl, by simpa using hm1, Keep.refl _ _⟩
        case round =>
          obtain ⟨q, hq, rfl, hmq, hkq⟩ := hrel
          clear hm1
          by_cases hlq : q < (chReads acts[j].deeds).length
          · obtain ⟨ad3, rfl, hl4, hck, hik⟩ := at_int (hr1.keep hkq (fun k h1 _ h2 => by have := (HV1.out.blk k h1).1; have := HZO.out; have := HZ.out; omega)) hlq
            obtain ⟨L, HL⟩ : ∃ L, L = cs ++ accT chReads n p (acts.take j) ++ (chReads acts[j].deeds).take q := ⟨_, rfl⟩
            have hLl : L.length ≤ 1000000 := by rw [HL]; simp only [List.length_append, List.length_take]; have := HLE.out; have := HCL.out; omega
            rw [← HL] at hmq
            have hcn : List.count (chReads acts[j].deeds)[q] L ≤ L.length := List.count_le_length
            have HLH := Lib.hid HL
            clear HL
            have hisI : isI (chReads acts[j].deeds)[q] := hik
            go_wp2_with (first
              | (at_lookup; refine wpList_cnt_look rfl (.tmp 33) (.tmp 34) rfl rfl hmq _ rfl hisI ?_) | (at_mapUpdate; refine wpList_cnt_put rfl (.tmp 33) (.tmp 34) (.tmp 36) rfl rfl hmq _ rfl hisI rfl hLl ?_; intro w5 hm5 hk5))
            go_roundw
            case rel => exact ⟨q + 1, by omega, by go_num, by rw [List.take_succ_eq_append_getElem hlq, ← List.append_assoc, ← HLH.out]; exact hm5, hkq.trans hk5⟩
            case measure => simp [intOf]; omega
          · obtain rfl : q = (chReads acts[j].deeds).length := by omega
            rw [List.take_length] at hmq
            have d2q := (hkq.cell (p := ⟨w0.heap.size, 2, none⟩) (by have := HZO.out; simp; omega) (by simp; have := HZ.out; omega)).trans d2
            have HMQ := Lib.hid hmq
            have HKQ := Lib.hid (hk1.trans hkq)
            clear hmq d2
            obtain ⟨w3, HW3⟩ : ∃ w3 : World, w3 = wr := ⟨_, rfl⟩
            have HKE := Lib.hid (hE1.keep hkq (fun k h1 _ h2 => hSb k h1 h2))
            rw [← HW3] at HMQ HKQ HKE d2q ⊢
            clear hkq hE1 HW3
            go_wp2
            go_loopw [41] (fun i wr => ∃ q : Nat, q ≤ acts[j].kids.length ∧ i = .int .i64 q ∧ CntMap wr bm (cs ++ accT chReads n p (acts.take j) ++ chReads acts[j].deeds ++ kidT chReads n p (acts[j].kids.take q)) ∧ Keep (fun k => k = bm) w3 wr) (fun i _ => acts[j].kids.length - (intOf i).toNat)
            case atStart => exact ⟨0, Nat.zero_le _, rfl, by simpa [kidT] using HMQ.out, Keep.refl _ _⟩
            case round =>
              obtain ⟨q, hq, rfl, hmq, hkq⟩ := hrel
              clear d2q
              by_cases hlq : q < acts[j].kids.length
              · obtain ⟨ad3, rfl, hl4, hck, hik⟩ := at_int (HKE.out.keep hkq (fun k h1 _ h2 => hSb k h1 h2)) hlq
                have hkk := (HK.out j hlt).2.2 q hlq
                have hle2 := kidT_le chReads n p acts[j].kids q hlq
                obtain ⟨z, hz⟩ : ∃ z : Nat, acts[j].kids[q] = (z : Int) := ⟨acts[j].kids[q].toNat, by omega⟩
                have HQ := Lib.hid hz
                rw [hz] at hck hkk hle2
                simp only [Int.toNat_natCast] at hle2
                have hkw := HKQ.out.trans hkq
                have c0q := (hkw.cell (p := ⟨w.heap.size, 0, none⟩) (by have := HZ.out; simp; omega) (by simp; omega)).trans c0
                have c1q := (hkw.cell (p := ⟨w.heap.size, 1, none⟩) (by have := HZ.out; simp; omega) (by simp; omega)).trans c1
                have hBq := hB2.keep hkw (fun k h1 _ h2 => hSb k h1 h2)
                have hlL : (cs ++ accT chReads n p (acts.take j) ++ chReads acts[j].deeds ++ kidT chReads n p (acts[j].kids.take q)).length + (touch chReads n p z).length ≤ 1000000 := by simp only [List.length_append]; have := HLE.out; have := HCL.out; omega
                have HLL := Lib.hid hlL
                clear hz hle2 hlL
                go_wp2_with (go_at_call 69; refine (ih.out (by omega) z (by omega) (by omega) _ _ _ _ _ S hBq bm hSb _ hmq HLL.out).mono ?_; rintro e w5 ⟨rfl, hm5, hk5⟩)
                go_roundw
                case rel => exact ⟨q + 1, by omega, by go_num, by rw [kidT_take _ _ _ _ _ hlq, HQ.out, ← List.append_assoc]; exact hm5, hkq.trans hk5⟩
                case measure => simp [intOf]; omega
              · obtain rfl : q = acts[j].kids.length := by omega
                rw [List.take_length] at hmq
                go_wp2
                go_roundw
                case rel => exact ⟨j + 1, by omega, by go_num, by rw [accT_take _ _ _ _ _ hlt, ← List.append_assoc, ← List.append_assoc]; exact hmq, HKQ.out.trans hkq⟩
                case measure => simp [intOf]; omega
      · obtain rfl : j = acts.length := by omega
        rw [List.take_length] at hm
        go_wp2
        go_end0
        exact ⟨rfl, hm, (Keep.of_belowAll (fun k => k = bm) hb2).trans hk0⟩

set_option maxHeartbeats 8000000 in
set_option maxRecDepth 100000 in
theorem intoWrites_calls (p : Prog) (hf : formOk p = true) : ∀ (n : Nat) (hn : n ≤ 4) (b : Nat) (hb : b < p.bodies.length) (hbd : p.bodies.length ≤ b + n) (A B : Option Addr) (ca cb : Nat) (w : World) (S : Nat → Prop) (hB : Row (Kd.slice kAct) w S B p.bodies) (bm : Nat) (hSb : ∀ k, S k → k ≠ bm) (cs : List Int) (hcm : CntMap w bm cs) (hcl : cs.length + (touch chWrites n p b).length ≤ 1000000),
    Calls Try.prog 69 #[.agg #[.slice A p.cells.length ca, .slice B p.bodies.length cb], .int .i64 (b : Nat), .func (.func 16) #[] #[], .map (some bm)] w fun e w' => e = .returned (.tuple #[]) ∧ CntMap w' bm (cs ++ touch chWrites n p b) ∧ Keep (fun k => k = bm) w w' := by
  intro n
  induction n with
  | zero => intro _ b hb hbd; omega
  | succ n ih0 =>
    intro hn b hb hbd A B ca cb w S hB bm hSb cs hcm hcl
    have ih := Lib.hid ih0
    clear ih0
    have hacts := formOk_acts hf hb
    have hend := touch_eq chWrites n p b hb
    rw [hend] at hcl ⊢
    obtain ⟨acts, HA⟩ : ∃ acts, acts = p.bodies[b] := ⟨_, rfl⟩
    rw [← HA] at hcl ⊢
    have hal : acts.length ≤ 4 := by rw [HA]; exact hacts.1
    have hlen := formOk_len hf
    have hkid : ∀ (i : Nat) (hi : i < acts.length), acts[i].kids.length ≤ 2 ∧ cellsIn acts[i].deeds ∧ ∀ (k : Nat) (hk : k < acts[i].kids.length), (b : Int) + 1 ≤ acts[i].kids[k] ∧ acts[i].kids[k] ≤ (p.bodies.length : Int) - 1 := by
      subst HA
      intro i hi
      have := hacts.2 _ (List.getElem_mem hi)
      exact ⟨this.1, formOk_cells hf hb _ (List.getElem_mem hi), fun k hk => this.2 _ (List.getElem_mem hk)⟩
    have HK := Lib.hid hkid
    have hslot : Hid (p.bodies[b] = acts) := HA.symm
    have hm2 := hB.1
    obtain ⟨ad, C, cc, rfl, hl, hc, hcl0, hC0⟩ := at_slice hB hb
    rw [← HA] at hc hcl0 hC0
    clear hacts hend hkid HA
    have hma := hC0.1
    have hbl := hcm.lt
    obtain ⟨W2, HW⟩ : ∃ W2, W2 = w.alloc (Obj.cells #[.slice A p.cells.length ca, .slice (some ad) p.bodies.length cb] 26) := ⟨_, rfl⟩
    have hb2 : Below w.heap.size w W2 := by rw [HW]; exact bal' _ _
    have hz2 : W2.heap.size = w.heap.size + 1 := by rw [HW]; simp
    have c0 : W2.cell? ⟨w.heap.size, 0, none⟩ = some (.slice A p.cells.length ca) := by rw [HW]; simp [go_sem]
    have c1 : W2.cell? ⟨w.heap.size, 1, none⟩ = some (.slice (some ad) p.bodies.length cb) := by rw [HW]; simp [go_sem]
    have hB2 := hB.belowAll hb2
    have hC2 := hC0.belowAll hb2
    have hcm2 := hcm.below hb2
    have hcw : ∀ o, (w.alloc o).cell? (ad.add b) = some (.slice C acts.length cc) := fun o => by rw [World.cell?_alloc_lt _ _ _ (by rw [block_add]; exact hl)]; exact hc
    have HZ := Lib.hid hz2
    have HW' := Lib.hid HW
    have HCL := Lib.hid hcl
    clear hz2 hB hC0 HW hcm hcl
    go_enter Try.func69, Try.ntmps69
    go_wp2
    rw [← HW'.out]
    go_loopw [20] (fun i wr => ∃ j : Nat, j ≤ acts.length ∧ i = .int .i64 j ∧ CntMap wr bm (cs ++ accT chWrites n p (acts.take j)) ∧ Keep (fun k => k = bm) W2 wr) (fun i _ => acts.length - (intOf i).toNat)
    case atStart => exact ⟨0, Nat.zero_le _, rfl, by simpa [accT] using hcm2, Keep.refl _ _⟩
    case round =>
      obtain ⟨j, hj, rfl, hm, hk0⟩ := hrel
      clear HW' hc hcm2 hcw
      by_cases hlt : j < acts.length
      · obtain ⟨w0, rfl⟩ : ∃ w0 : World, w0 = wr := ⟨_, rfl⟩
        obtain ⟨ad2, D, cd, E, ce, rfl, hl3, k0, k1, k2, k3, hcd, hce, hD, hE, hi1, hi2⟩ := at_act (hC2.keep hk0 (fun k h1 _ h2 => hSb k h1 h2)) hlt
        have hme := hE.1
        have hmd := hD.1
        have hzr := hk0.size
        obtain ⟨wo, HO⟩ : ∃ wo, wo = w0.alloc (Obj.cells #[.int .i64 acts[j].kind, .slice D acts[j].deeds.length cd, .slice E acts[j].kids.length ce, .int .i64 acts[j].reg] 35) := ⟨_, rfl⟩
        have hwo : Below w0.heap.size w0 wo := by rw [HO]; exact bal' _ _
        have hzo : wo.heap.size = w0.heap.size + 1 := by rw [HO]; simp
        have o2 : wo.cell? ⟨w0.heap.size, 2, none⟩ = some (.slice E acts[j].kids.length ce) := by rw [HO]; simp [go_sem]
        have hDo := hD.belowAll hwo
        have hEo := hE.belowAll hwo
        have hkO : Keep (fun k => k = bm) W2 wo := hk0.trans (Keep.of_belowAll _ hwo)
        have hmo := hm.below hwo
        have hle := accT_le chWrites n p acts j hlt
        have HLE := Lib.hid hle
        have hr3 := chWrites_len acts[j].deeds
        have HZO := Lib.hid hzo
        have HOO := Lib.hid HO
        clear HO hzo hD hE hm hle
        go_wp2_with (go_at_call 16; rw [← HOO.out]; refine (implChangeWrites_calls acts[j].deeds _ _ _ _ hDo (HK.out j hlt).2.1).mono ?_; rintro e w1 ⟨v1, rfl, hv1, hb1⟩; obtain ⟨A1, n1, rfl, _, hr1⟩ := OwnI.row hv1; have hm1 := hmo.below hb1; have hk1 := hkO.trans (Keep.of_belowAll (fun k => k = bm) hb1); have hE1 := hEo.belowAll hb1; have d2 := (hb1.cell (p := ⟨w0.heap.size, 2, none⟩) (by have := HZO.out; simp; omega)).trans o2)
        have HV1 := Lib.hid hv1
        have hz1 := hb1.size
        clear HOO hmo hDo hEo o2 hv1
        have hml := hr1.1
        go_loopw [29] (fun i wr => ∃ q : Nat, q ≤ (chWrites acts[j].deeds).length ∧ i = .int .i64 q ∧ CntMap wr bm (cs ++ accT chWrites n p (acts.take j) ++ (chWrites acts[j].deeds).take q) ∧ Keep (fun k => k = bm) w1 wr) (fun i _ => (chWrites acts[j].deeds).length - (intOf i).toNat)
        case atStart => exact ⟨0, Nat.zero_le _, rfl, by simpa using hm1, Keep.refl _ _⟩
        case round =>
          obtain ⟨q, hq, rfl, hmq, hkq⟩ := hrel
          clear hm1
          by_cases hlq : q < (chWrites acts[j].deeds).length
          · obtain ⟨ad3, rfl, hl4, hck, hik⟩ := at_int (hr1.keep hkq (fun k h1 _ h2 => by have := (HV1.out.blk k h1).1; have := HZO.out; have := HZ.out; omega)) hlq
            obtain ⟨L, HL⟩ : ∃ L, L = cs ++ accT chWrites n p (acts.take j) ++ (chWrites acts[j].deeds).take q := ⟨_, rfl⟩
            have hLl : L.length ≤ 1000000 := by rw [HL]; simp only [List.length_append, List.length_take]; have := HLE.out; have := HCL.out; omega
            rw [← HL] at hmq
            have hcn : List.count (chWrites acts[j].deeds)[q] L ≤ L.length := List.count_le_length
            have HLH := Lib.hid HL
            clear HL
            have hisI : isI (chWrites acts[j].deeds)[q] := hik
            go_wp2_with (first
              | (at_lookup; refine wpList_cnt_look rfl (.tmp 33) (.tmp 34) rfl rfl hmq _ rfl hisI ?_) | (at_mapUpdate; refine wpList_cnt_put rfl (.tmp 33) (.tmp 34) (.tmp 36) rfl rfl hmq _ rfl hisI rfl hLl ?_; intro w5 hm5 hk5))
            go_roundw
            case rel => exact ⟨q + 1, by omega, by go_num, by rw [List.take_succ_eq_append_getElem hlq, ← List.append_assoc, ← HLH.out]; exact hm5, hkq.trans hk5⟩
            case measure => simp [intOf]; omega
          · obtain rfl : q = (chWrites acts[j].deeds).length := by omega
            rw [List.take_length] at hmq
            have d2q := (hkq.cell (p := ⟨w0.heap.size, 2, none⟩) (by have := HZO.out; simp; omega) (by simp; have := HZ.out; omega)).trans d2
            have HMQ := Lib.hid hmq
            have HKQ := Lib.hid (hk1.trans hkq)
            clear hmq d2
            obtain ⟨w3, HW3⟩ : ∃ w3 : World, w3 = wr := ⟨_, rfl⟩
            have HKE := Lib.hid (hE1.keep hkq (fun k h1 _ h2 => hSb k h1 h2))
            rw [← HW3] at HMQ HKQ HKE d2q ⊢
            clear hkq hE1 HW3
            go_wp2
            go_loopw [41] (fun i wr => ∃ q : Nat, q ≤ acts[j].kids.length ∧ i = .int .i64 q ∧ CntMap wr bm (cs ++ accT chWrites n p (acts.take j) ++ chWrites acts[j].deeds ++ kidT chWrites n p (acts[j].kids.take q)) ∧ Keep (fun k => k = bm) w3 wr) (fun i _ => acts[j].kids.length - (intOf i).toNat)
            case atStart => exact ⟨0, Nat.zero_le _, rfl, by simpa [kidT] using HMQ.out, Keep.refl _ _⟩
            case round =>
              obtain ⟨q, hq, rfl, hmq, hkq⟩ := hrel
              clear d2q
              by_cases hlq : q < acts[j].kids.length
              · obtain ⟨ad3, rfl, hl4, hck, hik⟩ := at_int (HKE.out.keep hkq (fun k h1 _ h2 => hSb k h1 h2)) hlq
                have hkk := (HK.out j hlt).2.2 q hlq
                have hle2 := kidT_le chWrites n p acts[j].kids q hlq
                obtain ⟨z, hz⟩ : ∃ z : Nat, acts[j].kids[q] = (z : Int) := ⟨acts[j].kids[q].toNat, by omega⟩
                have HQ := Lib.hid hz
                rw [hz] at hck hkk hle2
                simp only [Int.toNat_natCast] at hle2
                have hkw := HKQ.out.trans hkq
                have c0q := (hkw.cell (p := ⟨w.heap.size, 0, none⟩) (by have := HZ.out; simp; omega) (by simp; omega)).trans c0
                have c1q := (hkw.cell (p := ⟨w.heap.size, 1, none⟩) (by have := HZ.out; simp; omega) (by simp; omega)).trans c1
                have hBq := hB2.keep hkw (fun k h1 _ h2 => hSb k h1 h2)
                have hlL : (cs ++ accT chWrites n p (acts.take j) ++ chWrites acts[j].deeds ++ kidT chWrites n p (acts[j].kids.take q)).length + (touch chWrites n p z).length ≤ 1000000 := by simp only [List.length_append]; have := HLE.out; have := HCL.out; omega
                have HLL := Lib.hid hlL
                clear hz hle2 hlL
                go_wp2_with (go_at_call 69; refine (ih.out (by omega) z (by omega) (by omega) _ _ _ _ _ S hBq bm hSb _ hmq HLL.out).mono ?_; rintro e w5 ⟨rfl, hm5, hk5⟩)
                go_roundw
                case rel => exact ⟨q + 1, by omega, by go_num, by rw [kidT_take _ _ _ _ _ hlq, HQ.out, ← List.append_assoc]; exact hm5, hkq.trans hk5⟩
                case measure => simp [intOf]; omega
              · obtain rfl : q = acts[j].kids.length := by omega
                rw [List.take_length] at hmq
                go_wp2
                go_roundw
                case rel => exact ⟨j + 1, by omega, by go_num, by rw [accT_take _ _ _ _ _ hlt, ← List.append_assoc, ← List.append_assoc]; exact hmq, HKQ.out.trans hkq⟩
                case measure => simp [intOf]; omega
      · obtain rfl : j = acts.length := by omega
        rw [List.take_length] at hm
        go_wp2
        go_end0
        exact ⟨rfl, hm, (Keep.of_belowAll (fun k => k = bm) hb2).trans hk0⟩
end Go.Proofs.Ytcpabkfoalhldaa
