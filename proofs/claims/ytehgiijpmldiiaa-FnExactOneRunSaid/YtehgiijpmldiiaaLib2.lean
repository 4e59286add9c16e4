/- append, for rows of any kind: onto a row of the call's own, from a row that is read. -/
import Derived.Test.YtehgiijpmldiiaaLib
import Derived.RegionTactic
namespace Go.Proofs.Ytehgiijpmldiiaa
open Go.RowKit
set_option linter.unusedSimpArgs false
set_option linter.unusedVariables false

theorem own_intro {α : Type} {d : Kd α} {e : Nat} {w : World} {base : Nat} {S : Nat → Prop} {v : Value} {xs : List α} (css : List (List Value)) (h : w.ownsRow base e d.sz v xs.length css.flatten) (hl : css.length = xs.length)
    (hS : ∀ k, v.ownBlock = some k → S k) (hk : ∀ (j : Nat) (x : α), xs[j]? = some x → ∃ c, css[j]? = some c ∧ d.K w (fun k => S k ∧ some k ≠ v.ownBlock) x c) : Own d e w base S v xs := ⟨css, h, hl, hS, hk⟩

/-- The cells of a row that is read. -/
theorem Row.cells {α : Type} {d : Kd α} {w : World} {S : Nat → Prop} {A : Option Addr} {xs : List α} (h : Row d w S A xs) :
    ∃ css : List (List Value), css.length = xs.length ∧ (∀ c ∈ css, c.length = d.sz) ∧ (∀ (j : Nat) (x : α), xs[j]? = some x → ∃ c, css[j]? = some c ∧ d.K w S x c) ∧
      (xs ≠ [] → ∃ ad, A = some ad ∧ S ad.block ∧ ad.block < w.heap.size ∧ ∀ j u, css.flatten[j]? = some u → w.cell? (ad.add j) = some u) := by
  by_cases hn : xs = []
  · subst hn
    exact ⟨[], rfl, by simp, by simp, fun h => absurd rfl h⟩
  · obtain ⟨ad, e, hb, hl, hc⟩ := h.2 hn
    have hall : ∀ j : Fin xs.length, ∃ c, d.K w S xs[j] c ∧ ∀ i u, c[i]? = some u → w.cell? (ad.add (j * d.sz + i)) = some u := fun j => hc j _ (List.getElem?_eq_getElem j.2)
    have hch := fun j => Classical.choose_spec (hall j)
    refine ⟨List.ofFn fun j => Classical.choose (hall j), by simp, ?_, ?_, fun _ => ⟨ad, e, hb, hl, ?_⟩⟩
    · intro c hc
      obtain ⟨j, rfl⟩ := (List.mem_ofFn).1 hc
      exact d.len (hch j).1
    · intro j x hj
      have hjl : j < xs.length := (List.getElem?_eq_some_iff.1 hj).1
      have hx : xs[j] = x := (List.getElem?_eq_some_iff.1 hj).2
      subst hx
      exact ⟨_, by rw [List.getElem?_ofFn]; simp [hjl], (hch ⟨j, hjl⟩).1⟩
    · intro j u hu
      -- cell j of the whole is cell j % sz of element j / sz
      have key : ∀ (l : List (List Value)) (off : Nat), (∀ c ∈ l, c.length = d.sz) → (∀ (i : Nat) (c : List Value), l[i]? = some c → ∀ q v, c[q]? = some v → w.cell? (ad.add ((off + i) * d.sz + q)) = some v) →
          ∀ j u, l.flatten[j]? = some u → w.cell? (ad.add (off * d.sz + j)) = some u := by
        intro l
        induction l with
        | nil => intro off _ _ j u h; simp at h
        | cons a r ih =>
          intro off h1 h2 j u hj
          have ha := h1 a (List.mem_cons_self ..)
          rw [List.flatten_cons] at hj
          rcases Nat.lt_or_ge j a.length with hlt | hge
          · rw [List.getElem?_append_left hlt] at hj
            have := h2 0 a rfl j u hj
            simpa using this
          · rw [List.getElem?_append_right hge] at hj
            have := ih (off + 1) (fun c hc => h1 c (List.mem_cons_of_mem _ hc)) (fun i c hi q v hq => by
              have := h2 (i + 1) c (by simpa using hi) q v hq
              rwa [show off + (i + 1) = off + 1 + i from by omega] at this) (j - a.length) u hj
            rw [Nat.add_mul, Nat.one_mul] at this
            rwa [show off * d.sz + d.sz + (j - a.length) = off * d.sz + j from by omega] at this
      have := key (List.ofFn fun j => Classical.choose (hall j)) 0 (by
        intro c hc
        obtain ⟨j, rfl⟩ := (List.mem_ofFn).1 hc
        exact d.len (hch j).1) (by
        intro i c hi q v hq
        have hil : i < xs.length := by
          have := (List.getElem?_eq_some_iff.1 hi).1
          simpa using this
        rw [List.getElem?_ofFn] at hi
        simp [hil] at hi
        subst hi
        have := (hch ⟨i, hil⟩).2 q v hq
        simpa using this) j u hu
      simpa using this

section
variable {P : Program} {α : Type} {d : Kd α} {e : Nat} {w : World} {base : Nat} {S S2 : Nat → Prop} {v : Value} {xs ys : List α}

/-- What append leaves: the row, longer. -/
theorem own_appended {css ccs : List (List Value)} {v' : Value} {w' : World} (hl1 : css.length = xs.length) (hS1 : ∀ k, v.ownBlock = some k → S k)
    (hk1 : ∀ (j : Nat) (x : α), xs[j]? = some x → ∃ c, css[j]? = some c ∧ d.K w (fun k => S k ∧ some k ≠ v.ownBlock) x c)
    (hl2 : ccs.length = ys.length) (hk2 : ∀ (j : Nat) (x : α), ys[j]? = some x → ∃ c, ccs[j]? = some c ∧ d.K w S2 x c) (hne : ∀ k, S2 k → some k ≠ v.ownBlock)
    (ho : w'.ownsRow base e d.sz v' (xs.length + ys.length) (css.flatten ++ ccs.flatten)) (hg : w.grownBy w' v.ownBlock) (hat : v'.ownBlock = v.ownBlock ∨ v'.ownBlock = some w.heap.size) :
    Own d e w' base (fun k => S k ∨ S2 k ∨ k = w.heap.size) v' (xs ++ ys) := by
  have far : ∀ (T : Nat → Prop) (x : α) (c : List Value), d.K w T x c → (∀ k, T k → some k ≠ v.ownBlock) → (∀ k, T k → S k ∨ S2 k) → d.K w' (fun k => (S k ∨ S2 k ∨ k = w.heap.size) ∧ some k ≠ v'.ownBlock) x c := by
    intro T x c hk h1 h2
    have hb := d.bound hk
    have hm := d.move (w' := w') (fun k hk => hg.block k hk.2 (h1 k hk.1)) hb
    refine d.mono (fun k hk => ⟨(h2 k hk.1).elim .inl fun h => .inr (.inl h), ?_⟩) hm
    rcases hat with e | e
    · rw [e]; exact h1 k hk.1
    · rw [e]; intro h; injection h with h; omega
  refine own_intro (css ++ ccs) (by rw [List.length_append, List.flatten_append]; exact ho) (by simp [hl1, hl2]) (fun k hk => ?_) (fun j x hj => ?_)
  · rcases hat with e | e
    · exact .inl (hS1 k (by rw [← e]; exact hk))
    · rw [e] at hk; injection hk with hk; exact .inr (.inr hk.symm)
  · rcases Nat.lt_or_ge j xs.length with hlt | hge
    · rw [List.getElem?_append_left hlt] at hj
      obtain ⟨c, hc, hk⟩ := hk1 j x hj
      exact ⟨c, by rw [List.getElem?_append_left (by omega)]; exact hc, far _ x c hk (fun k h => h.2) (fun k h => .inl h.1)⟩
    · rw [List.getElem?_append_right hge] at hj
      obtain ⟨c, hc, hk⟩ := hk2 _ x hj
      exact ⟨c, by rw [List.getElem?_append_right (by omega), hl1]; exact hc, far _ x c hk hne (fun k h => .inr h)⟩

theorem run_append_nil_src (t ty : TypeId) (i : TypeInfo) (ht : P.underlying t = some (.slice e)) (hi : P.info? e = some i) {n : Nat} {zs : List Value} (hown : w.ownsRow base e i.size v n zs) (A : Option Addr) (c : Nat) (hA : A = none) :
    (Builtin.append_ #[t, t] ty #[v, .slice A 0 c]).run P w = .ok v w := by
  subst hA
  rcases hown.2 with ⟨rfl, rfl⟩ | ⟨g, cap, cur, rfl, _, _, hnc, _⟩
  · simp [Builtin.append_, run_underlying ht, sizeOf, typeInfo, hi, Builtin.lenOf, Builtin.firstCells]
  · simp [Builtin.append_, run_underlying ht, sizeOf, typeInfo, hi, Builtin.lenOf, Builtin.firstCells, hnc, storeCells]

theorem run_append_kd (t ty : TypeId) (ht : P.underlying t = some (.slice e)) (z : Value) (bytes : Nat) (hinfo : (P.info? e).map (fun i => (i.zero, i.size, i.bytes)) = some (some z, d.sz, bytes)) (hz : z.cells.size = d.sz) (hs0 : 0 < d.sz) (hb0 : 0 < bytes)
    (HO : Own d e w base S v xs) (A : Option Addr) (c : Nat) (HR : Row d w S2 A ys) (hne : ∀ k, S2 k → some k ≠ v.ownBlock) (hl : (xs.length + ys.length) * bytes ≤ 140737488355328) (hbase : base ≤ w.heap.size) :
    ∃ v' w', (Builtin.append_ #[t, t] ty #[v, .slice A ys.length c]).run P w = .ok v' w' ∧ Own d e w' base (fun k => S k ∨ S2 k ∨ k = w.heap.size) v' (xs ++ ys) ∧ w.grownBy w' v.ownBlock ∧ (v'.ownBlock = v.ownBlock ∨ v'.ownBlock = some w.heap.size) := by
  obtain ⟨i0, hi, hzz⟩ := Option.map_eq_some_iff.1 hinfo
  simp only [Prod.mk.injEq] at hzz
  obtain ⟨hz0, hz1, hz2⟩ := hzz
  have HO' := HO
  obtain ⟨css, h1, h2, hcl, h3, h4⟩ := HO.lens
  obtain ⟨ccs, g1, g2, g3, g4⟩ := HR.cells
  have hlen : xs.length + ys.length ≤ 140737488355328 := Nat.le_trans (Nat.le_mul_of_pos_right _ hb0) hl
  have hflat : ccs.flatten.length = ys.length * d.sz := by
    rw [List.length_flatten, ← g1]
    have : ccs.map List.length = List.replicate ccs.length d.sz := by
      rw [List.eq_replicate_iff]; exact ⟨by simp, fun b hb => by obtain ⟨c, hc, rfl⟩ := List.mem_map.1 hb; exact g2 c hc⟩
    rw [this]; simp
  have hone : ∀ u ∈ ccs.flatten, u.oneCell' = true := by
    intro u hu
    obtain ⟨c, hc, hu⟩ := List.mem_flatten.1 hu
    obtain ⟨j, hj, rfl⟩ := List.mem_iff_getElem.1 hc
    obtain ⟨c', hc', hk⟩ := g3 j _ (List.getElem?_eq_getElem (by omega))
    rw [List.getElem?_eq_getElem hj] at hc'
    injection hc' with hc'
    rw [← hc'] at hk
    exact d.one hk u hu
  cases A with
  | none =>
    have hy : ys = [] := by
      rcases Classical.em (ys = []) with h | h
      · exact h
      · obtain ⟨ad, e, _⟩ := g4 h; cases e
    subst hy
    rw [← hz1] at h1
    refine ⟨v, w, run_append_nil_src t ty i0 ht hi h1 none c rfl, ?_, ⟨rfl, rfl, rfl, Nat.le_refl _, fun _ _ _ => rfl⟩, .inl rfl⟩
    rw [List.append_nil]
    exact HO'.mono fun k hk => .inl hk
  | some ad =>
    have hcells : ∀ j u, ccs.flatten[j]? = some u → w.cell? (ad.add j) = some u := by
      by_cases hy : ys = []
      · subst hy
        have : ccs = [] := List.eq_nil_of_length_eq_zero (by simpa using g1)
        subst this
        intro j u h; simp at h
      · obtain ⟨ad', e', _, _, hc⟩ := g4 hy
        injection e' with e'
        subst e'
        exact hc
    obtain ⟨v', w', hr, hown, hg, _, hat⟩ := run_append_own_at (P := P) w base t ty e i0 z d.sz bytes ht hi hz0 hz1 hz2 hz hs0 v xs.length css.flatten h1 ad ys.length c ccs.flatten hflat hcells hone (by simp only [maxLen]; omega) hl hbase
    exact ⟨v', w', hr, own_appended h2 h3 h4 g1 g3 hne hown hg hat, hg, hat⟩

theorem wp_append_kd {o : Oper} {a : Act} {K : Act → World → Prop} {Q : Exit → Act → World → Prop} (s x : Operand) (t : TypeId) (ho : o.op = .call { callee := .builtin .append, args := #[s, x], argTypes := #[t, t] })
    (ht : P.underlying t = some (.slice e)) (z : Value) (bytes : Nat) (hinfo : (P.info? e).map (fun i => (i.zero, i.size, i.bytes)) = some (some z, d.sz, bytes)) (hz : z.cells.size = d.sz) (hs0 : 0 < d.sz) (hb0 : 0 < bytes)
    (hs : a.eval s = v) (HO : Own d e w base S v xs) (A : Option Addr) (c : Nat) (hx : a.eval x = .slice A ys.length c) (HR : Row d w S2 A ys) (hne : ∀ k, S2 k → some k ≠ v.ownBlock) (hl : (xs.length + ys.length) * bytes ≤ 140737488355328) (hbase : base ≤ w.heap.size)
    (h : ∀ v' w', Own d e w' base (fun k => S k ∨ S2 k ∨ k = w.heap.size) v' (xs ++ ys) → w.grownBy w' v.ownBlock → (v'.ownBlock = v.ownBlock ∨ v'.ownBlock = some w.heap.size) → K (a.put o.dst v') w') : o.wp P a w K Q := by
  obtain ⟨v', w', hrun, h2, h3, h4⟩ := run_append_kd (P := P) t o.type ht z bytes hinfo hz hs0 hb0 HO A c HR hne hl hbase
  unfold Oper.wp execOp
  simp only [ho, resolve, invoke, builtin, Sem.run_bind, Sem.run_pure, Result.andThen_ok, List.map_toArray, List.map_cons, List.map_nil, hs, hx, hrun]
  exact h v' w' h2 h3 h4
theorem wpList_append_kd {ops : Array Oper} {rest : List Oper} {o : Oper} {a : Act} {Q : Exit → Act → World → Prop} (hgd : o.guard = none) (s x : Operand) (t : TypeId) (ho : o.op = .call { callee := .builtin .append, args := #[s, x], argTypes := #[t, t] })
    (ht : P.underlying t = some (.slice e)) (z : Value) (bytes : Nat) (hinfo : (P.info? e).map (fun i => (i.zero, i.size, i.bytes)) = some (some z, d.sz, bytes)) (hz : z.cells.size = d.sz) (hs0 : 0 < d.sz) (hb0 : 0 < bytes)
    (hs : a.eval s = v) (HO : Own d e w base S v xs) (A : Option Addr) (c : Nat) (hx : a.eval x = .slice A ys.length c) (HR : Row d w S2 A ys) (hne : ∀ k, S2 k → some k ≠ v.ownBlock) (hl : (xs.length + ys.length) * bytes ≤ 140737488355328) (hbase : base ≤ w.heap.size)
    (h : ∀ v' w', Own d e w' base (fun k => S k ∨ S2 k ∨ k = w.heap.size) v' (xs ++ ys) → w.grownBy w' v.ownBlock → (v'.ownBlock = v.ownBlock ∨ v'.ownBlock = some w.heap.size) → wpList P ops Q rest (a.put o.dst v') w') : wpList P ops Q (o :: rest) a w :=
  wpList_plain hgd fun _ hK => wp_append_kd s x t ho ht z bytes hinfo hz hs0 hb0 hs HO A c hx HR hne hl hbase fun v' w' h2 h3 h4 => hK _ _ (h v' w' h2 h3 h4)
theorem step_append_kd {ops : Array Oper} {o : Oper} {a : Act} {K : Act → World → Prop} {Q : Exit → Act → World → Prop} {E : Prop} (hgd : o.guard = none) (s x : Operand) (t : TypeId) (ho : o.op = .call { callee := .builtin .append, args := #[s, x], argTypes := #[t, t] })
    (ht : P.underlying t = some (.slice e)) (z : Value) (bytes : Nat) (hinfo : (P.info? e).map (fun i => (i.zero, i.size, i.bytes)) = some (some z, d.sz, bytes)) (hz : z.cells.size = d.sz) (hs0 : 0 < d.sz) (hb0 : 0 < bytes)
    (hs : a.eval s = v) (HO : Own d e w base S v xs) (A : Option Addr) (c : Nat) (hx : a.eval x = .slice A ys.length c) (HR : Row d w S2 A ys) (hne : ∀ k, S2 k → some k ≠ v.ownBlock) (hl : (xs.length + ys.length) * bytes ≤ 140737488355328) (hbase : base ≤ w.heap.size)
    (h : ∀ v' w', Own d e w' base (fun k => S k ∨ S2 k ∨ k = w.heap.size) v' (xs ++ ys) → w.grownBy w' v.ownBlock → (v'.ownBlock = v.ownBlock ∨ v'.ownBlock = some w.heap.size) → K (a.put o.dst v') w') :
    if Region.wanted o (yielded ops a.tmps) = true then Oper.wp P o a w K Q else E := by
  have hw : Region.wanted o (yielded ops a.tmps) = true := by simp [Region.wanted, hgd]
  rw [if_pos hw]
  exact wp_append_kd s x t ho ht z bytes hinfo hz hs0 hb0 hs HO A c hx HR hne hl hbase h
end

/-- An empty row in a new block (a literal of nothing). -/
theorem Own.empty_ {α : Type} (d : Kd α) (e : Nat) (w : World) (base : Nat) (S : Nat → Prop) (hb : base ≤ w.heap.size) (hS : S w.heap.size) :
    Own d e (w.alloc (.cells #[] e)) base S (.slice (some ⟨w.heap.size, 0, none⟩) 0 0) [] :=
  own_intro [] ⟨by simp, .inr ⟨w.heap.size, 0, #[], rfl, hb, heap_alloc_new w _, Nat.le_refl _, by simp [maxLen], by simp, by simp⟩⟩ rfl (fun k hk => by simp [Value.ownBlock] at hk; rw [← hk]; exact hS) (fun j x hj => by simp at hj)
/-- One element, laid in a new block. -/
theorem Row.one_ {α : Type} {d : Kd α} {e : Nat} {w : World} {S : Nat → Prop} {x : α} {cs : List Value} (h : d.K w S x cs) : Row d (w.alloc (.cells cs.toArray e)) (fun k => S k ∨ k = w.heap.size) (some ⟨w.heap.size, 0, none⟩) [x] := by
  refine ⟨by simp, fun _ => ⟨_, rfl, .inr rfl, by simp, fun j y hj => ?_⟩⟩
  have hj0 : j = 0 := by
    have := (List.getElem?_eq_some_iff.1 hj).1
    simp at this; exact this
  subst hj0
  simp at hj
  subst hj
  have hb := d.bound h
  refine ⟨cs, d.mono (fun k hk => .inl hk.1) (d.move (w' := w.alloc (.cells cs.toArray e)) (fun k hk => Below.heap_alloc w _ k hk.2) hb), fun i u hu => ?_⟩
  rw [Nat.zero_mul, Nat.zero_add]
  have := World.news_of_block (w := w.alloc (.cells cs.toArray e)) (B := w.heap.size) (cs := cs.toArray) (t := e) (fr := (0, 0)) (heap_alloc_new w _) i u (by simpa using hu)
  exact this

/-- 'append([]T{}, xs...)': a copy in new memory. -/
theorem wpList_clone_kd {P : Program} {α : Type} {d : Kd α} {e : Nat} {w1 : World} {S : Nat → Prop} {ys : List α} {ops : Array Oper} {rest : List Oper} {o : Oper} {a : Act} {Q : Exit → Act → World → Prop} (hgd : o.guard = none) (s x : Operand) (t : TypeId) (ho : o.op = .call { callee := .builtin .append, args := #[s, x], argTypes := #[t, t] })
    (ht : P.underlying t = some (.slice e)) (z : Value) (bytes : Nat) (hinfo : (P.info? e).map (fun i => (i.zero, i.size, i.bytes)) = some (some z, d.sz, bytes)) (hz : z.cells.size = d.sz) (hs0 : 0 < d.sz) (hb0 : 0 < bytes)
    (hs : a.eval s = .slice (some ⟨w1.heap.size, 0, none⟩) 0 0) (A : Option Addr) (c : Nat) (hx : a.eval x = .slice A ys.length c) (HR : Row d w1 S A ys) (hl : ys.length * bytes ≤ 140737488355328)
    (h : ∀ v' w', Own d e w' w1.heap.size (fun k => S k ∨ w1.heap.size ≤ k) v' ys → Below w1.heap.size w1 w' → wpList P ops Q rest (a.put o.dst v') w') : wpList P ops Q (o :: rest) a (w1.alloc (.cells #[] e)) := by
  have HR2 : Row d (w1.alloc (.cells #[] e)) (fun k => S k ∧ k < w1.heap.size) A ys := HR.bound.belowAll ((Below.refl _ w1).alloc (Nat.le_refl _) _)
  refine wpList_append_kd (d := d) (base := w1.heap.size) (S := fun k => w1.heap.size ≤ k) (xs := []) hgd s x t ho ht z bytes hinfo hz hs0 hb0 hs (Own.empty_ d e w1 w1.heap.size _ (Nat.le_refl _) (Nat.le_refl _)) A c hx HR2 (fun k hk => by have := hk.2; simp [Value.ownBlock]; omega) (by simpa using hl) (by simp) ?_
  intro v' w' h1 h2 h3
  refine h v' w' ?_ ?_
  · rw [List.nil_append] at h1
    refine h1.mono fun k hk => ?_
    rcases hk with hk | hk | hk
    · exact .inr hk
    · exact .inl hk.1
    · right; rw [hk]; simp
  · have hb : Below w1.heap.size w1 (w1.alloc (.cells #[] e)) := (Below.refl _ w1).alloc (Nat.le_refl _) _
    exact hb.grown h2 (by simp) (fun k hk => by simp [Value.ownBlock] at hk; omega)

/-- The same in a region that draws its order. -/
theorem step_clone_kd {P : Program} {α : Type} {d : Kd α} {e : Nat} (w1 : World) {W' : World} (hW : W' = w1.alloc (.cells #[] e)) {S : Nat → Prop} {ys : List α} {ops : Array Oper} {o : Oper} {a : Act} {K : Act → World → Prop} {Q : Exit → Act → World → Prop} {E : Prop} (hgd : o.guard = none) (s x : Operand) (t : TypeId) (ho : o.op = .call { callee := .builtin .append, args := #[s, x], argTypes := #[t, t] })
    (ht : P.underlying t = some (.slice e)) (z : Value) (bytes : Nat) (hinfo : (P.info? e).map (fun i => (i.zero, i.size, i.bytes)) = some (some z, d.sz, bytes)) (hz : z.cells.size = d.sz) (hs0 : 0 < d.sz) (hb0 : 0 < bytes)
    (hs : a.eval s = .slice (some ⟨w1.heap.size, 0, none⟩) 0 0) (A : Option Addr) (c : Nat) (hx : a.eval x = .slice A ys.length c) (HR : Row d w1 S A ys) (hl : ys.length * bytes ≤ 140737488355328)
    (h : ∀ v' w', Own d e w' w1.heap.size (fun k => S k ∨ w1.heap.size ≤ k) v' ys → Below w1.heap.size w1 w' → K (a.put o.dst v') w') : if Region.wanted o (yielded ops a.tmps) = true then Oper.wp P o a W' K Q else E := by
  subst hW
  have HR2 : Row d (w1.alloc (.cells #[] e)) (fun k => S k ∧ k < w1.heap.size) A ys := HR.bound.belowAll ((Below.refl _ w1).alloc (Nat.le_refl _) _)
  refine step_append_kd (d := d) (base := w1.heap.size) (S := fun k => w1.heap.size ≤ k) (xs := []) hgd s x t ho ht z bytes hinfo hz hs0 hb0 hs (Own.empty_ d e w1 w1.heap.size _ (Nat.le_refl _) (Nat.le_refl _)) A c hx HR2 (fun k hk => by have := hk.2; simp [Value.ownBlock]; omega) (by simpa using hl) (by simp) ?_
  intro v' w' h1 h2 h3
  refine h v' w' ?_ ?_
  · rw [List.nil_append] at h1
    refine h1.mono fun k hk => ?_
    rcases hk with hk | hk | hk
    · exact .inr hk
    · exact .inl hk.1
    · right; rw [hk]; simp
  · have hb : Below w1.heap.size w1 (w1.alloc (.cells #[] e)) := (Below.refl _ w1).alloc (Nat.le_refl _) _
    exact hb.grown h2 (by simp) (fun k hk => by simp [Value.ownBlock] at hk; omega)
end Go.Proofs.Ytehgiijpmldiiaa
