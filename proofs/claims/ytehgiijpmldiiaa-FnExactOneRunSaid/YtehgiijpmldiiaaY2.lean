/- Shapes of a program's copy; what a run leaves is as long as the cells were; sizes. -/
import Derived.Test.YtehgiijpmldiiaaY1
import Derived.Test.YtehgiijpmldiiaaD5
namespace Go.Proofs.Ytehgiijpmldiiaa
open Go.RowKit
set_option linter.unusedVariables false
set_option linter.unusedSimpArgs false

theorem runKids_len (f : List Int → Nat → Option (List Int × Bool)) (hf : ∀ c k c' b, f c k = some (c', b) → c'.length = c.length) (l : List Int) : ∀ cells c b, runKids f cells l = some (c, b) → c.length = cells.length := by
  induction l with
  | nil => intro cells c b h; simp [runKids] at h; rw [h.1]
  | cons k r ih =>
    intro cells c b h
    unfold runKids at h
    cases hk : f cells k.toNat with
    | none => rw [hk] at h; cases h
    | some x =>
      obtain ⟨c1, b1⟩ := x
      rw [hk] at h
      have h1 := hf _ _ _ _ hk
      cases b1 with
      | true => simp at h; rw [← h.1]; exact h1
      | false => exact (ih _ _ _ h).trans h1
theorem runActs_len (f : List Int → Nat → Option (List Int × Bool)) (hf : ∀ c k c' b, f c k = some (c', b) → c'.length = c.length) (l : List Act) : ∀ cells regs c b, runActs f cells regs l = some (c, b) → c.length = cells.length := by
  induction l with
  | nil => intro cells regs c b h; simp [runActs] at h; rw [h.1]
  | cons a r ih =>
    intro cells regs c b h
    unfold runActs at h
    by_cases h1 : a.kind = 1
    · rw [if_pos h1] at h
      cases hk : changeDo cells regs a.deeds with
      | none => rw [hk] at h; cases h
      | some x =>
        obtain ⟨c1, rg⟩ := x
        rw [hk] at h
        exact (ih _ _ _ _ h).trans (changeDo_desk hk).cl
    · rw [if_neg h1] at h
      by_cases h2 : a.kind = 2
      · rw [if_pos h2] at h
        cases hk : runKids f cells a.kids with
        | none => rw [hk] at h; cases h
        | some x =>
          obtain ⟨c1, b1⟩ := x
          rw [hk] at h
          have h3 := runKids_len f hf _ _ _ _ hk
          cases b1 with
          | true => simp at h; rw [← h.1]; exact h3
          | false => exact (ih _ _ _ _ h).trans h3
      · rw [if_neg h2] at h
        split at h
        · exact ih _ _ _ _ h
        · simp at h; rw [h.1]
theorem oneBody_len (p : Prog) : ∀ n cells b c f, oneBody n p cells b = some (c, f) → c.length = cells.length := by
  intro n
  induction n with
  | zero => intro cells b c f h; cases h
  | succ n ih =>
    intro cells b c f h
    unfold oneBody at h
    exact runActs_len _ (fun c k c' b h => ih _ _ _ _ h) _ _ _ _ _ h
theorem oneRun_len {p : Prog} {c : List Int} {f : Bool} (h : oneRun p = some (c, f)) : c.length = p.cells.length := by
  unfold oneRun at h
  split at h
  · exact oneBody_len p 4 _ _ _ _ h
  · cases h
def rC (r : Option (List Int × Bool)) : List Int := match r with | none => [] | some x => x.1
def rF (r : Option (List Int × Bool)) : Bool := match r with | none => false | some x => x.2
theorem rC_len (p : Prog) : (rC (oneRun p)).length ≤ p.cells.length := by
  cases h : oneRun p with
  | none => simp [rC]
  | some x => obtain ⟨c, f⟩ := x; have := oneRun_len h; simp [rC]; omega
theorem ResRun.one {r : Option (List Int × Bool)} {B : Nat} {e : Ending} {w' : World} (h : ResRun r B e w') : ∃ vc, e = .returned (.tuple #[vc, .bool (rF r), .bool r.isSome]) ∧ OwnI 3 w' B vc (rC r) := by
  match r, h with
  | none, h => exact h
  | some (c, f), h => exact h
theorem ResOne.one {r : Option (List Int × Bool)} {B : Nat} {e : Ending} {w' : World} (h : ResOne r B e w') : ∃ vc, e = .returned (.tuple #[vc, .bool (rF r), .bool r.isSome]) ∧ OwnI 3 w' B vc (rC r) := by
  match r, h with
  | none, h => exact ⟨_, h, OwnI.nil _ _ _⟩
  | some (c, f), h => exact h
/-- The shape of bodies: how many deeds and kids each act has. -/
def shA (l : List Act) : List (Nat × Nat) := l.map fun a => (a.deeds.length, a.kids.length)
def shB (l : List (List Act)) : List (List (Nat × Nat)) := l.map shA
theorem tot_map_le {α β : Type} (f : β → Int) (g : α → β) (h : α → Int) (l : List α) (H : ∀ x, f (g x) ≤ h x) : tot f (l.map g) ≤ tot h l := by
  induction l with
  | nil => simp [tot]
  | cons a r ih => have := H a; simp only [tot, List.map_cons, List.sum_cons] at *; omega
theorem tot_scale {α : Type} (f : α → Int) (l : List α) (c d : Int) : tot (fun x => c + d * f x) l = c * l.length + d * tot f l := by
  induction l with
  | nil => simp [tot]
  | cons a r ih =>
    simp only [tot, List.map_cons, List.sum_cons, List.length_cons] at *
    rw [ih]
    have : ((r.length + 1 : Nat) : Int) = r.length + 1 := by omega
    rw [this, Int.mul_add, Int.mul_add]
    omega
theorem wActs_le (l : List Act) : wActs (shA l) ≤ 3 * sizeOf1 l := by
  have h := tot_map_le wAct (fun a : Act => (a.deeds.length, a.kids.length)) (fun a => 2 + 3 * sizeAct a) l (fun a => by unfold wAct sizeAct; simp only; omega)
  rw [tot_scale] at h
  unfold wActs shA sizeOf1
  omega
theorem wAll_le (l : List (List Act)) : wAll (shB l) ≤ 3 * sizeOf2 l := by
  have h := tot_map_le wActs shA (fun a => 0 + 3 * sizeOf1 a) l (fun a => by have := wActs_le a; omega)
  rw [tot_scale] at h
  unfold wAll shB sizeOf2
  omega
theorem tot_mem {α : Type} (f : α → Int) (l : List α) (hf : ∀ x, 0 ≤ f x) (x : α) (hx : x ∈ l) : f x ≤ tot f l := by
  induction l with
  | nil => cases hx
  | cons a r ih =>
    have h1 := tot_pos f r hf
    have h2 := hf a
    simp only [tot, List.map_cons, List.sum_cons] at *
    rcases List.mem_cons.1 hx with rfl | hx
    · omega
    · have := ih hx; omega
theorem size_bounds {p : Prog} (h : sizeOf3 p ≤ 1048576) : p.cells.length ≤ 1048576 ∧ p.bodies.length ≤ 1048576 ∧ (∀ l ∈ p.bodies, l.length ≤ 1048576 ∧ ∀ a ∈ l, a.deeds.length ≤ 1048576 ∧ a.kids.length ≤ 1048576) ∧ 1 + (p.cells.length : Int) + wAll (shB p.bodies) ≤ top := by
  have h1 := wAll_le p.bodies
  have h2 := tot_pos sizeOf1 p.bodies sizeOf1_pos
  unfold sizeOf3 at h
  have h3 : sizeOf2 p.bodies = p.bodies.length + tot sizeOf1 p.bodies := rfl
  refine ⟨by omega, by omega, fun l hl => ?_, by unfold top; omega⟩
  have h4 := tot_mem sizeOf1 p.bodies sizeOf1_pos l hl
  have h5 : sizeOf1 l = l.length + tot sizeAct l := rfl
  have h6 := tot_pos sizeAct l sizeAct_pos
  refine ⟨by omega, fun a ha => ?_⟩
  have h7 := tot_mem sizeAct l sizeAct_pos a ha
  have h8 : sizeAct a = a.deeds.length + a.kids.length := rfl
  omega
section
variable {α : Type} {d : Kd α} {e : Nat} {w : World} {base : Nat} {S T : Nat → Prop} {v : Value} {xs : List α}
/-- A row of one's own, as a block. -/
theorem Own.asBlock (h : Own d e w base S v xs) (hT : ∀ k, S k → T k) : ∃ A c, v = .slice A xs.length c ∧ xs.length ≤ c ∧ xs.length ≤ 9223372036854775807 ∧ (xs = [] ∨ ∃ (g : Nat) (cs : Array Value), A = some ⟨g, 0, none⟩ ∧ T g ∧ w.heap[g]? = some (.cells cs e (0, 0)) ∧ ∀ j (hj : j < xs.length), ∃ c, d.K w S xs[j] c ∧ ∀ i u, c[i]? = some u → cs[j * d.sz + i]? = some u) := by
  have hm := h.maxLen
  obtain ⟨A, c, rfl, hc⟩ := h.slice
  refine ⟨A, c, rfl, hc, hm, ?_⟩
  by_cases hn : xs = []
  · exact .inl hn
  · have hl : 0 < xs.length := List.length_pos_iff.2 hn
    obtain ⟨g, cap, e1, _, _, hg, _⟩ := h.place hl
    injection e1 with e1 _ e3
    subst e1; subst e3
    obtain ⟨cs, hb⟩ : ∃ cs, w.heap[g]? = some (.cells cs e (0, 0)) := by
      obtain ⟨css, h1, _⟩ := h
      rcases h1.2 with ⟨h2, _⟩ | ⟨g', cap', cur, h2, _, h3, _⟩
      · cases h2
      · injection h2 with h2; injection h2 with h2; injection h2 with h2; subst h2; exact ⟨cur, h3⟩
    refine .inr ⟨g, cs, rfl, hT g hg, hb, fun j hj => ?_⟩
    obtain ⟨c, hk, hcell, _⟩ := Own.cellAt h hj
    refine ⟨c, d.mono (fun k hk => hk.1) hk, fun i u hu => ?_⟩
    have := hcell i u hu
    rwa [cell_of_row _ _ _ _ _ _ hb] at this
end
theorem ShN.ofInts {e : Nat} {w : World} {base : Nat} {S T : Nat → Prop} {v : Value} {xs : List Int} (h : Own Kd.int e w base S v xs) (hT : ∀ k, S k → T k) : ShN T 1 w v xs.length := by
  obtain ⟨A, c, rfl, h1, h2, h3⟩ := h.asBlock hT
  refine ⟨A, c, rfl, h1, h2, ?_⟩
  rcases h3 with rfl | ⟨g, cs, rfl, hg, hb, hc⟩
  · exact .inl rfl
  · refine .inr ⟨g, cs, e, rfl, hg, hb, fun i hi => ?_⟩
    obtain ⟨c, ⟨rfl, _⟩, hcell⟩ := hc i (by omega)
    exact ⟨xs[i], by simpa [kInt_sz] using hcell 0 _ rfl⟩
theorem ShN.ofDeeds {e : Nat} {w : World} {base : Nat} {S T : Nat → Prop} {v : Value} {xs : List Deed} (h : Own kDeed e w base S v xs) (hT : ∀ k, S k → T k) : ShN T 3 w v xs.length := by
  obtain ⟨A, c, rfl, h1, h2, h3⟩ := h.asBlock hT
  refine ⟨A, c, rfl, h1, h2, ?_⟩
  rcases h3 with rfl | ⟨g, cs, rfl, hg, hb, hc⟩
  · exact .inl rfl
  · refine .inr ⟨g, cs, e, rfl, hg, hb, fun i hi => ?_⟩
    obtain ⟨c, hk, hcell⟩ := hc (i / 3) (by omega)
    obtain ⟨rfl, _⟩ := kDeed_open hk
    have hr : i % 3 = 0 ∨ i % 3 = 1 ∨ i % 3 = 2 := by omega
    have he : i = i / 3 * 3 + i % 3 := by omega
    rw [he]
    rcases hr with hr | hr | hr
    · rw [hr]; exact ⟨_, hcell 0 _ rfl⟩
    · rw [hr]; exact ⟨_, hcell 1 _ rfl⟩
    · rw [hr]; exact ⟨_, hcell 2 _ rfl⟩
theorem ShA.ofOwn {b e : Nat} {w : World} {base : Nat} {S T : Nat → Prop} {v : Value} {xs : List Act} (h : Own (kActO b) e w base S v xs) (hT : ∀ k, S k → T k) : ShA T w v (shA xs) := by
  obtain ⟨A, c, rfl, h1, h2, h3⟩ := h.asBlock hT
  have hl : (shA xs).length = xs.length := by simp [shA]
  refine ⟨A, c, by rw [hl], by omega, by omega, ?_⟩
  rcases h3 with rfl | ⟨g, cs, rfl, hg, hb, hc⟩
  · exact .inl rfl
  · refine .inr ⟨g, cs, e, rfl, hg, hb, fun j nm hj => ?_⟩
    have hjl : j < xs.length := by have := (List.getElem?_eq_some_iff.1 hj).1; omega
    simp only [shA, List.getElem?_map, List.getElem?_eq_getElem hjl, Option.map_some, Option.some.injEq] at hj
    subst hj
    obtain ⟨c, hk, hcell⟩ := hc j hjl
    obtain ⟨v, u, rfl, hv, hu, _⟩ := kActO_open hk
    obtain ⟨B, d1, rfl, _⟩ := hv.slice
    obtain ⟨D, e1, rfl, _⟩ := hu.slice
    exact ⟨_, _, B, D, d1, e1, hcell 0 _ rfl, hcell 1 _ rfl, hcell 2 _ rfl, hcell 3 _ rfl, ShN.ofDeeds hv hT, ShN.ofInts hu hT⟩
theorem ShB.ofOwn {b e : Nat} {w : World} {base : Nat} {S T : Nat → Prop} {v : Value} {xs : List (List Act)} (h : Own (kBodyO b) e w base S v xs) (hT : ∀ k, S k → T k) : ShB T w v (shB xs) := by
  obtain ⟨A, c, rfl, h1, h2, h3⟩ := h.asBlock hT
  have hl : (shB xs).length = xs.length := by simp [shB]
  refine ⟨A, c, by rw [hl], by omega, by omega, ?_⟩
  rcases h3 with rfl | ⟨g, cs, rfl, hg, hb, hc⟩
  · exact .inl rfl
  · refine .inr ⟨g, cs, e, rfl, hg, hb, fun j l hj => ?_⟩
    have hjl : j < xs.length := by have := (List.getElem?_eq_some_iff.1 hj).1; omega
    simp only [shB, List.getElem?_map, List.getElem?_eq_getElem hjl, Option.map_some, Option.some.injEq] at hj
    subst hj
    obtain ⟨c, ⟨v, rfl, hv⟩, hcell⟩ := hc j hjl
    obtain ⟨B, d1, rfl, _⟩ := hv.slice
    have e1 : (shA xs[j]).length = xs[j].length := by simp [shA]
    have := hcell 0 _ rfl
    refine ⟨B, d1, ?_, by rw [e1]; exact ShA.ofOwn hv hT⟩
    rw [e1]
    simpa [kBodyO_sz] using this
end Go.Proofs.Ytehgiijpmldiiaa
