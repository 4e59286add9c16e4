/- Programs and changes, as plain Lean: no memory, no Go. -/
namespace Go.Proofs.Ytehgiijpmldiiaa
set_option linter.unusedVariables false
set_option linter.unusedSimpArgs false

structure Deed where
  kind : Int
  a : Int
  b : Int
deriving DecidableEq
structure Act where
  kind : Int
  deeds : List Deed
  kids : List Int
  reg : Int
deriving DecidableEq
structure Prog where
  cells : List Int
  bodies : List (List Act)
deriving DecidableEq

def inR (n lo hi : Int) : Bool := decide (lo ≤ n) && decide (n ≤ hi)
def deedOk (d : Deed) (cells : Int) : Bool :=
  if d.kind = 1 then inR d.a 0 2 && inR d.b 0 (cells - 1)
  else if d.kind = 2 then inR d.a 0 (cells - 1) && inR d.b 0 2
  else if d.kind = 3 then inR d.a 0 2 && inR d.b 0 99
  else if d.kind = 4 then inR d.a 0 2 && inR d.b 0 2
  else if d.kind = 5 then inR d.a 0 2 && (d.b == 0)
  else false
def changeOk (deeds : List Deed) (cells : Int) : Bool := deeds.all (deedOk · cells) && decide (deeds.length ≤ 5) && inR cells 0 3
def kidsOk (kids : List Int) (body bodies : Int) : Bool := kids.all (fun k => inR k (body + 1) (bodies - 1)) && inR kids.length 1 2
def actOk (a : Act) (cells body bodies : Int) : Bool :=
  if a.kind = 1 then a.kids.isEmpty && decide (a.reg = 0) && a.deeds.all (deedOk · cells) && decide (a.deeds.length ≤ 5)
  else if a.kind = 2 then a.deeds.isEmpty && decide (a.reg = 0) && kidsOk a.kids body bodies
  else if a.kind = 3 then a.deeds.isEmpty && a.kids.isEmpty && decide (a.reg = 0)
  else if a.kind = 4 then a.deeds.isEmpty && a.kids.isEmpty && inR a.reg 0 2
  else false
def bodyOk (acts : List Act) (cells body bodies : Int) : Bool := decide (acts.length ≤ 4) && acts.all (actOk · cells body bodies)
def bodiesOk (cells : Int) (bodies : List (List Act)) : Bool := (List.range bodies.length).all fun i => bodyOk (bodies.getD i []) cells i bodies.length
def numsOk (l : List Int) : Bool := l.all (inR · 0 99)
def formOk (p : Prog) : Bool :=
  decide (p.cells.length ≤ 3) && inR p.bodies.length 1 4 && numsOk p.cells && bodiesOk p.cells.length p.bodies
def sumOf (f : Int → Int) (l : List Int) : Int := (l.map f).sum
def actsSum (f : Int → Int) (acts : List Act) : Int := sumOf f (acts.flatMap (·.kids))
/-- How many tasks a body may be (n: how deep it may go). -/
def tree : Nat → Prog → Nat → Int
  | 0, _, _ => 0
  | n + 1, p, b => 1 + actsSum (fun k => tree n p k.toNat) (p.bodies.getD b [])
def progOk (p : Prog) : Bool := formOk p && decide (tree 4 p 0 ≤ 7)


theorem all_take_snoc {α : Type} (p : α → Bool) (l : List α) (k : Nat) (h : k < l.length) : (l.take (k + 1)).all p = ((l.take k).all p && p l[k]) := by
  rw [List.take_succ_eq_append_getElem h, List.all_append]; simp
theorem all_take_all {α : Type} (p : α → Bool) (l : List α) (k : Nat) (h : l.length ≤ k) : (l.take k).all p = l.all p := by rw [List.take_of_length_le h]
theorem all_false_of {α : Type} (p : α → Bool) (l : List α) (k : Nat) (h : k < l.length) (hp : p l[k] = false) : l.all p = false := by
  rw [List.all_eq_false]; exact ⟨l[k], List.getElem_mem h, by simp [hp]⟩
theorem range_all_succ (p : Nat → Bool) (k : Nat) : (List.range (k + 1)).all p = ((List.range k).all p && p k) := by
  rw [List.range_succ, List.all_append]; simp
theorem range_all_false (p : Nat → Bool) (n k : Nat) (h : k < n) (hp : p k = false) : (List.range n).all p = false := by
  rw [List.all_eq_false]; exact ⟨k, List.mem_range.2 h, by simp [hp]⟩
theorem sumOf_snoc (f : Int → Int) (l : List Int) (k : Nat) (h : k < l.length) : sumOf f (l.take (k + 1)) = sumOf f (l.take k) + f l[k] := by
  unfold sumOf; rw [List.take_succ_eq_append_getElem h]; simp only [List.map_append, List.sum_append, List.map_cons, List.map_nil, List.sum_cons, List.sum_nil, Int.add_zero]
theorem sumOf_all (f : Int → Int) (l : List Int) (k : Nat) (h : l.length ≤ k) : sumOf f (l.take k) = sumOf f l := by rw [List.take_of_length_le h]
theorem actsSum_snoc (f : Int → Int) (l : List Act) (k : Nat) (h : k < l.length) : actsSum f (l.take (k + 1)) = actsSum f (l.take k) + sumOf f l[k].kids := by
  unfold actsSum sumOf; rw [List.take_succ_eq_append_getElem h]; simp only [List.flatMap_append, List.flatMap_cons, List.flatMap_nil, List.append_nil, List.map_append, List.sum_append]
theorem actsSum_all (f : Int → Int) (l : List Act) (k : Nat) (h : l.length ≤ k) : actsSum f (l.take k) = actsSum f l := by rw [List.take_of_length_le h]
theorem sumOf_bound (f : Int → Int) (M : Int) (l : List Int) (h : ∀ k ∈ l, 0 ≤ f k ∧ f k ≤ M) : 0 ≤ sumOf f l ∧ sumOf f l ≤ l.length * M := by
  induction l with
  | nil => simp [sumOf]
  | cons a r ih =>
    have h1 := h a (List.mem_cons_self ..)
    have h2 := ih fun k hk => h k (List.mem_cons_of_mem _ hk)
    simp only [sumOf, List.map_cons, List.sum_cons, List.length_cons] at *
    have e : ((r.length + 1 : Nat) : Int) * M = r.length * M + M := by rw [Int.natCast_add, Int.add_mul]; simp
    rw [e]; omega
theorem actsSum_bound (f : Int → Int) (M : Int) (hM : 0 ≤ M) (l : List Act) (hl : ∀ a ∈ l, a.kids.length ≤ 2) (h : ∀ a ∈ l, ∀ k ∈ a.kids, 0 ≤ f k ∧ f k ≤ M) : 0 ≤ actsSum f l ∧ actsSum f l ≤ l.length * (2 * M) := by
  induction l with
  | nil => simp [actsSum, sumOf]
  | cons a r ih =>
    have h1 := sumOf_bound f M a.kids (h a (List.mem_cons_self ..))
    have h2 := ih (fun b hb => hl b (List.mem_cons_of_mem _ hb)) fun b hb => h b (List.mem_cons_of_mem _ hb)
    have h3 := hl a (List.mem_cons_self ..)
    have e0 : actsSum f (a :: r) = sumOf f a.kids + actsSum f r := by simp [actsSum, sumOf]
    have e : ((r.length + 1 : Nat) : Int) * (2 * M) = r.length * (2 * M) + 2 * M := by rw [Int.natCast_add, Int.add_mul]; simp
    have e2 : (a.kids.length : Int) * M ≤ 2 * M := Int.mul_le_mul_of_nonneg_right (by omega) hM
    rw [e0, List.length_cons, e]; omega
theorem formOk_len {p : Prog} (h : formOk p = true) : p.cells.length ≤ 3 ∧ 1 ≤ p.bodies.length ∧ p.bodies.length ≤ 4 := by
  simp [formOk, inR] at h; omega
theorem formOk_body {p : Prog} (h : formOk p = true) {b : Nat} (hb : b < p.bodies.length) : bodyOk p.bodies[b] p.cells.length b p.bodies.length = true := by
  simp only [formOk, Bool.and_eq_true, bodiesOk, List.all_eq_true, List.mem_range] at h
  have := h.2 b hb
  rwa [List.getD_eq_getElem?_getD, List.getElem?_eq_getElem hb, Option.getD_some] at this
theorem actOk_kids {a : Act} {c b n : Int} (h : actOk a c b n = true) : a.kids.length ≤ 2 ∧ ∀ k ∈ a.kids, b + 1 ≤ k ∧ k ≤ n - 1 := by
  unfold actOk at h
  split at h
  · simp at h; simp [h.1.1.1]
  · split at h
    · simp [kidsOk, inR] at h
      exact ⟨by omega, fun k hk => h.2.1 k hk⟩
    · split at h
      · simp at h; simp [h.1.2]
      · split at h
        · simp at h; simp [h.1.2]
        · simp at h
theorem formOk_acts {p : Prog} (h : formOk p = true) {b : Nat} (hb : b < p.bodies.length) : p.bodies[b].length ≤ 4 ∧ ∀ a ∈ p.bodies[b], a.kids.length ≤ 2 ∧ ∀ k ∈ a.kids, (b : Int) + 1 ≤ k ∧ k ≤ (p.bodies.length : Int) - 1 := by
  have := formOk_body h hb
  simp only [bodyOk, Bool.and_eq_true, decide_eq_true_eq, List.all_eq_true] at this
  exact ⟨this.1, fun a ha => actOk_kids (this.2 a ha)⟩
theorem tree_bound {p : Prog} (h : formOk p = true) : ∀ (d b : Nat), 0 ≤ tree d p b ∧ tree d p b ≤ 9 ^ d := by
  intro d
  induction d with
  | zero => intro b; simp [tree]
  | succ d ih =>
    intro b
    have hp : (0 : Int) ≤ 9 ^ d := Int.pow_nonneg (by decide)
    have hp1 : (1 : Int) ≤ 9 ^ d := by
      have : ∀ d : Nat, (1 : Int) ≤ 9 ^ d := by
        intro d; induction d with
        | zero => simp
        | succ d ih => rw [Int.pow_succ]; omega
      exact this d
    rcases Nat.lt_or_ge b p.bodies.length with hb | hb
    · have ha := formOk_acts h hb
      have := actsSum_bound (fun k => tree d p k.toNat) (9 ^ d) hp p.bodies[b] (fun a m => (ha.2 a m).1) (fun a _ k _ => ih k.toNat)
      simp only [tree, List.getD_eq_getElem?_getD, List.getElem?_eq_getElem hb, Option.getD_some]
      have h4 : (p.bodies[b].length : Int) * (2 * 9 ^ d) ≤ 4 * (2 * 9 ^ d) := Int.mul_le_mul_of_nonneg_right (by omega) (by omega)
      rw [Int.pow_succ]; omega
    · simp only [tree, List.getD_eq_getElem?_getD, List.getElem?_eq_none hb, Option.getD_none]
      rw [Int.pow_succ]; simp [actsSum, sumOf]; omega
theorem getD_at {α : Type} (l : List α) (k : Nat) (d : α) (h : k < l.length) : l.getD k d = l[k] := by simp [List.getD_eq_getElem?_getD, h]
end Go.Proofs.Ytehgiijpmldiiaa
