/- Changes, done at once; programs, done task by task: plain Lean. -/
import Derived.Test.YtehgiijpmldiiaaM1
namespace Go.Proofs.Ytehgiijpmldiiaa
set_option linter.unusedVariables false
set_option linter.unusedSimpArgs false

def rdI (l : List Int) (i : Int) : Int := l.getD i.toNat 0
/-- A deed: what cells and registers have then. -/
def doDeed (cr : List Int × List Int) (d : Deed) : Option (List Int × List Int) :=
  if d.kind = 1 then some (cr.1, cr.2.set d.a.toNat (rdI cr.1 d.b))
  else if d.kind = 2 then some (cr.1.set d.a.toNat (rdI cr.2 d.b), cr.2)
  else if d.kind = 3 then some (cr.1, cr.2.set d.a.toNat d.b)
  else if d.kind = 4 then some (cr.1, cr.2.set d.a.toNat ((rdI cr.2 d.a + rdI cr.2 d.b) % 100))
  else if rdI cr.2 d.a = 0 then none else some cr
def doDeeds (cr : List Int × List Int) : List Deed → Option (List Int × List Int)
  | [] => some cr
  | d :: r => (doDeed cr d).bind fun cr' => doDeeds cr' r
def deskOk (cells regs : List Int) (deeds : List Deed) : Bool := changeOk deeds cells.length && numsOk cells && (numsOk regs && decide (regs.length = 3))
def changeDo (cells regs : List Int) (deeds : List Deed) : Option (List Int × List Int) := if deskOk cells regs deeds then doDeeds (cells, regs) deeds else none

def runKids (f : List Int → Nat → Option (List Int × Bool)) (cells : List Int) : List Int → Option (List Int × Bool)
  | [] => some (cells, false)
  | k :: r => match f cells k.toNat with
    | none => none
    | some (c, true) => some (c, true)
    | some (c, false) => runKids f c r
def runActs (f : List Int → Nat → Option (List Int × Bool)) (cells regs : List Int) : List Act → Option (List Int × Bool)
  | [] => some (cells, false)
  | a :: r =>
    if a.kind = 1 then match changeDo cells regs a.deeds with
      | none => none
      | some (c, rg) => runActs f c rg r
    else if a.kind = 2 then match runKids f cells a.kids with
      | none => none
      | some (c, true) => some (c, true)
      | some (c, false) => runActs f c regs r
    else if a.kind = 4 ∧ rdI regs a.reg = 0 then runActs f cells regs r
    else some (cells, true)
/-- A body, done act by act: what cells have then, and whether it failed; nothing, if it does not come to an end. -/
def oneBody : Nat → Prog → List Int → Nat → Option (List Int × Bool)
  | 0, _, _, _ => none
  | n + 1, p, cells, b => runActs (fun c k => oneBody n p c k) cells [0, 0, 0] (p.bodies.getD b [])
def oneRun (p : Prog) : Option (List Int × Bool) := if progOk p then oneBody 4 p p.cells 0 else none

theorem doDeeds_snoc (cr : List Int × List Int) (l : List Deed) (d : Deed) : doDeeds cr (l ++ [d]) = (doDeeds cr l).bind fun cr' => doDeed cr' d := by
  induction l generalizing cr with
  | nil => simp [doDeeds]
  | cons a r ih =>
    simp only [List.cons_append, doDeeds]
    cases doDeed cr a with
    | none => rfl
    | some x => simp [ih]
theorem doDeeds_take (cr : List Int × List Int) (l : List Deed) (k : Nat) (h : k < l.length) : doDeeds cr (l.take (k + 1)) = (doDeeds cr (l.take k)).bind fun cr' => doDeed cr' l[k] := by
  rw [List.take_succ_eq_append_getElem h, doDeeds_snoc]
theorem doDeeds_none (cr : List Int × List Int) (l : List Deed) (k : Nat) (h : k < l.length) (hn : doDeeds cr (l.take (k + 1)) = none) : doDeeds cr l = none := by
  have e : l = l.take (k + 1) ++ l.drop (k + 1) := (List.take_append_drop _ _).symm
  rw [e]
  generalize l.take (k + 1) = a at hn
  generalize l.drop (k + 1) = b
  induction a generalizing cr with
  | nil => simp [doDeeds] at hn
  | cons x r ih =>
    simp only [List.cons_append, doDeeds] at hn ⊢
    cases hx : doDeed cr x with
    | none => rfl
    | some y => rw [hx] at hn; simp at hn ⊢; exact ih y hn
theorem numsOk_get {l : List Int} (h : numsOk l = true) (i : Nat) (hi : i < l.length) : 0 ≤ l[i] ∧ l[i] ≤ 99 := by
  have := List.all_eq_true.1 h _ (List.getElem_mem hi)
  simpa [inR] using this
theorem numsOk_rd {l : List Int} (h : numsOk l = true) (i : Int) : 0 ≤ rdI l i ∧ rdI l i ≤ 99 := by
  unfold rdI
  rcases Nat.lt_or_ge i.toNat l.length with hl | hl
  · rw [getD_at _ _ _ hl]; exact numsOk_get h _ hl
  · rw [List.getD_eq_getElem?_getD, List.getElem?_eq_none hl]; decide
theorem numsOk_set {l : List Int} (h : numsOk l = true) (i : Nat) (n : Int) (h0 : 0 ≤ n) (h1 : n ≤ 99) : numsOk (l.set i n) = true := by
  unfold numsOk at *
  rw [List.all_eq_true] at *
  intro x hx
  rcases List.mem_or_eq_of_mem_set hx with hx | rfl
  · exact h x hx
  · simp [inR, h0, h1]
theorem deedOk_kinds {d : Deed} {n : Int} (h : deedOk d n = true) :
    d.kind = 1 ∧ (0 ≤ d.a ∧ d.a ≤ 2) ∧ (0 ≤ d.b ∧ d.b ≤ n - 1) ∨ d.kind = 2 ∧ (0 ≤ d.a ∧ d.a ≤ n - 1) ∧ (0 ≤ d.b ∧ d.b ≤ 2) ∨ d.kind = 3 ∧ (0 ≤ d.a ∧ d.a ≤ 2) ∧ (0 ≤ d.b ∧ d.b ≤ 99) ∨
      d.kind = 4 ∧ (0 ≤ d.a ∧ d.a ≤ 2) ∧ (0 ≤ d.b ∧ d.b ≤ 2) ∨ d.kind = 5 ∧ (0 ≤ d.a ∧ d.a ≤ 2) ∧ d.b = 0 := by
  unfold deedOk at h
  split at h
  · rename_i h1; simp [inR] at h; exact .inl ⟨h1, by omega, by omega⟩
  · split at h
    · rename_i h1; simp [inR] at h; exact .inr (.inl ⟨h1, by omega, by omega⟩)
    · split at h
      · rename_i h1; simp [inR] at h; exact .inr (.inr (.inl ⟨h1, by omega, by omega⟩))
      · split at h
        · rename_i h1; simp [inR] at h; exact .inr (.inr (.inr (.inl ⟨h1, by omega, by omega⟩)))
        · split at h
          · rename_i h1; simp [inR] at h; exact .inr (.inr (.inr (.inr ⟨h1, by omega, by omega⟩)))
          · simp at h
/-- What cells and registers are in a change: numbers, so many. -/
structure Desk (n : Nat) (cr : List Int × List Int) : Prop where
  c : numsOk cr.1 = true
  r : numsOk cr.2 = true
  cl : cr.1.length = n
  rl : cr.2.length = 3
theorem Desk.deed {n : Nat} {cr cr' : List Int × List Int} (h : Desk n cr) {d : Deed} (hd : deedOk d n = true) (he : doDeed cr d = some cr') : Desk n cr' := by
  have h1 := numsOk_rd h.c d.b
  have h2 := numsOk_rd h.r d.b
  have h3 := numsOk_rd h.r d.a
  unfold doDeed at he
  rcases deedOk_kinds hd with ⟨hk, ha, hb⟩ | ⟨hk, ha, hb⟩ | ⟨hk, ha, hb⟩ | ⟨hk, ha, hb⟩ | ⟨hk, ha, hb⟩
  all_goals simp [hk] at he
  · subst he; exact ⟨h.c, numsOk_set h.r _ _ h1.1 h1.2, h.cl, by simp [h.rl]⟩
  · subst he; exact ⟨numsOk_set h.c _ _ h2.1 h2.2, h.r, by simp [h.cl], h.rl⟩
  · subst he; exact ⟨h.c, numsOk_set h.r _ _ hb.1 hb.2, h.cl, by simp [h.rl]⟩
  · subst he; exact ⟨h.c, numsOk_set h.r _ _ (by omega) (by omega), h.cl, by simp [h.rl]⟩
  · obtain ⟨_, rfl⟩ := he; exact h
theorem Desk.deeds {n : Nat} {cr cr' : List Int × List Int} (h : Desk n cr) {l : List Deed} (hl : l.all (deedOk · n) = true) (he : doDeeds cr l = some cr') : Desk n cr' := by
  induction l generalizing cr with
  | nil => simp [doDeeds] at he; subst he; exact h
  | cons a r ih =>
    simp only [doDeeds] at he
    simp only [List.all_cons, Bool.and_eq_true] at hl
    cases hx : doDeed cr a with
    | none => rw [hx] at he; simp at he
    | some y => rw [hx] at he; simp at he; exact ih (h.deed hl.1 hx) hl.2 he
theorem doDeed_reg {c r r' : List Int} {d : Deed} (hk : d.kind = 3 ∨ d.kind = 4) (h : doDeed ([], r) d = some ([], r')) : doDeed (c, r) d = some (c, r') := by
  unfold doDeed at *
  rcases hk with hk | hk <;> simp [hk] at h ⊢ <;> exact h
theorem deskOk_desk {cells regs : List Int} {deeds : List Deed} (h : deskOk cells regs deeds = true) : Desk cells.length (cells, regs) ∧ deeds.all (deedOk · cells.length) = true ∧ deeds.length ≤ 5 ∧ cells.length ≤ 3 := by
  simp only [deskOk, changeOk, inR, Bool.and_eq_true, decide_eq_true_eq] at h
  exact ⟨⟨h.1.2, h.2.1, rfl, h.2.2⟩, h.1.1.1.1, h.1.1.1.2, by omega⟩
theorem actOk_kinds {a : Act} {c b n : Int} (h : actOk a c b n = true) : a.kind = 1 ∨ a.kind = 2 ∧ a.kids.length ≤ 2 ∧ (∀ k ∈ a.kids, b + 1 ≤ k ∧ k ≤ n - 1) ∨ a.kind = 3 ∨ a.kind = 4 ∧ 0 ≤ a.reg ∧ a.reg ≤ 2 := by
  have hk := actOk_kids h
  unfold actOk at h
  split at h
  · exact .inl ‹_›
  · split at h
    · exact .inr (.inl ⟨‹_›, hk⟩)
    · split at h
      · exact .inr (.inr (.inl ‹_›))
      · split at h
        · rename_i h4; simp [inR] at h; exact .inr (.inr (.inr ⟨h4, by omega, by omega⟩))
        · simp at h
theorem changeDo_desk {cells regs : List Int} {deeds : List Deed} {cr : List Int × List Int} (h : changeDo cells regs deeds = some cr) : Desk cells.length cr := by
  unfold changeDo at h
  split at h
  · rename_i hd
    have := deskOk_desk hd
    exact this.1.deeds this.2.1 h
  · cases h
end Go.Proofs.Ytehgiijpmldiiaa
