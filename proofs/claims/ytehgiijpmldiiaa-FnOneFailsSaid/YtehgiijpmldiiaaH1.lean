/- The plain law of FnOneFails: a first body that fails at last leaves what it left, and failed. -/
import Derived.Test.YtehgiijpmldiiaaM2
namespace Go.Proofs.Ytehgiijpmldiiaa
set_option linter.unusedVariables false
set_option linter.unusedSimpArgs false

def actFail : Act := ⟨3, [], [], 0⟩
/-- A body with a failing act behind it. -/
theorem runActs_fail (f : List Int → Nat → Option (List Int × Bool)) (l : List Act) : ∀ (cells regs : List Int) (c : List Int) (b : Bool), runActs f cells regs l = some (c, b) → runActs f cells regs (l ++ [actFail]) = some (c, true) := by
  induction l with
  | nil =>
    intro cells regs c b h
    simp [runActs] at h
    simp [runActs, actFail, h.1]
  | cons a r ih =>
    intro cells regs c b h
    rw [List.cons_append]
    unfold runActs at h ⊢
    by_cases h1 : a.kind = 1
    · rw [if_pos h1] at h ⊢
      cases hc : changeDo cells regs a.deeds with
      | none => rw [hc] at h; cases h
      | some x => obtain ⟨c1, rg⟩ := x; rw [hc] at h; exact ih _ _ _ _ h
    · rw [if_neg h1] at h ⊢
      by_cases h2 : a.kind = 2
      · rw [if_pos h2] at h ⊢
        cases hc : runKids f cells a.kids with
        | none => rw [hc] at h; cases h
        | some x =>
          obtain ⟨c1, rg⟩ := x
          rw [hc] at h
          cases rg with
          | true => simp at h ⊢; exact h.1
          | false => exact ih _ _ _ _ h
      · rw [if_neg h2] at h ⊢
        by_cases h4 : a.kind = 4 ∧ rdI regs a.reg = 0
        · rw [if_pos h4] at h ⊢; exact ih _ _ _ _ h
        · rw [if_neg h4] at h ⊢
          simp at h ⊢; exact h.1
def failed (p : Prog) : Prog := ⟨p.cells, p.bodies.set 0 (p.bodies.getD 0 [] ++ [actFail])⟩
/-- Bodies but the first do not come upon the first. -/
theorem runKids_congr (f g : List Int → Nat → Option (List Int × Bool)) (l : List Int) (h : ∀ c, ∀ k ∈ l, f c k.toNat = g c k.toNat) : ∀ cells, runKids f cells l = runKids g cells l := by
  induction l with
  | nil => intro cells; rfl
  | cons a r ih =>
    intro cells
    unfold runKids
    rw [h cells a (List.mem_cons_self ..)]
    cases g cells a.toNat with
    | none => rfl
    | some x =>
      obtain ⟨c, b⟩ := x
      cases b with
      | true => rfl
      | false => exact ih (fun c k hk => h c k (List.mem_cons_of_mem _ hk)) c
theorem runActs_congr (f g : List Int → Nat → Option (List Int × Bool)) (l : List Act) (h : ∀ a ∈ l, a.kind = 2 → ∀ c, ∀ k ∈ a.kids, f c k.toNat = g c k.toNat) : ∀ cells regs, runActs f cells regs l = runActs g cells regs l := by
  induction l with
  | nil => intro cells regs; rfl
  | cons a r ih =>
    intro cells regs
    have ih' := ih fun b hb => h b (List.mem_cons_of_mem _ hb)
    unfold runActs
    by_cases h1 : a.kind = 1
    · rw [if_pos h1, if_pos h1]
      cases changeDo cells regs a.deeds with
      | none => rfl
      | some x => exact ih' _ _
    · rw [if_neg h1, if_neg h1]
      by_cases h2 : a.kind = 2
      · rw [if_pos h2, if_pos h2, runKids_congr f g a.kids (h a (List.mem_cons_self ..) h2)]
        cases runKids g cells a.kids with
        | none => rfl
        | some x =>
          obtain ⟨c, b⟩ := x
          cases b with
          | true => rfl
          | false => exact ih' _ _
      · rw [if_neg h2, if_neg h2, ih']
theorem body_kids {p : Prog} (hf : formOk p = true) {b : Nat} (hb : b < p.bodies.length) : ∀ a ∈ p.bodies[b], a.kind = 2 → ∀ k ∈ a.kids, (b : Int) + 1 ≤ k ∧ k ≤ (p.bodies.length : Int) - 1 := by
  intro a ha h2 k hk
  have h := formOk_body hf hb
  simp only [bodyOk, Bool.and_eq_true, List.all_eq_true] at h
  rcases actOk_kinds (h.2 a ha) with e | ⟨_, _, hk'⟩ | e | ⟨e, _⟩
  · omega
  · exact hk' k hk
  · omega
  · omega
theorem failed_body (p : Prog) (b : Nat) (hb : 0 < b) : (failed p).bodies.getD b [] = p.bodies.getD b [] := by
  simp only [failed, List.getD_eq_getElem?_getD]
  rw [List.getElem?_set_ne (by omega)]
theorem oneBody_failed {p : Prog} (hf : formOk p = true) : ∀ (n : Nat) (c : List Int) (b : Nat), 0 < b → oneBody n (failed p) c b = oneBody n p c b := by
  intro n
  induction n with
  | zero => intro c b _; rfl
  | succ n ih =>
    intro c b hb
    unfold oneBody
    rw [failed_body p b hb]
    refine runActs_congr _ _ _ (fun a ha h2 c k hk => ?_) _ _
    rcases Nat.lt_or_ge b p.bodies.length with hlt | hge
    · rw [List.getD_eq_getElem?_getD, List.getElem?_eq_getElem hlt, Option.getD_some] at ha
      have := body_kids hf hlt a ha h2 k hk
      exact ih _ _ (by omega)
    · rw [List.getD_eq_getElem?_getD, List.getElem?_eq_none hge] at ha
      simp at ha
theorem run_failed {p : Prog} (hf : formOk p = true) {n : Nat} {c c' : List Int} {b : Bool} (h : oneBody (n + 1) p c 0 = some (c', b)) : oneBody (n + 1) (failed p) c 0 = some (c', true) := by
  have hl := (formOk_len hf).2.1
  unfold oneBody at h ⊢
  have e : (failed p).bodies.getD 0 [] = p.bodies.getD 0 [] ++ [actFail] := by
    simp only [failed, List.getD_eq_getElem?_getD]
    rw [List.getElem?_set_self (by omega)]; rfl
  rw [e]
  refine runActs_fail _ _ _ _ c' b ?_
  rw [← h]
  refine (runActs_congr _ _ _ (fun a ha h2 c k hk => ?_) _ _)
  rw [List.getD_eq_getElem?_getD, List.getElem?_eq_getElem (by omega : 0 < p.bodies.length), Option.getD_some] at ha
  have := body_kids hf (by omega) a ha h2 k hk
  exact oneBody_failed hf _ _ _ (by omega)
theorem body_kids_all {p : Prog} (hf : formOk p = true) {b : Nat} (hb : b < p.bodies.length) : ∀ a ∈ p.bodies[b], ∀ k ∈ a.kids, (b : Int) + 1 ≤ k ∧ k ≤ (p.bodies.length : Int) - 1 := by
  intro a ha
  have h := formOk_body hf hb
  simp only [bodyOk, Bool.and_eq_true, List.all_eq_true] at h
  exact (actOk_kids (h.2 a ha)).2
theorem actsSum_congr (f g : Int → Int) (l : List Act) (h : ∀ a ∈ l, ∀ k ∈ a.kids, f k = g k) : actsSum f l = actsSum g l := by
  unfold actsSum sumOf
  congr 1
  refine List.map_congr_left fun k hk => ?_
  obtain ⟨a, ha, hk⟩ := List.mem_flatMap.1 hk
  exact h a ha k hk
theorem tree_failed {p : Prog} (hf : formOk p = true) : ∀ (n b : Nat), tree n (failed p) b = tree n p b := by
  intro n
  induction n with
  | zero => intro b; rfl
  | succ n ih =>
    intro b
    unfold tree
    have e : actsSum (fun k => tree n (failed p) k.toNat) ((failed p).bodies.getD b []) = actsSum (fun k => tree n p k.toNat) ((failed p).bodies.getD b []) := actsSum_congr _ _ _ fun _ _ k _ => ih _
    rw [e]
    rcases Nat.eq_zero_or_pos b with rfl | hb
    · have hl := (formOk_len hf).2.1
      have e : (failed p).bodies.getD 0 [] = p.bodies.getD 0 [] ++ [actFail] := by
        simp only [failed, List.getD_eq_getElem?_getD]
        rw [List.getElem?_set_self (by omega)]; rfl
      rw [e]
      simp [actsSum, sumOf, actFail]
    · rw [failed_body p b hb]
theorem progOk_failed {p : Prog} (h : progOk p = true) (hl : (p.bodies.getD 0 []).length < 4) : progOk (failed p) = true := by
  simp only [progOk, Bool.and_eq_true] at h ⊢
  refine ⟨?_, by rw [tree_failed h.1]; exact h.2⟩
  have hb := (formOk_len h.1).2.1
  have hf := h.1
  have hlen : (failed p).bodies.length = p.bodies.length := by simp [failed]
  simp only [formOk, Bool.and_eq_true, bodiesOk, List.all_eq_true, List.mem_range] at hf ⊢
  rw [hlen]
  refine ⟨hf.1, fun i hi => ?_⟩
  have hi' := hf.2 i hi
  rcases Nat.eq_zero_or_pos i with rfl | hp
  · have e : (failed p).bodies.getD 0 [] = p.bodies.getD 0 [] ++ [actFail] := by
      simp only [failed, List.getD_eq_getElem?_getD]
      rw [List.getElem?_set_self (by omega)]; rfl
    show bodyOk ((failed p).bodies.getD 0 []) _ _ _ = true
    rw [e]
    simp only [bodyOk, Bool.and_eq_true, decide_eq_true_eq, List.length_append, List.length_singleton, List.all_append] at hi' ⊢
    refine ⟨by omega, hi'.2, ?_⟩
    simp [actFail, actOk]
  · show bodyOk ((failed p).bodies.getD i []) _ _ _ = true
    rw [failed_body p i hp]
    exact hi'
/-- The plain law. -/
theorem oneRun_failed {p : Prog} {c : List Int} {b : Bool} (h : oneRun p = some (c, b)) (hl : (p.bodies.getD 0 []).length < 4) : oneRun (failed p) = some (c, true) := by
  unfold oneRun at h ⊢
  by_cases hp : progOk p = true
  · rw [if_pos hp] at h
    rw [if_pos (progOk_failed hp hl)]
    have hf : formOk p = true := by simp only [progOk, Bool.and_eq_true] at hp; exact hp.1
    exact run_failed hf h
  · rw [if_neg hp] at h; cases h
end Go.Proofs.Ytehgiijpmldiiaa
