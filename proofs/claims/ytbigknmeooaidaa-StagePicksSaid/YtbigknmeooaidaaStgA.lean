/-
  StageApart, as plain law: systems of one stage; who holds a later one.
-/
import Derived.Test.YtbigknmeooaidaaSet
namespace Go.Proofs.Ytbigknmeooaidaa
set_option linter.unusedVariables false
set_option linter.unusedSimpArgs false

theorem grp_get {s o : List Nat} {i : Nat} {G : List Nat} (h : (grp s o)[i]? = some G) : i < mxK s o o.length ∧ G = o.filter (fun p => s.getD p 0 == i) := by
  have hl := (List.getElem?_eq_some_iff.1 h).1
  unfold grp at h hl
  rw [grK_len] at hl
  rw [grK_get hl, List.take_length] at h
  injection h with h
  exact ⟨hl, h.symm⟩
theorem mem_grp {s o : List Nat} {i a : Nat} {G : List Nat} (h : (grp s o)[i]? = some G) : a ∈ G ↔ a ∈ o ∧ s.getD a 0 = i := by
  obtain ⟨_, rfl⟩ := grp_get h
  rw [List.mem_filter, beq_iff_eq]
theorem pos_of {o : List Nat} {a : Nat} (h : a ∈ o) : ∃ t : Nat, o[t]? = some a := by
  obtain ⟨t, ht, e⟩ := List.getElem_of_mem h
  exact ⟨t, by rw [List.getElem?_eq_getElem ht, e]⟩
/-- Systems of one stage are apart. -/
theorem stg_apart {l : List SysX} {o : List Nat} {n : Nat} (hrow : Row (aftX l) o) (hn : n = l.length) {a b : Nat} (ha : a ∈ o) (hb : b ∈ o) (hne : a ≠ b) (he : (stg (depX l) o n).getD a 0 = (stg (depX l) o n).getD b 0)
    {xa xb : SysX} (hxa : l[a]? = some xa) (hxb : l[b]? = some xb) : confR xa xb = false ∧ ¬ (b : Int) ∈ xa.af.l := by
  subst hn
  have hlt : ∀ i, i ∈ o → i < l.length := fun i hi => by have := hrow.lt i hi; simpa [aftX] using this
  obtain ⟨ta, hta⟩ := pos_of ha
  obtain ⟨tb, htb⟩ := pos_of hb
  have hnn : ta ≠ tb := fun e => by subst e; rw [hta] at htb; injection htb with e; exact hne e
  rcases Nat.lt_or_gt_of_ne hnn with c | c
  · have hm : a ∈ o.take tb := by rw [List.mem_iff_getElem?]; exact ⟨ta, by rw [List.getElem?_take_of_lt c]; exact hta⟩
    have hd : depX l b a = false := by
      rw [← Bool.not_eq_true]
      intro hd
      have := stg_above hrow.nodup hlt htb hm hd
      omega
    rw [depX_of hxb hxa, Bool.or_eq_false_iff] at hd
    refine ⟨by rw [confR_comm, ← confB_eq]; exact hd.2, fun hx => ?_⟩
    obtain ⟨k, hk, e⟩ := hrow.ahead ta a hta b (by
      unfold aftX aftOf
      rw [List.getD_eq_getElem?_getD, List.getElem?_map, hxa]
      exact hx)
    have : k = b := by omega
    subst this
    obtain ⟨t2, ht2, e2⟩ := List.getElem_of_mem hk
    rw [List.length_take] at ht2
    rw [List.getElem_take] at e2
    have htbl := (List.getElem?_eq_some_iff.1 htb).1
    have e3 := (List.getElem?_eq_some_iff.1 htb).2
    have := (List.getElem_inj (i := t2) (j := tb) (h₀ := by omega) (h₁ := htbl) hrow.nodup).1 (e2.trans e3.symm)
    omega
  · have hm : b ∈ o.take ta := by rw [List.mem_iff_getElem?]; exact ⟨tb, by rw [List.getElem?_take_of_lt c]; exact htb⟩
    have hd : depX l a b = false := by
      rw [← Bool.not_eq_true]
      intro hd
      have := stg_above hrow.nodup hlt hta hm hd
      omega
    rw [depX_of hxa hxb, Bool.or_eq_false_iff] at hd
    exact ⟨by rw [← confB_eq]; exact hd.2, hasL_no.1 hd.1⟩
/-- A system of a later stage is held. -/
theorem stg_held {l : List SysX} {o : List Nat} {n : Nat} (hrow : Row (aftX l) o) (hn : n = l.length) {a i : Nat} (ha : a ∈ o) (hi : 0 < i) (he : (stg (depX l) o n).getD a 0 = i) {xa : SysX} (hxa : l[a]? = some xa) :
    ∃ b xb, b ∈ o ∧ (stg (depX l) o n).getD b 0 = i - 1 ∧ l[b]? = some xb ∧ (confR xa xb = true ∨ (b : Int) ∈ xa.af.l) := by
  subst hn
  have hlt : ∀ i, i ∈ o → i < l.length := fun i hi => by have := hrow.lt i hi; simpa [aftX] using this
  obtain ⟨ta, hta⟩ := pos_of ha
  obtain ⟨b, hb, hd, hs⟩ := stg_from (dep := depX l) hrow.nodup hlt hta (by omega)
  have hbo := List.mem_of_mem_take hb
  obtain ⟨xb, hxb⟩ : ∃ xb, l[b]? = some xb := ⟨_, List.getElem?_eq_getElem (hlt b hbo)⟩
  rw [depX_of hxa hxb, Bool.or_eq_true] at hd
  refine ⟨b, xb, hbo, by omega, hxb, ?_⟩
  rcases hd with h | h
  · exact .inr (hasL_iff.1 h)
  · exact .inl (by rw [← confB_eq]; exact h)
/-- How many systems the first i stages have. -/
def cntS (s o : List Nat) (i : Nat) : Nat := (o.filter (fun p => decide (s.getD p 0 < i))).length
theorem cntS_zero (s o : List Nat) : cntS s o 0 = 0 := by
  unfold cntS
  rw [List.length_eq_zero_iff, List.filter_eq_nil_iff]
  intro a _
  simp
theorem cntS_succ {s : List Nat} (i : Nat) : ∀ o : List Nat, cntS s o (i + 1) = cntS s o i + (o.filter (fun p => s.getD p 0 == i)).length
  | [] => rfl
  | a :: o => by
    have ih := cntS_succ (s := s) i o
    unfold cntS at ih ⊢
    rw [List.filter_cons, List.filter_cons, List.filter_cons]
    by_cases h1 : s.getD a 0 = i
    · rw [if_pos (decide_eq_true (by omega)), if_neg (by rw [decide_eq_true_eq]; omega), if_pos (by rw [beq_iff_eq]; exact h1)]
      simp only [List.length_cons]
      omega
    · by_cases h2 : s.getD a 0 < i
      · rw [if_pos (decide_eq_true (by omega)), if_pos (decide_eq_true h2), if_neg (by rw [beq_iff_eq]; exact h1)]
        simp only [List.length_cons]
        omega
      · rw [if_neg (by rw [decide_eq_true_eq]; omega), if_neg (by rw [decide_eq_true_eq]; exact h2), if_neg (by rw [beq_iff_eq]; exact h1)]
        exact ih
theorem cntS_all (s o : List Nat) : cntS s o (mxK s o o.length) = o.length := by
  unfold cntS
  rw [List.filter_eq_self.2]
  intro a ha
  rw [decide_eq_true_eq]
  exact mxK_mem (s := s) o.length a (by rw [List.take_length]; exact ha)
theorem badSys_tame {A : List (List Int)} (h : ∀ (p : Nat) (l : List Int), A[p]? = some l → ∀ x, x ∈ l → 0 ≤ x ∧ x < A.length ∧ x ≠ p) : badSys A = false := by
  unfold badSys
  rw [List.any_eq_false]
  intro i hi
  have hi := List.mem_range.1 hi
  rw [Bool.not_eq_true, List.any_eq_false]
  intro x hx
  obtain ⟨h1, h2, h3⟩ := h i A[i] (List.getElem?_eq_getElem hi) x (by
    unfold aftOf at hx
    rw [List.getD_eq_getElem?_getD, List.getElem?_eq_getElem hi] at hx
    exact hx)
  unfold badAt
  simp only [Bool.or_eq_true, decide_eq_true_eq, beq_iff_eq, not_or]
  omega
end Go.Proofs.Ytbigknmeooaidaa
