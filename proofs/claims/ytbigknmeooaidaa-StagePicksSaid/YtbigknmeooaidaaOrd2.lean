/-
  Who is ahead of whom: one step, never back, and so in the order. No program in sight.
-/
import Derived.Test.YtbigknmeooaidaaOrd
namespace Go.Proofs.Ytbigknmeooaidaa
set_option linter.unusedVariables false
set_option linter.unusedSimpArgs false

/-- One step of 'behind'. -/
def hitB (A : List (List Int)) (b : List Nat) (x : Nat) : Bool := (aftOf A x).any (fun y => b.any (fun k => (k : Int) == y))
theorem hitB_iff {A : List (List Int)} {b : List Nat} {x : Nat} : hitB A b x = true ↔ ∃ y, y ∈ aftOf A x ∧ ∃ k, k ∈ b ∧ (k : Int) = y := by
  simp [hitB, List.any_eq_true]
theorem behG_cons (A : List (List Int)) (b : List Nat) (x : Nat) (t : List Nat) : behG A b (x :: t) = behG A (if hitB A b x = true then b ++ [x] else b) t := by
  conv => lhs; unfold behG
  unfold hitB
  split <;> simp
theorem behG_sub (A : List (List Int)) : ∀ (t b : List Nat) (k : Nat), k ∈ behG A b t → k ∈ b ∨ k ∈ t
  | [], b, k, h => .inl h
  | x :: t, b, k, h => by
    rw [behG_cons] at h
    rcases behG_sub A t _ k h with h | h
    · split at h
      · rcases List.mem_append.1 h with h | h
        · exact .inl h
        · simp at h; exact .inr (by simp [h])
      · exact .inl h
    · exact .inr (List.mem_cons_of_mem _ h)
theorem behG_mono (A : List (List Int)) : ∀ (t b : List Nat) (k : Nat), k ∈ b → k ∈ behG A b t
  | [], b, k, h => h
  | x :: t, b, k, h => by
    rw [behG_cons]
    refine behG_mono A t _ k ?_
    split
    · exact List.mem_append_left _ h
    · exact h
/-- Who is behind i, through a row that keeps what waits. -/
theorem behG_char (A : List (List Int)) (i : Nat) : ∀ (t s b : List Nat), Row A (s ++ t) → (∀ k, k ∈ b → k = i ∨ k ∈ s) → i ∈ b →
    (∀ k, k ∈ s → (k ∈ b ↔ k = i ∨ ∃ y, y ∈ aftOf A k ∧ ∃ j, j ∈ b ∧ (j : Int) = y)) → (∀ k, k ∈ b → k ∈ s → i ∈ s → (s ++ t).idxOf i ≤ (s ++ t).idxOf k) → (∀ k, k ∈ s → k ∈ b → k ≠ i → i ∈ s) →
    (∀ k, k ∈ s ++ t → (k ∈ behG A b t ↔ k = i ∨ ∃ y, y ∈ aftOf A k ∧ ∃ j, j ∈ behG A b t ∧ (j : Int) = y)) ∧ (∀ k, k ∈ behG A b t → k ∈ s ++ t → i ∈ s ++ t → (s ++ t).idxOf i ≤ (s ++ t).idxOf k)
  | [], s, b, hr, hb, hi, hc, hp, hq => by
    simp only [List.append_nil] at hp ⊢
    exact ⟨fun k hk => by simpa [behG] using hc k hk, fun k hk hks his => hp k (by simpa [behG] using hk) hks his⟩
  | x :: t, s, b, hr, hb, hi, hc, hp, hq => by
    have e : s ++ x :: t = (s ++ [x]) ++ t := by simp
    have hxs : x ∉ s := fun hx => by
      have := hr.nodup
      rw [List.nodup_append] at this
      exact this.2.2 x hx x (by simp) rfl
    have hx : (s ++ x :: t)[s.length]? = some x := by simp
    have hax := hr.ahead s.length x hx
    rw [List.take_left] at hax
    have hits : hitB A b x = true ↔ ∃ y, y ∈ aftOf A x ∧ ∃ j, j ∈ b ∧ (j : Int) = y := hitB_iff
    obtain ⟨b', hb'⟩ : ∃ b', b' = if hitB A b x = true then b ++ [x] else b := ⟨_, rfl⟩
    have hmem : ∀ k, k ∈ b' ↔ k ∈ b ∨ (hitB A b x = true ∧ k = x) := fun k => by
      rw [hb']
      split
      · rename_i h; simp [h]
      · rename_i h; simp [h]
    have hidx : ∀ k, k ∈ s → (s ++ x :: t).idxOf k < s.length := fun k hk => by
      rw [List.idxOf_append, if_pos hk]
      exact List.idxOf_lt_length_of_mem hk
    have hidxx : (s ++ x :: t).idxOf x = s.length := by
      rw [List.idxOf_append, if_neg hxs]
      simp
    rw [behG_cons, ← hb', e]
    refine behG_char A i t (s ++ [x]) b' (e ▸ hr) (fun k hk => ?_) ((hmem i).2 (.inl hi)) (fun k hk => ?_) (fun k hk hks his => ?_) (fun k hks hk hne => ?_)
    · rcases (hmem k).1 hk with h | ⟨_, rfl⟩
      · exact (hb k h).imp id (fun h => List.mem_append_left _ h)
      · exact .inr (by simp)
    · have hold : (∃ y, y ∈ aftOf A k ∧ ∃ j, j ∈ b' ∧ (j : Int) = y) ↔ ∃ y, y ∈ aftOf A k ∧ ∃ j, j ∈ b ∧ (j : Int) = y := by
        constructor
        · rintro ⟨y, hy, j, hj, rfl⟩
          rcases (hmem j).1 hj with h | ⟨_, rfl⟩
          · exact ⟨_, hy, j, h, rfl⟩
          · exfalso
            rcases List.mem_append.1 hk with hk | hk
            · obtain ⟨q, hq1, hq2⟩ := List.getElem_of_mem hk
              have h1 := hr.ahead q k (by rw [List.getElem?_append_left hq1, List.getElem?_eq_getElem hq1, hq2]) _ hy
              obtain ⟨j', hj', e'⟩ := h1
              have : j' = j := by omega
              subst this
              rw [List.take_append_of_le_length (by omega)] at hj'
              exact hxs (List.mem_of_mem_take hj')
            · simp at hk
              subst hk
              obtain ⟨j', hj', e'⟩ := hax _ hy
              have : j' = k := by omega
              subst this
              exact hxs hj'
        · rintro ⟨y, hy, j, hj, e⟩
          exact ⟨y, hy, j, (hmem j).2 (.inl hj), e⟩
      rw [hold, hmem]
      rcases List.mem_append.1 hk with hk | hk
      · have hkx : k ≠ x := fun e => hxs (e ▸ hk)
        rw [← hc k hk]
        constructor
        · rintro (h | ⟨_, h⟩)
          · exact h
          · exact (hkx h).elim
        · exact .inl
      · simp at hk
        subst hk
        rw [← hits]
        constructor
        · rintro (h | ⟨h, _⟩)
          · rcases hb k h with h | h
            · exact .inl h
            · exact (hxs h).elim
          · exact .inr h
        · rintro (rfl | h)
          · exact .inl hi
          · exact .inr ⟨h, rfl⟩
    · rw [← e]
      rcases (hmem k).1 hk with h | ⟨h, rfl⟩
      · rcases List.mem_append.1 his with his | his
        · rcases hb k h with rfl | hks'
          · exact Nat.le_refl _
          · exact hp k h hks' his
        · simp at his
          subst his
          rcases hb k h with rfl | hks'
          · exact Nat.le_refl _
          · exact (hxs (hq k hks' h (fun e => hxs (e ▸ hks')))).elim
      · obtain ⟨y, hy, j, hj, rfl⟩ := hits.1 h
        obtain ⟨j', hj', e'⟩ := hax _ hy
        have hjj : j' = j := by omega
        subst hjj
        rw [hidxx]
        rcases List.mem_append.1 his with his | his
        · exact Nat.le_of_lt (hidx i his)
        · simp at his
          subst his
          exact Nat.le_of_eq hidxx
    · rcases (hmem k).1 hk with h | ⟨h, rfl⟩
      · rcases hb k h with rfl | hks'
        · exact (hne rfl).elim
        · exact List.mem_append_left _ (hq k hks' h hne)
      · obtain ⟨y, hy, j, hj, rfl⟩ := hits.1 h
        obtain ⟨j', hj', e'⟩ := hax _ hy
        have hjj : j' = j := by omega
        subst hjj
        by_cases e2 : j' = i
        · subst e2
          exact List.mem_append_left _ hj'
        · exact List.mem_append_left _ (hq j' hj' hj e2)

theorem ahead_char {A : List (List Int)} (h : chk A = 0) (i : Nat) (hi : i < A.length) :
    (∀ k, k < A.length → (k ∈ behG A [i] (ord A) ↔ k = i ∨ ∃ y, y ∈ aftOf A k ∧ ∃ j, j ∈ behG A [i] (ord A) ∧ (j : Int) = y)) ∧ (∀ k, k ∈ behG A [i] (ord A) → k < A.length → (ord A).idxOf i ≤ (ord A).idxOf k) := by
  obtain ⟨_, _, h3⟩ := chk_zero h
  have hall := (ord_row A).all h3
  have := behG_char A i (ord A) [] [i] (by simpa using ord_row A) (fun k hk => .inl (by simpa using hk)) (by simp) (fun k hk => by cases hk) (fun k _ hk => by cases hk) (fun k hk => by cases hk)
  simp only [List.nil_append] at this
  exact ⟨fun k hk => this.1 k (hall k hk), fun k hk hkl => this.2 k hk (hall k hkl) (hall i hi)⟩
theorem aheadB_iff {A : List (List Int)} (h : chk A = 0) {i k : Nat} (hi : i < A.length) (hk : k < A.length) : aheadB A i k = true ↔ i ≠ k ∧ k ∈ behG A [i] (ord A) := by
  unfold aheadB
  simp [h, hi, hk]
  omega
theorem idx_ahead {A : List (List Int)} {k : Nat} {y : Int} (hk : k ∈ ord A) (hy : y ∈ aftOf A k) : ∃ j : Nat, (j : Int) = y ∧ (ord A).idxOf j < (ord A).idxOf k ∧ j ∈ ord A := by
  have hl := List.idxOf_lt_length_of_mem hk
  have hg : (ord A)[(ord A).idxOf k]? = some k := by rw [List.getElem?_eq_getElem hl, List.getElem_idxOf hl]
  obtain ⟨j, hj, e⟩ := (ord_row A).ahead _ _ hg y hy
  obtain ⟨q, hq, e2⟩ := List.getElem_of_mem hj
  rw [List.getElem_take] at e2
  simp at hq
  have hjm : j ∈ ord A := List.mem_of_mem_take hj
  refine ⟨j, e, ?_, hjm⟩
  rcases Nat.lt_or_ge ((ord A).idxOf j) ((ord A).idxOf k) with h | h
  · exact h
  · exfalso
    have hlj := List.idxOf_lt_length_of_mem hjm
    have hnd := (ord_row A).nodup
    have e3 : (ord A)[q]'(by omega) = (ord A)[(ord A).idxOf j] := by rw [e2, List.getElem_idxOf hlj]
    have := (List.getElem_inj hnd).1 e3
    omega
theorem ahead_pos {A : List (List Int)} (h : chk A = 0) {i k : Nat} (hi : i < A.length) (hk : k < A.length) (ha : aheadB A i k = true) : (ord A).idxOf i < (ord A).idxOf k := by
  obtain ⟨hne, hm⟩ := (aheadB_iff h hi hk).1 ha
  have h1 := (ahead_char h i hi).2 k hm hk
  rcases Nat.lt_or_ge ((ord A).idxOf i) ((ord A).idxOf k) with h2 | h2
  · exact h2
  · exfalso
    obtain ⟨_, _, h3⟩ := chk_zero h
    have hall := (ord_row A).all h3
    have hli := List.idxOf_lt_length_of_mem (hall i hi)
    have hlk := List.idxOf_lt_length_of_mem (hall k hk)
    have e : (ord A).idxOf i = (ord A).idxOf k := by omega
    have e2 : (ord A)[(ord A).idxOf i] = (ord A)[(ord A).idxOf k] := by congr 1
    rw [List.getElem_idxOf hli, List.getElem_idxOf hlk] at e2
    exact hne e2
theorem ahead_back {A : List (List Int)} (h : chk A = 0) {i k : Nat} (hi : i < A.length) (hk : k < A.length) (ha : aheadB A i k = true) : aheadB A k i = false := by
  cases hb : aheadB A k i
  · rfl
  · have h1 := ahead_pos h hi hk ha
    have h2 := ahead_pos h hk hi hb
    omega
theorem ahead_step {A : List (List Int)} (h : chk A = 0) {i k : Nat} (hi : i < A.length) (hk : k < A.length) : aheadB A i k = ((aftOf A k).any (fun y => y == (i : Int)) || (aftOf A k).any (fun y => aheadB A i y)) := by
  obtain ⟨_, hok, h3⟩ := chk_zero h
  have hall := (ord_row A).all h3
  obtain ⟨c1, c2⟩ := ahead_char h i hi
  rw [Bool.eq_iff_iff, aheadB_iff h hi hk, c1 k hk]
  simp only [Bool.or_eq_true, List.any_eq_true, beq_iff_eq]
  constructor
  · rintro ⟨hne, rfl | ⟨y, hy, j, hj, rfl⟩⟩
    · exact (hne rfl).elim
    · by_cases e : j = i
      · subst e
        exact .inl ⟨_, hy, rfl⟩
      · obtain ⟨_, hj2, _⟩ := okA hok k hk _ hy
        exact .inr ⟨_, hy, (aheadB_iff h hi (by omega)).2 ⟨fun e' => e e'.symm, hj⟩⟩
  · intro hh
    have key : ∃ y, y ∈ aftOf A k ∧ ∃ j, j ∈ behG A [i] (ord A) ∧ (j : Int) = y := by
      rcases hh with ⟨y, hy, rfl⟩ | ⟨y, hy, ha⟩
      · exact ⟨_, hy, i, behG_mono A _ _ _ (by simp), rfl⟩
      · obtain ⟨y0, y1, _⟩ := okA hok k hk y hy
        obtain ⟨j, rfl⟩ : ∃ j : Nat, y = j := ⟨y.toNat, by omega⟩
        exact ⟨_, hy, j, ((aheadB_iff h hi (by omega)).1 ha).2, rfl⟩
    refine ⟨fun e => ?_, .inr key⟩
    subst e
    obtain ⟨y, hy, j, hj, rfl⟩ := key
    obtain ⟨j', e', hlt, hjm⟩ := idx_ahead (hall i hi) hy
    have e2 : j' = j := by omega
    rw [e2] at hlt hjm
    have := c2 j hj ((ord_row A).lt j hjm)
    omega
theorem ahead_out {A : List (List Int)} {a b : Int} (h : a < 0 ∨ (A.length : Int) ≤ a) : aheadB A a b = false ∧ aheadB A b a = false := by
  unfold aheadB
  rcases h with h | h
  · simp [show ¬ 0 ≤ a by omega]
  · simp [show ¬ a < A.length by omega]
end Go.Proofs.Ytbigknmeooaidaa
