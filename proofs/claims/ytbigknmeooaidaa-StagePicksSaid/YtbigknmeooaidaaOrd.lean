/-
  The plain law of who comes ahead of whom: rows of numbers, no program in sight.
-/
import Init
namespace Go.Proofs.Ytbigknmeooaidaa
set_option linter.unusedVariables false
set_option linter.unusedSimpArgs false

/-- What number i waits for. -/
def aftOf (A : List (List Int)) (i : Nat) : List Int := A.getD i []
/-- Whether i may not wait for x. -/
def badAt (n i : Nat) (x : Int) : Bool := decide (x < 0) || (decide ((n : Int) ≤ x) || x == (i : Int))
def badSys (A : List (List Int)) : Bool := (List.range A.length).any (fun i => (aftOf A i).any (badAt A.length i))
/-- Whether i may come next. -/
def freeAt (A : List (List Int)) (done : List Nat) (i : Nat) : Bool := !done.contains i && (aftOf A i).all (fun x => done.any (fun k => (k : Int) == x))
def nextOf (A : List (List Int)) (done : List Nat) : Option Nat := (List.range A.length).find? (freeAt A done)
def ordG (A : List (List Int)) : Nat → List Nat → List Nat
  | 0, done => done
  | f + 1, done => match nextOf A done with
    | none => done
    | some i => ordG A f (done ++ [i])
def ord (A : List (List Int)) : List Nat := ordG A A.length []
def chk (A : List (List Int)) : Int := if 64 < A.length then 2 else if badSys A = true then 1 else if (ord A).length < A.length then 20 else 0

theorem badAt_false {n i : Nat} {x : Int} (h : badAt n i x = false) : 0 ≤ x ∧ x < n ∧ x ≠ i := by
  simp [badAt] at h
  omega
theorem okA {A : List (List Int)} (h : badSys A = false) (i : Nat) (hi : i < A.length) (x : Int) (hx : x ∈ aftOf A i) : 0 ≤ x ∧ x < A.length ∧ x ≠ i := by
  simp only [badSys, List.any_eq_false, List.mem_range] at h
  have := h i hi
  simp only [Bool.not_eq_true, List.any_eq_false] at this
  have := this x hx
  exact badAt_false (by simpa using this)

theorem freeAt_true {A : List (List Int)} {done : List Nat} {i : Nat} : freeAt A done i = true ↔ i ∉ done ∧ ∀ x, x ∈ aftOf A i → ∃ k, k ∈ done ∧ (k : Int) = x := by
  simp [freeAt, List.all_eq_true]

theorem nextOf_some {A : List (List Int)} {done : List Nat} {i : Nat} (h : nextOf A done = some i) : i < A.length ∧ freeAt A done i = true ∧ ∀ j, j < i → freeAt A done j = false := by
  have h1 := List.find?_some h
  have h2 := List.mem_of_find?_eq_some h
  refine ⟨List.mem_range.1 h2, h1, fun j hj => ?_⟩
  have h3 := List.find?_eq_some_iff_append.1 h
  obtain ⟨_, as, bs, hab, hn⟩ := h3
  have : j ∈ as := by
    have hl : as.length = i := by
      have e := congrArg (fun l => l[as.length]?) hab
      simp at e
      obtain ⟨e1, e2⟩ := List.getElem?_eq_some_iff.1 e
      simpa using e2
    have e := congrArg (fun l => l[j]?) hab
    rw [List.getElem?_append_left (by omega), List.getElem?_range (by have := List.mem_range.1 h2; omega)] at e
    exact List.mem_of_getElem? e.symm
  simpa using hn j this
theorem nextOf_none {A : List (List Int)} {done : List Nat} (h : nextOf A done = none) (j : Nat) (hj : j < A.length) : freeAt A done j = false := by
  have := List.find?_eq_none.1 h j (List.mem_range.2 hj)
  simpa using this
theorem nextOf_is {A : List (List Int)} {done : List Nat} {i : Nat} (hi : i < A.length) (h : freeAt A done i = true) (hl : ∀ j, j < i → freeAt A done j = false) : nextOf A done = some i := by
  cases h' : nextOf A done with
  | none => rw [nextOf_none h' i hi] at h; cases h
  | some k =>
    obtain ⟨h1, h2, h3⟩ := nextOf_some h'
    rcases Nat.lt_trichotomy i k with e | e | e
    · rw [h3 i e] at h; cases h
    · rw [e]
    · rw [hl k e] at h2; cases h2
theorem nextOf_no {A : List (List Int)} {done : List Nat} (hl : ∀ j, j < A.length → freeAt A done j = false) : nextOf A done = none := by
  cases h' : nextOf A done with
  | none => rfl
  | some k =>
    obtain ⟨h1, h2, h3⟩ := nextOf_some h'
    rw [hl k h1] at h2; cases h2

/-- A row of numbers below n, each once, each behind those it waits for. -/
structure Row (A : List (List Int)) (l : List Nat) : Prop where
  lt : ∀ i, i ∈ l → i < A.length
  nodup : l.Nodup
  ahead : ∀ (j : Nat) (i : Nat), l[j]? = some i → ∀ x, x ∈ aftOf A i → ∃ k, k ∈ l.take j ∧ (k : Int) = x
theorem Row.nil (A : List (List Int)) : Row A [] := ⟨by simp, by simp, by simp⟩
theorem Row.snoc {A : List (List Int)} {l : List Nat} (h : Row A l) {i : Nat} (hi : i < A.length) (hf : freeAt A l i = true) : Row A (l ++ [i]) := by
  obtain ⟨h1, h2⟩ := freeAt_true.1 hf
  refine ⟨fun k hk => ?_, ?_, fun j k hj x hx => ?_⟩
  · rcases List.mem_append.1 hk with hk | hk
    · exact h.lt k hk
    · simp at hk; omega
  · rw [List.nodup_append]
    refine ⟨h.nodup, by simp, fun a ha b hb => ?_⟩
    simp at hb
    subst hb
    exact fun e => h1 (e ▸ ha)
  · by_cases e : j < l.length
    · rw [List.getElem?_append_left e] at hj
      rw [List.take_append_of_le_length (by omega)]
      exact h.ahead j k hj x hx
    · have hj' := (List.getElem?_eq_some_iff.1 hj).1
      simp at hj'
      have : j = l.length := by omega
      subst this
      simp at hj
      subst hj
      rw [List.take_left]
      exact h2 x hx
theorem nodup_le : ∀ (n : Nat) (l : List Nat), l.Nodup → (∀ i, i ∈ l → i < n) → l.length ≤ n := by
  intro n
  induction n with
  | zero => intro l _ h; cases l with
    | nil => simp
    | cons a t => exact absurd (h a (by simp)) (by omega)
  | succ n ih =>
    intro l hn h
    have h1 : (l.erase n).length ≤ n := ih (l.erase n) (hn.erase n) (fun i hi => by
      have h2 := h i (List.mem_of_mem_erase hi)
      have h3 : i ≠ n := fun e => by subst e; exact (List.Nodup.not_mem_erase hn) hi
      omega)
    by_cases hm : n ∈ l
    · rw [List.length_erase_of_mem hm] at h1; omega
    · rw [List.erase_of_not_mem hm] at h1; omega
theorem Row.le {A : List (List Int)} {l : List Nat} (h : Row A l) : l.length ≤ A.length := nodup_le _ l h.nodup h.lt
/-- All are in a row that is full. -/
theorem Row.all {A : List (List Int)} {l : List Nat} (h : Row A l) (hl : l.length = A.length) (i : Nat) (hi : i < A.length) : i ∈ l := by
  by_cases hm : i ∈ l
  · exact hm
  · exfalso
    have := nodup_le A.length (i :: l) (by simp [hm, h.nodup]) (fun k hk => by rcases List.mem_cons.1 hk with rfl | hk; exact hi; exact h.lt k hk)
    simp at this
    omega
theorem ordG_row (A : List (List Int)) : ∀ (f : Nat) (done : List Nat), Row A done → Row A (ordG A f done)
  | 0, done, h => h
  | f + 1, done, h => by
    unfold ordG
    cases hn : nextOf A done with
    | none => exact h
    | some i =>
      obtain ⟨h1, h2, _⟩ := nextOf_some hn
      exact ordG_row A f _ (h.snoc h1 h2)
theorem ordG_end (A : List (List Int)) : ∀ (f : Nat) (done : List Nat), Row A done → A.length ≤ done.length + f → nextOf A (ordG A f done) = none
  | 0, done, h, hf => by
    unfold ordG
    refine nextOf_no fun j hj => ?_
    have : j ∈ done := h.all (by have := h.le; omega) j hj
    simp [freeAt, this]
  | f + 1, done, h, hf => by
    unfold ordG
    cases hn : nextOf A done with
    | none => exact hn
    | some i =>
      obtain ⟨h1, h2, _⟩ := nextOf_some hn
      exact ordG_end A f _ (h.snoc h1 h2) (by simp; omega)
theorem ord_row (A : List (List Int)) : Row A (ord A) := ordG_row A _ _ (Row.nil A)
theorem ord_end (A : List (List Int)) : nextOf A (ord A) = none := ordG_end A _ _ (Row.nil A) (by simp)
/-- The row that the program and the document build, step by step: at each place the least that may come. -/
theorem ordG_none {A : List (List Int)} {done : List Nat} (h : nextOf A done = none) : ∀ f, ordG A f done = done
  | 0 => rfl
  | f + 1 => by unfold ordG; rw [h]
theorem ordG_more (A : List (List Int)) : ∀ (f : Nat) (done : List Nat), Row A done → A.length ≤ done.length + f → ordG A (f + 1) done = ordG A f done
  | 0, done, h, hf => by
    have : nextOf A done = none := ordG_end A 0 done h hf
    rw [ordG_none this]; rfl
  | f + 1, done, h, hf => by
    rw [ordG]
    conv => rhs; rw [ordG]
    cases hn : nextOf A done with
    | none => rfl
    | some i =>
      obtain ⟨h1, h2, _⟩ := nextOf_some hn
      exact ordG_more A f _ (h.snoc h1 h2) (by simp; omega)
theorem ordG_any {A : List (List Int)} {done : List Nat} (h : Row A done) : ∀ (f g : Nat), A.length ≤ done.length + f → A.length ≤ done.length + g → ordG A f done = ordG A g done := by
  have key : ∀ d f, A.length ≤ done.length + f → ordG A (f + d) done = ordG A f done := by
    intro d
    induction d with
    | zero => intro f _; rfl
    | succ d ih => intro f hf; rw [← Nat.add_assoc, ordG_more A _ done h (by omega)]; exact ih f hf
  intro f g hf hg
  rcases Nat.le_total f g with e | e
  · have := key (g - f) f hf
    rw [show f + (g - f) = g by omega] at this
    exact this.symm
  · have := key (f - g) g hg
    rw [show g + (f - g) = f by omega] at this
    exact this

/-- A partial row of the order: what has been picked up to some step. -/
structure Part (A : List (List Int)) (done : List Nat) : Prop where
  row : Row A done
  eq : ord A = ordG A (A.length + 1) done
theorem Part.start (A : List (List Int)) : Part A [] := ⟨Row.nil A, ordG_any (Row.nil A) _ _ (by simp) (by simp)⟩
theorem Part.stop {A : List (List Int)} {done : List Nat} (h : Part A done) (hn : nextOf A done = none) : ord A = done := by rw [h.eq, ordG_none hn]
theorem Part.step {A : List (List Int)} {done : List Nat} (h : Part A done) {i : Nat} (hn : nextOf A done = some i) : Part A (done ++ [i]) ∧ done.length < A.length := by
  obtain ⟨h1, h2, _⟩ := nextOf_some hn
  have hr := h.row.snoc h1 h2
  have hl := hr.le
  simp at hl
  refine ⟨⟨hr, ?_⟩, by omega⟩
  rw [h.eq, ordG, hn]
  exact ordG_any hr _ _ (by simp) (by simp; omega)
theorem Part.full {A : List (List Int)} {done : List Nat} (h : Part A done) (hl : A.length ≤ done.length) : ord A = done := by
  refine h.stop (nextOf_no fun j hj => ?_)
  have := h.row.le
  have : j ∈ done := h.row.all (by omega) j hj
  simp [freeAt, this]

/-- With a rank that each waits below, all come. -/
theorem ord_full (A : List (List Int)) (r : Nat → Nat) (hok : badSys A = false) (hr : ∀ i j, i < A.length → j < A.length → (j : Int) ∈ aftOf A i → r j < r i) : (ord A).length = A.length := by
  have h1 := (ord_row A).le
  rcases Nat.lt_or_ge (ord A).length A.length with hlt | hge
  · exfalso
    have key : ∀ m i, r i < m → i < A.length → i ∈ ord A := by
      intro m
      induction m with
      | zero => intro i h; omega
      | succ m ih =>
        intro i hm hi
        rcases Nat.lt_or_ge (r i) m with h | h
        · exact ih i h hi
        · by_cases hmem : i ∈ ord A
          · exact hmem
          · have hf : freeAt A (ord A) i = true := freeAt_true.2 ⟨hmem, fun x hx => by
              obtain ⟨x0, x1, _⟩ := okA hok i hi x hx
              refine ⟨x.toNat, ih x.toNat ?_ (by omega), by omega⟩
              have := hr i x.toNat hi (by omega) (by rw [Int.toNat_of_nonneg x0]; exact hx)
              omega⟩
            rw [nextOf_none (ord_end A) i hi] at hf
            cases hf
    have hall : ∀ i, i < A.length → i ∈ ord A := fun i hi => key (r i + 1) i (by omega) hi
    have hle := nodup_le (ord A).length (List.range A.length |>.map (fun i => (ord A).idxOf i)) ?_ ?_
    · simp at hle; omega
    · rw [List.nodup_iff_pairwise_ne, List.pairwise_map]
      refine List.Pairwise.imp_of_mem ?_ (List.nodup_iff_pairwise_ne.1 List.nodup_range)
      intro a b ha hb hab e
      have h2 := List.getElem_idxOf (List.idxOf_lt_length_of_mem (hall a (List.mem_range.1 ha)))
      have h3 := List.getElem_idxOf (List.idxOf_lt_length_of_mem (hall b (List.mem_range.1 hb)))
      apply hab
      rw [← h2, ← h3]
      congr 1
    · intro i hi
      obtain ⟨a, ha, rfl⟩ := List.mem_map.1 hi
      exact List.idxOf_lt_length_of_mem (hall a (List.mem_range.1 ha))
  · omega

theorem chk_zero {A : List (List Int)} (h : chk A = 0) : A.length ≤ 64 ∧ badSys A = false ∧ (ord A).length = A.length := by
  unfold chk at h
  split at h
  · omega
  · split at h
    · omega
    · split at h
      · omega
      · rename_i h1 h2 h3
        have := (ord_row A).le
        exact ⟨by omega, by simpa using h2, by omega⟩
theorem chk_is {A : List (List Int)} (h1 : A.length ≤ 64) (h2 : badSys A = false) (h3 : (ord A).length = A.length) : chk A = 0 := by
  unfold chk
  rw [if_neg (by omega), h2, if_neg (by simp), if_neg (by omega)]

/-- Whether a row has each, behind those it waits for. -/
def keepG (A : List (List Int)) : List Nat → List Int → Bool
  | _, [] => true
  | done, x :: t => (decide (0 ≤ x) && (decide (x < A.length) && freeAt A done x.toNat)) && keepG A (done ++ [x.toNat]) t
def keepsB (A : List (List Int)) (o : List Int) : Bool := decide (chk A = 0) && (decide (o.length = A.length) && keepG A [] o)
theorem keepG_false {A : List (List Int)} {done : List Nat} {x : Int} {t : List Int} (h : x < 0 ∨ (A.length : Int) ≤ x ∨ freeAt A done x.toNat = false) : keepG A done (x :: t) = false := by
  unfold keepG
  rcases h with h | h | h
  · simp [show ¬ 0 ≤ x by omega]
  · simp [show ¬ x < A.length by omega]
  · simp [h]
theorem keepG_true {A : List (List Int)} {done : List Nat} {x : Int} {t : List Int} (h1 : 0 ≤ x) (h2 : x < A.length) (h3 : freeAt A done x.toNat = true) : keepG A done (x :: t) = keepG A (done ++ [x.toNat]) t := by
  conv => lhs; unfold keepG
  simp [h1, h2, h3]

/-- Who is behind one of a row, through a row. -/
def behG (A : List (List Int)) : List Nat → List Nat → List Nat
  | b, [] => b
  | b, x :: t => if (aftOf A x).any (fun y => b.any (fun k => (k : Int) == y)) = true then behG A (b ++ [x]) t else behG A b t
def aheadB (A : List (List Int)) (i k : Int) : Bool :=
  decide (chk A = 0) && (decide (0 ≤ i) && (decide (i < A.length) && (decide (0 ≤ k) && (decide (k < A.length) && (decide (i ≠ k) && (behG A [i.toNat] (ord A)).contains k.toNat)))))

theorem ordG_prefix (A : List (List Int)) : ∀ (f : Nat) (done : List Nat), ∃ t, ordG A f done = done ++ t
  | 0, done => ⟨[], by simp [ordG]⟩
  | f + 1, done => by
    unfold ordG
    cases nextOf A done with
    | none => exact ⟨[], by simp⟩
    | some i =>
      obtain ⟨t, ht⟩ := ordG_prefix A f (done ++ [i])
      exact ⟨i :: t, by simp [ht]⟩
theorem ordG_at (A : List (List Int)) : ∀ (f : Nat) (done : List Nat) (i x : Nat), done.length ≤ i → (ordG A f done)[i]? = some x → nextOf A ((ordG A f done).take i) = some x
  | 0, done, i, x, hi, h => by
    unfold ordG at h
    rw [List.getElem?_eq_none hi] at h
    cases h
  | f + 1, done, i, x, hi, h => by
    unfold ordG at h ⊢
    cases hn : nextOf A done with
    | none =>
      rw [hn] at h
      simp only at h
      rw [List.getElem?_eq_none hi] at h
      cases h
    | some j =>
      rw [hn] at h
      simp only at h ⊢
      rcases Nat.lt_or_ge done.length i with hlt | hge
      · exact ordG_at A f (done ++ [j]) i x (by simp; omega) h
      · have : i = done.length := by omega
        subst this
        obtain ⟨t, ht⟩ := ordG_prefix A f (done ++ [j])
        rw [ht] at h ⊢
        rw [List.append_assoc, List.getElem?_append_right (Nat.le_refl _)] at h
        simp at h
        subst h
        rw [List.append_assoc, List.take_left, hn]
theorem ord_at {A : List (List Int)} {i x : Nat} (h : (ord A)[i]? = some x) : nextOf A ((ord A).take i) = some x := ordG_at A _ [] i x (Nat.zero_le _) h
theorem keepG_app {A : List (List Int)} : ∀ (a : List Nat) (done : List Nat) (t : List Int), keepG A done (a.map Int.ofNat ++ t) = true → keepG A (done ++ a) t = true
  | [], done, t, h => by simpa using h
  | x :: a, done, t, h => by
    simp only [List.map_cons, List.cons_append] at h
    unfold keepG at h
    simp only [Bool.and_eq_true] at h
    have := keepG_app a (done ++ [x]) t (by simpa using h.2)
    simpa using this
/-- No row that has a lesser one at some place, and is the same ahead, keeps what waits. -/
theorem keeps_least {A : List (List Int)} {i xi x : Nat} (hi : (ord A)[i]? = some xi) (hx : x < xi) (T : List Int) : keepsB A (((ord A).take i).map Int.ofNat ++ (x : Int) :: T) = false := by
  cases h : keepsB A (((ord A).take i).map Int.ofNat ++ (x : Int) :: T)
  · rfl
  · exfalso
    simp only [keepsB, Bool.and_eq_true] at h
    have h1 := keepG_app _ _ _ h.2.2
    unfold keepG at h1
    simp only [Bool.and_eq_true, List.nil_append, Int.toNat_natCast] at h1
    have h2 := (nextOf_some (ord_at hi)).2.2 x hx
    rw [h2] at h1
    exact absurd h1.1.2.2 (by simp)
end Go.Proofs.Ytbigknmeooaidaa
