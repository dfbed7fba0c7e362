/-
  Sets of numbers below 64 as a word: how many, the least from one on, one more, one fewer. No program in sight; The model's operations on words of 64 bits, as sets of numbers. No program in sight; A word and its negative have the least bit in common. No program in sight; What the program's words of 64 bits do: the least number from one on; Sets of numbers below 64: the cells that they lie in; ok, digit, Len, at, Has; A region that draws its order: a load may be taken first though the region's last store writes its cell, if that store waits for the load. No program in sight.
-/
import Derived.Test.YtkiikblpgppmkaaGreatDoorSpM01
import Derived.Deep.RegionHeld
import Derived.StillTail
import Derived.Deep.DrawnRows
namespace Go.Proofs.YtkiikblpgppmkaaGreatDoor
open Go Go.RowKit
set_option linter.unusedVariables false
set_option linter.unusedSimpArgs false

/-- How many numbers a word has. -/
def pop (m : Nat) : Nat := (List.range 64).countP (fun d => m.testBit d)
/-- A word with one number more, and one fewer. -/
def addW (m i : Nat) : Nat := m ||| 2 ^ i
def delW (m i : Nat) : Nat := (List.range 64).foldl (fun k d => if m.testBit d && d != i then k ||| 2 ^ d else k) 0
/-- The least number from one on that a word has; -1: there is none. -/
def firstW (m i : Nat) : Int := match (List.range 64).find? (fun d => decide (i ≤ d) && m.testBit d) with
  | some d => d
  | none => -1

theorem countP_add : ∀ {l : List Nat} (hn : l.Nodup) {i : Nat} (hi : i ∈ l) {p q : Nat → Bool} (hp : p i = false) (hq : q i = true) (h : ∀ x, x ∈ l → x ≠ i → q x = p x), l.countP q = l.countP p + 1
  | [], _, _, hi, _, _, _, _, _ => by simp at hi
  | a :: l, hn, i, hi, p, q, hp, hq, h => by
    obtain ⟨h1, h2⟩ := List.nodup_cons.1 hn
    by_cases e : a = i
    · subst e
      have : l.countP q = l.countP p := by
        apply List.countP_congr
        intro x hx
        rw [h x (List.mem_cons_of_mem _ hx) (fun e => h1 (e ▸ hx))]
      rw [List.countP_cons, List.countP_cons, this, hp, hq]
      simp
    · have hi' : i ∈ l := by
        rcases List.mem_cons.1 hi with h | h
        · exact (e h.symm).elim
        · exact h
      rw [List.countP_cons, List.countP_cons, countP_add h2 hi' hp hq (fun x hx => h x (List.mem_cons_of_mem _ hx)), h a (List.mem_cons_self) e]
      omega
theorem pop_zero : pop 0 = 0 := by simp [pop]
theorem pop_le (m : Nat) : pop m ≤ 64 := by
  have := List.countP_le_length (p := fun d => m.testBit d) (l := List.range 64)
  simpa [pop] using this
theorem testBit_ge {m k : Nat} (h : m < 2 ^ 64) (hk : 64 ≤ k) : m.testBit k = false :=
  Nat.testBit_lt_two_pow (Nat.lt_of_lt_of_le h (Nat.pow_le_pow_right (by decide) hk))
theorem word_ext {a b : Nat} (ha : a < 2 ^ 64) (hb : b < 2 ^ 64) (h : ∀ k, k < 64 → a.testBit k = b.testBit k) : a = b := by
  apply Nat.eq_of_testBit_eq
  intro k
  by_cases hk : k < 64
  · exact h k hk
  · rw [testBit_ge ha (by omega), testBit_ge hb (by omega)]
theorem pop_pos {m : Nat} (h : m < 2 ^ 64) (h0 : m ≠ 0) : 0 < pop m := by
  apply Nat.pos_of_ne_zero
  intro hp
  apply h0
  apply word_ext h (by decide)
  intro k hk
  rw [pop, List.countP_eq_zero] at hp
  have := hp k (by simpa using hk)
  simpa using this
theorem pop_eq {m : Nat} (h : m < 2 ^ 64) : pop m = 0 ↔ m = 0 := by
  constructor
  · intro hp
    by_cases h0 : m = 0
    · exact h0
    · have := pop_pos h h0
      omega
  · rintro rfl
    exact pop_zero
theorem bit_add (m i k : Nat) : (addW m i).testBit k = (m.testBit k || decide (k = i)) := by
  rw [addW, Nat.testBit_or, Nat.testBit_two_pow]
  by_cases e : i = k
  · simp [e]
  · have e2 : ¬ k = i := fun h => e h.symm
    simp [e, e2]
theorem addW_lt {m i : Nat} (h : m < 2 ^ 64) (hi : i < 64) : addW m i < 2 ^ 64 := Nat.or_lt_two_pow h (Nat.pow_lt_pow_right (by decide) hi)
theorem addW_ne (m i : Nat) : addW m i ≠ 0 := by
  intro h
  have := bit_add m i i
  rw [h] at this
  simp at this
theorem oneW_nat {i : Nat} (hi : i < 64) : oneW (i : Int) = 2 ^ i := by
  unfold oneW
  rw [if_pos (by omega)]
  simp
theorem pop_add {m i : Nat} (hi : i < 64) (h : m.testBit i = false) : pop (addW m i) = pop m + 1 :=
  countP_add List.nodup_range (List.mem_range.2 hi) h (by rw [bit_add]; simp) (fun x _ hx => by rw [bit_add]; simp [hx])
theorem foldW_bit (m i : Nat) : ∀ (l : List Nat) (k0 k : Nat), (l.foldl (fun k d => if m.testBit d && d != i then k ||| 2 ^ d else k) k0).testBit k = (k0.testBit k || (decide (k ∈ l) && (m.testBit k && k != i)))
  | [], k0, k => by simp
  | a :: l, k0, k => by
    rw [List.foldl_cons, foldW_bit m i l]
    by_cases e : k = a
    · subst e
      cases h : (m.testBit k && k != i) <;> simp [h]
    · have h2 : (2 ^ a).testBit k = false := by rw [Nat.testBit_two_pow]; simp; exact fun h => e h.symm
      split
      · rw [Nat.testBit_or, h2]
        simp [e]
      · simp [e]
theorem bit_del (m i : Nat) {k : Nat} (hk : k < 64) : (delW m i).testBit k = (m.testBit k && k != i) := by
  rw [delW, foldW_bit]
  simp [hk]
theorem bit_del_ge (m i : Nat) {k : Nat} (hk : 64 ≤ k) : (delW m i).testBit k = false := by
  rw [delW, foldW_bit]
  simp
  omega
theorem delW_lt (m i : Nat) : delW m i < 2 ^ 64 := Nat.lt_pow_two_of_testBit _ (fun k hk => bit_del_ge m i hk)
theorem pop_del {m i : Nat} (hi : i < 64) (h : m.testBit i = true) : pop m = pop (delW m i) + 1 := by
  have e : (delW m i).testBit i = false := by rw [bit_del m i hi]; simp
  rw [pop, pop]
  refine countP_add List.nodup_range (List.mem_range.2 hi) e h (fun x hm hx => ?_)
  rw [bit_del m i (List.mem_range.1 hm)]
  simp [hx]
theorem firstW_some {m i d : Nat} (h : firstW m i = (d : Int)) : i ≤ d ∧ d < 64 ∧ m.testBit d = true ∧ ∀ k, i ≤ k → k < d → m.testBit k = false := by
  unfold firstW at h
  split at h
  · rename_i d' h'
    have e : d' = d := by omega
    subst e
    obtain ⟨h1, l1, l2, h2, h3⟩ := List.find?_eq_some_iff_append.1 h'
    simp at h1
    have hd : d' < 64 := by
      have : d' ∈ List.range 64 := by rw [h2]; simp
      simpa using this
    refine ⟨h1.1, hd, h1.2, fun k hk hkd => ?_⟩
    have hk2 : k ∈ l1 := by
      have hm : k ∈ List.range 64 := by simp; omega
      rw [h2] at hm
      have hs : (List.range 64).Pairwise (· < ·) := List.pairwise_lt_range
      rw [h2] at hs
      rcases List.mem_append.1 hm with h | h
      · exact h
      · exfalso
        obtain ⟨_, h5, _⟩ := List.pairwise_append.1 hs
        rcases List.mem_cons.1 h with h | h
        · omega
        · have := (List.pairwise_cons.1 h5).1 k h
          omega
    have := h3 k hk2
    simp at this
    rcases this with h | h
    · omega
    · exact h
  · have : (-1 : Int) = d := h
    omega
theorem firstW_none {m i : Nat} (h : firstW m i = -1) : ∀ k, i ≤ k → k < 64 → m.testBit k = false := by
  unfold firstW at h
  split at h
  · omega
  · rename_i h'
    intro k hk hk2
    have := List.find?_eq_none.1 h' k (by simpa using hk2)
    simp at this
    exact this hk
theorem firstW_cases (m i : Nat) : firstW m i = -1 ∨ ∃ d : Nat, firstW m i = (d : Int) := by
  unfold firstW
  split
  · exact .inr ⟨_, rfl⟩
  · exact .inl rfl
end Go.Proofs.YtkiikblpgppmkaaGreatDoor

namespace Go.Proofs.YtkiikblpgppmkaaGreatDoor
open Go Go.RowKit
set_option linter.unusedVariables false
set_option linter.unusedSimpArgs false

theorem pow_lt {i : Nat} (hi : i < 64) : 2 ^ i < 2 ^ 64 := Nat.pow_lt_pow_right (by decide) hi
theorem or_val {a i : Nat} (ha : a < 2 ^ 64) (hi : i < 64) : bits .or .u64 (a : Int) ((2 ^ i : Nat) : Int) = ((addW a i : Nat) : Int) := bits_or a (2 ^ i) ha (pow_lt hi)
theorem andnot_val {a i : Nat} (ha : a < 2 ^ 64) (hi : i < 64) : bits .andNot .u64 (a : Int) ((2 ^ i : Nat) : Int) = ((delW a i : Nat) : Int) := by
  have hp := pow_lt hi
  have e : bits .andNot .u64 (a : Int) ((2 ^ i : Nat) : Int) = IntKind.u64.wrap (((BitVec.ofNat 64 a &&& ~~~ BitVec.ofNat 64 (2 ^ i)).toNat : Nat) : Int) := by
    show IntKind.u64.wrap (((BitVec.ofInt 64 a &&& ~~~ BitVec.ofInt 64 ((2 ^ i : Nat) : Int)).toNat : Nat) : Int) = _
    rw [BitVec.ofInt_natCast, BitVec.ofInt_natCast]
  have h1 : (BitVec.ofNat 64 a &&& ~~~ BitVec.ofNat 64 (2 ^ i)).toNat < 2 ^ 64 := BitVec.isLt _
  rw [e, IntWalk.u64_in _ (by omega)]
  congr 1
  apply word_ext h1 (delW_lt a i)
  intro k hk
  rw [bit_del a i hk]
  show (BitVec.ofNat 64 a &&& ~~~ BitVec.ofNat 64 (2 ^ i)).getLsbD k = _
  simp only [BitVec.getLsbD_and, BitVec.getLsbD_not, BitVec.getLsbD_ofNat, hk, decide_true, Bool.true_and]
  rw [Nat.testBit_two_pow]
  by_cases e : i = k
  · simp [e]
  · have e2 : ¬ k = i := fun h => e h.symm
    simp [e, e2]
/-- A word's bits from one on, moved down: none, or the least of them. -/
theorem shr_zero {m i : Nat} (hm : m < 2 ^ 64) : m / 2 ^ i = 0 ↔ firstW m i = -1 := by
  constructor
  · intro h
    rcases firstW_cases m i with h1 | ⟨d, h1⟩
    · exact h1
    · obtain ⟨h2, h3, h4, _⟩ := firstW_some h1
      exfalso
      have h5 : (m / 2 ^ i).testBit (d - i) = true := by
        rw [Nat.testBit_div_two_pow]
        rw [show d - i + i = d by omega]
        exact h4
      rw [h] at h5
      simp at h5
  · intro h
    apply Nat.eq_of_testBit_eq
    intro k
    rw [Nat.testBit_div_two_pow, Nat.zero_testBit]
    by_cases hk : k + i < 64
    · exact firstW_none h _ (by omega) hk
    · exact testBit_ge hm (by omega)
/-- The least bit of a word. -/
def tz (m : Nat) : Nat := (firstW m 0).toNat
theorem firstW_uniq {m i d : Nat} (h1 : i ≤ d) (h2 : d < 64) (h3 : m.testBit d = true) (h4 : ∀ k, i ≤ k → k < d → m.testBit k = false) : firstW m i = (d : Int) := by
  rcases firstW_cases m i with h | ⟨d', h⟩
  · have := firstW_none h d h1 h2
    rw [h3] at this
    cases this
  · obtain ⟨g1, g2, g3, g4⟩ := firstW_some h
    rw [h]
    congr 1
    rcases Nat.lt_trichotomy d d' with h5 | h5 | h5
    · rw [g4 d h1 h5] at h3
      cases h3
    · exact h5.symm
    · rw [h4 d' g1 h5] at g3
      cases g3
theorem shr_first {m i : Nat} (hm : m < 2 ^ 64) (h : m / 2 ^ i ≠ 0) : firstW m i = ((i + tz (m / 2 ^ i) : Nat) : Int) := by
  rcases firstW_cases m i with h1 | ⟨d, h1⟩
  · exact absurd ((shr_zero hm).2 h1) h
  · obtain ⟨g1, g2, g3, g4⟩ := firstW_some h1
    have : firstW (m / 2 ^ i) 0 = ((d - i : Nat) : Int) := firstW_uniq (by omega) (by omega) (by
      rw [Nat.testBit_div_two_pow, show d - i + i = d by omega]
      exact g3) (fun k _ hk => by
      rw [Nat.testBit_div_two_pow]
      exact g4 _ (by omega) (by omega))
    rw [h1, tz, this]
    congr 1
    simp
    omega
end Go.Proofs.YtkiikblpgppmkaaGreatDoor

namespace Go.Proofs.YtkiikblpgppmkaaGreatDoor
open Go Go.RowKit
set_option linter.unusedVariables false
set_option linter.unusedSimpArgs false

theorem tz_spec {m : Nat} (hm : m < 2 ^ 64) (h0 : m ≠ 0) : tz m < 64 ∧ m.testBit (tz m) = true ∧ ∀ k, k < tz m → m.testBit k = false := by
  rcases firstW_cases m 0 with h | ⟨d, h⟩
  · exfalso
    apply h0
    apply word_ext hm (by decide)
    intro k hk
    rw [firstW_none h k (by omega) hk]
    simp
  · obtain ⟨h1, h2, h3, h4⟩ := firstW_some h
    have e : tz m = d := by rw [tz, h]; simp
    rw [e]
    exact ⟨h2, h3, fun k hk => h4 k (by omega) hk⟩
theorem and_neg {m : Nat} (hm : m < 2 ^ 64) (h0 : m ≠ 0) : m &&& (2 ^ 64 - m) = 2 ^ tz m := by
  obtain ⟨h1, h2, h3⟩ := tz_spec hm h0
  obtain ⟨t, ht⟩ : ∃ t, tz m = t := ⟨_, rfl⟩
  rw [ht] at h1 h2 h3 ⊢
  have hlow : m % 2 ^ t = 0 := by
    apply Nat.eq_of_testBit_eq
    intro k
    rw [Nat.testBit_mod_two_pow, Nat.zero_testBit]
    by_cases hk : k < t
    · rw [h3 k hk]; simp
    · simp [hk]
  have hodd : m / 2 ^ t % 2 = 1 := by
    have : (m / 2 ^ t).testBit 0 = true := by
      rw [Nat.testBit_div_two_pow, Nat.zero_add]
      exact h2
    simpa [Nat.testBit_zero] using this
  obtain ⟨q, hq⟩ : ∃ q, m / 2 ^ t = 2 * q + 1 := ⟨m / 2 ^ t / 2, by omega⟩
  have hpos : 0 < 2 ^ t := Nat.pow_pos (by decide)
  have em : m = 2 ^ t * (2 * q + 1) + 0 := by
    have := Nat.div_add_mod m (2 ^ t)
    rw [hq, hlow] at this
    exact this.symm
  have em1 : m - 1 = 2 ^ t * (2 * q) + (2 ^ t - 1) := by
    rw [Nat.mul_add] at em
    omega
  have hb1 : ∀ k, m.testBit k = if k < t then false else (2 * q + 1).testBit (k - t) := by
    intro k
    rw [em, Nat.testBit_two_pow_mul_add _ hpos]
    simp
  have hb2 : ∀ k, (m - 1).testBit k = if k < t then true else (2 * q).testBit (k - t) := by
    intro k
    rw [em1, Nat.testBit_two_pow_mul_add _ (by omega)]
    split
    · rw [Nat.testBit_two_pow_sub_one]
      simp
      assumption
    · rfl
  have hneg : ∀ k, (2 ^ 64 - m).testBit k = (decide (k < 64) && !(m - 1).testBit k) := by
    intro k
    have := Nat.testBit_two_pow_sub_succ (x := m - 1) (n := 64) (by omega) k
    rw [show m - 1 + 1 = m by omega] at this
    exact this
  apply Nat.eq_of_testBit_eq
  intro k
  rw [Nat.testBit_and, hneg, hb1, hb2, Nat.testBit_two_pow]
  by_cases hk : k < t
  · have : ¬ t = k := by omega
    simp [hk, this]
  · simp only [hk, if_false]
    by_cases e : t = k
    · subst e
      simp [h1]
    · have h5 : (2 * q + 1).testBit (k - t) = (2 * q).testBit (k - t) := by
        obtain ⟨s, hs⟩ : ∃ s, k - t = s + 1 := ⟨k - t - 1, by omega⟩
        rw [hs, Nat.testBit_succ, Nat.testBit_succ]
        congr 1
        omega
      rw [h5]
      cases (2 * q).testBit (k - t) <;> simp [e]
end Go.Proofs.YtkiikblpgppmkaaGreatDoor

namespace Go.Proofs.YtkiikblpgppmkaaGreatDoor
open Go Go.RowKit
set_option linter.unusedVariables false
set_option linter.unusedSimpArgs false

/-- The library's table, as the row lays it. -/
def tabL : List Nat := [0, 1, 56, 2, 57, 49, 28, 3, 61, 58, 42, 50, 38, 29, 17, 4, 62, 47, 59, 36, 45, 43, 51, 22, 53, 39, 33, 30, 24, 18, 12, 5, 63, 55, 48, 27, 60, 41, 37, 16, 46, 35, 44, 21, 52, 32, 23, 11, 54, 26, 40, 15, 34, 20, 31, 10, 25, 14, 19, 9, 13, 8, 7, 6]
def Tab (w : World) : Prop := 0 < w.heap.size ∧ ∀ k, k < 64 → w.cell? ⟨0, k, none⟩ = some (.int .u8 ((tabL.getD k 0 : Nat) : Int))
theorem Tab.keep {w w' : World} {S : Nat → Prop} (h : Tab w) (hk : Keep w w' S) (hS : ¬ S 0) : Tab w' :=
  ⟨Nat.lt_of_lt_of_le h.1 hk.size, fun k hl => hk.cell (h.2 k hl) hS⟩
def dbI (t : Nat) : Nat := 2 ^ t * 285870213051353865 % 2 ^ 64 / 288230376151711744
theorem tab_db : ∀ t, t < 64 → dbI t < 64 ∧ tabL.getD (dbI t) 0 = t := by decide +kernel
theorem wrap_u64 (n : Nat) : IntKind.u64.wrap (n : Int) = ((n % 2 ^ 64 : Nat) : Int) := by
  simp [IntKind.wrap, IntKind.bits, IntKind.signed]
theorem wrap_neg (m : Nat) (hm : m < 2 ^ 64) (h0 : m ≠ 0) : IntKind.u64.wrap (-(m : Int)) = ((2 ^ 64 - m : Nat) : Int) := by
  have : IntKind.u64.wrap (-(m : Int)) = (-(m : Int)) % 2 ^ 64 := by simp [IntKind.wrap, IntKind.bits, IntKind.signed]
  rw [this]
  omega

theorem word_tz (m : Nat) (hm : m < 2 ^ 64) (h0 : m ≠ 0) (w : World) (hT : Tab w) :
    Calls Tryz.prog 214 #[.int .u64 (m : Nat)] w (fun e w' => e = .returned (.int .i64 (tz m : Nat)) ∧ w = w') := by
  have e0 : ((m : Int) == 0) = false := by simp; exact h0
  have e1 : decide (m = 0) = false := decide_eq_false h0
  obtain ⟨ht, _, _⟩ := tz_spec hm h0
  obtain ⟨t, hte⟩ : ∃ t, tz m = t := ⟨_, rfl⟩
  rw [hte] at ht ⊢
  obtain ⟨hk, hv⟩ := tab_db t ht
  have hc := hT.2 (dbI t) hk
  rw [hv] at hc
  have hA : bits BinOp.and IntKind.u64 (m : Int) (IntKind.u64.wrap (-(m : Int))) = ((2 ^ t : Nat) : Int) := by
    rw [wrap_neg m hm h0, bits_and m _ hm (by omega), and_neg hm h0, hte]
  have hB : IntKind.u64.wrap (((2 ^ t : Nat) : Int) * 285870213051353865) / 288230376151711744 = ((dbI t : Nat) : Int) := by
    rw [show ((2 ^ t : Nat) : Int) * 285870213051353865 = ((2 ^ t * 285870213051353865 : Nat) : Int) by simp, wrap_u64]
    unfold dbI
    simp
  obtain ⟨p, hp⟩ : ∃ p, 2 ^ t = p := ⟨_, rfl⟩
  rw [hp] at hA hB
  obtain ⟨k, hke⟩ : ∃ k, dbI t = k := ⟨_, rfl⟩
  rw [hke] at hB hc hk
  clear hp hke hv hte hm h0 hT
  go_enter Tryz.func214, Tryz.ntmps214
  go_wp2_with fail
  go_ret
  exact ⟨rfl, rfl⟩

theorem firstW_ge {m i : Nat} (hi : 64 ≤ i) : firstW m i = -1 := by
  rcases firstW_cases m i with h | ⟨d, h⟩
  · exact h
  · obtain ⟨h1, h2, _⟩ := firstW_some h
    omega
theorem word_first (m : Nat) (hm : m < 2 ^ 64) (i : Nat) (hi : i ≤ 1000000) (w : World) (hT : Tab w) :
    Calls Tryz.prog 141 #[.int .u64 (m : Nat), .int .i64 (i : Nat)] w (fun e w' => e = .returned (.int .i64 (firstW m i)) ∧ w = w') := by
  have m1 : max (i : Int) 0 = (i : Int) := by omega
  have m2 : ¬ ((i : Int) < 0) := by omega
  by_cases h64 : 64 ≤ i
  · have e0 : decide ((i : Int) ≥ 64) = true := decide_eq_true (by omega)
    have e1 : decide (64 ≤ i) = true := decide_eq_true h64
    rw [firstW_ge h64]
    go_enter Tryz.func141, Tryz.ntmps141
    go_wp2_with fail
    go_ret
    exact ⟨rfl, rfl⟩
  have e0 : decide ((i : Int) ≥ 64) = false := decide_eq_false (by omega)
  have e1 : decide (64 ≤ i) = false := decide_eq_false h64
  have hs : (m : Int) / 2 ^ i = ((m / 2 ^ i : Nat) : Int) := by simp
  have hlt : m / 2 ^ i < 2 ^ 64 := Nat.lt_of_le_of_lt (Nat.div_le_self _ _) hm
  by_cases h0 : m / 2 ^ i = 0
  · rw [(shr_zero hm).1 h0]
    rw [h0] at hs
    clear hm hlt
    go_enter Tryz.func141, Tryz.ntmps141
    go_wp2_with fail
    go_ret
    exact ⟨rfl, rfl⟩
  · rw [shr_first hm h0]
    have HTZ := Lib.hid (word_tz (m / 2 ^ i) hlt h0 w hT)
    obtain ⟨q, hq⟩ : ∃ q, m / 2 ^ i = q := ⟨_, rfl⟩
    rw [hq] at hs h0 HTZ ⊢
    have e2 : ((q : Int) == 0) = false := by simp; exact h0
    have e3 : decide (q = 0) = false := decide_eq_false h0
    rw [hq] at hlt
    have hb : tz q < 64 := (tz_spec hlt h0).1
    clear hm hlt hq
    obtain ⟨z, hz⟩ : ∃ z, tz q = z := ⟨_, rfl⟩
    rw [hz] at HTZ hb ⊢
    go_enter Tryz.func141, Tryz.ntmps141
    go_wp2_with (go_at_call 214; refine HTZ.out.mono ?_; rintro e w' ⟨rfl, rfl⟩)
    go_ret
    exact ⟨by go_num, rfl⟩

theorem allW_one (i : Nat) (hi : i < 64) : allW [(i : Int)] = 2 ^ i := by
  rw [← oneW_nat hi]
  simp [allW]
theorem word_with (m : Nat) (hm : m < 2 ^ 64) (i : Nat) (hi : i < 64) (v : Value) (w : World) (S : Nat → Prop) (h : Rd S w v 1 (ints [(i : Int)])) :
    Calls Tryz.prog 203 #[.int .u64 (m : Nat), v] w (fun e w' => e = .returned (.int .u64 (addW m i : Nat)) ∧ w = w') := by
  have := bits_with m hm v [(i : Int)] w S h
  rw [allW_one i hi] at this
  exact this
theorem word_without (m : Nat) (hm : m < 2 ^ 64) (i : Nat) (hi : i < 64) (v : Value) (w : World) (S : Nat → Prop) (h : Rd S w v 1 (ints [(i : Int)])) :
    Calls Tryz.prog 218 #[.int .u64 (m : Nat), v] w (fun e w' => e = .returned (.int .u64 (delW m i : Nat)) ∧ w = w') := by
  obtain ⟨a, c, rfl, _⟩ := id h
  have H := Lib.hid h
  have HV := Lib.hid (andnot_val hm hi)
  have HA := Lib.hid (bits_all (.slice a 1 c) [(i : Int)] w S h)
  rw [allW_one i hi] at HA
  clear h hm
  obtain ⟨p, hp⟩ : ∃ p, 2 ^ i = p := ⟨_, rfl⟩
  rw [hp] at HA HV
  clear hp
  go_enter Tryz.func218, Tryz.ntmps218
  go_wp2_with (go_at_call 244; refine HA.out.mono ?_; rintro e w' ⟨rfl, rfl⟩)
  go_ret
  exact ⟨by rw [← HV.out]; rfl, rfl⟩
end Go.Proofs.YtkiikblpgppmkaaGreatDoor

namespace Go.Proofs.YtkiikblpgppmkaaGreatDoor
open Go Go.RowKit
set_option linter.unusedVariables false
set_option linter.unusedSimpArgs false

def nilV : Value := .pointer none
def ptr (b : Nat) : Value := .pointer (some ⟨b, 0, none⟩)
/-- A node: its word, its first kid; all other kids are nil. -/
def nodeCs (x : Nat) (k : Value) : Array Value := (.int .u64 (x : Int) :: k :: List.replicate 63 nilV).toArray
/-- A set: its top node, and how many there are. -/
def setCs (x : Nat) (k : Value) (n : Nat) : Array Value := (.int .u64 (x : Int) :: k :: (List.replicate 63 nilV ++ [.int .i64 (n : Int)])).toArray
theorem nodeCs_0 (x : Nat) (k : Value) : (nodeCs x k)[0]? = some (.int .u64 (x : Int)) := rfl
theorem nodeCs_1 (x : Nat) (k : Value) : (nodeCs x k)[1]? = some k := rfl
theorem setCs_0 (x : Nat) (k : Value) (n : Nat) : (setCs x k n)[0]? = some (.int .u64 (x : Int)) := rfl
theorem setCs_1 (x : Nat) (k : Value) (n : Nat) : (setCs x k n)[1]? = some k := rfl
theorem setCs_65 (x : Nat) (k : Value) (n : Nat) : (setCs x k n)[65]? = some (.int .i64 (n : Int)) := rfl

/-- The blocks of a set that is not empty, below its own. -/
structure Way where
  b2 : Nat
  b1 : Nat
  b0 : Nat
/-- What a set of numbers below 64 reads as: a word m. -/
def RdHib (w : World) (b m : Nat) : Prop :=
  m < 2 ^ 64 ∧ ((m = 0 ∧ Blk w b (setCs 0 nilV 0) 316) ∨
    (m ≠ 0 ∧ ∃ c : Way, Blk w b (setCs 1 (ptr c.b2) (pop m)) 316 ∧ Blk w c.b2 (nodeCs 1 (ptr c.b1)) 313 ∧ Blk w c.b1 (nodeCs 1 (ptr c.b0)) 313 ∧ Blk w c.b0 (nodeCs m nilV) 313))
/-- A set of the call's own. -/
def hibL (b m : Nat) (c : Way) : List Asr :=
  [blkA b (setCs 1 (ptr c.b2) (pop m)) 316, blkA c.b2 (nodeCs 1 (ptr c.b1)) 313, blkA c.b1 (nodeCs 1 (ptr c.b0)) 313, blkA c.b0 (nodeCs m nilV) 313]
def hibA (b m : Nat) : Asr := if m = 0 then blkA b (setCs 0 nilV 0) 316 else exA (fun c => starA (hibL b m c))
theorem hib_rd {w : World} {F : Nat → Prop} {b m : Nat} (hm : m < 2 ^ 64) (h : (hibA b m).at' w F) : RdHib w b m := by
  refine ⟨hm, ?_⟩
  unfold hibA at h
  by_cases h0 : m = 0
  · rw [if_pos h0] at h
    exact .inl ⟨h0, h.1⟩
  · rw [if_neg h0] at h
    obtain ⟨c, G, h1, _, _⟩ := h
    exact .inr ⟨h0, c, (h1 0 _ rfl).1, (h1 1 _ rfl).1, (h1 2 _ rfl).1, (h1 3 _ rfl).1⟩
theorem RdHib.keep {w w' : World} {b m : Nat} (h : RdHib w b m) (hk : Keep w w' Nope) : RdHib w' b m := by
  obtain ⟨h0, h1⟩ := h
  refine ⟨h0, ?_⟩
  rcases h1 with ⟨e, h⟩ | ⟨e, c, g1, g2, g3, g4⟩
  · exact .inl ⟨e, h.keep hk (fun f => f)⟩
  · exact .inr ⟨e, c, g1.keep hk (fun f => f), g2.keep hk (fun f => f), g3.keep hk (fun f => f), g4.keep hk (fun f => f)⟩

theorem hib_ok (i : Nat) (hi : i < 64) (w : World) : Calls Tryz.prog 199 #[.int .i64 (i : Nat)] w (fun e w' => e = .returned (.bool true) ∧ w = w') := by
  have e0 : decide ((i : Int) ≥ 0) = true := decide_eq_true (by omega)
  have e1 : decide ((i : Int) < 16777216) = true := decide_eq_true (by omega)
  have e2 : decide (i < 16777216) = true := decide_eq_true (by omega)
  go_enter Tryz.func199, Tryz.ntmps199
  go_wp2_with fail
  go_ret
  exact ⟨rfl, rfl⟩
theorem and63 (i : Nat) (hi : i < 64) : bits .and .i64 (i : Int) 63 = (i : Int) := by
  rw [and_mask (i : Int) 6 63 (by decide) (by decide)]
  show (i : Int) % 64 = i
  omega
theorem hib_digit0 (i : Nat) (hi : i < 64) (w : World) : Calls Tryz.prog 202 #[.int .i64 (i : Nat), .int .i64 0] w (fun e w' => e = .returned (.int .i64 (i : Nat)) ∧ w = w') := by
  have hA := and63 i hi
  go_enter Tryz.func202, Tryz.ntmps202
  go_wp2_with fail
  go_ret
  exact ⟨rfl, rfl⟩
theorem hib_digit (i : Nat) (hi : i < 64) (l : Nat) (h1 : 0 < l) (h2 : l < 4) (w : World) : Calls Tryz.prog 202 #[.int .i64 (i : Nat), .int .i64 (l : Nat)] w (fun e w' => e = .returned (.int .i64 0) ∧ w = w') := by
  have hz : bits .and .i64 0 63 = 0 := by rfl
  have d1 : (i : Int) / 64 = 0 := by omega
  have d2 : (i : Int) / 4096 = 0 := by omega
  have d3 : (i : Int) / 262144 = 0 := by omega
  obtain rfl | rfl | rfl : l = 1 ∨ l = 2 ∨ l = 3 := by omega
  all_goals
    go_enter Tryz.func202, Tryz.ntmps202
    go_wp2_with fail
    go_ret
    exact ⟨rfl, rfl⟩
theorem hib_len (b m : Nat) (w : World) (h : RdHib w b m) : Calls Tryz.prog 147 #[ptr b] w (fun e w' => e = .returned (.int .i64 (pop m : Nat)) ∧ w = w') := by
  have hc : w.cell? ⟨b, 65, none⟩ = some (.int .i64 (pop m : Nat)) := by
    rcases h.2 with ⟨e, h⟩ | ⟨_, c, h, _⟩
    · rw [e, h.cell, pop_zero]
      rfl
    · rw [h.cell]
      rfl
  clear h
  unfold ptr
  go_enter Tryz.func147, Tryz.ntmps147
  go_wp2_with fail
  go_ret
  exact ⟨rfl, rfl⟩

def RetK (w : World) (v : Value) (e : Ending) (w' : World) : Prop := e = .returned v ∧ Keep w w' Nope
end Go.Proofs.YtkiikblpgppmkaaGreatDoor

namespace Go.Proofs.YtkiikblpgppmkaaGreatDoor
open Go Go.RowKit
set_option linter.unusedVariables false
set_option linter.unusedSimpArgs false

section
variable {P : Program} {ops : Array Oper} {Q : Exit → Act → World → Prop} {md : Region.Mode} {r : Nat} {S : World → Prop}

/-- Whatever order is picked from here on; S holds behind every operation, as long as number r has not come up. -/
def wpAnyM (P : Program) (md : Region.Mode) (ops : Array Oper) (Q : Exit → Act → World → Prop) (r : Nat) (S : World → Prop) : Nat → Array Bool → Act → World → Prop
  | 0, listed, a, w => Region.ready md ops listed = [] ∧ Q .normal a w
  | n + 1, listed, a, w =>
    (Region.ready md ops listed = [] → Q .normal a w) ∧
    ∀ i ∈ Region.ready md ops listed, wpOp P ops Q i (fun a' w' => ((listed.setIfInBounds i true).getD r true = false → S w') ∧ wpAnyM P md ops Q r S n (listed.setIfInBounds i true) a' w') a w

theorem wpAny_ofM : ∀ (n : Nat) (listed : Array Bool) (a : Act) (w : World), wpAnyM P md ops Q r S n listed a w → wpAny P md ops Q n listed a w
  | 0, _, _, _, h => h
  | n + 1, _, _, _, h => ⟨h.1, fun i hi => wpOp_mono (fun a' w' h' => wpAny_ofM n _ a' w' h'.2) (h.2 i hi)⟩

theorem wpAnyM_first {i : Nat} {oi : Oper} {v : Value} (hi : ops[i]? = some oi) (hsel : ∀ (j : Nat) (o : Oper) cs b, ops[j]? = some o → o.op ≠ .select cs b)
    (hQ : ∀ c a w, Q (.panic c) (a.put oi.dst v) w → Q (.panic c) a w) (hri : Region.waitsFor md ops r i = true) :
    ∀ (n : Nat) (listed : Array Bool) (a : Act) (w : World),
      (∀ j oj, ops[j]? = some oj → j ≠ i → listed.getD j true = false → (∀ e ∈ oj.after, Region.binds md e = true → e.on ≠ i) → oi.apart ops oj = true) →
      i ∈ Region.ready md ops listed → listed.getD r true = false → YieldsIf P ops S oi v a → S w →
      wpAnyM P md ops Q r S n (listed.setIfInBounds i true) (a.put oi.dst v) w → wpAnyM P md ops Q r S (n + 1) listed a w := by
  intro n
  induction n with
  | zero =>
    intro listed a w _ hr _ hy hS H
    refine ⟨fun h => (by rw [h] at hr; cases hr), fun j hj => ?_⟩
    by_cases hji : j = i
    · subst hji; exact hy.wpOp hi hS ⟨fun _ => hS, H⟩
    · have := ready_mono hj hji
      rw [H.1] at this
      cases this
  | succ n ih =>
    intro listed a w hfree hr hlr hy hS H
    refine ⟨fun h => (by rw [h] at hr; cases hr), fun j hj => ?_⟩
    by_cases hji : j = i
    · subst hji; exact hy.wpOp hi hS ⟨fun _ => hS, H⟩
    · have h1 := H.2 j (ready_mono hj hji)
      obtain ⟨hjun, oj, hoj, hall⟩ := mem_ready.1 hj
      have hpend : listed.getD i false = false := getD_both (mem_ready.1 hr).1
      have hnot : ∀ e ∈ oj.after, Region.binds md e = true → e.on ≠ i := fun e he hb heq => by
        have h1 := hall e he hb
        rw [heq, hpend] at h1
        cases h1
      obtain ⟨orr, horr, e0, he0, hb0, hon0⟩ := Region.waitsFor_spec hri
      have hrj : j ≠ r := by
        rintro rfl
        have : oj = orr := Option.some.inj (hoj.symm.trans horr)
        subst this
        exact hnot e0 he0 hb0 hon0
      have hir : i ≠ r := by
        rintro rfl
        obtain ⟨_, oi', hoi', hall'⟩ := mem_ready.1 hr
        have : oi' = orr := Option.some.inj (hoi'.symm.trans horr)
        subst this
        have h2 := hall' e0 he0 hb0
        rw [hon0, hpend] at h2
        cases h2
      have hlj : (listed.setIfInBounds j true).getD r true = false := by rw [getD_set_ne true hrj]; exact hlr
      have h2 := wpOp_putIf hoj (hfree j oj hoj hji hjun hnot) (fun cs b => hsel i oi cs b hi) (fun cs b => hsel j oj cs b hoj) hQ hy h1
      have hfree' : ∀ k ok, ops[k]? = some ok → k ≠ i → (listed.setIfInBounds j true).getD k true = false →
          (∀ e ∈ ok.after, Region.binds md e = true → e.on ≠ i) → oi.apart ops ok = true := fun k ok hk hki hun hno => by
        refine hfree k ok hk hki ?_ hno
        by_cases hjk : j = k
        · subst hjk; exact hjun
        · rw [getD_set_ne true hjk] at hun; exact hun
      refine wpOp_mono (fun a' w' h3 => ?_) h2
      have hS' : S w' := h3.2.1 (by rw [getD_set_ne true hrj, getD_set_ne true hir]; exact hlr)
      refine ⟨fun _ => hS', ih (listed.setIfInBounds j true) a' w' hfree' (ready_mono hr (Ne.symm hji)) hlj h3.1 hS' ?_⟩
      rw [Array.setIfInBounds_comm _ _ hji]
      exact h3.2.2

theorem wpAnyM_take {i : Nat} {oi : Oper} {v : Value} {n : Nat} {listed : Array Bool} {a : Act} {w : World} (hi : ops[i]? = some oi)
    (hs : Region.noSelect ops = true) (hf : Region.free md ops listed i = true) (hr : (Region.ready md ops listed).contains i = true) (hri : Region.waitsFor md ops r i = true) (hlr : listed.getD r true = false)
    (hQ : ∀ c a w, Q (.panic c) (a.put oi.dst v) w → Q (.panic c) a w) (hy : YieldsIf P ops S oi v a) (hS : S w)
    (h : wpAnyM P md ops Q r S n (listed.setIfInBounds i true) (a.put oi.dst v) w) : wpAnyM P md ops Q r S (n + 1) listed a w :=
  wpAnyM_first hi (Region.noSelect_spec hs) hQ hri n listed a w (Region.free_spec hi hf) (by simpa using hr) hlr hy hS h

/-- An operation that yields its value in whatever world is taken first: nothing is asked of S. -/
theorem wpAnyM_firstP {i : Nat} {oi : Oper} {v : Value} (hi : ops[i]? = some oi) (hsel : ∀ (j : Nat) (o : Oper) cs b, ops[j]? = some o → o.op ≠ .select cs b)
    (hQ : ∀ c a w, Q (.panic c) (a.put oi.dst v) w → Q (.panic c) a w) (hir : i ≠ r) :
    ∀ (n : Nat) (listed : Array Bool) (a : Act) (w : World),
      (∀ j oj, ops[j]? = some oj → j ≠ i → listed.getD j true = false → (∀ e ∈ oj.after, Region.binds md e = true → e.on ≠ i) → oi.apart ops oj = true) →
      i ∈ Region.ready md ops listed → YieldsIf P ops (fun _ => True) oi v a → (listed.getD r true = false → S w) →
      wpAnyM P md ops Q r S n (listed.setIfInBounds i true) (a.put oi.dst v) w → wpAnyM P md ops Q r S (n + 1) listed a w := by
  intro n
  induction n with
  | zero =>
    intro listed a w _ hr hy hS H
    refine ⟨fun h => (by rw [h] at hr; cases hr), fun j hj => ?_⟩
    by_cases hji : j = i
    · subst hji; exact hy.wpOp hi trivial ⟨fun h => hS (by rw [getD_set_ne true hir] at h; exact h), H⟩
    · have := ready_mono hj hji
      rw [H.1] at this
      cases this
  | succ n ih =>
    intro listed a w hfree hr hy hS H
    refine ⟨fun h => (by rw [h] at hr; cases hr), fun j hj => ?_⟩
    by_cases hji : j = i
    · subst hji; exact hy.wpOp hi trivial ⟨fun h => hS (by rw [getD_set_ne true hir] at h; exact h), H⟩
    · have h1 := H.2 j (ready_mono hj hji)
      obtain ⟨hjun, oj, hoj, hall⟩ := mem_ready.1 hj
      have hpend : listed.getD i false = false := getD_both (mem_ready.1 hr).1
      have hnot : ∀ e ∈ oj.after, Region.binds md e = true → e.on ≠ i := fun e he hb heq => by
        have h1 := hall e he hb
        rw [heq, hpend] at h1
        cases h1
      have h2 := wpOp_putIf hoj (hfree j oj hoj hji hjun hnot) (fun cs b => hsel i oi cs b hi) (fun cs b => hsel j oj cs b hoj) hQ hy h1
      have hfree' : ∀ k ok, ops[k]? = some ok → k ≠ i → (listed.setIfInBounds j true).getD k true = false →
          (∀ e ∈ ok.after, Region.binds md e = true → e.on ≠ i) → oi.apart ops ok = true := fun k ok hk hki hun hno => by
        refine hfree k ok hk hki ?_ hno
        by_cases hjk : j = k
        · subst hjk; exact hjun
        · rw [getD_set_ne true hjk] at hun; exact hun
      refine wpOp_mono (fun a' w' h3 => ?_) h2
      have hS' : (listed.setIfInBounds j true).getD r true = false → S w' := fun h => h3.2.1 (by
        rw [Array.setIfInBounds_comm _ _ (Ne.symm hji), getD_set_ne true hir]; exact h)
      refine ⟨hS', ih (listed.setIfInBounds j true) a' w' hfree' (ready_mono hr (Ne.symm hji)) h3.1 hS' ?_⟩
      rw [Array.setIfInBounds_comm _ _ hji]
      exact h3.2.2
theorem wpAnyM_takeP {i : Nat} {oi : Oper} {v : Value} {n : Nat} {listed : Array Bool} {a : Act} {w : World} (hi : ops[i]? = some oi)
    (hs : Region.noSelect ops = true) (hf : Region.free md ops listed i = true) (hr : (Region.ready md ops listed).contains i = true) (hir : (i == r) = false)
    (hQ : ∀ c a w, Q (.panic c) (a.put oi.dst v) w → Q (.panic c) a w) (hy : YieldsIf P ops (fun _ => True) oi v a) (hS : listed.getD r true = false → S w)
    (h : wpAnyM P md ops Q r S n (listed.setIfInBounds i true) (a.put oi.dst v) w) : wpAnyM P md ops Q r S (n + 1) listed a w :=
  wpAnyM_firstP hi (Region.noSelect_spec hs) hQ (by simpa using hir) n listed a w (Region.free_spec hi hf) (by simpa using hr) hy hS h

theorem wpAnyM_done {listed : Array Bool} {a : Act} {w : World} (hr : Region.ready md ops listed = []) (h : Q .normal a w) : ∀ n, wpAnyM P md ops Q r S n listed a w
  | 0 => ⟨hr, h⟩
  | _ + 1 => ⟨fun _ => h, by rw [hr]; simp⟩

def AllReadyM (P : Program) (md : Region.Mode) (ops : Array Oper) (Q : Exit → Act → World → Prop) (r : Nat) (S : World → Prop) (n : Nat) (listed : Array Bool) (a : Act) (w : World) (rs : List Nat) : Prop :=
  ∀ i ∈ rs, wpOp P ops Q i (fun a' w' => ((listed.setIfInBounds i true).getD r true = false → S w') ∧ wpAnyM P md ops Q r S n (listed.setIfInBounds i true) a' w') a w
theorem AllReadyM.nil {n : Nat} {listed : Array Bool} {a : Act} {w : World} : AllReadyM P md ops Q r S n listed a w [] := fun _ h => by cases h
theorem AllReadyM.cons {n : Nat} {listed : Array Bool} {a : Act} {w : World} {i : Nat} {o : Oper} {rs : List Nat} (ho : ops[i]? = some o)
    (h : ∀ K' : Act → World → Prop, Shut (∀ a w, S w → (S w → wpAnyM P md ops Q r S n (listed.setIfInBounds i true) a w) → K' a w) → if Region.wanted o (yielded ops a.tmps) = true then Oper.wp P o a w K' Q else K' (a.put o.dst undef) w)
    (hs : AllReadyM P md ops Q r S n listed a w rs) : AllReadyM P md ops Q r S n listed a w (i :: rs) := fun j hj => by
  rcases List.mem_cons.1 hj with rfl | hj
  · exact wpOp_step ho (fun K' hK => h K' (fun a w hS hW => hK a w ⟨fun _ => hS, hW hS⟩))
  · exact hs j hj
/-- Number r has come up, or comes up now: nothing is to be shown. -/
theorem AllReadyM.free {n : Nat} {listed : Array Bool} {a : Act} {w : World} {i : Nat} {o : Oper} {rs : List Nat} (ho : ops[i]? = some o) (hl : (listed.setIfInBounds i true).getD r true = true)
    (h : ∀ K' : Act → World → Prop, Shut (∀ a w, wpAnyM P md ops Q r S n (listed.setIfInBounds i true) a w → K' a w) → if Region.wanted o (yielded ops a.tmps) = true then Oper.wp P o a w K' Q else K' (a.put o.dst undef) w)
    (hs : AllReadyM P md ops Q r S n listed a w rs) : AllReadyM P md ops Q r S n listed a w (i :: rs) := fun j hj => by
  rcases List.mem_cons.1 hj with rfl | hj
  · exact wpOp_step ho (fun K' hK => h K' (fun a w hW => hK a w ⟨(fun e => by rw [hl] at e; cases e), hW⟩))
  · exact hs j hj
theorem wpAnyM_ready {rs : List Nat} {n : Nat} {listed : Array Bool} {a : Act} {w : World} (hr : Region.ready md ops listed = rs) (hne : rs ≠ [])
    (h : AllReadyM P md ops Q r S n listed a w rs) : wpAnyM P md ops Q r S (n + 1) listed a w :=
  ⟨fun h0 => absurd (hr ▸ h0) hne, hr ▸ h⟩

theorem wp_region_M {id : Nat} {a : Act} {w : World} (hm : P.follows .mixedOrders = true) (hS : S w.drew)
    (h : S w.drew → wpAnyM P .any ops Q r S ops.size (Array.replicate ops.size false) a w.drew) : (Code.region id ops true).wp P Q a w :=
  wp_region_any hm (wpAny_ofM _ _ _ _ (h hS))
end
/-- The built-in max of two numbers as one operation of a region. -/
theorem step_max {P : Program} {t t' : TypeId} {o : Oper} {a : Act} {w : World} {K : Act → World → Prop} {Q : Exit → Act → World → Prop} (x y : Operand)
    (ho : o.op = .call { callee := .builtin .max, args := #[x, y], argTypes := #[t, t'] }) {k k' : IntKind} {m n r : Int} (hx : a.eval x = .int k m) (hy : a.eval y = .int k' n) (hr : (if n > m then n else m) = r)
    (h : K (a.put o.dst (.int k r)) w) : Oper.wp P o a w K Q := by
  subst hr
  unfold Oper.wp execOp
  simp only [ho, resolve, invoke, builtin, Sem.run_bind, Sem.run_pure, Result.andThen_ok, List.map_toArray, List.map_cons, List.map_nil, hx, hy, run_max_int2]
  exact h
theorem step_min {P : Program} {t t' : TypeId} {o : Oper} {a : Act} {w : World} {K : Act → World → Prop} {Q : Exit → Act → World → Prop} (x y : Operand)
    (ho : o.op = .call { callee := .builtin .min, args := #[x, y], argTypes := #[t, t'] }) {k k' : IntKind} {m n r : Int} (hx : a.eval x = .int k m) (hy : a.eval y = .int k' n) (hr : (if n < m then n else m) = r)
    (h : K (a.put o.dst (.int k r)) w) : Oper.wp P o a w K Q := by
  subst hr
  unfold Oper.wp execOp
  simp only [ho, resolve, invoke, builtin, Sem.run_bind, Sem.run_pure, Result.andThen_ok, List.map_toArray, List.map_cons, List.map_nil, hx, hy, run_min_int2]
  exact h
/-- A slice expression s[l:]: what is read through it. -/
structure CutL (size : Nat) (a a' : Option Addr) (n c l n' c' : Nat) : Prop where
  rd : ∀ (S : Nat → Prop) (w : World) (xs : List Value), xs.length = n * size → Rd S w (.slice a n c) n xs → Rd S w (.slice a' n' c') n' (xs.drop (l * size))
  num : n' + l = n
  cap : c' + l = c
  nil : a' = none → a = none
theorem cutL_of (size : Nat) (a : Option Addr) (n c l : Nat) (hl : l ≤ n) (hc : n ≤ c) : CutL size a (if c = l then a else a.map (·.add (l * size))) n c l (n - l) (c - l) := by
  refine ⟨fun S w xs hx h => ?_, by omega, by omega, fun h => ?_⟩
  · obtain ⟨a', c', he, h1, h2, h3, h4⟩ := h
    injection he with e1 _ e3
    subst e1; subst e3
    refine ⟨_, _, rfl, by omega, by omega, fun hn => ?_, fun j u hu => ?_⟩
    · have hn' : a = none := by
        split at hn
        · exact hn
        · cases a with
          | none => rfl
          | some _ => cases hn
      obtain ⟨r1, r2⟩ := h3 hn'
      omega
    · rw [List.getElem?_drop] at hu
      obtain ⟨b, o, rfl, hb, hcell⟩ := h4 _ u hu
      by_cases e : c = l
      · exfalso
        have := (List.getElem?_eq_some_iff.1 hu).1
        have : n = l := by omega
        subst this
        omega
      · refine ⟨b, o + l * size, ?_, hb, by rw [Nat.add_assoc]; exact hcell⟩
        rw [if_neg e]
        simp only [Option.map_some, Addr.add]
        split
        · rename_i h0; simp [h0]
        · rfl
  · split at h
    · exact h
    · cases a with
      | none => rfl
      | some _ => cases h
/-- s[l:], run anywhere. -/
theorem slice_l_any {P : Program} {t e : TypeId} {size bytes : Nat} (hT : SlTy P t e size bytes) (ad : Option Addr) (n c l : Nat) (k : IntKind) (hl : l ≤ n) (hc : n ≤ c) :
    ∃ a' n' c', CutL size ad a' n c l n' c' ∧ ∀ w, (Instr.sliceAt t (.slice ad n c) (some (.int k l)) none none).run P w = .ok (.slice a' n' c') w := by
  obtain ⟨ht, ⟨i, z, hi, hz, hsize, hby, hzs⟩, hsz⟩ := hT
  refine ⟨_, _, _, cutL_of size ad n c l hl hc, fun w => ?_⟩
  have hr : (Instr.slice t (.slice ad n c) (some (.int k l)) none none).run P w = .ok (.slice (if c = l then ad else ad.map (·.add (l * size))) (n - l) (c - l)) w := by
    simp [Instr.slice, run_underlying ht, Instr.sliceBounds, Instr.sliceBound, asIntOf, sizeOf, typeInfo, hi, hsize, hl]
  have hs : (Instr.sliceAt t (.slice ad n c) (some (.int k l)) none none).run P w = (Instr.slice t (.slice ad n c) (some (.int k l)) none none).run P w := by simp [Instr.sliceAt, run_underlying ht]
  rw [hs, hr]
/-- s[:h], run anywhere. -/
theorem slice_h_any {P : Program} {t e : TypeId} {size bytes : Nat} (hT : SlTy P t e size bytes) (ad : Option Addr) (n c h : Nat) (k : IntKind) (hc : h ≤ c) :
    ∀ w, (Instr.sliceAt t (.slice ad n c) none (some (.int k h)) none).run P w = .ok (.slice ad h c) w := by
  intro w
  obtain ⟨ht, ⟨i, z, hi, hz, hsize, hby, hzs⟩, hsz⟩ := hT
  have hr : (Instr.slice t (.slice ad n c) none (some (.int k h)) none).run P w = .ok (.slice ad h c) w := by
    simp [Instr.slice, run_underlying ht, Instr.sliceBounds, Instr.sliceBound, asIntOf, sizeOf, typeInfo, hi, hsize, hc]
    intro _
    cases ad <;> simp [Addr.add]
  have hs : (Instr.sliceAt t (.slice ad n c) none (some (.int k h)) none).run P w = (Instr.slice t (.slice ad n c) none (some (.int k h)) none).run P w := by simp [Instr.sliceAt, run_underlying ht]
  rw [hs, hr]
theorem Rd.take {S : Nat → Prop} {w : World} {a : Option Addr} {n c : Nat} {xs : List Value} (hr : Rd S w (.slice a n c) n xs) (size h : Nat) (hh : h ≤ n) : Rd S w (.slice a h c) h (xs.take (h * size)) := by
  obtain ⟨a', c', he, h1, h2, h3, h4⟩ := hr
  injection he with e1 _ e3
  subst e1; subst e3
  refine ⟨_, _, rfl, by omega, h2, fun hn => ⟨by have := (h3 hn).1; omega, (h3 hn).2⟩, fun j u hu => ?_⟩
  rw [List.getElem?_take] at hu
  split at hu
  · exact h4 j u hu
  · cases hu
theorem step_slice_l {P : Program} {t e : TypeId} {size bytes : Nat} (hT : SlTy P t e size bytes) {o : Oper} {a : Act} {w : World} {K : Act → World → Prop} {Q : Exit → Act → World → Prop} (x lo : Operand)
    (ho : o.op = .slice t x (some lo) none none) {ad : Option Addr} {n c l : Nat} {k : IntKind} (hx : a.eval x = .slice ad n c) (hlo : a.eval lo = .int k l) (hl : l ≤ n) (hc : n ≤ c)
    (h : ∀ a' n' c', CutL size ad a' n c l n' c' → K (a.put o.dst (.slice a' n' c')) w) : Oper.wp P o a w K Q := by
  obtain ⟨ht, ⟨i, z, hi, hz, hsize, hby, hzs⟩, hsz⟩ := hT
  have h1 : (l : Int) ≤ (n : Int) := by omega
  have hr : (Instr.slice t (.slice ad n c) (some (.int k l)) none none).run P w = .ok (.slice (if c = l then ad else ad.map (·.add (l * size))) (n - l) (c - l)) w := by
    simp [Instr.slice, run_underlying ht, Instr.sliceBounds, Instr.sliceBound, asIntOf, sizeOf, typeInfo, hi, hsize, hl]
  have hs : (Instr.sliceAt t (.slice ad n c) (some (.int k l)) none none).run P w = (Instr.slice t (.slice ad n c) (some (.int k l)) none none).run P w := by simp [Instr.sliceAt, run_underlying ht]
  unfold Oper.wp execOp
  simp only [ho, hx, hlo, Option.map_some, Option.map_none, Sem.run_bind, Sem.run_pure, Result.andThen_ok, hs, hr]
  exact h _ _ _ (cutL_of size ad n c l hl hc)
end Go.Proofs.YtkiikblpgppmkaaGreatDoor
