/-
  A word and its negative have the least bit in common. No program in sight; What the program's words of 64 bits do: the least number from one on; Sets of numbers below 64: the cells that they lie in; ok, digit, Len, at, Has; Sets of numbers below 64: at and Has; Sets of numbers below 64: New, Clear.
-/
import Derived.Test.YtkiikblpgppmkaaGreatDoorTlM04
import Derived.Test.YtkiikblpgppmkaaGreatDoorTlM02
namespace Go.Proofs.YtkiikblpgppmkaaGreatDoor
open Go Go.RowKit
set_option linter.unusedVariables false
set_option linter.unusedSimpArgs false

theorem tz_spec {m : Nat} (hm : m < 2 ^ 64) (h0 : m ≠ 0) : tz m < 64 ∧ m.testBit (tz m) = true ∧ ∀ k, k < tz m → m.testBit k = false := by
  rcases firstW_cases m 0 with h | ⟨d, h⟩
  · exfalso
    apply h0
    apply word_ext hm (by decide)
    intro k hk
    rw [firstW_none h k (by omega) hk]
    simp
  · obtain ⟨h1, h2, h3, h4⟩ := firstW_some h
    have e : tz m = d := by rw [tz, h]; simp
    rw [e]
    exact ⟨h2, h3, fun k hk => h4 k (by omega) hk⟩
theorem and_neg {m : Nat} (hm : m < 2 ^ 64) (h0 : m ≠ 0) : m &&& (2 ^ 64 - m) = 2 ^ tz m := by
  obtain ⟨h1, h2, h3⟩ := tz_spec hm h0
  obtain ⟨t, ht⟩ : ∃ t, tz m = t := ⟨_, rfl⟩
  rw [ht] at h1 h2 h3 ⊢
  have hlow : m % 2 ^ t = 0 := by
    apply Nat.eq_of_testBit_eq
    intro k
    rw [Nat.testBit_mod_two_pow, Nat.zero_testBit]
    by_cases hk : k < t
    · rw [h3 k hk]; simp
    · simp [hk]
  have hodd : m / 2 ^ t % 2 = 1 := by
    have : (m / 2 ^ t).testBit 0 = true := by
      rw [Nat.testBit_div_two_pow, Nat.zero_add]
      exact h2
    simpa [Nat.testBit_zero] using this
  obtain ⟨q, hq⟩ : ∃ q, m / 2 ^ t = 2 * q + 1 := ⟨m / 2 ^ t / 2, by omega⟩
  have hpos : 0 < 2 ^ t := Nat.pow_pos (by decide)
  have em : m = 2 ^ t * (2 * q + 1) + 0 := by
    have := Nat.div_add_mod m (2 ^ t)
    rw [hq, hlow] at this
    exact this.symm
  have em1 : m - 1 = 2 ^ t * (2 * q) + (2 ^ t - 1) := by
    rw [Nat.mul_add] at em
    omega
  have hb1 : ∀ k, m.testBit k = if k < t then false else (2 * q + 1).testBit (k - t) := by
    intro k
    rw [em, Nat.testBit_two_pow_mul_add _ hpos]
    simp
  have hb2 : ∀ k, (m - 1).testBit k = if k < t then true else (2 * q).testBit (k - t) := by
    intro k
    rw [em1, Nat.testBit_two_pow_mul_add _ (by omega)]
    split
    · rw [Nat.testBit_two_pow_sub_one]
      simp
      assumption
    · rfl
  have hneg : ∀ k, (2 ^ 64 - m).testBit k = (decide (k < 64) && !(m - 1).testBit k) := by
    intro k
    have := Nat.testBit_two_pow_sub_succ (x := m - 1) (n := 64) (by omega) k
    rw [show m - 1 + 1 = m by omega] at this
    exact this
  apply Nat.eq_of_testBit_eq
  intro k
  rw [Nat.testBit_and, hneg, hb1, hb2, Nat.testBit_two_pow]
  by_cases hk : k < t
  · have : ¬ t = k := by omega
    simp [hk, this]
  · simp only [hk, if_false]
    by_cases e : t = k
    · subst e
      simp [h1]
    · have h5 : (2 * q + 1).testBit (k - t) = (2 * q).testBit (k - t) := by
        obtain ⟨s, hs⟩ : ∃ s, k - t = s + 1 := ⟨k - t - 1, by omega⟩
        rw [hs, Nat.testBit_succ, Nat.testBit_succ]
        congr 1
        omega
      rw [h5]
      cases (2 * q).testBit (k - t) <;> simp [e]
end Go.Proofs.YtkiikblpgppmkaaGreatDoor

namespace Go.Proofs.YtkiikblpgppmkaaGreatDoor
open Go Go.RowKit
set_option linter.unusedVariables false
set_option linter.unusedSimpArgs false

/-- The library's table, as the row lays it. -/
def tabL : List Nat := [0, 1, 56, 2, 57, 49, 28, 3, 61, 58, 42, 50, 38, 29, 17, 4, 62, 47, 59, 36, 45, 43, 51, 22, 53, 39, 33, 30, 24, 18, 12, 5, 63, 55, 48, 27, 60, 41, 37, 16, 46, 35, 44, 21, 52, 32, 23, 11, 54, 26, 40, 15, 34, 20, 31, 10, 25, 14, 19, 9, 13, 8, 7, 6]
def Tab (w : World) : Prop := 0 < w.heap.size ∧ ∀ k, k < 64 → w.cell? ⟨0, k, none⟩ = some (.int .u8 ((tabL.getD k 0 : Nat) : Int))
theorem Tab.keep {w w' : World} {S : Nat → Prop} (h : Tab w) (hk : Keep w w' S) (hS : ¬ S 0) : Tab w' :=
  ⟨Nat.lt_of_lt_of_le h.1 hk.size, fun k hl => hk.cell (h.2 k hl) hS⟩
def dbI (t : Nat) : Nat := 2 ^ t * 285870213051353865 % 2 ^ 64 / 288230376151711744
theorem tab_db : ∀ t, t < 64 → dbI t < 64 ∧ tabL.getD (dbI t) 0 = t := by decide +kernel
theorem wrap_u64 (n : Nat) : IntKind.u64.wrap (n : Int) = ((n % 2 ^ 64 : Nat) : Int) := by
  simp [IntKind.wrap, IntKind.bits, IntKind.signed]
theorem wrap_neg (m : Nat) (hm : m < 2 ^ 64) (h0 : m ≠ 0) : IntKind.u64.wrap (-(m : Int)) = ((2 ^ 64 - m : Nat) : Int) := by
  have : IntKind.u64.wrap (-(m : Int)) = (-(m : Int)) % 2 ^ 64 := by simp [IntKind.wrap, IntKind.bits, IntKind.signed]
  rw [this]
  omega

theorem word_tz (m : Nat) (hm : m < 2 ^ 64) (h0 : m ≠ 0) (w : World) (hT : Tab w) :
    Calls Tryz.prog 214 #[.int .u64 (m : Nat)] w (fun e w' => e = .returned (.int .i64 (tz m : Nat)) ∧ w = w') := by
  have e0 : ((m : Int) == 0) = false := by simp; exact h0
  have e1 : decide (m = 0) = false := decide_eq_false h0
  obtain ⟨ht, _, _⟩ := tz_spec hm h0
  obtain ⟨t, hte⟩ : ∃ t, tz m = t := ⟨_, rfl⟩
  rw [hte] at ht ⊢
  obtain ⟨hk, hv⟩ := tab_db t ht
  have hc := hT.2 (dbI t) hk
  rw [hv] at hc
  have hA : bits BinOp.and IntKind.u64 (m : Int) (IntKind.u64.wrap (-(m : Int))) = ((2 ^ t : Nat) : Int) := by
    rw [wrap_neg m hm h0, bits_and m _ hm (by omega), and_neg hm h0, hte]
  have hB : IntKind.u64.wrap (((2 ^ t : Nat) : Int) * 285870213051353865) / 288230376151711744 = ((dbI t : Nat) : Int) := by
    rw [show ((2 ^ t : Nat) : Int) * 285870213051353865 = ((2 ^ t * 285870213051353865 : Nat) : Int) by simp, wrap_u64]
    unfold dbI
    simp
  obtain ⟨p, hp⟩ : ∃ p, 2 ^ t = p := ⟨_, rfl⟩
  rw [hp] at hA hB
  obtain ⟨k, hke⟩ : ∃ k, dbI t = k := ⟨_, rfl⟩
  rw [hke] at hB hc hk
  clear hp hke hv hte hm h0 hT
  go_enter Tryz.func214, Tryz.ntmps214
  go_wp2_with fail
  go_ret
  exact ⟨rfl, rfl⟩

theorem firstW_ge {m i : Nat} (hi : 64 ≤ i) : firstW m i = -1 := by
  rcases firstW_cases m i with h | ⟨d, h⟩
  · exact h
  · obtain ⟨h1, h2, _⟩ := firstW_some h
    omega
theorem word_first (m : Nat) (hm : m < 2 ^ 64) (i : Nat) (hi : i ≤ 1000000) (w : World) (hT : Tab w) :
    Calls Tryz.prog 141 #[.int .u64 (m : Nat), .int .i64 (i : Nat)] w (fun e w' => e = .returned (.int .i64 (firstW m i)) ∧ w = w') := by
  have m1 : max (i : Int) 0 = (i : Int) := by omega
  have m2 : ¬ ((i : Int) < 0) := by omega
  by_cases h64 : 64 ≤ i
  · have e0 : decide ((i : Int) ≥ 64) = true := decide_eq_true (by omega)
    have e1 : decide (64 ≤ i) = true := decide_eq_true h64
    rw [firstW_ge h64]
    go_enter Tryz.func141, Tryz.ntmps141
    go_wp2_with fail
    go_ret
    exact ⟨rfl, rfl⟩
  have e0 : decide ((i : Int) ≥ 64) = false := decide_eq_false (by omega)
  have e1 : decide (64 ≤ i) = false := decide_eq_false h64
  have hs : (m : Int) / 2 ^ i = ((m / 2 ^ i : Nat) : Int) := by simp
  have hlt : m / 2 ^ i < 2 ^ 64 := Nat.lt_of_le_of_lt (Nat.div_le_self _ _) hm
  by_cases h0 : m / 2 ^ i = 0
  · rw [(shr_zero hm).1 h0]
    rw [h0] at hs
    clear hm hlt
    go_enter Tryz.func141, Tryz.ntmps141
    go_wp2_with fail
    go_ret
    exact ⟨rfl, rfl⟩
  · rw [shr_first hm h0]
    have HTZ := Lib.hid (word_tz (m / 2 ^ i) hlt h0 w hT)
    obtain ⟨q, hq⟩ : ∃ q, m / 2 ^ i = q := ⟨_, rfl⟩
    rw [hq] at hs h0 HTZ ⊢
    have e2 : ((q : Int) == 0) = false := by simp; exact h0
    have e3 : decide (q = 0) = false := decide_eq_false h0
    rw [hq] at hlt
    have hb : tz q < 64 := (tz_spec hlt h0).1
    clear hm hlt hq
    obtain ⟨z, hz⟩ : ∃ z, tz q = z := ⟨_, rfl⟩
    rw [hz] at HTZ hb ⊢
    go_enter Tryz.func141, Tryz.ntmps141
    go_wp2_with (go_at_call 214; refine HTZ.out.mono ?_; rintro e w' ⟨rfl, rfl⟩)
    go_ret
    exact ⟨by go_num, rfl⟩

theorem allW_one (i : Nat) (hi : i < 64) : allW [(i : Int)] = 2 ^ i := by
  rw [← oneW_nat hi]
  simp [allW]
theorem word_with (m : Nat) (hm : m < 2 ^ 64) (i : Nat) (hi : i < 64) (v : Value) (w : World) (S : Nat → Prop) (h : Rd S w v 1 (ints [(i : Int)])) :
    Calls Tryz.prog 203 #[.int .u64 (m : Nat), v] w (fun e w' => e = .returned (.int .u64 (addW m i : Nat)) ∧ w = w') := by
  have := bits_with m hm v [(i : Int)] w S h
  rw [allW_one i hi] at this
  exact this
theorem word_without (m : Nat) (hm : m < 2 ^ 64) (i : Nat) (hi : i < 64) (v : Value) (w : World) (S : Nat → Prop) (h : Rd S w v 1 (ints [(i : Int)])) :
    Calls Tryz.prog 218 #[.int .u64 (m : Nat), v] w (fun e w' => e = .returned (.int .u64 (delW m i : Nat)) ∧ w = w') := by
  obtain ⟨a, c, rfl, _⟩ := id h
  have H := Lib.hid h
  have HV := Lib.hid (andnot_val hm hi)
  have HA := Lib.hid (bits_all (.slice a 1 c) [(i : Int)] w S h)
  rw [allW_one i hi] at HA
  clear h hm
  obtain ⟨p, hp⟩ : ∃ p, 2 ^ i = p := ⟨_, rfl⟩
  rw [hp] at HA HV
  clear hp
  go_enter Tryz.func218, Tryz.ntmps218
  go_wp2_with (go_at_call 244; refine HA.out.mono ?_; rintro e w' ⟨rfl, rfl⟩)
  go_ret
  exact ⟨by rw [← HV.out]; rfl, rfl⟩
end Go.Proofs.YtkiikblpgppmkaaGreatDoor

namespace Go.Proofs.YtkiikblpgppmkaaGreatDoor
open Go Go.RowKit
set_option linter.unusedVariables false
set_option linter.unusedSimpArgs false

def nilV : Value := .pointer none
def ptr (b : Nat) : Value := .pointer (some ⟨b, 0, none⟩)
/-- A node: its word, its first kid; all other kids are nil. -/
def nodeCs (x : Nat) (k : Value) : Array Value := (.int .u64 (x : Int) :: k :: List.replicate 63 nilV).toArray
/-- A set: its top node, and how many there are. -/
def setCs (x : Nat) (k : Value) (n : Nat) : Array Value := (.int .u64 (x : Int) :: k :: (List.replicate 63 nilV ++ [.int .i64 (n : Int)])).toArray
/-- The blocks of a set that is not empty, below its own. -/
structure Way where
  b2 : Nat
  b1 : Nat
  b0 : Nat
/-- What a set of numbers below 64 reads as: a word m. -/
def RdHib (w : World) (b m : Nat) : Prop :=
  m < 2 ^ 64 ∧ ((m = 0 ∧ Blk w b (setCs 0 nilV 0) 316) ∨
    (m ≠ 0 ∧ ∃ c : Way, Blk w b (setCs 1 (ptr c.b2) (pop m)) 316 ∧ Blk w c.b2 (nodeCs 1 (ptr c.b1)) 313 ∧ Blk w c.b1 (nodeCs 1 (ptr c.b0)) 313 ∧ Blk w c.b0 (nodeCs m nilV) 313))
/-- A set of the call's own. -/
def hibL (b m : Nat) (c : Way) : List Asr :=
  [blkA b (setCs 1 (ptr c.b2) (pop m)) 316, blkA c.b2 (nodeCs 1 (ptr c.b1)) 313, blkA c.b1 (nodeCs 1 (ptr c.b0)) 313, blkA c.b0 (nodeCs m nilV) 313]
def hibA (b m : Nat) : Asr := if m = 0 then blkA b (setCs 0 nilV 0) 316 else exA (fun c => starA (hibL b m c))
theorem hib_rd {w : World} {F : Nat → Prop} {b m : Nat} (hm : m < 2 ^ 64) (h : (hibA b m).at' w F) : RdHib w b m := by
  refine ⟨hm, ?_⟩
  unfold hibA at h
  by_cases h0 : m = 0
  · rw [if_pos h0] at h
    exact .inl ⟨h0, h.1⟩
  · rw [if_neg h0] at h
    obtain ⟨c, G, h1, _, _⟩ := h
    exact .inr ⟨h0, c, (h1 0 _ rfl).1, (h1 1 _ rfl).1, (h1 2 _ rfl).1, (h1 3 _ rfl).1⟩
theorem RdHib.keep {w w' : World} {b m : Nat} (h : RdHib w b m) (hk : Keep w w' Nope) : RdHib w' b m := by
  obtain ⟨h0, h1⟩ := h
  refine ⟨h0, ?_⟩
  rcases h1 with ⟨e, h⟩ | ⟨e, c, g1, g2, g3, g4⟩
  · exact .inl ⟨e, h.keep hk (fun f => f)⟩
  · exact .inr ⟨e, c, g1.keep hk (fun f => f), g2.keep hk (fun f => f), g3.keep hk (fun f => f), g4.keep hk (fun f => f)⟩

theorem hib_ok (i : Nat) (hi : i < 64) (w : World) : Calls Tryz.prog 199 #[.int .i64 (i : Nat)] w (fun e w' => e = .returned (.bool true) ∧ w = w') := by
  have e0 : decide ((i : Int) ≥ 0) = true := decide_eq_true (by omega)
  have e1 : decide ((i : Int) < 16777216) = true := decide_eq_true (by omega)
  have e2 : decide (i < 16777216) = true := decide_eq_true (by omega)
  go_enter Tryz.func199, Tryz.ntmps199
  go_wp2_with fail
  go_ret
  exact ⟨rfl, rfl⟩
theorem and63 (i : Nat) (hi : i < 64) : bits .and .i64 (i : Int) 63 = (i : Int) := by
  rw [and_mask (i : Int) 6 63 (by decide) (by decide)]
  show (i : Int) % 64 = i
  omega
theorem hib_digit0 (i : Nat) (hi : i < 64) (w : World) : Calls Tryz.prog 202 #[.int .i64 (i : Nat), .int .i64 0] w (fun e w' => e = .returned (.int .i64 (i : Nat)) ∧ w = w') := by
  have hA := and63 i hi
  go_enter Tryz.func202, Tryz.ntmps202
  go_wp2_with fail
  go_ret
  exact ⟨rfl, rfl⟩
theorem hib_digit (i : Nat) (hi : i < 64) (l : Nat) (h1 : 0 < l) (h2 : l < 4) (w : World) : Calls Tryz.prog 202 #[.int .i64 (i : Nat), .int .i64 (l : Nat)] w (fun e w' => e = .returned (.int .i64 0) ∧ w = w') := by
  have hz : bits .and .i64 0 63 = 0 := by rfl
  have d1 : (i : Int) / 64 = 0 := by omega
  have d2 : (i : Int) / 4096 = 0 := by omega
  have d3 : (i : Int) / 262144 = 0 := by omega
  obtain rfl | rfl | rfl : l = 1 ∨ l = 2 ∨ l = 3 := by omega
  all_goals
    go_enter Tryz.func202, Tryz.ntmps202
    go_wp2_with fail
    go_ret
    exact ⟨rfl, rfl⟩
theorem hib_len (b m : Nat) (w : World) (h : RdHib w b m) : Calls Tryz.prog 147 #[ptr b] w (fun e w' => e = .returned (.int .i64 (pop m : Nat)) ∧ w = w') := by
  have hc : w.cell? ⟨b, 65, none⟩ = some (.int .i64 (pop m : Nat)) := by
    rcases h.2 with ⟨e, h⟩ | ⟨_, c, h, _⟩
    · rw [e, h.cell, pop_zero]
      rfl
    · rw [h.cell]
      rfl
  clear h
  unfold ptr
  go_enter Tryz.func147, Tryz.ntmps147
  go_wp2_with fail
  go_ret
  exact ⟨rfl, rfl⟩

def RetK (w : World) (v : Value) (e : Ending) (w' : World) : Prop := e = .returned v ∧ Keep w w' Nope
end Go.Proofs.YtkiikblpgppmkaaGreatDoor

namespace Go.Proofs.YtkiikblpgppmkaaGreatDoor
open Go Go.RowKit
set_option linter.unusedVariables false
set_option linter.unusedSimpArgs false

/-- How far the way down has come. -/
def AtRel (b b2 b1 b0 : Nat) (w : World) (g : Nat) (v7 v8 : Value) (wr : World) : Prop :=
  Keep w wr Nope ∧ ((g = 3 ∧ v7 = .pointer (some ⟨b, 0, none⟩) ∧ v8 = .int .i64 3) ∨ (g = 2 ∧ v7 = .pointer (some ⟨b2, 0, none⟩) ∧ v8 = .int .i64 2) ∨ (g = 1 ∧ v7 = .pointer (some ⟨b1, 0, none⟩) ∧ v8 = .int .i64 1) ∨ (g = 0 ∧ v7 = .pointer (some ⟨b0, 0, none⟩) ∧ v8 = .int .i64 0))
theorem hib_at (b b2 b1 b0 : Nat) (i : Nat) (hi : i < 64) (w : World) (k3 : w.cell? ⟨b, 1, none⟩ = some (ptr b2)) (k2 : w.cell? ⟨b2, 1, none⟩ = some (ptr b1)) (k1 : w.cell? ⟨b1, 1, none⟩ = some (ptr b0)) :
    Calls Tryz.prog 200 #[ptr b, .int .i64 (i : Nat), .int .i64 0] w (RetK w (ptr b0)) := by
  unfold ptr at *
  have HD := Lib.hid (fun (l : Nat) h1 h2 w => hib_digit i hi l h1 h2 w)
  go_enter Tryz.func200, Tryz.ntmps200
  go_wp2_with fail
  go_loopg [7, 8] 3 (fun g v7 v8 wr => AtRel b b2 b1 b0 w g v7 v8 wr)
  case atStart => exact ⟨Keep.refl _ _, .inl ⟨rfl, rfl, rfl⟩⟩
  case round =>
    obtain ⟨hk, ⟨rfl, rfl, rfl⟩ | ⟨rfl, rfl, rfl⟩ | ⟨rfl, rfl, rfl⟩ | ⟨rfl, rfl, rfl⟩⟩ := hrel
    all_goals have HK := Lib.hid hk; clear hk
    · have kc := HK.out.cell k3 (fun f => f)
      go_wp2_with fail
      refine wp_region_held_drew (S := fun w' => w'.cell? ⟨b, 1, none⟩ = some (.pointer (some ⟨b2, 0, none⟩))) (by kernel_rfl) ?_ (fun hHeld => ?_)
      · (try dsimp only); exact kc
      refine tkW 0 ?_; refine tkW 1 ?_; refine tkW 2 ?_; refine tkW 4 ?_; refine tkW 5 ?_
      refine wpAnyH_ready (rs := [3]) (by kernel_rfl) (by simp) ?_
      refine AllReadyH.cons rfl (fun K hK => ?_) (AllReadyH.nil)
      go_simp
      go_wp2_with ((go_at_call 202; refine (HD.out 3 (by omega) (by omega) _).mono ?_; rintro e w' ⟨rfl, rfl⟩))
      refine hK.out _ _ ?_ (fun hHeld => ?_)
      · (try dsimp only); exact kc
      clear hK K
      refine tkW 6 ?_; refine tkW 7 ?_; refine tkW 8 ?_
      refine wpAnyH_done (by kernel_rfl) ?_ _
      go_wp2_with fail
      go_roundg 2
      case measure => omega
      case rel => exact ⟨HK.out.trans (show Keep wr _ Nope from (by (repeat (first | exact Keep.refl _ _ | apply Keep.drew | apply Keep.drewN | apply Keep.alloc)))) (fun _ f => f.elim), .inr (.inl ⟨rfl, rfl, by go_num⟩)⟩
    · have kc := HK.out.cell k2 (fun f => f)
      go_wp2_with fail
      refine wp_region_held_drew (S := fun w' => w'.cell? ⟨b2, 1, none⟩ = some (.pointer (some ⟨b1, 0, none⟩))) (by kernel_rfl) ?_ (fun hHeld => ?_)
      · (try dsimp only); exact kc
      refine tkW 0 ?_; refine tkW 1 ?_; refine tkW 2 ?_; refine tkW 4 ?_; refine tkW 5 ?_
      refine wpAnyH_ready (rs := [3]) (by kernel_rfl) (by simp) ?_
      refine AllReadyH.cons rfl (fun K hK => ?_) (AllReadyH.nil)
      go_simp
      go_wp2_with ((go_at_call 202; refine (HD.out 2 (by omega) (by omega) _).mono ?_; rintro e w' ⟨rfl, rfl⟩))
      refine hK.out _ _ ?_ (fun hHeld => ?_)
      · (try dsimp only); exact kc
      clear hK K
      refine tkW 6 ?_; refine tkW 7 ?_; refine tkW 8 ?_
      refine wpAnyH_done (by kernel_rfl) ?_ _
      go_wp2_with fail
      go_roundg 1
      case measure => omega
      case rel => exact ⟨HK.out.trans (show Keep wr _ Nope from (by (repeat (first | exact Keep.refl _ _ | apply Keep.drew | apply Keep.drewN | apply Keep.alloc)))) (fun _ f => f.elim), .inr (.inr (.inl ⟨rfl, rfl, by go_num⟩))⟩
    · have kc := HK.out.cell k1 (fun f => f)
      go_wp2_with fail
      refine wp_region_held_drew (S := fun w' => w'.cell? ⟨b1, 1, none⟩ = some (.pointer (some ⟨b0, 0, none⟩))) (by kernel_rfl) ?_ (fun hHeld => ?_)
      · (try dsimp only); exact kc
      refine tkW 0 ?_; refine tkW 1 ?_; refine tkW 2 ?_; refine tkW 4 ?_; refine tkW 5 ?_
      refine wpAnyH_ready (rs := [3]) (by kernel_rfl) (by simp) ?_
      refine AllReadyH.cons rfl (fun K hK => ?_) (AllReadyH.nil)
      go_simp
      go_wp2_with ((go_at_call 202; refine (HD.out 1 (by omega) (by omega) _).mono ?_; rintro e w' ⟨rfl, rfl⟩))
      refine hK.out _ _ ?_ (fun hHeld => ?_)
      · (try dsimp only); exact kc
      clear hK K
      refine tkW 6 ?_; refine tkW 7 ?_; refine tkW 8 ?_
      refine wpAnyH_done (by kernel_rfl) ?_ _
      go_wp2_with fail
      go_roundg 0
      case measure => omega
      case rel => exact ⟨HK.out.trans (show Keep wr _ Nope from (by (repeat (first | exact Keep.refl _ _ | apply Keep.drew | apply Keep.drewN | apply Keep.alloc)))) (fun _ f => f.elim), .inr (.inr (.inr ⟨rfl, rfl, by go_num⟩))⟩
    · go_wp2_with fail
      go_ret
      exact ⟨rfl, HK.out⟩
def AtRel0 (b : Nat) (w : World) (g : Nat) (v7 v8 : Value) (wr : World) : Prop :=
  Keep w wr Nope ∧ ((g = 3 ∧ v7 = .pointer (some ⟨b, 0, none⟩) ∧ v8 = .int .i64 3) ∨ (g = 2 ∧ v7 = .pointer none ∧ v8 = .int .i64 2))
theorem hib_at0 (b : Nat) (i : Nat) (hi : i < 64) (w : World) (k3 : w.cell? ⟨b, 1, none⟩ = some nilV) :
    Calls Tryz.prog 200 #[ptr b, .int .i64 (i : Nat), .int .i64 0] w (RetK w nilV) := by
  unfold ptr nilV at *
  have HD := Lib.hid (fun (l : Nat) h1 h2 w => hib_digit i hi l h1 h2 w)
  go_enter Tryz.func200, Tryz.ntmps200
  go_wp2_with fail
  go_loopg [7, 8] 3 (fun g v7 v8 wr => AtRel0 b w g v7 v8 wr)
  case atStart => exact ⟨Keep.refl _ _, .inl ⟨rfl, rfl, rfl⟩⟩
  case round =>
    obtain ⟨hk, ⟨rfl, rfl, rfl⟩ | ⟨rfl, rfl, rfl⟩⟩ := hrel
    all_goals have HK := Lib.hid hk; clear hk
    · have kc := HK.out.cell k3 (fun f => f)
      go_wp2_with fail
      refine wp_region_held_drew (S := fun w' => w'.cell? ⟨b, 1, none⟩ = some (.pointer none)) (by kernel_rfl) ?_ (fun hHeld => ?_)
      · (try dsimp only); exact kc
      refine tkW 0 ?_; refine tkW 1 ?_; refine tkW 2 ?_; refine tkW 4 ?_; refine tkW 5 ?_
      refine wpAnyH_ready (rs := [3]) (by kernel_rfl) (by simp) ?_
      refine AllReadyH.cons rfl (fun K hK => ?_) (AllReadyH.nil)
      go_simp
      go_wp2_with ((go_at_call 202; refine (HD.out 3 (by omega) (by omega) _).mono ?_; rintro e w' ⟨rfl, rfl⟩))
      refine hK.out _ _ ?_ (fun hHeld => ?_)
      · (try dsimp only); exact kc
      clear hK K
      refine tkW 6 ?_; refine tkW 7 ?_; refine tkW 8 ?_
      refine wpAnyH_done (by kernel_rfl) ?_ _
      go_wp2_with fail
      go_roundg 2
      case measure => omega
      case rel => exact ⟨HK.out.trans (show Keep wr _ Nope from (by (repeat (first | exact Keep.refl _ _ | apply Keep.drew | apply Keep.drewN | apply Keep.alloc)))) (fun _ f => f.elim), .inr ⟨rfl, rfl, by go_num⟩⟩
    · go_wp2_with fail
      go_ret
      exact ⟨rfl, HK.out⟩

theorem hib_has (b m : Nat) (i : Nat) (hi : i < 64) (w : World) (h : RdHib w b m) :
    Calls Tryz.prog 120 #[ptr b, .int .i64 (i : Nat)] w (RetK w (.bool (m.testBit i))) := by
  obtain ⟨hm, h⟩ := h
  have HOK := Lib.hid (hib_ok i hi w)
  have HD := Lib.hid (hib_digit0 i hi)
  rcases h with ⟨rfl, h⟩ | ⟨h0, c, g3, g2, g1, g0⟩
  · have HAT := Lib.hid (hib_at0 b i hi w (by rw [h.cell]; rfl))
    rw [Nat.zero_testBit]
    clear h hm
    unfold ptr nilV at *
    go_enter Tryz.func120, Tryz.ntmps120
    go_wp2_with (first | (go_at_call 199; refine HOK.out.mono ?_; rintro e w' ⟨rfl, rfl⟩) | (go_at_call 200; refine HAT.out.mono ?_; rintro e w1 ⟨rfl, hk⟩; have HK := Lib.hid hk; clear hk))
    refine wp_region_held_drew (S := fun w' => True) (by kernel_rfl) ?_ (fun hHeld => ?_)
    · (try dsimp only); (try trivial)
    refine tkW 0 ?_; refine tkW 1 ?_; refine tkW 2 ?_
    refine wpAnyH_take (i := 3) (oi := ?_) (v := undef) ?_ ?_ ?_ ?_ ?_ ?_ ?_ ?_
    rotate_left 1
    · simp only [List.getElem?_toArray, List.getElem?_cons_succ, List.getElem?_cons_zero]; exact rfl
    · kernel_rfl
    · kernel_rfl
    · kernel_rfl
    · first | exact fun _ _ _ h => h | exact fun _ _ _ h => (HPan.out _ _ _ h).elim
    · exact Or.inr ⟨by rfl, rfl⟩
    · assumption
    simp only [Act.put, List.setIfInBounds_toArray, List.set_cons_zero, List.set_cons_succ]
    refine wpAnyH_take (i := 4) (oi := ?_) (v := undef) ?_ ?_ ?_ ?_ ?_ ?_ ?_ ?_
    rotate_left 1
    · simp only [List.getElem?_toArray, List.getElem?_cons_succ, List.getElem?_cons_zero]; exact rfl
    · kernel_rfl
    · kernel_rfl
    · kernel_rfl
    · first | exact fun _ _ _ h => h | exact fun _ _ _ h => (HPan.out _ _ _ h).elim
    · exact Or.inr ⟨by rfl, rfl⟩
    · assumption
    simp only [Act.put, List.setIfInBounds_toArray, List.set_cons_zero, List.set_cons_succ]
    refine wpAnyH_take (i := 5) (oi := ?_) (v := undef) ?_ ?_ ?_ ?_ ?_ ?_ ?_ ?_
    rotate_left 1
    · simp only [List.getElem?_toArray, List.getElem?_cons_succ, List.getElem?_cons_zero]; exact rfl
    · kernel_rfl
    · kernel_rfl
    · kernel_rfl
    · first | exact fun _ _ _ h => h | exact fun _ _ _ h => (HPan.out _ _ _ h).elim
    · exact Or.inr ⟨by rfl, rfl⟩
    · assumption
    simp only [Act.put, List.setIfInBounds_toArray, List.set_cons_zero, List.set_cons_succ]
    refine wpAnyH_take (i := 6) (oi := ?_) (v := undef) ?_ ?_ ?_ ?_ ?_ ?_ ?_ ?_
    rotate_left 1
    · simp only [List.getElem?_toArray, List.getElem?_cons_succ, List.getElem?_cons_zero]; exact rfl
    · kernel_rfl
    · kernel_rfl
    · kernel_rfl
    · first | exact fun _ _ _ h => h | exact fun _ _ _ h => (HPan.out _ _ _ h).elim
    · exact Or.inr ⟨by rfl, rfl⟩
    · assumption
    simp only [Act.put, List.setIfInBounds_toArray, List.set_cons_zero, List.set_cons_succ]
    refine wpAnyH_take (i := 7) (oi := ?_) (v := undef) ?_ ?_ ?_ ?_ ?_ ?_ ?_ ?_
    rotate_left 1
    · simp only [List.getElem?_toArray, List.getElem?_cons_succ, List.getElem?_cons_zero]; exact rfl
    · kernel_rfl
    · kernel_rfl
    · kernel_rfl
    · first | exact fun _ _ _ h => h | exact fun _ _ _ h => (HPan.out _ _ _ h).elim
    · exact Or.inr ⟨by rfl, rfl⟩
    · assumption
    simp only [Act.put, List.setIfInBounds_toArray, List.set_cons_zero, List.set_cons_succ]
    refine wpAnyH_take (i := 8) (oi := ?_) (v := undef) ?_ ?_ ?_ ?_ ?_ ?_ ?_ ?_
    rotate_left 1
    · simp only [List.getElem?_toArray, List.getElem?_cons_succ, List.getElem?_cons_zero]; exact rfl
    · kernel_rfl
    · kernel_rfl
    · kernel_rfl
    · first | exact fun _ _ _ h => h | exact fun _ _ _ h => (HPan.out _ _ _ h).elim
    · exact Or.inr ⟨by rfl, rfl⟩
    · assumption
    simp only [Act.put, List.setIfInBounds_toArray, List.set_cons_zero, List.set_cons_succ]
    refine wpAnyH_take (i := 9) (oi := ?_) (v := undef) ?_ ?_ ?_ ?_ ?_ ?_ ?_ ?_
    rotate_left 1
    · simp only [List.getElem?_toArray, List.getElem?_cons_succ, List.getElem?_cons_zero]; exact rfl
    · kernel_rfl
    · kernel_rfl
    · kernel_rfl
    · first | exact fun _ _ _ h => h | exact fun _ _ _ h => (HPan.out _ _ _ h).elim
    · exact Or.inr ⟨by rfl, rfl⟩
    · assumption
    simp only [Act.put, List.setIfInBounds_toArray, List.set_cons_zero, List.set_cons_succ]
    refine tkW 10 ?_; refine tkW 11 ?_
    refine wpAnyH_done (by kernel_rfl) ?_ _
    go_wp2_with fail
    go_ret
    exact ⟨rfl, HK.out.trans (show Keep w1 _ Nope from (by (repeat (first | exact Keep.refl _ _ | apply Keep.drew | apply Keep.drewN | apply Keep.alloc)))) (fun _ f => f.elim)⟩
  · obtain ⟨b2, b1, b0⟩ := c
    simp only at g3 g2 g1 g0
    have HAT := Lib.hid (hib_at b b2 b1 b0 i hi w (by rw [g3.cell]; rfl) (by rw [g2.cell]; rfl) (by rw [g1.cell]; rfl))
    have hc : w.cell? ⟨b0, 0, none⟩ = some (.int .u64 (m : Int)) := by rw [g0.cell]; rfl
    have HB := Lib.hid (bits_has m hm (i : Int))
    have hh : hasW m (i : Int) = m.testBit i := by
      unfold hasW
      have : decide (0 ≤ (i : Int) ∧ (i : Int) < 64) = true := decide_eq_true (by omega)
      rw [this]
      simp
    rw [hh] at HB
    obtain ⟨t, ht⟩ : ∃ t, m.testBit i = t := ⟨_, rfl⟩
    rw [ht] at HB ⊢
    clear g3 g2 g1 g0 hm h0 hh ht
    unfold ptr at *
    go_enter Tryz.func120, Tryz.ntmps120
    go_wp2_with (first | (go_at_call 199; refine HOK.out.mono ?_; rintro e w' ⟨rfl, rfl⟩) | (go_at_call 200; refine HAT.out.mono ?_; rintro e w1 ⟨rfl, hk⟩; have HK := Lib.hid hk; clear hk))
    have hc1 := HK.out.cell hc (fun f => f)
    refine wp_region_held_drew (S := fun w' => w'.cell? ⟨b0, 0, none⟩ = some (.int .u64 (m : Int))) (by kernel_rfl) ?_ (fun hHeld => ?_)
    · (try dsimp only); exact hc1
    refine tkW 0 ?_; refine tkW 1 ?_; refine tkW 2 ?_; refine tkW 3 ?_; refine tkW 4 ?_; refine tkW 5 ?_; refine tkW 6 ?_; refine tkW 7 ?_
    refine wpAnyH_ready (rs := [8]) (by kernel_rfl) (by simp) ?_
    refine AllReadyH.cons rfl (fun K hK => ?_) (AllReadyH.nil)
    go_simp
    go_wp2_with ((go_at_call 202; refine (HD.out _).mono ?_; rintro e w' ⟨rfl, rfl⟩))
    refine hK.out _ _ ?_ (fun hHeld => ?_)
    · (try dsimp only); exact hc1
    clear hK K
    refine wpAnyH_ready (rs := [9]) (by kernel_rfl) (by simp) ?_
    refine AllReadyH.cons rfl (fun K hK => ?_) (AllReadyH.nil)
    go_simp
    go_wp2_with ((go_at_call 201; refine (HB.out _).mono ?_; rintro e w' ⟨rfl, rfl⟩))
    refine hK.out _ _ ?_ (fun hHeld => ?_)
    · (try dsimp only); exact hc1
    clear hK K
    refine tkW 10 ?_; refine tkW 11 ?_
    refine wpAnyH_done (by kernel_rfl) ?_ _
    go_wp2_with fail
    go_ret
    exact ⟨rfl, HK.out.trans (show Keep w1 _ Nope from (by (repeat (first | exact Keep.refl _ _ | apply Keep.drew | apply Keep.drewN | apply Keep.alloc)))) (fun _ f => f.elim)⟩
end Go.Proofs.YtkiikblpgppmkaaGreatDoor

namespace Go.Proofs.YtkiikblpgppmkaaGreatDoor
open Go Go.RowKit
set_option linter.unusedVariables false
set_option linter.unusedSimpArgs false

def RetNew (w : World) (e : Ending) (w' : World) : Prop := ∃ b, e = .returned (ptr b) ∧ (hibA b 0).at' w' (New w w') ∧ Keep w w' Nope
theorem hib_new (w : World) : Calls Tryz.prog 215 #[.slice none 0 0] w (RetNew w) := by
  go_enter Tryz.func215, Tryz.ntmps215
  go_wp2_with fail
  go_loopg [10] 0 (fun g v10 wr => v10 = .int .i64 0 ∧ wr = w.alloc (.cells (setCs 0 nilV 0) 316))
  case atStart => exact ⟨rfl, rfl⟩
  case round =>
    obtain ⟨rfl, rfl⟩ := hrel
    go_wp2_with fail
    go_ret
    refine ⟨w.heap.size, rfl, ?_, (Keep.refl w Nope).alloc _⟩
    unfold hibA
    rw [if_pos rfl]
    exact ⟨Blk.new _ _ _, Nat.le_refl _, by simp [World.size_alloc]⟩
end Go.Proofs.YtkiikblpgppmkaaGreatDoor
