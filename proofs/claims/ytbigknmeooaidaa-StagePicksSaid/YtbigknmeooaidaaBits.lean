/-
  Words of sixty-four bits: the program's, as numbers.
-/
import Derived.Test.YtbigknmeooaidaaProg
import Derived.Test.YtbigknmeooaidaaSt
import Derived.Test.YtbigknmeooaidaaFlat
namespace Go.Proofs.Ytbigknmeooaidaa
open Go Go.RowKit
set_option linter.unusedVariables false
set_option linter.unusedSimpArgs false

/-- A number's bit; 0 of a number that is in none. -/
def oneW (i : Int) : Nat := if 0 ≤ i ∧ i < 64 then 2 ^ i.toNat else 0
def allW (l : List Int) : Nat := l.foldl (fun w i => w ||| oneW i) 0

theorem oneW_lt (i : Int) : oneW i < 2 ^ 64 := by
  unfold oneW
  split
  · exact Nat.pow_lt_pow_right (by decide) (by omega)
  · decide
theorem or_lt {a b : Nat} (ha : a < 2 ^ 64) (hb : b < 2 ^ 64) : a ||| b < 2 ^ 64 := Nat.or_lt_two_pow ha hb
theorem foldW_lt : ∀ (l : List Int) (w : Nat), w < 2 ^ 64 → l.foldl (fun w i => w ||| oneW i) w < 2 ^ 64
  | [], w, h => h
  | i :: l, w, h => foldW_lt l _ (or_lt h (oneW_lt i))
theorem allW_lt (l : List Int) : allW l < 2 ^ 64 := foldW_lt l 0 (by decide)
theorem allW_snoc (l : List Int) (i : Int) : allW (l ++ [i]) = allW l ||| oneW i := by simp [allW]
theorem bit_one (i : Int) (k : Nat) : (oneW i).testBit k = decide (i = k ∧ k < 64) := by
  unfold oneW
  split
  · rename_i h
    rw [Nat.testBit_two_pow]
    rw [Bool.eq_iff_iff]; simp; omega
  · rename_i h
    simp
    omega
theorem bit_all (l : List Int) (k : Nat) : (allW l).testBit k = decide ((k : Int) ∈ l ∧ k < 64) := by
  have h : ∀ (l : List Int) (w : Nat), (l.foldl (fun w i => w ||| oneW i) w).testBit k = (w.testBit k || decide ((k : Int) ∈ l ∧ k < 64)) := by
    intro l
    induction l with
    | nil => intro w; simp
    | cons i l ih =>
      intro w
      rw [List.foldl_cons, ih, Nat.testBit_or, bit_one]
      rw [Bool.eq_iff_iff]
      simp
      constructor
      · rintro ((h | h) | h)
        · exact .inl h
        · exact .inr ⟨.inl h.1.symm, h.2⟩
        · exact .inr ⟨.inr h.1, h.2⟩
      · rintro (h | ⟨h | h, h'⟩)
        · exact .inl (.inl h)
        · exact .inl (.inr ⟨h.symm, h'⟩)
        · exact .inr ⟨h, h'⟩
  rw [allW, h]
  simp

/-- The model's operations on words, as numbers. -/
theorem bits_or (a b : Nat) (ha : a < 2 ^ 64) (hb : b < 2 ^ 64) : bits .or .u64 (a : Int) (b : Int) = ((a ||| b : Nat) : Int) := by
  show IntKind.u64.wrap (((BitVec.ofInt 64 a ||| BitVec.ofInt 64 b).toNat : Nat) : Int) = _
  rw [BitVec.toNat_or, BitVec.ofInt_natCast, BitVec.ofInt_natCast, BitVec.toNat_ofNat, BitVec.toNat_ofNat, Nat.mod_eq_of_lt ha, Nat.mod_eq_of_lt hb]
  have := or_lt ha hb
  exact IntWalk.u64_in _ (by omega)
theorem bits_and (a b : Nat) (ha : a < 2 ^ 64) (hb : b < 2 ^ 64) : bits .and .u64 (a : Int) (b : Int) = ((a &&& b : Nat) : Int) := by
  show IntKind.u64.wrap (((BitVec.ofInt 64 a &&& BitVec.ofInt 64 b).toNat : Nat) : Int) = _
  rw [BitVec.toNat_and, BitVec.ofInt_natCast, BitVec.ofInt_natCast, BitVec.toNat_ofNat, BitVec.toNat_ofNat, Nat.mod_eq_of_lt ha, Nat.mod_eq_of_lt hb]
  have := Nat.and_le_left (n := a) (m := b)
  exact IntWalk.u64_in _ (by omega)

theorem bits_andnot (a b : Nat) (ha : a < 2 ^ 64) (hb : b < 2 ^ 64) : bits .andNot .u64 (a : Int) (b : Int) = 0 ↔ ∀ k, a.testBit k = true → b.testBit k = true := by
  have e : bits .andNot .u64 (a : Int) (b : Int) = IntKind.u64.wrap (((BitVec.ofNat 64 a &&& ~~~ BitVec.ofNat 64 b).toNat : Nat) : Int) := by
    show IntKind.u64.wrap (((BitVec.ofInt 64 a &&& ~~~ BitVec.ofInt 64 b).toNat : Nat) : Int) = _
    rw [BitVec.ofInt_natCast, BitVec.ofInt_natCast]
  have h1 : (BitVec.ofNat 64 a &&& ~~~ BitVec.ofNat 64 b).toNat < 2 ^ 64 := BitVec.isLt _
  rw [e, IntWalk.u64_in _ (by omega)]
  have h2 : (BitVec.ofNat 64 a &&& ~~~ BitVec.ofNat 64 b) = 0#64 ↔ ∀ k, a.testBit k = true → b.testBit k = true := by
    constructor
    · intro h k hk
      have h3 := congrArg (fun v => v.getLsbD k) h
      simp only [BitVec.getLsbD_and, BitVec.getLsbD_not, BitVec.getLsbD_ofNat, BitVec.getLsbD_zero] at h3
      have hk64 : k < 64 := by
        rcases Nat.lt_or_ge k 64 with h | h
        · exact h
        · rw [Nat.testBit_lt_two_pow (Nat.lt_of_lt_of_le ha (Nat.pow_le_pow_right (by decide) h))] at hk
          cases hk
      simpa [hk64, hk] using h3
    · intro h
      apply BitVec.eq_of_getLsbD_eq
      intro k hk
      simp only [BitVec.getLsbD_and, BitVec.getLsbD_not, BitVec.getLsbD_ofNat, BitVec.getLsbD_zero, hk, decide_true, Bool.true_and]
      cases h4 : a.testBit k
      · simp
      · simp [h k h4]
  rw [← h2]
  constructor
  · intro h
    apply BitVec.eq_of_toNat_eq
    simpa using h
  · intro h
    rw [h]
    rfl

set_option maxHeartbeats 400000 in
theorem bits_one (i : Int) (w : World) : Calls Try.prog 104 #[.int .i64 i] w (fun e w' => e = .returned (.int .u64 (oneW i : Nat)) ∧ w = w') := by
  by_cases h : 0 ≤ i ∧ i < 64
  · have HO := Lib.hid (show IntKind.u64.wrap (2 ^ i.toNat) = ((oneW i : Nat) : Int) by
      have h2 := oneW_lt i
      unfold oneW at h2 ⊢
      rw [if_pos h] at h2 ⊢
      rw [show (2 : Int) ^ i.toNat = ((2 ^ i.toNat : Nat) : Int) by push_cast; rfl]
      generalize 2 ^ i.toNat = q at h2 ⊢
      exact IntWalk.u64_in _ (by omega))
    obtain ⟨h1, h2⟩ := h
    go_enter Try.func104, Try.ntmps104
    go_wp2_with fail
    go_ret
    exact ⟨by rw [HO.out]; rfl, rfl⟩
  · have e : oneW i = 0 := if_neg h
    rw [e]
    by_cases h1 : i < 0
    · clear h e
      go_enter Try.func104, Try.ntmps104
      go_wp2_with fail
      go_ret
      exact ⟨rfl, rfl⟩
    · have h2 : 64 ≤ i := by omega
      clear h e
      go_enter Try.func104, Try.ntmps104
      go_wp2_with fail
      go_ret
      exact ⟨rfl, rfl⟩

/-- A slice of ints, read. -/
def ints (l : List Int) : List Value := l.map (.int .i64)
theorem ints_len (l : List Int) : (ints l).length = l.length := by simp [ints]
theorem ints_app (a b : List Int) : ints (a ++ b) = ints a ++ ints b := by simp [ints]
theorem ints_one (l : List Int) : ∀ u ∈ ints l, u.oneCell' = true := by
  intro u hu
  obtain ⟨x, _, rfl⟩ := List.mem_map.1 hu
  rfl
theorem ints_get {l : List Int} {k : Nat} {x : Int} (h : l[k]? = some x) : (ints l)[k]? = some (.int .i64 x) := by simp [ints, h]
/-- The cell of an element. -/
theorem Rd.int {S : Nat → Prop} {w : World} {v : Value} {n : Nat} {l : List Int} (h : Rd S w v n (ints l)) {k : Nat} {x : Int} (hk : l[k]? = some x) :
    ∃ b o, (∃ c, v = .slice (some ⟨b, o, none⟩) n c) ∧ S b ∧ w.cell? ⟨b, o + k, none⟩ = some (.int .i64 x) := by
  obtain ⟨a, c, rfl, _, _, _, h4⟩ := h
  obtain ⟨b, o, rfl, hb, hc⟩ := h4 k _ (ints_get hk)
  exact ⟨b, o, ⟨c, rfl⟩, hb, hc⟩

def LoopAll (w : World) (l : List Int) (g : Nat) (v3 v8 : Value) (wr : World) : Prop :=
  ∃ k : Nat, g + k = l.length ∧ v8 = .int .i64 k ∧ v3 = .int .u64 (allW (l.take k) : Nat) ∧ w = wr

set_option maxHeartbeats 1000000 in
theorem bits_all (v : Value) (l : List Int) (w : World) (S : Nat → Prop) (h : Rd S w v l.length (ints l)) :
    Calls Try.prog 78 #[v] w (fun e w' => e = .returned (.int .u64 (allW l : Nat)) ∧ w = w') := by
  obtain ⟨a, c, rfl, h1, h2, h3, h4⟩ := id h
  have hlen : l.length ≤ 9223372036854775807 := by unfold maxLen at h2; omega
  clear h1 h2 h3 h4
  have H := Lib.hid h; clear h
  go_enter Try.func78, Try.ntmps78
  go_wp2_with fail
  go_loopg [3, 8] l.length (fun g v3 v8 wr => LoopAll w l g v3 v8 wr)
  case atStart => exact ⟨0, rfl, rfl, rfl, rfl⟩
  case round =>
    obtain ⟨k, hk, rfl, rfl, rfl⟩ := hrel
    have hkl : k ≤ l.length := by omega
    have HK := Lib.hid hk; clear hk
    by_cases hlt : k < l.length
    · obtain ⟨x, hx⟩ : ∃ x, l[k]? = some x := ⟨_, List.getElem?_eq_getElem hlt⟩
      obtain ⟨bo, oo, ⟨c', hv⟩, _, hc0⟩ := H.out.int hx
      injection hv with hv1 hv2 hv3
      subst hv1; subst hv3
      have HT := Lib.hid (show allW (l.take (k + 1)) = allW (l.take k) ||| oneW x by rw [List.take_add_one, hx]; exact allW_snoc _ _)
      clear hx
      have HOR := Lib.hid (bits_or (allW (l.take k)) (oneW x) (allW_lt _) (oneW_lt _))
      go_wp2_with (go_at_call 104; refine (bits_one x _).mono ?_; rintro e w' ⟨rfl, rfl⟩)
      go_roundg (l.length - (k + 1))
      case measure => have := HK.out; omega
      case rel => exact ⟨k + 1, by omega, by go_num, by rw [HT.out, ← HOR.out], rfl⟩
    · have hkl' : k = l.length := by omega
      subst hkl'
      have HT := Lib.hid (show allW (l.take l.length) = allW l by rw [List.take_length])
      go_wp2_with fail
      go_ret
      exact ⟨by rw [HT.out]; rfl, rfl⟩

set_option maxHeartbeats 400000 in
theorem bits_of (v : Value) (l : List Int) (w : World) (S : Nat → Prop) (h : Rd S w v l.length (ints l)) :
    Calls Try.prog 55 #[v] w (fun e w' => e = .returned (.int .u64 (allW l : Nat)) ∧ w = w') := by
  have H := Lib.hid h; clear h
  go_enter Try.func55, Try.ntmps55
  go_wp2_with (go_at_call 78; refine (bits_all _ l _ S H.out).mono ?_; rintro e w' ⟨rfl, rfl⟩)
  go_ret
  exact ⟨rfl, rfl⟩

set_option maxHeartbeats 400000 in
theorem bits_with (d : Nat) (hd : d < 2 ^ 64) (v : Value) (l : List Int) (w : World) (S : Nat → Prop) (h : Rd S w v l.length (ints l)) :
    Calls Try.prog 82 #[.int .u64 (d : Nat), v] w (fun e w' => e = .returned (.int .u64 (d ||| allW l : Nat)) ∧ w = w') := by
  have H := Lib.hid h; clear h
  have HOR := Lib.hid (bits_or d (allW l) hd (allW_lt _)); clear hd
  go_enter Try.func82, Try.ntmps82
  go_wp2_with (go_at_call 78; refine (bits_all _ l _ S H.out).mono ?_; rintro e w' ⟨rfl, rfl⟩)
  go_ret
  exact ⟨by rw [← HOR.out]; rfl, rfl⟩

theorem and_one (d : Nat) (i : Int) : ((d &&& oneW i : Nat) : Int) = 0 ↔ (decide (0 ≤ i ∧ i < 64) && d.testBit i.toNat) = false := by
  have h1 : d &&& oneW i = 0 ↔ ∀ k, (d &&& oneW i).testBit k = false := ⟨fun h k => by rw [h]; simp, fun h => Nat.eq_of_testBit_eq (fun k => by rw [h k]; simp)⟩
  rw [show (((d &&& oneW i : Nat) : Int) = 0) = (d &&& oneW i = 0) by simp, h1]
  constructor
  · intro h
    by_cases hi : 0 ≤ i ∧ i < 64
    · have := h i.toNat
      rw [Nat.testBit_and, bit_one] at this
      have e : decide (i = (i.toNat : Int) ∧ i.toNat < 64) = true := by simp; omega
      rw [e] at this
      simpa [hi] using this
    · simp [hi]
  · intro h k
    rw [Nat.testBit_and, bit_one]
    by_cases hk : i = k ∧ k < 64
    · obtain ⟨rfl, hk⟩ := hk
      simp at h ⊢
      rw [h (by omega)]
      simp
    · simp [hk]

/-- Whether a number is in a word. -/
def hasW (d : Nat) (i : Int) : Bool := decide (0 ≤ i ∧ i < 64) && d.testBit i.toNat

set_option maxHeartbeats 400000 in
theorem bits_has (d : Nat) (hd : d < 2 ^ 64) (i : Int) (w : World) :
    Calls Try.prog 81 #[.int .u64 (d : Nat), .int .i64 i] w (fun e w' => e = .returned (.bool (hasW d i)) ∧ w = w') := by
  have HOR := Lib.hid (bits_and d (oneW i) hd (oneW_lt _)); clear hd
  have HI := Lib.hid (and_one d i)
  go_enter Try.func81, Try.ntmps81
  go_wp2_with (go_at_call 104; refine (bits_one i _).mono ?_; rintro e w' ⟨rfl, rfl⟩)
  go_ret
  refine ⟨?_, rfl⟩
  have h1 := HOR.out
  have h2 := HI.out
  rw [← h1] at h2
  refine congrArg (fun b => Ending.returned (.bool b)) (show (bits BinOp.and IntKind.u64 ↑d ↑(oneW i) != 0) = hasW d i from ?_)
  unfold hasW
  cases hb : (decide (0 ≤ i ∧ i < 64) && d.testBit i.toNat)
  · rw [hb] at h2; simpa using h2.2 rfl
  · rw [hb] at h2; simpa using h2
end Go.Proofs.Ytbigknmeooaidaa
