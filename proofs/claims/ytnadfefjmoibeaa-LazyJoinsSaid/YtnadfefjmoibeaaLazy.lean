/-
  The package lazy and what it calls, function by function.
-/
import Derived.Test.YtnadfefjmoibeaaProg
import Derived.Test.YtnadfefjmoibeaaFlat
namespace Go.Proofs.Ytnadfefjmoibeaa
open Go Go.RowKit

/-- Whether a value may be. -/
def okV (k a b : Int) : Bool := if k = 1 then b == 0 else if k = 2 then true else if k = 3 then a == 0 && b == 0 else false

/-- It answers v, and nothing old has turned. -/
def Ret (w : World) (v : Value) (en : Ending) (w' : World) : Prop := en = .returned v ∧ Keep w w' Nope

/-- A slice of the call's own, new behind w, is handed back; nothing old has turned. -/
def RetOwn (w : World) (e : TypeId) (size : Nat) (xs : List Value) (en : Ending) (w' : World) : Prop :=
  ∃ a n c, en = .returned (.slice a n c) ∧ Own (New w w') w' e size (.slice a n c) n xs ∧ Keep w w' Nope

theorem eq_value (w : World) (k a b k' a' b' : Int) : (binOp .eql 43 (.agg #[.int .i64 k, .int .i64 a, .int .i64 b]) (.agg #[.int .i64 k', .int .i64 a', .int .i64 b'])).run Try.prog w = .ok (.bool (k == k' && (a == a' && b == b'))) w := by
  simp only [binOp, Op.equal, Op.maxDepth]
  rw [show (10000 : Nat) = 9998 + 2 from rfl]
  simp [go_sem, run_equalIn_struct]
  by_cases h1 : k = k' <;> by_cases h2 : a = a' <;> by_cases h3 : b = b' <;> simp [h1, h2, h3]

/-- An op that waits. -/
structure OpV where
  kind : Int
  hi : Int
  hg : Int
  c : Int
  vk : Int
  va : Int
  vb : Int
def OpV.cells (o : OpV) : List Value := [.int .i64 o.kind, .int .i64 o.hi, .int .i64 o.hg, .int .i64 o.c, .int .i64 o.vk, .int .i64 o.va, .int .i64 o.vb]
def OpV.val (o : OpV) : Value := .agg #[.int .i64 o.kind, .int .i64 o.hi, .int .i64 o.hg, .int .i64 o.c, .int .i64 o.vk, .int .i64 o.va, .int .i64 o.vb]
def flatOp (l : List OpV) : List Value := l.flatMap OpV.cells
theorem flatOp_len (l : List OpV) : (flatOp l).length = l.length * 7 := flat_length OpV.cells 7 (fun _ => rfl) l
theorem flatOp_app (a b : List OpV) : flatOp (a ++ b) = flatOp a ++ flatOp b := by simp [flatOp]
theorem flatOp_one (l : List OpV) : ∀ u ∈ flatOp l, u.oneCell' = true := by
  intro u hu
  obtain ⟨o, _, ho⟩ := List.mem_flatMap.1 hu
  simp [OpV.cells] at ho
  rcases ho with rfl | rfl | rfl | rfl | rfl | rfl | rfl <;> rfl
theorem slOp : SlTy Try.prog 50 45 7 56 := SlTy.mk' (.agg #[.int .i64 0, .int .i64 0, .int .i64 0, .int .i64 0, .int .i64 0, .int .i64 0, .int .i64 0]) Try.underlying50 (by kernel_rfl) rfl (by decide)

/-- Whether an op may be. -/
def okOp (o : OpV) : Bool :=
  if o.kind = 1 then o.c == 0 && (o.vk == 0 && (o.va == 0 && o.vb == 0)) else if o.kind = 2 then decide (0 ≤ o.c) && okV o.vk o.va o.vb else if o.kind = 3 then decide (0 ≤ o.c) && (o.vk == 0 && (o.va == 0 && o.vb == 0)) else false

set_option maxHeartbeats 400000 in
theorem value_ok (k a b : Int) (w : World) :
    Calls Try.prog 31 #[.agg #[.int .i64 k, .int .i64 a, .int .i64 b]] w (Ret w (.bool (okV k a b))) := by
  by_cases h1 : k = 1
  · subst h1
    go_enter Try.func31, Try.ntmps31
    go_wp2_with fail
    go_ret
    exact ⟨by simp [okV], (Keep.refl _ _).alloc _⟩
  · have e1 : (k == 1) = false := beq_eq_false_iff_ne.2 h1
    by_cases h2 : k = 2
    · subst h2
      go_enter Try.func31, Try.ntmps31
      go_wp2_with fail
      go_ret
      exact ⟨by simp [okV], (Keep.refl _ _).alloc _⟩
    · have e2 : (k == 2) = false := beq_eq_false_iff_ne.2 h2
      by_cases h3 : k = 3
      · subst h3
        by_cases h4 : a = 0
        · subst h4
          go_enter Try.func31, Try.ntmps31
          go_wp2_with fail
          go_ret
          exact ⟨by simp [okV], (Keep.refl _ _).alloc _⟩
        · have e3 : (a == 0) = false := beq_eq_false_iff_ne.2 h4
          go_enter Try.func31, Try.ntmps31
          go_wp2_with fail
          go_ret
          exact ⟨by simp [okV, e3], (Keep.refl _ _).alloc _⟩
      · have e3 : (k == 3) = false := beq_eq_false_iff_ne.2 h3
        go_enter Try.func31, Try.ntmps31
        go_wp2_with fail
        go_ret
        exact ⟨by simp [okV, h1, h2, h3], (Keep.refl _ _).alloc _⟩

set_option maxHeartbeats 400000 in
theorem ref_ok (k a b : Int) (w : World) :
    Calls Try.prog 30 #[.agg #[.int .i64 k, .int .i64 a, .int .i64 b]] w (Ret w (.bool (okV k a b))) := by
  by_cases h1 : k = 1
  · subst h1
    go_enter Try.func30, Try.ntmps30
    go_wp2_with fail
    go_ret
    exact ⟨by simp [okV], (Keep.refl _ _).alloc _⟩
  · have e1 : (k == 1) = false := beq_eq_false_iff_ne.2 h1
    by_cases h2 : k = 2
    · subst h2
      go_enter Try.func30, Try.ntmps30
      go_wp2_with fail
      go_ret
      exact ⟨by simp [okV], (Keep.refl _ _).alloc _⟩
    · have e2 : (k == 2) = false := beq_eq_false_iff_ne.2 h2
      by_cases h3 : k = 3
      · subst h3
        by_cases h4 : a = 0
        · subst h4
          go_enter Try.func30, Try.ntmps30
          go_wp2_with fail
          go_ret
          exact ⟨by simp [okV], (Keep.refl _ _).alloc _⟩
        · have e3 : (a == 0) = false := beq_eq_false_iff_ne.2 h4
          go_enter Try.func30, Try.ntmps30
          go_wp2_with fail
          go_ret
          exact ⟨by simp [okV, e3], (Keep.refl _ _).alloc _⟩
      · have e3 : (k == 3) = false := beq_eq_false_iff_ne.2 h3
        go_enter Try.func30, Try.ntmps30
        go_wp2_with fail
        go_ret
        exact ⟨by simp [okV, h1, h2, h3], (Keep.refl _ _).alloc _⟩

set_option maxHeartbeats 1000000 in
theorem op_ok (o : OpV) (w : World) : Calls Try.prog 19 #[o.val] w (Ret w (.bool (okOp o))) := by
  obtain ⟨kind, hi, hg, c, vk, va, vb⟩ := o
  have heq := fun w => eq_value w vk va vb 0 0 0
  simp only [OpV.val]
  by_cases h1 : kind = 1
  · subst h1
    by_cases hc : c = 0
    · subst hc
      go_enter Try.func19, Try.ntmps19
      go_wp2_with fail
      go_ret
      exact ⟨by simp [okOp], (Keep.refl _ _).alloc _⟩
    · have ec : (c == 0) = false := beq_eq_false_iff_ne.2 hc
      go_enter Try.func19, Try.ntmps19
      go_wp2_with fail
      go_ret
      exact ⟨by simp [okOp, ec], (Keep.refl _ _).alloc _⟩
  · have e1 : (kind == 1) = false := beq_eq_false_iff_ne.2 h1
    by_cases h2 : kind = 2
    · subst h2
      by_cases hc : 0 ≤ c
      · go_enter Try.func19, Try.ntmps19
        go_wp2_with fail
        refine (value_ok _ _ _ _).mono ?_
        rintro e w1 ⟨rfl, hk⟩
        have HK := Lib.hid hk; clear hk
        go_wp2_with fail
        go_ret
        exact ⟨by simp [okOp, hc], (Keep.alloc (Keep.refl _ _) _).trans HK.out (fun _ f => f.elim)⟩
      · go_enter Try.func19, Try.ntmps19
        go_wp2_with fail
        go_ret
        exact ⟨by simp [okOp]; intro h; omega, (Keep.refl _ _).alloc _⟩
    · have e2 : (kind == 2) = false := beq_eq_false_iff_ne.2 h2
      by_cases h3 : kind = 3
      · subst h3
        by_cases hc : 0 ≤ c
        · go_enter Try.func19, Try.ntmps19
          go_wp2_with fail
          go_ret
          exact ⟨by simp [okOp, hc], (Keep.refl _ _).alloc _⟩
        · go_enter Try.func19, Try.ntmps19
          go_wp2_with fail
          go_ret
          exact ⟨by simp [okOp]; intro h; omega, (Keep.refl _ _).alloc _⟩
      · have e3 : (kind == 3) = false := beq_eq_false_iff_ne.2 h3
        go_enter Try.func19, Try.ntmps19
        go_wp2_with fail
        go_ret
        exact ⟨by simp [okOp, h1, h2, h3], (Keep.refl _ _).alloc _⟩

set_option maxHeartbeats 1000000 in
theorem ref_opok (o : OpV) (w : World) : Calls Try.prog 18 #[o.val] w (Ret w (.bool (okOp o))) := by
  obtain ⟨kind, hi, hg, c, vk, va, vb⟩ := o
  have heq := fun w => eq_value w vk va vb 0 0 0
  simp only [OpV.val]
  by_cases h1 : kind = 1
  · subst h1
    by_cases hc : c = 0
    · subst hc
      go_enter Try.func18, Try.ntmps18
      go_wp2_with fail
      go_ret
      exact ⟨by simp [okOp], (Keep.refl _ _).alloc _⟩
    · have ec : (c == 0) = false := beq_eq_false_iff_ne.2 hc
      go_enter Try.func18, Try.ntmps18
      go_wp2_with fail
      go_ret
      exact ⟨by simp [okOp, ec], (Keep.refl _ _).alloc _⟩
  · have e1 : (kind == 1) = false := beq_eq_false_iff_ne.2 h1
    by_cases h2 : kind = 2
    · subst h2
      by_cases hc : 0 ≤ c
      · go_enter Try.func18, Try.ntmps18
        go_wp2_with fail
        refine (ref_ok _ _ _ _).mono ?_
        rintro e w1 ⟨rfl, hk⟩
        have HK := Lib.hid hk; clear hk
        go_wp2_with fail
        go_ret
        exact ⟨by simp [okOp, hc], (Keep.alloc (Keep.refl _ _) _).trans HK.out (fun _ f => f.elim)⟩
      · go_enter Try.func18, Try.ntmps18
        go_wp2_with fail
        go_ret
        exact ⟨by simp [okOp]; intro h; omega, (Keep.refl _ _).alloc _⟩
    · have e2 : (kind == 2) = false := beq_eq_false_iff_ne.2 h2
      by_cases h3 : kind = 3
      · subst h3
        by_cases hc : 0 ≤ c
        · go_enter Try.func18, Try.ntmps18
          go_wp2_with fail
          go_ret
          exact ⟨by simp [okOp, hc], (Keep.refl _ _).alloc _⟩
        · go_enter Try.func18, Try.ntmps18
          go_wp2_with fail
          go_ret
          exact ⟨by simp [okOp]; intro h; omega, (Keep.refl _ _).alloc _⟩
      · have e3 : (kind == 3) = false := beq_eq_false_iff_ne.2 h3
        go_enter Try.func18, Try.ntmps18
        go_wp2_with fail
        go_ret
        exact ⟨by simp [okOp, h1, h2, h3], (Keep.refl _ _).alloc _⟩

set_option maxHeartbeats 400000 in
theorem clone_op (v : Value) (n : Nat) (xs : List Value) (w : World) (S : Nat → Prop) (h : Rd S w v n xs) (hl : xs.length = n * 7) (hone : ∀ u ∈ xs, u.oneCell' = true) (hb : n * 56 ≤ 140737488355328) :
    Calls Try.prog 34 #[v] w (RetOwn w 45 7 xs) := by
  have hmx : 0 + n ≤ maxLen := by unfold maxLen; omega
  have hbb : (0 + n) * 56 ≤ 140737488355328 := by omega
  obtain ⟨a, c, rfl, h1, h2, h3, h4⟩ := id h
  have hnil := fun w' => Lib.run_eql_slice_nil (P := Try.prog) w' 50 45 a n c 0 0 Try.underlying50
  clear h1 h2 h4
  cases a with
  | none =>
    obtain ⟨hn, hc⟩ := h3 rfl
    clear h3
    subst hn
    subst hc
    have hx : xs = [] := List.eq_nil_of_length_eq_zero (by simpa using hl)
    subst hx
    clear hl hone hb hmx hbb
    simp only [Option.isNone_none] at hnil
    go_enter Try.func34, Try.ntmps34
    go_wp2_with fail
    go_ret
    exact ⟨_, _, _, rfl, Own.nil _ _ _ _, Keep.refl _ _⟩
  | some ad =>
    clear h3
    simp only [Option.isNone_some] at hnil
    have HL := Lib.hid hl; clear hl
    have HO := Lib.hid hone; clear hone
    go_enter Try.func34, Try.ntmps34
    go_wp2_with (at_builtin; refine wpList_app (P := Try.prog) slOp rfl _ _ rfl (S := fun i => w.heap.size ≤ i) (S2 := S) (n := 0) (xs := []) (m := n) (news := xs) rfl rfl ?hown ?hx ?hl ?h1 hbb hmx ?_)
    case hown => exact Own.lit w _ 7 0 #[] (Nat.zero_le _) rfl (Nat.le_refl _)
    case hx => exact h.alloc _
    case hl => exact HL.out
    case h1 => exact HO.out
    rintro a' k c' w1 ⟨ho, _, hk1, _⟩
    clear hnil h hbb hmx hb
    have HO1 := Lib.hid ho; clear ho
    have HK := Lib.hid hk1; clear hk1
    go_wp2_with fail
    go_ret
    exact ⟨_, _, _, rfl, (HO1.out.mono (fun i h => h.elim id (fun h => by have := h.1; simp at this; omega))).new, (Keep.alloc (Keep.refl w Nope) _).trans HK.out (fun i h => .inr h)⟩

end Go.Proofs.Ytnadfefjmoibeaa
