/-
  The package res, function by function: what each call answers, and what it leaves in memory.
-/
import Derived.Test.YtnadfefjmoibeaaProg
import Derived.Test.YtnadfefjmoibeaaBase
namespace Go.Proofs.Ytnadfefjmoibeaa
open Go Go.RowKit

def i64s (l : List Int) : List Value := l.map (Value.int .i64)
theorem i64s_len (l : List Int) : (i64s l).length = l.length := by simp [i64s]
theorem i64s_snoc (l : List Int) (x : Int) : i64s (l ++ [x]) = i64s l ++ [.int .i64 x] := by simp [i64s]
theorem i64s_one (l : List Int) : ∀ u ∈ i64s l, u.oneCell' = true := by
  intro u hu
  obtain ⟨n, _, rfl⟩ := List.mem_map.1 hu
  rfl
theorem sl64 : SlTy Try.prog 22 2 1 8 := SlTy.mk' (.int .i64 0) Try.underlying22 (by kernel_rfl) rfl (by decide)

/-- A slice of the call's own, new behind w, is handed back; nothing old has turned. -/
def RetOwn (w : World) (e : TypeId) (size : Nat) (xs : List Value) (en : Ending) (w' : World) : Prop :=
  ∃ a n c, en = .returned (.slice a n c) ∧ Own (New w w') w' e size (.slice a n c) n xs ∧ Keep w w' Nope

set_option maxHeartbeats 400000 in
theorem clone64 (v : Value) (l : List Int) (w : World) (S : Nat → Prop) (h : Rd S w v l.length (i64s l)) (hb : l.length * 8 ≤ 140737488355328) :
    Calls Try.prog 28 #[v] w (RetOwn w 2 1 (i64s l)) := by
  have hmx : 0 + l.length ≤ maxLen := by unfold maxLen; omega
  have hbb : (0 + l.length) * 8 ≤ 140737488355328 := by omega
  obtain ⟨a, c, rfl, h1, h2, h3, h4⟩ := id h
  have hnil := fun w' => Lib.run_eql_slice_nil (P := Try.prog) w' 22 2 a l.length c 0 0 Try.underlying22
  clear h1 h2 h4
  cases a with
  | none =>
    obtain ⟨hl, hc⟩ := h3 rfl
    have hl' : l = [] := List.eq_nil_of_length_eq_zero hl
    subst hl'
    clear h3 hl
    subst hc
    simp only [Option.isNone_none, List.length_nil] at hnil
    go_enter Try.func28, Try.ntmps28
    go_wp2_with fail
    go_ret
    exact ⟨_, _, _, rfl, Own.nil _ _ _ _, Keep.refl _ _⟩
  | some ad =>
    clear h3
    simp only [Option.isNone_some] at hnil
    go_enter Try.func28, Try.ntmps28
    go_wp2_with (at_builtin; refine wpList_app (P := Try.prog) sl64 rfl _ _ rfl (S := fun i => w.heap.size ≤ i) (S2 := S) (n := 0) (xs := []) (m := l.length) (news := i64s l) rfl rfl ?hown ?hx ?hl ?h1 hbb hmx ?_)
    case hown => exact Own.lit w _ 1 0 #[] (Nat.zero_le _) rfl (Nat.le_refl _)
    case hx => exact h.alloc _
    case hl => simp [i64s_len]
    case h1 => exact i64s_one l
    rintro a' k c' w1 ⟨ho, _, hk1, _⟩
    clear hnil h hbb hmx
    have HO := Lib.hid ho; clear ho
    have HK := Lib.hid hk1; clear hk1
    go_wp2_with fail
    go_ret
    exact ⟨_, _, _, rfl, (HO.out.mono (fun i h => h.elim id (fun h => by have := h.1; simp at this; omega))).new, (Keep.alloc (Keep.refl w Nope) _).trans HK.out (fun i h => .inr h)⟩

/-- A Res at block b, that holds l; its own blocks lie in S. -/
def IsRes (S : Nat → Prop) (w : World) (b : Nat) (l : List Int) : Prop :=
  ∃ a n c, Blk w b #[.slice a n c] 65 ∧ S b ∧ Own S w 2 1 (.slice a n c) n (i64s l) ∧ n = l.length ∧ n ≤ 32
theorem IsRes.keep {S T : Nat → Prop} {w w' : World} {b : Nat} {l : List Int} (h : IsRes S w b l) (hk : Keep w w' T) (hd : ∀ i, S i → T i → False) : IsRes S w' b l := by
  obtain ⟨a, n, c, h1, h2, h3, h4⟩ := h
  exact ⟨a, n, c, h1.keep hk (hd b h2), h2, h3.keep hk hd, h4⟩
theorem IsRes.lt {S : Nat → Prop} {w : World} {b : Nat} {l : List Int} (h : IsRes S w b l) : IsRes (fun i => S i ∧ i < w.heap.size) w b l := by
  obtain ⟨a, n, c, h1, h2, h3, h4⟩ := h
  exact ⟨a, n, c, h1, ⟨h2, h1.lt⟩, h3.tight, h4⟩
theorem IsRes.mono {S T : Nat → Prop} {w : World} {b : Nat} {l : List Int} (h : IsRes S w b l) (hT : ∀ i, S i → T i) : IsRes T w b l := by
  obtain ⟨a, n, c, h1, h2, h3, h4⟩ := h
  exact ⟨a, n, c, h1, hT b h2, h3.mono hT, h4⟩

set_option maxHeartbeats 400000 in
theorem res_len (S : Nat → Prop) (b : Nat) (l : List Int) (w : World) (h : IsRes S w b l) :
    Calls Try.prog 16 #[.pointer (some ⟨b, 0, none⟩)] w fun e w' => e = .returned (.int .i64 l.length) ∧ w = w' := by
  obtain ⟨a, n, c, h1, h2, h3, rfl, h4⟩ := h
  have hc := h1.cell 0
  simp at hc
  clear h1 h3
  go_enter Try.func16, Try.ntmps16
  go_wp2_with fail
  go_ret
  exact ⟨rfl, rfl⟩

/-- A pointer to a new Res that holds l; nothing old has turned. -/
def RetRes (w : World) (l : List Int) (en : Ending) (w' : World) : Prop :=
  ∃ b, en = .returned (.pointer (some ⟨b, 0, none⟩)) ∧ IsRes (New w w') w' b l ∧ Keep w w' Nope

set_option maxHeartbeats 400000 in
theorem res_new (v : Value) (l : List Int) (w : World) (S : Nat → Prop) (h : Rd S w v l.length (i64s l)) :
    Calls Try.prog 11 #[v] w (RetRes w (l.take 32)) := by
  have hrd : ∀ a c, v = .slice a l.length c → Rd S w (.slice a (min l.length 32) c) (l.take 32).length (i64s (l.take 32)) := by
    rintro a c rfl
    obtain ⟨a', c', he, h1, h2, h3, h4⟩ := h
    injection he with e1 e2 e3
    subst e1; subst e3
    refine ⟨a, c, by simp [Nat.min_comm], by simp; omega, h2, fun hx => ⟨by have := h3 hx; rw [List.length_take]; omega, (h3 hx).2⟩, fun j u hu => h4 j u ?_⟩
    simp only [i64s, List.map_take, List.getElem?_take] at hu
    split at hu
    · exact hu
    · cases hu
  obtain ⟨a, c, rfl, h1, h2, h3, h4⟩ := h
  have hR := Lib.hid (hrd a c rfl)
  clear h4 hrd h3
  unfold maxLen at h2
  have hbb : (l.take 32).length * 8 ≤ 140737488355328 := by rw [List.length_take]; omega
  have hHb := Lib.hid hbb; clear hbb
  go_enter Try.func11, Try.ntmps11
  go_wp2_with fail
  all_goals
    refine (clone64 _ (l.take 32) _ S ?_ hHb.out).mono ?_
    · have := hR.out
      first
      | rw [Nat.min_eq_left (by omega)] at this; exact this
      | rw [Nat.min_eq_right (by omega)] at this; exact this
    rintro e w1 ⟨a', n', c', rfl, ho, hk⟩
    have HO := Lib.hid ho; clear ho
    have HK := Lib.hid hk; clear hk
    go_wp2_with fail
    go_ret
    have hn := HO.out.len
    rw [i64s_len, Nat.mul_one] at hn
    exact ⟨_, rfl, ⟨_, _, _, Blk.new _ _ _, ⟨HK.out.size, by simp⟩, (HO.out.alloc _).mono (fun i h => ⟨h.1, by simp; have := h.2; omega⟩), hn.symm, by rw [← hn, List.length_take]; omega⟩, HK.out.alloc _⟩

theorem get_i64 {l : List Int} {k : Nat} {x : Int} (h : l[k]? = some x) : (i64s l)[k]? = some (.int .i64 x) := by
  simp [i64s, h]
theorem lt_of_get {α : Type} {l : List α} {k : Nat} {x : α} (h : l[k]? = some x) : k < l.length := (List.getElem?_eq_some_iff.1 h).1

set_option maxHeartbeats 400000 in
theorem res_all (S : Nat → Prop) (b : Nat) (l : List Int) (w : World) (h : IsRes S w b l) :
    Calls Try.prog 12 #[.pointer (some ⟨b, 0, none⟩)] w (RetOwn w 2 1 (i64s l)) := by
  obtain ⟨a, n, c, h1, h2, h3, hn, h4⟩ := h
  have hc := h1.cell 0
  simp at hc
  have hR := Lib.hid h3.rd
  have hN := Lib.hid hn
  have hB := Lib.hid (show l.length * 8 ≤ 140737488355328 by omega)
  clear h1 h3 hn
  go_enter Try.func12, Try.ntmps12
  go_wp2_with fail
  refine (clone64 _ l _ S ?_ hB.out).mono ?_
  · rw [← hN.out]; exact hR.out
  rintro e w1 ⟨a', n', c', rfl, ho, hk⟩
  have HO := Lib.hid ho; clear ho
  have HK := Lib.hid hk; clear hk
  go_wp2_with fail
  go_ret
  exact ⟨_, _, _, rfl, HO.out, HK.out⟩

set_option maxHeartbeats 400000 in
theorem res_is (S : Nat → Prop) (b : Nat) (l : List Int) (k : Int) (w : World) (h : IsRes S w b l) :
    Calls Try.prog 29 #[.pointer (some ⟨b, 0, none⟩), .int .i64 k] w fun e w' => e = .returned (.bool (decide (0 ≤ k ∧ k < l.length))) ∧ w = w' := by
  obtain ⟨a, n, c, h1, h2, h3, rfl, h4⟩ := h
  have hc := h1.cell 0
  simp at hc
  clear h1 h3
  go_enter Try.func29, Try.ntmps29
  go_wp2
  · go_ret
    simp [*]
  · go_ret
    simp [*]
    omega

set_option maxHeartbeats 400000 in
theorem res_get_out (S : Nat → Prop) (b : Nat) (l : List Int) (k : Int) (w : World) (h : IsRes S w b l) (hk : ¬ (0 ≤ k ∧ k < l.length)) :
    Calls Try.prog 13 #[.pointer (some ⟨b, 0, none⟩), .int .i64 k] w fun e w' => e = .returned (.tuple #[.int .i64 0, .int .i64 12]) ∧ w = w' := by
  have hd : decide (0 ≤ k ∧ k < l.length) = false := by simpa using hk
  clear hk
  have H := Lib.hid h; clear h
  go_enter Try.func13, Try.ntmps13
  go_wp2_with (go_at_call 29; refine (res_is S b l k _ H.out).mono ?_; rintro e w' ⟨rfl, rfl⟩)
  go_ret2
  exact ⟨rfl, rfl⟩

set_option maxHeartbeats 400000 in
theorem res_get (S : Nat → Prop) (b : Nat) (l : List Int) (k : Nat) (x : Int) (w : World) (h : IsRes S w b l) (hkx : l[k]? = some x) :
    Calls Try.prog 13 #[.pointer (some ⟨b, 0, none⟩), .int .i64 k] w fun e w' => e = .returned (.tuple #[.int .i64 x, .int .i64 0]) ∧ w = w' := by
  have hk := lt_of_get hkx
  have hd : decide (0 ≤ (k : Int) ∧ (k : Int) < l.length) = true := by simpa using hk
  have H := Lib.hid h
  obtain ⟨a, n, c, h1, h2, h3, rfl, h4⟩ := h
  obtain ⟨g, rfl, hg1, hg2, hg3, hg4, hg5⟩ := h3.head (by omega)
  have hc := h1.cell 0
  simp at hc
  have hx := hg4 k (by omega)
  rw [get_i64 hkx] at hx
  clear h1 h3 hg1 hg2 hg3 hg4 hg5 h2 hkx
  go_enter Try.func13, Try.ntmps13
  go_wp2_with (go_at_call 29; refine (res_is S b l k _ H.out).mono ?_; rintro e w' ⟨rfl, rfl⟩)
  go_ret2
  exact ⟨rfl, rfl⟩

set_option maxHeartbeats 400000 in
theorem res_set_out (S : Nat → Prop) (b : Nat) (l : List Int) (k n : Int) (w : World) (h : IsRes S w b l) (hk : ¬ (0 ≤ k ∧ k < l.length)) :
    Calls Try.prog 14 #[.pointer (some ⟨b, 0, none⟩), .int .i64 k, .int .i64 n] w fun e w' => e = .returned (.int .i64 12) ∧ w = w' := by
  have hd : decide (0 ≤ k ∧ k < l.length) = false := by simpa using hk
  clear hk
  have H := Lib.hid h; clear h
  go_enter Try.func14, Try.ntmps14
  go_wp2_with (go_at_call 29; refine (res_is S b l k _ H.out).mono ?_; rintro e w' ⟨rfl, rfl⟩)
  go_ret
  exact ⟨rfl, rfl⟩

/-- The Res at b holds l now; S is where it may have been written. -/
def SetRes (S : Nat → Prop) (w : World) (b : Nat) (v : Value) (l : List Int) (en : Ending) (w' : World) : Prop :=
  en = .returned v ∧ IsRes (fun i => S i ∨ New w w' i) w' b l ∧ Keep w w' S

set_option maxHeartbeats 400000 in
theorem res_set (S : Nat → Prop) (b : Nat) (l : List Int) (k : Nat) (n : Int) (w : World) (h : IsRes S w b l) (hk : k < l.length) :
    Calls Try.prog 14 #[.pointer (some ⟨b, 0, none⟩), .int .i64 k, .int .i64 n] w (SetRes S w b (.int .i64 0) (l.set k n)) := by
  have hd : decide (0 ≤ (k : Int) ∧ (k : Int) < l.length) = true := by simpa using hk
  have H := Lib.hid h
  obtain ⟨a, m, c, h1, h2, h3, rfl, h4⟩ := h
  obtain ⟨g, rfl, hg1, hg2, hg3, hg4, hg5⟩ := h3.head (by omega)
  have hc := h1.cell 0
  simp at hc
  have hx := hg4 k (by omega)
  rw [get_i64 (List.getElem?_eq_getElem hk)] at hx
  have hf := hg3 k
  have hne := h3.blkNe h1 (by decide)
  have H5 := Lib.hid (hg5 k (.int .i64 n))
  have H1 := Lib.hid (h1.other (p := ⟨g, k, none⟩) hne (.int .i64 n))
  clear h1 h3 hg2 hg3 hg4 hg5 hne
  go_enter Try.func14, Try.ntmps14
  go_wp2_with (go_at_call 29; refine (res_is S b l k _ H.out).mono ?_; rintro e w' ⟨rfl, rfl⟩)
  go_ret
  refine ⟨rfl, ⟨_, _, _, H1.out, .inl h2, ?_, by simp, h4⟩, (Keep.refl _ _).setCell (.inl hg1) _⟩
  have := H5.out.mono (T := fun i => S i ∨ New w (w.setCell ⟨g, k, none⟩ (.int .i64 n)) i) (fun i h => .inl h)
  simpa [i64s, List.map_set] using this

set_option maxHeartbeats 400000 in
theorem res_add_out (S : Nat → Prop) (b : Nat) (l : List Int) (n : Int) (w : World) (h : IsRes S w b l) (hk : 32 ≤ l.length) :
    Calls Try.prog 15 #[.pointer (some ⟨b, 0, none⟩), .int .i64 n] w fun e w' => e = .returned (.tuple #[.int .i64 0, .int .i64 2]) ∧ w = w' := by
  obtain ⟨a, m, c, h1, h2, h3, rfl, h4⟩ := h
  have hc := h1.cell 0
  simp at hc
  clear h1 h3
  go_enter Try.func15, Try.ntmps15
  go_wp2_with fail
  go_ret2
  exact ⟨rfl, rfl⟩

set_option maxHeartbeats 400000 in
theorem res_add (S : Nat → Prop) (b : Nat) (l : List Int) (x : Int) (w : World) (h : IsRes S w b l) (hk : l.length < 32) :
    Calls Try.prog 15 #[.pointer (some ⟨b, 0, none⟩), .int .i64 x] w (SetRes S w b (.tuple #[.int .i64 l.length, .int .i64 0]) (l ++ [x])) := by
  obtain ⟨a, m, c, h1, h2, h3, rfl, h4⟩ := h
  have hc := h1.cell 0
  have hf := h1.frozen 0
  have hlt := h1.lt
  simp at hc
  have H1 := Lib.hid h1
  have H3 := Lib.hid h3
  have HN := Lib.hid (h3.rowNe h1 (by decide))
  clear h1 h3
  go_enter Try.func15, Try.ntmps15
  go_wp2_with (at_builtin; refine wpList_app (P := Try.prog) sl64 rfl _ _ rfl (S := rowS (.slice a l.length c)) (S2 := fun i => w.heap.size ≤ i) (n := l.length) (xs := i64s l) (m := 1) (news := [.int .i64 x]) rfl rfl ?hown ?hx rfl ?h1 ?h2 ?h3 ?_)
  case hown => exact H3.out.row.alloc _
  case hx => exact (Own.lit w _ 1 1 #[.int .i64 x] (by decide) rfl (Nat.le_refl _)).rd
  case h1 => simp [Value.oneCell']
  case h2 => omega
  case h3 => unfold maxLen; omega
  rintro a' k c' w1 ⟨ho, hk', hk1, _⟩
  have hB := ((H1.out).alloc (.cells #[.int .i64 x] 2)).keep hk1 HN.out
  have hsz := hk1.size
  simp at hsz
  have HK := Lib.hid hk1; clear hk1
  have HO := Lib.hid ho; clear ho
  have hc := hB.cell 0
  have hf := hB.frozen 0
  simp at hc
  have HB := Lib.hid hB; clear hB
  have hka : 1 ≤ k := by omega
  have hkb : k ≤ 33 := by omega
  have HK' := Lib.hid hk'; clear hk'
  go_wp2_with fail
  go_ret2
  have HO' := HO.out
  have hk' := HK'.out
  have hne := HO'.rowNe HB.out (by decide)
  rw [← i64s_snoc] at HO'
  refine ⟨?_, ⟨a', k, c', HB.out.setCell 0 _, .inl h2, (HO'.other (p := ⟨b, 0, none⟩) hne _).mono ?_, by subst hk'; simp, by omega⟩, ?_⟩
  · subst hk'; simp
  · intro i hi
    rcases hi with hi | hi
    · exact .inl (H3.out.rowIn i hi)
    · obtain ⟨hi1, hi2⟩ := hi
      simp at hi1
      exact .inr ⟨by omega, by simpa using hi2⟩
  · exact ((Keep.alloc (Keep.refl w S) _).trans (HK.out.mono (T := S) (fun i hi => .inl (H3.out.rowIn i hi))) (fun i h => .inl h)).setCell (.inl h2) _
end Go.Proofs.Ytnadfefjmoibeaa
