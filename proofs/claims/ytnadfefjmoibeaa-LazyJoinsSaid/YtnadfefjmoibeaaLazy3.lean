/-
  The package lazy: what each call of a queue answers and leaves.
-/
import Derived.Test.YtnadfefjmoibeaaLazy2
namespace Go.Proofs.Ytnadfefjmoibeaa
open Go Go.RowKit

/-- A queue at block b, in which l waits; its own blocks lie in S. -/
def IsQ (S : Nat → Prop) (w : World) (b : Nat) (l : List OpV) : Prop :=
  ∃ a n c, Blk w b #[.slice a n c] 68 ∧ S b ∧ Own S w 45 7 (.slice a n c) n (flatOp l) ∧ n = l.length ∧ n ≤ 10000
theorem IsQ.keep {S T : Nat → Prop} {w w' : World} {b : Nat} {l : List OpV} (h : IsQ S w b l) (hk : Keep w w' T) (hd : ∀ i, S i → T i → False) : IsQ S w' b l := by
  obtain ⟨a, n, c, h1, h2, h3, h4⟩ := h
  exact ⟨a, n, c, h1.keep hk (hd b h2), h2, h3.keep hk hd, h4⟩
theorem IsQ.mono {S T : Nat → Prop} {w : World} {b : Nat} {l : List OpV} (h : IsQ S w b l) (hT : ∀ i, S i → T i) : IsQ T w b l := by
  obtain ⟨a, n, c, h1, h2, h3, h4⟩ := h
  exact ⟨a, n, c, h1, hT b h2, h3.mono hT, h4⟩
theorem IsQ.lt {S : Nat → Prop} {w : World} {b : Nat} {l : List OpV} (h : IsQ S w b l) : IsQ (fun i => S i ∧ i < w.heap.size) w b l := by
  obtain ⟨a, n, c, h1, h2, h3, h4⟩ := h
  exact ⟨a, n, c, h1, ⟨h2, h1.lt⟩, h3.tight, h4⟩
theorem IsQ.le {S : Nat → Prop} {w : World} {b : Nat} {l : List OpV} (h : IsQ S w b l) : l.length ≤ 10000 := by
  obtain ⟨a, n, c, h1, h2, h3, rfl, h4⟩ := h
  exact h4

/-- A pointer to a new queue, empty; nothing old has turned. -/
def RetQ (w : World) (en : Ending) (w' : World) : Prop :=
  ∃ b, en = .returned (.pointer (some ⟨b, 0, none⟩)) ∧ IsQ (New w w') w' b [] ∧ Keep w w' Nope

set_option maxHeartbeats 400000 in
theorem q_new (w : World) : Calls Try.prog 17 #[] w (RetQ w) := by
  go_enter Try.func17, Try.ntmps17
  go_wp2_with fail
  go_ret
  exact ⟨_, rfl, ⟨_, _, _, Blk.new _ _ _, ⟨Nat.le_refl _, by simp⟩, Own.nil _ _ _ _, rfl, by decide⟩, (Keep.refl w _).alloc _⟩

set_option maxHeartbeats 400000 in
theorem q_len (S : Nat → Prop) (b : Nat) (l : List OpV) (w : World) (h : IsQ S w b l) :
    Calls Try.prog 21 #[.pointer (some ⟨b, 0, none⟩)] w fun e w' => e = .returned (.int .i64 l.length) ∧ w = w' := by
  obtain ⟨a, n, c, h1, h2, h3, rfl, h4⟩ := h
  have hc := h1.cell 0
  simp at hc
  clear h1 h3
  go_enter Try.func21, Try.ntmps21
  go_wp2_with fail
  go_ret
  exact ⟨rfl, rfl⟩

set_option maxHeartbeats 400000 in
theorem q_all (S : Nat → Prop) (b : Nat) (l : List OpV) (w : World) (h : IsQ S w b l) :
    Calls Try.prog 27 #[.pointer (some ⟨b, 0, none⟩)] w (RetOwn w 45 7 (flatOp l)) := by
  obtain ⟨a, n, c, h1, h2, h3, hn, h4⟩ := h
  have hc := h1.cell 0
  simp at hc
  have hR := Lib.hid h3.rd
  have hL := Lib.hid h3.len
  clear h1 h3 hn
  go_enter Try.func27, Try.ntmps27
  go_wp2_with fail
  refine (clone_op _ n (flatOp l) _ S hR.out hL.out (flatOp_one l) (by omega)).mono ?_
  rintro e w1 ⟨a', n', c', rfl, ho, hk⟩
  have HO := Lib.hid ho; clear ho
  have HK := Lib.hid hk; clear hk
  go_wp2_with fail
  go_ret
  exact ⟨_, _, _, rfl, HO.out, HK.out⟩

/-- What waited is handed back, in its own memory; the queue is empty. -/
def RetDrain (S : Nat → Prop) (w : World) (b : Nat) (l : List OpV) (en : Ending) (w' : World) : Prop :=
  ∃ a n c, en = .returned (.slice a n c) ∧ Own S w' 45 7 (.slice a n c) n (flatOp l) ∧ n = l.length ∧ IsQ (fun i => i = b) w' b [] ∧ ¬ rowS (.slice a n c) b ∧ Keep w w' (fun i => i = b)

set_option maxHeartbeats 400000 in
theorem q_drain (S : Nat → Prop) (b : Nat) (l : List OpV) (w : World) (h : IsQ S w b l) :
    Calls Try.prog 24 #[.pointer (some ⟨b, 0, none⟩)] w (RetDrain S w b l) := by
  obtain ⟨a, n, c, h1, h2, h3, hn, h4⟩ := h
  have hc := h1.cell 0
  have hf := h1.frozen 0
  simp at hc
  have hne := h3.rowNe h1 (by decide)
  have H1 := Lib.hid h1
  have H3 := Lib.hid h3
  have HN := Lib.hid hne
  clear h1 h3 hne
  have HL := Lib.hid hn; clear hn
  go_enter Try.func24, Try.ntmps24
  go_wp2_with fail
  go_ret
  exact ⟨_, _, _, rfl, H3.out.other (p := ⟨b, 0, none⟩) HN.out _, HL.out, ⟨none, 0, 0, H1.out.setCell 0 _, rfl, Own.nil _ _ _ _, rfl, by decide⟩, HN.out, (Keep.refl w (fun i => i = b)).setCell (p := ⟨b, 0, none⟩) (.inl rfl) _⟩

/-- The queue at b holds l now; S is where it may have been written. -/
def SetQ (S : Nat → Prop) (w : World) (b : Nat) (v : Value) (l : List OpV) (en : Ending) (w' : World) : Prop :=
  en = .returned v ∧ IsQ (fun i => S i ∨ New w w' i) w' b l ∧ Keep w w' S

set_option maxHeartbeats 400000 in
theorem q_add_bad (S S2 : Nat → Prop) (b : Nat) (l m : List OpV) (v : Value) (w : World) (_h : IsQ S w b l) (h2 : Rd S2 w v m.length (flatOp m)) (hbad : m.any (fun o => !okOp o) = true) :
    Calls Try.prog 20 #[.pointer (some ⟨b, 0, none⟩), v] w (Ret w (.int .i64 1)) := by
  have H2 := Lib.hid h2; clear h2
  have HB := Lib.hid hbad; clear hbad
  clear _h
  go_enter Try.func20, Try.ntmps20
  go_wp2_with fail
  refine (contains_op v m _ S2 H2.out).mono ?_
  rw [HB.out]
  rintro e w1 ⟨rfl, hk⟩
  have HK := Lib.hid hk; clear hk
  go_wp2_with fail
  go_ret
  exact ⟨rfl, HK.out⟩

set_option maxHeartbeats 400000 in
theorem q_add_many (S S2 : Nat → Prop) (b : Nat) (l m : List OpV) (v : Value) (w : World) (h : IsQ S w b l) (h2 : Rd S2 w v m.length (flatOp m)) (hok : m.any (fun o => !okOp o) = false) (hlen : 10000 < l.length + m.length) :
    Calls Try.prog 20 #[.pointer (some ⟨b, 0, none⟩), v] w (Ret w (.int .i64 2)) := by
  obtain ⟨a2, c2, rfl, g1, g2, g3, g4⟩ := id h2
  have hml : m.length ≤ 9223372036854775807 := by unfold maxLen at g2; omega
  clear g1 g2 g3 g4
  have H2 := Lib.hid h2; clear h2
  have HB := Lib.hid hok; clear hok
  have H := Lib.hid h
  have hle := h.le
  clear h
  go_enter Try.func20, Try.ntmps20
  go_wp2_with fail
  refine (contains_op _ m _ S2 H2.out).mono ?_
  rw [HB.out]
  rintro e w1 ⟨rfl, hk⟩
  obtain ⟨a, n, c, h1, h2, h3, rfl, h4⟩ := H.out.keep hk (fun _ _ f => f)
  have hc := h1.cell 0
  simp at hc
  have HK := Lib.hid hk
  clear hk h1 h3
  go_wp2_with fail
  go_ret
  exact ⟨rfl, HK.out⟩

set_option maxHeartbeats 400000 in
theorem q_add (S S2 : Nat → Prop) (b : Nat) (l m : List OpV) (v : Value) (w : World) (h : IsQ S w b l) (h2 : Rd S2 w v m.length (flatOp m)) (hok : m.any (fun o => !okOp o) = false) (hlen : l.length + m.length ≤ 10000) :
    Calls Try.prog 20 #[.pointer (some ⟨b, 0, none⟩), v] w (SetQ S w b (.int .i64 0) (l ++ m)) := by
  obtain ⟨a2, c2, rfl, g1, g2, g3, g4⟩ := id h2
  clear g1 g2 g3 g4
  have H2 := Lib.hid h2; clear h2
  have HB := Lib.hid hok; clear hok
  have H := Lib.hid h
  clear h
  go_enter Try.func20, Try.ntmps20
  go_wp2_with fail
  refine (contains_op _ m _ S2 H2.out).mono ?_
  rw [HB.out]
  rintro e w1 ⟨rfl, hk⟩
  have H2' := Lib.hid (H2.out.keep hk (fun _ _ f => f))
  obtain ⟨a, n, c, h1, hSb, h3, rfl, h4⟩ := H.out.keep hk (fun _ _ f => f)
  have hc := h1.cell 0
  have hf := h1.frozen 0
  have hlt := h1.lt
  simp at hc
  have HK := Lib.hid hk
  have H1 := Lib.hid h1
  have H3 := Lib.hid h3
  have HN := Lib.hid (h3.rowNe h1 (by decide))
  clear hk h1 h3
  go_wp2_with (at_builtin; refine wpList_app (P := Try.prog) slOp rfl _ _ rfl (S := rowS (.slice a l.length c)) (S2 := S2) (n := l.length) (xs := flatOp l) (m := m.length) (news := flatOp m) rfl rfl ?hown ?hx ?hl ?h1 ?h2 ?h3 ?_)
  case hown => exact H3.out.row
  case hx => exact H2'.out
  case hl => exact flatOp_len m
  case h1 => exact flatOp_one m
  case h2 => omega
  case h3 => unfold maxLen; omega
  rintro a' k c' w2 ⟨ho, hk', hk1, _⟩
  have hB := H1.out.keep hk1 HN.out
  have hsz := hk1.size
  have HK1 := Lib.hid hk1; clear hk1
  have HO := Lib.hid ho; clear ho
  have hc := hB.cell 0
  have hf := hB.frozen 0
  simp at hc
  have HB2 := Lib.hid hB; clear hB
  have HK' := Lib.hid hk'; clear hk'
  go_wp2_with fail
  go_ret
  have HO' := HO.out
  have hk' := HK'.out
  have hne := HO'.rowNe HB2.out (by decide)
  rw [← flatOp_app] at HO'
  have hs1 := HK.out.size
  refine ⟨rfl, ⟨a', k, c', HB2.out.setCell 0 _, .inl hSb, (HO'.other (p := ⟨b, 0, none⟩) hne _).mono ?_, by rw [List.length_append]; exact hk', by omega⟩, ?_⟩
  · intro i hi
    rcases hi with hi | hi
    · exact .inl (H3.out.rowIn i hi)
    · exact .inr ⟨by have := hi.1; omega, by simpa using hi.2⟩
  · exact ((HK.out.mono (T := S) (fun i f => f.elim)).trans (HK1.out.mono (T := S) (fun i hi => .inl (H3.out.rowIn i hi))) (fun i h => .inl h)).setCell (.inl hSb) _
end Go.Proofs.Ytnadfefjmoibeaa
