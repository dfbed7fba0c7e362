/-
  The package flag: the struct as a claim, New, Readers.
-/
import Derived.Test.YtcmbbkaioopkhaaFlag
import Derived.Test.YtcmbbkaioopkhaaStar
namespace Go.Proofs.Ytcmbbkaioopkhaa
open Go Go.RowKit
set_option linter.unusedVariables false
set_option linter.unusedSimpArgs false

/-- A flag's worth: its bound, all that was noted, where each reader stands. -/
structure FlagV where
  bound : Nat
  all : List EvV
  pos : List Nat
def FlagV.last (F : FlagV) : List EvV := F.all.drop (F.all.length - F.bound)
def i64s (l : List Nat) : List Value := l.map (fun n : Nat => .int .i64 (n : Int))
def flagPs (b : Nat) (F : FlagV) (la : Option Addr) (lc : Nat) (ra : Option Addr) (rc : Nat) : List Asr :=
  [blkA b #[.int .i64 F.bound, .int .i64 F.all.length, .slice la F.last.length lc, .slice ra F.pos.length rc] 85,
    slA 34 2 (.slice la F.last.length lc) F.last.length (flatEv F.last), slA 2 1 (.slice ra F.pos.length rc) F.pos.length (i64s F.pos)]
def flagA (b : Nat) (F : FlagV) : Asr := exA (fun p : (Option Addr × Nat) × (Option Addr × Nat) => starA (flagPs b F p.1.1 p.1.2 p.2.1 p.2.2))
theorem St.flagSplit {w0 w : World} {L : List Asr} {b : Nat} {F : FlagV} (h : St w0 w L) (i : Nat) (hi : L[i]? = some (flagA b F)) : ∃ la lc ra rc, St w0 w (flagPs b F la lc ra rc ++ L.set i empA) := by
  obtain ⟨G, h1, _, h3, _⟩ := h.opens i hi
  obtain ⟨⟨⟨la, lc⟩, ⟨ra, rc⟩⟩, h1⟩ := h1
  have hil := (List.getElem?_eq_some_iff.1 hi).1
  have h2 := (h3 w (starA (flagPs b F la lc ra rc)) (Keep.refl _ _) ((starA _).mono h1 (fun _ hx => .inl hx))).split i (List.getElem?_set_self hil)
  rw [List.set_set] at h2
  exact ⟨la, lc, ra, rc, h2⟩
theorem St.flagJoin {w0 w : World} {L : List Asr} {b : Nat} {F : FlagV} {la ra : Option Addr} {lc rc : Nat} (i : Nat) (hi : i < L.length) (h : St w0 w (flagPs b F la lc ra rc ++ L.set i empA)) : St w0 w (L.set i (flagA b F)) := by
  have h2 := h.join i (by rw [List.length_set]; exact hi)
  rw [List.set_set] at h2
  have h3 := h2.weaken i (B := flagA b F) (List.getElem?_set_self hi) (fun G hG => ⟨((la, lc), (ra, rc)), hG⟩)
  rw [List.set_set] at h3
  exact h3

set_option maxHeartbeats 400000 in
theorem flag_new {w0 w : World} {L : List Asr} (H : St w0 w L) (n : Nat) (h1 : 1 ≤ n) (h2 : n ≤ 1000) :
    Calls Try.prog 15 #[.int .i64 n] w (fun e w' => ∃ b, e = .returned (.tuple #[.pointer (some ⟨b, 0, none⟩), .int .i64 0]) ∧ St w0 w' (L ++ [flagA b ⟨n, [], []⟩])) := by
  have HH := Lib.hid H; clear H
  go_enter Try.func15, Try.ntmps15
  go_wp2_with fail
  go_ret2
  refine ⟨_, rfl, ?_⟩
  refine HH.out.add (w' := w.alloc _) ((Keep.refl w Nope).alloc _) ?_
  have el : (⟨n, [], []⟩ : FlagV).last = [] := by simp [FlagV.last]
  refine ⟨((none, 0), (none, 0)), ?_⟩
  unfold flagPs
  rw [el]
  refine ⟨fun j x => j = 0 ∧ x = w.heap.size, fun j A hj => ?_, fun j x hx => ?_, fun j k x hj hk => ?_⟩
  · rcases j with _ | _ | _ | j
    · cases hj
      exact ⟨Blk.new w _ _, rfl, rfl⟩
    · cases hj
      exact Own.nil _ _ _ _
    · cases hj
      exact Own.nil _ _ _ _
    · cases hj
  · obtain ⟨_, rfl⟩ := hx
    exact ⟨Nat.le_refl _, by simp⟩
  · omega

set_option maxHeartbeats 400000 in
theorem flag_readers {w0 w : World} {L : List Asr} {b : Nat} {F : FlagV} (H : St w0 w L) (i : Nat) (hi : L[i]? = some (flagA b F)) (hp : F.pos.length ≤ 100) :
    Calls Try.prog 25 #[.pointer (some ⟨b, 0, none⟩)] w (fun e w' => e = .returned (.int .i64 F.pos.length) ∧ w = w') := by
  obtain ⟨la, lc, ra, rc, h⟩ := H.flagSplit i hi
  have c3 := (h.blk 0 rfl).cell 3
  simp at c3
  obtain ⟨n, hn⟩ : ∃ n, F.pos.length = n := ⟨_, rfl⟩
  rw [hn] at c3 hp ⊢
  clear h H hi hn
  go_enter Try.func25, Try.ntmps25
  go_wp2_with fail
  go_ret
  exact ⟨rfl, rfl⟩
end Go.Proofs.Ytcmbbkaioopkhaa
