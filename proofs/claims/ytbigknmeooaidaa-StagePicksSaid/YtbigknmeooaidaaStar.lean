/-
  A claim that is itself several claims: taken apart, put together again. No program in sight.
-/
import Derived.Test.YtbigknmeooaidaaSt
namespace Go.Proofs.Ytbigknmeooaidaa
open Go Go.RowKit
set_option linter.unusedVariables false
set_option linter.unusedSimpArgs false

/-- A claim of several parts is taken apart: the parts stand first. -/
theorem St.split {w0 w : World} {L ps : List Asr} (h : St w0 w L) (i : Nat) (hi : L[i]? = some (starA ps)) : St w0 w (ps ++ L.set i empA) := by
  obtain ⟨hb, G, h1, h2, h3⟩ := h
  obtain ⟨K, k1, k2, k3⟩ := h1 i _ hi
  refine ⟨hb, fun j x => if j < ps.length then K j x else if j - ps.length = i then False else G (j - ps.length) x, fun j A hj => ?_, fun j x hx => ?_, fun j k x hj hk => ?_⟩
  · by_cases e : j < ps.length
    · rw [List.getElem?_append_left e] at hj
      simpa [e] using k1 j A hj
    · rw [List.getElem?_append_right (by omega)] at hj
      by_cases e2 : j - ps.length = i
      · rw [e2, List.getElem?_set_self (List.getElem?_eq_some_iff.1 hi).1] at hj
        cases hj
        trivial
      · rw [List.getElem?_set_ne (fun e' => e2 e'.symm)] at hj
        simpa [e, e2] using h1 _ A hj
  · by_cases e : j < ps.length
    · simp [e] at hx
      exact h2 i x (k2 j x hx)
    · by_cases e2 : j - ps.length = i
      · simp [e, e2] at hx
      · simp [e, e2] at hx
        exact h2 _ x hx
  · by_cases e : j < ps.length <;> by_cases e' : k < ps.length
    · simp [e] at hj
      simp [e'] at hk
      exact k3 j k x hj hk
    · by_cases e2 : k - ps.length = i
      · simp [e', e2] at hk
      · simp [e] at hj
        simp [e', e2] at hk
        exact (e2 (h3 _ _ x hk (k2 j x hj))).elim
    · by_cases e2 : j - ps.length = i
      · simp [e, e2] at hj
      · simp [e, e2] at hj
        simp [e'] at hk
        exact (e2 (h3 _ _ x hj (k2 k x hk))).elim
    · by_cases e2 : j - ps.length = i
      · simp [e, e2] at hj
      · by_cases e3 : k - ps.length = i
        · simp [e', e3] at hk
        · simp [e, e2] at hj
          simp [e', e3] at hk
          have := h3 _ _ x hj hk
          omega
/-- The parts that stand first are put together. -/
theorem St.join {w0 w : World} {L ps : List Asr} (h : St w0 w (ps ++ L)) (i : Nat) (hi : i < L.length) : St w0 w (L.set i (starA ps)) := by
  obtain ⟨hb, G, h1, h2, h3⟩ := h
  refine ⟨hb, fun m x => if m = i then ∃ j, j < ps.length ∧ G j x else G (ps.length + m) x, fun j A hj => ?_, fun j x hx => ?_, fun j k x hj hk => ?_⟩
  · by_cases e : j = i
    · subst e
      rw [List.getElem?_set_self hi] at hj
      cases hj
      refine (starA ps).mono (F := fun x => ∃ j, j < ps.length ∧ G j x) ?_ (fun x hx => by simpa using hx)
      exact ⟨fun m x => m < ps.length ∧ G m x, fun m B hm => B.mono (h1 m B (by rw [List.getElem?_append_left (List.getElem?_eq_some_iff.1 hm).1]; exact hm)) (fun x hx => ⟨(List.getElem?_eq_some_iff.1 hm).1, hx⟩), fun m x hx => ⟨m, hx⟩, fun m k x hm hk => h3 m k x hm.2 hk.2⟩
    · rw [List.getElem?_set_ne (fun e' => e e'.symm)] at hj
      have := h1 (ps.length + j) A (by rw [List.getElem?_append_right (by omega), Nat.add_sub_cancel_left]; exact hj)
      simpa [e] using this
  · by_cases e : j = i
    · simp [e] at hx
      obtain ⟨m, _, hm⟩ := hx
      exact h2 m x hm
    · simp [e] at hx
      exact h2 _ x hx
  · by_cases e : j = i <;> by_cases e' : k = i
    · omega
    · simp [e] at hj
      simp [e'] at hk
      obtain ⟨m, hm, hj⟩ := hj
      have := h3 _ _ x hj hk
      omega
    · simp [e] at hj
      simp [e'] at hk
      obtain ⟨m, hm, hk⟩ := hk
      have := h3 _ _ x hj hk
      omega
    · simp [e] at hj
      simp [e'] at hk
      have := h3 _ _ x hj hk
      omega
/-- A claim of several parts that hang on something unsaid. -/
theorem St.exSplit {α : Type} {f : α → List Asr} {w0 w : World} {L : List Asr} (h : St w0 w L) (i : Nat) (hi : L[i]? = some (exA fun p => starA (f p))) : ∃ p, St w0 w (f p ++ L.set i empA) := by
  obtain ⟨G, h1, _, h3, _⟩ := h.opens i hi
  obtain ⟨p, h1⟩ := h1
  have hil := (List.getElem?_eq_some_iff.1 hi).1
  have h2 := (h3 w (starA (f p)) (Keep.refl _ _) ((starA _).mono h1 (fun _ hx => .inl hx))).split i (List.getElem?_set_self hil)
  rw [List.set_set] at h2
  exact ⟨p, h2⟩
theorem St.exJoin {α : Type} (f : α → List Asr) (p : α) {w0 w : World} {L : List Asr} (i : Nat) (hi : i < L.length) (h : St w0 w (f p ++ L.set i empA)) : St w0 w (L.set i (exA fun p => starA (f p))) := by
  have h2 := h.join i (by rw [List.length_set]; exact hi)
  rw [List.set_set] at h2
  have h3 := h2.weaken i (B := exA fun p => starA (f p)) (List.getElem?_set_self hi) (fun G hG => ⟨p, hG⟩)
  rw [List.set_set] at h3
  exact h3
/-- The same, with one claim more behind. -/
theorem St.exJoin1 {α : Type} (f : α → List Asr) (p : α) {w0 w : World} {L : List Asr} {A : Asr} (i : Nat) (hi : i < L.length) (h : St w0 w ((f p ++ L.set i empA) ++ [A])) : St w0 w (L.set i (exA fun p => starA (f p)) ++ [A]) := by
  have h1 : St w0 w (f p ++ (L ++ [A]).set i empA) := by rw [List.set_append_left _ _ hi, ← List.append_assoc]; exact h
  have h2 := St.exJoin f p (L := L ++ [A]) i (by simp; omega) h1
  rw [List.set_append_left _ _ hi] at h2
  exact h2
end Go.Proofs.Ytbigknmeooaidaa
