/-
  The package lazy: a queue and its calls.
-/
import Derived.Test.YtnadfefjmoibeaaLazy
namespace Go.Proofs.Ytnadfefjmoibeaa
open Go Go.RowKit

set_option maxHeartbeats 400000 in
theorem add_1 (o : OpV) (w : World) : Calls Try.prog 33 #[o.val] w (Ret w (.bool (!okOp o))) := by
  have HV := Lib.hid (op_ok o)
  obtain ⟨kind, hi, hg, c, vk, va, vb⟩ := o
  obtain ⟨b, hb⟩ : ∃ b, okOp ⟨kind, hi, hg, c, vk, va, vb⟩ = b := ⟨_, rfl⟩
  rw [hb] at HV ⊢
  clear hb
  simp only [OpV.val] at HV ⊢
  go_enter Try.func33, Try.ntmps33
  go_wp2_with fail
  refine (HV.out _).mono ?_
  rintro e w1 ⟨rfl, hk⟩
  have HK := Lib.hid hk; clear hk
  go_wp2_with fail
  go_ret
  exact ⟨rfl, (Keep.alloc (Keep.refl _ _) _).trans HK.out (fun _ f => f.elim)⟩

/-- A number, at least 0 just if one of the ops may not be. -/
def RetIx (w : World) (l : List OpV) (en : Ending) (w' : World) : Prop := ∃ i : Int, en = .returned (.int .i64 i) ∧ ((0 ≤ i) = (l.any (fun o => !okOp o) = true)) ∧ Keep w w' Nope

def LoopIx (w : World) (l : List OpV) (g : Nat) (v8 : Value) (wr : World) : Prop :=
  ∃ k : Nat, g + k = l.length ∧ v8 = .int .i64 k ∧ (∀ j o, j < k → l[j]? = some o → okOp o = true) ∧ Keep w wr Nope

set_option maxHeartbeats 1000000 in
theorem index_op (v : Value) (l : List OpV) (w : World) (S : Nat → Prop) (h : Rd S w v l.length (flatOp l)) :
    Calls Try.prog 35 #[v, .func (.func 33) #[] #[]] w (RetIx w l) := by
  obtain ⟨a, c, rfl, h1, h2, h3, h4⟩ := id h
  have hlen : l.length ≤ 9223372036854775807 := by unfold maxLen at h2; omega
  clear h1 h2 h3 h4
  have H := Lib.hid h; clear h
  go_enter Try.func35, Try.ntmps35
  go_wp2_with fail
  go_loopg [8] l.length (fun g v8 wr => LoopIx w l g v8 wr)
  case atStart => exact ⟨0, rfl, rfl, fun j o h => by omega, Keep.refl _ _⟩
  case round =>
    obtain ⟨k, hk, rfl, hall, hkeep⟩ := hrel
    have hkl : k ≤ l.length := by omega
    have HK := Lib.hid hk; clear hk
    have HA := Lib.hid hall; clear hall
    have HP := Lib.hid hkeep; clear hkeep
    by_cases hlt : k < l.length
    · obtain ⟨o, ho⟩ : ∃ o, l[k]? = some o := ⟨_, List.getElem?_eq_getElem hlt⟩
      obtain ⟨bo, oo, rfl, hbo, hco⟩ := (H.out.keep HP.out (fun _ _ f => f)).elem (cells := OpV.cells) (size := 7) (fun _ => rfl) (by decide) ho
      have HO := Lib.hid ho; clear ho
      have HC := Lib.hid (add_1 o)
      obtain ⟨ok, hok⟩ : ∃ ok, okOp o = ok := ⟨_, rfl⟩
      rw [hok] at HC
      have HOK := Lib.hid hok; clear hok
      obtain ⟨kind, hi, hg, c', vk, va, vb⟩ := o
      have hc0 := hco 0 (by decide)
      have hc1 := hco 1 (by decide)
      have hc2 := hco 2 (by decide)
      have hc3 := hco 3 (by decide)
      have hc4 := hco 4 (by decide)
      have hc5 := hco 5 (by decide)
      have hc6 := hco 6 (by decide)
      simp [OpV.cells] at hc0 hc1 hc2 hc3 hc4 hc5 hc6
      clear hco
      simp only [OpV.val] at HC
      cases ok
      · go_wp2_with fail
        refine (HC.out _).mono ?_
        rintro e w1 ⟨rfl, hk1⟩
        have HK1 := Lib.hid hk1; clear hk1
        go_wp2_with fail
        go_ret
        refine ⟨k, rfl, ?_, HP.out.trans HK1.out (fun _ f => f.elim)⟩
        have : l.any (fun o => !okOp o) = true := List.any_eq_true.2 ⟨_, List.mem_of_getElem? HO.out, by simp [HOK.out]⟩
        rw [this]
        simp
      · go_wp2_with fail
        refine (HC.out _).mono ?_
        rintro e w1 ⟨rfl, hk1⟩
        have HK1 := Lib.hid hk1; clear hk1
        go_wp2_with fail
        go_roundg (l.length - (k + 1))
        case measure => have := HK.out; omega
        case rel =>
          refine ⟨k + 1, by omega, by go_num, fun j o' hj ho' => ?_, HP.out.trans HK1.out (fun _ f => f.elim)⟩
          by_cases e : j = k
          · subst e
            rw [HO.out] at ho'
            cases ho'
            exact HOK.out
          · exact HA.out j o' (by omega) ho'
    · go_wp2_with fail
      go_ret
      refine ⟨-1, rfl, ?_, HP.out⟩
      have : l.any (fun o => !okOp o) = false := by
        rw [List.any_eq_false]
        intro o ho
        obtain ⟨j, hj, rfl⟩ := List.getElem_of_mem ho
        simp [HA.out j _ (by omega) (List.getElem?_eq_getElem hj)]
      rw [this]
      simp

set_option maxHeartbeats 400000 in
theorem contains_op (v : Value) (l : List OpV) (w : World) (S : Nat → Prop) (h : Rd S w v l.length (flatOp l)) :
    Calls Try.prog 32 #[v, .func (.func 33) #[] #[]] w (Ret w (.bool (l.any (fun o => !okOp o)))) := by
  have H := Lib.hid h; clear h
  obtain ⟨b, hb⟩ : ∃ b, l.any (fun o => !okOp o) = b := ⟨_, rfl⟩
  rw [hb]
  have HB := Lib.hid hb; clear hb
  go_enter Try.func32, Try.ntmps32
  go_wp2_with fail
  refine (index_op v l _ S H.out).mono ?_
  rintro e w1 ⟨i, rfl, hi, hk⟩
  have HI := Lib.hid hi; clear hi
  have HK := Lib.hid hk; clear hk
  cases b
  · have hi : i < 0 := by
      have := HI.out
      rw [HB.out] at this
      simp at this
      exact this
    have hd : decide (0 ≤ i) = false := decide_eq_false (by omega)
    go_wp2_with fail
    go_ret
    exact ⟨rfl, HK.out⟩
  · have hi : 0 ≤ i := by
      have := HI.out
      rw [HB.out] at this
      simpa using this
    go_wp2_with fail
    go_ret
    exact ⟨rfl, HK.out⟩
end Go.Proofs.Ytnadfefjmoibeaa
