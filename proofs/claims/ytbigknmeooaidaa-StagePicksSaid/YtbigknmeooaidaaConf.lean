/-
  The packages slices and sys: is one of a row of such a kind; do two rows meet.
-/
import Derived.Test.YtbigknmeooaidaaRowE
import Derived.Test.YtbigknmeooaidaaHeld
namespace Go.Proofs.Ytbigknmeooaidaa
open Go Go.RowKit
set_option linter.unusedVariables false
set_option linter.unusedSimpArgs false

def hasL (l : List Int) (x : Int) : Bool := l.contains x
theorem hasL_iff {l : List Int} {x : Int} : hasL l x = true ↔ x ∈ l := by unfold hasL; exact List.contains_iff_mem
theorem hasL_no {l : List Int} {x : Int} : hasL l x = false ↔ ¬ x ∈ l := by rw [← hasL_iff, Bool.not_eq_true]
def RetIxK (w : World) (b : Bool) (en : Ending) (w' : World) : Prop := ∃ i : Int, en = .returned (.int .i64 i) ∧ ((0 ≤ i) = (b = true)) ∧ Keep w w' Nope
def LoopIxK (w : World) (n : Nat) (q : Nat → Bool) (g : Nat) (v8 : Value) (wr : World) : Prop :=
  ∃ k : Nat, g + k = n ∧ v8 = .int .i64 k ∧ (∀ j, j < k → q j = false) ∧ Keep w wr Nope

set_option maxHeartbeats 1000000 in
theorem index_meet1 (cp : Value) (p : Int → Bool) (v : Value) (l : List Int) (w : World) (S : Nat → Prop) (h : Rd S w v l.length (ints l))
    (hf : ∀ (x : Int) (w' : World), Keep w w' Nope → Calls Try.prog 62 #[.int .i64 x, cp] w' (fun e w2 => e = .returned (.bool (p x)) ∧ Keep w' w2 Nope)) :
    Calls Try.prog 94 #[v, .func (.func 62) #[] #[cp]] w (RetIxK w (l.any p)) := by
  obtain ⟨a, c, rfl, g1, g2, g3, g4⟩ := id h
  have hlen : l.length ≤ 9223372036854775807 := by unfold maxLen at g2; omega
  clear g1 g2 g3 g4
  have H := Lib.hid h; clear h
  have HP := Lib.hid hf; clear hf
  go_enter Try.func94, Try.ntmps94
  go_wp2_with fail
  go_loopg [8] l.length (fun g v8 wr => LoopIxK w l.length (fun j => p (l.getD j 0)) g v8 wr)
  case atStart => exact ⟨0, rfl, rfl, fun j h => by omega, Keep.refl _ _⟩
  case round =>
    obtain ⟨k, hk, rfl, hall, hkp⟩ := hrel
    have hkl : k ≤ l.length := by omega
    have HK := Lib.hid hk; clear hk
    have HA := Lib.hid hall; clear hall
    have HKP := Lib.hid hkp; clear hkp
    by_cases hlt : k < l.length
    · obtain ⟨x, hx⟩ : ∃ x, l[k]? = some x := ⟨_, List.getElem?_eq_getElem hlt⟩
      obtain ⟨bo, oo, ⟨c', hv⟩, _, hc0⟩ := (H.out.keep HKP.out (fun _ _ f => f)).int hx
      injection hv with hv1 hv2 hv3
      subst hv1; subst hv3
      have HX := Lib.hid hx; clear hx
      have HC := Lib.hid (HP.out x wr HKP.out)
      obtain ⟨b, hb⟩ : ∃ b, p x = b := ⟨_, rfl⟩
      rw [hb] at HC
      have HB := Lib.hid hb; clear hb
      have HD := Lib.hid (show p (l.getD k 0) = b by rw [List.getD_eq_getElem?_getD, HX.out]; exact HB.out)
      cases b
      · go_wp2_with (go_at_call 62; refine HC.out.mono ?_; rintro e w' ⟨rfl, hk'⟩; have HK' := Lib.hid (HKP.out.trans hk' (fun _ f => f.elim)); clear hk')
        go_roundg (l.length - (k + 1))
        case measure => have := HK.out; omega
        case rel =>
          refine ⟨k + 1, by omega, by go_num, fun j hj => ?_, HK'.out⟩
          by_cases e : j = k
          · subst e
            exact HD.out
          · exact HA.out j (by omega)
      · go_wp2_with (go_at_call 62; refine HC.out.mono ?_; rintro e w' ⟨rfl, hk'⟩; have HK' := Lib.hid (HKP.out.trans hk' (fun _ f => f.elim)); clear hk')
        go_ret
        refine ⟨k, rfl, ?_, HK'.out⟩
        have : l.any p = true := List.any_eq_true.2 ⟨_, List.mem_of_getElem? HX.out, HB.out⟩
        rw [this]
        simp
    · go_wp2_with fail
      go_ret
      refine ⟨-1, rfl, ?_, HKP.out⟩
      have : l.any p = false := by
        rw [List.any_eq_false]
        intro o ho
        obtain ⟨j, hj, rfl⟩ := List.getElem_of_mem ho
        have := HA.out j (by omega)
        simp only [List.getD_eq_getElem?_getD, List.getElem?_eq_getElem hj, Option.getD_some] at this
        simp [this]
      rw [this]
      simp
set_option maxHeartbeats 400000 in
theorem contains_meet1 (cp : Value) (p : Int → Bool) (v : Value) (l : List Int) (w : World) (S : Nat → Prop) (h : Rd S w v l.length (ints l))
    (hf : ∀ (x : Int) (w' : World), Keep w w' Nope → Calls Try.prog 62 #[.int .i64 x, cp] w' (fun e w2 => e = .returned (.bool (p x)) ∧ Keep w' w2 Nope)) :
    Calls Try.prog 61 #[v, .func (.func 62) #[] #[cp]] w (Ret w (.bool (l.any p))) := by
  have HI := Lib.hid (index_meet1 cp p v l w S h hf); clear h hf
  obtain ⟨b, hb⟩ : ∃ b, l.any p = b := ⟨_, rfl⟩
  rw [hb] at HI ⊢
  clear hb
  go_enter Try.func61, Try.ntmps61
  go_wp2_with fail
  refine HI.out.mono ?_
  rintro e w1 ⟨i, rfl, hi, hk⟩
  have HK := Lib.hid hk; clear hk
  cases b
  · have hi' : i < 0 := by
      simp at hi
      exact hi
    have hd : decide (0 ≤ i) = false := decide_eq_false (by omega)
    clear hi
    go_wp2_with fail
    go_ret
    exact ⟨rfl, HK.out⟩
  · have hi' : 0 ≤ i := by simpa using hi
    clear hi
    go_wp2_with fail
    go_ret
    exact ⟨rfl, HK.out⟩

set_option maxHeartbeats 1000000 in
theorem index_in1 (cp : Value) (p : Int → Bool) (v : Value) (l : List Int) (w : World) (S : Nat → Prop) (h : Rd S w v l.length (ints l))
    (hf : ∀ (x : Int) (w' : World), Keep w w' Nope → Calls Try.prog 101 #[.int .i64 x, cp] w' (fun e w2 => e = .returned (.bool (p x)) ∧ Keep w' w2 Nope)) :
    Calls Try.prog 94 #[v, .func (.func 101) #[] #[cp]] w (RetIxK w (l.any p)) := by
  obtain ⟨a, c, rfl, g1, g2, g3, g4⟩ := id h
  have hlen : l.length ≤ 9223372036854775807 := by unfold maxLen at g2; omega
  clear g1 g2 g3 g4
  have H := Lib.hid h; clear h
  have HP := Lib.hid hf; clear hf
  go_enter Try.func94, Try.ntmps94
  go_wp2_with fail
  go_loopg [8] l.length (fun g v8 wr => LoopIxK w l.length (fun j => p (l.getD j 0)) g v8 wr)
  case atStart => exact ⟨0, rfl, rfl, fun j h => by omega, Keep.refl _ _⟩
  case round =>
    obtain ⟨k, hk, rfl, hall, hkp⟩ := hrel
    have hkl : k ≤ l.length := by omega
    have HK := Lib.hid hk; clear hk
    have HA := Lib.hid hall; clear hall
    have HKP := Lib.hid hkp; clear hkp
    by_cases hlt : k < l.length
    · obtain ⟨x, hx⟩ : ∃ x, l[k]? = some x := ⟨_, List.getElem?_eq_getElem hlt⟩
      obtain ⟨bo, oo, ⟨c', hv⟩, _, hc0⟩ := (H.out.keep HKP.out (fun _ _ f => f)).int hx
      injection hv with hv1 hv2 hv3
      subst hv1; subst hv3
      have HX := Lib.hid hx; clear hx
      have HC := Lib.hid (HP.out x wr HKP.out)
      obtain ⟨b, hb⟩ : ∃ b, p x = b := ⟨_, rfl⟩
      rw [hb] at HC
      have HB := Lib.hid hb; clear hb
      have HD := Lib.hid (show p (l.getD k 0) = b by rw [List.getD_eq_getElem?_getD, HX.out]; exact HB.out)
      cases b
      · go_wp2_with (go_at_call 101; refine HC.out.mono ?_; rintro e w' ⟨rfl, hk'⟩; have HK' := Lib.hid (HKP.out.trans hk' (fun _ f => f.elim)); clear hk')
        go_roundg (l.length - (k + 1))
        case measure => have := HK.out; omega
        case rel =>
          refine ⟨k + 1, by omega, by go_num, fun j hj => ?_, HK'.out⟩
          by_cases e : j = k
          · subst e
            exact HD.out
          · exact HA.out j (by omega)
      · go_wp2_with (go_at_call 101; refine HC.out.mono ?_; rintro e w' ⟨rfl, hk'⟩; have HK' := Lib.hid (HKP.out.trans hk' (fun _ f => f.elim)); clear hk')
        go_ret
        refine ⟨k, rfl, ?_, HK'.out⟩
        have : l.any p = true := List.any_eq_true.2 ⟨_, List.mem_of_getElem? HX.out, HB.out⟩
        rw [this]
        simp
    · go_wp2_with fail
      go_ret
      refine ⟨-1, rfl, ?_, HKP.out⟩
      have : l.any p = false := by
        rw [List.any_eq_false]
        intro o ho
        obtain ⟨j, hj, rfl⟩ := List.getElem_of_mem ho
        have := HA.out j (by omega)
        simp only [List.getD_eq_getElem?_getD, List.getElem?_eq_getElem hj, Option.getD_some] at this
        simp [this]
      rw [this]
      simp
set_option maxHeartbeats 400000 in
theorem contains_in1 (cp : Value) (p : Int → Bool) (v : Value) (l : List Int) (w : World) (S : Nat → Prop) (h : Rd S w v l.length (ints l))
    (hf : ∀ (x : Int) (w' : World), Keep w w' Nope → Calls Try.prog 101 #[.int .i64 x, cp] w' (fun e w2 => e = .returned (.bool (p x)) ∧ Keep w' w2 Nope)) :
    Calls Try.prog 61 #[v, .func (.func 101) #[] #[cp]] w (Ret w (.bool (l.any p))) := by
  have HI := Lib.hid (index_in1 cp p v l w S h hf); clear h hf
  obtain ⟨b, hb⟩ : ∃ b, l.any p = b := ⟨_, rfl⟩
  rw [hb] at HI ⊢
  clear hb
  go_enter Try.func61, Try.ntmps61
  go_wp2_with fail
  refine HI.out.mono ?_
  rintro e w1 ⟨i, rfl, hi, hk⟩
  have HK := Lib.hid hk; clear hk
  cases b
  · have hi' : i < 0 := by
      simp at hi
      exact hi
    have hd : decide (0 ≤ i) = false := decide_eq_false (by omega)
    clear hi
    go_wp2_with fail
    go_ret
    exact ⟨rfl, HK.out⟩
  · have hi' : 0 ≤ i := by simpa using hi
    clear hi
    go_wp2_with fail
    go_ret
    exact ⟨rfl, HK.out⟩

set_option maxHeartbeats 1000000 in
theorem index_val (x : Int) (v : Value) (l : List Int) (w : World) (S : Nat → Prop) (h : Rd S w v l.length (ints l)) :
    Calls Try.prog 79 #[v, .int .i64 x] w (RetIx w (hasL l x)) := by
  obtain ⟨a, c, rfl, g1, g2, g3, g4⟩ := id h
  have hlen : l.length ≤ 9223372036854775807 := by unfold maxLen at g2; omega
  clear g1 g2 g3 g4
  have H := Lib.hid h; clear h
  go_enter Try.func79, Try.ntmps79
  go_wp2_with fail
  go_loopg [8] l.length (fun g v8 wr => LoopIx w l (fun y => x == y) g v8 wr)
  case atStart => exact ⟨0, rfl, rfl, fun j x h => by omega, rfl⟩
  case round =>
    obtain ⟨k, hk, rfl, hall, rfl⟩ := hrel
    have hkl : k ≤ l.length := by omega
    have HK := Lib.hid hk; clear hk
    have HA := Lib.hid hall; clear hall
    by_cases hlt : k < l.length
    · obtain ⟨y, hx⟩ : ∃ y, l[k]? = some y := ⟨_, List.getElem?_eq_getElem hlt⟩
      obtain ⟨bo, oo, ⟨c', hv⟩, _, hc0⟩ := H.out.int hx
      injection hv with hv1 hv2 hv3
      subst hv1; subst hv3
      have HX := Lib.hid hx; clear hx
      obtain ⟨b, hb⟩ : ∃ b, (x == y) = b := ⟨_, rfl⟩
      have HB := Lib.hid hb
      cases b
      · go_wp2_with fail
        go_roundg (l.length - (k + 1))
        case measure => have := HK.out; omega
        case rel =>
          refine ⟨k + 1, by omega, by go_num, fun j o' hj ho' => ?_, rfl⟩
          by_cases e : j = k
          · subst e
            rw [HX.out] at ho'
            cases ho'
            exact HB.out
          · exact HA.out j o' (by omega) ho'
      · go_wp2_with fail
        go_ret
        refine ⟨k, rfl, ?_, rfl⟩
        have hxy : x = y := by simpa using HB.out
        have : hasL l x = true := hasL_iff.2 (hxy ▸ List.mem_of_getElem? HX.out)
        rw [this]
        simp
    · go_wp2_with fail
      go_ret
      refine ⟨-1, rfl, ?_, rfl⟩
      have : hasL l x = false := by
        rw [hasL_no]
        intro hc
        obtain ⟨j, hj, he⟩ := List.getElem_of_mem hc
        have := HA.out j _ (by omega) (List.getElem?_eq_getElem hj)
        simp [he] at this
      rw [this]
      simp
set_option maxHeartbeats 400000 in
theorem contains_val (x : Int) (v : Value) (l : List Int) (w : World) (S : Nat → Prop) (h : Rd S w v l.length (ints l)) :
    Calls Try.prog 56 #[v, .int .i64 x] w (fun e w' => e = .returned (.bool (hasL l x)) ∧ w = w') := by
  have HI := Lib.hid (index_val x v l w S h); clear h
  obtain ⟨b, hb⟩ : ∃ b, hasL l x = b := ⟨_, rfl⟩
  rw [hb] at HI ⊢
  clear hb
  go_enter Try.func56, Try.ntmps56
  go_wp2_with fail
  refine HI.out.mono ?_
  rintro e w1 ⟨i, rfl, hi, rfl⟩
  cases b
  · have hi' : i < 0 := by
      simp at hi
      exact hi
    have hd : decide (0 ≤ i) = false := decide_eq_false (by omega)
    clear hi
    go_wp2_with fail
    go_ret
    exact ⟨rfl, rfl⟩
  · have hi' : 0 ≤ i := by simpa using hi
    clear hi
    go_wp2_with fail
    go_ret
    exact ⟨rfl, rfl⟩
end Go.Proofs.Ytbigknmeooaidaa
