/-
  The document's rows without order: what Set makes of a row.
-/
import Derived.Test.YtbigknmeooaidaaSys23b
import Derived.Test.YtbigknmeooaidaaRef1
namespace Go.Proofs.Ytbigknmeooaidaa
open Go Go.RowKit
set_option linter.unusedVariables false
set_option linter.unusedSimpArgs false

def inSet (l : List Int) (x : Int) : Prop := x ∈ l ∧ 0 ≤ x ∧ x < 16777216
def RetSet (w : World) (l : List Int) (en : Ending) (w' : World) : Prop :=
  ∃ (S : Nat → Prop) (a : Option Addr) (c : Nat) (L : List Int), en = .returned (.slice a L.length c) ∧ Rises L ∧ (∀ x, x ∈ L ↔ inSet l x) ∧ L.length ≤ l.length ∧ Rd S w' (.slice a L.length c) L.length (ints L) ∧ Keep w w' Nope
def LoopSet (w : World) (l : List Int) (g : Nat) (v3 v4 : Value) (wr : World) : Prop :=
  ∃ (k m : Nat) (S : Nat → Prop) (a : Option Addr) (c : Nat) (L : List Int), g + k = l.length ∧ v4 = .int .i64 k ∧ L.length = m ∧ v3 = .slice a m c ∧ Rises L ∧ (∀ x, x ∈ L ↔ inSet (l.take k) x) ∧ m ≤ k ∧ Rd S wr (.slice a m c) m (ints L) ∧ Keep w wr Nope
theorem inSet_succ {l : List Int} {k : Nat} {y : Int} (h : l[k]? = some y) (x : Int) : inSet (l.take (k + 1)) x ↔ inSet (l.take k) x ∨ (x = y ∧ 0 ≤ y ∧ y < 16777216) := by
  unfold inSet
  rw [List.take_add_one, h]
  simp only [Option.toList_some, List.mem_append, List.mem_singleton]
  constructor
  · rintro ⟨h1 | h1, h2, h3⟩
    · exact .inl ⟨h1, h2, h3⟩
    · subst h1; exact .inr ⟨rfl, h2, h3⟩
  · rintro (⟨h1, h2, h3⟩ | ⟨h1, h2, h3⟩)
    · exact ⟨.inl h1, h2, h3⟩
    · subst h1; exact ⟨.inr rfl, h2, h3⟩

set_option maxHeartbeats 1000000 in
theorem ref_set (v : Value) (l : List Int) (w : World) (S : Nat → Prop) (h : Rd S w v l.length (ints l)) (hl : l.length ≤ 1000000) :
    Calls Try.prog 14 #[v] w (RetSet w l) := by
  obtain ⟨a, c, rfl, _⟩ := id h
  have H := Lib.hid h; clear h
  go_enter Try.func14, Try.ntmps14
  go_wp2_with fail
  go_loopg [3, 4] l.length (fun g v3 v4 wr => LoopSet w l g v3 v4 wr)
  case atStart => exact ⟨0, 0, Nope, none, 0, [], by omega, rfl, rfl, rfl, List.Pairwise.nil, fun x => by simp [inSet], Nat.le_refl _, rd_nil _ _, Keep.refl _ _⟩
  case round =>
    obtain ⟨k, m, S2, a2, c2, L, hg, rfl, hm, rfl, hr, hmem, hmk, hrd, hkp⟩ := hrel
    have hkl : k ≤ l.length := by omega
    have HG := Lib.hid hg; clear hg
    have HM := Lib.hid hm
    have HR := Lib.hid hr; clear hr
    have HME := Lib.hid hmem; clear hmem
    have HRD := Lib.hid hrd; clear hrd
    have HKP := Lib.hid hkp; clear hkp
    by_cases hlt : k < l.length
    · have hkI : (k : Int) < l.length := by omega
      have hkd : decide ((k : Int) < l.length) = true := decide_eq_true hkI
      obtain ⟨y, hy⟩ : ∃ y, l[k]? = some y := ⟨_, List.getElem?_eq_getElem hlt⟩
      obtain ⟨bo, oo, ⟨c', hv⟩, _, hc0⟩ := (H.out.keep HKP.out (fun _ _ f => f)).int hy
      injection hv with hv1 hv2 hv3
      subst hv1; subst hv3; clear hv2
      have HSU := Lib.hid (inSet_succ hy)
      clear hy
      by_cases h0 : 0 ≤ y
      · have h0d : decide (y ≥ 0) = true := decide_eq_true h0
        have h0d2 : decide (0 ≤ y) = true := decide_eq_true h0
        by_cases h1 : y < 16777216
        · have h1d : decide (y < 16777216) = true := decide_eq_true h1
          have HW := Lib.hid (by
            have := ref_with (.slice a2 L.length c2) L y wr S2 (by have h1 := HRD.out; rw [← hm] at h1; exact h1) HR.out (by omega)
            rw [hm] at this
            exact this)
          clear hm
          go_wp2_with fail
          refine HW.out.mono ?_
          rintro e w5 ⟨S3, a3, c3, L3, rfl, hr3, hm3, hl3, hrd3, hk3⟩
          have HK3 := Lib.hid (HKP.out.trans hk3 (fun _ f => f.elim))
          have HRD3 := Lib.hid hrd3
          have HR3 := Lib.hid hr3
          have HM3 := Lib.hid hm3
          have HL3 := Lib.hid hl3
          clear hk3 hrd3 hr3 hm3 hl3 HW
          go_wp2_with fail
          go_roundg (l.length - (k + 1))
          case measure => have := HG.out; omega
          case rel =>
            refine ⟨k + 1, L3.length, S3, a3, c3, L3, by omega, by go_num, rfl, rfl, HR3.out, fun x => ?_, by have := HL3.out; have := HM.out; omega, HRD3.out, HK3.out⟩
            rw [HM3.out, HSU.out, HME.out]
            constructor
            · rintro (h | h)
              · exact .inl h
              · exact .inr ⟨h, h0, h1⟩
            · rintro (h | h)
              · exact .inl h
              · exact .inr h.1
        · have h1d : decide (y < 16777216) = false := decide_eq_false h1
          go_wp2_with fail
          go_roundg (l.length - (k + 1))
          case measure => have := HG.out; omega
          case rel =>
            refine ⟨k + 1, m, S2, a2, c2, L, by omega, by go_num, HM.out, rfl, HR.out, fun x => ?_, by omega, HRD.out, HKP.out⟩
            rw [HSU.out, HME.out]
            exact ⟨.inl, fun h => h.elim id (fun h => by have := h.2.2; omega)⟩
      · have h0d : decide (y ≥ 0) = false := decide_eq_false h0
        have h0d2 : decide (0 ≤ y) = false := decide_eq_false h0
        go_wp2_with fail
        go_roundg (l.length - (k + 1))
        case measure => have := HG.out; omega
        case rel =>
          refine ⟨k + 1, m, S2, a2, c2, L, by omega, by go_num, HM.out, rfl, HR.out, fun x => ?_, by omega, HRD.out, HKP.out⟩
          rw [HSU.out, HME.out]
          exact ⟨.inl, fun h => h.elim id (fun h => by have := h.2.1; omega)⟩
    · obtain rfl : k = l.length := by omega
      have hkd : decide (((l.length : Nat) : Int) < l.length) = false := decide_eq_false (by omega)
      have hme := HME.out
      rw [List.take_length] at hme
      have HME2 := Lib.hid hme
      clear hme
      go_wp2_with fail
      go_ret
      refine ⟨S2, a2, c2, L, by rw [hm]; rfl, HR.out, HME2.out, by omega, by rw [hm]; exact HRD.out, HKP.out⟩
end Go.Proofs.Ytbigknmeooaidaa
