/-
  The package code: Check.
-/
import Derived.Test.YtbigknmeooaidaaChk6
namespace Go.Proofs.Ytbigknmeooaidaa
open Go Go.RowKit
set_option linter.unusedVariables false
set_option linter.unusedSimpArgs false

def codesB (n : Nat) : Nat → List InsV → Bool
  | _, [] => true
  | k, i :: t => okI i ((n : Int) - 1 - k) && codesB n (k + 1) t
def codeE (l : List InsV) : Int := if 16 < l.length then 2 else if codesB l.length 0 l then 0 else 1
def LoopCC (w : World) (l : List InsV) (g : Nat) (v10 : Value) (wr : World) : Prop :=
  ∃ k : Nat, g + k = l.length ∧ v10 = .int .i64 k ∧ codesB l.length 0 l = codesB l.length k (l.drop k) ∧ Keep w wr Nope

set_option maxHeartbeats 2000000 in
theorem code_Check (v : Value) (l : List InsV) (w : World) (S : Nat → Prop) (h : RdIns S w v l) :
    Calls Try.prog 48 #[v] w (Ret w (.int .i64 (codeE l))) := by
  obtain ⟨a, c, rfl, g1, g2, g3, g4⟩ := id h
  clear g2 g3 g4
  obtain ⟨r, hr⟩ : ∃ r, codeE l = r := ⟨_, rfl⟩
  rw [hr]
  unfold codeE at hr
  have HR := Lib.hid hr; clear hr
  have H := Lib.hid h; clear h
  by_cases h16 : 16 < l.length
  · have hI : (l.length : Int) > 16 := by omega
    have hd : decide ((l.length : Int) > 16) = true := decide_eq_true hI
    go_enter Try.func48, Try.ntmps48
    go_wp2_with fail
    go_ret
    exact ⟨by rw [← HR.out, if_pos h16]; rfl, Keep.refl _ _⟩
  have hI : ¬ (l.length : Int) > 16 := by omega
  have hd : decide ((l.length : Int) > 16) = false := decide_eq_false hI
  rw [if_neg h16] at HR
  go_enter Try.func48, Try.ntmps48
  go_wp2_with fail
  go_loopg [10] l.length (fun g v10 wr => LoopCC w l g v10 wr)
  case atStart => exact ⟨0, rfl, rfl, rfl, Keep.refl _ _⟩
  case round =>
    obtain ⟨k, hk, rfl, hco, hkp⟩ := hrel
    have hkl : k ≤ l.length := by omega
    have HK := Lib.hid hk; clear hk
    have HCO := Lib.hid hco; clear hco
    have HKP := Lib.hid hkp; clear hkp
    by_cases hlt : k < l.length
    · obtain ⟨x, hx⟩ : ∃ x, l[k]? = some x := ⟨_, List.getElem?_eq_getElem hlt⟩
      obtain ⟨bo, oo, rfl, _, hc⟩ := (H.out.keep HKP.out (fun _ _ f => f)).elem (cells := InsV.cells) (size := 4) (fun _ => rfl) (by decide) hx
      have c0 := hc 0 (by decide)
      have c1 := hc 1 (by decide)
      have c2 := hc 2 (by decide)
      have c3 := hc 3 (by decide)
      simp only [InsV.cells, List.getElem?_cons_zero, List.getElem?_cons_succ, Nat.add_zero] at c0 c1 c2 c3
      clear hc
      have hki : (k : Int) < l.length := by omega
      have hkd : decide ((k : Int) < l.length) = true := decide_eq_true hki
      have hdrop : l.drop k = x :: l.drop (k + 1) := by
        rw [List.drop_eq_getElem_cons hlt]
        congr 1
        exact Option.some.inj ((List.getElem?_eq_getElem hlt).symm.trans hx)
      have hst : codesB l.length 0 l = (okI x ((l.length : Int) - 1 - k) && codesB l.length (k + 1) (l.drop (k + 1))) := by
        rw [HCO.out, hdrop]; rfl
      have hOK := fun wq => code_ok x ((l.length : Int) - 1 - k) wq
      obtain ⟨e1, he1⟩ : ∃ e1, okI x ((l.length : Int) - 1 - k) = e1 := ⟨_, rfl⟩
      rw [he1] at hst
      simp only [he1] at hOK
      unfold InsV.val at hOK
      have HOK := Lib.hid hOK
      have HST := Lib.hid hst
      obtain ⟨x1, x2, x3, x4⟩ := x
      simp only at c0 c1 c2 c3 HOK
      clear hst hOK he1 hdrop hx
      go_upto_region 6 with (fail)
      obtain ⟨w1, hw1⟩ : ∃ w1, w1 = wr.alloc (.cells #[.int .i64 x1, .int .i64 x2, .int .i64 x3, .int .i64 x4] 87) := ⟨_, rfl⟩
      have hk1 : Keep wr w1 Nope := by rw [hw1]; exact (Keep.refl wr Nope).alloc _
      have hba : Blk w1 wr.heap.size #[.int .i64 x1, .int .i64 x2, .int .i64 x3, .int .i64 x4] 87 := by rw [hw1]; exact Blk.new wr _ _
      rw [← hw1]
      have a0 := hba.cell 0
      have a1 := hba.cell 1
      have a2 := hba.cell 2
      have a3 := hba.cell 3
      simp at a0 a1 a2 a3
      have HK1 := Lib.hid (HKP.out.trans hk1 (fun _ f => f.elim))
      clear hw1 hk1 hba c0 c1 c2 c3 HKP
      cases e1
      · go_wp2_with (go_at_call 69; refine (HOK.out _).mono ?_; rintro e w7 ⟨rfl, hk7⟩; have HK7 := Lib.hid (HK1.out.trans hk7 (fun _ f => f.elim)); clear hk7)
        go_ret
        exact ⟨by rw [← HR.out, HST.out]; rfl, HK7.out⟩
      · go_wp2_with (go_at_call 69; refine (HOK.out _).mono ?_; rintro e w7 ⟨rfl, hk7⟩; have HK7 := Lib.hid (HK1.out.trans hk7 (fun _ f => f.elim)); clear hk7)
        go_roundg (l.length - (k + 1))
        case measure => have := HK.out; omega
        case rel => exact ⟨k + 1, by omega, by go_num, by rw [HST.out]; rfl, HK7.out⟩
    · obtain rfl : k = l.length := by omega
      have hz : codesB l.length 0 l = true := by rw [HCO.out, List.drop_length]; rfl
      have HZ := Lib.hid hz; clear hz
      go_wp2_with fail
      go_ret
      exact ⟨by rw [← HR.out, HZ.out]; rfl, HKP.out⟩
end Go.Proofs.Ytbigknmeooaidaa
