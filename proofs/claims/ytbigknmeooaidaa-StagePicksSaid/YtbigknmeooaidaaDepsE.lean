/-
  The package deps: the order, whether a row keeps it, who is ahead of whom.
-/
import Derived.Test.YtbigknmeooaidaaDeps2
namespace Go.Proofs.Ytbigknmeooaidaa
open Go Go.RowKit
set_option linter.unusedVariables false
set_option linter.unusedSimpArgs false

/-- The order is handed back, in new memory; or none, and the error. -/
def RetOrder (w : World) (A : List (List Int)) (en : Ending) (w' : World) : Prop :=
  ∃ (a : Option Addr) (n c : Nat), en = .returned (.tuple #[.slice a n c, .int .i64 (chk A)]) ∧ Keep w w' Nope ∧ Own (New w w') w' 3 1 (.slice a n c) n (ints (nats (if chk A = 0 then ord A else [])))

set_option maxHeartbeats 1000000 in
theorem deps_Order (v : Value) (l : List SysV) (w : World) (S : Nat → Prop) (h : RdSys S w v l) :
    Calls Try.prog 34 #[v] w (RetOrder w (aftsOf l)) := by
  obtain ⟨A, hA⟩ : ∃ A, A = aftsOf l := ⟨_, rfl⟩
  have hAl : A.length = l.length := by rw [hA]; exact aftsOf_len l
  rw [← hA]
  have HC := Lib.hid (deps_check v l w S h)
  rw [← hA] at HC
  have H := Lib.hid h; clear h
  have HAL := Lib.hid hAl; clear hAl
  have HA := Lib.hid hA; clear hA
  obtain ⟨c, hc⟩ : ∃ c, chk A = c := ⟨_, rfl⟩
  rw [hc] at HC
  have HCC := Lib.hid hc; clear hc
  by_cases h0 : c = 0
  · subst h0
    obtain ⟨z1, z2, z3⟩ := chk_zero HCC.out
    have HZ := Lib.hid z2; clear z2 z3
    go_enter Try.func34, Try.ntmps34
    go_wp2_with fail
    refine HC.out.mono ?_
    rintro e w1 ⟨rfl, hk⟩
    have HK := Lib.hid hk; clear hk
    go_wp2_with fail
    refine (deps_order v l _ S (H.out.keep0 HK.out) (HA.out ▸ HZ.out) (by rw [← HAL.out]; exact z1)).mono ?_
    rintro e w2 ⟨ao, no, co, rfl, hoo, hko⟩
    have HOO := Lib.hid hoo; clear hoo
    have HKO := Lib.hid hko; clear hko
    go_wp2_with fail
    go_ret2
    refine ⟨ao, no, co, by rw [HCC.out]; rfl, HK.out.trans HKO.out (fun _ f => f.elim), ?_⟩
    rw [if_pos HCC.out, HA.out]
    exact HOO.out.mono (fun i hi => ⟨by have := hi.1; have := HK.out.size; omega, hi.2⟩)
  · have h1 : (c != 0) = true := by simpa using h0
    have HN := Lib.hid h0; clear h0
    go_enter Try.func34, Try.ntmps34
    go_wp2_with fail
    refine HC.out.mono ?_
    rintro e w1 ⟨rfl, hk⟩
    have HK := Lib.hid hk; clear hk
    go_wp2_with fail
    go_ret2
    refine ⟨none, 0, 0, by rw [HCC.out]; rfl, HK.out, ?_⟩
    rw [HCC.out, if_neg HN.out]
    exact Own.nil _ _ _ _

end Go.Proofs.Ytbigknmeooaidaa
