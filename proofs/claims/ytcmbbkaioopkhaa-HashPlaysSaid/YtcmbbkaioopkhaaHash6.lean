/-
  The tables of the document: awake; where an index is looked for first.
-/
import Derived.Test.YtcmbbkaioopkhaaHash5
namespace Go.Proofs.Ytcmbbkaioopkhaa
open Go Go.RowKit
set_option linter.unusedVariables false
set_option linter.unusedSimpArgs false

def tab0 : List SlotV := List.replicate 8 emptyS
def tab1 : List SlotV := tab0.set 0 ⟨1, 5, 1, 7, 0⟩
theorem tab0_ok : Tab hmO tab0 ∧ cntK 1 tab0 = 0 ∧ cntK 2 tab0 = 0 ∧ ∀ j a b c, ¬ Has tab0 j a b c := Tab.new 8 (by decide) Pow.eight.home
theorem tab0_no (x : Int) : ∀ p, p < tab0.length → (sl tab0 p).kind = 1 → (sl tab0 p).idx ≠ x := fun p hp hk he => tab0_ok.2.2.2 _ _ _ _ ⟨p, hp, slot_eta _ hk⟩
theorem tab0_find : findS hmO tab0 5 = (-1, 0) := by kernel_rfl
theorem tab1_eq : insS hmO (growS hmO tab0) 5 1 7 0 = tab1 := by kernel_rfl
theorem tab1_find : findS hmO tab1 5 = (((0 : Nat) : Int), -1) := by kernel_rfl
theorem tab1_ok : Tab hmO tab1 := by
  have h := (tab0_ok.1).ins (i := 5) ⟨by decide, by decide⟩ 1 7 0 (tab0_no 5) (by rw [tab0_ok.2.1, tab0_ok.2.2.1]; decide)
  obtain ⟨_, _, _, _, _, h, _⟩ := h
  have e : insS hmO tab0 5 1 7 0 = tab1 := by kernel_rfl
  rw [e] at h
  exact h

set_option maxHeartbeats 2000000 in
theorem awake9 (w : World) : Calls Try.prog 14 #[] w (RetTrue w) := by
  have HS := Lib.hid (St.start w)
  have hm18 : mayHome 1 8 = true := by decide
  have hh18 : homeOf 1 8 = 4 := by decide
  have HC := Lib.hid (fun w => hash_home_yes 1 8 w hm18)
  rw [hh18] at HC
  clear hm18 hh18
  go_enter Try.func14, Try.ntmps14
  go_wp2_with fail
  refine (hash_new HS.out).mono ?_
  rintro e w1 ⟨b, rfl, hst⟩
  have H1 := Lib.hid (show St w w1 [hashA b tab0] from hst); clear hst HS
  go_wp2_with fail
  refine (hash_Put_new H1.out 0 rfl tab0_ok.1 Pow.eight (by decide) 5 (by decide) (by decide) 1 7 0 0 tab0_find (tab0_no 5)).mono ?_
  rw [tab1_eq]
  rintro e w2 ⟨rfl, hst⟩
  have H2 := Lib.hid (show St w w2 [hashA b tab1] from hst); clear hst H1
  go_wp2_with fail
  refine (hash_get_yes H2.out 0 rfl tab1_ok Pow.eight 5 (by decide) (by decide) 0 (by decide) tab1_find).mono ?_
  rintro e w3 ⟨rfl, hk⟩
  have H3 := Lib.hid (H2.out.keep hk); clear hk H2
  have e1 : (sl tab1 0).val = .agg #[.int .i64 1, .int .i64 7, .int .i64 0] := rfl
  rw [e1]
  clear e1
  go_wp2_with fail
  have H4 := Lib.hid (H3.out.alloc (.cells #[.int .i64 1, .int .i64 7, .int .i64 0] 67))
  have hL := hash_len H4.out 0 rfl
  rw [show cntK 1 tab1 = 1 from rfl] at hL
  refine hL.mono ?_
  rintro e w4 ⟨rfl, rfl⟩
  clear hL
  go_wp2_with fail
  refine (HC.out _).mono ?_
  rintro e w5 ⟨rfl, rfl⟩
  go_wp2_with fail
  refine (hash_slots H4.out 0 rfl (by decide)).mono ?_
  rintro e w6 ⟨a, c, rfl, hst⟩
  have HR := Lib.hid hst.ret
  clear hst
  rw [show tab1.length = 8 from rfl]
  go_wp2_with fail
  go_ret
  exact HR.out
theorem st_awake9 {w0 w : World} {L : List Asr} (H : St w0 w L) : Calls Try.prog 14 #[] w (RetTrue w0) := by
  refine (awake9 w).mono ?_
  rintro e w' ⟨rfl, hk⟩
  exact ⟨rfl, H.bel.trans (hk.mono H.le)⟩
end Go.Proofs.Ytcmbbkaioopkhaa
