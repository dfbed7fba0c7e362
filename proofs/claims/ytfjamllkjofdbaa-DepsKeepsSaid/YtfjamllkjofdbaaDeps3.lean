/-
  The package deps: the order, whether a row keeps it, who is ahead of whom.
-/
import Derived.Test.YtfjamllkjofdbaaDeps2
namespace Go.Proofs.Ytfjamllkjofdbaa
open Go Go.RowKit
set_option linter.unusedVariables false
set_option linter.unusedSimpArgs false

/-- The order is handed back, in new memory; or none, and the error. -/
def RetOrder (w : World) (A : List (List Int)) (en : Ending) (w' : World) : Prop :=
  ∃ (a : Option Addr) (n c : Nat), en = .returned (.tuple #[.slice a n c, .int .i64 (chk A)]) ∧ Keep w w' Nope ∧ Own (New w w') w' 3 1 (.slice a n c) n (ints (nats (if chk A = 0 then ord A else [])))

set_option maxHeartbeats 1000000 in
theorem deps_Order (v : Value) (l : List SysV) (w : World) (S : Nat → Prop) (h : RdSys S w v l) :
    Calls Try.prog 9 #[v] w (RetOrder w (aftsOf l)) := by
  obtain ⟨A, hA⟩ : ∃ A, A = aftsOf l := ⟨_, rfl⟩
  have hAl : A.length = l.length := by rw [hA]; exact aftsOf_len l
  rw [← hA]
  have HC := Lib.hid (deps_check v l w S h)
  rw [← hA] at HC
  have H := Lib.hid h; clear h
  have HAL := Lib.hid hAl; clear hAl
  have HA := Lib.hid hA; clear hA
  obtain ⟨c, hc⟩ : ∃ c, chk A = c := ⟨_, rfl⟩
  rw [hc] at HC
  have HCC := Lib.hid hc; clear hc
  by_cases h0 : c = 0
  · subst h0
    obtain ⟨z1, z2, z3⟩ := chk_zero HCC.out
    have HZ := Lib.hid z2; clear z2 z3
    go_enter Try.func9, Try.ntmps9
    go_wp2_with fail
    refine HC.out.mono ?_
    rintro e w1 ⟨rfl, hk⟩
    have HK := Lib.hid hk; clear hk
    go_wp2_with fail
    refine (deps_order v l _ S (H.out.keep0 HK.out) (HA.out ▸ HZ.out) (by rw [← HAL.out]; exact z1)).mono ?_
    rintro e w2 ⟨ao, no, co, rfl, hoo, hko⟩
    have HOO := Lib.hid hoo; clear hoo
    have HKO := Lib.hid hko; clear hko
    go_wp2_with fail
    go_ret2
    refine ⟨ao, no, co, by rw [HCC.out]; rfl, HK.out.trans HKO.out (fun _ f => f.elim), ?_⟩
    rw [if_pos HCC.out, HA.out]
    exact HOO.out.mono (fun i hi => ⟨by have := hi.1; have := HK.out.size; omega, hi.2⟩)
  · have h1 : (c != 0) = true := by simpa using h0
    have HN := Lib.hid h0; clear h0
    go_enter Try.func9, Try.ntmps9
    go_wp2_with fail
    refine HC.out.mono ?_
    rintro e w1 ⟨rfl, hk⟩
    have HK := Lib.hid hk; clear hk
    go_wp2_with fail
    go_ret2
    refine ⟨none, 0, 0, by rw [HCC.out]; rfl, HK.out, ?_⟩
    rw [HCC.out, if_neg HN.out]
    exact Own.nil _ _ _ _

def LoopKeep (w1 : World) (A : List (List Int)) (o : List Int) (g : Nat) (v5 v20 : Value) (wr : World) : Prop :=
  ∃ (k : Nat) (done : List Nat), g + k = o.length ∧ v20 = .int .i64 k ∧ v5 = .int .u64 (allW (nats done) : Nat) ∧ keepG A done (o.drop k) = keepG A [] o ∧ Keep w1 wr Nope

set_option maxRecDepth 100000 in
set_option maxHeartbeats 2000000 in
theorem deps_keeps (v vo : Value) (l : List SysV) (o : List Int) (w : World) (S S2 : Nat → Prop) (h : RdSys S w v l) (ho : Rd S2 w vo o.length (ints o)) :
    Calls Try.prog 16 #[v, vo] w (Ret w (.bool (keepsB (aftsOf l) o))) := by
  obtain ⟨a, c, rfl, g1, g2, g3, g4⟩ := id h.rd
  have hlen : l.length ≤ 9223372036854775807 := by unfold maxLen at g2; omega
  clear g1 g2 g3 g4
  obtain ⟨ao, co, rfl, g1, g2, g3, g4⟩ := id ho
  have holen : o.length ≤ 9223372036854775807 := by unfold maxLen at g2; omega
  clear g1 g2 g3 g4
  obtain ⟨A, hA⟩ : ∃ A, A = aftsOf l := ⟨_, rfl⟩
  have hAl : A.length = l.length := by rw [hA]; exact aftsOf_len l
  have HC := Lib.hid (deps_check _ l w S h)
  rw [← hA] at HC ⊢
  have H := Lib.hid h; clear h
  have HO := Lib.hid ho; clear ho
  have HAL := Lib.hid hAl; clear hAl
  have HA := Lib.hid hA; clear hA
  obtain ⟨cc, hc⟩ : ∃ cc, chk A = cc := ⟨_, rfl⟩
  rw [hc] at HC
  have HCC := Lib.hid hc; clear hc
  obtain ⟨res, hres⟩ : ∃ res, keepsB A o = res := ⟨_, rfl⟩
  rw [hres]
  have HR := Lib.hid hres; clear hres
  by_cases h0 : cc = 0
  · subst h0
    obtain ⟨z1, z2, z3⟩ := chk_zero HCC.out
    have HZ := Lib.hid z2
    rw [HAL.out] at z1
    clear z2 z3
    by_cases hl : o.length = l.length
    · obtain ⟨m, hm⟩ : ∃ m, m = o.length := ⟨_, rfl⟩
      have hml : m = l.length := hm.trans hl
      have HM := Lib.hid hm
      rw [← hm] at HO holen ⊢
      have hR2 : keepG A [] o = res := by rw [← HR.out]; unfold keepsB; simp [HCC.out, HAL.out, hl]
      have HR2 := Lib.hid hR2
      clear hR2 hl hm holen
      obtain ⟨c2, hc2⟩ : ∃ c2, c2 = c := ⟨_, rfl⟩
      rw [← hml] at H HC hlen z1 HAL ⊢
      have HML := Lib.hid hml
      clear hml hc2
      go_enter Try.func16, Try.ntmps16
      go_wp2_with fail
      refine HC.out.mono ?_
      rintro e w1 ⟨rfl, hk⟩
      have HK := Lib.hid hk; clear hk
      go_wp2_with fail
      go_loopg [5, 20] m (fun g v5 v20 wr => LoopKeep w1 A o g v5 v20 wr)
      case atStart => exact ⟨0, [], HM.out, rfl, rfl, rfl, Keep.refl _ _⟩
      case round =>
        obtain ⟨k, done, hgk, rfl, rfl, hkg, hkp⟩ := hrel
        have hkl : k ≤ m := by have := HM.out; omega
        have HGK := Lib.hid hgk; clear hgk
        have HKG := Lib.hid hkg; clear hkg
        have HQ := Lib.hid hkp; clear hkp
        have HW := Lib.hid (HK.out.trans HQ.out (fun _ f => f.elim))
        by_cases hlt : k < m
        · obtain ⟨x, hx⟩ : ∃ x, o[k]? = some x := ⟨_, List.getElem?_eq_getElem (by rw [← HM.out]; exact hlt)⟩
          obtain ⟨bo, oo, ⟨c', hv⟩, _, hcx⟩ := (HO.out.keep HW.out (fun _ _ f => f)).int hx
          injection hv with hv1 hv2 hv3
          subst hv1; subst hv3
          have HD := Lib.hid (show o.drop k = x :: o.drop (k + 1) by
            rw [List.drop_eq_getElem_cons (by rw [← HM.out]; exact hlt)]
            congr 1
            have := List.getElem?_eq_some_iff.1 hx
            exact this.2)
          clear hx
          by_cases hx0 : x < 0
          · have HF := Lib.hid (show res = false by rw [← HR2.out, ← HKG.out, HD.out]; exact keepG_false (.inl hx0))
            go_wp2_with fail
            go_ret
            exact ⟨by rw [HF.out]; rfl, HW.out⟩
          · by_cases hxn : (m : Int) ≤ x
            · have HF := Lib.hid (show res = false by rw [← HR2.out, ← HKG.out, HD.out]; exact keepG_false (.inr (.inl (by rw [HAL.out]; exact hxn))))
              go_wp2_with fail
              go_ret
              exact ⟨by rw [HF.out]; rfl, HW.out⟩
            · obtain ⟨j, rfl⟩ : ∃ j : Nat, x = j := ⟨x.toNat, by omega⟩
              have hjm : j < m := by omega
              obtain ⟨y, hy⟩ : ∃ y, l[j]? = some y := ⟨_, List.getElem?_eq_getElem (by rw [← HML.out]; exact hjm)⟩
              obtain ⟨by', oy, he, _, hco⟩ := (H.out.keep0 HW.out).rd.elem (cells := SysV.cells) (size := 8) (fun _ => rfl) (by decide) hy
              subst he
              obtain ⟨hyn, hyr⟩ := (H.out.keep0 HW.out).af y (List.mem_of_getElem? hy)
              have hyl := aftOf_get hy
              rw [← HA.out] at hyl
              have HXV : Hid (∀ z, z ∈ y.aft → 0 ≤ z ∧ z < 64) := Lib.hid (fun z hz => by
                have := okA HZ.out j (by rw [HAL.out]; exact hjm) z (by rw [hyl]; exact hz)
                have := HAL.out
                omega)
              have hc7 := hco 7 (by decide)
              simp [SysV.cells, SlV.v] at hc7
              clear hco hy
              unfold SlV.v at hyr
              rw [hyn] at hc7 hyr
              have HYR := Lib.hid hyr; clear hyr hyn
              have HHAS := Lib.hid (has_nats (done := done) (i := j) (by omega))
              have HNOT := Lib.hid (not_nats (done := done) HXV.out)
              have HFR := Lib.hid (show freeAt A done j = (!done.contains j && y.aft.all (fun z => done.any (fun q => (q : Int) == z))) by unfold freeAt; rw [hyl])
              clear hyl
              obtain ⟨hb, hhb⟩ : ∃ hb, done.contains j = hb := ⟨_, rfl⟩
              rw [hhb] at HHAS HFR
              clear hhb
              go_wp2_with fail
              refine (bits_has _ (allW_lt _) _ _).mono ?_
              rw [HHAS.out]
              rintro e wh ⟨rfl, rfl⟩
              cases hb
              · obtain ⟨ab, hab⟩ : ∃ ab, (y.aft.all (fun z => done.any (fun q => (q : Int) == z))) = ab := ⟨_, rfl⟩
                rw [hab] at HNOT HFR
                clear hab
                go_wp2_with fail
                refine (bits_of _ y.aft _ S HYR.out).mono ?_
                rintro e wh ⟨rfl, rfl⟩
                cases ab
                · have hnot : (bits .andNot .u64 (allW y.aft : Nat) (allW (nats done) : Nat) != 0) = true := by
                    have := HNOT.out
                    simp at this ⊢
                    exact this
                  have HF := Lib.hid (show res = false by rw [← HR2.out, ← HKG.out, HD.out]; exact keepG_false (.inr (.inr HFR.out)))
                  go_wp2_with fail
                  go_ret
                  exact ⟨by rw [HF.out]; rfl, HW.out⟩
                · have hnot : (bits .andNot .u64 (allW y.aft : Nat) (allW (nats done) : Nat) != 0) = false := by
                    have := HNOT.out
                    simp at this ⊢
                    exact this
                  have HAW := Lib.hid (show allW (nats done) ||| allW [(j : Int)] = allW (nats (done ++ [j])) by rw [nats_app, show nats [j] = [(j : Int)] from rfl, allW_snoc]; simp [allW])
                  go_wp2_with fail
                  refine (bits_with _ (allW_lt _) _ [(j : Int)] _ (fun x => x = wr.heap.size) ?rd1).mono ?_
                  case rd1 => exact (Own.lit (S := fun x => x = wr.heap.size) wr 3 1 1 #[.int .i64 j] (by decide) rfl rfl).rd
                  rw [HAW.out]
                  rintro e wh ⟨rfl, rfl⟩
                  go_wp2_with fail
                  go_roundg (m - (k + 1))
                  case measure => have := HGK.out; have := HM.out; omega
                  case rel =>
                    refine ⟨k + 1, done ++ [j], by have := HM.out; omega, by go_num, rfl, ?_, HQ.out.alloc _⟩
                    rw [← HKG.out, HD.out, keepG_true (by omega) (by rw [HAL.out]; omega) HFR.out]
                    rfl
              · have HF := Lib.hid (show res = false by rw [← HR2.out, ← HKG.out, HD.out]; exact keepG_false (.inr (.inr HFR.out)))
                go_wp2_with fail
                go_ret
                exact ⟨by rw [HF.out]; rfl, HW.out⟩
        · have HF := Lib.hid (show res = true by rw [← HR2.out, ← HKG.out, List.drop_of_length_le (by rw [← HM.out]; omega)]; rfl)
          go_wp2_with fail
          go_ret
          exact ⟨by rw [HF.out]; rfl, HW.out⟩
    · have HF := Lib.hid (show res = false by rw [← HR.out]; unfold keepsB; simp [HAL.out, hl])
      have hne : ((o.length : Int) != (l.length : Int)) = true := by simp; omega
      have hne2 : ((o.length : Int) == (l.length : Int)) = false := by simp; omega
      clear hl
      go_enter Try.func16, Try.ntmps16
      go_wp2_with fail
      refine HC.out.mono ?_
      rintro e w1 ⟨rfl, hk⟩
      have HK := Lib.hid hk; clear hk
      go_wp2_with fail
      go_ret
      exact ⟨by rw [HF.out]; rfl, HK.out⟩
  · have HF := Lib.hid (show res = false by rw [← HR.out]; unfold keepsB; simp [HCC.out, h0])
    have h1 : (cc != 0) = true := by simpa using h0
    clear h0
    go_enter Try.func16, Try.ntmps16
    go_wp2_with fail
    refine HC.out.mono ?_
    rintro e w1 ⟨rfl, hk⟩
    have HK := Lib.hid hk; clear hk
    go_wp2_with fail
    go_ret
    exact ⟨by rw [HF.out]; rfl, HK.out⟩
end Go.Proofs.Ytfjamllkjofdbaa
