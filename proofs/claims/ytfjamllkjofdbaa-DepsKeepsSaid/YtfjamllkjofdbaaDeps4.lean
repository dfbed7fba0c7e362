/-
  The package deps: who is ahead of whom.
-/
import Derived.Test.YtfjamllkjofdbaaDeps3
namespace Go.Proofs.Ytfjamllkjofdbaa
open Go Go.RowKit
set_option linter.unusedVariables false
set_option linter.unusedSimpArgs false

theorem bits_and_zero (a b : Nat) (ha : a < 2 ^ 64) (hb : b < 2 ^ 64) : bits .and .u64 (a : Int) (b : Int) = 0 ↔ ∀ k, a.testBit k = true → b.testBit k = false := by
  rw [bits_and a b ha hb]
  rw [show (((a &&& b : Nat) : Int) = 0) = (a &&& b = 0) by simp]
  constructor
  · intro h k hk
    have := congrArg (fun n => n.testBit k) h
    simpa [hk] using this
  · intro h
    apply Nat.eq_of_testBit_eq
    intro k
    rw [Nat.testBit_and]
    cases h4 : a.testBit k
    · simp
    · simp [h k h4]
theorem any_nats {b : List Nat} {l : List Int} (hl : ∀ x, x ∈ l → 0 ≤ x ∧ x < 64) : (bits .and .u64 (allW l : Nat) (allW (nats b) : Nat) == 0) = !l.any (fun x => b.any (fun k => (k : Int) == x)) := by
  rw [Bool.eq_iff_iff, beq_iff_eq, bits_and_zero _ _ (allW_lt _) (allW_lt _)]
  simp only [decide_eq_true_iff, decide_eq_false_iff_not, bit_all, Bool.not_eq_true', List.any_eq_false]
  constructor
  · intro h x hx
    obtain ⟨h0, h1⟩ := hl x hx
    have := h x.toNat ⟨by rw [Int.toNat_of_nonneg h0]; exact hx, by omega⟩
    intro hb
    apply this
    obtain ⟨k, hk, e⟩ := List.any_eq_true.1 hb
    exact ⟨by rw [Int.toNat_of_nonneg h0]; exact mem_nats.2 ⟨k, hk, by simpa using e⟩, by omega⟩
  · intro h k hk hb
    apply h _ hk.1
    obtain ⟨j, hj, e⟩ := mem_nats.1 hb.1
    exact List.any_eq_true.2 ⟨j, hj, by simpa using e⟩

def LoopBeh (w1 : World) (A : List (List Int)) (i m : Nat) (g : Nat) (v7 v39 : Value) (wr : World) : Prop :=
  ∃ (k : Nat) (b : List Nat), g + k = m ∧ v39 = .int .i64 k ∧ v7 = .int .u64 (allW (nats b) : Nat) ∧ behG A b ((ord A).drop k) = behG A [i] (ord A) ∧ Keep w1 wr Nope

set_option maxRecDepth 100000 in
set_option maxHeartbeats 2000000 in
theorem deps_ahead (v : Value) (l : List SysV) (i k : Int) (w : World) (S : Nat → Prop) (h : RdSys S w v l) (hS : ∀ x, S x → x < w.heap.size) :
    Calls Try.prog 12 #[v, .int .i64 i, .int .i64 k] w (Ret w (.bool (aheadB (aftsOf l) i k))) := by
  obtain ⟨a, c, rfl, g1, g2, g3, g4⟩ := id h.rd
  have hlen : l.length ≤ 9223372036854775807 := by unfold maxLen at g2; omega
  clear g1 g2 g3 g4
  obtain ⟨A, hA⟩ : ∃ A, A = aftsOf l := ⟨_, rfl⟩
  have hAl : A.length = l.length := by rw [hA]; exact aftsOf_len l
  have HC := Lib.hid (deps_check _ l w S h)
  rw [← hA] at HC ⊢
  have H := Lib.hid h; clear h
  have HAL := Lib.hid hAl; clear hAl
  have HA := Lib.hid hA; clear hA
  obtain ⟨cc, hc⟩ : ∃ cc, chk A = cc := ⟨_, rfl⟩
  rw [hc] at HC
  have HCC := Lib.hid hc; clear hc
  obtain ⟨res, hres⟩ : ∃ res, aheadB A i k = res := ⟨_, rfl⟩
  rw [hres]
  have HR := Lib.hid hres; clear hres
  by_cases h0 : cc = 0
  · subst h0
    obtain ⟨z1, z2, z3⟩ := chk_zero HCC.out
    have HZ := Lib.hid z2
    have HZ3 := Lib.hid z3
    rw [HAL.out] at z1
    clear z2 z3
    by_cases hi0 : i < 0
    · have HF := Lib.hid (show res = false by rw [← HR.out]; unfold aheadB; simp [show ¬ 0 ≤ i by omega])
      go_enter Try.func12, Try.ntmps12
      go_wp2_with fail
      refine HC.out.mono ?_
      rintro e w1 ⟨rfl, hk⟩
      have HK := Lib.hid hk; clear hk
      go_wp2_with fail
      go_ret
      exact ⟨by rw [HF.out]; rfl, HK.out⟩
    · by_cases hin : (l.length : Int) ≤ i
      · have HF := Lib.hid (show res = false by rw [← HR.out]; unfold aheadB; simp [HAL.out, show ¬ i < l.length by omega])
        go_enter Try.func12, Try.ntmps12
        go_wp2_with fail
        refine HC.out.mono ?_
        rintro e w1 ⟨rfl, hk⟩
        have HK := Lib.hid hk; clear hk
        go_wp2_with fail
        go_ret
        exact ⟨by rw [HF.out]; rfl, HK.out⟩
      · by_cases hk0 : k < 0
        · have HF := Lib.hid (show res = false by rw [← HR.out]; unfold aheadB; simp [show ¬ 0 ≤ k by omega])
          go_enter Try.func12, Try.ntmps12
          go_wp2_with fail
          refine HC.out.mono ?_
          rintro e w1 ⟨rfl, hk⟩
          have HK := Lib.hid hk; clear hk
          go_wp2_with fail
          go_ret
          exact ⟨by rw [HF.out]; rfl, HK.out⟩
        · by_cases hkn : (l.length : Int) ≤ k
          · have HF := Lib.hid (show res = false by rw [← HR.out]; unfold aheadB; simp [HAL.out, show ¬ k < l.length by omega])
            go_enter Try.func12, Try.ntmps12
            go_wp2_with fail
            refine HC.out.mono ?_
            rintro e w1 ⟨rfl, hk⟩
            have HK := Lib.hid hk; clear hk
            go_wp2_with fail
            go_ret
            exact ⟨by rw [HF.out]; rfl, HK.out⟩
          · obtain ⟨ii, rfl⟩ : ∃ ii : Nat, i = ii := ⟨i.toNat, by omega⟩
            obtain ⟨kk, rfl⟩ : ∃ kk : Nat, k = kk := ⟨k.toNat, by omega⟩
            have hii : ii < l.length := by omega
            have hkk : kk < l.length := by omega
            have HR2 := Lib.hid (show (decide (ii ≠ kk) && (behG A [ii] (ord A)).contains kk) = res by rw [← HR.out]; unfold aheadB; simp [HCC.out, HAL.out, hii, hkk]; rw [show decide ((ii : Int) = kk) = decide (ii = kk) by rw [decide_eq_decide]; omega])
            clear hi0 hin hk0 hkn
            have hi0 : ¬ (ii : Int) < 0 := by omega
            have hk0 : ¬ (kk : Int) < 0 := by omega
            have hin : ¬ (l.length : Int) ≤ ii := by omega
            have hkn : ¬ (l.length : Int) ≤ kk := by omega
            have HAW0 := Lib.hid (show allW [(ii : Int)] = allW (nats [ii]) from rfl)
            go_enter Try.func12, Try.ntmps12
            go_wp2_with fail
            refine HC.out.mono ?_
            rintro e w1 ⟨rfl, hk⟩
            have HK := Lib.hid hk; clear hk
            go_wp2_with fail
            refine (bits_of _ [(ii : Int)] _ (fun x => x = w1.heap.size) ?rd0).mono ?_
            case rd0 => exact (Own.lit (S := fun x => x = w1.heap.size) w1 3 1 1 #[.int .i64 ii] (by decide) rfl rfl).rd
            rw [HAW0.out]
            rintro e wh ⟨rfl, rfl⟩
            have HK1 := Lib.hid (HK.out.alloc (.cells #[.int .i64 (ii : Int)] 3))
            go_wp2_with fail
            refine (deps_order _ l _ S (H.out.keep0 HK1.out) (HA.out ▸ HZ.out) z1).mono ?_
            rintro e w2 ⟨ao, no, co, rfl, hoo, hko⟩
            have hno : no = l.length := by
              have := hoo.len
              rw [ints_len, nats_len, ← HA.out, HZ3.out, HAL.out] at this
              omega
            subst hno
            have HOO := Lib.hid (show Rd (New _ w2) w2 (.slice ao l.length co) l.length (ints (nats (ord A))) from by rw [HA.out]; exact hoo.rd)
            have HK2 := Lib.hid (HK1.out.trans hko (fun _ f => f.elim))
            clear hoo hko
            go_wp2_with fail
            go_loopg [7, 39] l.length (fun g v7 v39 wr => LoopBeh w2 A ii l.length g v7 v39 wr)
            case atStart => exact ⟨0, [ii], rfl, rfl, rfl, rfl, Keep.refl _ _⟩
            case round =>
              obtain ⟨q, b, hgk, rfl, rfl, hbg, hkp⟩ := hrel
              have hql : q ≤ l.length := by omega
              have HGK := Lib.hid hgk; clear hgk
              have HBG := Lib.hid hbg; clear hbg
              have HQ := Lib.hid hkp; clear hkp
              have HW := Lib.hid (HK2.out.trans HQ.out (fun _ f => f.elim))
              by_cases hlt : q < l.length
              · have hqo : q < (ord A).length := by rw [HZ3.out, HAL.out]; exact hlt
                obtain ⟨x, hx⟩ : ∃ x, (ord A)[q]? = some x := ⟨_, List.getElem?_eq_getElem hqo⟩
                have hxl : x < l.length := by rw [← HAL.out]; exact (ord_row A).lt x (List.mem_of_getElem? hx)
                obtain ⟨bo, oo, ⟨c', hv⟩, _, hcx⟩ := (HOO.out.keep HQ.out (fun _ _ f => f)).int (k := q) (x := (x : Int)) (by simp [nats, hx])
                injection hv with hv1 hv2 hv3
                subst hv1; subst hv3
                have HD := Lib.hid (show (ord A).drop q = x :: (ord A).drop (q + 1) by
                  rw [List.drop_eq_getElem_cons hqo]
                  congr 1
                  have := List.getElem?_eq_some_iff.1 hx
                  exact this.2)
                clear hx hqo
                obtain ⟨y, hy⟩ : ∃ y, l[x]? = some y := ⟨_, List.getElem?_eq_getElem hxl⟩
                obtain ⟨by', oy, he, _, hco⟩ := (H.out.keep0 HW.out).rd.elem (cells := SysV.cells) (size := 8) (fun _ => rfl) (by decide) hy
                subst he
                obtain ⟨hyn, hyr⟩ := (H.out.keep0 HW.out).af y (List.mem_of_getElem? hy)
                have hyl := aftOf_get hy
                rw [← HA.out] at hyl
                have HXV : Hid (∀ z, z ∈ y.aft → 0 ≤ z ∧ z < 64) := Lib.hid (fun z hz => by
                  have := okA HZ.out x (by rw [HAL.out]; exact hxl) z (by rw [hyl]; exact hz)
                  have := HAL.out
                  omega)
                have hc7 := hco 7 (by decide)
                simp [SysV.cells, SlV.v] at hc7
                clear hco hy
                unfold SlV.v at hyr
                rw [hyn] at hc7 hyr
                have HYR := Lib.hid hyr; clear hyr hyn
                have HANY := Lib.hid (any_nats (b := b) HXV.out)
                obtain ⟨ab, hab⟩ : ∃ ab, (y.aft.any (fun z => b.any (fun j => (j : Int) == z))) = ab := ⟨_, rfl⟩
                have HB2 := Lib.hid (show behG A b ((ord A).drop q) = if ab = true then behG A (b ++ [x]) ((ord A).drop (q + 1)) else behG A b ((ord A).drop (q + 1)) by rw [HD.out, behG, hyl, hab])
                rw [hab] at HANY
                clear hab hyl
                go_wp2_with fail
                refine (bits_of _ y.aft _ S HYR.out).mono ?_
                rintro e wh ⟨rfl, rfl⟩
                cases ab
                · have hz : (bits .and .u64 (allW y.aft : Nat) (allW (nats b) : Nat) != 0) = false := by
                    have := HANY.out
                    simp at this ⊢
                    exact this
                  go_wp2_with fail
                  go_roundg (l.length - (q + 1))
                  case measure => have := HGK.out; omega
                  case rel => exact ⟨q + 1, b, by omega, by go_num, rfl, by rw [← HBG.out, HB2.out]; rfl, HQ.out⟩
                · have hz : (bits .and .u64 (allW y.aft : Nat) (allW (nats b) : Nat) != 0) = true := by
                    have := HANY.out
                    simp at this ⊢
                    exact this
                  have HAW := Lib.hid (show allW (nats b) ||| allW [(x : Int)] = allW (nats (b ++ [x])) by rw [nats_app, show nats [x] = [(x : Int)] from rfl, allW_snoc]; simp [allW])
                  go_wp2_with fail
                  refine (bits_with _ (allW_lt _) _ [(x : Int)] _ (fun x => x = wr.heap.size) ?rd1).mono ?_
                  case rd1 => exact (Own.lit (S := fun x => x = wr.heap.size) wr 3 1 1 #[.int .i64 x] (by decide) rfl rfl).rd
                  rw [HAW.out]
                  rintro e wh ⟨rfl, rfl⟩
                  go_wp2_with fail
                  go_roundg (l.length - (q + 1))
                  case measure => have := HGK.out; omega
                  case rel => exact ⟨q + 1, b ++ [x], by omega, by go_num, rfl, by rw [← HBG.out, HB2.out]; rfl, HQ.out.alloc _⟩
              · have HB2 := Lib.hid (show behG A [ii] (ord A) = b by rw [← HBG.out, List.drop_of_length_le (by rw [HZ3.out, HAL.out]; omega)]; rfl)
                have HHAS := Lib.hid (has_nats (done := b) (i := kk) (by omega))
                by_cases hne : ii = kk
                · have HF := Lib.hid (show res = false by rw [← HR2.out]; simp [hne])
                  have hne' : ((ii : Int) != (kk : Int)) = false := by simp; omega
                  clear hne
                  go_wp2_with fail
                  go_ret
                  exact ⟨by rw [HF.out]; rfl, HW.out⟩
                · have HF := Lib.hid (show res = b.contains kk by rw [← HR2.out, HB2.out]; simp [hne])
                  have hne' : ((ii : Int) != (kk : Int)) = true := by simp; omega
                  clear hne
                  go_wp2_with fail
                  refine (bits_has _ (allW_lt _) _ _).mono ?_
                  rw [HHAS.out]
                  rintro e wh ⟨rfl, rfl⟩
                  go_wp2_with fail
                  go_ret
                  exact ⟨by rw [HF.out, List.contains_eq_mem]; rfl, HW.out⟩
  · have HF := Lib.hid (show res = false by rw [← HR.out]; unfold aheadB; simp [HCC.out, h0])
    have h1 : (cc != 0) = true := by simpa using h0
    clear h0
    go_enter Try.func12, Try.ntmps12
    go_wp2_with fail
    refine HC.out.mono ?_
    rintro e w1 ⟨rfl, hk⟩
    have HK := Lib.hid hk; clear hk
    go_wp2_with fail
    go_ret
    exact ⟨by rw [HF.out]; rfl, HK.out⟩
end Go.Proofs.Ytfjamllkjofdbaa
