/-
  The laws of package vivariumlaw13, walked: each answers true, whatever comes in.
-/
import Derived.Test.YtnadfefjmoibeaaRes
namespace Go.Proofs.Ytnadfefjmoibeaa
open Go Go.RowKit

set_option maxHeartbeats 400000 in
theorem awake13 (w : World) : Calls Try.prog 10 #[] w (RetTrue w) := by
  go_enter Try.func10, Try.ntmps10
  go_wp2_with fail
  refine (res_new _ [5, 6] _ (fun i => w.heap.size ≤ i) (Own.lit w _ 1 2 #[.int .i64 5, .int .i64 6] (by decide) rfl (Nat.le_refl _)).rd).mono ?_
  rintro e w1 ⟨b, rfl, hr, hk⟩
  have HR := Lib.hid hr; clear hr
  have HK := Lib.hid hk; clear hk
  go_wp2_with fail
  refine (res_get _ b [5, 6] 1 6 _ HR.out rfl).mono ?_
  rintro e w2 ⟨rfl, rfl⟩
  go_wp2_with fail
  refine (res_get_out _ b [5, 6] 2 _ HR.out (by decide)).mono ?_
  rintro e w2 ⟨rfl, rfl⟩
  go_wp2_with fail
  refine (res_len _ b [5, 6] _ HR.out).mono ?_
  rintro e w2 ⟨rfl, rfl⟩
  go_wp2_with fail
  go_ret
  exact ⟨rfl, ((Keep.alloc (Keep.refl w _) _).trans HK.out (fun i h => .inl h)).below⟩

set_option maxHeartbeats 400000 in
theorem resLent_walk (v : Value) (l : List Int) (at' : Int) (w : World) (S : Nat → Prop) (h : Rd S w v l.length (i64s l)) (hS : ∀ i, S i → i < w.heap.size) :
    Calls Try.prog 3 #[v, .int .i64 at'] w (RetTrue w) := by
  obtain ⟨a, c, rfl, h1, h2, h3, h4⟩ := id h
  have hlen : l.length ≤ 9223372036854775807 := by unfold maxLen at h2; omega
  clear h4 h3 h2 h1
  have H := Lib.hid h; clear h
  by_cases h0 : l.length = 0 ∨ 32 < l.length
  · have hd : (((l.length : Int) == 0) || decide (32 < (l.length : Int))) = true := by
      rcases h0 with h0 | h0
      · simp [List.eq_nil_of_length_eq_zero h0]
      · simp; omega
    go_enter Try.func3, Try.ntmps3
    go_wp2_with fail
    all_goals
      refine (awake13 _).mono ?_
      rintro e w1 ⟨rfl, hk⟩
      have HK := Lib.hid hk; clear hk
      go_wp2_with fail
      go_ret
      exact ⟨rfl, HK.out⟩
  · have hp : 0 < l.length := by omega
    have hq : l.length ≤ 32 := by omega
    have hz : ((l.length : Int) == 0) = false := beq_eq_false_iff_ne.2 (by omega)
    have hz2 : decide (32 < (l.length : Int)) = false := decide_eq_false (by omega)
    clear h0
    go_enter Try.func3, Try.ntmps3
    go_wp2_with (at_builtin; refine wpList_app (P := Try.prog) sl64 rfl _ _ rfl (S := fun i => w.heap.size ≤ i) (S2 := S) (n := 0) (xs := []) (m := l.length) (news := i64s l) rfl rfl ?hown ?hx ?hl ?h1 ?h2 ?h3 ?_)
    case hown => exact Own.lit w _ 1 0 #[] (Nat.zero_le _) rfl (Nat.le_refl _)
    case hx => exact H.out.alloc _
    case hl => simp [i64s_len]
    case h1 => exact i64s_one l
    case h2 => omega
    case h3 => unfold maxLen; omega
    rintro a' k c' w1 ⟨ho, hnum, hk1, _⟩
    have HO := Lib.hid (ho.mono (T := fun i => w.heap.size ≤ i) (fun i h => h.elim id (fun h => by have := h.1; simp at this; omega))); clear ho
    have HB1 := Lib.hid ((Below.refl w.heap.size w).alloc (Nat.le_refl _) (.cells #[] 2) |>.trans (hk1.belowAt (fun i h => h) (by simp)))
    clear hk1
    obtain rfl : l.length = k := by omega
    clear hnum
    go_wp2_with fail
    refine (res_new _ l _ _ HO.out.rd).mono ?_
    rintro e w2 ⟨b, rfl, hr, hk⟩
    have ht : l.take 32 = l := List.take_of_length_le hq
    rw [ht] at hr
    clear ht
    have hs1 := HB1.out.size
    have HR := Lib.hid hr; clear hr
    have HO2 := Lib.hid (HO.out.keep hk (fun _ _ f => f))
    have HB2 := Lib.hid (HB1.out.trans (hk.belowAt (B := w.heap.size) (fun i h => h.elim) hs1))
    have hgw1 : ∀ g, rowS (.slice a' l.length c') g → g < w1.heap.size := fun g hg => (HO.out.1.lt g hg).2
    clear hk
    obtain ⟨k, hk, hkl⟩ := and_mod at' l.length hp
    obtain ⟨x0, hx0⟩ : ∃ x0, l[k]? = some x0 := ⟨_, List.getElem?_eq_getElem hkl⟩
    have HX := Lib.hid hx0; clear hx0
    obtain ⟨g, rfl, hg1, hg2, hg3, hg4, hg5⟩ := HO2.out.head hp
    have hgw := hgw1 g rfl
    have hx := hg4 k (by omega)
    rw [List.nil_append, get_i64 HX.out] at hx
    have hf := hg3 k
    clear hg3 hg4 hg5 hgw1
    go_wp2_with fail
    have HB3 := Lib.hid (HB2.out.setCell (p := ⟨g, k, none⟩) hg1 (.int .i64 (wrap64 (x0 + 1))))
    have HR3 := Lib.hid (HR.out.keep (Keep.setCell (Keep.refl w2 (fun i => i = g)) (p := ⟨g, k, none⟩) (.inl rfl) (.int .i64 (wrap64 (x0 + 1)))) (fun i h1 h2 => by have := h1.1; omega))
    clear hx hf
    refine (res_all _ b l _ HR3.out).mono ?_
    rintro e w4 ⟨a4, n4, c4, rfl, ho, hk4⟩
    have hn4 := ho.len
    rw [i64s_len, Nat.mul_one] at hn4
    subst hn4
    have hs2 := HB3.out.size
    have HO4 := Lib.hid ho; clear ho
    have HB4 := Lib.hid (HB3.out.trans (hk4.belowAt (B := w.heap.size) (fun i h => h.elim) hs2))
    have HR4 := Lib.hid (HR3.out.keep hk4 (fun _ _ f => f))
    clear hk4
    have HA4 := Lib.hid (H.out.below HB4.out hS)
    obtain ⟨g4, rfl, hg41, hg42, hg43, hg44, hg45⟩ := HO4.out.head hp
    obtain ⟨bl, ol, rfl, hbl, hcl⟩ := HA4.out.at (by rw [i64s_len]; exact hp)
    have hx4 := hg44 k (by omega)
    have hxl := hcl k (by rw [i64s_len]; exact hkl)
    rw [get_i64 HX.out] at hx4 hxl
    have hf4 := hg43 k
    clear hg43 hg44 hcl
    go_wp2_with fail
    have hz5 : (!((l.length : Int) == (l.length : Int))) = false := by simp
    go_quiet (fail)
    go_wp2_with fail
    obtain ⟨hg46, hg47⟩ := hg41
    simp only [World.size_setCell] at hg46
    have hge : w.heap.size ≤ g4 := by omega
    have HB5 := Lib.hid ((below_drewN HB4.out nq).setCell (p := ⟨g4, k, none⟩) hge (.int .i64 (wrap64 (x0 + 2))))
    have HR5 := Lib.hid (HR4.out.keep (((Keep.refl w4 (fun i => i = g4)).drewN nq).setCell (p := ⟨g4, k, none⟩) (.inl rfl) (.int .i64 (wrap64 (x0 + 2)))) (fun i h1 h2 => by have := h1.2; omega))
    have HA5 := Lib.hid (H.out.below HB5.out hS)
    clear hx4 hxl hf4
    refine (res_get _ b l k x0 _ HR5.out HX.out).mono ?_
    rintro e w6 ⟨rfl, rfl⟩
    obtain ⟨bl', ol', he, hbl', hcl⟩ := HA5.out.at (by rw [i64s_len]; exact hp)
    injection he with he
    injection he with e1 e2
    subst e1; subst e2
    have hxl := hcl k (by rw [i64s_len]; exact hkl)
    rw [get_i64 HX.out] at hxl
    clear hcl
    go_wp2_with fail
    refine (awake13 _).mono ?_
    rintro e w7 ⟨rfl, hk7⟩
    have HB7 := Lib.hid (HB5.out.trans (hk7.mono HB5.out.size))
    clear hk7
    go_wp2_with fail
    go_ret
    exact ⟨rfl, HB7.out⟩
end Go.Proofs.Ytnadfefjmoibeaa
