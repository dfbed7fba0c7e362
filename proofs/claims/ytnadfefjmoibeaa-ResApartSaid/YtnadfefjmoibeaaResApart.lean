/-
  ResApart, walked: what is set at two places is got there, and nothing else has changed.
-/
import Derived.Test.YtnadfefjmoibeaaResLaws
namespace Go.Proofs.Ytnadfefjmoibeaa
open Go Go.RowKit
set_option maxHeartbeats 1000000 in
theorem resApart_walk (v : Value) (l : List Int) (a' b' n m : Int) (w : World) (S : Nat → Prop) (h : Rd S w v l.length (i64s l)) (hS : ∀ i, S i → i < w.heap.size) :
    Calls Try.prog 4 #[v, .int .i64 a', .int .i64 b', .int .i64 n, .int .i64 m] w (RetTrue w) := by
  obtain ⟨a, c, rfl, h1, h2, h3, h4⟩ := id h
  have hlen : l.length ≤ 9223372036854775807 := by unfold maxLen at h2; omega
  clear h4 h3 h2 h1
  have H := Lib.hid h; clear h
  by_cases h0 : l.length < 2 ∨ 32 < l.length
  · have hd : (decide ((l.length : Int) < 2) || decide (32 < (l.length : Int))) = true := by
      rcases h0 with h0 | h0 <;> simp <;> omega
    go_enter Try.func4, Try.ntmps4
    go_wp2_with fail
    all_goals
      refine (awake13 _).mono ?_
      rintro e w1 ⟨rfl, hk⟩
      have HK := Lib.hid hk; clear hk
      go_wp2_with fail
      go_ret
      exact ⟨rfl, HK.out⟩
  · have hp : 2 ≤ l.length := by omega
    have hq : l.length ≤ 32 := by omega
    have hz : decide ((l.length : Int) < 2) = false := decide_eq_false (by omega)
    have hz2 : decide (32 < (l.length : Int)) = false := decide_eq_false (by omega)
    clear h0
    obtain ⟨ka, hka, hkal⟩ := and_mod a' l.length (by omega)
    obtain ⟨kb, hkb, hkbl⟩ := and_mod b' l.length (by omega)
    go_enter Try.func4, Try.ntmps4
    go_wp2_with fail
    refine (res_new _ l _ _ H.out).mono ?_
    rintro e w1 ⟨b, rfl, hr, hk⟩
    have ht : l.take 32 = l := List.take_of_length_le hq
    rw [ht] at hr
    clear ht
    have HR1 := Lib.hid hr; clear hr
    have HB1 := Lib.hid hk.below; clear hk
    go_wp2_with fail
    go_quiet (fail)
    go_wp2_with fail
    have HR1q := Lib.hid (HR1.out.keep ((Keep.refl w1 Nope).drewN nq) (fun _ _ f => f))
    refine (res_set _ b l ka n _ HR1q.out hkal).mono ?_
    rintro e w2 ⟨rfl, hr, hk⟩
    have HB2 := Lib.hid ((below_drewN HB1.out nq).trans (hk.belowAt (B := w.heap.size) (fun i h => h.1) (by simpa using HB1.out.size)))
    clear hk
    have HR2 := Lib.hid hr; clear hr
    go_wp2_with fail
    refine (res_set _ b _ kb m _ HR2.out (by simpa using hkbl)).mono ?_
    rintro e w3 ⟨rfl, hr, hk⟩
    have hs2 := HB2.out.size
    have HB3 := Lib.hid (HB2.out.trans (hk.belowAt (B := w.heap.size) (fun i h => h.elim (fun h => h.1) (fun h => by have := h.1; simp at this; have := HB1.out.size; omega)) hs2))
    clear hk
    have HR3 := Lib.hid hr; clear hr
    have hY : ((l.set ka n).set kb m)[kb]? = some m := by simp [hkbl]
    have HY := Lib.hid hY; clear hY
    have HL : Hid (∀ k : Nat, k < l.length → k ≠ ka → k ≠ kb → ((l.set ka n).set kb m)[k]? = l[k]?) := fun k _ h1 h2 => by
      rw [List.getElem?_set_ne (Ne.symm h2), List.getElem?_set_ne (Ne.symm h1)]
    have hln : ((l.set ka n).set kb m).length = l.length := by simp
    by_cases hab : ka = kb
    · subst hab
      have HX := HY
      obtain ⟨L, hL⟩ : ∃ L, (l.set ka n).set ka m = L := ⟨_, rfl⟩
      rw [hL] at HR3 HX HY hln HL
      have HLn := Lib.hid hln; clear hln hL
      go_wp2_with fail
      refine (res_get _ b _ ka _ _ HR3.out HX.out).mono ?_
      rintro e w4 ⟨rfl, rfl⟩
      go_wp2_with fail
      refine (res_get _ b _ ka _ _ HR3.out HY.out).mono ?_
      rintro e w4 ⟨rfl, rfl⟩
      go_wp2_with fail
      refine (res_all _ b _ _ HR3.out).mono ?_
      rintro e w4 ⟨a4, n4, c4, rfl, ho, hk4⟩
      have hn4 := ho.len
      rw [i64s_len, Nat.mul_one, HLn.out] at hn4
      subst hn4
      have hs3 := HB3.out.size
      have HO4 := Lib.hid ho; clear ho
      have HB4 := Lib.hid (HB3.out.trans (hk4.belowAt (B := w.heap.size) (fun i h => h.elim) hs3))
      clear hk4
      have HA4 := Lib.hid (H.out.below HB4.out hS)
      go_wp2_with fail
      go_loopw [19] (fun i wr => ∃ k q : Nat, k ≤ l.length ∧ i = .int .i64 k ∧ wr = w4.drewN q) (fun i _ => l.length - (intOf i).toNat)
      case atStart => exact ⟨0, 0, Nat.zero_le _, rfl, rfl⟩
      case round =>
        obtain ⟨k, q, hk, rfl, rfl⟩ := hrel
        by_cases hlt : k < l.length
        · by_cases hka' : k = ka
          · subst hka'
            go_wp2_with fail
            go_quiet (fail)
            go_wp2_with fail
            go_roundw
            case rel => exact ⟨k + 1, _, by omega, by go_num, rfl⟩
            case measure => simp [intOf]; omega
          · have hb1 : ((k : Int) != (ka : Int)) = true := by rw [bne_iff_ne]; omega
            obtain ⟨x0, hx0⟩ : ∃ x0, l[k]? = some x0 := ⟨_, List.getElem?_eq_getElem hlt⟩
            obtain ⟨g4, rfl, hg41, hg42, hg43, hg44, hg45⟩ := HO4.out.head (by omega)
            obtain ⟨bl, ol, rfl, hbl, hcl⟩ := HA4.out.at (by rw [i64s_len]; omega)
            have hx4 := hg44 k (by omega)
            have hxl := hcl k (by rw [i64s_len]; exact hlt)
            rw [get_i64 hx0] at hxl
            rw [get_i64 (((HL.out) k hlt hka' hka').trans hx0)] at hx4
            clear hg43 hg44 hcl hx0 hg45
            go_wp2_with fail
            go_quiet (fail)
            go_wp2_with fail
            go_roundw
            case rel => exact ⟨k + 1, _, by omega, by go_num, rfl⟩
            case measure => simp [intOf]; omega
        · go_wp2_with fail
          refine (awake13 _).mono ?_
          rintro e w7 ⟨rfl, hk7⟩
          have HB7 := Lib.hid ((below_drewN HB4.out q).trans (hk7.mono (below_drewN HB4.out q).size))
          clear hk7
          go_wp2_with fail
          go_ret
          exact ⟨rfl, HB7.out⟩
    · have hX : ((l.set ka n).set kb m)[ka]? = some n := by rw [List.getElem?_set_ne (Ne.symm hab)]; simp [hkal]
      have HX := Lib.hid hX; clear hX
      have hneq : ((ka : Int) == (kb : Int)) = false := beq_eq_false_iff_ne.2 (by omega)
      obtain ⟨L, hL⟩ : ∃ L, (l.set ka n).set kb m = L := ⟨_, rfl⟩
      rw [hL] at HR3 HX HY hln HL
      have HLn := Lib.hid hln; clear hln hL
      go_wp2_with fail
      refine (res_get _ b _ ka _ _ HR3.out HX.out).mono ?_
      rintro e w4 ⟨rfl, rfl⟩
      go_wp2_with fail
      refine (res_get _ b _ kb _ _ HR3.out HY.out).mono ?_
      rintro e w4 ⟨rfl, rfl⟩
      go_wp2_with fail
      refine (res_all _ b _ _ HR3.out).mono ?_
      rintro e w4 ⟨a4, n4, c4, rfl, ho, hk4⟩
      have hn4 := ho.len
      rw [i64s_len, Nat.mul_one, HLn.out] at hn4
      subst hn4
      have hs3 := HB3.out.size
      have HO4 := Lib.hid ho; clear ho
      have HB4 := Lib.hid (HB3.out.trans (hk4.belowAt (B := w.heap.size) (fun i h => h.elim) hs3))
      clear hk4
      have HA4 := Lib.hid (H.out.below HB4.out hS)
      go_wp2_with fail
      go_loopw [19] (fun i wr => ∃ k q : Nat, k ≤ l.length ∧ i = .int .i64 k ∧ wr = w4.drewN q) (fun i _ => l.length - (intOf i).toNat)
      case atStart => exact ⟨0, 0, Nat.zero_le _, rfl, rfl⟩
      case round =>
        obtain ⟨k, q, hk, rfl, rfl⟩ := hrel
        by_cases hlt : k < l.length
        · by_cases hka' : k = ka
          · subst hka'
            go_wp2_with fail
            go_quiet (fail)
            go_wp2_with fail
            go_roundw
            case rel => exact ⟨k + 1, _, by omega, by go_num, rfl⟩
            case measure => simp [intOf]; omega
          · have hb1 : ((k : Int) != (ka : Int)) = true := by rw [bne_iff_ne]; omega
            by_cases hkb' : k = kb
            · subst hkb'
              go_wp2_with fail
              go_quiet (fail)
              go_wp2_with fail
              go_roundw
              case rel => exact ⟨k + 1, _, by omega, by go_num, rfl⟩
              case measure => simp [intOf]; omega
            · have hb2 : ((k : Int) != (kb : Int)) = true := by rw [bne_iff_ne]; omega
              obtain ⟨x0, hx0⟩ : ∃ x0, l[k]? = some x0 := ⟨_, List.getElem?_eq_getElem hlt⟩
              obtain ⟨g4, rfl, hg41, hg42, hg43, hg44, hg45⟩ := HO4.out.head (by omega)
              obtain ⟨bl, ol, rfl, hbl, hcl⟩ := HA4.out.at (by rw [i64s_len]; omega)
              have hx4 := hg44 k (by omega)
              have hxl := hcl k (by rw [i64s_len]; exact hlt)
              rw [get_i64 hx0] at hxl
              rw [get_i64 (((HL.out) k hlt hka' hkb').trans hx0)] at hx4
              clear hg43 hg44 hcl hx0 hg45
              go_wp2_with fail
              go_quiet (fail)
              go_wp2_with fail
              go_roundw
              case rel => exact ⟨k + 1, _, by omega, by go_num, rfl⟩
              case measure => simp [intOf]; omega
        · go_wp2_with fail
          refine (awake13 _).mono ?_
          rintro e w7 ⟨rfl, hk7⟩
          have HB7 := Lib.hid ((below_drewN HB4.out q).trans (hk7.mono (below_drewN HB4.out q).size))
          clear hk7
          go_wp2_with fail
          go_ret
          exact ⟨rfl, HB7.out⟩
end Go.Proofs.Ytnadfefjmoibeaa
