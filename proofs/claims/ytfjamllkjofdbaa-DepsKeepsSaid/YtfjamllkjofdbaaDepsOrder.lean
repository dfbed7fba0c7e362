/-
  DepsOrder: in which order systems come, and which may not be, is as the document says.
-/
import Derived.Test.YtfjamllkjofdbaaSystems
import Derived.Test.YtfjamllkjofdbaaRefOrder
namespace Go.Proofs.Ytfjamllkjofdbaa
open Go Go.RowKit
set_option linter.unusedVariables false
set_option linter.unusedSimpArgs false

theorem keepG_row {A : List (List Int)} : ∀ (t s : List Nat), Row A (s ++ t) → keepG A s (t.map Int.ofNat) = true
  | [], s, _ => rfl
  | x :: t, s, h => by
    have hx : (s ++ x :: t)[s.length]? = some x := by simp
    have hax := h.ahead s.length x hx
    rw [List.take_left] at hax
    have hxs : x ∉ s := fun hm => by
      have := h.nodup
      rw [List.nodup_append] at this
      exact this.2.2 x hm x (by simp) rfl
    have hf : freeAt A s x = true := freeAt_true.2 ⟨hxs, hax⟩
    have hl := h.lt x (by simp)
    rw [List.map_cons, keepG_true (by simp) (by simpa using hl) (by simpa using hf)]
    exact keepG_row t (s ++ [x]) (by simpa using h)
theorem keeps_ord {A : List (List Int)} (h : chk A = 0) : keepsB A (nats (ord A)) = true := by
  obtain ⟨_, _, h3⟩ := chk_zero h
  unfold keepsB
  rw [nats_len, h3]
  simp only [h, decide_true, Bool.true_and]
  exact keepG_row (ord A) [] (ord_row A)

theorem same_ints' (v v2 : Value) (l : List Int) (m : Nat) (w : World) (S S2 : Nat → Prop) (hm : l.length = m) (h : Rd S w v m (ints l)) (h2 : Rd S2 w v2 m (ints l)) :
    Calls Try.prog 15 #[v, v2] w (Ret w (.bool true)) := by
  subst hm
  exact same_ints v v2 l w S S2 h h2

def LoopDO (w : World) (g : Nat) (v3 : Value) (wr : World) : Prop := ∃ i : Nat, g + i = 2 ∧ i ≤ 2 ∧ v3 = .int .i64 i ∧ Below w.heap.size w wr

set_option maxRecDepth 100000 in
set_option maxHeartbeats 4000000 in
theorem depsOrder_walk (v : Value) (rs : List RowV) (w : World) (S : Nat → Prop) (h : RdRows S w v rs) (hS : ∀ i, S i → i < w.heap.size) :
    Calls Try.prog 5 #[v] w (RetTrue w) := by
  have H := Lib.hid h; clear h
  have HS := Lib.hid hS; clear hS
  go_enter Try.func5, Try.ntmps5
  go_wp2_with fail
  go_loopg [3] 2 (fun g v3 wr => LoopDO w g v3 wr)
  case atStart => exact ⟨0, rfl, by omega, rfl, Below.refl _ _⟩
  case round =>
    obtain ⟨i, hg, hi2, rfl, hb⟩ := hrel
    have HG := Lib.hid hg; clear hg
    have HB := Lib.hid hb; clear hb
    have hsz := HB.out.size
    by_cases hlt : i < 2
    · obtain ⟨tm, htm⟩ : ∃ tm, ((i : Int) == 1) = tm := ⟨_, rfl⟩
      go_wp2_with fail
      clear htm
      refine (systems_any v rs _ _ S (H.out.below HB.out HS.out) (fun z hz => Nat.lt_of_lt_of_le (HS.out z hz) hsz)).mono ?_
      rintro e w2 ⟨a, c, l, S2, rfl, hsys, hS2, hb2, hln⟩
      have HSYS := Lib.hid hsys; clear hsys
      have HS2 := Lib.hid hS2; clear hS2
      have HB2 := Lib.hid (HB.out.trans (hb2.mono hsz)); clear hb2
      have hs2 := HB2.out.size
      obtain ⟨N, hN⟩ : ∃ N, l.length = N := ⟨_, rfl⟩
      rw [hN] at HSYS ⊢
      clear hN hln
      obtain ⟨A, hA⟩ : ∃ A, A = aftsOf l := ⟨_, rfl⟩
      have HO1 := Lib.hid (fun W (hW : RdSys S2 W (.slice a N c) l) => deps_Order (.slice a N c) l W S2 hW)
      have HO2 := Lib.hid (fun W (hW : RdSys S2 W (.slice a N c) l) (h2 : ∀ z, S2 z → z < W.heap.size) => ref_order (.slice a N c) l W S2 hW h2)
      have HO3 := Lib.hid (fun W (hW : RdSys S2 W (.slice a N c) l) => deps_check (.slice a N c) l W S2 hW)
      have HO4 := Lib.hid (fun W vo (o : List Int) (m : Nat) (S3 : Nat → Prop) (hW : RdSys S2 W (.slice a N c) l) (hm : o.length = m) (h3 : Rd S3 W vo m (ints o)) => deps_keeps' (.slice a N c) vo l o m W S2 S3 hW hm h3)
      rw [← hA] at HO1 HO2 HO3 HO4
      clear hA
      obtain ⟨cc, hcc⟩ : ∃ cc, chk A = cc := ⟨_, rfl⟩
      obtain ⟨X, hX⟩ : ∃ X, (if cc = 0 then ord A else []) = X := ⟨_, rfl⟩
      have HCC := Lib.hid hcc
      have HX := Lib.hid hX
      obtain ⟨m, hm⟩ : ∃ m, X.length = m := ⟨_, rfl⟩
      have HM := Lib.hid hm
      clear hcc hX hm
      go_wp2_with fail
      refine (HO1.out _ HSYS.out).mono ?_
      rintro e w3 ⟨a1, n1, c1, rfl, hk3, ho3⟩
      rw [HCC.out] at ho3 ⊢
      rw [HX.out] at ho3
      have hn1 : n1 = m := by have := ho3.len; rw [ints_len, nats_len, HM.out] at this; omega
      subst hn1
      have HR1 := Lib.hid ho3.rd
      have HSYS3 := Lib.hid (HSYS.out.keep0 hk3)
      have HB3 := Lib.hid (HB2.out.trans (hk3.belowAt (B := w.heap.size) (fun z f => f.elim) hs2))
      have hs3 := hk3.size
      clear ho3 hk3
      go_wp2_with fail
      refine (HO2.out _ HSYS3.out (fun z hz => by have := (HS2.out z hz).2; omega)).mono ?_
      rintro e w4 ⟨a2, n2, c2, rfl, hk4, ho4⟩
      rw [HCC.out] at ho4 ⊢
      rw [HX.out] at ho4
      have hn2 : n2 = n1 := by have := ho4.len; rw [ints_len, nats_len, HM.out] at this; omega
      subst hn2
      have HR2 := Lib.hid ho4.rd
      have HR1b := Lib.hid (HR1.out.keep hk4 (fun _ _ f => f))
      have HSYS4 := Lib.hid (HSYS3.out.keep0 hk4)
      have HB4 := Lib.hid (HB3.out.trans (hk4.belowAt (B := w.heap.size) (fun z f => f.elim) HB3.out.size))
      clear ho4 hk4
      go_wp2_with fail
      refine (same_ints' _ _ (nats X) _ _ _ _ (by rw [nats_len, HM.out]) HR1b.out HR2.out).mono ?_
      rintro e w5 ⟨rfl, hk5⟩
      have HSYS5 := Lib.hid (HSYS4.out.keep0 hk5)
      have HR1c := Lib.hid (HR1b.out.keep hk5 (fun _ _ f => f))
      have HB5 := Lib.hid (HB4.out.trans (hk5.belowAt (B := w.heap.size) (fun z f => f.elim) HB4.out.size))
      clear hk5
      go_wp2_with fail
      refine (HO3.out _ HSYS5.out).mono ?_
      rw [HCC.out]
      rintro e w6 ⟨rfl, hk6⟩
      have HSYS6 := Lib.hid (HSYS5.out.keep0 hk6)
      have HR1d := Lib.hid (HR1c.out.keep hk6 (fun _ _ f => f))
      have HB6 := Lib.hid (HB5.out.trans (hk6.belowAt (B := w.heap.size) (fun z f => f.elim) HB5.out.size))
      clear hk6
      by_cases h0 : cc = 0
      · subst h0
        have HKO := Lib.hid (show keepsB A (nats X) = true by rw [← HX.out, if_pos rfl]; exact keeps_ord HCC.out)
        go_wp2_with fail
        refine (HO4.out _ _ (nats X) _ _ HSYS6.out (by rw [nats_len, HM.out]) HR1d.out).mono ?_
        rw [HKO.out]
        rintro e w7 ⟨rfl, hk7⟩
        have HB7 := Lib.hid (HB6.out.trans (hk7.belowAt (B := w.heap.size) (fun z f => f.elim) HB6.out.size))
        clear hk7
        go_wp2_with fail
        go_roundg (2 - (i + 1))
        case measure => have := HG.out; omega
        case rel => exact ⟨i + 1, by omega, by omega, by go_num, HB7.out⟩
      · have h0' : (cc == 0) = false := by simpa using h0
        clear h0
        go_wp2_with fail
        go_roundg (2 - (i + 1))
        case measure => have := HG.out; omega
        case rel => exact ⟨i + 1, by omega, by omega, by go_num, HB6.out⟩
    · go_wp2_with fail
      refine (awake22 _).mono ?_
      rintro e w8 ⟨rfl, hb8⟩
      have HB8 := Lib.hid (HB.out.trans (hb8.mono hsz))
      clear hb8
      go_wp2_with fail
      go_ret
      exact ⟨rfl, HB8.out⟩
end Go.Proofs.Ytfjamllkjofdbaa
