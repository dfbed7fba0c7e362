/-
  Sets of numbers below 64: the words of their four levels; Sets of numbers below 64: Copy.
-/
import Derived.Test.YtkiikblpgppmkaaGreatDoorTlM08
import Derived.Deep.MidRow
namespace Go.Proofs.YtkiikblpgppmkaaGreatDoor
open Go Go.RowKit
set_option linter.unusedVariables false
set_option linter.unusedSimpArgs false

set_option maxHeartbeats 1000000 in
theorem hib_at_1 (b b2 b1 b0 : Nat) (w : World) (k3 : w.cell? ⟨b, 1, none⟩ = some (ptr b2)) (k2 : w.cell? ⟨b2, 1, none⟩ = some (ptr b1)) (k1 : w.cell? ⟨b1, 1, none⟩ = some (ptr b0)) :
    Calls Tryz.prog 200 #[ptr b, .int .i64 0, .int .i64 1] w (RetK w (ptr b1)) := by
  unfold ptr at *
  have HD := Lib.hid (fun (l : Nat) h1 h2 w => hib_digit 0 (by omega) l h1 h2 w)
  have HC := Lib.hid (And.intro k3 (And.intro k2 k1))
  have HK := Lib.hid (Keep.refl w Nope)
  clear k3 k2 k1
  go_enter Tryz.func200, Tryz.ntmps200
  go_wp2_with fail
  refine wp_loop_rounds 4 ?_
  have kc := HK.out.cell HC.out.1 (fun f => f)
  rw [rounds_succ]
  go_wp2_with fail
  refine wp_region_M (r := 8) (S := fun w' => w'.cell? ⟨b, 1, none⟩ = some (.pointer (some ⟨b2, 0, none⟩))) (by kernel_rfl) ?_ (fun hHeld => ?_)
  · (try dsimp only); exact kc
  refine tkP 0 ?_; refine tkP 1 ?_; refine tkP 2 ?_; refine tkP 4 ?_; refine tkP 5 ?_; refine tkC 3 ?_
  intro K hK
  go_simp
  go_wp2_with ((go_at_call 202; refine (HD.out 3 (by omega) (by omega) _).mono ?_; rintro e w' ⟨rfl, rfl⟩))
  refine hK.out _ _ ?_ (fun hHeld => ?_)
  · (try dsimp only); exact kc
  clear hK K
  refine tkP 6 ?_; refine tkH 7 ?_; refine tkF 8 ?_
  intro K hK
  go_simp
  refine hK.out _ _ ?_
  clear hK K
  refine wpAnyM_done (by kernel_rfl) ?_ _
  clear kc hHeld
  go_wp2_with fail
  replace HK := Lib.hid (HK.out.drew)
  have kc := HK.out.cell HC.out.2.1 (fun f => f)
  rw [rounds_succ]
  go_wp2_with fail
  refine wp_region_M (r := 8) (S := fun w' => w'.cell? ⟨b2, 1, none⟩ = some (.pointer (some ⟨b1, 0, none⟩))) (by kernel_rfl) ?_ (fun hHeld => ?_)
  · (try dsimp only); exact kc
  refine tkP 0 ?_; refine tkP 1 ?_; refine tkP 2 ?_; refine tkP 4 ?_; refine tkP 5 ?_; refine tkC 3 ?_
  intro K hK
  go_simp
  go_wp2_with ((go_at_call 202; refine (HD.out 2 (by omega) (by omega) _).mono ?_; rintro e w' ⟨rfl, rfl⟩))
  refine hK.out _ _ ?_ (fun hHeld => ?_)
  · (try dsimp only); exact kc
  clear hK K
  refine tkP 6 ?_; refine tkH 7 ?_; refine tkF 8 ?_
  intro K hK
  go_simp
  refine hK.out _ _ ?_
  clear hK K
  refine wpAnyM_done (by kernel_rfl) ?_ _
  clear kc hHeld
  go_wp2_with fail
  replace HK := Lib.hid (HK.out.drew)
  rw [rounds_succ]
  go_wp2_with fail
  go_ret
  exact ⟨rfl, HK.out⟩
set_option maxHeartbeats 1000000 in
theorem hib_at_2 (b b2 b1 b0 : Nat) (w : World) (k3 : w.cell? ⟨b, 1, none⟩ = some (ptr b2)) (k2 : w.cell? ⟨b2, 1, none⟩ = some (ptr b1)) (k1 : w.cell? ⟨b1, 1, none⟩ = some (ptr b0)) :
    Calls Tryz.prog 200 #[ptr b, .int .i64 0, .int .i64 2] w (RetK w (ptr b2)) := by
  unfold ptr at *
  have HD := Lib.hid (fun (l : Nat) h1 h2 w => hib_digit 0 (by omega) l h1 h2 w)
  have HC := Lib.hid (And.intro k3 (And.intro k2 k1))
  have HK := Lib.hid (Keep.refl w Nope)
  clear k3 k2 k1
  go_enter Tryz.func200, Tryz.ntmps200
  go_wp2_with fail
  refine wp_loop_rounds 4 ?_
  have kc := HK.out.cell HC.out.1 (fun f => f)
  rw [rounds_succ]
  go_wp2_with fail
  refine wp_region_M (r := 8) (S := fun w' => w'.cell? ⟨b, 1, none⟩ = some (.pointer (some ⟨b2, 0, none⟩))) (by kernel_rfl) ?_ (fun hHeld => ?_)
  · (try dsimp only); exact kc
  refine tkP 0 ?_; refine tkP 1 ?_; refine tkP 2 ?_; refine tkP 4 ?_; refine tkP 5 ?_; refine tkC 3 ?_
  intro K hK
  go_simp
  go_wp2_with ((go_at_call 202; refine (HD.out 3 (by omega) (by omega) _).mono ?_; rintro e w' ⟨rfl, rfl⟩))
  refine hK.out _ _ ?_ (fun hHeld => ?_)
  · (try dsimp only); exact kc
  clear hK K
  refine tkP 6 ?_; refine tkH 7 ?_; refine tkF 8 ?_
  intro K hK
  go_simp
  refine hK.out _ _ ?_
  clear hK K
  refine wpAnyM_done (by kernel_rfl) ?_ _
  clear kc hHeld
  go_wp2_with fail
  replace HK := Lib.hid (HK.out.drew)
  rw [rounds_succ]
  go_wp2_with fail
  go_ret
  exact ⟨rfl, HK.out⟩
set_option maxHeartbeats 1000000 in
theorem hib_at_3 (b b2 b1 b0 : Nat) (w : World) (k3 : w.cell? ⟨b, 1, none⟩ = some (ptr b2)) (k2 : w.cell? ⟨b2, 1, none⟩ = some (ptr b1)) (k1 : w.cell? ⟨b1, 1, none⟩ = some (ptr b0)) :
    Calls Tryz.prog 200 #[ptr b, .int .i64 0, .int .i64 3] w (RetK w (ptr b)) := by
  unfold ptr at *
  have HD := Lib.hid (fun (l : Nat) h1 h2 w => hib_digit 0 (by omega) l h1 h2 w)
  have HC := Lib.hid (And.intro k3 (And.intro k2 k1))
  have HK := Lib.hid (Keep.refl w Nope)
  clear k3 k2 k1
  go_enter Tryz.func200, Tryz.ntmps200
  go_wp2_with fail
  refine wp_loop_rounds 4 ?_
  rw [rounds_succ]
  go_wp2_with fail
  go_ret
  exact ⟨rfl, HK.out⟩
theorem hib_at0_1 (b : Nat) (w : World) (k3 : w.cell? ⟨b, 1, none⟩ = some nilV) : Calls Tryz.prog 200 #[ptr b, .int .i64 0, .int .i64 1] w (RetK w nilV) := by
  unfold ptr nilV at *
  have HD := Lib.hid (fun (l : Nat) h1 h2 w => hib_digit 0 (by omega) l h1 h2 w)
  have HC := Lib.hid k3
  have HK := Lib.hid (Keep.refl w Nope)
  clear k3
  go_enter Tryz.func200, Tryz.ntmps200
  go_wp2_with fail
  refine wp_loop_rounds 4 ?_
  have kc := HK.out.cell HC.out (fun f => f)
  rw [rounds_succ]
  go_wp2_with fail
  refine wp_region_M (r := 8) (S := fun w' => w'.cell? ⟨b, 1, none⟩ = some (.pointer none)) (by kernel_rfl) ?_ (fun hHeld => ?_)
  · (try dsimp only); exact kc
  refine tkP 0 ?_; refine tkP 1 ?_; refine tkP 2 ?_; refine tkP 4 ?_; refine tkP 5 ?_; refine tkC 3 ?_
  intro K hK
  go_simp
  go_wp2_with ((go_at_call 202; refine (HD.out 3 (by omega) (by omega) _).mono ?_; rintro e w' ⟨rfl, rfl⟩))
  refine hK.out _ _ ?_ (fun hHeld => ?_)
  · (try dsimp only); exact kc
  clear hK K
  refine tkP 6 ?_; refine tkH 7 ?_; refine tkF 8 ?_
  intro K hK
  go_simp
  refine hK.out _ _ ?_
  clear hK K
  refine wpAnyM_done (by kernel_rfl) ?_ _
  clear kc hHeld
  go_wp2_with fail
  replace HK := Lib.hid (HK.out.drew)
  rw [rounds_succ]
  go_wp2_with fail
  go_ret
  exact ⟨rfl, HK.out⟩
theorem hib_at0_2 (b : Nat) (w : World) (k3 : w.cell? ⟨b, 1, none⟩ = some nilV) : Calls Tryz.prog 200 #[ptr b, .int .i64 0, .int .i64 2] w (RetK w nilV) := by
  unfold ptr nilV at *
  have HD := Lib.hid (fun (l : Nat) h1 h2 w => hib_digit 0 (by omega) l h1 h2 w)
  have HC := Lib.hid k3
  have HK := Lib.hid (Keep.refl w Nope)
  clear k3
  go_enter Tryz.func200, Tryz.ntmps200
  go_wp2_with fail
  refine wp_loop_rounds 4 ?_
  have kc := HK.out.cell HC.out (fun f => f)
  rw [rounds_succ]
  go_wp2_with fail
  refine wp_region_M (r := 8) (S := fun w' => w'.cell? ⟨b, 1, none⟩ = some (.pointer none)) (by kernel_rfl) ?_ (fun hHeld => ?_)
  · (try dsimp only); exact kc
  refine tkP 0 ?_; refine tkP 1 ?_; refine tkP 2 ?_; refine tkP 4 ?_; refine tkP 5 ?_; refine tkC 3 ?_
  intro K hK
  go_simp
  go_wp2_with ((go_at_call 202; refine (HD.out 3 (by omega) (by omega) _).mono ?_; rintro e w' ⟨rfl, rfl⟩))
  refine hK.out _ _ ?_ (fun hHeld => ?_)
  · (try dsimp only); exact kc
  clear hK K
  refine tkP 6 ?_; refine tkH 7 ?_; refine tkF 8 ?_
  intro K hK
  go_simp
  refine hK.out _ _ ?_
  clear hK K
  refine wpAnyM_done (by kernel_rfl) ?_ _
  clear kc hHeld
  go_wp2_with fail
  replace HK := Lib.hid (HK.out.drew)
  rw [rounds_succ]
  go_wp2_with fail
  go_ret
  exact ⟨rfl, HK.out⟩
theorem hib_at0_3 (b : Nat) (w : World) : Calls Tryz.prog 200 #[ptr b, .int .i64 0, .int .i64 3] w (RetK w (ptr b)) := by
  unfold ptr at *
  go_enter Tryz.func200, Tryz.ntmps200
  go_wp2_with fail
  refine wp_loop_rounds 1 ?_
  rw [rounds_succ]
  go_wp2_with fail
  go_ret
  exact ⟨rfl, Keep.refl _ _⟩
/-- The word of a level, at its first place. -/
def wordAt (m l : Nat) : Nat := if l = 0 then m else if m = 0 then 0 else 1
theorem hib_word (b m l : Nat) (hl : l < 4) (w : World) (h : RdHib w b m) :
    Calls Tryz.prog 255 #[ptr b, .int .i64 (l : Nat), .int .i64 0] w (Ret w (.int .u64 (wordAt m l : Nat))) := by
  obtain ⟨hm, ⟨rfl, h⟩ | ⟨h0, ⟨b2, b1, b0⟩, g3, g2, g1, g0⟩⟩ := h
  · have k3 : w.cell? ⟨b, 1, none⟩ = some nilV := by rw [h.cell]; rfl
    have k0 : w.cell? ⟨b, 0, none⟩ = some (.int .u64 0) := by rw [h.cell]; rfl
    have HA0 := Lib.hid (hib_at0 b 0 (by omega) w k3)
    have HA1 := Lib.hid (hib_at0_1 b w k3)
    have HA2 := Lib.hid (hib_at0_2 b w k3)
    have HA3 := Lib.hid (hib_at0_3 b w)
    have HC := Lib.hid k0
    clear h k3 k0 hm
    unfold ptr nilV at *
    obtain rfl | rfl | rfl | rfl : l = 0 ∨ l = 1 ∨ l = 2 ∨ l = 3 := by omega
    · go_enter Tryz.func255, Tryz.ntmps255
      go_wp2_with (go_at_call 200; refine HA0.out.mono ?_; rintro e w' ⟨rfl, hk⟩; have HK := Lib.hid hk; clear hk)
      go_ret
      exact ⟨rfl, HK.out⟩
    · go_enter Tryz.func255, Tryz.ntmps255
      go_wp2_with (go_at_call 200; refine HA1.out.mono ?_; rintro e w' ⟨rfl, hk⟩; have HK := Lib.hid hk; clear hk)
      go_ret
      exact ⟨rfl, HK.out⟩
    · go_enter Tryz.func255, Tryz.ntmps255
      go_wp2_with (go_at_call 200; refine HA2.out.mono ?_; rintro e w' ⟨rfl, hk⟩; have HK := Lib.hid hk; clear hk)
      go_ret
      exact ⟨rfl, HK.out⟩
    · go_enter Tryz.func255, Tryz.ntmps255
      go_wp2_with (go_at_call 200; refine HA3.out.mono ?_; rintro e w' ⟨rfl, hk⟩; have HK := Lib.hid hk; clear hk; have kc := HK.out.cell HC.out (fun f => f))
      go_ret
      exact ⟨rfl, HK.out⟩
  · have k3 : w.cell? ⟨b, 1, none⟩ = some (ptr b2) := by rw [g3.cell]; rfl
    have k2 : w.cell? ⟨b2, 1, none⟩ = some (ptr b1) := by rw [g2.cell]; rfl
    have k1 : w.cell? ⟨b1, 1, none⟩ = some (ptr b0) := by rw [g1.cell]; rfl
    have HA0 := Lib.hid (hib_at b b2 b1 b0 0 (by omega) w k3 k2 k1)
    have HA1 := Lib.hid (hib_at_1 b b2 b1 b0 w k3 k2 k1)
    have HA2 := Lib.hid (hib_at_2 b b2 b1 b0 w k3 k2 k1)
    have HA3 := Lib.hid (hib_at_3 b b2 b1 b0 w k3 k2 k1)
    have HC0 := Lib.hid (show w.cell? ⟨b0, 0, none⟩ = some (.int .u64 (m : Nat)) by rw [g0.cell]; rfl)
    have HC1 := Lib.hid (show w.cell? ⟨b1, 0, none⟩ = some (.int .u64 1) by rw [g1.cell]; rfl)
    have HC2 := Lib.hid (show w.cell? ⟨b2, 0, none⟩ = some (.int .u64 1) by rw [g2.cell]; rfl)
    have HC3 := Lib.hid (show w.cell? ⟨b, 0, none⟩ = some (.int .u64 1) by rw [g3.cell]; rfl)
    have e1 : ∀ l, l ≠ 0 → wordAt m l = 1 := fun l hl => by unfold wordAt; rw [if_neg hl, if_neg h0]
    have HE := Lib.hid e1
    clear g3 g2 g1 g0 k3 k2 k1 hm h0 e1
    unfold ptr at *
    obtain rfl | rfl | rfl | rfl : l = 0 ∨ l = 1 ∨ l = 2 ∨ l = 3 := by omega
    · rw [show wordAt m 0 = m from rfl]
      go_enter Tryz.func255, Tryz.ntmps255
      go_wp2_with (go_at_call 200; refine HA0.out.mono ?_; rintro e w' ⟨rfl, hk⟩; have HK := Lib.hid hk; clear hk; have kc := HK.out.cell HC0.out (fun f => f))
      go_ret
      exact ⟨rfl, HK.out⟩
    · rw [HE.out 1 (by omega)]
      go_enter Tryz.func255, Tryz.ntmps255
      go_wp2_with (go_at_call 200; refine HA1.out.mono ?_; rintro e w' ⟨rfl, hk⟩; have HK := Lib.hid hk; clear hk; have kc := HK.out.cell HC1.out (fun f => f))
      go_ret
      exact ⟨rfl, HK.out⟩
    · rw [HE.out 2 (by omega)]
      go_enter Tryz.func255, Tryz.ntmps255
      go_wp2_with (go_at_call 200; refine HA2.out.mono ?_; rintro e w' ⟨rfl, hk⟩; have HK := Lib.hid hk; clear hk; have kc := HK.out.cell HC2.out (fun f => f))
      go_ret
      exact ⟨rfl, HK.out⟩
    · rw [HE.out 3 (by omega)]
      go_enter Tryz.func255, Tryz.ntmps255
      go_wp2_with (go_at_call 200; refine HA3.out.mono ?_; rintro e w' ⟨rfl, hk⟩; have HK := Lib.hid hk; clear hk; have kc := HK.out.cell HC3.out (fun f => f))
      go_ret
      exact ⟨rfl, HK.out⟩
end Go.Proofs.YtkiikblpgppmkaaGreatDoor

namespace Go.Proofs.YtkiikblpgppmkaaGreatDoor
open Go Go.RowKit
set_option linter.unusedVariables false
set_option linter.unusedSimpArgs false

theorem run_index_kids (cs : Array Value) (i : Nat) (v : Value) (h : i < 64) (hv : cs[i]? = some v) (h1 : v.oneCell' = true) (w : World) :
    (Instr.index 311 (.agg cs) (.int .i64 (i : Nat))).run Tryz.prog w = .ok v w := by
  have hn : (0 : Int) ≤ i ∧ (i : Int) < 64 := by omega
  simp [Instr.index, run_underlying Tryz.underlying311, asIntOf, hn, go_sem, hv, h1]
  intro hle
  omega
/-- A node's copy, and those of the nodes below it, each new, each behind the one above. -/
def CopyR : Nat → Nat → Nat → World → Nat → Prop
  | 0, m, lo, w, n => Blk w n (nodeCs m nilV) 313 ∧ lo ≤ n
  | d + 1, m, lo, w, n => lo ≤ n ∧ ∃ n0, n < n0 ∧ Blk w n (nodeCs 1 (ptr n0)) 313 ∧ CopyR d m (n + 1) w n0
theorem CopyR.keep {S : Nat → Prop} {w w' : World} : ∀ {d m lo n : Nat}, CopyR d m lo w n → Keep w w' S → (∀ x, S x → x < lo) → CopyR d m lo w' n
  | 0, m, lo, n, h, hk, hS => ⟨h.1.keep hk (fun hs => by have := hS n hs; have := h.2; omega), h.2⟩
  | d + 1, m, lo, n, ⟨h1, n0, h2, h3, h4⟩, hk, hS => ⟨h1, n0, h2, h3.keep hk (fun hs => by have := hS n hs; omega), h4.keep hk (fun x hx => by have := hS x hx; omega)⟩
theorem CopyR.lo {w : World} : ∀ {d m lo lo' n : Nat}, CopyR d m lo w n → lo' ≤ lo → CopyR d m lo' w n
  | 0, m, lo, lo', n, h, hl => ⟨h.1, by have := h.2; omega⟩
  | d + 1, m, lo, lo', n, ⟨h1, h2⟩, hl => ⟨by omega, h2⟩
def kidsL (k : Value) : List Value := k :: List.replicate 63 nilV
theorem kids_range {w : World} {c x : Nat} {k : Value} (h : Blk w c (nodeCs x k) 313) : w.rangeAt c 1 (kidsL k) := by
  intro j v hv
  rw [h.cell]
  show ((.int .u64 (x : Int) :: kidsL k).toArray)[1 + j]? = some v
  rw [Nat.add_comm, List.getElem?_toArray, List.getElem?_cons_succ]
  exact hv
theorem kids_range_set {w : World} {c x n : Nat} {k : Value} (h : Blk w c (setCs x k n) 316) : w.rangeAt c 1 (kidsL k) := by
  intro j v hv
  have hj : j < 64 := by
    have := (List.getElem?_eq_some_iff.1 hv).1
    simpa [kidsL] using this
  rw [h.cell]
  show ((.int .u64 (x : Int) :: (kidsL k ++ [.int .i64 (n : Int)])).toArray)[1 + j]? = some v
  rw [Nat.add_comm, List.getElem?_toArray, List.getElem?_cons_succ, List.getElem?_append_left (by simp [kidsL]; omega)]
  exact hv
theorem range_keep {w w' : World} {b o : Nat} {cs : List Value} (h : w.rangeAt b o cs) (hk : Keep w w' Nope) : w'.rangeAt b o cs := fun j v hv => hk.cell (h j v hv) (fun f => f)
theorem kids_nil (k : Value) (i : Nat) (hi : i < 64) (h0 : i ≠ 0) : (kidsL k).toArray[i]? = some nilV := by
  obtain ⟨j, rfl⟩ : ∃ j, i = j + 1 := ⟨i - 1, by omega⟩
  rw [List.getElem?_toArray]
  show (List.replicate 63 nilV)[j]? = some nilV
  rw [List.getElem?_replicate, if_pos (by omega)]
def LoopCp0 (w1 : World) (g : Nat) (v16 : Value) (wr : World) : Prop := wr = w1 ∧ ∃ i : Nat, g + i = 64 ∧ v16 = .int .i64 (i : Nat)

set_option maxRecDepth 100000 in
set_option maxHeartbeats 1000000 in
theorem copy_0 (c m : Nat) (w : World) (kc : w.cell? ⟨c, 0, none⟩ = some (.int .u64 (m : Nat))) (hc : w.rangeAt c 1 (kidsL nilV)) :
    Calls Tryz.prog 254 #[ptr c] w (fun e w' => ∃ n, e = .returned (ptr n) ∧ Keep w w' Nope ∧ CopyR 0 m w.heap.size w' n) := by
  have HC := Lib.hid hc
  clear hc
  obtain ⟨KV, hKV⟩ : ∃ KV, (kidsL nilV).toArray = KV := ⟨_, rfl⟩
  have HKV := Lib.hid hKV
  clear hKV
  unfold ptr
  go_enter Tryz.func254, Tryz.ntmps254
  go_wp2_with (first
    | (refine wpList_build rfl 313 _ rfl (by kernel_rfl) ?_; rw [show (Tryz.prog.built _ _).getD #[] = nodeCs m nilV from by kernel_rfl])
    | (refine wpList_load_mid rfl 311 _ rfl c 1 rfl (kidsL nilV) _ (range_keep HC.out ((Keep.refl w Nope).alloc _)) Tryz.underlying311 rfl (by kernel_rfl) ?_; rw [HKV.out]))
  go_loopg [16] 64 (fun g v16 wr => LoopCp0 (w.alloc (.cells (nodeCs m nilV) 313)) g v16 wr)
  case atStart => exact ⟨rfl, 0, rfl, rfl⟩
  case round =>
    obtain ⟨rfl, i, hg, rfl⟩ := hrel
    by_cases hi : i < 64
    · have hv : KV[i]? = some nilV := by
        rw [← HKV.out]
        by_cases e : i = 0
        · subst e; rfl
        · exact kids_nil nilV i hi e
      have hr := run_index_kids KV i nilV hi hv rfl
      unfold nilV at hr
      have HG := Lib.hid hg
      clear hv hg
      go_wp2_with fail
      go_roundg (63 - i)
      case measure => have := HG.out; omega
      case rel => exact ⟨rfl, i + 1, by have := HG.out; omega, by go_num⟩
    · go_wp2_with fail
      go_ret
      exact ⟨w.heap.size, rfl, (Keep.refl _ _).alloc _, Blk.new _ _ _, Nat.le_refl _⟩
/-- What the copy of a node with one kid has come to. -/
def LoopCp (w w1 : World) (d m n : Nat) (g : Nat) (v16 : Value) (wr : World) : Prop := ∃ i : Nat, g + i = 64 ∧ v16 = .int .i64 (i : Nat) ∧ (i = 0 → wr = w1) ∧ (i ≠ 0 → Keep w wr Nope ∧ CopyR (d + 1) m w.heap.size wr n)
set_option maxRecDepth 100000 in
set_option maxHeartbeats 1000000 in
theorem copy_s (c kb d m : Nat) (w : World) (kc : w.cell? ⟨c, 0, none⟩ = some (.int .u64 1)) (hc : w.rangeAt c 1 (kidsL (ptr kb)))
    (HL : ∀ w', Keep w w' Nope → Calls Tryz.prog 254 #[ptr kb] w' (fun e w2 => ∃ n, e = .returned (ptr n) ∧ Keep w' w2 Nope ∧ CopyR d m w'.heap.size w2 n)) :
    Calls Tryz.prog 254 #[ptr c] w (fun e w' => ∃ n, e = .returned (ptr n) ∧ Keep w w' Nope ∧ CopyR (d + 1) m w.heap.size w' n) := by
  have HC := Lib.hid hc
  have HLL := Lib.hid HL
  clear hc HL
  unfold ptr at *
  obtain ⟨KV, hKV⟩ : ∃ KV, (kidsL (.pointer (some ⟨kb, 0, none⟩))).toArray = KV := ⟨_, rfl⟩
  have HKV := Lib.hid hKV
  clear hKV
  go_enter Tryz.func254, Tryz.ntmps254
  go_wp2_with (first
    | (refine wpList_build rfl 313 _ rfl (by kernel_rfl) ?_; rw [show (Tryz.prog.built _ _).getD #[] = nodeCs 1 nilV from by kernel_rfl])
    | (refine wpList_load_mid rfl 311 _ rfl c 1 rfl (kidsL (.pointer (some ⟨kb, 0, none⟩))) _ (range_keep HC.out ((Keep.refl w Nope).alloc _)) Tryz.underlying311 rfl (by kernel_rfl) ?_; rw [HKV.out]))
  go_loopg [16] 64 (fun g v16 wr => LoopCp w (w.alloc (.cells (nodeCs 1 nilV) 313)) d m w.heap.size g v16 wr)
  case atStart => exact ⟨0, rfl, rfl, fun _ => rfl, fun h => absurd rfl h⟩
  case round =>
    obtain ⟨i, hg, rfl, h0, h1⟩ := hrel
    have HG := Lib.hid hg
    clear hg
    by_cases hi : i < 64
    · by_cases e : i = 0
      · subst e
        obtain rfl := h0 rfl
        clear h0 h1
        have hr : ∀ w, (Instr.index 311 (.agg KV) (.int .i64 0)).run Tryz.prog w = .ok (.pointer (some ⟨kb, 0, none⟩)) w := run_index_kids KV 0 (.pointer (some ⟨kb, 0, none⟩)) (by omega) (by rw [← HKV.out]; rfl) rfl
        have HA := Lib.hid (show Keep w (w.alloc (.cells (nodeCs 1 nilV) 313)) Nope from (Keep.refl w Nope).alloc _)
        have HB := Lib.hid (Blk.new w (nodeCs 1 nilV) 313)
        obtain ⟨wA, hwA⟩ : ∃ x, w.alloc (.cells (nodeCs 1 nilV) 313) = x := ⟨_, rfl⟩
        have hsA : wA.heap.size = w.heap.size + 1 := by rw [← hwA]; simp
        rw [hwA] at HA HB ⊢
        clear hwA
        have HSA := Lib.hid hsA
        clear hsA
        go_wp2_with fail
        refine wp_region_M (r := 7) (S := fun w' => True) (by kernel_rfl) ?_ (fun hHeld => ?_)
        · (try dsimp only); (try trivial)
        refine tkP 0 ?_; refine tkP 1 ?_; refine tkP 2 ?_; refine tkP 4 ?_; refine tkP 5 ?_; refine tkC 3 ?_
        intro K hK
        go_simp
        go_wp2_with ((go_at_call 254; (refine (HLL.out _ HA.out.drew).mono ?_; rintro e w2 ⟨n0, rfl, hk2, hr2⟩; have HK2 := Lib.hid ((Keep.refl wA Nope).drew.trans hk2 (fun _ f => f.elim)); have HR2 := Lib.hid (show CopyR d m (w.heap.size + 1) w2 n0 from hr2.lo (Nat.le_of_eq HSA.out.symm)); clear hk2 hr2; have kn : w2.cell? ⟨w.heap.size, 1, none⟩ = some (.pointer none) := (by rw [(HB.out.keep HK2.out (fun f => f)).cell]; rfl); have kf := (HB.out.keep HK2.out (fun f => f)).frozen 1)))
        refine hK.out _ _ ?_ (fun hHeld => ?_)
        · (try dsimp only); (try trivial)
        clear hK K
        refine tkP 6 ?_; refine tkF 7 ?_
        intro K hK
        go_simp
        refine hK.out _ _ ?_
        clear hK K
        refine wpAnyM_done (by kernel_rfl) ?_ _
        clear kn kf
        go_wp2_with fail
        go_roundg 63
        case measure => have := HG.out; omega
        case rel =>
          have hb := (HB.out.keep HK2.out (fun f => f)).setCell 1 (.pointer (some ⟨n0, 0, none⟩))
          have hl : ∀ d m lo w n, CopyR d m lo w n → lo ≤ n := fun d m lo w n h => by cases d; exact h.2; exact h.1
          have hn := hl _ _ _ _ _ HR2.out
          refine ⟨1, by have := HG.out; omega, by go_num, fun h => by omega, fun _ => ⟨?_, Nat.le_refl _, n0, by omega, hb, ?_⟩⟩
          · exact ((HA.out.trans HK2.out (fun _ f => f.elim)).setCell (p := ⟨w.heap.size, 1, none⟩) (.inr (Nat.le_refl _)) _)
          · exact HR2.out.keep (((Keep.refl w2 (fun x => x = w.heap.size)).setCell (p := ⟨w.heap.size, 1, none⟩) (.inl rfl) (.pointer (some ⟨n0, 0, none⟩)))) (fun x hx => by omega)
      · have HR := Lib.hid (h1 e)
        clear h0 h1
        have hr := run_index_kids KV i nilV hi (by rw [← HKV.out]; exact kids_nil _ i hi e) rfl
        unfold nilV at hr
        go_wp2_with fail
        go_roundg (63 - i)
        case measure => have := HG.out; omega
        case rel => exact ⟨i + 1, by have := HG.out; omega, by go_num, fun h => by omega, fun _ => HR.out⟩
    · have HR := Lib.hid (h1 (by omega))
      clear h0 h1
      go_wp2_with fail
      go_ret
      exact ⟨w.heap.size, rfl, HR.out.1, HR.out.2⟩
set_option maxRecDepth 100000 in
set_option maxHeartbeats 1000000 in
/-- The set's copy, where its top's copy is told. -/
theorem set_copy (b x n : Nat) (w : World) (R : World → Nat → Value → Prop) (hn : w.cell? ⟨b, 65, none⟩ = some (.int .i64 (n : Nat)))
    (HL : ∀ w', Keep w w' Nope → Calls Tryz.prog 254 #[ptr b] w' (fun e w2 => ∃ t k, e = .returned (ptr t) ∧ Keep w' w2 Nope ∧ Blk w2 t (nodeCs x k) 313 ∧ R w2 w'.heap.size k)) :
    Calls Tryz.prog 210 #[ptr b] w (fun e w' => ∃ nb w2 lo k, e = .returned (ptr nb) ∧ w.heap.size ≤ lo ∧ Keep w w2 Nope ∧ R w2 lo k ∧ w2.heap.size ≤ nb ∧ Keep w2 w' Nope ∧ Blk w' nb (setCs x k n) 316) := by
  have HLL := Lib.hid HL
  clear HL
  unfold ptr at *
  go_enter Tryz.func210, Tryz.ntmps210
  go_wp2_with fail
  refine wp_region_M (r := 10) (S := fun w' => w'.cell? ⟨b, 65, none⟩ = some (.int .i64 (n : Nat)) ∧ Keep w w' Nope) (by kernel_rfl) ?_ (fun hHeld => ?_)
  · (try dsimp only); exact ⟨hn, show Keep w _ Nope from (by (repeat (first | exact Keep.refl _ _ | apply Keep.drew | apply Keep.drewN | apply Keep.alloc)))⟩
  refine tkP 0 ?_; refine tkP 1 ?_; refine tkP 2 ?_; refine tkP 6 ?_; refine tkP 7 ?_; refine tkP 8 ?_; refine tkH 9 ?_; refine tkC 3 ?_
  intro K hK
  go_simp
  go_wp2_with ((go_at_call 254; refine (HLL.out _ (show Keep w _ Nope from (by (repeat (first | exact Keep.refl _ _ | apply Keep.drew | apply Keep.drewN | apply Keep.alloc))))).mono ?_; rintro e w2 ⟨t, k, rfl, hk2, hb2, hr2⟩; have HK2 := Lib.hid ((Keep.refl w Nope).drew.trans hk2 (fun _ f => f.elim)); have HB2 := Lib.hid hb2; have HR2 := Lib.hid hr2; clear hk2 hb2 hr2))
  refine hK.out _ _ ?_ (fun hHeld => ?_)
  · (try dsimp only); exact ⟨HK2.out.cell hn (fun f => f), HK2.out⟩
  clear hK K
  refine tkP 4 ?_; refine tkC 5 ?_
  intro K hK
  rw [if_pos (by rfl)]
  (refine wp_load_mid 313 _ rfl t 0 rfl (nodeCs x k).toList _ (fun j v hv => by rw [Nat.zero_add, HB2.out.cell, ← Array.getElem?_toList]; exact hv) Tryz.underlying313 rfl (by kernel_rfl) ?_)
  refine hK.out _ _ ?_ (fun hHeld => ?_)
  · (try dsimp only); exact ⟨HK2.out.cell hn (fun f => f), HK2.out⟩
  clear hK K
  (try simp only [List.getElem_toArray, List.getElem_cons_succ, List.getElem_cons_zero, Act.put, List.setIfInBounds_toArray, List.set_cons_zero, List.set_cons_succ])
  refine tkF 10 ?_
  intro K hK
  rw [if_pos (by rfl)]
  (refine wp_build 316 _ rfl (by kernel_rfl) ?_; rw [show (Tryz.prog.built _ _).getD #[] = setCs x k n from by kernel_rfl])
  refine hK.out _ _ ?_
  clear hK K
  (try simp only [List.getElem_toArray, List.getElem_cons_succ, List.getElem_cons_zero, Act.put, List.setIfInBounds_toArray, List.set_cons_zero, List.set_cons_succ])
  refine tkF 11 ?_
  intro K hK
  go_simp
  refine hK.out _ _ ?_
  clear hK K
  refine tkP 12 ?_
  refine wpAnyM_done (by kernel_rfl) ?_ _
  clear hHeld
  go_wp2_with fail
  go_ret
  exact ⟨w2.heap.size, w2, w.drew.heap.size, k, rfl, Nat.le_refl _, HK2.out, HR2.out, Nat.le_refl _, (Keep.refl w2 Nope).alloc _, Blk.new _ _ _⟩
/-- Copy: another set with the same numbers, in new blocks. -/
theorem hib_copy (b m : Nat) (w : World) (h : RdHib w b m) :
    Calls Tryz.prog 210 #[ptr b] w (fun e w' => ∃ nb, e = .returned (ptr nb) ∧ Keep w w' Nope ∧ (hibA nb m).at' w' (New w w')) := by
  obtain ⟨hm, ⟨rfl, h⟩ | ⟨h0, ⟨b2, b1, b0⟩, g3, g2, g1, g0⟩⟩ := h
  · refine (set_copy b 0 0 w (fun _ _ k => k = nilV) (by rw [h.cell]; rfl) (fun w1 k1 => ?_)).mono ?_
    · have h1 := h.keep k1 (fun f => f)
      refine (copy_0 b 0 w1 (by rw [h1.cell]; rfl) (kids_range_set h1)).mono ?_
      rintro e w2 ⟨n, rfl, hk, hr⟩
      exact ⟨n, nilV, rfl, hk, hr.1, rfl⟩
    · rintro e w' ⟨nb, w2, lo, k, rfl, _, hk2, rfl, hl, hk, hb⟩
      refine ⟨nb, rfl, hk2.trans hk (fun _ f => f.elim), hib_zero.2 ⟨hb, Nat.le_trans hk2.size hl, hb.lt⟩⟩
  · refine (set_copy b 1 (pop m) w (fun w2 lo k => ∃ n2, k = ptr n2 ∧ CopyR 2 m lo w2 n2) (by rw [g3.cell]; rfl) (fun w1 k1 => ?_)).mono ?_
    · have q3 := g3.keep k1 (fun f => f)
      refine (copy_s b b2 2 m w1 (by rw [q3.cell]; rfl) (kids_range_set q3) (fun w2 k2 => ?_)).mono ?_
      · have q2 := (g2.keep k1 (fun f => f)).keep k2 (fun f => f)
        refine copy_s b2 b1 1 m w2 (by rw [q2.cell]; rfl) (kids_range q2) (fun w3 k3 => ?_)
        have q1 := ((g1.keep k1 (fun f => f)).keep k2 (fun f => f)).keep k3 (fun f => f)
        refine copy_s b1 b0 0 m w3 (by rw [q1.cell]; rfl) (kids_range q1) (fun w4 k4 => ?_)
        have q0 := (((g0.keep k1 (fun f => f)).keep k2 (fun f => f)).keep k3 (fun f => f)).keep k4 (fun f => f)
        exact copy_0 b0 m w4 (by rw [q0.cell]; rfl) (kids_range q0)
      · rintro e w2 ⟨n, rfl, hk, hlo, n0, hn, hb, hr⟩
        exact ⟨n, _, rfl, hk, hb, n0, rfl, hr.lo (by omega)⟩
    · rintro e w' ⟨nb, w2, lo, k, rfl, hlo, hk2, ⟨n2, rfl, hr⟩, hl, hk, hb⟩
      obtain ⟨p2, n1, l1, r2, p1, n0, l0, r1, r0, p0⟩ := hr.keep hk (fun _ f => f.elim)
      refine ⟨nb, rfl, hk2.trans hk (fun _ f => f.elim), hib_mk (c := ⟨n2, n1, n0⟩) h0 hb r2 r1 r0 (by simp; omega) (by simp; omega) (by simp; omega) ⟨Nat.le_trans hk2.size hl, hb.lt⟩ ⟨Nat.le_trans hlo p2, r2.lt⟩ ⟨by simp; omega, r1.lt⟩ ⟨by simp; omega, r0.lt⟩⟩
end Go.Proofs.YtkiikblpgppmkaaGreatDoor
