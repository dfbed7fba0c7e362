/-
  Sets of numbers below 64: Add, where some are there; Sets of numbers below 64: Add, where the number is there; Sets of numbers below 64: Add into an empty set; Sets of numbers below 64: Add, as a claim; new claims that stand first.
-/
import Derived.Test.YtkiikblpgppmkaaGreatDoorTlM05
import Derived.Test.YtkiikblpgppmkaaGreatDoorTlM02
namespace Go.Proofs.YtkiikblpgppmkaaGreatDoor
open Go Go.RowKit
set_option linter.unusedVariables false
set_option linter.unusedSimpArgs false

theorem rd_lit1 (w : World) (x : Int) : Rd (fun z => z = w.heap.size) (w.alloc (.cells #[.int .i64 x] 3)) (.slice (some ⟨w.heap.size, 0, none⟩) 1 1) 1 (ints [x]) :=
  (Own.lit (S := fun z => z = w.heap.size) w 3 1 1 #[.int .i64 x] (by decide) rfl rfl).rd
def AddRel (b b2 b1 b0 m : Nat) (F : Nat → Prop) (w : World) (g : Nat) (v6 v7 : Value) (wr : World) : Prop :=
  Keep w wr F ∧ Blk wr b (setCs 1 (.pointer (some ⟨b2, 0, none⟩)) (pop m)) 316 ∧ Blk wr b2 (nodeCs 1 (.pointer (some ⟨b1, 0, none⟩))) 313 ∧ Blk wr b1 (nodeCs 1 (.pointer (some ⟨b0, 0, none⟩))) 313 ∧ Blk wr b0 (nodeCs m nilV) 313 ∧
  ((g = 3 ∧ v6 = .pointer (some ⟨b, 0, none⟩) ∧ v7 = .int .i64 3) ∨ (g = 2 ∧ v6 = .pointer (some ⟨b2, 0, none⟩) ∧ v7 = .int .i64 2) ∨ (g = 1 ∧ v6 = .pointer (some ⟨b1, 0, none⟩) ∧ v7 = .int .i64 1) ∨ (g = 0 ∧ v6 = .pointer (some ⟨b0, 0, none⟩) ∧ v7 = .int .i64 0))
theorem hib_add1 (b b2 b1 b0 m i : Nat) (F : Nat → Prop) (hi : i < 64) (w : World) (hm : m < 2 ^ 64) (h0 : m ≠ 0) (hb : m.testBit i = false)
    (g3 : Blk w b (setCs 1 (.pointer (some ⟨b2, 0, none⟩)) (pop m)) 316) (g2 : Blk w b2 (nodeCs 1 (.pointer (some ⟨b1, 0, none⟩))) 313) (g1 : Blk w b1 (nodeCs 1 (.pointer (some ⟨b0, 0, none⟩))) 313) (g0 : Blk w b0 (nodeCs m nilV) 313)
    (n21 : b2 ≠ b1) (n20 : b2 ≠ b0) (n10 : b1 ≠ b0) (f3 : F b) (f2 : F b2) (f1 : F b1) (f0 : F b0) :
    Calls Tryz.prog 123 #[ptr b, .int .i64 (i : Nat)] w (fun e w' => e = .returned (.tuple #[.bool true, .int .i64 0]) ∧ Keep w w' F ∧
      Blk w' b (setCs 1 (.pointer (some ⟨b2, 0, none⟩)) (pop m + 1)) 316 ∧ Blk w' b2 (nodeCs 1 (.pointer (some ⟨b1, 0, none⟩))) 313 ∧ Blk w' b1 (nodeCs 1 (.pointer (some ⟨b0, 0, none⟩))) 313 ∧ Blk w' b0 (nodeCs (addW m i) nilV) 313) := by
  have HH := Lib.hid (hib_has b m i hi w ⟨hm, .inr ⟨h0, ⟨b2, b1, b0⟩, g3, g2, g1, g0⟩⟩)
  rw [hb] at HH
  have HOK := Lib.hid (hib_ok i hi w)
  have HD := Lib.hid (fun (l : Nat) h1 h2 w => hib_digit i hi l h1 h2 w)
  have HD0 := Lib.hid (hib_digit0 i hi)
  unfold ptr at *
  go_enter Tryz.func123, Tryz.ntmps123
  go_wp2_with (first | (go_at_call 199; refine HOK.out.mono ?_; rintro e w' ⟨rfl, rfl⟩) | (go_at_call 120; refine HH.out.mono ?_; rintro e w1 ⟨rfl, hk⟩; have HK := Lib.hid hk; clear hk))
  go_loopg [6, 7] 3 (fun g v6 v7 wr => AddRel b b2 b1 b0 m F w g v6 v7 wr)
  case atStart => exact ⟨HK.out.mono (fun _ f => f.elim), g3.keep HK.out (fun f => f), g2.keep HK.out (fun f => f), g1.keep HK.out (fun f => f), g0.keep HK.out (fun f => f), .inl ⟨rfl, rfl, rfl⟩⟩
  case round =>
    obtain ⟨hk, q3, q2, q1, q0, ⟨rfl, rfl, rfl⟩ | ⟨rfl, rfl, rfl⟩ | ⟨rfl, rfl, rfl⟩ | ⟨rfl, rfl, rfl⟩⟩ := hrel
    all_goals have HKr := Lib.hid hk; clear hk
    · have ha := (Keep.refl wr Nope).alloc (.cells #[.int .i64 0] 3)
      have kc : wr.cell? ⟨b, 0, none⟩ = some (.int .u64 1) := by rw [q3.cell]; rfl
      have p3 := (q3.keep ha (fun f => f)).setCell 0 (.int .u64 1)
      have p2 := (q2.keep ha (fun f => f)).other (p := ⟨b, 0, none⟩) (fun e => by subst e; exact absurd rfl (Blk.ne q2 q3 (by decide))) (.int .u64 1)
      have p1 := (q1.keep ha (fun f => f)).other (p := ⟨b, 0, none⟩) (fun e => by subst e; exact absurd rfl (Blk.ne q1 q3 (by decide))) (.int .u64 1)
      have p0 := (q0.keep ha (fun f => f)).other (p := ⟨b, 0, none⟩) (fun e => by subst e; exact absurd rfl (Blk.ne q0 q3 (by decide))) (.int .u64 1)
      have kf := (q3.keep ha (fun f => f)).frozen 0
      have ka : (wr.alloc (.cells #[.int .i64 0] 3)).cell? ⟨b, 0, none⟩ = some (.int .u64 1) := by rw [(q3.keep ha (fun f => f)).cell]; rfl
      have k1 : ((wr.alloc (.cells #[.int .i64 0] 3)).setCell ⟨b, 0, none⟩ (.int .u64 1)).cell? ⟨b, 1, none⟩ = some (.pointer (some ⟨b2, 0, none⟩)) := by rw [p3.cell]; rfl
      have HK2 := Lib.hid (HKr.out.trans ((ha.mono (T := F) (fun _ f => f.elim)).setCell (p := ⟨b, 0, none⟩) (.inl f3) (.int .u64 1)) (fun _ f => .inl f))
      have HP := Lib.hid (And.intro p3 (And.intro p2 (And.intro p1 p0)))
      clear p3 p2 p1 p0 q3 q2 q1 q0 ha
      go_wp2_with (first | (go_at_call 202; refine (HD.out 3 (by omega) (by omega) _).mono ?_; rintro e w' ⟨rfl, rfl⟩) | (go_at_call 203; refine (word_with 1 (by decide) 0 (by decide) _ _ _ (rd_lit1 _ 0)).mono ?_; rintro e w' ⟨rfl, rfl⟩; rw [show ((addW 1 0 : Nat) : Int) = 1 from rfl]))
      go_roundg 2
      case measure => omega
      case rel => exact ⟨HK2.out, HP.out.1, HP.out.2.1, HP.out.2.2.1, HP.out.2.2.2, .inr (.inl ⟨rfl, rfl, by go_num⟩)⟩
    · have ha := (Keep.refl wr Nope).alloc (.cells #[.int .i64 0] 3)
      have kc : wr.cell? ⟨b2, 0, none⟩ = some (.int .u64 1) := by rw [q2.cell]; rfl
      have p3 := (q3.keep ha (fun f => f)).other (p := ⟨b2, 0, none⟩) (fun e => by subst e; exact absurd rfl (Blk.ne q3 q2 (by decide))) (.int .u64 1)
      have p2 := (q2.keep ha (fun f => f)).setCell 0 (.int .u64 1)
      have p1 := (q1.keep ha (fun f => f)).other (p := ⟨b2, 0, none⟩) (by first | exact n21 | exact n20 | exact n10 | exact n21.symm | exact n20.symm | exact n10.symm) (.int .u64 1)
      have p0 := (q0.keep ha (fun f => f)).other (p := ⟨b2, 0, none⟩) (by first | exact n21 | exact n20 | exact n10 | exact n21.symm | exact n20.symm | exact n10.symm) (.int .u64 1)
      have kf := (q2.keep ha (fun f => f)).frozen 0
      have ka : (wr.alloc (.cells #[.int .i64 0] 3)).cell? ⟨b2, 0, none⟩ = some (.int .u64 1) := by rw [(q2.keep ha (fun f => f)).cell]; rfl
      have k1 : ((wr.alloc (.cells #[.int .i64 0] 3)).setCell ⟨b2, 0, none⟩ (.int .u64 1)).cell? ⟨b2, 1, none⟩ = some (.pointer (some ⟨b1, 0, none⟩)) := by rw [p2.cell]; rfl
      have HK2 := Lib.hid (HKr.out.trans ((ha.mono (T := F) (fun _ f => f.elim)).setCell (p := ⟨b2, 0, none⟩) (.inl f2) (.int .u64 1)) (fun _ f => .inl f))
      have HP := Lib.hid (And.intro p3 (And.intro p2 (And.intro p1 p0)))
      clear p3 p2 p1 p0 q3 q2 q1 q0 ha
      go_wp2_with (first | (go_at_call 202; refine (HD.out 2 (by omega) (by omega) _).mono ?_; rintro e w' ⟨rfl, rfl⟩) | (go_at_call 203; refine (word_with 1 (by decide) 0 (by decide) _ _ _ (rd_lit1 _ 0)).mono ?_; rintro e w' ⟨rfl, rfl⟩; rw [show ((addW 1 0 : Nat) : Int) = 1 from rfl]))
      go_roundg 1
      case measure => omega
      case rel => exact ⟨HK2.out, HP.out.1, HP.out.2.1, HP.out.2.2.1, HP.out.2.2.2, .inr (.inr (.inl ⟨rfl, rfl, by go_num⟩))⟩
    · have ha := (Keep.refl wr Nope).alloc (.cells #[.int .i64 0] 3)
      have kc : wr.cell? ⟨b1, 0, none⟩ = some (.int .u64 1) := by rw [q1.cell]; rfl
      have p3 := (q3.keep ha (fun f => f)).other (p := ⟨b1, 0, none⟩) (fun e => by subst e; exact absurd rfl (Blk.ne q3 q1 (by decide))) (.int .u64 1)
      have p2 := (q2.keep ha (fun f => f)).other (p := ⟨b1, 0, none⟩) (by first | exact n21 | exact n20 | exact n10 | exact n21.symm | exact n20.symm | exact n10.symm) (.int .u64 1)
      have p1 := (q1.keep ha (fun f => f)).setCell 0 (.int .u64 1)
      have p0 := (q0.keep ha (fun f => f)).other (p := ⟨b1, 0, none⟩) (by first | exact n21 | exact n20 | exact n10 | exact n21.symm | exact n20.symm | exact n10.symm) (.int .u64 1)
      have kf := (q1.keep ha (fun f => f)).frozen 0
      have ka : (wr.alloc (.cells #[.int .i64 0] 3)).cell? ⟨b1, 0, none⟩ = some (.int .u64 1) := by rw [(q1.keep ha (fun f => f)).cell]; rfl
      have k1 : ((wr.alloc (.cells #[.int .i64 0] 3)).setCell ⟨b1, 0, none⟩ (.int .u64 1)).cell? ⟨b1, 1, none⟩ = some (.pointer (some ⟨b0, 0, none⟩)) := by rw [p1.cell]; rfl
      have HK2 := Lib.hid (HKr.out.trans ((ha.mono (T := F) (fun _ f => f.elim)).setCell (p := ⟨b1, 0, none⟩) (.inl f1) (.int .u64 1)) (fun _ f => .inl f))
      have HP := Lib.hid (And.intro p3 (And.intro p2 (And.intro p1 p0)))
      clear p3 p2 p1 p0 q3 q2 q1 q0 ha
      go_wp2_with (first | (go_at_call 202; refine (HD.out 1 (by omega) (by omega) _).mono ?_; rintro e w' ⟨rfl, rfl⟩) | (go_at_call 203; refine (word_with 1 (by decide) 0 (by decide) _ _ _ (rd_lit1 _ 0)).mono ?_; rintro e w' ⟨rfl, rfl⟩; rw [show ((addW 1 0 : Nat) : Int) = 1 from rfl]))
      go_roundg 0
      case measure => omega
      case rel => exact ⟨HK2.out, HP.out.1, HP.out.2.1, HP.out.2.2.1, HP.out.2.2.2, .inr (.inr (.inr (⟨rfl, rfl, by go_num⟩)))⟩
    · have kc : wr.cell? ⟨b0, 0, none⟩ = some (.int .u64 (m : Int)) := by rw [q0.cell]; rfl
      have ha := (Keep.refl wr Nope).alloc (.cells #[.int .i64 (i : Int)] 3)
      have kf := (q0.keep ha (fun f => f)).frozen 0
      have p0 := ((q0.keep ha (fun f => f)).setCell 0 (.int .u64 (addW m i : Nat))).drew
      have p1 := ((q1.keep ha (fun f => f)).other (p := ⟨b0, 0, none⟩) n10 (.int .u64 (addW m i : Nat))).drew
      have p2 := ((q2.keep ha (fun f => f)).other (p := ⟨b0, 0, none⟩) n20 (.int .u64 (addW m i : Nat))).drew
      have p3 := ((q3.keep ha (fun f => f)).other (p := ⟨b0, 0, none⟩) (fun e => by subst e; exact absurd rfl (Blk.ne q0 q3 (by decide))) (.int .u64 (addW m i : Nat))).drew
      have HK2 := Lib.hid (HKr.out.trans (((ha.mono (T := F) (fun _ f => f.elim)).setCell (p := ⟨b0, 0, none⟩) (.inl f0) (.int .u64 (addW m i : Nat))).drew) (fun _ f => .inl f))
      have HP := Lib.hid (And.intro p3 (And.intro p2 (And.intro p1 p0)))
      clear p3 p2 p1 p0 q3 q2 q1 q0 ha
      go_wp2_with fail
      refine wp_region_M (r := 11) (S := fun w' => w'.cell? ⟨b0, 0, none⟩ = some (.int .u64 (m : Int))) (by kernel_rfl) ?_ (fun hHeld => ?_)
      · (try dsimp only); first | exact kc | exact (show Keep wr _ Nope from (by (repeat (first | exact Keep.refl _ _ | apply Keep.drew | apply Keep.drewN | apply Keep.alloc)))).cell kc (fun f => f)
      refine tkP 0 ?_; refine tkP 1 ?_; refine tkP 2 ?_; refine tkP 3 ?_; refine tkH 4 ?_; refine tkP 5 ?_; refine tkC 6 ?_
      intro K hK
      go_simp
      go_wp2_with ((go_at_call 202; refine (HD0.out _).mono ?_; rintro e w' ⟨rfl, rfl⟩))
      refine hK.out _ _ ?_ (fun hHeld => ?_)
      · (try dsimp only); first | exact kc | exact (show Keep wr _ Nope from (by (repeat (first | exact Keep.refl _ _ | apply Keep.drew | apply Keep.drewN | apply Keep.alloc)))).cell kc (fun f => f)
      clear hK K
      refine tkC 7 ?_
      intro K hK
      go_simp
      refine hK.out _ _ ?_ (fun hHeld => ?_)
      · (try dsimp only); first | exact kc | exact (show Keep wr _ Nope from (by (repeat (first | exact Keep.refl _ _ | apply Keep.drew | apply Keep.drewN | apply Keep.alloc)))).cell kc (fun f => f)
      clear hK K
      refine tkC 8 ?_
      intro K hK
      go_simp
      go_wp2_with ((go_at_call 203; refine (word_with m hm i hi _ _ (fun z => z = wr.heap.size) (by first | exact (rd_lit1 _ (i : Int)).drew | exact rd_lit1 _ (i : Int))).mono ?_; rintro e w' ⟨rfl, rfl⟩))
      refine hK.out _ _ ?_ (fun hHeld => ?_)
      · (try dsimp only); first | exact kc | exact (show Keep wr _ Nope from (by (repeat (first | exact Keep.refl _ _ | apply Keep.drew | apply Keep.drewN | apply Keep.alloc)))).cell kc (fun f => f)
      clear hK K
      refine tkP 9 ?_; refine tkP 10 ?_; refine tkF 11 ?_
      intro K hK
      go_simp
      refine hK.out _ _ ?_
      clear hK K
      refine wpAnyM_done (by kernel_rfl) ?_ _
      obtain ⟨w9, hw9⟩ : ∃ w9, ((wr.alloc (.cells #[.int .i64 (i : Int)] 3)).setCell ⟨b0, 0, none⟩ (.int .u64 (addW m i : Nat))).drew = w9 := ⟨_, rfl⟩
      rw [hw9] at HP HK2 ⊢
      clear hw9
      have k65 : w9.cell? ⟨b, 65, none⟩ = some (.int .i64 (pop m : Nat)) := by rw [HP.out.1.cell]; rfl
      have f65 := HP.out.1.frozen 65
      have hpn : pop m ≤ 64 := pop_le m
      go_wp2_with fail
      go_ret2
      refine ⟨rfl, HK2.out.setCell (p := ⟨b, 65, none⟩) (.inl f3) _, ?_, HP.out.2.1.other (p := ⟨b, 65, none⟩) (fun e => by subst e; exact absurd rfl (Blk.ne HP.out.2.1 HP.out.1 (by decide))) _, HP.out.2.2.1.other (p := ⟨b, 65, none⟩) (fun e => by subst e; exact absurd rfl (Blk.ne HP.out.2.2.1 HP.out.1 (by decide))) _, HP.out.2.2.2.other (p := ⟨b, 65, none⟩) (fun e => by subst e; exact absurd rfl (Blk.ne HP.out.2.2.2 HP.out.1 (by decide))) _⟩
      exact HP.out.1.setCell 65 (.int .i64 ((pop m + 1 : Nat) : Int))
end Go.Proofs.YtkiikblpgppmkaaGreatDoor

namespace Go.Proofs.YtkiikblpgppmkaaGreatDoor
open Go Go.RowKit
set_option linter.unusedVariables false
set_option linter.unusedSimpArgs false

theorem hib_add_in (b m i : Nat) (hi : i < 64) (w : World) (h : RdHib w b m) (hb : m.testBit i = true) :
    Calls Tryz.prog 123 #[ptr b, .int .i64 (i : Nat)] w (RetK w (.tuple #[.bool false, .int .i64 0])) := by
  have HH := Lib.hid (hib_has b m i hi w h)
  rw [hb] at HH
  have HOK := Lib.hid (hib_ok i hi w)
  clear h hb
  unfold ptr at *
  go_enter Tryz.func123, Tryz.ntmps123
  go_wp2_with (first | (go_at_call 199; refine HOK.out.mono ?_; rintro e w' ⟨rfl, rfl⟩) | (go_at_call 120; refine HH.out.mono ?_; rintro e w1 ⟨rfl, hk⟩; have HK := Lib.hid hk; clear hk))
  go_ret2
  exact ⟨rfl, HK.out⟩
theorem addW_has {m i : Nat} (hm : m < 2 ^ 64) (h : m.testBit i = true) (hi : i < 64) : addW m i = m := by
  apply word_ext (addW_lt hm hi) hm
  intro k hk
  rw [bit_add]
  by_cases e : k = i
  · rw [e, h]; simp
  · simp [e]
end Go.Proofs.YtkiikblpgppmkaaGreatDoor

namespace Go.Proofs.YtkiikblpgppmkaaGreatDoor
open Go Go.RowKit
set_option linter.unusedVariables false
set_option linter.unusedSimpArgs false

/-- What lies above the node that has been come to. -/
def UpTo (b : Nat) (w wr : World) (g c : Nat) (cs : Array Value) (t : TypeId) : Prop :=
  match g with
  | 3 => c = b ∧ cs = setCs 0 nilV 0 ∧ t = 316
  | 2 => Blk wr b (setCs 1 (ptr c) 0) 316 ∧ w.heap.size ≤ c ∧ cs = nodeCs 0 nilV ∧ t = 313
  | 1 => ∃ b2, Blk wr b (setCs 1 (ptr b2) 0) 316 ∧ Blk wr b2 (nodeCs 1 (ptr c)) 313 ∧ w.heap.size ≤ b2 ∧ b2 < c ∧ cs = nodeCs 0 nilV ∧ t = 313
  | 0 => ∃ b2 b1, Blk wr b (setCs 1 (ptr b2) 0) 316 ∧ Blk wr b2 (nodeCs 1 (ptr b1)) 313 ∧ Blk wr b1 (nodeCs 1 (ptr c)) 313 ∧ w.heap.size ≤ b2 ∧ b2 < b1 ∧ b1 < c ∧ cs = nodeCs 0 nilV ∧ t = 313
  | _ => False
/-- One node more. -/
theorem UpTo.down {b : Nat} {w wr w' : World} {g c n : Nat} {cs : Array Value} {t : TypeId} (h : UpTo b w wr (g + 1) c cs t) (hb : b < w.heap.size) (hw : w.heap.size ≤ wr.heap.size) (hk : Keep wr w' (fun x => x = c)) (hc : c < wr.heap.size) (hn : wr.heap.size ≤ n)
    (hq : Blk w' c ((cs.setIfInBounds 0 (.int .u64 1)).setIfInBounds 1 (ptr n)) t) : UpTo b w w' g n (nodeCs 0 nilV) 313 := by
  match g with
  | 0 =>
    obtain ⟨b2, h1, h2, h3, h4, rfl, rfl⟩ := h
    exact ⟨b2, c, h1.keep hk (fun e => by omega), h2.keep hk (fun e => by omega), hq, h3, h4, by omega, rfl, rfl⟩
  | 1 =>
    obtain ⟨h1, h3, rfl, rfl⟩ := h
    exact ⟨c, h1.keep hk (fun e => by omega), hq, h3, by omega, rfl, rfl⟩
  | 2 =>
    obtain ⟨rfl, rfl, rfl⟩ := h
    exact ⟨hq, by omega, rfl, rfl⟩
  | g + 3 => exact h.elim
def MkRel (b : Nat) (w : World) (F : Nat → Prop) (g : Nat) (v6 v7 : Value) (wr : World) : Prop :=
  Keep w wr F ∧ ∃ k c cs t, k = g ∧ k ≤ 3 ∧ v6 = .pointer (some ⟨c, 0, none⟩) ∧ v7 = .int .i64 (k : Nat) ∧ Blk wr c cs t ∧ cs[0]? = some (.int .u64 0) ∧ cs[1]? = some (.pointer none) ∧ (F c ∨ w.heap.size ≤ c) ∧ UpTo b w wr k c cs t
set_option maxHeartbeats 4000000 in
theorem hib_add0 (b i : Nat) (F : Nat → Prop) (hi : i < 64) (w : World) (g3 : Blk w b (setCs 0 nilV 0) 316) (f3 : F b) :
    Calls Tryz.prog 123 #[ptr b, .int .i64 (i : Nat)] w (fun e w' => e = .returned (.tuple #[.bool true, .int .i64 0]) ∧ Keep w w' F ∧ ∃ b2 b1 b0, w.heap.size ≤ b2 ∧ b2 < b1 ∧ b1 < b0 ∧ 
      Blk w' b (setCs 1 (ptr b2) 1) 316 ∧ Blk w' b2 (nodeCs 1 (ptr b1)) 313 ∧ Blk w' b1 (nodeCs 1 (ptr b0)) 313 ∧ Blk w' b0 (nodeCs (addW 0 i) nilV) 313) := by
  have HH := Lib.hid (hib_has b 0 i hi w ⟨by decide, .inl ⟨rfl, g3⟩⟩)
  rw [Nat.zero_testBit] at HH
  have HOK := Lib.hid (hib_ok i hi w)
  have HD := Lib.hid (fun (l : Nat) h1 h2 w => hib_digit i hi l h1 h2 w)
  have HD0 := Lib.hid (hib_digit0 i hi)
  have HLT := Lib.hid g3.lt
  unfold ptr at *
  go_enter Tryz.func123, Tryz.ntmps123
  go_wp2_with (first | (go_at_call 199; refine HOK.out.mono ?_; rintro e w' ⟨rfl, rfl⟩) | (go_at_call 120; refine HH.out.mono ?_; rintro e w1 ⟨rfl, hk⟩; have HK := Lib.hid hk; clear hk))
  go_loopg [6, 7] 3 (fun g v6 v7 wr => MkRel b w F g v6 v7 wr)
  case atStart => exact ⟨HK.out.mono (fun _ f => f.elim), 3, b, _, _, rfl, Nat.le_refl _, rfl, rfl, g3.keep HK.out (fun f => f), rfl, rfl, .inl f3, rfl, rfl, rfl⟩
  case round =>
    obtain ⟨hk, k, c, cs, t, rfl, hg3, rfl, rfl, qc, e0, e1, hF, hup⟩ := hrel
    have HKr := Lib.hid hk; clear hk
    have HUP := Lib.hid hup; clear hup
    have HF := Lib.hid hF; clear hF
    have e1l : 1 < cs.size := (Array.getElem?_eq_some_iff.1 e1).1
    have ha := (Keep.refl wr Nope).alloc (.cells #[.int .i64 0] 3)
    have kc : wr.cell? ⟨c, 0, none⟩ = some (.int .u64 0) := by rw [qc.cell]; exact e0
    have qa := qc.keep ha (fun f => f)
    have kf0 := qa.frozen 0
    have ka : (wr.alloc (.cells #[.int .i64 0] 3)).cell? ⟨c, 0, none⟩ = some (.int .u64 0) := by rw [qa.cell]; exact e0
    have qb := qa.setCell 0 (.int .u64 1)
    have k1 : ((wr.alloc (.cells #[.int .i64 0] 3)).setCell ⟨c, 0, none⟩ (.int .u64 1)).cell? ⟨c, 1, none⟩ = some (.pointer none) := by rw [qb.cell]; simp [e1]
    have qd := qb.alloc (.cells Tryz.zeroCells313 313)
    have kf1 := qd.frozen 1
    have kd : (((wr.alloc (.cells #[.int .i64 0] 3)).setCell ⟨c, 0, none⟩ (.int .u64 1)).alloc (.cells Tryz.zeroCells313 313)).cell? ⟨c, 1, none⟩ = some (.pointer none) := by rw [qd.cell]; simp [e1]
    have qe := qd.setCell 1 (.pointer (some ⟨wr.heap.size + 1, 0, none⟩))
    have k2 : ((((wr.alloc (.cells #[.int .i64 0] 3)).setCell ⟨c, 0, none⟩ (.int .u64 1)).alloc (.cells Tryz.zeroCells313 313)).setCell ⟨c, 1, none⟩ (.pointer (some ⟨wr.heap.size + 1, 0, none⟩))).cell? ⟨c, 1, none⟩ = some (.pointer (some ⟨wr.heap.size + 1, 0, none⟩)) := by rw [qe.cell, Array.getElem?_setIfInBounds_self_of_lt]; simpa using e1l
    have hs2 : ((wr.alloc (.cells #[.int .i64 0] 3)).setCell ⟨c, 0, none⟩ (.int .u64 1)).heap.size = wr.heap.size + 1 := by simp [World.setCell, World.size_alloc]
    have qn := Blk.new ((wr.alloc (.cells #[.int .i64 0] 3)).setCell ⟨c, 0, none⟩ (.int .u64 1)) Tryz.zeroCells313 313
    rw [hs2] at qn
    have HCL := Lib.hid qc.lt
    have HQN := Lib.hid (qn.other (p := ⟨c, 1, none⟩) (by have := qc.lt; show wr.heap.size + 1 ≠ c; omega) (.pointer (some ⟨wr.heap.size + 1, 0, none⟩)))
    have HQE := Lib.hid qe
    have HKS := Lib.hid ((((ha.mono (T := fun x => x = c) (fun _ f => f.elim)).setCell (p := ⟨c, 0, none⟩) (.inl rfl) (.int .u64 1)).alloc (.cells Tryz.zeroCells313 313)).setCell (p := ⟨c, 1, none⟩) (.inl rfl) (.pointer (some ⟨wr.heap.size + 1, 0, none⟩)))
    have HQC := Lib.hid qc
    clear qn qe qd qb qa qc ha hs2 e0 e1 e1l
    by_cases hg0 : k = 0
    · subst hg0
      clear k2 kf1 kd ka k1 kf0 HQN HQE HKS
      obtain ⟨b2, b1, u3, u2, u1, l2, l1, l0, rfl, rfl⟩ := HUP.out
      have q0 := HQC.out
      have hlt := HLT.out
      have ha := (Keep.refl wr Nope).alloc (.cells #[.int .i64 (i : Int)] 3)
      have kf := (q0.keep ha (fun f => f)).frozen 0
      have p0 := ((q0.keep ha (fun f => f)).setCell 0 (.int .u64 (addW 0 i : Nat))).drew
      have p1 := ((u1.keep ha (fun f => f)).other (p := ⟨c, 0, none⟩) (by simp; omega) (.int .u64 (addW 0 i : Nat))).drew
      have p2 := ((u2.keep ha (fun f => f)).other (p := ⟨c, 0, none⟩) (by simp; omega) (.int .u64 (addW 0 i : Nat))).drew
      have p3 := ((u3.keep ha (fun f => f)).other (p := ⟨c, 0, none⟩) (by simp; omega) (.int .u64 (addW 0 i : Nat))).drew
      have HK2 := Lib.hid (HKr.out.trans (((ha.mono (T := F) (fun _ f => f.elim)).mono (T := fun x => x = c ∨ F x) (fun _ f => .inl (.inr f)) |>.setCell (p := ⟨c, 0, none⟩) (.inl (.inl rfl)) (.int .u64 (addW 0 i : Nat))).drew) (fun x f => by rcases f with rfl | f; exact HF.out; exact .inl f))
      have HP := Lib.hid (And.intro p3 (And.intro p2 (And.intro p1 p0)))
      have HB := Lib.hid (And.intro l2 (And.intro l1 (And.intro l0 hlt)))
      clear p3 p2 p1 p0 q0 u3 u2 u1 ha l2 l1 l0 hlt HQC HUP
      go_wp2_with fail
      refine wp_region_M (r := 11) (S := fun w' => w'.cell? ⟨c, 0, none⟩ = some (.int .u64 0)) (by kernel_rfl) ?_ (fun hHeld => ?_)
      · (try dsimp only); first | exact kc | exact (show Keep wr _ Nope from (by (repeat (first | exact Keep.refl _ _ | apply Keep.drew | apply Keep.drewN | apply Keep.alloc)))).cell kc (fun f => f)
      refine tkP 0 ?_; refine tkP 1 ?_; refine tkP 2 ?_; refine tkP 3 ?_; refine tkH 4 ?_; refine tkP 5 ?_; refine tkC 6 ?_
      intro K hK
      go_simp
      go_wp2_with ((go_at_call 202; refine (HD0.out _).mono ?_; rintro e w' ⟨rfl, rfl⟩))
      refine hK.out _ _ ?_ (fun hHeld => ?_)
      · (try dsimp only); first | exact kc | exact (show Keep wr _ Nope from (by (repeat (first | exact Keep.refl _ _ | apply Keep.drew | apply Keep.drewN | apply Keep.alloc)))).cell kc (fun f => f)
      clear hK K
      refine tkC 7 ?_
      intro K hK
      go_simp
      refine hK.out _ _ ?_ (fun hHeld => ?_)
      · (try dsimp only); first | exact kc | exact (show Keep wr _ Nope from (by (repeat (first | exact Keep.refl _ _ | apply Keep.drew | apply Keep.drewN | apply Keep.alloc)))).cell kc (fun f => f)
      clear hK K
      refine tkC 8 ?_
      intro K hK
      go_simp
      go_wp2_with ((go_at_call 203; refine (word_with 0 (by decide) i hi _ _ (fun z => z = wr.heap.size) (by first | exact (rd_lit1 _ (i : Int)).drew | exact rd_lit1 _ (i : Int))).mono ?_; rintro e w' ⟨rfl, rfl⟩))
      refine hK.out _ _ ?_ (fun hHeld => ?_)
      · (try dsimp only); first | exact kc | exact (show Keep wr _ Nope from (by (repeat (first | exact Keep.refl _ _ | apply Keep.drew | apply Keep.drewN | apply Keep.alloc)))).cell kc (fun f => f)
      clear hK K
      refine tkP 9 ?_; refine tkP 10 ?_; refine tkF 11 ?_
      intro K hK
      go_simp
      refine hK.out _ _ ?_
      clear hK K
      refine wpAnyM_done (by kernel_rfl) ?_ _
      obtain ⟨w9, hw9⟩ : ∃ w9, ((wr.alloc (.cells #[.int .i64 (i : Int)] 3)).setCell ⟨c, 0, none⟩ (.int .u64 (addW 0 i : Nat))).drew = w9 := ⟨_, rfl⟩
      rw [hw9] at HP HK2 ⊢
      clear hw9
      have k65 : w9.cell? ⟨b, 65, none⟩ = some (.int .i64 0) := by rw [HP.out.1.cell]; rfl
      have f65 := HP.out.1.frozen 65
      go_wp2_with fail
      go_ret2
      refine ⟨rfl, HK2.out.setCell (p := ⟨b, 65, none⟩) (.inl f3) _, b2, b1, c, HB.out.1, HB.out.2.1, HB.out.2.2.1, ?_, HP.out.2.1.other (p := ⟨b, 65, none⟩) (fun e => by subst e; exact absurd rfl (Blk.ne HP.out.2.1 HP.out.1 (by decide))) _, HP.out.2.2.1.other (p := ⟨b, 65, none⟩) (fun e => by subst e; exact absurd rfl (Blk.ne HP.out.2.2.1 HP.out.1 (by decide))) _, HP.out.2.2.2.other (p := ⟨b, 65, none⟩) (fun e => by subst e; exact absurd rfl (Blk.ne HP.out.2.2.2 HP.out.1 (by decide))) _⟩
      exact HP.out.1.setCell 65 (.int .i64 1)
    · obtain rfl | rfl | rfl : k = 1 ∨ k = 2 ∨ k = 3 := by omega
      · go_wp2_with (first | (go_at_call 202; refine (HD.out 1 (by omega) (by omega) _).mono ?_; rintro e w' ⟨rfl, rfl⟩) | (go_at_call 203; refine (word_with 0 (by decide) 0 (by decide) _ _ _ (rd_lit1 _ 0)).mono ?_; rintro e w' ⟨rfl, rfl⟩; rw [show ((addW 0 0 : Nat) : Int) = 1 from rfl]))
        go_roundg 0
        case measure => omega
        case rel => exact ⟨HKr.out.trans HKS.out (fun x f => by subst f; exact HF.out), 0, wr.heap.size + 1, _, _, rfl, by omega, rfl, by go_num, HQN.out, rfl, rfl, .inr (by have := HKr.out.size; omega), HUP.out.down HLT.out HKr.out.size HKS.out HCL.out (by omega) HQE.out⟩
      · go_wp2_with (first | (go_at_call 202; refine (HD.out 2 (by omega) (by omega) _).mono ?_; rintro e w' ⟨rfl, rfl⟩) | (go_at_call 203; refine (word_with 0 (by decide) 0 (by decide) _ _ _ (rd_lit1 _ 0)).mono ?_; rintro e w' ⟨rfl, rfl⟩; rw [show ((addW 0 0 : Nat) : Int) = 1 from rfl]))
        go_roundg 1
        case measure => omega
        case rel => exact ⟨HKr.out.trans HKS.out (fun x f => by subst f; exact HF.out), 1, wr.heap.size + 1, _, _, rfl, by omega, rfl, by go_num, HQN.out, rfl, rfl, .inr (by have := HKr.out.size; omega), HUP.out.down HLT.out HKr.out.size HKS.out HCL.out (by omega) HQE.out⟩
      · go_wp2_with (first | (go_at_call 202; refine (HD.out 3 (by omega) (by omega) _).mono ?_; rintro e w' ⟨rfl, rfl⟩) | (go_at_call 203; refine (word_with 0 (by decide) 0 (by decide) _ _ _ (rd_lit1 _ 0)).mono ?_; rintro e w' ⟨rfl, rfl⟩; rw [show ((addW 0 0 : Nat) : Int) = 1 from rfl]))
        go_roundg 2
        case measure => omega
        case rel => exact ⟨HKr.out.trans HKS.out (fun x f => by subst f; exact HF.out), 2, wr.heap.size + 1, _, _, rfl, by omega, rfl, by go_num, HQN.out, rfl, rfl, .inr (by have := HKr.out.size; omega), HUP.out.down HLT.out HKr.out.size HKS.out HCL.out (by omega) HQE.out⟩
end Go.Proofs.YtkiikblpgppmkaaGreatDoor

namespace Go.Proofs.YtkiikblpgppmkaaGreatDoor
open Go Go.RowKit
set_option linter.unusedVariables false
set_option linter.unusedSimpArgs false

/-- The claim, out of its four blocks. -/
theorem hib_mk {w : World} {F : Nat → Prop} {b m : Nat} (h0 : m ≠ 0) {c : Way} (g3 : Blk w b (setCs 1 (ptr c.b2) (pop m)) 316) (g2 : Blk w c.b2 (nodeCs 1 (ptr c.b1)) 313) (g1 : Blk w c.b1 (nodeCs 1 (ptr c.b0)) 313) (g0 : Blk w c.b0 (nodeCs m nilV) 313)
    (n21 : c.b2 ≠ c.b1) (n20 : c.b2 ≠ c.b0) (n10 : c.b1 ≠ c.b0) (f3 : F b) (f2 : F c.b2) (f1 : F c.b1) (f0 : F c.b0) : (hibA b m).at' w F := by
  have m2 : b ≠ c.b2 := g3.ne g2 (by decide)
  have m1 : b ≠ c.b1 := g3.ne g1 (by decide)
  have m0 : b ≠ c.b0 := g3.ne g0 (by decide)
  unfold hibA
  rw [if_neg h0]
  refine ⟨c, fun i x => (i = 0 ∧ x = b) ∨ (i = 1 ∧ x = c.b2) ∨ (i = 2 ∧ x = c.b1) ∨ (i = 3 ∧ x = c.b0), fun i A hi => ?_, fun i x hx => ?_, fun i j x hi hj => ?_⟩
  · match i with
    | 0 => cases hi; exact ⟨g3, .inl ⟨rfl, rfl⟩⟩
    | 1 => cases hi; exact ⟨g2, .inr (.inl ⟨rfl, rfl⟩)⟩
    | 2 => cases hi; exact ⟨g1, .inr (.inr (.inl ⟨rfl, rfl⟩))⟩
    | 3 => cases hi; exact ⟨g0, .inr (.inr (.inr ⟨rfl, rfl⟩))⟩
    | i + 4 => simp [hibL] at hi
  · rcases hx with ⟨_, rfl⟩ | ⟨_, rfl⟩ | ⟨_, rfl⟩ | ⟨_, rfl⟩ <;> assumption
  · omega
/-- Its four blocks, apart. -/
theorem hib_open {w : World} {F : Nat → Prop} {b m : Nat} (h0 : m ≠ 0) (h : (hibA b m).at' w F) : ∃ c : Way, Blk w b (setCs 1 (ptr c.b2) (pop m)) 316 ∧ Blk w c.b2 (nodeCs 1 (ptr c.b1)) 313 ∧ Blk w c.b1 (nodeCs 1 (ptr c.b0)) 313 ∧ Blk w c.b0 (nodeCs m nilV) 313 ∧
    c.b2 ≠ c.b1 ∧ c.b2 ≠ c.b0 ∧ c.b1 ≠ c.b0 ∧ F b ∧ F c.b2 ∧ F c.b1 ∧ F c.b0 := by
  unfold hibA at h
  rw [if_neg h0] at h
  obtain ⟨c, G, h1, h2, h3⟩ := h
  have g3 := h1 0 _ rfl
  have g2 := h1 1 _ rfl
  have g1 := h1 2 _ rfl
  have g0 := h1 3 _ rfl
  refine ⟨c, g3.1, g2.1, g1.1, g0.1, fun e => ?_, fun e => ?_, fun e => ?_, h2 _ _ g3.2, h2 _ _ g2.2, h2 _ _ g1.2, h2 _ _ g0.2⟩
  · have := h3 1 2 c.b1 (e ▸ g2.2) g1.2; omega
  · have := h3 1 3 c.b0 (e ▸ g2.2) g0.2; omega
  · have := h3 2 3 c.b0 (e ▸ g1.2) g0.2; omega
theorem hib_zero {w : World} {F : Nat → Prop} {b : Nat} : (hibA b 0).at' w F ↔ Blk w b (setCs 0 nilV 0) 316 ∧ F b := by
  unfold hibA
  rw [if_pos rfl]
  exact Iff.rfl

/-- Add. -/
theorem hib_addF (b m i : Nat) (F : Nat → Prop) (hi : i < 64) (w : World) (hm : m < 2 ^ 64) (h : (hibA b m).at' w F) :
    Calls Tryz.prog 123 #[ptr b, .int .i64 (i : Nat)] w (fun e w' => e = .returned (.tuple #[.bool (!m.testBit i), .int .i64 0]) ∧ Keep w w' F ∧ (hibA b (addW m i)).at' w' (fun x => F x ∨ New w w' x)) := by
  by_cases hb : m.testBit i = true
  · rw [hb, addW_has hm hb hi]
    refine (hib_add_in b m i hi w (hib_rd hm h) hb).mono ?_
    rintro e w' ⟨rfl, hk⟩
    exact ⟨rfl, hk.mono (fun _ f => f.elim), (hibA b m).mono ((hibA b m).keep h hk (fun _ _ f => f)) (fun _ f => .inl f)⟩
  · have hb' : m.testBit i = false := by simpa using hb
    rw [hb']
    by_cases h0 : m = 0
    · subst h0
      obtain ⟨g3, f3⟩ := hib_zero.1 h
      refine (hib_add0 b i F hi w g3 f3).mono ?_
      rintro e w' ⟨rfl, hk, b2, b1, b0, l2, l1, l0, q3, q2, q1, q0⟩
      have e1 : pop (addW 0 i) = 1 := by rw [pop_add hi (by simp), pop_zero]
      refine ⟨rfl, hk, hib_mk (c := ⟨b2, b1, b0⟩) (addW_ne 0 i) (by rw [e1]; exact q3) q2 q1 q0 (by simp; omega) (by simp; omega) (by simp; omega) (.inl f3) (.inr ⟨l2, q2.lt⟩) (.inr ⟨by simp; omega, q1.lt⟩) (.inr ⟨by simp; omega, q0.lt⟩)⟩
    · obtain ⟨⟨b2, b1, b0⟩, g3, g2, g1, g0, n21, n20, n10, f3, f2, f1, f0⟩ := hib_open h0 h
      refine (hib_add1 b b2 b1 b0 m i F hi w hm h0 hb' g3 g2 g1 g0 n21 n20 n10 f3 f2 f1 f0).mono ?_
      rintro e w' ⟨rfl, hk, q3, q2, q1, q0⟩
      exact ⟨rfl, hk, hib_mk (c := ⟨b2, b1, b0⟩) (addW_ne m i) (by rw [pop_add hi hb']; exact q3) q2 q1 q0 n21 n20 n10 (.inl f3) (.inl f2) (.inl f1) (.inl f0)⟩
theorem hib_add {w0 w : World} {L : List Asr} {b m : Nat} (H : St w0 w L) (p : Nat) (hp : L[p]? = some (hibA b m)) (hm : m < 2 ^ 64) (i : Nat) (hi : i < 64) :
    Calls Tryz.prog 123 #[ptr b, .int .i64 (i : Nat)] w (fun e w' => e = .returned (.tuple #[.bool (!m.testBit i), .int .i64 0]) ∧ St w0 w' (L.set p (hibA b (addW m i)))) := by
  obtain ⟨G, h1, _, hup, _⟩ := H.opens p hp
  refine (hib_addF b m i G hi w hm h1).mono ?_
  rintro e w' ⟨rfl, hk, h2⟩
  exact ⟨rfl, hup w' _ hk h2⟩

/-- A new claim that stands first. -/
theorem St.first {w0 w : World} {L : List Asr} {A : Asr} (h : St w0 w (L ++ [A])) : St w0 w (A :: L) := by
  refine h.pick (fun i => if i = 0 then L.length else i - 1) (fun i j hi hj e => ?_) (fun i B hi => ?_)
  · simp at hi hj
    by_cases h1 : i = 0 <;> by_cases h2 : j = 0 <;> simp [h1, h2] at e <;> omega
  · match i with
    | 0 => cases hi; simp
    | i + 1 =>
      have hl := (List.getElem?_eq_some_iff.1 hi).1
      simp at hl hi
      simp
      rw [List.getElem?_append_left hl]
      exact hi
theorem St.box0 {w0 w : World} {L : List Asr} (h : St w0 w L) (cs : Array Value) (t : TypeId) : St w0 (w.alloc (.cells cs t)) (blkA w.heap.size cs t :: L) := (h.box cs t).first
theorem St.rest {w0 w : World} {L : List Asr} {A : Asr} (h : St w0 w (A :: L)) : St w0 w L :=
  h.pick (fun i => i + 1) (fun i j _ _ e => by simpa using e) (fun i B hi => by simpa using hi)
theorem St.hibRd {w0 w : World} {L : List Asr} {b m : Nat} (H : St w0 w L) (p : Nat) (hp : L[p]? = some (hibA b m)) (hm : m < 2 ^ 64) : RdHib w b m := by
  obtain ⟨G, h1, _⟩ := H.get p hp
  exact hib_rd hm h1
/-- A set that is not empty is taken apart, its four blocks standing first; put together again. -/
theorem St.hibSplit {w0 w : World} {L : List Asr} {b m : Nat} (H : St w0 w L) (p : Nat) (hp : L[p]? = some (hibA b m)) (h0 : m ≠ 0) : ∃ c : Way, St w0 w (hibL b m c ++ L.set p empA) := by
  unfold hibA at hp
  rw [if_neg h0] at hp
  exact H.exSplit p hp
theorem St.hibJoin {w0 w : World} {L : List Asr} {b m : Nat} (h0 : m ≠ 0) (c : Way) (p : Nat) (hp : p < L.length) (H : St w0 w (hibL b m c ++ L.set p empA)) : St w0 w (L.set p (hibA b m)) := by
  unfold hibA
  rw [if_neg h0]
  exact St.exJoin (hibL b m) c p hp H
end Go.Proofs.YtkiikblpgppmkaaGreatDoor
