/-
  Sets of numbers below 64: at and Has; Sets of numbers below 64: New, Clear; Sets of numbers below 64: Add, where some are there; Sets of numbers below 64: Add, where the number is there.
-/
import Derived.Test.YtkiikblpgppmkaaGreatDoorSpM02
namespace Go.Proofs.YtkiikblpgppmkaaGreatDoor
open Go Go.RowKit
set_option linter.unusedVariables false
set_option linter.unusedSimpArgs false

/-- How far the way down has come. -/
def AtRel (b b2 b1 b0 : Nat) (w : World) (g : Nat) (v7 v8 : Value) (wr : World) : Prop :=
  Keep w wr Nope ∧ ((g = 3 ∧ v7 = .pointer (some ⟨b, 0, none⟩) ∧ v8 = .int .i64 3) ∨ (g = 2 ∧ v7 = .pointer (some ⟨b2, 0, none⟩) ∧ v8 = .int .i64 2) ∨ (g = 1 ∧ v7 = .pointer (some ⟨b1, 0, none⟩) ∧ v8 = .int .i64 1) ∨ (g = 0 ∧ v7 = .pointer (some ⟨b0, 0, none⟩) ∧ v8 = .int .i64 0))
theorem hib_at (b b2 b1 b0 : Nat) (i : Nat) (hi : i < 64) (w : World) (k3 : w.cell? ⟨b, 1, none⟩ = some (ptr b2)) (k2 : w.cell? ⟨b2, 1, none⟩ = some (ptr b1)) (k1 : w.cell? ⟨b1, 1, none⟩ = some (ptr b0)) :
    Calls Tryz.prog 200 #[ptr b, .int .i64 (i : Nat), .int .i64 0] w (RetK w (ptr b0)) := by
  unfold ptr at *
  have HD := Lib.hid (fun (l : Nat) h1 h2 w => hib_digit i hi l h1 h2 w)
  go_enter Tryz.func200, Tryz.ntmps200
  go_wp2_with fail
  go_loopg [7, 8] 3 (fun g v7 v8 wr => AtRel b b2 b1 b0 w g v7 v8 wr)
  case atStart => exact ⟨Keep.refl _ _, .inl ⟨rfl, rfl, rfl⟩⟩
  case round =>
    obtain ⟨hk, ⟨rfl, rfl, rfl⟩ | ⟨rfl, rfl, rfl⟩ | ⟨rfl, rfl, rfl⟩ | ⟨rfl, rfl, rfl⟩⟩ := hrel
    all_goals have HK := Lib.hid hk; clear hk
    · have kc := HK.out.cell k3 (fun f => f)
      go_wp2_with fail
      refine wp_region_held_drew (S := fun w' => w'.cell? ⟨b, 1, none⟩ = some (.pointer (some ⟨b2, 0, none⟩))) (by kernel_rfl) ?_ (fun hHeld => ?_)
      · (try dsimp only); exact kc
      refine wpAnyH_take (i := 0) (oi := ?_) (v := ?_) ?_ ?_ ?_ ?_ ?_ ?_ ?_ ?_
      rotate_left 2
      · simp only [List.getElem?_toArray, List.getElem?_cons_succ, List.getElem?_cons_zero]; exact rfl
      · kernel_rfl
      · kernel_rfl
      · kernel_rfl
      · first | exact fun _ _ _ h => h | exact fun _ _ _ h => (HPan.out _ _ _ h).elim
      · (refine Or.inl ⟨by rfl, ?_⟩; (intro w hSw; (try dsimp only at hSw); go_simp) <;> with_reducible rfl)
      · assumption
      simp only [Act.put, List.setIfInBounds_toArray, List.set_cons_zero, List.set_cons_succ]
      refine wpAnyH_take (i := 1) (oi := ?_) (v := ?_) ?_ ?_ ?_ ?_ ?_ ?_ ?_ ?_
      rotate_left 2
      · simp only [List.getElem?_toArray, List.getElem?_cons_succ, List.getElem?_cons_zero]; exact rfl
      · kernel_rfl
      · kernel_rfl
      · kernel_rfl
      · first | exact fun _ _ _ h => h | exact fun _ _ _ h => (HPan.out _ _ _ h).elim
      · (refine Or.inl ⟨by rfl, ?_⟩; (intro w hSw; (try dsimp only at hSw); go_simp) <;> with_reducible rfl)
      · assumption
      simp only [Act.put, List.setIfInBounds_toArray, List.set_cons_zero, List.set_cons_succ]
      refine wpAnyH_take (i := 2) (oi := ?_) (v := ?_) ?_ ?_ ?_ ?_ ?_ ?_ ?_ ?_
      rotate_left 2
      · simp only [List.getElem?_toArray, List.getElem?_cons_succ, List.getElem?_cons_zero]; exact rfl
      · kernel_rfl
      · kernel_rfl
      · kernel_rfl
      · first | exact fun _ _ _ h => h | exact fun _ _ _ h => (HPan.out _ _ _ h).elim
      · (refine Or.inl ⟨by rfl, ?_⟩; (intro w hSw; (try dsimp only at hSw); go_simp) <;> with_reducible rfl)
      · assumption
      simp only [Act.put, List.setIfInBounds_toArray, List.set_cons_zero, List.set_cons_succ]
      refine wpAnyH_take (i := 4) (oi := ?_) (v := ?_) ?_ ?_ ?_ ?_ ?_ ?_ ?_ ?_
      rotate_left 2
      · simp only [List.getElem?_toArray, List.getElem?_cons_succ, List.getElem?_cons_zero]; exact rfl
      · kernel_rfl
      · kernel_rfl
      · kernel_rfl
      · first | exact fun _ _ _ h => h | exact fun _ _ _ h => (HPan.out _ _ _ h).elim
      · (refine Or.inl ⟨by rfl, ?_⟩; (intro w hSw; (try dsimp only at hSw); go_simp) <;> with_reducible rfl)
      · assumption
      simp only [Act.put, List.setIfInBounds_toArray, List.set_cons_zero, List.set_cons_succ]
      refine wpAnyH_take (i := 5) (oi := ?_) (v := ?_) ?_ ?_ ?_ ?_ ?_ ?_ ?_ ?_
      rotate_left 2
      · simp only [List.getElem?_toArray, List.getElem?_cons_succ, List.getElem?_cons_zero]; exact rfl
      · kernel_rfl
      · kernel_rfl
      · kernel_rfl
      · first | exact fun _ _ _ h => h | exact fun _ _ _ h => (HPan.out _ _ _ h).elim
      · (refine Or.inl ⟨by rfl, ?_⟩; (intro w hSw; (try dsimp only at hSw); go_simp) <;> with_reducible rfl)
      · assumption
      simp only [Act.put, List.setIfInBounds_toArray, List.set_cons_zero, List.set_cons_succ]
      refine wpAnyH_ready (rs := [3]) (by kernel_rfl) (by simp) ?_
      refine AllReadyH.cons rfl (fun K hK => ?_) (AllReadyH.nil)
      go_simp
      go_wp2_with ((go_at_call 202; refine (HD.out 3 (by omega) (by omega) _).mono ?_; rintro e w' ⟨rfl, rfl⟩))
      refine hK.out _ _ ?_ (fun hHeld => ?_)
      · (try dsimp only); exact kc
      clear hK K
      refine wpAnyH_take (i := 6) (oi := ?_) (v := ?_) ?_ ?_ ?_ ?_ ?_ ?_ ?_ ?_
      rotate_left 2
      · simp only [List.getElem?_toArray, List.getElem?_cons_succ, List.getElem?_cons_zero]; exact rfl
      · kernel_rfl
      · kernel_rfl
      · kernel_rfl
      · first | exact fun _ _ _ h => h | exact fun _ _ _ h => (HPan.out _ _ _ h).elim
      · (refine Or.inl ⟨by rfl, ?_⟩; (intro w hSw; (try dsimp only at hSw); go_simp) <;> with_reducible rfl)
      · assumption
      simp only [Act.put, List.setIfInBounds_toArray, List.set_cons_zero, List.set_cons_succ]
      refine wpAnyH_take (i := 7) (oi := ?_) (v := ?_) ?_ ?_ ?_ ?_ ?_ ?_ ?_ ?_
      rotate_left 2
      · simp only [List.getElem?_toArray, List.getElem?_cons_succ, List.getElem?_cons_zero]; exact rfl
      · kernel_rfl
      · kernel_rfl
      · kernel_rfl
      · first | exact fun _ _ _ h => h | exact fun _ _ _ h => (HPan.out _ _ _ h).elim
      · (refine Or.inl ⟨by rfl, ?_⟩; (intro w hSw; (try dsimp only at hSw); go_simp) <;> with_reducible rfl)
      · assumption
      simp only [Act.put, List.setIfInBounds_toArray, List.set_cons_zero, List.set_cons_succ]
      refine wpAnyH_take (i := 8) (oi := ?_) (v := ?_) ?_ ?_ ?_ ?_ ?_ ?_ ?_ ?_
      rotate_left 2
      · simp only [List.getElem?_toArray, List.getElem?_cons_succ, List.getElem?_cons_zero]; exact rfl
      · kernel_rfl
      · kernel_rfl
      · kernel_rfl
      · first | exact fun _ _ _ h => h | exact fun _ _ _ h => (HPan.out _ _ _ h).elim
      · (refine Or.inl ⟨by rfl, ?_⟩; (intro w hSw; (try dsimp only at hSw); go_simp) <;> with_reducible rfl)
      · assumption
      simp only [Act.put, List.setIfInBounds_toArray, List.set_cons_zero, List.set_cons_succ]
      refine wpAnyH_done (by kernel_rfl) ?_ _
      go_wp2_with fail
      go_roundg 2
      case measure => omega
      case rel => exact ⟨HK.out.trans (show Keep wr _ Nope from (by (repeat (first | exact Keep.refl _ _ | apply Keep.drew | apply Keep.drewN | apply Keep.alloc)))) (fun _ f => f.elim), .inr (.inl ⟨rfl, rfl, by go_num⟩)⟩
    · have kc := HK.out.cell k2 (fun f => f)
      go_wp2_with fail
      refine wp_region_held_drew (S := fun w' => w'.cell? ⟨b2, 1, none⟩ = some (.pointer (some ⟨b1, 0, none⟩))) (by kernel_rfl) ?_ (fun hHeld => ?_)
      · (try dsimp only); exact kc
      refine wpAnyH_take (i := 0) (oi := ?_) (v := ?_) ?_ ?_ ?_ ?_ ?_ ?_ ?_ ?_
      rotate_left 2
      · simp only [List.getElem?_toArray, List.getElem?_cons_succ, List.getElem?_cons_zero]; exact rfl
      · kernel_rfl
      · kernel_rfl
      · kernel_rfl
      · first | exact fun _ _ _ h => h | exact fun _ _ _ h => (HPan.out _ _ _ h).elim
      · (refine Or.inl ⟨by rfl, ?_⟩; (intro w hSw; (try dsimp only at hSw); go_simp) <;> with_reducible rfl)
      · assumption
      simp only [Act.put, List.setIfInBounds_toArray, List.set_cons_zero, List.set_cons_succ]
      refine wpAnyH_take (i := 1) (oi := ?_) (v := ?_) ?_ ?_ ?_ ?_ ?_ ?_ ?_ ?_
      rotate_left 2
      · simp only [List.getElem?_toArray, List.getElem?_cons_succ, List.getElem?_cons_zero]; exact rfl
      · kernel_rfl
      · kernel_rfl
      · kernel_rfl
      · first | exact fun _ _ _ h => h | exact fun _ _ _ h => (HPan.out _ _ _ h).elim
      · (refine Or.inl ⟨by rfl, ?_⟩; (intro w hSw; (try dsimp only at hSw); go_simp) <;> with_reducible rfl)
      · assumption
      simp only [Act.put, List.setIfInBounds_toArray, List.set_cons_zero, List.set_cons_succ]
      refine wpAnyH_take (i := 2) (oi := ?_) (v := ?_) ?_ ?_ ?_ ?_ ?_ ?_ ?_ ?_
      rotate_left 2
      · simp only [List.getElem?_toArray, List.getElem?_cons_succ, List.getElem?_cons_zero]; exact rfl
      · kernel_rfl
      · kernel_rfl
      · kernel_rfl
      · first | exact fun _ _ _ h => h | exact fun _ _ _ h => (HPan.out _ _ _ h).elim
      · (refine Or.inl ⟨by rfl, ?_⟩; (intro w hSw; (try dsimp only at hSw); go_simp) <;> with_reducible rfl)
      · assumption
      simp only [Act.put, List.setIfInBounds_toArray, List.set_cons_zero, List.set_cons_succ]
      refine wpAnyH_take (i := 4) (oi := ?_) (v := ?_) ?_ ?_ ?_ ?_ ?_ ?_ ?_ ?_
      rotate_left 2
      · simp only [List.getElem?_toArray, List.getElem?_cons_succ, List.getElem?_cons_zero]; exact rfl
      · kernel_rfl
      · kernel_rfl
      · kernel_rfl
      · first | exact fun _ _ _ h => h | exact fun _ _ _ h => (HPan.out _ _ _ h).elim
      · (refine Or.inl ⟨by rfl, ?_⟩; (intro w hSw; (try dsimp only at hSw); go_simp) <;> with_reducible rfl)
      · assumption
      simp only [Act.put, List.setIfInBounds_toArray, List.set_cons_zero, List.set_cons_succ]
      refine wpAnyH_take (i := 5) (oi := ?_) (v := ?_) ?_ ?_ ?_ ?_ ?_ ?_ ?_ ?_
      rotate_left 2
      · simp only [List.getElem?_toArray, List.getElem?_cons_succ, List.getElem?_cons_zero]; exact rfl
      · kernel_rfl
      · kernel_rfl
      · kernel_rfl
      · first | exact fun _ _ _ h => h | exact fun _ _ _ h => (HPan.out _ _ _ h).elim
      · (refine Or.inl ⟨by rfl, ?_⟩; (intro w hSw; (try dsimp only at hSw); go_simp) <;> with_reducible rfl)
      · assumption
      simp only [Act.put, List.setIfInBounds_toArray, List.set_cons_zero, List.set_cons_succ]
      refine wpAnyH_ready (rs := [3]) (by kernel_rfl) (by simp) ?_
      refine AllReadyH.cons rfl (fun K hK => ?_) (AllReadyH.nil)
      go_simp
      go_wp2_with ((go_at_call 202; refine (HD.out 2 (by omega) (by omega) _).mono ?_; rintro e w' ⟨rfl, rfl⟩))
      refine hK.out _ _ ?_ (fun hHeld => ?_)
      · (try dsimp only); exact kc
      clear hK K
      refine wpAnyH_take (i := 6) (oi := ?_) (v := ?_) ?_ ?_ ?_ ?_ ?_ ?_ ?_ ?_
      rotate_left 2
      · simp only [List.getElem?_toArray, List.getElem?_cons_succ, List.getElem?_cons_zero]; exact rfl
      · kernel_rfl
      · kernel_rfl
      · kernel_rfl
      · first | exact fun _ _ _ h => h | exact fun _ _ _ h => (HPan.out _ _ _ h).elim
      · (refine Or.inl ⟨by rfl, ?_⟩; (intro w hSw; (try dsimp only at hSw); go_simp) <;> with_reducible rfl)
      · assumption
      simp only [Act.put, List.setIfInBounds_toArray, List.set_cons_zero, List.set_cons_succ]
      refine wpAnyH_take (i := 7) (oi := ?_) (v := ?_) ?_ ?_ ?_ ?_ ?_ ?_ ?_ ?_
      rotate_left 2
      · simp only [List.getElem?_toArray, List.getElem?_cons_succ, List.getElem?_cons_zero]; exact rfl
      · kernel_rfl
      · kernel_rfl
      · kernel_rfl
      · first | exact fun _ _ _ h => h | exact fun _ _ _ h => (HPan.out _ _ _ h).elim
      · (refine Or.inl ⟨by rfl, ?_⟩; (intro w hSw; (try dsimp only at hSw); go_simp) <;> with_reducible rfl)
      · assumption
      simp only [Act.put, List.setIfInBounds_toArray, List.set_cons_zero, List.set_cons_succ]
      refine wpAnyH_take (i := 8) (oi := ?_) (v := ?_) ?_ ?_ ?_ ?_ ?_ ?_ ?_ ?_
      rotate_left 2
      · simp only [List.getElem?_toArray, List.getElem?_cons_succ, List.getElem?_cons_zero]; exact rfl
      · kernel_rfl
      · kernel_rfl
      · kernel_rfl
      · first | exact fun _ _ _ h => h | exact fun _ _ _ h => (HPan.out _ _ _ h).elim
      · (refine Or.inl ⟨by rfl, ?_⟩; (intro w hSw; (try dsimp only at hSw); go_simp) <;> with_reducible rfl)
      · assumption
      simp only [Act.put, List.setIfInBounds_toArray, List.set_cons_zero, List.set_cons_succ]
      refine wpAnyH_done (by kernel_rfl) ?_ _
      go_wp2_with fail
      go_roundg 1
      case measure => omega
      case rel => exact ⟨HK.out.trans (show Keep wr _ Nope from (by (repeat (first | exact Keep.refl _ _ | apply Keep.drew | apply Keep.drewN | apply Keep.alloc)))) (fun _ f => f.elim), .inr (.inr (.inl ⟨rfl, rfl, by go_num⟩))⟩
    · have kc := HK.out.cell k1 (fun f => f)
      go_wp2_with fail
      refine wp_region_held_drew (S := fun w' => w'.cell? ⟨b1, 1, none⟩ = some (.pointer (some ⟨b0, 0, none⟩))) (by kernel_rfl) ?_ (fun hHeld => ?_)
      · (try dsimp only); exact kc
      refine wpAnyH_take (i := 0) (oi := ?_) (v := ?_) ?_ ?_ ?_ ?_ ?_ ?_ ?_ ?_
      rotate_left 2
      · simp only [List.getElem?_toArray, List.getElem?_cons_succ, List.getElem?_cons_zero]; exact rfl
      · kernel_rfl
      · kernel_rfl
      · kernel_rfl
      · first | exact fun _ _ _ h => h | exact fun _ _ _ h => (HPan.out _ _ _ h).elim
      · (refine Or.inl ⟨by rfl, ?_⟩; (intro w hSw; (try dsimp only at hSw); go_simp) <;> with_reducible rfl)
      · assumption
      simp only [Act.put, List.setIfInBounds_toArray, List.set_cons_zero, List.set_cons_succ]
      refine wpAnyH_take (i := 1) (oi := ?_) (v := ?_) ?_ ?_ ?_ ?_ ?_ ?_ ?_ ?_
      rotate_left 2
      · simp only [List.getElem?_toArray, List.getElem?_cons_succ, List.getElem?_cons_zero]; exact rfl
      · kernel_rfl
      · kernel_rfl
      · kernel_rfl
      · first | exact fun _ _ _ h => h | exact fun _ _ _ h => (HPan.out _ _ _ h).elim
      · (refine Or.inl ⟨by rfl, ?_⟩; (intro w hSw; (try dsimp only at hSw); go_simp) <;> with_reducible rfl)
      · assumption
      simp only [Act.put, List.setIfInBounds_toArray, List.set_cons_zero, List.set_cons_succ]
      refine wpAnyH_take (i := 2) (oi := ?_) (v := ?_) ?_ ?_ ?_ ?_ ?_ ?_ ?_ ?_
      rotate_left 2
      · simp only [List.getElem?_toArray, List.getElem?_cons_succ, List.getElem?_cons_zero]; exact rfl
      · kernel_rfl
      · kernel_rfl
      · kernel_rfl
      · first | exact fun _ _ _ h => h | exact fun _ _ _ h => (HPan.out _ _ _ h).elim
      · (refine Or.inl ⟨by rfl, ?_⟩; (intro w hSw; (try dsimp only at hSw); go_simp) <;> with_reducible rfl)
      · assumption
      simp only [Act.put, List.setIfInBounds_toArray, List.set_cons_zero, List.set_cons_succ]
      refine wpAnyH_take (i := 4) (oi := ?_) (v := ?_) ?_ ?_ ?_ ?_ ?_ ?_ ?_ ?_
      rotate_left 2
      · simp only [List.getElem?_toArray, List.getElem?_cons_succ, List.getElem?_cons_zero]; exact rfl
      · kernel_rfl
      · kernel_rfl
      · kernel_rfl
      · first | exact fun _ _ _ h => h | exact fun _ _ _ h => (HPan.out _ _ _ h).elim
      · (refine Or.inl ⟨by rfl, ?_⟩; (intro w hSw; (try dsimp only at hSw); go_simp) <;> with_reducible rfl)
      · assumption
      simp only [Act.put, List.setIfInBounds_toArray, List.set_cons_zero, List.set_cons_succ]
      refine wpAnyH_take (i := 5) (oi := ?_) (v := ?_) ?_ ?_ ?_ ?_ ?_ ?_ ?_ ?_
      rotate_left 2
      · simp only [List.getElem?_toArray, List.getElem?_cons_succ, List.getElem?_cons_zero]; exact rfl
      · kernel_rfl
      · kernel_rfl
      · kernel_rfl
      · first | exact fun _ _ _ h => h | exact fun _ _ _ h => (HPan.out _ _ _ h).elim
      · (refine Or.inl ⟨by rfl, ?_⟩; (intro w hSw; (try dsimp only at hSw); go_simp) <;> with_reducible rfl)
      · assumption
      simp only [Act.put, List.setIfInBounds_toArray, List.set_cons_zero, List.set_cons_succ]
      refine wpAnyH_ready (rs := [3]) (by kernel_rfl) (by simp) ?_
      refine AllReadyH.cons rfl (fun K hK => ?_) (AllReadyH.nil)
      go_simp
      go_wp2_with ((go_at_call 202; refine (HD.out 1 (by omega) (by omega) _).mono ?_; rintro e w' ⟨rfl, rfl⟩))
      refine hK.out _ _ ?_ (fun hHeld => ?_)
      · (try dsimp only); exact kc
      clear hK K
      refine wpAnyH_take (i := 6) (oi := ?_) (v := ?_) ?_ ?_ ?_ ?_ ?_ ?_ ?_ ?_
      rotate_left 2
      · simp only [List.getElem?_toArray, List.getElem?_cons_succ, List.getElem?_cons_zero]; exact rfl
      · kernel_rfl
      · kernel_rfl
      · kernel_rfl
      · first | exact fun _ _ _ h => h | exact fun _ _ _ h => (HPan.out _ _ _ h).elim
      · (refine Or.inl ⟨by rfl, ?_⟩; (intro w hSw; (try dsimp only at hSw); go_simp) <;> with_reducible rfl)
      · assumption
      simp only [Act.put, List.setIfInBounds_toArray, List.set_cons_zero, List.set_cons_succ]
      refine wpAnyH_take (i := 7) (oi := ?_) (v := ?_) ?_ ?_ ?_ ?_ ?_ ?_ ?_ ?_
      rotate_left 2
      · simp only [List.getElem?_toArray, List.getElem?_cons_succ, List.getElem?_cons_zero]; exact rfl
      · kernel_rfl
      · kernel_rfl
      · kernel_rfl
      · first | exact fun _ _ _ h => h | exact fun _ _ _ h => (HPan.out _ _ _ h).elim
      · (refine Or.inl ⟨by rfl, ?_⟩; (intro w hSw; (try dsimp only at hSw); go_simp) <;> with_reducible rfl)
      · assumption
      simp only [Act.put, List.setIfInBounds_toArray, List.set_cons_zero, List.set_cons_succ]
      refine wpAnyH_take (i := 8) (oi := ?_) (v := ?_) ?_ ?_ ?_ ?_ ?_ ?_ ?_ ?_
      rotate_left 2
      · simp only [List.getElem?_toArray, List.getElem?_cons_succ, List.getElem?_cons_zero]; exact rfl
      · kernel_rfl
      · kernel_rfl
      · kernel_rfl
      · first | exact fun _ _ _ h => h | exact fun _ _ _ h => (HPan.out _ _ _ h).elim
      · (refine Or.inl ⟨by rfl, ?_⟩; (intro w hSw; (try dsimp only at hSw); go_simp) <;> with_reducible rfl)
      · assumption
      simp only [Act.put, List.setIfInBounds_toArray, List.set_cons_zero, List.set_cons_succ]
      refine wpAnyH_done (by kernel_rfl) ?_ _
      go_wp2_with fail
      go_roundg 0
      case measure => omega
      case rel => exact ⟨HK.out.trans (show Keep wr _ Nope from (by (repeat (first | exact Keep.refl _ _ | apply Keep.drew | apply Keep.drewN | apply Keep.alloc)))) (fun _ f => f.elim), .inr (.inr (.inr ⟨rfl, rfl, by go_num⟩))⟩
    · go_wp2_with fail
      go_ret
      exact ⟨rfl, HK.out⟩
def AtRel0 (b : Nat) (w : World) (g : Nat) (v7 v8 : Value) (wr : World) : Prop :=
  Keep w wr Nope ∧ ((g = 3 ∧ v7 = .pointer (some ⟨b, 0, none⟩) ∧ v8 = .int .i64 3) ∨ (g = 2 ∧ v7 = .pointer none ∧ v8 = .int .i64 2))
theorem hib_at0 (b : Nat) (i : Nat) (hi : i < 64) (w : World) (k3 : w.cell? ⟨b, 1, none⟩ = some nilV) :
    Calls Tryz.prog 200 #[ptr b, .int .i64 (i : Nat), .int .i64 0] w (RetK w nilV) := by
  unfold ptr nilV at *
  have HD := Lib.hid (fun (l : Nat) h1 h2 w => hib_digit i hi l h1 h2 w)
  go_enter Tryz.func200, Tryz.ntmps200
  go_wp2_with fail
  go_loopg [7, 8] 3 (fun g v7 v8 wr => AtRel0 b w g v7 v8 wr)
  case atStart => exact ⟨Keep.refl _ _, .inl ⟨rfl, rfl, rfl⟩⟩
  case round =>
    obtain ⟨hk, ⟨rfl, rfl, rfl⟩ | ⟨rfl, rfl, rfl⟩⟩ := hrel
    all_goals have HK := Lib.hid hk; clear hk
    · have kc := HK.out.cell k3 (fun f => f)
      go_wp2_with fail
      refine wp_region_held_drew (S := fun w' => w'.cell? ⟨b, 1, none⟩ = some (.pointer none)) (by kernel_rfl) ?_ (fun hHeld => ?_)
      · (try dsimp only); exact kc
      refine wpAnyH_take (i := 0) (oi := ?_) (v := ?_) ?_ ?_ ?_ ?_ ?_ ?_ ?_ ?_
      rotate_left 2
      · simp only [List.getElem?_toArray, List.getElem?_cons_succ, List.getElem?_cons_zero]; exact rfl
      · kernel_rfl
      · kernel_rfl
      · kernel_rfl
      · first | exact fun _ _ _ h => h | exact fun _ _ _ h => (HPan.out _ _ _ h).elim
      · (refine Or.inl ⟨by rfl, ?_⟩; (intro w hSw; (try dsimp only at hSw); go_simp) <;> with_reducible rfl)
      · assumption
      simp only [Act.put, List.setIfInBounds_toArray, List.set_cons_zero, List.set_cons_succ]
      refine wpAnyH_take (i := 1) (oi := ?_) (v := ?_) ?_ ?_ ?_ ?_ ?_ ?_ ?_ ?_
      rotate_left 2
      · simp only [List.getElem?_toArray, List.getElem?_cons_succ, List.getElem?_cons_zero]; exact rfl
      · kernel_rfl
      · kernel_rfl
      · kernel_rfl
      · first | exact fun _ _ _ h => h | exact fun _ _ _ h => (HPan.out _ _ _ h).elim
      · (refine Or.inl ⟨by rfl, ?_⟩; (intro w hSw; (try dsimp only at hSw); go_simp) <;> with_reducible rfl)
      · assumption
      simp only [Act.put, List.setIfInBounds_toArray, List.set_cons_zero, List.set_cons_succ]
      refine wpAnyH_take (i := 2) (oi := ?_) (v := ?_) ?_ ?_ ?_ ?_ ?_ ?_ ?_ ?_
      rotate_left 2
      · simp only [List.getElem?_toArray, List.getElem?_cons_succ, List.getElem?_cons_zero]; exact rfl
      · kernel_rfl
      · kernel_rfl
      · kernel_rfl
      · first | exact fun _ _ _ h => h | exact fun _ _ _ h => (HPan.out _ _ _ h).elim
      · (refine Or.inl ⟨by rfl, ?_⟩; (intro w hSw; (try dsimp only at hSw); go_simp) <;> with_reducible rfl)
      · assumption
      simp only [Act.put, List.setIfInBounds_toArray, List.set_cons_zero, List.set_cons_succ]
      refine wpAnyH_take (i := 4) (oi := ?_) (v := ?_) ?_ ?_ ?_ ?_ ?_ ?_ ?_ ?_
      rotate_left 2
      · simp only [List.getElem?_toArray, List.getElem?_cons_succ, List.getElem?_cons_zero]; exact rfl
      · kernel_rfl
      · kernel_rfl
      · kernel_rfl
      · first | exact fun _ _ _ h => h | exact fun _ _ _ h => (HPan.out _ _ _ h).elim
      · (refine Or.inl ⟨by rfl, ?_⟩; (intro w hSw; (try dsimp only at hSw); go_simp) <;> with_reducible rfl)
      · assumption
      simp only [Act.put, List.setIfInBounds_toArray, List.set_cons_zero, List.set_cons_succ]
      refine wpAnyH_take (i := 5) (oi := ?_) (v := ?_) ?_ ?_ ?_ ?_ ?_ ?_ ?_ ?_
      rotate_left 2
      · simp only [List.getElem?_toArray, List.getElem?_cons_succ, List.getElem?_cons_zero]; exact rfl
      · kernel_rfl
      · kernel_rfl
      · kernel_rfl
      · first | exact fun _ _ _ h => h | exact fun _ _ _ h => (HPan.out _ _ _ h).elim
      · (refine Or.inl ⟨by rfl, ?_⟩; (intro w hSw; (try dsimp only at hSw); go_simp) <;> with_reducible rfl)
      · assumption
      simp only [Act.put, List.setIfInBounds_toArray, List.set_cons_zero, List.set_cons_succ]
      refine wpAnyH_ready (rs := [3]) (by kernel_rfl) (by simp) ?_
      refine AllReadyH.cons rfl (fun K hK => ?_) (AllReadyH.nil)
      go_simp
      go_wp2_with ((go_at_call 202; refine (HD.out 3 (by omega) (by omega) _).mono ?_; rintro e w' ⟨rfl, rfl⟩))
      refine hK.out _ _ ?_ (fun hHeld => ?_)
      · (try dsimp only); exact kc
      clear hK K
      refine wpAnyH_take (i := 6) (oi := ?_) (v := ?_) ?_ ?_ ?_ ?_ ?_ ?_ ?_ ?_
      rotate_left 2
      · simp only [List.getElem?_toArray, List.getElem?_cons_succ, List.getElem?_cons_zero]; exact rfl
      · kernel_rfl
      · kernel_rfl
      · kernel_rfl
      · first | exact fun _ _ _ h => h | exact fun _ _ _ h => (HPan.out _ _ _ h).elim
      · (refine Or.inl ⟨by rfl, ?_⟩; (intro w hSw; (try dsimp only at hSw); go_simp) <;> with_reducible rfl)
      · assumption
      simp only [Act.put, List.setIfInBounds_toArray, List.set_cons_zero, List.set_cons_succ]
      refine wpAnyH_take (i := 7) (oi := ?_) (v := ?_) ?_ ?_ ?_ ?_ ?_ ?_ ?_ ?_
      rotate_left 2
      · simp only [List.getElem?_toArray, List.getElem?_cons_succ, List.getElem?_cons_zero]; exact rfl
      · kernel_rfl
      · kernel_rfl
      · kernel_rfl
      · first | exact fun _ _ _ h => h | exact fun _ _ _ h => (HPan.out _ _ _ h).elim
      · (refine Or.inl ⟨by rfl, ?_⟩; (intro w hSw; (try dsimp only at hSw); go_simp) <;> with_reducible rfl)
      · assumption
      simp only [Act.put, List.setIfInBounds_toArray, List.set_cons_zero, List.set_cons_succ]
      refine wpAnyH_take (i := 8) (oi := ?_) (v := ?_) ?_ ?_ ?_ ?_ ?_ ?_ ?_ ?_
      rotate_left 2
      · simp only [List.getElem?_toArray, List.getElem?_cons_succ, List.getElem?_cons_zero]; exact rfl
      · kernel_rfl
      · kernel_rfl
      · kernel_rfl
      · first | exact fun _ _ _ h => h | exact fun _ _ _ h => (HPan.out _ _ _ h).elim
      · (refine Or.inl ⟨by rfl, ?_⟩; (intro w hSw; (try dsimp only at hSw); go_simp) <;> with_reducible rfl)
      · assumption
      simp only [Act.put, List.setIfInBounds_toArray, List.set_cons_zero, List.set_cons_succ]
      refine wpAnyH_done (by kernel_rfl) ?_ _
      go_wp2_with fail
      go_roundg 2
      case measure => omega
      case rel => exact ⟨HK.out.trans (show Keep wr _ Nope from (by (repeat (first | exact Keep.refl _ _ | apply Keep.drew | apply Keep.drewN | apply Keep.alloc)))) (fun _ f => f.elim), .inr ⟨rfl, rfl, by go_num⟩⟩
    · go_wp2_with fail
      go_ret
      exact ⟨rfl, HK.out⟩

theorem hib_has (b m : Nat) (i : Nat) (hi : i < 64) (w : World) (h : RdHib w b m) :
    Calls Tryz.prog 120 #[ptr b, .int .i64 (i : Nat)] w (RetK w (.bool (m.testBit i))) := by
  obtain ⟨hm, h⟩ := h
  have HOK := Lib.hid (hib_ok i hi w)
  have HD := Lib.hid (hib_digit0 i hi)
  rcases h with ⟨rfl, h⟩ | ⟨h0, c, g3, g2, g1, g0⟩
  · have HAT := Lib.hid (hib_at0 b i hi w (by rw [h.cell]; rfl))
    rw [Nat.zero_testBit]
    clear h hm
    unfold ptr nilV at *
    go_enter Tryz.func120, Tryz.ntmps120
    go_wp2_with (first | (go_at_call 199; refine HOK.out.mono ?_; rintro e w' ⟨rfl, rfl⟩) | (go_at_call 200; refine HAT.out.mono ?_; rintro e w1 ⟨rfl, hk⟩; have HK := Lib.hid hk; clear hk))
    refine wp_region_held_drew (S := fun w' => True) (by kernel_rfl) ?_ (fun hHeld => ?_)
    · (try dsimp only); (try trivial)
    refine wpAnyH_take (i := 0) (oi := ?_) (v := ?_) ?_ ?_ ?_ ?_ ?_ ?_ ?_ ?_
    rotate_left 2
    · simp only [List.getElem?_toArray, List.getElem?_cons_succ, List.getElem?_cons_zero]; exact rfl
    · kernel_rfl
    · kernel_rfl
    · kernel_rfl
    · first | exact fun _ _ _ h => h | exact fun _ _ _ h => (HPan.out _ _ _ h).elim
    · (refine Or.inl ⟨by rfl, ?_⟩; (intro w hSw; (try dsimp only at hSw); go_simp) <;> with_reducible rfl)
    · assumption
    simp only [Act.put, List.setIfInBounds_toArray, List.set_cons_zero, List.set_cons_succ]
    refine wpAnyH_take (i := 1) (oi := ?_) (v := ?_) ?_ ?_ ?_ ?_ ?_ ?_ ?_ ?_
    rotate_left 2
    · simp only [List.getElem?_toArray, List.getElem?_cons_succ, List.getElem?_cons_zero]; exact rfl
    · kernel_rfl
    · kernel_rfl
    · kernel_rfl
    · first | exact fun _ _ _ h => h | exact fun _ _ _ h => (HPan.out _ _ _ h).elim
    · (refine Or.inl ⟨by rfl, ?_⟩; (intro w hSw; (try dsimp only at hSw); go_simp) <;> with_reducible rfl)
    · assumption
    simp only [Act.put, List.setIfInBounds_toArray, List.set_cons_zero, List.set_cons_succ]
    refine wpAnyH_take (i := 2) (oi := ?_) (v := ?_) ?_ ?_ ?_ ?_ ?_ ?_ ?_ ?_
    rotate_left 2
    · simp only [List.getElem?_toArray, List.getElem?_cons_succ, List.getElem?_cons_zero]; exact rfl
    · kernel_rfl
    · kernel_rfl
    · kernel_rfl
    · first | exact fun _ _ _ h => h | exact fun _ _ _ h => (HPan.out _ _ _ h).elim
    · (refine Or.inl ⟨by rfl, ?_⟩; (intro w hSw; (try dsimp only at hSw); go_simp) <;> with_reducible rfl)
    · assumption
    simp only [Act.put, List.setIfInBounds_toArray, List.set_cons_zero, List.set_cons_succ]
    refine wpAnyH_take (i := 3) (oi := ?_) (v := undef) ?_ ?_ ?_ ?_ ?_ ?_ ?_ ?_
    rotate_left 1
    · simp only [List.getElem?_toArray, List.getElem?_cons_succ, List.getElem?_cons_zero]; exact rfl
    · kernel_rfl
    · kernel_rfl
    · kernel_rfl
    · first | exact fun _ _ _ h => h | exact fun _ _ _ h => (HPan.out _ _ _ h).elim
    · exact Or.inr ⟨by rfl, rfl⟩
    · assumption
    simp only [Act.put, List.setIfInBounds_toArray, List.set_cons_zero, List.set_cons_succ]
    refine wpAnyH_take (i := 4) (oi := ?_) (v := undef) ?_ ?_ ?_ ?_ ?_ ?_ ?_ ?_
    rotate_left 1
    · simp only [List.getElem?_toArray, List.getElem?_cons_succ, List.getElem?_cons_zero]; exact rfl
    · kernel_rfl
    · kernel_rfl
    · kernel_rfl
    · first | exact fun _ _ _ h => h | exact fun _ _ _ h => (HPan.out _ _ _ h).elim
    · exact Or.inr ⟨by rfl, rfl⟩
    · assumption
    simp only [Act.put, List.setIfInBounds_toArray, List.set_cons_zero, List.set_cons_succ]
    refine wpAnyH_take (i := 5) (oi := ?_) (v := undef) ?_ ?_ ?_ ?_ ?_ ?_ ?_ ?_
    rotate_left 1
    · simp only [List.getElem?_toArray, List.getElem?_cons_succ, List.getElem?_cons_zero]; exact rfl
    · kernel_rfl
    · kernel_rfl
    · kernel_rfl
    · first | exact fun _ _ _ h => h | exact fun _ _ _ h => (HPan.out _ _ _ h).elim
    · exact Or.inr ⟨by rfl, rfl⟩
    · assumption
    simp only [Act.put, List.setIfInBounds_toArray, List.set_cons_zero, List.set_cons_succ]
    refine wpAnyH_take (i := 6) (oi := ?_) (v := undef) ?_ ?_ ?_ ?_ ?_ ?_ ?_ ?_
    rotate_left 1
    · simp only [List.getElem?_toArray, List.getElem?_cons_succ, List.getElem?_cons_zero]; exact rfl
    · kernel_rfl
    · kernel_rfl
    · kernel_rfl
    · first | exact fun _ _ _ h => h | exact fun _ _ _ h => (HPan.out _ _ _ h).elim
    · exact Or.inr ⟨by rfl, rfl⟩
    · assumption
    simp only [Act.put, List.setIfInBounds_toArray, List.set_cons_zero, List.set_cons_succ]
    refine wpAnyH_take (i := 7) (oi := ?_) (v := undef) ?_ ?_ ?_ ?_ ?_ ?_ ?_ ?_
    rotate_left 1
    · simp only [List.getElem?_toArray, List.getElem?_cons_succ, List.getElem?_cons_zero]; exact rfl
    · kernel_rfl
    · kernel_rfl
    · kernel_rfl
    · first | exact fun _ _ _ h => h | exact fun _ _ _ h => (HPan.out _ _ _ h).elim
    · exact Or.inr ⟨by rfl, rfl⟩
    · assumption
    simp only [Act.put, List.setIfInBounds_toArray, List.set_cons_zero, List.set_cons_succ]
    refine wpAnyH_take (i := 8) (oi := ?_) (v := undef) ?_ ?_ ?_ ?_ ?_ ?_ ?_ ?_
    rotate_left 1
    · simp only [List.getElem?_toArray, List.getElem?_cons_succ, List.getElem?_cons_zero]; exact rfl
    · kernel_rfl
    · kernel_rfl
    · kernel_rfl
    · first | exact fun _ _ _ h => h | exact fun _ _ _ h => (HPan.out _ _ _ h).elim
    · exact Or.inr ⟨by rfl, rfl⟩
    · assumption
    simp only [Act.put, List.setIfInBounds_toArray, List.set_cons_zero, List.set_cons_succ]
    refine wpAnyH_take (i := 9) (oi := ?_) (v := undef) ?_ ?_ ?_ ?_ ?_ ?_ ?_ ?_
    rotate_left 1
    · simp only [List.getElem?_toArray, List.getElem?_cons_succ, List.getElem?_cons_zero]; exact rfl
    · kernel_rfl
    · kernel_rfl
    · kernel_rfl
    · first | exact fun _ _ _ h => h | exact fun _ _ _ h => (HPan.out _ _ _ h).elim
    · exact Or.inr ⟨by rfl, rfl⟩
    · assumption
    simp only [Act.put, List.setIfInBounds_toArray, List.set_cons_zero, List.set_cons_succ]
    refine wpAnyH_take (i := 10) (oi := ?_) (v := ?_) ?_ ?_ ?_ ?_ ?_ ?_ ?_ ?_
    rotate_left 2
    · simp only [List.getElem?_toArray, List.getElem?_cons_succ, List.getElem?_cons_zero]; exact rfl
    · kernel_rfl
    · kernel_rfl
    · kernel_rfl
    · first | exact fun _ _ _ h => h | exact fun _ _ _ h => (HPan.out _ _ _ h).elim
    · (refine Or.inl ⟨by rfl, ?_⟩; (intro w hSw; (try dsimp only at hSw); go_simp) <;> with_reducible rfl)
    · assumption
    simp only [Act.put, List.setIfInBounds_toArray, List.set_cons_zero, List.set_cons_succ]
    refine wpAnyH_take (i := 11) (oi := ?_) (v := ?_) ?_ ?_ ?_ ?_ ?_ ?_ ?_ ?_
    rotate_left 2
    · simp only [List.getElem?_toArray, List.getElem?_cons_succ, List.getElem?_cons_zero]; exact rfl
    · kernel_rfl
    · kernel_rfl
    · kernel_rfl
    · first | exact fun _ _ _ h => h | exact fun _ _ _ h => (HPan.out _ _ _ h).elim
    · (refine Or.inl ⟨by rfl, ?_⟩; (intro w hSw; (try dsimp only at hSw); go_simp) <;> with_reducible rfl)
    · assumption
    simp only [Act.put, List.setIfInBounds_toArray, List.set_cons_zero, List.set_cons_succ]
    refine wpAnyH_done (by kernel_rfl) ?_ _
    go_wp2_with fail
    go_ret
    exact ⟨rfl, HK.out.trans (show Keep w1 _ Nope from (by (repeat (first | exact Keep.refl _ _ | apply Keep.drew | apply Keep.drewN | apply Keep.alloc)))) (fun _ f => f.elim)⟩
  · obtain ⟨b2, b1, b0⟩ := c
    simp only at g3 g2 g1 g0
    have HAT := Lib.hid (hib_at b b2 b1 b0 i hi w (by rw [g3.cell]; rfl) (by rw [g2.cell]; rfl) (by rw [g1.cell]; rfl))
    have hc : w.cell? ⟨b0, 0, none⟩ = some (.int .u64 (m : Int)) := by rw [g0.cell]; rfl
    have HB := Lib.hid (bits_has m hm (i : Int))
    have hh : hasW m (i : Int) = m.testBit i := by
      unfold hasW
      have : decide (0 ≤ (i : Int) ∧ (i : Int) < 64) = true := decide_eq_true (by omega)
      rw [this]
      simp
    rw [hh] at HB
    obtain ⟨t, ht⟩ : ∃ t, m.testBit i = t := ⟨_, rfl⟩
    rw [ht] at HB ⊢
    clear g3 g2 g1 g0 hm h0 hh ht
    unfold ptr at *
    go_enter Tryz.func120, Tryz.ntmps120
    go_wp2_with (first | (go_at_call 199; refine HOK.out.mono ?_; rintro e w' ⟨rfl, rfl⟩) | (go_at_call 200; refine HAT.out.mono ?_; rintro e w1 ⟨rfl, hk⟩; have HK := Lib.hid hk; clear hk))
    have hc1 := HK.out.cell hc (fun f => f)
    refine wp_region_held_drew (S := fun w' => w'.cell? ⟨b0, 0, none⟩ = some (.int .u64 (m : Int))) (by kernel_rfl) ?_ (fun hHeld => ?_)
    · (try dsimp only); exact hc1
    refine wpAnyH_take (i := 0) (oi := ?_) (v := ?_) ?_ ?_ ?_ ?_ ?_ ?_ ?_ ?_
    rotate_left 2
    · simp only [List.getElem?_toArray, List.getElem?_cons_succ, List.getElem?_cons_zero]; exact rfl
    · kernel_rfl
    · kernel_rfl
    · kernel_rfl
    · first | exact fun _ _ _ h => h | exact fun _ _ _ h => (HPan.out _ _ _ h).elim
    · (refine Or.inl ⟨by rfl, ?_⟩; (intro w hSw; (try dsimp only at hSw); go_simp) <;> with_reducible rfl)
    · assumption
    simp only [Act.put, List.setIfInBounds_toArray, List.set_cons_zero, List.set_cons_succ]
    refine wpAnyH_take (i := 1) (oi := ?_) (v := ?_) ?_ ?_ ?_ ?_ ?_ ?_ ?_ ?_
    rotate_left 2
    · simp only [List.getElem?_toArray, List.getElem?_cons_succ, List.getElem?_cons_zero]; exact rfl
    · kernel_rfl
    · kernel_rfl
    · kernel_rfl
    · first | exact fun _ _ _ h => h | exact fun _ _ _ h => (HPan.out _ _ _ h).elim
    · (refine Or.inl ⟨by rfl, ?_⟩; (intro w hSw; (try dsimp only at hSw); go_simp) <;> with_reducible rfl)
    · assumption
    simp only [Act.put, List.setIfInBounds_toArray, List.set_cons_zero, List.set_cons_succ]
    refine wpAnyH_take (i := 2) (oi := ?_) (v := ?_) ?_ ?_ ?_ ?_ ?_ ?_ ?_ ?_
    rotate_left 2
    · simp only [List.getElem?_toArray, List.getElem?_cons_succ, List.getElem?_cons_zero]; exact rfl
    · kernel_rfl
    · kernel_rfl
    · kernel_rfl
    · first | exact fun _ _ _ h => h | exact fun _ _ _ h => (HPan.out _ _ _ h).elim
    · (refine Or.inl ⟨by rfl, ?_⟩; (intro w hSw; (try dsimp only at hSw); go_simp) <;> with_reducible rfl)
    · assumption
    simp only [Act.put, List.setIfInBounds_toArray, List.set_cons_zero, List.set_cons_succ]
    refine wpAnyH_take (i := 3) (oi := ?_) (v := ?_) ?_ ?_ ?_ ?_ ?_ ?_ ?_ ?_
    rotate_left 2
    · simp only [List.getElem?_toArray, List.getElem?_cons_succ, List.getElem?_cons_zero]; exact rfl
    · kernel_rfl
    · kernel_rfl
    · kernel_rfl
    · first | exact fun _ _ _ h => h | exact fun _ _ _ h => (HPan.out _ _ _ h).elim
    · (refine Or.inl ⟨by rfl, ?_⟩; (intro w hSw; (try dsimp only at hSw); go_simp) <;> with_reducible rfl)
    · assumption
    simp only [Act.put, List.setIfInBounds_toArray, List.set_cons_zero, List.set_cons_succ]
    refine wpAnyH_take (i := 4) (oi := ?_) (v := ?_) ?_ ?_ ?_ ?_ ?_ ?_ ?_ ?_
    rotate_left 2
    · simp only [List.getElem?_toArray, List.getElem?_cons_succ, List.getElem?_cons_zero]; exact rfl
    · kernel_rfl
    · kernel_rfl
    · kernel_rfl
    · first | exact fun _ _ _ h => h | exact fun _ _ _ h => (HPan.out _ _ _ h).elim
    · (refine Or.inl ⟨by rfl, ?_⟩; (intro w hSw; (try dsimp only at hSw); go_simp) <;> with_reducible rfl)
    · assumption
    simp only [Act.put, List.setIfInBounds_toArray, List.set_cons_zero, List.set_cons_succ]
    refine wpAnyH_take (i := 5) (oi := ?_) (v := ?_) ?_ ?_ ?_ ?_ ?_ ?_ ?_ ?_
    rotate_left 2
    · simp only [List.getElem?_toArray, List.getElem?_cons_succ, List.getElem?_cons_zero]; exact rfl
    · kernel_rfl
    · kernel_rfl
    · kernel_rfl
    · first | exact fun _ _ _ h => h | exact fun _ _ _ h => (HPan.out _ _ _ h).elim
    · (refine Or.inl ⟨by rfl, ?_⟩; (intro w hSw; (try dsimp only at hSw); go_simp) <;> with_reducible rfl)
    · assumption
    simp only [Act.put, List.setIfInBounds_toArray, List.set_cons_zero, List.set_cons_succ]
    refine wpAnyH_take (i := 6) (oi := ?_) (v := ?_) ?_ ?_ ?_ ?_ ?_ ?_ ?_ ?_
    rotate_left 2
    · simp only [List.getElem?_toArray, List.getElem?_cons_succ, List.getElem?_cons_zero]; exact rfl
    · kernel_rfl
    · kernel_rfl
    · kernel_rfl
    · first | exact fun _ _ _ h => h | exact fun _ _ _ h => (HPan.out _ _ _ h).elim
    · (refine Or.inl ⟨by rfl, ?_⟩; (intro w hSw; (try dsimp only at hSw); go_simp) <;> with_reducible rfl)
    · assumption
    simp only [Act.put, List.setIfInBounds_toArray, List.set_cons_zero, List.set_cons_succ]
    refine wpAnyH_take (i := 7) (oi := ?_) (v := ?_) ?_ ?_ ?_ ?_ ?_ ?_ ?_ ?_
    rotate_left 2
    · simp only [List.getElem?_toArray, List.getElem?_cons_succ, List.getElem?_cons_zero]; exact rfl
    · kernel_rfl
    · kernel_rfl
    · kernel_rfl
    · first | exact fun _ _ _ h => h | exact fun _ _ _ h => (HPan.out _ _ _ h).elim
    · (refine Or.inl ⟨by rfl, ?_⟩; (intro w hSw; (try dsimp only at hSw); go_simp) <;> with_reducible rfl)
    · assumption
    simp only [Act.put, List.setIfInBounds_toArray, List.set_cons_zero, List.set_cons_succ]
    refine wpAnyH_ready (rs := [8]) (by kernel_rfl) (by simp) ?_
    refine AllReadyH.cons rfl (fun K hK => ?_) (AllReadyH.nil)
    go_simp
    go_wp2_with ((go_at_call 202; refine (HD.out _).mono ?_; rintro e w' ⟨rfl, rfl⟩))
    refine hK.out _ _ ?_ (fun hHeld => ?_)
    · (try dsimp only); exact hc1
    clear hK K
    refine wpAnyH_ready (rs := [9]) (by kernel_rfl) (by simp) ?_
    refine AllReadyH.cons rfl (fun K hK => ?_) (AllReadyH.nil)
    go_simp
    go_wp2_with ((go_at_call 201; refine (HB.out _).mono ?_; rintro e w' ⟨rfl, rfl⟩))
    refine hK.out _ _ ?_ (fun hHeld => ?_)
    · (try dsimp only); exact hc1
    clear hK K
    refine wpAnyH_take (i := 10) (oi := ?_) (v := ?_) ?_ ?_ ?_ ?_ ?_ ?_ ?_ ?_
    rotate_left 2
    · simp only [List.getElem?_toArray, List.getElem?_cons_succ, List.getElem?_cons_zero]; exact rfl
    · kernel_rfl
    · kernel_rfl
    · kernel_rfl
    · first | exact fun _ _ _ h => h | exact fun _ _ _ h => (HPan.out _ _ _ h).elim
    · (refine Or.inl ⟨by rfl, ?_⟩; (intro w hSw; (try dsimp only at hSw); go_simp) <;> with_reducible rfl)
    · assumption
    simp only [Act.put, List.setIfInBounds_toArray, List.set_cons_zero, List.set_cons_succ]
    refine wpAnyH_take (i := 11) (oi := ?_) (v := ?_) ?_ ?_ ?_ ?_ ?_ ?_ ?_ ?_
    rotate_left 2
    · simp only [List.getElem?_toArray, List.getElem?_cons_succ, List.getElem?_cons_zero]; exact rfl
    · kernel_rfl
    · kernel_rfl
    · kernel_rfl
    · first | exact fun _ _ _ h => h | exact fun _ _ _ h => (HPan.out _ _ _ h).elim
    · (refine Or.inl ⟨by rfl, ?_⟩; (intro w hSw; (try dsimp only at hSw); go_simp) <;> with_reducible rfl)
    · assumption
    simp only [Act.put, List.setIfInBounds_toArray, List.set_cons_zero, List.set_cons_succ]
    refine wpAnyH_done (by kernel_rfl) ?_ _
    go_wp2_with fail
    go_ret
    exact ⟨rfl, HK.out.trans (show Keep w1 _ Nope from (by (repeat (first | exact Keep.refl _ _ | apply Keep.drew | apply Keep.drewN | apply Keep.alloc)))) (fun _ f => f.elim)⟩
end Go.Proofs.YtkiikblpgppmkaaGreatDoor

namespace Go.Proofs.YtkiikblpgppmkaaGreatDoor
open Go Go.RowKit
set_option linter.unusedVariables false
set_option linter.unusedSimpArgs false

def RetNew (w : World) (e : Ending) (w' : World) : Prop := ∃ b, e = .returned (ptr b) ∧ (hibA b 0).at' w' (New w w') ∧ Keep w w' Nope
theorem hib_new (w : World) : Calls Tryz.prog 215 #[.slice none 0 0] w (RetNew w) := by
  go_enter Tryz.func215, Tryz.ntmps215
  go_wp2_with fail
  go_loopg [10] 0 (fun g v10 wr => v10 = .int .i64 0 ∧ wr = w.alloc (.cells (setCs 0 nilV 0) 316))
  case atStart => exact ⟨rfl, rfl⟩
  case round =>
    obtain ⟨rfl, rfl⟩ := hrel
    go_wp2_with fail
    go_ret
    refine ⟨w.heap.size, rfl, ?_, (Keep.refl w Nope).alloc _⟩
    unfold hibA
    rw [if_pos rfl]
    exact ⟨Blk.new _ _ _, Nat.le_refl _, by simp [World.size_alloc]⟩
end Go.Proofs.YtkiikblpgppmkaaGreatDoor

namespace Go.Proofs.YtkiikblpgppmkaaGreatDoor
open Go Go.RowKit
set_option linter.unusedVariables false
set_option linter.unusedSimpArgs false

theorem rd_lit1 (w : World) (x : Int) : Rd (fun z => z = w.heap.size) (w.alloc (.cells #[.int .i64 x] 3)) (.slice (some ⟨w.heap.size, 0, none⟩) 1 1) 1 (ints [x]) :=
  (Own.lit (S := fun z => z = w.heap.size) w 3 1 1 #[.int .i64 x] (by decide) rfl rfl).rd
def AddRel (b b2 b1 b0 m : Nat) (F : Nat → Prop) (w : World) (g : Nat) (v6 v7 : Value) (wr : World) : Prop :=
  Keep w wr F ∧ Blk wr b (setCs 1 (.pointer (some ⟨b2, 0, none⟩)) (pop m)) 316 ∧ Blk wr b2 (nodeCs 1 (.pointer (some ⟨b1, 0, none⟩))) 313 ∧ Blk wr b1 (nodeCs 1 (.pointer (some ⟨b0, 0, none⟩))) 313 ∧ Blk wr b0 (nodeCs m nilV) 313 ∧
  ((g = 3 ∧ v6 = .pointer (some ⟨b, 0, none⟩) ∧ v7 = .int .i64 3) ∨ (g = 2 ∧ v6 = .pointer (some ⟨b2, 0, none⟩) ∧ v7 = .int .i64 2) ∨ (g = 1 ∧ v6 = .pointer (some ⟨b1, 0, none⟩) ∧ v7 = .int .i64 1) ∨ (g = 0 ∧ v6 = .pointer (some ⟨b0, 0, none⟩) ∧ v7 = .int .i64 0))
theorem hib_add1 (b b2 b1 b0 m i : Nat) (F : Nat → Prop) (hi : i < 64) (w : World) (hm : m < 2 ^ 64) (h0 : m ≠ 0) (hb : m.testBit i = false)
    (g3 : Blk w b (setCs 1 (.pointer (some ⟨b2, 0, none⟩)) (pop m)) 316) (g2 : Blk w b2 (nodeCs 1 (.pointer (some ⟨b1, 0, none⟩))) 313) (g1 : Blk w b1 (nodeCs 1 (.pointer (some ⟨b0, 0, none⟩))) 313) (g0 : Blk w b0 (nodeCs m nilV) 313)
    (n21 : b2 ≠ b1) (n20 : b2 ≠ b0) (n10 : b1 ≠ b0) (f3 : F b) (f2 : F b2) (f1 : F b1) (f0 : F b0) :
    Calls Tryz.prog 123 #[ptr b, .int .i64 (i : Nat)] w (fun e w' => e = .returned (.tuple #[.bool true, .int .i64 0]) ∧ Keep w w' F ∧
      Blk w' b (setCs 1 (.pointer (some ⟨b2, 0, none⟩)) (pop m + 1)) 316 ∧ Blk w' b2 (nodeCs 1 (.pointer (some ⟨b1, 0, none⟩))) 313 ∧ Blk w' b1 (nodeCs 1 (.pointer (some ⟨b0, 0, none⟩))) 313 ∧ Blk w' b0 (nodeCs (addW m i) nilV) 313) := by
  have HH := Lib.hid (hib_has b m i hi w ⟨hm, .inr ⟨h0, ⟨b2, b1, b0⟩, g3, g2, g1, g0⟩⟩)
  rw [hb] at HH
  have HOK := Lib.hid (hib_ok i hi w)
  have HD := Lib.hid (fun (l : Nat) h1 h2 w => hib_digit i hi l h1 h2 w)
  have HD0 := Lib.hid (hib_digit0 i hi)
  unfold ptr at *
  go_enter Tryz.func123, Tryz.ntmps123
  go_wp2_with (first | (go_at_call 199; refine HOK.out.mono ?_; rintro e w' ⟨rfl, rfl⟩) | (go_at_call 120; refine HH.out.mono ?_; rintro e w1 ⟨rfl, hk⟩; have HK := Lib.hid hk; clear hk))
  go_loopg [6, 7] 3 (fun g v6 v7 wr => AddRel b b2 b1 b0 m F w g v6 v7 wr)
  case atStart => exact ⟨HK.out.mono (fun _ f => f.elim), g3.keep HK.out (fun f => f), g2.keep HK.out (fun f => f), g1.keep HK.out (fun f => f), g0.keep HK.out (fun f => f), .inl ⟨rfl, rfl, rfl⟩⟩
  case round =>
    obtain ⟨hk, q3, q2, q1, q0, ⟨rfl, rfl, rfl⟩ | ⟨rfl, rfl, rfl⟩ | ⟨rfl, rfl, rfl⟩ | ⟨rfl, rfl, rfl⟩⟩ := hrel
    all_goals have HKr := Lib.hid hk; clear hk
    · have ha := (Keep.refl wr Nope).alloc (.cells #[.int .i64 0] 3)
      have kc : wr.cell? ⟨b, 0, none⟩ = some (.int .u64 1) := by rw [q3.cell]; rfl
      have p3 := (q3.keep ha (fun f => f)).setCell 0 (.int .u64 1)
      have p2 := (q2.keep ha (fun f => f)).other (p := ⟨b, 0, none⟩) (fun e => by subst e; exact absurd rfl (Blk.ne q2 q3 (by decide))) (.int .u64 1)
      have p1 := (q1.keep ha (fun f => f)).other (p := ⟨b, 0, none⟩) (fun e => by subst e; exact absurd rfl (Blk.ne q1 q3 (by decide))) (.int .u64 1)
      have p0 := (q0.keep ha (fun f => f)).other (p := ⟨b, 0, none⟩) (fun e => by subst e; exact absurd rfl (Blk.ne q0 q3 (by decide))) (.int .u64 1)
      have kf := (q3.keep ha (fun f => f)).frozen 0
      have ka : (wr.alloc (.cells #[.int .i64 0] 3)).cell? ⟨b, 0, none⟩ = some (.int .u64 1) := by rw [(q3.keep ha (fun f => f)).cell]; rfl
      have k1 : ((wr.alloc (.cells #[.int .i64 0] 3)).setCell ⟨b, 0, none⟩ (.int .u64 1)).cell? ⟨b, 1, none⟩ = some (.pointer (some ⟨b2, 0, none⟩)) := by rw [p3.cell]; rfl
      have HK2 := Lib.hid (HKr.out.trans ((ha.mono (T := F) (fun _ f => f.elim)).setCell (p := ⟨b, 0, none⟩) (.inl f3) (.int .u64 1)) (fun _ f => .inl f))
      have HP := Lib.hid (And.intro p3 (And.intro p2 (And.intro p1 p0)))
      clear p3 p2 p1 p0 q3 q2 q1 q0 ha
      go_wp2_with (first | (go_at_call 202; refine (HD.out 3 (by omega) (by omega) _).mono ?_; rintro e w' ⟨rfl, rfl⟩) | (go_at_call 203; refine (word_with 1 (by decide) 0 (by decide) _ _ _ (rd_lit1 _ 0)).mono ?_; rintro e w' ⟨rfl, rfl⟩; rw [show ((addW 1 0 : Nat) : Int) = 1 from rfl]))
      go_roundg 2
      case measure => omega
      case rel => exact ⟨HK2.out, HP.out.1, HP.out.2.1, HP.out.2.2.1, HP.out.2.2.2, .inr (.inl ⟨rfl, rfl, by go_num⟩)⟩
    · have ha := (Keep.refl wr Nope).alloc (.cells #[.int .i64 0] 3)
      have kc : wr.cell? ⟨b2, 0, none⟩ = some (.int .u64 1) := by rw [q2.cell]; rfl
      have p3 := (q3.keep ha (fun f => f)).other (p := ⟨b2, 0, none⟩) (fun e => by subst e; exact absurd rfl (Blk.ne q3 q2 (by decide))) (.int .u64 1)
      have p2 := (q2.keep ha (fun f => f)).setCell 0 (.int .u64 1)
      have p1 := (q1.keep ha (fun f => f)).other (p := ⟨b2, 0, none⟩) (by first | exact n21 | exact n20 | exact n10 | exact n21.symm | exact n20.symm | exact n10.symm) (.int .u64 1)
      have p0 := (q0.keep ha (fun f => f)).other (p := ⟨b2, 0, none⟩) (by first | exact n21 | exact n20 | exact n10 | exact n21.symm | exact n20.symm | exact n10.symm) (.int .u64 1)
      have kf := (q2.keep ha (fun f => f)).frozen 0
      have ka : (wr.alloc (.cells #[.int .i64 0] 3)).cell? ⟨b2, 0, none⟩ = some (.int .u64 1) := by rw [(q2.keep ha (fun f => f)).cell]; rfl
      have k1 : ((wr.alloc (.cells #[.int .i64 0] 3)).setCell ⟨b2, 0, none⟩ (.int .u64 1)).cell? ⟨b2, 1, none⟩ = some (.pointer (some ⟨b1, 0, none⟩)) := by rw [p2.cell]; rfl
      have HK2 := Lib.hid (HKr.out.trans ((ha.mono (T := F) (fun _ f => f.elim)).setCell (p := ⟨b2, 0, none⟩) (.inl f2) (.int .u64 1)) (fun _ f => .inl f))
      have HP := Lib.hid (And.intro p3 (And.intro p2 (And.intro p1 p0)))
      clear p3 p2 p1 p0 q3 q2 q1 q0 ha
      go_wp2_with (first | (go_at_call 202; refine (HD.out 2 (by omega) (by omega) _).mono ?_; rintro e w' ⟨rfl, rfl⟩) | (go_at_call 203; refine (word_with 1 (by decide) 0 (by decide) _ _ _ (rd_lit1 _ 0)).mono ?_; rintro e w' ⟨rfl, rfl⟩; rw [show ((addW 1 0 : Nat) : Int) = 1 from rfl]))
      go_roundg 1
      case measure => omega
      case rel => exact ⟨HK2.out, HP.out.1, HP.out.2.1, HP.out.2.2.1, HP.out.2.2.2, .inr (.inr (.inl ⟨rfl, rfl, by go_num⟩))⟩
    · have ha := (Keep.refl wr Nope).alloc (.cells #[.int .i64 0] 3)
      have kc : wr.cell? ⟨b1, 0, none⟩ = some (.int .u64 1) := by rw [q1.cell]; rfl
      have p3 := (q3.keep ha (fun f => f)).other (p := ⟨b1, 0, none⟩) (fun e => by subst e; exact absurd rfl (Blk.ne q3 q1 (by decide))) (.int .u64 1)
      have p2 := (q2.keep ha (fun f => f)).other (p := ⟨b1, 0, none⟩) (by first | exact n21 | exact n20 | exact n10 | exact n21.symm | exact n20.symm | exact n10.symm) (.int .u64 1)
      have p1 := (q1.keep ha (fun f => f)).setCell 0 (.int .u64 1)
      have p0 := (q0.keep ha (fun f => f)).other (p := ⟨b1, 0, none⟩) (by first | exact n21 | exact n20 | exact n10 | exact n21.symm | exact n20.symm | exact n10.symm) (.int .u64 1)
      have kf := (q1.keep ha (fun f => f)).frozen 0
      have ka : (wr.alloc (.cells #[.int .i64 0] 3)).cell? ⟨b1, 0, none⟩ = some (.int .u64 1) := by rw [(q1.keep ha (fun f => f)).cell]; rfl
      have k1 : ((wr.alloc (.cells #[.int .i64 0] 3)).setCell ⟨b1, 0, none⟩ (.int .u64 1)).cell? ⟨b1, 1, none⟩ = some (.pointer (some ⟨b0, 0, none⟩)) := by rw [p1.cell]; rfl
      have HK2 := Lib.hid (HKr.out.trans ((ha.mono (T := F) (fun _ f => f.elim)).setCell (p := ⟨b1, 0, none⟩) (.inl f1) (.int .u64 1)) (fun _ f => .inl f))
      have HP := Lib.hid (And.intro p3 (And.intro p2 (And.intro p1 p0)))
      clear p3 p2 p1 p0 q3 q2 q1 q0 ha
      go_wp2_with (first | (go_at_call 202; refine (HD.out 1 (by omega) (by omega) _).mono ?_; rintro e w' ⟨rfl, rfl⟩) | (go_at_call 203; refine (word_with 1 (by decide) 0 (by decide) _ _ _ (rd_lit1 _ 0)).mono ?_; rintro e w' ⟨rfl, rfl⟩; rw [show ((addW 1 0 : Nat) : Int) = 1 from rfl]))
      go_roundg 0
      case measure => omega
      case rel => exact ⟨HK2.out, HP.out.1, HP.out.2.1, HP.out.2.2.1, HP.out.2.2.2, .inr (.inr (.inr (⟨rfl, rfl, by go_num⟩)))⟩
    · have kc : wr.cell? ⟨b0, 0, none⟩ = some (.int .u64 (m : Int)) := by rw [q0.cell]; rfl
      have ha := (Keep.refl wr Nope).alloc (.cells #[.int .i64 (i : Int)] 3)
      have kf := (q0.keep ha (fun f => f)).frozen 0
      have p0 := ((q0.keep ha (fun f => f)).setCell 0 (.int .u64 (addW m i : Nat))).drew
      have p1 := ((q1.keep ha (fun f => f)).other (p := ⟨b0, 0, none⟩) n10 (.int .u64 (addW m i : Nat))).drew
      have p2 := ((q2.keep ha (fun f => f)).other (p := ⟨b0, 0, none⟩) n20 (.int .u64 (addW m i : Nat))).drew
      have p3 := ((q3.keep ha (fun f => f)).other (p := ⟨b0, 0, none⟩) (fun e => by subst e; exact absurd rfl (Blk.ne q0 q3 (by decide))) (.int .u64 (addW m i : Nat))).drew
      have HK2 := Lib.hid (HKr.out.trans (((ha.mono (T := F) (fun _ f => f.elim)).setCell (p := ⟨b0, 0, none⟩) (.inl f0) (.int .u64 (addW m i : Nat))).drew) (fun _ f => .inl f))
      have HP := Lib.hid (And.intro p3 (And.intro p2 (And.intro p1 p0)))
      clear p3 p2 p1 p0 q3 q2 q1 q0 ha
      go_wp2_with fail
      refine wp_region_M (r := 11) (S := fun w' => w'.cell? ⟨b0, 0, none⟩ = some (.int .u64 (m : Int))) (by kernel_rfl) ?_ (fun hHeld => ?_)
      · (try dsimp only); first | exact kc | exact (show Keep wr _ Nope from (by (repeat (first | exact Keep.refl _ _ | apply Keep.drew | apply Keep.drewN | apply Keep.alloc)))).cell kc (fun f => f)
      (refine wpAnyM_takeP (i := 0) (oi := ?_) (v := ?_) ?_ ?_ ?_ ?_ ?_ ?_ ?_ ?_ ?_; rotate_left 2; (· simp only [List.getElem?_toArray, List.getElem?_cons_succ, List.getElem?_cons_zero]; exact rfl); (· kernel_rfl); (· kernel_rfl); (· kernel_rfl); (· kernel_rfl); (· first | exact fun _ _ _ h => h | exact fun _ _ _ h => (HPan.out _ _ _ h).elim); (· (refine Or.inl ⟨by rfl, ?_⟩; (intro w hSw; (try dsimp only at hSw); go_simp) <;> with_reducible rfl)); (· exact fun _ => hHeld); simp only [Act.put, List.setIfInBounds_toArray, List.set_cons_zero, List.set_cons_succ])
      (refine wpAnyM_takeP (i := 1) (oi := ?_) (v := ?_) ?_ ?_ ?_ ?_ ?_ ?_ ?_ ?_ ?_; rotate_left 2; (· simp only [List.getElem?_toArray, List.getElem?_cons_succ, List.getElem?_cons_zero]; exact rfl); (· kernel_rfl); (· kernel_rfl); (· kernel_rfl); (· kernel_rfl); (· first | exact fun _ _ _ h => h | exact fun _ _ _ h => (HPan.out _ _ _ h).elim); (· (refine Or.inl ⟨by rfl, ?_⟩; (intro w hSw; (try dsimp only at hSw); go_simp) <;> with_reducible rfl)); (· exact fun _ => hHeld); simp only [Act.put, List.setIfInBounds_toArray, List.set_cons_zero, List.set_cons_succ])
      (refine wpAnyM_takeP (i := 2) (oi := ?_) (v := ?_) ?_ ?_ ?_ ?_ ?_ ?_ ?_ ?_ ?_; rotate_left 2; (· simp only [List.getElem?_toArray, List.getElem?_cons_succ, List.getElem?_cons_zero]; exact rfl); (· kernel_rfl); (· kernel_rfl); (· kernel_rfl); (· kernel_rfl); (· first | exact fun _ _ _ h => h | exact fun _ _ _ h => (HPan.out _ _ _ h).elim); (· (refine Or.inl ⟨by rfl, ?_⟩; (intro w hSw; (try dsimp only at hSw); go_simp) <;> with_reducible rfl)); (· exact fun _ => hHeld); simp only [Act.put, List.setIfInBounds_toArray, List.set_cons_zero, List.set_cons_succ])
      (refine wpAnyM_takeP (i := 3) (oi := ?_) (v := ?_) ?_ ?_ ?_ ?_ ?_ ?_ ?_ ?_ ?_; rotate_left 2; (· simp only [List.getElem?_toArray, List.getElem?_cons_succ, List.getElem?_cons_zero]; exact rfl); (· kernel_rfl); (· kernel_rfl); (· kernel_rfl); (· kernel_rfl); (· first | exact fun _ _ _ h => h | exact fun _ _ _ h => (HPan.out _ _ _ h).elim); (· (refine Or.inl ⟨by rfl, ?_⟩; (intro w hSw; (try dsimp only at hSw); go_simp) <;> with_reducible rfl)); (· exact fun _ => hHeld); simp only [Act.put, List.setIfInBounds_toArray, List.set_cons_zero, List.set_cons_succ])
      (refine wpAnyM_take (i := 4) (oi := ?_) (v := ?_) ?_ ?_ ?_ ?_ ?_ ?_ ?_ ?_ ?_ ?_; rotate_left 2; (· simp only [List.getElem?_toArray, List.getElem?_cons_succ, List.getElem?_cons_zero]; exact rfl); (· kernel_rfl); (· kernel_rfl); (· kernel_rfl); (· kernel_rfl); (· kernel_rfl); (· first | exact fun _ _ _ h => h | exact fun _ _ _ h => (HPan.out _ _ _ h).elim); (· (refine Or.inl ⟨by rfl, ?_⟩; (intro w hSw; (try dsimp only at hSw); go_simp) <;> with_reducible rfl)); (· assumption); simp only [Act.put, List.setIfInBounds_toArray, List.set_cons_zero, List.set_cons_succ])
      (refine wpAnyM_takeP (i := 5) (oi := ?_) (v := ?_) ?_ ?_ ?_ ?_ ?_ ?_ ?_ ?_ ?_; rotate_left 2; (· simp only [List.getElem?_toArray, List.getElem?_cons_succ, List.getElem?_cons_zero]; exact rfl); (· kernel_rfl); (· kernel_rfl); (· kernel_rfl); (· kernel_rfl); (· first | exact fun _ _ _ h => h | exact fun _ _ _ h => (HPan.out _ _ _ h).elim); (· (refine Or.inl ⟨by rfl, ?_⟩; (intro w hSw; (try dsimp only at hSw); go_simp) <;> with_reducible rfl)); (· exact fun _ => hHeld); simp only [Act.put, List.setIfInBounds_toArray, List.set_cons_zero, List.set_cons_succ])
      refine wpAnyM_ready (rs := [6]) (by kernel_rfl) (by simp) ?_
      refine AllReadyM.cons (o := ?_) ?_ ?_ ?_
      rotate_left 1
      · simp only [List.getElem?_toArray, List.getElem?_cons_succ, List.getElem?_cons_zero]; exact rfl
      rotate_left 1
      · exact AllReadyM.nil
      intro K hK
      go_simp
      go_wp2_with ((go_at_call 202; refine (HD0.out _).mono ?_; rintro e w' ⟨rfl, rfl⟩))
      refine hK.out _ _ ?_ (fun hHeld => ?_)
      · (try dsimp only); first | exact kc | exact (show Keep wr _ Nope from (by (repeat (first | exact Keep.refl _ _ | apply Keep.drew | apply Keep.drewN | apply Keep.alloc)))).cell kc (fun f => f)
      clear hK K
      refine wpAnyM_ready (rs := [7]) (by kernel_rfl) (by simp) ?_
      refine AllReadyM.cons (o := ?_) ?_ ?_ ?_
      rotate_left 1
      · simp only [List.getElem?_toArray, List.getElem?_cons_succ, List.getElem?_cons_zero]; exact rfl
      rotate_left 1
      · exact AllReadyM.nil
      intro K hK
      go_simp
      refine hK.out _ _ ?_ (fun hHeld => ?_)
      · (try dsimp only); first | exact kc | exact (show Keep wr _ Nope from (by (repeat (first | exact Keep.refl _ _ | apply Keep.drew | apply Keep.drewN | apply Keep.alloc)))).cell kc (fun f => f)
      clear hK K
      refine wpAnyM_ready (rs := [8]) (by kernel_rfl) (by simp) ?_
      refine AllReadyM.cons (o := ?_) ?_ ?_ ?_
      rotate_left 1
      · simp only [List.getElem?_toArray, List.getElem?_cons_succ, List.getElem?_cons_zero]; exact rfl
      rotate_left 1
      · exact AllReadyM.nil
      intro K hK
      go_simp
      go_wp2_with ((go_at_call 203; refine (word_with m hm i hi _ _ (fun z => z = wr.heap.size) (by first | exact (rd_lit1 _ (i : Int)).drew | exact rd_lit1 _ (i : Int))).mono ?_; rintro e w' ⟨rfl, rfl⟩))
      refine hK.out _ _ ?_ (fun hHeld => ?_)
      · (try dsimp only); first | exact kc | exact (show Keep wr _ Nope from (by (repeat (first | exact Keep.refl _ _ | apply Keep.drew | apply Keep.drewN | apply Keep.alloc)))).cell kc (fun f => f)
      clear hK K
      (refine wpAnyM_takeP (i := 9) (oi := ?_) (v := ?_) ?_ ?_ ?_ ?_ ?_ ?_ ?_ ?_ ?_; rotate_left 2; (· simp only [List.getElem?_toArray, List.getElem?_cons_succ, List.getElem?_cons_zero]; exact rfl); (· kernel_rfl); (· kernel_rfl); (· kernel_rfl); (· kernel_rfl); (· first | exact fun _ _ _ h => h | exact fun _ _ _ h => (HPan.out _ _ _ h).elim); (· (refine Or.inl ⟨by rfl, ?_⟩; (intro w hSw; (try dsimp only at hSw); go_simp) <;> with_reducible rfl)); (· exact fun _ => hHeld); simp only [Act.put, List.setIfInBounds_toArray, List.set_cons_zero, List.set_cons_succ])
      (refine wpAnyM_takeP (i := 10) (oi := ?_) (v := ?_) ?_ ?_ ?_ ?_ ?_ ?_ ?_ ?_ ?_; rotate_left 2; (· simp only [List.getElem?_toArray, List.getElem?_cons_succ, List.getElem?_cons_zero]; exact rfl); (· kernel_rfl); (· kernel_rfl); (· kernel_rfl); (· kernel_rfl); (· first | exact fun _ _ _ h => h | exact fun _ _ _ h => (HPan.out _ _ _ h).elim); (· (refine Or.inl ⟨by rfl, ?_⟩; (intro w hSw; (try dsimp only at hSw); go_simp) <;> with_reducible rfl)); (· exact fun _ => hHeld); simp only [Act.put, List.setIfInBounds_toArray, List.set_cons_zero, List.set_cons_succ])
      refine wpAnyM_ready (rs := [11]) (by kernel_rfl) (by simp) ?_
      refine AllReadyM.free (o := ?_) ?_ (by kernel_rfl) ?_ ?_
      rotate_left 1
      · simp only [List.getElem?_toArray, List.getElem?_cons_succ, List.getElem?_cons_zero]; exact rfl
      rotate_left 1
      · exact AllReadyM.nil
      intro K hK
      go_simp
      refine hK.out _ _ ?_
      clear hK K
      refine wpAnyM_done (by kernel_rfl) ?_ _
      obtain ⟨w9, hw9⟩ : ∃ w9, ((wr.alloc (.cells #[.int .i64 (i : Int)] 3)).setCell ⟨b0, 0, none⟩ (.int .u64 (addW m i : Nat))).drew = w9 := ⟨_, rfl⟩
      rw [hw9] at HP HK2 ⊢
      clear hw9
      have k65 : w9.cell? ⟨b, 65, none⟩ = some (.int .i64 (pop m : Nat)) := by rw [HP.out.1.cell]; rfl
      have f65 := HP.out.1.frozen 65
      have hpn : pop m ≤ 64 := pop_le m
      go_wp2_with fail
      go_ret2
      refine ⟨rfl, HK2.out.setCell (p := ⟨b, 65, none⟩) (.inl f3) _, ?_, HP.out.2.1.other (p := ⟨b, 65, none⟩) (fun e => by subst e; exact absurd rfl (Blk.ne HP.out.2.1 HP.out.1 (by decide))) _, HP.out.2.2.1.other (p := ⟨b, 65, none⟩) (fun e => by subst e; exact absurd rfl (Blk.ne HP.out.2.2.1 HP.out.1 (by decide))) _, HP.out.2.2.2.other (p := ⟨b, 65, none⟩) (fun e => by subst e; exact absurd rfl (Blk.ne HP.out.2.2.2 HP.out.1 (by decide))) _⟩
      exact HP.out.1.setCell 65 (.int .i64 ((pop m + 1 : Nat) : Int))
end Go.Proofs.YtkiikblpgppmkaaGreatDoor

namespace Go.Proofs.YtkiikblpgppmkaaGreatDoor
open Go Go.RowKit
set_option linter.unusedVariables false
set_option linter.unusedSimpArgs false

theorem hib_add_in (b m i : Nat) (hi : i < 64) (w : World) (h : RdHib w b m) (hb : m.testBit i = true) :
    Calls Tryz.prog 123 #[ptr b, .int .i64 (i : Nat)] w (RetK w (.tuple #[.bool false, .int .i64 0])) := by
  have HH := Lib.hid (hib_has b m i hi w h)
  rw [hb] at HH
  have HOK := Lib.hid (hib_ok i hi w)
  clear h hb
  unfold ptr at *
  go_enter Tryz.func123, Tryz.ntmps123
  go_wp2_with (first | (go_at_call 199; refine HOK.out.mono ?_; rintro e w' ⟨rfl, rfl⟩) | (go_at_call 120; refine HH.out.mono ?_; rintro e w1 ⟨rfl, hk⟩; have HK := Lib.hid hk; clear hk))
  go_ret2
  exact ⟨rfl, HK.out⟩
theorem addW_has {m i : Nat} (hm : m < 2 ^ 64) (h : m.testBit i = true) (hi : i < 64) : addW m i = m := by
  apply word_ext (addW_lt hm hi) hm
  intro k hk
  rw [bit_add]
  by_cases e : k = i
  · rw [e, h]; simp
  · simp [e]
end Go.Proofs.YtkiikblpgppmkaaGreatDoor
