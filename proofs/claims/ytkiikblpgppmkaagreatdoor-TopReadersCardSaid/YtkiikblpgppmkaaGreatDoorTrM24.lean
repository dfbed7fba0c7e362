/-
  The document's world: New (that there is one; nothing old has turned); A world of numbers: of none (law18.WorldOf); The world of TopReaders, plainly: what its acts note; a log that tells what is there; The world of TopReaders: what each act leaves, whatever handle it names.
-/
import Derived.Test.YtkiikblpgppmkaaGreatDoorTrM23
import Derived.Test.YtkiikblpgppmkaaGreatDoorTrM14
namespace Go.Proofs.YtkiikblpgppmkaaGreatDoor
open Go Go.RowKit
set_option linter.unusedVariables false
set_option linter.unusedSimpArgs false

theorem ref_newAlloc (size top : Int) (w : World) : Calls Tryz.prog 101 #[.int .i64 size, .int .i64 top] w (fun e w' => ∃ ab : Nat, e = .returned (.pointer (some ⟨ab, 0, none⟩)) ∧ Keep w w' Nope) := by
  go_enter Tryz.func101, Tryz.ntmps101
  go_wp2_with fail
  go_ret
  exact ⟨_, rfl, (show Keep w _ Nope from (by (repeat (first | exact Keep.refl _ _ | apply Keep.drew | apply Keep.drewN | apply Keep.alloc))))⟩
set_option maxHeartbeats 1000000 in
theorem ref_newSlot (d : DescV) (w : World) : Calls Tryz.prog 102 #[.agg #[.int .i64 (d.kd : Nat), .int .i64 (d.var : Nat), .int .i64 (d.bd : Nat)]] w (fun e w' => ∃ sb : Nat, e = .returned (.pointer (some ⟨sb, 0, none⟩)) ∧ Keep w w' Nope) := by
  obtain ⟨kd, var, bd⟩ := d
  simp only
  by_cases h : 0 < bd
  · have e0 : decide ((bd : Int) > 0) = true := decide_eq_true (by omega)
    have e1 : decide (0 < bd) = true := decide_eq_true h
    go_enter Tryz.func102, Tryz.ntmps102
    go_wp2_with fail
    go_ret
    exact ⟨_, rfl, (show Keep w _ Nope from (by (repeat (first | exact Keep.refl _ _ | apply Keep.drew | apply Keep.drewN | apply Keep.alloc))))⟩
  · have e0 : decide ((bd : Int) > 0) = false := decide_eq_false (by omega)
    have e1 : decide (0 < bd) = false := decide_eq_false h
    go_enter Tryz.func102, Tryz.ntmps102
    go_wp2_with fail
    go_ret
    exact ⟨_, rfl, (show Keep w _ Nope from (by (repeat (first | exact Keep.refl _ _ | apply Keep.drew | apply Keep.drewN | apply Keep.alloc))))⟩
theorem slPs : SlTy Tryz.prog 97 109 1 8 := SlTy.mk' (.pointer none) Tryz.underlying97 (by kernel_rfl) rfl (by decide)
def rnC (ab : Nat) (sl rs : Value) : Array Value := #[ptr ab, sl, rs, .slice none 0 0, .bool false]
def rnL (cb mb ab : Nat) (n top : Nat) (v rs : Value) (a : Option Addr) (j c : Nat) (ps : List Value) : List Asr := [blkA mb (rnC ab (.slice a j c) rs) 100, slA 109 1 (.slice a j c) j ps, blkA cb #[.int .i64 (n : Nat), .int .i64 (top : Nat), v, .slice none 0 0] 27]
def LoopRn (w : World) (cb mb ab n top m : Nat) (v rs : Value) (g : Nat) (v4 : Value) (wr : World) : Prop :=
  ∃ (j : Nat) (a : Option Addr) (c : Nat) (ps : List Value), g + j = m ∧ v4 = .int .i64 (j : Nat) ∧ ps.length = j ∧ (∀ u ∈ ps, u.oneCell' = true) ∧ St w wr (rnL cb mb ab n top v rs a j c ps)
set_option maxRecDepth 100000 in
set_option maxHeartbeats 4000000 in
theorem ref_new (w : World) (n top : Nat) (ds : List DescV) (hdl : ds.length ≤ 64) (S : Nat → Prop) (v : Value) (hv : Rd S w v ds.length (flatDesc ds)) :
    Calls Tryz.prog 42 #[.agg #[.int .i64 (n : Nat), .int .i64 (top : Nat), v, .slice none 0 0]] w (fun e w' => ∃ mb, e = .returned (ptr mb) ∧ Keep w w' Nope) := by
  obtain ⟨va, vc, rfl, _, _, _, _⟩ := id hv
  have HB := Lib.hid ((St.start w).box0 #[.int .i64 (n : Nat), .int .i64 (top : Nat), .slice va ds.length vc, .slice none 0 0] 27)
  have HV := Lib.hid hv
  obtain ⟨m, hm⟩ : ∃ m, ds.length = m := ⟨_, rfl⟩
  have HM := Lib.hid hm
  rw [hm] at hdl HB ⊢
  obtain ⟨cb, hcb⟩ : ∃ cb, w.heap.size = cb := ⟨_, rfl⟩
  obtain ⟨wa, hwa⟩ : ∃ wa, w.alloc (.cells #[.int .i64 (n : Nat), .int .i64 (top : Nat), .slice va m vc, .slice none 0 0] 27) = wa := ⟨_, rfl⟩
  rw [hwa, hcb] at HB
  have x0 : wa.cell? ⟨cb, 0, none⟩ = some (.int .i64 (n : Nat)) := by rw [(HB.out.blk 0 rfl).cell]; rfl
  have x1 : wa.cell? ⟨cb, 1, none⟩ = some (.int .i64 (top : Nat)) := by rw [(HB.out.blk 0 rfl).cell]; rfl
  have x3 : wa.cell? ⟨cb, 3, none⟩ = some (.slice none 0 0) := by rw [(HB.out.blk 0 rfl).cell]; rfl
  have hsl := slice_h_any slI64 none 0 0 0 .i64 (Nat.le_refl _)
  clear hv hm
  unfold ptr at *
  go_enter Tryz.func42, Tryz.ntmps42
  go_upto_region 1 with fail
  try rw [hwa]
  try rw [hcb]
  clear hwa hcb
  go_cut [3] (fun v3 wc => ∃ (mb ab : Nat) (rs : Value), v3 = .pointer (some ⟨mb, 0, none⟩) ∧ St w wc (rnL cb mb ab n top (.slice va m vc) rs none 0 0 []))
  case first =>
    refine wp_region_held_drew (S := fun w' => w'.cell? ⟨cb, 0, none⟩ = some (.int .i64 (n : Nat)) ∧ w'.cell? ⟨cb, 1, none⟩ = some (.int .i64 (top : Nat)) ∧ w'.cell? ⟨cb, 3, none⟩ = some (.slice none 0 0)) (by kernel_rfl) ?_ (fun hHeld => ?_)
    · (try dsimp only); (first | exact ⟨x0, x1, x3⟩ | exact ⟨HK3.out.cell x0 (fun f => f), HK3.out.cell x1 (fun f => f), HK3.out.cell x3 (fun f => f)⟩ | exact ⟨(HK3.out.alloc _).cell x0 (fun f => f), (HK3.out.alloc _).cell x1 (fun f => f), (HK3.out.alloc _).cell x3 (fun f => f)⟩ | exact ⟨HK1.out.cell x0 (fun f => f), HK1.out.cell x1 (fun f => f), HK1.out.cell x3 (fun f => f)⟩ | exact ⟨(HK1.out.alloc _).cell x0 (fun f => f), (HK1.out.alloc _).cell x1 (fun f => f), (HK1.out.alloc _).cell x3 (fun f => f)⟩ | exact ⟨((Keep.refl wa Nope).drew.alloc _).cell x0 (fun f => f), ((Keep.refl wa Nope).drew.alloc _).cell x1 (fun f => f), ((Keep.refl wa Nope).drew.alloc _).cell x3 (fun f => f)⟩)
    refine wpAnyH_take (i := 0) (oi := ?_) (v := ?_) ?_ ?_ ?_ ?_ ?_ ?_ ?_ ?_
    rotate_left 2
    · simp only [List.getElem?_toArray, List.getElem?_cons_succ, List.getElem?_cons_zero]; exact rfl
    · kernel_rfl
    · kernel_rfl
    · kernel_rfl
    · first | exact fun _ _ _ h => h | exact fun _ _ _ h => (HPan.out _ _ _ h).elim
    · (refine Or.inl ⟨by rfl, ?_⟩; (intro w hSw; (try dsimp only at hSw); go_simp) <;> with_reducible rfl)
    · assumption
    simp only [Act.put, List.setIfInBounds_toArray, List.set_cons_zero, List.set_cons_succ]
    refine wpAnyH_take (i := 1) (oi := ?_) (v := ?_) ?_ ?_ ?_ ?_ ?_ ?_ ?_ ?_
    rotate_left 2
    · simp only [List.getElem?_toArray, List.getElem?_cons_succ, List.getElem?_cons_zero]; exact rfl
    · kernel_rfl
    · kernel_rfl
    · kernel_rfl
    · first | exact fun _ _ _ h => h | exact fun _ _ _ h => (HPan.out _ _ _ h).elim
    · (refine Or.inl ⟨by rfl, ?_⟩; (intro w hSw; (try dsimp only at hSw); go_simp) <;> with_reducible rfl)
    · assumption
    simp only [Act.put, List.setIfInBounds_toArray, List.set_cons_zero, List.set_cons_succ]
    refine wpAnyH_take (i := 2) (oi := ?_) (v := ?_) ?_ ?_ ?_ ?_ ?_ ?_ ?_ ?_
    rotate_left 2
    · simp only [List.getElem?_toArray, List.getElem?_cons_succ, List.getElem?_cons_zero]; exact rfl
    · kernel_rfl
    · kernel_rfl
    · kernel_rfl
    · first | exact fun _ _ _ h => h | exact fun _ _ _ h => (HPan.out _ _ _ h).elim
    · (refine Or.inl ⟨by rfl, ?_⟩; (intro w hSw; (try dsimp only at hSw); go_simp) <;> with_reducible rfl)
    · assumption
    simp only [Act.put, List.setIfInBounds_toArray, List.set_cons_zero, List.set_cons_succ]
    refine wpAnyH_take (i := 3) (oi := ?_) (v := ?_) ?_ ?_ ?_ ?_ ?_ ?_ ?_ ?_
    rotate_left 2
    · simp only [List.getElem?_toArray, List.getElem?_cons_succ, List.getElem?_cons_zero]; exact rfl
    · kernel_rfl
    · kernel_rfl
    · kernel_rfl
    · first | exact fun _ _ _ h => h | exact fun _ _ _ h => (HPan.out _ _ _ h).elim
    · (refine Or.inl ⟨by rfl, ?_⟩; (intro w hSw; (try dsimp only at hSw); go_simp) <;> with_reducible rfl)
    · assumption
    simp only [Act.put, List.setIfInBounds_toArray, List.set_cons_zero, List.set_cons_succ]
    refine wpAnyH_take (i := 6) (oi := ?_) (v := ?_) ?_ ?_ ?_ ?_ ?_ ?_ ?_ ?_
    rotate_left 2
    · simp only [List.getElem?_toArray, List.getElem?_cons_succ, List.getElem?_cons_zero]; exact rfl
    · kernel_rfl
    · kernel_rfl
    · kernel_rfl
    · first | exact fun _ _ _ h => h | exact fun _ _ _ h => (HPan.out _ _ _ h).elim
    · (refine Or.inl ⟨by rfl, ?_⟩; (intro w hSw; (try dsimp only at hSw); go_simp) <;> with_reducible rfl)
    · assumption
    simp only [Act.put, List.setIfInBounds_toArray, List.set_cons_zero, List.set_cons_succ]
    refine wpAnyH_take (i := 7) (oi := ?_) (v := ?_) ?_ ?_ ?_ ?_ ?_ ?_ ?_ ?_
    rotate_left 2
    · simp only [List.getElem?_toArray, List.getElem?_cons_succ, List.getElem?_cons_zero]; exact rfl
    · kernel_rfl
    · kernel_rfl
    · kernel_rfl
    · first | exact fun _ _ _ h => h | exact fun _ _ _ h => (HPan.out _ _ _ h).elim
    · (refine Or.inl ⟨by rfl, ?_⟩; (intro w hSw; (try dsimp only at hSw); go_simp) <;> with_reducible rfl)
    · assumption
    simp only [Act.put, List.setIfInBounds_toArray, List.set_cons_zero, List.set_cons_succ]
    refine wpAnyH_take (i := 8) (oi := ?_) (v := ?_) ?_ ?_ ?_ ?_ ?_ ?_ ?_ ?_
    rotate_left 2
    · simp only [List.getElem?_toArray, List.getElem?_cons_succ, List.getElem?_cons_zero]; exact rfl
    · kernel_rfl
    · kernel_rfl
    · kernel_rfl
    · first | exact fun _ _ _ h => h | exact fun _ _ _ h => (HPan.out _ _ _ h).elim
    · (refine Or.inl ⟨by rfl, ?_⟩; (intro w hSw; (try dsimp only at hSw); go_simp) <;> with_reducible rfl)
    · assumption
    simp only [Act.put, List.setIfInBounds_toArray, List.set_cons_zero, List.set_cons_succ]
    refine wpAnyH_take (i := 9) (oi := ?_) (v := ?_) ?_ ?_ ?_ ?_ ?_ ?_ ?_ ?_
    rotate_left 2
    · simp only [List.getElem?_toArray, List.getElem?_cons_succ, List.getElem?_cons_zero]; exact rfl
    · kernel_rfl
    · kernel_rfl
    · kernel_rfl
    · first | exact fun _ _ _ h => h | exact fun _ _ _ h => (HPan.out _ _ _ h).elim
    · (refine Or.inl ⟨by rfl, ?_⟩; (intro w hSw; (try dsimp only at hSw); go_simp) <;> with_reducible rfl)
    · assumption
    simp only [Act.put, List.setIfInBounds_toArray, List.set_cons_zero, List.set_cons_succ]
    refine wpAnyH_take (i := 10) (oi := ?_) (v := ?_) ?_ ?_ ?_ ?_ ?_ ?_ ?_ ?_
    rotate_left 2
    · simp only [List.getElem?_toArray, List.getElem?_cons_succ, List.getElem?_cons_zero]; exact rfl
    · kernel_rfl
    · kernel_rfl
    · kernel_rfl
    · first | exact fun _ _ _ h => h | exact fun _ _ _ h => (HPan.out _ _ _ h).elim
    · (refine Or.inl ⟨by rfl, ?_⟩; (intro w hSw; (try dsimp only at hSw); go_simp) <;> with_reducible rfl)
    · assumption
    simp only [Act.put, List.setIfInBounds_toArray, List.set_cons_zero, List.set_cons_succ]
    refine wpAnyH_take (i := 11) (oi := ?_) (v := ?_) ?_ ?_ ?_ ?_ ?_ ?_ ?_ ?_
    rotate_left 2
    · simp only [List.getElem?_toArray, List.getElem?_cons_succ, List.getElem?_cons_zero]; exact rfl
    · kernel_rfl
    · kernel_rfl
    · kernel_rfl
    · first | exact fun _ _ _ h => h | exact fun _ _ _ h => (HPan.out _ _ _ h).elim
    · (refine Or.inl ⟨by rfl, ?_⟩; (intro w hSw; (try dsimp only at hSw); go_simp) <;> with_reducible rfl)
    · assumption
    simp only [Act.put, List.setIfInBounds_toArray, List.set_cons_zero, List.set_cons_succ]
    refine wpAnyH_take (i := 12) (oi := ?_) (v := ?_) ?_ ?_ ?_ ?_ ?_ ?_ ?_ ?_
    rotate_left 2
    · simp only [List.getElem?_toArray, List.getElem?_cons_succ, List.getElem?_cons_zero]; exact rfl
    · kernel_rfl
    · kernel_rfl
    · kernel_rfl
    · first | exact fun _ _ _ h => h | exact fun _ _ _ h => (HPan.out _ _ _ h).elim
    · (refine Or.inl ⟨by rfl, ?_⟩; (intro w hSw; (try dsimp only at hSw); go_simp) <;> with_reducible rfl)
    · assumption
    simp only [Act.put, List.setIfInBounds_toArray, List.set_cons_zero, List.set_cons_succ]
    refine wpAnyH_ready (rs := [4, 5]) (by kernel_rfl) (by simp) ?_
    refine AllReadyH.cons rfl (fun K hK => ?_) (AllReadyH.cons rfl (fun K hK => ?_) (AllReadyH.nil))
    · skip
      go_simp
      go_wp2_with ((go_at_call 101; refine (ref_newAlloc _ _ _).mono ?_; rintro e w1 ⟨ab, rfl, hk1⟩; have HKC := Lib.hid hk1; have HK1 := Lib.hid ((show Keep wa _ Nope from (by (repeat (first | exact Keep.refl _ _ | apply Keep.drew | apply Keep.drewN | apply Keep.alloc)))).trans hk1 (fun _ f => f.elim)); clear hk1))
      refine hK.out _ _ ?_ (fun hHeld => ?_)
      · (try dsimp only); (first | exact ⟨x0, x1, x3⟩ | exact ⟨HK3.out.cell x0 (fun f => f), HK3.out.cell x1 (fun f => f), HK3.out.cell x3 (fun f => f)⟩ | exact ⟨(HK3.out.alloc _).cell x0 (fun f => f), (HK3.out.alloc _).cell x1 (fun f => f), (HK3.out.alloc _).cell x3 (fun f => f)⟩ | exact ⟨HK1.out.cell x0 (fun f => f), HK1.out.cell x1 (fun f => f), HK1.out.cell x3 (fun f => f)⟩ | exact ⟨(HK1.out.alloc _).cell x0 (fun f => f), (HK1.out.alloc _).cell x1 (fun f => f), (HK1.out.alloc _).cell x3 (fun f => f)⟩ | exact ⟨((Keep.refl wa Nope).drew.alloc _).cell x0 (fun f => f), ((Keep.refl wa Nope).drew.alloc _).cell x1 (fun f => f), ((Keep.refl wa Nope).drew.alloc _).cell x3 (fun f => f)⟩)
      clear hK K
      refine wpAnyH_ready (rs := [5]) (by kernel_rfl) (by simp) ?_
      refine AllReadyH.cons rfl (fun K hK => ?_) (AllReadyH.nil)
      go_simp
      refine hK.out _ _ ?_ (fun hHeld => ?_)
      · (try dsimp only); (first | exact ⟨x0, x1, x3⟩ | exact ⟨HK3.out.cell x0 (fun f => f), HK3.out.cell x1 (fun f => f), HK3.out.cell x3 (fun f => f)⟩ | exact ⟨(HK3.out.alloc _).cell x0 (fun f => f), (HK3.out.alloc _).cell x1 (fun f => f), (HK3.out.alloc _).cell x3 (fun f => f)⟩ | exact ⟨HK1.out.cell x0 (fun f => f), HK1.out.cell x1 (fun f => f), HK1.out.cell x3 (fun f => f)⟩ | exact ⟨(HK1.out.alloc _).cell x0 (fun f => f), (HK1.out.alloc _).cell x1 (fun f => f), (HK1.out.alloc _).cell x3 (fun f => f)⟩ | exact ⟨((Keep.refl wa Nope).drew.alloc _).cell x0 (fun f => f), ((Keep.refl wa Nope).drew.alloc _).cell x1 (fun f => f), ((Keep.refl wa Nope).drew.alloc _).cell x3 (fun f => f)⟩)
      clear hK K
      refine wpAnyH_ready (rs := [13]) (by kernel_rfl) (by simp) ?_
      refine AllReadyH.cons rfl (fun K hK => ?_) (AllReadyH.nil)
      rw [if_pos (by rfl)]
      (refine step_app (P := Tryz.prog) slI64 _ _ rfl (S := fun z => wa.heap.size ≤ z) (S2 := fun _ => False) (n := 0) (xs := []) (m := 0) (news := []) rfl rfl ?_ (Own.nil _ _ 2 1).rd rfl (by intro u hu; cases hu) (by decide) (by decide) ?_; (· first | exact Own.lit w1 2 1 0 #[] (Nat.zero_le _) rfl HK1.out.size | exact (Own.lit wa.drew 2 1 0 #[] (Nat.zero_le _) rfl (Nat.le_refl _)).keep HKC.out (fun _ _ f => f)); rintro a3 n3 c3 w3 happ; have HK3 := Lib.hid ((show Keep wa _ Nope from (by first | exact HK1.out | exact HK1.out.alloc _)).trans happ.keep (fun z h => .inr h)); clear happ)
      refine hK.out _ _ ?_ (fun hHeld => ?_)
      · (try dsimp only); (first | exact ⟨x0, x1, x3⟩ | exact ⟨HK3.out.cell x0 (fun f => f), HK3.out.cell x1 (fun f => f), HK3.out.cell x3 (fun f => f)⟩ | exact ⟨(HK3.out.alloc _).cell x0 (fun f => f), (HK3.out.alloc _).cell x1 (fun f => f), (HK3.out.alloc _).cell x3 (fun f => f)⟩ | exact ⟨HK1.out.cell x0 (fun f => f), HK1.out.cell x1 (fun f => f), HK1.out.cell x3 (fun f => f)⟩ | exact ⟨(HK1.out.alloc _).cell x0 (fun f => f), (HK1.out.alloc _).cell x1 (fun f => f), (HK1.out.alloc _).cell x3 (fun f => f)⟩ | exact ⟨((Keep.refl wa Nope).drew.alloc _).cell x0 (fun f => f), ((Keep.refl wa Nope).drew.alloc _).cell x1 (fun f => f), ((Keep.refl wa Nope).drew.alloc _).cell x3 (fun f => f)⟩)
      clear hK K
      refine wpAnyH_take (i := 14) (oi := ?_) (v := ?_) ?_ ?_ ?_ ?_ ?_ ?_ ?_ ?_
      rotate_left 2
      · simp only [List.getElem?_toArray, List.getElem?_cons_succ, List.getElem?_cons_zero]; exact rfl
      · kernel_rfl
      · kernel_rfl
      · kernel_rfl
      · first | exact fun _ _ _ h => h | exact fun _ _ _ h => (HPan.out _ _ _ h).elim
      · (refine Or.inl ⟨by rfl, ?_⟩; (intro w hSw; (try dsimp only at hSw); go_simp) <;> with_reducible rfl)
      · assumption
      simp only [Act.put, List.setIfInBounds_toArray, List.set_cons_zero, List.set_cons_succ]
      refine wpAnyH_ready (rs := [15]) (by kernel_rfl) (by simp) ?_
      refine AllReadyH.cons rfl (fun K hK => ?_) (AllReadyH.nil)
      go_simp
      refine hK.out _ _ ?_ (fun hHeld => ?_)
      · (try dsimp only); (first | exact ⟨x0, x1, x3⟩ | exact ⟨HK3.out.cell x0 (fun f => f), HK3.out.cell x1 (fun f => f), HK3.out.cell x3 (fun f => f)⟩ | exact ⟨(HK3.out.alloc _).cell x0 (fun f => f), (HK3.out.alloc _).cell x1 (fun f => f), (HK3.out.alloc _).cell x3 (fun f => f)⟩ | exact ⟨HK1.out.cell x0 (fun f => f), HK1.out.cell x1 (fun f => f), HK1.out.cell x3 (fun f => f)⟩ | exact ⟨(HK1.out.alloc _).cell x0 (fun f => f), (HK1.out.alloc _).cell x1 (fun f => f), (HK1.out.alloc _).cell x3 (fun f => f)⟩ | exact ⟨((Keep.refl wa Nope).drew.alloc _).cell x0 (fun f => f), ((Keep.refl wa Nope).drew.alloc _).cell x1 (fun f => f), ((Keep.refl wa Nope).drew.alloc _).cell x3 (fun f => f)⟩)
      clear hK K
      refine wpAnyH_take (i := 16) (oi := ?_) (v := ?_) ?_ ?_ ?_ ?_ ?_ ?_ ?_ ?_
      rotate_left 2
      · simp only [List.getElem?_toArray, List.getElem?_cons_succ, List.getElem?_cons_zero]; exact rfl
      · kernel_rfl
      · kernel_rfl
      · kernel_rfl
      · first | exact fun _ _ _ h => h | exact fun _ _ _ h => (HPan.out _ _ _ h).elim
      · (refine Or.inl ⟨by rfl, ?_⟩; (intro w hSw; (try dsimp only at hSw); go_simp) <;> with_reducible rfl)
      · assumption
      simp only [Act.put, List.setIfInBounds_toArray, List.set_cons_zero, List.set_cons_succ]
      refine wpAnyH_done (by kernel_rfl) ?_ _
      go_wp2_with fail
      go_meet
      case rel =>
        have h4 := ((HB.out.keep HK3.out).box0 (rnC ab (.slice none 0 0) (.slice a3 n3 c3)) 100)
        have h5 := (h4.add (Keep.refl _ _) (A := slA 109 1 (.slice none 0 0) 0 []) (Own.nil _ _ _ _)).first
        exact ⟨w3.heap.size, ab, .slice a3 n3 c3, rfl, St.sw h5⟩
    · skip
      go_simp
      refine hK.out _ _ ?_ (fun hHeld => ?_)
      · (try dsimp only); (first | exact ⟨x0, x1, x3⟩ | exact ⟨HK3.out.cell x0 (fun f => f), HK3.out.cell x1 (fun f => f), HK3.out.cell x3 (fun f => f)⟩ | exact ⟨(HK3.out.alloc _).cell x0 (fun f => f), (HK3.out.alloc _).cell x1 (fun f => f), (HK3.out.alloc _).cell x3 (fun f => f)⟩ | exact ⟨HK1.out.cell x0 (fun f => f), HK1.out.cell x1 (fun f => f), HK1.out.cell x3 (fun f => f)⟩ | exact ⟨(HK1.out.alloc _).cell x0 (fun f => f), (HK1.out.alloc _).cell x1 (fun f => f), (HK1.out.alloc _).cell x3 (fun f => f)⟩ | exact ⟨((Keep.refl wa Nope).drew.alloc _).cell x0 (fun f => f), ((Keep.refl wa Nope).drew.alloc _).cell x1 (fun f => f), ((Keep.refl wa Nope).drew.alloc _).cell x3 (fun f => f)⟩)
      clear hK K
      refine wpAnyH_ready (rs := [4]) (by kernel_rfl) (by simp) ?_
      refine AllReadyH.cons rfl (fun K hK => ?_) (AllReadyH.nil)
      go_simp
      go_wp2_with ((go_at_call 101; refine (ref_newAlloc _ _ _).mono ?_; rintro e w1 ⟨ab, rfl, hk1⟩; have HKC := Lib.hid hk1; have HK1 := Lib.hid ((show Keep wa _ Nope from (by (repeat (first | exact Keep.refl _ _ | apply Keep.drew | apply Keep.drewN | apply Keep.alloc)))).trans hk1 (fun _ f => f.elim)); clear hk1))
      refine hK.out _ _ ?_ (fun hHeld => ?_)
      · (try dsimp only); (first | exact ⟨x0, x1, x3⟩ | exact ⟨HK3.out.cell x0 (fun f => f), HK3.out.cell x1 (fun f => f), HK3.out.cell x3 (fun f => f)⟩ | exact ⟨(HK3.out.alloc _).cell x0 (fun f => f), (HK3.out.alloc _).cell x1 (fun f => f), (HK3.out.alloc _).cell x3 (fun f => f)⟩ | exact ⟨HK1.out.cell x0 (fun f => f), HK1.out.cell x1 (fun f => f), HK1.out.cell x3 (fun f => f)⟩ | exact ⟨(HK1.out.alloc _).cell x0 (fun f => f), (HK1.out.alloc _).cell x1 (fun f => f), (HK1.out.alloc _).cell x3 (fun f => f)⟩ | exact ⟨((Keep.refl wa Nope).drew.alloc _).cell x0 (fun f => f), ((Keep.refl wa Nope).drew.alloc _).cell x1 (fun f => f), ((Keep.refl wa Nope).drew.alloc _).cell x3 (fun f => f)⟩)
      clear hK K
      refine wpAnyH_ready (rs := [13]) (by kernel_rfl) (by simp) ?_
      refine AllReadyH.cons rfl (fun K hK => ?_) (AllReadyH.nil)
      rw [if_pos (by rfl)]
      (refine step_app (P := Tryz.prog) slI64 _ _ rfl (S := fun z => wa.heap.size ≤ z) (S2 := fun _ => False) (n := 0) (xs := []) (m := 0) (news := []) rfl rfl ?_ (Own.nil _ _ 2 1).rd rfl (by intro u hu; cases hu) (by decide) (by decide) ?_; (· first | exact Own.lit w1 2 1 0 #[] (Nat.zero_le _) rfl HK1.out.size | exact (Own.lit wa.drew 2 1 0 #[] (Nat.zero_le _) rfl (Nat.le_refl _)).keep HKC.out (fun _ _ f => f)); rintro a3 n3 c3 w3 happ; have HK3 := Lib.hid ((show Keep wa _ Nope from (by first | exact HK1.out | exact HK1.out.alloc _)).trans happ.keep (fun z h => .inr h)); clear happ)
      refine hK.out _ _ ?_ (fun hHeld => ?_)
      · (try dsimp only); (first | exact ⟨x0, x1, x3⟩ | exact ⟨HK3.out.cell x0 (fun f => f), HK3.out.cell x1 (fun f => f), HK3.out.cell x3 (fun f => f)⟩ | exact ⟨(HK3.out.alloc _).cell x0 (fun f => f), (HK3.out.alloc _).cell x1 (fun f => f), (HK3.out.alloc _).cell x3 (fun f => f)⟩ | exact ⟨HK1.out.cell x0 (fun f => f), HK1.out.cell x1 (fun f => f), HK1.out.cell x3 (fun f => f)⟩ | exact ⟨(HK1.out.alloc _).cell x0 (fun f => f), (HK1.out.alloc _).cell x1 (fun f => f), (HK1.out.alloc _).cell x3 (fun f => f)⟩ | exact ⟨((Keep.refl wa Nope).drew.alloc _).cell x0 (fun f => f), ((Keep.refl wa Nope).drew.alloc _).cell x1 (fun f => f), ((Keep.refl wa Nope).drew.alloc _).cell x3 (fun f => f)⟩)
      clear hK K
      refine wpAnyH_take (i := 14) (oi := ?_) (v := ?_) ?_ ?_ ?_ ?_ ?_ ?_ ?_ ?_
      rotate_left 2
      · simp only [List.getElem?_toArray, List.getElem?_cons_succ, List.getElem?_cons_zero]; exact rfl
      · kernel_rfl
      · kernel_rfl
      · kernel_rfl
      · first | exact fun _ _ _ h => h | exact fun _ _ _ h => (HPan.out _ _ _ h).elim
      · (refine Or.inl ⟨by rfl, ?_⟩; (intro w hSw; (try dsimp only at hSw); go_simp) <;> with_reducible rfl)
      · assumption
      simp only [Act.put, List.setIfInBounds_toArray, List.set_cons_zero, List.set_cons_succ]
      refine wpAnyH_ready (rs := [15]) (by kernel_rfl) (by simp) ?_
      refine AllReadyH.cons rfl (fun K hK => ?_) (AllReadyH.nil)
      go_simp
      refine hK.out _ _ ?_ (fun hHeld => ?_)
      · (try dsimp only); (first | exact ⟨x0, x1, x3⟩ | exact ⟨HK3.out.cell x0 (fun f => f), HK3.out.cell x1 (fun f => f), HK3.out.cell x3 (fun f => f)⟩ | exact ⟨(HK3.out.alloc _).cell x0 (fun f => f), (HK3.out.alloc _).cell x1 (fun f => f), (HK3.out.alloc _).cell x3 (fun f => f)⟩ | exact ⟨HK1.out.cell x0 (fun f => f), HK1.out.cell x1 (fun f => f), HK1.out.cell x3 (fun f => f)⟩ | exact ⟨(HK1.out.alloc _).cell x0 (fun f => f), (HK1.out.alloc _).cell x1 (fun f => f), (HK1.out.alloc _).cell x3 (fun f => f)⟩ | exact ⟨((Keep.refl wa Nope).drew.alloc _).cell x0 (fun f => f), ((Keep.refl wa Nope).drew.alloc _).cell x1 (fun f => f), ((Keep.refl wa Nope).drew.alloc _).cell x3 (fun f => f)⟩)
      clear hK K
      refine wpAnyH_take (i := 16) (oi := ?_) (v := ?_) ?_ ?_ ?_ ?_ ?_ ?_ ?_ ?_
      rotate_left 2
      · simp only [List.getElem?_toArray, List.getElem?_cons_succ, List.getElem?_cons_zero]; exact rfl
      · kernel_rfl
      · kernel_rfl
      · kernel_rfl
      · first | exact fun _ _ _ h => h | exact fun _ _ _ h => (HPan.out _ _ _ h).elim
      · (refine Or.inl ⟨by rfl, ?_⟩; (intro w hSw; (try dsimp only at hSw); go_simp) <;> with_reducible rfl)
      · assumption
      simp only [Act.put, List.setIfInBounds_toArray, List.set_cons_zero, List.set_cons_succ]
      refine wpAnyH_done (by kernel_rfl) ?_ _
      go_wp2_with fail
      go_meet
      case rel =>
        have h4 := ((HB.out.keep HK3.out).box0 (rnC ab (.slice none 0 0) (.slice a3 n3 c3)) 100)
        have h5 := (h4.add (Keep.refl _ _) (A := slA 109 1 (.slice none 0 0) 0 []) (Own.nil _ _ _ _)).first
        exact ⟨w3.heap.size, ab, .slice a3 n3 c3, rfl, St.sw h5⟩
  case rest =>
    obtain ⟨mb, ab, rs, rfl, h4⟩ := hcut
    have H4 := Lib.hid h4
    clear HB x0 x1 x3 h4 hsl
    go_wp2_with fail
    go_loopg [4] m (fun g v4 wr => LoopRn w cb mb ab n top m (.slice va m vc) rs g v4 wr)
    case atStart => exact ⟨0, none, 0, [], rfl, rfl, rfl, (by intro u hu; cases hu), H4.out⟩
    case round =>
      obtain ⟨j, a, c, ps, hg, rfl, hpl, hp1, hst⟩ := hrel
      clear H4
      have HG := Lib.hid hg
      have HST := Lib.hid hst
      have HPL := Lib.hid hpl
      have HP1 := Lib.hid hp1
      have y2 : wr.cell? ⟨cb, 2, none⟩ = some (.slice va m vc) := by rw [(hst.blk 2 rfl).cell]; rfl
      clear hpl hp1 hst
      by_cases hlt : j < m
      · obtain ⟨d, hd⟩ : ∃ d, ds[j]? = some d := ⟨_, List.getElem?_eq_getElem (by rw [HM.out]; exact hlt)⟩
        obtain ⟨kd, var, bd⟩ := d
        obtain ⟨bo, oo, rfl, _, hco⟩ := Rd.elem (cells := DescV.cells) (size := 3) HV.out (fun _ => rfl) (by decide) hd
        have HDc := Lib.hid (show ∀ w', Keep w w' Nope → w'.cell? ⟨bo, oo + j * 3, none⟩ = some (.int .i64 (kd : Nat)) ∧ w'.cell? ⟨bo, oo + j * 3 + 1, none⟩ = some (.int .i64 (var : Nat)) ∧ w'.cell? ⟨bo, oo + j * 3 + 2, none⟩ = some (.int .i64 (bd : Nat)) from fun w' hk => ⟨hk.cell (hco 0 (by decide)) (fun f => f), hk.cell (hco 1 (by decide)) (fun f => f), hk.cell (hco 2 (by decide)) (fun f => f)⟩)
        obtain ⟨d0, d1, d2⟩ := HDc.out _ (Keep.ofSt HST.out)
        have e0 : decide (m ≤ j) = false := decide_eq_false (by omega)
        have e1 : decide ((j : Int) < (m : Int)) = true := decide_eq_true (by omega)
        have ek : (j : Int) < (m : Int) := by omega
        have m1 : wr.cell? ⟨mb, 1, none⟩ = some (.slice a j c) := by rw [(HST.out.blk 0 rfl).cell]; rfl
        have HLT := Lib.hid hlt
        clear hd hco hlt
        have HNS := Lib.hid (fun w' => ref_newSlot ⟨kd, var, bd⟩ w')
        simp only at HNS
        go_upto_region 5 with fail
        refine wp_region_M (r := 13) (S := fun w' => w'.cell? ⟨mb, 1, none⟩ = some (.slice a j c) ∧ w'.cell? ⟨cb, 2, none⟩ = some (.slice (some ⟨bo, oo, none⟩) m vc) ∧ w'.cell? ⟨bo, oo + j * 3, none⟩ = some (.int .i64 (kd : Nat)) ∧ w'.cell? ⟨bo, oo + j * 3 + 1, none⟩ = some (.int .i64 (var : Nat)) ∧ w'.cell? ⟨bo, oo + j * 3 + 2, none⟩ = some (.int .i64 (bd : Nat))) (by kernel_rfl) ?_ (fun hHeld => ?_)
        · (try dsimp only); (first | exact ⟨m1, y2, d0, d1, d2⟩ | exact ⟨m1, y2', f0, f1, f2⟩ | exact ⟨HK1.out.cell m1 (fun f => f), HK1.out.cell y2 (fun f => f), HK1.out.cell d0 (fun f => f), HK1.out.cell d1 (fun f => f), HK1.out.cell d2 (fun f => f)⟩ | exact ⟨(HK1.out.alloc _).cell m1 (fun f => f), (HK1.out.alloc _).cell y2 (fun f => f), (HK1.out.alloc _).cell d0 (fun f => f), (HK1.out.alloc _).cell d1 (fun f => f), (HK1.out.alloc _).cell d2 (fun f => f)⟩)
        (refine tkMP 0 _ _ ?_; simp only [Act.put, List.setIfInBounds_toArray, List.set_cons_zero, List.set_cons_succ])
        (refine tkMP 1 _ _ ?_; simp only [Act.put, List.setIfInBounds_toArray, List.set_cons_zero, List.set_cons_succ])
        (refine tkMP 2 _ _ ?_; simp only [Act.put, List.setIfInBounds_toArray, List.set_cons_zero, List.set_cons_succ])
        (refine tkMP 3 _ _ ?_; simp only [Act.put, List.setIfInBounds_toArray, List.set_cons_zero, List.set_cons_succ])
        (refine tkM 4 _ _ ?_; simp only [Act.put, List.setIfInBounds_toArray, List.set_cons_zero, List.set_cons_succ])
        (refine tkMP 5 _ _ ?_; simp only [Act.put, List.setIfInBounds_toArray, List.set_cons_zero, List.set_cons_succ])
        (refine tkM 6 _ _ ?_; simp only [Act.put, List.setIfInBounds_toArray, List.set_cons_zero, List.set_cons_succ])
        (refine tkMP 7 _ _ ?_; simp only [Act.put, List.setIfInBounds_toArray, List.set_cons_zero, List.set_cons_succ])
        (refine tkMP 8 _ _ ?_; simp only [Act.put, List.setIfInBounds_toArray, List.set_cons_zero, List.set_cons_succ])
        (refine tkM 9 _ _ ?_; simp only [Act.put, List.setIfInBounds_toArray, List.set_cons_zero, List.set_cons_succ])
        refine wpAnyM_ready (rs := [10]) (by kernel_rfl) (by simp) ?_
        refine AllReadyM.cons (o := ?_) ?_ ?_ ?_
        rotate_left 1
        · simp only [List.getElem?_toArray, List.getElem?_cons_succ, List.getElem?_cons_zero]; exact rfl
        rotate_left 1
        · exact AllReadyM.nil
        intro K hK
        go_simp
        go_wp2_with ((go_at_call 102; refine (HNS.out _).mono ?_; rintro e w1 ⟨sb, rfl, hk1⟩; have HK1 := Lib.hid ((Keep.refl wr Nope).drew.trans hk1 (fun _ f => f.elim)); have h5 := (HST.out.drew.keep hk1); obtain ⟨G, hown, _, hup, _⟩ := h5.opens 1 rfl; have HOwn := Lib.hid (show Own G w1 109 1 (.slice a j c) j ps from hown); have HUP := Lib.hid hup; clear hown hup h5 hk1))
        refine hK.out _ _ ?_ (fun hHeld => ?_)
        · (try dsimp only); (first | exact ⟨m1, y2, d0, d1, d2⟩ | exact ⟨m1, y2', f0, f1, f2⟩ | exact ⟨HK1.out.cell m1 (fun f => f), HK1.out.cell y2 (fun f => f), HK1.out.cell d0 (fun f => f), HK1.out.cell d1 (fun f => f), HK1.out.cell d2 (fun f => f)⟩ | exact ⟨(HK1.out.alloc _).cell m1 (fun f => f), (HK1.out.alloc _).cell y2 (fun f => f), (HK1.out.alloc _).cell d0 (fun f => f), (HK1.out.alloc _).cell d1 (fun f => f), (HK1.out.alloc _).cell d2 (fun f => f)⟩)
        clear hK K
        refine wpAnyM_ready (rs := [11]) (by kernel_rfl) (by simp) ?_
        refine AllReadyM.cons (o := ?_) ?_ ?_ ?_
        rotate_left 1
        · simp only [List.getElem?_toArray, List.getElem?_cons_succ, List.getElem?_cons_zero]; exact rfl
        rotate_left 1
        · exact AllReadyM.nil
        intro K hK
        go_simp
        refine hK.out _ _ ?_ (fun hHeld => ?_)
        · (try dsimp only); (first | exact ⟨m1, y2, d0, d1, d2⟩ | exact ⟨m1, y2', f0, f1, f2⟩ | exact ⟨HK1.out.cell m1 (fun f => f), HK1.out.cell y2 (fun f => f), HK1.out.cell d0 (fun f => f), HK1.out.cell d1 (fun f => f), HK1.out.cell d2 (fun f => f)⟩ | exact ⟨(HK1.out.alloc _).cell m1 (fun f => f), (HK1.out.alloc _).cell y2 (fun f => f), (HK1.out.alloc _).cell d0 (fun f => f), (HK1.out.alloc _).cell d1 (fun f => f), (HK1.out.alloc _).cell d2 (fun f => f)⟩)
        clear hK K
        refine wpAnyM_ready (rs := [12]) (by kernel_rfl) (by simp) ?_
        refine AllReadyM.cons (o := ?_) ?_ ?_ ?_
        rotate_left 1
        · simp only [List.getElem?_toArray, List.getElem?_cons_succ, List.getElem?_cons_zero]; exact rfl
        rotate_left 1
        · exact AllReadyM.nil
        intro K hK
        rw [if_pos (by rfl)]
        (refine step_app (P := Tryz.prog) slPs _ _ rfl (S := G) (S2 := fun z => z = w1.heap.size) (n := j) (xs := ps) (m := 1) (news := [.pointer (some ⟨sb, 0, none⟩)]) rfl rfl ?_ (Own.lit (S := fun z => z = w1.heap.size) w1 109 1 1 #[.pointer (some ⟨sb, 0, none⟩)] (by decide) rfl rfl).rd rfl (by intro u hu; simp at hu; rcases hu with rfl; rfl) (by omega) (by unfold maxLen; omega) ?_; (· exact HOwn.out.keep (T := Nope) ((Keep.refl w1 Nope).alloc _) (fun _ _ f => f)); intro a' k' c' w5 happ; obtain ⟨z1, z2⟩ := app_up (wr := w1) ((Keep.refl w1 Nope).alloc _) happ; obtain rfl := happ.num; have h5 := HUP.out w5 _ z1 z2; have H5 := Lib.hid h5; clear happ z1 z2 h5; have y1 := (H5.out.blk 0 rfl).frozen 1; have y2' : w5.cell? ⟨cb, 2, none⟩ = some (.slice (some ⟨bo, oo, none⟩) m vc) := (by rw [(H5.out.blk 2 rfl).cell]; rfl); obtain ⟨f0, f1, f2⟩ := HDc.out _ (Keep.ofSt H5.out); have m1 : w5.cell? ⟨mb, 1, none⟩ = some (.slice a j c) := (by rw [(H5.out.blk 0 rfl).cell]; rfl))
        refine hK.out _ _ ?_ (fun hHeld => ?_)
        · (try dsimp only); (first | exact ⟨m1, y2, d0, d1, d2⟩ | exact ⟨m1, y2', f0, f1, f2⟩ | exact ⟨HK1.out.cell m1 (fun f => f), HK1.out.cell y2 (fun f => f), HK1.out.cell d0 (fun f => f), HK1.out.cell d1 (fun f => f), HK1.out.cell d2 (fun f => f)⟩ | exact ⟨(HK1.out.alloc _).cell m1 (fun f => f), (HK1.out.alloc _).cell y2 (fun f => f), (HK1.out.alloc _).cell d0 (fun f => f), (HK1.out.alloc _).cell d1 (fun f => f), (HK1.out.alloc _).cell d2 (fun f => f)⟩)
        clear hK K
        (try simp only [List.getElem_toArray, List.getElem_cons_succ, List.getElem_cons_zero, Act.put, List.setIfInBounds_toArray, List.set_cons_zero, List.set_cons_succ])
        refine wpAnyM_ready (rs := [13]) (by kernel_rfl) (by simp) ?_
        refine AllReadyM.free (o := ?_) ?_ (by kernel_rfl) ?_ ?_
        rotate_left 1
        · simp only [List.getElem?_toArray, List.getElem?_cons_succ, List.getElem?_cons_zero]; exact rfl
        rotate_left 1
        · exact AllReadyM.nil
        intro K hK
        go_simp
        refine hK.out _ _ ?_
        clear hK K
        (refine tkMP 14 _ _ ?_; simp only [Act.put, List.setIfInBounds_toArray, List.set_cons_zero, List.set_cons_succ])
        refine wpAnyM_ready (rs := [15]) (by kernel_rfl) (by simp) ?_
        refine AllReadyM.free (o := ?_) ?_ (by kernel_rfl) ?_ ?_
        rotate_left 1
        · simp only [List.getElem?_toArray, List.getElem?_cons_succ, List.getElem?_cons_zero]; exact rfl
        rotate_left 1
        · exact AllReadyM.nil
        intro K hK
        go_simp
        refine hK.out _ _ ?_
        clear hK K
        refine wpAnyM_done (by kernel_rfl) ?_ _
        have h6 := H5.out.write 0 rfl 1 (.slice a' (j + 1) c')
        obtain ⟨w6, hw6⟩ : ∃ w6, w5.setCell ⟨mb, 1, none⟩ (.slice a' (j + 1) c') = w6 := ⟨_, rfl⟩
        rw [hw6] at h6 ⊢
        have H6 := Lib.hid (show St w w6 (rnL cb mb ab n top (.slice (some ⟨bo, oo, none⟩) m vc) rs a' (j + 1) c' (ps ++ [.pointer (some ⟨sb, 0, none⟩)])) from h6)
        clear h6 hw6 hHeld m1 y1 y2 y2' d0 d1 d2 f0 f1 f2
        go_wp2_with fail
        go_roundg (m - (j + 1))
        case measure => have := HG.out; omega
        case rel => exact ⟨j + 1, a', c', ps ++ [.pointer (some ⟨sb, 0, none⟩)], by have := HG.out; have := HLT.out; omega, by go_num, by rw [List.length_append, HPL.out]; rfl, (by intro u hu; rcases List.mem_append.1 hu with h | h; exact HP1.out u h; simp at h; rw [h]; rfl), H6.out⟩
      · have hjm : j = m := by omega
        subst hjm
        have e1 : decide ((j : Int) < (j : Int)) = false := decide_eq_false (by omega)
        go_wp2_with fail
        go_ret
        exact ⟨mb, rfl, Keep.ofSt HST.out⟩
end Go.Proofs.YtkiikblpgppmkaaGreatDoor

namespace Go.Proofs.YtkiikblpgppmkaaGreatDoor
open Go Go.RowKit
set_option linter.unusedVariables false
set_option linter.unusedSimpArgs false

set_option maxRecDepth 100000 in
set_option maxHeartbeats 4000000 in
theorem wof_nil {w0 w : World} {L : List Asr} (H : St w0 w L) (n top : Nat) (h1 : 1 ≤ n) (h2 : n ≤ 64) (h3 : 1 ≤ top) (h4 : top < 4294967296) (ds : List DescV) (hds : ∀ d, d ∈ ds → d.Ok) (hdl : ds.length ≤ 64) (v : Value) (hv : ReadIn w0 L v ds.length (flatDesc ds)) (f : Nat → VV) :
    Calls Tryz.prog 12 #[.agg #[.int .i64 (n : Nat), .int .i64 (top : Nat), v, .slice none 0 0], .slice none 0 0] w (fun e w' => ∃ b m : Nat, e = .returned (.tuple #[.pointer (some ⟨b, 0, none⟩), .pointer (some ⟨m, 0, none⟩)]) ∧ ∃ p, St w0 w' (woL b (newWo n top ds f []) p ++ L)) := by
  obtain ⟨S0, hr0⟩ := hv w [] H
  obtain ⟨va, vc, rfl, _, _, _, _⟩ := id hr0
  have hb := H.box0 #[.int .i64 (n : Nat), .int .i64 (top : Nat), .slice va ds.length vc, .slice none 0 0] 27
  have HN := Lib.hid (wo_new hb n top h1 h2 h3 h4 ds hds hdl _ (ReadIn.cons hv) f [] (.slice none 0 0) ReadIn.none)
  have HR := Lib.hid (fun (w' : World) (M : List Asr) (h : St w0 w' (M ++ L)) => (hv w' M h).elim fun S hs => ref_new w' n top ds hdl S _ hs)
  obtain ⟨dl, hdl'⟩ : ∃ dl, ds.length = dl := ⟨_, rfl⟩
  rw [hdl'] at HN HR ⊢
  rw [hdl'] at hb
  clear H hv hr0 hds hdl hdl' h1 h2 h3 h4 hb
  unfold ptr at *
  go_enter Tryz.func12, Tryz.ntmps12
  go_wp2_with (first
    | (go_at_call 32; refine HN.out.mono ?_; rintro e w1 ⟨b, rfl, h1⟩; obtain ⟨p, h2⟩ := h1.first.exTop; have H1 := Lib.hid h2; clear h1 h2 HN; have c2 := H1.out.ofMid.blk 0 rfl; obtain ⟨x0, x1, x2, x3⟩ : w1.cell? ⟨w.heap.size, 0, none⟩ = some (.int .i64 (n : Nat)) ∧ w1.cell? ⟨w.heap.size, 1, none⟩ = some (.int .i64 (top : Nat)) ∧ w1.cell? ⟨w.heap.size, 2, none⟩ = some (.slice va dl vc) ∧ w1.cell? ⟨w.heap.size, 3, none⟩ = some (.slice none 0 0) := (by refine ⟨?_, ?_, ?_, ?_⟩ <;> (rw [c2.cell]; rfl)); clear c2)
    | (go_at_call 42; refine (HR.out _ (_ :: woL b _ p) H1.out.ofMid).mono ?_; rintro e w2 ⟨mb, rfl, hk2⟩; have H2 := Lib.hid (H1.out.keep hk2); clear hk2 H1 HR x0 x1 x2 x3))
  refine wp_loop_rounds 1 ?_
  rw [rounds_succ]
  go_wp2_with fail
  go_ret2
  exact ⟨b, mb, rfl, p, H2.out.ofMid.rest⟩
end Go.Proofs.YtkiikblpgppmkaaGreatDoor

namespace Go.Proofs.YtkiikblpgppmkaaGreatDoor
open Go Go.RowKit
set_option linter.unusedVariables false
set_option linter.unusedSimpArgs false

/-- What an event does to a set. -/
def apE (m : Nat) (e : EvV) : Nat := if e.kind = 1 then addW m e.idx.toNat else if e.kind = 3 then delW m e.idx.toNat else m
def maskE (l : List EvV) : Nat := l.foldl apE 0
/-- An event may befall a set. -/
def okE (m : Nat) (e : EvV) : Prop := ∃ k : Nat, k < 64 ∧ e.idx = (k : Int) ∧ ((e.kind = 1 ∧ m.testBit k = false) ∨ (e.kind = 2 ∧ m.testBit k = true) ∨ (e.kind = 3 ∧ m.testBit k = true))
def ValidE (l : List EvV) : Prop := ∀ (j : Nat) (e : EvV), l[j]? = some e → okE (maskE (l.take j)) e
theorem maskE_snoc (l : List EvV) (e : EvV) : maskE (l ++ [e]) = apE (maskE l) e := by
  unfold maskE
  rw [List.foldl_append]
  rfl
theorem ValidE.nil : ValidE [] := fun j e h => by simp at h
theorem ValidE.snoc {l : List EvV} {e : EvV} (h : ValidE l) (he : okE (maskE l) e) : ValidE (l ++ [e]) := fun j x hx => by
  rw [List.getElem?_append] at hx
  split at hx
  · rename_i hj
    rw [List.take_append_of_le_length (Nat.le_of_lt hj)]
    exact h j x hx
  · rename_i hj
    have hj2 := (List.getElem?_eq_some_iff.1 hx).1
    simp only [List.length_cons, List.length_nil] at hj2
    have e1 : j = l.length := by omega
    subst e1
    simp at hx
    subst hx
    rw [List.take_left']
    · exact he
    · rfl
theorem maskE_take_succ {l : List EvV} {j : Nat} {e : EvV} (h : l[j]? = some e) : maskE (l.take (j + 1)) = apE (maskE (l.take j)) e := by
  rw [List.take_add_one, h]
  exact maskE_snoc _ _
theorem apE_lt {m : Nat} {e : EvV} (hm : m < 2 ^ 64) (he : okE m e) : apE m e < 2 ^ 64 := by
  obtain ⟨k, hk, hi, _⟩ := he
  unfold apE
  rw [hi, Int.toNat_natCast]
  split
  · exact addW_lt hm hk
  · split
    · exact delW_lt _ _
    · exact hm
theorem maskE_lt {l : List EvV} (h : ValidE l) : ∀ j, maskE (l.take j) < 2 ^ 64
  | 0 => by show (0 : Nat) < 2 ^ 64; decide
  | j + 1 => by
    cases hj : l[j]? with
    | none =>
      rw [List.take_add_one, hj]
      simpa using maskE_lt h j
    | some e =>
      rw [maskE_take_succ hj]
      exact apE_lt (maskE_lt h j) (h j e hj)
/-- What is so of the world: its handles, what there is, what was noted. -/
structure TrS where
  al : AlS
  m : Nat
  f : Nat → VV
  log : List EvV
  pos : List Nat
def TrS.F (T : TrS) : FlagV := ⟨1000, T.log, T.pos⟩
def TrS.sl (T : TrS) : SlS := ⟨1, 1, T.m, T.f, some T.F⟩
def trX (T : TrS) (q : List OpV) : WoS := ⟨⟨T.al, [T.sl]⟩, [], q, 20, 9⟩
structure TrI (T : TrS) (i : Nat) : Prop where
  al : T.al.Ok
  ra : T.al.raised = 0
  ret : T.al.ret ≤ i
  sub : ∀ k, T.m.testBit k = true → T.al.live.testBit k = true
  m : T.m = maskE T.log
  ok : ValidE T.log
  len : T.log.length ≤ i
theorem TrI.lt {T : TrS} {i : Nat} (h : TrI T i) : T.m < 2 ^ 64 := by
  rw [h.m]
  have := maskE_lt h.ok T.log.length
  rwa [List.take_length] at this
theorem TrI.up {T : TrS} {i j : Nat} (h : TrI T i) (hj : i ≤ j) : TrI T j := ⟨h.al, h.ra, Nat.le_trans h.ret hj, h.sub, h.m, h.ok, Nat.le_trans h.len hj⟩
theorem TrI.pos {T : TrS} {i : Nat} (h : TrI T i) (ps : List Nat) : TrI { T with pos := ps } i := ⟨h.al, h.ra, h.ret, h.sub, h.m, h.ok, h.len⟩
theorem TrI.en {T : TrS} {i : Nat} (h : TrI T i) (hi : i ≤ 10000) : (trX T []).en.Ok 90000 := ⟨h.al, fun s hs => by
  rw [List.mem_singleton.1 hs]
  refine ⟨VarOk.v1, .inl rfl, fun e => absurd e (by show ¬ 1 = 4; decide), h.lt, fun F hF => ?_⟩
  cases hF
  exact ⟨Nat.le_trans h.len (by omega), by show 1 ≤ 1000; decide, by show 1000 ≤ 1000; decide⟩, by show 1 ≤ 64; decide⟩
theorem TrI.st {T : TrS} {i : Nat} (h : TrI T i) (x g : Int) : T.al.st x g = 0 ∨ T.al.st x g = 1 := by
  unfold AlS.st
  rw [h.ra]
  split
  · split
    · exact .inr rfl
    · simp
  · exact .inl rfl
/-- A value is put. -/
def TrS.put (T : TrS) (k : Nat) (v : VV) : TrS := ⟨T.al, addW T.m k, updV T.f k v, T.log ++ [⟨if T.m.testBit k then 2 else 1, k⟩], T.pos⟩
theorem TrS.put_sl (T : TrS) (k : Nat) (v : VV) : T.sl.put k v = (T.put k v).sl := rfl
theorem TrI.put {T : TrS} {i : Nat} (h : TrI T i) {k : Nat} (hk : k < 64) (hl : T.al.live.testBit k = true) (v : VV) : TrI (T.put k v) (i + 1) := by
  have hm := h.m
  have hok : okE (maskE T.log) ⟨if T.m.testBit k then 2 else 1, k⟩ := by
    refine ⟨k, hk, rfl, ?_⟩
    rw [← hm]
    cases hb : T.m.testBit k
    · exact .inl ⟨rfl, rfl⟩
    · exact .inr (.inl ⟨rfl, rfl⟩)
  refine ⟨h.al, h.ra, Nat.le_succ_of_le h.ret, fun j hj => ?_, ?_, h.ok.snoc hok, by show (T.log ++ [_]).length ≤ _; rw [List.length_append]; exact Nat.succ_le_succ h.len⟩
  · have hj2 : (addW T.m k).testBit j = true := hj
    rw [bit_add] at hj2
    rw [Bool.or_eq_true] at hj2
    rcases hj2 with e | e
    · exact h.sub j e
    · rw [of_decide_eq_true e]
      exact hl
  · show addW T.m k = maskE (T.log ++ [_])
    rw [maskE_snoc, ← hm]
    unfold apE
    cases hb : T.m.testBit k
    · simp
    · simp [addW_has h.lt hb hk]
/-- A value is changed. -/
def TrS.wrote (T : TrS) (k : Nat) (v : VV) : TrS := ⟨T.al, T.m, updV T.f k v, T.log ++ [⟨2, k⟩], T.pos⟩
theorem TrS.wrote_sl (T : TrS) (k : Nat) (v : VV) : T.sl.wrote k v = (T.wrote k v).sl := rfl
theorem TrI.wrote {T : TrS} {i : Nat} (h : TrI T i) {k : Nat} (hk : k < 64) (hb : T.m.testBit k = true) (v : VV) : TrI (T.wrote k v) (i + 1) := by
  have hm := h.m
  refine ⟨h.al, h.ra, Nat.le_succ_of_le h.ret, h.sub, ?_, h.ok.snoc ⟨k, hk, rfl, .inr (.inl ⟨rfl, by rw [← hm]; exact hb⟩)⟩, by show (T.log ++ [_]).length ≤ _; rw [List.length_append]; exact Nat.succ_le_succ h.len⟩
  show T.m = maskE (T.log ++ [_])
  rw [maskE_snoc, ← hm]
  rfl
/-- A value is taken. -/
def TrS.take (T : TrS) (k : Nat) : TrS := ⟨T.al, delW T.m k, T.f, if T.m.testBit k then T.log ++ [⟨3, k⟩] else T.log, T.pos⟩
theorem TrS.take_sl (T : TrS) (k : Nat) : T.sl.take k = (T.take k).sl := by
  unfold TrS.sl SlS.take TrS.take TrS.F notedF
  simp only
  cases T.m.testBit k <;> rfl
theorem TrI.take {T : TrS} {i : Nat} (h : TrI T i) {k : Nat} (hk : k < 64) : TrI (T.take k) (i + 1) := by
  have hm := h.m
  cases hb : T.m.testBit k with
  | false =>
    have e : T.take k = { T with m := T.m } := by
      unfold TrS.take
      rw [hb, delW_no h.lt hb]
      rfl
    rw [e]
    exact h.up (Nat.le_succ _)
  | true =>
    have e : T.take k = ⟨T.al, delW T.m k, T.f, T.log ++ [⟨3, k⟩], T.pos⟩ := by
      unfold TrS.take
      rw [hb, if_pos rfl]
    rw [e]
    refine ⟨h.al, h.ra, Nat.le_succ_of_le h.ret, fun j hj => h.sub j (bit_del_le hj).1, ?_, h.ok.snoc ⟨k, hk, rfl, .inr (.inr ⟨rfl, by rw [← hm]; exact hb⟩)⟩, by show (T.log ++ [_]).length ≤ _; rw [List.length_append]; exact Nat.succ_le_succ h.len⟩
    show delW T.m k = maskE (T.log ++ [_])
    rw [maskE_snoc, ← hm]
    rfl
/-- A thing is deleted. -/
def TrS.gone (T : TrS) (k : Nat) : TrS := { T.take k with al := T.al.took k (T.al.gen k : Nat) }
theorem TrI.gone {T : TrS} {i : Nat} (h : TrI T i) {k : Nat} (hk : k < T.al.gens.length) : TrI (T.gone k) (i + 1) := by
  have hl := h.al.len
  have h1 := h.take (k := k) (by omega)
  have hlive : (T.al.took k (T.al.gen k : Nat)).live = delW T.al.live k := by
    unfold AlS.took
    split <;> rfl
  refine ⟨h.al.took hk rfl, ?_, ?_, fun j hj => ?_, h1.m, h1.ok, h1.len⟩
  · show (T.al.took k (T.al.gen k : Nat)).raised = 0
    unfold AlS.took
    split <;> exact h.ra
  · show (T.al.took k (T.al.gen k : Nat)).ret ≤ i + 1
    unfold AlS.took
    split
    · exact Nat.succ_le_succ h.ret
    · exact Nat.le_succ_of_le h.ret
  · show (T.al.took k (T.al.gen k : Nat)).live.testBit j = true
    have hj2 : (delW T.m k).testBit j = true := hj
    obtain ⟨h2, h3⟩ := bit_del_le hj2
    have hj64 : j < 64 := by
      apply Nat.lt_of_not_le
      intro hge
      rw [bit_del_ge _ _ hge] at hj2
      cases hj2
    rw [hlive, bit_del _ _ hj64, h.sub j h2]
    simp [h3]
/-- A thing is made. -/
def TrS.made (T : TrS) (k : Nat) : TrS := { T with al := T.al.made k }
theorem TrI.made {T : TrS} {i : Nat} (h : TrI T i) {k : Nat} (hk : T.al.free.testBit k = true) : TrI (T.made k) (i + 1) := by
  refine ⟨h.al.made hk, h.ra, Nat.le_succ_of_le h.ret, fun j hj => ?_, h.m, h.ok, Nat.le_succ_of_le h.len⟩
  show (addW T.al.live k).testBit j = true
  rw [bit_add, h.sub j hj]
  rfl
theorem TrI.start (f : Nat → VV) : TrI ⟨newAl 20 9, 0, f, [], []⟩ 0 := ⟨newAl_ok (by decide) (by decide) (by decide) (by decide), rfl, Nat.le_refl _, fun k hk => by simp at hk, rfl, ValidE.nil, Nat.le_refl _⟩
end Go.Proofs.YtkiikblpgppmkaaGreatDoor

namespace Go.Proofs.YtkiikblpgppmkaaGreatDoor
open Go Go.RowKit
set_option linter.unusedVariables false
set_option linter.unusedSimpArgs false

structure TrTo (T T' : TrS) : Prop where
  pos : T'.pos = T.pos
  log : T.log <+: T'.log
theorem TrTo.refl (T : TrS) : TrTo T T := ⟨rfl, List.prefix_refl _⟩
theorem TrTo.trans {T T' T'' : TrS} (h : TrTo T T') (h' : TrTo T' T'') : TrTo T T'' := ⟨h'.pos.trans h.pos, h.log.trans h'.log⟩
theorem TrTo.put (T : TrS) (k : Nat) (v : VV) : TrTo T (T.put k v) := ⟨rfl, List.prefix_append _ _⟩
theorem TrTo.wrote (T : TrS) (k : Nat) (v : VV) : TrTo T (T.wrote k v) := ⟨rfl, List.prefix_append _ _⟩
theorem TrTo.take (T : TrS) (k : Nat) : TrTo T (T.take k) := ⟨rfl, by
  unfold TrS.take
  simp only
  split
  · exact List.prefix_append _ _
  · exact List.prefix_refl _⟩
theorem TrTo.gone (T : TrS) (k : Nat) : TrTo T (T.gone k) := ⟨rfl, (TrTo.take T k).log⟩
def RetTr (w0 : World) (b : Nat) (p : WoB) (R : List Asr) (T : TrS) (i : Nat) (e : Ending) (w' : World) : Prop := ∃ (v : Value) (T' : TrS), e = .returned v ∧ TrI T' i ∧ TrTo T T' ∧ St w0 w' (woL b (trX T' []) p ++ R)
variable {w0 w : World} {R : List Asr} {b i : Nat} {p : WoB} {T : TrS}
theorem tr_create (H : St w0 w (woL b (trX T []) p ++ R)) (hT : Tab w0) (hI : TrI T i) :
    Calls Tryz.prog 14 #[ptr b] w (fun e w' => ∃ (x g er : Int) (T' : TrS), e = .returned (.tuple #[hdV x g, .int .i64 er]) ∧ TrI T' (i + 1) ∧ TrTo T T' ∧ T'.log = T.log ∧ St w0 w' (woL b (trX T' []) p ++ R)) := by
  rcases firstW_casesB T.al.free 0 with hf | ⟨k, hf, _⟩
  · refine (wo_create_no H hT hI.al hf).mono ?_
    rintro e w' ⟨rfl, hk⟩
    exact ⟨0, 0, _, T, rfl, hI.up (Nat.le_succ _), TrTo.refl _, rfl, H.keep hk⟩
  · refine (wo_create H hT hI.al k hf).mono ?_
    rintro e w' ⟨rfl, h⟩
    exact ⟨_, _, 0, T.made k, rfl, hI.made (firstW_some hf).2.2.1, ⟨rfl, List.prefix_refl _⟩, rfl, h⟩
theorem tr_insert (H : St w0 w (woL b (trX T []) p ++ R)) (hI : TrI T i) (hi : i ≤ 5000) (x g : Int) (v : VV) (hv : okV v.k v.a v.b = true) (hk1 : v.k = 1) :
    Calls Tryz.prog 15 #[ptr b, hdV x g, .int .i64 0, v.val] w (RetTr w0 b p R T (i + 1)) := by
  rcases hI.st x g with hs | hs
  · refine (wo_insert_gone H hI.al x g 0 hs v).mono ?_
    rintro e w' ⟨rfl, hk⟩
    exact ⟨_, T, rfl, hI.up (Nat.le_succ _), TrTo.refl _, H.keep hk⟩
  · obtain ⟨k, rfl, hkl, _, hlv⟩ := AlS.st_live hs
    have hl := hI.al.len
    refine (wo_insert H (hI.en (by omega)) k g hs 0 T.sl rfl v hv hk1).mono ?_
    rintro e w' ⟨rfl, h⟩
    exact ⟨_, T.put k v, rfl, hI.put (by omega) hlv v, TrTo.put _ _ _, h⟩
theorem tr_set (H : St w0 w (woL b (trX T []) p ++ R)) (hI : TrI T i) (hi : i ≤ 5000) (x g : Int) (v : VV) (hv : okV v.k v.a v.b = true) (hk1 : v.k = 1) :
    Calls Tryz.prog 16 #[ptr b, hdV x g, .int .i64 0, v.val] w (RetTr w0 b p R T (i + 1)) := by
  rcases hI.st x g with hs | hs
  · refine (wo_set_gone H hI.al x g 0 hs v).mono ?_
    rintro e w' ⟨rfl, hk⟩
    exact ⟨_, T, rfl, hI.up (Nat.le_succ _), TrTo.refl _, H.keep hk⟩
  · obtain ⟨k, rfl, hkl, _, hlv⟩ := AlS.st_live hs
    have hl := hI.al.len
    refine (wo_set H (hI.en (by omega)) k g hs 0 T.sl rfl v hv hk1).mono ?_
    rintro e w' ⟨rfl, h⟩
    have h2 : St w0 w' (woL b ((trX T []).withE ⟨T.al, [if T.m.testBit k then T.sl.wrote k v else T.sl]⟩) p ++ R) := h
    cases hb : T.m.testBit k with
    | true =>
      rw [hb, if_pos rfl] at h2
      exact ⟨_, T.wrote k v, rfl, hI.wrote (by omega) hb v, TrTo.wrote _ _ _, h2⟩
    | false =>
      rw [hb] at h2
      exact ⟨_, T, rfl, hI.up (Nat.le_succ _), TrTo.refl _, h2⟩
theorem tr_remove (H : St w0 w (woL b (trX T []) p ++ R)) (hI : TrI T i) (hi : i ≤ 5000) (x g : Int) :
    Calls Tryz.prog 17 #[ptr b, hdV x g, .int .i64 0] w (RetTr w0 b p R T (i + 1)) := by
  rcases hI.st x g with hs | hs
  · refine (wo_remove_gone H hI.al x g 0 hs).mono ?_
    rintro e w' ⟨rfl, hk⟩
    exact ⟨_, T, rfl, hI.up (Nat.le_succ _), TrTo.refl _, H.keep hk⟩
  · obtain ⟨k, rfl, hkl, _, hlv⟩ := AlS.st_live hs
    have hl := hI.al.len
    refine (wo_remove H (hI.en (by omega)) k g hs 0 T.sl rfl).mono ?_
    rintro e w' ⟨rfl, h⟩
    have h2 : St w0 w' (woL b ((trX T []).withE ⟨T.al, [T.sl.take k]⟩) p ++ R) := h
    rw [TrS.take_sl] at h2
    exact ⟨_, T.take k, rfl, hI.take (by omega), TrTo.take _ _, h2⟩
theorem tr_delete (H : St w0 w (woL b (trX T []) p ++ R)) (hI : TrI T i) (hi : i ≤ 5000) (x g : Int) :
    Calls Tryz.prog 18 #[ptr b, hdV x g] w (RetTr w0 b p R T (i + 1)) := by
  rcases hI.st x g with hs | hs
  · refine (wo_delete_gone H hI.al x g hs).mono ?_
    rintro e w' ⟨rfl, hk⟩
    exact ⟨_, T, rfl, hI.up (Nat.le_succ _), TrTo.refl _, H.keep hk⟩
  · obtain ⟨k, rfl, hkl, hg, hlv⟩ := AlS.st_live hs
    subst hg
    have hr : T.al.ret ≤ 1000000 := Nat.le_trans hI.ret (by omega)
    refine (wo_delete H (hI.en (by omega)) hr k hs).mono ?_
    rintro e w' ⟨rfl, h⟩
    have h2 : St w0 w' (woL b ((trX T []).withE ⟨T.al.took k (T.al.gen k : Nat), [T.sl.take k]⟩) p ++ R) := h
    rw [TrS.take_sl] at h2
    exact ⟨_, T.gone k, rfl, hI.gone hkl, TrTo.gone _ _, h2⟩
theorem TrI.merged (h : TrI T i) : T.al.merged = T.al := by
  unfold AlS.merged
  rw [h.ra, listW_zero]
  have e : T.al.raised = 0 := h.ra
  obtain ⟨⟨a1, a2, a3, a4, a5, a6⟩, _, _, _, _⟩ := T
  simp only at e
  subst e
  rfl
theorem tr_maint0 (H : St w0 w (woL b (trX T []) p ++ R)) (hT : Tab w0) (hI : TrI T i) :
    Calls Tryz.prog 20 #[ptr b] w (RetTr w0 b p R T (i + 1)) := by
  refine (wo_maintain H hT hI.al (by show 0 ≤ 10000; decide) (fun _ => ⟨T.al.merged, [T.sl]⟩) rfl (fun j o ho => by cases ho)).mono ?_
  rintro e w' ⟨r, a', s', rfl, _, h⟩
  rw [hI.merged] at h
  exact ⟨_, T, rfl, hI.up (Nat.le_succ _), TrTo.refl _, h⟩
def trOps (x g : Int) (v : VV) : List OpV := [⟨2, x, g, 0, v.k, v.a, v.b⟩, ⟨1, x, g, 0, 0, 0, 0⟩]
def TrS.en (T : TrS) : EnS := ⟨T.al, [T.sl]⟩
theorem tr_maint2 (x g : Int) (v : VV) (H : St w0 w (woL b (trX T (trOps x g v)) p ++ R)) (hT : Tab w0) (hI : TrI T i) (hi : i ≤ 5000) (hs : T.al.st x g = 1) (hv : okV v.k v.a v.b = true) (hk1 : v.k = 1) :
    Calls Tryz.prog 20 #[ptr b] w (RetTr w0 b p R T (i + 2)) := by
  obtain ⟨k, rfl, hkl, hg, hlv⟩ := AlS.st_live hs
  subst hg
  have hl := hI.al.len
  obtain ⟨vk, va, vb⟩ := v
  have hP := hI.put (k := k) (by omega) hlv ⟨vk, va, vb⟩
  have hr : T.al.ret ≤ 1000000 := Nat.le_trans hI.ret (by omega)
  refine (wo_maintain H hT hI.al (by show 2 ≤ 10000; decide) (fun j => if j = 0 then T.en else if j = 1 then (T.put k ⟨vk, va, vb⟩).en else ((T.put k ⟨vk, va, vb⟩).gone k).en) ?_ (fun j o ho w1 R1 h1 => ?_)).mono ?_
  · show (⟨T.al, [T.sl]⟩ : EnS) = ⟨T.al.merged, [T.sl]⟩
    rw [hI.merged]
  · match j, ho with
    | 0, ho =>
      cases ho
      have h2 := wo_apply_ins (x := trX T []) h1 (hI.en (by omega)) k _ hs 0 T.sl rfl vk va vb hv hk1
      refine h2.mono ?_
      rintro e w' ⟨rfl, h3⟩
      exact ⟨true, rfl, h3⟩
    | 1, ho =>
      cases ho
      have h2 := wo_apply_del (x := trX (T.put k ⟨vk, va, vb⟩) []) h1 (hP.en (by omega)) hr k hs ⟨1, k, _, 0, 0, 0, 0⟩ rfl rfl rfl
      refine h2.mono ?_
      rintro e w' ⟨rfl, h3⟩
      refine ⟨true, rfl, ?_⟩
      have h4 : St w0 w' (woL b ((trX (T.put k ⟨vk, va, vb⟩) []).withE ⟨T.al.took k (T.al.gen k : Nat), [(T.put k ⟨vk, va, vb⟩).sl.take k]⟩) p ++ R1) := h3
      rw [TrS.take_sl] at h4
      exact h4
    | (_ + 2), ho => cases ho
  · rintro e w' ⟨r, a', s', rfl, _, h3⟩
    exact ⟨_, (T.put k ⟨vk, va, vb⟩).gone k, rfl, hP.gone hkl, (TrTo.put _ _ _).trans (TrTo.gone _ _), h3⟩
theorem tr_defer (x g : Int) (v : VV) (H : St w0 w (woL b (trX T []) p ++ R)) (hI : TrI T i) (hi : i ≤ 5000) (hv : okV v.k v.a v.b = true) (hk1 : v.k = 1) (S : Nat → Prop) (l : Value) (hl : Rd S w l 2 (flatOp (trOps x g v))) :
    Calls Tryz.prog 19 #[ptr b, l] w (fun e w' => ∃ er : Int, e = .returned (.int .i64 er) ∧ ((T.al.st x g = 1 ∧ St w0 w' (woL b (trX T (trOps x g v)) p ++ R)) ∨ St w0 w' (woL b (trX T []) p ++ R))) := by
  have hok : ∀ o, o ∈ trOps x g v → okOp o = true := fun o ho => by
    simp only [trOps, List.mem_cons, List.not_mem_nil, or_false] at ho
    rcases ho with rfl | rfl
    · show (decide ((0 : Int) ≤ 0) && okV v.k v.a v.b) = true
      rw [hv]
      rfl
    · rfl
  have hkn : ∀ o, o ∈ trOps x g v → ∀ w', Keep w w' Nope → Calls Tryz.prog 57 #[ptr b, o.val] w' (Ret w' (.tuple #[.bool true, .bool true])) := fun o ho w' hk => by
    simp only [trOps, List.mem_cons, List.not_mem_nil, or_false] at ho
    rcases ho with rfl | rfl
    · exact wo_knows_ins (H.keep hk) (by show 1 ≤ 64; decide) 0 T.sl rfl _ rfl rfl hk1
    · exact wo_knows_del b _ w' rfl
  rcases hI.st x g with hs | hs
  · refine (wo_defer_gone H hI.al S (trOps x g v) l hl hok (by show (decide (T.al.st x g = 0) || _) = true; rw [hs]; rfl) hkn).mono ?_
    rintro e w' ⟨rfl, hk⟩
    exact ⟨4, rfl, .inr (H.keep hk)⟩
  · refine (wo_defer H hI.al S (trOps x g v) l hl hok (fun o ho => ?_) hkn (by show 0 + 2 ≤ 10000; decide)).mono ?_
    · simp only [trOps, List.mem_cons, List.not_mem_nil, or_false] at ho
      rcases ho with rfl | rfl
      · show T.al.st x g ≠ 0
        rw [hs]
        decide
      · show T.al.st x g ≠ 0
        rw [hs]
        decide
    · rintro e w' ⟨rfl, h⟩
      exact ⟨0, rfl, .inl ⟨hs, h⟩⟩
theorem tr_read (H : St w0 w (woL b (trX T []) p ++ R)) (hI : TrI T i) (hi : i ≤ 500) (k q d : Nat) (hp : T.pos.length ≤ 100) (hk : T.pos[k]? = some q) (hd : q + d = T.log.length) :
    Calls Tryz.prog 21 #[ptr b, .int .i64 0, .int .i64 (k : Nat)] w (fun e w' => ∃ a cp, e = .returned (.tuple #[.slice a d cp, .bool false, .int .i64 0]) ∧ St w0 w' (woL b (trX { T with pos := T.pos.set k T.log.length } []) p ++ (slA 86 2 (.slice a d cp) d (flatEv (T.log.drop q)) :: R))) := by
  have hlen := hI.len
  exact wo_read H (by show 1 ≤ 64; decide) 0 T.sl rfl T.F rfl hp (by show T.log.length ≤ 1000000; omega) (by show 1000 ≤ 1000; decide) k q d hk hd (by show d ≤ 1000; omega)
theorem tr_reader (H : St w0 w (woL b (trX T []) p ++ R)) (hp : T.pos.length < 100) :
    Calls Tryz.prog 13 #[ptr b, .int .i64 0] w (fun e w' => e = .returned (.tuple #[.int .i64 (T.pos.length : Nat), .int .i64 0]) ∧ St w0 w' (woL b (trX { T with pos := T.pos ++ [T.log.length] } []) p ++ R)) :=
  wo_reader H (by show 1 ≤ 64; decide) 0 T.sl rfl T.F rfl hp
end Go.Proofs.YtkiikblpgppmkaaGreatDoor
