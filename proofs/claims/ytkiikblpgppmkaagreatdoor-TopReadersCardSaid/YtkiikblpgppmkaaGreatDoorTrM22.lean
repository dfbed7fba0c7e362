/-
  The package world: Set, Remove; what is told of those that are gone; The package world: those that are gone are refused; nothing is changed; The package flag: a reader reads.
-/
import Derived.Test.YtkiikblpgppmkaaGreatDoorTrM21
import Derived.Test.YtkiikblpgppmkaaGreatDoorTrM16
namespace Go.Proofs.YtkiikblpgppmkaaGreatDoor
open Go Go.RowKit
set_option linter.unusedVariables false
set_option linter.unusedSimpArgs false

set_option maxRecDepth 100000 in
set_option maxHeartbeats 2000000 in
theorem wo_set {w0 w : World} {R : List Asr} {b : Nat} {x : WoS} {p : WoB} (H : St w0 w (woL b x p ++ R)) (hx : x.en.Ok 90000) (k : Nat) (g : Int) (hs : x.en.al.st k g = 1) (c : Nat) (s : SlS) (hc : x.en.sl[c]? = some s) (v : VV) (hv : okV v.k v.a v.b = true) (hkd : v.k = s.kind) :
    Calls Tryz.prog 16 #[ptr b, hdV k g, .int .i64 (c : Nat), v.val] w (fun en w' => en = .returned (.int .i64 (if s.m.testBit k then 0 else 10)) ∧ St w0 w' (woL b (x.withE (x.en.sets k c v)) p ++ R)) := by
  obtain ⟨i, hi⟩ : ∃ i : Int, (k : Int) = i := ⟨_, rfl⟩
  have HB := Lib.hid (show St w0 ((w.alloc (.cells #[.int .i64 i, .int .i64 g] 45)).alloc (.cells #[.int .i64 v.k, .int .i64 v.a, .int .i64 v.b] 34)) (blkA (w.heap.size + 1) #[.int .i64 v.k, .int .i64 v.a, .int .i64 v.b] 34 :: blkA w.heap.size #[.int .i64 i, .int .i64 g] 45 :: (woL b x p ++ R)) from H.box2 _ _ _ _)
  obtain ⟨wa, hwa⟩ : ∃ wa, (w.alloc (.cells #[.int .i64 i, .int .i64 g] 45)).alloc (.cells #[.int .i64 v.k, .int .i64 v.a, .int .i64 v.b] 34) = wa := ⟨_, rfl⟩
  rw [hwa] at HB
  have HD := Lib.hid (fun (w1 : World) (h : St w0 w1 (woL b x p ++ (R ++ [blkA (w.heap.size + 1) #[.int .i64 v.k, .int .i64 v.a, .int .i64 v.b] 34, blkA w.heap.size #[.int .i64 i, .int .i64 g] 45]))) => ent_set (St.woEnt h) hx k g hs c s hc v hv hkd)
  obtain ⟨y, hy⟩ : ∃ y, x.en.sets k c v = y := ⟨_, rfl⟩
  rw [hy] at HD ⊢
  obtain ⟨er, her⟩ : ∃ er : Int, (if s.m.testBit k then 0 else 10) = er := ⟨_, rfl⟩
  rw [her] at HD ⊢
  obtain ⟨ci, hci⟩ : ∃ ci : Int, (c : Int) = ci := ⟨_, rfl⟩
  rw [hci] at HD ⊢
  rw [hi] at HD ⊢
  obtain ⟨vk, va, vb⟩ := v
  simp only at hwa
  have c0 := HB.out.rest.rest.woC.c0
  obtain ⟨h0, h1, _, _⟩ := (HB.out.blk 1 rfl).two
  obtain ⟨x0, x1, x2, _, _, _⟩ := (show Blk wa (w.heap.size + 1) #[.int .i64 vk, .int .i64 va, .int .i64 vb] 34 from HB.out.blk 0 rfl).three
  clear H hx hs hc hv hkd hy hi hci her
  unfold ptr hdV VV.val at *
  simp only at *
  go_enter Tryz.func16, Tryz.ntmps16
  go_upto_region 1 with fail
  try rw [hwa]
  refine wp_region_M (r := 8) (S := fun w' => w'.cell? ⟨b, 0, none⟩ = some (.pointer (some ⟨p.eb, 0, none⟩)) ∧ w'.cell? ⟨w.heap.size, 0, none⟩ = some (.int .i64 i) ∧ w'.cell? ⟨w.heap.size, 1, none⟩ = some (.int .i64 g) ∧ w'.cell? ⟨w.heap.size + 1, 0, none⟩ = some (.int .i64 vk) ∧ w'.cell? ⟨w.heap.size + 1, 1, none⟩ = some (.int .i64 va) ∧ w'.cell? ⟨w.heap.size + 1, 2, none⟩ = some (.int .i64 vb)) (by kernel_rfl) ?_ (fun hHeld => ?_)
  · (try dsimp only); exact ⟨c0, h0, h1, x0, x1, x2⟩
  (refine tkMP 0 _ _ ?_; simp only [Act.put, List.setIfInBounds_toArray, List.set_cons_zero, List.set_cons_succ])
  (refine tkMP 1 _ _ ?_; simp only [Act.put, List.setIfInBounds_toArray, List.set_cons_zero, List.set_cons_succ])
  (refine tkMP 2 _ _ ?_; simp only [Act.put, List.setIfInBounds_toArray, List.set_cons_zero, List.set_cons_succ])
  (refine tkMP 3 _ _ ?_; simp only [Act.put, List.setIfInBounds_toArray, List.set_cons_zero, List.set_cons_succ])
  (refine tkM 4 _ _ ?_; simp only [Act.put, List.setIfInBounds_toArray, List.set_cons_zero, List.set_cons_succ])
  (refine tkM 5 _ _ ?_; simp only [Act.put, List.setIfInBounds_toArray, List.set_cons_zero, List.set_cons_succ])
  (refine tkMP 6 _ _ ?_; simp only [Act.put, List.setIfInBounds_toArray, List.set_cons_zero, List.set_cons_succ])
  (refine tkM 7 _ _ ?_; simp only [Act.put, List.setIfInBounds_toArray, List.set_cons_zero, List.set_cons_succ])
  refine wpAnyM_ready (rs := [8]) (by kernel_rfl) (by simp) ?_
  refine AllReadyM.free (o := ?_) ?_ (by kernel_rfl) ?_ ?_
  rotate_left 1
  · simp only [List.getElem?_toArray, List.getElem?_cons_succ, List.getElem?_cons_zero]; exact rfl
  rotate_left 1
  · exact AllReadyM.nil
  intro K hK
  go_simp
  go_wp2_with ((go_at_call 54; refine (HD.out _ (St.rot2 HB.out.drew)).mono ?_; rintro en w2 ⟨rfl, h2⟩; have HB2 := Lib.hid (St.unrot2 (St.woEnt' h2)); clear h2 HB))
  refine hK.out _ _ ?_
  clear hK K
  (refine tkMP 9 _ _ ?_; simp only [Act.put, List.setIfInBounds_toArray, List.set_cons_zero, List.set_cons_succ])
  refine wpAnyM_done (by kernel_rfl) ?_ _
  clear hHeld c0 h0 h1 x0 x1 x2
  go_wp2_with fail
  go_ret
  exact ⟨rfl, HB2.out.rest.rest⟩
set_option maxRecDepth 100000 in
set_option maxHeartbeats 2000000 in
theorem wo_set_gone {w0 w : World} {R : List Asr} {b : Nat} {x : WoS} {p : WoB} (H : St w0 w (woL b x p ++ R)) (hx : x.en.al.Ok) (i g c : Int) (hs : x.en.al.st i g = 0) (v : VV) :
    Calls Tryz.prog 16 #[ptr b, hdV i g, .int .i64 c, v.val] w (Ret w (.int .i64 4)) := by
  have HB := Lib.hid (show St w0 ((w.alloc (.cells #[.int .i64 i, .int .i64 g] 45)).alloc (.cells #[.int .i64 v.k, .int .i64 v.a, .int .i64 v.b] 34)) (blkA (w.heap.size + 1) #[.int .i64 v.k, .int .i64 v.a, .int .i64 v.b] 34 :: blkA w.heap.size #[.int .i64 i, .int .i64 g] 45 :: (woL b x p ++ R)) from H.box2 _ _ _ _)
  have hk2 := (show Keep w ((w.alloc (.cells #[.int .i64 i, .int .i64 g] 45)).alloc (.cells #[.int .i64 v.k, .int .i64 v.a, .int .i64 v.b] 34)) Nope from ((Keep.refl w Nope).alloc _).alloc _)
  obtain ⟨wa, hwa⟩ : ∃ wa, (w.alloc (.cells #[.int .i64 i, .int .i64 g] 45)).alloc (.cells #[.int .i64 v.k, .int .i64 v.a, .int .i64 v.b] 34) = wa := ⟨_, rfl⟩
  rw [hwa] at HB hk2
  have h2 := St.woEnt HB.out.rest.rest
  have HD := Lib.hid (ent_set_gone (c := c) hx (v := v) wa.drew (h2.drew.entC0) (h2.drew.entAl hx) hs)
  have HK := Lib.hid hk2
  obtain ⟨vk, va, vb⟩ := v
  simp only at hwa
  have c0 := HB.out.rest.rest.woC.c0
  obtain ⟨h0, h1, _, _⟩ := (HB.out.blk 1 rfl).two
  obtain ⟨x0, x1, x2, _, _, _⟩ := (show Blk wa (w.heap.size + 1) #[.int .i64 vk, .int .i64 va, .int .i64 vb] 34 from HB.out.blk 0 rfl).three
  clear H hx hs h2 hk2
  unfold ptr hdV VV.val at *
  simp only at *
  go_enter Tryz.func16, Tryz.ntmps16
  go_upto_region 1 with fail
  try rw [hwa]
  refine wp_region_M (r := 8) (S := fun w' => w'.cell? ⟨b, 0, none⟩ = some (.pointer (some ⟨p.eb, 0, none⟩)) ∧ w'.cell? ⟨w.heap.size, 0, none⟩ = some (.int .i64 i) ∧ w'.cell? ⟨w.heap.size, 1, none⟩ = some (.int .i64 g) ∧ w'.cell? ⟨w.heap.size + 1, 0, none⟩ = some (.int .i64 vk) ∧ w'.cell? ⟨w.heap.size + 1, 1, none⟩ = some (.int .i64 va) ∧ w'.cell? ⟨w.heap.size + 1, 2, none⟩ = some (.int .i64 vb)) (by kernel_rfl) ?_ (fun hHeld => ?_)
  · (try dsimp only); exact ⟨c0, h0, h1, x0, x1, x2⟩
  (refine tkMP 0 _ _ ?_; simp only [Act.put, List.setIfInBounds_toArray, List.set_cons_zero, List.set_cons_succ])
  (refine tkMP 1 _ _ ?_; simp only [Act.put, List.setIfInBounds_toArray, List.set_cons_zero, List.set_cons_succ])
  (refine tkMP 2 _ _ ?_; simp only [Act.put, List.setIfInBounds_toArray, List.set_cons_zero, List.set_cons_succ])
  (refine tkMP 3 _ _ ?_; simp only [Act.put, List.setIfInBounds_toArray, List.set_cons_zero, List.set_cons_succ])
  (refine tkM 4 _ _ ?_; simp only [Act.put, List.setIfInBounds_toArray, List.set_cons_zero, List.set_cons_succ])
  (refine tkM 5 _ _ ?_; simp only [Act.put, List.setIfInBounds_toArray, List.set_cons_zero, List.set_cons_succ])
  (refine tkMP 6 _ _ ?_; simp only [Act.put, List.setIfInBounds_toArray, List.set_cons_zero, List.set_cons_succ])
  (refine tkM 7 _ _ ?_; simp only [Act.put, List.setIfInBounds_toArray, List.set_cons_zero, List.set_cons_succ])
  refine wpAnyM_ready (rs := [8]) (by kernel_rfl) (by simp) ?_
  refine AllReadyM.free (o := ?_) ?_ (by kernel_rfl) ?_ ?_
  rotate_left 1
  · simp only [List.getElem?_toArray, List.getElem?_cons_succ, List.getElem?_cons_zero]; exact rfl
  rotate_left 1
  · exact AllReadyM.nil
  intro K hK
  go_simp
  go_wp2_with ((go_at_call 54; refine HD.out.mono ?_; rintro en w2 ⟨rfl, hkp⟩; have HK2 := Lib.hid (HK.out.drew.trans hkp (fun _ f => f.elim)); clear hkp HB))
  refine hK.out _ _ ?_
  clear hK K
  (refine tkMP 9 _ _ ?_; simp only [Act.put, List.setIfInBounds_toArray, List.set_cons_zero, List.set_cons_succ])
  refine wpAnyM_done (by kernel_rfl) ?_ _
  clear hHeld c0 h0 h1 x0 x1 x2
  go_wp2_with fail
  go_ret
  exact ⟨rfl, HK2.out⟩
set_option maxRecDepth 100000 in
set_option maxHeartbeats 2000000 in
theorem wo_remove {w0 w : World} {R : List Asr} {b : Nat} {x : WoS} {p : WoB} (H : St w0 w (woL b x p ++ R)) (hx : x.en.Ok 90000) (k : Nat) (g : Int) (hs : x.en.al.st k g = 1) (c : Nat) (s : SlS) (hc : x.en.sl[c]? = some s) :
    Calls Tryz.prog 17 #[ptr b, hdV k g, .int .i64 (c : Nat)] w (fun en w' => en = .returned (.tuple #[(hadV s.m s.f k).val, .int .i64 (if s.m.testBit k then 0 else 10)]) ∧ St w0 w' (woL b (x.withE (x.en.takes k c)) p ++ R)) := by
  obtain ⟨i, hi⟩ : ∃ i : Int, (k : Int) = i := ⟨_, rfl⟩
  have HB := Lib.hid (show St w0 ((w.alloc (.cells #[.int .i64 i, .int .i64 g] 45)).alloc (.cells #[.int .i64 0, .int .i64 0, .int .i64 0] 34)) (blkA (w.heap.size + 1) #[.int .i64 0, .int .i64 0, .int .i64 0] 34 :: blkA w.heap.size #[.int .i64 i, .int .i64 g] 45 :: (woL b x p ++ R)) from H.box2 _ _ _ _)
  have HM := Lib.hid (wo_may HB.out.rest.rest hx.al k g)
  rw [hs] at HM
  rw [show mayE 1 = 0 from rfl] at HM
  have HD := Lib.hid (fun (w1 : World) (h : St w0 w1 (woL b x p ++ (R ++ [blkA (w.heap.size + 1) #[.int .i64 0, .int .i64 0, .int .i64 0] 34, blkA w.heap.size #[.int .i64 i, .int .i64 g] 45]))) => ent_remove (St.woEnt h) hx k g hs c s hc)
  obtain ⟨y, hy⟩ : ∃ y, x.en.takes k c = y := ⟨_, rfl⟩
  rw [hy] at HD ⊢
  obtain ⟨er, her⟩ : ∃ er : Int, (if s.m.testBit k then 0 else 10) = er := ⟨_, rfl⟩
  rw [her] at HD ⊢
  obtain ⟨⟨q1, q2, q3⟩, hh⟩ : ∃ h, hadV s.m s.f k = h := ⟨_, rfl⟩
  rw [hh] at HD ⊢
  obtain ⟨ci, hci⟩ : ∃ ci : Int, (c : Int) = ci := ⟨_, rfl⟩
  rw [hci] at HD ⊢
  rw [hi] at HM HD ⊢
  clear H hx hs hc hy hi hci her hh
  unfold ptr hdV VV.val at *
  simp only at *
  go_enter Tryz.func17, Tryz.ntmps17
  go_wp2_with (go_at_call 52; refine HM.out.mono ?_; rintro e w1 ⟨rfl, hk1⟩; have HB1 := Lib.hid (HB.out.keep hk1); clear hk1 HM HB)
  have c0 := HB1.out.rest.rest.woC.c0
  obtain ⟨h0, h1, _, _⟩ := (HB1.out.blk 1 rfl).two
  refine wp_region_M (r := 7) (S := fun w' => w'.cell? ⟨b, 0, none⟩ = some (.pointer (some ⟨p.eb, 0, none⟩)) ∧ w'.cell? ⟨w.heap.size, 0, none⟩ = some (.int .i64 i) ∧ w'.cell? ⟨w.heap.size, 1, none⟩ = some (.int .i64 g)) (by kernel_rfl) ?_ (fun hHeld => ?_)
  · (try dsimp only); exact ⟨c0, h0, h1⟩
  (refine tkMP 0 _ _ ?_; simp only [Act.put, List.setIfInBounds_toArray, List.set_cons_zero, List.set_cons_succ])
  (refine tkMP 1 _ _ ?_; simp only [Act.put, List.setIfInBounds_toArray, List.set_cons_zero, List.set_cons_succ])
  (refine tkMP 2 _ _ ?_; simp only [Act.put, List.setIfInBounds_toArray, List.set_cons_zero, List.set_cons_succ])
  (refine tkMP 3 _ _ ?_; simp only [Act.put, List.setIfInBounds_toArray, List.set_cons_zero, List.set_cons_succ])
  (refine tkM 4 _ _ ?_; simp only [Act.put, List.setIfInBounds_toArray, List.set_cons_zero, List.set_cons_succ])
  (refine tkM 5 _ _ ?_; simp only [Act.put, List.setIfInBounds_toArray, List.set_cons_zero, List.set_cons_succ])
  (refine tkMP 6 _ _ ?_; simp only [Act.put, List.setIfInBounds_toArray, List.set_cons_zero, List.set_cons_succ])
  refine wpAnyM_ready (rs := [7]) (by kernel_rfl) (by simp) ?_
  refine AllReadyM.free (o := ?_) ?_ (by kernel_rfl) ?_ ?_
  rotate_left 1
  · simp only [List.getElem?_toArray, List.getElem?_cons_succ, List.getElem?_cons_zero]; exact rfl
  rotate_left 1
  · exact AllReadyM.nil
  intro K hK
  go_simp
  go_wp2_with ((go_at_call 55; refine (HD.out _ (St.rot2 HB1.out.drew)).mono ?_; rintro en w2 ⟨rfl, h2⟩; have HB2 := Lib.hid (St.unrot2 (St.woEnt' h2)); clear h2 HB1; obtain ⟨z0, z1, z2, y0, y1, y2⟩ := (HB2.out.blk 0 rfl).three))
  refine hK.out _ _ ?_
  clear hK K
  (refine tkMP 8 _ _ ?_; simp only [Act.put, List.setIfInBounds_toArray, List.set_cons_zero, List.set_cons_succ])
  (refine tkMP 9 _ _ ?_; simp only [Act.put, List.setIfInBounds_toArray, List.set_cons_zero, List.set_cons_succ])
  refine wpAnyM_ready (rs := [10]) (by kernel_rfl) (by simp) ?_
  refine AllReadyM.free (o := ?_) ?_ (by kernel_rfl) ?_ ?_
  rotate_left 1
  · simp only [List.getElem?_toArray, List.getElem?_cons_succ, List.getElem?_cons_zero]; exact rfl
  rotate_left 1
  · exact AllReadyM.nil
  intro K hK
  go_simp
  refine hK.out _ _ ?_
  clear hK K
  (refine tkMP 11 _ _ ?_; simp only [Act.put, List.setIfInBounds_toArray, List.set_cons_zero, List.set_cons_succ])
  refine wpAnyM_done (by kernel_rfl) ?_ _
  clear hHeld c0 h0 h1
  obtain ⟨p0, p1, p2, _, _, _⟩ := ((HB2.out.blk 0 rfl).set3 (.int .i64 q1) (.int .i64 q2) (.int .i64 q3)).three
  have HF := Lib.hid ((HB2.out.write3 (.int .i64 q1) (.int .i64 q2) (.int .i64 q3)).rest.rest)
  clear z0 z1 z2 y0 y1 y2
  go_wp2_with fail
  refine bodyPost_ret (v := .tuple #[.agg #[.int .i64 q1, .int .i64 q2, .int .i64 q3], .int .i64 er]) (by simp [results, Tryz.results17, go_sem, p0, p1, p2]) rfl ⟨rfl, HF.out⟩
end Go.Proofs.YtkiikblpgppmkaaGreatDoor

namespace Go.Proofs.YtkiikblpgppmkaaGreatDoor
open Go Go.RowKit
set_option linter.unusedVariables false
set_option linter.unusedSimpArgs false

set_option maxRecDepth 100000 in
set_option maxHeartbeats 2000000 in
theorem wo_insert_gone {w0 w : World} {R : List Asr} {b : Nat} {x : WoS} {p : WoB} (H : St w0 w (woL b x p ++ R)) (hx : x.en.al.Ok) (i g c : Int) (hs : x.en.al.st i g = 0) (v : VV) :
    Calls Tryz.prog 15 #[ptr b, hdV i g, .int .i64 c, v.val] w (Ret w (.tuple #[zV, .bool false, .int .i64 4])) := by
  have HB := Lib.hid (show St w0 (((w.alloc (.cells #[.int .i64 i, .int .i64 g] 45)).alloc (.cells #[.int .i64 v.k, .int .i64 v.a, .int .i64 v.b] 34)).alloc (.cells #[.int .i64 0, .int .i64 0, .int .i64 0] 34)) (blkA (w.heap.size + 1 + 1) #[.int .i64 0, .int .i64 0, .int .i64 0] 34 :: blkA (w.heap.size + 1) #[.int .i64 v.k, .int .i64 v.a, .int .i64 v.b] 34 :: blkA w.heap.size #[.int .i64 i, .int .i64 g] 45 :: (woL b x p ++ R)) from H.box3 _ _ _ _ _ _)
  have HK := Lib.hid (show Keep w (((w.alloc (.cells #[.int .i64 i, .int .i64 g] 45)).alloc (.cells #[.int .i64 v.k, .int .i64 v.a, .int .i64 v.b] 34)).alloc (.cells #[.int .i64 0, .int .i64 0, .int .i64 0] 34)) Nope from (((Keep.refl w Nope).alloc _).alloc _).alloc _)
  have HM := Lib.hid (wo_may HB.out.rest.rest.rest hx i g)
  rw [hs] at HM
  rw [show mayE 0 = 4 from rfl] at HM
  obtain ⟨vk, va, vb⟩ := v
  clear H hx hs
  unfold ptr hdV VV.val zV at *
  simp only at *
  go_enter Tryz.func15, Tryz.ntmps15
  go_wp2_with (go_at_call 52; refine HM.out.mono ?_; rintro e w1 ⟨rfl, hk1⟩; have HB1 := Lib.hid (HB.out.keep hk1); have HK1 := Lib.hid (HK.out.trans hk1 (fun _ f => f.elim)); clear hk1 HM HB; obtain ⟨z0, z1, z2, y0, y1, y2⟩ := (HB1.out.blk 0 rfl).three)
  obtain ⟨q0, q1, q2, _, _, _⟩ := ((HB1.out.blk 0 rfl).set3 (.int .i64 0) (.int .i64 0) (.int .i64 0)).three
  have HF := Lib.hid (HK1.out.set3 (b := w.heap.size + 1 + 1) (by omega) (.int .i64 0) (.int .i64 0) (.int .i64 0))
  clear z0 z1 z2 y0 y1 y2
  refine bodyPost_ret (v := .tuple #[.agg #[.int .i64 0, .int .i64 0, .int .i64 0], .bool false, .int .i64 4]) (by simp [results, Tryz.results15, go_sem, q0, q1, q2]) rfl ⟨rfl, HF.out⟩
set_option maxRecDepth 100000 in
set_option maxHeartbeats 2000000 in
theorem wo_remove_gone {w0 w : World} {R : List Asr} {b : Nat} {x : WoS} {p : WoB} (H : St w0 w (woL b x p ++ R)) (hx : x.en.al.Ok) (i g c : Int) (hs : x.en.al.st i g = 0) :
    Calls Tryz.prog 17 #[ptr b, hdV i g, .int .i64 c] w (Ret w (.tuple #[zV, .int .i64 4])) := by
  have HB := Lib.hid (show St w0 ((w.alloc (.cells #[.int .i64 i, .int .i64 g] 45)).alloc (.cells #[.int .i64 0, .int .i64 0, .int .i64 0] 34)) (blkA (w.heap.size + 1) #[.int .i64 0, .int .i64 0, .int .i64 0] 34 :: blkA w.heap.size #[.int .i64 i, .int .i64 g] 45 :: (woL b x p ++ R)) from H.box2 _ _ _ _)
  have HK := Lib.hid (show Keep w ((w.alloc (.cells #[.int .i64 i, .int .i64 g] 45)).alloc (.cells #[.int .i64 0, .int .i64 0, .int .i64 0] 34)) Nope from ((Keep.refl w Nope).alloc _).alloc _)
  have HM := Lib.hid (wo_may HB.out.rest.rest hx i g)
  rw [hs] at HM
  rw [show mayE 0 = 4 from rfl] at HM
  clear H hx hs
  unfold ptr hdV zV at *
  go_enter Tryz.func17, Tryz.ntmps17
  go_wp2_with (go_at_call 52; refine HM.out.mono ?_; rintro e w1 ⟨rfl, hk1⟩; have HB1 := Lib.hid (HB.out.keep hk1); have HK1 := Lib.hid (HK.out.trans hk1 (fun _ f => f.elim)); clear hk1 HM HB; obtain ⟨z0, z1, z2, y0, y1, y2⟩ := (HB1.out.blk 0 rfl).three)
  obtain ⟨q0, q1, q2, _, _, _⟩ := ((HB1.out.blk 0 rfl).set3 (.int .i64 0) (.int .i64 0) (.int .i64 0)).three
  have HF := Lib.hid (HK1.out.set3 (b := w.heap.size + 1) (by omega) (.int .i64 0) (.int .i64 0) (.int .i64 0))
  clear z0 z1 z2 y0 y1 y2
  refine bodyPost_ret (v := .tuple #[.agg #[.int .i64 0, .int .i64 0, .int .i64 0], .int .i64 4]) (by simp [results, Tryz.results17, go_sem, q0, q1, q2]) rfl ⟨rfl, HF.out⟩
set_option maxRecDepth 100000 in
set_option maxHeartbeats 2000000 in
theorem wo_delete_gone {w0 w : World} {R : List Asr} {b : Nat} {x : WoS} {p : WoB} (H : St w0 w (woL b x p ++ R)) (hx : x.en.al.Ok) (i g : Int) (hs : x.en.al.st i g = 0) :
    Calls Tryz.prog 18 #[ptr b, hdV i g] w (Ret w (.tuple #[.int .i64 0, .int .i64 4])) := by
  have HB := Lib.hid (show St w0 (w.alloc (.cells #[.int .i64 i, .int .i64 g] 45)) (blkA w.heap.size #[.int .i64 i, .int .i64 g] 45 :: (woL b x p ++ R)) from H.box0 _ _)
  have HK := Lib.hid (show Keep w (w.alloc (.cells #[.int .i64 i, .int .i64 g] 45)) Nope from (Keep.refl w Nope).alloc _)
  have HM := Lib.hid (wo_may HB.out.rest hx i g)
  rw [hs] at HM
  rw [show mayE 0 = 4 from rfl] at HM
  clear H hx hs
  unfold ptr hdV at *
  go_enter Tryz.func18, Tryz.ntmps18
  go_wp2_with (go_at_call 52; refine HM.out.mono ?_; rintro e w1 ⟨rfl, hk1⟩; have HK1 := Lib.hid (HK.out.trans hk1 (fun _ f => f.elim)); clear hk1 HM HB)
  go_ret2
  exact ⟨rfl, HK1.out⟩
end Go.Proofs.YtkiikblpgppmkaaGreatDoor

namespace Go.Proofs.YtkiikblpgppmkaaGreatDoor
open Go Go.RowKit
set_option linter.unusedVariables false
set_option linter.unusedSimpArgs false

theorem i64n_set (l : List Nat) (k m : Nat) : (i64n l).set k (.int .i64 (m : Int)) = i64n (l.set k m) := by simp [i64n, List.map_set]
theorem last_drop (F : FlagV) (p d : Nat) (hd : p + d = F.all.length) (hB : d ≤ F.bound) : F.last.drop (F.last.length - d) = F.all.drop p := by
  have h2 := F.last_len
  rw [h2]
  unfold FlagV.last
  rw [List.drop_drop]
  congr 1
  omega
/-- What stands when a reader has read. -/
def FlagV.seen (F : FlagV) (k : Nat) : FlagV := ⟨F.bound, F.all, F.pos.set k F.all.length⟩

set_option maxRecDepth 100000 in
set_option maxHeartbeats 1000000 in
theorem flag_read_no {w0 w : World} {L : List Asr} {b : Nat} {F : FlagV} (H : St w0 w L) (i : Nat) (hi : L[i]? = some (flagA b F)) (hp : F.pos.length ≤ 100) (k : Int) (hk : k < 0 ∨ F.pos.length ≤ k) :
    Calls Tryz.prog 67 #[.pointer (some ⟨b, 0, none⟩), .int .i64 k] w (Ret w (.tuple #[.slice none 0 0, .bool false, .int .i64 8])) := by
  have HC := Lib.hid (flag_behind_no H i hi hp k hk)
  clear H hi hk
  go_enter Tryz.func67, Tryz.ntmps67
  go_wp2_with fail
  refine (HC.out).mono ?_
  rintro e w1 ⟨rfl, hk1⟩
  have HK := Lib.hid hk1; clear hk1
  go_wp2_with fail
  go_ret3
  exact ⟨rfl, HK.out⟩

set_option maxRecDepth 2000 in
set_option maxRecDepth 100000 in
set_option maxHeartbeats 1000000 in
theorem flag_read_lag {w0 w : World} {L : List Asr} {b : Nat} {F : FlagV} (H : St w0 w L) (i : Nat) (hi : L[i]? = some (flagA b F)) (hp : F.pos.length ≤ 100) (hall : F.all.length ≤ 1000000) (hB2 : F.bound ≤ 1000) (k p d : Nat) (hk : F.pos[k]? = some p) (hd : p + d = F.all.length) (hdb : F.bound < d) :
    Calls Tryz.prog 67 #[.pointer (some ⟨b, 0, none⟩), .int .i64 k] w (fun e w' => e = .returned (.tuple #[.slice none 0 0, .bool true, .int .i64 0]) ∧ St w0 w' (L.set i (flagA b (F.seen k)))) := by
  have HC := Lib.hid (flag_behind_yes H i hi hp hall k p d hk hd)
  obtain ⟨la, lc, ra, rc, h⟩ := H.flagSplit i hi
  have HIL := Lib.hid (List.getElem?_eq_some_iff.1 hi).1
  have hkl := (List.getElem?_eq_some_iff.1 hk).1
  have hll := F.last_len
  have HLD := Lib.hid (last_drop F p d hd)
  obtain ⟨n, hn⟩ : ∃ n, F.pos.length = n := ⟨_, rfl⟩
  obtain ⟨m, hm⟩ : ∃ m, F.all.length = m := ⟨_, rfl⟩
  obtain ⟨nl, hnl⟩ : ∃ nl, F.last.length = nl := ⟨_, rfl⟩
  obtain ⟨B, hB⟩ : ∃ B, F.bound = B := ⟨_, rfl⟩
  unfold flagPs at h
  rw [hn, hm, hnl, hB] at h
  rw [hn] at hp hkl
  rw [hm] at hall hd
  rw [hB] at hdb hB2
  rw [hnl, hm, hB] at hll
  rw [hnl, hB] at HLD
  have HN := Lib.hid hn
  have HM := Lib.hid hm
  have HNL := Lib.hid hnl
  have HB := Lib.hid hB
  have b1 : (k : Int) < n := by omega
  have b2 : (0 : Int) ≤ k := by omega
  have b5 : d ≤ 1000000 := by omega
  have HH := Lib.hid h
  have HD := Lib.hid hd
  have HLL := Lib.hid hll
  clear h H hi hk hn hm hnl hB hd hll
  go_enter Tryz.func67, Tryz.ntmps67
  go_wp2_with fail
  refine (HC.out).mono ?_
  rintro e w1 ⟨rfl, hk1⟩
  have H1 := Lib.hid (HH.out.keep hk1); clear hk1 HH
  have c3 := (H1.out.blk 0 rfl).cell 3
  have c1 := (H1.out.blk 0 rfl).cell 1
  simp at c3 c1
  obtain ⟨g, rfl, hgl, hgf, hgc, hgs⟩ := H1.out.store 2 rfl (by omega)
  have ck := hgc k (by omega)
  have fk := hgf k
  have HXK := Lib.hid (show ∃ u, (i64n F.pos)[k]? = some u from ⟨_, List.getElem?_eq_getElem (by rw [i64n_len, HN.out]; exact hkl)⟩)
  obtain ⟨u, hu⟩ := HXK.out
  rw [hu] at ck
  have hcap := (H1.out.rd 2 rfl).choose_spec.1.cap
  unfold maxLen at hcap
  have HGS := Lib.hid hgs
  clear hgf hgc hgs hu HXK
  go_wp2_with fail
  refine wp_region_M (r := 9) (S := fun w' => w'.cell? ⟨b, 3, none⟩ = some (.slice (some ⟨g, 0, none⟩) n rc) ∧ w'.cell? ⟨b, 1, none⟩ = some (.int .i64 m)) (by kernel_rfl) ?_ (fun hHeld => ?_)
  · (try dsimp only); go_keep
  (refine tkM 0 _ _ ?_; simp only [Act.put, List.setIfInBounds_toArray, List.set_cons_zero, List.set_cons_succ])
  (refine tkM 1 _ _ ?_; simp only [Act.put, List.setIfInBounds_toArray, List.set_cons_zero, List.set_cons_succ])
  (refine tkM 2 _ _ ?_; simp only [Act.put, List.setIfInBounds_toArray, List.set_cons_zero, List.set_cons_succ])
  (refine tkM 3 _ _ ?_; simp only [Act.put, List.setIfInBounds_toArray, List.set_cons_zero, List.set_cons_succ])
  (refine tkM 4 _ _ ?_; simp only [Act.put, List.setIfInBounds_toArray, List.set_cons_zero, List.set_cons_succ])
  (refine tkM 5 _ _ ?_; simp only [Act.put, List.setIfInBounds_toArray, List.set_cons_zero, List.set_cons_succ])
  (refine tkM 6 _ _ ?_; simp only [Act.put, List.setIfInBounds_toArray, List.set_cons_zero, List.set_cons_succ])
  (refine tkM 7 _ _ ?_; simp only [Act.put, List.setIfInBounds_toArray, List.set_cons_zero, List.set_cons_succ])
  (refine tkM 8 _ _ ?_; simp only [Act.put, List.setIfInBounds_toArray, List.set_cons_zero, List.set_cons_succ])
  refine wpAnyM_ready (rs := [9]) (by kernel_rfl) (by simp) ?_
  refine AllReadyM.free (o := ?_) ?_ (by kernel_rfl) ?_ ?_
  rotate_left 1
  · simp only [List.getElem?_toArray, List.getElem?_cons_succ, List.getElem?_cons_zero]; exact rfl
  rotate_left 1
  · exact AllReadyM.nil
  intro K hK
  go_simp
  refine hK.out _ _ ?_
  clear hK K
  refine wpAnyM_ready (rs := [10]) (by kernel_rfl) (by simp) ?_
  refine AllReadyM.free (o := ?_) ?_ (by kernel_rfl) ?_ ?_
  rotate_left 1
  · simp only [List.getElem?_toArray, List.getElem?_cons_succ, List.getElem?_cons_zero]; exact rfl
  rotate_left 1
  · exact AllReadyM.nil
  intro K hK
  go_simp
  refine hK.out _ _ ?_
  clear hK K
  refine wpAnyM_done (by kernel_rfl) ?_ _
  have h2 := (HGS.out k (.int .i64 (m : Int))).drew
  obtain ⟨w2, hw2⟩ : ∃ w2, w2 = (w1.setCell ⟨g, k, none⟩ (.int .i64 (m : Int))).drew := ⟨_, rfl⟩
  rw [← hw2] at h2 ⊢
  rw [i64n_set] at h2
  have H2 := Lib.hid (show St w0 w2 ([blkA b #[.int .i64 B, .int .i64 m, .slice la nl lc, .slice (some ⟨g, 0, none⟩) n rc] 247, slA 86 2 (.slice la nl lc) nl (flatEv F.last), slA 2 1 (.slice (some ⟨g, 0, none⟩) n rc) n (i64n (F.pos.set k m))] ++ L.set i empA) from h2)
  clear h2 hw2 H1 HGS c3 c1 ck fk hgl hHeld
  have c20 := (H2.out.blk 0 rfl).cell 0
  have c22 := (H2.out.blk 0 rfl).cell 2
  simp at c20 c22
  go_wp2_with fail
  go_ret3
  refine ⟨rfl, ?_⟩
  refine St.flagJoin (la := la) (lc := lc) (ra := some ⟨g, 0, none⟩) (rc := rc) i HIL.out ?_
  unfold flagPs FlagV.seen
  have e1 : (F.pos.set k F.all.length).length = n := by rw [List.length_set, HN.out]
  have e2 : (⟨F.bound, F.all, F.pos.set k F.all.length⟩ : FlagV).last = F.last := rfl
  rw [e1, e2, HM.out, HNL.out, HB.out]
  exact H2.out

set_option maxRecDepth 2000 in
set_option maxRecDepth 100000 in
set_option maxHeartbeats 1000000 in
theorem flag_read_yes {w0 w : World} {L : List Asr} {b : Nat} {F : FlagV} (H : St w0 w L) (i : Nat) (hi : L[i]? = some (flagA b F)) (hp : F.pos.length ≤ 100) (hall : F.all.length ≤ 1000000) (hB2 : F.bound ≤ 1000) (k p d : Nat) (hk : F.pos[k]? = some p) (hd : p + d = F.all.length) (hdb : d ≤ F.bound) :
    Calls Tryz.prog 67 #[.pointer (some ⟨b, 0, none⟩), .int .i64 k] w (fun e w' => ∃ a n c, e = .returned (.tuple #[.slice a n c, .bool false, .int .i64 0]) ∧ n = d ∧ St w0 w' (L.set i (flagA b (F.seen k)) ++ [slA 86 2 (.slice a n c) n (flatEv (F.all.drop p))])) := by
  have HC := Lib.hid (flag_behind_yes H i hi hp hall k p d hk hd)
  obtain ⟨la, lc, ra, rc, h⟩ := H.flagSplit i hi
  have HIL := Lib.hid (List.getElem?_eq_some_iff.1 hi).1
  have hkl := (List.getElem?_eq_some_iff.1 hk).1
  have hll := F.last_len
  have HLD := Lib.hid (last_drop F p d hd)
  obtain ⟨n, hn⟩ : ∃ n, F.pos.length = n := ⟨_, rfl⟩
  obtain ⟨m, hm⟩ : ∃ m, F.all.length = m := ⟨_, rfl⟩
  obtain ⟨nl, hnl⟩ : ∃ nl, F.last.length = nl := ⟨_, rfl⟩
  obtain ⟨B, hB⟩ : ∃ B, F.bound = B := ⟨_, rfl⟩
  unfold flagPs at h
  rw [hn, hm, hnl, hB] at h
  rw [hn] at hp hkl
  rw [hm] at hall hd
  rw [hB] at hdb hB2
  rw [hnl, hm, hB] at hll
  rw [hnl, hB] at HLD
  have HN := Lib.hid hn
  have HM := Lib.hid hm
  have HNL := Lib.hid hnl
  have HB := Lib.hid hB
  have b1 : (k : Int) < n := by omega
  have b2 : (0 : Int) ≤ k := by omega
  have b5 : d ≤ 1000000 := by omega
  have HH := Lib.hid h
  have HD := Lib.hid hd
  have HLL := Lib.hid hll
  clear h H hi hk hn hm hnl hB hd hll
  go_enter Tryz.func67, Tryz.ntmps67
  go_wp2_with fail
  refine (HC.out).mono ?_
  rintro e w1 ⟨rfl, hk1⟩
  have H1 := Lib.hid (HH.out.keep hk1); clear hk1 HH
  have c3 := (H1.out.blk 0 rfl).cell 3
  have c1 := (H1.out.blk 0 rfl).cell 1
  simp at c3 c1
  obtain ⟨g, rfl, hgl, hgf, hgc, hgs⟩ := H1.out.store 2 rfl (by omega)
  have ck := hgc k (by omega)
  have fk := hgf k
  have HXK := Lib.hid (show ∃ u, (i64n F.pos)[k]? = some u from ⟨_, List.getElem?_eq_getElem (by rw [i64n_len, HN.out]; exact hkl)⟩)
  obtain ⟨u, hu⟩ := HXK.out
  rw [hu] at ck
  have hcap := (H1.out.rd 2 rfl).choose_spec.1.cap
  unfold maxLen at hcap
  have HGS := Lib.hid hgs
  clear hgf hgc hgs hu HXK
  go_wp2_with fail
  refine wp_region_M (r := 9) (S := fun w' => w'.cell? ⟨b, 3, none⟩ = some (.slice (some ⟨g, 0, none⟩) n rc) ∧ w'.cell? ⟨b, 1, none⟩ = some (.int .i64 m)) (by kernel_rfl) ?_ (fun hHeld => ?_)
  · (try dsimp only); go_keep
  (refine tkM 0 _ _ ?_; simp only [Act.put, List.setIfInBounds_toArray, List.set_cons_zero, List.set_cons_succ])
  (refine tkM 1 _ _ ?_; simp only [Act.put, List.setIfInBounds_toArray, List.set_cons_zero, List.set_cons_succ])
  (refine tkM 2 _ _ ?_; simp only [Act.put, List.setIfInBounds_toArray, List.set_cons_zero, List.set_cons_succ])
  (refine tkM 3 _ _ ?_; simp only [Act.put, List.setIfInBounds_toArray, List.set_cons_zero, List.set_cons_succ])
  (refine tkM 4 _ _ ?_; simp only [Act.put, List.setIfInBounds_toArray, List.set_cons_zero, List.set_cons_succ])
  (refine tkM 5 _ _ ?_; simp only [Act.put, List.setIfInBounds_toArray, List.set_cons_zero, List.set_cons_succ])
  (refine tkM 6 _ _ ?_; simp only [Act.put, List.setIfInBounds_toArray, List.set_cons_zero, List.set_cons_succ])
  (refine tkM 7 _ _ ?_; simp only [Act.put, List.setIfInBounds_toArray, List.set_cons_zero, List.set_cons_succ])
  (refine tkM 8 _ _ ?_; simp only [Act.put, List.setIfInBounds_toArray, List.set_cons_zero, List.set_cons_succ])
  refine wpAnyM_ready (rs := [9]) (by kernel_rfl) (by simp) ?_
  refine AllReadyM.free (o := ?_) ?_ (by kernel_rfl) ?_ ?_
  rotate_left 1
  · simp only [List.getElem?_toArray, List.getElem?_cons_succ, List.getElem?_cons_zero]; exact rfl
  rotate_left 1
  · exact AllReadyM.nil
  intro K hK
  go_simp
  refine hK.out _ _ ?_
  clear hK K
  refine wpAnyM_ready (rs := [10]) (by kernel_rfl) (by simp) ?_
  refine AllReadyM.free (o := ?_) ?_ (by kernel_rfl) ?_ ?_
  rotate_left 1
  · simp only [List.getElem?_toArray, List.getElem?_cons_succ, List.getElem?_cons_zero]; exact rfl
  rotate_left 1
  · exact AllReadyM.nil
  intro K hK
  go_simp
  refine hK.out _ _ ?_
  clear hK K
  refine wpAnyM_done (by kernel_rfl) ?_ _
  have h2 := (HGS.out k (.int .i64 (m : Int))).drew
  obtain ⟨w2, hw2⟩ : ∃ w2, w2 = (w1.setCell ⟨g, k, none⟩ (.int .i64 (m : Int))).drew := ⟨_, rfl⟩
  rw [← hw2] at h2 ⊢
  rw [i64n_set] at h2
  have H2 := Lib.hid (show St w0 w2 ([blkA b #[.int .i64 B, .int .i64 m, .slice la nl lc, .slice (some ⟨g, 0, none⟩) n rc] 247, slA 86 2 (.slice la nl lc) nl (flatEv F.last), slA 2 1 (.slice (some ⟨g, 0, none⟩) n rc) n (i64n (F.pos.set k m))] ++ L.set i empA) from h2)
  clear h2 hw2 H1 HGS c3 c1 ck fk hgl hHeld
  have c20 := (H2.out.blk 0 rfl).cell 0
  have c22 := (H2.out.blk 0 rfl).cell 2
  simp at c20 c22
  obtain ⟨q, hq⟩ : ∃ q, nl - d = q := ⟨_, rfl⟩
  have hq3 : q ≤ nl := by omega
  have hdl : d ≤ nl := by have := HLL.out; have := HD.out; omega
  have hqi : (q : Int) = (nl : Int) - d := by omega
  have hq2 : (0 : Int) ≤ (nl : Int) - d := by omega
  have hnl2 : nl ≤ 1000 := by have := HLL.out; omega
  obtain ⟨S4, ho4, hr4, _⟩ := H2.out.rd 1 rfl
  have hcap1 := ho4.cap.1
  have HR4 := Lib.hid hr4
  have HXL := Lib.hid ho4.len
  clear ho4 hr4
  have hdb' : ¬ (B : Int) < (d : Int) := by omega
  have HQ := Lib.hid hq
  have HQQ := Lib.hid (show IntKind.i64.wrap ((nl : Int) - d) = q by rw [IntWalk.i64_in _ (by omega)]; omega)
  clear hq hqi
  go_wp2_with fail
  have hw := HQQ.out
  refine wp_region_M (r := 13) (S := fun w' => w'.cell? ⟨b, 2, none⟩ = some (.slice la nl lc)) (by kernel_rfl) ?_ (fun hHeld => ?_)
  · (try dsimp only); go_keep
  (refine tkM 0 _ _ ?_; simp only [Act.put, List.setIfInBounds_toArray, List.set_cons_zero, List.set_cons_succ])
  (refine tkM 1 _ _ ?_; simp only [Act.put, List.setIfInBounds_toArray, List.set_cons_zero, List.set_cons_succ])
  (refine tkM 2 _ _ ?_; simp only [Act.put, List.setIfInBounds_toArray, List.set_cons_zero, List.set_cons_succ])
  (refine tkM 3 _ _ ?_; simp only [Act.put, List.setIfInBounds_toArray, List.set_cons_zero, List.set_cons_succ])
  (refine tkM 4 _ _ ?_; simp only [Act.put, List.setIfInBounds_toArray, List.set_cons_zero, List.set_cons_succ])
  (refine tkM 5 _ _ ?_; simp only [Act.put, List.setIfInBounds_toArray, List.set_cons_zero, List.set_cons_succ])
  (refine tkM 6 _ _ ?_; simp only [Act.put, List.setIfInBounds_toArray, List.set_cons_zero, List.set_cons_succ])
  (refine tkM 7 _ _ ?_; simp only [Act.put, List.setIfInBounds_toArray, List.set_cons_zero, List.set_cons_succ])
  (refine tkM 8 _ _ ?_; simp only [Act.put, List.setIfInBounds_toArray, List.set_cons_zero, List.set_cons_succ])
  (refine tkM 9 _ _ ?_; simp only [Act.put, List.setIfInBounds_toArray, List.set_cons_zero, List.set_cons_succ])
  (refine tkM 10 _ _ ?_; simp only [Act.put, List.setIfInBounds_toArray, List.set_cons_zero, List.set_cons_succ])
  refine wpAnyM_ready (rs := [11]) (by kernel_rfl) (by simp) ?_
  refine AllReadyM.cons (o := ?_) ?_ ?_ ?_
  rotate_left 1
  · simp only [List.getElem?_toArray, List.getElem?_cons_succ, List.getElem?_cons_zero]; exact rfl
  rotate_left 1
  · exact AllReadyM.nil
  intro K hK
  rw [if_pos (by rfl)]
  (clear hw; refine step_slice_l (l := q) slEv _ _ rfl rfl rfl hq3 hcap1 ?_; rintro a5 n5 c5 hcut; have HCut := Lib.hid hcut; have hn5 : n5 ≤ 2000 := (by have := hcut.num; omega); clear hcut)
  refine hK.out _ _ ?_ (fun hHeld => ?_)
  · (try dsimp only); exact hHeld
  clear hK K
  (try simp only [List.getElem_toArray, List.getElem_cons_succ, List.getElem_cons_zero, Act.put, List.setIfInBounds_toArray, List.set_cons_zero, List.set_cons_succ])
  refine wpAnyM_ready (rs := [12]) (by kernel_rfl) (by simp) ?_
  refine AllReadyM.cons (o := ?_) ?_ ?_ ?_
  rotate_left 1
  · simp only [List.getElem?_toArray, List.getElem?_cons_succ, List.getElem?_cons_zero]; exact rfl
  rotate_left 1
  · exact AllReadyM.nil
  intro K hK
  go_simp
  go_wp2_with ((go_at_call 126; refine (clone_ev (.slice a5 n5 c5) n5 (flatEv (F.last.drop q)) _ S4 ?cr ?cl (flatEv_one _) ?cb).mono ?_; (case cr => (rw [← flatEv_drop]; exact HCut.out.rd S4 _ _ HXL.out HR4.out)); (case cl => (rw [flatEv_len, List.length_drop]; have := HNL.out; have := HCut.out.num; omega)); (case cb => omega); rintro e w5 ⟨a6, n6, c6, rfl, ho6, hk6⟩; have HO6 := Lib.hid ho6; have HK6 := Lib.hid hk6; clear ho6 hk6))
  refine hK.out _ _ ?_ (fun hHeld => ?_)
  · (try dsimp only); exact HK6.out.cell hHeld (fun f => f)
  clear hK K
  refine wpAnyM_ready (rs := [13]) (by kernel_rfl) (by simp) ?_
  refine AllReadyM.free (o := ?_) ?_ (by kernel_rfl) ?_ ?_
  rotate_left 1
  · simp only [List.getElem?_toArray, List.getElem?_cons_succ, List.getElem?_cons_zero]; exact rfl
  rotate_left 1
  · exact AllReadyM.nil
  intro K hK
  go_simp
  refine hK.out _ _ ?_
  clear hK K
  refine wpAnyM_ready (rs := [14]) (by kernel_rfl) (by simp) ?_
  refine AllReadyM.free (o := ?_) ?_ (by kernel_rfl) ?_ ?_
  rotate_left 1
  · simp only [List.getElem?_toArray, List.getElem?_cons_succ, List.getElem?_cons_zero]; exact rfl
  rotate_left 1
  · exact AllReadyM.nil
  intro K hK
  go_simp
  refine hK.out _ _ ?_
  clear hK K
  refine wpAnyM_ready (rs := [15]) (by kernel_rfl) (by simp) ?_
  refine AllReadyM.free (o := ?_) ?_ (by kernel_rfl) ?_ ?_
  rotate_left 1
  · simp only [List.getElem?_toArray, List.getElem?_cons_succ, List.getElem?_cons_zero]; exact rfl
  rotate_left 1
  · exact AllReadyM.nil
  intro K hK
  go_simp
  refine hK.out _ _ ?_
  clear hK K
  refine wpAnyM_done (by kernel_rfl) ?_ _
  go_wp2_with fail
  go_ret3
  have hlen := Own.len HO6.out
  rw [flatEv_len, List.length_drop, HNL.out] at hlen
  have e6 : n6 = d := by have := HQ.out; omega
  subst e6
  refine ⟨a6, n6, c6, rfl, rfl, ?_⟩
  have h6 := (H2.out.drew).add HK6.out (A := slA 86 2 (.slice a6 n6 c6) n6 (flatEv (F.last.drop q))) HO6.out
  rw [← HLD.out hdb, HQ.out]
  have h8 := h6.pick (l' := flagPs b (F.seen k) la lc (some ⟨g, 0, none⟩) rc ++ (L ++ [slA 86 2 (.slice a6 n6 c6) n6 (flatEv (F.last.drop q))]).set i empA) (fun j => j) (fun _ _ _ _ e => e) (fun j A hj => ?_)
  · have h9 := h8.flagJoin (L := L ++ [slA 86 2 (.slice a6 n6 c6) n6 (flatEv (F.last.drop q))]) i (by have := HIL.out; simp; omega)
    rw [List.set_append_left _ _ HIL.out] at h9
    exact h9
  · rw [← hj, List.set_append_left _ _ HIL.out, ← List.append_assoc]
    congr 2
    unfold flagPs FlagV.seen
    have e1 : (F.pos.set k F.all.length).length = n := by rw [List.length_set, HN.out]
    have e2 : (⟨F.bound, F.all, F.pos.set k F.all.length⟩ : FlagV).last = F.last := rfl
    rw [e1, e2, HM.out, HNL.out, HB.out]
end Go.Proofs.YtkiikblpgppmkaaGreatDoor
