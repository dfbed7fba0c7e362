/-
  The package world: what is applied to a thing that is gone; a remove; what it knows of a remove; Get.
-/
import Derived.Test.YtkiikblpgppmkaaGreatDoorTlM24
namespace Go.Proofs.YtkiikblpgppmkaaGreatDoor
open Go Go.RowKit
set_option linter.unusedVariables false
set_option linter.unusedSimpArgs false

set_option maxHeartbeats 1000000 in
theorem ent_delete_gone (b ab : Nat) (a : AlS) (i g : Int) (ha : a.Ok) (w : World) (hc : w.cell? ⟨b, 0, none⟩ = some (.pointer (some ⟨ab, 0, none⟩))) (hR : RdAl w ab a) (hs : a.st i g = 0) :
    Calls Tryz.prog 56 #[ptr b, hdV i g] w (Ret w (.tuple #[.int .i64 0, .int .i64 4])) := by
  have hk2 := (show Keep w (w.alloc (.cells #[.int .i64 i, .int .i64 g] 45)) Nope from (Keep.refl w Nope).alloc _)
  have HL := Lib.hid (ent_live b ab a i g ha _ (hk2.cell hc (fun f => f)) (hR.keep hk2))
  rw [hs] at HL
  rw [show liveE 0 = 4 from rfl] at HL
  have HK2 := Lib.hid hk2
  clear ha hc hR hs hk2
  unfold ptr hdV at *
  go_enter Tryz.func56, Tryz.ntmps56
  go_wp2_with (go_at_call 111; refine HL.out.mono ?_; rintro en w1 ⟨rfl, hk1⟩; have HK1 := Lib.hid (HK2.out.trans hk1 (fun _ f => f.elim)); clear hk1)
  go_ret2
  exact ⟨rfl, HK1.out⟩
set_option maxHeartbeats 1000000 in
theorem ent_insert_gone (b ab : Nat) (a : AlS) (i g c : Int) (v : VV) (ha : a.Ok) (w : World) (hc : w.cell? ⟨b, 0, none⟩ = some (.pointer (some ⟨ab, 0, none⟩))) (hR : RdAl w ab a) (hs : a.st i g = 0) :
    Calls Tryz.prog 53 #[ptr b, hdV i g, .int .i64 c, v.val] w (Ret w (.tuple #[zV, .bool false, .int .i64 4])) := by
  obtain ⟨vk, va, vb⟩ := v
  have hk2 := (show Keep w (((w.alloc (.cells #[.int .i64 i, .int .i64 g] 45)).alloc (.cells #[.int .i64 vk, .int .i64 va, .int .i64 vb] 34)).alloc (.cells #[.int .i64 0, .int .i64 0, .int .i64 0] 34)) Nope from (((Keep.refl w Nope).alloc _).alloc _).alloc _)
  have HL := Lib.hid (ent_live b ab a i g ha _ (hk2.cell hc (fun f => f)) (hR.keep hk2))
  rw [hs] at HL
  rw [show liveE 0 = 4 from rfl] at HL
  have HK2 := Lib.hid hk2
  have HBN := Lib.hid (Blk.new2 w (.cells #[.int .i64 i, .int .i64 g] 45) (.cells #[.int .i64 vk, .int .i64 va, .int .i64 vb] 34) #[.int .i64 0, .int .i64 0, .int .i64 0] 34)
  clear ha hc hR hs hk2
  unfold ptr hdV zV VV.val at *
  go_enter Tryz.func53, Tryz.ntmps53
  go_wp2_with (go_at_call 111; refine HL.out.mono ?_; rintro en w1 ⟨rfl, hk1⟩; have HK1 := Lib.hid (HK2.out.trans hk1 (fun _ f => f.elim)); have HB1 := Lib.hid (HBN.out.keep hk1 (fun f => f)); clear hk1; obtain ⟨z0, z1, z2, y0, y1, y2⟩ := HB1.out.three)
  obtain ⟨q0, q1, q2, _, _, _⟩ := (HB1.out.set3 (.int .i64 0) (.int .i64 0) (.int .i64 0)).three
  have HF := Lib.hid (HK1.out.set3 (b := w.heap.size + 1 + 1) (by omega) (.int .i64 0) (.int .i64 0) (.int .i64 0))
  clear z0 z1 z2 y0 y1 y2
  refine bodyPost_ret (v := .tuple #[.agg #[.int .i64 0, .int .i64 0, .int .i64 0], .bool false, .int .i64 4]) (by simp [results, Tryz.results53, go_sem, q0, q1, q2]) rfl ⟨rfl, HF.out⟩
set_option maxHeartbeats 1000000 in
theorem ent_remove_gone (b ab : Nat) (a : AlS) (i g c : Int) (ha : a.Ok) (w : World) (hc : w.cell? ⟨b, 0, none⟩ = some (.pointer (some ⟨ab, 0, none⟩))) (hR : RdAl w ab a) (hs : a.st i g = 0) :
    Calls Tryz.prog 55 #[ptr b, hdV i g, .int .i64 c] w (Ret w (.tuple #[zV, .int .i64 4])) := by
  have hk2 := (show Keep w ((w.alloc (.cells #[.int .i64 i, .int .i64 g] 45)).alloc (.cells #[.int .i64 0, .int .i64 0, .int .i64 0] 34)) Nope from ((Keep.refl w Nope).alloc _).alloc _)
  have HL := Lib.hid (ent_get_gone b ab a i g c ha _ (hk2.cell hc (fun f => f)) (hR.keep hk2) hs)
  have HK2 := Lib.hid hk2
  have HBN := Lib.hid (Blk.new1 w (.cells #[.int .i64 i, .int .i64 g] 45) #[.int .i64 0, .int .i64 0, .int .i64 0] 34)
  clear ha hc hR hs hk2
  unfold ptr hdV zV at *
  go_enter Tryz.func55, Tryz.ntmps55
  go_wp2_with (go_at_call 71; refine HL.out.mono ?_; rintro en w1 ⟨rfl, hk1⟩; have HK1 := Lib.hid ((HK2.out.trans hk1 (fun _ f => f.elim)).alloc (.cells #[.int .i64 0, .int .i64 0, .int .i64 0] 34)); have HB1 := Lib.hid ((HBN.out.keep hk1 (fun f => f)).alloc (.cells #[.int .i64 0, .int .i64 0, .int .i64 0] 34)); clear hk1; obtain ⟨z0, z1, z2, y0, y1, y2⟩ := HB1.out.three)
  obtain ⟨q0, q1, q2, _, _, _⟩ := (HB1.out.set3 (.int .i64 0) (.int .i64 0) (.int .i64 0)).three
  have HF := Lib.hid (HK1.out.set3 (b := w.heap.size + 1) (by omega) (.int .i64 0) (.int .i64 0) (.int .i64 0))
  clear z0 z1 z2 y0 y1 y2
  refine bodyPost_ret (v := .tuple #[.agg #[.int .i64 0, .int .i64 0, .int .i64 0], .int .i64 4]) (by simp [results, Tryz.results55, go_sem, q0, q1, q2]) rfl ⟨rfl, HF.out⟩
set_option maxHeartbeats 2000000 in
theorem wo_apply_delete_gone {w0 w : World} {R : List Asr} {b : Nat} {x : WoS} {p : WoB} (H : St w0 w (woL b x p ++ R)) (hx : x.en.al.Ok) (i g oc vk va vb : Int) (hs : x.en.al.st i g = 0) :
    Calls Tryz.prog 66 #[ptr b, (⟨1, i, g, oc, vk, va, vb⟩ : OpV).val] w (Ret w (.bool false)) := by
  have hk1 := (show Keep w (w.alloc (.cells #[.int .i64 1, .int .i64 i, .int .i64 g, .int .i64 oc, .int .i64 vk, .int .i64 va, .int .i64 vb] 79)) Nope from (Keep.refl w Nope).alloc _)
  have HD := Lib.hid (fun (w1 : World) (hk : Keep w w1 Nope) => ent_delete_gone p.eb p.e.ab x.en.al i g hx w1 (H.keep hk).woC.e0 ((H.keep hk).woAl hx) hs)
  have c0 := (H.keep hk1).woC.c0
  have hb := Blk.new w #[.int .i64 1, .int .i64 i, .int .i64 g, .int .i64 oc, .int .i64 vk, .int .i64 va, .int .i64 vb] 79
  obtain ⟨wa, hwa⟩ : ∃ wa, w.alloc (.cells #[.int .i64 1, .int .i64 i, .int .i64 g, .int .i64 oc, .int .i64 vk, .int .i64 va, .int .i64 vb] 79) = wa := ⟨_, rfl⟩
  rw [hwa] at hb
  have o1 : wa.cell? ⟨w.heap.size, 1, none⟩ = some (.int .i64 i) := by rw [hb.cell]; rfl
  have o2 : wa.cell? ⟨w.heap.size, 2, none⟩ = some (.int .i64 g) := by rw [hb.cell]; rfl
  subst hwa
  clear H hx hs hb hk1
  unfold ptr hdV OpV.val at *
  try unfold zV at HD
  try unfold VV.val at HD
  simp only at *
  go_enter Tryz.func66, Tryz.ntmps66
  go_wp2_with fail
  refine wp_region_M (r := 7) (S := fun w' => w'.cell? ⟨b, 0, none⟩ = some (.pointer (some ⟨p.eb, 0, none⟩)) ∧ w'.cell? ⟨w.heap.size, 1, none⟩ = some (.int .i64 i) ∧ w'.cell? ⟨w.heap.size, 2, none⟩ = some (.int .i64 g)) (by kernel_rfl) ?_ (fun hHeld => ?_)
  · (try dsimp only); exact ⟨c0, o1, o2⟩
  refine tkP 0 ?_; refine tkP 1 ?_; refine tkP 2 ?_; refine tkP 3 ?_; refine tkH 4 ?_; refine tkP 5 ?_; refine tkH 6 ?_; refine tkF 7 ?_
  intro K hK
  go_simp
  go_wp2_with ((go_at_call 56; refine (HD.out _ (show Keep w _ Nope from (by (repeat (first | exact Keep.refl _ _ | apply Keep.drew | apply Keep.drewN | apply Keep.alloc))))).mono ?_; rintro en w2 ⟨rfl, hk2⟩; have HK2 := Lib.hid ((show Keep w _ Nope from (by (repeat (first | exact Keep.refl _ _ | apply Keep.drew | apply Keep.drewN | apply Keep.alloc)))).trans hk2 (fun _ f => f.elim)); clear hk2))
  refine hK.out _ _ ?_
  clear hK K
  refine tkP 8 ?_; refine tkP 9 ?_; refine tkP 10 ?_; refine tkP 11 ?_
  refine wpAnyM_done (by kernel_rfl) ?_ _
  clear hHeld
  go_wp2_with fail
  go_ret
  exact ⟨rfl, HK2.out⟩
set_option maxHeartbeats 2000000 in
theorem wo_apply_insert_gone {w0 w : World} {R : List Asr} {b : Nat} {x : WoS} {p : WoB} (H : St w0 w (woL b x p ++ R)) (hx : x.en.al.Ok) (i g oc vk va vb : Int) (hs : x.en.al.st i g = 0) :
    Calls Tryz.prog 66 #[ptr b, (⟨2, i, g, oc, vk, va, vb⟩ : OpV).val] w (Ret w (.bool false)) := by
  have hk1 := (show Keep w (w.alloc (.cells #[.int .i64 2, .int .i64 i, .int .i64 g, .int .i64 oc, .int .i64 vk, .int .i64 va, .int .i64 vb] 79)) Nope from (Keep.refl w Nope).alloc _)
  have HD := Lib.hid (fun (w1 : World) (hk : Keep w w1 Nope) => ent_insert_gone p.eb p.e.ab x.en.al i g oc ⟨vk, va, vb⟩ hx w1 (H.keep hk).woC.e0 ((H.keep hk).woAl hx) hs)
  have c0 := (H.keep hk1).woC.c0
  have hb := Blk.new w #[.int .i64 2, .int .i64 i, .int .i64 g, .int .i64 oc, .int .i64 vk, .int .i64 va, .int .i64 vb] 79
  obtain ⟨wa, hwa⟩ : ∃ wa, w.alloc (.cells #[.int .i64 2, .int .i64 i, .int .i64 g, .int .i64 oc, .int .i64 vk, .int .i64 va, .int .i64 vb] 79) = wa := ⟨_, rfl⟩
  rw [hwa] at hb
  have o1 : wa.cell? ⟨w.heap.size, 1, none⟩ = some (.int .i64 i) := by rw [hb.cell]; rfl
  have o2 : wa.cell? ⟨w.heap.size, 2, none⟩ = some (.int .i64 g) := by rw [hb.cell]; rfl
  have o3 : wa.cell? ⟨w.heap.size, 3, none⟩ = some (.int .i64 oc) := by rw [hb.cell]; rfl
  have o4 : wa.cell? ⟨w.heap.size, 4, none⟩ = some (.int .i64 vk) := by rw [hb.cell]; rfl
  have o5 : wa.cell? ⟨w.heap.size, 5, none⟩ = some (.int .i64 va) := by rw [hb.cell]; rfl
  have o6 : wa.cell? ⟨w.heap.size, 6, none⟩ = some (.int .i64 vb) := by rw [hb.cell]; rfl
  subst hwa
  clear H hx hs hb hk1
  unfold ptr hdV OpV.val at *
  try unfold zV at HD
  try unfold VV.val at HD
  simp only at *
  go_enter Tryz.func66, Tryz.ntmps66
  go_wp2_with fail
  refine wp_region_M (r := 11) (S := fun w' => w'.cell? ⟨b, 0, none⟩ = some (.pointer (some ⟨p.eb, 0, none⟩)) ∧ w'.cell? ⟨w.heap.size, 1, none⟩ = some (.int .i64 i) ∧ w'.cell? ⟨w.heap.size, 2, none⟩ = some (.int .i64 g) ∧ w'.cell? ⟨w.heap.size, 3, none⟩ = some (.int .i64 oc) ∧ w'.cell? ⟨w.heap.size, 4, none⟩ = some (.int .i64 vk) ∧ w'.cell? ⟨w.heap.size, 5, none⟩ = some (.int .i64 va) ∧ w'.cell? ⟨w.heap.size, 6, none⟩ = some (.int .i64 vb)) (by kernel_rfl) ?_ (fun hHeld => ?_)
  · (try dsimp only); exact ⟨c0, o1, o2, o3, o4, o5, o6⟩
  refine tkP 0 ?_; refine tkP 1 ?_; refine tkP 2 ?_; refine tkP 3 ?_; refine tkH 4 ?_; refine tkP 5 ?_; refine tkH 6 ?_; refine tkP 7 ?_; refine tkH 8 ?_; refine tkP 9 ?_; refine tkH 10 ?_; refine tkF 11 ?_
  intro K hK
  go_simp
  go_wp2_with ((go_at_call 53; refine (HD.out _ (show Keep w _ Nope from (by (repeat (first | exact Keep.refl _ _ | apply Keep.drew | apply Keep.drewN | apply Keep.alloc))))).mono ?_; rintro en w2 ⟨rfl, hk2⟩; have HK2 := Lib.hid ((show Keep w _ Nope from (by (repeat (first | exact Keep.refl _ _ | apply Keep.drew | apply Keep.drewN | apply Keep.alloc)))).trans hk2 (fun _ f => f.elim)); clear hk2))
  refine hK.out _ _ ?_
  clear hK K
  refine tkP 12 ?_; refine tkP 13 ?_; refine tkP 14 ?_; refine tkP 15 ?_; refine tkP 16 ?_
  refine wpAnyM_done (by kernel_rfl) ?_ _
  clear hHeld
  go_wp2_with fail
  go_ret
  exact ⟨rfl, HK2.out⟩
set_option maxHeartbeats 2000000 in
theorem wo_apply_remove_gone {w0 w : World} {R : List Asr} {b : Nat} {x : WoS} {p : WoB} (H : St w0 w (woL b x p ++ R)) (hx : x.en.al.Ok) (i g oc vk va vb : Int) (hs : x.en.al.st i g = 0) :
    Calls Tryz.prog 66 #[ptr b, (⟨3, i, g, oc, vk, va, vb⟩ : OpV).val] w (Ret w (.bool false)) := by
  have hk1 := (show Keep w (w.alloc (.cells #[.int .i64 3, .int .i64 i, .int .i64 g, .int .i64 oc, .int .i64 vk, .int .i64 va, .int .i64 vb] 79)) Nope from (Keep.refl w Nope).alloc _)
  have HD := Lib.hid (fun (w1 : World) (hk : Keep w w1 Nope) => ent_remove_gone p.eb p.e.ab x.en.al i g oc hx w1 (H.keep hk).woC.e0 ((H.keep hk).woAl hx) hs)
  have c0 := (H.keep hk1).woC.c0
  have hb := Blk.new w #[.int .i64 3, .int .i64 i, .int .i64 g, .int .i64 oc, .int .i64 vk, .int .i64 va, .int .i64 vb] 79
  obtain ⟨wa, hwa⟩ : ∃ wa, w.alloc (.cells #[.int .i64 3, .int .i64 i, .int .i64 g, .int .i64 oc, .int .i64 vk, .int .i64 va, .int .i64 vb] 79) = wa := ⟨_, rfl⟩
  rw [hwa] at hb
  have o1 : wa.cell? ⟨w.heap.size, 1, none⟩ = some (.int .i64 i) := by rw [hb.cell]; rfl
  have o2 : wa.cell? ⟨w.heap.size, 2, none⟩ = some (.int .i64 g) := by rw [hb.cell]; rfl
  have o3 : wa.cell? ⟨w.heap.size, 3, none⟩ = some (.int .i64 oc) := by rw [hb.cell]; rfl
  subst hwa
  clear H hx hs hb hk1
  unfold ptr hdV OpV.val at *
  try unfold zV at HD
  try unfold VV.val at HD
  simp only at *
  go_enter Tryz.func66, Tryz.ntmps66
  go_wp2_with fail
  refine wp_region_M (r := 9) (S := fun w' => w'.cell? ⟨b, 0, none⟩ = some (.pointer (some ⟨p.eb, 0, none⟩)) ∧ w'.cell? ⟨w.heap.size, 1, none⟩ = some (.int .i64 i) ∧ w'.cell? ⟨w.heap.size, 2, none⟩ = some (.int .i64 g) ∧ w'.cell? ⟨w.heap.size, 3, none⟩ = some (.int .i64 oc)) (by kernel_rfl) ?_ (fun hHeld => ?_)
  · (try dsimp only); exact ⟨c0, o1, o2, o3⟩
  refine tkP 0 ?_; refine tkP 1 ?_; refine tkP 2 ?_; refine tkP 3 ?_; refine tkH 4 ?_; refine tkP 5 ?_; refine tkH 6 ?_; refine tkP 7 ?_; refine tkH 8 ?_; refine tkF 9 ?_
  intro K hK
  go_simp
  go_wp2_with ((go_at_call 55; refine (HD.out _ (show Keep w _ Nope from (by (repeat (first | exact Keep.refl _ _ | apply Keep.drew | apply Keep.drewN | apply Keep.alloc))))).mono ?_; rintro en w2 ⟨rfl, hk2⟩; have HK2 := Lib.hid ((show Keep w _ Nope from (by (repeat (first | exact Keep.refl _ _ | apply Keep.drew | apply Keep.drewN | apply Keep.alloc)))).trans hk2 (fun _ f => f.elim)); clear hk2))
  refine hK.out _ _ ?_
  clear hK K
  refine tkP 10 ?_; refine tkP 11 ?_; refine tkP 12 ?_; refine tkP 13 ?_
  refine wpAnyM_done (by kernel_rfl) ?_ _
  clear hHeld
  go_wp2_with fail
  go_ret
  exact ⟨rfl, HK2.out⟩
set_option maxRecDepth 100000 in
set_option maxHeartbeats 2000000 in
theorem wo_apply_rem {w0 w : World} {R : List Asr} {b : Nat} {x : WoS} {p : WoB} (H : St w0 w (woL b x p ++ R)) (hx : x.en.Ok 90000) (k : Nat) (g : Int) (hs : x.en.al.st k g = 1) (c : Nat) (s : SlS) (hc : x.en.sl[c]? = some s) (vk va vb : Int) :
    Calls Tryz.prog 66 #[ptr b, (⟨3, k, g, c, vk, va, vb⟩ : OpV).val] w (fun e w' => e = .returned (.bool (s.m.testBit k)) ∧ St w0 w' (woL b (x.withE (x.en.takes k c)) p ++ R)) := by
  obtain ⟨i, hi⟩ : ∃ i : Int, (k : Int) = i := ⟨_, rfl⟩
  obtain ⟨oc, hoc⟩ : ∃ i : Int, (c : Int) = i := ⟨_, rfl⟩
  have HB := Lib.hid (show St w0 (w.alloc (.cells #[.int .i64 3, .int .i64 i, .int .i64 g, .int .i64 oc, .int .i64 vk, .int .i64 va, .int .i64 vb] 79)) (blkA w.heap.size #[.int .i64 3, .int .i64 i, .int .i64 g, .int .i64 oc, .int .i64 vk, .int .i64 va, .int .i64 vb] 79 :: (woL b x p ++ R)) from H.box0 _ _)
  have HD := Lib.hid (fun (w1 : World) (h : St w0 w1 (blkA w.heap.size #[.int .i64 3, .int .i64 i, .int .i64 g, .int .i64 oc, .int .i64 vk, .int .i64 va, .int .i64 vb] 79 :: (woL b x p ++ R))) => ent_remove (St.woEnt (St.rot1 h)) hx k g hs c s hc)
  have HU := Lib.hid (fun (w1 : World) (h : St w0 w1 (entL p.eb (x.en.takes k c) p.e ++ (([resA p.rb x.rs, qA p.qb x.qu] ++ (R ++ [blkA w.heap.size #[.int .i64 3, .int .i64 i, .int .i64 g, .int .i64 oc, .int .i64 vk, .int .i64 va, .int .i64 vb] 79]) ++ [blkA b (woCs x p) 124])))) => (St.unrot1 (St.woEnt' h)).rest)
  have c0 := HB.out.rest.woC.c0
  have hb := HB.out.blk 0 rfl
  obtain ⟨wa, hwa⟩ : ∃ wa, w.alloc (.cells #[.int .i64 3, .int .i64 i, .int .i64 g, .int .i64 oc, .int .i64 vk, .int .i64 va, .int .i64 vb] 79) = wa := ⟨_, rfl⟩
  rw [hwa] at hb
  have o1 : wa.cell? ⟨w.heap.size, 1, none⟩ = some (.int .i64 i) := by rw [hb.cell]; rfl
  have o2 : wa.cell? ⟨w.heap.size, 2, none⟩ = some (.int .i64 g) := by rw [hb.cell]; rfl
  have o3 : wa.cell? ⟨w.heap.size, 3, none⟩ = some (.int .i64 oc) := by rw [hb.cell]; rfl
  subst hwa
  obtain ⟨⟨q1, q2, q3⟩, hh⟩ : ∃ h, hadV s.m s.f k = h := ⟨_, rfl⟩
  obtain ⟨t, ht⟩ : ∃ t, s.m.testBit k = t := ⟨_, rfl⟩
  rw [hh, ht, hi, hoc] at HD
  rw [ht]
  obtain ⟨y, hy⟩ : ∃ y, x.en.takes k c = y := ⟨_, rfl⟩
  rw [hy] at HD HU ⊢
  rw [hi, hoc]
  clear H hx hs hc hy hb hh ht hi hoc
  unfold ptr hdV OpV.val VV.val at *
  simp only at *
  cases t <;> (
    go_enter Tryz.func66, Tryz.ntmps66
    go_wp2_with fail
    refine wp_region_M (r := 9) (S := fun w' => w'.cell? ⟨b, 0, none⟩ = some (.pointer (some ⟨p.eb, 0, none⟩)) ∧ w'.cell? ⟨w.heap.size, 1, none⟩ = some (.int .i64 i) ∧ w'.cell? ⟨w.heap.size, 2, none⟩ = some (.int .i64 g) ∧ w'.cell? ⟨w.heap.size, 3, none⟩ = some (.int .i64 oc)) (by kernel_rfl) ?_ (fun hHeld => ?_)
    · (try dsimp only); exact ⟨c0, o1, o2, o3⟩
    refine tkP 0 ?_; refine tkP 1 ?_; refine tkP 2 ?_; refine tkP 3 ?_; refine tkH 4 ?_; refine tkP 5 ?_; refine tkH 6 ?_; refine tkP 7 ?_; refine tkH 8 ?_; refine tkF 9 ?_
    intro K hK
    go_simp
    go_wp2_with ((go_at_call 55; refine (HD.out _ HB.out.drew).mono ?_; rintro en w2 ⟨rfl, h2⟩; have HB2 := Lib.hid (HU.out _ h2); clear h2 HB))
    refine hK.out _ _ ?_
    clear hK K
    refine tkP 10 ?_; refine tkP 11 ?_; refine tkP 12 ?_; refine tkP 13 ?_
    refine wpAnyM_done (by kernel_rfl) ?_ _
    clear hHeld
    go_wp2_with fail
    go_ret
    exact ⟨rfl, HB2.out⟩)
set_option maxRecDepth 100000 in
set_option maxHeartbeats 2000000 in
theorem wo_knows_rem {w0 w : World} {R : List Asr} {b : Nat} {x : WoS} {p : WoB} (H : St w0 w (woL b x p ++ R)) (hl : x.en.sl.length ≤ 64) (c : Nat) (s : SlS) (hc : x.en.sl[c]? = some s) (o : OpV) (h2 : o.kind = 3) (hoc : o.c = (c : Int)) :
    Calls Tryz.prog 57 #[ptr b, o.val] w (Ret w (.tuple #[.bool true, .bool true])) := by
  obtain ⟨kind, i, g, oc, vk, va, vb⟩ := o
  simp only at h2 hoc
  subst h2 hoc
  have HB := H.box0 #[.int .i64 3, .int .i64 i, .int .i64 g, .int .i64 (c : Nat), .int .i64 vk, .int .i64 va, .int .i64 vb] 79
  obtain ⟨wa, hwa⟩ : ∃ wa, w.alloc (.cells #[.int .i64 3, .int .i64 i, .int .i64 g, .int .i64 (c : Nat), .int .i64 vk, .int .i64 va, .int .i64 vb] 79) = wa := ⟨_, rfl⟩
  have hka := (Keep.refl w Nope).alloc (.cells #[.int .i64 3, .int .i64 i, .int .i64 g, .int .i64 (c : Nat), .int .i64 vk, .int .i64 va, .int .i64 vb] 79)
  rw [hwa] at HB hka
  have HKA := Lib.hid hka
  obtain ⟨xa, hxa⟩ := HB.rest.woBs hc
  have HSl := Lib.hid (fun (w' : World) (hkp : Keep wa w' Nope) => reg_slot (HB.rest.keep hkp).woEnt.entReg hxa (by omega))
  have c0 := HB.rest.woC.c0
  have e1 := HB.rest.woC.e1
  have hb := HB.blk 0 rfl
  have o0 : wa.cell? ⟨w.heap.size, 0, none⟩ = some (.int .i64 3) := by rw [hb.cell]; rfl
  have o3 : wa.cell? ⟨w.heap.size, 3, none⟩ = some (.int .i64 (c : Nat)) := by rw [hb.cell]; rfl
  clear H HB hka hb hxa hc
  unfold ptr OpV.val at *
  simp only at *
  go_enter Tryz.func57, Tryz.ntmps57
  go_upto_region 3 with fail
  try rw [hwa]
  clear hwa
  refine wp_region_M (r := 11) (S := fun w' => w'.cell? ⟨b, 0, none⟩ = some (.pointer (some ⟨p.eb, 0, none⟩)) ∧ w'.cell? ⟨p.eb, 1, none⟩ = some (.pointer (some ⟨p.e.rb, 0, none⟩)) ∧ w'.cell? ⟨w.heap.size, 3, none⟩ = some (.int .i64 (c : Nat))) (by kernel_rfl) ?_ (fun hHeld => ?_)
  · (try dsimp only); exact ⟨c0, e1, o3⟩
  refine tkP 0 ?_; refine tkP 1 ?_; refine tkP 2 ?_; refine tkP 3 ?_; refine tkP 9 ?_; refine tkH 10 ?_; refine tkC 4 ?_
  intro K hK
  go_simp
  refine hK.out _ _ ?_ (fun hHeld => ?_)
  · (try dsimp only); exact ⟨c0, e1, o3⟩
  clear hK K
  refine tkP 5 ?_; refine tkP 6 ?_; refine tkP 7 ?_; refine tkH 8 ?_; refine tkF 11 ?_
  intro K hK
  go_simp
  go_wp2_with ((go_at_call 49; refine (HSl.out _ (Keep.refl wa Nope).drew).mono ?_; rintro e w1 ⟨rfl, hk1⟩; have HK1 := Lib.hid ((Keep.refl wa Nope).drew.trans hk1 (fun _ f => f.elim)); clear hk1))
  refine hK.out _ _ ?_
  clear hK K
  refine tkP 12 ?_; refine tkP 13 ?_; refine tkP 14 ?_; refine tkP 15 ?_; refine tkP 16 ?_
  refine wpAnyM_done (by kernel_rfl) ?_ _
  clear hHeld c0 e1 o3
  have o0 := HK1.out.cell o0 (fun f => f)
  go_upto_region 6 with fail
  refine wp_region_held_drew (S := fun w' => w'.cell? ⟨w.heap.size, 0, none⟩ = some (.int .i64 3)) (by kernel_rfl) ?_ (fun hHeld => ?_)
  · (try dsimp only); exact o0
  refine tkW 0 ?_; refine tkW 1 ?_; refine tkW 2 ?_; refine tkW 3 ?_
  refine wpAnyH_take (i := 4) (oi := ?_) (v := undef) ?_ ?_ ?_ ?_ ?_ ?_ ?_ ?_
  rotate_left 1
  · simp only [List.getElem?_toArray, List.getElem?_cons_succ, List.getElem?_cons_zero]; exact rfl
  · kernel_rfl
  · kernel_rfl
  · kernel_rfl
  · first | exact fun _ _ _ h => h | exact fun _ _ _ h => (HPan.out _ _ _ h).elim
  · exact Or.inr ⟨by rfl, rfl⟩
  · assumption
  simp only [Act.put, List.setIfInBounds_toArray, List.set_cons_zero, List.set_cons_succ]
  refine wpAnyH_take (i := 5) (oi := ?_) (v := undef) ?_ ?_ ?_ ?_ ?_ ?_ ?_ ?_
  rotate_left 1
  · simp only [List.getElem?_toArray, List.getElem?_cons_succ, List.getElem?_cons_zero]; exact rfl
  · kernel_rfl
  · kernel_rfl
  · kernel_rfl
  · first | exact fun _ _ _ h => h | exact fun _ _ _ h => (HPan.out _ _ _ h).elim
  · exact Or.inr ⟨by rfl, rfl⟩
  · assumption
  simp only [Act.put, List.setIfInBounds_toArray, List.set_cons_zero, List.set_cons_succ]
  refine wpAnyH_take (i := 6) (oi := ?_) (v := undef) ?_ ?_ ?_ ?_ ?_ ?_ ?_ ?_
  rotate_left 1
  · simp only [List.getElem?_toArray, List.getElem?_cons_succ, List.getElem?_cons_zero]; exact rfl
  · kernel_rfl
  · kernel_rfl
  · kernel_rfl
  · first | exact fun _ _ _ h => h | exact fun _ _ _ h => (HPan.out _ _ _ h).elim
  · exact Or.inr ⟨by rfl, rfl⟩
  · assumption
  simp only [Act.put, List.setIfInBounds_toArray, List.set_cons_zero, List.set_cons_succ]
  refine wpAnyH_take (i := 7) (oi := ?_) (v := undef) ?_ ?_ ?_ ?_ ?_ ?_ ?_ ?_
  rotate_left 1
  · simp only [List.getElem?_toArray, List.getElem?_cons_succ, List.getElem?_cons_zero]; exact rfl
  · kernel_rfl
  · kernel_rfl
  · kernel_rfl
  · first | exact fun _ _ _ h => h | exact fun _ _ _ h => (HPan.out _ _ _ h).elim
  · exact Or.inr ⟨by rfl, rfl⟩
  · assumption
  simp only [Act.put, List.setIfInBounds_toArray, List.set_cons_zero, List.set_cons_succ]
  refine wpAnyH_take (i := 8) (oi := ?_) (v := undef) ?_ ?_ ?_ ?_ ?_ ?_ ?_ ?_
  rotate_left 1
  · simp only [List.getElem?_toArray, List.getElem?_cons_succ, List.getElem?_cons_zero]; exact rfl
  · kernel_rfl
  · kernel_rfl
  · kernel_rfl
  · first | exact fun _ _ _ h => h | exact fun _ _ _ h => (HPan.out _ _ _ h).elim
  · exact Or.inr ⟨by rfl, rfl⟩
  · assumption
  simp only [Act.put, List.setIfInBounds_toArray, List.set_cons_zero, List.set_cons_succ]
  refine wpAnyH_take (i := 9) (oi := ?_) (v := undef) ?_ ?_ ?_ ?_ ?_ ?_ ?_ ?_
  rotate_left 1
  · simp only [List.getElem?_toArray, List.getElem?_cons_succ, List.getElem?_cons_zero]; exact rfl
  · kernel_rfl
  · kernel_rfl
  · kernel_rfl
  · first | exact fun _ _ _ h => h | exact fun _ _ _ h => (HPan.out _ _ _ h).elim
  · exact Or.inr ⟨by rfl, rfl⟩
  · assumption
  simp only [Act.put, List.setIfInBounds_toArray, List.set_cons_zero, List.set_cons_succ]
  refine wpAnyH_take (i := 10) (oi := ?_) (v := undef) ?_ ?_ ?_ ?_ ?_ ?_ ?_ ?_
  rotate_left 1
  · simp only [List.getElem?_toArray, List.getElem?_cons_succ, List.getElem?_cons_zero]; exact rfl
  · kernel_rfl
  · kernel_rfl
  · kernel_rfl
  · first | exact fun _ _ _ h => h | exact fun _ _ _ h => (HPan.out _ _ _ h).elim
  · exact Or.inr ⟨by rfl, rfl⟩
  · assumption
  simp only [Act.put, List.setIfInBounds_toArray, List.set_cons_zero, List.set_cons_succ]
  refine tkW 11 ?_; refine tkW 12 ?_; refine tkW 13 ?_
  refine wpAnyH_done (by kernel_rfl) ?_ _
  go_wp2_with fail
  go_ret2
  exact ⟨rfl, (HKA.out.trans HK1.out (fun _ f => f.elim)).drew⟩
set_option maxHeartbeats 2000000 in
theorem wo_get {w0 w : World} {R : List Asr} {b : Nat} {x : WoS} {p : WoB} (H : St w0 w (woL b x p ++ R)) (hx : x.en.Ok 90000) (k : Nat) (g : Int) (hs : x.en.al.st k g = 1) (c : Nat) (s : SlS) (hc : x.en.sl[c]? = some s) :
    Calls Tryz.prog 31 #[ptr b, hdV k g, .int .i64 (c : Nat)] w (Ret w (.tuple #[(hadV s.m s.f k).val, .int .i64 (if s.m.testBit k then 0 else 10)])) := by
  obtain ⟨i, hi⟩ : ∃ i : Int, (k : Int) = i := ⟨_, rfl⟩
  have hk2 := (show Keep w ((w.alloc (.cells #[.int .i64 i, .int .i64 g] 45)).alloc (.cells #[.int .i64 0, .int .i64 0, .int .i64 0] 34)) Nope from ((Keep.refl w Nope).alloc _).alloc _)
  have hb2 := ((Blk.new w #[.int .i64 i, .int .i64 g] 45).keep ((Keep.refl _ Nope).alloc (.cells #[.int .i64 0, .int .i64 0, .int .i64 0] 34)) (fun f => f))
  obtain ⟨x0, x1, _, _⟩ := hb2.two
  have c0 := (H.keep hk2).woC.c0
  have HG := Lib.hid (fun (w1 : World) (hk : Keep w w1 Nope) => ent_get (H.keep hk).woEnt hx k g hs c s hc)
  obtain ⟨er, her⟩ : ∃ er : Int, (if s.m.testBit k then 0 else 10) = er := ⟨_, rfl⟩
  rw [her] at HG ⊢
  obtain ⟨⟨q1, q2, q3⟩, hh⟩ : ∃ h, hadV s.m s.f k = h := ⟨_, rfl⟩
  rw [hh] at HG ⊢
  obtain ⟨ci, hci⟩ : ∃ ci : Int, (c : Int) = ci := ⟨_, rfl⟩
  rw [hci] at HG ⊢
  rw [hi] at HG ⊢
  clear H hx hs hk2 hb2 hc her hh hci hi
  unfold ptr hdV VV.val at *
  simp only at *
  go_enter Tryz.func31, Tryz.ntmps31
  go_wp2_with fail
  refine wp_region_M (r := 7) (S := fun w' => w'.cell? ⟨b, 0, none⟩ = some (.pointer (some ⟨p.eb, 0, none⟩)) ∧ w'.cell? ⟨w.heap.size, 0, none⟩ = some (.int .i64 i) ∧ w'.cell? ⟨w.heap.size, 1, none⟩ = some (.int .i64 g)) (by kernel_rfl) ?_ (fun hHeld => ?_)
  · (try dsimp only); exact ⟨c0, x0, x1⟩
  refine tkP 0 ?_; refine tkP 1 ?_; refine tkP 2 ?_; refine tkP 3 ?_; refine tkH 4 ?_; refine tkH 5 ?_; refine tkP 6 ?_; refine tkF 7 ?_
  intro K hK
  go_simp
  go_wp2_with ((go_at_call 71; refine (HG.out _ (show Keep w _ Nope from (by (repeat (first | exact Keep.refl _ _ | apply Keep.drew | apply Keep.drewN | apply Keep.alloc))))).mono ?_; rintro en w3 ⟨rfl, hk3⟩; have HK3 := Lib.hid ((show Keep w _ Nope from (by (repeat (first | exact Keep.refl _ _ | apply Keep.drew | apply Keep.drewN | apply Keep.alloc)))).trans hk3 (fun _ f => f.elim)); have HB3 := Lib.hid ((Blk.new1 w (.cells #[.int .i64 i, .int .i64 g] 45) #[.int .i64 0, .int .i64 0, .int .i64 0] 34).keep ((show Keep _ _ Nope from (by (repeat (first | exact Keep.refl _ _ | apply Keep.drew | apply Keep.drewN | apply Keep.alloc)))).trans hk3 (fun _ f => f.elim)) (fun f => f)); clear hk3; obtain ⟨z0, z1, z2, y0, y1, y2⟩ := HB3.out.three))
  refine hK.out _ _ ?_
  clear hK K
  refine tkP 8 ?_; refine tkP 9 ?_; refine tkF 10 ?_
  intro K hK
  go_simp
  refine hK.out _ _ ?_
  clear hK K
  refine tkP 11 ?_
  refine wpAnyM_done (by kernel_rfl) ?_ _
  clear hHeld c0 x0 x1
  obtain ⟨p0, p1, p2, _, _, _⟩ := (HB3.out.set3 (.int .i64 q1) (.int .i64 q2) (.int .i64 q3)).three
  have HF := Lib.hid (HK3.out.set3 (b := w.heap.size + 1) (by omega) (.int .i64 q1) (.int .i64 q2) (.int .i64 q3))
  clear z0 z1 z2 y0 y1 y2
  go_wp2_with fail
  refine bodyPost_ret (v := .tuple #[.agg #[.int .i64 q1, .int .i64 q2, .int .i64 q3], .int .i64 er]) (by simp [results, Tryz.results31, go_sem, p0, p1, p2]) rfl ⟨rfl, HF.out⟩
theorem wo_raise5 {w0 w : World} {R : List Asr} {b : Nat} {x : WoS} {p : WoB} (H : St w0 w (woL b x p ++ R)) (hT : Tab w0) (hx : x.en.al.Ok) (k : Nat) (hk : firstW x.en.al.free 0 = (k : Int)) :
    Calls Tryz.prog 33 #[ptr p.e.ab] w (fun e w' => e = .returned (.tuple #[hdV k ((x.en.al.gen k + 1 : Nat) : Int), .int .i64 0]) ∧ St w0 w' (woL b (x.withE (x.en.withA (x.en.al.rose k))) p ++ R)) := by
  refine (al_raise (St.woEnt H) 1 rfl hT hx k hk).mono ?_
  rintro e w' ⟨rfl, h⟩
  exact ⟨rfl, St.woEnt' (e := x.en.withA (x.en.al.rose k)) h⟩
theorem wo_raise5_no {w0 w : World} {R : List Asr} {b : Nat} {x : WoS} {p : WoB} (H : St w0 w (woL b x p ++ R)) (hT : Tab w0) (hx : x.en.al.Ok) (hk : firstW x.en.al.free 0 = -1) :
    Calls Tryz.prog 33 #[ptr p.e.ab] w (Ret w (.tuple #[hdV 0 0, .int .i64 x.en.al.noE])) := al_raise_no (H.woAl hx) (hT.st H) hk
end Go.Proofs.YtkiikblpgppmkaaGreatDoor
