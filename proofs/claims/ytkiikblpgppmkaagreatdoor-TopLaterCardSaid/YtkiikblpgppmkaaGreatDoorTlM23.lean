/-
  The package world: Set, Remove; what is told of those that are gone; The package world: those that are gone are refused; nothing is changed; The package flag: a reader reads.
-/
import Derived.Test.YtkiikblpgppmkaaGreatDoorTlM22
import Derived.Test.YtkiikblpgppmkaaGreatDoorTlM17
namespace Go.Proofs.YtkiikblpgppmkaaGreatDoor
open Go Go.RowKit
set_option linter.unusedVariables false
set_option linter.unusedSimpArgs false

set_option maxRecDepth 100000 in
set_option maxHeartbeats 2000000 in
theorem wo_remove {w0 w : World} {R : List Asr} {b : Nat} {x : WoS} {p : WoB} (H : St w0 w (woL b x p ++ R)) (hx : x.en.Ok 90000) (k : Nat) (g : Int) (hs : x.en.al.st k g = 1) (c : Nat) (s : SlS) (hc : x.en.sl[c]? = some s) :
    Calls Tryz.prog 17 #[ptr b, hdV k g, .int .i64 (c : Nat)] w (fun en w' => en = .returned (.tuple #[(hadV s.m s.f k).val, .int .i64 (if s.m.testBit k then 0 else 10)]) ∧ St w0 w' (woL b (x.withE (x.en.takes k c)) p ++ R)) := by
  obtain ⟨i, hi⟩ : ∃ i : Int, (k : Int) = i := ⟨_, rfl⟩
  have HB := Lib.hid (show St w0 ((w.alloc (.cells #[.int .i64 i, .int .i64 g] 45)).alloc (.cells #[.int .i64 0, .int .i64 0, .int .i64 0] 34)) (blkA (w.heap.size + 1) #[.int .i64 0, .int .i64 0, .int .i64 0] 34 :: blkA w.heap.size #[.int .i64 i, .int .i64 g] 45 :: (woL b x p ++ R)) from H.box2 _ _ _ _)
  have HM := Lib.hid (wo_may HB.out.rest.rest hx.al k g)
  rw [hs] at HM
  rw [show mayE 1 = 0 from rfl] at HM
  have HD := Lib.hid (fun (w1 : World) (h : St w0 w1 (woL b x p ++ (R ++ [blkA (w.heap.size + 1) #[.int .i64 0, .int .i64 0, .int .i64 0] 34, blkA w.heap.size #[.int .i64 i, .int .i64 g] 45]))) => ent_remove (St.woEnt h) hx k g hs c s hc)
  obtain ⟨y, hy⟩ : ∃ y, x.en.takes k c = y := ⟨_, rfl⟩
  rw [hy] at HD ⊢
  obtain ⟨er, her⟩ : ∃ er : Int, (if s.m.testBit k then 0 else 10) = er := ⟨_, rfl⟩
  rw [her] at HD ⊢
  obtain ⟨⟨q1, q2, q3⟩, hh⟩ : ∃ h, hadV s.m s.f k = h := ⟨_, rfl⟩
  rw [hh] at HD ⊢
  obtain ⟨ci, hci⟩ : ∃ ci : Int, (c : Int) = ci := ⟨_, rfl⟩
  rw [hci] at HD ⊢
  rw [hi] at HM HD ⊢
  clear H hx hs hc hy hi hci her hh
  unfold ptr hdV VV.val at *
  simp only at *
  go_enter Tryz.func17, Tryz.ntmps17
  go_wp2_with (go_at_call 52; refine HM.out.mono ?_; rintro e w1 ⟨rfl, hk1⟩; have HB1 := Lib.hid (HB.out.keep hk1); clear hk1 HM HB)
  have c0 := HB1.out.rest.rest.woC.c0
  obtain ⟨h0, h1, _, _⟩ := (HB1.out.blk 1 rfl).two
  refine wp_region_M (r := 7) (S := fun w' => w'.cell? ⟨b, 0, none⟩ = some (.pointer (some ⟨p.eb, 0, none⟩)) ∧ w'.cell? ⟨w.heap.size, 0, none⟩ = some (.int .i64 i) ∧ w'.cell? ⟨w.heap.size, 1, none⟩ = some (.int .i64 g)) (by kernel_rfl) ?_ (fun hHeld => ?_)
  · (try dsimp only); exact ⟨c0, h0, h1⟩
  refine tkP 0 ?_; refine tkP 1 ?_; refine tkP 2 ?_; refine tkP 3 ?_; refine tkH 4 ?_; refine tkH 5 ?_; refine tkP 6 ?_; refine tkF 7 ?_
  intro K hK
  go_simp
  go_wp2_with ((go_at_call 55; refine (HD.out _ (St.rot2 HB1.out.drew)).mono ?_; rintro en w2 ⟨rfl, h2⟩; have HB2 := Lib.hid (St.unrot2 (St.woEnt' h2)); clear h2 HB1; obtain ⟨z0, z1, z2, y0, y1, y2⟩ := (HB2.out.blk 0 rfl).three))
  refine hK.out _ _ ?_
  clear hK K
  refine tkP 8 ?_; refine tkP 9 ?_; refine tkF 10 ?_
  intro K hK
  go_simp
  refine hK.out _ _ ?_
  clear hK K
  refine tkP 11 ?_
  refine wpAnyM_done (by kernel_rfl) ?_ _
  clear hHeld c0 h0 h1
  obtain ⟨p0, p1, p2, _, _, _⟩ := ((HB2.out.blk 0 rfl).set3 (.int .i64 q1) (.int .i64 q2) (.int .i64 q3)).three
  have HF := Lib.hid ((HB2.out.write3 (.int .i64 q1) (.int .i64 q2) (.int .i64 q3)).rest.rest)
  clear z0 z1 z2 y0 y1 y2
  go_wp2_with fail
  refine bodyPost_ret (v := .tuple #[.agg #[.int .i64 q1, .int .i64 q2, .int .i64 q3], .int .i64 er]) (by simp [results, Tryz.results17, go_sem, p0, p1, p2]) rfl ⟨rfl, HF.out⟩
end Go.Proofs.YtkiikblpgppmkaaGreatDoor

namespace Go.Proofs.YtkiikblpgppmkaaGreatDoor
open Go Go.RowKit
set_option linter.unusedVariables false
set_option linter.unusedSimpArgs false

set_option maxRecDepth 100000 in
set_option maxHeartbeats 2000000 in
theorem wo_insert_gone {w0 w : World} {R : List Asr} {b : Nat} {x : WoS} {p : WoB} (H : St w0 w (woL b x p ++ R)) (hx : x.en.al.Ok) (i g c : Int) (hs : x.en.al.st i g = 0) (v : VV) :
    Calls Tryz.prog 15 #[ptr b, hdV i g, .int .i64 c, v.val] w (Ret w (.tuple #[zV, .bool false, .int .i64 4])) := by
  have HB := Lib.hid (show St w0 (((w.alloc (.cells #[.int .i64 i, .int .i64 g] 45)).alloc (.cells #[.int .i64 v.k, .int .i64 v.a, .int .i64 v.b] 34)).alloc (.cells #[.int .i64 0, .int .i64 0, .int .i64 0] 34)) (blkA (w.heap.size + 1 + 1) #[.int .i64 0, .int .i64 0, .int .i64 0] 34 :: blkA (w.heap.size + 1) #[.int .i64 v.k, .int .i64 v.a, .int .i64 v.b] 34 :: blkA w.heap.size #[.int .i64 i, .int .i64 g] 45 :: (woL b x p ++ R)) from H.box3 _ _ _ _ _ _)
  have HK := Lib.hid (show Keep w (((w.alloc (.cells #[.int .i64 i, .int .i64 g] 45)).alloc (.cells #[.int .i64 v.k, .int .i64 v.a, .int .i64 v.b] 34)).alloc (.cells #[.int .i64 0, .int .i64 0, .int .i64 0] 34)) Nope from (((Keep.refl w Nope).alloc _).alloc _).alloc _)
  have HM := Lib.hid (wo_may HB.out.rest.rest.rest hx i g)
  rw [hs] at HM
  rw [show mayE 0 = 4 from rfl] at HM
  obtain ⟨vk, va, vb⟩ := v
  clear H hx hs
  unfold ptr hdV VV.val zV at *
  simp only at *
  go_enter Tryz.func15, Tryz.ntmps15
  go_wp2_with (go_at_call 52; refine HM.out.mono ?_; rintro e w1 ⟨rfl, hk1⟩; have HB1 := Lib.hid (HB.out.keep hk1); have HK1 := Lib.hid (HK.out.trans hk1 (fun _ f => f.elim)); clear hk1 HM HB; obtain ⟨z0, z1, z2, y0, y1, y2⟩ := (HB1.out.blk 0 rfl).three)
  obtain ⟨q0, q1, q2, _, _, _⟩ := ((HB1.out.blk 0 rfl).set3 (.int .i64 0) (.int .i64 0) (.int .i64 0)).three
  have HF := Lib.hid (HK1.out.set3 (b := w.heap.size + 1 + 1) (by omega) (.int .i64 0) (.int .i64 0) (.int .i64 0))
  clear z0 z1 z2 y0 y1 y2
  refine bodyPost_ret (v := .tuple #[.agg #[.int .i64 0, .int .i64 0, .int .i64 0], .bool false, .int .i64 4]) (by simp [results, Tryz.results15, go_sem, q0, q1, q2]) rfl ⟨rfl, HF.out⟩
set_option maxRecDepth 100000 in
set_option maxHeartbeats 2000000 in
theorem wo_remove_gone {w0 w : World} {R : List Asr} {b : Nat} {x : WoS} {p : WoB} (H : St w0 w (woL b x p ++ R)) (hx : x.en.al.Ok) (i g c : Int) (hs : x.en.al.st i g = 0) :
    Calls Tryz.prog 17 #[ptr b, hdV i g, .int .i64 c] w (Ret w (.tuple #[zV, .int .i64 4])) := by
  have HB := Lib.hid (show St w0 ((w.alloc (.cells #[.int .i64 i, .int .i64 g] 45)).alloc (.cells #[.int .i64 0, .int .i64 0, .int .i64 0] 34)) (blkA (w.heap.size + 1) #[.int .i64 0, .int .i64 0, .int .i64 0] 34 :: blkA w.heap.size #[.int .i64 i, .int .i64 g] 45 :: (woL b x p ++ R)) from H.box2 _ _ _ _)
  have HK := Lib.hid (show Keep w ((w.alloc (.cells #[.int .i64 i, .int .i64 g] 45)).alloc (.cells #[.int .i64 0, .int .i64 0, .int .i64 0] 34)) Nope from ((Keep.refl w Nope).alloc _).alloc _)
  have HM := Lib.hid (wo_may HB.out.rest.rest hx i g)
  rw [hs] at HM
  rw [show mayE 0 = 4 from rfl] at HM
  clear H hx hs
  unfold ptr hdV zV at *
  go_enter Tryz.func17, Tryz.ntmps17
  go_wp2_with (go_at_call 52; refine HM.out.mono ?_; rintro e w1 ⟨rfl, hk1⟩; have HB1 := Lib.hid (HB.out.keep hk1); have HK1 := Lib.hid (HK.out.trans hk1 (fun _ f => f.elim)); clear hk1 HM HB; obtain ⟨z0, z1, z2, y0, y1, y2⟩ := (HB1.out.blk 0 rfl).three)
  obtain ⟨q0, q1, q2, _, _, _⟩ := ((HB1.out.blk 0 rfl).set3 (.int .i64 0) (.int .i64 0) (.int .i64 0)).three
  have HF := Lib.hid (HK1.out.set3 (b := w.heap.size + 1) (by omega) (.int .i64 0) (.int .i64 0) (.int .i64 0))
  clear z0 z1 z2 y0 y1 y2
  refine bodyPost_ret (v := .tuple #[.agg #[.int .i64 0, .int .i64 0, .int .i64 0], .int .i64 4]) (by simp [results, Tryz.results17, go_sem, q0, q1, q2]) rfl ⟨rfl, HF.out⟩
set_option maxRecDepth 100000 in
set_option maxHeartbeats 2000000 in
theorem wo_delete_gone {w0 w : World} {R : List Asr} {b : Nat} {x : WoS} {p : WoB} (H : St w0 w (woL b x p ++ R)) (hx : x.en.al.Ok) (i g : Int) (hs : x.en.al.st i g = 0) :
    Calls Tryz.prog 18 #[ptr b, hdV i g] w (Ret w (.tuple #[.int .i64 0, .int .i64 4])) := by
  have HB := Lib.hid (show St w0 (w.alloc (.cells #[.int .i64 i, .int .i64 g] 45)) (blkA w.heap.size #[.int .i64 i, .int .i64 g] 45 :: (woL b x p ++ R)) from H.box0 _ _)
  have HK := Lib.hid (show Keep w (w.alloc (.cells #[.int .i64 i, .int .i64 g] 45)) Nope from (Keep.refl w Nope).alloc _)
  have HM := Lib.hid (wo_may HB.out.rest hx i g)
  rw [hs] at HM
  rw [show mayE 0 = 4 from rfl] at HM
  clear H hx hs
  unfold ptr hdV at *
  go_enter Tryz.func18, Tryz.ntmps18
  go_wp2_with (go_at_call 52; refine HM.out.mono ?_; rintro e w1 ⟨rfl, hk1⟩; have HK1 := Lib.hid (HK.out.trans hk1 (fun _ f => f.elim)); clear hk1 HM HB)
  go_ret2
  exact ⟨rfl, HK1.out⟩
end Go.Proofs.YtkiikblpgppmkaaGreatDoor

namespace Go.Proofs.YtkiikblpgppmkaaGreatDoor
open Go Go.RowKit
set_option linter.unusedVariables false
set_option linter.unusedSimpArgs false

end Go.Proofs.YtkiikblpgppmkaaGreatDoor
