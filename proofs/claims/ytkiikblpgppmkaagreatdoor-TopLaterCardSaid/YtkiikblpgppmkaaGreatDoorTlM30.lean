/-
  The document's world: may, Create, Insert; The document's world: Insert, Delete.
-/
import Derived.Test.YtkiikblpgppmkaaGreatDoorTlM29
namespace Go.Proofs.YtkiikblpgppmkaaGreatDoor
open Go Go.RowKit
set_option linter.unusedVariables false
set_option linter.unusedSimpArgs false

def m5Rest (b : Nat) (xs : List (DescV × Nat)) (p : M5B) (R : List Asr) : List Asr := blkA b (m5Cs p xs.length) 100 :: slA 109 1 (.slice p.sa xs.length p.sc) xs.length (p.bs.map ptr) :: pureA (p.bs.length = xs.length) :: (List.zipWith s5P p.bs xs ++ R)
theorem St.m5Al {w0 w : World} {R : List Asr} {b : Nat} {al : AlS} {xs : List (DescV × Nat)} {p : M5B} (H : St w0 w (m5L b al xs p ++ R)) : St w0 w (a5A p.ab al :: m5Rest b xs p R) := St.sw (A := blkA b (m5Cs p xs.length) 100) H
theorem St.m5Al' {w0 w : World} {R : List Asr} {b : Nat} {al : AlS} {xs : List (DescV × Nat)} {p : M5B} (H : St w0 w (a5A p.ab al :: m5Rest b xs p R)) : St w0 w (m5L b al xs p ++ R) := St.sw (A := a5A p.ab al) (B := blkA b (m5Cs p xs.length) 100) H
set_option maxRecDepth 100000 in
set_option maxHeartbeats 1000000 in
theorem m5_may {w0 w : World} {R : List Asr} {b : Nat} {al : AlS} {xs : List (DescV × Nat)} {p : M5B} (H : St w0 w (m5L b al xs p ++ R)) (i g : Int) (hs : al.st i g = 1) (c : Nat) (hc : c < xs.length) (hn : xs.length ≤ 64) :
    Calls Tryz.prog 108 #[ptr b, hdV i g, .bool true, .int .i64 (c : Nat)] w (Ret w (.int .i64 0)) := by
  have hk1 := (Keep.refl w Nope).alloc (.cells #[.int .i64 i, .int .i64 g] 45)
  have HM := Lib.hid (fun (w' : World) (hk : Keep w w' Nope) => a5A_may (H.keep hk).m5Al i g)
  rw [hs] at HM
  rw [show liveE 1 = 0 from rfl] at HM
  have HC := Lib.hid (fun (w' : World) (hk : Keep w w' Nope) => (H.keep hk).m5C)
  obtain ⟨x0, x1, _, _⟩ := (Blk.new w #[.int .i64 i, .int .i64 g] 45).two
  have c0 := (HC.out _ hk1).c0
  obtain ⟨n, hN⟩ : ∃ n, xs.length = n := ⟨_, rfl⟩
  rw [hN] at HC hc hn
  have HCo := Lib.hid (fun (w' : World) (hk : Keep w w' Nope) => m5_comp b n c p.sc p.sa hc hn w' (HC.out w' hk).c1)
  clear H hs hk1 hN
  unfold ptr hdV at *
  go_enter Tryz.func108, Tryz.ntmps108
  go_upto_region 1 with fail
  refine wp_region_M (r := 5) (S := fun w' => w'.cell? ⟨b, 0, none⟩ = some (.pointer (some ⟨p.ab, 0, none⟩)) ∧ w'.cell? ⟨w.heap.size, 0, none⟩ = some (.int .i64 i) ∧ w'.cell? ⟨w.heap.size, 1, none⟩ = some (.int .i64 g)) (by kernel_rfl) ?_ (fun hHeld => ?_)
  · (try dsimp only); exact ⟨c0, x0, x1⟩
  refine tkP 0 ?_; refine tkP 1 ?_; refine tkP 2 ?_; refine tkH 3 ?_; refine tkH 4 ?_; refine tkF 5 ?_
  intro K hK
  go_simp
  go_wp2_with ((go_at_call 105; refine (HM.out _ (show Keep w _ Nope from (by (repeat (first | exact Keep.refl _ _ | apply Keep.drew | apply Keep.drewN | apply Keep.alloc))))).mono ?_; rintro e w1 ⟨rfl, hk1⟩; have HK1 := Lib.hid ((show Keep w _ Nope from (by (repeat (first | exact Keep.refl _ _ | apply Keep.drew | apply Keep.drewN | apply Keep.alloc)))).trans hk1 (fun _ f => f.elim)); clear hk1))
  refine hK.out _ _ ?_
  clear hK K
  refine tkP 6 ?_
  refine wpAnyM_done (by kernel_rfl) ?_ _
  clear hHeld c0 x0 x1
  have c4 := (HC.out _ HK1.out).c4
  go_wp2_with (go_at_call 157; refine (HCo.out _ HK1.out).mono ?_; rintro e w2 ⟨rfl, rfl⟩)
  go_ret
  exact ⟨rfl, HK1.out⟩
set_option maxRecDepth 100000 in
set_option maxHeartbeats 1000000 in
theorem m5_may_gone {w0 w : World} {R : List Asr} {b : Nat} {al : AlS} {xs : List (DescV × Nat)} {p : M5B} (H : St w0 w (m5L b al xs p ++ R)) (i g c : Int) (hs : al.st i g = 0) :
    Calls Tryz.prog 108 #[ptr b, hdV i g, .bool true, .int .i64 c] w (Ret w (.int .i64 4)) := by
  have hk1 := (Keep.refl w Nope).alloc (.cells #[.int .i64 i, .int .i64 g] 45)
  have HM := Lib.hid (fun (w' : World) (hk : Keep w w' Nope) => a5A_may (H.keep hk).m5Al i g)
  rw [hs] at HM
  rw [show liveE 0 = 4 from rfl] at HM
  obtain ⟨x0, x1, _, _⟩ := (Blk.new w #[.int .i64 i, .int .i64 g] 45).two
  have c0 := (H.keep hk1).m5C.c0
  clear H hs hk1
  unfold ptr hdV at *
  go_enter Tryz.func108, Tryz.ntmps108
  go_upto_region 1 with fail
  refine wp_region_M (r := 5) (S := fun w' => w'.cell? ⟨b, 0, none⟩ = some (.pointer (some ⟨p.ab, 0, none⟩)) ∧ w'.cell? ⟨w.heap.size, 0, none⟩ = some (.int .i64 i) ∧ w'.cell? ⟨w.heap.size, 1, none⟩ = some (.int .i64 g)) (by kernel_rfl) ?_ (fun hHeld => ?_)
  · (try dsimp only); exact ⟨c0, x0, x1⟩
  refine tkP 0 ?_; refine tkP 1 ?_; refine tkP 2 ?_; refine tkH 3 ?_; refine tkH 4 ?_; refine tkF 5 ?_
  intro K hK
  go_simp
  go_wp2_with ((go_at_call 105; refine (HM.out _ (show Keep w _ Nope from (by (repeat (first | exact Keep.refl _ _ | apply Keep.drew | apply Keep.drewN | apply Keep.alloc))))).mono ?_; rintro e w1 ⟨rfl, hk1⟩; have HK1 := Lib.hid ((show Keep w _ Nope from (by (repeat (first | exact Keep.refl _ _ | apply Keep.drew | apply Keep.drewN | apply Keep.alloc)))).trans hk1 (fun _ f => f.elim)); clear hk1))
  refine hK.out _ _ ?_
  clear hK K
  refine tkP 6 ?_
  refine wpAnyM_done (by kernel_rfl) ?_ _
  clear hHeld c0 x0 x1
  go_wp2_with fail
  go_ret
  exact ⟨rfl, HK1.out⟩
set_option maxHeartbeats 2000000 in
theorem m5_create {w0 w : World} {R : List Asr} {b : Nat} {al : AlS} {xs : List (DescV × Nat)} {p : M5B} (H : St w0 w (m5L b al xs p ++ R)) (k : Nat) (hk : firstW al.free 0 = (k : Int)) :
    Calls Tryz.prog 43 #[ptr b] w (fun e w' => e = .returned (.tuple #[hdV k ((al.gen k + 1 : Nat) : Int), .int .i64 0]) ∧ St w0 w' (m5L b (al.made k) xs p ++ R)) := by
  have HB := Lib.hid (show St w0 (w.alloc (.cells #[.int .i64 0, .int .i64 0] 45)) (blkA w.heap.size #[.int .i64 0, .int .i64 0] 45 :: (m5L b al xs p ++ R)) from H.box0 _ _)
  have HA := Lib.hid (fun (w1 : World) (h : St w0 w1 (blkA w.heap.size #[.int .i64 0, .int .i64 0] 45 :: (m5L b al xs p ++ R))) => a5_create (St.m5Al (St.rot1 h)) k hk)
  have c0 := HB.out.rest.m5C.c0
  have c4 := HB.out.rest.m5C.c4
  obtain ⟨i, hi⟩ : ∃ i : Int, (k : Int) = i := ⟨_, rfl⟩
  obtain ⟨g, hgz⟩ : ∃ g : Int, ((al.gen k + 1 : Nat) : Int) = g := ⟨_, rfl⟩
  rw [hgz, hi] at HA
  rw [hgz, hi]
  clear H hk hi hgz
  unfold ptr hdV at *
  go_enter Tryz.func43, Tryz.ntmps43
  go_wp2_with (go_at_call 103; refine (HA.out _ HB.out).mono ?_; rintro en w3 ⟨rfl, h3⟩; have HB3 := Lib.hid (St.unrot1 (St.m5Al' h3)); clear h3 c0 c4; obtain ⟨z0, z1, y0, y1⟩ := (HB3.out.blk 0 rfl).two)
  obtain ⟨q0, q1, _, _⟩ := ((HB3.out.blk 0 rfl).set2 (.int .i64 i) (.int .i64 g)).two
  have HF := Lib.hid ((HB3.out.write2 (.int .i64 i) (.int .i64 g)).rest)
  clear z0 z1 y0 y1
  refine bodyPost_ret (v := .tuple #[.agg #[.int .i64 i, .int .i64 g], .int .i64 0]) (by simp [results, Tryz.results43, go_sem, q0, q1]) rfl ⟨rfl, HF.out⟩
set_option maxHeartbeats 2000000 in
theorem m5_create_no {w0 w : World} {R : List Asr} {b : Nat} {al : AlS} {xs : List (DescV × Nat)} {p : M5B} (H : St w0 w (m5L b al xs p ++ R)) (hk : firstW al.free 0 = -1) :
    Calls Tryz.prog 43 #[ptr b] w (Ret5No w) := by
  have HB := Lib.hid (show St w0 (w.alloc (.cells #[.int .i64 0, .int .i64 0] 45)) (blkA w.heap.size #[.int .i64 0, .int .i64 0] 45 :: (m5L b al xs p ++ R)) from H.box0 _ _)
  have HA := Lib.hid (a5_create_no (St.m5Al (St.rot1 HB.out)) hk)
  have c0 := HB.out.rest.m5C.c0
  have c4 := HB.out.rest.m5C.c4
  clear H hk
  unfold ptr at *
  go_enter Tryz.func43, Tryz.ntmps43
  go_wp2_with (go_at_call 103; refine HA.out.mono ?_; rintro en w3 ⟨er, he, hk3⟩; unfold hdV at he; subst he; have HK3 := Lib.hid ((show Keep w _ Nope from (by (repeat (first | exact Keep.refl _ _ | apply Keep.drew | apply Keep.drewN | apply Keep.alloc)))).trans hk3 (fun _ f => f.elim)); have HB3 := Lib.hid ((Blk.new w #[.int .i64 0, .int .i64 0] 45).keep hk3 (fun f => f)); clear hk3 c0 c4; obtain ⟨z0, z1, y0, y1⟩ := HB3.out.two)
  obtain ⟨q0, q1, _, _⟩ := (HB3.out.set2 (.int .i64 0) (.int .i64 0)).two
  have HF := Lib.hid ((HK3.out.setCell (p := ⟨w.heap.size, 0, none⟩) (.inr (Nat.le_refl _)) (.int .i64 0)).setCell (p := ⟨w.heap.size, 1, none⟩) (.inr (Nat.le_refl _)) (.int .i64 0))
  clear z0 z1 y0 y1
  refine bodyPost_ret (v := .tuple #[.agg #[.int .i64 0, .int .i64 0], .int .i64 er]) (by simp [results, Tryz.results43, go_sem, q0, q1]) rfl ⟨er, rfl, HF.out⟩
end Go.Proofs.YtkiikblpgppmkaaGreatDoor

namespace Go.Proofs.YtkiikblpgppmkaaGreatDoor
open Go Go.RowKit
set_option linter.unusedVariables false
set_option linter.unusedSimpArgs false

def Ret5MP (w0 : World) (R : List Asr) (b : Nat) (al : AlS) (xs : List (DescV × Nat)) (p : M5B) (e : Ending) (w' : World) : Prop :=
  ∃ (o0 o1 o2 : Int) (t : Bool), e = .returned (.tuple #[.agg #[.int .i64 o0, .int .i64 o1, .int .i64 o2], .bool t, .int .i64 0]) ∧ St w0 w' (m5L b al xs p ++ R)
def Ret5MT (w0 : World) (R : List Asr) (b : Nat) (al : AlS) (xs : List (DescV × Nat)) (p : M5B) (e : Ending) (w' : World) : Prop :=
  ∃ (o0 o1 o2 : Int) (t : Bool), e = .returned (.tuple #[.agg #[.int .i64 o0, .int .i64 o1, .int .i64 o2], .bool t]) ∧ St w0 w' (m5L b al xs p ++ R)
theorem m5_put {w0 w : World} {R : List Asr} {b c x : Nat} {al : AlS} {xs : List (DescV × Nat)} {p : M5B} {e : DescV × Nat} (H : St w0 w (m5L b al xs p ++ R)) (hx : p.bs[c]? = some x) (he : xs[c]? = some e) (hN : e.2 ≤ 900) (k : Nat) (hk : k < 64) (v : VV) (hv : okV v.k v.a v.b = true) (hd : v.k = e.1.kd) :
    Calls Tryz.prog 109 #[ptr x, .int .i64 (k : Nat), v.val] w (Ret5MP w0 R b al (xs.set c (e.1, e.2 + 1)) p) := by
  obtain ⟨q, hq, h⟩ := H.m5Slot hx he
  refine (s5_put h hq hN hN k hk v hv hd).mono ?_
  rintro en w' ⟨o0, o1, o2, t, q', rfl, hq', h'⟩
  exact ⟨o0, o1, o2, t, rfl, St.m5Slot' hx he hq' h'⟩
theorem m5_take {w0 w : World} {R : List Asr} {b c x : Nat} {al : AlS} {xs : List (DescV × Nat)} {p : M5B} {e : DescV × Nat} (H : St w0 w (m5L b al xs p ++ R)) (hx : p.bs[c]? = some x) (he : xs[c]? = some e) (hN : e.2 ≤ 900) (k : Nat) (hk : k < 64) :
    Calls Tryz.prog 106 #[ptr x, .int .i64 (k : Nat)] w (Ret5MT w0 R b al (xs.set c (e.1, e.2 + 1)) p) := by
  obtain ⟨q, hq, h⟩ := H.m5Slot hx he
  refine (s5_take h hq hN hN k hk).mono ?_
  rintro en w' ⟨o0, o1, o2, t, q', rfl, hq', h'⟩
  exact ⟨o0, o1, o2, t, rfl, St.m5Slot' hx he ⟨Nat.le_succ_of_le hq'.1, hq'.2⟩ h'⟩
def Ret5MI (w0 : World) (R : List Asr) (b : Nat) (al : AlS) (xs : List (DescV × Nat)) (p : M5B) (e : Ending) (w' : World) : Prop := ∃ v, e = .returned v ∧ St w0 w' (m5L b al xs p ++ R)
set_option maxRecDepth 100000 in
set_option maxHeartbeats 4000000 in
theorem m5_insert {w0 w : World} {R : List Asr} {b c : Nat} {al : AlS} {xs : List (DescV × Nat)} {p : M5B} {e : DescV × Nat} (H : St w0 w (m5L b al xs p ++ R)) (he : xs[c]? = some e) (hN : e.2 ≤ 900) (hn : xs.length ≤ 64) (k : Nat) (hk : k < 64) (g : Int) (hs : al.st k g = 1) (v : VV) (hv : okV v.k v.a v.b = true) (hd : v.k = e.1.kd) :
    Calls Tryz.prog 46 #[ptr b, hdV k g, .int .i64 (c : Nat), v.val] w (Ret5MI w0 R b al (xs.set c (e.1, e.2 + 1)) p) := by
  have hlen := H.m5Len
  have hcl := (List.getElem?_eq_some_iff.1 he).1
  obtain ⟨x, hx⟩ : ∃ x, p.bs[c]? = some x := ⟨_, List.getElem?_eq_getElem (by omega)⟩
  have HPut := Lib.hid (fun (w' : World) (R' : List Asr) (h : St w0 w' (m5L b al xs p ++ R')) => m5_put h hx he hN k hk v hv hd)
  obtain ⟨vk, va, vb⟩ := v
  have HB := H.box3 #[.int .i64 (k : Nat), .int .i64 g] #[.int .i64 vk, .int .i64 va, .int .i64 vb] #[.int .i64 0, .int .i64 0, .int .i64 0] 45 34 34
  obtain ⟨wa, hwa⟩ : ∃ wa, ((w.alloc (.cells #[.int .i64 (k : Nat), .int .i64 g] 45)).alloc (.cells #[.int .i64 vk, .int .i64 va, .int .i64 vb] 34)).alloc (.cells #[.int .i64 0, .int .i64 0, .int .i64 0] 34) = wa := ⟨_, rfl⟩
  obtain ⟨hb, hhb⟩ : ∃ hb, w.heap.size = hb := ⟨_, rfl⟩
  obtain ⟨vb0, hvb⟩ : ∃ vb0, hb + 1 = vb0 := ⟨_, rfl⟩
  obtain ⟨rb, hrb⟩ : ∃ rb, vb0 + 1 = rb := ⟨_, rfl⟩
  rw [hwa, hhb, hvb, hrb] at HB
  have HM1 := Lib.hid (m5_may (St.rot3 HB) k g hs c hcl hn)
  have HBH := Lib.hid HB
  obtain ⟨n, hN2⟩ : ∃ n, xs.length = n := ⟨_, rfl⟩
  rw [hN2] at hcl hlen
  have HX := Lib.hid hx
  have HN2 := Lib.hid hN2
  obtain ⟨i, hi⟩ : ∃ i : Int, (k : Int) = i := ⟨_, rfl⟩
  rw [hi] at HPut HM1 HBH
  rw [hi]
  obtain ⟨h0, h1, _, _⟩ := (HBH.out.blk 2 (b := hb) (cs := #[.int .i64 i, .int .i64 g]) (t := 45) rfl).two
  obtain ⟨v0, v1, v2, _, _, _⟩ := (HBH.out.blk 1 (b := vb0) (cs := #[.int .i64 vk, .int .i64 va, .int .i64 vb]) (t := 34) rfl).three
  obtain ⟨ys, hys⟩ : ∃ ys, xs.set c (e.1, e.2 + 1) = ys := ⟨_, rfl⟩
  rw [hys] at HPut ⊢
  rw [hi] at hwa
  clear H HB he hs hv hd hx hN2 hi hys
  unfold ptr hdV VV.val at *
  simp only at HPut
  go_enter Tryz.func46, Tryz.ntmps46
  go_upto_region 1 with fail
  try rw [hwa]
  try rw [hhb]
  try rw [hvb]
  try rw [hrb]
  clear hwa hhb hvb hrb
  go_upto_region 4 with (go_at_call 108; refine HM1.out.mono ?_; rintro en w1 ⟨rfl, hk1⟩; have HB1 := Lib.hid (HBH.out.keep hk1); clear hk1 HM1)
  clear h0 h1 v0 v1 v2 HBH
  obtain ⟨h0, h1, _, _⟩ := (HB1.out.blk 2 (b := hb) (cs := #[.int .i64 i, .int .i64 g]) (t := 45) rfl).two
  obtain ⟨v0, v1, v2, _, _, _⟩ := (HB1.out.blk 1 (b := vb0) (cs := #[.int .i64 vk, .int .i64 va, .int .i64 vb]) (t := 34) rfl).three
  obtain ⟨gg, hga, hgc⟩ := (St.rot3 HB1.out).m5Row HX.out
  have c1 := (St.rot3 HB1.out).m5C.c1
  rw [hga, HN2.out] at c1
  unfold ptr at hgc
  have e0 : decide (n ≤ c) = false := decide_eq_false (by omega)
  have HC := Lib.hid hcl
  clear hga
  refine wp_region_M (r := 10) (S := fun w' => w'.cell? ⟨b, 1, none⟩ = some (.slice (some ⟨gg, 0, none⟩) n p.sc) ∧ w'.cell? ⟨gg, c, none⟩ = some (.pointer (some ⟨x, 0, none⟩)) ∧ w'.cell? ⟨hb, 0, none⟩ = some (.int .i64 i) ∧ w'.cell? ⟨vb0, 0, none⟩ = some (.int .i64 vk) ∧ w'.cell? ⟨vb0, 1, none⟩ = some (.int .i64 va) ∧ w'.cell? ⟨vb0, 2, none⟩ = some (.int .i64 vb)) (by kernel_rfl) ?_ (fun hHeld => ?_)
  · (try dsimp only); exact ⟨c1, hgc, h0, v0, v1, v2⟩
  refine tkP 0 ?_; refine tkP 1 ?_; refine tkP 2 ?_; refine tkP 4 ?_; refine tkP 7 ?_; refine tkH 8 ?_; refine tkH 9 ?_; refine tkC 3 ?_
  intro K hK
  go_simp
  refine hK.out _ _ ?_ (fun hHeld => ?_)
  · (try dsimp only); exact ⟨c1, hgc, h0, v0, v1, v2⟩
  clear hK K
  refine tkP 5 ?_; refine tkH 6 ?_; refine tkF 10 ?_
  intro K hK
  go_simp
  go_wp2_with ((go_at_call 109; refine (HPut.out _ _ (St.rot3 HB1.out.drew)).mono ?_; rintro en w2 ⟨o0, o1, o2, t, rfl, h2⟩; have H2 := Lib.hid (St.unrot3 h2); clear h2 HB1; obtain ⟨z0, z1, z2, y0, y1, y2⟩ := (H2.out.blk 0 rfl).three))
  refine hK.out _ _ ?_
  clear hK K
  refine tkP 11 ?_; refine tkP 12 ?_; refine tkP 13 ?_; refine tkF 14 ?_
  intro K hK
  go_simp
  refine hK.out _ _ ?_
  clear hK K
  refine tkP 15 ?_; refine tkP 16 ?_
  refine wpAnyM_done (by kernel_rfl) ?_ _
  clear hHeld c1 hgc h0 h1 v0 v1 v2
  have h4 := ((H2.out.write 0 rfl 0 (.int .i64 o0)).write 0 rfl 1 (.int .i64 o1)).write 0 rfl 2 (.int .i64 o2)
  go_wp2_with fail
  obtain ⟨w4, hw4⟩ : ∃ w4, ((w2.setCell ⟨rb, 0, none⟩ (.int .i64 o0)).setCell ⟨rb, 1, none⟩ (.int .i64 o1)).setCell ⟨rb, 2, none⟩ (.int .i64 o2) = w4 := ⟨_, rfl⟩
  rw [hw4] at h4
  try rw [hw4]
  obtain ⟨p0, p1, p2, _, _, _⟩ := (show Blk w4 rb #[.int .i64 o0, .int .i64 o1, .int .i64 o2] 34 from h4.blk 0 rfl).three
  refine bodyPost_ret (v := .tuple #[.agg #[.int .i64 o0, .int .i64 o1, .int .i64 o2], .bool t, .int .i64 0]) (by simp [results, Tryz.results46, go_sem, p0, p1, p2]) rfl ⟨_, rfl, h4.rest.rest.rest⟩
set_option maxRecDepth 100000 in
set_option maxHeartbeats 2000000 in
theorem m5_insert_gone {w0 w : World} {R : List Asr} {b : Nat} {al : AlS} {xs : List (DescV × Nat)} {p : M5B} (H : St w0 w (m5L b al xs p ++ R)) (i g c : Int) (hs : al.st i g = 0) (v : VV) :
    Calls Tryz.prog 46 #[ptr b, hdV i g, .int .i64 c, v.val] w (Ret5MI w0 R b al xs p) := by
  obtain ⟨vk, va, vb⟩ := v
  have HB := H.box3 #[.int .i64 i, .int .i64 g] #[.int .i64 vk, .int .i64 va, .int .i64 vb] #[.int .i64 0, .int .i64 0, .int .i64 0] 45 34 34
  obtain ⟨wa, hwa⟩ : ∃ wa, ((w.alloc (.cells #[.int .i64 i, .int .i64 g] 45)).alloc (.cells #[.int .i64 vk, .int .i64 va, .int .i64 vb] 34)).alloc (.cells #[.int .i64 0, .int .i64 0, .int .i64 0] 34) = wa := ⟨_, rfl⟩
  obtain ⟨hb, hhb⟩ : ∃ hb, w.heap.size = hb := ⟨_, rfl⟩
  obtain ⟨vb0, hvb⟩ : ∃ vb0, hb + 1 = vb0 := ⟨_, rfl⟩
  obtain ⟨rb, hrb⟩ : ∃ rb, vb0 + 1 = rb := ⟨_, rfl⟩
  rw [hwa, hhb, hvb, hrb] at HB
  have HM1 := Lib.hid (m5_may_gone (St.rot3 HB) i g c hs)
  have HBH := Lib.hid HB
  obtain ⟨h0, h1, _, _⟩ := (HBH.out.blk 2 (b := hb) (cs := #[.int .i64 i, .int .i64 g]) (t := 45) rfl).two
  clear H HB hs
  unfold ptr hdV VV.val at *
  go_enter Tryz.func46, Tryz.ntmps46
  go_upto_region 1 with fail
  try rw [hwa]
  try rw [hhb]
  try rw [hvb]
  try rw [hrb]
  clear hwa hhb hvb hrb
  go_wp2_with (go_at_call 108; refine HM1.out.mono ?_; rintro en w1 ⟨rfl, hk1⟩; have H2 := Lib.hid (HBH.out.keep hk1); clear hk1 HM1; obtain ⟨z0, z1, z2, y0, y1, y2⟩ := (H2.out.blk 0 rfl).three)
  have h4 := ((H2.out.write 0 rfl 0 (.int .i64 0)).write 0 rfl 1 (.int .i64 0)).write 0 rfl 2 (.int .i64 0)
  obtain ⟨w4, hw4⟩ : ∃ w4, ((w1.setCell ⟨rb, 0, none⟩ (.int .i64 0)).setCell ⟨rb, 1, none⟩ (.int .i64 0)).setCell ⟨rb, 2, none⟩ (.int .i64 0) = w4 := ⟨_, rfl⟩
  rw [hw4] at h4
  try rw [hw4]
  obtain ⟨p0, p1, p2, _, _, _⟩ := (show Blk w4 rb #[.int .i64 0, .int .i64 0, .int .i64 0] 34 from h4.blk 0 rfl).three
  refine bodyPost_ret (v := .tuple #[.agg #[.int .i64 0, .int .i64 0, .int .i64 0], .bool false, .int .i64 4]) (by simp [results, Tryz.results46, go_sem, p0, p1, p2]) rfl ⟨_, rfl, h4.rest.rest.rest⟩
end Go.Proofs.YtkiikblpgppmkaaGreatDoor
