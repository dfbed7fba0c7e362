/-
  The package rows: Build, of one column that is read; The package rows: Of, of one column that is read; The package script: a script; New; The package script: a Reply's block. (Printed by tools/gen_rep.py.); The package script: told.
-/
import Derived.Test.YtkiikblpgppmkaaGreatDoorTlM38
namespace Go.Proofs.YtkiikblpgppmkaaGreatDoor
open Go Go.RowKit
set_option linter.unusedVariables false
set_option linter.unusedSimpArgs false

theorem arR_of {w w' : World} {ar g4 k4 g3 k3 g1 k1 g0 k0 y0 y1 m0 m1 : Nat} {q : ArQ} {A : Asr} {T : List Asr}
    (H : St w w' (slA 3 1 (.slice (some ⟨g4, 0, none⟩) 3 k4) 3 (intsN [0, 1, 3]) :: (arL ar [⟨1, some ⟨g0, 0, none⟩, 1, k0⟩, ⟨1, some ⟨g1, 0, none⟩, 1, k1⟩, ⟨3, none, 0, 0⟩, ⟨5, some ⟨g3, 0, none⟩, 1, k3⟩, ⟨2, some ⟨g4, 0, none⟩, 3, k4⟩] [y0, y1] q ++ (slA 3 1 (.slice (some ⟨g3, 0, none⟩) 1 k3) 1 (intsN [2]) :: slA 3 1 (.slice (some ⟨g1, 0, none⟩) 1 k1) 1 (intsN [1]) :: hibA y1 m1 :: A :: slA 3 1 (.slice (some ⟨g0, 0, none⟩) 1 k0) 1 (intsN [0]) :: hibA y0 m0 :: T)))) (h0 : m0 < 2 ^ 64) (h1 : m1 < 2 ^ 64) : ∃ p, ArR w' ar p m0 m1 := by
  obtain ⟨qa, qc, sa, sc⟩ := q
  obtain ⟨n, hqn, _, _, hn, _⟩ := H.store 2 rfl (by simp)
  obtain ⟨s, hqs, _, _, hs, _⟩ := H.store 3 rfl (by simp)
  simp only at hqn hqs
  subst hqn; subst hqs
  obtain ⟨_, e4, _, _, hk4, _⟩ := H.store 0 rfl (by decide)
  cases e4
  obtain ⟨_, e3, _, _, hk3, _⟩ := H.store 4 rfl (by decide)
  cases e3
  obtain ⟨_, e1, _, _, hk1, _⟩ := H.store 5 rfl (by decide)
  cases e1
  obtain ⟨_, e0, _, _, hk0, _⟩ := H.store 8 rfl (by decide)
  cases e0
  have hb := H.blk 1 rfl
  exact ⟨⟨n, qc, s, sc, g0, k0, g1, k1, g3, k3, g4, k4, y0, y1⟩, ⟨by rw [hb.cell]; rfl, by rw [hb.cell]; rfl, hn 0 (by simp), hn 1 (by simp), hn 2 (by simp), hn 3 (by simp), hn 4 (by simp), hn 5 (by simp), hn 6 (by simp), hn 7 (by simp), hn 8 (by simp), hn 9 (by simp), hk0 0 (by decide), hk1 0 (by decide), hk3 0 (by decide), hk4 0 (by decide), hk4 1 (by decide), hk4 2 (by decide), hs 0 (by simp), hs 1 (by simp), H.hibRd 9 rfl h0, H.hibRd 6 rfl h1⟩⟩
def RetBld (w : World) (m0 m1 : Nat) (e : Ending) (w' : World) : Prop := ∃ ar p, e = .returned (.tuple #[ptr ar, .int .i64 4, .int .i64 0]) ∧ ArR w' ar p m0 m1 ∧ Keep w w' Nope
set_option maxRecDepth 100000 in
set_option maxHeartbeats 4000000 in
theorem bld {w0 w : World} {Rw : List Asr} {b : Nat} {x : WoS} {p : WoB} (HW : St w0 w (woL b x p ++ Rw)) (hx : x.en.al.Ok) (hl : x.en.sl.length ≤ 64) (s : SlS) (hc : x.en.sl[0]? = some s) (hm : s.m < 2 ^ 64) (g o c : Nat) (hcm : c ≤ maxLen) (h0 : w.cell? ⟨g, o, none⟩ = some (.int .i64 1)) (h1 : w.cell? ⟨g, o + 1, none⟩ = some (.int .i64 0)) :
    Calls Tryz.prog 69 #[ptr b, .slice (some ⟨g, o, none⟩) 1 c] w (RetBld w x.en.al.live s.m) := by
  have hpos : 1 ≤ x.en.sl.length := by have := (List.getElem?_eq_some_iff.1 hc).1; omega
  have HWK := Lib.hid (fun (w' : World) (hk : Keep w w' Nope) => HW.keep hk)
  have HDS := Lib.hid (fun (w' : World) (hk : Keep w w' Nope) => reg_descs ((HW.keep hk).woEnt.entReg) hl)
  have HCK := Lib.hid (fun (da : Option Addr) (dc : Nat) (w' : World) (hk : Keep w w' Nope) => pln_check da x.en.sl.length dc g o c hpos (by omega) hcm w' (hk.cell h0 (fun f => f)) (hk.cell h1 (fun f => f)))
  have HPT := Lib.hid (fun (w' : World) (hk : Keep w w' Nope) => pln_parts g o c w' (hk.cell h0 (fun f => f)) (hk.cell h1 (fun f => f)))
  have HAM := Lib.hid (fun (w' : World) (hk : Keep w w' Nope) => al_mask p.e.ab x.en.al w' ((HW.keep hk).woAl hx))
  have HMB := Lib.hid (fun (wr : World) (ar : Nat) (ns : List NdV) (ss : List Nat) (q : ArQ) (R : List Asr) (H : St w wr (arL ar ns ss q ++ R)) (hn : ns.length < 64) (hs : ss.length < 64) => bld_mask HW H hn hs hl s hc hm)
  have HC := Lib.hid (And.intro hx (And.intro hc hm))
  obtain ⟨n, hN⟩ : ∃ n, x.en.sl.length = n := ⟨_, rfl⟩
  rw [hN] at HDS HCK
  have HB := Lib.hid ((St.start w).box0 #[.pointer (some ⟨b, 0, none⟩)] 61)
  obtain ⟨c2, hc2⟩ : ∃ c2, w.heap.size = c2 := ⟨_, rfl⟩
  obtain ⟨wa, hwa⟩ : ∃ wa, w.alloc (.cells #[.pointer (some ⟨b, 0, none⟩)] 61) = wa := ⟨_, rfl⟩
  rw [hwa, hc2] at HB
  have c0 := (HWK.out _ (Keep.ofSt HB.out)).woC.c0
  have e1 := (HWK.out _ (Keep.ofSt HB.out)).woC.e1
  have b2 : wa.cell? ⟨c2, 0, none⟩ = some (.pointer (some ⟨b, 0, none⟩)) := by rw [(HB.out.blk 0 rfl).cell]; rfl
  clear HW hx hl hc hm h0 h1 hN hpos hcm
  unfold ptr at *
  go_enter Tryz.func69, Tryz.ntmps69
  go_upto_region 4 with (first
    | (go_at_call 128; refine (HDS.out _ (Keep.ofSt HB.out)).mono ?_; rintro e w1 ⟨da, dc, rfl, hk1⟩; have HB1 := Lib.hid (HB.out.keep hk1); clear hk1)
    | (go_at_call 127; refine (HCK.out da dc _ (Keep.ofSt HB1.out)).mono ?_; rintro e w2 ⟨rfl, hk2⟩; have HB2 := Lib.hid (HB1.out.keep hk2); clear hk2))
  clear c0 e1 b2 hwa
  have HNEW := Lib.hid (ar_new HB2.out)
  unfold ptr at HNEW
  go_upto_region 5 with (go_at_call 129; refine HNEW.out.mono ?_; rintro e w3 ⟨ar, rfl, h3⟩; have HB3 := Lib.hid h3; clear h3)
  have HB4 := Lib.hid (HB3.out.box0 #[.pointer (some ⟨ar, 0, none⟩)] 175)
  obtain ⟨c8, hc8⟩ : ∃ c8, w3.heap.size = c8 := ⟨_, rfl⟩
  obtain ⟨w4, hw4⟩ : ∃ w4, w3.alloc (.cells #[.pointer (some ⟨ar, 0, none⟩)] 175) = w4 := ⟨_, rfl⟩
  rw [hw4, hc8] at HB4
  rw [hw4, hc8]
  clear hw4 hc8
  have HB4' := Lib.hid (show St w w4 (arL ar [] [] ⟨none, 0, none, 0⟩ ++ [blkA c2 #[.pointer (some ⟨b, 0, none⟩)] 61, blkA c8 #[.pointer (some ⟨ar, 0, none⟩)] 175]) from St.rot1 (R := [blkA c2 #[.pointer (some ⟨b, 0, none⟩)] 61]) HB4.out)
  clear HB4 HB3 HB2 HB1 HB
  go_upto_region 7 with (go_at_call 130; refine (HPT.out _ (Keep.ofSt HB4'.out)).mono ?_; rintro e w5 ⟨r, rc, rfl, h5⟩; have HB5 := Lib.hid (show St w w5 (arL ar [] [] ⟨none, 0, none, 0⟩ ++ [blkA c2 #[.pointer (some ⟨b, 0, none⟩)] 61, blkA c8 #[.pointer (some ⟨ar, 0, none⟩)] 175, slA 3 1 (.slice (some ⟨r, 0, none⟩) 1 rc) 1 [.int .i64 0]]) from St.ofNew HB4'.out h5); clear h5 HB4')
  have HFA := Lib.hid (fun (w' : World) (L : List Asr) (h : St w w' (L ++ [blkA c2 #[.pointer (some ⟨b, 0, none⟩)] 61, blkA c8 #[.pointer (some ⟨ar, 0, none⟩)] 175, slA 3 1 (.slice (some ⟨r, 0, none⟩) 1 rc) 1 [.int .i64 0]])) => (show w'.cell? ⟨c8, 0, none⟩ = some (.pointer (some ⟨ar, 0, none⟩)) ∧ w'.cell? ⟨c2, 0, none⟩ = some (.pointer (some ⟨b, 0, none⟩)) ∧ w'.cell? ⟨b, 0, none⟩ = some (.pointer (some ⟨p.eb, 0, none⟩)) ∧ w'.cell? ⟨p.eb, 0, none⟩ = some (.pointer (some ⟨p.e.ab, 0, none⟩)) ∧ w'.cell? ⟨r, 0, none⟩ = some (.int .i64 0) from by
    have h' := h.comm
    have hw := (HWK.out _ (Keep.ofSt h)).woC
    obtain ⟨_, he, _, _, hcl, _⟩ := h'.store 2 rfl (by decide)
    cases he
    exact ⟨by rw [(h'.blk 1 rfl).cell]; rfl, by rw [(h'.blk 0 rfl).cell]; rfl, hw.c0, hw.e0, hcl 0 (by decide)⟩))
  obtain ⟨f8, f2, fb, fe, _⟩ := HFA.out _ (arL ar [] [] ⟨none, 0, none, 0⟩) HB5.out.drew
  refine wp_region_M (r := 13) (S := fun w' => w'.cell? ⟨c8, 0, none⟩ = some (.pointer (some ⟨ar, 0, none⟩)) ∧ w'.cell? ⟨c2, 0, none⟩ = some (.pointer (some ⟨b, 0, none⟩)) ∧ w'.cell? ⟨b, 0, none⟩ = some (.pointer (some ⟨p.eb, 0, none⟩)) ∧ w'.cell? ⟨p.eb, 0, none⟩ = some (.pointer (some ⟨p.e.ab, 0, none⟩))) (by kernel_rfl) ?_ (fun hHeld => ?_)
  · (try dsimp only); (first | exact ⟨f8, f2, fb, fe⟩ | exact ⟨((Keep.refl _ Nope).alloc _).cell f8 (fun f => f), ((Keep.refl _ Nope).alloc _).cell f2 (fun f => f), ((Keep.refl _ Nope).alloc _).cell fb (fun f => f), ((Keep.refl _ Nope).alloc _).cell fe (fun f => f)⟩)
  refine tkH 0 ?_; refine tkH 1 ?_; refine tkP 2 ?_; refine tkP 3 ?_; refine tkP 4 ?_; refine tkH 5 ?_; refine tkP 6 ?_; refine tkP 7 ?_; refine tkP 8 ?_; refine tkH 9 ?_; refine tkC 10 ?_
  intro K hK
  go_simp
  go_wp2_with ((go_at_call 134; refine (HAM.out _ (Keep.ofSt HB5.out.drew)).mono ?_; rintro e w6 ⟨y0, rfl, hk6, hhib⟩; have f8 := hk6.cell f8 (fun f => f); have f2 := hk6.cell f2 (fun f => f); have fb := hk6.cell fb (fun f => f); have fe := hk6.cell fe (fun f => f); have HB6 := Lib.hid (St.toMid (P := arL ar [] [] ⟨none, 0, none, 0⟩) (HB5.out.drew.add hk6 hhib).first); have HSET := Lib.hid (ar_set HB6.out (by decide) (by decide) y0); unfold ptr at HSET; clear hk6 hhib))
  refine hK.out _ _ ?_ (fun hHeld => ?_)
  · (try dsimp only); (first | exact ⟨f8, f2, fb, fe⟩ | exact ⟨((Keep.refl _ Nope).alloc _).cell f8 (fun f => f), ((Keep.refl _ Nope).alloc _).cell f2 (fun f => f), ((Keep.refl _ Nope).alloc _).cell fb (fun f => f), ((Keep.refl _ Nope).alloc _).cell fe (fun f => f)⟩)
  clear hK K
  refine tkC 11 ?_
  intro K hK
  go_simp
  go_wp2_with ((go_at_call 132; refine HSET.out.mono ?_; rintro e w7 ⟨q1, g0, k0, rfl, h7⟩; have HB7 := Lib.hid h7; clear h7 HSET; obtain ⟨f8, f2, fb, fe, _⟩ := HFA.out _ (slA 3 1 (.slice (some ⟨g0, 0, none⟩) 1 k0) 1 (intsN [0]) :: (arL ar [⟨1, some ⟨g0, 0, none⟩, 1, k0⟩] [y0] q1 ++ [hibA y0 x.en.al.live])) HB7.out))
  refine hK.out _ _ ?_ (fun hHeld => ?_)
  · (try dsimp only); (first | exact ⟨f8, f2, fb, fe⟩ | exact ⟨((Keep.refl _ Nope).alloc _).cell f8 (fun f => f), ((Keep.refl _ Nope).alloc _).cell f2 (fun f => f), ((Keep.refl _ Nope).alloc _).cell fb (fun f => f), ((Keep.refl _ Nope).alloc _).cell fe (fun f => f)⟩)
  clear hK K
  refine tkC 12 ?_
  intro K hK
  go_simp
  refine hK.out _ _ ?_ (fun hHeld => ?_)
  · (try dsimp only); (first | exact ⟨f8, f2, fb, fe⟩ | exact ⟨((Keep.refl _ Nope).alloc _).cell f8 (fun f => f), ((Keep.refl _ Nope).alloc _).cell f2 (fun f => f), ((Keep.refl _ Nope).alloc _).cell fb (fun f => f), ((Keep.refl _ Nope).alloc _).cell fe (fun f => f)⟩)
  clear hK K
  refine tkF 13 ?_
  intro K hK
  go_simp
  refine hK.out _ _ ?_
  clear hK K
  refine wpAnyM_done (by kernel_rfl) ?_ _
  clear hHeld
  clear f8 f2 fb fe
  have HB8 := Lib.hid (St.toMid (P := arL ar [⟨1, some ⟨g0, 0, none⟩, 1, k0⟩] [y0] q1) ((HB7.out.toMid (P := arL ar [⟨1, some ⟨g0, 0, none⟩, 1, k0⟩] [y0] q1)).lit 3 1 1 #[.int .i64 0] (by decide) rfl).first)
  obtain ⟨a0, ha0⟩ : ∃ a, w7.heap.size = a := ⟨_, rfl⟩
  obtain ⟨w8, hw8⟩ : ∃ w8, w7.alloc (.cells #[.int .i64 0] 3) = w8 := ⟨_, rfl⟩
  rw [ha0, hw8] at HB8
  rw [ha0, hw8]
  clear ha0 hw8 HB7 HB6 HB5
  replace HB8 := Lib.hid (show St w w8 (arL ar [⟨1, some ⟨g0, 0, none⟩, 1, k0⟩] [y0] q1 ++ slA 3 1 (.slice (some ⟨a0, 0, none⟩) 1 1) 1 (intsN [0]) :: slA 3 1 (.slice (some ⟨g0, 0, none⟩) 1 k0) 1 (intsN [0]) :: hibA y0 x.en.al.live :: [blkA c2 #[.pointer (some ⟨b, 0, none⟩)] 61, blkA c8 #[.pointer (some ⟨ar, 0, none⟩)] 175, slA 3 1 (.slice (some ⟨r, 0, none⟩) 1 rc) 1 [.int .i64 0]]) from HB8.out)
  obtain ⟨f8, f2, fb, fe, fr⟩ := HFA.out _ (arL ar [⟨1, some ⟨g0, 0, none⟩, 1, k0⟩] [y0] q1 ++ [slA 3 1 (.slice (some ⟨a0, 0, none⟩) 1 1) 1 (intsN [0]), slA 3 1 (.slice (some ⟨g0, 0, none⟩) 1 k0) 1 (intsN [0]), hibA y0 x.en.al.live]) HB8.out
  have HCL := Lib.hid (show Calls Tryz.prog 131 #[.int .i64 0, .pointer (some ⟨c2, 0, none⟩), .pointer (some ⟨c8, 0, none⟩)] w8 (fun e w' => ∃ y, RetSet w (hibA y s.m :: slA 3 1 (.slice (some ⟨a0, 0, none⟩) 1 1) 1 (intsN [0]) :: slA 3 1 (.slice (some ⟨g0, 0, none⟩) 1 k0) 1 (intsN [0]) :: hibA y0 x.en.al.live :: [blkA c2 #[.pointer (some ⟨b, 0, none⟩)] 61, blkA c8 #[.pointer (some ⟨ar, 0, none⟩)] 175, slA 3 1 (.slice (some ⟨r, 0, none⟩) 1 rc) 1 [.int .i64 0]]) ar [⟨1, some ⟨g0, 0, none⟩, 1, k0⟩] 1 [y0] y e w') from HMB.out w8 ar _ _ _ _ HB8.out (by simp) (by simp) c2 c8 f2 f8)
  go_wp2_with fail
  refine wp_loop_rounds 2 ?_
  rw [rounds_succ]
  go_wp2_with (first
    | (go_at_call 131; refine HCL.out.mono ?_; rintro e w9 ⟨y1, q2, g1, k1, rfl, h9⟩; have HB9 := Lib.hid (show St w w9 (slA 3 1 (.slice (some ⟨g1, 0, none⟩) 1 k1) 1 (intsN [1]) :: (arL ar [⟨1, some ⟨g0, 0, none⟩, 1, k0⟩, ⟨1, some ⟨g1, 0, none⟩, 1, k1⟩] [y0, y1] q2 ++ hibA y1 s.m :: slA 3 1 (.slice (some ⟨a0, 0, none⟩) 1 1) 1 (intsN [0]) :: slA 3 1 (.slice (some ⟨g0, 0, none⟩) 1 k0) 1 (intsN [0]) :: hibA y0 x.en.al.live :: [blkA c2 #[.pointer (some ⟨b, 0, none⟩)] 61, blkA c8 #[.pointer (some ⟨ar, 0, none⟩)] 175, slA 3 1 (.slice (some ⟨r, 0, none⟩) 1 rc) 1 [.int .i64 0]])) from h9); clear h9 HCL HB8 f8 f2 fb fe fr; obtain ⟨G, hown, _, hup, _⟩ := HB9.out.opens 5 rfl; have HOwn := Lib.hid (show Own G w9 3 1 (.slice (some ⟨a0, 0, none⟩) 1 1) 1 (intsN [0]) from hown); have HUP := Lib.hid hup; clear hown hup)
    | (at_builtin; go_loud (refine wpList_app (P := Tryz.prog) slIn rfl _ _ rfl (S := G) (S2 := fun z => z = w9.heap.size) (n := 1) (xs := intsN [0]) (m := 1) (news := [.int .i64 1]) rfl rfl ?_ (Own.lit (S := fun z => z = w9.heap.size) w9 3 1 1 #[.int .i64 1] (by decide) rfl rfl).rd rfl (by intro u hu; simp at hu; rcases hu with rfl | rfl <;> rfl) (by omega) (by unfold maxLen; omega) ?_; (· exact HOwn.out.keep (T := Nope) ((Keep.refl w9 Nope).alloc _) (fun _ _ f => f)); rintro a2 kk k2 w10 happ; obtain ⟨z1, z2⟩ := app_up (wr := w9) ((Keep.refl w9 Nope).alloc _) happ; obtain rfl := happ.num; have h5 := HUP.out w10 _ z1 z2; have HB10 := Lib.hid (St.toMid (P := arL ar [⟨1, some ⟨g0, 0, none⟩, 1, k0⟩, ⟨1, some ⟨g1, 0, none⟩, 1, k1⟩] [y0, y1] q2) (R := hibA y1 s.m :: slA 3 1 (.slice a2 2 k2) 2 (intsN [0, 1]) :: slA 3 1 (.slice (some ⟨g0, 0, none⟩) 1 k0) 1 (intsN [0]) :: hibA y0 x.en.al.live :: [blkA c2 #[.pointer (some ⟨b, 0, none⟩)] 61, blkA c8 #[.pointer (some ⟨ar, 0, none⟩)] 175, slA 3 1 (.slice (some ⟨r, 0, none⟩) 1 rc) 1 [.int .i64 0]]) h5); clear happ z1 z2 h5)))
  rw [rounds_succ]
  go_wp2_with fail
  refine wp_loop_rounds 1 ?_
  rw [rounds_succ]
  go_wp2_with fail
  obtain ⟨f8, f2, fb, fe, fr⟩ := HFA.out _ (arL ar [⟨1, some ⟨g0, 0, none⟩, 1, k0⟩, ⟨1, some ⟨g1, 0, none⟩, 1, k1⟩] [y0, y1] q2 ++ [slA 3 1 (.slice (some ⟨g1, 0, none⟩) 1 k1) 1 (intsN [1]), hibA y1 s.m, slA 3 1 (.slice a2 2 k2) 2 (intsN [0, 1]), slA 3 1 (.slice (some ⟨g0, 0, none⟩) 1 k0) 1 (intsN [0]), hibA y0 x.en.al.live]) HB10.out.drew
  have HOR := Lib.hid (ar_or HB10.out.drew (by simp) [] (fun k hk => by simp at hk) (by simp) (.slice none 0 0) (fun _ => False) (Own.rd (Own.nil (fun _ => False) w10.drew 3 1)))
  clear fb fe fr
  unfold ptr at HOR
  refine wp_region_M (r := 8) (S := fun w' => w'.cell? ⟨c8, 0, none⟩ = some (.pointer (some ⟨ar, 0, none⟩))) (by kernel_rfl) ?_ (fun hHeld => ?_)
  · (try dsimp only); (first | exact f8 | exact ((Keep.refl _ Nope).alloc _).cell f8 (fun f => f))
  refine tkP 0 ?_; refine tkH 1 ?_; refine tkH 2 ?_; refine tkP 3 ?_; refine tkC 4 ?_
  intro K hK
  go_simp
  go_wp2_with ((go_at_call 136; refine HOR.out.mono ?_; rintro e w11 ⟨q3, oa, oc, rfl, hoa, h11⟩; obtain ⟨rfl, rfl⟩ := hoa rfl; have HB11 := Lib.hid (show St w w11 (arL ar [⟨1, some ⟨g0, 0, none⟩, 1, k0⟩, ⟨1, some ⟨g1, 0, none⟩, 1, k1⟩, ⟨3, none, 0, 0⟩] [y0, y1] q3 ++ slA 3 1 (.slice (some ⟨g1, 0, none⟩) 1 k1) 1 (intsN [1]) :: hibA y1 s.m :: slA 3 1 (.slice a2 2 k2) 2 (intsN [0, 1]) :: slA 3 1 (.slice (some ⟨g0, 0, none⟩) 1 k0) 1 (intsN [0]) :: hibA y0 x.en.al.live :: [blkA c2 #[.pointer (some ⟨b, 0, none⟩)] 61, blkA c8 #[.pointer (some ⟨ar, 0, none⟩)] 175, slA 3 1 (.slice (some ⟨r, 0, none⟩) 1 rc) 1 [.int .i64 0]]) from h11.rest); clear h11 hoa HOR; obtain ⟨f8, _⟩ := HFA.out _ (arL ar [⟨1, some ⟨g0, 0, none⟩, 1, k0⟩, ⟨1, some ⟨g1, 0, none⟩, 1, k1⟩, ⟨3, none, 0, 0⟩] [y0, y1] q3 ++ [slA 3 1 (.slice (some ⟨g1, 0, none⟩) 1 k1) 1 (intsN [1]), hibA y1 s.m, slA 3 1 (.slice a2 2 k2) 2 (intsN [0, 1]), slA 3 1 (.slice (some ⟨g0, 0, none⟩) 1 k0) 1 (intsN [0]), hibA y0 x.en.al.live]) HB11.out; have HNT := Lib.hid (ar_not HB11.out (by simp) 2 (by simp)); unfold ptr at HNT))
  refine hK.out _ _ ?_ (fun hHeld => ?_)
  · (try dsimp only); (first | exact f8 | exact ((Keep.refl _ Nope).alloc _).cell f8 (fun f => f))
  clear hK K
  refine tkC 5 ?_
  intro K hK
  go_simp
  go_wp2_with ((go_at_call 135; refine HNT.out.mono ?_; rintro e w12 ⟨q4, g3, k3, rfl, h12⟩; have HB12 := Lib.hid (show St w w12 (slA 3 1 (.slice (some ⟨g3, 0, none⟩) 1 k3) 1 (intsN [2]) :: (arL ar [⟨1, some ⟨g0, 0, none⟩, 1, k0⟩, ⟨1, some ⟨g1, 0, none⟩, 1, k1⟩, ⟨3, none, 0, 0⟩, ⟨5, some ⟨g3, 0, none⟩, 1, k3⟩] [y0, y1] q4 ++ slA 3 1 (.slice (some ⟨g1, 0, none⟩) 1 k1) 1 (intsN [1]) :: hibA y1 s.m :: slA 3 1 (.slice a2 2 k2) 2 (intsN [0, 1]) :: slA 3 1 (.slice (some ⟨g0, 0, none⟩) 1 k0) 1 (intsN [0]) :: hibA y0 x.en.al.live :: [blkA c2 #[.pointer (some ⟨b, 0, none⟩)] 61, blkA c8 #[.pointer (some ⟨ar, 0, none⟩)] 175, slA 3 1 (.slice (some ⟨r, 0, none⟩) 1 rc) 1 [.int .i64 0]])) from h12); clear h12 HNT; obtain ⟨f8, _⟩ := HFA.out _ (slA 3 1 (.slice (some ⟨g3, 0, none⟩) 1 k3) 1 (intsN [2]) :: (arL ar [⟨1, some ⟨g0, 0, none⟩, 1, k0⟩, ⟨1, some ⟨g1, 0, none⟩, 1, k1⟩, ⟨3, none, 0, 0⟩, ⟨5, some ⟨g3, 0, none⟩, 1, k3⟩] [y0, y1] q4 ++ [slA 3 1 (.slice (some ⟨g1, 0, none⟩) 1 k1) 1 (intsN [1]), hibA y1 s.m, slA 3 1 (.slice a2 2 k2) 2 (intsN [0, 1]), slA 3 1 (.slice (some ⟨g0, 0, none⟩) 1 k0) 1 (intsN [0]), hibA y0 x.en.al.live])) HB12.out; obtain ⟨G, hown, _, hup, _⟩ := HB12.out.opens 6 rfl; have HOwn := Lib.hid (show Own G w12 3 1 (.slice a2 2 k2) 2 (intsN [0, 1]) from hown); have HUP := Lib.hid hup; clear hown hup))
  refine hK.out _ _ ?_ (fun hHeld => ?_)
  · (try dsimp only); (first | exact f8 | exact ((Keep.refl _ Nope).alloc _).cell f8 (fun f => f))
  clear hK K
  refine tkC 6 ?_
  intro K hK
  go_simp
  refine hK.out _ _ ?_ (fun hHeld => ?_)
  · (try dsimp only); (first | exact f8 | exact ((Keep.refl _ Nope).alloc _).cell f8 (fun f => f))
  clear hK K
  refine tkC 7 ?_
  intro K hK
  rw [if_pos (by rfl)]
  (refine step_app (P := Tryz.prog) slIn _ _ rfl (S := G) (S2 := fun z => z = w12.heap.size) (n := 2) (xs := intsN [0, 1]) (m := 1) (news := [.int .i64 3]) rfl rfl ?_ (Own.lit (S := fun z => z = w12.heap.size) w12 3 1 1 #[.int .i64 3] (by decide) rfl rfl).rd rfl (by intro u hu; simp at hu; rcases hu with rfl | rfl <;> rfl) (by omega) (by unfold maxLen; omega) ?_; (· exact HOwn.out.keep (T := Nope) ((Keep.refl w12 Nope).alloc _) (fun _ _ f => f)); intro a3 kk k6 w13 happ; obtain ⟨z1, z2⟩ := app_up (wr := w12) ((Keep.refl w12 Nope).alloc _) happ; obtain rfl := happ.num; have h5 := HUP.out w13 _ z1 z2; have HB13 := Lib.hid (St.toMid (P := arL ar [⟨1, some ⟨g0, 0, none⟩, 1, k0⟩, ⟨1, some ⟨g1, 0, none⟩, 1, k1⟩, ⟨3, none, 0, 0⟩, ⟨5, some ⟨g3, 0, none⟩, 1, k3⟩] [y0, y1] q4) (R := slA 3 1 (.slice (some ⟨g1, 0, none⟩) 1 k1) 1 (intsN [1]) :: hibA y1 s.m :: slA 3 1 (.slice a3 3 k6) 3 (intsN [0, 1, 3]) :: slA 3 1 (.slice (some ⟨g0, 0, none⟩) 1 k0) 1 (intsN [0]) :: hibA y0 x.en.al.live :: [blkA c2 #[.pointer (some ⟨b, 0, none⟩)] 61, blkA c8 #[.pointer (some ⟨ar, 0, none⟩)] 175, slA 3 1 (.slice (some ⟨r, 0, none⟩) 1 rc) 1 [.int .i64 0]]) h5); obtain ⟨f8, _⟩ := HFA.out _ (arL ar [⟨1, some ⟨g0, 0, none⟩, 1, k0⟩, ⟨1, some ⟨g1, 0, none⟩, 1, k1⟩, ⟨3, none, 0, 0⟩, ⟨5, some ⟨g3, 0, none⟩, 1, k3⟩] [y0, y1] q4 ++ [slA 3 1 (.slice (some ⟨g3, 0, none⟩) 1 k3) 1 (intsN [2]), slA 3 1 (.slice (some ⟨g1, 0, none⟩) 1 k1) 1 (intsN [1]), hibA y1 s.m, slA 3 1 (.slice a3 3 k6) 3 (intsN [0, 1, 3]), slA 3 1 (.slice (some ⟨g0, 0, none⟩) 1 k0) 1 (intsN [0]), hibA y0 x.en.al.live]) HB13.out; clear happ z1 z2 h5)
  refine hK.out _ _ ?_ (fun hHeld => ?_)
  · (try dsimp only); (first | exact f8 | exact ((Keep.refl _ Nope).alloc _).cell f8 (fun f => f))
  clear hK K
  (try simp only [List.getElem_toArray, List.getElem_cons_succ, List.getElem_cons_zero, Act.put, List.setIfInBounds_toArray, List.set_cons_zero, List.set_cons_succ])
  refine tkF 8 ?_
  intro K hK
  go_simp
  refine hK.out _ _ ?_
  clear hK K
  refine wpAnyM_done (by kernel_rfl) ?_ _
  clear hHeld f8
  go_wp2_with fail
  obtain ⟨f8, _⟩ := HFA.out _ (arL ar [⟨1, some ⟨g0, 0, none⟩, 1, k0⟩, ⟨1, some ⟨g1, 0, none⟩, 1, k1⟩, ⟨3, none, 0, 0⟩, ⟨5, some ⟨g3, 0, none⟩, 1, k3⟩] [y0, y1] q4 ++ [slA 3 1 (.slice (some ⟨g3, 0, none⟩) 1 k3) 1 (intsN [2]), slA 3 1 (.slice (some ⟨g1, 0, none⟩) 1 k1) 1 (intsN [1]), hibA y1 s.m, slA 3 1 (.slice a3 3 k6) 3 (intsN [0, 1, 3]), slA 3 1 (.slice (some ⟨g0, 0, none⟩) 1 k0) 1 (intsN [0]), hibA y0 x.en.al.live]) HB13.out.drew
  obtain ⟨GA, _, hra, _⟩ := HB13.out.drew.rd 6 rfl
  have HAND := Lib.hid (ar_and HB13.out.drew (by simp) [0, 1, 3] (fun k hk => by simp at hk; rcases hk with rfl | rfl | rfl <;> simp) (by simp) _ GA hra)
  clear hra
  unfold ptr at HAND
  refine wp_region_M (r := 5) (S := fun w' => w'.cell? ⟨c8, 0, none⟩ = some (.pointer (some ⟨ar, 0, none⟩))) (by kernel_rfl) ?_ (fun hHeld => ?_)
  · (try dsimp only); exact f8
  refine tkH 0 ?_; refine tkH 1 ?_; refine tkP 2 ?_; refine tkC 3 ?_
  intro K hK
  go_simp
  go_wp2_with ((go_at_call 137; refine HAND.out.mono ?_; rintro e w14 ⟨q5, a4, k4, rfl, _, h14⟩; obtain ⟨g4, rfl, _⟩ := h14.store 0 rfl (by simp); have HB14 := Lib.hid (show St w w14 (slA 3 1 (.slice (some ⟨g4, 0, none⟩) 3 k4) 3 (intsN [0, 1, 3]) :: (arL ar [⟨1, some ⟨g0, 0, none⟩, 1, k0⟩, ⟨1, some ⟨g1, 0, none⟩, 1, k1⟩, ⟨3, none, 0, 0⟩, ⟨5, some ⟨g3, 0, none⟩, 1, k3⟩, ⟨2, some ⟨g4, 0, none⟩, 3, k4⟩] [y0, y1] q5 ++ (slA 3 1 (.slice (some ⟨g3, 0, none⟩) 1 k3) 1 (intsN [2]) :: slA 3 1 (.slice (some ⟨g1, 0, none⟩) 1 k1) 1 (intsN [1]) :: hibA y1 s.m :: slA 3 1 (.slice a3 3 k6) 3 (intsN [0, 1, 3]) :: slA 3 1 (.slice (some ⟨g0, 0, none⟩) 1 k0) 1 (intsN [0]) :: hibA y0 x.en.al.live :: [blkA c2 #[.pointer (some ⟨b, 0, none⟩)] 61, blkA c8 #[.pointer (some ⟨ar, 0, none⟩)] 175, slA 3 1 (.slice (some ⟨r, 0, none⟩) 1 rc) 1 [.int .i64 0]]))) from h14); clear h14 HAND; obtain ⟨f8, _⟩ := HFA.out _ (slA 3 1 (.slice (some ⟨g4, 0, none⟩) 3 k4) 3 (intsN [0, 1, 3]) :: (arL ar [⟨1, some ⟨g0, 0, none⟩, 1, k0⟩, ⟨1, some ⟨g1, 0, none⟩, 1, k1⟩, ⟨3, none, 0, 0⟩, ⟨5, some ⟨g3, 0, none⟩, 1, k3⟩, ⟨2, some ⟨g4, 0, none⟩, 3, k4⟩] [y0, y1] q5 ++ [slA 3 1 (.slice (some ⟨g3, 0, none⟩) 1 k3) 1 (intsN [2]), slA 3 1 (.slice (some ⟨g1, 0, none⟩) 1 k1) 1 (intsN [1]), hibA y1 s.m, slA 3 1 (.slice a3 3 k6) 3 (intsN [0, 1, 3]), slA 3 1 (.slice (some ⟨g0, 0, none⟩) 1 k0) 1 (intsN [0]), hibA y0 x.en.al.live])) HB14.out))
  refine hK.out _ _ ?_ (fun hHeld => ?_)
  · (try dsimp only); exact f8
  clear hK K
  refine tkP 4 ?_; refine tkF 5 ?_
  intro K hK
  go_simp
  refine hK.out _ _ ?_
  clear hK K
  refine tkP 6 ?_
  refine wpAnyM_done (by kernel_rfl) ?_ _
  clear hHeld f8
  have HF := Lib.hid (arR_of HB14.out HC.out.1.l64 HC.out.2.2)
  have HKF := Lib.hid (Keep.ofSt HB14.out)
  go_wp2_with fail
  refine bodyPost_ret (v := .tuple #[.pointer (some ⟨ar, 0, none⟩), .int .i64 4, .int .i64 0]) (by simp [results, Tryz.results69, go_sem]) rfl ?_
  obtain ⟨pf, hpf⟩ := HF.out
  exact ⟨ar, pf, rfl, hpf, HKF.out⟩
end Go.Proofs.YtkiikblpgppmkaaGreatDoor

namespace Go.Proofs.YtkiikblpgppmkaaGreatDoor
open Go Go.RowKit
set_option linter.unusedVariables false
set_option linter.unusedSimpArgs false

def RetRows (w : World) (m : Nat) (e : Ending) (w' : World) : Prop := ∃ a c, e = .returned (.tuple #[.slice a (listW m).length c, .int .i64 0]) ∧ St w w' [slA 3 1 (.slice a (listW m).length c) (listW m).length (intsN (listW m))]
set_option maxRecDepth 100000 in
set_option maxHeartbeats 1000000 in
theorem rows_of1 {w0 w : World} {Rw : List Asr} {b : Nat} {x : WoS} {p : WoB} (HW : St w0 w (woL b x p ++ Rw)) (hT : Tab w) (hx : x.en.al.Ok) (hl : x.en.sl.length ≤ 64) (s : SlS) (hc : x.en.sl[0]? = some s) (hm : s.m < 2 ^ 64) (g o c : Nat) (hcm : c ≤ maxLen) (h0 : w.cell? ⟨g, o, none⟩ = some (.int .i64 1)) (h1 : w.cell? ⟨g, o + 1, none⟩ = some (.int .i64 0)) :
    Calls Tryz.prog 26 #[ptr b, .slice (some ⟨g, o, none⟩) 1 c] w (RetRows w (x.en.al.live &&& s.m)) := by
  have HB := Lib.hid (bld HW hx hl s hc hm g o c hcm h0 h1)
  have HT := Lib.hid hT
  clear HW hT hx hl hc hm hcm h0 h1
  obtain ⟨m0, e0⟩ : ∃ m, x.en.al.live = m := ⟨_, rfl⟩
  obtain ⟨m1, e1⟩ : ∃ m, s.m = m := ⟨_, rfl⟩
  rw [e0, e1] at HB ⊢
  clear e0 e1
  unfold ptr at *
  go_enter Tryz.func26, Tryz.ntmps26
  go_upto_region 4 with (go_at_call 69; refine HB.out.mono ?_; rintro e w1 ⟨ar, pa, rfl, hA, hk⟩; have HK := Lib.hid hk; have HL := Lib.hid (sc_list hA (HT.out.keep hk (fun f => f))); clear hA hk HB)
  unfold ptr at *
  go_wp2_with (go_at_call 70; refine HL.out.mono ?_; rintro e w2 ⟨a, ca, rfl, h2⟩; have H2 := Lib.hid (St.ofNew ((St.start w).keep HK.out) h2); clear h2)
  go_ret2
  exact ⟨a, ca, rfl, H2.out⟩
end Go.Proofs.YtkiikblpgppmkaaGreatDoor

namespace Go.Proofs.YtkiikblpgppmkaaGreatDoor
open Go Go.RowKit
set_option linter.unusedVariables false
set_option linter.unusedSimpArgs false

/-- A script over a world, that answered l. -/
def scCs (b : Nat) (a : Option Addr) (n c : Nat) : Array Value := #[.pointer (some ⟨b, 0, none⟩), .slice a n c, .pointer none]
structure ScP where
  wb : Nat
  wp : WoB
  a : Option Addr
  c : Nat
def scL (s : Nat) (x : WoS) (l : List HdV) (p : ScP) : List Asr := blkA s (scCs p.wb p.a l.length p.c) 226 :: slA 45 2 (.slice p.a l.length p.c) l.length (flatHd l) :: woL p.wb x p.wp
set_option maxRecDepth 100000 in
set_option maxHeartbeats 1000000 in
theorem scr_new {w0 w : World} {L : List Asr} (H : St w0 w L) (n top : Nat) (h1 : 1 ≤ n) (h2 : n ≤ 64) (h3 : 1 ≤ top) (h4 : top < 4294967296) (ds : List DescV) (hds : ∀ d, d ∈ ds → d.Ok) (hdl : ds.length ≤ 64) (v : Value) (hv : ReadIn w0 L v ds.length (flatDesc ds)) (f : Nat → VV) :
    Calls Tryz.prog 38 #[.agg #[.int .i64 (n : Nat), .int .i64 (top : Nat), v, .slice none 0 0]] w (fun e w' => ∃ s, e = .returned (.tuple #[ptr s, .int .i64 0]) ∧ ∃ p, St w0 w' (scL s (newWo n top ds f []) [] p ++ L)) := by
  obtain ⟨S0, hr0⟩ := hv w [] H
  obtain ⟨va, vc, rfl, _, _, _, _⟩ := id hr0
  have HN := Lib.hid (wo_new (H.alloc (.cells #[.int .i64 (n : Nat), .int .i64 (top : Nat), .slice va ds.length vc, .slice none 0 0] 27)) n top h1 h2 h3 h4 ds hds hdl _ hv f [] (.slice none 0 0) ReadIn.none)
  obtain ⟨dl, hdl'⟩ : ∃ dl, ds.length = dl := ⟨_, rfl⟩
  rw [hdl'] at HN ⊢
  clear H hv hr0 hds hdl hdl' h1 h2 h3 h4
  unfold ptr at *
  go_enter Tryz.func38, Tryz.ntmps38
  go_wp2_with (go_at_call 32; refine HN.out.mono ?_; rintro e w1 ⟨b, rfl, h1⟩; have H1 := Lib.hid h1.first; clear h1 HN)
  obtain ⟨wp, hw⟩ := H1.out.exTop
  have h2 := (hw.box0 #[.pointer (some ⟨b, 0, none⟩), .slice none 0 0, .pointer none] 226)
  have h3 := (h2.add (Keep.refl _ _) (A := slA 45 2 (.slice none 0 0) 0 []) (Own.nil _ _ _ _)).first
  have HF := Lib.hid (St.sel (P := [_, _]) (P' := [blkA w1.heap.size #[.pointer (some ⟨b, 0, none⟩), .slice none 0 0, .pointer none] 226, slA 45 2 (.slice none 0 0) 0 []]) [1, 0] h3 (by decide) rfl rfl)
  go_ret2
  exact ⟨w1.heap.size, rfl, ⟨b, wp, none, 0⟩, HF.out⟩
end Go.Proofs.YtkiikblpgppmkaaGreatDoor

namespace Go.Proofs.YtkiikblpgppmkaaGreatDoor
open Go Go.RowKit
set_option linter.unusedVariables false
set_option linter.unusedSimpArgs false

structure RepV where
  e : Int
  hi : Int
  hg : Int
  vk : Int
  va : Int
  vb : Int
  fl : Bool
  n : Int
  la : Option Addr
  ln : Nat
  lc : Nat
def RepV.cells (r : RepV) : List Value := [.int .i64 r.e, .int .i64 r.hi, .int .i64 r.hg, .int .i64 r.vk, .int .i64 r.va, .int .i64 r.vb, .bool r.fl, .int .i64 r.n, .slice r.la r.ln r.lc, .slice none 0 0, .int .i64 0, .int .i64 0, .slice none 0 0, .slice none 0 0, .int .i64 0, .int .i64 0, .int .i64 0, .slice none 0 0, .int .i64 0, .bool false, .int .i64 0, .int .i64 0, .int .i64 0]
def RepV.cs (r : RepV) : Array Value := #[.int .i64 r.e, .int .i64 r.hi, .int .i64 r.hg, .int .i64 r.vk, .int .i64 r.va, .int .i64 r.vb, .bool r.fl, .int .i64 r.n, .slice r.la r.ln r.lc, .slice none 0 0, .int .i64 0, .int .i64 0, .slice none 0 0, .slice none 0 0, .int .i64 0, .int .i64 0, .int .i64 0, .slice none 0 0, .int .i64 0, .bool false, .int .i64 0, .int .i64 0, .int .i64 0]
def RepV.val (r : RepV) : Value := .agg r.cs
def RepV.zero : RepV := ⟨0, 0, 0, 0, 0, 0, false, 0, none, 0, 0⟩
theorem RepV.one (r : RepV) : ∀ v ∈ r.cells, v.oneCell' = true := List.all_eq_true.1 (show (r.cells.all (·.oneCell')) = true from rfl)
def repA (b : Nat) (r : RepV) : Asr := blkA b r.cs 57
theorem Blk.rep {w : World} {b : Nat} {r : RepV} (h : Blk w b r.cs 57) : w.cell? ⟨b, 0, none⟩ = some (.int .i64 r.e) ∧ w.cell? ⟨b, 1, none⟩ = some (.int .i64 r.hi) ∧ w.cell? ⟨b, 2, none⟩ = some (.int .i64 r.hg) ∧ w.cell? ⟨b, 3, none⟩ = some (.int .i64 r.vk) ∧ w.cell? ⟨b, 4, none⟩ = some (.int .i64 r.va) ∧ w.cell? ⟨b, 5, none⟩ = some (.int .i64 r.vb) ∧ w.cell? ⟨b, 6, none⟩ = some (.bool r.fl) ∧ w.cell? ⟨b, 7, none⟩ = some (.int .i64 r.n) ∧ w.cell? ⟨b, 8, none⟩ = some (.slice r.la r.ln r.lc) ∧ w.cell? ⟨b, 9, none⟩ = some (.slice none 0 0) ∧ w.cell? ⟨b, 10, none⟩ = some (.int .i64 0) ∧ w.cell? ⟨b, 11, none⟩ = some (.int .i64 0) ∧ w.cell? ⟨b, 12, none⟩ = some (.slice none 0 0) ∧ w.cell? ⟨b, 13, none⟩ = some (.slice none 0 0) ∧ w.cell? ⟨b, 14, none⟩ = some (.int .i64 0) ∧ w.cell? ⟨b, 15, none⟩ = some (.int .i64 0) ∧ w.cell? ⟨b, 16, none⟩ = some (.int .i64 0) ∧ w.cell? ⟨b, 17, none⟩ = some (.slice none 0 0) ∧ w.cell? ⟨b, 18, none⟩ = some (.int .i64 0) ∧ w.cell? ⟨b, 19, none⟩ = some (.bool false) ∧ w.cell? ⟨b, 20, none⟩ = some (.int .i64 0) ∧ w.cell? ⟨b, 21, none⟩ = some (.int .i64 0) ∧ w.cell? ⟨b, 22, none⟩ = some (.int .i64 0) :=
  ⟨by rw [h.cell]; rfl, by rw [h.cell]; rfl, by rw [h.cell]; rfl, by rw [h.cell]; rfl, by rw [h.cell]; rfl, by rw [h.cell]; rfl, by rw [h.cell]; rfl, by rw [h.cell]; rfl, by rw [h.cell]; rfl, by rw [h.cell]; rfl, by rw [h.cell]; rfl, by rw [h.cell]; rfl, by rw [h.cell]; rfl, by rw [h.cell]; rfl, by rw [h.cell]; rfl, by rw [h.cell]; rfl, by rw [h.cell]; rfl, by rw [h.cell]; rfl, by rw [h.cell]; rfl, by rw [h.cell]; rfl, by rw [h.cell]; rfl, by rw [h.cell]; rfl, by rw [h.cell]; rfl⟩
def stAll (b : Nat) : Nat → List Value → World → World
  | _, [], w => w
  | i, v :: vs, w => stAll b (i + 1) vs (w.setCell ⟨b, i, none⟩ v)
theorem St.writeAll {w0 : World} {L : List Asr} {b : Nat} {t : TypeId} : ∀ (vs : List Value) (i : Nat) (cs : Array Value) (w : World), St w0 w (blkA b cs t :: L) → i + vs.length = cs.size → St w0 (stAll b i vs w) (blkA b (cs.toList.take i ++ vs).toArray t :: L)
  | [], i, cs, w, h, hl => by
    have e : cs.toList.take i ++ [] = cs.toList := by rw [List.append_nil, List.take_of_length_le (by simp at hl ⊢; omega)]
    rw [e, Array.toArray_toList]
    exact h
  | v :: vs, i, cs, w, h, hl => by
    have h2 : St w0 (w.setCell ⟨b, i, none⟩ v) (blkA b (cs.setIfInBounds i v) t :: L) := h.write 0 rfl i v
    have h3 := St.writeAll vs (i + 1) (cs.setIfInBounds i v) _ h2 (by simp at hl ⊢; omega)
    have e : (cs.setIfInBounds i v).toList.take (i + 1) ++ vs = cs.toList.take i ++ v :: vs := by
      rw [Array.toList_setIfInBounds, List.take_add_one, List.getElem?_set_self (by simp at hl ⊢; omega), List.take_set_of_le (Nat.le_refl i), List.append_assoc]
      rfl
    rw [e] at h3
    exact h3
end Go.Proofs.YtkiikblpgppmkaaGreatDoor

namespace Go.Proofs.YtkiikblpgppmkaaGreatDoor
open Go Go.RowKit
set_option linter.unusedVariables false
set_option linter.unusedSimpArgs false

theorem step_move {P : Program} {o : Oper} {a : Act} {w : World} {K : Act → World → Prop} {Q : Exit → Act → World → Prop} (x : Operand) (ho : o.op = .move x) (h : K (a.put o.dst (a.eval x)) w) : Oper.wp P o a w K Q := by
  unfold Oper.wp execOp
  simp only [ho, Sem.run_bind, Sem.run_pure, Result.andThen_ok]
  exact h
theorem wpList_move {P : Program} {ops : Array Oper} {rest : List Oper} {o : Oper} {a : Act} {w : World} {Q : Exit → Act → World → Prop} (hg : o.guard = none) (x : Operand) (ho : o.op = .move x)
    (h : wpList P ops Q rest (a.put o.dst (a.eval x)) w) : wpList P ops Q (o :: rest) a w := wpList_plain hg fun _ hK => step_move x ho (hK _ _ h)
/-- A call, as one operation. -/
theorem step_call {P : Program} {o : Oper} {a : Act} {w : World} {K : Act → World → Prop} {Q : Exit → Act → World → Prop} {f : FuncId} {args : Array Value} {R : Ending → World → Prop} (hx : (execOp a.eval o).run P w = .ok (.enter f args) w) (hc : Calls P f args w R)
    (h : ∀ e w', R e w' → ∃ v, e = .returned v ∧ K (a.put o.dst v) w') : Oper.wp P o a w K Q := by
  unfold Oper.wp
  rw [hx]
  refine hc.mono ?_
  intro e w' hr
  obtain ⟨v, rfl, hk⟩ := h e w' hr
  exact hk
theorem wpList_call {P : Program} {ops : Array Oper} {rest : List Oper} {o : Oper} {a : Act} {w : World} {Q : Exit → Act → World → Prop} (hg : o.guard = none) {f : FuncId} {args : Array Value} {R : Ending → World → Prop} (hx : (execOp a.eval o).run P w = .ok (.enter f args) w) (hc : Calls P f args w R)
    (h : ∀ e w', R e w' → ∃ v, e = .returned v ∧ wpList P ops Q rest (a.put o.dst v) w') : wpList P ops Q (o :: rest) a w :=
  wpList_plain hg fun _ hK => step_call hx hc fun e w' hr => (h e w' hr).imp fun _ hv => ⟨hv.1, hK _ _ hv.2⟩
/-- A result that is a struct in a cell: the whole row is read. -/
theorem results_row {P : Program} {fn : Func} {i : Nat} {t : TypeId} {d : TypeDesc} {tmps : Array Value} {w : World} {b : Nat} {cs : Array Value} {t' : TypeId} (h : fn.results = #[.cell i t]) (hx : tmps.getD i undef = .pointer (some ⟨b, 0, none⟩)) (hb : Blk w b cs t')
    (hu : P.underlying t = some d) (hd : d.isRow = true) (hi : (P.info? t).map (·.size) = some cs.size) : (results fn tmps).run P w = .ok (.agg cs) w := by
  have hl := run_loadVar_mid (P := P) w b 0 t cs.toList d (fun j v hv => by rw [Nat.zero_add, hb.cell]; simpa using hv) hu hd (by simpa using hi)
  have hx' : tmps[i]?.getD undef = .pointer (some ⟨b, 0, none⟩) := by simpa using hx
  simp [results, h, hx', asAddr, hl]
theorem results_rep {fn : Func} {i : Nat} {tmps : Array Value} {w : World} {b : Nat} {r : RepV} (h : fn.results = #[.cell i 57]) (hx : tmps.getD i undef = .pointer (some ⟨b, 0, none⟩)) (hb : Blk w b r.cs 57) : (results fn tmps).run Tryz.prog w = .ok r.val w :=
  results_row h hx hb Tryz.underlying57 rfl (by kernel_rfl)
def RetScr (w0 : World) (L : List Asr) (s : Nat) (x : WoS) (l : List HdV) (r : RepV) (e : Ending) (w' : World) : Prop := ∃ p, e = .returned r.val ∧ St w0 w' (scL s x l p ++ L)
set_option maxRecDepth 100000 in
set_option maxHeartbeats 2000000 in
theorem scr_told {w0 w : World} {L : List Asr} {s : Nat} {x : WoS} {l : List HdV} {p : ScP} (H : St w0 w (scL s x l p ++ L)) (hn : l.length ≤ 1000) (i g : Int) :
    Calls Tryz.prog 228 #[ptr s, hdV i g, .int .i64 0] w (RetScr w0 L s x (l ++ [⟨i, g⟩]) ⟨0, i, g, 0, 0, 0, false, 0, none, 0, 0⟩) := by
  obtain ⟨wb, wp, a, c⟩ := p
  have HB := Lib.hid (show St w0 ((w.alloc (.cells #[.int .i64 i, .int .i64 g] 45)).alloc (.cells RepV.zero.cs 57)) (repA (w.heap.size + 1) RepV.zero :: blkA w.heap.size #[.int .i64 i, .int .i64 g] 45 :: (scL s x l ⟨wb, wp, a, c⟩ ++ L)) from H.box2 _ _ _ _)
  obtain ⟨n, hN⟩ : ∃ n, l.length = n := ⟨_, rfl⟩
  have HNN := Lib.hid hN
  rw [hN] at hn
  obtain ⟨hb, hhb⟩ : ∃ hb, w.heap.size = hb := ⟨_, rfl⟩
  obtain ⟨rb, hrb⟩ : ∃ rb, hb + 1 = rb := ⟨_, rfl⟩
  obtain ⟨wa, hwa⟩ : ∃ wa, (w.alloc (.cells #[.int .i64 i, .int .i64 g] 45)).alloc (.cells RepV.zero.cs 57) = wa := ⟨_, rfl⟩
  rw [hhb, hwa, hrb] at HB
  have c1 : wa.cell? ⟨s, 1, none⟩ = some (.slice a n c) := by
    rw [(HB.out.blk 2 rfl).cell]
    show some (Value.slice a l.length c) = _
    rw [HNN.out]
  obtain ⟨x0, x1, _, _⟩ := (HB.out.blk 1 rfl).two
  clear H hN
  unfold ptr hdV
  simp only [RepV.cs, RepV.zero] at hwa
  go_enter Tryz.func228, Tryz.ntmps228
  go_wp2_with fail
  try rw [hwa]
  try rw [hhb]
  try rw [hrb]
  clear hwa hhb hrb
  obtain ⟨G, hown, _, hup, _⟩ := HB.out.drew.opens 3 rfl
  have HOwn := Lib.hid (show Own G wa.drew 45 2 (.slice a n c) n (flatHd l) from HNN.out ▸ hown)
  have HUP := Lib.hid hup
  clear hown hup
  refine wp_region_M (r := 8) (S := fun w' => w'.cell? ⟨s, 1, none⟩ = some (.slice a n c) ∧ w'.cell? ⟨hb, 0, none⟩ = some (.int .i64 i) ∧ w'.cell? ⟨hb, 1, none⟩ = some (.int .i64 g)) (by kernel_rfl) ?_ (fun hHeld => ?_)
  · (try dsimp only); (first | exact ⟨c1, x0, x1⟩ | exact ⟨((Keep.refl _ Nope).alloc _).cell c1 (fun f => f), ((Keep.refl _ Nope).alloc _).cell x0 (fun f => f), ((Keep.refl _ Nope).alloc _).cell x1 (fun f => f)⟩)
  refine tkP 0 ?_; refine tkP 1 ?_; refine tkP 2 ?_; refine tkP 3 ?_; refine tkH 4 ?_; refine tkH 5 ?_; refine tkC 6 ?_
  intro K hK
  go_simp
  refine hK.out _ _ ?_ (fun hHeld => ?_)
  · (try dsimp only); (first | exact ⟨c1, x0, x1⟩ | exact ⟨((Keep.refl _ Nope).alloc _).cell c1 (fun f => f), ((Keep.refl _ Nope).alloc _).cell x0 (fun f => f), ((Keep.refl _ Nope).alloc _).cell x1 (fun f => f)⟩)
  clear hK K
  refine tkC 7 ?_
  intro K hK
  rw [if_pos (by rfl)]
  (refine step_app (P := Tryz.prog) slHd _ _ rfl (S := G) (S2 := fun z => z = wa.drew.heap.size) (n := n) (xs := flatHd l) (m := 1) (news := [.int .i64 i, .int .i64 g]) rfl rfl ?_ (Own.lit (S := fun z => z = wa.drew.heap.size) wa.drew 45 2 1 #[.int .i64 i, .int .i64 g] (by decide) rfl rfl).rd rfl (by intro u hu; simp at hu; rcases hu with rfl | rfl <;> rfl) (by omega) (by unfold maxLen; omega) ?_; (· exact HOwn.out.keep (T := Nope) ((Keep.refl wa.drew Nope).alloc _) (fun _ _ f => f)); intro a' k' c' w5 happ; obtain ⟨z1, z2⟩ := app_up (wr := wa.drew) ((Keep.refl wa.drew Nope).alloc _) happ; obtain rfl := happ.num; have h5 := HUP.out w5 _ z1 z2; have H5 := Lib.hid h5; clear happ z1 z2 h5; have c1 : w5.cell? ⟨s, 1, none⟩ = some (.slice a n c) := (by rw [(H5.out.blk 2 rfl).cell]; show some (Value.slice a l.length c) = _; rw [HNN.out]); have y1 := (H5.out.blk 2 rfl).frozen 1; obtain ⟨x0, x1, _, _⟩ := (H5.out.blk 1 rfl).two)
  refine hK.out _ _ ?_ (fun hHeld => ?_)
  · (try dsimp only); (first | exact ⟨c1, x0, x1⟩ | exact ⟨((Keep.refl _ Nope).alloc _).cell c1 (fun f => f), ((Keep.refl _ Nope).alloc _).cell x0 (fun f => f), ((Keep.refl _ Nope).alloc _).cell x1 (fun f => f)⟩)
  clear hK K
  (try simp only [List.getElem_toArray, List.getElem_cons_succ, List.getElem_cons_zero, Act.put, List.setIfInBounds_toArray, List.set_cons_zero, List.set_cons_succ])
  refine tkF 8 ?_
  intro K hK
  go_simp
  refine hK.out _ _ ?_
  clear hK K
  refine tkP 9 ?_; refine tkF 10 ?_
  intro K hK
  go_simp
  refine hK.out _ _ ?_
  clear hK K
  refine wpAnyM_done (by kernel_rfl) ?_ _
  clear hHeld c1 y1 x0 x1
  have H6 := Lib.hid (H5.out.write 2 rfl 1 (.slice a' (n + 1) c'))
  obtain ⟨w6, hw6⟩ : ∃ w6, w5.setCell ⟨s, 1, none⟩ (.slice a' (n + 1) c') = w6 := ⟨_, rfl⟩
  rw [hw6] at H6 ⊢
  clear hw6
  obtain ⟨x0, x1, _, _⟩ := (H6.out.blk 1 rfl).two
  have HRG := Lib.hid (show w6.rangeAt hb 0 [.int .i64 i, .int .i64 g] from fun j v hv => by
    rw [Nat.zero_add, (H6.out.blk 1 rfl).cell]
    simpa using hv)
  have hth : w6.there rb 0 23 := fun j hj => by
    have hb := H6.out.blk 0 rfl
    refine ⟨?_, by rw [Nat.zero_add]; exact hb.frozen j⟩
    rw [Nat.zero_add, hb.cell, Array.getElem?_eq_getElem (by simpa [RepV.cs] using hj)]
    rfl
  have HTH := Lib.hid hth
  clear hth
  go_upto_region 3 with fail
  refine wp_region_list ?_
  refine wpList_plain rfl fun K1 hK1 => step_move _ rfl (hK1 _ _ ?_)
  refine wpList_load_mid rfl 45 _ rfl hb 0 rfl [.int .i64 i, .int .i64 g] _ HRG.out Tryz.underlying45 rfl (by kernel_rfl) ?_
  refine wpList_build rfl 57 _ rfl (by kernel_rfl) ?_
  rw [show (Tryz.prog.built _ _).getD #[] = RepV.cs ⟨0, i, g, 0, 0, 0, false, 0, none, 0, 0⟩ from by kernel_rfl]
  refine wpList_store_row rfl 57 _ _ rfl rb (RepV.cs ⟨0, i, g, 0, 0, 0, false, 0, none, 0, 0⟩) rfl rfl _ _ (H6.out.blk 0 rfl) (by kernel_rfl) rfl (all_oneCell_toArray (RepV.one ⟨0, i, g, 0, 0, 0, false, 0, none, 0, 0⟩)) ?_
  have H7 := Lib.hid (H6.out.setRowAll 0 rfl (RepV.cs ⟨0, i, g, 0, 0, 0, false, 0, none, 0, 0⟩))
  obtain ⟨w7, hw7⟩ : ∃ w7, w6.setRow rb (RepV.cs ⟨0, i, g, 0, 0, 0, false, 0, none, 0, 0⟩) = w7 := ⟨_, rfl⟩
  rw [hw7] at H7 ⊢
  clear hw7 x0 x1
  refine wpList_nil ?_
  go_wp2_with fail
  refine bodyPost_ret (results_rep rfl rfl (H7.out.blk 0 rfl)) rfl ?_
  refine ⟨⟨wb, wp, a', c'⟩, rfl, ?_⟩
  have he : (l ++ [(⟨i, g⟩ : HdV)]).length = n + 1 := by rw [List.length_append, HNN.out]; rfl
  have hf : flatHd (l ++ [(⟨i, g⟩ : HdV)]) = flatHd l ++ [.int .i64 i, .int .i64 g] := by rw [flatHd_app]; rfl
  unfold scL
  rw [he, hf]
  exact H7.out.rest.rest
end Go.Proofs.YtkiikblpgppmkaaGreatDoor
