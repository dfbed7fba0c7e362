/-
  The document's world: New; The laws' helpers: a configuration made of numbers; The second and the third of what lies behind.
-/
import Derived.Test.YtkiikblpgppmkaaGreatDoorTlM31
import Derived.Test.YtkiikblpgppmkaaGreatDoorTlM29
import Derived.Test.YtkiikblpgppmkaaGreatDoorTlM21
namespace Go.Proofs.YtkiikblpgppmkaaGreatDoor
open Go Go.RowKit
set_option linter.unusedVariables false
set_option linter.unusedSimpArgs false

theorem newAl_gen (n top k : Nat) : (newAl n top).gen k = 0 := by
  unfold AlS.gen newAl
  rw [List.getD_eq_getElem?_getD]
  cases h : (List.replicate n 0)[k]? with
  | none => rfl
  | some v =>
    have := List.mem_of_getElem? h
    rw [List.mem_replicate] at this
    rw [this.2]
    rfl
theorem newAl_rel {n top : Nat} (h1 : 1 ≤ n) (h2 : n ≤ 64) (h3 : 1 ≤ top) (h4 : top < 4294967296) : A5Rel (newAl n top) 0 := by
  have hl : (newAl n top).gens.length = n := by simp [newAl]
  refine ⟨newAl_ok h1 h2 h3 h4, Nat.zero_le _, fun k _ hk => ⟨?_, newAl_gen n top k⟩, fun k _ => by simp [newAl], fun k _ => by simp [newAl], fun k _ => by simp [newAl], fun k _ => by simp [newAl], fun k h => by simp [newAl] at h⟩
  rw [hl] at hk
  show (fullW n).testBit k = true
  rw [fullW_bit]
  exact decide_eq_true hk
theorem sl5p : SlTy Tryz.prog 97 109 1 8 := SlTy.mk' (.pointer none) Tryz.underlying97 (by kernel_rfl) rfl (by decide)
def m5N (cb mb ab : Nat) (n top : Nat) (v vr : Value) (ra : Option Addr) (rn rc : Nat) (a : Option Addr) (j c : Nat) (bs : List Nat) (xs : List DescV) : List Asr :=
  [blkA mb #[.pointer (some ⟨ab, 0, none⟩), .slice a j c, .slice ra rn rc, .slice none 0 0, .bool false] 100, a5A ab (newAl n top), slA 109 1 (.slice a j c) j (bs.map ptr), blkA cb #[.int .i64 (n : Nat), .int .i64 (top : Nat), v, vr] 27] ++ List.zipWith (fun x d => s5A x d 0) bs xs
def Cut5N (w0 : World) (L : List Asr) (cb n top : Nat) (v vr : Value) (v3 : Value) (wc : World) : Prop :=
  ∃ (mb ab : Nat) (ra : Option Addr) (rn rc : Nat), v3 = .pointer (some ⟨mb, 0, none⟩) ∧ St w0 wc (m5N cb mb ab n top v vr ra rn rc none 0 0 [] [] ++ L)
def Loop5N (w0 : World) (L : List Asr) (cb mb ab n top m : Nat) (v vr : Value) (ra : Option Addr) (rn rc : Nat) (ds : List DescV) (g : Nat) (v4 : Value) (wr : World) : Prop :=
  ∃ (j : Nat) (a : Option Addr) (c : Nat) (bs : List Nat), g + j = m ∧ v4 = .int .i64 (j : Nat) ∧ bs.length = j ∧ St w0 wr (m5N cb mb ab n top v vr ra rn rc a j c bs (ds.take j) ++ L)
set_option maxRecDepth 100000 in
set_option maxHeartbeats 4000000 in
theorem m5_new {w0 w : World} {L : List Asr} (H : St w0 w L) (n top : Nat) (h1 : 1 ≤ n) (h2 : n ≤ 64) (h3 : 1 ≤ top) (h4 : top < 4294967296) (ds : List DescV) (hdl : ds.length ≤ 64) (v : Value) (hv : ReadIn w0 L v ds.length (flatDesc ds)) (rs : List Int) (hrl : rs.length ≤ 32) (vr : Value) (hr : ReadIn w0 L vr rs.length (i64s rs)) :
    Calls Tryz.prog 42 #[.agg #[.int .i64 (n : Nat), .int .i64 (top : Nat), v, vr]] w (fun e w' => ∃ mb, e = .returned (ptr mb) ∧ St w0 w' (m5A mb (newAl n top) ds 0 :: L)) := by
  obtain ⟨S0, hr0⟩ := hv w [] H
  obtain ⟨va, vc, rfl, _, _, _, _⟩ := id hr0
  obtain ⟨S1, hr1⟩ := hr w [] H
  obtain ⟨ra, rc, rfl, hrle, hrm, _, _⟩ := id hr1
  have HB := Lib.hid (H.box0 #[.int .i64 (n : Nat), .int .i64 (top : Nat), .slice va ds.length vc, .slice ra rs.length rc] 27)
  have HV := Lib.hid hv
  have HRs := Lib.hid hr
  have HNew := Lib.hid (fun (w' : World) (L' : List Asr) (h : St w0 w' L') => a5_new h n top (newAl_rel h1 h2 h3 h4) (by simp [newAl]) rfl)
  obtain ⟨m, hm⟩ : ∃ m, ds.length = m := ⟨_, rfl⟩
  obtain ⟨r, hrr⟩ : ∃ r, rs.length = r := ⟨_, rfl⟩
  have HM := Lib.hid hm
  have HRr := Lib.hid hrr
  rw [hm] at hdl HB ⊢
  rw [hrr] at hrl HB hrle ⊢
  have hr2 : r ≤ rc ∧ rc ≤ maxLen := ⟨hrle, hrm⟩
  obtain ⟨cb, hcb⟩ : ∃ cb, w.heap.size = cb := ⟨_, rfl⟩
  obtain ⟨wa, hwa⟩ : ∃ wa, w.alloc (.cells #[.int .i64 (n : Nat), .int .i64 (top : Nat), .slice va m vc, .slice ra r rc] 27) = wa := ⟨_, rfl⟩
  rw [hwa, hcb] at HB
  have x0 : wa.cell? ⟨cb, 0, none⟩ = some (.int .i64 (n : Nat)) := by rw [(HB.out.blk 0 rfl).cell]; rfl
  have x1 : wa.cell? ⟨cb, 1, none⟩ = some (.int .i64 (top : Nat)) := by rw [(HB.out.blk 0 rfl).cell]; rfl
  have x3 : wa.cell? ⟨cb, 3, none⟩ = some (.slice ra r rc) := by rw [(HB.out.blk 0 rfl).cell]; rfl
  have hmin : (if (32 : Int) < (r : Int) then (32 : Int) else (r : Int)) = (r : Int) := by split <;> omega
  clear hv hr hr0 hr1 hm hrr h1 h2 h3 h4 H hrle hrm
  unfold ptr at *
  go_enter Tryz.func42, Tryz.ntmps42
  go_upto_region 1 with fail
  try rw [hwa]
  try rw [hcb]
  clear hwa hcb
  go_cut [3] (fun v3 wc => Cut5N w0 L cb n top (.slice va m vc) (.slice ra r rc) v3 wc)
  case first =>
    have hsl := slice_h_any slI64 ra r rc r .i64 (by have := hr2.1; omega)
    refine wp_region_held_drew (S := fun w' => w'.cell? ⟨cb, 0, none⟩ = some (.int .i64 (n : Nat)) ∧ w'.cell? ⟨cb, 1, none⟩ = some (.int .i64 (top : Nat)) ∧ w'.cell? ⟨cb, 3, none⟩ = some (.slice ra r rc)) (by kernel_rfl) ?_ (fun hHeld => ?_)
    · (try dsimp only); (first | exact ⟨x0, x1, x3⟩ | (have hb2 := HK1.out.blk 1 rfl; exact ⟨by rw [hb2.cell]; rfl, by rw [hb2.cell]; rfl, by rw [hb2.cell]; rfl⟩) | (have hb2 := HK1.out.blk 2 rfl; exact ⟨by rw [hb2.cell]; rfl, by rw [hb2.cell]; rfl, by rw [hb2.cell]; rfl⟩) | (have hb2 := H2.out.blk 2 rfl; exact ⟨by rw [hb2.cell]; rfl, by rw [hb2.cell]; rfl, by rw [hb2.cell]; rfl⟩) | (have hb2 := H3.out.blk 2 rfl; exact ⟨by rw [hb2.cell]; rfl, by rw [hb2.cell]; rfl, by rw [hb2.cell]; rfl⟩) | (have hb2 := H3.out.blk 2 rfl; refine ⟨?_, ?_, ?_⟩ <;> exact ((Keep.refl _ Nope).alloc _).cell (by rw [hb2.cell]; rfl) (fun f => f)) | exact ⟨((Keep.refl wa Nope).drew.alloc _).cell x0 (fun f => f), ((Keep.refl wa Nope).drew.alloc _).cell x1 (fun f => f), ((Keep.refl wa Nope).drew.alloc _).cell x3 (fun f => f)⟩)
    refine tkW 0 ?_; refine tkW 1 ?_; refine tkW 2 ?_; refine tkW 3 ?_; refine tkW 6 ?_; refine tkW 7 ?_; refine tkW 8 ?_; refine tkW 9 ?_; refine tkW 10 ?_; refine tkW 11 ?_; refine tkW 12 ?_
    refine wpAnyH_ready (rs := [4, 5]) (by kernel_rfl) (by simp) ?_
    refine AllReadyH.cons rfl (fun K hK => ?_) (AllReadyH.cons rfl (fun K hK => ?_) (AllReadyH.nil))
    · skip
      go_simp
      go_wp2_with ((first | (refine (HNew.out _ _ HB.out.drew).mono ?_; rintro e w1 ⟨ab, rfl, h1⟩; have HK1 := Lib.hid h1; have H2 := Lib.hid (h1.lit 2 1 0 #[] (Nat.zero_le _) rfl).first; clear h1) | (refine (HNew.out _ _ (HB.out.drew.lit 2 1 0 #[] (Nat.zero_le _) rfl).first).mono ?_; rintro e w1 ⟨ab, rfl, h1⟩; have HK1 := Lib.hid h1; have H2 := Lib.hid (St.sw h1); clear h1)))
      refine hK.out _ _ ?_ (fun hHeld => ?_)
      · (try dsimp only); (first | exact ⟨x0, x1, x3⟩ | (have hb2 := HK1.out.blk 1 rfl; exact ⟨by rw [hb2.cell]; rfl, by rw [hb2.cell]; rfl, by rw [hb2.cell]; rfl⟩) | (have hb2 := HK1.out.blk 2 rfl; exact ⟨by rw [hb2.cell]; rfl, by rw [hb2.cell]; rfl, by rw [hb2.cell]; rfl⟩) | (have hb2 := H2.out.blk 2 rfl; exact ⟨by rw [hb2.cell]; rfl, by rw [hb2.cell]; rfl, by rw [hb2.cell]; rfl⟩) | (have hb2 := H3.out.blk 2 rfl; exact ⟨by rw [hb2.cell]; rfl, by rw [hb2.cell]; rfl, by rw [hb2.cell]; rfl⟩) | (have hb2 := H3.out.blk 2 rfl; refine ⟨?_, ?_, ?_⟩ <;> exact ((Keep.refl _ Nope).alloc _).cell (by rw [hb2.cell]; rfl) (fun f => f)) | exact ⟨((Keep.refl wa Nope).drew.alloc _).cell x0 (fun f => f), ((Keep.refl wa Nope).drew.alloc _).cell x1 (fun f => f), ((Keep.refl wa Nope).drew.alloc _).cell x3 (fun f => f)⟩)
      clear hK K
      refine wpAnyH_ready (rs := [5]) (by kernel_rfl) (by simp) ?_
      refine AllReadyH.cons rfl (fun K hK => ?_) (AllReadyH.nil)
      go_simp
      refine hK.out _ _ ?_ (fun hHeld => ?_)
      · (try dsimp only); (first | exact ⟨x0, x1, x3⟩ | (have hb2 := HK1.out.blk 1 rfl; exact ⟨by rw [hb2.cell]; rfl, by rw [hb2.cell]; rfl, by rw [hb2.cell]; rfl⟩) | (have hb2 := HK1.out.blk 2 rfl; exact ⟨by rw [hb2.cell]; rfl, by rw [hb2.cell]; rfl, by rw [hb2.cell]; rfl⟩) | (have hb2 := H2.out.blk 2 rfl; exact ⟨by rw [hb2.cell]; rfl, by rw [hb2.cell]; rfl, by rw [hb2.cell]; rfl⟩) | (have hb2 := H3.out.blk 2 rfl; exact ⟨by rw [hb2.cell]; rfl, by rw [hb2.cell]; rfl, by rw [hb2.cell]; rfl⟩) | (have hb2 := H3.out.blk 2 rfl; refine ⟨?_, ?_, ?_⟩ <;> exact ((Keep.refl _ Nope).alloc _).cell (by rw [hb2.cell]; rfl) (fun f => f)) | exact ⟨((Keep.refl wa Nope).drew.alloc _).cell x0 (fun f => f), ((Keep.refl wa Nope).drew.alloc _).cell x1 (fun f => f), ((Keep.refl wa Nope).drew.alloc _).cell x3 (fun f => f)⟩)
      clear hK K
      refine wpAnyH_ready (rs := [13]) (by kernel_rfl) (by simp) ?_
      refine AllReadyH.cons rfl (fun K hK => ?_) (AllReadyH.nil)
      rw [if_pos (by rfl)]
      (obtain ⟨G, hown, _, hup, _⟩ := H2.out.opens 0 rfl; obtain ⟨SR, hrd⟩ := HRs.out _ _ (show St w0 _ ([slA 2 1 _ 0 [], a5A ab (newAl n top), blkA cb _ _] ++ L) from H2.out); refine step_app (P := Tryz.prog) slI64 _ _ rfl (S := G) (S2 := SR) (n := 0) (xs := []) (m := r) (news := i64s rs) rfl rfl hown (HRr.out ▸ hrd) (by rw [← HRr.out]; simp [i64s]) (by intro u hu; simp [i64s] at hu; obtain ⟨z, _, rfl⟩ := hu; rfl) (by omega) (by unfold maxLen; omega) ?_; rintro a3 n3 c3 w3 happ; obtain ⟨z1, z2⟩ := app_up (Keep.refl _ Nope) happ; have h3 := hup w3 _ z1 z2; have H3 := Lib.hid h3; clear happ z1 z2 h3 hup hown hrd)
      refine hK.out _ _ ?_ (fun hHeld => ?_)
      · (try dsimp only); (first | exact ⟨x0, x1, x3⟩ | (have hb2 := HK1.out.blk 1 rfl; exact ⟨by rw [hb2.cell]; rfl, by rw [hb2.cell]; rfl, by rw [hb2.cell]; rfl⟩) | (have hb2 := HK1.out.blk 2 rfl; exact ⟨by rw [hb2.cell]; rfl, by rw [hb2.cell]; rfl, by rw [hb2.cell]; rfl⟩) | (have hb2 := H2.out.blk 2 rfl; exact ⟨by rw [hb2.cell]; rfl, by rw [hb2.cell]; rfl, by rw [hb2.cell]; rfl⟩) | (have hb2 := H3.out.blk 2 rfl; exact ⟨by rw [hb2.cell]; rfl, by rw [hb2.cell]; rfl, by rw [hb2.cell]; rfl⟩) | (have hb2 := H3.out.blk 2 rfl; refine ⟨?_, ?_, ?_⟩ <;> exact ((Keep.refl _ Nope).alloc _).cell (by rw [hb2.cell]; rfl) (fun f => f)) | exact ⟨((Keep.refl wa Nope).drew.alloc _).cell x0 (fun f => f), ((Keep.refl wa Nope).drew.alloc _).cell x1 (fun f => f), ((Keep.refl wa Nope).drew.alloc _).cell x3 (fun f => f)⟩)
      clear hK K
      refine tkW 14 ?_
      refine wpAnyH_ready (rs := [15]) (by kernel_rfl) (by simp) ?_
      refine AllReadyH.cons rfl (fun K hK => ?_) (AllReadyH.nil)
      go_simp
      refine hK.out _ _ ?_ (fun hHeld => ?_)
      · (try dsimp only); (first | exact ⟨x0, x1, x3⟩ | (have hb2 := HK1.out.blk 1 rfl; exact ⟨by rw [hb2.cell]; rfl, by rw [hb2.cell]; rfl, by rw [hb2.cell]; rfl⟩) | (have hb2 := HK1.out.blk 2 rfl; exact ⟨by rw [hb2.cell]; rfl, by rw [hb2.cell]; rfl, by rw [hb2.cell]; rfl⟩) | (have hb2 := H2.out.blk 2 rfl; exact ⟨by rw [hb2.cell]; rfl, by rw [hb2.cell]; rfl, by rw [hb2.cell]; rfl⟩) | (have hb2 := H3.out.blk 2 rfl; exact ⟨by rw [hb2.cell]; rfl, by rw [hb2.cell]; rfl, by rw [hb2.cell]; rfl⟩) | (have hb2 := H3.out.blk 2 rfl; refine ⟨?_, ?_, ?_⟩ <;> exact ((Keep.refl _ Nope).alloc _).cell (by rw [hb2.cell]; rfl) (fun f => f)) | exact ⟨((Keep.refl wa Nope).drew.alloc _).cell x0 (fun f => f), ((Keep.refl wa Nope).drew.alloc _).cell x1 (fun f => f), ((Keep.refl wa Nope).drew.alloc _).cell x3 (fun f => f)⟩)
      clear hK K
      refine tkW 16 ?_
      refine wpAnyH_done (by kernel_rfl) ?_ _
      go_wp2_with fail
      go_meet
      case rel =>
        have h4 := H3.out.box0 #[.pointer (some ⟨ab, 0, none⟩), .slice none 0 0, .slice a3 n3 c3, .slice none 0 0, .bool false] 100
        have h5 := (h4.add (Keep.refl _ _) (A := slA 109 1 (.slice none 0 0) 0 []) (Own.nil _ _ _ _)).first
        exact ⟨w3.heap.size, ab, a3, n3, c3, rfl, St.sel (P := [_, _, _, _, _]) (P' := [_, _, _, _]) (R := L) [1, 3, 0, 4] h5 (by decide) rfl rfl⟩
    · skip
      go_simp
      refine hK.out _ _ ?_ (fun hHeld => ?_)
      · (try dsimp only); (first | exact ⟨x0, x1, x3⟩ | (have hb2 := HK1.out.blk 1 rfl; exact ⟨by rw [hb2.cell]; rfl, by rw [hb2.cell]; rfl, by rw [hb2.cell]; rfl⟩) | (have hb2 := HK1.out.blk 2 rfl; exact ⟨by rw [hb2.cell]; rfl, by rw [hb2.cell]; rfl, by rw [hb2.cell]; rfl⟩) | (have hb2 := H2.out.blk 2 rfl; exact ⟨by rw [hb2.cell]; rfl, by rw [hb2.cell]; rfl, by rw [hb2.cell]; rfl⟩) | (have hb2 := H3.out.blk 2 rfl; exact ⟨by rw [hb2.cell]; rfl, by rw [hb2.cell]; rfl, by rw [hb2.cell]; rfl⟩) | (have hb2 := H3.out.blk 2 rfl; refine ⟨?_, ?_, ?_⟩ <;> exact ((Keep.refl _ Nope).alloc _).cell (by rw [hb2.cell]; rfl) (fun f => f)) | exact ⟨((Keep.refl wa Nope).drew.alloc _).cell x0 (fun f => f), ((Keep.refl wa Nope).drew.alloc _).cell x1 (fun f => f), ((Keep.refl wa Nope).drew.alloc _).cell x3 (fun f => f)⟩)
      clear hK K
      refine wpAnyH_ready (rs := [4]) (by kernel_rfl) (by simp) ?_
      refine AllReadyH.cons rfl (fun K hK => ?_) (AllReadyH.nil)
      go_simp
      go_wp2_with ((first | (refine (HNew.out _ _ HB.out.drew).mono ?_; rintro e w1 ⟨ab, rfl, h1⟩; have HK1 := Lib.hid h1; have H2 := Lib.hid (h1.lit 2 1 0 #[] (Nat.zero_le _) rfl).first; clear h1) | (refine (HNew.out _ _ (HB.out.drew.lit 2 1 0 #[] (Nat.zero_le _) rfl).first).mono ?_; rintro e w1 ⟨ab, rfl, h1⟩; have HK1 := Lib.hid h1; have H2 := Lib.hid (St.sw h1); clear h1)))
      refine hK.out _ _ ?_ (fun hHeld => ?_)
      · (try dsimp only); (first | exact ⟨x0, x1, x3⟩ | (have hb2 := HK1.out.blk 1 rfl; exact ⟨by rw [hb2.cell]; rfl, by rw [hb2.cell]; rfl, by rw [hb2.cell]; rfl⟩) | (have hb2 := HK1.out.blk 2 rfl; exact ⟨by rw [hb2.cell]; rfl, by rw [hb2.cell]; rfl, by rw [hb2.cell]; rfl⟩) | (have hb2 := H2.out.blk 2 rfl; exact ⟨by rw [hb2.cell]; rfl, by rw [hb2.cell]; rfl, by rw [hb2.cell]; rfl⟩) | (have hb2 := H3.out.blk 2 rfl; exact ⟨by rw [hb2.cell]; rfl, by rw [hb2.cell]; rfl, by rw [hb2.cell]; rfl⟩) | (have hb2 := H3.out.blk 2 rfl; refine ⟨?_, ?_, ?_⟩ <;> exact ((Keep.refl _ Nope).alloc _).cell (by rw [hb2.cell]; rfl) (fun f => f)) | exact ⟨((Keep.refl wa Nope).drew.alloc _).cell x0 (fun f => f), ((Keep.refl wa Nope).drew.alloc _).cell x1 (fun f => f), ((Keep.refl wa Nope).drew.alloc _).cell x3 (fun f => f)⟩)
      clear hK K
      refine wpAnyH_ready (rs := [13]) (by kernel_rfl) (by simp) ?_
      refine AllReadyH.cons rfl (fun K hK => ?_) (AllReadyH.nil)
      rw [if_pos (by rfl)]
      (obtain ⟨G, hown, _, hup, _⟩ := H2.out.opens 0 rfl; obtain ⟨SR, hrd⟩ := HRs.out _ _ (show St w0 _ ([slA 2 1 _ 0 [], a5A ab (newAl n top), blkA cb _ _] ++ L) from H2.out); refine step_app (P := Tryz.prog) slI64 _ _ rfl (S := G) (S2 := SR) (n := 0) (xs := []) (m := r) (news := i64s rs) rfl rfl hown (HRr.out ▸ hrd) (by rw [← HRr.out]; simp [i64s]) (by intro u hu; simp [i64s] at hu; obtain ⟨z, _, rfl⟩ := hu; rfl) (by omega) (by unfold maxLen; omega) ?_; rintro a3 n3 c3 w3 happ; obtain ⟨z1, z2⟩ := app_up (Keep.refl _ Nope) happ; have h3 := hup w3 _ z1 z2; have H3 := Lib.hid h3; clear happ z1 z2 h3 hup hown hrd)
      refine hK.out _ _ ?_ (fun hHeld => ?_)
      · (try dsimp only); (first | exact ⟨x0, x1, x3⟩ | (have hb2 := HK1.out.blk 1 rfl; exact ⟨by rw [hb2.cell]; rfl, by rw [hb2.cell]; rfl, by rw [hb2.cell]; rfl⟩) | (have hb2 := HK1.out.blk 2 rfl; exact ⟨by rw [hb2.cell]; rfl, by rw [hb2.cell]; rfl, by rw [hb2.cell]; rfl⟩) | (have hb2 := H2.out.blk 2 rfl; exact ⟨by rw [hb2.cell]; rfl, by rw [hb2.cell]; rfl, by rw [hb2.cell]; rfl⟩) | (have hb2 := H3.out.blk 2 rfl; exact ⟨by rw [hb2.cell]; rfl, by rw [hb2.cell]; rfl, by rw [hb2.cell]; rfl⟩) | (have hb2 := H3.out.blk 2 rfl; refine ⟨?_, ?_, ?_⟩ <;> exact ((Keep.refl _ Nope).alloc _).cell (by rw [hb2.cell]; rfl) (fun f => f)) | exact ⟨((Keep.refl wa Nope).drew.alloc _).cell x0 (fun f => f), ((Keep.refl wa Nope).drew.alloc _).cell x1 (fun f => f), ((Keep.refl wa Nope).drew.alloc _).cell x3 (fun f => f)⟩)
      clear hK K
      refine tkW 14 ?_
      refine wpAnyH_ready (rs := [15]) (by kernel_rfl) (by simp) ?_
      refine AllReadyH.cons rfl (fun K hK => ?_) (AllReadyH.nil)
      go_simp
      refine hK.out _ _ ?_ (fun hHeld => ?_)
      · (try dsimp only); (first | exact ⟨x0, x1, x3⟩ | (have hb2 := HK1.out.blk 1 rfl; exact ⟨by rw [hb2.cell]; rfl, by rw [hb2.cell]; rfl, by rw [hb2.cell]; rfl⟩) | (have hb2 := HK1.out.blk 2 rfl; exact ⟨by rw [hb2.cell]; rfl, by rw [hb2.cell]; rfl, by rw [hb2.cell]; rfl⟩) | (have hb2 := H2.out.blk 2 rfl; exact ⟨by rw [hb2.cell]; rfl, by rw [hb2.cell]; rfl, by rw [hb2.cell]; rfl⟩) | (have hb2 := H3.out.blk 2 rfl; exact ⟨by rw [hb2.cell]; rfl, by rw [hb2.cell]; rfl, by rw [hb2.cell]; rfl⟩) | (have hb2 := H3.out.blk 2 rfl; refine ⟨?_, ?_, ?_⟩ <;> exact ((Keep.refl _ Nope).alloc _).cell (by rw [hb2.cell]; rfl) (fun f => f)) | exact ⟨((Keep.refl wa Nope).drew.alloc _).cell x0 (fun f => f), ((Keep.refl wa Nope).drew.alloc _).cell x1 (fun f => f), ((Keep.refl wa Nope).drew.alloc _).cell x3 (fun f => f)⟩)
      clear hK K
      refine tkW 16 ?_
      refine wpAnyH_done (by kernel_rfl) ?_ _
      go_wp2_with fail
      go_meet
      case rel =>
        have h4 := H3.out.box0 #[.pointer (some ⟨ab, 0, none⟩), .slice none 0 0, .slice a3 n3 c3, .slice none 0 0, .bool false] 100
        have h5 := (h4.add (Keep.refl _ _) (A := slA 109 1 (.slice none 0 0) 0 []) (Own.nil _ _ _ _)).first
        exact ⟨w3.heap.size, ab, a3, n3, c3, rfl, St.sel (P := [_, _, _, _, _]) (P' := [_, _, _, _]) (R := L) [1, 3, 0, 4] h5 (by decide) rfl rfl⟩
  case rest =>
    obtain ⟨mb, ab, qa, qn, qc, rfl, h4⟩ := hcut
    have H4 := Lib.hid h4
    clear HB x0 x1 x3 h4 hmin HNew HRs HRr hr2
    go_wp2_with fail
    go_loopg [4] m (fun g v4 wr => Loop5N w0 L cb mb ab n top m (.slice va m vc) (.slice ra r rc) qa qn qc ds g v4 wr)
    case atStart => exact ⟨0, none, 0, [], by omega, rfl, rfl, H4.out⟩
    case round =>
      obtain ⟨j, a, c, bs, hg, rfl, hbl, hst⟩ := hrel
      clear H4
      have HG := Lib.hid hg
      have HST := Lib.hid hst
      have HBL := Lib.hid hbl
      have y2 : wr.cell? ⟨cb, 2, none⟩ = some (.slice va m vc) := by rw [(hst.blk 3 rfl).cell]; rfl
      clear hbl
      by_cases hlt : j < m
      · obtain ⟨d, hd⟩ : ∃ d, ds[j]? = some d := ⟨_, List.getElem?_eq_getElem (by rw [HM.out]; exact hlt)⟩
        have HTK := Lib.hid (show ds.take (j + 1) = ds.take j ++ [d] by rw [List.take_add_one, hd]; rfl)
        have HVR := Lib.hid (fun (w' : World) (M : List Asr) (h : St w0 w' (M ++ L)) => HV.out w' M h)
        obtain ⟨S2, hr2⟩ := HV.out wr (m5N cb mb ab n top (.slice va m vc) (.slice ra r rc) qa qn qc a j c bs (ds.take j)) hst
        obtain ⟨bo, oo, hva, _, hco⟩ := Rd.elem (cells := DescV.cells) (size := 3) hr2 (fun _ => rfl) (by decide) hd
        subst hva
        have HDc := Lib.hid (show ∀ w', Keep wr w' Nope → w'.cell? ⟨bo, oo + j * 3, none⟩ = some (.int .i64 (d.kd : Nat)) ∧ w'.cell? ⟨bo, oo + j * 3 + 1, none⟩ = some (.int .i64 (d.var : Nat)) ∧ w'.cell? ⟨bo, oo + j * 3 + 2, none⟩ = some (.int .i64 (d.bd : Nat)) from fun w' hk => ⟨hk.cell (hco 0 (by decide)) (fun f => f), hk.cell (hco 1 (by decide)) (fun f => f), hk.cell (hco 2 (by decide)) (fun f => f)⟩)
        have HDe := Lib.hid (show ∀ w' (M : List Asr), St w0 w' (M ++ L) → w'.cell? ⟨bo, oo + j * 3, none⟩ = some (.int .i64 (d.kd : Nat)) ∧ w'.cell? ⟨bo, oo + j * 3 + 1, none⟩ = some (.int .i64 (d.var : Nat)) ∧ w'.cell? ⟨bo, oo + j * 3 + 2, none⟩ = some (.int .i64 (d.bd : Nat)) from fun w' M h => by
          obtain ⟨S3, hr3⟩ := HV.out w' M h
          obtain ⟨bo2, oo2, hva2, _, hc2⟩ := Rd.elem (cells := DescV.cells) (size := 3) hr3 (fun _ => rfl) (by decide) hd
          injection hva2 with hva2
          injection hva2 with e1 e2 _
          subst e1
          subst e2
          exact ⟨hc2 0 (by decide), hc2 1 (by decide), hc2 2 (by decide)⟩)
        obtain ⟨d0, d1, d2⟩ := HDc.out _ (Keep.refl _ _)
        have e0 : decide (m ≤ j) = false := decide_eq_false (by omega)
        have e1 : decide ((j : Int) < (m : Int)) = true := decide_eq_true (by omega)
        have ek : (j : Int) < (m : Int) := by omega
        have m1 : wr.cell? ⟨mb, 1, none⟩ = some (.slice a j c) := by rw [(HST.out.blk 0 rfl).cell]; rfl
        have HLT := Lib.hid hlt
        obtain ⟨ba, hba⟩ : ∃ ba, List.zipWith (fun x d => s5A x d 0) bs (ds.take j) = ba := ⟨_, rfl⟩
        have HBA := Lib.hid hba
        clear hd hco hlt hr2 HVR hg hst
        obtain ⟨kd, var, bd⟩ := d
        have HNS := Lib.hid (fun (w' : World) (L' : List Asr) (h : St w0 w' L') => s5_new h ⟨kd, var, bd⟩)
        unfold DescV.val ptr at HNS
        simp only at HNS d0 d1 d2
        go_upto_region 5 with fail
        refine wp_region_M (r := 13) (S := fun w' => w'.cell? ⟨mb, 1, none⟩ = some (.slice a j c) ∧ w'.cell? ⟨cb, 2, none⟩ = some (.slice (some ⟨bo, oo, none⟩) m vc) ∧ w'.cell? ⟨bo, oo + j * 3, none⟩ = some (.int .i64 (kd : Nat)) ∧ w'.cell? ⟨bo, oo + j * 3 + 1, none⟩ = some (.int .i64 (var : Nat)) ∧ w'.cell? ⟨bo, oo + j * 3 + 2, none⟩ = some (.int .i64 (bd : Nat))) (by kernel_rfl) ?_ (fun hHeld => ?_)
        · (try dsimp only); (first | exact ⟨m1, y2, d0, d1, d2⟩ | exact ⟨m1, y2', f0, f1, f2⟩ | (have hb1 := HKP.out.blk 1 rfl; have hb2 := HKP.out.blk 4 rfl; obtain ⟨f0, f1, f2⟩ := HDe.out _ (_ :: _ :: _ :: _ :: _ :: _) HKP.out; exact ⟨by rw [hb1.cell]; rfl, by rw [hb2.cell]; rfl, f0, f1, f2⟩) | (have hb1 := HKP.out.blk 1 rfl; have hb2 := HKP.out.blk 4 rfl; obtain ⟨f0, f1, f2⟩ := HDe.out _ (_ :: _ :: _ :: _ :: _ :: _) HKP.out; refine ⟨?_, ?_, ?_, ?_, ?_⟩ <;> (refine ((Keep.refl _ Nope).alloc _).cell ?_ (fun f => f); first | exact f0 | exact f1 | exact f2 | (rw [hb1.cell]; rfl) | (rw [hb2.cell]; rfl))))
        refine tkP 0 ?_; refine tkP 1 ?_; refine tkP 2 ?_; refine tkP 3 ?_; refine tkH 4 ?_; refine tkP 5 ?_; refine tkH 6 ?_; refine tkP 7 ?_; refine tkP 8 ?_; refine tkH 9 ?_; refine tkC 10 ?_
        intro K hK
        go_simp
        go_wp2_with ((go_at_call 102; refine (HNS.out _ _ HST.out.drew).mono ?_; rintro e w1 ⟨sb, rfl, h1⟩; have h5 := h1.first; have HKP := Lib.hid h5; obtain ⟨G, hown, _, hup, _⟩ := h5.opens 3 rfl; have HOwn := Lib.hid (show Own G w1 109 1 (.slice a j c) j (bs.map ptr) from hown); have HUP := Lib.hid hup; clear hown hup h5 h1))
        refine hK.out _ _ ?_ (fun hHeld => ?_)
        · (try dsimp only); (first | exact ⟨m1, y2, d0, d1, d2⟩ | exact ⟨m1, y2', f0, f1, f2⟩ | (have hb1 := HKP.out.blk 1 rfl; have hb2 := HKP.out.blk 4 rfl; obtain ⟨f0, f1, f2⟩ := HDe.out _ (_ :: _ :: _ :: _ :: _ :: _) HKP.out; exact ⟨by rw [hb1.cell]; rfl, by rw [hb2.cell]; rfl, f0, f1, f2⟩) | (have hb1 := HKP.out.blk 1 rfl; have hb2 := HKP.out.blk 4 rfl; obtain ⟨f0, f1, f2⟩ := HDe.out _ (_ :: _ :: _ :: _ :: _ :: _) HKP.out; refine ⟨?_, ?_, ?_, ?_, ?_⟩ <;> (refine ((Keep.refl _ Nope).alloc _).cell ?_ (fun f => f); first | exact f0 | exact f1 | exact f2 | (rw [hb1.cell]; rfl) | (rw [hb2.cell]; rfl))))
        clear hK K
        refine tkC 11 ?_
        intro K hK
        go_simp
        refine hK.out _ _ ?_ (fun hHeld => ?_)
        · (try dsimp only); (first | exact ⟨m1, y2, d0, d1, d2⟩ | exact ⟨m1, y2', f0, f1, f2⟩ | (have hb1 := HKP.out.blk 1 rfl; have hb2 := HKP.out.blk 4 rfl; obtain ⟨f0, f1, f2⟩ := HDe.out _ (_ :: _ :: _ :: _ :: _ :: _) HKP.out; exact ⟨by rw [hb1.cell]; rfl, by rw [hb2.cell]; rfl, f0, f1, f2⟩) | (have hb1 := HKP.out.blk 1 rfl; have hb2 := HKP.out.blk 4 rfl; obtain ⟨f0, f1, f2⟩ := HDe.out _ (_ :: _ :: _ :: _ :: _ :: _) HKP.out; refine ⟨?_, ?_, ?_, ?_, ?_⟩ <;> (refine ((Keep.refl _ Nope).alloc _).cell ?_ (fun f => f); first | exact f0 | exact f1 | exact f2 | (rw [hb1.cell]; rfl) | (rw [hb2.cell]; rfl))))
        clear hK K
        refine tkC 12 ?_
        intro K hK
        rw [if_pos (by rfl)]
        (refine step_app (P := Tryz.prog) sl5p _ _ rfl (S := G) (S2 := fun z => z = w1.heap.size) (n := j) (xs := bs.map ptr) (m := 1) (news := [.pointer (some ⟨sb, 0, none⟩)]) rfl rfl ?_ (Own.lit (S := fun z => z = w1.heap.size) w1 109 1 1 #[.pointer (some ⟨sb, 0, none⟩)] (by decide) rfl rfl).rd rfl (by intro u hu; simp at hu; rcases hu with rfl; rfl) (by omega) (by unfold maxLen; omega) ?_; (· exact HOwn.out.keep (T := Nope) ((Keep.refl w1 Nope).alloc _) (fun _ _ f => f)); intro a' k' c' w5 happ; obtain ⟨z1, z2⟩ := app_up (wr := w1) ((Keep.refl w1 Nope).alloc _) happ; obtain rfl := happ.num; have h5 := HUP.out w5 _ z1 z2; have H5 := Lib.hid h5; clear happ z1 z2 h5; have y1 := (H5.out.blk 1 rfl).frozen 1; have y2' : w5.cell? ⟨cb, 2, none⟩ = some (.slice (some ⟨bo, oo, none⟩) m vc) := (by rw [(H5.out.blk 4 rfl).cell]; rfl); obtain ⟨f0, f1, f2⟩ := HDe.out _ (_ :: _ :: _ :: _ :: _ :: _) H5.out; have m1 : w5.cell? ⟨mb, 1, none⟩ = some (.slice a j c) := (by rw [(H5.out.blk 1 rfl).cell]; rfl))
        refine hK.out _ _ ?_ (fun hHeld => ?_)
        · (try dsimp only); (first | exact ⟨m1, y2, d0, d1, d2⟩ | exact ⟨m1, y2', f0, f1, f2⟩ | (have hb1 := HKP.out.blk 1 rfl; have hb2 := HKP.out.blk 4 rfl; obtain ⟨f0, f1, f2⟩ := HDe.out _ (_ :: _ :: _ :: _ :: _ :: _) HKP.out; exact ⟨by rw [hb1.cell]; rfl, by rw [hb2.cell]; rfl, f0, f1, f2⟩) | (have hb1 := HKP.out.blk 1 rfl; have hb2 := HKP.out.blk 4 rfl; obtain ⟨f0, f1, f2⟩ := HDe.out _ (_ :: _ :: _ :: _ :: _ :: _) HKP.out; refine ⟨?_, ?_, ?_, ?_, ?_⟩ <;> (refine ((Keep.refl _ Nope).alloc _).cell ?_ (fun f => f); first | exact f0 | exact f1 | exact f2 | (rw [hb1.cell]; rfl) | (rw [hb2.cell]; rfl))))
        clear hK K
        (try simp only [List.getElem_toArray, List.getElem_cons_succ, List.getElem_cons_zero, Act.put, List.setIfInBounds_toArray, List.set_cons_zero, List.set_cons_succ])
        refine tkF 13 ?_
        intro K hK
        go_simp
        refine hK.out _ _ ?_
        clear hK K
        refine tkP 14 ?_; refine tkF 15 ?_
        intro K hK
        go_simp
        refine hK.out _ _ ?_
        clear hK K
        refine wpAnyM_done (by kernel_rfl) ?_ _
        clear hHeld
        have h6 := H5.out.write 1 rfl 1 (.slice a' (j + 1) c')
        obtain ⟨w6, hw6⟩ : ∃ w6, w5.setCell ⟨mb, 1, none⟩ (.slice a' (j + 1) c') = w6 := ⟨_, rfl⟩
        rw [hw6] at h6
        try rw [hw6]
        have h7 := St.toMid (P := [blkA mb #[.pointer (some ⟨ab, 0, none⟩), .slice a' (j + 1) c', .slice qa qn qc, .slice none 0 0, .bool false] 100, a5A ab (newAl n top), slA 109 1 (.slice a' (j + 1) c') (j + 1) (bs.map ptr ++ [.pointer (some ⟨sb, 0, none⟩)]), blkA cb #[.int .i64 (n : Nat), .int .i64 (top : Nat), .slice (some ⟨bo, oo, none⟩) m vc, .slice ra r rc] 27] ++ List.zipWith (fun x d => s5A x d 0) bs (ds.take j)) (R := L) (A := s5A sb ⟨kd, var, bd⟩ 0) h6
        have hbl := HBL.out
        have hjm : j ≤ m := Nat.le_of_lt HLT.out
        have HF := Lib.hid (show St w0 w6 (m5N cb mb ab n top (.slice (some ⟨bo, oo, none⟩) m vc) (.slice ra r rc) qa qn qc a' (j + 1) c' (bs ++ [sb]) (ds.take (j + 1)) ++ L) by
          unfold m5N
          rw [HTK.out, List.zipWith_append (by rw [hbl, List.length_take, HM.out]; omega), List.map_append]
          have e : ∀ (P Q : List Asr) (A : Asr) (R : List Asr), (P ++ (Q ++ [A])) ++ R = (P ++ Q) ++ A :: R := fun P Q A R => by simp
          rw [show List.zipWith (fun x d => s5A x d 0) [sb] [(⟨kd, var, bd⟩ : DescV)] = [s5A sb ⟨kd, var, bd⟩ 0] from rfl, e]
          exact h7)
        clear h6 h7 hw6 m1 y1 y2 y2' d0 d1 d2 f0 f1 f2 hbl hjm
        go_wp2_with fail
        go_roundg (m - (j + 1))
        case measure => have := HG.out; have := HLT.out; omega
        case rel => exact ⟨j + 1, a', c', bs ++ [sb], by have := HG.out; have := HLT.out; omega, by go_num, by rw [List.length_append, HBL.out]; rfl, HF.out⟩
      · have hjm : j = m := by omega
        subst hjm
        have e1 : decide ((j : Int) < (j : Int)) = false := decide_eq_false (by omega)
        clear hg hst
        go_wp2_with fail
        go_ret
        refine ⟨mb, rfl, ?_⟩
        have h5 := HST.out
        rw [List.take_of_length_le (by rw [HM.out]; exact Nat.le_refl _)] at h5
        have hxl : (ds.map fun d => (d, 0)).length = j := by rw [List.length_map, HM.out]
        have h6 := (h5.add (Keep.refl _ _) (A := pureA (bs.length = (ds.map fun d => ((d, 0) : DescV × Nat)).length)) (by rw [hxl]; exact HBL.out)).first
        have h7 := St.sel (P := [_, _, _, _, _]) (P' := [_, _, _, _]) (R := List.zipWith (fun x d => s5A x d 0) bs ds ++ L) [1, 2, 3, 0] h6 (by decide) rfl rfl
        refine St.m5Shut (xs := ds.map fun d => (d, 0)) (p := ⟨ab, a, c, bs, qa, qn, qc⟩) (by rw [List.map_map]; exact List.map_id _) (fun e he => ?_) ?_
        · obtain ⟨d, _, rfl⟩ := List.mem_map.1 he
          exact Nat.le_refl _
        · unfold m5L m5Cs
          simp only [hxl]
          rw [List.zipWith_map_right]
          rw [hxl] at h7
          exact h7
end Go.Proofs.YtkiikblpgppmkaaGreatDoor

namespace Go.Proofs.YtkiikblpgppmkaaGreatDoor
open Go Go.RowKit
set_option linter.unusedVariables false
set_option linter.unusedSimpArgs false

def cfgN (x : Int) : Nat := (x % 256 % 14 + 1).toNat
theorem cfgN_le (x : Int) : 1 ≤ cfgN x ∧ cfgN x ≤ 14 := by unfold cfgN; omega
def RetCfg (w0 : World) (L : List Asr) (x : Int) (l : List Int) (e : Ending) (w' : World) : Prop :=
  ∃ (a : Option Addr) (n c rb : Nat), e = .returned (.agg #[.int .i64 (cfgN x : Nat), .int .i64 3, .slice a n c, .slice (some ⟨rb, 0, none⟩) 2 2]) ∧ (lawDs l).length = n ∧ St w0 w' (slA 60 3 (.slice a n c) n (flatDesc (lawDs l)) :: slA 2 1 (.slice (some ⟨rb, 0, none⟩) 2 2) 2 [.int .i64 3, .int .i64 (-7)] :: L)
set_option maxRecDepth 100000 in
set_option maxHeartbeats 2000000 in
theorem law_config {w0 w : World} {L : List Asr} (H : St w0 w L) (x : Int) (l : List Int) (v : Value) (hv : ReadIn w0 L v l.length (ints l)) :
    Calls Tryz.prog 34 #[.int .i64 x, .int .i64 2, v] w (RetCfg w0 L x l) := by
  obtain ⟨s, hs, hs1, hs2⟩ : ∃ s : Nat, (bits .and .i64 x 255).tmod 14 = (s : Int) - 1 ∧ 1 ≤ s ∧ cfgN x = s := by
    have e : bits .and .i64 x 255 = x % 256 := by rw [and_mask x 8 255 (by decide) rfl]; rfl
    have h0 : 0 ≤ x % 256 := by omega
    rw [e, Int.tmod_eq_emod_of_nonneg h0]
    exact ⟨cfgN x, by unfold cfgN; omega, by unfold cfgN; omega, rfl⟩
  have hs3 : (s : Int) - 1 + 1 = s := by omega
  have hs14 : s ≤ 14 := by have := (cfgN_le x).2; omega
  have h23 : bits .and .i64 2 3 = 2 := by decide
  have HB := H.box0 #[.int .i64 0, .int .i64 0, .slice none 0 0, .slice none 0 0] 27
  obtain ⟨cb, hcb⟩ : ∃ cb, w.heap.size = cb := ⟨_, rfl⟩
  obtain ⟨wa, hwa⟩ : ∃ wa, w.alloc (.cells #[.int .i64 0, .int .i64 0, .slice none 0 0, .slice none 0 0] 27) = wa := ⟨_, rfl⟩
  rw [hwa, hcb] at HB
  have HD := Lib.hid (law_descs HB l v hv.cons)
  have HS := Lib.hid hs2
  clear H HB hv hs2
  unfold RetCfg
  rw [HS.out]
  go_enter Tryz.func34, Tryz.ntmps34
  go_upto_region 1 with fail
  try rw [hwa]
  try rw [hcb]
  clear hwa hcb
  go_wp2_with (go_at_call 76; refine HD.out.mono ?_; rintro e w1 ⟨a, n, c, rfl, hn, h1⟩; have H1 := Lib.hid (h1.lit 2 1 2 #[.int .i64 3, .int .i64 (-7)] (by decide) rfl).first; have HN := Lib.hid hn; clear h1 hn HD; have z0 := (H1.out.blk 2 rfl).cell 0; have z1 := (H1.out.blk 2 rfl).cell 1; have z2 := (H1.out.blk 2 rfl).cell 2; have z3 := (H1.out.blk 2 rfl).cell 3; have y0 := (H1.out.blk 2 rfl).frozen 0; have y1 := (H1.out.blk 2 rfl).frozen 1; have y2 := (H1.out.blk 2 rfl).frozen 2; have y3 := (H1.out.blk 2 rfl).frozen 3; simp at z0 z1 z2 z3)
  obtain ⟨w2, hw2⟩ : ∃ w2, w1.alloc (.cells #[.int .i64 3, .int .i64 (-7)] 2) = w2 := ⟨_, rfl⟩
  obtain ⟨rb, hrb⟩ : ∃ rb, w1.heap.size = rb := ⟨_, rfl⟩
  rw [hw2, hrb] at H1
  rw [hw2, hrb]
  have h5 := (((H1.out.write 2 rfl 0 (.int .i64 (s : Nat))).write 2 rfl 1 (.int .i64 3)).write 2 rfl 2 (.slice a n c)).write 2 rfl 3 (.slice (some ⟨rb, 0, none⟩) 2 2)
  obtain ⟨w5, hw5⟩ : ∃ w5, (((w2.setCell ⟨cb, 0, none⟩ (.int .i64 (s : Nat))).setCell ⟨cb, 1, none⟩ (.int .i64 3)).setCell ⟨cb, 2, none⟩ (.slice a n c)).setCell ⟨cb, 3, none⟩ (.slice (some ⟨rb, 0, none⟩) 2 2) = w5 := ⟨_, rfl⟩
  rw [hw5] at h5
  try rw [hw5]
  have h6 := St.sel (P := [_, _, _]) (P' := [_, _]) (R := L) [1, 0] h5 (by decide) rfl rfl
  have hb := h5.blk 2 rfl
  have q0 := hb.cell 0
  have q1 := hb.cell 1
  have q2 := hb.cell 2
  have q3 := hb.cell 3
  simp at q0 q1 q2 q3
  refine bodyPost_ret (v := .agg #[.int .i64 (s : Nat), .int .i64 3, .slice a n c, .slice (some ⟨rb, 0, none⟩) 2 2]) (by simp [results, Tryz.results34, go_sem, q0, q1, q2, q3]) rfl ⟨a, n, c, rb, rfl, HN.out, h6⟩
end Go.Proofs.YtkiikblpgppmkaaGreatDoor

namespace Go.Proofs.YtkiikblpgppmkaaGreatDoor
open Go Go.RowKit
set_option linter.unusedVariables false
set_option linter.unusedSimpArgs false

theorem St.ofMidB {w0 w : World} {A B : Asr} {P R : List Asr} (h : St w0 w (P ++ A :: B :: R)) : St w0 w (B :: (P ++ A :: R)) := by
  have h1 : St w0 w ((P ++ [A]) ++ B :: R) := by simpa using h
  have h2 := h1.ofMid
  simpa using h2
theorem St.toMidB {w0 w : World} {A B : Asr} {P R : List Asr} (h : St w0 w (B :: (P ++ A :: R))) : St w0 w (P ++ A :: B :: R) := by
  have h1 : St w0 w (B :: ((P ++ [A]) ++ R)) := by simpa using h
  have h2 := h1.toMid
  simpa using h2
theorem St.ofMidC {w0 w : World} {A B C : Asr} {P R : List Asr} (h : St w0 w (P ++ A :: B :: C :: R)) : St w0 w (C :: (P ++ A :: B :: R)) := by
  have h1 : St w0 w ((P ++ [A, B]) ++ C :: R) := by simpa using h
  have h2 := h1.ofMid
  simpa using h2
end Go.Proofs.YtkiikblpgppmkaaGreatDoor
