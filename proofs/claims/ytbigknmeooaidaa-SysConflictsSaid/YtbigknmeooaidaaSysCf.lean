/-
  SysConflicts: two systems meddle as the document says, either way about: the walk.
-/
import Derived.Test.YtbigknmeooaidaaChk16
namespace Go.Proofs.Ytbigknmeooaidaa
open Go Go.RowKit
set_option linter.unusedVariables false
set_option linter.unusedSimpArgs false

theorem meet2_self (l : List Int) : meet2 l l = decide (0 < l.length) := by
  cases l with
  | nil => rfl
  | cons a t =>
    have : meet2 (a :: t) (a :: t) = true := meet2_iff.2 ⟨a, by simp, by simp⟩
    rw [this]
    simp
theorem confB_self (a : SysX) : confB a a = (a.al || decide (0 < a.w.l.length) || decide (0 < a.rw'.l.length)) := by
  rw [confB_eq]
  unfold confR
  rw [meet2_self, meet2_self, Bool.and_self]
  have h1 : ∀ l m : List Int, l.length = 0 → meet2 l m = false := by
    intro l m h
    rw [List.eq_nil_of_length_eq_zero h]
    rfl
  by_cases hw : 0 < a.w.l.length
  · simp [hw]
  · have hw0 : a.w.l.length = 0 := by omega
    rw [h1 a.w.l a.r.l hw0, meet2_comm a.r.l a.w.l, h1 a.w.l a.r.l hw0]
    by_cases hr : 0 < a.rw'.l.length
    · simp [hr]
    · have hr0 : a.rw'.l.length = 0 := by omega
      rw [h1 a.rw'.l a.rr.l hr0, meet2_comm a.rr.l a.rw'.l, h1 a.rw'.l a.rr.l hr0]
      simp [hw, hr]

set_option maxRecDepth 5000 in
set_option maxHeartbeats 4000000 in
theorem sysConflicts_walk (a b : SysX) (w : World) (S : Nat → Prop) (ha : UseRd S w a) (hb : UseRd S w b) :
    Calls Try.prog 6 #[a.val, b.val] w (fun e w' => e = .returned (.bool true) ∧ Keep w w' Nope) := by
  have hS1 := fun wq => law_Short a wq
  have hS2 := fun wq => law_Short b wq
  have hR := fun wq (hk : Keep w wq Nope) => ref_conflict a b wq S S (ha.keep0 hk) (hb.keep0 hk)
  have hC1 := fun wq (hk : Keep w wq Nope) => sys_conflict a b wq S (ha.keep0 hk) (hb.keep0 hk)
  have hC2 := fun wq (hk : Keep w wq Nope) => sys_conflict b a wq S (hb.keep0 hk) (ha.keep0 hk)
  have hC3 := fun wq (hk : Keep w wq Nope) => sys_conflict a a wq S (ha.keep0 hk) (ha.keep0 hk)
  have hself := confB_self a
  have hcomm : confB b a = confB a b := by rw [confB_eq, confB_eq, confR_comm]
  obtain ⟨cb, hcb⟩ : ∃ cb, confB a b = cb := ⟨_, rfl⟩
  obtain ⟨cs, hcs⟩ : ∃ cs, confB a a = cs := ⟨_, rfl⟩
  obtain ⟨s1, hs1⟩ : ∃ s, shortB a = s := ⟨_, rfl⟩
  obtain ⟨s2, hs2⟩ : ∃ s, shortB b = s := ⟨_, rfl⟩
  rw [hcs] at hself
  simp only [← confB_eq, hcomm, hcb, hcs, hs1, hs2] at hS1 hS2 hR hC1 hC2 hC3
  clear hcomm hcb hcs hs1 hs2 ha hb
  obtain ⟨⟨ra, rc, rl⟩, ⟨wa, wc, wl⟩, ⟨rra, rrc, rrl⟩, ⟨rwa, rwc, rwl⟩, al, ⟨pla, pln, plc⟩, ⟨cda, cdn, cdc⟩, ⟨afa, afc, afl⟩⟩ := a
  obtain ⟨⟨ra2, rc2, rl2⟩, ⟨wa2, wc2, wl2⟩, ⟨rra2, rrc2, rrl2⟩, ⟨rwa2, rwc2, rwl2⟩, al2, ⟨pla2, pln2, plc2⟩, ⟨cda2, cdn2, cdc2⟩, ⟨afa2, afc2, afl2⟩⟩ := b
  unfold SysX.val at hS1 hS2 hR hC1 hC2 hC3 ⊢
  obtain ⟨wn, hwn⟩ : ∃ n, wl.length = n := ⟨_, rfl⟩
  obtain ⟨rwn, hrwn⟩ : ∃ n, rwl.length = n := ⟨_, rfl⟩
  simp only [RowV.v, SlV.v, hwn, hrwn] at hself hS1 hS2 hR hC1 hC2 hC3 ⊢
  have S1 := Lib.hid hS1
  have S2 := Lib.hid hS2
  have R1 := Lib.hid (fun wq (_ : Keep w wq Nope) => hS1 wq)
  have R2 := Lib.hid (fun wq (_ : Keep w wq Nope) => hS2 wq)
  have RR := Lib.hid hR
  have C1 := Lib.hid hC1
  have C2 := Lib.hid hC2
  have C3 := Lib.hid hC3
  have HSELF := Lib.hid hself
  clear hS1 hS2 hR hC1 hC2 hC3 hself S1 S2 hwn hrwn
  obtain ⟨w1, hw1⟩ : ∃ w1, w1 = (w.alloc (.cells #[.slice ra rl.length rc, .slice wa wn wc, .slice rra rrl.length rrc, .slice rwa rwn rwc, .bool al, .slice pla pln plc, .slice cda cdn cdc, .slice afa afl.length afc] 35)).alloc (.cells #[.slice ra2 rl2.length rc2, .slice wa2 wl2.length wc2, .slice rra2 rrl2.length rrc2, .slice rwa2 rwl2.length rwc2, .bool al2, .slice pla2 pln2 plc2, .slice cda2 cdn2 cdc2, .slice afa2 afl2.length afc2] 35) := ⟨_, rfl⟩
  have hk1 : Keep w w1 Nope := by rw [hw1]; exact ((Keep.refl w Nope).alloc _).alloc _
  have hba : Blk w1 w.heap.size #[.slice ra rl.length rc, .slice wa wn wc, .slice rra rrl.length rrc, .slice rwa rwn rwc, .bool al, .slice pla pln plc, .slice cda cdn cdc, .slice afa afl.length afc] 35 := by
    rw [hw1]; exact (Blk.new w _ _).keep ((Keep.refl _ Nope).alloc _) (fun f => f)
  have hbb : Blk w1 (w.heap.size + 1) #[.slice ra2 rl2.length rc2, .slice wa2 wl2.length wc2, .slice rra2 rrl2.length rrc2, .slice rwa2 rwl2.length rwc2, .bool al2, .slice pla2 pln2 plc2, .slice cda2 cdn2 cdc2, .slice afa2 afl2.length afc2] 35 := by
    rw [hw1, ← World.size_alloc w]; exact Blk.new _ _ _
  obtain ⟨ga, hga⟩ : ∃ g, g = w.heap.size := ⟨_, rfl⟩
  rw [← hga] at hba hbb
  have HCL := Lib.hid (fun wq (hk : Keep w1 wq Nope) => And.intro (hba.keep hk (fun f => f)) (hbb.keep hk (fun f => f)))
  have HK1 := Lib.hid hk1
  have HW1 := Lib.hid hw1
  have HGA := Lib.hid hga
  have KK := Lib.hid (Keep.refl w1 Nope)
  clear hba hbb hk1 hw1 hga
  have a0 := (HCL.out w1 KK.out).1.cell 0
  have a1 := (HCL.out w1 KK.out).1.cell 1
  have a2 := (HCL.out w1 KK.out).1.cell 2
  have a3 := (HCL.out w1 KK.out).1.cell 3
  have a4 := (HCL.out w1 KK.out).1.cell 4
  have a5 := (HCL.out w1 KK.out).1.cell 5
  have a6 := (HCL.out w1 KK.out).1.cell 6
  have a7 := (HCL.out w1 KK.out).1.cell 7
  have b0 := (HCL.out w1 KK.out).2.cell 0
  have b1 := (HCL.out w1 KK.out).2.cell 1
  have b2 := (HCL.out w1 KK.out).2.cell 2
  have b3 := (HCL.out w1 KK.out).2.cell 3
  have b4 := (HCL.out w1 KK.out).2.cell 4
  have b5 := (HCL.out w1 KK.out).2.cell 5
  have b6 := (HCL.out w1 KK.out).2.cell 6
  have b7 := (HCL.out w1 KK.out).2.cell 7
  simp at a0 a1 a2 a3 a4 a5 a6 a7 b0 b1 b2 b3 b4 b5 b6 b7
  cases s1
  case false =>
    go_enter Try.func6, Try.ntmps6
    go_upto_region 1 with (fail)
    rw [← HW1.out, ← HGA.out]
    go_wp2_with (first | (go_at_call 23; refine (R1.out _ (HK1.out.trans KK.out (fun _ f => f.elim))).mono ?_; rintro e w2 ⟨rfl, hk⟩; have KK := Lib.hid (KK.out.trans hk (fun _ f => f.elim)); clear hk R1 a0 a1 a2 a3 a4 a5 a6 a7 b0 b1 b2 b3 b4 b5 b6 b7; have a0 := (HCL.out w2 KK.out).1.cell 0; have a1 := (HCL.out w2 KK.out).1.cell 1; have a2 := (HCL.out w2 KK.out).1.cell 2; have a3 := (HCL.out w2 KK.out).1.cell 3; have a4 := (HCL.out w2 KK.out).1.cell 4; have a5 := (HCL.out w2 KK.out).1.cell 5; have a6 := (HCL.out w2 KK.out).1.cell 6; have a7 := (HCL.out w2 KK.out).1.cell 7; have b0 := (HCL.out w2 KK.out).2.cell 0; have b1 := (HCL.out w2 KK.out).2.cell 1; have b2 := (HCL.out w2 KK.out).2.cell 2; have b3 := (HCL.out w2 KK.out).2.cell 3; have b4 := (HCL.out w2 KK.out).2.cell 4; have b5 := (HCL.out w2 KK.out).2.cell 5; have b6 := (HCL.out w2 KK.out).2.cell 6; have b7 := (HCL.out w2 KK.out).2.cell 7; simp at a0 a1 a2 a3 a4 a5 a6 a7 b0 b1 b2 b3 b4 b5 b6 b7) | (go_at_call 24; refine (awake21 _).mono ?_; rintro e w9 ⟨rfl, hk⟩; have KK := Lib.hid (KK.out.trans hk (fun _ f => f.elim)); clear hk))
    go_ret
    exact ⟨rfl, HK1.out.trans KK.out (fun _ f => f.elim)⟩
  cases s2
  case false =>
    go_enter Try.func6, Try.ntmps6
    go_upto_region 1 with (fail)
    rw [← HW1.out, ← HGA.out]
    go_wp2_with (first | (go_at_call 23; refine (R1.out _ (HK1.out.trans KK.out (fun _ f => f.elim))).mono ?_; rintro e w2 ⟨rfl, hk⟩; have KK := Lib.hid (KK.out.trans hk (fun _ f => f.elim)); clear hk R1 a0 a1 a2 a3 a4 a5 a6 a7 b0 b1 b2 b3 b4 b5 b6 b7; have a0 := (HCL.out w2 KK.out).1.cell 0; have a1 := (HCL.out w2 KK.out).1.cell 1; have a2 := (HCL.out w2 KK.out).1.cell 2; have a3 := (HCL.out w2 KK.out).1.cell 3; have a4 := (HCL.out w2 KK.out).1.cell 4; have a5 := (HCL.out w2 KK.out).1.cell 5; have a6 := (HCL.out w2 KK.out).1.cell 6; have a7 := (HCL.out w2 KK.out).1.cell 7; have b0 := (HCL.out w2 KK.out).2.cell 0; have b1 := (HCL.out w2 KK.out).2.cell 1; have b2 := (HCL.out w2 KK.out).2.cell 2; have b3 := (HCL.out w2 KK.out).2.cell 3; have b4 := (HCL.out w2 KK.out).2.cell 4; have b5 := (HCL.out w2 KK.out).2.cell 5; have b6 := (HCL.out w2 KK.out).2.cell 6; have b7 := (HCL.out w2 KK.out).2.cell 7; simp at a0 a1 a2 a3 a4 a5 a6 a7 b0 b1 b2 b3 b4 b5 b6 b7) | (go_at_call 23; refine (R2.out _ (HK1.out.trans KK.out (fun _ f => f.elim))).mono ?_; rintro e w3 ⟨rfl, hk⟩; have KK := Lib.hid (KK.out.trans hk (fun _ f => f.elim)); clear hk R2 a0 a1 a2 a3 a4 a5 a6 a7 b0 b1 b2 b3 b4 b5 b6 b7; have a0 := (HCL.out w3 KK.out).1.cell 0; have a1 := (HCL.out w3 KK.out).1.cell 1; have a2 := (HCL.out w3 KK.out).1.cell 2; have a3 := (HCL.out w3 KK.out).1.cell 3; have a4 := (HCL.out w3 KK.out).1.cell 4; have a5 := (HCL.out w3 KK.out).1.cell 5; have a6 := (HCL.out w3 KK.out).1.cell 6; have a7 := (HCL.out w3 KK.out).1.cell 7; have b0 := (HCL.out w3 KK.out).2.cell 0; have b1 := (HCL.out w3 KK.out).2.cell 1; have b2 := (HCL.out w3 KK.out).2.cell 2; have b3 := (HCL.out w3 KK.out).2.cell 3; have b4 := (HCL.out w3 KK.out).2.cell 4; have b5 := (HCL.out w3 KK.out).2.cell 5; have b6 := (HCL.out w3 KK.out).2.cell 6; have b7 := (HCL.out w3 KK.out).2.cell 7; simp at a0 a1 a2 a3 a4 a5 a6 a7 b0 b1 b2 b3 b4 b5 b6 b7) | (go_at_call 24; refine (awake21 _).mono ?_; rintro e w9 ⟨rfl, hk⟩; have KK := Lib.hid (KK.out.trans hk (fun _ f => f.elim)); clear hk))
    go_ret
    exact ⟨rfl, HK1.out.trans KK.out (fun _ f => f.elim)⟩
  have hcase : (al = true ∧ cs = true) ∨ (al = false ∧ 0 < wn ∧ cs = true) ∨ (al = false ∧ wn = 0 ∧ 0 < rwn ∧ cs = true) ∨ (al = false ∧ wn = 0 ∧ rwn = 0 ∧ cs = false) := by
    have h := HSELF.out
    cases al
    · by_cases h1 : 0 < wn
      · right; left; exact ⟨rfl, h1, by simpa [h1] using h⟩
      · by_cases h2 : 0 < rwn
        · right; right; left; exact ⟨rfl, by omega, h2, by simpa [h2] using h⟩
        · right; right; right; exact ⟨rfl, by omega, by omega, by simpa [h1, h2] using h⟩
    · left; exact ⟨rfl, by simpa using h⟩
  clear HSELF
  go_enter Try.func6, Try.ntmps6
  go_upto_region 1 with (fail)
  rw [← HW1.out, ← HGA.out]
  go_upto_region 4 with (first | (go_at_call 23; refine (R1.out _ (HK1.out.trans KK.out (fun _ f => f.elim))).mono ?_; rintro e w2 ⟨rfl, hk⟩; have KK := Lib.hid (KK.out.trans hk (fun _ f => f.elim)); clear hk R1 a0 a1 a2 a3 a4 a5 a6 a7 b0 b1 b2 b3 b4 b5 b6 b7; have a0 := (HCL.out w2 KK.out).1.cell 0; have a1 := (HCL.out w2 KK.out).1.cell 1; have a2 := (HCL.out w2 KK.out).1.cell 2; have a3 := (HCL.out w2 KK.out).1.cell 3; have a4 := (HCL.out w2 KK.out).1.cell 4; have a5 := (HCL.out w2 KK.out).1.cell 5; have a6 := (HCL.out w2 KK.out).1.cell 6; have a7 := (HCL.out w2 KK.out).1.cell 7; have b0 := (HCL.out w2 KK.out).2.cell 0; have b1 := (HCL.out w2 KK.out).2.cell 1; have b2 := (HCL.out w2 KK.out).2.cell 2; have b3 := (HCL.out w2 KK.out).2.cell 3; have b4 := (HCL.out w2 KK.out).2.cell 4; have b5 := (HCL.out w2 KK.out).2.cell 5; have b6 := (HCL.out w2 KK.out).2.cell 6; have b7 := (HCL.out w2 KK.out).2.cell 7; simp at a0 a1 a2 a3 a4 a5 a6 a7 b0 b1 b2 b3 b4 b5 b6 b7) | (go_at_call 23; refine (R2.out _ (HK1.out.trans KK.out (fun _ f => f.elim))).mono ?_; rintro e w3 ⟨rfl, hk⟩; have KK := Lib.hid (KK.out.trans hk (fun _ f => f.elim)); clear hk R2 a0 a1 a2 a3 a4 a5 a6 a7 b0 b1 b2 b3 b4 b5 b6 b7; have a0 := (HCL.out w3 KK.out).1.cell 0; have a1 := (HCL.out w3 KK.out).1.cell 1; have a2 := (HCL.out w3 KK.out).1.cell 2; have a3 := (HCL.out w3 KK.out).1.cell 3; have a4 := (HCL.out w3 KK.out).1.cell 4; have a5 := (HCL.out w3 KK.out).1.cell 5; have a6 := (HCL.out w3 KK.out).1.cell 6; have a7 := (HCL.out w3 KK.out).1.cell 7; have b0 := (HCL.out w3 KK.out).2.cell 0; have b1 := (HCL.out w3 KK.out).2.cell 1; have b2 := (HCL.out w3 KK.out).2.cell 2; have b3 := (HCL.out w3 KK.out).2.cell 3; have b4 := (HCL.out w3 KK.out).2.cell 4; have b5 := (HCL.out w3 KK.out).2.cell 5; have b6 := (HCL.out w3 KK.out).2.cell 6; have b7 := (HCL.out w3 KK.out).2.cell 7; simp at a0 a1 a2 a3 a4 a5 a6 a7 b0 b1 b2 b3 b4 b5 b6 b7) | (go_at_call 12; refine (RR.out _ (HK1.out.trans KK.out (fun _ f => f.elim))).mono ?_; rintro e w4 ⟨rfl, hk⟩; have KK := Lib.hid (KK.out.trans hk (fun _ f => f.elim)); clear hk RR a0 a1 a2 a3 a4 a5 a6 a7 b0 b1 b2 b3 b4 b5 b6 b7; have a0 := (HCL.out w4 KK.out).1.cell 0; have a1 := (HCL.out w4 KK.out).1.cell 1; have a2 := (HCL.out w4 KK.out).1.cell 2; have a3 := (HCL.out w4 KK.out).1.cell 3; have a4 := (HCL.out w4 KK.out).1.cell 4; have a5 := (HCL.out w4 KK.out).1.cell 5; have a6 := (HCL.out w4 KK.out).1.cell 6; have a7 := (HCL.out w4 KK.out).1.cell 7; have b0 := (HCL.out w4 KK.out).2.cell 0; have b1 := (HCL.out w4 KK.out).2.cell 1; have b2 := (HCL.out w4 KK.out).2.cell 2; have b3 := (HCL.out w4 KK.out).2.cell 3; have b4 := (HCL.out w4 KK.out).2.cell 4; have b5 := (HCL.out w4 KK.out).2.cell 5; have b6 := (HCL.out w4 KK.out).2.cell 6; have b7 := (HCL.out w4 KK.out).2.cell 7; simp at a0 a1 a2 a3 a4 a5 a6 a7 b0 b1 b2 b3 b4 b5 b6 b7))
  rcases hcase with ⟨rfl, rfl⟩ | ⟨rfl, hw, rfl⟩ | ⟨rfl, rfl, hw, rfl⟩ | ⟨rfl, rfl, rfl, rfl⟩
  · cases cb
    all_goals
      go_wp2_with (first | (go_at_call 25; refine (C1.out _ (HK1.out.trans KK.out (fun _ f => f.elim))).mono ?_; rintro e w5 ⟨rfl, hk⟩; have KK := Lib.hid (KK.out.trans hk (fun _ f => f.elim)); clear hk C1 a0 a1 a2 a3 a4 a5 a6 a7 b0 b1 b2 b3 b4 b5 b6 b7; have a0 := (HCL.out w5 KK.out).1.cell 0; have a1 := (HCL.out w5 KK.out).1.cell 1; have a2 := (HCL.out w5 KK.out).1.cell 2; have a3 := (HCL.out w5 KK.out).1.cell 3; have a4 := (HCL.out w5 KK.out).1.cell 4; have a5 := (HCL.out w5 KK.out).1.cell 5; have a6 := (HCL.out w5 KK.out).1.cell 6; have a7 := (HCL.out w5 KK.out).1.cell 7; have b0 := (HCL.out w5 KK.out).2.cell 0; have b1 := (HCL.out w5 KK.out).2.cell 1; have b2 := (HCL.out w5 KK.out).2.cell 2; have b3 := (HCL.out w5 KK.out).2.cell 3; have b4 := (HCL.out w5 KK.out).2.cell 4; have b5 := (HCL.out w5 KK.out).2.cell 5; have b6 := (HCL.out w5 KK.out).2.cell 6; have b7 := (HCL.out w5 KK.out).2.cell 7; simp at a0 a1 a2 a3 a4 a5 a6 a7 b0 b1 b2 b3 b4 b5 b6 b7) | (go_at_call 25; refine (C2.out _ (HK1.out.trans KK.out (fun _ f => f.elim))).mono ?_; rintro e w6 ⟨rfl, hk⟩; have KK := Lib.hid (KK.out.trans hk (fun _ f => f.elim)); clear hk C2 a0 a1 a2 a3 a4 a5 a6 a7 b0 b1 b2 b3 b4 b5 b6 b7; have a0 := (HCL.out w6 KK.out).1.cell 0; have a1 := (HCL.out w6 KK.out).1.cell 1; have a2 := (HCL.out w6 KK.out).1.cell 2; have a3 := (HCL.out w6 KK.out).1.cell 3; have a4 := (HCL.out w6 KK.out).1.cell 4; have a5 := (HCL.out w6 KK.out).1.cell 5; have a6 := (HCL.out w6 KK.out).1.cell 6; have a7 := (HCL.out w6 KK.out).1.cell 7; have b0 := (HCL.out w6 KK.out).2.cell 0; have b1 := (HCL.out w6 KK.out).2.cell 1; have b2 := (HCL.out w6 KK.out).2.cell 2; have b3 := (HCL.out w6 KK.out).2.cell 3; have b4 := (HCL.out w6 KK.out).2.cell 4; have b5 := (HCL.out w6 KK.out).2.cell 5; have b6 := (HCL.out w6 KK.out).2.cell 6; have b7 := (HCL.out w6 KK.out).2.cell 7; simp at a0 a1 a2 a3 a4 a5 a6 a7 b0 b1 b2 b3 b4 b5 b6 b7) | (go_at_call 25; refine (C3.out _ (HK1.out.trans KK.out (fun _ f => f.elim))).mono ?_; rintro e w7 ⟨rfl, hk⟩; have KK := Lib.hid (KK.out.trans hk (fun _ f => f.elim)); clear hk C3 a0 a1 a2 a3 a4 a5 a6 a7 b0 b1 b2 b3 b4 b5 b6 b7; have a0 := (HCL.out w7 KK.out).1.cell 0; have a1 := (HCL.out w7 KK.out).1.cell 1; have a2 := (HCL.out w7 KK.out).1.cell 2; have a3 := (HCL.out w7 KK.out).1.cell 3; have a4 := (HCL.out w7 KK.out).1.cell 4; have a5 := (HCL.out w7 KK.out).1.cell 5; have a6 := (HCL.out w7 KK.out).1.cell 6; have a7 := (HCL.out w7 KK.out).1.cell 7; have b0 := (HCL.out w7 KK.out).2.cell 0; have b1 := (HCL.out w7 KK.out).2.cell 1; have b2 := (HCL.out w7 KK.out).2.cell 2; have b3 := (HCL.out w7 KK.out).2.cell 3; have b4 := (HCL.out w7 KK.out).2.cell 4; have b5 := (HCL.out w7 KK.out).2.cell 5; have b6 := (HCL.out w7 KK.out).2.cell 6; have b7 := (HCL.out w7 KK.out).2.cell 7; simp at a0 a1 a2 a3 a4 a5 a6 a7 b0 b1 b2 b3 b4 b5 b6 b7) | (go_at_call 24; refine (awake21 _).mono ?_; rintro e w9 ⟨rfl, hk⟩; have KK := Lib.hid (KK.out.trans hk (fun _ f => f.elim)); clear hk))
      go_ret
      exact ⟨rfl, HK1.out.trans KK.out (fun _ f => f.elim)⟩
  · have d1 : decide ((wn : Int) > 0) = true := decide_eq_true (by omega)
    have d1' : decide (0 < wn) = true := decide_eq_true hw
    cases cb
    all_goals
      go_wp2_with (first | (go_at_call 25; refine (C1.out _ (HK1.out.trans KK.out (fun _ f => f.elim))).mono ?_; rintro e w5 ⟨rfl, hk⟩; have KK := Lib.hid (KK.out.trans hk (fun _ f => f.elim)); clear hk C1 a0 a1 a2 a3 a4 a5 a6 a7 b0 b1 b2 b3 b4 b5 b6 b7; have a0 := (HCL.out w5 KK.out).1.cell 0; have a1 := (HCL.out w5 KK.out).1.cell 1; have a2 := (HCL.out w5 KK.out).1.cell 2; have a3 := (HCL.out w5 KK.out).1.cell 3; have a4 := (HCL.out w5 KK.out).1.cell 4; have a5 := (HCL.out w5 KK.out).1.cell 5; have a6 := (HCL.out w5 KK.out).1.cell 6; have a7 := (HCL.out w5 KK.out).1.cell 7; have b0 := (HCL.out w5 KK.out).2.cell 0; have b1 := (HCL.out w5 KK.out).2.cell 1; have b2 := (HCL.out w5 KK.out).2.cell 2; have b3 := (HCL.out w5 KK.out).2.cell 3; have b4 := (HCL.out w5 KK.out).2.cell 4; have b5 := (HCL.out w5 KK.out).2.cell 5; have b6 := (HCL.out w5 KK.out).2.cell 6; have b7 := (HCL.out w5 KK.out).2.cell 7; simp at a0 a1 a2 a3 a4 a5 a6 a7 b0 b1 b2 b3 b4 b5 b6 b7) | (go_at_call 25; refine (C2.out _ (HK1.out.trans KK.out (fun _ f => f.elim))).mono ?_; rintro e w6 ⟨rfl, hk⟩; have KK := Lib.hid (KK.out.trans hk (fun _ f => f.elim)); clear hk C2 a0 a1 a2 a3 a4 a5 a6 a7 b0 b1 b2 b3 b4 b5 b6 b7; have a0 := (HCL.out w6 KK.out).1.cell 0; have a1 := (HCL.out w6 KK.out).1.cell 1; have a2 := (HCL.out w6 KK.out).1.cell 2; have a3 := (HCL.out w6 KK.out).1.cell 3; have a4 := (HCL.out w6 KK.out).1.cell 4; have a5 := (HCL.out w6 KK.out).1.cell 5; have a6 := (HCL.out w6 KK.out).1.cell 6; have a7 := (HCL.out w6 KK.out).1.cell 7; have b0 := (HCL.out w6 KK.out).2.cell 0; have b1 := (HCL.out w6 KK.out).2.cell 1; have b2 := (HCL.out w6 KK.out).2.cell 2; have b3 := (HCL.out w6 KK.out).2.cell 3; have b4 := (HCL.out w6 KK.out).2.cell 4; have b5 := (HCL.out w6 KK.out).2.cell 5; have b6 := (HCL.out w6 KK.out).2.cell 6; have b7 := (HCL.out w6 KK.out).2.cell 7; simp at a0 a1 a2 a3 a4 a5 a6 a7 b0 b1 b2 b3 b4 b5 b6 b7) | (go_at_call 25; refine (C3.out _ (HK1.out.trans KK.out (fun _ f => f.elim))).mono ?_; rintro e w7 ⟨rfl, hk⟩; have KK := Lib.hid (KK.out.trans hk (fun _ f => f.elim)); clear hk C3 a0 a1 a2 a3 a4 a5 a6 a7 b0 b1 b2 b3 b4 b5 b6 b7; have a0 := (HCL.out w7 KK.out).1.cell 0; have a1 := (HCL.out w7 KK.out).1.cell 1; have a2 := (HCL.out w7 KK.out).1.cell 2; have a3 := (HCL.out w7 KK.out).1.cell 3; have a4 := (HCL.out w7 KK.out).1.cell 4; have a5 := (HCL.out w7 KK.out).1.cell 5; have a6 := (HCL.out w7 KK.out).1.cell 6; have a7 := (HCL.out w7 KK.out).1.cell 7; have b0 := (HCL.out w7 KK.out).2.cell 0; have b1 := (HCL.out w7 KK.out).2.cell 1; have b2 := (HCL.out w7 KK.out).2.cell 2; have b3 := (HCL.out w7 KK.out).2.cell 3; have b4 := (HCL.out w7 KK.out).2.cell 4; have b5 := (HCL.out w7 KK.out).2.cell 5; have b6 := (HCL.out w7 KK.out).2.cell 6; have b7 := (HCL.out w7 KK.out).2.cell 7; simp at a0 a1 a2 a3 a4 a5 a6 a7 b0 b1 b2 b3 b4 b5 b6 b7) | (go_at_call 24; refine (awake21 _).mono ?_; rintro e w9 ⟨rfl, hk⟩; have KK := Lib.hid (KK.out.trans hk (fun _ f => f.elim)); clear hk))
      go_ret
      exact ⟨rfl, HK1.out.trans KK.out (fun _ f => f.elim)⟩
  · have d1 : decide ((rwn : Int) > 0) = true := decide_eq_true (by omega)
    have d1' : decide (0 < rwn) = true := decide_eq_true hw
    cases cb
    all_goals
      go_wp2_with (first | (go_at_call 25; refine (C1.out _ (HK1.out.trans KK.out (fun _ f => f.elim))).mono ?_; rintro e w5 ⟨rfl, hk⟩; have KK := Lib.hid (KK.out.trans hk (fun _ f => f.elim)); clear hk C1 a0 a1 a2 a3 a4 a5 a6 a7 b0 b1 b2 b3 b4 b5 b6 b7; have a0 := (HCL.out w5 KK.out).1.cell 0; have a1 := (HCL.out w5 KK.out).1.cell 1; have a2 := (HCL.out w5 KK.out).1.cell 2; have a3 := (HCL.out w5 KK.out).1.cell 3; have a4 := (HCL.out w5 KK.out).1.cell 4; have a5 := (HCL.out w5 KK.out).1.cell 5; have a6 := (HCL.out w5 KK.out).1.cell 6; have a7 := (HCL.out w5 KK.out).1.cell 7; have b0 := (HCL.out w5 KK.out).2.cell 0; have b1 := (HCL.out w5 KK.out).2.cell 1; have b2 := (HCL.out w5 KK.out).2.cell 2; have b3 := (HCL.out w5 KK.out).2.cell 3; have b4 := (HCL.out w5 KK.out).2.cell 4; have b5 := (HCL.out w5 KK.out).2.cell 5; have b6 := (HCL.out w5 KK.out).2.cell 6; have b7 := (HCL.out w5 KK.out).2.cell 7; simp at a0 a1 a2 a3 a4 a5 a6 a7 b0 b1 b2 b3 b4 b5 b6 b7) | (go_at_call 25; refine (C2.out _ (HK1.out.trans KK.out (fun _ f => f.elim))).mono ?_; rintro e w6 ⟨rfl, hk⟩; have KK := Lib.hid (KK.out.trans hk (fun _ f => f.elim)); clear hk C2 a0 a1 a2 a3 a4 a5 a6 a7 b0 b1 b2 b3 b4 b5 b6 b7; have a0 := (HCL.out w6 KK.out).1.cell 0; have a1 := (HCL.out w6 KK.out).1.cell 1; have a2 := (HCL.out w6 KK.out).1.cell 2; have a3 := (HCL.out w6 KK.out).1.cell 3; have a4 := (HCL.out w6 KK.out).1.cell 4; have a5 := (HCL.out w6 KK.out).1.cell 5; have a6 := (HCL.out w6 KK.out).1.cell 6; have a7 := (HCL.out w6 KK.out).1.cell 7; have b0 := (HCL.out w6 KK.out).2.cell 0; have b1 := (HCL.out w6 KK.out).2.cell 1; have b2 := (HCL.out w6 KK.out).2.cell 2; have b3 := (HCL.out w6 KK.out).2.cell 3; have b4 := (HCL.out w6 KK.out).2.cell 4; have b5 := (HCL.out w6 KK.out).2.cell 5; have b6 := (HCL.out w6 KK.out).2.cell 6; have b7 := (HCL.out w6 KK.out).2.cell 7; simp at a0 a1 a2 a3 a4 a5 a6 a7 b0 b1 b2 b3 b4 b5 b6 b7) | (go_at_call 25; refine (C3.out _ (HK1.out.trans KK.out (fun _ f => f.elim))).mono ?_; rintro e w7 ⟨rfl, hk⟩; have KK := Lib.hid (KK.out.trans hk (fun _ f => f.elim)); clear hk C3 a0 a1 a2 a3 a4 a5 a6 a7 b0 b1 b2 b3 b4 b5 b6 b7; have a0 := (HCL.out w7 KK.out).1.cell 0; have a1 := (HCL.out w7 KK.out).1.cell 1; have a2 := (HCL.out w7 KK.out).1.cell 2; have a3 := (HCL.out w7 KK.out).1.cell 3; have a4 := (HCL.out w7 KK.out).1.cell 4; have a5 := (HCL.out w7 KK.out).1.cell 5; have a6 := (HCL.out w7 KK.out).1.cell 6; have a7 := (HCL.out w7 KK.out).1.cell 7; have b0 := (HCL.out w7 KK.out).2.cell 0; have b1 := (HCL.out w7 KK.out).2.cell 1; have b2 := (HCL.out w7 KK.out).2.cell 2; have b3 := (HCL.out w7 KK.out).2.cell 3; have b4 := (HCL.out w7 KK.out).2.cell 4; have b5 := (HCL.out w7 KK.out).2.cell 5; have b6 := (HCL.out w7 KK.out).2.cell 6; have b7 := (HCL.out w7 KK.out).2.cell 7; simp at a0 a1 a2 a3 a4 a5 a6 a7 b0 b1 b2 b3 b4 b5 b6 b7) | (go_at_call 24; refine (awake21 _).mono ?_; rintro e w9 ⟨rfl, hk⟩; have KK := Lib.hid (KK.out.trans hk (fun _ f => f.elim)); clear hk))
      go_ret
      exact ⟨rfl, HK1.out.trans KK.out (fun _ f => f.elim)⟩
  · cases cb
    all_goals
      go_wp2_with (first | (go_at_call 25; refine (C1.out _ (HK1.out.trans KK.out (fun _ f => f.elim))).mono ?_; rintro e w5 ⟨rfl, hk⟩; have KK := Lib.hid (KK.out.trans hk (fun _ f => f.elim)); clear hk C1 a0 a1 a2 a3 a4 a5 a6 a7 b0 b1 b2 b3 b4 b5 b6 b7; have a0 := (HCL.out w5 KK.out).1.cell 0; have a1 := (HCL.out w5 KK.out).1.cell 1; have a2 := (HCL.out w5 KK.out).1.cell 2; have a3 := (HCL.out w5 KK.out).1.cell 3; have a4 := (HCL.out w5 KK.out).1.cell 4; have a5 := (HCL.out w5 KK.out).1.cell 5; have a6 := (HCL.out w5 KK.out).1.cell 6; have a7 := (HCL.out w5 KK.out).1.cell 7; have b0 := (HCL.out w5 KK.out).2.cell 0; have b1 := (HCL.out w5 KK.out).2.cell 1; have b2 := (HCL.out w5 KK.out).2.cell 2; have b3 := (HCL.out w5 KK.out).2.cell 3; have b4 := (HCL.out w5 KK.out).2.cell 4; have b5 := (HCL.out w5 KK.out).2.cell 5; have b6 := (HCL.out w5 KK.out).2.cell 6; have b7 := (HCL.out w5 KK.out).2.cell 7; simp at a0 a1 a2 a3 a4 a5 a6 a7 b0 b1 b2 b3 b4 b5 b6 b7) | (go_at_call 25; refine (C2.out _ (HK1.out.trans KK.out (fun _ f => f.elim))).mono ?_; rintro e w6 ⟨rfl, hk⟩; have KK := Lib.hid (KK.out.trans hk (fun _ f => f.elim)); clear hk C2 a0 a1 a2 a3 a4 a5 a6 a7 b0 b1 b2 b3 b4 b5 b6 b7; have a0 := (HCL.out w6 KK.out).1.cell 0; have a1 := (HCL.out w6 KK.out).1.cell 1; have a2 := (HCL.out w6 KK.out).1.cell 2; have a3 := (HCL.out w6 KK.out).1.cell 3; have a4 := (HCL.out w6 KK.out).1.cell 4; have a5 := (HCL.out w6 KK.out).1.cell 5; have a6 := (HCL.out w6 KK.out).1.cell 6; have a7 := (HCL.out w6 KK.out).1.cell 7; have b0 := (HCL.out w6 KK.out).2.cell 0; have b1 := (HCL.out w6 KK.out).2.cell 1; have b2 := (HCL.out w6 KK.out).2.cell 2; have b3 := (HCL.out w6 KK.out).2.cell 3; have b4 := (HCL.out w6 KK.out).2.cell 4; have b5 := (HCL.out w6 KK.out).2.cell 5; have b6 := (HCL.out w6 KK.out).2.cell 6; have b7 := (HCL.out w6 KK.out).2.cell 7; simp at a0 a1 a2 a3 a4 a5 a6 a7 b0 b1 b2 b3 b4 b5 b6 b7) | (go_at_call 25; refine (C3.out _ (HK1.out.trans KK.out (fun _ f => f.elim))).mono ?_; rintro e w7 ⟨rfl, hk⟩; have KK := Lib.hid (KK.out.trans hk (fun _ f => f.elim)); clear hk C3 a0 a1 a2 a3 a4 a5 a6 a7 b0 b1 b2 b3 b4 b5 b6 b7; have a0 := (HCL.out w7 KK.out).1.cell 0; have a1 := (HCL.out w7 KK.out).1.cell 1; have a2 := (HCL.out w7 KK.out).1.cell 2; have a3 := (HCL.out w7 KK.out).1.cell 3; have a4 := (HCL.out w7 KK.out).1.cell 4; have a5 := (HCL.out w7 KK.out).1.cell 5; have a6 := (HCL.out w7 KK.out).1.cell 6; have a7 := (HCL.out w7 KK.out).1.cell 7; have b0 := (HCL.out w7 KK.out).2.cell 0; have b1 := (HCL.out w7 KK.out).2.cell 1; have b2 := (HCL.out w7 KK.out).2.cell 2; have b3 := (HCL.out w7 KK.out).2.cell 3; have b4 := (HCL.out w7 KK.out).2.cell 4; have b5 := (HCL.out w7 KK.out).2.cell 5; have b6 := (HCL.out w7 KK.out).2.cell 6; have b7 := (HCL.out w7 KK.out).2.cell 7; simp at a0 a1 a2 a3 a4 a5 a6 a7 b0 b1 b2 b3 b4 b5 b6 b7) | (go_at_call 24; refine (awake21 _).mono ?_; rintro e w9 ⟨rfl, hk⟩; have KK := Lib.hid (KK.out.trans hk (fun _ f => f.elim)); clear hk))
      go_ret
      exact ⟨rfl, HK1.out.trans KK.out (fun _ f => f.elim)⟩
end Go.Proofs.Ytbigknmeooaidaa
