/-
  The document: do two systems meddle.
-/
import Derived.Test.YtbigknmeooaidaaConf3
namespace Go.Proofs.Ytbigknmeooaidaa
open Go Go.RowKit
set_option linter.unusedVariables false
set_option linter.unusedSimpArgs false

set_option maxRecDepth 3000 in
set_option maxHeartbeats 4000000 in
theorem ref_conflict (a b : SysX) (w : World) (S S2 : Nat → Prop) (ha : UseRd S w a) (hb : UseRd S2 w b) :
    Calls Try.prog 12 #[a.val, b.val] w (Ret w (.bool (confR a b))) := by
  have hcb : confR a b = (a.al && b.al || meet2 a.w.l b.w.l || meet2 a.w.l b.r.l || meet2 a.r.l b.w.l || meet2 a.rw'.l b.rw'.l || meet2 a.rw'.l b.rr.l || meet2 a.rr.l b.rw'.l) := rfl
  have HCB := Lib.hid hcb; clear hcb
  obtain ⟨cb, hcb⟩ : ∃ cb, confR a b = cb := ⟨_, rfl⟩
  rw [hcb] at HCB ⊢
  clear hcb
  have HA := Lib.hid ha
  have HB := Lib.hid hb
  clear ha hb
  obtain ⟨⟨ra, rc, rl⟩, ⟨wa, wc, wl⟩, ⟨rra, rrc, rrl⟩, ⟨rwa, rwc, rwl⟩, al, pl, cd, ⟨afa, afc, afl⟩⟩ := a
  obtain ⟨⟨ra2, rc2, rl2⟩, ⟨wa2, wc2, wl2⟩, ⟨rra2, rrc2, rrl2⟩, ⟨rwa2, rwc2, rwl2⟩, al2, pl2, cd2, ⟨afa2, afc2, afl2⟩⟩ := b
  simp only at HCB
  unfold SysX.val
  simp only [RowV.v, SlV.v]
  obtain ⟨w1, hw1⟩ : ∃ w1, w1 = (w.alloc (.cells #[.slice ra rl.length rc, .slice wa wl.length wc, .slice rra rrl.length rrc, .slice rwa rwl.length rwc, .bool al, .slice pl.a pl.n pl.c, .slice cd.a cd.n cd.c, .slice afa afl.length afc] 35)).alloc (.cells #[.slice ra2 rl2.length rc2, .slice wa2 wl2.length wc2, .slice rra2 rrl2.length rrc2, .slice rwa2 rwl2.length rwc2, .bool al2, .slice pl2.a pl2.n pl2.c, .slice cd2.a cd2.n cd2.c, .slice afa2 afl2.length afc2] 35) := ⟨_, rfl⟩
  have hk1 : Keep w w1 Nope := by rw [hw1]; exact ((Keep.refl w Nope).alloc _).alloc _
  have hba : Blk w1 w.heap.size #[.slice ra rl.length rc, .slice wa wl.length wc, .slice rra rrl.length rrc, .slice rwa rwl.length rwc, .bool al, .slice pl.a pl.n pl.c, .slice cd.a cd.n cd.c, .slice afa afl.length afc] 35 := by
    rw [hw1]; exact (Blk.new w _ _).keep ((Keep.refl _ Nope).alloc _) (fun f => f)
  have hbb : Blk w1 (w.heap.size + 1) #[.slice ra2 rl2.length rc2, .slice wa2 wl2.length wc2, .slice rra2 rrl2.length rrc2, .slice rwa2 rwl2.length rwc2, .bool al2, .slice pl2.a pl2.n pl2.c, .slice cd2.a cd2.n cd2.c, .slice afa2 afl2.length afc2] 35 := by
    rw [hw1, ← World.size_alloc w]; exact Blk.new _ _ _
  have HB1 := Lib.hid hba
  have HC1 := Lib.hid hbb
  have HK1 := Lib.hid hk1
  have HW1 := Lib.hid hw1
  clear hba hbb hk1 hw1
  go_enter Try.func12, Try.ntmps12
  go_upto_region 1 with (fail)
  rw [← HW1.out]
  clear HW1
  have a0 := HB1.out.cell 0
  have b0 := HC1.out.cell 0
  have a1 := HB1.out.cell 1
  have b1 := HC1.out.cell 1
  have a2 := HB1.out.cell 2
  have b2 := HC1.out.cell 2
  have a3 := HB1.out.cell 3
  have b3 := HC1.out.cell 3
  have a4 := HB1.out.cell 4
  have b4 := HC1.out.cell 4
  simp at a0 a1 a2 a3 a4 b0 b1 b2 b3 b4
  cases hal : (al && al2)
  · have hal2 : al = false ∨ (al = true ∧ al2 = false) := by cases al <;> cases al2 <;> simp at hal ⊢
    obtain ⟨c1, hc1⟩ : ∃ c, meet2 wl wl2 = c := ⟨_, rfl⟩
    obtain ⟨c2, hc2⟩ : ∃ c, meet2 wl rl2 = c := ⟨_, rfl⟩
    obtain ⟨c3, hc3⟩ : ∃ c, meet2 rl wl2 = c := ⟨_, rfl⟩
    obtain ⟨c4, hc4⟩ : ∃ c, meet2 rwl rwl2 = c := ⟨_, rfl⟩
    obtain ⟨c5, hc5⟩ : ∃ c, meet2 rwl rrl2 = c := ⟨_, rfl⟩
    obtain ⟨c6, hc6⟩ : ∃ c, meet2 rrl rwl2 = c := ⟨_, rfl⟩
    rw [hal, hc1, hc2, hc3, hc4, hc5, hc6] at HCB
    have M1 := Lib.hid (fun w5 (hk : Keep w w5 Nope) => (show Calls Try.prog 35 #[.slice wa wl.length wc, .slice wa2 wl2.length wc2] w5 (Ret w5 (.bool (meet2 wl wl2))) from ref_meet _ _ wl wl2 w5 S S2 (HA.out.w'.keep hk (fun _ _ f => f)) (HB.out.w'.keep hk (fun _ _ f => f))))
    rw [hc1] at M1
    have M2 := Lib.hid (fun w5 (hk : Keep w w5 Nope) => (show Calls Try.prog 35 #[.slice wa wl.length wc, .slice ra2 rl2.length rc2] w5 (Ret w5 (.bool (meet2 wl rl2))) from ref_meet _ _ wl rl2 w5 S S2 (HA.out.w'.keep hk (fun _ _ f => f)) (HB.out.r.keep hk (fun _ _ f => f))))
    rw [hc2] at M2
    have M3 := Lib.hid (fun w5 (hk : Keep w w5 Nope) => (show Calls Try.prog 35 #[.slice ra rl.length rc, .slice wa2 wl2.length wc2] w5 (Ret w5 (.bool (meet2 rl wl2))) from ref_meet _ _ rl wl2 w5 S S2 (HA.out.r.keep hk (fun _ _ f => f)) (HB.out.w'.keep hk (fun _ _ f => f))))
    rw [hc3] at M3
    have M4 := Lib.hid (fun w5 (hk : Keep w w5 Nope) => (show Calls Try.prog 35 #[.slice rwa rwl.length rwc, .slice rwa2 rwl2.length rwc2] w5 (Ret w5 (.bool (meet2 rwl rwl2))) from ref_meet _ _ rwl rwl2 w5 S S2 (HA.out.rw'.keep hk (fun _ _ f => f)) (HB.out.rw'.keep hk (fun _ _ f => f))))
    rw [hc4] at M4
    have M5 := Lib.hid (fun w5 (hk : Keep w w5 Nope) => (show Calls Try.prog 35 #[.slice rwa rwl.length rwc, .slice rra2 rrl2.length rrc2] w5 (Ret w5 (.bool (meet2 rwl rrl2))) from ref_meet _ _ rwl rrl2 w5 S S2 (HA.out.rw'.keep hk (fun _ _ f => f)) (HB.out.rr.keep hk (fun _ _ f => f))))
    rw [hc5] at M5
    have M6 := Lib.hid (fun w5 (hk : Keep w w5 Nope) => (show Calls Try.prog 35 #[.slice rra rrl.length rrc, .slice rwa2 rwl2.length rwc2] w5 (Ret w5 (.bool (meet2 rrl rwl2))) from ref_meet _ _ rrl rwl2 w5 S S2 (HA.out.rr.keep hk (fun _ _ f => f)) (HB.out.rw'.keep hk (fun _ _ f => f))))
    rw [hc6] at M6
    clear hc1 hc2 hc3 hc4 hc5 hc6 HA HB
    rcases hal2 with rfl | ⟨rfl, rfl⟩
    all_goals
      clear hal
      go_wp2_with fail
      refine (M1.out w1 HK1.out).mono ?_
      rintro e w2 ⟨rfl, hk⟩
      have HK2 := Lib.hid (HK1.out.trans hk (fun _ f => f.elim))
      have HB2 := Lib.hid (HB1.out.keep hk (fun f => f))
      have HC2 := Lib.hid (HC1.out.keep hk (fun f => f))
      clear a0 a1 a2 a3 a4 b0 b1 b2 b3 b4 hk HB1 HC1 HK1 M1
      cases c1
      · skip
        have a0 := HB2.out.cell 0
        have b0 := HC2.out.cell 0
        have a1 := HB2.out.cell 1
        have b1 := HC2.out.cell 1
        have a2 := HB2.out.cell 2
        have b2 := HC2.out.cell 2
        have a3 := HB2.out.cell 3
        have b3 := HC2.out.cell 3
        have a4 := HB2.out.cell 4
        have b4 := HC2.out.cell 4
        simp at a0 a1 a2 a3 a4 b0 b1 b2 b3 b4
        go_wp2_with fail
        refine (M2.out w2 HK2.out).mono ?_
        rintro e w3 ⟨rfl, hk⟩
        have HK3 := Lib.hid (HK2.out.trans hk (fun _ f => f.elim))
        have HB3 := Lib.hid (HB2.out.keep hk (fun f => f))
        have HC3 := Lib.hid (HC2.out.keep hk (fun f => f))
        clear a0 a1 a2 a3 a4 b0 b1 b2 b3 b4 hk HB2 HC2 HK2 M2
        cases c2
        · skip
          have a0 := HB3.out.cell 0
          have b0 := HC3.out.cell 0
          have a1 := HB3.out.cell 1
          have b1 := HC3.out.cell 1
          have a2 := HB3.out.cell 2
          have b2 := HC3.out.cell 2
          have a3 := HB3.out.cell 3
          have b3 := HC3.out.cell 3
          have a4 := HB3.out.cell 4
          have b4 := HC3.out.cell 4
          simp at a0 a1 a2 a3 a4 b0 b1 b2 b3 b4
          go_wp2_with fail
          refine (M3.out w3 HK3.out).mono ?_
          rintro e w4 ⟨rfl, hk⟩
          have HK4 := Lib.hid (HK3.out.trans hk (fun _ f => f.elim))
          have HB4 := Lib.hid (HB3.out.keep hk (fun f => f))
          have HC4 := Lib.hid (HC3.out.keep hk (fun f => f))
          clear a0 a1 a2 a3 a4 b0 b1 b2 b3 b4 hk HB3 HC3 HK3 M3
          cases c3
          · skip
            have a0 := HB4.out.cell 0
            have b0 := HC4.out.cell 0
            have a1 := HB4.out.cell 1
            have b1 := HC4.out.cell 1
            have a2 := HB4.out.cell 2
            have b2 := HC4.out.cell 2
            have a3 := HB4.out.cell 3
            have b3 := HC4.out.cell 3
            have a4 := HB4.out.cell 4
            have b4 := HC4.out.cell 4
            simp at a0 a1 a2 a3 a4 b0 b1 b2 b3 b4
            go_wp2_with fail
            refine (M4.out w4 HK4.out).mono ?_
            rintro e w5 ⟨rfl, hk⟩
            have HK5 := Lib.hid (HK4.out.trans hk (fun _ f => f.elim))
            have HB5 := Lib.hid (HB4.out.keep hk (fun f => f))
            have HC5 := Lib.hid (HC4.out.keep hk (fun f => f))
            clear a0 a1 a2 a3 a4 b0 b1 b2 b3 b4 hk HB4 HC4 HK4 M4
            cases c4
            · skip
              have a0 := HB5.out.cell 0
              have b0 := HC5.out.cell 0
              have a1 := HB5.out.cell 1
              have b1 := HC5.out.cell 1
              have a2 := HB5.out.cell 2
              have b2 := HC5.out.cell 2
              have a3 := HB5.out.cell 3
              have b3 := HC5.out.cell 3
              have a4 := HB5.out.cell 4
              have b4 := HC5.out.cell 4
              simp at a0 a1 a2 a3 a4 b0 b1 b2 b3 b4
              go_wp2_with fail
              refine (M5.out w5 HK5.out).mono ?_
              rintro e w6 ⟨rfl, hk⟩
              have HK6 := Lib.hid (HK5.out.trans hk (fun _ f => f.elim))
              have HB6 := Lib.hid (HB5.out.keep hk (fun f => f))
              have HC6 := Lib.hid (HC5.out.keep hk (fun f => f))
              clear a0 a1 a2 a3 a4 b0 b1 b2 b3 b4 hk HB5 HC5 HK5 M5
              cases c5
              · skip
                have a0 := HB6.out.cell 0
                have b0 := HC6.out.cell 0
                have a1 := HB6.out.cell 1
                have b1 := HC6.out.cell 1
                have a2 := HB6.out.cell 2
                have b2 := HC6.out.cell 2
                have a3 := HB6.out.cell 3
                have b3 := HC6.out.cell 3
                have a4 := HB6.out.cell 4
                have b4 := HC6.out.cell 4
                simp at a0 a1 a2 a3 a4 b0 b1 b2 b3 b4
                go_wp2_with fail
                refine (M6.out w6 HK6.out).mono ?_
                rintro e w7 ⟨rfl, hk⟩
                have HK7 := Lib.hid (HK6.out.trans hk (fun _ f => f.elim))
                have HB7 := Lib.hid (HB6.out.keep hk (fun f => f))
                have HC7 := Lib.hid (HC6.out.keep hk (fun f => f))
                clear a0 a1 a2 a3 a4 b0 b1 b2 b3 b4 hk HB6 HC6 HK6 M6
                obtain rfl : cb = c6 := by rw [HCB.out]; simp
                go_wp2_with fail
                go_ret
                exact ⟨rfl, HK7.out⟩
              · obtain rfl : cb = true := by rw [HCB.out]; simp
                go_wp2_with fail
                go_ret
                exact ⟨rfl, HK6.out⟩
            · obtain rfl : cb = true := by rw [HCB.out]; simp
              go_wp2_with fail
              go_ret
              exact ⟨rfl, HK5.out⟩
          · obtain rfl : cb = true := by rw [HCB.out]; simp
            go_wp2_with fail
            go_ret
            exact ⟨rfl, HK4.out⟩
        · obtain rfl : cb = true := by rw [HCB.out]; simp
          go_wp2_with fail
          go_ret
          exact ⟨rfl, HK3.out⟩
      · obtain rfl : cb = true := by rw [HCB.out]; simp
        go_wp2_with fail
        go_ret
        exact ⟨rfl, HK2.out⟩
  · obtain rfl : al = true := by cases al <;> simp at hal ⊢
    obtain rfl : al2 = true := by simpa using hal
    obtain rfl : cb = true := by rw [HCB.out]; simp
    go_wp2_with fail
    go_ret
    exact ⟨rfl, HK1.out⟩
end Go.Proofs.Ytbigknmeooaidaa
