/-
  The package sys: may a system be.
-/
import Derived.Test.YtbigknmeooaidaaChk13
namespace Go.Proofs.Ytbigknmeooaidaa
open Go Go.RowKit
set_option linter.unusedVariables false
set_option linter.unusedSimpArgs false

theorem colE_zero {nd : Nat} {ah : List ColV} {c : ColV} (h : colE nd ah c = 0) (hk : c.kind = 2) : 0 ≤ c.comp ∧ c.comp < (nd : Int) := by
  unfold colE at h
  rw [hk] at h
  by_cases h1 : c.comp < 0
  · simp [h1] at h
  · by_cases h2 : c.comp ≥ (nd : Int)
    · simp [h1, h2] at h
    · omega
theorem colsE_zero {nd : Nat} : ∀ {l ah : List ColV}, colsE nd ah l = 0 → ∀ c, c ∈ l → ∃ a, colE nd a c = 0
  | [], _, _, c, hc => by simp at hc
  | x :: t, ah, h, c, hc => by
    unfold colsE at h
    split at h
    · rename_i h0
      rcases List.mem_cons.1 hc with rfl | hc
      · exact ⟨ah, h0⟩
      · exact colsE_zero h c hc
    · rename_i h0
      exact (h0 h).elim
theorem planE_zero {nd : Nat} {l : List ColV} (h : planE nd l = 0) : l.length ≤ 16 ∧ CompsIn nd l := by
  unfold planE at h
  split at h
  · omega
  · split at h
    · rename_i h0
      refine ⟨by omega, fun c hc hk => ?_⟩
      obtain ⟨a, ha⟩ := colsE_zero h0 c hc
      exact colE_zero ha hk
    · rename_i h0
      exact (h0 h).elim
theorem codesB_all {n : Nat} : ∀ {l : List InsV} {k : Nat}, codesB n k l = true → ∀ i, i ∈ l → ∃ b, okI i b = true
  | [], _, _, i, hi => by simp at hi
  | x :: t, k, h, i, hi => by
    unfold codesB at h
    rw [Bool.and_eq_true] at h
    rcases List.mem_cons.1 hi with rfl | hi
    · exact ⟨_, h.1⟩
    · exact codesB_all h.2 i hi
theorem okI_up {x : InsV} {b : Int} (h : okI x b = true) (hu : shU x.op = true) : 0 ≤ x.n := by
  unfold okI at h
  simp only [Bool.and_eq_true] at h
  obtain ⟨⟨_, h5⟩, _⟩ := h
  rw [hu] at h5
  by_cases hn : x.n < 0
  · simp [hn] at h5
  · omega
theorem codeE_zero {l : List InsV} (h : codeE l = 0) : l.length ≤ 16 ∧ ∀ i, i ∈ l → ∃ b, okI i b = true := by
  unfold codeE at h
  split at h
  · omega
  · split at h
    · rename_i h0
      exact ⟨by omega, codesB_all h0⟩
    · omega

def insesE (nd : Nat) (x : SysX) (dl : List DescV) (pll : List ColV) : List InsV → Int
  | [] => 0
  | i :: t => if insE nd x dl pll i = 0 then insesE nd x dl pll t else insE nd x dl pll i
/-- The fault of a system. -/
def sysE (dl : List DescV) (nr : Nat) (y : SysF) : Int :=
  if planE dl.length y.pll = 0 then
    if codeE y.cdl = 0 then
      if usesE dl.length nr y.x y.pll = 0 then insesE dl.length y.x dl y.pll y.cdl else usesE dl.length nr y.x y.pll
    else codeE y.cdl
  else planE dl.length y.pll
theorem risB_len {b : Int} : ∀ {l : List Int} {last : Int}, risB b last l = true → (l.length : Int) ≤ max 0 (b - last - 1)
  | [], _, _ => by simp; omega
  | n :: t, last, h => by
    unfold risB at h
    simp only [Bool.and_eq_true, Bool.not_eq_true', Bool.or_eq_false_iff, decide_eq_false_iff_not] at h
    obtain ⟨⟨h1, h2⟩, h3⟩ := h
    have := risB_len h3
    rw [List.length_cons]
    omega
theorem usesE_ris {nd nr : Nat} {x : SysX} {pll : List ColV} (h : usesE nd nr x pll = 0) : risB nd (-1) x.r.l = true ∧ risB nd (-1) x.w.l = true ∧ risB (min nr 32 : Nat) (-1) x.rr.l = true ∧ risB (min nr 32 : Nat) (-1) x.rw'.l = true := by
  unfold usesE at h
  cases h1 : risB nd (-1) x.r.l
  · rw [h1] at h; cases h
  · cases h2 : risB nd (-1) x.w.l
    · rw [h1, h2] at h; cases h
    · cases h3 : risB (min nr 32 : Nat) (-1) x.rr.l
      · rw [h1, h2, h3] at h; cases h
      · cases h4 : risB (min nr 32 : Nat) (-1) x.rw'.l
        · rw [h1, h2, h3, h4] at h; cases h
        · exact ⟨rfl, rfl, rfl, rfl⟩
theorem usesE_len {nd nr : Nat} {x : SysX} {pll : List ColV} (h : usesE nd nr x pll = 0) : x.rr.l.length + x.rw'.l.length ≤ 64 := by
  obtain ⟨_, _, h3, h4⟩ := usesE_ris h
  have := risB_len h3
  have := risB_len h4
  omega
def LoopSC (w : World) (e : List InsV → Int) (l : List InsV) (g : Nat) (v34 : Value) (wr : World) : Prop :=
  ∃ k : Nat, g + k = l.length ∧ v34 = .int .i64 k ∧ e l = e (l.drop k) ∧ Keep w wr Nope

set_option maxRecDepth 3000 in
set_option maxHeartbeats 4000000 in
theorem sys_Check (cf : CfgV) (y : SysF) (w : World) (S : Nat → Prop) (h : SysRd S w y) (hd : RdDescs S w (.slice cf.ca cf.dl.length cf.cc) cf.dl) (hrw1 : (y.x.r.l.length + y.x.w.l.length) * 8 ≤ 281474976710656) :
    Calls Try.prog 27 #[cf.val, y.x.val] w (Ret w (.int .i64 (sysE cf.dl cf.rn y))) := by
  obtain ⟨r, hr⟩ : ∃ r, sysE cf.dl cf.rn y = r := ⟨_, rfl⟩
  rw [hr]
  unfold sysE at hr
  have hPC := fun wq (hk : Keep w wq Nope) => plan_Check cf.ca cf.dl.length cf.cc y.x.pl.v y.pll wq S (h.pl.keep hk (fun _ _ f => f))
  have hCC := fun wq (hk : Keep w wq Nope) => code_Check y.x.cd.v y.cdl wq S (h.cd.keep hk (fun _ _ f => f))
  have hUC := fun (hz : planE cf.dl.length y.pll = 0) wq (hk : Keep w wq Nope) => sys_uses cf y wq S (h.keep0 hk) (by have := (planE_zero hz).1; omega) hrw1
  have hIC := fun (hz : planE cf.dl.length y.pll = 0) (hz2 : codeE y.cdl = 0) (hz3 : usesE cf.dl.length cf.rn y.x y.pll = 0) (i : InsV) (hi : i ∈ y.cdl) wq (hk : Keep w wq Nope) => sys_ins cf y i wq S (h.keep0 hk) (hd.keep hk (fun _ _ f => f)) (fun ho => by
    obtain ⟨b, hb⟩ := (codeE_zero hz2).2 i hi
    refine okI_up hb ?_
    unfold shU
    exact decide_eq_true (by omega)) (planE_zero hz).2 (by have := usesE_len hz3; omega)
  have hCd := h.cd
  have HCd := Lib.hid hCd
  clear hCd
  obtain ⟨x, pll, cdl⟩ := y
  obtain ⟨⟨ra, rc, rl⟩, ⟨wa, wc, wl⟩, ⟨rra, rrc, rrl⟩, ⟨rwa, rwc, rwl⟩, al, ⟨pla, pln, plc⟩, ⟨cda, cdn, cdc⟩, ⟨afa, afc, afl⟩⟩ := x
  obtain ⟨size, top, ca, cc, dl, cra, crn, crc⟩ := cf
  have hcdn : cdl.length = cdn := by
    obtain ⟨a', c', he, _⟩ := HCd.out
    unfold SlV.v at he
    injection he with _ e2 _
    exact e2.symm
  clear h hd hrw1
  unfold SysX.val CfgV.val at hUC hIC ⊢
  unfold InsV.val at hIC
  simp only [RowV.v, SlV.v] at hr hPC hCC hUC hIC HCd ⊢
  obtain ⟨pe, hpe⟩ : ∃ pe, planE dl.length pll = pe := ⟨_, rfl⟩
  obtain ⟨ce, hce⟩ : ∃ ce, codeE cdl = ce := ⟨_, rfl⟩
  obtain ⟨ue, hue⟩ : ∃ ue, usesE dl.length crn ⟨⟨ra, rc, rl⟩, ⟨wa, wc, wl⟩, ⟨rra, rrc, rrl⟩, ⟨rwa, rwc, rwl⟩, al, ⟨pla, pln, plc⟩, ⟨cda, cdn, cdc⟩, ⟨afa, afc, afl⟩⟩ pll = ue := ⟨_, rfl⟩
  obtain ⟨fe, hfe⟩ : ∃ fe, fe = insE dl.length ⟨⟨ra, rc, rl⟩, ⟨wa, wc, wl⟩, ⟨rra, rrc, rrl⟩, ⟨rwa, rwc, rwl⟩, al, ⟨pla, pln, plc⟩, ⟨cda, cdn, cdc⟩, ⟨afa, afc, afl⟩⟩ dl pll := ⟨_, rfl⟩
  obtain ⟨fs, hfs⟩ : ∃ fs, fs = insesE dl.length ⟨⟨ra, rc, rl⟩, ⟨wa, wc, wl⟩, ⟨rra, rrc, rrl⟩, ⟨rwa, rwc, rwl⟩, al, ⟨pla, pln, plc⟩, ⟨cda, cdn, cdc⟩, ⟨afa, afc, afl⟩⟩ dl pll := ⟨_, rfl⟩
  have hfs0 : fs [] = 0 := by rw [hfs]; rfl
  have hfs1 : ∀ i t, fs (i :: t) = if fe i = 0 then fs t else fe i := by intro i t; rw [hfs, hfe]; rfl
  rw [hpe, hce, hue, ← hfs] at hr
  simp only [hpe, hce, hue, ← hfe] at hPC hCC hUC hIC
  have HPC := Lib.hid hPC
  have HCC := Lib.hid hCC
  have HUC := Lib.hid hUC
  have HIC := Lib.hid hIC
  have HFS0 := Lib.hid hfs0
  have HFS1 := Lib.hid hfs1
  have HR := Lib.hid hr
  clear hPC hCC hUC hIC hpe hce hue hfe hfs hfs0 hfs1 hr
  obtain ⟨nd, hnd⟩ : ∃ nd, dl.length = nd := ⟨_, rfl⟩
  rw [hnd] at HPC HUC HIC ⊢
  clear hnd
  obtain ⟨w1, hw1⟩ : ∃ w1, w1 = (w.alloc (.cells #[.int .i64 size, .int .i64 top, .slice ca nd cc, .slice cra crn crc] 56)).alloc (.cells #[.slice ra rl.length rc, .slice wa wl.length wc, .slice rra rrl.length rrc, .slice rwa rwl.length rwc, .bool al, .slice pla pln plc, .slice cda cdn cdc, .slice afa afl.length afc] 35) := ⟨_, rfl⟩
  have hk1 : Keep w w1 Nope := by rw [hw1]; exact ((Keep.refl w Nope).alloc _).alloc _
  have hba : Blk w1 w.heap.size #[.int .i64 size, .int .i64 top, .slice ca nd cc, .slice cra crn crc] 56 := by
    rw [hw1]; exact (Blk.new w _ _).keep ((Keep.refl _ Nope).alloc _) (fun f => f)
  have hbb : Blk w1 (w.heap.size + 1) #[.slice ra rl.length rc, .slice wa wl.length wc, .slice rra rrl.length rrc, .slice rwa rwl.length rwc, .bool al, .slice pla pln plc, .slice cda cdn cdc, .slice afa afl.length afc] 35 := by
    rw [hw1, ← World.size_alloc w]; exact Blk.new _ _ _
  obtain ⟨ga, hga⟩ : ∃ g, g = w.heap.size := ⟨_, rfl⟩
  rw [← hga] at hba hbb
  have HBA := Lib.hid hba
  have HBB := Lib.hid hbb
  have HK1 := Lib.hid hk1
  have HW1 := Lib.hid hw1
  have HGA := Lib.hid hga
  clear hba hbb hk1 hw1 hga
  have hcl : ∀ wq, Keep w1 wq Nope → (wq.cell? ⟨ga, 0, none⟩ = some (.int .i64 size) ∧ wq.cell? ⟨ga, 1, none⟩ = some (.int .i64 top) ∧ wq.cell? ⟨ga, 2, none⟩ = some (.slice ca nd cc) ∧ wq.cell? ⟨ga, 3, none⟩ = some (.slice cra crn crc)) ∧
      (wq.cell? ⟨ga + 1, 0, none⟩ = some (.slice ra rl.length rc) ∧ wq.cell? ⟨ga + 1, 1, none⟩ = some (.slice wa wl.length wc) ∧ wq.cell? ⟨ga + 1, 2, none⟩ = some (.slice rra rrl.length rrc) ∧ wq.cell? ⟨ga + 1, 3, none⟩ = some (.slice rwa rwl.length rwc) ∧
      wq.cell? ⟨ga + 1, 4, none⟩ = some (.bool al) ∧ wq.cell? ⟨ga + 1, 5, none⟩ = some (.slice pla pln plc) ∧ wq.cell? ⟨ga + 1, 6, none⟩ = some (.slice cda cdn cdc) ∧ wq.cell? ⟨ga + 1, 7, none⟩ = some (.slice afa afl.length afc)) := by
    intro wq hk
    have ha := HBA.out.keep hk (fun f => f)
    have hb := HBB.out.keep hk (fun f => f)
    refine ⟨⟨?_, ?_, ?_, ?_⟩, ?_, ?_, ?_, ?_, ?_, ?_, ?_, ?_⟩ <;> first | (rw [ha.cell]; rfl) | (rw [hb.cell]; rfl)
  have HCL := Lib.hid hcl
  clear hcl HBA HBB
  obtain ⟨⟨a0, a1, a2, a3⟩, b0, b1, b2, b3, b4, b5, b6, b7⟩ := HCL.out w1 (Keep.refl _ _)
  go_enter Try.func27, Try.ntmps27
  go_upto_region 1 with (fail)
  rw [← HW1.out, ← HGA.out]
  clear HW1 HGA
  go_upto_region 2 with (go_at_call 47; refine (HPC.out _ HK1.out).mono ?_; rintro e w2 ⟨rfl, hk2⟩; have HKB := Lib.hid hk2; have HK2 := Lib.hid (HK1.out.trans hk2 (fun _ f => f.elim)); clear hk2)
  clear a0 a1 a2 a3 b0 b1 b2 b3 b4 b5 b6 b7
  by_cases hpe : pe = 0
  case neg =>
    have hne : (pe != 0) = true := bne_iff_ne.2 hpe
    rw [if_neg hpe] at HR
    have HPE := Lib.hid hpe; clear hpe
    go_wp2_with fail
    go_ret
    exact ⟨by rw [← HR.out]; rfl, HK2.out⟩
  subst hpe
  rw [if_pos rfl] at HR
  obtain ⟨⟨a0, a1, a2, a3⟩, b0, b1, b2, b3, b4, b5, b6, b7⟩ := HCL.out w2 HKB.out
  go_upto_region 5 with (go_at_call 48; refine (HCC.out _ HK2.out).mono ?_; rintro e w3 ⟨rfl, hk2⟩; have HKC := Lib.hid (HKB.out.trans hk2 (fun _ f => f.elim)); have HK3 := Lib.hid (HK2.out.trans hk2 (fun _ f => f.elim)); clear hk2)
  clear a0 a1 a2 a3 b0 b1 b2 b3 b4 b5 b6 b7
  by_cases hce : ce = 0
  case neg =>
    have hne : (ce != 0) = true := bne_iff_ne.2 hce
    rw [if_neg hce] at HR
    have HCE := Lib.hid hce; clear hce
    go_wp2_with fail
    go_ret
    exact ⟨by rw [← HR.out]; rfl, HK3.out⟩
  subst hce
  rw [if_pos rfl] at HR
  obtain ⟨⟨a0, a1, a2, a3⟩, b0, b1, b2, b3, b4, b5, b6, b7⟩ := HCL.out w3 HKC.out
  go_upto_region 8 with (go_at_call 49; refine (HUC.out (by trivial) _ HK3.out).mono ?_; rintro e w4 ⟨rfl, hk2⟩; have HKD := Lib.hid (HKC.out.trans hk2 (fun _ f => f.elim)); have HK4 := Lib.hid (HK3.out.trans hk2 (fun _ f => f.elim)); clear hk2)
  clear a0 a1 a2 a3 b0 b1 b2 b3 b4 b5 b6 b7
  by_cases hue : ue = 0
  case neg =>
    have hne : (ue != 0) = true := bne_iff_ne.2 hue
    rw [if_neg hue] at HR
    have HUE := Lib.hid hue; clear hue
    go_wp2_with fail
    go_ret
    exact ⟨by rw [← HR.out]; rfl, HK4.out⟩
  subst hue
  rw [if_pos rfl] at HR
  obtain ⟨⟨a0, a1, a2, a3⟩, b0, b1, b2, b3, b4, b5, b6, b7⟩ := HCL.out w4 HKD.out
  rw [← hcdn] at b6
  have hcd63 : cdl.length ≤ 9223372036854775807 := by
    obtain ⟨a', c', he, g1, g2, _⟩ := HCd.out
    unfold maxLen at g2
    omega
  go_wp2_with fail
  go_loopg [34] cdl.length (fun g v34 wr => LoopSC w4 fs cdl g v34 wr)
  case atStart => exact ⟨0, rfl, rfl, rfl, Keep.refl _ _⟩
  case round =>
    obtain ⟨k, hk, rfl, hfk, hkp⟩ := hrel
    have hkl : k ≤ cdl.length := by omega
    have HK := Lib.hid hk; clear hk
    have HF := Lib.hid hfk; clear hfk
    have HKP := Lib.hid hkp; clear hkp
    have HKW := Lib.hid (HK4.out.trans HKP.out (fun _ f => f.elim))
    have HKE := Lib.hid (HKD.out.trans HKP.out (fun _ f => f.elim))
    clear a0 a1 a2 a3 b0 b1 b2 b3 b4 b5 b6 b7
    by_cases hlt : k < cdl.length
    · obtain ⟨x, hx⟩ : ∃ x, cdl[k]? = some x := ⟨_, List.getElem?_eq_getElem hlt⟩
      have hxm := List.mem_of_getElem? hx
      obtain ⟨bo, oo, rfl, _, hc⟩ := (show Rd S wr (.slice cda cdl.length cdc) cdl.length (cdl.flatMap InsV.cells) from hcdn ▸ HCd.out.keep HKW.out (fun _ _ f => f)).elem (cells := InsV.cells) (size := 4) (fun _ => rfl) (by decide) hx
      have c0 := hc 0 (by decide)
      have c1 := hc 1 (by decide)
      have c2 := hc 2 (by decide)
      have c3 := hc 3 (by decide)
      simp only [InsV.cells, List.getElem?_cons_zero, List.getElem?_cons_succ, Nat.add_zero] at c0 c1 c2 c3
      clear hc
      have hdrop : cdl.drop k = x :: cdl.drop (k + 1) := by
        rw [List.drop_eq_getElem_cons hlt]
        congr 1
        exact Option.some.inj ((List.getElem?_eq_getElem hlt).symm.trans hx)
      have hst : fs cdl = if fe x = 0 then fs (cdl.drop (k + 1)) else fe x := by rw [HF.out, hdrop, HFS1.out]
      have hIX := HIC.out (by trivial) (by trivial) (by trivial) x hxm
      obtain ⟨e1, he1⟩ : ∃ e1, fe x = e1 := ⟨_, rfl⟩
      rw [he1] at hst
      simp only [he1] at hIX
      have HIX := Lib.hid hIX
      have HST := Lib.hid hst
      obtain ⟨x1, x2, x3, x4⟩ := x
      simp only at c0 c1 c2 c3 HIX
      clear hst hIX he1 hdrop hx hxm
      go_upto_region 13 with (fail)
      obtain ⟨w5, hw5⟩ : ∃ w5, w5 = wr.alloc (.cells #[.int .i64 x1, .int .i64 x2, .int .i64 x3, .int .i64 x4] 87) := ⟨_, rfl⟩
      have hk5 : Keep wr w5 Nope := by rw [hw5]; exact (Keep.refl wr Nope).alloc _
      have hba : Blk w5 wr.heap.size #[.int .i64 x1, .int .i64 x2, .int .i64 x3, .int .i64 x4] 87 := by rw [hw5]; exact Blk.new wr _ _
      rw [← hw5]
      have d0 := hba.cell 0
      have d1 := hba.cell 1
      have d2 := hba.cell 2
      have d3 := hba.cell 3
      simp at d0 d1 d2 d3
      obtain ⟨gd, hgd⟩ : ∃ g, g = wr.heap.size := ⟨_, rfl⟩
      rw [← hgd] at d0 d1 d2 d3 ⊢
      have HK5 := Lib.hid (HKW.out.trans hk5 (fun _ f => f.elim))
      have HKP5 := Lib.hid (HKP.out.trans hk5 (fun _ f => f.elim))
      obtain ⟨⟨a0, a1, a2, a3⟩, b0, b1, b2, b3, b4, b5, b6, b7⟩ := HCL.out w5 (HKE.out.trans hk5 (fun _ f => f.elim))
      clear hw5 hk5 hba hgd c0 c1 c2 c3
      by_cases h0 : e1 = 0
      · subst h0
        go_wp2_with (go_at_call 50; refine (HIX.out _ HK5.out).mono ?_; rintro e w7 ⟨rfl, hk7⟩; have HK7 := Lib.hid (HKP5.out.trans hk7 (fun _ f => f.elim)); clear hk7)
        go_roundg (cdl.length - (k + 1))
        case measure => have := HK.out; omega
        case rel => exact ⟨k + 1, by omega, by go_num, by rw [HST.out]; exact if_pos trivial, HK7.out⟩
      · have hne : (e1 != 0) = true := bne_iff_ne.2 h0
        rw [if_neg h0] at HST
        have H0 := Lib.hid h0; clear h0
        go_wp2_with (go_at_call 50; refine (HIX.out _ HK5.out).mono ?_; rintro e w7 ⟨rfl, hk7⟩; have HK7 := Lib.hid (HK5.out.trans hk7 (fun _ f => f.elim)); clear hk7)
        go_ret
        exact ⟨by rw [← HR.out, HST.out]; rfl, HK7.out⟩
    · obtain rfl : k = cdl.length := by omega
      have hz : fs cdl = 0 := by rw [HF.out, List.drop_length]; exact HFS0.out
      have HZ := Lib.hid hz; clear hz
      go_wp2_with fail
      go_ret
      exact ⟨by rw [← HR.out, HZ.out]; rfl, HKW.out⟩
end Go.Proofs.Ytbigknmeooaidaa
