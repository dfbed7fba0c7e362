/-
  The package sys: an instruction's fault.
-/
import Derived.Test.YtbigknmeooaidaaChk12
namespace Go.Proofs.Ytbigknmeooaidaa
open Go Go.RowKit
set_option linter.unusedVariables false
set_option linter.unusedSimpArgs false

def hasI (n : Int) (l : List Int) : Bool := decide (n < 32) && hasL l n
set_option maxHeartbeats 400000 in
theorem ins_has (v : Value) (l : List Int) (n : Int) (b : Nat) (w : World) (S : Nat → Prop) (h : Rd S w v l.length (ints l)) (hb : w.cell? ⟨b, 3, none⟩ = some (.int .i64 n)) :
    Calls Try.prog 75 #[v, .pointer (some ⟨b, 0, none⟩)] w (fun e w' => e = .returned (.bool (hasI n l)) ∧ w = w') := by
  have HC := Lib.hid (contains_val n v l w S h)
  obtain ⟨a, c, rfl, _⟩ := id h
  clear h
  unfold hasI
  by_cases h32 : n < 32
  · have d32 : decide (n < 32) = true := decide_eq_true h32
    rw [d32]
    go_enter Try.func75, Try.ntmps75
    go_wp2_with fail
    refine HC.out.mono ?_
    rintro e w' ⟨rfl, rfl⟩
    go_wp2_with fail
    go_ret
    exact ⟨rfl, rfl⟩
  · have d32 : decide (n < 32) = false := decide_eq_false h32
    rw [d32]
    go_enter Try.func75, Try.ntmps75
    go_wp2_with fail
    go_ret
    exact ⟨rfl, rfl⟩

/-- An instruction's fault. -/
def insE (nd : Nat) (x : SysX) (dl : List DescV) (pll : List ColV) (i : InsV) : Int :=
  if i.op == 7 || i.op == 8 || i.op == 9 || i.op == 10 then columnE dl pll i
  else if i.op == 11 then (if hasI i.n (x.rr.l ++ x.rw'.l) then 0 else 19)
  else if i.op == 12 then (if hasI i.n x.rw'.l then 0 else 19)
  else if i.op == 16 || i.op == 17 then (if decide (i.n ≥ (nd : Int)) then 1 else if x.al then 0 else 19)
  else if i.op == 14 || i.op == 15 then (if x.al then 0 else 19) else 0

set_option maxRecDepth 3000 in
set_option maxHeartbeats 4000000 in
theorem sys_ins (cf : CfgV) (y : SysF) (i : InsV) (w : World) (S : Nat → Prop) (h : SysRd S w y) (hd : RdDescs S w (.slice cf.ca cf.dl.length cf.cc) cf.dl) (hn : i.op = 7 ∨ i.op = 8 ∨ i.op = 9 ∨ i.op = 10 → 0 ≤ i.n) (hc : CompsIn cf.dl.length y.pll) (hrw : y.x.rr.l.length + y.x.rw'.l.length ≤ 100000) :
    Calls Try.prog 50 #[cf.val, y.x.val, i.val] w (Ret w (.int .i64 (insE cf.dl.length y.x cf.dl y.pll i))) := by
  have hCol := fun (hh : i.op = 7 ∨ i.op = 8 ∨ i.op = 9 ∨ i.op = 10) wq (hk : Keep w wq Nope) => sys_column cf y i wq S (h.keep0 hk) (hd.keep hk (fun _ _ f => f)) (hn hh) hc
  obtain ⟨r, hr⟩ : ∃ r, insE cf.dl.length y.x cf.dl y.pll i = r := ⟨_, rfl⟩
  rw [hr]
  unfold insE at hr
  have hU := h.use
  have HU := Lib.hid hU
  clear h hU hd hc hn
  obtain ⟨x, pll, cdl⟩ := y
  obtain ⟨⟨ra, rc, rl⟩, ⟨wa, wc, wl⟩, ⟨rra, rrc, rrl⟩, ⟨rwa, rwc, rwl⟩, al, ⟨pla, pln, plc⟩, ⟨cda, cdn, cdc⟩, ⟨afa, afc, afl⟩⟩ := x
  obtain ⟨size, top, ca, cc, dl, cra, crn, crc⟩ := cf
  obtain ⟨op, ir, is, n⟩ := i
  unfold SysX.val CfgV.val InsV.val at hCol ⊢
  simp only [RowV.v, SlV.v] at hr hrw hCol ⊢
  obtain ⟨ce, hce⟩ : ∃ ce, columnE dl pll ⟨op, ir, is, n⟩ = ce := ⟨_, rfl⟩
  rw [hce] at hr
  simp only [hce] at hCol
  clear hce
  obtain ⟨nd, hnd⟩ : ∃ nd, dl.length = nd := ⟨_, rfl⟩
  rw [hnd] at hr ⊢
  simp only [hnd] at hCol
  clear hnd
  have HCol := Lib.hid hCol
  clear hCol
  obtain ⟨w1, hw1⟩ : ∃ w1, w1 = ((w.alloc (.cells #[.int .i64 size, .int .i64 top, .slice ca nd cc, .slice cra crn crc] 56)).alloc (.cells #[.slice ra rl.length rc, .slice wa wl.length wc, .slice rra rrl.length rrc, .slice rwa rwl.length rwc, .bool al, .slice pla pln plc, .slice cda cdn cdc, .slice afa afl.length afc] 35)).alloc (.cells #[.int .i64 op, .int .i64 ir, .int .i64 is, .int .i64 n] 87) := ⟨_, rfl⟩
  have hk1 : Keep w w1 Nope := by rw [hw1]; exact (((Keep.refl w Nope).alloc _).alloc _).alloc _
  have hba : Blk w1 w.heap.size #[.int .i64 size, .int .i64 top, .slice ca nd cc, .slice cra crn crc] 56 := by
    rw [hw1]; exact (Blk.new w _ _).keep (((Keep.refl _ Nope).alloc _).alloc _) (fun f => f)
  have hbb : Blk w1 (w.heap.size + 1) #[.slice ra rl.length rc, .slice wa wl.length wc, .slice rra rrl.length rrc, .slice rwa rwl.length rwc, .bool al, .slice pla pln plc, .slice cda cdn cdc, .slice afa afl.length afc] 35 := by
    rw [hw1, ← World.size_alloc w]; exact (Blk.new _ _ _).keep ((Keep.refl _ Nope).alloc _) (fun f => f)
  have hbc : Blk w1 (w.heap.size + 1 + 1) #[.int .i64 op, .int .i64 ir, .int .i64 is, .int .i64 n] 87 := by
    rw [hw1]
    have := Blk.new ((w.alloc (.cells #[.int .i64 size, .int .i64 top, .slice ca nd cc, .slice cra crn crc] 56)).alloc (.cells #[.slice ra rl.length rc, .slice wa wl.length wc, .slice rra rrl.length rrc, .slice rwa rwl.length rwc, .bool al, .slice pla pln plc, .slice cda cdn cdc, .slice afa afl.length afc] 35)) #[.int .i64 op, .int .i64 ir, .int .i64 is, .int .i64 n] 87
    rw [World.size_alloc, World.size_alloc] at this
    exact this
  obtain ⟨ga, hga⟩ : ∃ g, g = w.heap.size := ⟨_, rfl⟩
  have HK1 := Lib.hid hk1
  have HW1 := Lib.hid hw1
  rw [← hga] at hba hbb hbc
  have HBA := Lib.hid hba
  have HBB := Lib.hid hbb
  have HBC := Lib.hid hbc
  have HGA := Lib.hid hga
  clear hga hba hbb hbc hk1 hw1
  have a0 := HBA.out.cell 0
  have a1 := HBA.out.cell 1
  have a2 := HBA.out.cell 2
  have a3 := HBA.out.cell 3
  have b0 := HBB.out.cell 0
  have b1 := HBB.out.cell 1
  have b2 := HBB.out.cell 2
  have b3 := HBB.out.cell 3
  have b4 := HBB.out.cell 4
  have b5 := HBB.out.cell 5
  have b6 := HBB.out.cell 6
  have b7 := HBB.out.cell 7
  have c0 := HBC.out.cell 0
  have c1 := HBC.out.cell 1
  have c2 := HBC.out.cell 2
  have c3 := HBC.out.cell 3
  simp at a0 a1 a2 a3 b0 b1 b2 b3 b4 b5 b6 b7 c0 c1 c2 c3
  have HR := Lib.hid hr
  clear hr
  have hcat : catR [⟨rra, rrc, rrl⟩, ⟨rwa, rwc, rwl⟩] = rrl ++ rwl := by simp [catR]
  have hCC := slices_Concat (.slice (some ⟨w1.heap.size, 0, none⟩) 2 2) [⟨rra, rrc, rrl⟩, ⟨rwa, rwc, rwl⟩] (w1.alloc (.cells #[.slice rra rrl.length rrc, .slice rwa rwl.length rwc] 23)) _ (rows_lit (w := w1) [⟨rra, rrc, rrl⟩, ⟨rwa, rwc, rwl⟩] 2 rfl (by decide) (fun r hr => by
    simp at hr
    rcases hr with rfl | rfl
    · exact HU.out.rr.keep HK1.out (fun _ _ f => f)
    · exact HU.out.rw'.keep HK1.out (fun _ _ f => f)) _ rfl) (by rw [hcat, List.length_append]; omega)
  rw [hcat] at hCC
  have HCC := Lib.hid hCC
  have HH2 := Lib.hid (ins_has (.slice rwa rwl.length rwc) rwl n (ga + 1 + 1) w1 S (HU.out.rw'.keep HK1.out (fun _ _ f => f)) c3)
  clear hCC hcat
  obtain ⟨h1, hh1⟩ : ∃ b, hasI n (rrl ++ rwl) = b := ⟨_, rfl⟩
  obtain ⟨h2, hh2⟩ : ∃ b, hasI n rwl = b := ⟨_, rfl⟩
  rw [hh1, hh2] at HR
  rw [hh2] at HH2
  have HH1 := Lib.hid hh1
  clear hh1 hh2
  by_cases ho : op = 7 ∨ op = 8 ∨ op = 9 ∨ op = 10
  · have HC := Lib.hid (HCol.out ho w1 HK1.out)
    clear HCol HCC HH2 HH1
    cases al
    all_goals
      rcases ho with rfl | rfl | rfl | rfl
      all_goals
        go_enter Try.func50, Try.ntmps50
        go_upto_region 1 with (fail)
        rw [← HW1.out, ← HGA.out]
        clear HW1 HGA
        go_wp2_with (go_at_call 76; refine HC.out.mono ?_; rintro e w2 ⟨rfl, hk2⟩; have HK2 := Lib.hid (HK1.out.trans hk2 (fun _ f => f.elim)); clear hk2)
        go_ret
        exact ⟨by rw [← HR.out]; rfl, HK2.out⟩
  by_cases h11 : op = 11
  · subst h11
    clear HCol HH2
    cases al
    all_goals
      go_enter Try.func50, Try.ntmps50
      go_upto_region 1 with (fail)
      rw [← HW1.out, ← HGA.out]
      clear HW1 HGA
      go_wp2_with (first | (go_at_call 70; refine HCC.out.mono ?_; rintro e w2 ⟨S2, a2', n2, c2', rfl, hn2, hr2, hk2⟩; have HK2 := Lib.hid (((Keep.refl w1 Nope).alloc _).trans hk2 (fun _ f => f.elim)); have HIN := Lib.hid (ins_has (.slice a2' n2 c2') (rrl ++ rwl) n (ga + 1 + 1) w2 S2 (hn2 ▸ hr2) (HK2.out.cell c3 (fun f => f))); clear hn2 hr2 hk2) | (go_at_call 75; refine HIN.out.mono ?_; rintro e w3 ⟨rfl, rfl⟩; rw [HH1.out]; cases h1))
      all_goals
        go_ret
        exact ⟨by rw [← HR.out]; rfl, HK1.out.trans HK2.out (fun _ f => f.elim)⟩
  by_cases h12 : op = 12
  · subst h12
    clear HCol HCC HH1
    cases al
    all_goals
      go_enter Try.func50, Try.ntmps50
      go_upto_region 1 with (fail)
      rw [← HW1.out, ← HGA.out]
      clear HW1 HGA
      cases h2
      all_goals
        go_wp2_with (go_at_call 75; refine HH2.out.mono ?_; rintro e w3 ⟨rfl, rfl⟩)
        go_ret
        exact ⟨by rw [← HR.out]; rfl, HK1.out⟩
  clear HCol HCC HH1 HH2
  by_cases h67 : op = 16 ∨ op = 17
  · by_cases hn : n ≥ (nd : Int)
    · have dn : decide (n ≥ (nd : Int)) = true := decide_eq_true hn
      rw [dn] at HR
      cases al
      all_goals
        rcases h67 with rfl | rfl
        all_goals
          go_enter Try.func50, Try.ntmps50
          go_upto_region 1 with (fail)
          rw [← HW1.out, ← HGA.out]
          clear HW1 HGA
          go_wp2_with fail
          go_ret
          exact ⟨by rw [← HR.out]; rfl, HK1.out⟩
    · have dn : decide (n ≥ (nd : Int)) = false := decide_eq_false hn
      rw [dn] at HR
      cases al
      all_goals
        rcases h67 with rfl | rfl
        all_goals
          go_enter Try.func50, Try.ntmps50
          go_upto_region 1 with (fail)
          rw [← HW1.out, ← HGA.out]
          clear HW1 HGA
          go_wp2_with fail
          go_ret
          exact ⟨by rw [← HR.out]; rfl, HK1.out⟩
  by_cases h45 : op = 14 ∨ op = 15
  · cases al
    all_goals
      rcases h45 with rfl | rfl
      all_goals
        go_enter Try.func50, Try.ntmps50
        go_upto_region 1 with (fail)
        rw [← HW1.out, ← HGA.out]
        clear HW1 HGA
        go_wp2_with fail
        go_ret
        exact ⟨by rw [← HR.out]; rfl, HK1.out⟩
  have q7 : (op == 7) = false := by simp; omega
  have q8 : (op == 8) = false := by simp; omega
  have q9 : (op == 9) = false := by simp; omega
  have q10 : (op == 10) = false := by simp; omega
  have q11 : (op == 11) = false := by simp; omega
  have q12 : (op == 12) = false := by simp; omega
  have q14 : (op == 14) = false := by simp; omega
  have q15 : (op == 15) = false := by simp; omega
  have q16 : (op == 16) = false := by simp; omega
  have q17 : (op == 17) = false := by simp; omega
  rw [q7, q8, q9, q10, q11, q12, q14, q15, q16, q17] at HR
  clear ho h11 h12 h67 h45
  cases al
  all_goals
    go_enter Try.func50, Try.ntmps50
    go_upto_region 1 with (fail)
    rw [← HW1.out, ← HGA.out]
    clear HW1 HGA
    go_wp2_with fail
    go_ret
    exact ⟨by rw [← HR.out]; rfl, HK1.out⟩
end Go.Proofs.Ytbigknmeooaidaa
