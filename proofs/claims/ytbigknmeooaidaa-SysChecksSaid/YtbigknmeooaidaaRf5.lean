/-
  The document's answer for systems: the fault of an instruction.
-/
import Derived.Test.YtbigknmeooaidaaChk13
import Derived.Test.YtbigknmeooaidaaRef1
namespace Go.Proofs.Ytbigknmeooaidaa
open Go Go.RowKit
set_option linter.unusedVariables false
set_option linter.unusedSimpArgs false

theorem has_min {l : List Int} (h : ∀ z, z ∈ l → z < 32) (n : Int) : hasI n l = decide (min n 1048576 ∈ l) := by
  unfold hasI
  by_cases h1 : n < 32
  · rw [decide_eq_true h1, Int.min_eq_left (by omega), Bool.true_and]
    by_cases h2 : n ∈ l
    · rw [hasL_iff.2 h2, decide_eq_true h2]
    · rw [hasL_no.2 h2, decide_eq_false h2]
  · rw [decide_eq_false h1, Bool.false_and]
    exact (decide_eq_false (fun hm => by have := h _ hm; omega)).symm
theorem has_app {n : Int} {a b : List Int} : hasI n (a ++ b) = (hasI n a || hasI n b) := by
  unfold hasI
  rw [show hasL (a ++ b) n = (hasL a n || hasL b n) from by rw [Bool.eq_iff_iff]; simp only [Bool.or_eq_true, hasL_iff, List.mem_append]]
  cases decide (n < 32) <;> simp

set_option maxRecDepth 5000 in
set_option maxHeartbeats 8000000 in
theorem ref_insMay (cf : CfgV) (y : SysF) (i : InsV) (w : World) (S : Nat → Prop) (h : SysRd S w y) (hd : RdDescs S w (.slice cf.ca cf.dl.length cf.cc) cf.dl) (hop : 1 ≤ i.op ∧ i.op ≤ 18) (hn : shU i.op = true → 0 ≤ i.n) (hc : CompsIn cf.dl.length y.pll) (hpl : y.pll.length ≤ 16) (hdl : cf.dl.length ≤ 1000)
    (hrr : Rises y.x.rr.l ∧ ∀ z, z ∈ y.x.rr.l → z < 32) (hrw : Rises y.x.rw'.l ∧ ∀ z, z ∈ y.x.rw'.l → z < 32) (hb1 : y.x.rr.l.length ≤ 1000000000) (hb2 : y.x.rw'.l.length ≤ 1000000000) :
    Calls Try.prog 54 #[cf.val, y.x.val, i.val] w (Ret w (.int .i64 (insE cf.dl.length y.x cf.dl y.pll i))) := by
  obtain ⟨r, hr⟩ : ∃ r, insE cf.dl.length y.x cf.dl y.pll i = r := ⟨_, rfl⟩
  rw [hr]
  obtain ⟨x, pll, cdl⟩ := y
  obtain ⟨⟨ra, rc, rl⟩, ⟨wa, wc, wl⟩, ⟨rra, rrc, rrl⟩, ⟨rwa, rwc, rwl⟩, al, ⟨pla, pln, plc⟩, ⟨cda, cdn, cdc⟩, ⟨afa, afc, afl⟩⟩ := x
  obtain ⟨size, top, ca, cc, dl, cra, crn, crc⟩ := cf
  obtain ⟨op, ir, is, n⟩ := i
  obtain ⟨nn, hnn⟩ : ∃ nn, min n 1048576 = nn := ⟨_, rfl⟩
  have HI1 := Lib.hid (fun wq (hk : Keep w wq Nope) => ref_in (.slice rra rrl.length rrc) rrl nn wq S (h.use.rr.keep hk (fun _ _ f => f)) hrr.1 hb1)
  have HI2 := Lib.hid (fun wq (hk : Keep w wq Nope) => ref_in (.slice rwa rwl.length rwc) rwl nn wq S (h.use.rw'.keep hk (fun _ _ f => f)) hrw.1 hb2)
  have HM1 := Lib.hid (show hasI n rrl = decide (nn ∈ rrl) from by rw [has_min hrr.2, hnn])
  have HM2 := Lib.hid (show hasI n rwl = decide (nn ∈ rwl) from by rw [has_min hrw.2, hnn])
  have hpn : pln = pll.length := by
    obtain ⟨_, _, he, _⟩ := h.pl
    injection he
  subst hpn
  have HP := Lib.hid (show RdCols S w (.slice pla pll.length plc) pll from h.pl)
  have HD := Lib.hid (show RdDescs S w (.slice ca dl.length cc) dl from hd)
  have HCI := Lib.hid (show CompsIn dl.length pll from hc)
  have hn := (show shU op = true → 0 ≤ n from hn)
  have hop := (show 1 ≤ op ∧ op ≤ 18 from hop)
  have hpl := (show pll.length ≤ 16 from hpl)
  have hdl := (show dl.length ≤ 1000 from hdl)
  clear h hd hc hrr hrw hb1 hb2
  unfold SysX.val CfgV.val InsV.val
  simp only [RowV.v, SlV.v]
  obtain ⟨w1, hw1⟩ : ∃ w1, w1 = ((w.alloc (.cells #[.int .i64 size, .int .i64 top, .slice ca dl.length cc, .slice cra crn crc] 56)).alloc (.cells #[.slice ra rl.length rc, .slice wa wl.length wc, .slice rra rrl.length rrc, .slice rwa rwl.length rwc, .bool al, .slice pla pll.length plc, .slice cda cdn cdc, .slice afa afl.length afc] 35)).alloc (.cells #[.int .i64 op, .int .i64 ir, .int .i64 is, .int .i64 n] 87) := ⟨_, rfl⟩
  have hk1 : Keep w w1 Nope := by rw [hw1]; exact (((Keep.refl w Nope).alloc _).alloc _).alloc _
  have hba : Blk w1 w.heap.size #[.int .i64 size, .int .i64 top, .slice ca dl.length cc, .slice cra crn crc] 56 := by
    rw [hw1]; exact (Blk.new w _ _).keep (((Keep.refl _ Nope).alloc _).alloc _) (fun f => f)
  have hbb : Blk w1 (w.heap.size + 1) #[.slice ra rl.length rc, .slice wa wl.length wc, .slice rra rrl.length rrc, .slice rwa rwl.length rwc, .bool al, .slice pla pll.length plc, .slice cda cdn cdc, .slice afa afl.length afc] 35 := by
    rw [hw1, ← World.size_alloc w]; exact (Blk.new _ _ _).keep ((Keep.refl _ Nope).alloc _) (fun f => f)
  have hbc : Blk w1 (w.heap.size + 1 + 1) #[.int .i64 op, .int .i64 ir, .int .i64 is, .int .i64 n] 87 := by
    rw [hw1]
    have := Blk.new ((w.alloc (.cells #[.int .i64 size, .int .i64 top, .slice ca dl.length cc, .slice cra crn crc] 56)).alloc (.cells #[.slice ra rl.length rc, .slice wa wl.length wc, .slice rra rrl.length rrc, .slice rwa rwl.length rwc, .bool al, .slice pla pll.length plc, .slice cda cdn cdc, .slice afa afl.length afc] 35)) #[.int .i64 op, .int .i64 ir, .int .i64 is, .int .i64 n] 87
    rw [World.size_alloc, World.size_alloc] at this
    exact this
  obtain ⟨ga, hga⟩ : ∃ g, g = w.heap.size := ⟨_, rfl⟩
  have HK1 := Lib.hid hk1
  have HW1 := Lib.hid hw1
  rw [← hga] at hba hbb hbc
  have HBA := Lib.hid hba
  have HBB := Lib.hid hbb
  have HBC := Lib.hid hbc
  have HGA := Lib.hid hga
  clear hga hba hbb hbc hk1 hw1
  have a2 := HBA.out.cell 2
  have b2 := HBB.out.cell 2
  have b3 := HBB.out.cell 3
  have b4 := HBB.out.cell 4
  have b5 := HBB.out.cell 5
  have c0 := HBC.out.cell 0
  have c3 := HBC.out.cell 3
  simp at a2 b2 b3 b4 b5 c0 c3
  have HR := Lib.hid hr
  have HNN := Lib.hid hnn
  clear hr
  have hcs : (op = 1 ∨ op = 2 ∨ op = 3 ∨ op = 4 ∨ op = 5 ∨ op = 6 ∨ op = 13 ∨ op = 18) ∨ (op = 7 ∨ op = 8) ∨ op = 9 ∨ op = 10 ∨ (op = 11) ∨ (op = 12) ∨ (op = 14 ∨ op = 15) ∨ (op = 16 ∨ op = 17) := by omega
  clear hop
  rcases hcs with ho | ho | ho | ho | ho | ho | ho | ho
  · clear HI1 HI2 HM1 HM2 HP HD HCI hn
    rcases ho with rfl | rfl | rfl | rfl | rfl | rfl | rfl | rfl
    all_goals
      go_enter Try.func54, Try.ntmps54
      go_upto_region 1 with (fail)
      rw [← HW1.out, ← HGA.out]
      go_wp2_with fail
      go_ret
      exact ⟨by rw [← HR.out]; rfl, HK1.out⟩
  · have hn0 : 0 ≤ n := hn (by rcases ho with rfl | rfl <;> rfl)
    clear HI1 HI2 HM1 HM2 HD HCI hn
    by_cases hln : n ≥ (pll.length : Int)
    · have d1 : decide (nn ≥ (pll.length : Int)) = true := decide_eq_true (by omega)
      have HE := Lib.hid (show r = 1 from by rw [← HR.out]; unfold insE columnE; rw [decide_eq_true (show n ≥ (pll.length : Int) from hln)]; rcases ho with rfl | rfl <;> rfl)
      clear hln HR
      rcases ho with rfl | rfl
      all_goals
        go_enter Try.func54, Try.ntmps54
        go_upto_region 1 with (fail)
        rw [← HW1.out, ← HGA.out]
        go_wp2_with fail
        go_ret
        exact ⟨by rw [HE.out]; rfl, HK1.out⟩
    · obtain ⟨k, rfl⟩ : ∃ k : Nat, n = (k : Int) := ⟨n.toNat, by omega⟩
      have hkl : k < pll.length := by omega
      obtain rfl : nn = (k : Int) := by omega
      have hkI : (k : Int) < pll.length := by omega
      have d1 : decide ((k : Int) ≥ (pll.length : Int)) = false := decide_eq_false hln
      obtain ⟨z, hz⟩ : ∃ z, pll[k]? = some z := ⟨_, List.getElem?_eq_getElem hkl⟩
      obtain ⟨bo, oo, rfl, _, hc⟩ := (HP.out.keep HK1.out (fun _ _ f => f)).elem (cells := ColV.cells) (size := 2) (fun _ => rfl) (by decide) hz
      have p0 := hc 0 (by decide)
      simp only [ColV.cells, List.getElem?_cons_zero, List.getElem?_cons_succ, Nat.add_zero] at p0
      obtain ⟨kk, m⟩ := z
      have HE := Lib.hid (show r = (if (kk == 4 || kk == 5) = true then 19 else 0) from by
        rw [← HR.out]; unfold insE columnE
        simp only [d1, Int.toNat_natCast, getD_at hz]
        rcases ho with rfl | rfl <;> rfl)
      clear hln HR hz hc hnn
      rcases ho with rfl | rfl
      all_goals
        cases q4 : (kk == 4)
        · cases q5 : (kk == 5)
          · go_enter Try.func54, Try.ntmps54
            go_upto_region 1 with (fail)
            rw [← HW1.out, ← HGA.out]
            go_upto_region 2 with (fail)
            (try rw [HNN.out])
            go_wp2_with fail
            go_ret
            exact ⟨by rw [HE.out, q4, q5]; rfl, HK1.out⟩
          · go_enter Try.func54, Try.ntmps54
            go_upto_region 1 with (fail)
            rw [← HW1.out, ← HGA.out]
            go_upto_region 2 with (fail)
            (try rw [HNN.out])
            go_wp2_with fail
            go_ret
            exact ⟨by rw [HE.out, q4, q5]; rfl, HK1.out⟩
        · go_enter Try.func54, Try.ntmps54
          go_upto_region 1 with (fail)
          rw [← HW1.out, ← HGA.out]
          go_upto_region 2 with (fail)
          (try rw [HNN.out])
          go_wp2_with fail
          go_ret
          exact ⟨by rw [HE.out, q4]; rfl, HK1.out⟩
  · subst ho
    have hn0 : 0 ≤ n := hn rfl
    clear HI1 HI2 HM1 HM2 hn
    by_cases hln : n ≥ (pll.length : Int)
    · have d1 : decide (nn ≥ (pll.length : Int)) = true := decide_eq_true (by omega)
      have HE := Lib.hid (show r = 1 from by rw [← HR.out]; unfold insE columnE; rw [decide_eq_true (show n ≥ (pll.length : Int) from hln)]; rfl)
      clear hln HR
      go_enter Try.func54, Try.ntmps54
      go_upto_region 1 with (fail)
      rw [← HW1.out, ← HGA.out]
      go_upto_region 2 with (fail)
      (try rw [HNN.out])
      go_wp2_with fail
      go_ret
      exact ⟨by rw [HE.out]; rfl, HK1.out⟩
    · obtain ⟨k, rfl⟩ : ∃ k : Nat, n = (k : Int) := ⟨n.toNat, by omega⟩
      have hkl : k < pll.length := by omega
      obtain rfl : nn = (k : Int) := by omega
      have hkI : (k : Int) < pll.length := by omega
      have d1 : decide ((k : Int) ≥ (pll.length : Int)) = false := decide_eq_false hln
      obtain ⟨z, hz⟩ : ∃ z, pll[k]? = some z := ⟨_, List.getElem?_eq_getElem hkl⟩
      obtain ⟨bo, oo, rfl, _, hc⟩ := (HP.out.keep HK1.out (fun _ _ f => f)).elem (cells := ColV.cells) (size := 2) (fun _ => rfl) (by decide) hz
      have p0 := hc 0 (by decide)
      have p1 := hc 1 (by decide)
      simp only [ColV.cells, List.getElem?_cons_zero, List.getElem?_cons_succ, Nat.add_zero] at p0 p1
      obtain ⟨kk, m⟩ := z
      simp only at p0 p1
      cases q2 : (kk != 2)
      · obtain rfl : kk = 2 := by simpa using q2
        obtain ⟨hm0, hml⟩ := HCI.out _ (List.mem_of_getElem? hz) rfl
        simp only at hm0 hml
        obtain ⟨q, rfl⟩ : ∃ q : Nat, m = (q : Int) := ⟨m.toNat, by omega⟩
        have hql : q < dl.length := by omega
        obtain ⟨u, hu⟩ : ∃ u, dl[q]? = some u := ⟨_, List.getElem?_eq_getElem hql⟩
        obtain ⟨bo2, oo2, rfl, _, hc2⟩ := (HD.out.keep HK1.out (fun _ _ f => f)).elem (cells := DescV.cells) (size := 3) (fun _ => rfl) (by decide) hu
        have e0 := hc2 0 (by decide)
        simp only [DescV.cells, List.getElem?_cons_zero, List.getElem?_cons_succ, Nat.add_zero] at e0
        obtain ⟨dk, dv, db⟩ := u
        have HE := Lib.hid (show r = (if (dk == 3) = true then 9 else 0) from by
          rw [← HR.out]; unfold insE columnE
          simp only [d1, Int.toNat_natCast, getD_at hz, getD_at hu]
          cases dk == 3 <;> rfl)
        simp only at e0
        clear hln HR hz hc hc2 hu hnn q2
        cases q3 : (dk == 3)
        · go_enter Try.func54, Try.ntmps54
          go_upto_region 1 with (fail)
          rw [← HW1.out, ← HGA.out]
          go_upto_region 2 with (fail)
          (try rw [HNN.out])
          go_upto_region 23 with (fail)
          go_quiet (fail)
          go_wp2_with fail
          go_ret
          exact ⟨by rw [HE.out, q3]; rfl, HK1.out.drewN _⟩
        · go_enter Try.func54, Try.ntmps54
          go_upto_region 1 with (fail)
          rw [← HW1.out, ← HGA.out]
          go_upto_region 2 with (fail)
          (try rw [HNN.out])
          go_upto_region 23 with (fail)
          go_quiet (fail)
          go_wp2_with fail
          go_ret
          exact ⟨by rw [HE.out, q3]; rfl, HK1.out.drewN _⟩
      · have HE := Lib.hid (show r = 19 from by
          rw [← HR.out]; unfold insE columnE
          simp only [d1, Int.toNat_natCast, getD_at hz, q2]
          rfl)
        clear hln HR hz hc hnn
        go_enter Try.func54, Try.ntmps54
        go_upto_region 1 with (fail)
        rw [← HW1.out, ← HGA.out]
        go_upto_region 2 with (fail)
        (try rw [HNN.out])
        go_wp2_with fail
        go_ret
        exact ⟨by rw [HE.out]; rfl, HK1.out⟩
  · subst ho
    have hn0 : 0 ≤ n := hn rfl
    clear HI1 HI2 HM1 HM2 hn
    by_cases hln : n ≥ (pll.length : Int)
    · have d1 : decide (nn ≥ (pll.length : Int)) = true := decide_eq_true (by omega)
      have HE := Lib.hid (show r = 1 from by rw [← HR.out]; unfold insE columnE; rw [decide_eq_true (show n ≥ (pll.length : Int) from hln)]; rfl)
      clear hln HR
      go_enter Try.func54, Try.ntmps54
      go_upto_region 1 with (fail)
      rw [← HW1.out, ← HGA.out]
      go_upto_region 2 with (fail)
      (try rw [HNN.out])
      go_wp2_with fail
      go_ret
      exact ⟨by rw [HE.out]; rfl, HK1.out⟩
    · obtain ⟨k, rfl⟩ : ∃ k : Nat, n = (k : Int) := ⟨n.toNat, by omega⟩
      have hkl : k < pll.length := by omega
      obtain rfl : nn = (k : Int) := by omega
      have hkI : (k : Int) < pll.length := by omega
      have d1 : decide ((k : Int) ≥ (pll.length : Int)) = false := decide_eq_false hln
      obtain ⟨z, hz⟩ : ∃ z, pll[k]? = some z := ⟨_, List.getElem?_eq_getElem hkl⟩
      obtain ⟨bo, oo, rfl, _, hc⟩ := (HP.out.keep HK1.out (fun _ _ f => f)).elem (cells := ColV.cells) (size := 2) (fun _ => rfl) (by decide) hz
      have p0 := hc 0 (by decide)
      have p1 := hc 1 (by decide)
      simp only [ColV.cells, List.getElem?_cons_zero, List.getElem?_cons_succ, Nat.add_zero] at p0 p1
      obtain ⟨kk, m⟩ := z
      simp only at p0 p1
      cases q2 : (kk != 2)
      · obtain rfl : kk = 2 := by simpa using q2
        obtain ⟨hm0, hml⟩ := HCI.out _ (List.mem_of_getElem? hz) rfl
        simp only at hm0 hml
        obtain ⟨q, rfl⟩ : ∃ q : Nat, m = (q : Int) := ⟨m.toNat, by omega⟩
        have hql : q < dl.length := by omega
        obtain ⟨u, hu⟩ : ∃ u, dl[q]? = some u := ⟨_, List.getElem?_eq_getElem hql⟩
        obtain ⟨bo2, oo2, rfl, _, hc2⟩ := (HD.out.keep HK1.out (fun _ _ f => f)).elem (cells := DescV.cells) (size := 3) (fun _ => rfl) (by decide) hu
        have e0 := hc2 0 (by decide)
        simp only [DescV.cells, List.getElem?_cons_zero, List.getElem?_cons_succ, Nat.add_zero] at e0
        obtain ⟨dk, dv, db⟩ := u
        have HE := Lib.hid (show r = (if (dk != 2) = true then 9 else 0) from by
          rw [← HR.out]; unfold insE columnE
          simp only [d1, Int.toNat_natCast, getD_at hz, getD_at hu]
          cases dk != 2 <;> rfl)
        simp only at e0
        clear hln HR hz hc hc2 hu hnn q2
        cases q3 : (dk == 3)
        · cases q4 : (dk != 2)
          · go_enter Try.func54, Try.ntmps54
            go_upto_region 1 with (fail)
            rw [← HW1.out, ← HGA.out]
            go_upto_region 2 with (fail)
            (try rw [HNN.out])
            go_upto_region 23 with (fail)
            go_quiet (fail)
            go_wp2_with fail
            go_ret
            exact ⟨by rw [HE.out, q4]; rfl, HK1.out.drewN _⟩
          · go_enter Try.func54, Try.ntmps54
            go_upto_region 1 with (fail)
            rw [← HW1.out, ← HGA.out]
            go_upto_region 2 with (fail)
            (try rw [HNN.out])
            go_upto_region 23 with (fail)
            go_quiet (fail)
            go_wp2_with fail
            go_ret
            exact ⟨by rw [HE.out, q4]; rfl, HK1.out.drewN _⟩
        · have q4 : (dk != 2) = true := by rw [show dk = 3 from by simpa using q3]; rfl
          rw [q4] at HE
          clear q4
          go_enter Try.func54, Try.ntmps54
          go_upto_region 1 with (fail)
          rw [← HW1.out, ← HGA.out]
          go_upto_region 2 with (fail)
          (try rw [HNN.out])
          go_upto_region 23 with (fail)
          go_quiet (fail)
          go_wp2_with fail
          go_ret
          exact ⟨by rw [HE.out]; rfl, HK1.out.drewN _⟩
      · have HE := Lib.hid (show r = 19 from by
          rw [← HR.out]; unfold insE columnE
          simp only [d1, Int.toNat_natCast, getD_at hz, q2]
          rfl)
        clear hln HR hz hc hnn
        go_enter Try.func54, Try.ntmps54
        go_upto_region 1 with (fail)
        rw [← HW1.out, ← HGA.out]
        go_upto_region 2 with (fail)
        (try rw [HNN.out])
        go_wp2_with fail
        go_ret
        exact ⟨by rw [HE.out]; rfl, HK1.out⟩
  · subst ho
    have hn0 : 0 ≤ n := hn rfl
    clear HP HD HCI hn
    have HE := Lib.hid (show r = (if hasI n rrl || hasI n rwl then 0 else 19) from by rw [← HR.out, ← has_app]; rfl)
    clear HR
    go_enter Try.func54, Try.ntmps54
    go_upto_region 1 with (fail)
    rw [← HW1.out, ← HGA.out]
    go_upto_region 2 with (fail)
    (try rw [HNN.out])
    go_upto_region 13 with (fail)
    go_upto_region 27 with (fail)
    obtain ⟨z1, hz1⟩ : ∃ z, hasI n rrl = z := ⟨_, rfl⟩
    obtain ⟨z2, hz2⟩ : ∃ z, hasI n rwl = z := ⟨_, rfl⟩
    rw [hz1, hz2] at HE
    have HZ1 := Lib.hid hz1
    have HZ2 := Lib.hid hz2
    clear hz1 hz2
    cases z1
    · cases z2
      all_goals
        go_wp2_with (first | (go_at_call 13; refine (HI1.out _ HK1.out).mono ?_; rintro e w2 ⟨rfl, hk2⟩; rw [← HM1.out, HZ1.out]; have HK2 := Lib.hid (HK1.out.trans hk2 (fun _ f => f.elim)); have HBB2 := Lib.hid (HBB.out.keep hk2 (fun f => f)); clear b2 b3 b4 b5 hk2 HI1 HM1; have b3 := HBB2.out.cell 3; simp at b3) | (go_at_call 13; refine (HI2.out _ HK2.out).mono ?_; rintro e w3 ⟨rfl, hk3⟩; rw [← HM2.out, HZ2.out]; have HK3 := Lib.hid (HK2.out.trans hk3 (fun _ f => f.elim)); clear hk3))
        go_ret
        exact ⟨by rw [HE.out]; rfl, HK3.out⟩
    · go_wp2_with (go_at_call 13; refine (HI1.out _ HK1.out).mono ?_; rintro e w2 ⟨rfl, hk2⟩; rw [← HM1.out, HZ1.out]; have HK2 := Lib.hid (HK1.out.trans hk2 (fun _ f => f.elim)); clear hk2 HI1 HM1)
      go_ret
      exact ⟨by rw [HE.out]; rfl, HK2.out⟩
  · subst ho
    have hn0 : 0 ≤ n := hn rfl
    clear HI1 HM1 HP HD HCI hn
    have HE := Lib.hid (show r = (if hasI n rwl then 0 else 19) from by rw [← HR.out]; rfl)
    clear HR
    go_enter Try.func54, Try.ntmps54
    go_upto_region 1 with (fail)
    rw [← HW1.out, ← HGA.out]
    go_upto_region 2 with (fail)
    (try rw [HNN.out])
    go_upto_region 13 with (fail)
    go_wp2_with (go_at_call 13; refine (HI2.out _ HK1.out).mono ?_; rintro e w2 ⟨rfl, hk2⟩; rw [← HM2.out]; have HK2 := Lib.hid (HK1.out.trans hk2 (fun _ f => f.elim)); have HBB2 := Lib.hid (HBB.out.keep hk2 (fun f => f)); clear b2 b3 b4 b5 hk2; have b3 := HBB2.out.cell 3; simp at b3; cases q2 : hasI n rwl)
    · go_ret
      exact ⟨by rw [HE.out, q2]; rfl, HK2.out⟩
    · go_ret
      exact ⟨by rw [HE.out, q2]; rfl, HK2.out⟩
  · clear HI1 HI2 HM1 HM2 HP HD HCI hn
    rcases ho with rfl | rfl
    all_goals
      cases al
      · go_enter Try.func54, Try.ntmps54
        go_upto_region 1 with (fail)
        rw [← HW1.out, ← HGA.out]
        go_wp2_with fail
        go_ret
        exact ⟨by rw [← HR.out]; rfl, HK1.out⟩
      · go_enter Try.func54, Try.ntmps54
        go_upto_region 1 with (fail)
        rw [← HW1.out, ← HGA.out]
        go_wp2_with fail
        go_ret
        exact ⟨by rw [← HR.out]; rfl, HK1.out⟩
  · have hn0 : 0 ≤ n := hn (by rcases ho with rfl | rfl <;> rfl)
    clear HI1 HI2 HM1 HM2 HP HD HCI hn
    by_cases hln : n ≥ (dl.length : Int)
    · have d1 : decide (nn ≥ (dl.length : Int)) = true := decide_eq_true (by omega)
      have HE := Lib.hid (show r = 1 from by rw [← HR.out]; unfold insE; rw [decide_eq_true (show n ≥ (dl.length : Int) from hln)]; rcases ho with rfl | rfl <;> rfl)
      clear hln HR hnn
      rcases ho with rfl | rfl
      all_goals
        go_enter Try.func54, Try.ntmps54
        go_upto_region 1 with (fail)
        rw [← HW1.out, ← HGA.out]
        go_upto_region 2 with (fail)
        (try rw [HNN.out])
        go_wp2_with fail
        go_ret
        exact ⟨by rw [HE.out]; rfl, HK1.out⟩
    · have d1 : decide (nn ≥ (dl.length : Int)) = false := decide_eq_false (by omega)
      have HE := Lib.hid (show r = (if al then 0 else 19) from by rw [← HR.out]; unfold insE; rw [decide_eq_false (show ¬ n ≥ (dl.length : Int) from hln)]; rcases ho with rfl | rfl <;> rfl)
      clear hln HR hnn
      rcases ho with rfl | rfl
      all_goals
        cases al
        · go_enter Try.func54, Try.ntmps54
          go_upto_region 1 with (fail)
          rw [← HW1.out, ← HGA.out]
          go_upto_region 2 with (fail)
          (try rw [HNN.out])
          go_wp2_with fail
          go_ret
          exact ⟨by rw [HE.out]; rfl, HK1.out⟩
        · go_enter Try.func54, Try.ntmps54
          go_upto_region 1 with (fail)
          rw [← HW1.out, ← HGA.out]
          go_upto_region 2 with (fail)
          (try rw [HNN.out])
          go_wp2_with fail
          go_ret
          exact ⟨by rw [HE.out]; rfl, HK1.out⟩
end Go.Proofs.Ytbigknmeooaidaa
