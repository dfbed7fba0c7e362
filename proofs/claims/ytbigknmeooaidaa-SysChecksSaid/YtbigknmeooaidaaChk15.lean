/-
  The law's own: are a system's lists short; what the document fixes of systems.
-/
import Derived.Test.YtbigknmeooaidaaChk14
namespace Go.Proofs.Ytbigknmeooaidaa
open Go Go.RowKit
set_option linter.unusedVariables false
set_option linter.unusedSimpArgs false

/-- Are a system's lists short? -/
def shortB (x : SysX) : Bool :=
  decide (x.pl.n ≤ 30) && (decide (x.cd.n ≤ 30) && (decide (x.r.l.length ≤ 60) && (decide (x.w.l.length ≤ 60) && (decide (x.rr.l.length ≤ 60) && (decide (x.rw'.l.length ≤ 60) && decide (x.af.l.length ≤ 60))))))

set_option maxHeartbeats 2000000 in
theorem law_Short (x : SysX) (w : World) : Calls Try.prog 23 #[x.val] w (Ret w (.bool (shortB x))) := by
  obtain ⟨r, hr⟩ : ∃ r, shortB x = r := ⟨_, rfl⟩
  rw [hr]
  unfold shortB at hr
  obtain ⟨⟨ra, rc, rl⟩, ⟨wa, wc, wl⟩, ⟨rra, rrc, rrl⟩, ⟨rwa, rwc, rwl⟩, al, ⟨pla, pln, plc⟩, ⟨cda, cdn, cdc⟩, ⟨afa, afc, afl⟩⟩ := x
  simp only at hr
  unfold SysX.val
  simp only [RowV.v, SlV.v]
  obtain ⟨rn, hrn⟩ : ∃ n, rl.length = n := ⟨_, rfl⟩
  obtain ⟨wn, hwn⟩ : ∃ n, wl.length = n := ⟨_, rfl⟩
  obtain ⟨rrn, hrrn⟩ : ∃ n, rrl.length = n := ⟨_, rfl⟩
  obtain ⟨rwn, hrwn⟩ : ∃ n, rwl.length = n := ⟨_, rfl⟩
  obtain ⟨afn, hafn⟩ : ∃ n, afl.length = n := ⟨_, rfl⟩
  rw [hrn, hwn, hrrn, hrwn, hafn] at hr ⊢
  clear hrn hwn hrrn hrwn hafn
  have HR := Lib.hid hr
  clear hr
  obtain ⟨w1, hw1⟩ : ∃ w1, w1 = w.alloc (.cells #[.slice ra rn rc, .slice wa wn wc, .slice rra rrn rrc, .slice rwa rwn rwc, .bool al, .slice pla pln plc, .slice cda cdn cdc, .slice afa afn afc] 35) := ⟨_, rfl⟩
  have hk1 : Keep w w1 Nope := by rw [hw1]; exact (Keep.refl w Nope).alloc _
  have hb : Blk w1 w.heap.size #[.slice ra rn rc, .slice wa wn wc, .slice rra rrn rrc, .slice rwa rwn rwc, .bool al, .slice pla pln plc, .slice cda cdn cdc, .slice afa afn afc] 35 := by rw [hw1]; exact Blk.new _ _ _
  have b0 := hb.cell 0
  have b1 := hb.cell 1
  have b2 := hb.cell 2
  have b3 := hb.cell 3
  have b5 := hb.cell 5
  have b6 := hb.cell 6
  have b7 := hb.cell 7
  simp at b0 b1 b2 b3 b5 b6 b7
  have HK1 := Lib.hid hk1
  have HW1 := Lib.hid hw1
  clear hb hk1 hw1
  by_cases h0 : pln ≤ 30
  case neg =>
    have dn0 : decide (pln ≤ 30) = false := decide_eq_false h0
    have di0 : decide ((pln : Int) ≤ 30) = false := decide_eq_false (by omega)
    rw [dn0] at HR
    clear h0
    go_enter Try.func23, Try.ntmps23
    go_upto_region 1 with (fail)
    rw [← HW1.out]
    go_wp2_with fail
    go_ret
    exact ⟨by rw [← HR.out]; rfl, HK1.out⟩
  have dn0 : decide (pln ≤ 30) = true := decide_eq_true h0
  have di0 : decide ((pln : Int) ≤ 30) = true := decide_eq_true (by omega)
  rw [dn0] at HR
  clear h0
  by_cases h1 : cdn ≤ 30
  case neg =>
    have dn1 : decide (cdn ≤ 30) = false := decide_eq_false h1
    have di1 : decide ((cdn : Int) ≤ 30) = false := decide_eq_false (by omega)
    rw [dn1] at HR
    clear h1
    go_enter Try.func23, Try.ntmps23
    go_upto_region 1 with (fail)
    rw [← HW1.out]
    go_wp2_with fail
    go_ret
    exact ⟨by rw [← HR.out]; rfl, HK1.out⟩
  have dn1 : decide (cdn ≤ 30) = true := decide_eq_true h1
  have di1 : decide ((cdn : Int) ≤ 30) = true := decide_eq_true (by omega)
  rw [dn1] at HR
  clear h1
  by_cases h2 : rn ≤ 60
  case neg =>
    have dn2 : decide (rn ≤ 60) = false := decide_eq_false h2
    have di2 : decide ((rn : Int) ≤ 60) = false := decide_eq_false (by omega)
    rw [dn2] at HR
    clear h2
    go_enter Try.func23, Try.ntmps23
    go_upto_region 1 with (fail)
    rw [← HW1.out]
    go_wp2_with fail
    go_ret
    exact ⟨by rw [← HR.out]; rfl, HK1.out⟩
  have dn2 : decide (rn ≤ 60) = true := decide_eq_true h2
  have di2 : decide ((rn : Int) ≤ 60) = true := decide_eq_true (by omega)
  rw [dn2] at HR
  clear h2
  by_cases h3 : wn ≤ 60
  case neg =>
    have dn3 : decide (wn ≤ 60) = false := decide_eq_false h3
    have di3 : decide ((wn : Int) ≤ 60) = false := decide_eq_false (by omega)
    rw [dn3] at HR
    clear h3
    go_enter Try.func23, Try.ntmps23
    go_upto_region 1 with (fail)
    rw [← HW1.out]
    go_wp2_with fail
    go_ret
    exact ⟨by rw [← HR.out]; rfl, HK1.out⟩
  have dn3 : decide (wn ≤ 60) = true := decide_eq_true h3
  have di3 : decide ((wn : Int) ≤ 60) = true := decide_eq_true (by omega)
  rw [dn3] at HR
  clear h3
  by_cases h4 : rrn ≤ 60
  case neg =>
    have dn4 : decide (rrn ≤ 60) = false := decide_eq_false h4
    have di4 : decide ((rrn : Int) ≤ 60) = false := decide_eq_false (by omega)
    rw [dn4] at HR
    clear h4
    go_enter Try.func23, Try.ntmps23
    go_upto_region 1 with (fail)
    rw [← HW1.out]
    go_wp2_with fail
    go_ret
    exact ⟨by rw [← HR.out]; rfl, HK1.out⟩
  have dn4 : decide (rrn ≤ 60) = true := decide_eq_true h4
  have di4 : decide ((rrn : Int) ≤ 60) = true := decide_eq_true (by omega)
  rw [dn4] at HR
  clear h4
  by_cases h5 : rwn ≤ 60
  case neg =>
    have dn5 : decide (rwn ≤ 60) = false := decide_eq_false h5
    have di5 : decide ((rwn : Int) ≤ 60) = false := decide_eq_false (by omega)
    rw [dn5] at HR
    clear h5
    go_enter Try.func23, Try.ntmps23
    go_upto_region 1 with (fail)
    rw [← HW1.out]
    go_wp2_with fail
    go_ret
    exact ⟨by rw [← HR.out]; rfl, HK1.out⟩
  have dn5 : decide (rwn ≤ 60) = true := decide_eq_true h5
  have di5 : decide ((rwn : Int) ≤ 60) = true := decide_eq_true (by omega)
  rw [dn5] at HR
  clear h5
  by_cases h6 : afn ≤ 60
  case neg =>
    have dn6 : decide (afn ≤ 60) = false := decide_eq_false h6
    have di6 : decide ((afn : Int) ≤ 60) = false := decide_eq_false (by omega)
    rw [dn6] at HR
    clear h6
    go_enter Try.func23, Try.ntmps23
    go_upto_region 1 with (fail)
    rw [← HW1.out]
    go_wp2_with fail
    go_ret
    exact ⟨by rw [← HR.out]; rfl, HK1.out⟩
  have dn6 : decide (afn ≤ 60) = true := decide_eq_true h6
  have di6 : decide ((afn : Int) ≤ 60) = true := decide_eq_true (by omega)
  rw [dn6] at HR
  clear h6
  go_enter Try.func23, Try.ntmps23
  go_upto_region 1 with (fail)
  rw [← HW1.out]
  go_wp2_with fail
  go_ret
  exact ⟨by rw [← HR.out]; rfl, HK1.out⟩
end Go.Proofs.Ytbigknmeooaidaa
