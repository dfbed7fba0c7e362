/-
  StagePicks: the walk.
-/
import Derived.Test.YtbigknmeooaidaaPc1
import Derived.Test.YtbigknmeooaidaaPc2
import Derived.Test.YtbigknmeooaidaaPc3
import Derived.Test.YtbigknmeooaidaaPc4
import Derived.Test.YtbigknmeooaidaaStg4
import Derived.Test.YtbigknmeooaidaaSys23b
namespace Go.Proofs.Ytbigknmeooaidaa
open Go Go.RowKit
set_option linter.unusedVariables false
set_option linter.unusedSimpArgs false

theorem and_modk (x : Int) (n : Nat) (hn : 0 < n) : ∃ k : Nat, (bits .and .i64 x 65535).tmod (n : Int) = (k : Int) ∧ k < n := and_mod x n hn
theorem grp_rows {s o : List Nat} {rs : List RowV} (h : rs.map RowV.l = (grp s o).map nats) (hb : ∀ p, s.getD p 0 ≤ 64) (ho : o.length ≤ 64) : (∀ r, r ∈ rs → r.l.length ≤ 1000000) ∧ rs.length ≤ 1000000 := by
  constructor
  · intro r hr
    have h1 : r.l ∈ (grp s o).map nats := by rw [← h]; exact List.mem_map_of_mem hr
    obtain ⟨g, hg, e⟩ := List.mem_map.1 h1
    obtain ⟨gi, hgi, rfl⟩ := List.getElem_of_mem hg
    rw [← e, nats_len, (grp_get (List.getElem?_eq_getElem hgi)).2]
    have := List.length_filter_le (fun i => s.getD i 0 == gi) o
    omega
  · have h1 := congrArg List.length h
    simp only [List.length_map] at h1
    rw [h1]
    unfold grp
    rw [grK_len]
    have := mxK_le (s := s) (o := o) (b := 65) (fun i _ => by have := hb i; omega) o.length
    omega
def LoopPk (w : World) (rs : List RowV) (g : Nat) (v13 : Value) (wr : World) : Prop :=
  ∃ q : Nat, g + q = rs.length ∧ v13 = .int .i64 q ∧ (∀ r, r ∈ rs.take q → r.l.length ≤ 20) ∧ w = wr

theorem int_cell {S : Nat → Prop} {w : World} {b o n c m k : Nat} {l : List Int} {x : Int} (h : Rd S w (.slice (some ⟨b, o, none⟩) n c) m (ints l)) (hx : l[k]? = some x) : w.cell? ⟨b, o + k, none⟩ = some (.int .i64 x) := by
  obtain ⟨b', o', ⟨c', hv⟩, _, hc⟩ := h.int hx
  injection hv with h1 _ _
  injection h1 with h1
  injection h1 with h1 h2
  subst h1; subst h2
  exact hc
theorem nats_getD {s : List Nat} {i x : Nat} (h : i < s.length) (hx : s.getD i 0 = x) : (nats s)[i]? = some (x : Int) := by
  subst hx
  unfold nats
  simp [List.getD, List.getElem?_eq_getElem h]
set_option maxRecDepth 100000 in
set_option maxHeartbeats 4000000 in
theorem stagePicks_walk (va vu vp vr : Value) (ra : List RowV) (us ps : List Int) (rr : List RowV) (i0 k0 : Int) (w : World) (S S1 S2 S3 : Nat → Prop) (ha : RdRows S w va ra) (hS : ∀ i, S i → i < w.heap.size) (hu : Rd S1 w vu us.length (ints us)) (hp : Rd S2 w vp ps.length (ints ps)) (hr : RdRows S3 w vr rr) :
    Calls Try.prog 5 #[va, vu, vp, vr, .int .i64 i0, .int .i64 k0] w (RetTrue w) := by
  have HSY := Lib.hid (fun wq (hk : Keep w wq Nope) => systems23 va vu ra us true wq S S1 (ha.keep0 hk) (fun z hz => by have := hS z hz; have := hk.size; omega) (hu.keep hk (fun _ _ f => f)))
  obtain ⟨aa, ac, rfl, _⟩ := id ha.rd
  obtain ⟨ua, uc, rfl, _⟩ := id hu
  obtain ⟨pa, pc, rfl, p1, p2, _, _⟩ := id hp
  obtain ⟨rra, rrc, rfl, q1, q2, _, _⟩ := id hr.rd
  unfold maxLen at p2 q2
  have HP := Lib.hid hp
  have HRR := Lib.hid hr
  clear ha hu hp hr
  obtain ⟨pn, hpn⟩ : ∃ n, ps.length = n := ⟨_, rfl⟩
  rw [hpn] at HP p1 ⊢
  have HPN := Lib.hid hpn
  clear hpn
  by_cases h100 : 100 < pn
  · have e1 : decide ((pn : Int) > 100) = true := decide_eq_true (by omega)
    have e2 : decide (100 < pn) = true := decide_eq_true h100
    go_enter Try.func5, Try.ntmps5
    go_wp2_with (go_at_call 15; refine (awake23 _).mono ?_; rintro e w9 ⟨rfl, hk9⟩; have HK9 := Lib.hid hk9; clear hk9)
    go_ret
    exact ⟨rfl, HK9.out.below⟩
  have e1 : decide ((pn : Int) > 100) = false := decide_eq_false (by omega)
  have e2 : decide (100 < pn) = false := decide_eq_false h100
  by_cases h20 : 20 < rr.length
  · have e3 : decide ((rr.length : Int) > 20) = true := decide_eq_true (by omega)
    have e4 : decide (20 < rr.length) = true := decide_eq_true h20
    go_enter Try.func5, Try.ntmps5
    go_wp2_with (go_at_call 15; refine (awake23 _).mono ?_; rintro e w9 ⟨rfl, hk9⟩; have HK9 := Lib.hid hk9; clear hk9)
    go_ret
    exact ⟨rfl, HK9.out.below⟩
  have e3 : decide ((rr.length : Int) > 20) = false := decide_eq_false (by omega)
  have e4 : decide (20 < rr.length) = false := decide_eq_false h20
  go_enter Try.func5, Try.ntmps5
  go_wp2_with fail
  go_loopg [13] rr.length (fun g v13 wr => LoopPk w rr g v13 wr)
  case atStart => exact ⟨0, by omega, rfl, fun r hr => by simp at hr, rfl⟩
  case round =>
    obtain ⟨q, hg, rfl, hle, rfl⟩ := hrel
    have HG := Lib.hid hg
    have HLE := Lib.hid hle
    have hqn : q ≤ rr.length := by omega
    clear hg hle
    by_cases hlt : q < rr.length
    · obtain ⟨r, hr⟩ : ∃ r, rr[q]? = some r := ⟨_, List.getElem?_eq_getElem hlt⟩
      obtain ⟨bo, oo, rfl, _, hc0, _⟩ := HRR.out.get hr
      obtain ⟨r1, r2, rl⟩ := r
      simp only at hc0
      have hqI : (q : Int) < rr.length := by omega
      have hqd : decide ((q : Int) < rr.length) = true := decide_eq_true hqI
      have HT := Lib.hid (show rr.take (q + 1) = rr.take q ++ [⟨r1, r2, rl⟩] from by rw [List.take_add_one, hr]; rfl)
      clear hr
      by_cases hl20 : 20 < rl.length
      · have f1 : decide ((rl.length : Int) > 20) = true := decide_eq_true (by omega)
        have f2 : decide (20 < rl.length) = true := decide_eq_true hl20
        go_wp2_with (go_at_call 15; refine (awake23 _).mono ?_; rintro e w9 ⟨rfl, hk9⟩; have HK9 := Lib.hid hk9; clear hk9)
        go_ret
        exact ⟨rfl, HK9.out.below⟩
      · have f1 : decide ((rl.length : Int) > 20) = false := decide_eq_false (by omega)
        have f2 : decide (20 < rl.length) = false := decide_eq_false hl20
        go_wp2_with fail
        go_roundg (rr.length - (q + 1))
        case measure => have := HG.out; omega
        case rel => exact ⟨q + 1, by have := HG.out; omega, by go_num, fun r hr => by
          rw [HT.out] at hr
          rcases List.mem_append.1 hr with h | h
          · exact HLE.out r h
          · simp at h
            subst h
            show rl.length ≤ 20
            omega, rfl⟩
    · obtain rfl : q = rr.length := by omega
      have hqd : decide (((rr.length : Nat) : Int) < rr.length) = false := decide_eq_false (by omega)
      have HL20 := Lib.hid (show ∀ r, r ∈ rr → r.l.length ≤ 1000000 from fun r hr => by have := HLE.out r (by rw [List.take_length]; exact hr); omega)
      have HPK := Lib.hid (stage_pick (.slice rra rr.length rrc) (.slice pa pn pc) rr ps w S3 S2 HRR.out (by rw [HPN.out]; exact HP.out) HL20.out (by omega))
      have HRK := Lib.hid (fun wq (hk : Keep w wq Nope) => ref_pick (.slice rra rr.length rrc) (.slice pa pn pc) rr ps wq S3 S2 (HRR.out.keep0 hk) (by rw [HPN.out]; exact HP.out.keep hk (fun _ _ f => f)) HL20.out (by omega))
      obtain ⟨X, hX⟩ : ∃ X, pkAll (rr.map RowV.l) ps [] = X := ⟨_, rfl⟩
      rw [hX] at HPK
      simp only [hX] at HRK
      clear hX HLE
      go_upto_region 10 with (first | (go_at_call 16; refine HPK.out.mono ?_; rintro e w1 ⟨b1, n1, c1, rfl, ho1, hk1⟩; have HO1 := Lib.hid (show Rd _ w1 (.slice b1 n1 c1) n1 (ints X) from ho1.rd); have HNX := Lib.hid ho1.len; have HK1 := Lib.hid hk1; clear ho1 hk1 HPK) | (go_at_call 18; refine (HRK.out _ HK1.out).mono ?_; rintro e w2 ⟨b2, n2, c2, rfl, ho2, hk2⟩; have HO2 := Lib.hid (show Rd _ w2 (.slice b2 n2 c2) n2 (ints X) from ho2.rd); have HNX2 := Lib.hid ho2.len; have HO1 := Lib.hid (HO1.out.keep hk2 (fun _ _ f => f)); have HK2 := Lib.hid (HK1.out.trans hk2 (fun _ f => f.elim)); clear ho2 hk2 HRK) | (go_at_call 17; refine (same_ints _ _ X _ _ _ (by have h := HNX.out; rw [ints_len, Nat.mul_one] at h; rw [h]; exact HO1.out) (by have h := HNX2.out; rw [ints_len, Nat.mul_one] at h; rw [h]; exact HO2.out)).mono ?_; rintro e w3 ⟨rfl, hk3⟩; have HK3 := Lib.hid (HK2.out.trans hk3 (fun _ f => f.elim)); clear hk3))
      clear HO1 HO2 HNX HNX2 HK1 HK2 HRR HL20
      go_upto_region 11 with (go_at_call 10; refine (HSY.out _ HK3.out).mono ?_; rintro e w4 ⟨al, lc, l, rfl, hst, hl, htm, hsh⟩; have HX4 := Lib.hid (made_rdx (P := []) hst); have HK4 := Lib.hid (HK3.out.trans (Keep.ofSt hst) (fun _ f => f.elim)); clear hst hl htm hsh HSY)
      have hOr := ref_order (.slice al l.length lc) (l.map SysX.toV) w4 _ HX4.out.sys (fun z hz => hz.2)
      rw [aftX_eq] at hOr
      have HXq := Lib.hid (fun wq (hk : Keep w4 wq Nope) => HX4.out.keep0 hk)
      have HLGq := Lib.hid (fun (R : List Int) (vo : Value) (So : Nat → Prop) wq (hk : Keep w4 wq Nope) (ho : Rd So wq vo R.length (ints R)) => stage_legal (.slice al l.length lc) vo l R wq _ So (HX4.out.keep0 hk) (fun z hz => Nat.lt_of_lt_of_le hz.2 hk.size) ho)
      have hA : (aftX l).length = l.length := by simp [aftX]
      obtain ⟨n, hn⟩ : ∃ n, l.length = n := ⟨_, rfl⟩
      by_cases h0 : chk (aftX l) = 0
      case neg =>
        obtain ⟨ec, hec⟩ : ∃ ec, chk (aftX l) = ec := ⟨_, rfl⟩
        have hz : ∀ x, (chk (aftX l) == 0 && x) = false := fun x => by
          have : (chk (aftX l) == 0) = false := by simpa using h0
          rw [this]; rfl
        simp only [Bool.and_assoc, hz] at HLGq
        unfold RetOrder at hOr
        rw [hec] at hOr h0
        rw [hn] at hOr HLGq ⊢
        have hne : (ec != 0) = true := by simp [h0]
        have HOR := Lib.hid hOr
        clear hOr hec h0 hz hn hA HXq HX4
        go_upto_region 12 with (go_at_call 19; refine HOR.out.mono ?_; rintro e w5 ⟨oa, on, oc, rfl, hk, _⟩; have K4 := Lib.hid hk; have HK5 := Lib.hid (HK4.out.trans hk (fun _ f => f.elim)); clear hk HOR)
        have hlg := HLGq.out ps (.slice pa pn pc) S2 w5 K4.out (by rw [HPN.out]; exact HP.out.keep HK5.out (fun _ _ f => f))
        have HLG := Lib.hid hlg
        clear hlg HLGq
        go_wp2_with (first | (go_at_call 20; refine HLG.out.mono ?_; rintro e w6 ⟨rfl, hk⟩; have HK6 := Lib.hid (HK5.out.trans hk (fun _ f => f.elim)); clear hk HLG) | (go_at_call 15; refine (awake23 _).mono ?_; rintro e w9 ⟨rfl, hk9⟩; have HK9 := Lib.hid hk9; clear hk9))
        go_ret
        exact ⟨rfl, (HK6.out.trans HK9.out (fun _ f => f.elim)).below⟩
      obtain ⟨z1, z2, z3⟩ := chk_zero h0
      rw [hA, hn] at z1 z3
      have hrow := ord_row (aftX l)
      have HLT := Lib.hid (show ∀ i, i ∈ ord (aftX l) → i < l.length from fun i hi => hA ▸ hrow.lt i hi)
      have HND := Lib.hid hrow.nodup
      obtain ⟨o, ho⟩ : ∃ o, ord (aftX l) = o := ⟨_, rfl⟩
      rw [ho] at z3 HLT HND
      obtain ⟨s, hs⟩ : ∃ s, stg (depX l) o l.length = s := ⟨_, rfl⟩
      have HSL := Lib.hid (show s.length = n from by rw [← hs, ← hn]; exact stK_len _ _ _ _)
      have HSB := Lib.hid (show ∀ p, s.getD p 0 ≤ 64 from fun p => by rw [← hs]; have := stK_le (dep := depX l) (o := o) (n := l.length) o.length p; unfold stg; omega)
      have HSTq := Lib.hid (fun (vo : Value) (So : Nat → Prop) wq (hk : Keep w4 wq Nope) (hr : Rd So wq vo o.length (ints (nats o))) => ref_stages (.slice al l.length lc) vo l o wq _ So (HX4.out.keep0 hk) hr (by rw [z3, hn]) (by rw [hn]; omega) HND.out HLT.out)
      simp only [h0, ho, hs, beq_self_eq_true, Bool.true_and] at HLGq HSTq
      unfold RetOrder at hOr
      simp only [h0, if_true, ho] at hOr
      rw [hn] at hOr HLGq HSTq HLT ⊢
      have HOR := Lib.hid hOr
      have HOL := Lib.hid z3
      obtain ⟨P, hP⟩ : ∃ P, pkAll ((grp s o).map nats) ps [] = P := ⟨_, rfl⟩
      have hPK : Picked s o P := hP ▸ picked (s := s) HND.out ps
      have HPL := Lib.hid (show P.length = n from by rw [hPK.len, z3])
      have HPG := Lib.hid hPK.leg
      have HPM := Lib.hid hPK.mem
      have HPS := Lib.hid hPK.swap
      clear hOr h0 hA z2 z3 hrow hs ho hn hPK HX4 HXq
      go_upto_region 12 with (go_at_call 19; refine HOR.out.mono ?_; rintro e w5 ⟨oa, on, oc, rfl, hk, hown⟩; have e5 : on = n := (by have h := hown.len; rw [ints_len, nats_len, Nat.mul_one, HOL.out] at h; exact h.symm); subst on; have HO5 := Lib.hid (show Rd _ w5 (.slice oa n oc) n (ints (nats o)) from hown.rd); have K4 := Lib.hid hk; have HK := Lib.hid (HK4.out.trans hk (fun _ f => f.elim)); clear hk hown HOR)
      have hst := HSTq.out (.slice oa n oc) _ w5 K4.out (by rw [HOL.out]; exact HO5.out)
      have HST := Lib.hid hst
      clear hst HSTq
      go_upto_region 15 with (go_at_call 21; go_loud (refine HST.out.mono ?_; rintro e w6 ⟨sa, sn, sc, rfl, hown, hk⟩; have e6 : sn = n := (by have h := hown.len; rw [ints_len, nats_len, Nat.mul_one, HSL.out] at h; exact h.symm); subst sn; have HS6 := Lib.hid (show Rd _ w6 (.slice sa n sc) n (ints (nats s)) from hown.rd); have HO6 := Lib.hid (HO5.out.keep hk (fun _ _ f => f)); have K4 := Lib.hid (K4.out.trans hk (fun _ f => f.elim)); have HK := Lib.hid (HK.out.trans hk (fun _ f => f.elim)); clear hk hown HST))
      have HGR := Lib.hid (fun wq (hk : Keep w6 wq Nope) => ref_groups (.slice sa n sc) (.slice oa n oc) s o wq _ _ (by rw [HSL.out]; exact HS6.out.keep hk (fun _ _ f => f)) (by rw [HOL.out]; exact HO6.out.keep hk (fun _ _ f => f)) (by rw [HOL.out, HSL.out]) (by rw [HSL.out]; omega) (by rw [HSL.out]; exact HLT.out) HSB.out)
      have HSP := Lib.hid (fun (ga : Option Addr) (gc : Nat) (rs : List RowV) w0 wq (hst : St w0 wq (RowsL (.slice ga rs.length gc) rs)) (hrs : rs.map RowV.l = (grp s o).map nats) (hk : Keep w wq Nope) => (show Calls Try.prog 16 #[.slice ga rs.length gc, .slice pa pn pc] wq (RetOwn wq 3 1 (ints P)) from by
        have h := stage_pick (.slice ga rs.length gc) (.slice pa pn pc) rs ps wq _ S2 (rows_rd (P := []) hst) (by rw [HPN.out]; exact HP.out.keep hk (fun _ _ f => f)) (grp_rows hrs HSB.out (by rw [HOL.out]; omega)).1 (grp_rows hrs HSB.out (by rw [HOL.out]; omega)).2
        rw [hrs, hP] at h
        exact h))
      have HRP := Lib.hid (fun (ga : Option Addr) (gc : Nat) (rs : List RowV) w0 wq (hst : St w0 wq (RowsL (.slice ga rs.length gc) rs)) (hrs : rs.map RowV.l = (grp s o).map nats) (hk : Keep w wq Nope) => (show Calls Try.prog 18 #[.slice ga rs.length gc, .slice pa pn pc] wq (RetOwn wq 3 1 (ints P)) from by
        have h := ref_pick (.slice ga rs.length gc) (.slice pa pn pc) rs ps wq _ S2 (rows_rd (P := []) hst) (by rw [HPN.out]; exact HP.out.keep hk (fun _ _ f => f)) (grp_rows hrs HSB.out (by rw [HOL.out]; omega)).1 (grp_rows hrs HSB.out (by rw [HOL.out]; omega)).2
        rw [hrs, hP] at h
        exact h))
      have K6 := Lib.hid (Keep.refl w6 Nope)
      clear hP
      go_upto_region 16 with (first | (go_at_call 22; refine (HGR.out _ K6.out).mono ?_; rintro e w7 ⟨ga, gc, rs, rfl, hrs, hst⟩; have hk := Keep.ofSt hst; have HRS := Lib.hid hrs; have HRT := Lib.hid hst; have K4 := Lib.hid (K4.out.trans hk (fun _ f => f.elim)); have HK := Lib.hid (HK.out.trans hk (fun _ f => f.elim)); have K6 := Lib.hid (K6.out.trans hk (fun _ f => f.elim)); clear hk hrs hst) | (go_at_call 16; refine (HSP.out _ _ _ _ _ HRT.out HRS.out HK.out).mono ?_; rintro e w8 ⟨qa, qn, qc, rfl, hown, hk⟩; have e8 : qn = n := (by have h := hown.len; rw [ints_len, Nat.mul_one, HPL.out] at h; exact h.symm); subst qn; have HP8 := Lib.hid (show Rd _ w8 (.slice qa n qc) n (ints P) from hown.rd); have K4 := Lib.hid (K4.out.trans hk (fun _ f => f.elim)); have HK := Lib.hid (HK.out.trans hk (fun _ f => f.elim)); have K6 := Lib.hid (K6.out.trans hk (fun _ f => f.elim)); clear hk hown HSP HRT HRS))
      have HPq := Lib.hid (fun wq (hk : Keep w8 wq Nope) => HP8.out.keep hk (fun _ _ f => f))
      have K8 := Lib.hid (Keep.refl w8 Nope)
      go_upto_region 18 with (first | (go_at_call 22; refine (HGR.out _ K6.out).mono ?_; rintro e w9 ⟨ga, gc, rs, rfl, hrs, hst⟩; have hk := Keep.ofSt hst; have HRS := Lib.hid hrs; have HRT := Lib.hid hst; have K4 := Lib.hid (K4.out.trans hk (fun _ f => f.elim)); have HK := Lib.hid (HK.out.trans hk (fun _ f => f.elim)); have K6 := Lib.hid (K6.out.trans hk (fun _ f => f.elim)); have K8 := Lib.hid (K8.out.trans hk (fun _ f => f.elim)); clear hk hrs hst HGR) | (go_at_call 18; refine (HRP.out _ _ _ _ _ HRT.out HRS.out HK.out).mono ?_; rintro e wa ⟨ra2, rn, rc2, rfl, hown, hk⟩; have e8 : rn = n := (by have h := hown.len; rw [ints_len, Nat.mul_one, HPL.out] at h; exact h.symm); subst rn; have HPa := Lib.hid (show Rd _ wa (.slice ra2 n rc2) n (ints P) from hown.rd); have K4 := Lib.hid (K4.out.trans hk (fun _ f => f.elim)); have HK := Lib.hid (HK.out.trans hk (fun _ f => f.elim)); have K6 := Lib.hid (K6.out.trans hk (fun _ f => f.elim)); have K8 := Lib.hid (K8.out.trans hk (fun _ f => f.elim)); clear hk hown HRP HRT HRS) | (go_at_call 17; refine (same_ints _ _ P _ _ _ (by rw [HPL.out]; exact HPq.out _ K8.out) (by rw [HPL.out]; exact HPa.out)).mono ?_; rintro e wb ⟨rfl, hk⟩; have K4 := Lib.hid (K4.out.trans hk (fun _ f => f.elim)); have HK := Lib.hid (HK.out.trans hk (fun _ f => f.elim)); have K6 := Lib.hid (K6.out.trans hk (fun _ f => f.elim)); have K8 := Lib.hid (K8.out.trans hk (fun _ f => f.elim)); clear hk HPa) | (go_at_call 20; refine (HLGq.out P (.slice qa n qc) _ _ K4.out (by rw [HPL.out]; exact HPq.out _ K8.out)).mono ?_; rintro e wd ⟨rfl, hk⟩; rw [HPL.out, HPG.out]; have K4 := Lib.hid (K4.out.trans hk (fun _ f => f.elim)); have HK := Lib.hid (HK.out.trans hk (fun _ f => f.elim)); have K6 := Lib.hid (K6.out.trans hk (fun _ f => f.elim)); have K8 := Lib.hid (K8.out.trans hk (fun _ f => f.elim)); clear hk))
      by_cases hn2 : n < 2
      · have f1 : decide ((n : Int) < 2) = true := decide_eq_true (by omega)
        have f2 : decide (n < 2) = true := decide_eq_true hn2
        go_wp2_with (go_at_call 15; refine (awake23 _).mono ?_; rintro e w9 ⟨rfl, hk9⟩; have HK9 := Lib.hid hk9; clear hk9)
        go_ret
        exact ⟨rfl, (HK.out.trans HK9.out (fun _ f => f.elim)).below⟩
      have f1 : decide ((n : Int) < 2) = false := decide_eq_false (by omega)
      have f2 : decide (n < 2) = false := decide_eq_false hn2
      have hn0 : 0 < n := by omega
      have hn0' : (0 : Int) < (n : Int) := by omega
      obtain ⟨ki, hki, hkil⟩ := and_modk i0 n hn0
      obtain ⟨kk, hkk, hkkl⟩ := and_modk k0 n hn0
      go_upto_region 20 with (fail)
      go_quiet (fail)
      have HPD := Lib.hid (HPq.out _ (K8.out.drewN nq))
      go_wp2_with (at_builtin; refine wpList_app (P := Try.prog) slInt rfl _ _ rfl (S := fun z => z = wd.heap.size) (S2 := New w7 w8) (n := 0) (xs := []) (m := n) (news := ints P) rfl rfl ?_ ?_ ?_ ?_ ?_ ?_ ?_)
      · exact Own.lit (wd.drewN nq) 3 1 0 #[] (Nat.zero_le _) rfl rfl
      · exact HPD.out.alloc _
      · rw [ints_len, HPL.out, Nat.mul_one]
      · exact ints_one _
      · omega
      · unfold maxLen; omega
      rintro ma mn mc we happ
      have K4d := K4; have HKd := HK; have K6d := K6; have K8d := K8
      have q12 := pk_app5 (w6 := wd.drewN nq) ((Keep.refl (wd.drewN nq) Nope).alloc _) (Nat.le_refl _) happ
      have e9 : mn = n := by have := happ.num; omega
      subst mn
      have HM := Lib.hid (show St (wd.drewN nq) we [slA 3 1 (.slice ma n mc) n (ints P)] from (St.start (wd.drewN nq)).add q12.2 (A := slA 3 1 (.slice ma n mc) n (ints P)) (q12.1.tight.mono (fun z hz => ⟨hz.1, hz.2⟩)))
      have hk := (((Keep.refl wd Nope).drewN nq).trans q12.2 (fun _ f => f.elim))
      have K4 := Lib.hid (K4.out.trans hk (fun _ f => f.elim)); have HK := Lib.hid (HK.out.trans hk (fun _ f => f.elim)); have K6 := Lib.hid (K6.out.trans hk (fun _ f => f.elim)); have K8 := Lib.hid (K8.out.trans hk (fun _ f => f.elim));
      clear happ q12 hk HPD
      obtain ⟨xn, hxo, hx⟩ := HPM.out (P[ki]'(by rw [HPL.out]; exact hkil)) (List.getElem_mem _)
      obtain ⟨yn, hyo, hy⟩ := HPM.out (P[kk]'(by rw [HPL.out]; exact hkkl)) (List.getElem_mem _)
      have hxg : P[ki]? = some (xn : Int) := by rw [List.getElem?_eq_getElem (by rw [HPL.out]; exact hkil), hx]
      have hyg : P[kk]? = some (yn : Int) := by rw [List.getElem?_eq_getElem (by rw [HPL.out]; exact hkkl), hy]
      have hsw := HPS.out ki kk (by rw [HPL.out]; exact hkil) (by rw [HPL.out]; exact hkkl)
      rw [hx, hy] at hsw
      have hxn := HLT.out xn hxo
      have hyn := HLT.out yn hyo
      have HSW := Lib.hid (show legG (grp s o) ((P.set ki (yn : Int)).set kk (xn : Int)) = decide (s.getD xn 0 = s.getD yn 0) from hsw)
      have hcp := HPq.out we K8.out
      obtain ⟨bp, op, ⟨c', hv⟩, _, hcx⟩ := hcp.int hxg
      obtain ⟨bp', op', ⟨c2', hv'⟩, _, hcy⟩ := hcp.int hyg
      injection hv with hv1 hv2 hv3
      injection hv' with hv1' hv2' hv3'
      rw [hv1] at hv1'
      injection hv1' with hq
      injection hq with hq1 hq2
      subst hq1 hq2
      subst hv1; subst hv3; clear hv2 hv2' hv3' hcp hx hy hsw
      have HXG := Lib.hid hxg
      have HYG := Lib.hid hyg
      obtain ⟨g, hg, hltg, hfg, hcg, hst⟩ := HM.out.store 0 rfl hn0
      subst hg
      have hfA := hfg ki
      have hcA := (hcg ki (by omega)).trans (ints_get hxg)
      have hst1 := hst ki (.int .i64 (yn : Int))
      rw [ints_set] at hst1
      obtain ⟨w6b, hw6⟩ : ∃ w6, we.setCell ⟨g, ki, none⟩ (.int .i64 (yn : Int)) = w6 := ⟨_, rfl⟩
      rw [hw6] at hst1
      have HW6 := Lib.hid hw6
      obtain ⟨g2, hg2, _, hfg2, hcg2, hst2⟩ := St.store hst1 0 rfl hn0
      injection hg2 with hg2
      injection hg2 with hg2
      subst hg2
      have hfB := hfg2 kk
      obtain ⟨uz, huz⟩ : ∃ uz, w6b.cell? ⟨g, kk, none⟩ = some uz := by
        rw [hcg2 kk (by omega)]
        exact ⟨_, List.getElem?_eq_getElem (by rw [ints_len, List.length_set, HPL.out]; exact hkkl)⟩
      have hst3 := hst2 kk (.int .i64 (xn : Int))
      rw [ints_set] at hst3
      have HST7 := Lib.hid hst3
      have HTL := Lib.hid (show ((P.set ki (yn : Int)).set kk (xn : Int)).length = n by rw [List.length_set, List.length_set, HPL.out])
      clear hw6 hst hst1 hst2 hst3 hcg hcg2 hfg hfg2 hxg hyg hxo hyo
      go_upto_region 22 with (fail)
      refine wp_region_M (r := 12) (S := fun w' => w'.cell? ⟨bp, op + ki, none⟩ = some (.int .i64 (xn : Int)) ∧ w'.cell? ⟨bp, op + kk, none⟩ = some (.int .i64 (yn : Int))) (by kernel_rfl) ?_ (fun hHeld => ?_)
      · (try dsimp only); go_keep
      (refine wpAnyM_takeP (i := 0) (oi := ?_) (v := ?_) ?_ ?_ ?_ ?_ ?_ ?_ ?_ ?_ ?_; rotate_left 2; (· simp only [List.getElem?_toArray, List.getElem?_cons_succ, List.getElem?_cons_zero]; exact rfl); (· kernel_rfl); (· kernel_rfl); (· kernel_rfl); (· kernel_rfl); (· first | exact fun _ _ _ h => h | exact fun _ _ _ h => (HPan.out _ _ _ h).elim); (· (refine Or.inl ⟨by rfl, ?_⟩; (intro w hSw; (try dsimp only at hSw); go_simp) <;> with_reducible rfl)); (· exact fun _ => hHeld); simp only [Act.put, List.setIfInBounds_toArray, List.set_cons_zero, List.set_cons_succ])
      (refine wpAnyM_takeP (i := 1) (oi := ?_) (v := ?_) ?_ ?_ ?_ ?_ ?_ ?_ ?_ ?_ ?_; rotate_left 2; (· simp only [List.getElem?_toArray, List.getElem?_cons_succ, List.getElem?_cons_zero]; exact rfl); (· kernel_rfl); (· kernel_rfl); (· kernel_rfl); (· kernel_rfl); (· first | exact fun _ _ _ h => h | exact fun _ _ _ h => (HPan.out _ _ _ h).elim); (· (refine Or.inl ⟨by rfl, ?_⟩; (intro w hSw; (try dsimp only at hSw); go_simp) <;> with_reducible rfl)); (· exact fun _ => hHeld); simp only [Act.put, List.setIfInBounds_toArray, List.set_cons_zero, List.set_cons_succ])
      (refine wpAnyM_takeP (i := 2) (oi := ?_) (v := ?_) ?_ ?_ ?_ ?_ ?_ ?_ ?_ ?_ ?_; rotate_left 2; (· simp only [List.getElem?_toArray, List.getElem?_cons_succ, List.getElem?_cons_zero]; exact rfl); (· kernel_rfl); (· kernel_rfl); (· kernel_rfl); (· kernel_rfl); (· first | exact fun _ _ _ h => h | exact fun _ _ _ h => (HPan.out _ _ _ h).elim); (· (refine Or.inl ⟨by rfl, ?_⟩; (intro w hSw; (try dsimp only at hSw); go_simp) <;> with_reducible rfl)); (· exact fun _ => hHeld); simp only [Act.put, List.setIfInBounds_toArray, List.set_cons_zero, List.set_cons_succ])
      (refine wpAnyM_takeP (i := 3) (oi := ?_) (v := ?_) ?_ ?_ ?_ ?_ ?_ ?_ ?_ ?_ ?_; rotate_left 2; (· simp only [List.getElem?_toArray, List.getElem?_cons_succ, List.getElem?_cons_zero]; exact rfl); (· kernel_rfl); (· kernel_rfl); (· kernel_rfl); (· kernel_rfl); (· first | exact fun _ _ _ h => h | exact fun _ _ _ h => (HPan.out _ _ _ h).elim); (· (refine Or.inl ⟨by rfl, ?_⟩; (intro w hSw; (try dsimp only at hSw); go_simp) <;> with_reducible rfl)); (· exact fun _ => hHeld); simp only [Act.put, List.setIfInBounds_toArray, List.set_cons_zero, List.set_cons_succ])
      (refine wpAnyM_takeP (i := 4) (oi := ?_) (v := ?_) ?_ ?_ ?_ ?_ ?_ ?_ ?_ ?_ ?_; rotate_left 2; (· simp only [List.getElem?_toArray, List.getElem?_cons_succ, List.getElem?_cons_zero]; exact rfl); (· kernel_rfl); (· kernel_rfl); (· kernel_rfl); (· kernel_rfl); (· first | exact fun _ _ _ h => h | exact fun _ _ _ h => (HPan.out _ _ _ h).elim); (· (refine Or.inl ⟨by rfl, ?_⟩; (intro w hSw; (try dsimp only at hSw); go_simp) <;> with_reducible rfl)); (· exact fun _ => hHeld); simp only [Act.put, List.setIfInBounds_toArray, List.set_cons_zero, List.set_cons_succ])
      (refine wpAnyM_takeP (i := 5) (oi := ?_) (v := ?_) ?_ ?_ ?_ ?_ ?_ ?_ ?_ ?_ ?_; rotate_left 2; (· simp only [List.getElem?_toArray, List.getElem?_cons_succ, List.getElem?_cons_zero]; exact rfl); (· kernel_rfl); (· kernel_rfl); (· kernel_rfl); (· kernel_rfl); (· first | exact fun _ _ _ h => h | exact fun _ _ _ h => (HPan.out _ _ _ h).elim); (· (refine Or.inl ⟨by rfl, ?_⟩; (intro w hSw; (try dsimp only at hSw); go_simp) <;> with_reducible rfl)); (· exact fun _ => hHeld); simp only [Act.put, List.setIfInBounds_toArray, List.set_cons_zero, List.set_cons_succ])
      (refine wpAnyM_takeP (i := 6) (oi := ?_) (v := ?_) ?_ ?_ ?_ ?_ ?_ ?_ ?_ ?_ ?_; rotate_left 2; (· simp only [List.getElem?_toArray, List.getElem?_cons_succ, List.getElem?_cons_zero]; exact rfl); (· kernel_rfl); (· kernel_rfl); (· kernel_rfl); (· kernel_rfl); (· first | exact fun _ _ _ h => h | exact fun _ _ _ h => (HPan.out _ _ _ h).elim); (· (refine Or.inl ⟨by rfl, ?_⟩; (intro w hSw; (try dsimp only at hSw); go_simp) <;> with_reducible rfl)); (· exact fun _ => hHeld); simp only [Act.put, List.setIfInBounds_toArray, List.set_cons_zero, List.set_cons_succ])
      (refine wpAnyM_take (i := 7) (oi := ?_) (v := ?_) ?_ ?_ ?_ ?_ ?_ ?_ ?_ ?_ ?_ ?_; rotate_left 2; (· simp only [List.getElem?_toArray, List.getElem?_cons_succ, List.getElem?_cons_zero]; exact rfl); (· kernel_rfl); (· kernel_rfl); (· kernel_rfl); (· kernel_rfl); (· kernel_rfl); (· first | exact fun _ _ _ h => h | exact fun _ _ _ h => (HPan.out _ _ _ h).elim); (· (refine Or.inl ⟨by rfl, ?_⟩; (intro w hSw; (try dsimp only at hSw); go_simp) <;> with_reducible rfl)); (· assumption); simp only [Act.put, List.setIfInBounds_toArray, List.set_cons_zero, List.set_cons_succ])
      (refine wpAnyM_takeP (i := 8) (oi := ?_) (v := ?_) ?_ ?_ ?_ ?_ ?_ ?_ ?_ ?_ ?_; rotate_left 2; (· simp only [List.getElem?_toArray, List.getElem?_cons_succ, List.getElem?_cons_zero]; exact rfl); (· kernel_rfl); (· kernel_rfl); (· kernel_rfl); (· kernel_rfl); (· first | exact fun _ _ _ h => h | exact fun _ _ _ h => (HPan.out _ _ _ h).elim); (· (refine Or.inl ⟨by rfl, ?_⟩; (intro w hSw; (try dsimp only at hSw); go_simp) <;> with_reducible rfl)); (· exact fun _ => hHeld); simp only [Act.put, List.setIfInBounds_toArray, List.set_cons_zero, List.set_cons_succ])
      (refine wpAnyM_takeP (i := 9) (oi := ?_) (v := ?_) ?_ ?_ ?_ ?_ ?_ ?_ ?_ ?_ ?_; rotate_left 2; (· simp only [List.getElem?_toArray, List.getElem?_cons_succ, List.getElem?_cons_zero]; exact rfl); (· kernel_rfl); (· kernel_rfl); (· kernel_rfl); (· kernel_rfl); (· first | exact fun _ _ _ h => h | exact fun _ _ _ h => (HPan.out _ _ _ h).elim); (· (refine Or.inl ⟨by rfl, ?_⟩; (intro w hSw; (try dsimp only at hSw); go_simp) <;> with_reducible rfl)); (· exact fun _ => hHeld); simp only [Act.put, List.setIfInBounds_toArray, List.set_cons_zero, List.set_cons_succ])
      (refine wpAnyM_takeP (i := 10) (oi := ?_) (v := ?_) ?_ ?_ ?_ ?_ ?_ ?_ ?_ ?_ ?_; rotate_left 2; (· simp only [List.getElem?_toArray, List.getElem?_cons_succ, List.getElem?_cons_zero]; exact rfl); (· kernel_rfl); (· kernel_rfl); (· kernel_rfl); (· kernel_rfl); (· first | exact fun _ _ _ h => h | exact fun _ _ _ h => (HPan.out _ _ _ h).elim); (· (refine Or.inl ⟨by rfl, ?_⟩; (intro w hSw; (try dsimp only at hSw); go_simp) <;> with_reducible rfl)); (· exact fun _ => hHeld); simp only [Act.put, List.setIfInBounds_toArray, List.set_cons_zero, List.set_cons_succ])
      (refine wpAnyM_take (i := 11) (oi := ?_) (v := ?_) ?_ ?_ ?_ ?_ ?_ ?_ ?_ ?_ ?_ ?_; rotate_left 2; (· simp only [List.getElem?_toArray, List.getElem?_cons_succ, List.getElem?_cons_zero]; exact rfl); (· kernel_rfl); (· kernel_rfl); (· kernel_rfl); (· kernel_rfl); (· kernel_rfl); (· first | exact fun _ _ _ h => h | exact fun _ _ _ h => (HPan.out _ _ _ h).elim); (· (refine Or.inl ⟨by rfl, ?_⟩; (intro w hSw; (try dsimp only at hSw); go_simp) <;> with_reducible rfl)); (· assumption); simp only [Act.put, List.setIfInBounds_toArray, List.set_cons_zero, List.set_cons_succ])
      refine wpAnyM_ready (rs := [12]) (by kernel_rfl) (by simp) ?_
      refine AllReadyM.free (o := ?_) ?_ (by kernel_rfl) ?_ ?_
      rotate_left 1
      · simp only [List.getElem?_toArray, List.getElem?_cons_succ, List.getElem?_cons_zero]; exact rfl
      rotate_left 1
      · exact AllReadyM.nil
      intro K hK
      go_simp
      refine hK.out _ _ ?_
      clear hK K
      refine wpAnyM_ready (rs := [13]) (by kernel_rfl) (by simp) ?_
      refine AllReadyM.free (o := ?_) ?_ (by kernel_rfl) ?_ ?_
      rotate_left 1
      · simp only [List.getElem?_toArray, List.getElem?_cons_succ, List.getElem?_cons_zero]; exact rfl
      rotate_left 1
      · exact AllReadyM.nil
      intro K hK
      rw [if_pos (by rfl)]
      (go_simp; rw [HW6.out])
      refine hK.out _ _ ?_
      clear hK K
      (try simp only [List.getElem_toArray, List.getElem_cons_succ, List.getElem_cons_zero, Act.put, List.setIfInBounds_toArray, List.set_cons_zero, List.set_cons_succ])
      (refine wpAnyM_takeP (i := 14) (oi := ?_) (v := ?_) ?_ ?_ ?_ ?_ ?_ ?_ ?_ ?_ ?_; rotate_left 2; (· simp only [List.getElem?_toArray, List.getElem?_cons_succ, List.getElem?_cons_zero]; exact rfl); (· kernel_rfl); (· kernel_rfl); (· kernel_rfl); (· kernel_rfl); (· first | exact fun _ _ _ h => h | exact fun _ _ _ h => (HPan.out _ _ _ h).elim); (· (refine Or.inl ⟨by rfl, ?_⟩; (intro w hSw; (try dsimp only at hSw); go_simp) <;> with_reducible rfl)); (· exact fun h => Bool.noConfusion (show true = false from h)); simp only [Act.put, List.setIfInBounds_toArray, List.set_cons_zero, List.set_cons_succ])
      refine wpAnyM_ready (rs := [15]) (by kernel_rfl) (by simp) ?_
      refine AllReadyM.free (o := ?_) ?_ (by kernel_rfl) ?_ ?_
      rotate_left 1
      · simp only [List.getElem?_toArray, List.getElem?_cons_succ, List.getElem?_cons_zero]; exact rfl
      rotate_left 1
      · exact AllReadyM.nil
      intro K hK
      go_simp
      refine hK.out _ _ ?_
      clear hK K
      refine wpAnyM_done (by kernel_rfl) ?_ _
      go_upto_region 23 with (fail)
      obtain ⟨wr, hwr⟩ : ∃ wr, (w6b.setCell ⟨g, kk, none⟩ (.int .i64 (xn : Int))).drew = wr := ⟨_, rfl⟩
      rw [hwr]
      obtain ⟨M, hM⟩ : ∃ M, (P.set ki (yn : Int)).set kk (xn : Int) = M := ⟨_, rfl⟩
      have HML := Lib.hid (show M.length = n from hM ▸ HTL.out)
      have hsw := HSW.out
      have hst8 := HST7.out.drew
      rw [hwr, hM] at hst8
      rw [hM] at hsw
      obtain ⟨GM, _, hrm, _⟩ := hst8.rd 0 rfl
      have HMr := Lib.hid (show Rd GM wr (.slice (some ⟨g, 0, none⟩) n mc) n (ints M) from hrm)
      have hk := (((Keep.refl wd Nope).drewN nq).trans (Keep.ofSt hst8) (fun _ f => f.elim))
      have K4r := Lib.hid (K4d.out.trans hk (fun _ f => f.elim))
      have HKr := Lib.hid (HKd.out.trans hk (fun _ f => f.elim))
      have K6r := Lib.hid (K6d.out.trans hk (fun _ f => f.elim))
      have K8r := Lib.hid (K8d.out.trans hk (fun _ f => f.elim))
      clear hHeld hk hrm hst8 hcx hcy hM hwr
      clear HSW HST7 HTL HW6 HM hfA hcA hfB huz K4 HK K6 K8 K4d HKd K6d K8d
      have hcx := int_cell (HPq.out wr K8r.out) HXG.out
      have hcy := int_cell (HPq.out wr K8r.out) HYG.out
      have hsr := HS6.out.keep K6r.out (fun _ _ f => f)
      obtain ⟨sx, hsx⟩ : ∃ sx, s.getD xn 0 = sx := ⟨_, rfl⟩
      obtain ⟨sy, hsy⟩ : ∃ sy, s.getD yn 0 = sy := ⟨_, rfl⟩
      have hsxg : (nats s)[xn]? = some (sx : Int) := nats_getD (by rw [HSL.out]; exact hxn) hsx
      have hsyg : (nats s)[yn]? = some (sy : Int) := nats_getD (by rw [HSL.out]; exact hyn) hsy
      obtain ⟨bs, os, ⟨cs', hv⟩, _, hsxc⟩ := hsr.int hsxg
      injection hv with hv1 hv2 hv3
      subst hv1; subst hv3; clear hv2
      have hsyc := int_cell hsr hsyg
      rw [hsx, hsy] at hsw
      have HL1 := Lib.hid (fun wq (hk : Keep wr wq Nope) => (show Calls Try.prog 20 #[.slice al n lc, .slice (some ⟨g, 0, none⟩) n mc] wq (Ret wq (.bool (decide (sx = sy)))) from by
        have h := HLGq.out M (.slice (some ⟨g, 0, none⟩) n mc) _ wq (K4r.out.trans hk (fun _ f => f.elim)) (by rw [HML.out]; exact HMr.out.keep hk (fun _ _ f => f))
        rw [HML.out, hsw, beq_self_eq_true, Bool.true_and] at h
        exact h))
      have HCQ : n ≤ qc := (by
        obtain ⟨_, _, hv, h1, _, _⟩ := HPq.out wr K8r.out
        injection hv with _ _ hv3
        subst hv3
        exact h1)
      obtain ⟨aq, nq2, cq, hcut, hrunl0⟩ := slice_l_any slInt (some ⟨bp, op, none⟩) n qc 1 .i64 (by omega) HCQ
      have hrunl := (show ∀ w, (Instr.sliceAt 23 (.slice (some ⟨bp, op, none⟩) n qc) (some (.int .i64 1)) none none).run Try.prog w = .ok (.slice aq nq2 cq) w from hrunl0)
      have hnq2 : nq2 + 1 = n := hcut.num
      have hdl : (P.drop 1).length = nq2 := by rw [List.length_drop, HPL.out]; omega
      have HL2 := Lib.hid (fun wq (hk : Keep wr wq Nope) => (show Calls Try.prog 20 #[.slice al n lc, .slice aq nq2 cq] wq (Ret wq (.bool false)) from by
        have h0 := hcut.rd _ wq (ints P) (by rw [ints_len, HPL.out, Nat.mul_one]) (HPq.out wq (K8r.out.trans hk (fun _ f => f.elim)))
        have h := HLGq.out (P.drop 1) (.slice aq nq2 cq) _ wq (K4r.out.trans hk (fun _ f => f.elim)) (by rw [hdl]; unfold ints at h0 ⊢; rw [List.map_drop]; exact h0)
        have hb : (nq2 == n) = false := by simp; omega
        rw [hdl, hb, Bool.false_and] at h
        exact h))
      clear HLGq hsw hcut hrunl0 hsxg hsyg hsx hsy hsr hdl hnq2 HCQ HXG HYG HPq HP8 HS6 HO6 HMr
      by_cases hxy : sx = sy
      · have e5 : decide (sx = sy) = true := decide_eq_true hxy
        rw [e5] at HL1
        subst hxy
        refine wp_region_held_drew (S := fun w' => w'.cell? ⟨bp, op + ki, none⟩ = some (.int .i64 (xn : Int)) ∧ w'.cell? ⟨bs, os + xn, none⟩ = some (.int .i64 (sx : Int)) ∧ w'.cell? ⟨bp, op + kk, none⟩ = some (.int .i64 (yn : Int)) ∧ w'.cell? ⟨bs, os + yn, none⟩ = some (.int .i64 (sx : Int))) (by kernel_rfl) ?_ (fun hHeld => ?_)
        · (try dsimp only); (first | exact ⟨hcx, hsxc, hcy, hsyc⟩ | exact ⟨by simpa using hcx, by simpa using hsxc, by simpa using hcy, by simpa using hsyc⟩)
        refine wpAnyH_take (i := 0) (oi := ?_) (v := ?_) ?_ ?_ ?_ ?_ ?_ ?_ ?_ ?_
        rotate_left 2
        · simp only [List.getElem?_toArray, List.getElem?_cons_succ, List.getElem?_cons_zero]; exact rfl
        · kernel_rfl
        · kernel_rfl
        · kernel_rfl
        · first | exact fun _ _ _ h => h | exact fun _ _ _ h => (HPan.out _ _ _ h).elim
        · (refine Or.inl ⟨by rfl, ?_⟩; (intro w hSw; (try dsimp only at hSw); go_simp) <;> with_reducible rfl)
        · assumption
        simp only [Act.put, List.setIfInBounds_toArray, List.set_cons_zero, List.set_cons_succ]
        refine wpAnyH_take (i := 1) (oi := ?_) (v := ?_) ?_ ?_ ?_ ?_ ?_ ?_ ?_ ?_
        rotate_left 2
        · simp only [List.getElem?_toArray, List.getElem?_cons_succ, List.getElem?_cons_zero]; exact rfl
        · kernel_rfl
        · kernel_rfl
        · kernel_rfl
        · first | exact fun _ _ _ h => h | exact fun _ _ _ h => (HPan.out _ _ _ h).elim
        · (refine Or.inl ⟨by rfl, ?_⟩; (intro w hSw; (try dsimp only at hSw); go_simp) <;> with_reducible rfl)
        · assumption
        simp only [Act.put, List.setIfInBounds_toArray, List.set_cons_zero, List.set_cons_succ]
        refine wpAnyH_take (i := 3) (oi := ?_) (v := ?_) ?_ ?_ ?_ ?_ ?_ ?_ ?_ ?_
        rotate_left 2
        · simp only [List.getElem?_toArray, List.getElem?_cons_succ, List.getElem?_cons_zero]; exact rfl
        · kernel_rfl
        · kernel_rfl
        · kernel_rfl
        · first | exact fun _ _ _ h => h | exact fun _ _ _ h => (HPan.out _ _ _ h).elim
        · (refine Or.inl ⟨by rfl, ?_⟩; (intro w hSw; (try dsimp only at hSw); go_simp) <;> with_reducible rfl)
        · assumption
        simp only [Act.put, List.setIfInBounds_toArray, List.set_cons_zero, List.set_cons_succ]
        refine wpAnyH_take (i := 4) (oi := ?_) (v := ?_) ?_ ?_ ?_ ?_ ?_ ?_ ?_ ?_
        rotate_left 2
        · simp only [List.getElem?_toArray, List.getElem?_cons_succ, List.getElem?_cons_zero]; exact rfl
        · kernel_rfl
        · kernel_rfl
        · kernel_rfl
        · first | exact fun _ _ _ h => h | exact fun _ _ _ h => (HPan.out _ _ _ h).elim
        · (refine Or.inl ⟨by rfl, ?_⟩; (intro w hSw; (try dsimp only at hSw); go_simp) <;> with_reducible rfl)
        · assumption
        simp only [Act.put, List.setIfInBounds_toArray, List.set_cons_zero, List.set_cons_succ]
        refine wpAnyH_take (i := 5) (oi := ?_) (v := ?_) ?_ ?_ ?_ ?_ ?_ ?_ ?_ ?_
        rotate_left 2
        · simp only [List.getElem?_toArray, List.getElem?_cons_succ, List.getElem?_cons_zero]; exact rfl
        · kernel_rfl
        · kernel_rfl
        · kernel_rfl
        · first | exact fun _ _ _ h => h | exact fun _ _ _ h => (HPan.out _ _ _ h).elim
        · (refine Or.inl ⟨by rfl, ?_⟩; (intro w hSw; (try dsimp only at hSw); go_simp) <;> with_reducible rfl)
        · assumption
        simp only [Act.put, List.setIfInBounds_toArray, List.set_cons_zero, List.set_cons_succ]
        refine wpAnyH_take (i := 6) (oi := ?_) (v := ?_) ?_ ?_ ?_ ?_ ?_ ?_ ?_ ?_
        rotate_left 2
        · simp only [List.getElem?_toArray, List.getElem?_cons_succ, List.getElem?_cons_zero]; exact rfl
        · kernel_rfl
        · kernel_rfl
        · kernel_rfl
        · first | exact fun _ _ _ h => h | exact fun _ _ _ h => (HPan.out _ _ _ h).elim
        · (refine Or.inl ⟨by rfl, ?_⟩; (intro w hSw; (try dsimp only at hSw); go_simp) <;> with_reducible rfl)
        · assumption
        simp only [Act.put, List.setIfInBounds_toArray, List.set_cons_zero, List.set_cons_succ]
        refine wpAnyH_take (i := 7) (oi := ?_) (v := ?_) ?_ ?_ ?_ ?_ ?_ ?_ ?_ ?_
        rotate_left 2
        · simp only [List.getElem?_toArray, List.getElem?_cons_succ, List.getElem?_cons_zero]; exact rfl
        · kernel_rfl
        · kernel_rfl
        · kernel_rfl
        · first | exact fun _ _ _ h => h | exact fun _ _ _ h => (HPan.out _ _ _ h).elim
        · (refine Or.inl ⟨by rfl, ?_⟩; (intro w hSw; (try dsimp only at hSw); go_simp) <;> with_reducible rfl)
        · assumption
        simp only [Act.put, List.setIfInBounds_toArray, List.set_cons_zero, List.set_cons_succ]
        refine wpAnyH_take (i := 8) (oi := ?_) (v := ?_) ?_ ?_ ?_ ?_ ?_ ?_ ?_ ?_
        rotate_left 2
        · simp only [List.getElem?_toArray, List.getElem?_cons_succ, List.getElem?_cons_zero]; exact rfl
        · kernel_rfl
        · kernel_rfl
        · kernel_rfl
        · first | exact fun _ _ _ h => h | exact fun _ _ _ h => (HPan.out _ _ _ h).elim
        · (refine Or.inl ⟨by rfl, ?_⟩; (intro w hSw; (try dsimp only at hSw); go_simp) <;> with_reducible rfl)
        · assumption
        simp only [Act.put, List.setIfInBounds_toArray, List.set_cons_zero, List.set_cons_succ]
        refine wpAnyH_take (i := 9) (oi := ?_) (v := ?_) ?_ ?_ ?_ ?_ ?_ ?_ ?_ ?_
        rotate_left 2
        · simp only [List.getElem?_toArray, List.getElem?_cons_succ, List.getElem?_cons_zero]; exact rfl
        · kernel_rfl
        · kernel_rfl
        · kernel_rfl
        · first | exact fun _ _ _ h => h | exact fun _ _ _ h => (HPan.out _ _ _ h).elim
        · (refine Or.inl ⟨by rfl, ?_⟩; (intro w hSw; (try dsimp only at hSw); go_simp) <;> with_reducible rfl)
        · assumption
        simp only [Act.put, List.setIfInBounds_toArray, List.set_cons_zero, List.set_cons_succ]
        refine wpAnyH_take (i := 10) (oi := ?_) (v := ?_) ?_ ?_ ?_ ?_ ?_ ?_ ?_ ?_
        rotate_left 2
        · simp only [List.getElem?_toArray, List.getElem?_cons_succ, List.getElem?_cons_zero]; exact rfl
        · kernel_rfl
        · kernel_rfl
        · kernel_rfl
        · first | exact fun _ _ _ h => h | exact fun _ _ _ h => (HPan.out _ _ _ h).elim
        · (refine Or.inl ⟨by rfl, ?_⟩; (intro w hSw; (try dsimp only at hSw); go_simp) <;> with_reducible rfl)
        · assumption
        simp only [Act.put, List.setIfInBounds_toArray, List.set_cons_zero, List.set_cons_succ]
        refine wpAnyH_take (i := 11) (oi := ?_) (v := ?_) ?_ ?_ ?_ ?_ ?_ ?_ ?_ ?_
        rotate_left 2
        · simp only [List.getElem?_toArray, List.getElem?_cons_succ, List.getElem?_cons_zero]; exact rfl
        · kernel_rfl
        · kernel_rfl
        · kernel_rfl
        · first | exact fun _ _ _ h => h | exact fun _ _ _ h => (HPan.out _ _ _ h).elim
        · (refine Or.inl ⟨by rfl, ?_⟩; (intro w hSw; (try dsimp only at hSw); go_simp) <;> with_reducible rfl)
        · assumption
        simp only [Act.put, List.setIfInBounds_toArray, List.set_cons_zero, List.set_cons_succ]
        refine wpAnyH_take (i := 12) (oi := ?_) (v := ?_) ?_ ?_ ?_ ?_ ?_ ?_ ?_ ?_
        rotate_left 2
        · simp only [List.getElem?_toArray, List.getElem?_cons_succ, List.getElem?_cons_zero]; exact rfl
        · kernel_rfl
        · kernel_rfl
        · kernel_rfl
        · first | exact fun _ _ _ h => h | exact fun _ _ _ h => (HPan.out _ _ _ h).elim
        · (refine Or.inl ⟨by rfl, ?_⟩; (intro w hSw; (try dsimp only at hSw); go_simp) <;> with_reducible rfl)
        · assumption
        simp only [Act.put, List.setIfInBounds_toArray, List.set_cons_zero, List.set_cons_succ]
        refine wpAnyH_take (i := 13) (oi := ?_) (v := ?_) ?_ ?_ ?_ ?_ ?_ ?_ ?_ ?_
        rotate_left 2
        · simp only [List.getElem?_toArray, List.getElem?_cons_succ, List.getElem?_cons_zero]; exact rfl
        · kernel_rfl
        · kernel_rfl
        · kernel_rfl
        · first | exact fun _ _ _ h => h | exact fun _ _ _ h => (HPan.out _ _ _ h).elim
        · (refine Or.inl ⟨by rfl, ?_⟩; (intro w hSw; (try dsimp only at hSw); go_simp) <;> with_reducible rfl)
        · assumption
        simp only [Act.put, List.setIfInBounds_toArray, List.set_cons_zero, List.set_cons_succ]
        refine wpAnyH_take (i := 14) (oi := ?_) (v := ?_) ?_ ?_ ?_ ?_ ?_ ?_ ?_ ?_
        rotate_left 2
        · simp only [List.getElem?_toArray, List.getElem?_cons_succ, List.getElem?_cons_zero]; exact rfl
        · kernel_rfl
        · kernel_rfl
        · kernel_rfl
        · first | exact fun _ _ _ h => h | exact fun _ _ _ h => (HPan.out _ _ _ h).elim
        · (refine Or.inl ⟨by rfl, ?_⟩; (intro w hSw; (try dsimp only at hSw); go_simp) <;> with_reducible rfl)
        · assumption
        simp only [Act.put, List.setIfInBounds_toArray, List.set_cons_zero, List.set_cons_succ]
        refine wpAnyH_take (i := 15) (oi := ?_) (v := ?_) ?_ ?_ ?_ ?_ ?_ ?_ ?_ ?_
        rotate_left 2
        · simp only [List.getElem?_toArray, List.getElem?_cons_succ, List.getElem?_cons_zero]; exact rfl
        · kernel_rfl
        · kernel_rfl
        · kernel_rfl
        · first | exact fun _ _ _ h => h | exact fun _ _ _ h => (HPan.out _ _ _ h).elim
        · (refine Or.inl ⟨by rfl, ?_⟩; (intro w hSw; (try dsimp only at hSw); go_simp) <;> with_reducible rfl)
        · assumption
        simp only [Act.put, List.setIfInBounds_toArray, List.set_cons_zero, List.set_cons_succ]
        refine wpAnyH_take (i := 16) (oi := ?_) (v := ?_) ?_ ?_ ?_ ?_ ?_ ?_ ?_ ?_
        rotate_left 2
        · simp only [List.getElem?_toArray, List.getElem?_cons_succ, List.getElem?_cons_zero]; exact rfl
        · kernel_rfl
        · kernel_rfl
        · kernel_rfl
        · first | exact fun _ _ _ h => h | exact fun _ _ _ h => (HPan.out _ _ _ h).elim
        · (refine Or.inl ⟨by rfl, ?_⟩; (intro w hSw; (try dsimp only at hSw); go_simp) <;> with_reducible rfl)
        · assumption
        simp only [Act.put, List.setIfInBounds_toArray, List.set_cons_zero, List.set_cons_succ]
        refine wpAnyH_take (i := 17) (oi := ?_) (v := ?_) ?_ ?_ ?_ ?_ ?_ ?_ ?_ ?_
        rotate_left 2
        · simp only [List.getElem?_toArray, List.getElem?_cons_succ, List.getElem?_cons_zero]; exact rfl
        · kernel_rfl
        · kernel_rfl
        · kernel_rfl
        · first | exact fun _ _ _ h => h | exact fun _ _ _ h => (HPan.out _ _ _ h).elim
        · (refine Or.inl ⟨by rfl, ?_⟩; (intro w hSw; (try dsimp only at hSw); go_simp) <;> with_reducible rfl)
        · assumption
        simp only [Act.put, List.setIfInBounds_toArray, List.set_cons_zero, List.set_cons_succ]
        refine wpAnyH_ready (rs := [2]) (by kernel_rfl) (by simp) ?_
        refine AllReadyH.cons rfl (fun K hK => ?_) (AllReadyH.nil)
        go_simp
        go_wp2_with ((go_at_call 20; refine (HL1.out _ (by (repeat (first | exact Keep.refl _ _ | apply Keep.drew | apply Keep.drewN | apply Keep.alloc)))).mono ?_; rintro e w10 ⟨rfl, hk⟩; have HKa := Lib.hid ((show Keep wr _ Nope from (by (repeat (first | exact Keep.refl _ _ | apply Keep.drew | apply Keep.drewN | apply Keep.alloc)))).trans hk (fun _ f => f.elim)); clear hk))
        refine hK.out _ _ ?_ (fun hHeld => ?_)
        · (try dsimp only); exact ⟨HKa.out.cell hcx (fun f => f), HKa.out.cell hsxc (fun f => f), HKa.out.cell hcy (fun f => f), HKa.out.cell hsyc (fun f => f)⟩
        clear hK K
        refine wpAnyH_take (i := 18) (oi := ?_) (v := ?_) ?_ ?_ ?_ ?_ ?_ ?_ ?_ ?_
        rotate_left 2
        · simp only [List.getElem?_toArray, List.getElem?_cons_succ, List.getElem?_cons_zero]; exact rfl
        · kernel_rfl
        · kernel_rfl
        · kernel_rfl
        · first | exact fun _ _ _ h => h | exact fun _ _ _ h => (HPan.out _ _ _ h).elim
        · (refine Or.inl ⟨by rfl, ?_⟩; (intro w hSw; (try dsimp only at hSw); go_simp) <;> with_reducible rfl)
        · assumption
        simp only [Act.put, List.setIfInBounds_toArray, List.set_cons_zero, List.set_cons_succ]
        refine wpAnyH_take (i := 19) (oi := ?_) (v := ?_) ?_ ?_ ?_ ?_ ?_ ?_ ?_ ?_
        rotate_left 2
        · simp only [List.getElem?_toArray, List.getElem?_cons_succ, List.getElem?_cons_zero]; exact rfl
        · kernel_rfl
        · kernel_rfl
        · kernel_rfl
        · first | exact fun _ _ _ h => h | exact fun _ _ _ h => (HPan.out _ _ _ h).elim
        · (refine Or.inl ⟨by rfl, ?_⟩; (intro w hSw; (try dsimp only at hSw); go_simp) <;> with_reducible rfl)
        · assumption
        simp only [Act.put, List.setIfInBounds_toArray, List.set_cons_zero, List.set_cons_succ]
        refine wpAnyH_take (i := 20) (oi := ?_) (v := ?_) ?_ ?_ ?_ ?_ ?_ ?_ ?_ ?_
        rotate_left 2
        · simp only [List.getElem?_toArray, List.getElem?_cons_succ, List.getElem?_cons_zero]; exact rfl
        · kernel_rfl
        · kernel_rfl
        · kernel_rfl
        · first | exact fun _ _ _ h => h | exact fun _ _ _ h => (HPan.out _ _ _ h).elim
        · (refine Or.inl ⟨by rfl, ?_⟩; (intro w hSw; (try dsimp only at hSw); go_simp) <;> with_reducible rfl)
        · assumption
        simp only [Act.put, List.setIfInBounds_toArray, List.set_cons_zero, List.set_cons_succ]
        refine wpAnyH_take (i := 21) (oi := ?_) (v := ?_) ?_ ?_ ?_ ?_ ?_ ?_ ?_ ?_
        rotate_left 2
        · simp only [List.getElem?_toArray, List.getElem?_cons_succ, List.getElem?_cons_zero]; exact rfl
        · kernel_rfl
        · kernel_rfl
        · kernel_rfl
        · first | exact fun _ _ _ h => h | exact fun _ _ _ h => (HPan.out _ _ _ h).elim
        · (refine Or.inl ⟨by rfl, ?_⟩; (intro w hSw; (try dsimp only at hSw); go_simp) <;> with_reducible rfl)
        · assumption
        simp only [Act.put, List.setIfInBounds_toArray, List.set_cons_zero, List.set_cons_succ]
        refine wpAnyH_take (i := 22) (oi := ?_) (v := ?_) ?_ ?_ ?_ ?_ ?_ ?_ ?_ ?_
        rotate_left 2
        · simp only [List.getElem?_toArray, List.getElem?_cons_succ, List.getElem?_cons_zero]; exact rfl
        · kernel_rfl
        · kernel_rfl
        · kernel_rfl
        · first | exact fun _ _ _ h => h | exact fun _ _ _ h => (HPan.out _ _ _ h).elim
        · (refine Or.inl ⟨by rfl, ?_⟩; (intro w hSw; (try dsimp only at hSw); go_simp) <;> with_reducible rfl)
        · assumption
        simp only [Act.put, List.setIfInBounds_toArray, List.set_cons_zero, List.set_cons_succ]
        refine wpAnyH_ready (rs := [23]) (by kernel_rfl) (by simp) ?_
        refine AllReadyH.cons rfl (fun K hK => ?_) (AllReadyH.nil)
        go_simp
        go_wp2_with ((go_at_call 20; refine (HL2.out _ (HKa.out.trans (show Keep w10 _ Nope from (by (repeat (first | exact Keep.refl _ _ | apply Keep.drew | apply Keep.drewN | apply Keep.alloc)))) (fun _ f => f.elim))).mono ?_; rintro e w11 ⟨rfl, hk⟩; have HKb := Lib.hid (HKa.out.trans ((show Keep w10 _ Nope from (by (repeat (first | exact Keep.refl _ _ | apply Keep.drew | apply Keep.drewN | apply Keep.alloc)))).trans hk (fun _ f => f.elim)) (fun _ f => f.elim)); clear hk))
        refine hK.out _ _ ?_ (fun hHeld => ?_)
        · (try dsimp only); exact ⟨HKb.out.cell hcx (fun f => f), HKb.out.cell hsxc (fun f => f), HKb.out.cell hcy (fun f => f), HKb.out.cell hsyc (fun f => f)⟩
        clear hK K
        refine wpAnyH_take (i := 24) (oi := ?_) (v := ?_) ?_ ?_ ?_ ?_ ?_ ?_ ?_ ?_
        rotate_left 2
        · simp only [List.getElem?_toArray, List.getElem?_cons_succ, List.getElem?_cons_zero]; exact rfl
        · kernel_rfl
        · kernel_rfl
        · kernel_rfl
        · first | exact fun _ _ _ h => h | exact fun _ _ _ h => (HPan.out _ _ _ h).elim
        · (refine Or.inl ⟨by rfl, ?_⟩; (intro w hSw; (try dsimp only at hSw); go_simp) <;> with_reducible rfl)
        · assumption
        simp only [Act.put, List.setIfInBounds_toArray, List.set_cons_zero, List.set_cons_succ]
        refine wpAnyH_take (i := 25) (oi := ?_) (v := ?_) ?_ ?_ ?_ ?_ ?_ ?_ ?_ ?_
        rotate_left 2
        · simp only [List.getElem?_toArray, List.getElem?_cons_succ, List.getElem?_cons_zero]; exact rfl
        · kernel_rfl
        · kernel_rfl
        · kernel_rfl
        · first | exact fun _ _ _ h => h | exact fun _ _ _ h => (HPan.out _ _ _ h).elim
        · (refine Or.inl ⟨by rfl, ?_⟩; (intro w hSw; (try dsimp only at hSw); go_simp) <;> with_reducible rfl)
        · assumption
        simp only [Act.put, List.setIfInBounds_toArray, List.set_cons_zero, List.set_cons_succ]
        refine wpAnyH_take (i := 26) (oi := ?_) (v := ?_) ?_ ?_ ?_ ?_ ?_ ?_ ?_ ?_
        rotate_left 2
        · simp only [List.getElem?_toArray, List.getElem?_cons_succ, List.getElem?_cons_zero]; exact rfl
        · kernel_rfl
        · kernel_rfl
        · kernel_rfl
        · first | exact fun _ _ _ h => h | exact fun _ _ _ h => (HPan.out _ _ _ h).elim
        · (refine Or.inl ⟨by rfl, ?_⟩; (intro w hSw; (try dsimp only at hSw); go_simp) <;> with_reducible rfl)
        · assumption
        simp only [Act.put, List.setIfInBounds_toArray, List.set_cons_zero, List.set_cons_succ]
        refine wpAnyH_ready (rs := [27]) (by kernel_rfl) (by simp) ?_
        refine AllReadyH.cons rfl (fun K hK => ?_) (AllReadyH.nil)
        go_simp
        go_wp2_with ((go_at_call 15; refine (awake23 _).mono ?_; rintro e w12 ⟨rfl, hk⟩; have HKc := Lib.hid (HKb.out.trans ((show Keep w11 _ Nope from (by (repeat (first | exact Keep.refl _ _ | apply Keep.drew | apply Keep.drewN | apply Keep.alloc)))).trans hk (fun _ f => f.elim)) (fun _ f => f.elim)); clear hk))
        refine hK.out _ _ ?_ (fun hHeld => ?_)
        · (try dsimp only); exact ⟨HKc.out.cell hcx (fun f => f), HKc.out.cell hsxc (fun f => f), HKc.out.cell hcy (fun f => f), HKc.out.cell hsyc (fun f => f)⟩
        clear hK K
        refine wpAnyH_take (i := 28) (oi := ?_) (v := ?_) ?_ ?_ ?_ ?_ ?_ ?_ ?_ ?_
        rotate_left 2
        · simp only [List.getElem?_toArray, List.getElem?_cons_succ, List.getElem?_cons_zero]; exact rfl
        · kernel_rfl
        · kernel_rfl
        · kernel_rfl
        · first | exact fun _ _ _ h => h | exact fun _ _ _ h => (HPan.out _ _ _ h).elim
        · (refine Or.inl ⟨by rfl, ?_⟩; (intro w hSw; (try dsimp only at hSw); go_simp) <;> with_reducible rfl)
        · assumption
        simp only [Act.put, List.setIfInBounds_toArray, List.set_cons_zero, List.set_cons_succ]
        refine wpAnyH_take (i := 29) (oi := ?_) (v := ?_) ?_ ?_ ?_ ?_ ?_ ?_ ?_ ?_
        rotate_left 2
        · simp only [List.getElem?_toArray, List.getElem?_cons_succ, List.getElem?_cons_zero]; exact rfl
        · kernel_rfl
        · kernel_rfl
        · kernel_rfl
        · first | exact fun _ _ _ h => h | exact fun _ _ _ h => (HPan.out _ _ _ h).elim
        · (refine Or.inl ⟨by rfl, ?_⟩; (intro w hSw; (try dsimp only at hSw); go_simp) <;> with_reducible rfl)
        · assumption
        simp only [Act.put, List.setIfInBounds_toArray, List.set_cons_zero, List.set_cons_succ]
        refine wpAnyH_done (by kernel_rfl) ?_ _
        go_wp2_with fail
        go_ret
        exact ⟨rfl, (HKr.out.trans HKc.out (fun _ f => f.elim)).below⟩
      · have e5 : decide (sx = sy) = false := decide_eq_false hxy
        have e6 : ((sx : Int) == (sy : Int)) = false := by simp; omega
        have e7 : decide ((sx : Int) = (sy : Int)) = false := decide_eq_false (by omega)
        rw [e5] at HL1
        refine wp_region_held_drew (S := fun w' => w'.cell? ⟨bp, op + ki, none⟩ = some (.int .i64 (xn : Int)) ∧ w'.cell? ⟨bs, os + xn, none⟩ = some (.int .i64 (sx : Int)) ∧ w'.cell? ⟨bp, op + kk, none⟩ = some (.int .i64 (yn : Int)) ∧ w'.cell? ⟨bs, os + yn, none⟩ = some (.int .i64 (sy : Int))) (by kernel_rfl) ?_ (fun hHeld => ?_)
        · (try dsimp only); (first | exact ⟨hcx, hsxc, hcy, hsyc⟩ | exact ⟨by simpa using hcx, by simpa using hsxc, by simpa using hcy, by simpa using hsyc⟩)
        refine wpAnyH_take (i := 0) (oi := ?_) (v := ?_) ?_ ?_ ?_ ?_ ?_ ?_ ?_ ?_
        rotate_left 2
        · simp only [List.getElem?_toArray, List.getElem?_cons_succ, List.getElem?_cons_zero]; exact rfl
        · kernel_rfl
        · kernel_rfl
        · kernel_rfl
        · first | exact fun _ _ _ h => h | exact fun _ _ _ h => (HPan.out _ _ _ h).elim
        · (refine Or.inl ⟨by rfl, ?_⟩; (intro w hSw; (try dsimp only at hSw); go_simp) <;> with_reducible rfl)
        · assumption
        simp only [Act.put, List.setIfInBounds_toArray, List.set_cons_zero, List.set_cons_succ]
        refine wpAnyH_take (i := 1) (oi := ?_) (v := ?_) ?_ ?_ ?_ ?_ ?_ ?_ ?_ ?_
        rotate_left 2
        · simp only [List.getElem?_toArray, List.getElem?_cons_succ, List.getElem?_cons_zero]; exact rfl
        · kernel_rfl
        · kernel_rfl
        · kernel_rfl
        · first | exact fun _ _ _ h => h | exact fun _ _ _ h => (HPan.out _ _ _ h).elim
        · (refine Or.inl ⟨by rfl, ?_⟩; (intro w hSw; (try dsimp only at hSw); go_simp) <;> with_reducible rfl)
        · assumption
        simp only [Act.put, List.setIfInBounds_toArray, List.set_cons_zero, List.set_cons_succ]
        refine wpAnyH_take (i := 3) (oi := ?_) (v := ?_) ?_ ?_ ?_ ?_ ?_ ?_ ?_ ?_
        rotate_left 2
        · simp only [List.getElem?_toArray, List.getElem?_cons_succ, List.getElem?_cons_zero]; exact rfl
        · kernel_rfl
        · kernel_rfl
        · kernel_rfl
        · first | exact fun _ _ _ h => h | exact fun _ _ _ h => (HPan.out _ _ _ h).elim
        · (refine Or.inl ⟨by rfl, ?_⟩; (intro w hSw; (try dsimp only at hSw); go_simp) <;> with_reducible rfl)
        · assumption
        simp only [Act.put, List.setIfInBounds_toArray, List.set_cons_zero, List.set_cons_succ]
        refine wpAnyH_take (i := 4) (oi := ?_) (v := ?_) ?_ ?_ ?_ ?_ ?_ ?_ ?_ ?_
        rotate_left 2
        · simp only [List.getElem?_toArray, List.getElem?_cons_succ, List.getElem?_cons_zero]; exact rfl
        · kernel_rfl
        · kernel_rfl
        · kernel_rfl
        · first | exact fun _ _ _ h => h | exact fun _ _ _ h => (HPan.out _ _ _ h).elim
        · (refine Or.inl ⟨by rfl, ?_⟩; (intro w hSw; (try dsimp only at hSw); go_simp) <;> with_reducible rfl)
        · assumption
        simp only [Act.put, List.setIfInBounds_toArray, List.set_cons_zero, List.set_cons_succ]
        refine wpAnyH_take (i := 5) (oi := ?_) (v := ?_) ?_ ?_ ?_ ?_ ?_ ?_ ?_ ?_
        rotate_left 2
        · simp only [List.getElem?_toArray, List.getElem?_cons_succ, List.getElem?_cons_zero]; exact rfl
        · kernel_rfl
        · kernel_rfl
        · kernel_rfl
        · first | exact fun _ _ _ h => h | exact fun _ _ _ h => (HPan.out _ _ _ h).elim
        · (refine Or.inl ⟨by rfl, ?_⟩; (intro w hSw; (try dsimp only at hSw); go_simp) <;> with_reducible rfl)
        · assumption
        simp only [Act.put, List.setIfInBounds_toArray, List.set_cons_zero, List.set_cons_succ]
        refine wpAnyH_take (i := 6) (oi := ?_) (v := ?_) ?_ ?_ ?_ ?_ ?_ ?_ ?_ ?_
        rotate_left 2
        · simp only [List.getElem?_toArray, List.getElem?_cons_succ, List.getElem?_cons_zero]; exact rfl
        · kernel_rfl
        · kernel_rfl
        · kernel_rfl
        · first | exact fun _ _ _ h => h | exact fun _ _ _ h => (HPan.out _ _ _ h).elim
        · (refine Or.inl ⟨by rfl, ?_⟩; (intro w hSw; (try dsimp only at hSw); go_simp) <;> with_reducible rfl)
        · assumption
        simp only [Act.put, List.setIfInBounds_toArray, List.set_cons_zero, List.set_cons_succ]
        refine wpAnyH_take (i := 7) (oi := ?_) (v := ?_) ?_ ?_ ?_ ?_ ?_ ?_ ?_ ?_
        rotate_left 2
        · simp only [List.getElem?_toArray, List.getElem?_cons_succ, List.getElem?_cons_zero]; exact rfl
        · kernel_rfl
        · kernel_rfl
        · kernel_rfl
        · first | exact fun _ _ _ h => h | exact fun _ _ _ h => (HPan.out _ _ _ h).elim
        · (refine Or.inl ⟨by rfl, ?_⟩; (intro w hSw; (try dsimp only at hSw); go_simp) <;> with_reducible rfl)
        · assumption
        simp only [Act.put, List.setIfInBounds_toArray, List.set_cons_zero, List.set_cons_succ]
        refine wpAnyH_take (i := 8) (oi := ?_) (v := ?_) ?_ ?_ ?_ ?_ ?_ ?_ ?_ ?_
        rotate_left 2
        · simp only [List.getElem?_toArray, List.getElem?_cons_succ, List.getElem?_cons_zero]; exact rfl
        · kernel_rfl
        · kernel_rfl
        · kernel_rfl
        · first | exact fun _ _ _ h => h | exact fun _ _ _ h => (HPan.out _ _ _ h).elim
        · (refine Or.inl ⟨by rfl, ?_⟩; (intro w hSw; (try dsimp only at hSw); go_simp) <;> with_reducible rfl)
        · assumption
        simp only [Act.put, List.setIfInBounds_toArray, List.set_cons_zero, List.set_cons_succ]
        refine wpAnyH_take (i := 9) (oi := ?_) (v := ?_) ?_ ?_ ?_ ?_ ?_ ?_ ?_ ?_
        rotate_left 2
        · simp only [List.getElem?_toArray, List.getElem?_cons_succ, List.getElem?_cons_zero]; exact rfl
        · kernel_rfl
        · kernel_rfl
        · kernel_rfl
        · first | exact fun _ _ _ h => h | exact fun _ _ _ h => (HPan.out _ _ _ h).elim
        · (refine Or.inl ⟨by rfl, ?_⟩; (intro w hSw; (try dsimp only at hSw); go_simp) <;> with_reducible rfl)
        · assumption
        simp only [Act.put, List.setIfInBounds_toArray, List.set_cons_zero, List.set_cons_succ]
        refine wpAnyH_take (i := 10) (oi := ?_) (v := ?_) ?_ ?_ ?_ ?_ ?_ ?_ ?_ ?_
        rotate_left 2
        · simp only [List.getElem?_toArray, List.getElem?_cons_succ, List.getElem?_cons_zero]; exact rfl
        · kernel_rfl
        · kernel_rfl
        · kernel_rfl
        · first | exact fun _ _ _ h => h | exact fun _ _ _ h => (HPan.out _ _ _ h).elim
        · (refine Or.inl ⟨by rfl, ?_⟩; (intro w hSw; (try dsimp only at hSw); go_simp) <;> with_reducible rfl)
        · assumption
        simp only [Act.put, List.setIfInBounds_toArray, List.set_cons_zero, List.set_cons_succ]
        refine wpAnyH_take (i := 11) (oi := ?_) (v := ?_) ?_ ?_ ?_ ?_ ?_ ?_ ?_ ?_
        rotate_left 2
        · simp only [List.getElem?_toArray, List.getElem?_cons_succ, List.getElem?_cons_zero]; exact rfl
        · kernel_rfl
        · kernel_rfl
        · kernel_rfl
        · first | exact fun _ _ _ h => h | exact fun _ _ _ h => (HPan.out _ _ _ h).elim
        · (refine Or.inl ⟨by rfl, ?_⟩; (intro w hSw; (try dsimp only at hSw); go_simp) <;> with_reducible rfl)
        · assumption
        simp only [Act.put, List.setIfInBounds_toArray, List.set_cons_zero, List.set_cons_succ]
        refine wpAnyH_take (i := 12) (oi := ?_) (v := ?_) ?_ ?_ ?_ ?_ ?_ ?_ ?_ ?_
        rotate_left 2
        · simp only [List.getElem?_toArray, List.getElem?_cons_succ, List.getElem?_cons_zero]; exact rfl
        · kernel_rfl
        · kernel_rfl
        · kernel_rfl
        · first | exact fun _ _ _ h => h | exact fun _ _ _ h => (HPan.out _ _ _ h).elim
        · (refine Or.inl ⟨by rfl, ?_⟩; (intro w hSw; (try dsimp only at hSw); go_simp) <;> with_reducible rfl)
        · assumption
        simp only [Act.put, List.setIfInBounds_toArray, List.set_cons_zero, List.set_cons_succ]
        refine wpAnyH_take (i := 13) (oi := ?_) (v := ?_) ?_ ?_ ?_ ?_ ?_ ?_ ?_ ?_
        rotate_left 2
        · simp only [List.getElem?_toArray, List.getElem?_cons_succ, List.getElem?_cons_zero]; exact rfl
        · kernel_rfl
        · kernel_rfl
        · kernel_rfl
        · first | exact fun _ _ _ h => h | exact fun _ _ _ h => (HPan.out _ _ _ h).elim
        · (refine Or.inl ⟨by rfl, ?_⟩; (intro w hSw; (try dsimp only at hSw); go_simp) <;> with_reducible rfl)
        · assumption
        simp only [Act.put, List.setIfInBounds_toArray, List.set_cons_zero, List.set_cons_succ]
        refine wpAnyH_take (i := 14) (oi := ?_) (v := ?_) ?_ ?_ ?_ ?_ ?_ ?_ ?_ ?_
        rotate_left 2
        · simp only [List.getElem?_toArray, List.getElem?_cons_succ, List.getElem?_cons_zero]; exact rfl
        · kernel_rfl
        · kernel_rfl
        · kernel_rfl
        · first | exact fun _ _ _ h => h | exact fun _ _ _ h => (HPan.out _ _ _ h).elim
        · (refine Or.inl ⟨by rfl, ?_⟩; (intro w hSw; (try dsimp only at hSw); go_simp) <;> with_reducible rfl)
        · assumption
        simp only [Act.put, List.setIfInBounds_toArray, List.set_cons_zero, List.set_cons_succ]
        refine wpAnyH_take (i := 15) (oi := ?_) (v := ?_) ?_ ?_ ?_ ?_ ?_ ?_ ?_ ?_
        rotate_left 2
        · simp only [List.getElem?_toArray, List.getElem?_cons_succ, List.getElem?_cons_zero]; exact rfl
        · kernel_rfl
        · kernel_rfl
        · kernel_rfl
        · first | exact fun _ _ _ h => h | exact fun _ _ _ h => (HPan.out _ _ _ h).elim
        · (refine Or.inl ⟨by rfl, ?_⟩; (intro w hSw; (try dsimp only at hSw); go_simp) <;> with_reducible rfl)
        · assumption
        simp only [Act.put, List.setIfInBounds_toArray, List.set_cons_zero, List.set_cons_succ]
        refine wpAnyH_take (i := 16) (oi := ?_) (v := ?_) ?_ ?_ ?_ ?_ ?_ ?_ ?_ ?_
        rotate_left 2
        · simp only [List.getElem?_toArray, List.getElem?_cons_succ, List.getElem?_cons_zero]; exact rfl
        · kernel_rfl
        · kernel_rfl
        · kernel_rfl
        · first | exact fun _ _ _ h => h | exact fun _ _ _ h => (HPan.out _ _ _ h).elim
        · (refine Or.inl ⟨by rfl, ?_⟩; (intro w hSw; (try dsimp only at hSw); go_simp) <;> with_reducible rfl)
        · assumption
        simp only [Act.put, List.setIfInBounds_toArray, List.set_cons_zero, List.set_cons_succ]
        refine wpAnyH_take (i := 17) (oi := ?_) (v := ?_) ?_ ?_ ?_ ?_ ?_ ?_ ?_ ?_
        rotate_left 2
        · simp only [List.getElem?_toArray, List.getElem?_cons_succ, List.getElem?_cons_zero]; exact rfl
        · kernel_rfl
        · kernel_rfl
        · kernel_rfl
        · first | exact fun _ _ _ h => h | exact fun _ _ _ h => (HPan.out _ _ _ h).elim
        · (refine Or.inl ⟨by rfl, ?_⟩; (intro w hSw; (try dsimp only at hSw); go_simp) <;> with_reducible rfl)
        · assumption
        simp only [Act.put, List.setIfInBounds_toArray, List.set_cons_zero, List.set_cons_succ]
        refine wpAnyH_ready (rs := [2]) (by kernel_rfl) (by simp) ?_
        refine AllReadyH.cons rfl (fun K hK => ?_) (AllReadyH.nil)
        go_simp
        go_wp2_with ((go_at_call 20; refine (HL1.out _ (by (repeat (first | exact Keep.refl _ _ | apply Keep.drew | apply Keep.drewN | apply Keep.alloc)))).mono ?_; rintro e w10 ⟨rfl, hk⟩; have HKa := Lib.hid ((show Keep wr _ Nope from (by (repeat (first | exact Keep.refl _ _ | apply Keep.drew | apply Keep.drewN | apply Keep.alloc)))).trans hk (fun _ f => f.elim)); clear hk))
        refine hK.out _ _ ?_ (fun hHeld => ?_)
        · (try dsimp only); exact ⟨HKa.out.cell hcx (fun f => f), HKa.out.cell hsxc (fun f => f), HKa.out.cell hcy (fun f => f), HKa.out.cell hsyc (fun f => f)⟩
        clear hK K
        refine wpAnyH_take (i := 18) (oi := ?_) (v := ?_) ?_ ?_ ?_ ?_ ?_ ?_ ?_ ?_
        rotate_left 2
        · simp only [List.getElem?_toArray, List.getElem?_cons_succ, List.getElem?_cons_zero]; exact rfl
        · kernel_rfl
        · kernel_rfl
        · kernel_rfl
        · first | exact fun _ _ _ h => h | exact fun _ _ _ h => (HPan.out _ _ _ h).elim
        · (refine Or.inl ⟨by rfl, ?_⟩; (intro w hSw; (try dsimp only at hSw); go_simp) <;> with_reducible rfl)
        · assumption
        simp only [Act.put, List.setIfInBounds_toArray, List.set_cons_zero, List.set_cons_succ]
        refine wpAnyH_take (i := 19) (oi := ?_) (v := ?_) ?_ ?_ ?_ ?_ ?_ ?_ ?_ ?_
        rotate_left 2
        · simp only [List.getElem?_toArray, List.getElem?_cons_succ, List.getElem?_cons_zero]; exact rfl
        · kernel_rfl
        · kernel_rfl
        · kernel_rfl
        · first | exact fun _ _ _ h => h | exact fun _ _ _ h => (HPan.out _ _ _ h).elim
        · (refine Or.inl ⟨by rfl, ?_⟩; (intro w hSw; (try dsimp only at hSw); go_simp) <;> with_reducible rfl)
        · assumption
        simp only [Act.put, List.setIfInBounds_toArray, List.set_cons_zero, List.set_cons_succ]
        refine wpAnyH_take (i := 20) (oi := ?_) (v := ?_) ?_ ?_ ?_ ?_ ?_ ?_ ?_ ?_
        rotate_left 2
        · simp only [List.getElem?_toArray, List.getElem?_cons_succ, List.getElem?_cons_zero]; exact rfl
        · kernel_rfl
        · kernel_rfl
        · kernel_rfl
        · first | exact fun _ _ _ h => h | exact fun _ _ _ h => (HPan.out _ _ _ h).elim
        · (refine Or.inl ⟨by rfl, ?_⟩; (intro w hSw; (try dsimp only at hSw); go_simp) <;> with_reducible rfl)
        · assumption
        simp only [Act.put, List.setIfInBounds_toArray, List.set_cons_zero, List.set_cons_succ]
        refine wpAnyH_take (i := 21) (oi := ?_) (v := ?_) ?_ ?_ ?_ ?_ ?_ ?_ ?_ ?_
        rotate_left 2
        · simp only [List.getElem?_toArray, List.getElem?_cons_succ, List.getElem?_cons_zero]; exact rfl
        · kernel_rfl
        · kernel_rfl
        · kernel_rfl
        · first | exact fun _ _ _ h => h | exact fun _ _ _ h => (HPan.out _ _ _ h).elim
        · (refine Or.inl ⟨by rfl, ?_⟩; (intro w hSw; (try dsimp only at hSw); go_simp) <;> with_reducible rfl)
        · assumption
        simp only [Act.put, List.setIfInBounds_toArray, List.set_cons_zero, List.set_cons_succ]
        refine wpAnyH_take (i := 22) (oi := ?_) (v := ?_) ?_ ?_ ?_ ?_ ?_ ?_ ?_ ?_
        rotate_left 2
        · simp only [List.getElem?_toArray, List.getElem?_cons_succ, List.getElem?_cons_zero]; exact rfl
        · kernel_rfl
        · kernel_rfl
        · kernel_rfl
        · first | exact fun _ _ _ h => h | exact fun _ _ _ h => (HPan.out _ _ _ h).elim
        · (refine Or.inl ⟨by rfl, ?_⟩; (intro w hSw; (try dsimp only at hSw); go_simp) <;> with_reducible rfl)
        · assumption
        simp only [Act.put, List.setIfInBounds_toArray, List.set_cons_zero, List.set_cons_succ]
        refine wpAnyH_ready (rs := [23]) (by kernel_rfl) (by simp) ?_
        refine AllReadyH.cons rfl (fun K hK => ?_) (AllReadyH.nil)
        go_simp
        go_wp2_with ((go_at_call 20; refine (HL2.out _ (HKa.out.trans (show Keep w10 _ Nope from (by (repeat (first | exact Keep.refl _ _ | apply Keep.drew | apply Keep.drewN | apply Keep.alloc)))) (fun _ f => f.elim))).mono ?_; rintro e w11 ⟨rfl, hk⟩; have HKb := Lib.hid (HKa.out.trans ((show Keep w10 _ Nope from (by (repeat (first | exact Keep.refl _ _ | apply Keep.drew | apply Keep.drewN | apply Keep.alloc)))).trans hk (fun _ f => f.elim)) (fun _ f => f.elim)); clear hk))
        refine hK.out _ _ ?_ (fun hHeld => ?_)
        · (try dsimp only); exact ⟨HKb.out.cell hcx (fun f => f), HKb.out.cell hsxc (fun f => f), HKb.out.cell hcy (fun f => f), HKb.out.cell hsyc (fun f => f)⟩
        clear hK K
        refine wpAnyH_take (i := 24) (oi := ?_) (v := ?_) ?_ ?_ ?_ ?_ ?_ ?_ ?_ ?_
        rotate_left 2
        · simp only [List.getElem?_toArray, List.getElem?_cons_succ, List.getElem?_cons_zero]; exact rfl
        · kernel_rfl
        · kernel_rfl
        · kernel_rfl
        · first | exact fun _ _ _ h => h | exact fun _ _ _ h => (HPan.out _ _ _ h).elim
        · (refine Or.inl ⟨by rfl, ?_⟩; (intro w hSw; (try dsimp only at hSw); go_simp) <;> with_reducible rfl)
        · assumption
        simp only [Act.put, List.setIfInBounds_toArray, List.set_cons_zero, List.set_cons_succ]
        refine wpAnyH_take (i := 25) (oi := ?_) (v := ?_) ?_ ?_ ?_ ?_ ?_ ?_ ?_ ?_
        rotate_left 2
        · simp only [List.getElem?_toArray, List.getElem?_cons_succ, List.getElem?_cons_zero]; exact rfl
        · kernel_rfl
        · kernel_rfl
        · kernel_rfl
        · first | exact fun _ _ _ h => h | exact fun _ _ _ h => (HPan.out _ _ _ h).elim
        · (refine Or.inl ⟨by rfl, ?_⟩; (intro w hSw; (try dsimp only at hSw); go_simp) <;> with_reducible rfl)
        · assumption
        simp only [Act.put, List.setIfInBounds_toArray, List.set_cons_zero, List.set_cons_succ]
        refine wpAnyH_take (i := 26) (oi := ?_) (v := ?_) ?_ ?_ ?_ ?_ ?_ ?_ ?_ ?_
        rotate_left 2
        · simp only [List.getElem?_toArray, List.getElem?_cons_succ, List.getElem?_cons_zero]; exact rfl
        · kernel_rfl
        · kernel_rfl
        · kernel_rfl
        · first | exact fun _ _ _ h => h | exact fun _ _ _ h => (HPan.out _ _ _ h).elim
        · (refine Or.inl ⟨by rfl, ?_⟩; (intro w hSw; (try dsimp only at hSw); go_simp) <;> with_reducible rfl)
        · assumption
        simp only [Act.put, List.setIfInBounds_toArray, List.set_cons_zero, List.set_cons_succ]
        refine wpAnyH_ready (rs := [27]) (by kernel_rfl) (by simp) ?_
        refine AllReadyH.cons rfl (fun K hK => ?_) (AllReadyH.nil)
        go_simp
        go_wp2_with ((go_at_call 15; refine (awake23 _).mono ?_; rintro e w12 ⟨rfl, hk⟩; have HKc := Lib.hid (HKb.out.trans ((show Keep w11 _ Nope from (by (repeat (first | exact Keep.refl _ _ | apply Keep.drew | apply Keep.drewN | apply Keep.alloc)))).trans hk (fun _ f => f.elim)) (fun _ f => f.elim)); clear hk))
        refine hK.out _ _ ?_ (fun hHeld => ?_)
        · (try dsimp only); exact ⟨HKc.out.cell hcx (fun f => f), HKc.out.cell hsxc (fun f => f), HKc.out.cell hcy (fun f => f), HKc.out.cell hsyc (fun f => f)⟩
        clear hK K
        refine wpAnyH_take (i := 28) (oi := ?_) (v := ?_) ?_ ?_ ?_ ?_ ?_ ?_ ?_ ?_
        rotate_left 2
        · simp only [List.getElem?_toArray, List.getElem?_cons_succ, List.getElem?_cons_zero]; exact rfl
        · kernel_rfl
        · kernel_rfl
        · kernel_rfl
        · first | exact fun _ _ _ h => h | exact fun _ _ _ h => (HPan.out _ _ _ h).elim
        · (refine Or.inl ⟨by rfl, ?_⟩; (intro w hSw; (try dsimp only at hSw); go_simp) <;> with_reducible rfl)
        · assumption
        simp only [Act.put, List.setIfInBounds_toArray, List.set_cons_zero, List.set_cons_succ]
        refine wpAnyH_take (i := 29) (oi := ?_) (v := ?_) ?_ ?_ ?_ ?_ ?_ ?_ ?_ ?_
        rotate_left 2
        · simp only [List.getElem?_toArray, List.getElem?_cons_succ, List.getElem?_cons_zero]; exact rfl
        · kernel_rfl
        · kernel_rfl
        · kernel_rfl
        · first | exact fun _ _ _ h => h | exact fun _ _ _ h => (HPan.out _ _ _ h).elim
        · (refine Or.inl ⟨by rfl, ?_⟩; (intro w hSw; (try dsimp only at hSw); go_simp) <;> with_reducible rfl)
        · assumption
        simp only [Act.put, List.setIfInBounds_toArray, List.set_cons_zero, List.set_cons_succ]
        refine wpAnyH_done (by kernel_rfl) ?_ _
        go_wp2_with fail
        go_ret
        exact ⟨rfl, (HKr.out.trans HKc.out (fun _ f => f.elim)).below⟩
end Go.Proofs.Ytbigknmeooaidaa
