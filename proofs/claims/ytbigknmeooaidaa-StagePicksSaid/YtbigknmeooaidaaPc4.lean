/-
  The package stage: may an order be.
-/
import Derived.Test.YtbigknmeooaidaaPcP
import Derived.Test.YtbigknmeooaidaaChk8
import Derived.Test.YtbigknmeooaidaaRef1
namespace Go.Proofs.Ytbigknmeooaidaa
open Go Go.RowKit
set_option linter.unusedVariables false
set_option linter.unusedSimpArgs false

theorem equal_int (v v2 : Value) (xs ys : List Int) (w : World) (S S2 : Nat → Prop) (h : Rd S w v xs.length (ints xs)) (h2 : Rd S2 w v2 ys.length (ints ys)) (hl : xs.length = ys.length) :
    Calls Try.prog 41 #[v, v2] w (Ret w (.bool (xs == ys))) := by
  obtain ⟨a, c, rfl, g1, g2, g3, g4⟩ := id h
  obtain ⟨a2, c2, rfl, q1, q2, q3, q4⟩ := id h2
  unfold maxLen at g2 q2
  by_cases h0 : xs.length = 0
  · have e1 : xs = [] := List.eq_nil_of_length_eq_zero h0
    have e2 : ys = [] := List.eq_nil_of_length_eq_zero (by omega)
    subst e1 e2
    refine (Try.slices_Equal_int_empty a a2 c 0 c2 w (by omega)).mono ?_
    rintro e w' ⟨rfl, rfl⟩
    exact ⟨rfl, Keep.refl _ _⟩
  · obtain ⟨x0, hx0⟩ : ∃ x, xs[0]? = some x := ⟨_, List.getElem?_eq_getElem (by omega)⟩
    obtain ⟨y0, hy0⟩ : ∃ x, ys[0]? = some x := ⟨_, List.getElem?_eq_getElem (by omega)⟩
    obtain ⟨b, o, ⟨c', hv⟩, _, _⟩ := h.int hx0
    injection hv with hv1 hv2 hv3
    subst hv1
    obtain ⟨b2, o2, ⟨c3, hv⟩, _, _⟩ := h2.int hy0
    injection hv with hv1 hv2 hv3
    subst hv1
    refine (Try.slices_Equal_int b o xs.length c b2 o2 ys.length c2 xs ys w (Nat.le_refl _) (Nat.le_refl _) (by omega) (by omega) (fun j hj => ?_) (fun j hj => ?_)).mono ?_
    · obtain ⟨b', o', ⟨c', hv⟩, _, hc⟩ := h.int (k := j) (x := xs.getD j 0) (by rw [List.getD_eq_getElem?_getD, List.getElem?_eq_getElem hj]; rfl)
      injection hv with hv1 _ _
      injection hv1 with hv1
      injection hv1 with e1 e2
      subst e1 e2
      exact hc
    · obtain ⟨b', o', ⟨c', hv⟩, _, hc⟩ := h2.int (k := j) (x := ys.getD j 0) (by rw [List.getD_eq_getElem?_getD, List.getElem?_eq_getElem hj]; rfl)
      injection hv with hv1 _ _
      injection hv1 with hv1
      injection hv1 with e1 e2
      subst e1 e2
      exact hc
    · rintro e w' ⟨rfl, q, rfl⟩
      exact ⟨by rw [List.take_length, List.take_length], (Keep.refl _ _).drewN q⟩

theorem rdc_cap {S : Nat → Prop} {w : World} {a : Option Addr} {n c : Nat} {xs : List Value} (h : Rd S w (.slice a n c) n xs) : n ≤ c := by
  obtain ⟨a', c', he, h1, h2, h3, h4⟩ := h
  injection he with e1 e2 e3
  omega
def LoopLg (w : World) (So : Nat → Prop) (G : List (List Nat)) (R : List Int) (rs : List RowV) (vr : Value) (g : Nat) (v1 v27 : Value) (wr : World) : Prop :=
  ∃ (t m : Nat) (a : Option Addr) (c : Nat) (R' : List Int), g + t = rs.length ∧ v27 = .int .i64 t ∧ v1 = .slice a m c ∧ R'.length = m ∧ Rd So w (.slice a m c) m (ints R') ∧ legG G R = legG (G.drop t) R' ∧ (G.drop t).flatten.length = m ∧ m ≤ 64 ∧ St w wr (RowsL vr rs)

set_option maxRecDepth 5000 in
set_option maxHeartbeats 1600000 in
theorem stage_legal (v vo : Value) (l : List SysX) (R : List Int) (w : World) (S So : Nat → Prop) (h : RdSysX S w v l) (hS : ∀ i, S i → i < w.heap.size) (ho : Rd So w vo R.length (ints R)) :
    Calls Try.prog 20 #[v, vo] w (Ret w (.bool ((chk (aftX l) == 0) && (R.length == l.length) && legG (grp (stg (depX l) (ord (aftX l)) l.length) (ord (aftX l))) R))) := by
  have hO := stage_stages v l w S h hS
  obtain ⟨va, vc, rfl, g1, g2, g3, g4⟩ := id h.sys.rd
  simp only [List.length_map] at g1 hO ⊢
  clear g3 g4
  obtain ⟨oa, oc, rfl, q1, q2, q3, q4⟩ := id ho
  clear q3 q4
  have HOR := Lib.hid ho
  obtain ⟨res, hres⟩ : ∃ res, ((chk (aftX l) == 0) && (R.length == l.length) && legG (grp (stg (depX l) (ord (aftX l)) l.length) (ord (aftX l))) R) = res := ⟨_, rfl⟩
  rw [hres]
  unfold maxLen at q2
  clear ho h
  by_cases h0 : chk (aftX l) = 0
  · obtain ⟨z1, z2, z3⟩ := chk_zero h0
    have hA : (aftX l).length = l.length := by simp [aftX]
    rw [hA] at z3 z1
    obtain ⟨s, hs⟩ : ∃ s, stg (depX l) (ord (aftX l)) l.length = s := ⟨_, rfl⟩
    rw [hs] at hO hres
    have hgl := grp_len s (ord (aftX l))
    rw [z3] at hgl
    obtain ⟨G, hG⟩ : ∃ G, grp s (ord (aftX l)) = G := ⟨_, rfl⟩
    rw [hG] at hO hgl hres
    rw [h0] at hres
    unfold RetStages at hO
    simp only [h0, if_true] at hO
    have HO := Lib.hid hO
    have HRES := Lib.hid hres
    have HGL := Lib.hid hgl
    clear h0 z2 z3 hA hs hG hO hres hgl
    obtain ⟨n, hn⟩ : ∃ n, l.length = n := ⟨_, rfl⟩
    rw [hn] at HGL HRES HO z1 ⊢
    obtain ⟨on, hon⟩ : ∃ n, R.length = n := ⟨_, rfl⟩
    rw [hon] at HOR HRES q1 ⊢
    have HON := Lib.hid hon
    clear hn hon
    go_enter Try.func20, Try.ntmps20
    go_upto_region 2 with (go_at_call 11; refine HO.out.mono ?_; rintro e w1 ⟨ar, cr, rs, rfl, hrs, hst⟩; have HRS := Lib.hid hrs; have HST := Lib.hid hst; clear hrs hst HO)
    by_cases hne : on = n
    case neg =>
      have hb : ((on : Int) != (n : Int)) = true := by simp; omega
      have hb2 : (on != n) = true := by simp; exact hne
      have hb3 : (on == n) = false := by simp; exact hne
      have HB := Lib.hid (show res = false from by rw [← HRES.out, hb3]; rfl)
      clear hne hb3
      go_wp2_with fail
      go_ret
      exact ⟨by rw [HB.out]; rfl, Keep.ofSt HST.out⟩
    subst hne
    have hb : ((on : Int) != (on : Int)) = false := by simp
    have HLG := Lib.hid (show legG G R = res from by rw [← HRES.out]; simp)
    have hrl : rs.length = G.length := by have := congrArg List.length HRS.out; simpa using this
    have hr63 : rs.length ≤ 9223372036854775807 := by
      obtain ⟨_, _, _, x1, x2, _⟩ := (rows_rd (P := []) HST.out).rd
      unfold maxLen at x2
      omega
    have HRL := Lib.hid hrl
    clear hrl
    clear HRES
    go_wp2_with fail
    go_loopg [1, 27] rs.length (fun g v1 v27 wr => LoopLg w So G R rs (.slice ar rs.length cr) g v1 v27 wr)
    case atStart => exact ⟨0, on, oa, oc, R, by omega, rfl, rfl, HON.out, HOR.out, rfl, HGL.out, by omega, HST.out⟩
    case round =>
      obtain ⟨t, m, a, c, R', ht, rfl, rfl, hm, hrd, hleg, hfl, hm64, hst⟩ := hrel
      clear HST
      have htn : t ≤ rs.length := by omega
      have HT := Lib.hid ht
      have HM := Lib.hid hm
      have HR' := Lib.hid hrd
      have HLE := Lib.hid hleg
      have HFL := Lib.hid hfl
      have H3 := Lib.hid hst
      have hcap := rdc_cap hrd
      clear ht hm hrd hleg hfl hst
      by_cases hlt : t < rs.length
      · obtain ⟨g, hg⟩ : ∃ g, G[t]? = some g := ⟨_, List.getElem?_eq_getElem (by rw [← HRL.out]; exact hlt)⟩
        obtain ⟨r, hr⟩ : ∃ r, rs[t]? = some r := ⟨_, List.getElem?_eq_getElem hlt⟩
        have hrow : r.l = nats g := by
          have e := congrArg (fun L => L[t]?) HRS.out
          simp only [List.getElem?_map, hr, hg, Option.map_some] at e
          injection e
        have hdr : G.drop t = g :: G.drop (t + 1) := by
          obtain ⟨h1, h2⟩ := List.getElem?_eq_some_iff.1 hg
          rw [List.drop_eq_getElem_cons h1, h2]
        have hfl := HFL.out
        rw [hdr, List.flatten_cons, List.length_append] at hfl
        have hle2 := HLE.out
        rw [hdr, legG] at hle2
        obtain ⟨bz, oz, rfl, _, hc0, hrr⟩ := (rows_rd (P := []) H3.out).get hr
        obtain ⟨ra, rc, rl⟩ := r
        simp only at hrow
        subst hrow
        simp only [RowV.v, nats_len] at hc0 hrr
        obtain ⟨k, hk⟩ : ∃ k, g.length = k := ⟨_, rfl⟩
        rw [hk] at hc0 hrr hfl hle2
        have hkm : k ≤ m := by omega
        obtain ⟨a1, c1, hct1, hct2⟩ := cut_int a m c k hkm hcap
        obtain ⟨a2, c2, htl1, htl2⟩ := tail_int a m c k hkm hcap
        have HRP := Lib.hid (hct2 So w R' HM.out HR'.out)
        have HRT := Lib.hid (htl2 So w R' HM.out HR'.out)
        obtain ⟨d, hd⟩ : ∃ d, m - k = d := ⟨_, rfl⟩
        rw [hd] at htl1 HRT
        have hd64 : d ≤ 64 := by omega
        have HFD := Lib.hid (show (G.drop (t + 1)).flatten.length = d from by omega)
        have HDL := Lib.hid (show (R'.drop k).length = d from by rw [List.length_drop, HM.out, hd])
        have HTK := Lib.hid (show (R'.take k).length = k from by rw [List.length_take, HM.out]; omega)
        have HKN := Lib.hid (show (nats g).length = k from by rw [nats_len, hk])
        have HC1 := Lib.hid (show Calls Try.prog 38 #[.slice a1 k c1] wr (RetOwn wr 3 1 (ints (R'.take k))) from clone_ints _ k _ wr So (HRP.out.keep (Keep.ofSt H3.out) (fun _ _ f => f)) (by rw [ints_len, HTK.out, Nat.mul_one]) (ints_one _) (by omega))
        have HC2 := Lib.hid (fun wq (hkq : Keep wr wq Nope) => (show Calls Try.prog 38 #[.slice ra k rc] wq (RetOwn wq 3 1 (ints (nats g))) from clone_ints _ k _ wq _ (hrr.keep hkq (fun _ _ f => f)) (by rw [ints_len, HKN.out, Nat.mul_one]) (ints_one _) (by omega)))
        obtain ⟨b, hb'⟩ : ∃ b, (sortI (R'.take k) == sortI (nats g)) = b := ⟨_, rfl⟩
        rw [hb'] at hle2
        have HBB := Lib.hid hb'
        have HLE2 := Lib.hid hle2
        have hti : (t : Int) < rs.length := by omega
        have htd : decide ((t : Int) < rs.length) = true := decide_eq_true hti
        have hk64 : k < 4611686018427387904 := by omega
        clear hg hr hdr hfl hle2 hrr hct2 htl2 hd hb' hk
        go_upto_region 8 with (go_at_call 38; refine HC1.out.mono ?_; rintro e w5 ⟨pa, pn, pc, rfl, hown, hk5⟩; have e1 : pn = k := (by have := hown.len; rw [ints_len, HTK.out, Nat.mul_one] at this; exact this.symm); subst pn; have HP1 := Lib.hid (show St wr w5 [slA 3 1 (.slice pa k pc) k (ints (R'.take k))] from (St.start wr).add hk5 (A := slA 3 1 (.slice pa k pc) k (ints (R'.take k))) hown); clear hown hk5 HC1)
        go_upto_region 10 with (go_at_call 38; refine (HC2.out _ (Keep.ofSt HP1.out)).mono ?_; rintro e w6 ⟨qa, qn, qc, rfl, hown, hk6⟩; have e2 : qn = k := (by have := hown.len; rw [ints_len, HKN.out, Nat.mul_one] at this; exact this.symm); subst qn; have HP2 := Lib.hid (show St wr w6 [slA 3 1 (.slice pa k pc) k (ints (R'.take k)), slA 3 1 (.slice qa k qc) k (ints (nats g))] from HP1.out.add hk6 (A := slA 3 1 (.slice qa k qc) k (ints (nats g))) hown); clear hown hk6 HC2 HP1)
        have HSA := Lib.hid (sort_int HP2.out 0 rfl HTK.out hk64)
        go_upto_region 11 with (go_at_call 40; refine HSA.out.mono ?_; rintro e w7 ⟨rfl, hst⟩; have HP3 := Lib.hid (show St wr w7 [slA 3 1 (.slice pa k pc) k (ints (sortI (R'.take k))), slA 3 1 (.slice qa k qc) k (ints (nats g))] from hst); clear hst HSA HP2)
        have HSB := Lib.hid (sort_int HP3.out 1 rfl HKN.out hk64)
        go_upto_region 12 with (go_at_call 40; refine HSB.out.mono ?_; rintro e w8 ⟨rfl, hst⟩; have HP4 := Lib.hid (show St wr w8 [slA 3 1 (.slice pa k pc) k (ints (sortI (R'.take k))), slA 3 1 (.slice qa k qc) k (ints (sortI (nats g)))] from hst); clear hst HSB HP3)
        have hsl1 : (sortI (R'.take k)).length = k := by unfold sortI; rw [List.length_mergeSort]; exact HTK.out
        have hsl2 : (sortI (nats g)).length = k := by unfold sortI; rw [List.length_mergeSort]; exact HKN.out
        obtain ⟨Ga, _, ra', _⟩ := HP4.out.rd 0 rfl
        obtain ⟨Gb, _, rb', _⟩ := HP4.out.rd 1 rfl
        have hEQ := equal_int (.slice pa k pc) (.slice qa k qc) (sortI (R'.take k)) (sortI (nats g)) w8 Ga Gb (by rw [hsl1]; exact ra') (by rw [hsl2]; exact rb') (by rw [hsl1, hsl2])
        rw [HBB.out] at hEQ
        have HEQ := Lib.hid hEQ
        clear hEQ ra' rb' hsl1 hsl2
        cases b
        · have HB := Lib.hid (show res = false from by rw [← HLG.out, HLE2.out]; rfl)
          go_wp2_with (go_at_call 41; refine HEQ.out.mono ?_; rintro e w9 ⟨rfl, hk9⟩; have HK9 := Lib.hid hk9; clear hk9)
          go_ret
          exact ⟨by rw [HB.out]; rfl, ((Keep.ofSt H3.out).trans (Keep.ofSt HP4.out) (fun _ f => f.elim)).trans HK9.out (fun _ f => f.elim)⟩
        · go_wp2_with (go_at_call 41; refine HEQ.out.mono ?_; rintro e w9 ⟨rfl, hk9⟩; have HK9 := Lib.hid hk9; clear hk9)
          go_roundg (rs.length - (t + 1))
          case measure => have := HT.out; omega
          case rel => exact ⟨t + 1, d, a2, c2, R'.drop k, by have := HT.out; omega, by go_num, rfl, HDL.out, HRT.out, by rw [HLE2.out, Bool.true_and], HFD.out, by omega, (H3.out.keep (Keep.ofSt HP4.out)).keep HK9.out⟩
      · obtain rfl : t = rs.length := by omega
        have htd : decide (((rs.length : Nat) : Int) < rs.length) = false := decide_eq_false (by omega)
        have HB := Lib.hid (show res = true from by rw [← HLG.out, HLE.out, List.drop_of_length_le (by rw [← HRL.out]; exact Nat.le_refl _)]; rfl)
        go_wp2_with fail
        go_ret
        exact ⟨by rw [HB.out]; rfl, Keep.ofSt H3.out⟩
  · have hb : res = false := by
      rw [← hres]
      have : (chk (aftX l) == 0) = false := by simpa using h0
      rw [this]
      rfl
    obtain ⟨ec, hec⟩ : ∃ ec, chk (aftX l) = ec := ⟨_, rfl⟩
    unfold RetStages at hO
    rw [hec] at hO h0
    obtain ⟨n, hn⟩ : ∃ n, l.length = n := ⟨_, rfl⟩
    rw [hn] at hO ⊢
    obtain ⟨on, hon⟩ : ∃ n, R.length = n := ⟨_, rfl⟩
    rw [hon] at HOR q1 ⊢
    have hne : (ec != 0) = true := by simp [h0]
    have HO := Lib.hid hO
    have HB := Lib.hid hb
    clear h0 hec hO hres hb
    go_enter Try.func20, Try.ntmps20
    go_upto_region 2 with (go_at_call 11; refine HO.out.mono ?_; rintro e w1 ⟨ar, cr, rs, rfl, hrs, hst⟩; have HST := Lib.hid hst; clear hrs hst HO)
    go_wp2_with fail
    go_ret
    exact ⟨by rw [HB.out]; rfl, Keep.ofSt HST.out⟩
end Go.Proofs.Ytbigknmeooaidaa
