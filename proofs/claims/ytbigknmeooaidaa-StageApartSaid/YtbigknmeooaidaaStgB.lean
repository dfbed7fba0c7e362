/-
  StageApart: systems of one stage do not meddle; each of a later stage is held by one ahead: the walk.
-/
import Derived.Test.YtbigknmeooaidaaStgA
namespace Go.Proofs.Ytbigknmeooaidaa
open Go Go.RowKit
set_option linter.unusedVariables false
set_option linter.unusedSimpArgs false

def LoopA0 (w2 : World) (s o : List Nat) (mg : Nat) (g : Nat) (v8 v9 : Value) (wr : World) : Prop :=
  ∃ i : Nat, g + i = mg ∧ v9 = .int .i64 i ∧ v8 = .int .i64 (cntS s o i) ∧ Keep w2 wr Nope
def LoopA2 (w2 : World) (m : Nat) (g : Nat) (v : Value) (wr : World) : Prop :=
  ∃ k : Nat, g + k = m ∧ v = .int .i64 k ∧ Keep w2 wr Nope
theorem rows_grp {rs : List RowV} {gs : List (List Nat)} (h : rs.map RowV.l = gs.map nats) {i : Nat} {r : RowV} (hr : rs[i]? = some r) : ∃ G, gs[i]? = some G ∧ r.l = nats G := by
  have h1 := congrArg (fun L => L[i]?) h
  simp only [List.getElem?_map, hr, Option.map_some] at h1
  obtain ⟨G, hG, e⟩ := Option.map_eq_some_iff.1 h1.symm
  exact ⟨G, hG, e.symm⟩
theorem nats_at {G : List Nat} {k : Nat} (h : k < (nats G).length) : ∃ a, G[k]? = some a ∧ (nats G)[k]? = some (a : Int) := by
  rw [nats_len] at h
  exact ⟨_, List.getElem?_eq_getElem h, nats_get (List.getElem?_eq_getElem h)⟩
/-- What holds a. -/
def holdB (l : List SysX) (xa : SysX) (b : Nat) : Bool := match l[b]? with
  | some xb => confR xa xb || decide ((b : Int) ∈ xa.af.l)
  | none => false
def LoopA6 (w2 : World) (l : List SysX) (xa : SysX) (G : List Nat) (h0 : Bool) (m : Nat) (g : Nat) (v14 v15 : Value) (wr : World) : Prop :=
  ∃ j : Nat, g + j = m ∧ v15 = .int .i64 j ∧ v14 = .bool (h0 || (G.take j).any (holdB l xa)) ∧ Keep w2 wr Nope

set_option maxRecDepth 100000 in
set_option maxHeartbeats 8000000 in
theorem stageApart_walk (v v2 : Value) (rs0 : List RowV) (uses : List Int) (w : World) (S0 S2 : Nat → Prop) (h : RdRows S0 w v rs0) (hS : ∀ i, S0 i → i < w.heap.size) (h2 : Rd S2 w v2 uses.length (ints uses)) :
    Calls Try.prog 3 #[v, v2] w (RetTrue w) := by
  have HSY := Lib.hid (systems23 v v2 rs0 uses true w S0 S2 h hS h2)
  obtain ⟨va, vc, rfl, _⟩ := id h.rd
  obtain ⟨ua, uc, rfl, _⟩ := id h2
  obtain ⟨n, hn⟩ : ∃ n, min rs0.length 66 = n := ⟨_, rfl⟩
  have hn66 : n ≤ 66 := by omega
  rw [hn] at HSY
  clear h h2 hn
  go_enter Try.func3, Try.ntmps3
  go_wp2_with fail
  refine HSY.out.mono ?_
  rintro e w1 ⟨a5, c5, l, rfl, hst, hl, htm, hsh⟩
  have H1 := Lib.hid ((St.start w).keep (Keep.ofSt hst))
  have hrd := made_rdx (P := []) hst
  have hSt := stage_stages _ l w1 _ hrd (fun z hz => hz.2)
  have HA : Hid (badSys (aftX l) = false) := Lib.hid (badSys_tame (fun p af hp x hx => by
    unfold aftX at hp
    rw [List.getElem?_map] at hp
    obtain ⟨y, hy, rfl⟩ := Option.map_eq_some_iff.1 hp
    have := (htm p y hy).2 rfl x hx
    have e : (aftX l).length = n := by simp [aftX, hl]
    rw [e]
    exact this))
  have HAF : Hid (∀ (p : Nat) (x : SysX), l[p]? = some x → x.af.l.length ≤ 10 ∧ ∀ y, y ∈ x.af.l → 0 ≤ y ∧ y < 66) := Lib.hid (fun p x hx => ⟨(htm p x hx).1, fun y hy => by have := (htm p x hx).2 rfl y hy; omega⟩)
  have HL := Lib.hid hl
  rw [hl] at hSt hrd ⊢
  have hlenA : (aftX l).length = n := by simp [aftX, hl]
  have HRD := Lib.hid hrd
  clear hst hrd htm hsh HSY hl
  by_cases h0 : chk (aftX l) = 0
  · obtain ⟨z1, z2, z3⟩ := chk_zero h0
    have hrow := ord_row (aftX l)
    obtain ⟨o, ho⟩ : ∃ o, ord (aftX l) = o := ⟨_, rfl⟩
    unfold RetStages at hSt
    rw [h0, if_pos rfl, ho] at hSt
    rw [ho] at z3 hrow
    rw [hlenA] at z1 z3
    obtain ⟨s, hs⟩ : ∃ s, stg (depX l) o n = s := ⟨_, rfl⟩
    have HSE := Lib.hid hs
    rw [hs] at hSt
    have HST0 := Lib.hid hSt
    have HROW := Lib.hid hrow
    have HOL := Lib.hid z3
    clear hSt hrow z2 z3 h0 hs ho hlenA
    go_wp2_with fail
    refine HST0.out.mono ?_
    rintro e w2 ⟨ar, cr, rs, rfl, hrs, hst⟩
    have hk2 := Keep.ofSt hst
    have hrr := rows_rd (P := []) hst
    obtain ⟨mg, hmg⟩ : ∃ mg, rs.length = mg := ⟨_, rfl⟩
    rw [hmg] at hrr ⊢
    have hmx : mg = mxK s o o.length := by
      have := congrArg List.length hrs
      simp only [List.length_map] at this
      rw [← hmg, this]
      unfold grp
      rw [grK_len]
    have hmg67 : mg ≤ 67 := by
      rw [hmx]
      refine mxK_le (fun p _ => ?_) _
      rw [← HSE.out]
      have h1 := stK_le (dep := depX l) (o := o) (n := n) o.length p
      have h2 := HOL.out
      unfold stg
      omega
    have HMX := Lib.hid hmx
    have HRS := Lib.hid hrs
    have HMG := Lib.hid hmg
    have HRR := Lib.hid hrr
    have HX2 := Lib.hid (HRD.out.keep0 hk2)
    have H2 := Lib.hid (H1.out.keep hk2)
    have HCL : Hid (∀ i, cntS s o i ≤ 66) := Lib.hid (fun i => by
      unfold cntS
      have := List.length_filter_le (fun p => decide (s.getD p 0 < i)) o
      have := HOL.out
      omega)
    clear hst hk2 hrr hmx hrs hmg HST0 HRD H1
    go_wp2_with fail
    go_loopg [8, 9] mg (fun g v8 v9 wr => LoopA0 w2 s o mg g v8 v9 wr)
    case atStart => exact ⟨0, by omega, rfl, by rw [cntS_zero]; rfl, Keep.refl _ _⟩
    case round =>
      obtain ⟨i, hg, rfl, rfl, hkp⟩ := hrel
      have him : i ≤ mg := by omega
      have HG := Lib.hid hg; clear hg
      have HKP := Lib.hid hkp; clear hkp
      by_cases hlt : i < mg
      · have hiI : (i : Int) < mg := by omega
        have hid1 : decide ((i : Int) < mg) = true := decide_eq_true hiI
        obtain ⟨r, hr⟩ : ∃ r, rs[i]? = some r := ⟨_, List.getElem?_eq_getElem (by rw [HMG.out]; exact hlt)⟩
        obtain ⟨G, hG, hrl⟩ := rows_grp HRS.out hr
        obtain ⟨bg, og, rfl, _, hcg0, hrr0⟩ := HRR.out.get hr
        obtain ⟨ra, rc, rl⟩ := r
        simp only at hrl hcg0
        subst hrl
        rw [nats_len] at hcg0
        obtain ⟨m, hm⟩ : ∃ m, G.length = m := ⟨_, rfl⟩
        rw [hm] at hcg0
        have hGm : G.length ≤ 66 := by
          obtain ⟨_, e⟩ := grp_get hG
          have := List.length_filter_le (fun p => s.getD p 0 == i) o
          have := HOL.out
          rw [e]
          omega
        have HGG := Lib.hid hG
        have HM := Lib.hid hm
        have HCG := Lib.hid hcg0
        have HRI : Hid (Rd (fun z => w1.heap.size ≤ z ∧ z < w2.heap.size) w2 (.slice ra m rc) m (ints (nats G))) := Lib.hid (by
          have h1 := hrr0
          unfold RowV.v at h1
          simp only [nats_len, hm] at h1
          exact h1)
        have hcs := cntS_succ (s := s) i o
        have hge := (grp_get hG).2
        rw [← hge, hm] at hcs
        have HCS := Lib.hid hcs
        have hcl := HCL.out i
        have hm66 : m ≤ 66 := by omega
        have hcg := HKP.out.cell HCG.out (fun f => f)
        clear hG hrr0 hr hm hcg0 hcs hge hGm
        go_wp2_with fail
        go_loopg [10] m (fun g v10 wr => LoopA2 w2 m g v10 wr)
        case atStart => exact ⟨0, by omega, rfl, HKP.out⟩
        case round =>
          obtain ⟨k, hg, rfl, hkp⟩ := hrel
          clear hcg HKP
          have hkm : k ≤ m := by omega
          have HG2 := Lib.hid hg; clear hg
          have HKP := Lib.hid hkp; clear hkp
          have hcg := HKP.out.cell HCG.out (fun f => f)
          by_cases hlk : k < m
          · have hkI : (k : Int) < m := by omega
            have hkd : decide ((k : Int) < m) = true := decide_eq_true hkI
            obtain ⟨a, ha⟩ : ∃ a, G[k]? = some a := ⟨_, List.getElem?_eq_getElem (by rw [HM.out]; exact hlk)⟩
            have hag := (mem_grp HGG.out).1 (List.mem_of_getElem? ha)
            have han : a < n := by have := HROW.out.lt a hag.1; simpa [aftX, HL.out] using this
            obtain ⟨xa, hxa⟩ : ∃ xa, l[a]? = some xa := ⟨_, List.getElem?_eq_getElem (by rw [HL.out]; exact han)⟩
            obtain ⟨br, orr, ⟨c', hv⟩, _, hca⟩ := (HRI.out.keep HKP.out (fun _ _ f => f)).int (nats_get ha)
            injection hv with hv1 hv2 hv3
            subst hv1; subst hv3; clear hv2
            have HAG := Lib.hid hag
            have HGK := Lib.hid ha
            have HXA := Lib.hid hxa
            have hanI : (a : Int) < n := by omega
            have hand : decide ((a : Int) ≥ n) = false := decide_eq_false (by omega)
            have hand2 : decide ((n : Int) ≤ a) = false := decide_eq_false (by omega)
            have hand3 : decide (n ≤ a) = false := decide_eq_false (by omega)
            have ha0 : decide ((a : Int) < 0) = false := decide_eq_false (by omega)
            clear hag ha hxa
            go_wp2_with fail
            clear hca
            go_loopg [12] m (fun g v12 wr => LoopA2 w2 m g v12 wr)
            case atStart => exact ⟨0, by omega, rfl, HKP.out⟩
            case round =>
              obtain ⟨j, hg, rfl, hkp⟩ := hrel
              clear hcg HKP
              have hjm : j ≤ m := by omega
              have HG3 := Lib.hid hg; clear hg
              have HKP := Lib.hid hkp; clear hkp
              have hcg := HKP.out.cell HCG.out (fun f => f)
              by_cases hlj : j < m
              · have hjI : (j : Int) < m := by omega
                have hjd : decide ((j : Int) < m) = true := decide_eq_true hjI
                obtain ⟨b, hb⟩ : ∃ b, G[j]? = some b := ⟨_, List.getElem?_eq_getElem (by rw [HM.out]; exact hlj)⟩
                obtain ⟨br', or', ⟨c', hv⟩, _, hcb⟩ := (HRI.out.keep HKP.out (fun _ _ f => f)).int (nats_get hb)
                injection hv with hv1 hv2 hv3
                injection hv1 with hv1
                injection hv1 with hv1 hv4
                subst hv1; subst hv4; clear hv2 hv3
                by_cases hjk : j = k
                · have hjk0 : ((j : Int) != k) = false := by simp; omega
                  clear hb hjk
                  go_upto_region 20 with (fail)
                  go_quiet (fail)
                  go_wp2_with fail
                  go_roundg (m - (j + 1))
                  case measure => have := HG3.out; omega
                  case rel => exact ⟨j + 1, by omega, by go_num, HKP.out.drewN _⟩
                · have hjk1 : ((j : Int) != k) = true := by simp; omega
                  have hbg := (mem_grp HGG.out).1 (List.mem_of_getElem? hb)
                  have hbn : b < n := by have := HROW.out.lt b hbg.1; simpa [aftX, HL.out] using this
                  obtain ⟨xb, hxb⟩ : ∃ xb, l[b]? = some xb := ⟨_, List.getElem?_eq_getElem (by rw [HL.out]; exact hbn)⟩
                  have hab : a ≠ b := fun e => by
                    subst e
                    have hnd : G.Nodup := by
                      rw [(grp_get HGG.out).2]
                      exact List.Nodup.sublist List.filter_sublist HROW.out.nodup
                    have h1 := HGK.out
                    have e1 := (List.getElem?_eq_some_iff.1 h1).2
                    have e2 := (List.getElem?_eq_some_iff.1 hb).2
                    exact hjk ((List.getElem_inj (h₀ := (List.getElem?_eq_some_iff.1 hb).1) (h₁ := (List.getElem?_eq_some_iff.1 h1).1) hnd).1 (e2.trans e1.symm))
                  obtain ⟨hcf, hnb⟩ := stg_apart (n := n) HROW.out HL.out.symm HAG.out.1 hbg.1 hab (by rw [HSE.out, HAG.out.2, hbg.2]) HXA.out hxb
                  have hbnI : (b : Int) < n := by omega
                  have hX := HX2.out.keep0 HKP.out
                  obtain ⟨bs, os, hbs1, _, hui, hafi, hci⟩ := hX.at HXA.out
                  obtain ⟨bs', os', hbs2, _, huk, hafk, hck⟩ := hX.at hxb
                  rw [hbs1] at hbs2
                  injection hbs2 with he
                  injection he with e1 e2
                  subst e1; subst e2
                  subst hbs1
                  have HCF := Lib.hid (fun wq (hk' : Keep wr wq Nope) => (show Calls Try.prog 12 #[xa.val, xb.val] wq (Ret wq (.bool false)) from by rw [← hcf]; exact ref_conflict xa xb wq _ _ (hui.keep0 hk') (huk.keep0 hk')))
                  have HST := Lib.hid (fun wq (hk' : Keep wr wq Nope) => ref_set xa.af.v xa.af.l wq _ (hafi.keep hk' (fun _ _ f => f)) (by have := (HAF.out a xa HXA.out).1; omega))
                  have HINF := Lib.hid (fun (S3 : Nat → Prop) (a3 : Option Addr) (c3 : Nat) (L3 : List Int) (w8 : World) (hrd3 : Rd S3 w8 (.slice a3 L3.length c3) L3.length (ints L3)) (hr3 : Rises L3) (hm3 : ∀ x, x ∈ L3 ↔ inSet xa.af.l x) (hl3 : L3.length ≤ xa.af.l.length) => (show Calls Try.prog 13 #[.slice a3 L3.length c3, .int .i64 (b : Int)] w8 (Ret w8 (.bool false)) from by
                    have h1 := ref_in (.slice a3 L3.length c3) L3 (b : Int) w8 S3 hrd3 hr3 (by have := (HAF.out a xa HXA.out).1; omega)
                    rw [decide_eq_false (fun hx => hnb ((hm3 _).1 hx).1)] at h1
                    exact h1))
                  have i0 := hci 0 (by decide)
                  have i1 := hci 1 (by decide)
                  have i2 := hci 2 (by decide)
                  have i3 := hci 3 (by decide)
                  have i4 := hci 4 (by decide)
                  have i5 := hci 5 (by decide)
                  have i6 := hci 6 (by decide)
                  have i7 := hci 7 (by decide)
                  have k0 := hck 0 (by decide)
                  have k1 := hck 1 (by decide)
                  have k2 := hck 2 (by decide)
                  have k3 := hck 3 (by decide)
                  have k4 := hck 4 (by decide)
                  have k5 := hck 5 (by decide)
                  have k6 := hck 6 (by decide)
                  have k7 := hck 7 (by decide)
                  simp only [SysX.cells, List.getElem?_cons_zero, List.getElem?_cons_succ, Nat.add_zero] at i0 i1 i2 i3 i4 i5 i6 i7 k0 k1 k2 k3 k4 k5 k6 k7
                  unfold SysX.val at HCF
                  generalize xa.r.v = ir at i0 HCF
                  generalize xa.w.v = iw at i1 HCF
                  generalize xa.rr.v = irr at i2 HCF
                  generalize xa.rw'.v = irw at i3 HCF
                  generalize xa.al = ial at i4 HCF
                  generalize xa.pl.v = ipl at i5 HCF
                  generalize xa.cd.v = icd at i6 HCF
                  generalize xa.af.v = iaf at i7 HCF HST
                  generalize xb.r.v = kr at k0 HCF
                  generalize xb.w.v = kw at k1 HCF
                  generalize xb.rr.v = krr at k2 HCF
                  generalize xb.rw'.v = krw at k3 HCF
                  generalize xb.al = kal at k4 HCF
                  generalize xb.pl.v = kpl at k5 HCF
                  generalize xb.cd.v = kcd at k6 HCF
                  generalize xb.af.v = kaf at k7 HCF
                  clear hb hbg hxb hcf hnb hX hui huk hafi hafk hci hck hab
                  go_upto_region 20 with (fail)
                  refine wp_region_held_drew (S := fun w' => w'.cell? ⟨bs, os + a * 8, none⟩ = some (ir) ∧ w'.cell? ⟨bs, os + a * 8 + 1, none⟩ = some (iw) ∧ w'.cell? ⟨bs, os + a * 8 + 2, none⟩ = some (irr) ∧ w'.cell? ⟨bs, os + a * 8 + 3, none⟩ = some (irw) ∧ w'.cell? ⟨bs, os + a * 8 + 4, none⟩ = some (.bool ial) ∧ w'.cell? ⟨bs, os + a * 8 + 5, none⟩ = some (ipl) ∧ w'.cell? ⟨bs, os + a * 8 + 6, none⟩ = some (icd) ∧ w'.cell? ⟨bs, os + a * 8 + 7, none⟩ = some (iaf) ∧ w'.cell? ⟨bs, os + b * 8, none⟩ = some (kr) ∧ w'.cell? ⟨bs, os + b * 8 + 1, none⟩ = some (kw) ∧ w'.cell? ⟨bs, os + b * 8 + 2, none⟩ = some (krr) ∧ w'.cell? ⟨bs, os + b * 8 + 3, none⟩ = some (krw) ∧ w'.cell? ⟨bs, os + b * 8 + 4, none⟩ = some (.bool kal) ∧ w'.cell? ⟨bs, os + b * 8 + 5, none⟩ = some (kpl) ∧ w'.cell? ⟨bs, os + b * 8 + 6, none⟩ = some (kcd) ∧ w'.cell? ⟨bs, os + b * 8 + 7, none⟩ = some (kaf)) (by kernel_rfl) ?_ (fun hHeld => ?_)
                  · (try dsimp only); go_keep
                  refine wpAnyH_take (i := 0) (oi := ?_) (v := ?_) ?_ ?_ ?_ ?_ ?_ ?_ ?_ ?_
                  rotate_left 2
                  · simp only [List.getElem?_toArray, List.getElem?_cons_succ, List.getElem?_cons_zero]; exact rfl
                  · kernel_rfl
                  · kernel_rfl
                  · kernel_rfl
                  · first | exact fun _ _ _ h => h | exact fun _ _ _ h => (HPan.out _ _ _ h).elim
                  · (refine Or.inl ⟨by rfl, ?_⟩; (intro w hSw; (try dsimp only at hSw); go_simp) <;> with_reducible rfl)
                  · assumption
                  simp only [Act.put, List.setIfInBounds_toArray, List.set_cons_zero, List.set_cons_succ]
                  refine wpAnyH_take (i := 1) (oi := ?_) (v := ?_) ?_ ?_ ?_ ?_ ?_ ?_ ?_ ?_
                  rotate_left 2
                  · simp only [List.getElem?_toArray, List.getElem?_cons_succ, List.getElem?_cons_zero]; exact rfl
                  · kernel_rfl
                  · kernel_rfl
                  · kernel_rfl
                  · first | exact fun _ _ _ h => h | exact fun _ _ _ h => (HPan.out _ _ _ h).elim
                  · (refine Or.inl ⟨by rfl, ?_⟩; (intro w hSw; (try dsimp only at hSw); go_simp) <;> with_reducible rfl)
                  · assumption
                  simp only [Act.put, List.setIfInBounds_toArray, List.set_cons_zero, List.set_cons_succ]
                  refine wpAnyH_take (i := 2) (oi := ?_) (v := ?_) ?_ ?_ ?_ ?_ ?_ ?_ ?_ ?_
                  rotate_left 2
                  · simp only [List.getElem?_toArray, List.getElem?_cons_succ, List.getElem?_cons_zero]; exact rfl
                  · kernel_rfl
                  · kernel_rfl
                  · kernel_rfl
                  · first | exact fun _ _ _ h => h | exact fun _ _ _ h => (HPan.out _ _ _ h).elim
                  · (refine Or.inl ⟨by rfl, ?_⟩; (intro w hSw; (try dsimp only at hSw); go_simp) <;> with_reducible rfl)
                  · assumption
                  simp only [Act.put, List.setIfInBounds_toArray, List.set_cons_zero, List.set_cons_succ]
                  refine wpAnyH_take (i := 3) (oi := ?_) (v := ?_) ?_ ?_ ?_ ?_ ?_ ?_ ?_ ?_
                  rotate_left 2
                  · simp only [List.getElem?_toArray, List.getElem?_cons_succ, List.getElem?_cons_zero]; exact rfl
                  · kernel_rfl
                  · kernel_rfl
                  · kernel_rfl
                  · first | exact fun _ _ _ h => h | exact fun _ _ _ h => (HPan.out _ _ _ h).elim
                  · (refine Or.inl ⟨by rfl, ?_⟩; (intro w hSw; (try dsimp only at hSw); go_simp) <;> with_reducible rfl)
                  · assumption
                  simp only [Act.put, List.setIfInBounds_toArray, List.set_cons_zero, List.set_cons_succ]
                  refine wpAnyH_take (i := 4) (oi := ?_) (v := ?_) ?_ ?_ ?_ ?_ ?_ ?_ ?_ ?_
                  rotate_left 2
                  · simp only [List.getElem?_toArray, List.getElem?_cons_succ, List.getElem?_cons_zero]; exact rfl
                  · kernel_rfl
                  · kernel_rfl
                  · kernel_rfl
                  · first | exact fun _ _ _ h => h | exact fun _ _ _ h => (HPan.out _ _ _ h).elim
                  · (refine Or.inl ⟨by rfl, ?_⟩; (intro w hSw; (try dsimp only at hSw); go_simp) <;> with_reducible rfl)
                  · assumption
                  simp only [Act.put, List.setIfInBounds_toArray, List.set_cons_zero, List.set_cons_succ]
                  refine wpAnyH_take (i := 5) (oi := ?_) (v := ?_) ?_ ?_ ?_ ?_ ?_ ?_ ?_ ?_
                  rotate_left 2
                  · simp only [List.getElem?_toArray, List.getElem?_cons_succ, List.getElem?_cons_zero]; exact rfl
                  · kernel_rfl
                  · kernel_rfl
                  · kernel_rfl
                  · first | exact fun _ _ _ h => h | exact fun _ _ _ h => (HPan.out _ _ _ h).elim
                  · (refine Or.inl ⟨by rfl, ?_⟩; (intro w hSw; (try dsimp only at hSw); go_simp) <;> with_reducible rfl)
                  · assumption
                  simp only [Act.put, List.setIfInBounds_toArray, List.set_cons_zero, List.set_cons_succ]
                  refine wpAnyH_take (i := 6) (oi := ?_) (v := ?_) ?_ ?_ ?_ ?_ ?_ ?_ ?_ ?_
                  rotate_left 2
                  · simp only [List.getElem?_toArray, List.getElem?_cons_succ, List.getElem?_cons_zero]; exact rfl
                  · kernel_rfl
                  · kernel_rfl
                  · kernel_rfl
                  · first | exact fun _ _ _ h => h | exact fun _ _ _ h => (HPan.out _ _ _ h).elim
                  · (refine Or.inl ⟨by rfl, ?_⟩; (intro w hSw; (try dsimp only at hSw); go_simp) <;> with_reducible rfl)
                  · assumption
                  simp only [Act.put, List.setIfInBounds_toArray, List.set_cons_zero, List.set_cons_succ]
                  refine wpAnyH_take (i := 7) (oi := ?_) (v := ?_) ?_ ?_ ?_ ?_ ?_ ?_ ?_ ?_
                  rotate_left 2
                  · simp only [List.getElem?_toArray, List.getElem?_cons_succ, List.getElem?_cons_zero]; exact rfl
                  · kernel_rfl
                  · kernel_rfl
                  · kernel_rfl
                  · first | exact fun _ _ _ h => h | exact fun _ _ _ h => (HPan.out _ _ _ h).elim
                  · (refine Or.inl ⟨by rfl, ?_⟩; (intro w hSw; (try dsimp only at hSw); go_simp) <;> with_reducible rfl)
                  · assumption
                  simp only [Act.put, List.setIfInBounds_toArray, List.set_cons_zero, List.set_cons_succ]
                  refine wpAnyH_take (i := 8) (oi := ?_) (v := ?_) ?_ ?_ ?_ ?_ ?_ ?_ ?_ ?_
                  rotate_left 2
                  · simp only [List.getElem?_toArray, List.getElem?_cons_succ, List.getElem?_cons_zero]; exact rfl
                  · kernel_rfl
                  · kernel_rfl
                  · kernel_rfl
                  · first | exact fun _ _ _ h => h | exact fun _ _ _ h => (HPan.out _ _ _ h).elim
                  · (refine Or.inl ⟨by rfl, ?_⟩; (intro w hSw; (try dsimp only at hSw); go_simp) <;> with_reducible rfl)
                  · assumption
                  simp only [Act.put, List.setIfInBounds_toArray, List.set_cons_zero, List.set_cons_succ]
                  refine wpAnyH_take (i := 9) (oi := ?_) (v := ?_) ?_ ?_ ?_ ?_ ?_ ?_ ?_ ?_
                  rotate_left 2
                  · simp only [List.getElem?_toArray, List.getElem?_cons_succ, List.getElem?_cons_zero]; exact rfl
                  · kernel_rfl
                  · kernel_rfl
                  · kernel_rfl
                  · first | exact fun _ _ _ h => h | exact fun _ _ _ h => (HPan.out _ _ _ h).elim
                  · (refine Or.inl ⟨by rfl, ?_⟩; (intro w hSw; (try dsimp only at hSw); go_simp) <;> with_reducible rfl)
                  · assumption
                  simp only [Act.put, List.setIfInBounds_toArray, List.set_cons_zero, List.set_cons_succ]
                  refine wpAnyH_take (i := 10) (oi := ?_) (v := ?_) ?_ ?_ ?_ ?_ ?_ ?_ ?_ ?_
                  rotate_left 2
                  · simp only [List.getElem?_toArray, List.getElem?_cons_succ, List.getElem?_cons_zero]; exact rfl
                  · kernel_rfl
                  · kernel_rfl
                  · kernel_rfl
                  · first | exact fun _ _ _ h => h | exact fun _ _ _ h => (HPan.out _ _ _ h).elim
                  · (refine Or.inl ⟨by rfl, ?_⟩; (intro w hSw; (try dsimp only at hSw); go_simp) <;> with_reducible rfl)
                  · assumption
                  simp only [Act.put, List.setIfInBounds_toArray, List.set_cons_zero, List.set_cons_succ]
                  refine wpAnyH_take (i := 11) (oi := ?_) (v := ?_) ?_ ?_ ?_ ?_ ?_ ?_ ?_ ?_
                  rotate_left 2
                  · simp only [List.getElem?_toArray, List.getElem?_cons_succ, List.getElem?_cons_zero]; exact rfl
                  · kernel_rfl
                  · kernel_rfl
                  · kernel_rfl
                  · first | exact fun _ _ _ h => h | exact fun _ _ _ h => (HPan.out _ _ _ h).elim
                  · (refine Or.inl ⟨by rfl, ?_⟩; (intro w hSw; (try dsimp only at hSw); go_simp) <;> with_reducible rfl)
                  · assumption
                  simp only [Act.put, List.setIfInBounds_toArray, List.set_cons_zero, List.set_cons_succ]
                  refine wpAnyH_ready (rs := [12]) (by kernel_rfl) (by simp) ?_
                  refine AllReadyH.cons rfl (fun K hK => ?_) (AllReadyH.nil)
                  go_simp
                  go_wp2_with ((go_at_call 12; refine (HCF.out _ (by (repeat (first | exact Keep.refl _ _ | apply Keep.drew | apply Keep.drewN | apply Keep.alloc)))).mono ?_; rintro e w7 ⟨rfl, hk7⟩; have HK7 := Lib.hid ((show Keep wr _ Nope from (by (repeat (first | exact Keep.refl _ _ | apply Keep.drew | apply Keep.drewN | apply Keep.alloc)))).trans hk7 (fun _ f => f.elim)); clear hk7))
                  refine hK.out _ _ ?_ (fun hHeld => ?_)
                  · (try dsimp only); exact ⟨HK7.out.cell i0 (fun f => f), HK7.out.cell i1 (fun f => f), HK7.out.cell i2 (fun f => f), HK7.out.cell i3 (fun f => f), HK7.out.cell i4 (fun f => f), HK7.out.cell i5 (fun f => f), HK7.out.cell i6 (fun f => f), HK7.out.cell i7 (fun f => f), HK7.out.cell k0 (fun f => f), HK7.out.cell k1 (fun f => f), HK7.out.cell k2 (fun f => f), HK7.out.cell k3 (fun f => f), HK7.out.cell k4 (fun f => f), HK7.out.cell k5 (fun f => f), HK7.out.cell k6 (fun f => f), HK7.out.cell k7 (fun f => f)⟩
                  clear hK K
                  refine wpAnyH_take (i := 13) (oi := ?_) (v := ?_) ?_ ?_ ?_ ?_ ?_ ?_ ?_ ?_
                  rotate_left 2
                  · simp only [List.getElem?_toArray, List.getElem?_cons_succ, List.getElem?_cons_zero]; exact rfl
                  · kernel_rfl
                  · kernel_rfl
                  · kernel_rfl
                  · first | exact fun _ _ _ h => h | exact fun _ _ _ h => (HPan.out _ _ _ h).elim
                  · (refine Or.inl ⟨by rfl, ?_⟩; (intro w hSw; (try dsimp only at hSw); go_simp) <;> with_reducible rfl)
                  · assumption
                  simp only [Act.put, List.setIfInBounds_toArray, List.set_cons_zero, List.set_cons_succ]
                  refine wpAnyH_take (i := 14) (oi := ?_) (v := ?_) ?_ ?_ ?_ ?_ ?_ ?_ ?_ ?_
                  rotate_left 2
                  · simp only [List.getElem?_toArray, List.getElem?_cons_succ, List.getElem?_cons_zero]; exact rfl
                  · kernel_rfl
                  · kernel_rfl
                  · kernel_rfl
                  · first | exact fun _ _ _ h => h | exact fun _ _ _ h => (HPan.out _ _ _ h).elim
                  · (refine Or.inl ⟨by rfl, ?_⟩; (intro w hSw; (try dsimp only at hSw); go_simp) <;> with_reducible rfl)
                  · assumption
                  simp only [Act.put, List.setIfInBounds_toArray, List.set_cons_zero, List.set_cons_succ]
                  refine wpAnyH_take (i := 15) (oi := ?_) (v := ?_) ?_ ?_ ?_ ?_ ?_ ?_ ?_ ?_
                  rotate_left 2
                  · simp only [List.getElem?_toArray, List.getElem?_cons_succ, List.getElem?_cons_zero]; exact rfl
                  · kernel_rfl
                  · kernel_rfl
                  · kernel_rfl
                  · first | exact fun _ _ _ h => h | exact fun _ _ _ h => (HPan.out _ _ _ h).elim
                  · (refine Or.inl ⟨by rfl, ?_⟩; (intro w hSw; (try dsimp only at hSw); go_simp) <;> with_reducible rfl)
                  · assumption
                  simp only [Act.put, List.setIfInBounds_toArray, List.set_cons_zero, List.set_cons_succ]
                  refine wpAnyH_take (i := 16) (oi := ?_) (v := ?_) ?_ ?_ ?_ ?_ ?_ ?_ ?_ ?_
                  rotate_left 2
                  · simp only [List.getElem?_toArray, List.getElem?_cons_succ, List.getElem?_cons_zero]; exact rfl
                  · kernel_rfl
                  · kernel_rfl
                  · kernel_rfl
                  · first | exact fun _ _ _ h => h | exact fun _ _ _ h => (HPan.out _ _ _ h).elim
                  · (refine Or.inl ⟨by rfl, ?_⟩; (intro w hSw; (try dsimp only at hSw); go_simp) <;> with_reducible rfl)
                  · assumption
                  simp only [Act.put, List.setIfInBounds_toArray, List.set_cons_zero, List.set_cons_succ]
                  refine wpAnyH_take (i := 17) (oi := ?_) (v := ?_) ?_ ?_ ?_ ?_ ?_ ?_ ?_ ?_
                  rotate_left 2
                  · simp only [List.getElem?_toArray, List.getElem?_cons_succ, List.getElem?_cons_zero]; exact rfl
                  · kernel_rfl
                  · kernel_rfl
                  · kernel_rfl
                  · first | exact fun _ _ _ h => h | exact fun _ _ _ h => (HPan.out _ _ _ h).elim
                  · (refine Or.inl ⟨by rfl, ?_⟩; (intro w hSw; (try dsimp only at hSw); go_simp) <;> with_reducible rfl)
                  · assumption
                  simp only [Act.put, List.setIfInBounds_toArray, List.set_cons_zero, List.set_cons_succ]
                  refine wpAnyH_take (i := 18) (oi := ?_) (v := ?_) ?_ ?_ ?_ ?_ ?_ ?_ ?_ ?_
                  rotate_left 2
                  · simp only [List.getElem?_toArray, List.getElem?_cons_succ, List.getElem?_cons_zero]; exact rfl
                  · kernel_rfl
                  · kernel_rfl
                  · kernel_rfl
                  · first | exact fun _ _ _ h => h | exact fun _ _ _ h => (HPan.out _ _ _ h).elim
                  · (refine Or.inl ⟨by rfl, ?_⟩; (intro w hSw; (try dsimp only at hSw); go_simp) <;> with_reducible rfl)
                  · assumption
                  simp only [Act.put, List.setIfInBounds_toArray, List.set_cons_zero, List.set_cons_succ]
                  refine wpAnyH_take (i := 20) (oi := ?_) (v := ?_) ?_ ?_ ?_ ?_ ?_ ?_ ?_ ?_
                  rotate_left 2
                  · simp only [List.getElem?_toArray, List.getElem?_cons_succ, List.getElem?_cons_zero]; exact rfl
                  · kernel_rfl
                  · kernel_rfl
                  · kernel_rfl
                  · first | exact fun _ _ _ h => h | exact fun _ _ _ h => (HPan.out _ _ _ h).elim
                  · (refine Or.inl ⟨by rfl, ?_⟩; (intro w hSw; (try dsimp only at hSw); go_simp) <;> with_reducible rfl)
                  · assumption
                  simp only [Act.put, List.setIfInBounds_toArray, List.set_cons_zero, List.set_cons_succ]
                  refine wpAnyH_ready (rs := [19]) (by kernel_rfl) (by simp) ?_
                  refine AllReadyH.cons rfl (fun K hK => ?_) (AllReadyH.nil)
                  go_simp
                  go_wp2_with ((go_at_call 14; refine (HST.out _ HK7.out).mono ?_; rintro e w8 ⟨S3, a3, c3, L3, rfl, hr3, hm3, hl3, hrd3, hk3⟩; have HK8 := Lib.hid (HK7.out.trans hk3 (fun _ f => f.elim)); have HIN := Lib.hid (HINF.out S3 a3 c3 L3 w8 hrd3 hr3 hm3 hl3); clear hr3 hm3 hl3 hrd3 hk3))
                  refine hK.out _ _ ?_ (fun hHeld => ?_)
                  · (try dsimp only); exact ⟨HK8.out.cell i0 (fun f => f), HK8.out.cell i1 (fun f => f), HK8.out.cell i2 (fun f => f), HK8.out.cell i3 (fun f => f), HK8.out.cell i4 (fun f => f), HK8.out.cell i5 (fun f => f), HK8.out.cell i6 (fun f => f), HK8.out.cell i7 (fun f => f), HK8.out.cell k0 (fun f => f), HK8.out.cell k1 (fun f => f), HK8.out.cell k2 (fun f => f), HK8.out.cell k3 (fun f => f), HK8.out.cell k4 (fun f => f), HK8.out.cell k5 (fun f => f), HK8.out.cell k6 (fun f => f), HK8.out.cell k7 (fun f => f)⟩
                  clear hK K
                  refine wpAnyH_ready (rs := [21]) (by kernel_rfl) (by simp) ?_
                  refine AllReadyH.cons rfl (fun K hK => ?_) (AllReadyH.nil)
                  go_simp
                  go_wp2_with ((go_at_call 13; refine (HIN.out).mono ?_; rintro e w9 ⟨rfl, hk9⟩; have HK9 := Lib.hid (HK8.out.trans hk9 (fun _ f => f.elim)); clear hk9))
                  refine hK.out _ _ ?_ (fun hHeld => ?_)
                  · (try dsimp only); exact ⟨HK9.out.cell i0 (fun f => f), HK9.out.cell i1 (fun f => f), HK9.out.cell i2 (fun f => f), HK9.out.cell i3 (fun f => f), HK9.out.cell i4 (fun f => f), HK9.out.cell i5 (fun f => f), HK9.out.cell i6 (fun f => f), HK9.out.cell i7 (fun f => f), HK9.out.cell k0 (fun f => f), HK9.out.cell k1 (fun f => f), HK9.out.cell k2 (fun f => f), HK9.out.cell k3 (fun f => f), HK9.out.cell k4 (fun f => f), HK9.out.cell k5 (fun f => f), HK9.out.cell k6 (fun f => f), HK9.out.cell k7 (fun f => f)⟩
                  clear hK K
                  refine wpAnyH_take (i := 22) (oi := ?_) (v := ?_) ?_ ?_ ?_ ?_ ?_ ?_ ?_ ?_
                  rotate_left 2
                  · simp only [List.getElem?_toArray, List.getElem?_cons_succ, List.getElem?_cons_zero]; exact rfl
                  · kernel_rfl
                  · kernel_rfl
                  · kernel_rfl
                  · first | exact fun _ _ _ h => h | exact fun _ _ _ h => (HPan.out _ _ _ h).elim
                  · (refine Or.inl ⟨by rfl, ?_⟩; (intro w hSw; (try dsimp only at hSw); go_simp) <;> with_reducible rfl)
                  · assumption
                  simp only [Act.put, List.setIfInBounds_toArray, List.set_cons_zero, List.set_cons_succ]
                  refine wpAnyH_take (i := 23) (oi := ?_) (v := ?_) ?_ ?_ ?_ ?_ ?_ ?_ ?_ ?_
                  rotate_left 2
                  · simp only [List.getElem?_toArray, List.getElem?_cons_succ, List.getElem?_cons_zero]; exact rfl
                  · kernel_rfl
                  · kernel_rfl
                  · kernel_rfl
                  · first | exact fun _ _ _ h => h | exact fun _ _ _ h => (HPan.out _ _ _ h).elim
                  · (refine Or.inl ⟨by rfl, ?_⟩; (intro w hSw; (try dsimp only at hSw); go_simp) <;> with_reducible rfl)
                  · assumption
                  simp only [Act.put, List.setIfInBounds_toArray, List.set_cons_zero, List.set_cons_succ]
                  refine wpAnyH_done (by kernel_rfl) ?_ _
                  clear i0 i1 i2 i3 i4 i5 i6 i7 k0 k1 k2 k3 k4 k5 k6 k7 hHeld HCF HST HINF HIN hcb hcg
                  go_wp2_with fail
                  go_roundg (m - (j + 1))
                  case measure => have := HG3.out; omega
                  case rel => exact ⟨j + 1, by omega, by go_num, HKP.out.trans HK9.out (fun _ f => f.elim)⟩
              · obtain rfl : j = m := by omega
                have hjd : decide ((j : Int) < j) = false := decide_eq_false (by omega)
                by_cases hi0 : i = 0
                · have hib : ((i : Int) == 0) = true := by simp; omega
                  have hig : decide ((i : Int) > 0) = false := decide_eq_false (by omega)
                  have hig2 : decide ((0 : Int) < (i : Int)) = false := decide_eq_false (by omega)
                  have hig3 : decide (0 < i) = false := decide_eq_false (by omega)
                  clear hi0
                  go_wp2_with fail
                  go_loopg [14, 15] 0 (fun g v14 v15 wr => LoopA6 w2 l xa [] true 0 g v14 v15 wr)
                  case atStart => exact ⟨0, rfl, rfl, rfl, HKP.out⟩
                  case round =>
                    obtain ⟨j2, hg, rfl, rfl, hkp⟩ := hrel
                    have HKP2 := Lib.hid hkp; clear hkp
                    simp only [Bool.true_or]
                    go_wp2_with fail
                    go_roundg (j - (k + 1))
                    case measure => have := HG2.out; omega
                    case rel => exact ⟨k + 1, by omega, by go_num, HKP2.out⟩
                · have hib : ((i : Int) == 0) = false := by simp; omega
                  have hig : decide ((i : Int) > 0) = true := decide_eq_true (by omega)
                  have hig2 : decide ((0 : Int) < (i : Int)) = true := decide_eq_true (by omega)
                  have hig3 : decide (0 < i) = true := decide_eq_true (by omega)
                  obtain ⟨p, hp⟩ : ∃ p, i - 1 = p := ⟨_, rfl⟩
                  have hpI : (i : Int) - 1 = p := by omega
                  have hpm : (p : Int) < mg := by omega
                  obtain ⟨xb0, xb1, xb2, xb3, xb4, xb5⟩ := stg_held (n := n) HROW.out HL.out.symm HAG.out.1 (show 0 < i by omega) (by rw [HSE.out]; exact HAG.out.2) HXA.out
                  obtain ⟨r, hr⟩ : ∃ r, rs[p]? = some r := ⟨_, List.getElem?_eq_getElem (by rw [HMG.out]; omega)⟩
                  obtain ⟨G2, hG2, hrl⟩ := rows_grp HRS.out hr
                  obtain ⟨bg', og', he, _, hcg0, hrr0⟩ := HRR.out.get hr
                  injection he with he
                  injection he with e1 e2
                  subst e1; subst e2
                  obtain ⟨ra, rc2, rl⟩ := r
                  simp only at hrl hcg0
                  subst hrl
                  rw [nats_len] at hcg0
                  obtain ⟨m2, hm2⟩ : ∃ m2, G2.length = m2 := ⟨_, rfl⟩
                  rw [hm2] at hcg0
                  have HANY : Hid (G2.any (holdB l xa) = true) := Lib.hid (by
                    rw [List.any_eq_true]
                    refine ⟨xb0, (mem_grp hG2).2 ⟨xb2, by rw [← HSE.out, xb3, hp]⟩, ?_⟩
                    unfold holdB
                    rw [xb4]
                    rcases xb5 with h | h
                    · simp only [h, Bool.true_or]
                    · simp only [h, decide_true, Bool.or_true])
                  have HGG2 := Lib.hid hG2
                  have HM2 := Lib.hid hm2
                  have HCG2 := Lib.hid hcg0
                  have HRI2 : Hid (Rd (fun z => w1.heap.size ≤ z ∧ z < w2.heap.size) w2 (.slice ra m2 rc2) m2 (ints (nats G2))) := Lib.hid (by
                    have h1 := hrr0
                    unfold RowV.v at h1
                    simp only [nats_len, hm2] at h1
                    exact h1)
                  have hm66b : m2 ≤ 66 := by
                    obtain ⟨_, e⟩ := grp_get hG2
                    have h1 := List.length_filter_le (fun q => s.getD q 0 == p) o
                    have h2 := HOL.out
                    rw [← hm2, e]
                    omega
                  clear hG2 hrr0 hr hm2 hcg0 hp xb5 xb4 xb3 xb2 xb1 hi0
                  go_wp2_with fail
                  go_loopg [14, 15] m2 (fun g v14 v15 wr => LoopA6 w2 l xa G2 false m2 g v14 v15 wr)
                  case atStart => exact ⟨0, by omega, rfl, rfl, HKP.out⟩
                  case round =>
                    obtain ⟨j2, hg, rfl, rfl, hkp⟩ := hrel
                    clear hcg
                    have hjm2 : j2 ≤ m2 := by omega
                    have HG4 := Lib.hid hg; clear hg
                    have HKP := Lib.hid hkp; clear hkp
                    have hcg := HKP.out.cell HCG2.out (fun f => f)
                    simp only [Bool.false_or]
                    by_cases hlj2 : j2 < m2
                    · skip
                      have hjI2 : (j2 : Int) < m2 := by omega
                      have hjd2 : decide ((j2 : Int) < m2) = true := decide_eq_true hjI2
                      obtain ⟨b, hb⟩ : ∃ b, G2[j2]? = some b := ⟨_, List.getElem?_eq_getElem (by rw [HM2.out]; exact hlj2)⟩
                      obtain ⟨br2, or2, ⟨c', hv⟩, _, hcb⟩ := (HRI2.out.keep HKP.out (fun _ _ f => f)).int (nats_get hb)
                      injection hv with hv1 hv2 hv3
                      subst hv1; clear hv2 hv3
                      have hbg := (mem_grp HGG2.out).1 (List.mem_of_getElem? hb)
                      have hbn : b < n := by have := HROW.out.lt b hbg.1; simpa [aftX, HL.out] using this
                      obtain ⟨xb, hxb⟩ : ∃ xb, l[b]? = some xb := ⟨_, List.getElem?_eq_getElem (by rw [HL.out]; exact hbn)⟩
                      have hbnI : (b : Int) < n := by omega
                      have hnew : (G2.take (j2 + 1)).any (holdB l xa) = ((G2.take j2).any (holdB l xa) || (confR xa xb || decide ((b : Int) ∈ xa.af.l))) := by
                        rw [List.take_add_one, hb, List.any_append]
                        simp only [Option.toList_some, List.any_cons, List.any_nil, Bool.or_false]
                        unfold holdB
                        rw [hxb]
                      obtain ⟨hbv, hhb⟩ : ∃ hbv, (G2.take j2).any (holdB l xa) = hbv := ⟨_, rfl⟩
                      rw [hhb] at hnew ⊢
                      cases hbv with
                      | true =>
                        have HNEW := Lib.hid hnew
                        clear hb hbg hxb hnew hhb
                        go_upto_region 27 with (fail)
                        go_quiet (fail)
                        go_wp2_with fail
                        go_roundg (m2 - (j2 + 1))
                        case measure => have := HG4.out; omega
                        case rel => exact ⟨j2 + 1, by omega, by go_num, by rw [HNEW.out]; rfl, HKP.out.drewN _⟩
                      | false =>
                        obtain ⟨cf, hcf⟩ : ∃ cf, confR xa xb = cf := ⟨_, rfl⟩
                        obtain ⟨inb, hin⟩ : ∃ inb, decide ((b : Int) ∈ xa.af.l) = inb := ⟨_, rfl⟩
                        rw [hcf, hin] at hnew
                        have HNEW := Lib.hid hnew
                        have hX := HX2.out.keep0 HKP.out
                        obtain ⟨bs, os, hbs1, _, hui, hafi, hci⟩ := hX.at HXA.out
                        obtain ⟨bs', os', hbs2, _, huk, hafk, hck⟩ := hX.at hxb
                        rw [hbs1] at hbs2
                        injection hbs2 with he
                        injection he with e1 e2
                        subst e1; subst e2
                        subst hbs1
                        have HCF := Lib.hid (fun wq (hk' : Keep wr wq Nope) => (show Calls Try.prog 12 #[xa.val, xb.val] wq (Ret wq (.bool cf)) from by rw [← hcf]; exact ref_conflict xa xb wq _ _ (hui.keep0 hk') (huk.keep0 hk')))
                        have HST := Lib.hid (fun wq (hk' : Keep wr wq Nope) => ref_set xa.af.v xa.af.l wq _ (hafi.keep hk' (fun _ _ f => f)) (by have := (HAF.out a xa HXA.out).1; omega))
                        have HINF := Lib.hid (fun (S3 : Nat → Prop) (a3 : Option Addr) (c3 : Nat) (L3 : List Int) (w8 : World) (hrd3 : Rd S3 w8 (.slice a3 L3.length c3) L3.length (ints L3)) (hr3 : Rises L3) (hm3 : ∀ x, x ∈ L3 ↔ inSet xa.af.l x) (hl3 : L3.length ≤ xa.af.l.length) => (show Calls Try.prog 13 #[.slice a3 L3.length c3, .int .i64 (b : Int)] w8 (Ret w8 (.bool inb)) from by
                          have h1 := ref_in (.slice a3 L3.length c3) L3 (b : Int) w8 S3 hrd3 hr3 (by have := (HAF.out a xa HXA.out).1; omega)
                          have he : decide ((b : Int) ∈ L3) = inb := by
                            rw [← hin]
                            exact decide_eq_decide.2 ⟨fun hx => ((hm3 _).1 hx).1, fun hx => (hm3 _).2 ⟨hx, by omega, by omega⟩⟩
                          rw [he] at h1
                          exact h1))
                        have i0 := hci 0 (by decide)
                        have i1 := hci 1 (by decide)
                        have i2 := hci 2 (by decide)
                        have i3 := hci 3 (by decide)
                        have i4 := hci 4 (by decide)
                        have i5 := hci 5 (by decide)
                        have i6 := hci 6 (by decide)
                        have i7 := hci 7 (by decide)
                        have k0 := hck 0 (by decide)
                        have k1 := hck 1 (by decide)
                        have k2 := hck 2 (by decide)
                        have k3 := hck 3 (by decide)
                        have k4 := hck 4 (by decide)
                        have k5 := hck 5 (by decide)
                        have k6 := hck 6 (by decide)
                        have k7 := hck 7 (by decide)
                        simp only [SysX.cells, List.getElem?_cons_zero, List.getElem?_cons_succ, Nat.add_zero] at i0 i1 i2 i3 i4 i5 i6 i7 k0 k1 k2 k3 k4 k5 k6 k7
                        unfold SysX.val at HCF
                        generalize xa.r.v = ir at i0 HCF
                        generalize xa.w.v = iw at i1 HCF
                        generalize xa.rr.v = irr at i2 HCF
                        generalize xa.rw'.v = irw at i3 HCF
                        generalize xa.al = ial at i4 HCF
                        generalize xa.pl.v = ipl at i5 HCF
                        generalize xa.cd.v = icd at i6 HCF
                        generalize xa.af.v = iaf at i7 HCF HST
                        generalize xb.r.v = kr at k0 HCF
                        generalize xb.w.v = kw at k1 HCF
                        generalize xb.rr.v = krr at k2 HCF
                        generalize xb.rw'.v = krw at k3 HCF
                        generalize xb.al = kal at k4 HCF
                        generalize xb.pl.v = kpl at k5 HCF
                        generalize xb.cd.v = kcd at k6 HCF
                        generalize xb.af.v = kaf at k7 HCF
                        clear hb hbg hxb hcf hin hX hui huk hafi hafk hci hck hnew hhb
                        go_upto_region 27 with (fail)
                        cases cf with
                        | true =>
                          refine wp_region_held_drew (S := fun w' => w'.cell? ⟨bs, os + a * 8, none⟩ = some (ir) ∧ w'.cell? ⟨bs, os + a * 8 + 1, none⟩ = some (iw) ∧ w'.cell? ⟨bs, os + a * 8 + 2, none⟩ = some (irr) ∧ w'.cell? ⟨bs, os + a * 8 + 3, none⟩ = some (irw) ∧ w'.cell? ⟨bs, os + a * 8 + 4, none⟩ = some (.bool ial) ∧ w'.cell? ⟨bs, os + a * 8 + 5, none⟩ = some (ipl) ∧ w'.cell? ⟨bs, os + a * 8 + 6, none⟩ = some (icd) ∧ w'.cell? ⟨bs, os + a * 8 + 7, none⟩ = some (iaf) ∧ w'.cell? ⟨bs, os + b * 8, none⟩ = some (kr) ∧ w'.cell? ⟨bs, os + b * 8 + 1, none⟩ = some (kw) ∧ w'.cell? ⟨bs, os + b * 8 + 2, none⟩ = some (krr) ∧ w'.cell? ⟨bs, os + b * 8 + 3, none⟩ = some (krw) ∧ w'.cell? ⟨bs, os + b * 8 + 4, none⟩ = some (.bool kal) ∧ w'.cell? ⟨bs, os + b * 8 + 5, none⟩ = some (kpl) ∧ w'.cell? ⟨bs, os + b * 8 + 6, none⟩ = some (kcd) ∧ w'.cell? ⟨bs, os + b * 8 + 7, none⟩ = some (kaf)) (by kernel_rfl) ?_ (fun hHeld => ?_)
                          · (try dsimp only); go_keep
                          refine wpAnyH_take (i := 0) (oi := ?_) (v := ?_) ?_ ?_ ?_ ?_ ?_ ?_ ?_ ?_
                          rotate_left 2
                          · simp only [List.getElem?_toArray, List.getElem?_cons_succ, List.getElem?_cons_zero]; exact rfl
                          · kernel_rfl
                          · kernel_rfl
                          · kernel_rfl
                          · first | exact fun _ _ _ h => h | exact fun _ _ _ h => (HPan.out _ _ _ h).elim
                          · (refine Or.inl ⟨by rfl, ?_⟩; (intro w hSw; (try dsimp only at hSw); go_simp) <;> with_reducible rfl)
                          · assumption
                          simp only [Act.put, List.setIfInBounds_toArray, List.set_cons_zero, List.set_cons_succ]
                          refine wpAnyH_take (i := 1) (oi := ?_) (v := ?_) ?_ ?_ ?_ ?_ ?_ ?_ ?_ ?_
                          rotate_left 2
                          · simp only [List.getElem?_toArray, List.getElem?_cons_succ, List.getElem?_cons_zero]; exact rfl
                          · kernel_rfl
                          · kernel_rfl
                          · kernel_rfl
                          · first | exact fun _ _ _ h => h | exact fun _ _ _ h => (HPan.out _ _ _ h).elim
                          · (refine Or.inl ⟨by rfl, ?_⟩; (intro w hSw; (try dsimp only at hSw); go_simp) <;> with_reducible rfl)
                          · assumption
                          simp only [Act.put, List.setIfInBounds_toArray, List.set_cons_zero, List.set_cons_succ]
                          refine wpAnyH_take (i := 2) (oi := ?_) (v := ?_) ?_ ?_ ?_ ?_ ?_ ?_ ?_ ?_
                          rotate_left 2
                          · simp only [List.getElem?_toArray, List.getElem?_cons_succ, List.getElem?_cons_zero]; exact rfl
                          · kernel_rfl
                          · kernel_rfl
                          · kernel_rfl
                          · first | exact fun _ _ _ h => h | exact fun _ _ _ h => (HPan.out _ _ _ h).elim
                          · (refine Or.inl ⟨by rfl, ?_⟩; (intro w hSw; (try dsimp only at hSw); go_simp) <;> with_reducible rfl)
                          · assumption
                          simp only [Act.put, List.setIfInBounds_toArray, List.set_cons_zero, List.set_cons_succ]
                          refine wpAnyH_take (i := 3) (oi := ?_) (v := ?_) ?_ ?_ ?_ ?_ ?_ ?_ ?_ ?_
                          rotate_left 2
                          · simp only [List.getElem?_toArray, List.getElem?_cons_succ, List.getElem?_cons_zero]; exact rfl
                          · kernel_rfl
                          · kernel_rfl
                          · kernel_rfl
                          · first | exact fun _ _ _ h => h | exact fun _ _ _ h => (HPan.out _ _ _ h).elim
                          · (refine Or.inl ⟨by rfl, ?_⟩; (intro w hSw; (try dsimp only at hSw); go_simp) <;> with_reducible rfl)
                          · assumption
                          simp only [Act.put, List.setIfInBounds_toArray, List.set_cons_zero, List.set_cons_succ]
                          refine wpAnyH_take (i := 4) (oi := ?_) (v := ?_) ?_ ?_ ?_ ?_ ?_ ?_ ?_ ?_
                          rotate_left 2
                          · simp only [List.getElem?_toArray, List.getElem?_cons_succ, List.getElem?_cons_zero]; exact rfl
                          · kernel_rfl
                          · kernel_rfl
                          · kernel_rfl
                          · first | exact fun _ _ _ h => h | exact fun _ _ _ h => (HPan.out _ _ _ h).elim
                          · (refine Or.inl ⟨by rfl, ?_⟩; (intro w hSw; (try dsimp only at hSw); go_simp) <;> with_reducible rfl)
                          · assumption
                          simp only [Act.put, List.setIfInBounds_toArray, List.set_cons_zero, List.set_cons_succ]
                          refine wpAnyH_take (i := 5) (oi := ?_) (v := ?_) ?_ ?_ ?_ ?_ ?_ ?_ ?_ ?_
                          rotate_left 2
                          · simp only [List.getElem?_toArray, List.getElem?_cons_succ, List.getElem?_cons_zero]; exact rfl
                          · kernel_rfl
                          · kernel_rfl
                          · kernel_rfl
                          · first | exact fun _ _ _ h => h | exact fun _ _ _ h => (HPan.out _ _ _ h).elim
                          · (refine Or.inl ⟨by rfl, ?_⟩; (intro w hSw; (try dsimp only at hSw); go_simp) <;> with_reducible rfl)
                          · assumption
                          simp only [Act.put, List.setIfInBounds_toArray, List.set_cons_zero, List.set_cons_succ]
                          refine wpAnyH_take (i := 6) (oi := ?_) (v := ?_) ?_ ?_ ?_ ?_ ?_ ?_ ?_ ?_
                          rotate_left 2
                          · simp only [List.getElem?_toArray, List.getElem?_cons_succ, List.getElem?_cons_zero]; exact rfl
                          · kernel_rfl
                          · kernel_rfl
                          · kernel_rfl
                          · first | exact fun _ _ _ h => h | exact fun _ _ _ h => (HPan.out _ _ _ h).elim
                          · (refine Or.inl ⟨by rfl, ?_⟩; (intro w hSw; (try dsimp only at hSw); go_simp) <;> with_reducible rfl)
                          · assumption
                          simp only [Act.put, List.setIfInBounds_toArray, List.set_cons_zero, List.set_cons_succ]
                          refine wpAnyH_take (i := 7) (oi := ?_) (v := ?_) ?_ ?_ ?_ ?_ ?_ ?_ ?_ ?_
                          rotate_left 2
                          · simp only [List.getElem?_toArray, List.getElem?_cons_succ, List.getElem?_cons_zero]; exact rfl
                          · kernel_rfl
                          · kernel_rfl
                          · kernel_rfl
                          · first | exact fun _ _ _ h => h | exact fun _ _ _ h => (HPan.out _ _ _ h).elim
                          · (refine Or.inl ⟨by rfl, ?_⟩; (intro w hSw; (try dsimp only at hSw); go_simp) <;> with_reducible rfl)
                          · assumption
                          simp only [Act.put, List.setIfInBounds_toArray, List.set_cons_zero, List.set_cons_succ]
                          refine wpAnyH_take (i := 8) (oi := ?_) (v := ?_) ?_ ?_ ?_ ?_ ?_ ?_ ?_ ?_
                          rotate_left 2
                          · simp only [List.getElem?_toArray, List.getElem?_cons_succ, List.getElem?_cons_zero]; exact rfl
                          · kernel_rfl
                          · kernel_rfl
                          · kernel_rfl
                          · first | exact fun _ _ _ h => h | exact fun _ _ _ h => (HPan.out _ _ _ h).elim
                          · (refine Or.inl ⟨by rfl, ?_⟩; (intro w hSw; (try dsimp only at hSw); go_simp) <;> with_reducible rfl)
                          · assumption
                          simp only [Act.put, List.setIfInBounds_toArray, List.set_cons_zero, List.set_cons_succ]
                          refine wpAnyH_take (i := 9) (oi := ?_) (v := ?_) ?_ ?_ ?_ ?_ ?_ ?_ ?_ ?_
                          rotate_left 2
                          · simp only [List.getElem?_toArray, List.getElem?_cons_succ, List.getElem?_cons_zero]; exact rfl
                          · kernel_rfl
                          · kernel_rfl
                          · kernel_rfl
                          · first | exact fun _ _ _ h => h | exact fun _ _ _ h => (HPan.out _ _ _ h).elim
                          · (refine Or.inl ⟨by rfl, ?_⟩; (intro w hSw; (try dsimp only at hSw); go_simp) <;> with_reducible rfl)
                          · assumption
                          simp only [Act.put, List.setIfInBounds_toArray, List.set_cons_zero, List.set_cons_succ]
                          refine wpAnyH_ready (rs := [10]) (by kernel_rfl) (by simp) ?_
                          refine AllReadyH.cons rfl (fun K hK => ?_) (AllReadyH.nil)
                          go_simp
                          go_wp2_with ((go_at_call 12; refine (HCF.out _ (by (repeat (first | exact Keep.refl _ _ | apply Keep.drew | apply Keep.drewN | apply Keep.alloc)))).mono ?_; rintro e w7 ⟨rfl, hk7⟩; have HK7 := Lib.hid ((show Keep wr _ Nope from (by (repeat (first | exact Keep.refl _ _ | apply Keep.drew | apply Keep.drewN | apply Keep.alloc)))).trans hk7 (fun _ f => f.elim)); clear hk7))
                          refine hK.out _ _ ?_ (fun hHeld => ?_)
                          · (try dsimp only); exact ⟨HK7.out.cell i0 (fun f => f), HK7.out.cell i1 (fun f => f), HK7.out.cell i2 (fun f => f), HK7.out.cell i3 (fun f => f), HK7.out.cell i4 (fun f => f), HK7.out.cell i5 (fun f => f), HK7.out.cell i6 (fun f => f), HK7.out.cell i7 (fun f => f), HK7.out.cell k0 (fun f => f), HK7.out.cell k1 (fun f => f), HK7.out.cell k2 (fun f => f), HK7.out.cell k3 (fun f => f), HK7.out.cell k4 (fun f => f), HK7.out.cell k5 (fun f => f), HK7.out.cell k6 (fun f => f), HK7.out.cell k7 (fun f => f)⟩
                          clear hK K
                          refine wpAnyH_take (i := 11) (oi := ?_) (v := ?_) ?_ ?_ ?_ ?_ ?_ ?_ ?_ ?_
                          rotate_left 2
                          · simp only [List.getElem?_toArray, List.getElem?_cons_succ, List.getElem?_cons_zero]; exact rfl
                          · kernel_rfl
                          · kernel_rfl
                          · kernel_rfl
                          · first | exact fun _ _ _ h => h | exact fun _ _ _ h => (HPan.out _ _ _ h).elim
                          · (refine Or.inl ⟨by rfl, ?_⟩; (intro w hSw; (try dsimp only at hSw); go_simp) <;> with_reducible rfl)
                          · assumption
                          simp only [Act.put, List.setIfInBounds_toArray, List.set_cons_zero, List.set_cons_succ]
                          refine wpAnyH_take (i := 12) (oi := ?_) (v := ?_) ?_ ?_ ?_ ?_ ?_ ?_ ?_ ?_
                          rotate_left 2
                          · simp only [List.getElem?_toArray, List.getElem?_cons_succ, List.getElem?_cons_zero]; exact rfl
                          · kernel_rfl
                          · kernel_rfl
                          · kernel_rfl
                          · first | exact fun _ _ _ h => h | exact fun _ _ _ h => (HPan.out _ _ _ h).elim
                          · (refine Or.inl ⟨by rfl, ?_⟩; (intro w hSw; (try dsimp only at hSw); go_simp) <;> with_reducible rfl)
                          · assumption
                          simp only [Act.put, List.setIfInBounds_toArray, List.set_cons_zero, List.set_cons_succ]
                          refine wpAnyH_take (i := 13) (oi := ?_) (v := undef) ?_ ?_ ?_ ?_ ?_ ?_ ?_ ?_
                          rotate_left 1
                          · simp only [List.getElem?_toArray, List.getElem?_cons_succ, List.getElem?_cons_zero]; exact rfl
                          · kernel_rfl
                          · kernel_rfl
                          · kernel_rfl
                          · first | exact fun _ _ _ h => h | exact fun _ _ _ h => (HPan.out _ _ _ h).elim
                          · exact Or.inr ⟨by rfl, rfl⟩
                          · assumption
                          simp only [Act.put, List.setIfInBounds_toArray, List.set_cons_zero, List.set_cons_succ]
                          refine wpAnyH_take (i := 14) (oi := ?_) (v := undef) ?_ ?_ ?_ ?_ ?_ ?_ ?_ ?_
                          rotate_left 1
                          · simp only [List.getElem?_toArray, List.getElem?_cons_succ, List.getElem?_cons_zero]; exact rfl
                          · kernel_rfl
                          · kernel_rfl
                          · kernel_rfl
                          · first | exact fun _ _ _ h => h | exact fun _ _ _ h => (HPan.out _ _ _ h).elim
                          · exact Or.inr ⟨by rfl, rfl⟩
                          · assumption
                          simp only [Act.put, List.setIfInBounds_toArray, List.set_cons_zero, List.set_cons_succ]
                          refine wpAnyH_take (i := 15) (oi := ?_) (v := undef) ?_ ?_ ?_ ?_ ?_ ?_ ?_ ?_
                          rotate_left 1
                          · simp only [List.getElem?_toArray, List.getElem?_cons_succ, List.getElem?_cons_zero]; exact rfl
                          · kernel_rfl
                          · kernel_rfl
                          · kernel_rfl
                          · first | exact fun _ _ _ h => h | exact fun _ _ _ h => (HPan.out _ _ _ h).elim
                          · exact Or.inr ⟨by rfl, rfl⟩
                          · assumption
                          simp only [Act.put, List.setIfInBounds_toArray, List.set_cons_zero, List.set_cons_succ]
                          refine wpAnyH_take (i := 16) (oi := ?_) (v := undef) ?_ ?_ ?_ ?_ ?_ ?_ ?_ ?_
                          rotate_left 1
                          · simp only [List.getElem?_toArray, List.getElem?_cons_succ, List.getElem?_cons_zero]; exact rfl
                          · kernel_rfl
                          · kernel_rfl
                          · kernel_rfl
                          · first | exact fun _ _ _ h => h | exact fun _ _ _ h => (HPan.out _ _ _ h).elim
                          · exact Or.inr ⟨by rfl, rfl⟩
                          · assumption
                          simp only [Act.put, List.setIfInBounds_toArray, List.set_cons_zero, List.set_cons_succ]
                          refine wpAnyH_take (i := 17) (oi := ?_) (v := undef) ?_ ?_ ?_ ?_ ?_ ?_ ?_ ?_
                          rotate_left 1
                          · simp only [List.getElem?_toArray, List.getElem?_cons_succ, List.getElem?_cons_zero]; exact rfl
                          · kernel_rfl
                          · kernel_rfl
                          · kernel_rfl
                          · first | exact fun _ _ _ h => h | exact fun _ _ _ h => (HPan.out _ _ _ h).elim
                          · exact Or.inr ⟨by rfl, rfl⟩
                          · assumption
                          simp only [Act.put, List.setIfInBounds_toArray, List.set_cons_zero, List.set_cons_succ]
                          refine wpAnyH_take (i := 18) (oi := ?_) (v := undef) ?_ ?_ ?_ ?_ ?_ ?_ ?_ ?_
                          rotate_left 1
                          · simp only [List.getElem?_toArray, List.getElem?_cons_succ, List.getElem?_cons_zero]; exact rfl
                          · kernel_rfl
                          · kernel_rfl
                          · kernel_rfl
                          · first | exact fun _ _ _ h => h | exact fun _ _ _ h => (HPan.out _ _ _ h).elim
                          · exact Or.inr ⟨by rfl, rfl⟩
                          · assumption
                          simp only [Act.put, List.setIfInBounds_toArray, List.set_cons_zero, List.set_cons_succ]
                          refine wpAnyH_take (i := 19) (oi := ?_) (v := undef) ?_ ?_ ?_ ?_ ?_ ?_ ?_ ?_
                          rotate_left 1
                          · simp only [List.getElem?_toArray, List.getElem?_cons_succ, List.getElem?_cons_zero]; exact rfl
                          · kernel_rfl
                          · kernel_rfl
                          · kernel_rfl
                          · first | exact fun _ _ _ h => h | exact fun _ _ _ h => (HPan.out _ _ _ h).elim
                          · exact Or.inr ⟨by rfl, rfl⟩
                          · assumption
                          simp only [Act.put, List.setIfInBounds_toArray, List.set_cons_zero, List.set_cons_succ]
                          refine wpAnyH_take (i := 20) (oi := ?_) (v := undef) ?_ ?_ ?_ ?_ ?_ ?_ ?_ ?_
                          rotate_left 1
                          · simp only [List.getElem?_toArray, List.getElem?_cons_succ, List.getElem?_cons_zero]; exact rfl
                          · kernel_rfl
                          · kernel_rfl
                          · kernel_rfl
                          · first | exact fun _ _ _ h => h | exact fun _ _ _ h => (HPan.out _ _ _ h).elim
                          · exact Or.inr ⟨by rfl, rfl⟩
                          · assumption
                          simp only [Act.put, List.setIfInBounds_toArray, List.set_cons_zero, List.set_cons_succ]
                          refine wpAnyH_take (i := 21) (oi := ?_) (v := ?_) ?_ ?_ ?_ ?_ ?_ ?_ ?_ ?_
                          rotate_left 2
                          · simp only [List.getElem?_toArray, List.getElem?_cons_succ, List.getElem?_cons_zero]; exact rfl
                          · kernel_rfl
                          · kernel_rfl
                          · kernel_rfl
                          · first | exact fun _ _ _ h => h | exact fun _ _ _ h => (HPan.out _ _ _ h).elim
                          · (refine Or.inl ⟨by rfl, ?_⟩; (intro w hSw; (try dsimp only at hSw); go_simp) <;> with_reducible rfl)
                          · assumption
                          simp only [Act.put, List.setIfInBounds_toArray, List.set_cons_zero, List.set_cons_succ]
                          refine wpAnyH_take (i := 22) (oi := ?_) (v := ?_) ?_ ?_ ?_ ?_ ?_ ?_ ?_ ?_
                          rotate_left 2
                          · simp only [List.getElem?_toArray, List.getElem?_cons_succ, List.getElem?_cons_zero]; exact rfl
                          · kernel_rfl
                          · kernel_rfl
                          · kernel_rfl
                          · first | exact fun _ _ _ h => h | exact fun _ _ _ h => (HPan.out _ _ _ h).elim
                          · (refine Or.inl ⟨by rfl, ?_⟩; (intro w hSw; (try dsimp only at hSw); go_simp) <;> with_reducible rfl)
                          · assumption
                          simp only [Act.put, List.setIfInBounds_toArray, List.set_cons_zero, List.set_cons_succ]
                          refine wpAnyH_done (by kernel_rfl) ?_ _
                          clear i0 i1 i2 i3 i4 i5 i6 i7 k0 k1 k2 k3 k4 k5 k6 k7 hHeld HCF HST HINF hcb hcg
                          go_wp2_with fail
                          go_roundg (m2 - (j2 + 1))
                          case measure => have := HG4.out; omega
                          case rel => exact ⟨j2 + 1, by omega, by go_num, by rw [HNEW.out]; rfl, HKP.out.trans HK7.out (fun _ f => f.elim)⟩
                        | false =>
                          refine wp_region_held_drew (S := fun w' => w'.cell? ⟨bs, os + a * 8, none⟩ = some (ir) ∧ w'.cell? ⟨bs, os + a * 8 + 1, none⟩ = some (iw) ∧ w'.cell? ⟨bs, os + a * 8 + 2, none⟩ = some (irr) ∧ w'.cell? ⟨bs, os + a * 8 + 3, none⟩ = some (irw) ∧ w'.cell? ⟨bs, os + a * 8 + 4, none⟩ = some (.bool ial) ∧ w'.cell? ⟨bs, os + a * 8 + 5, none⟩ = some (ipl) ∧ w'.cell? ⟨bs, os + a * 8 + 6, none⟩ = some (icd) ∧ w'.cell? ⟨bs, os + a * 8 + 7, none⟩ = some (iaf) ∧ w'.cell? ⟨bs, os + b * 8, none⟩ = some (kr) ∧ w'.cell? ⟨bs, os + b * 8 + 1, none⟩ = some (kw) ∧ w'.cell? ⟨bs, os + b * 8 + 2, none⟩ = some (krr) ∧ w'.cell? ⟨bs, os + b * 8 + 3, none⟩ = some (krw) ∧ w'.cell? ⟨bs, os + b * 8 + 4, none⟩ = some (.bool kal) ∧ w'.cell? ⟨bs, os + b * 8 + 5, none⟩ = some (kpl) ∧ w'.cell? ⟨bs, os + b * 8 + 6, none⟩ = some (kcd) ∧ w'.cell? ⟨bs, os + b * 8 + 7, none⟩ = some (kaf)) (by kernel_rfl) ?_ (fun hHeld => ?_)
                          · (try dsimp only); go_keep
                          refine wpAnyH_take (i := 0) (oi := ?_) (v := ?_) ?_ ?_ ?_ ?_ ?_ ?_ ?_ ?_
                          rotate_left 2
                          · simp only [List.getElem?_toArray, List.getElem?_cons_succ, List.getElem?_cons_zero]; exact rfl
                          · kernel_rfl
                          · kernel_rfl
                          · kernel_rfl
                          · first | exact fun _ _ _ h => h | exact fun _ _ _ h => (HPan.out _ _ _ h).elim
                          · (refine Or.inl ⟨by rfl, ?_⟩; (intro w hSw; (try dsimp only at hSw); go_simp) <;> with_reducible rfl)
                          · assumption
                          simp only [Act.put, List.setIfInBounds_toArray, List.set_cons_zero, List.set_cons_succ]
                          refine wpAnyH_take (i := 1) (oi := ?_) (v := ?_) ?_ ?_ ?_ ?_ ?_ ?_ ?_ ?_
                          rotate_left 2
                          · simp only [List.getElem?_toArray, List.getElem?_cons_succ, List.getElem?_cons_zero]; exact rfl
                          · kernel_rfl
                          · kernel_rfl
                          · kernel_rfl
                          · first | exact fun _ _ _ h => h | exact fun _ _ _ h => (HPan.out _ _ _ h).elim
                          · (refine Or.inl ⟨by rfl, ?_⟩; (intro w hSw; (try dsimp only at hSw); go_simp) <;> with_reducible rfl)
                          · assumption
                          simp only [Act.put, List.setIfInBounds_toArray, List.set_cons_zero, List.set_cons_succ]
                          refine wpAnyH_take (i := 2) (oi := ?_) (v := ?_) ?_ ?_ ?_ ?_ ?_ ?_ ?_ ?_
                          rotate_left 2
                          · simp only [List.getElem?_toArray, List.getElem?_cons_succ, List.getElem?_cons_zero]; exact rfl
                          · kernel_rfl
                          · kernel_rfl
                          · kernel_rfl
                          · first | exact fun _ _ _ h => h | exact fun _ _ _ h => (HPan.out _ _ _ h).elim
                          · (refine Or.inl ⟨by rfl, ?_⟩; (intro w hSw; (try dsimp only at hSw); go_simp) <;> with_reducible rfl)
                          · assumption
                          simp only [Act.put, List.setIfInBounds_toArray, List.set_cons_zero, List.set_cons_succ]
                          refine wpAnyH_take (i := 3) (oi := ?_) (v := ?_) ?_ ?_ ?_ ?_ ?_ ?_ ?_ ?_
                          rotate_left 2
                          · simp only [List.getElem?_toArray, List.getElem?_cons_succ, List.getElem?_cons_zero]; exact rfl
                          · kernel_rfl
                          · kernel_rfl
                          · kernel_rfl
                          · first | exact fun _ _ _ h => h | exact fun _ _ _ h => (HPan.out _ _ _ h).elim
                          · (refine Or.inl ⟨by rfl, ?_⟩; (intro w hSw; (try dsimp only at hSw); go_simp) <;> with_reducible rfl)
                          · assumption
                          simp only [Act.put, List.setIfInBounds_toArray, List.set_cons_zero, List.set_cons_succ]
                          refine wpAnyH_take (i := 4) (oi := ?_) (v := ?_) ?_ ?_ ?_ ?_ ?_ ?_ ?_ ?_
                          rotate_left 2
                          · simp only [List.getElem?_toArray, List.getElem?_cons_succ, List.getElem?_cons_zero]; exact rfl
                          · kernel_rfl
                          · kernel_rfl
                          · kernel_rfl
                          · first | exact fun _ _ _ h => h | exact fun _ _ _ h => (HPan.out _ _ _ h).elim
                          · (refine Or.inl ⟨by rfl, ?_⟩; (intro w hSw; (try dsimp only at hSw); go_simp) <;> with_reducible rfl)
                          · assumption
                          simp only [Act.put, List.setIfInBounds_toArray, List.set_cons_zero, List.set_cons_succ]
                          refine wpAnyH_take (i := 5) (oi := ?_) (v := ?_) ?_ ?_ ?_ ?_ ?_ ?_ ?_ ?_
                          rotate_left 2
                          · simp only [List.getElem?_toArray, List.getElem?_cons_succ, List.getElem?_cons_zero]; exact rfl
                          · kernel_rfl
                          · kernel_rfl
                          · kernel_rfl
                          · first | exact fun _ _ _ h => h | exact fun _ _ _ h => (HPan.out _ _ _ h).elim
                          · (refine Or.inl ⟨by rfl, ?_⟩; (intro w hSw; (try dsimp only at hSw); go_simp) <;> with_reducible rfl)
                          · assumption
                          simp only [Act.put, List.setIfInBounds_toArray, List.set_cons_zero, List.set_cons_succ]
                          refine wpAnyH_take (i := 6) (oi := ?_) (v := ?_) ?_ ?_ ?_ ?_ ?_ ?_ ?_ ?_
                          rotate_left 2
                          · simp only [List.getElem?_toArray, List.getElem?_cons_succ, List.getElem?_cons_zero]; exact rfl
                          · kernel_rfl
                          · kernel_rfl
                          · kernel_rfl
                          · first | exact fun _ _ _ h => h | exact fun _ _ _ h => (HPan.out _ _ _ h).elim
                          · (refine Or.inl ⟨by rfl, ?_⟩; (intro w hSw; (try dsimp only at hSw); go_simp) <;> with_reducible rfl)
                          · assumption
                          simp only [Act.put, List.setIfInBounds_toArray, List.set_cons_zero, List.set_cons_succ]
                          refine wpAnyH_take (i := 7) (oi := ?_) (v := ?_) ?_ ?_ ?_ ?_ ?_ ?_ ?_ ?_
                          rotate_left 2
                          · simp only [List.getElem?_toArray, List.getElem?_cons_succ, List.getElem?_cons_zero]; exact rfl
                          · kernel_rfl
                          · kernel_rfl
                          · kernel_rfl
                          · first | exact fun _ _ _ h => h | exact fun _ _ _ h => (HPan.out _ _ _ h).elim
                          · (refine Or.inl ⟨by rfl, ?_⟩; (intro w hSw; (try dsimp only at hSw); go_simp) <;> with_reducible rfl)
                          · assumption
                          simp only [Act.put, List.setIfInBounds_toArray, List.set_cons_zero, List.set_cons_succ]
                          refine wpAnyH_take (i := 8) (oi := ?_) (v := ?_) ?_ ?_ ?_ ?_ ?_ ?_ ?_ ?_
                          rotate_left 2
                          · simp only [List.getElem?_toArray, List.getElem?_cons_succ, List.getElem?_cons_zero]; exact rfl
                          · kernel_rfl
                          · kernel_rfl
                          · kernel_rfl
                          · first | exact fun _ _ _ h => h | exact fun _ _ _ h => (HPan.out _ _ _ h).elim
                          · (refine Or.inl ⟨by rfl, ?_⟩; (intro w hSw; (try dsimp only at hSw); go_simp) <;> with_reducible rfl)
                          · assumption
                          simp only [Act.put, List.setIfInBounds_toArray, List.set_cons_zero, List.set_cons_succ]
                          refine wpAnyH_take (i := 9) (oi := ?_) (v := ?_) ?_ ?_ ?_ ?_ ?_ ?_ ?_ ?_
                          rotate_left 2
                          · simp only [List.getElem?_toArray, List.getElem?_cons_succ, List.getElem?_cons_zero]; exact rfl
                          · kernel_rfl
                          · kernel_rfl
                          · kernel_rfl
                          · first | exact fun _ _ _ h => h | exact fun _ _ _ h => (HPan.out _ _ _ h).elim
                          · (refine Or.inl ⟨by rfl, ?_⟩; (intro w hSw; (try dsimp only at hSw); go_simp) <;> with_reducible rfl)
                          · assumption
                          simp only [Act.put, List.setIfInBounds_toArray, List.set_cons_zero, List.set_cons_succ]
                          refine wpAnyH_ready (rs := [10]) (by kernel_rfl) (by simp) ?_
                          refine AllReadyH.cons rfl (fun K hK => ?_) (AllReadyH.nil)
                          go_simp
                          go_wp2_with ((go_at_call 12; refine (HCF.out _ (by (repeat (first | exact Keep.refl _ _ | apply Keep.drew | apply Keep.drewN | apply Keep.alloc)))).mono ?_; rintro e w7 ⟨rfl, hk7⟩; have HK7 := Lib.hid ((show Keep wr _ Nope from (by (repeat (first | exact Keep.refl _ _ | apply Keep.drew | apply Keep.drewN | apply Keep.alloc)))).trans hk7 (fun _ f => f.elim)); clear hk7))
                          refine hK.out _ _ ?_ (fun hHeld => ?_)
                          · (try dsimp only); exact ⟨HK7.out.cell i0 (fun f => f), HK7.out.cell i1 (fun f => f), HK7.out.cell i2 (fun f => f), HK7.out.cell i3 (fun f => f), HK7.out.cell i4 (fun f => f), HK7.out.cell i5 (fun f => f), HK7.out.cell i6 (fun f => f), HK7.out.cell i7 (fun f => f), HK7.out.cell k0 (fun f => f), HK7.out.cell k1 (fun f => f), HK7.out.cell k2 (fun f => f), HK7.out.cell k3 (fun f => f), HK7.out.cell k4 (fun f => f), HK7.out.cell k5 (fun f => f), HK7.out.cell k6 (fun f => f), HK7.out.cell k7 (fun f => f)⟩
                          clear hK K
                          refine wpAnyH_take (i := 11) (oi := ?_) (v := ?_) ?_ ?_ ?_ ?_ ?_ ?_ ?_ ?_
                          rotate_left 2
                          · simp only [List.getElem?_toArray, List.getElem?_cons_succ, List.getElem?_cons_zero]; exact rfl
                          · kernel_rfl
                          · kernel_rfl
                          · kernel_rfl
                          · first | exact fun _ _ _ h => h | exact fun _ _ _ h => (HPan.out _ _ _ h).elim
                          · (refine Or.inl ⟨by rfl, ?_⟩; (intro w hSw; (try dsimp only at hSw); go_simp) <;> with_reducible rfl)
                          · assumption
                          simp only [Act.put, List.setIfInBounds_toArray, List.set_cons_zero, List.set_cons_succ]
                          refine wpAnyH_take (i := 12) (oi := ?_) (v := ?_) ?_ ?_ ?_ ?_ ?_ ?_ ?_ ?_
                          rotate_left 2
                          · simp only [List.getElem?_toArray, List.getElem?_cons_succ, List.getElem?_cons_zero]; exact rfl
                          · kernel_rfl
                          · kernel_rfl
                          · kernel_rfl
                          · first | exact fun _ _ _ h => h | exact fun _ _ _ h => (HPan.out _ _ _ h).elim
                          · (refine Or.inl ⟨by rfl, ?_⟩; (intro w hSw; (try dsimp only at hSw); go_simp) <;> with_reducible rfl)
                          · assumption
                          simp only [Act.put, List.setIfInBounds_toArray, List.set_cons_zero, List.set_cons_succ]
                          refine wpAnyH_take (i := 13) (oi := ?_) (v := ?_) ?_ ?_ ?_ ?_ ?_ ?_ ?_ ?_
                          rotate_left 2
                          · simp only [List.getElem?_toArray, List.getElem?_cons_succ, List.getElem?_cons_zero]; exact rfl
                          · kernel_rfl
                          · kernel_rfl
                          · kernel_rfl
                          · first | exact fun _ _ _ h => h | exact fun _ _ _ h => (HPan.out _ _ _ h).elim
                          · (refine Or.inl ⟨by rfl, ?_⟩; (intro w hSw; (try dsimp only at hSw); go_simp) <;> with_reducible rfl)
                          · assumption
                          simp only [Act.put, List.setIfInBounds_toArray, List.set_cons_zero, List.set_cons_succ]
                          refine wpAnyH_take (i := 14) (oi := ?_) (v := ?_) ?_ ?_ ?_ ?_ ?_ ?_ ?_ ?_
                          rotate_left 2
                          · simp only [List.getElem?_toArray, List.getElem?_cons_succ, List.getElem?_cons_zero]; exact rfl
                          · kernel_rfl
                          · kernel_rfl
                          · kernel_rfl
                          · first | exact fun _ _ _ h => h | exact fun _ _ _ h => (HPan.out _ _ _ h).elim
                          · (refine Or.inl ⟨by rfl, ?_⟩; (intro w hSw; (try dsimp only at hSw); go_simp) <;> with_reducible rfl)
                          · assumption
                          simp only [Act.put, List.setIfInBounds_toArray, List.set_cons_zero, List.set_cons_succ]
                          refine wpAnyH_take (i := 15) (oi := ?_) (v := ?_) ?_ ?_ ?_ ?_ ?_ ?_ ?_ ?_
                          rotate_left 2
                          · simp only [List.getElem?_toArray, List.getElem?_cons_succ, List.getElem?_cons_zero]; exact rfl
                          · kernel_rfl
                          · kernel_rfl
                          · kernel_rfl
                          · first | exact fun _ _ _ h => h | exact fun _ _ _ h => (HPan.out _ _ _ h).elim
                          · (refine Or.inl ⟨by rfl, ?_⟩; (intro w hSw; (try dsimp only at hSw); go_simp) <;> with_reducible rfl)
                          · assumption
                          simp only [Act.put, List.setIfInBounds_toArray, List.set_cons_zero, List.set_cons_succ]
                          refine wpAnyH_take (i := 16) (oi := ?_) (v := ?_) ?_ ?_ ?_ ?_ ?_ ?_ ?_ ?_
                          rotate_left 2
                          · simp only [List.getElem?_toArray, List.getElem?_cons_succ, List.getElem?_cons_zero]; exact rfl
                          · kernel_rfl
                          · kernel_rfl
                          · kernel_rfl
                          · first | exact fun _ _ _ h => h | exact fun _ _ _ h => (HPan.out _ _ _ h).elim
                          · (refine Or.inl ⟨by rfl, ?_⟩; (intro w hSw; (try dsimp only at hSw); go_simp) <;> with_reducible rfl)
                          · assumption
                          simp only [Act.put, List.setIfInBounds_toArray, List.set_cons_zero, List.set_cons_succ]
                          refine wpAnyH_take (i := 17) (oi := ?_) (v := ?_) ?_ ?_ ?_ ?_ ?_ ?_ ?_ ?_
                          rotate_left 2
                          · simp only [List.getElem?_toArray, List.getElem?_cons_succ, List.getElem?_cons_zero]; exact rfl
                          · kernel_rfl
                          · kernel_rfl
                          · kernel_rfl
                          · first | exact fun _ _ _ h => h | exact fun _ _ _ h => (HPan.out _ _ _ h).elim
                          · (refine Or.inl ⟨by rfl, ?_⟩; (intro w hSw; (try dsimp only at hSw); go_simp) <;> with_reducible rfl)
                          · assumption
                          simp only [Act.put, List.setIfInBounds_toArray, List.set_cons_zero, List.set_cons_succ]
                          refine wpAnyH_take (i := 19) (oi := ?_) (v := ?_) ?_ ?_ ?_ ?_ ?_ ?_ ?_ ?_
                          rotate_left 2
                          · simp only [List.getElem?_toArray, List.getElem?_cons_succ, List.getElem?_cons_zero]; exact rfl
                          · kernel_rfl
                          · kernel_rfl
                          · kernel_rfl
                          · first | exact fun _ _ _ h => h | exact fun _ _ _ h => (HPan.out _ _ _ h).elim
                          · (refine Or.inl ⟨by rfl, ?_⟩; (intro w hSw; (try dsimp only at hSw); go_simp) <;> with_reducible rfl)
                          · assumption
                          simp only [Act.put, List.setIfInBounds_toArray, List.set_cons_zero, List.set_cons_succ]
                          refine wpAnyH_ready (rs := [18]) (by kernel_rfl) (by simp) ?_
                          refine AllReadyH.cons rfl (fun K hK => ?_) (AllReadyH.nil)
                          go_simp
                          go_wp2_with ((go_at_call 14; refine (HST.out _ HK7.out).mono ?_; rintro e w8 ⟨S3, a3, c3, L3, rfl, hr3, hm3, hl3, hrd3, hk3⟩; have HK8 := Lib.hid (HK7.out.trans hk3 (fun _ f => f.elim)); have HIN := Lib.hid (HINF.out S3 a3 c3 L3 w8 hrd3 hr3 hm3 hl3); clear hr3 hm3 hl3 hrd3 hk3))
                          refine hK.out _ _ ?_ (fun hHeld => ?_)
                          · (try dsimp only); exact ⟨HK8.out.cell i0 (fun f => f), HK8.out.cell i1 (fun f => f), HK8.out.cell i2 (fun f => f), HK8.out.cell i3 (fun f => f), HK8.out.cell i4 (fun f => f), HK8.out.cell i5 (fun f => f), HK8.out.cell i6 (fun f => f), HK8.out.cell i7 (fun f => f), HK8.out.cell k0 (fun f => f), HK8.out.cell k1 (fun f => f), HK8.out.cell k2 (fun f => f), HK8.out.cell k3 (fun f => f), HK8.out.cell k4 (fun f => f), HK8.out.cell k5 (fun f => f), HK8.out.cell k6 (fun f => f), HK8.out.cell k7 (fun f => f)⟩
                          clear hK K
                          refine wpAnyH_ready (rs := [20]) (by kernel_rfl) (by simp) ?_
                          refine AllReadyH.cons rfl (fun K hK => ?_) (AllReadyH.nil)
                          go_simp
                          go_wp2_with ((go_at_call 13; refine (HIN.out).mono ?_; rintro e w9 ⟨rfl, hk9⟩; have HK9 := Lib.hid (HK8.out.trans hk9 (fun _ f => f.elim)); clear hk9))
                          refine hK.out _ _ ?_ (fun hHeld => ?_)
                          · (try dsimp only); exact ⟨HK9.out.cell i0 (fun f => f), HK9.out.cell i1 (fun f => f), HK9.out.cell i2 (fun f => f), HK9.out.cell i3 (fun f => f), HK9.out.cell i4 (fun f => f), HK9.out.cell i5 (fun f => f), HK9.out.cell i6 (fun f => f), HK9.out.cell i7 (fun f => f), HK9.out.cell k0 (fun f => f), HK9.out.cell k1 (fun f => f), HK9.out.cell k2 (fun f => f), HK9.out.cell k3 (fun f => f), HK9.out.cell k4 (fun f => f), HK9.out.cell k5 (fun f => f), HK9.out.cell k6 (fun f => f), HK9.out.cell k7 (fun f => f)⟩
                          clear hK K
                          refine wpAnyH_take (i := 21) (oi := ?_) (v := ?_) ?_ ?_ ?_ ?_ ?_ ?_ ?_ ?_
                          rotate_left 2
                          · simp only [List.getElem?_toArray, List.getElem?_cons_succ, List.getElem?_cons_zero]; exact rfl
                          · kernel_rfl
                          · kernel_rfl
                          · kernel_rfl
                          · first | exact fun _ _ _ h => h | exact fun _ _ _ h => (HPan.out _ _ _ h).elim
                          · (refine Or.inl ⟨by rfl, ?_⟩; (intro w hSw; (try dsimp only at hSw); go_simp) <;> with_reducible rfl)
                          · assumption
                          simp only [Act.put, List.setIfInBounds_toArray, List.set_cons_zero, List.set_cons_succ]
                          refine wpAnyH_take (i := 22) (oi := ?_) (v := ?_) ?_ ?_ ?_ ?_ ?_ ?_ ?_ ?_
                          rotate_left 2
                          · simp only [List.getElem?_toArray, List.getElem?_cons_succ, List.getElem?_cons_zero]; exact rfl
                          · kernel_rfl
                          · kernel_rfl
                          · kernel_rfl
                          · first | exact fun _ _ _ h => h | exact fun _ _ _ h => (HPan.out _ _ _ h).elim
                          · (refine Or.inl ⟨by rfl, ?_⟩; (intro w hSw; (try dsimp only at hSw); go_simp) <;> with_reducible rfl)
                          · assumption
                          simp only [Act.put, List.setIfInBounds_toArray, List.set_cons_zero, List.set_cons_succ]
                          refine wpAnyH_done (by kernel_rfl) ?_ _
                          clear i0 i1 i2 i3 i4 i5 i6 i7 k0 k1 k2 k3 k4 k5 k6 k7 hHeld HCF HST HINF hcb hcg HIN
                          go_wp2_with fail
                          go_roundg (m2 - (j2 + 1))
                          case measure => have := HG4.out; omega
                          case rel => exact ⟨j2 + 1, by omega, by go_num, by rw [HNEW.out]; rfl, HKP.out.trans HK9.out (fun _ f => f.elim)⟩
                    · obtain rfl : j2 = m2 := by omega
                      have ht : G2.take j2 = G2 := by rw [← HM2.out, List.take_length]
                      rw [ht, HANY.out]
                      have hjd2 : decide ((j2 : Int) < j2) = false := decide_eq_false (by omega)
                      clear ht
                      go_wp2_with fail
                      go_roundg (j - (k + 1))
                      case measure => have := HG2.out; omega
                      case rel => exact ⟨k + 1, by omega, by go_num, HKP.out⟩
          · obtain rfl : k = m := by omega
            have hkd : decide ((k : Int) < k) = false := decide_eq_false (by omega)
            go_wp2_with fail
            go_roundg (mg - (i + 1))
            case measure => have := HG.out; omega
            case rel => exact ⟨i + 1, by omega, by go_num, by rw [HCS.out, Int.natCast_add], HKP.out⟩
      · obtain rfl : i = mg := by omega
        have hid1 : decide ((i : Int) < i) = false := decide_eq_false (by omega)
        have hca : cntS s o i = n := by rw [HMX.out, cntS_all, HOL.out]
        rw [hca]
        have hnn : ((n : Int) == n) = true := by simp
        go_wp2_with fail
        refine (awake23 wr).mono ?_
        rintro e w9 ⟨rfl, hk⟩
        have HK9 := Lib.hid ((H2.out.keep HKP.out).keep hk)
        clear hk
        go_wp2_with fail
        go_ret
        exact HK9.out.ret
  · unfold RetStages at hSt
    rw [if_neg h0] at hSt
    have hec : chk (aftX l) = 2 ∨ chk (aftX l) = 20 := by
      unfold chk at h0 ⊢
      rw [HA.out] at h0 ⊢
      split
      · exact .inl rfl
      · rename_i h1
        rw [if_neg h1] at h0
        simp only [Bool.false_eq_true, if_false] at h0 ⊢
        split
        · exact .inr rfl
        · rename_i h2
          rw [if_neg h2] at h0
          exact absurd rfl h0
    have HST0 := Lib.hid hSt
    clear hSt h0 hlenA
    rcases hec with e | e
    all_goals
      rw [e] at HST0
      clear e
      go_wp2_with fail
      refine HST0.out.mono ?_
      rintro e w2 ⟨ar, cr, rs, rfl, hrs, hst⟩
      have H2 := Lib.hid (H1.out.keep (Keep.ofSt hst))
      clear hrs hst
      go_wp2_with fail
      go_ret
      exact H2.out.ret
end Go.Proofs.Ytbigknmeooaidaa
