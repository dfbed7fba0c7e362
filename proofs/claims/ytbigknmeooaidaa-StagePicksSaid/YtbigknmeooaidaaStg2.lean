/-
  The package stage: which systems each stage has.
-/
import Derived.Test.YtbigknmeooaidaaStg1
namespace Go.Proofs.Ytbigknmeooaidaa
open Go Go.RowKit
set_option linter.unusedVariables false
set_option linter.unusedSimpArgs false

def rowA (r : RowV) : Asr := slA 3 1 r.v r.l.length (ints r.l)
/-- Rows of the call's own. -/
def RowsL (v : Value) (rs : List RowV) : List Asr := slA 23 1 v rs.length (rs.map RowV.v) :: rs.map rowA
theorem slRow : SlTy Try.prog 22 23 1 24 := SlTy.mk' (.slice none 0 0) Try.underlying22 (by kernel_rfl) rfl (by decide)
theorem rows_one (rs : List RowV) : ∀ u ∈ rs.map RowV.v, u.oneCell' = true := by
  intro u hu
  obtain ⟨r, _, rfl⟩ := List.mem_map.1 hu
  rfl
theorem rows_rd {w wr : World} {P : List Asr} {v : Value} {rs : List RowV} (h : St w wr (P ++ RowsL v rs)) : RdRows (fun z => w.heap.size ≤ z ∧ z < wr.heap.size) wr v rs := by
  obtain ⟨_, G, k1, k2, k3⟩ := h
  refine ⟨?_, fun r hr => ?_⟩
  · have := k1 (P.length + 0) (slA 23 1 v rs.length (rs.map RowV.v)) (by rw [List.getElem?_append_right (by omega), Nat.add_sub_cancel_left]; rfl)
    exact (Own.rd this).mono (k2 _)
  · obtain ⟨p, hp, rfl⟩ := List.getElem_of_mem hr
    have := k1 (P.length + (p + 1)) (rowA rs[p]) (by
      rw [List.getElem?_append_right (by omega), Nat.add_sub_cancel_left]
      unfold RowsL
      simp [hp])
    exact (Own.rd this).mono (k2 _)
theorem rowsL_snoc (v v2 : Value) (rs : List RowV) (r : RowV) : RowsL v2 (rs ++ [r]) = (slA 23 1 v2 (rs.length + 1) (rs.map RowV.v ++ [r.v]) :: rs.map rowA) ++ [rowA r] := by
  unfold RowsL
  simp
theorem rowsL_set (v : Value) (rs : List RowV) (k : Nat) (r : RowV) : RowsL v (rs.set k r) = (slA 23 1 v rs.length ((rs.map RowV.v).set k r.v) :: (rs.map rowA).set k (rowA r)) := by
  unfold RowsL
  rw [List.length_set, List.map_set, List.map_set]

/-- The answer of 'Stages'. -/
def RetStages (w : World) (A : List (List Int)) (G : List (List Nat)) (en : Ending) (w' : World) : Prop :=
  ∃ (a : Option Addr) (c : Nat) (rs : List RowV), en = .returned (.tuple #[.slice a rs.length c, .int .i64 (chk A)]) ∧ rs.map RowV.l = (if chk A = 0 then G else []).map nats ∧ St w w' (RowsL (.slice a rs.length c) rs)

theorem sl_int_at {w0 w : World} {L : List Asr} {b o n c : Nat} {xs : List Int} (h : St w0 w L) (p : Nat) (hp : L[p]? = some (slA 3 1 (.slice (some ⟨b, o, none⟩) n c) n (ints xs))) {j : Nat} {x : Int} (hx : xs[j]? = some x) : w.cell? ⟨b, o + j, none⟩ = some (.int .i64 x) := by
  obtain ⟨G, _, hr, _⟩ := h.rd p hp
  obtain ⟨b', o', ⟨c', hv⟩, _, hc⟩ := (show Rd G w (.slice (some ⟨b, o, none⟩) n c) n (ints xs) from hr).int hx
  injection hv with e1 e2 e3
  injection e1 with e1
  injection e1 with e1 e4
  subst e1; subst e4
  exact hc
theorem sl_row_at {w0 w : World} {L : List Asr} {b o n c : Nat} {xs : List Value} (h : St w0 w L) (p : Nat) (hp : L[p]? = some (slA 23 1 (.slice (some ⟨b, o, none⟩) n c) n xs)) {j : Nat} {x : Value} (hx : xs[j]? = some x) : w.cell? ⟨b, o + j, none⟩ = some x := by
  obtain ⟨G, _, hr, _⟩ := h.rd p hp
  obtain ⟨a', c', he, _, _, _, h4⟩ := hr
  injection he with e1 e2 e3
  subst e1; subst e3
  obtain ⟨b', o', e, _, hc⟩ := h4 j x hx
  injection e with e
  injection e with e1 e2
  subst e1; subst e2
  exact hc
def SsL (va vo : Value) (n : Nat) (s o : List Nat) (v : Value) (rs : List RowV) : List Asr := [slA 3 1 va n (ints (nats s)), slA 3 1 vo n (ints (nats o))] ++ RowsL v rs
def LoopSs1 (w : World) (va vo : Value) (n : Nat) (s o : List Nat) (g : Nat) (v8 v26 : Value) (wr : World) : Prop :=
  ∃ (t m : Nat) (a : Option Addr) (c : Nat) (rs : List RowV), g + t = n ∧ v26 = .int .i64 t ∧ rs.length = m ∧ v8 = .slice a m c ∧ rs.map RowV.l = (grK s o t).map nats ∧ St w wr (SsL va vo n s o (.slice a m c) rs)
def LoopSs2 (w : World) (va vo : Value) (n t si : Nat) (s o : List Nat) (g : Nat) (v8 : Value) (wr : World) : Prop :=
  ∃ (m : Nat) (a : Option Addr) (c : Nat) (rs : List RowV), g = si + 1 - m ∧ rs.length = m ∧ v8 = .slice a m c ∧ (m = mxK s o t ∨ m ≤ si + 1) ∧ mxK s o t ≤ m ∧ rs.map RowV.l = (padG (grK s o t) m).map nats ∧ St w wr (SsL va vo n s o (.slice a m c) rs)
theorem padG_self (G : List (List Nat)) : padG G G.length = G := by unfold padG; simp
theorem padG_next (G : List (List Nat)) (m : Nat) (h : G.length ≤ m) : padG G (m + 1) = padG G m ++ [[]] := by
  unfold padG
  rw [show m + 1 - G.length = (m - G.length) + 1 by omega, List.replicate_succ', List.append_assoc]
theorem padG_end {G : List (List Nat)} {m k : Nat} (h : m = G.length ∨ m ≤ k) (h2 : G.length ≤ m) (h3 : k ≤ m) : padG G m = padG G k := by
  rcases h with e | e
  · subst e
    unfold padG
    rw [show k - G.length = 0 by omega, Nat.sub_self]
  · rw [show m = k by omega]

set_option maxRecDepth 3000 in
set_option maxHeartbeats 4000000 in
theorem stage_stages (v : Value) (l : List SysX) (w : World) (S : Nat → Prop) (h : RdSysX S w v l) (hS : ∀ i, S i → i < w.heap.size) :
    Calls Try.prog 11 #[v] w (RetStages w (aftX l) (grp (stg (depX l) (ord (aftX l)) l.length) (ord (aftX l)))) := by
  have HO := Lib.hid (stage_of v l w S h hS)
  have hO2 := fun w' (hk : Keep w w' Nope) => deps_Order v _ w' S (h.sys.keep0 hk)
  rw [aftX_eq] at hO2
  have HO2 := Lib.hid hO2; clear hO2
  obtain ⟨va, vc, rfl, g1, g2, g3, g4⟩ := id h.sys.rd
  simp only [List.length_map] at g1 h HO HO2 ⊢
  clear g3 g4
  clear h
  by_cases h0 : chk (aftX l) = 0
  · have hA : (aftX l).length = l.length := by simp [aftX]
    obtain ⟨z1, z2, z3⟩ := chk_zero h0
    rw [hA] at z1 z3
    have hrow := ord_row (aftX l)
    obtain ⟨s, hs⟩ : ∃ s, stg (depX l) (ord (aftX l)) l.length = s := ⟨_, rfl⟩
    have hsl : s.length = l.length := by rw [← hs]; exact stK_len _ _ _ _
    have hsb : ∀ p, s.getD p 0 ≤ 64 := fun p => by rw [← hs]; have := stK_le (dep := depX l) (o := ord (aftX l)) (n := l.length) (ord (aftX l)).length p; unfold stg; omega
    rw [hs] at HO ⊢
    obtain ⟨o, ho⟩ : ∃ o, ord (aftX l) = o := ⟨_, rfl⟩
    rw [ho] at z3 hrow
    have HR : Hid (∀ w', RetOrder w' (aftX l) = fun en w2 => ∃ (a : Option Addr) (n c : Nat), en = .returned (.tuple #[.slice a n c, .int .i64 0]) ∧ Keep w' w2 Nope ∧ Own (New w' w2) w2 3 1 (.slice a n c) n (ints (nats o))) := Lib.hid (by
      intro w'
      unfold RetOrder
      rw [h0, if_pos rfl, ho])
    have HF : Hid (RetOf w (aftX l) s = fun en w' => ∃ (a : Option Addr) (n c : Nat), en = .returned (.tuple #[.slice a n c, .int .i64 0]) ∧ Keep w w' Nope ∧ Own (New w w') w' 3 1 (.slice a n c) n (ints (nats s))) := Lib.hid (by
      unfold RetOf
      rw [h0, if_pos rfl])
    have HG : Hid (RetStages w (aftX l) (grp s (ord (aftX l))) = fun en w' => ∃ (a : Option Addr) (c : Nat) (rs : List RowV), en = .returned (.tuple #[.slice a rs.length c, .int .i64 0]) ∧ rs.map RowV.l = (grp s o).map nats ∧ St w w' (RowsL (.slice a rs.length c) rs)) := Lib.hid (by
      unfold RetStages
      rw [h0, if_pos rfl, ho])
    rw [HG.out]
    rw [HF.out] at HO
    simp only [HR.out] at HO2
    have HLT := Lib.hid (show ∀ i, i ∈ o → i < l.length from fun i hi => hA ▸ hrow.lt i hi)
    have HOL := Lib.hid z3
    have HSL := Lib.hid hsl
    have HSB := Lib.hid hsb
    clear h0 hA z2 z3 hrow ho HR HF HG hs hsl hsb
    obtain ⟨n, hn⟩ : ∃ n, l.length = n := ⟨_, rfl⟩
    rw [hn] at z1 HLT HOL HO HO2 HSL ⊢
    have HN := Lib.hid hn; clear hn
    have hn64 : (n : Int) ≤ 64 := by omega
    go_enter Try.func11, Try.ntmps11
    go_wp2_with fail
    refine HO.out.mono ?_
    rintro e w1 ⟨a1, n1, c1, rfl, hk1, hown⟩
    have hlen1 := hown.len
    rw [ints_len, nats_len, HSL.out, Nat.mul_one] at hlen1
    have e1 : n1 = n := by omega
    rw [e1] at hown
    rw [e1]
    have hst := (St.start w).add hk1 (A := slA 3 1 (.slice a1 n c1) n (ints (nats s))) hown
    have HK1 := Lib.hid hk1
    clear e1 hlen1 hown hk1
    have HST := Lib.hid hst
    clear hst
    go_wp2_with fail
    refine (HO2.out w1 HK1.out).mono ?_
    rintro e w2 ⟨a2, n2, c2, rfl, hk2, hown⟩
    have hlen1 := hown.len
    rw [ints_len, nats_len, HOL.out, Nat.mul_one] at hlen1
    have e1 : n2 = n := by omega
    rw [e1] at hown
    rw [e1]
    have hst := HST.out.add hk2 (A := slA 3 1 (.slice a2 n c2) n (ints (nats o))) hown
    have hst2 := hst.add (Keep.refl _ _) (A := slA 23 1 (.slice none 0 0) 0 []) (Own.nil _ _ _ _)
    have H2 := Lib.hid (show St w w2 (SsL (.slice a1 n c1) (.slice a2 n c2) n s o (.slice none 0 0) []) from hst2)
    clear hst hst2 hown hk2 e1 hlen1 HST HK1 HO HO2
    go_wp2_with fail
    go_loopg [8, 26] n (fun g v8 v26 wr => LoopSs1 w (.slice a1 n c1) (.slice a2 n c2) n s o g v8 v26 wr)
    case atStart => exact ⟨0, 0, none, 0, [], by omega, rfl, rfl, rfl, rfl, H2.out⟩
    case round =>
      obtain ⟨t, m, ar, cr, rs, ht, rfl, hm, rfl, hrs, hst⟩ := hrel
      clear H2
      have htn : t ≤ n := by omega
      have HT := Lib.hid ht; clear ht
      have HM := Lib.hid hm; clear hm
      have HRS := Lib.hid hrs; clear hrs
      have H3 := Lib.hid hst; clear hst
      by_cases hlt : t < n
      · obtain ⟨i, hi⟩ : ∃ i, o[t]? = some i := ⟨_, List.getElem?_eq_getElem (by rw [HOL.out]; exact hlt)⟩
        have him := HLT.out i (List.mem_of_getElem? hi)
        obtain ⟨G0, _, hrd0, _⟩ := H3.out.rd 1 rfl
        obtain ⟨bo, oo, ⟨c', hv⟩, _, hc0⟩ := (show Rd G0 wr (.slice a2 n c2) n (ints (nats o)) from hrd0).int (nats_get hi)
        injection hv with hv1 hv2 hv3
        subst hv1; subst hv3; clear hv2
        have HI := Lib.hid hi
        obtain ⟨si, hsi⟩ : ∃ si, s.getD i 0 = si := ⟨_, rfl⟩
        have hgi := getD_some (l := s) (k := i) (by rw [HSL.out]; exact him)
        rw [hsi] at hgi
        have HGI := Lib.hid hgi
        have HSI := Lib.hid hsi
        have hs64 := HSB.out i
        rw [hsi] at hs64
        have hmx : m = mxK s o t := by
          have := congrArg List.length HRS.out
          simpa [grK_len, HM.out] using this
        have hpg : padG (grK s o t) m = grK s o t := by rw [hmx, ← grK_len]; exact padG_self _
        have HPG := Lib.hid hpg
        have HMX := Lib.hid hmx
        have hti : (t : Int) < n := by omega
        have htd : decide ((t : Int) < n) = true := decide_eq_true hti
        have hmb : mxK s o t ≤ 65 := mxK_le (fun i _ => by have := HSB.out i; omega) t
        clear hi hrd0 hgi hsi hpg hmx
        go_wp2_with fail
        go_loopg [8] (si + 1 - m) (fun g v8 wz => LoopSs2 w (.slice a1 n c1) (.slice (some ⟨bo, oo, none⟩) n c2) n t si s o g v8 wz)
        case atStart => exact ⟨m, ar, cr, rs, rfl, HM.out, rfl, .inl HMX.out, by rw [← HMX.out]; exact Nat.le_refl _, by rw [HPG.out]; exact HRS.out, H3.out⟩
        case round =>
          obtain ⟨m2, ar2, cr2, rs2, hg, hm2, rfl, hor, hge, hrs2, hst⟩ := hrel
          clear H3 hc0
          have HG := Lib.hid hg; clear hg
          have HM2 := Lib.hid hm2; clear hm2
          have HOR := Lib.hid hor
          have HRS2 := Lib.hid hrs2; clear hrs2
          have H4 := Lib.hid hst; clear hst
          have HGE := Lib.hid hge
          have hm65 : m2 ≤ 65 := by omega
          obtain ⟨G0, _, hrd0, _⟩ := H4.out.rd 0 rfl
          obtain ⟨bs, os, ⟨c', hv⟩, _, hc1⟩ := (show Rd G0 wr (.slice a1 n c1) n (ints (nats s)) from hrd0).int (nats_get HGI.out)
          injection hv with hv1 hv2 hv3
          subst hv1; subst hv3; clear hv2 hrd0 hor hge
          by_cases hle : m2 ≤ si
          · have hli : (m2 : Int) ≤ si := by omega
            have hld : decide ((m2 : Int) ≤ si) = true := decide_eq_true hli
            obtain ⟨G, hown, _, hup, _⟩ := H4.out.opens 2 rfl
            have HOwn : Hid (Own G wr 23 1 (.slice ar2 m2 cr2) m2 (rs2.map RowV.v)) := Lib.hid (by have := hown; unfold slA at this; rw [HM2.out] at this; exact this)
            have HUP := Lib.hid hup
            clear hown hup
            go_wp2_with (at_builtin; refine wpList_app (P := Try.prog) slRow rfl _ _ rfl (S := G) (S2 := fun z => z = wr.heap.size) (n := m2) (xs := rs2.map RowV.v) (m := 1) (news := [.slice none 0 0]) rfl rfl ?_ ?_ ?_ ?_ ?_ ?_ ?_)
            · exact HOwn.out.keep (T := Nope) ((Keep.refl wr Nope).alloc _) (fun _ _ f => f)
            · exact (Own.lit (S := fun z => z = wr.heap.size) wr 23 1 1 #[.slice none 0 0] (by decide) rfl rfl).rd
            · rfl
            · intro u hu; simp at hu; subst hu; rfl
            · omega
            · unfold maxLen; omega
            rintro a' k' c' w5 happ
            obtain ⟨q1, q2⟩ := app_up (wr := wr) ((Keep.refl wr Nope).alloc _) happ
            obtain rfl := happ.num
            have h5 := (HUP.out w5 _ q1 q2).add (Keep.refl _ _) (A := rowA ⟨none, 0, []⟩) (Own.nil _ _ _ _)
            have H5 := Lib.hid (show St w w5 (SsL (.slice (some ⟨bs, os, none⟩) n c1) (.slice (some ⟨bo, oo, none⟩) n c2) n s o (.slice a' (m2 + 1) c') (rs2 ++ [⟨none, 0, []⟩])) by
              unfold SsL
              rw [rowsL_snoc (.slice none 0 0), HM2.out]
              exact h5)
            clear happ q1 q2 h5
            go_wp2_with fail
            go_roundg (si + 1 - (m2 + 1))
            case measure => have := HG.out; omega
            case rel =>
              refine ⟨m2 + 1, a', c', rs2 ++ [⟨none, 0, []⟩], rfl, by simp [HM2.out], rfl, .inr (by omega), by have := HGE.out; omega, ?_, H5.out⟩
              rw [List.map_append, HRS2.out, padG_next _ _ (by rw [grK_len]; exact HGE.out), List.map_append]
              rfl
          · have hli : ¬ (m2 : Int) ≤ si := by omega
            have hld : decide ((m2 : Int) ≤ si) = false := decide_eq_false hli
            have hpe := padG_end (G := grK s o t) (m := m2) (k := si + 1) (by rw [grK_len]; exact HOR.out) (by rw [grK_len]; exact HGE.out) (by omega)
            have hgs := grK_step (s := s) HI.out
            rw [HSI.out, ← hpe] at hgs
            have HGS := Lib.hid hgs
            have hrow := congrArg (fun L => L[si]?) HRS2.out
            simp only [List.getElem?_map] at hrow
            rw [hpe, padG_get (by omega)] at hrow
            obtain ⟨r, hr⟩ : ∃ r, rs2[si]? = some r := ⟨_, List.getElem?_eq_getElem (by rw [HM2.out]; omega)⟩
            rw [hr] at hrow
            simp only [Option.map_some, Option.some.injEq] at hrow
            have HROW := Lib.hid hrow
            have HRR := Lib.hid hr
            have hrA : (SsL (.slice (some ⟨bs, os, none⟩) n c1) (.slice (some ⟨bo, oo, none⟩) n c2) n s o (.slice ar2 m2 cr2) rs2)[3 + si]? = some (rowA r) := by
              unfold SsL RowsL
              rw [show 3 + si = 2 + (si + 1) by omega, List.getElem?_append_right (by simp)]
              simp [hr]
            have HRD := Lib.hid (rows_rd H4.out)
            obtain ⟨ra, rc, rl⟩ := r
            obtain ⟨bz, oz, hbz, _, hcr, hrr⟩ := HRD.out.get hr
            subst hbz
            obtain ⟨k, hk⟩ : ∃ k, rl.length = k := ⟨_, rfl⟩
            have hk64 : k ≤ 100 := by
              have := congrArg List.length hrow
              simp only [nats_len] at this
              have h2 := List.length_filter_le (fun i => s.getD i 0 == si) (o.take t)
              rw [List.length_take, HOL.out] at h2
              omega
            simp only at hcr hrow
            rw [hk] at hcr
            obtain ⟨G, hown, _, hup, _⟩ := H4.out.opens (3 + si) hrA
            have HOwn : Hid (Own G wr 3 1 (.slice ra k rc) k (ints rl)) := Lib.hid (by have := hown; unfold rowA RowV.v slA at this; simp only [hk] at this; exact this)
            have HUP := Lib.hid hup
            have HK := Lib.hid hk
            have hsm : (si : Int) < m2 := by omega
            have hini : (i : Int) < n := by omega
            clear hown hup hpe hgs hrow hr hrA hrr hk
            go_upto_region 11 with (fail)
            obtain ⟨gz, he, hgl, hgf, hgc, hst8⟩ := H4.out.store 2 (n := m2) (a := some ⟨bz, oz, none⟩) (c := cr2) (e := 23) (size := 1) (xs := rs2.map RowV.v) (by unfold SsL RowsL; rw [← HM2.out]; rfl) (by omega)
            injection he with he
            injection he with e1 e2
            subst e1; subst e2
            clear hst8 hgc hgf hgl
            rw [Nat.zero_add] at hcr
            have HCE := Lib.hid (fun (w5 : World) (X : Asr) (h5 : St w w5 ((SsL (.slice (some ⟨bs, os, none⟩) n c1) (.slice (some ⟨bo, oo, none⟩) n c2) n s o (.slice (some ⟨bz, 0, none⟩) m2 cr2) rs2).set (3 + si) X)) =>
              (show w5.cell? ⟨bs, os + i, none⟩ = some (.int .i64 (si : Int)) ∧ w5.cell? ⟨bz, si, none⟩ = some (.slice ra k rc) from
                ⟨sl_int_at h5 0 (by rw [List.getElem?_set_ne (by omega)]; rfl) (nats_get HGI.out), by
                  have := sl_row_at h5 2 (b := bz) (o := 0) (n := m2) (c := cr2) (xs := rs2.map RowV.v) (by rw [List.getElem?_set_ne (by omega)]; unfold SsL RowsL; rw [← HM2.out]; rfl) (j := si) (x := .slice ra k rc) (by rw [List.getElem?_map, HRR.out]; simp only [Option.map_some, RowV.v, HK.out])
                  rw [Nat.zero_add] at this
                  exact this⟩))
            refine wp_region_M (r := 15) (S := fun w' => w'.cell? ⟨bs, os + i, none⟩ = some (.int .i64 (si : Int)) ∧ w'.cell? ⟨bz, si, none⟩ = some (.slice ra k rc)) (by kernel_rfl) ?_ (fun hHeld => ?_)
            · (try dsimp only); go_keep
            (refine wpAnyM_takeP (i := 0) (oi := ?_) (v := ?_) ?_ ?_ ?_ ?_ ?_ ?_ ?_ ?_ ?_; rotate_left 2; (· simp only [List.getElem?_toArray, List.getElem?_cons_succ, List.getElem?_cons_zero]; exact rfl); (· kernel_rfl); (· kernel_rfl); (· kernel_rfl); (· kernel_rfl); (· first | exact fun _ _ _ h => h | exact fun _ _ _ h => (HPan.out _ _ _ h).elim); (· (refine Or.inl ⟨by rfl, ?_⟩; (intro w hSw; (try dsimp only at hSw); go_simp) <;> with_reducible rfl)); (· exact fun _ => hHeld); simp only [Act.put, List.setIfInBounds_toArray, List.set_cons_zero, List.set_cons_succ])
            (refine wpAnyM_takeP (i := 1) (oi := ?_) (v := ?_) ?_ ?_ ?_ ?_ ?_ ?_ ?_ ?_ ?_; rotate_left 2; (· simp only [List.getElem?_toArray, List.getElem?_cons_succ, List.getElem?_cons_zero]; exact rfl); (· kernel_rfl); (· kernel_rfl); (· kernel_rfl); (· kernel_rfl); (· first | exact fun _ _ _ h => h | exact fun _ _ _ h => (HPan.out _ _ _ h).elim); (· (refine Or.inl ⟨by rfl, ?_⟩; (intro w hSw; (try dsimp only at hSw); go_simp) <;> with_reducible rfl)); (· exact fun _ => hHeld); simp only [Act.put, List.setIfInBounds_toArray, List.set_cons_zero, List.set_cons_succ])
            (refine wpAnyM_takeP (i := 2) (oi := ?_) (v := ?_) ?_ ?_ ?_ ?_ ?_ ?_ ?_ ?_ ?_; rotate_left 2; (· simp only [List.getElem?_toArray, List.getElem?_cons_succ, List.getElem?_cons_zero]; exact rfl); (· kernel_rfl); (· kernel_rfl); (· kernel_rfl); (· kernel_rfl); (· first | exact fun _ _ _ h => h | exact fun _ _ _ h => (HPan.out _ _ _ h).elim); (· (refine Or.inl ⟨by rfl, ?_⟩; (intro w hSw; (try dsimp only at hSw); go_simp) <;> with_reducible rfl)); (· exact fun _ => hHeld); simp only [Act.put, List.setIfInBounds_toArray, List.set_cons_zero, List.set_cons_succ])
            (refine wpAnyM_takeP (i := 3) (oi := ?_) (v := ?_) ?_ ?_ ?_ ?_ ?_ ?_ ?_ ?_ ?_; rotate_left 2; (· simp only [List.getElem?_toArray, List.getElem?_cons_succ, List.getElem?_cons_zero]; exact rfl); (· kernel_rfl); (· kernel_rfl); (· kernel_rfl); (· kernel_rfl); (· first | exact fun _ _ _ h => h | exact fun _ _ _ h => (HPan.out _ _ _ h).elim); (· (refine Or.inl ⟨by rfl, ?_⟩; (intro w hSw; (try dsimp only at hSw); go_simp) <;> with_reducible rfl)); (· exact fun _ => hHeld); simp only [Act.put, List.setIfInBounds_toArray, List.set_cons_zero, List.set_cons_succ])
            (refine wpAnyM_take (i := 4) (oi := ?_) (v := ?_) ?_ ?_ ?_ ?_ ?_ ?_ ?_ ?_ ?_ ?_; rotate_left 2; (· simp only [List.getElem?_toArray, List.getElem?_cons_succ, List.getElem?_cons_zero]; exact rfl); (· kernel_rfl); (· kernel_rfl); (· kernel_rfl); (· kernel_rfl); (· kernel_rfl); (· first | exact fun _ _ _ h => h | exact fun _ _ _ h => (HPan.out _ _ _ h).elim); (· (refine Or.inl ⟨by rfl, ?_⟩; (intro w hSw; (try dsimp only at hSw); go_simp) <;> with_reducible rfl)); (· assumption); simp only [Act.put, List.setIfInBounds_toArray, List.set_cons_zero, List.set_cons_succ])
            (refine wpAnyM_takeP (i := 5) (oi := ?_) (v := ?_) ?_ ?_ ?_ ?_ ?_ ?_ ?_ ?_ ?_; rotate_left 2; (· simp only [List.getElem?_toArray, List.getElem?_cons_succ, List.getElem?_cons_zero]; exact rfl); (· kernel_rfl); (· kernel_rfl); (· kernel_rfl); (· kernel_rfl); (· first | exact fun _ _ _ h => h | exact fun _ _ _ h => (HPan.out _ _ _ h).elim); (· (refine Or.inl ⟨by rfl, ?_⟩; (intro w hSw; (try dsimp only at hSw); go_simp) <;> with_reducible rfl)); (· exact fun _ => hHeld); simp only [Act.put, List.setIfInBounds_toArray, List.set_cons_zero, List.set_cons_succ])
            (refine wpAnyM_takeP (i := 6) (oi := ?_) (v := ?_) ?_ ?_ ?_ ?_ ?_ ?_ ?_ ?_ ?_; rotate_left 2; (· simp only [List.getElem?_toArray, List.getElem?_cons_succ, List.getElem?_cons_zero]; exact rfl); (· kernel_rfl); (· kernel_rfl); (· kernel_rfl); (· kernel_rfl); (· first | exact fun _ _ _ h => h | exact fun _ _ _ h => (HPan.out _ _ _ h).elim); (· (refine Or.inl ⟨by rfl, ?_⟩; (intro w hSw; (try dsimp only at hSw); go_simp) <;> with_reducible rfl)); (· exact fun _ => hHeld); simp only [Act.put, List.setIfInBounds_toArray, List.set_cons_zero, List.set_cons_succ])
            (refine wpAnyM_takeP (i := 7) (oi := ?_) (v := ?_) ?_ ?_ ?_ ?_ ?_ ?_ ?_ ?_ ?_; rotate_left 2; (· simp only [List.getElem?_toArray, List.getElem?_cons_succ, List.getElem?_cons_zero]; exact rfl); (· kernel_rfl); (· kernel_rfl); (· kernel_rfl); (· kernel_rfl); (· first | exact fun _ _ _ h => h | exact fun _ _ _ h => (HPan.out _ _ _ h).elim); (· (refine Or.inl ⟨by rfl, ?_⟩; (intro w hSw; (try dsimp only at hSw); go_simp) <;> with_reducible rfl)); (· exact fun _ => hHeld); simp only [Act.put, List.setIfInBounds_toArray, List.set_cons_zero, List.set_cons_succ])
            (refine wpAnyM_takeP (i := 8) (oi := ?_) (v := ?_) ?_ ?_ ?_ ?_ ?_ ?_ ?_ ?_ ?_; rotate_left 2; (· simp only [List.getElem?_toArray, List.getElem?_cons_succ, List.getElem?_cons_zero]; exact rfl); (· kernel_rfl); (· kernel_rfl); (· kernel_rfl); (· kernel_rfl); (· first | exact fun _ _ _ h => h | exact fun _ _ _ h => (HPan.out _ _ _ h).elim); (· (refine Or.inl ⟨by rfl, ?_⟩; (intro w hSw; (try dsimp only at hSw); go_simp) <;> with_reducible rfl)); (· exact fun _ => hHeld); simp only [Act.put, List.setIfInBounds_toArray, List.set_cons_zero, List.set_cons_succ])
            (refine wpAnyM_take (i := 9) (oi := ?_) (v := ?_) ?_ ?_ ?_ ?_ ?_ ?_ ?_ ?_ ?_ ?_; rotate_left 2; (· simp only [List.getElem?_toArray, List.getElem?_cons_succ, List.getElem?_cons_zero]; exact rfl); (· kernel_rfl); (· kernel_rfl); (· kernel_rfl); (· kernel_rfl); (· kernel_rfl); (· first | exact fun _ _ _ h => h | exact fun _ _ _ h => (HPan.out _ _ _ h).elim); (· (refine Or.inl ⟨by rfl, ?_⟩; (intro w hSw; (try dsimp only at hSw); go_simp) <;> with_reducible rfl)); (· assumption); simp only [Act.put, List.setIfInBounds_toArray, List.set_cons_zero, List.set_cons_succ])
            (refine wpAnyM_takeP (i := 10) (oi := ?_) (v := ?_) ?_ ?_ ?_ ?_ ?_ ?_ ?_ ?_ ?_; rotate_left 2; (· simp only [List.getElem?_toArray, List.getElem?_cons_succ, List.getElem?_cons_zero]; exact rfl); (· kernel_rfl); (· kernel_rfl); (· kernel_rfl); (· kernel_rfl); (· first | exact fun _ _ _ h => h | exact fun _ _ _ h => (HPan.out _ _ _ h).elim); (· (refine Or.inl ⟨by rfl, ?_⟩; (intro w hSw; (try dsimp only at hSw); go_simp) <;> with_reducible rfl)); (· exact fun _ => hHeld); simp only [Act.put, List.setIfInBounds_toArray, List.set_cons_zero, List.set_cons_succ])
            (refine wpAnyM_take (i := 11) (oi := ?_) (v := ?_) ?_ ?_ ?_ ?_ ?_ ?_ ?_ ?_ ?_ ?_; rotate_left 2; (· simp only [List.getElem?_toArray, List.getElem?_cons_succ, List.getElem?_cons_zero]; exact rfl); (· kernel_rfl); (· kernel_rfl); (· kernel_rfl); (· kernel_rfl); (· kernel_rfl); (· first | exact fun _ _ _ h => h | exact fun _ _ _ h => (HPan.out _ _ _ h).elim); (· (refine Or.inl ⟨by rfl, ?_⟩; (intro w hSw; (try dsimp only at hSw); go_simp) <;> with_reducible rfl)); (· assumption); simp only [Act.put, List.setIfInBounds_toArray, List.set_cons_zero, List.set_cons_succ])
            (refine wpAnyM_takeP (i := 12) (oi := ?_) (v := ?_) ?_ ?_ ?_ ?_ ?_ ?_ ?_ ?_ ?_; rotate_left 2; (· simp only [List.getElem?_toArray, List.getElem?_cons_succ, List.getElem?_cons_zero]; exact rfl); (· kernel_rfl); (· kernel_rfl); (· kernel_rfl); (· kernel_rfl); (· first | exact fun _ _ _ h => h | exact fun _ _ _ h => (HPan.out _ _ _ h).elim); (· (refine Or.inl ⟨by rfl, ?_⟩; (intro w hSw; (try dsimp only at hSw); go_simp) <;> with_reducible rfl)); (· exact fun _ => hHeld); simp only [Act.put, List.setIfInBounds_toArray, List.set_cons_zero, List.set_cons_succ])
            refine wpAnyM_ready (rs := [13]) (by kernel_rfl) (by simp) ?_
            refine AllReadyM.cons (o := ?_) ?_ ?_ ?_
            rotate_left 1
            · simp only [List.getElem?_toArray, List.getElem?_cons_succ, List.getElem?_cons_zero]; exact rfl
            rotate_left 1
            · exact AllReadyM.nil
            intro K hK
            go_simp
            refine hK.out _ _ ?_ (fun hHeld => ?_)
            · (try dsimp only); go_keep
            clear hK K
            refine wpAnyM_ready (rs := [14]) (by kernel_rfl) (by simp) ?_
            refine AllReadyM.cons (o := ?_) ?_ ?_ ?_
            rotate_left 1
            · simp only [List.getElem?_toArray, List.getElem?_cons_succ, List.getElem?_cons_zero]; exact rfl
            rotate_left 1
            · exact AllReadyM.nil
            intro K hK
            rw [if_pos (by rfl)]
            (refine step_app (P := Try.prog) slInt _ _ rfl (S := G) (S2 := fun z => z = wr.heap.size) (n := k) (xs := ints rl) (m := 1) (news := ints [(i : Int)]) rfl rfl ?_ ?_ rfl (ints_one _) (by omega) (by unfold maxLen; omega) ?_; (· exact (HOwn.out.keep (T := Nope) (((Keep.refl wr Nope).drew).alloc _) (fun _ _ f => f))); (· exact rd_one wr.drew i); rintro a' k' c' w5 happ; obtain ⟨q1, q2⟩ := app_up (wr := wr) (((Keep.refl wr Nope).drew).alloc _) happ; obtain rfl := happ.num; have HS5 := Lib.hid (HUP.out w5 _ q1 q2); clear happ q1 q2; obtain ⟨z1, z2⟩ := HCE.out w5 _ HS5.out; obtain ⟨gz, he, hgl, hgf, hgc, hst8⟩ := HS5.out.store 2 (n := m2) (a := some ⟨bz, 0, none⟩) (c := cr2) (e := 23) (size := 1) (xs := rs2.map RowV.v) (by rw [List.getElem?_set_ne (by omega)]; unfold SsL RowsL; rw [← HM2.out]; rfl) (by omega); injection he with he; injection he with he; subst he; have zf := hgf si; have h8 := hst8 si (.slice a' (k + 1) c'); have H8 := Lib.hid h8; clear h8 hst8 hgf hgc hgl)
            refine hK.out _ _ ?_ (fun hHeld => ?_)
            · (try dsimp only); exact ⟨z1, z2⟩
            clear hK K
            (try simp only [List.getElem_toArray, List.getElem_cons_succ, List.getElem_cons_zero, Act.put, List.setIfInBounds_toArray, List.set_cons_zero, List.set_cons_succ])
            refine wpAnyM_ready (rs := [15]) (by kernel_rfl) (by simp) ?_
            refine AllReadyM.free (o := ?_) ?_ (by kernel_rfl) ?_ ?_
            rotate_left 1
            · simp only [List.getElem?_toArray, List.getElem?_cons_succ, List.getElem?_cons_zero]; exact rfl
            rotate_left 1
            · exact AllReadyM.nil
            intro K hK
            go_simp
            refine hK.out _ _ ?_
            clear hK K
            refine wpAnyM_ready (rs := [16]) (by kernel_rfl) (by simp) ?_
            refine AllReadyM.free (o := ?_) ?_ (by kernel_rfl) ?_ ?_
            rotate_left 1
            · simp only [List.getElem?_toArray, List.getElem?_cons_succ, List.getElem?_cons_zero]; exact rfl
            rotate_left 1
            · exact AllReadyM.nil
            intro K hK
            go_simp
            refine hK.out _ _ ?_
            clear hK K
            refine wpAnyM_done (by kernel_rfl) ?_ _
            have hnew : (SsL (.slice (some ⟨bs, os, none⟩) n c1) (.slice (some ⟨bo, oo, none⟩) n c2) n s o (.slice (some ⟨bz, 0, none⟩) m2 cr2) (rs2.set si ⟨a', c', rl ++ [(i : Int)]⟩)) = ((SsL (.slice (some ⟨bs, os, none⟩) n c1) (.slice (some ⟨bo, oo, none⟩) n c2) n s o (.slice (some ⟨bz, 0, none⟩) m2 cr2) rs2).set (3 + si) (slA 3 1 (.slice a' (k + 1) c') (k + 1) (ints rl ++ ints [(i : Int)]))).set 2 (slA 23 1 (.slice (some ⟨bz, 0, none⟩) m2 cr2) m2 ((rs2.map RowV.v).set si (.slice a' (k + 1) c'))) := by
              have hlen : (rl ++ [(i : Int)]).length = k + 1 := by rw [List.length_append, HK.out]; rfl
              unfold SsL
              rw [rowsL_set]
              unfold RowsL rowA RowV.v
              simp only [hlen, ints_app]
              rw [show 3 + si = si + 1 + 1 + 1 by omega]
              simp only [List.cons_append, List.nil_append, List.set_cons_succ, List.set_cons_zero]
              rw [HM2.out]
            obtain ⟨w9, hw9⟩ : ∃ w9, w9 = w5.setCell ⟨bz, si, none⟩ (.slice a' (k + 1) c') := ⟨_, rfl⟩
            have h9 := H8.out
            rw [← hw9] at h9 ⊢
            have H9 := Lib.hid (show St w w9 (SsL (.slice (some ⟨bs, os, none⟩) n c1) (.slice (some ⟨bo, oo, none⟩) n c2) n s o (.slice (some ⟨bz, 0, none⟩) m2 cr2) (rs2.set si ⟨a', c', rl ++ [(i : Int)]⟩)) by rw [hnew]; exact h9)
            clear hnew h9 hw9 H8 zf z1 z2 hcr hc1 HS5 HCE HUP HOwn hHeld
            go_wp2_with fail
            go_roundg (n - (t + 1))
            case measure => have := HT.out; omega
            case rel =>
              refine ⟨t + 1, m2, _, _, rs2.set si ⟨a', c', rl ++ [(i : Int)]⟩, by omega, by go_num, by rw [List.length_set]; exact HM2.out, rfl, ?_, H9.out⟩
              rw [HGS.out, List.map_set, HRS2.out, List.map_set]
              have hrow : rl = nats (List.filter (fun i => s.getD i 0 == si) (List.take t o)) := HROW.out
              have e : rl ++ [(i : Int)] = nats (List.filter (fun j => s.getD j 0 == si) (List.take t o) ++ [i]) := by rw [hrow, nats_app]; rfl
              rw [← e]
      · obtain rfl : t = n := by omega
        have htd : decide ((t : Int) < t) = false := decide_eq_false (by omega)
        go_wp2_with fail
        go_ret2
        have hst := H3.out.pick (l' := RowsL (.slice ar m cr) rs) (fun j => j + 2) (fun i j _ _ e => by omega) (fun j A hj => by unfold SsL; rw [List.getElem?_append_right (by simp)]; simpa using hj)
        have hm := HM.out
        subst hm
        refine ⟨_, _, rs, rfl, ?_, hst⟩
        rw [HRS.out]
        unfold grp
        rw [HOL.out]
  · have HF : Hid (RetOf w (aftX l) (stg (depX l) (ord (aftX l)) l.length) = fun en w' => ∃ (a : Option Addr) (n c : Nat), en = .returned (.tuple #[.slice a n c, .int .i64 (chk (aftX l))]) ∧ Keep w w' Nope ∧ Own (New w w') w' 3 1 (.slice a n c) n (ints (nats []))) := Lib.hid (by
      unfold RetOf
      rw [if_neg h0])
    have HG : Hid (RetStages w (aftX l) (grp (stg (depX l) (ord (aftX l)) l.length) (ord (aftX l))) = fun en w' => ∃ (a : Option Addr) (c : Nat) (rs : List RowV), en = .returned (.tuple #[.slice a rs.length c, .int .i64 (chk (aftX l))]) ∧ rs.map RowV.l = ([] : List (List Nat)).map nats ∧ St w w' (RowsL (.slice a rs.length c) rs)) := Lib.hid (by
      unfold RetStages
      rw [if_neg h0])
    rw [HG.out]
    rw [HF.out] at HO
    clear HF HG
    obtain ⟨ec, hec⟩ : ∃ ec, chk (aftX l) = ec := ⟨_, rfl⟩
    rw [hec] at HO h0 ⊢
    have hne : (ec != 0) = true := by simp [h0]
    obtain ⟨n, hn⟩ : ∃ n, l.length = n := ⟨_, rfl⟩
    rw [hn] at HO ⊢
    clear h0 hec HO2
    go_enter Try.func11, Try.ntmps11
    go_wp2_with fail
    refine HO.out.mono ?_
    rintro e w1 ⟨a1, n1, c1, rfl, hk1, hown⟩
    have HK := Lib.hid hk1
    clear hk1 hown
    go_wp2_with fail
    go_ret2
    exact ⟨none, 0, [], rfl, rfl, ((St.start w).keep HK.out).add (Keep.refl _ _) (A := slA 23 1 (.slice none 0 0) 0 []) (Own.nil _ _ _ _)⟩
end Go.Proofs.Ytbigknmeooaidaa
