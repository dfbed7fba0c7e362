/-
  The document's answer for stages: which systems each stage has.
-/
import Derived.Test.YtbigknmeooaidaaStg2
namespace Go.Proofs.Ytbigknmeooaidaa
open Go Go.RowKit
set_option linter.unusedVariables false
set_option linter.unusedSimpArgs false

def LoopGs1 (w : World) (n : Nat) (s o : List Nat) (g : Nat) (v5 v6 : Value) (wr : World) : Prop :=
  ∃ (t m : Nat) (a : Option Addr) (c : Nat) (rs : List RowV), g + t = n ∧ v6 = .int .i64 t ∧ rs.length = m ∧ v5 = .slice a m c ∧ rs.map RowV.l = (grK s o t).map nats ∧ St w wr (RowsL (.slice a m c) rs)
def LoopGs2 (w : World) (n t si : Nat) (s o : List Nat) (g : Nat) (v5 : Value) (wr : World) : Prop :=
  ∃ (m : Nat) (a : Option Addr) (c : Nat) (rs : List RowV), g = si + 1 - m ∧ rs.length = m ∧ v5 = .slice a m c ∧ (m = mxK s o t ∨ m ≤ si + 1) ∧ mxK s o t ≤ m ∧ rs.map RowV.l = (padG (grK s o t) m).map nats ∧ St w wr (RowsL (.slice a m c) rs)
def RetGroups (w : World) (G : List (List Nat)) (en : Ending) (w' : World) : Prop :=
  ∃ (a : Option Addr) (c : Nat) (rs : List RowV), en = .returned (.slice a rs.length c) ∧ rs.map RowV.l = G.map nats ∧ St w w' (RowsL (.slice a rs.length c) rs)

set_option maxRecDepth 3000 in
set_option maxHeartbeats 4000000 in
theorem ref_groups (vs vo : Value) (s o : List Nat) (w : World) (S So : Nat → Prop) (hs : Rd S w vs s.length (ints (nats s))) (ho : Rd So w vo o.length (ints (nats o))) (hol : o.length = s.length) (hl64 : s.length ≤ 64) (hlt : ∀ i, i ∈ o → i < s.length) (hsb : ∀ p, s.getD p 0 ≤ 64) :
    Calls Try.prog 22 #[vs, vo] w (RetGroups w (grp s o)) := by
  obtain ⟨a1, c1, rfl, g1, g2, g3, g4⟩ := id hs
  clear g3 g4
  obtain ⟨a2, c2, rfl, q1, q2, q3, q4⟩ := id ho
  clear q3 q4
  have HSR0 := Lib.hid hs
  have HOR0 := Lib.hid ho
  have HLT := Lib.hid hlt
  have HOL := Lib.hid hol
  have HSB := Lib.hid hsb
  clear hs ho hlt hsb
  obtain ⟨n, hn⟩ : ∃ n, s.length = n := ⟨_, rfl⟩
  rw [hn] at hl64 HLT hol HOL HSR0 g1 ⊢
  rw [hol] at HOR0 q1 ⊢
  have HSL := Lib.hid hn
  clear hn hol
  have hn64 : (n : Int) ≤ 64 := by omega
  unfold maxLen at q2 g2
  go_enter Try.func22, Try.ntmps22
  go_wp2_with fail
  go_loopg [5, 6] n (fun g v5 v6 wr => LoopGs1 w n s o g v5 v6 wr)
  case atStart => exact ⟨0, 0, none, 0, [], by omega, rfl, rfl, rfl, rfl, (St.start w).add (Keep.refl _ _) (A := slA 23 1 (.slice none 0 0) 0 []) (Own.nil _ _ _ _)⟩
  case round =>
    obtain ⟨t, m, ar, cr, rs, ht, rfl, hm, rfl, hrs, hst⟩ := hrel
    have htn : t ≤ n := by omega
    have HT := Lib.hid ht; clear ht
    have HM := Lib.hid hm; clear hm
    have HRS := Lib.hid hrs; clear hrs
    have H3 := Lib.hid hst; clear hst
    by_cases hlt : t < n
    · obtain ⟨i, hi⟩ : ∃ i, o[t]? = some i := ⟨_, List.getElem?_eq_getElem (by rw [HOL.out]; exact hlt)⟩
      have him := HLT.out i (List.mem_of_getElem? hi)
      obtain ⟨bo, oo, ⟨c', hv⟩, _, hd0⟩ := HOR0.out.int (nats_get hi)
      injection hv with hv1 hv2 hv3
      subst hv1; subst hv3; clear hv2
      have HC0 := Lib.hid hd0
      have hc0 := (Keep.ofSt H3.out).cell hd0 (fun f => f)
      clear hd0
      have HI := Lib.hid hi
      obtain ⟨si, hsi⟩ : ∃ si, s.getD i 0 = si := ⟨_, rfl⟩
      have hgi := getD_some (l := s) (k := i) (by rw [HSL.out]; exact him)
      rw [hsi] at hgi
      have HGI := Lib.hid hgi
      have HSI := Lib.hid hsi
      have hs64 := HSB.out i
      rw [hsi] at hs64
      have hmx : m = mxK s o t := by
        have := congrArg List.length HRS.out
        simpa [grK_len, HM.out] using this
      have hpg : padG (grK s o t) m = grK s o t := by rw [hmx, ← grK_len]; exact padG_self _
      have HPG := Lib.hid hpg
      have HMX := Lib.hid hmx
      have hti : (t : Int) < n := by omega
      have htd : decide ((t : Int) < n) = true := decide_eq_true hti
      have hmb : mxK s o t ≤ 65 := mxK_le (fun i _ => by have := HSB.out i; omega) t
      clear hgi hsi hpg hmx hi
      go_wp2_with fail
      go_loopg [5] (si + 1 - m) (fun g v5 wz => LoopGs2 w n t si s o g v5 wz)
      case atStart => exact ⟨m, ar, cr, rs, rfl, HM.out, rfl, .inl HMX.out, by rw [← HMX.out]; exact Nat.le_refl _, by rw [HPG.out]; exact HRS.out, H3.out⟩
      case round =>
        obtain ⟨m2, ar2, cr2, rs2, hg, hm2, rfl, hor, hge, hrs2, hst⟩ := hrel
        clear H3 hc0
        have HG := Lib.hid hg; clear hg
        have HM2 := Lib.hid hm2; clear hm2
        have HOR := Lib.hid hor
        have HRS2 := Lib.hid hrs2; clear hrs2
        have H4 := Lib.hid hst; clear hst
        have HGE := Lib.hid hge
        have hm65 : m2 ≤ 65 := by omega
        have hc0 := (Keep.ofSt H4.out).cell HC0.out (fun f => f)
        obtain ⟨bs, os, ⟨c', hv⟩, _, hd1⟩ := HSR0.out.int (nats_get HGI.out)
        injection hv with hv1 hv2 hv3
        subst hv1; subst hv3; clear hv2 hor hge
        have HC1 := Lib.hid hd1
        have hc1 := (Keep.ofSt H4.out).cell hd1 (fun f => f)
        have hini : (i : Int) < n := by omega
        clear hd1
        by_cases hle : m2 ≤ si
        · have hli : (m2 : Int) ≤ si := by omega
          have hld : decide ((m2 : Int) ≤ si) = true := decide_eq_true hli
          obtain ⟨G, hown, _, hup, _⟩ := H4.out.opens 0 rfl
          have HOwn : Hid (Own G wr 23 1 (.slice ar2 m2 cr2) m2 (rs2.map RowV.v)) := Lib.hid (by have := hown; unfold slA at this; rw [HM2.out] at this; exact this)
          have HUP := Lib.hid hup
          clear hown hup
          go_wp2_with (at_builtin; refine wpList_app (P := Try.prog) slRow rfl _ _ rfl (S := G) (S2 := fun z => z = wr.heap.size) (n := m2) (xs := rs2.map RowV.v) (m := 1) (news := [.slice none 0 0]) rfl rfl ?_ ?_ ?_ ?_ ?_ ?_ ?_)
          · exact HOwn.out.keep (T := Nope) ((Keep.refl wr Nope).alloc _) (fun _ _ f => f)
          · exact (Own.lit (S := fun z => z = wr.heap.size) wr 23 1 1 #[.slice none 0 0] (by decide) rfl rfl).rd
          · rfl
          · intro u hu; simp at hu; subst hu; rfl
          · omega
          · unfold maxLen; omega
          rintro a' k' c' w5 happ
          obtain ⟨q1, q2⟩ := app_up (wr := wr) ((Keep.refl wr Nope).alloc _) happ
          obtain rfl := happ.num
          have h5 := (HUP.out w5 _ q1 q2).add (Keep.refl _ _) (A := rowA ⟨none, 0, []⟩) (Own.nil _ _ _ _)
          have H5 := Lib.hid (show St w w5 (RowsL (.slice a' (m2 + 1) c') (rs2 ++ [⟨none, 0, []⟩])) by
            rw [rowsL_snoc (.slice none 0 0), HM2.out]
            exact h5)
          clear happ q1 q2 h5
          go_wp2_with fail
          go_roundg (si + 1 - (m2 + 1))
          case measure => have := HG.out; omega
          case rel =>
            refine ⟨m2 + 1, a', c', rs2 ++ [⟨none, 0, []⟩], rfl, by simp [HM2.out], rfl, .inr (by omega), by have := HGE.out; omega, ?_, H5.out⟩
            rw [List.map_append, HRS2.out, padG_next _ _ (by rw [grK_len]; exact HGE.out), List.map_append]
            rfl
        · have hli : ¬ (m2 : Int) ≤ si := by omega
          have hld : decide ((m2 : Int) ≤ si) = false := decide_eq_false hli
          have hpe := padG_end (G := grK s o t) (m := m2) (k := si + 1) (by rw [grK_len]; exact HOR.out) (by rw [grK_len]; exact HGE.out) (by omega)
          have hgs := grK_step (s := s) HI.out
          rw [HSI.out, ← hpe] at hgs
          have HGS := Lib.hid hgs
          have hrow := congrArg (fun L => L[si]?) HRS2.out
          simp only [List.getElem?_map] at hrow
          rw [hpe, padG_get (by omega)] at hrow
          obtain ⟨r, hr⟩ : ∃ r, rs2[si]? = some r := ⟨_, List.getElem?_eq_getElem (by rw [HM2.out]; omega)⟩
          rw [hr] at hrow
          simp only [Option.map_some, Option.some.injEq] at hrow
          have HROW := Lib.hid hrow
          have HRR := Lib.hid hr
          have hrA : (RowsL (.slice ar2 m2 cr2) rs2)[si + 1]? = some (rowA r) := by
            unfold RowsL
            simp [hr]
          have HRD := Lib.hid (rows_rd (P := []) H4.out)
          obtain ⟨ra, rc, rl⟩ := r
          obtain ⟨bz, oz, hbz, _, hcr, hrr⟩ := HRD.out.get hr
          subst hbz
          obtain ⟨k, hk⟩ : ∃ k, rl.length = k := ⟨_, rfl⟩
          have hk64 : k ≤ 100 := by
            have := congrArg List.length hrow
            simp only [nats_len] at this
            have h2 := List.length_filter_le (fun i => s.getD i 0 == si) (o.take t)
            rw [List.length_take, HOL.out] at h2
            omega
          simp only at hcr hrow
          rw [hk] at hcr
          obtain ⟨G, hown, _, hup, _⟩ := H4.out.opens (si + 1) hrA
          have HOwn : Hid (Own G wr 3 1 (.slice ra k rc) k (ints rl)) := Lib.hid (by have := hown; unfold rowA RowV.v slA at this; simp only [hk] at this; exact this)
          have HUP := Lib.hid hup
          have HK := Lib.hid hk
          have hsm : (si : Int) < m2 := by omega
          clear hown hup hpe hgs hrow hr hrA hrr hk
          clear hc0
          have hc0 := (Keep.ofSt H4.out).cell HC0.out (fun f => f)
          go_upto_region 7 with (fail)
          obtain ⟨gz, he, hgl, hgf, hgc, hst8⟩ := H4.out.store 0 (n := m2) (a := some ⟨bz, oz, none⟩) (c := cr2) (e := 23) (size := 1) (xs := rs2.map RowV.v) (by unfold RowsL; rw [← HM2.out]; rfl) (by omega)
          injection he with he
          injection he with e1 e2
          subst e1; subst e2
          clear hst8 hgc hgf hgl
          rw [Nat.zero_add] at hcr
          have HCE := Lib.hid (fun (w5 : World) (X : Asr) (h5 : St w w5 ((RowsL (.slice (some ⟨bz, 0, none⟩) m2 cr2) rs2).set (si + 1) X)) =>
            (show w5.cell? ⟨bs, os + i, none⟩ = some (.int .i64 (si : Int)) ∧ w5.cell? ⟨bz, si, none⟩ = some (.slice ra k rc) from
              ⟨(Keep.ofSt h5).cell HC1.out (fun f => f), by
                have := sl_row_at h5 0 (b := bz) (o := 0) (n := m2) (c := cr2) (xs := rs2.map RowV.v) (by rw [List.getElem?_set_ne (by omega)]; unfold RowsL; rw [← HM2.out]; rfl) (j := si) (x := .slice ra k rc) (by rw [List.getElem?_map, HRR.out]; simp only [Option.map_some, RowV.v, HK.out])
                rw [Nat.zero_add] at this
                exact this⟩))
          refine wp_region_M (r := 24) (S := fun w' => w'.cell? ⟨bs, os + i, none⟩ = some (.int .i64 (si : Int)) ∧ w'.cell? ⟨bz, si, none⟩ = some (.slice ra k rc) ∧ w'.cell? ⟨bo, oo + t, none⟩ = some (.int .i64 (i : Int))) (by kernel_rfl) ?_ (fun hHeld => ?_)
          · (try dsimp only); go_keep
          (refine wpAnyM_takeP (i := 0) (oi := ?_) (v := ?_) ?_ ?_ ?_ ?_ ?_ ?_ ?_ ?_ ?_; rotate_left 2; (· simp only [List.getElem?_toArray, List.getElem?_cons_succ, List.getElem?_cons_zero]; exact rfl); (· kernel_rfl); (· kernel_rfl); (· kernel_rfl); (· kernel_rfl); (· first | exact fun _ _ _ h => h | exact fun _ _ _ h => (HPan.out _ _ _ h).elim); (· (refine Or.inl ⟨by rfl, ?_⟩; (intro w hSw; (try dsimp only at hSw); go_simp) <;> with_reducible rfl)); (· exact fun _ => hHeld); simp only [Act.put, List.setIfInBounds_toArray, List.set_cons_zero, List.set_cons_succ])
          (refine wpAnyM_takeP (i := 1) (oi := ?_) (v := ?_) ?_ ?_ ?_ ?_ ?_ ?_ ?_ ?_ ?_; rotate_left 2; (· simp only [List.getElem?_toArray, List.getElem?_cons_succ, List.getElem?_cons_zero]; exact rfl); (· kernel_rfl); (· kernel_rfl); (· kernel_rfl); (· kernel_rfl); (· first | exact fun _ _ _ h => h | exact fun _ _ _ h => (HPan.out _ _ _ h).elim); (· (refine Or.inl ⟨by rfl, ?_⟩; (intro w hSw; (try dsimp only at hSw); go_simp) <;> with_reducible rfl)); (· exact fun _ => hHeld); simp only [Act.put, List.setIfInBounds_toArray, List.set_cons_zero, List.set_cons_succ])
          (refine wpAnyM_takeP (i := 2) (oi := ?_) (v := ?_) ?_ ?_ ?_ ?_ ?_ ?_ ?_ ?_ ?_; rotate_left 2; (· simp only [List.getElem?_toArray, List.getElem?_cons_succ, List.getElem?_cons_zero]; exact rfl); (· kernel_rfl); (· kernel_rfl); (· kernel_rfl); (· kernel_rfl); (· first | exact fun _ _ _ h => h | exact fun _ _ _ h => (HPan.out _ _ _ h).elim); (· (refine Or.inl ⟨by rfl, ?_⟩; (intro w hSw; (try dsimp only at hSw); go_simp) <;> with_reducible rfl)); (· exact fun _ => hHeld); simp only [Act.put, List.setIfInBounds_toArray, List.set_cons_zero, List.set_cons_succ])
          (refine wpAnyM_takeP (i := 3) (oi := ?_) (v := ?_) ?_ ?_ ?_ ?_ ?_ ?_ ?_ ?_ ?_; rotate_left 2; (· simp only [List.getElem?_toArray, List.getElem?_cons_succ, List.getElem?_cons_zero]; exact rfl); (· kernel_rfl); (· kernel_rfl); (· kernel_rfl); (· kernel_rfl); (· first | exact fun _ _ _ h => h | exact fun _ _ _ h => (HPan.out _ _ _ h).elim); (· (refine Or.inl ⟨by rfl, ?_⟩; (intro w hSw; (try dsimp only at hSw); go_simp) <;> with_reducible rfl)); (· exact fun _ => hHeld); simp only [Act.put, List.setIfInBounds_toArray, List.set_cons_zero, List.set_cons_succ])
          (refine wpAnyM_takeP (i := 4) (oi := ?_) (v := ?_) ?_ ?_ ?_ ?_ ?_ ?_ ?_ ?_ ?_; rotate_left 2; (· simp only [List.getElem?_toArray, List.getElem?_cons_succ, List.getElem?_cons_zero]; exact rfl); (· kernel_rfl); (· kernel_rfl); (· kernel_rfl); (· kernel_rfl); (· first | exact fun _ _ _ h => h | exact fun _ _ _ h => (HPan.out _ _ _ h).elim); (· (refine Or.inl ⟨by rfl, ?_⟩; (intro w hSw; (try dsimp only at hSw); go_simp) <;> with_reducible rfl)); (· exact fun _ => hHeld); simp only [Act.put, List.setIfInBounds_toArray, List.set_cons_zero, List.set_cons_succ])
          (refine wpAnyM_take (i := 5) (oi := ?_) (v := ?_) ?_ ?_ ?_ ?_ ?_ ?_ ?_ ?_ ?_ ?_; rotate_left 2; (· simp only [List.getElem?_toArray, List.getElem?_cons_succ, List.getElem?_cons_zero]; exact rfl); (· kernel_rfl); (· kernel_rfl); (· kernel_rfl); (· kernel_rfl); (· kernel_rfl); (· first | exact fun _ _ _ h => h | exact fun _ _ _ h => (HPan.out _ _ _ h).elim); (· (refine Or.inl ⟨by rfl, ?_⟩; (intro w hSw; (try dsimp only at hSw); go_simp) <;> with_reducible rfl)); (· assumption); simp only [Act.put, List.setIfInBounds_toArray, List.set_cons_zero, List.set_cons_succ])
          (refine wpAnyM_takeP (i := 6) (oi := ?_) (v := ?_) ?_ ?_ ?_ ?_ ?_ ?_ ?_ ?_ ?_; rotate_left 2; (· simp only [List.getElem?_toArray, List.getElem?_cons_succ, List.getElem?_cons_zero]; exact rfl); (· kernel_rfl); (· kernel_rfl); (· kernel_rfl); (· kernel_rfl); (· first | exact fun _ _ _ h => h | exact fun _ _ _ h => (HPan.out _ _ _ h).elim); (· (refine Or.inl ⟨by rfl, ?_⟩; (intro w hSw; (try dsimp only at hSw); go_simp) <;> with_reducible rfl)); (· exact fun _ => hHeld); simp only [Act.put, List.setIfInBounds_toArray, List.set_cons_zero, List.set_cons_succ])
          (refine wpAnyM_take (i := 7) (oi := ?_) (v := ?_) ?_ ?_ ?_ ?_ ?_ ?_ ?_ ?_ ?_ ?_; rotate_left 2; (· simp only [List.getElem?_toArray, List.getElem?_cons_succ, List.getElem?_cons_zero]; exact rfl); (· kernel_rfl); (· kernel_rfl); (· kernel_rfl); (· kernel_rfl); (· kernel_rfl); (· first | exact fun _ _ _ h => h | exact fun _ _ _ h => (HPan.out _ _ _ h).elim); (· (refine Or.inl ⟨by rfl, ?_⟩; (intro w hSw; (try dsimp only at hSw); go_simp) <;> with_reducible rfl)); (· assumption); simp only [Act.put, List.setIfInBounds_toArray, List.set_cons_zero, List.set_cons_succ])
          (refine wpAnyM_takeP (i := 8) (oi := ?_) (v := ?_) ?_ ?_ ?_ ?_ ?_ ?_ ?_ ?_ ?_; rotate_left 2; (· simp only [List.getElem?_toArray, List.getElem?_cons_succ, List.getElem?_cons_zero]; exact rfl); (· kernel_rfl); (· kernel_rfl); (· kernel_rfl); (· kernel_rfl); (· first | exact fun _ _ _ h => h | exact fun _ _ _ h => (HPan.out _ _ _ h).elim); (· (refine Or.inl ⟨by rfl, ?_⟩; (intro w hSw; (try dsimp only at hSw); go_simp) <;> with_reducible rfl)); (· exact fun _ => hHeld); simp only [Act.put, List.setIfInBounds_toArray, List.set_cons_zero, List.set_cons_succ])
          (refine wpAnyM_takeP (i := 9) (oi := ?_) (v := ?_) ?_ ?_ ?_ ?_ ?_ ?_ ?_ ?_ ?_; rotate_left 2; (· simp only [List.getElem?_toArray, List.getElem?_cons_succ, List.getElem?_cons_zero]; exact rfl); (· kernel_rfl); (· kernel_rfl); (· kernel_rfl); (· kernel_rfl); (· first | exact fun _ _ _ h => h | exact fun _ _ _ h => (HPan.out _ _ _ h).elim); (· (refine Or.inl ⟨by rfl, ?_⟩; (intro w hSw; (try dsimp only at hSw); go_simp) <;> with_reducible rfl)); (· exact fun _ => hHeld); simp only [Act.put, List.setIfInBounds_toArray, List.set_cons_zero, List.set_cons_succ])
          (refine wpAnyM_takeP (i := 10) (oi := ?_) (v := ?_) ?_ ?_ ?_ ?_ ?_ ?_ ?_ ?_ ?_; rotate_left 2; (· simp only [List.getElem?_toArray, List.getElem?_cons_succ, List.getElem?_cons_zero]; exact rfl); (· kernel_rfl); (· kernel_rfl); (· kernel_rfl); (· kernel_rfl); (· first | exact fun _ _ _ h => h | exact fun _ _ _ h => (HPan.out _ _ _ h).elim); (· (refine Or.inl ⟨by rfl, ?_⟩; (intro w hSw; (try dsimp only at hSw); go_simp) <;> with_reducible rfl)); (· exact fun _ => hHeld); simp only [Act.put, List.setIfInBounds_toArray, List.set_cons_zero, List.set_cons_succ])
          (refine wpAnyM_takeP (i := 11) (oi := ?_) (v := ?_) ?_ ?_ ?_ ?_ ?_ ?_ ?_ ?_ ?_; rotate_left 2; (· simp only [List.getElem?_toArray, List.getElem?_cons_succ, List.getElem?_cons_zero]; exact rfl); (· kernel_rfl); (· kernel_rfl); (· kernel_rfl); (· kernel_rfl); (· first | exact fun _ _ _ h => h | exact fun _ _ _ h => (HPan.out _ _ _ h).elim); (· (refine Or.inl ⟨by rfl, ?_⟩; (intro w hSw; (try dsimp only at hSw); go_simp) <;> with_reducible rfl)); (· exact fun _ => hHeld); simp only [Act.put, List.setIfInBounds_toArray, List.set_cons_zero, List.set_cons_succ])
          (refine wpAnyM_takeP (i := 12) (oi := ?_) (v := ?_) ?_ ?_ ?_ ?_ ?_ ?_ ?_ ?_ ?_; rotate_left 2; (· simp only [List.getElem?_toArray, List.getElem?_cons_succ, List.getElem?_cons_zero]; exact rfl); (· kernel_rfl); (· kernel_rfl); (· kernel_rfl); (· kernel_rfl); (· first | exact fun _ _ _ h => h | exact fun _ _ _ h => (HPan.out _ _ _ h).elim); (· (refine Or.inl ⟨by rfl, ?_⟩; (intro w hSw; (try dsimp only at hSw); go_simp) <;> with_reducible rfl)); (· exact fun _ => hHeld); simp only [Act.put, List.setIfInBounds_toArray, List.set_cons_zero, List.set_cons_succ])
          (refine wpAnyM_take (i := 13) (oi := ?_) (v := ?_) ?_ ?_ ?_ ?_ ?_ ?_ ?_ ?_ ?_ ?_; rotate_left 2; (· simp only [List.getElem?_toArray, List.getElem?_cons_succ, List.getElem?_cons_zero]; exact rfl); (· kernel_rfl); (· kernel_rfl); (· kernel_rfl); (· kernel_rfl); (· kernel_rfl); (· first | exact fun _ _ _ h => h | exact fun _ _ _ h => (HPan.out _ _ _ h).elim); (· (refine Or.inl ⟨by rfl, ?_⟩; (intro w hSw; (try dsimp only at hSw); go_simp) <;> with_reducible rfl)); (· assumption); simp only [Act.put, List.setIfInBounds_toArray, List.set_cons_zero, List.set_cons_succ])
          (refine wpAnyM_takeP (i := 14) (oi := ?_) (v := ?_) ?_ ?_ ?_ ?_ ?_ ?_ ?_ ?_ ?_; rotate_left 2; (· simp only [List.getElem?_toArray, List.getElem?_cons_succ, List.getElem?_cons_zero]; exact rfl); (· kernel_rfl); (· kernel_rfl); (· kernel_rfl); (· kernel_rfl); (· first | exact fun _ _ _ h => h | exact fun _ _ _ h => (HPan.out _ _ _ h).elim); (· (refine Or.inl ⟨by rfl, ?_⟩; (intro w hSw; (try dsimp only at hSw); go_simp) <;> with_reducible rfl)); (· exact fun _ => hHeld); simp only [Act.put, List.setIfInBounds_toArray, List.set_cons_zero, List.set_cons_succ])
          (refine wpAnyM_take (i := 15) (oi := ?_) (v := ?_) ?_ ?_ ?_ ?_ ?_ ?_ ?_ ?_ ?_ ?_; rotate_left 2; (· simp only [List.getElem?_toArray, List.getElem?_cons_succ, List.getElem?_cons_zero]; exact rfl); (· kernel_rfl); (· kernel_rfl); (· kernel_rfl); (· kernel_rfl); (· kernel_rfl); (· first | exact fun _ _ _ h => h | exact fun _ _ _ h => (HPan.out _ _ _ h).elim); (· (refine Or.inl ⟨by rfl, ?_⟩; (intro w hSw; (try dsimp only at hSw); go_simp) <;> with_reducible rfl)); (· assumption); simp only [Act.put, List.setIfInBounds_toArray, List.set_cons_zero, List.set_cons_succ])
          (refine wpAnyM_takeP (i := 16) (oi := ?_) (v := ?_) ?_ ?_ ?_ ?_ ?_ ?_ ?_ ?_ ?_; rotate_left 2; (· simp only [List.getElem?_toArray, List.getElem?_cons_succ, List.getElem?_cons_zero]; exact rfl); (· kernel_rfl); (· kernel_rfl); (· kernel_rfl); (· kernel_rfl); (· first | exact fun _ _ _ h => h | exact fun _ _ _ h => (HPan.out _ _ _ h).elim); (· (refine Or.inl ⟨by rfl, ?_⟩; (intro w hSw; (try dsimp only at hSw); go_simp) <;> with_reducible rfl)); (· exact fun _ => hHeld); simp only [Act.put, List.setIfInBounds_toArray, List.set_cons_zero, List.set_cons_succ])
          (refine wpAnyM_take (i := 17) (oi := ?_) (v := ?_) ?_ ?_ ?_ ?_ ?_ ?_ ?_ ?_ ?_ ?_; rotate_left 2; (· simp only [List.getElem?_toArray, List.getElem?_cons_succ, List.getElem?_cons_zero]; exact rfl); (· kernel_rfl); (· kernel_rfl); (· kernel_rfl); (· kernel_rfl); (· kernel_rfl); (· first | exact fun _ _ _ h => h | exact fun _ _ _ h => (HPan.out _ _ _ h).elim); (· (refine Or.inl ⟨by rfl, ?_⟩; (intro w hSw; (try dsimp only at hSw); go_simp) <;> with_reducible rfl)); (· assumption); simp only [Act.put, List.setIfInBounds_toArray, List.set_cons_zero, List.set_cons_succ])
          (refine wpAnyM_takeP (i := 18) (oi := ?_) (v := ?_) ?_ ?_ ?_ ?_ ?_ ?_ ?_ ?_ ?_; rotate_left 2; (· simp only [List.getElem?_toArray, List.getElem?_cons_succ, List.getElem?_cons_zero]; exact rfl); (· kernel_rfl); (· kernel_rfl); (· kernel_rfl); (· kernel_rfl); (· first | exact fun _ _ _ h => h | exact fun _ _ _ h => (HPan.out _ _ _ h).elim); (· (refine Or.inl ⟨by rfl, ?_⟩; (intro w hSw; (try dsimp only at hSw); go_simp) <;> with_reducible rfl)); (· exact fun _ => hHeld); simp only [Act.put, List.setIfInBounds_toArray, List.set_cons_zero, List.set_cons_succ])
          (refine wpAnyM_takeP (i := 19) (oi := ?_) (v := ?_) ?_ ?_ ?_ ?_ ?_ ?_ ?_ ?_ ?_; rotate_left 2; (· simp only [List.getElem?_toArray, List.getElem?_cons_succ, List.getElem?_cons_zero]; exact rfl); (· kernel_rfl); (· kernel_rfl); (· kernel_rfl); (· kernel_rfl); (· first | exact fun _ _ _ h => h | exact fun _ _ _ h => (HPan.out _ _ _ h).elim); (· (refine Or.inl ⟨by rfl, ?_⟩; (intro w hSw; (try dsimp only at hSw); go_simp) <;> with_reducible rfl)); (· exact fun _ => hHeld); simp only [Act.put, List.setIfInBounds_toArray, List.set_cons_zero, List.set_cons_succ])
          (refine wpAnyM_takeP (i := 20) (oi := ?_) (v := ?_) ?_ ?_ ?_ ?_ ?_ ?_ ?_ ?_ ?_; rotate_left 2; (· simp only [List.getElem?_toArray, List.getElem?_cons_succ, List.getElem?_cons_zero]; exact rfl); (· kernel_rfl); (· kernel_rfl); (· kernel_rfl); (· kernel_rfl); (· first | exact fun _ _ _ h => h | exact fun _ _ _ h => (HPan.out _ _ _ h).elim); (· (refine Or.inl ⟨by rfl, ?_⟩; (intro w hSw; (try dsimp only at hSw); go_simp) <;> with_reducible rfl)); (· exact fun _ => hHeld); simp only [Act.put, List.setIfInBounds_toArray, List.set_cons_zero, List.set_cons_succ])
          (refine wpAnyM_take (i := 21) (oi := ?_) (v := ?_) ?_ ?_ ?_ ?_ ?_ ?_ ?_ ?_ ?_ ?_; rotate_left 2; (· simp only [List.getElem?_toArray, List.getElem?_cons_succ, List.getElem?_cons_zero]; exact rfl); (· kernel_rfl); (· kernel_rfl); (· kernel_rfl); (· kernel_rfl); (· kernel_rfl); (· first | exact fun _ _ _ h => h | exact fun _ _ _ h => (HPan.out _ _ _ h).elim); (· (refine Or.inl ⟨by rfl, ?_⟩; (intro w hSw; (try dsimp only at hSw); go_simp) <;> with_reducible rfl)); (· assumption); simp only [Act.put, List.setIfInBounds_toArray, List.set_cons_zero, List.set_cons_succ])
          refine wpAnyM_ready (rs := [22]) (by kernel_rfl) (by simp) ?_
          refine AllReadyM.cons (o := ?_) ?_ ?_ ?_
          rotate_left 1
          · simp only [List.getElem?_toArray, List.getElem?_cons_succ, List.getElem?_cons_zero]; exact rfl
          rotate_left 1
          · exact AllReadyM.nil
          intro K hK
          go_simp
          refine hK.out _ _ ?_ (fun hHeld => ?_)
          · (try dsimp only); go_keep
          clear hK K
          refine wpAnyM_ready (rs := [23]) (by kernel_rfl) (by simp) ?_
          refine AllReadyM.cons (o := ?_) ?_ ?_ ?_
          rotate_left 1
          · simp only [List.getElem?_toArray, List.getElem?_cons_succ, List.getElem?_cons_zero]; exact rfl
          rotate_left 1
          · exact AllReadyM.nil
          intro K hK
          rw [if_pos (by rfl)]
          (refine step_app (P := Try.prog) slInt _ _ rfl (S := G) (S2 := fun z => z = wr.heap.size) (n := k) (xs := ints rl) (m := 1) (news := ints [(i : Int)]) rfl rfl ?_ ?_ rfl (ints_one _) (by omega) (by unfold maxLen; omega) ?_; (· exact (HOwn.out.keep (T := Nope) (((Keep.refl wr Nope).drew).alloc _) (fun _ _ f => f))); (· exact rd_one wr.drew i); rintro a' k' c' w5 happ; obtain ⟨q1, q2⟩ := app_up (wr := wr) (((Keep.refl wr Nope).drew).alloc _) happ; obtain rfl := happ.num; have HS5 := Lib.hid (HUP.out w5 _ q1 q2); clear happ q1 q2; obtain ⟨z1, z2⟩ := HCE.out w5 _ HS5.out; have z3 := (Keep.ofSt HS5.out).cell HC0.out (fun f => f); obtain ⟨gz, he, hgl, hgf, hgc, hst8⟩ := HS5.out.store 0 (n := m2) (a := some ⟨bz, 0, none⟩) (c := cr2) (e := 23) (size := 1) (xs := rs2.map RowV.v) (by rw [List.getElem?_set_ne (by omega)]; unfold RowsL; rw [← HM2.out]; rfl) (by omega); injection he with he; injection he with he; subst he; have zf := hgf si; have h8 := hst8 si (.slice a' (k + 1) c'); have H8 := Lib.hid h8; clear h8 hst8 hgf hgc hgl)
          refine hK.out _ _ ?_ (fun hHeld => ?_)
          · (try dsimp only); exact ⟨z1, z2, z3⟩
          clear hK K
          (try simp only [List.getElem_toArray, List.getElem_cons_succ, List.getElem_cons_zero, Act.put, List.setIfInBounds_toArray, List.set_cons_zero, List.set_cons_succ])
          refine wpAnyM_ready (rs := [24]) (by kernel_rfl) (by simp) ?_
          refine AllReadyM.free (o := ?_) ?_ (by kernel_rfl) ?_ ?_
          rotate_left 1
          · simp only [List.getElem?_toArray, List.getElem?_cons_succ, List.getElem?_cons_zero]; exact rfl
          rotate_left 1
          · exact AllReadyM.nil
          intro K hK
          go_simp
          refine hK.out _ _ ?_
          clear hK K
          refine wpAnyM_ready (rs := [25]) (by kernel_rfl) (by simp) ?_
          refine AllReadyM.free (o := ?_) ?_ (by kernel_rfl) ?_ ?_
          rotate_left 1
          · simp only [List.getElem?_toArray, List.getElem?_cons_succ, List.getElem?_cons_zero]; exact rfl
          rotate_left 1
          · exact AllReadyM.nil
          intro K hK
          go_simp
          refine hK.out _ _ ?_
          clear hK K
          refine wpAnyM_done (by kernel_rfl) ?_ _
          have hnew : (RowsL (.slice (some ⟨bz, 0, none⟩) m2 cr2) (rs2.set si ⟨a', c', rl ++ [(i : Int)]⟩)) = ((RowsL (.slice (some ⟨bz, 0, none⟩) m2 cr2) rs2).set (si + 1) (slA 3 1 (.slice a' (k + 1) c') (k + 1) (ints rl ++ ints [(i : Int)]))).set 0 (slA 23 1 (.slice (some ⟨bz, 0, none⟩) m2 cr2) m2 ((rs2.map RowV.v).set si (.slice a' (k + 1) c'))) := by
            have hlen : (rl ++ [(i : Int)]).length = k + 1 := by rw [List.length_append, HK.out]; rfl
            rw [rowsL_set]
            unfold RowsL rowA RowV.v
            simp only [hlen, ints_app]
            simp only [List.cons_append, List.nil_append, List.set_cons_succ, List.set_cons_zero]
            rw [HM2.out]
          obtain ⟨w9, hw9⟩ : ∃ w9, w9 = w5.setCell ⟨bz, si, none⟩ (.slice a' (k + 1) c') := ⟨_, rfl⟩
          have h9 := H8.out
          rw [← hw9] at h9 ⊢
          have H9 := Lib.hid (show St w w9 (RowsL (.slice (some ⟨bz, 0, none⟩) m2 cr2) (rs2.set si ⟨a', c', rl ++ [(i : Int)]⟩)) by rw [hnew]; exact h9)
          clear hnew h9 hw9 H8 zf z1 z2 z3 hcr hc1 hc0 HS5 HCE HUP HOwn hHeld
          go_wp2_with fail
          go_roundg (n - (t + 1))
          case measure => have := HT.out; omega
          case rel =>
            refine ⟨t + 1, m2, _, _, rs2.set si ⟨a', c', rl ++ [(i : Int)]⟩, by omega, by go_num, by rw [List.length_set]; exact HM2.out, rfl, ?_, H9.out⟩
            rw [HGS.out, List.map_set, HRS2.out, List.map_set]
            have hrow : rl = nats (List.filter (fun i => s.getD i 0 == si) (List.take t o)) := HROW.out
            have e : rl ++ [(i : Int)] = nats (List.filter (fun j => s.getD j 0 == si) (List.take t o) ++ [i]) := by rw [hrow, nats_app]; rfl
            rw [← e]
    · obtain rfl : t = n := by omega
      have htd : decide ((t : Int) < t) = false := decide_eq_false (by omega)
      go_wp2_with fail
      go_ret
      have hm := HM.out
      subst hm
      refine ⟨_, _, rs, rfl, ?_, H3.out⟩
      rw [HRS.out]
      unfold grp
      rw [HOL.out]
end Go.Proofs.Ytbigknmeooaidaa
