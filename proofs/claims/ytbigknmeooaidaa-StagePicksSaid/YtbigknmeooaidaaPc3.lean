/-
  The document's answer for picks.
-/
import Derived.Test.YtbigknmeooaidaaStg3
namespace Go.Proofs.Ytbigknmeooaidaa
open Go Go.RowKit
set_option linter.unusedVariables false
set_option linter.unusedSimpArgs false

theorem pk_app5 {w6 wc w5 : World} {e : TypeId} {size b0 m k : Nat} {v y : Value} {news : List Value} (hk : Keep w6 wc Nope) (hb : w6.heap.size ≤ b0) (happ : App (fun z => z = b0) wc w5 e size v y 0 m k [] news) :
    Own (fun z => w6.heap.size ≤ z) w5 e size y k news ∧ Keep w6 w5 Nope := by
  have h := happ.own
  rw [List.nil_append] at h
  exact ⟨h.mono (fun i hi => hi.elim (fun e => e ▸ hb) (fun e => Nat.le_trans hk.size e.1)), hk.trans happ.keep (fun i hi => .inr (hi ▸ hb))⟩
theorem pk_app {w6 wc w5 : World} {e : TypeId} {size n m k : Nat} {v y : Value} {xs news : List Value} (hk : Keep w6 wc Nope) (happ : App (fun z => w6.heap.size ≤ z) wc w5 e size v y n m k xs news) :
    Own (fun z => w6.heap.size ≤ z) w5 e size y k (xs ++ news) ∧ Keep w6 w5 Nope :=
  ⟨happ.own.mono (fun i hi => hi.elim id (fun e => Nat.le_trans hk.size e.1)), hk.trans happ.keep (fun i hi => .inr hi)⟩
def LoopRp1 (w : World) (rs : List RowV) (picks F : List Int) (g : Nat) (v5 v6 v7 : Value) (wr : World) : Prop :=
  ∃ (t k at' : Nat) (ao : Option Addr) (co : Nat) (out : List Int), g + t = rs.length ∧ v7 = .int .i64 t ∧ v6 = .int .i64 at' ∧ out.length = k ∧ v5 = .slice ao k co ∧ pkAll ((rs.drop t).map RowV.l) (picks.drop at') out = F ∧ out.length ≤ t * 1000000 ∧ at' ≤ t * 1000000 ∧ St w wr [slA 3 1 (.slice ao k co) k (ints out)]
def LoopRp2 (w : World) (picks : List Int) (F : PkS) (B B2 N : Nat) (g : Nat) (v5 v6 v8 : Value) (wr : World) : Prop :=
  ∃ (j k at' : Nat) (ao al : Option Addr) (co cl : Nat) (s : PkS), g = j ∧ s.left.length = j ∧ v8 = .slice al j cl ∧ v6 = .int .i64 at' ∧ s.p = picks.drop at' ∧ s.out.length = k ∧ v5 = .slice ao k co ∧ iterP j s = F ∧ s.out.length + j ≤ B ∧ at' + j ≤ B2 ∧ j ≤ N ∧ St w wr [slA 3 1 (.slice ao k co) k (ints s.out), slA 3 1 (.slice al j cl) j (ints s.left)]

set_option maxRecDepth 3000 in
set_option maxHeartbeats 4000000 in
theorem ref_pick (v v2 : Value) (rs : List RowV) (picks : List Int) (w : World) (S S2 : Nat → Prop) (h : RdRows S w v rs) (h2 : Rd S2 w v2 picks.length (ints picks)) (hr : ∀ r, r ∈ rs → r.l.length ≤ 1000000) (hrs : rs.length ≤ 1000000) :
    Calls Try.prog 18 #[v, v2] w (RetOwn w 3 1 (ints (pkAll (rs.map RowV.l) picks []))) := by
  obtain ⟨va, vc, rfl, g1, g2, g3, g4⟩ := id h.rd
  clear g3 g4
  obtain ⟨pa, pc, rfl, q1, q2, q3, q4⟩ := id h2
  clear q3 q4
  have H := Lib.hid h
  have HP := Lib.hid h2
  have HR := Lib.hid hr
  obtain ⟨F, hF⟩ : ∃ F, pkAll (rs.map RowV.l) picks [] = F := ⟨_, rfl⟩
  rw [hF]
  have HF := Lib.hid hF
  obtain ⟨pn, hpn⟩ : ∃ pn, picks.length = pn := ⟨_, rfl⟩
  rw [hpn] at HP q1 ⊢
  have HPN := Lib.hid hpn
  unfold maxLen at g2 q2
  clear h h2 hr hF hpn
  go_enter Try.func18, Try.ntmps18
  go_wp2_with fail
  go_loopg [5, 6, 7] rs.length (fun g v5 v6 v7 wr => LoopRp1 w rs picks F g v5 v6 v7 wr)
  case atStart => exact ⟨0, 0, 0, none, 0, [], by omega, rfl, rfl, rfl, rfl, HF.out, by simp, by simp, (St.start w).add (Keep.refl _ _) (A := slA 3 1 (.slice none 0 0) 0 []) (Own.nil _ _ _ _)⟩
  case round =>
    obtain ⟨t, k, at0, ao, co, out, ht, rfl, rfl, hk, rfl, hpk, hob, hab, hst⟩ := hrel
    have htn : t ≤ rs.length := by omega
    have HT := Lib.hid ht; clear ht
    have HK := Lib.hid hk
    have HPK := Lib.hid hpk; clear hpk
    have H3 := Lib.hid hst; clear hst
    by_cases hlt : t < rs.length
    · obtain ⟨r, hr⟩ : ∃ r, rs[t]? = some r := ⟨_, List.getElem?_eq_getElem hlt⟩
      obtain ⟨bo, oo, rfl, _, hc0, hrr⟩ := (H.out.keep0 (Keep.ofSt H3.out)).get hr
      have hrb := HR.out r (List.mem_of_getElem? hr)
      have hdr : (rs.drop t).map RowV.l = r.l :: (rs.drop (t + 1)).map RowV.l := by
        rw [List.drop_eq_getElem_cons hlt, List.map_cons]
        rw [List.getElem?_eq_getElem hlt] at hr
        injection hr with hr
        rw [hr]
      have hpk := HPK.out
      rw [hdr, pkAll] at hpk
      have HPK2 := Lib.hid hpk
      obtain ⟨ra, rc, rl⟩ := r
      simp only [RowV.v] at hc0 hrb HPK2 hrr
      obtain ⟨n, hn⟩ : ∃ n, rl.length = n := ⟨_, rfl⟩
      rw [hn] at hc0 hrb HPK2 hrr
      have HN := Lib.hid hn
      have HRR := Lib.hid hrr
      have hti : (t : Int) < rs.length := by omega
      have htd : decide ((t : Int) < rs.length) = true := decide_eq_true hti
      obtain ⟨FF, hFF⟩ : ∃ FF, iterP n ⟨out, rl, picks.drop at0⟩ = FF := ⟨_, rfl⟩
      rw [hFF] at HPK2
      have HFF := Lib.hid hFF
      clear hr hrr hdr hpk hn hFF HPK
      have hc1 := ((Keep.refl wr Nope).alloc (.cells #[] 3)).cell hc0 (fun f => f)
      go_wp2_with (at_builtin; refine wpList_app (P := Try.prog) slInt rfl _ _ rfl (S := fun z => z = wr.heap.size) (S2 := S) (n := 0) (xs := []) (m := n) (news := ints rl) rfl rfl ?_ ?_ ?_ ?_ ?_ ?_ ?_)
      · exact Own.lit wr 3 1 0 #[] (Nat.zero_le _) rfl rfl
      · exact HRR.out.alloc _
      · rw [ints_len, HN.out, Nat.mul_one]
      · exact ints_one _
      · omega
      · unfold maxLen; omega
      rintro al nl cl w5 happ
      have q12 := pk_app5 (w6 := wr) ((Keep.refl wr Nope).alloc _) (Nat.le_refl _) happ
      have e1 : nl = n := by have := happ.num; omega
      subst nl
      have H5 := Lib.hid (show St w w5 [slA 3 1 (.slice ao k co) k (ints out), slA 3 1 (.slice al n cl) n (ints rl)] from H3.out.add q12.2 (A := slA 3 1 (.slice al n cl) n (ints rl)) (q12.1.tight.mono (fun z hz => ⟨hz.1, hz.2⟩)))
      clear happ q12 H3
      go_wp2_with fail
      go_loopg [5, 6, 8] n (fun g v5 v6 v8 wr => LoopRp2 w picks FF (out.length + n) (at0 + n) n g v5 v6 v8 wr)
      case atStart => exact ⟨n, k, at0, ao, al, co, cl, ⟨out, rl, picks.drop at0⟩, rfl, HN.out, rfl, rfl, rfl, HK.out, rfl, HFF.out, Nat.le_refl _, Nat.le_refl _, Nat.le_refl _, H5.out⟩
      case round =>
        obtain ⟨j, k2, at', ao2, al2, co2, cl2, s, hgj, hj, rfl, rfl, hsp, hk2, rfl, hit, hob2, hab2, hjn, hst⟩ := hrel
        have hgj := hgj.symm
        subst hgj
        clear H5 hc0 hc1
        have HJ := Lib.hid hj; clear hj
        have HK2 := Lib.hid hk2
        have HIT := Lib.hid hit; clear hit
        have HSP := Lib.hid hsp
        have H4 := Lib.hid hst; clear hst
        have hjb : j ≤ 1000000000000 := by omega
        have hatb : at' ≤ 10000000000000000 := by omega
        by_cases hj0 : 0 < j
        · obtain ⟨so, sl, sp⟩ := s
          have hj6 : j ≤ 1000000 := by omega
          have hsp := HSP.out
          simp only at hsp
          subst hsp
          have hjI : (0 : Int) < j := by omega
          have hjd : decide ((j : Int) > 0) = true := decide_eq_true hjI
          have hjd2 : decide ((0 : Int) < j) = true := decide_eq_true hjI
          obtain ⟨ki, hki⟩ : ∃ ki, pkI sl (picks.drop at') = ki := ⟨_, rfl⟩
          have hkl : ki < j := by
            have h1 : sl.length = j := HJ.out
            have := pkI_lt sl (picks.drop at') (by omega)
            omega
          have hit := HIT.out
          rw [show j = (j - 1) + 1 by omega, iterP] at hit
          unfold stepP at hit
          simp only [hki] at hit
          obtain ⟨lv, hlv⟩ : ∃ lv, sl[ki]? = some lv := ⟨_, List.getElem?_eq_getElem (by have h1 : sl.length = j := HJ.out; omega)⟩
          rw [getD_of hlv] at hit
          have HIT2 := Lib.hid hit
          have HKI := Lib.hid hki
          have HLV := Lib.hid hlv
          have HDT := Lib.hid (show (picks.drop at').tail = picks.drop (at' + 1) from by rw [List.tail_drop])
          obtain ⟨G0, _, hrd0, _⟩ := H4.out.rd 1 rfl
          obtain ⟨bl, ol, ⟨c', hv⟩, _, hcl⟩ := (show Rd G0 wr (.slice al2 j cl2) j (ints sl) from hrd0).int hlv
          injection hv with hv1 hv2 hv3
          subst hv1; subst hv3; clear hv2 hrd0
          obtain ⟨G, hown, _, hup, _⟩ := H4.out.opens 0 rfl
          have HOwn : Hid (Own G wr 3 1 (.slice ao2 k2 co2) k2 (ints so)) := Lib.hid hown
          have HUP := Lib.hid hup
          have hkj : (ki : Int) < j := by omega
          have hk2c : (k2 + 1) * 8 ≤ 140737488355328 := by
            have h1 : so.length = k2 := hk2
            simp only at hob2
            omega
          clear hown hup hit hki hlv HIT
          by_cases hat : at' < pn
          · obtain ⟨x, hx⟩ : ∃ x, picks[at']? = some x := ⟨_, List.getElem?_eq_getElem (by rw [HPN.out]; exact hat)⟩
            obtain ⟨bp, op, ⟨c', hv⟩, _, hcx⟩ := (HP.out.keep (Keep.ofSt H4.out) (fun _ _ f => f)).int hx
            injection hv with hv1 hv2 hv3
            subst hv1; subst hv3; clear hv2
            have hsl : sl.length = j := HJ.out
            obtain ⟨tb1, tb2⟩ := tmod_lt x j hj0
            obtain ⟨t1, ht1⟩ : ∃ t1, x.tmod (j : Int) = t1 := ⟨_, rfl⟩
            rw [ht1] at tb1 tb2
            have hdx : picks.drop at' = x :: picks.drop (at' + 1) := by
              obtain ⟨h1, h2⟩ := List.getElem?_eq_some_iff.1 hx
              rw [List.drop_eq_getElem_cons h1, h2]
            have hkk : (t1 + (j : Int)) % (j : Int) = (ki : Int) := by
              have h1 := HKI.out
              rw [hdx] at h1
              unfold pkI at h1
              simp only [hsl, ht1] at h1
              have h2 := Int.emod_nonneg (t1 + (j : Int)) (show (j : Int) ≠ 0 by omega)
              omega
            have hkt : (t1 + (j : Int)).tmod (j : Int) = (ki : Int) := by rw [Int.tmod_eq_emod_of_nonneg (by omega)]; exact hkk
            have hatI : (at' : Int) < pn := by omega
            have hatd : decide ((at' : Int) < pn) = true := decide_eq_true hatI
            have hjne : ((j : Int) == 0) = false := by simp; omega
            obtain ⟨k1, hk1⟩ : ∃ k1, k1 = ki + 1 := ⟨_, rfl⟩
            have hw1 : IntKind.i64.wrap ((ki : Int) + 1) = (k1 : Int) := by rw [show ((ki : Int) + 1) = (k1 : Int) by omega]; exact IntWalk.i64_in _ (by omega)
            have HK1 := Lib.hid hk1
            have hk1j : k1 ≤ j := by omega
            clear hsl HKI hx hdx hk1
            go_upto_region 12 with (fail)
            go_wp2_with (at_builtin; refine wpList_app (P := Try.prog) slInt rfl _ _ rfl (S := G) (S2 := fun z => z = wr.heap.size) (n := k2) (xs := ints so) (m := 1) (news := ints [lv]) rfl rfl ?_ ?_ ?_ ?_ ?_ ?_ ?_)
            · exact HOwn.out.keep (T := Nope) ((Keep.refl wr Nope).alloc _) (fun _ _ f => f)
            · exact rd_one wr lv
            · rfl
            · exact ints_one _
            · unfold maxLen; omega
            rintro a' k' c' w5 happ
            obtain ⟨z1, z2⟩ := app_up (wr := wr) ((Keep.refl wr Nope).alloc _) happ
            obtain rfl := happ.num
            have h5 := HUP.out w5 _ z1 z2
            rw [← ints_app] at h5
            have H5 := Lib.hid (show St w w5 [slA 3 1 (.slice a' (k2 + 1) c') (k2 + 1) (ints (so ++ [lv])), slA 3 1 (.slice (some ⟨bl, ol, none⟩) j cl2) j (ints sl)] from h5)
            obtain ⟨GL, hoL, hrL, _⟩ := H5.out.rd 1 rfl
            have hcapL := hoL.cap.1
            have hrL := (show Rd GL w5 (.slice (some ⟨bl, ol, none⟩) j cl2) j (ints sl) from hrL)
            have hrunh := (show ∀ w, (Instr.sliceAt 23 (.slice (some ⟨bl, ol, none⟩) j cl2) none (some (.int .i64 (ki : Int))) none).run Try.prog w = .ok (.slice (some ⟨bl, ol, none⟩) ki cl2) w from slice_h_any slInt (some ⟨bl, ol, none⟩) j cl2 ki .i64 (by omega))
            obtain ⟨aq, nq, cq, hcut, hrunl0⟩ := slice_l_any slInt (some ⟨bl, ol, none⟩) j cl2 k1 .i64 (by omega) hcapL
            have hrunl := (show ∀ w, (Instr.sliceAt 23 (.slice (some ⟨bl, ol, none⟩) j cl2) (some (.int .i64 (k1 : Int))) none none).run Try.prog w = .ok (.slice aq nq cq) w from hrunl0)
            have hnq : nq + k1 = j := hcut.num
            have hsl : sl.length = j := HJ.out
            have HRQ := Lib.hid (show Rd GL w5 (.slice (some ⟨bl, ol, none⟩) ki cl2) ki (ints (sl.take ki)) from by have h := hrL.take 1 ki (by omega); rw [Nat.mul_one] at h; unfold ints at h ⊢; rw [List.map_take]; exact h)
            have HRL := Lib.hid (show Rd GL w5 (.slice aq nq cq) nq (ints (sl.drop k1)) from by have h := hcut.rd _ w5 (ints sl) (by rw [ints_len, hsl, Nat.mul_one]) hrL; rw [Nat.mul_one] at h; unfold ints at h ⊢; rw [List.map_drop]; exact h)
            have HTL := Lib.hid (show (ints (sl.take ki)).length = ki * 1 from by rw [ints_len, List.length_take]; omega)
            have HDL2 := Lib.hid (show (ints (sl.drop k1)).length = nq * 1 from by rw [ints_len, List.length_drop]; omega)
            have HNQ := Lib.hid hnq
            have HER := Lib.hid (show sl.eraseIdx ki = sl.take ki ++ sl.drop k1 from by rw [List.eraseIdx_eq_take_drop_succ]; rw [show ki + 1 = k1 from HK1.out.symm])
            have hnb : ki + nq ≤ 10000000 := by omega
            have HLE := Lib.hid (show (sl.eraseIdx ki).length = j - 1 by rw [List.length_eraseIdx, if_pos (by omega)]; omega)
            have HSO := Lib.hid (show (so ++ [lv]).length = k2 + 1 by have h1 : so.length = k2 := HK2.out; rw [List.length_append, h1]; rfl)
            clear hcut hrunl0 hoL hrL hcapL hnq hsl happ z1 z2 h5 hcl
            go_upto_region 13 with (fail)
            refine wp_region_M (r := 10) (S := fun _ => True) (by kernel_rfl) ?_ (fun hHeld => ?_)
            · (try dsimp only); first | done | trivial
            (refine wpAnyM_takeP (i := 1) (oi := ?_) (v := ?_) ?_ ?_ ?_ ?_ ?_ ?_ ?_ ?_ ?_; rotate_left 2; (· simp only [List.getElem?_toArray, List.getElem?_cons_succ, List.getElem?_cons_zero]; exact rfl); (· kernel_rfl); (· kernel_rfl); (· kernel_rfl); (· kernel_rfl); (· first | exact fun _ _ _ h => h | exact fun _ _ _ h => (HPan.out _ _ _ h).elim); (· (refine Or.inl ⟨by rfl, ?_⟩; (intro w hSw; (try dsimp only at hSw); go_simp) <;> with_reducible rfl)); (· exact fun _ => hHeld); simp only [Act.put, List.setIfInBounds_toArray, List.set_cons_zero, List.set_cons_succ])
            (refine wpAnyM_takeP (i := 2) (oi := ?_) (v := ?_) ?_ ?_ ?_ ?_ ?_ ?_ ?_ ?_ ?_; rotate_left 2; (· simp only [List.getElem?_toArray, List.getElem?_cons_succ, List.getElem?_cons_zero]; exact rfl); (· kernel_rfl); (· kernel_rfl); (· kernel_rfl); (· kernel_rfl); (· first | exact fun _ _ _ h => h | exact fun _ _ _ h => (HPan.out _ _ _ h).elim); (· (refine Or.inl ⟨by rfl, ?_⟩; (intro w hSw; (try dsimp only at hSw); go_simp) <;> with_reducible rfl)); (· exact fun _ => hHeld); simp only [Act.put, List.setIfInBounds_toArray, List.set_cons_zero, List.set_cons_succ])
            (refine wpAnyM_takeP (i := 3) (oi := ?_) (v := ?_) ?_ ?_ ?_ ?_ ?_ ?_ ?_ ?_ ?_; rotate_left 2; (· simp only [List.getElem?_toArray, List.getElem?_cons_succ, List.getElem?_cons_zero]; exact rfl); (· kernel_rfl); (· kernel_rfl); (· kernel_rfl); (· kernel_rfl); (· first | exact fun _ _ _ h => h | exact fun _ _ _ h => (HPan.out _ _ _ h).elim); (· (refine Or.inl ⟨by rfl, ?_⟩; (intro w hSw; (try dsimp only at hSw); go_simp) <;> with_reducible rfl)); (· exact fun _ => hHeld); simp only [Act.put, List.setIfInBounds_toArray, List.set_cons_zero, List.set_cons_succ])
            (refine wpAnyM_takeP (i := 5) (oi := ?_) (v := ?_) ?_ ?_ ?_ ?_ ?_ ?_ ?_ ?_ ?_; rotate_left 2; (· simp only [List.getElem?_toArray, List.getElem?_cons_succ, List.getElem?_cons_zero]; exact rfl); (· kernel_rfl); (· kernel_rfl); (· kernel_rfl); (· kernel_rfl); (· first | exact fun _ _ _ h => h | exact fun _ _ _ h => (HPan.out _ _ _ h).elim); (· (refine Or.inl ⟨by rfl, ?_⟩; (intro w hSw; (try dsimp only at hSw); go_simp) <;> with_reducible rfl)); (· exact fun _ => hHeld); simp only [Act.put, List.setIfInBounds_toArray, List.set_cons_zero, List.set_cons_succ])
            (refine wpAnyM_takeP (i := 6) (oi := ?_) (v := ?_) ?_ ?_ ?_ ?_ ?_ ?_ ?_ ?_ ?_; rotate_left 2; (· simp only [List.getElem?_toArray, List.getElem?_cons_succ, List.getElem?_cons_zero]; exact rfl); (· kernel_rfl); (· kernel_rfl); (· kernel_rfl); (· kernel_rfl); (· first | exact fun _ _ _ h => h | exact fun _ _ _ h => (HPan.out _ _ _ h).elim); (· (refine Or.inl ⟨by rfl, ?_⟩; (intro w hSw; (try dsimp only at hSw); go_simp) <;> with_reducible rfl)); (· exact fun _ => hHeld); simp only [Act.put, List.setIfInBounds_toArray, List.set_cons_zero, List.set_cons_succ])
            (refine wpAnyM_takeP (i := 7) (oi := ?_) (v := ?_) ?_ ?_ ?_ ?_ ?_ ?_ ?_ ?_ ?_; rotate_left 2; (· simp only [List.getElem?_toArray, List.getElem?_cons_succ, List.getElem?_cons_zero]; exact rfl); (· kernel_rfl); (· kernel_rfl); (· kernel_rfl); (· kernel_rfl); (· first | exact fun _ _ _ h => h | exact fun _ _ _ h => (HPan.out _ _ _ h).elim); (· (refine Or.inl ⟨by rfl, ?_⟩; (intro w hSw; (try dsimp only at hSw); go_simp) <;> with_reducible rfl)); (· exact fun _ => hHeld); simp only [Act.put, List.setIfInBounds_toArray, List.set_cons_zero, List.set_cons_succ])
            (refine wpAnyM_takeP (i := 8) (oi := ?_) (v := ?_) ?_ ?_ ?_ ?_ ?_ ?_ ?_ ?_ ?_; rotate_left 2; (· simp only [List.getElem?_toArray, List.getElem?_cons_succ, List.getElem?_cons_zero]; exact rfl); (· kernel_rfl); (· kernel_rfl); (· kernel_rfl); (· kernel_rfl); (· first | exact fun _ _ _ h => h | exact fun _ _ _ h => (HPan.out _ _ _ h).elim); (· (refine Or.inl ⟨by rfl, ?_⟩; (intro w hSw; (try dsimp only at hSw); go_simp) <;> with_reducible rfl)); (· exact fun _ => hHeld); simp only [Act.put, List.setIfInBounds_toArray, List.set_cons_zero, List.set_cons_succ])
            refine wpAnyM_ready (rs := [0]) (by kernel_rfl) (by simp) ?_
            refine AllReadyM.cons (o := ?_) ?_ ?_ ?_
            rotate_left 1
            · simp only [List.getElem?_toArray, List.getElem?_cons_succ, List.getElem?_cons_zero]; exact rfl
            rotate_left 1
            · exact AllReadyM.nil
            intro K hK
            go_simp
            refine hK.out _ _ ?_ (fun hHeld => ?_)
            · (try dsimp only); first | done | trivial
            clear hK K
            refine wpAnyM_ready (rs := [4]) (by kernel_rfl) (by simp) ?_
            refine AllReadyM.cons (o := ?_) ?_ ?_ ?_
            rotate_left 1
            · simp only [List.getElem?_toArray, List.getElem?_cons_succ, List.getElem?_cons_zero]; exact rfl
            rotate_left 1
            · exact AllReadyM.nil
            intro K hK
            rw [if_pos (by rfl)]
            (refine step_app (P := Try.prog) slInt _ _ rfl (S := fun z => z = w5.heap.size) (S2 := GL) (n := 0) (xs := []) (m := ki) (news := ints (sl.take ki)) rfl rfl ?_ (HRQ.out.keep (T := Nope) (by (repeat (first | exact Keep.refl _ _ | apply Keep.drew | apply Keep.drewN | apply Keep.alloc))) (fun _ _ f => f)) HTL.out (ints_one _) (by omega) (by unfold maxLen; omega) ?_; (first | exact Own.lit _ _ _ 0 #[] (Nat.zero_le _) rfl rfl | exact (Own.lit (S := fun z => z = w5.heap.size) w5 3 1 0 #[] (Nat.zero_le _) rfl rfl).drew); rintro a6 n6 c6 w6 happ; have q12 := pk_app5 (w6 := w5) (by (repeat (first | exact Keep.refl _ _ | apply Keep.drew | apply Keep.drewN | apply Keep.alloc))) (Nat.le_refl _) happ; have e5 : n6 = ki := (by have := happ.num; omega); subst n6; have X1 := Lib.hid q12.1; have K1 := Lib.hid q12.2; clear happ q12)
            refine hK.out _ _ ?_ (fun hHeld => ?_)
            · (try dsimp only); first | done | trivial
            clear hK K
            (try simp only [List.getElem_toArray, List.getElem_cons_succ, List.getElem_cons_zero, Act.put, List.setIfInBounds_toArray, List.set_cons_zero, List.set_cons_succ])
            refine wpAnyM_ready (rs := [9]) (by kernel_rfl) (by simp) ?_
            refine AllReadyM.cons (o := ?_) ?_ ?_ ?_
            rotate_left 1
            · simp only [List.getElem?_toArray, List.getElem?_cons_succ, List.getElem?_cons_zero]; exact rfl
            rotate_left 1
            · exact AllReadyM.nil
            intro K hK
            rw [if_pos (by rfl)]
            (refine step_app (P := Try.prog) slInt _ _ rfl (S := fun z => w5.heap.size ≤ z) (S2 := GL) (n := ki) (xs := ints (sl.take ki)) (m := nq) (news := ints (sl.drop k1)) rfl rfl X1.out (HRL.out.keep K1.out (fun _ _ f => f)) HDL2.out (ints_one _) (by omega) (by unfold maxLen; omega) ?_; rintro a8 n8 c8 w8 happ; have q12 := pk_app (w6 := w5) K1.out happ; have e8 : n8 = j - 1 := (by have := happ.num; have := HNQ.out; have := HK1.out; omega); subst n8; have X2 := Lib.hid q12.1; have K2 := Lib.hid q12.2; clear happ q12)
            refine hK.out _ _ ?_ (fun hHeld => ?_)
            · (try dsimp only); first | done | trivial
            clear hK K
            (try simp only [List.getElem_toArray, List.getElem_cons_succ, List.getElem_cons_zero, Act.put, List.setIfInBounds_toArray, List.set_cons_zero, List.set_cons_succ])
            refine wpAnyM_ready (rs := [10]) (by kernel_rfl) (by simp) ?_
            refine AllReadyM.free (o := ?_) ?_ (by kernel_rfl) ?_ ?_
            rotate_left 1
            · simp only [List.getElem?_toArray, List.getElem?_cons_succ, List.getElem?_cons_zero]; exact rfl
            rotate_left 1
            · exact AllReadyM.nil
            intro K hK
            go_simp
            refine hK.out _ _ ?_
            clear hK K
            refine wpAnyM_done (by kernel_rfl) ?_ _
            have H6 := Lib.hid (show St w w8 [slA 3 1 (.slice a' (k2 + 1) c') (k2 + 1) (ints (so ++ [lv])), slA 3 1 (.slice a8 (j - 1) c8) (j - 1) (ints (sl.eraseIdx ki))] from by
              have h := (H5.out.take 1).add K2.out (A := slA 3 1 (.slice a8 (j - 1) c8) (j - 1) (ints (sl.eraseIdx ki))) (by rw [HER.out, ints_app]; exact X2.out.tight.mono (fun z hz => ⟨hz.1, hz.2⟩))
              exact h)
            clear X1 X2 K1 K2 H5 HRQ HRL hrunh hrunl
            go_wp2_with fail
            go_roundg (j - 1)
            case measure => omega
            case rel => exact ⟨j - 1, k2 + 1, at' + 1, a', a8, c', c8, ⟨so ++ [lv], sl.eraseIdx ki, (picks.drop at').tail⟩, rfl, HLE.out, rfl, by go_num, HDT.out, HSO.out, rfl, HIT2.out, by simp only [HSO.out]; have h1 : so.length = k2 := HK2.out; (try simp only at hob2); omega, by omega, by omega, H6.out⟩
          · have hdx : picks.drop at' = [] := List.drop_eq_nil_of_le (by rw [HPN.out]; omega)
            have hk0 : ki = 0 := by
              have h1 := HKI.out
              rw [hdx] at h1
              exact h1.symm
            subst hk0
            have hatd : decide ((at' : Int) < pn) = false := decide_eq_false (by omega)
            have hatd2 : decide (at' < pn) = false := decide_eq_false hat
            simp only [Nat.add_zero] at hcl
            have hw1 : IntKind.i64.wrap 1 = 1 := by decide
            clear HKI hdx
            go_upto_region 12 with (fail)
            go_wp2_with (at_builtin; refine wpList_app (P := Try.prog) slInt rfl _ _ rfl (S := G) (S2 := fun z => z = wr.heap.size) (n := k2) (xs := ints so) (m := 1) (news := ints [lv]) rfl rfl ?_ ?_ ?_ ?_ ?_ ?_ ?_)
            · exact HOwn.out.keep (T := Nope) ((Keep.refl wr Nope).alloc _) (fun _ _ f => f)
            · exact rd_one wr lv
            · rfl
            · exact ints_one _
            · unfold maxLen; omega
            rintro a' k' c' w5 happ
            obtain ⟨z1, z2⟩ := app_up (wr := wr) ((Keep.refl wr Nope).alloc _) happ
            obtain rfl := happ.num
            have h5 := HUP.out w5 _ z1 z2
            rw [← ints_app] at h5
            have H5 := Lib.hid (show St w w5 [slA 3 1 (.slice a' (k2 + 1) c') (k2 + 1) (ints (so ++ [lv])), slA 3 1 (.slice (some ⟨bl, ol, none⟩) j cl2) j (ints sl)] from h5)
            obtain ⟨GL, hoL, hrL, _⟩ := H5.out.rd 1 rfl
            have hcapL := hoL.cap.1
            have hrL := (show Rd GL w5 (.slice (some ⟨bl, ol, none⟩) j cl2) j (ints sl) from hrL)
            have hrunh := (show ∀ w, (Instr.sliceAt 23 (.slice (some ⟨bl, ol, none⟩) j cl2) none (some (.int .i64 0)) none).run Try.prog w = .ok (.slice (some ⟨bl, ol, none⟩) 0 cl2) w from slice_h_any slInt (some ⟨bl, ol, none⟩) j cl2 0 .i64 (by omega))
            obtain ⟨aq, nq, cq, hcut, hrunl0⟩ := slice_l_any slInt (some ⟨bl, ol, none⟩) j cl2 1 .i64 (by omega) hcapL
            have hrunl := (show ∀ w, (Instr.sliceAt 23 (.slice (some ⟨bl, ol, none⟩) j cl2) (some (.int .i64 1)) none none).run Try.prog w = .ok (.slice aq nq cq) w from hrunl0)
            have hnq : nq + 1 = j := hcut.num
            have hsl : sl.length = j := HJ.out
            have HRQ := Lib.hid (show Rd GL w5 (.slice (some ⟨bl, ol, none⟩) 0 cl2) 0 (ints (sl.take 0)) from by have h := hrL.take 1 0 (by omega); rw [Nat.mul_one] at h; unfold ints at h ⊢; rw [List.map_take]; exact h)
            have HRL := Lib.hid (show Rd GL w5 (.slice aq nq cq) nq (ints (sl.drop 1)) from by have h := hcut.rd _ w5 (ints sl) (by rw [ints_len, hsl, Nat.mul_one]) hrL; rw [Nat.mul_one] at h; unfold ints at h ⊢; rw [List.map_drop]; exact h)
            have HTL := Lib.hid (show (ints (sl.take 0)).length = 0 * 1 from by rw [ints_len, List.length_take]; omega)
            have HDL2 := Lib.hid (show (ints (sl.drop 1)).length = nq * 1 from by rw [ints_len, List.length_drop]; omega)
            have HNQ := Lib.hid hnq
            have HER := Lib.hid (show sl.eraseIdx 0 = sl.take 0 ++ sl.drop 1 from by rw [List.eraseIdx_eq_take_drop_succ])
            have hnb : 0 + nq ≤ 10000000 := by omega
            have HLE := Lib.hid (show (sl.eraseIdx 0).length = j - 1 by rw [List.length_eraseIdx, if_pos (by omega)]; omega)
            have HSO := Lib.hid (show (so ++ [lv]).length = k2 + 1 by have h1 : so.length = k2 := HK2.out; rw [List.length_append, h1]; rfl)
            clear hcut hrunl0 hoL hrL hcapL hnq hsl happ z1 z2 h5 hcl
            go_upto_region 13 with (fail)
            refine wp_region_M (r := 10) (S := fun _ => True) (by kernel_rfl) ?_ (fun hHeld => ?_)
            · (try dsimp only); first | done | trivial
            (refine wpAnyM_takeP (i := 1) (oi := ?_) (v := ?_) ?_ ?_ ?_ ?_ ?_ ?_ ?_ ?_ ?_; rotate_left 2; (· simp only [List.getElem?_toArray, List.getElem?_cons_succ, List.getElem?_cons_zero]; exact rfl); (· kernel_rfl); (· kernel_rfl); (· kernel_rfl); (· kernel_rfl); (· first | exact fun _ _ _ h => h | exact fun _ _ _ h => (HPan.out _ _ _ h).elim); (· (refine Or.inl ⟨by rfl, ?_⟩; (intro w hSw; (try dsimp only at hSw); go_simp) <;> with_reducible rfl)); (· exact fun _ => hHeld); simp only [Act.put, List.setIfInBounds_toArray, List.set_cons_zero, List.set_cons_succ])
            (refine wpAnyM_takeP (i := 2) (oi := ?_) (v := ?_) ?_ ?_ ?_ ?_ ?_ ?_ ?_ ?_ ?_; rotate_left 2; (· simp only [List.getElem?_toArray, List.getElem?_cons_succ, List.getElem?_cons_zero]; exact rfl); (· kernel_rfl); (· kernel_rfl); (· kernel_rfl); (· kernel_rfl); (· first | exact fun _ _ _ h => h | exact fun _ _ _ h => (HPan.out _ _ _ h).elim); (· (refine Or.inl ⟨by rfl, ?_⟩; (intro w hSw; (try dsimp only at hSw); go_simp) <;> with_reducible rfl)); (· exact fun _ => hHeld); simp only [Act.put, List.setIfInBounds_toArray, List.set_cons_zero, List.set_cons_succ])
            (refine wpAnyM_takeP (i := 3) (oi := ?_) (v := ?_) ?_ ?_ ?_ ?_ ?_ ?_ ?_ ?_ ?_; rotate_left 2; (· simp only [List.getElem?_toArray, List.getElem?_cons_succ, List.getElem?_cons_zero]; exact rfl); (· kernel_rfl); (· kernel_rfl); (· kernel_rfl); (· kernel_rfl); (· first | exact fun _ _ _ h => h | exact fun _ _ _ h => (HPan.out _ _ _ h).elim); (· (refine Or.inl ⟨by rfl, ?_⟩; (intro w hSw; (try dsimp only at hSw); go_simp) <;> with_reducible rfl)); (· exact fun _ => hHeld); simp only [Act.put, List.setIfInBounds_toArray, List.set_cons_zero, List.set_cons_succ])
            (refine wpAnyM_takeP (i := 5) (oi := ?_) (v := ?_) ?_ ?_ ?_ ?_ ?_ ?_ ?_ ?_ ?_; rotate_left 2; (· simp only [List.getElem?_toArray, List.getElem?_cons_succ, List.getElem?_cons_zero]; exact rfl); (· kernel_rfl); (· kernel_rfl); (· kernel_rfl); (· kernel_rfl); (· first | exact fun _ _ _ h => h | exact fun _ _ _ h => (HPan.out _ _ _ h).elim); (· (refine Or.inl ⟨by rfl, ?_⟩; (intro w hSw; (try dsimp only at hSw); go_simp) <;> with_reducible rfl)); (· exact fun _ => hHeld); simp only [Act.put, List.setIfInBounds_toArray, List.set_cons_zero, List.set_cons_succ])
            (refine wpAnyM_takeP (i := 6) (oi := ?_) (v := ?_) ?_ ?_ ?_ ?_ ?_ ?_ ?_ ?_ ?_; rotate_left 2; (· simp only [List.getElem?_toArray, List.getElem?_cons_succ, List.getElem?_cons_zero]; exact rfl); (· kernel_rfl); (· kernel_rfl); (· kernel_rfl); (· kernel_rfl); (· first | exact fun _ _ _ h => h | exact fun _ _ _ h => (HPan.out _ _ _ h).elim); (· (refine Or.inl ⟨by rfl, ?_⟩; (intro w hSw; (try dsimp only at hSw); go_simp) <;> with_reducible rfl)); (· exact fun _ => hHeld); simp only [Act.put, List.setIfInBounds_toArray, List.set_cons_zero, List.set_cons_succ])
            (refine wpAnyM_takeP (i := 7) (oi := ?_) (v := ?_) ?_ ?_ ?_ ?_ ?_ ?_ ?_ ?_ ?_; rotate_left 2; (· simp only [List.getElem?_toArray, List.getElem?_cons_succ, List.getElem?_cons_zero]; exact rfl); (· kernel_rfl); (· kernel_rfl); (· kernel_rfl); (· kernel_rfl); (· first | exact fun _ _ _ h => h | exact fun _ _ _ h => (HPan.out _ _ _ h).elim); (· (refine Or.inl ⟨by rfl, ?_⟩; (intro w hSw; (try dsimp only at hSw); go_simp) <;> with_reducible rfl)); (· exact fun _ => hHeld); simp only [Act.put, List.setIfInBounds_toArray, List.set_cons_zero, List.set_cons_succ])
            (refine wpAnyM_takeP (i := 8) (oi := ?_) (v := ?_) ?_ ?_ ?_ ?_ ?_ ?_ ?_ ?_ ?_; rotate_left 2; (· simp only [List.getElem?_toArray, List.getElem?_cons_succ, List.getElem?_cons_zero]; exact rfl); (· kernel_rfl); (· kernel_rfl); (· kernel_rfl); (· kernel_rfl); (· first | exact fun _ _ _ h => h | exact fun _ _ _ h => (HPan.out _ _ _ h).elim); (· (refine Or.inl ⟨by rfl, ?_⟩; (intro w hSw; (try dsimp only at hSw); go_simp) <;> with_reducible rfl)); (· exact fun _ => hHeld); simp only [Act.put, List.setIfInBounds_toArray, List.set_cons_zero, List.set_cons_succ])
            refine wpAnyM_ready (rs := [0]) (by kernel_rfl) (by simp) ?_
            refine AllReadyM.cons (o := ?_) ?_ ?_ ?_
            rotate_left 1
            · simp only [List.getElem?_toArray, List.getElem?_cons_succ, List.getElem?_cons_zero]; exact rfl
            rotate_left 1
            · exact AllReadyM.nil
            intro K hK
            go_simp
            refine hK.out _ _ ?_ (fun hHeld => ?_)
            · (try dsimp only); first | done | trivial
            clear hK K
            refine wpAnyM_ready (rs := [4]) (by kernel_rfl) (by simp) ?_
            refine AllReadyM.cons (o := ?_) ?_ ?_ ?_
            rotate_left 1
            · simp only [List.getElem?_toArray, List.getElem?_cons_succ, List.getElem?_cons_zero]; exact rfl
            rotate_left 1
            · exact AllReadyM.nil
            intro K hK
            rw [if_pos (by rfl)]
            (refine step_app (P := Try.prog) slInt _ _ rfl (S := fun z => z = w5.heap.size) (S2 := GL) (n := 0) (xs := []) (m := 0) (news := ints (sl.take 0)) rfl rfl ?_ (HRQ.out.keep (T := Nope) (by (repeat (first | exact Keep.refl _ _ | apply Keep.drew | apply Keep.drewN | apply Keep.alloc))) (fun _ _ f => f)) HTL.out (ints_one _) (by omega) (by unfold maxLen; omega) ?_; (first | exact Own.lit _ _ _ 0 #[] (Nat.zero_le _) rfl rfl | exact (Own.lit (S := fun z => z = w5.heap.size) w5 3 1 0 #[] (Nat.zero_le _) rfl rfl).drew); rintro a6 n6 c6 w6 happ; have q12 := pk_app5 (w6 := w5) (by (repeat (first | exact Keep.refl _ _ | apply Keep.drew | apply Keep.drewN | apply Keep.alloc))) (Nat.le_refl _) happ; have e5 : n6 = 0 := (by have := happ.num; omega); subst n6; have X1 := Lib.hid q12.1; have K1 := Lib.hid q12.2; clear happ q12)
            refine hK.out _ _ ?_ (fun hHeld => ?_)
            · (try dsimp only); first | done | trivial
            clear hK K
            (try simp only [List.getElem_toArray, List.getElem_cons_succ, List.getElem_cons_zero, Act.put, List.setIfInBounds_toArray, List.set_cons_zero, List.set_cons_succ])
            refine wpAnyM_ready (rs := [9]) (by kernel_rfl) (by simp) ?_
            refine AllReadyM.cons (o := ?_) ?_ ?_ ?_
            rotate_left 1
            · simp only [List.getElem?_toArray, List.getElem?_cons_succ, List.getElem?_cons_zero]; exact rfl
            rotate_left 1
            · exact AllReadyM.nil
            intro K hK
            rw [if_pos (by rfl)]
            (refine step_app (P := Try.prog) slInt _ _ rfl (S := fun z => w5.heap.size ≤ z) (S2 := GL) (n := 0) (xs := ints (sl.take 0)) (m := nq) (news := ints (sl.drop 1)) rfl rfl X1.out (HRL.out.keep K1.out (fun _ _ f => f)) HDL2.out (ints_one _) (by omega) (by unfold maxLen; omega) ?_; rintro a8 n8 c8 w8 happ; have q12 := pk_app (w6 := w5) K1.out happ; have e8 : n8 = j - 1 := (by have := happ.num; have := HNQ.out; omega); subst n8; have X2 := Lib.hid q12.1; have K2 := Lib.hid q12.2; clear happ q12)
            refine hK.out _ _ ?_ (fun hHeld => ?_)
            · (try dsimp only); first | done | trivial
            clear hK K
            (try simp only [List.getElem_toArray, List.getElem_cons_succ, List.getElem_cons_zero, Act.put, List.setIfInBounds_toArray, List.set_cons_zero, List.set_cons_succ])
            refine wpAnyM_ready (rs := [10]) (by kernel_rfl) (by simp) ?_
            refine AllReadyM.free (o := ?_) ?_ (by kernel_rfl) ?_ ?_
            rotate_left 1
            · simp only [List.getElem?_toArray, List.getElem?_cons_succ, List.getElem?_cons_zero]; exact rfl
            rotate_left 1
            · exact AllReadyM.nil
            intro K hK
            go_simp
            refine hK.out _ _ ?_
            clear hK K
            refine wpAnyM_done (by kernel_rfl) ?_ _
            have H6 := Lib.hid (show St w w8 [slA 3 1 (.slice a' (k2 + 1) c') (k2 + 1) (ints (so ++ [lv])), slA 3 1 (.slice a8 (j - 1) c8) (j - 1) (ints (sl.eraseIdx 0))] from by
              have h := (H5.out.take 1).add K2.out (A := slA 3 1 (.slice a8 (j - 1) c8) (j - 1) (ints (sl.eraseIdx 0))) (by rw [HER.out, ints_app]; exact X2.out.tight.mono (fun z hz => ⟨hz.1, hz.2⟩))
              exact h)
            clear X1 X2 K1 K2 H5 HRQ HRL hrunh hrunl
            go_wp2_with fail
            go_roundg (j - 1)
            case measure => omega
            case rel => exact ⟨j - 1, k2 + 1, at' + 1, a', a8, c', c8, ⟨so ++ [lv], sl.eraseIdx 0, (picks.drop at').tail⟩, rfl, HLE.out, rfl, by go_num, HDT.out, HSO.out, rfl, HIT2.out, by simp only [HSO.out]; have h1 : so.length = k2 := HK2.out; (try simp only at hob2); omega, by omega, by omega, H6.out⟩
        · obtain rfl : j = 0 := by omega
          have hjd : decide (((0 : Nat) : Int) > 0) = false := by decide
          have hjd2 : decide ((0 : Int) < ((0 : Nat) : Int)) = false := by decide
          have hit := HIT.out
          rw [iterP] at hit
          subst hit
          have HSP2 := Lib.hid (show pkAll ((rs.drop (t + 1)).map RowV.l) (picks.drop at') s.out = F from by rw [← HSP.out]; exact HPK2.out)
          go_wp2_with fail
          go_roundg (rs.length - (t + 1))
          case measure => have := HT.out; omega
          case rel => exact ⟨t + 1, k2, at', ao2, co2, s.out, by omega, by go_num, rfl, HK2.out, rfl, HSP2.out, by omega, by omega, H4.out.take 1⟩
    · obtain rfl : t = rs.length := by omega
      have htd : decide (((rs.length : Nat) : Int) < rs.length) = false := decide_eq_false (by omega)
      have hF := HPK.out
      rw [List.drop_length, List.map_nil, pkAll] at hF
      have HO := Lib.hid hF
      clear hF
      go_wp2_with fail
      go_ret
      obtain ⟨G, hG, hG2⟩ := H3.out.get 0 rfl
      rw [HO.out] at hG
      exact ⟨_, _, _, rfl, Own.mono hG hG2, Keep.ofSt H3.out⟩
end Go.Proofs.Ytbigknmeooaidaa
