/-
  DepsLeast: no other row that keeps what waits for what is less than the order, place by place.
-/
import Derived.Test.YtfjamllkjofdbaaForward
namespace Go.Proofs.Ytfjamllkjofdbaa
open Go Go.RowKit
set_option linter.unusedVariables false
set_option linter.unusedSimpArgs false

theorem ints_take (l : List Int) (k : Nat) : (ints l).take k = ints (l.take k) := by simp [ints, List.map_take]
theorem ints_drop (l : List Int) (k : Nat) : (ints l).drop k = ints (l.drop k) := by simp [ints, List.map_drop]
theorem ints_set (l : List Int) (k : Nat) (x : Int) : (ints l).set k (.int .i64 x) = ints (l.set k x) := by simp [ints, List.map_set]
/-- The row with one put ahead of its place. -/
theorem moved_form (O : List Nat) (i k x : Nat) (hi : i < O.length) (B T : List Int) :
    (((nats O).take (i + 1) ++ B ++ T).set i (x : Int)) = (O.take i).map Int.ofNat ++ (x : Int) :: (B ++ T) := by
  have h1 : (nats O).take (i + 1) = (O.take i).map Int.ofNat ++ [((O[i]'hi : Nat) : Int)] := by
    unfold nats
    rw [← List.map_take, List.take_succ_eq_append_getElem hi, List.map_append]
    rfl
  rw [h1]
  have hl : ((O.take i).map Int.ofNat).length = i := by simp; omega
  rw [List.append_assoc, List.append_assoc, List.set_append_right _ _ (by omega), hl, Nat.sub_self]
  rfl

theorem RdSys.below {S : Nat → Prop} {w w' : World} {v : Value} {l : List SysV} (h : RdSys S w v l) (hk : Below w.heap.size w w') (hS : ∀ i, S i → i < w.heap.size) : RdSys S w' v l :=
  ⟨h.rd.below hk hS, fun x hx => ⟨(h.af x hx).1, (h.af x hx).2.below hk hS⟩⟩
theorem least_src {G : Nat → Prop} {w3 w5 : World} {bo oo n c : Nat} {O : List Nat} {i m : Nat} (h : Rd G w3 (.slice (some ⟨bo, oo, none⟩) n c) n (ints (nats O))) (hG : ∀ z, G z → z < w3.heap.size) (hb : Below w3.heap.size w3 w5) :
    ∀ j u, (ints (((nats O).drop i).take m))[j]? = some u → w5.drew.cell? ⟨bo, oo + i + j, none⟩ = some u := by
  intro j u hu
  obtain ⟨a, c', he, _, _, _, h4⟩ := h.below hb hG
  injection he with e1 e2 e3
  subst e1
  have hu' : (ints (nats O))[i + j]? = some u := by
    rw [← ints_take, ← ints_drop, List.getElem?_take] at hu
    split at hu
    · rwa [List.getElem?_drop] at hu
    · cases hu
  obtain ⟨b, o, e, _, hc⟩ := h4 (i + j) u hu'
  injection e with e
  injection e with e1 e2
  subst e1; subst e2
  rw [Nat.add_assoc]
  exact hc

theorem deps_keeps' (v vo : Value) (l : List SysV) (o : List Int) (m : Nat) (w : World) (S S2 : Nat → Prop) (h : RdSys S w v l) (hm : o.length = m) (ho : Rd S2 w vo m (ints o)) :
    Calls Try.prog 16 #[v, vo] w (Ret w (.bool (keepsB (aftsOf l) o))) := by
  subst hm
  exact deps_keeps v vo l o w S S2 h ho

def LoopL1 (w3 : World) (N : Nat) (g : Nat) (v8 : Value) (wr : World) : Prop := ∃ i : Nat, g + i = N ∧ v8 = .int .i64 i ∧ Below w3.heap.size w3 wr
def LoopL2 (w3 : World) (N i : Nat) (g : Nat) (v9 : Value) (wr : World) : Prop := ∃ k : Nat, g + k = N ∧ i < k ∧ v9 = .int .i64 k ∧ Below w3.heap.size w3 wr

set_option maxRecDepth 100000 in
set_option maxHeartbeats 4000000 in
theorem depsLeast_walk (v : Value) (rs : List RowV) (x : Int) (w : World) (S : Nat → Prop) (h : RdRows S w v rs) (hS : ∀ i, S i → i < w.heap.size) :
    Calls Try.prog 7 #[v, .int .i64 x] w (RetTrue w) := by
  have HF := Lib.hid (forward_any v rs x w S h hS); clear h hS
  go_enter Try.func7, Try.ntmps7
  go_wp2_with fail
  refine HF.out.mono ?_
  rintro e w2 ⟨a, c, l, S2, rfl, hsys, hS2, hb2, hchk, hl20⟩
  have HB2 := Lib.hid hb2; clear hb2
  have HSYS := Lib.hid hsys; clear hsys
  have HCHK := Lib.hid hchk; clear hchk
  go_wp2_with fail
  refine (deps_Order _ l _ S2 HSYS.out).mono ?_
  rintro e w3 ⟨ao, no, co, rfl, hk3, ho3⟩
  rw [HCHK.out, if_pos rfl] at ho3
  rw [HCHK.out]
  obtain ⟨z1, z2, z3⟩ := chk_zero HCHK.out
  rw [aftsOf_len] at z3
  have hno : no = l.length := by
    have h := ho3.len
    rw [ints_len, nats_len, z3] at h
    omega
  subst hno
  obtain ⟨O, hO⟩ : ∃ O, O = ord (aftsOf l) := ⟨_, rfl⟩
  rw [← hO] at ho3 z3
  have hS3 : ∀ z, S2 z → z < w3.heap.size := fun z hz => by have := (hS2 z hz).2; have := hk3.size; omega
  have HS3 := Lib.hid hS3; clear hS3 hS2
  have HO := Lib.hid hO; clear hO
  have HSYS3 := Lib.hid (HSYS.out.keep0 hk3)
  have HB3 := Lib.hid (HB2.out.trans (hk3.belowAt (B := w.heap.size) (fun i f => f.elim) HB2.out.size))
  have HOL := Lib.hid z3
  have HOW := Lib.hid ho3.rd
  obtain ⟨G3, hG3⟩ : ∃ G3 : Nat → Prop, Rd G3 w3 (.slice ao l.length co) l.length (ints (nats O)) ∧ ∀ z, G3 z → z < w3.heap.size := ⟨_, ho3.rd, fun z hz => hz.2⟩
  have HG3 := Lib.hid hG3
  clear hG3 HOW ho3 hk3 HB2 HSYS z1 z2 z3
  obtain ⟨N, hN⟩ : ∃ N, l.length = N := ⟨_, rfl⟩
  rw [hN] at HOL HG3 hl20 HSYS3 ⊢
  have HN := Lib.hid hN; clear hN
  go_wp2_with fail
  go_loopg [8] N (fun g v8 wr => LoopL1 w3 N g v8 wr)
  case atStart => exact ⟨0, rfl, rfl, Below.refl _ _⟩
  case round =>
    obtain ⟨i, hg, rfl, hb⟩ := hrel
    have hiN : i ≤ N := by omega
    have HG := Lib.hid hg; clear hg
    have HBr := Lib.hid hb; clear hb
    by_cases hlt : i < N
    · obtain ⟨wo, hwo⟩ : ∃ wo, wo = wr := ⟨_, rfl⟩
      subst hwo
      go_wp2_with fail
      go_loopg [9] (N - (i + 1)) (fun g v9 wr => LoopL2 w3 N i g v9 wr)
      case atStart => exact ⟨i + 1, by omega, by omega, by go_num, HBr.out⟩
      case round =>
        obtain ⟨k, hg, hik, rfl, hb⟩ := hrel
        have hkN : k ≤ N := by omega
        have HGK := Lib.hid hg; clear hg
        have HBk := Lib.hid hb; clear hb HBr
        by_cases hlk : k < N
        · have hOi : i < O.length := by rw [HOL.out]; exact hlt
          have hOk : k < O.length := by rw [HOL.out]; exact hlk
          obtain ⟨xi, hxi⟩ : ∃ xi, O[i]? = some xi := ⟨_, List.getElem?_eq_getElem hOi⟩
          obtain ⟨xk, hxk⟩ : ∃ xk, O[k]? = some xk := ⟨_, List.getElem?_eq_getElem hOk⟩
          have HRo := Lib.hid (HG3.out.1.below HBk.out HG3.out.2)
          obtain ⟨bo, oo, ⟨c', hv⟩, hGbo, hci⟩ := HRo.out.int (k := i) (x := (xi : Int)) (by simp [nats, hxi])
          injection hv with hv1 hv2 hv3
          subst hv1; subst hv3
          have hlbo : bo < w3.heap.size := HG3.out.2 bo hGbo
          have hszk := HBk.out.size
          go_wp2_with (at_builtin; refine wpList_app (P := Try.prog) slInt rfl _ _ rfl (S := fun z => wr.heap.size ≤ z) (S2 := G3) (n := 0) (xs := []) (m := N) (news := ints (nats O)) rfl rfl ?hown ?hx ?hl ?h1 ?h2 ?h3 ?_)
          case hown => exact Own.lit wr 3 1 0 #[] (Nat.zero_le _) rfl (Nat.le_refl _)
          case hx => exact HRo.out.alloc _
          case hl => rw [ints_len, nats_len]; have := HOL.out; omega
          case h1 => exact ints_one _
          case h2 => omega
          case h3 => unfold maxLen; omega
          rintro am nm cm w5 ⟨ho5, hnum, hk5, _⟩
          have hs5 := hk5.size
          simp only [World.size_alloc] at hs5
          have hnm : nm = N := by omega
          subst hnm
          rw [List.nil_append] at ho5
          have hst5 : St w3 w5 [slA 3 1 (.slice am nm cm) nm (ints (nats O))] :=
            (⟨HBk.out, ⟨fun _ _ => False, fun _ _ hi => by simp at hi, fun _ _ f => f.elim, fun _ _ _ f => f.elim⟩⟩ : St w3 wr []).add
              (((Keep.refl wr Nope).alloc _).trans hk5 (fun z hz => .inr hz)) (ho5.tight.mono (fun z hz => ⟨hz.1.elim id (fun h => by have := h.1; simp at this; omega), hz.2⟩))
          have HST5 := Lib.hid hst5
          clear hst5 ho5 hk5 hnum
          obtain ⟨gm, hgm, hltm, hfm, hcm, _⟩ := HST5.out.store 0 rfl (by omega)
          subst hgm
          have hmk := (hcm k (by omega)).trans (ints_get (l := nats O) (k := k) (x := (xk : Int)) (by simp [nats, hxk]))
          obtain ⟨Gm, hom, hGmb, hup, _⟩ := HST5.out.opens 0 rfl
          have hcap := Own.cap hom
          have HGM3 := Lib.hid (hGmb gm (hom.2 gm rfl)).1
          have HOm := Lib.hid hom
          have HUP := Lib.hid hup
          clear hom hGmb hup
          have hcap1 := hcap.1
          have hcap2 : cm ≤ 9223372036854775807 := by have := hcap.2; unfold maxLen at this; exact this
          have hcapo := HRo.out
          obtain ⟨_, _, e, hcapo1, hcapo2, _, hcells⟩ := hcapo
          injection e with e1 e2 e3
          subst e3
          unfold maxLen at hcapo2
          have HNL := Lib.hid HOL.out
          have HCI3 := Lib.hid (show w3.cell? ⟨bo, oo + i, none⟩ = some (.int .i64 (xi : Int)) from ((HBk.out.cell (p := ⟨bo, oo + i, none⟩) hlbo).symm.trans hci))
          have hfm' := hfm i
          have HFM := Lib.hid hfm
          clear hcap e1 e2 hcm hfm hcells
          go_wp2_with fail
          have s1 : IntKind.i64.wrap ((i : Int) + 1) = (i : Int) + 1 := IntWalk.i64_in _ (by omega)
          have s2 : IntKind.i64.wrap ((k : Int) + 1) = (k : Int) + 1 := IntWalk.i64_in _ (by omega)
          have s3 : ((i : Int) + 1).toNat = i + 1 := by omega
          have s4 : ((k : Int) + 1).toNat = k + 1 := by omega
          have s5 : (i : Int) + 1 ≤ max ((k : Int) + 1) 0 := by omega
          have s6 : (k : Int) + 1 ≤ (cm : Int) := by omega
          have s7 : ¬ cm = i + 1 := by omega
          have s8 : (0 : Int) ≤ (i : Int) + 1 := by omega
          have s9 : (0 : Int) ≤ (k : Int) + 1 := by omega
          have s10 : (i : Int) ≤ max (k : Int) 0 := by omega
          have s11 : (i : Int) ≤ (k : Int) := by omega
          have s12 : (k : Int) ≤ (co : Int) := by omega
          have s13 : ¬ co = i := by omega
          have s14 : i ≤ k := by omega
          have s15 : k ≤ co := by omega
          have s16 : i + 1 ≤ k + 1 := by omega
          have s17 : k + 1 ≤ cm := by omega
          refine wp_region_held_drew (S := fun _ => True) (by kernel_rfl) ?_ (fun hHeld => ?_)
          · (try dsimp only); (all_goals trivial)
          refine wpAnyH_take (i := 0) (oi := ?_) (v := ?_) ?_ ?_ ?_ ?_ ?_ ?_ ?_ ?_
          rotate_left 2
          · simp only [List.getElem?_toArray, List.getElem?_cons_succ, List.getElem?_cons_zero]; exact rfl
          · kernel_rfl
          · kernel_rfl
          · kernel_rfl
          · exact fun _ _ _ h => h
          · (refine Or.inl ⟨by rfl, ?_⟩; (intro w hSw; (try dsimp only at hSw); go_simp) <;> with_reducible rfl)
          · assumption
          simp only [Act.put, List.setIfInBounds_toArray, List.set_cons_zero, List.set_cons_succ]
          refine wpAnyH_take (i := 1) (oi := ?_) (v := ?_) ?_ ?_ ?_ ?_ ?_ ?_ ?_ ?_
          rotate_left 2
          · simp only [List.getElem?_toArray, List.getElem?_cons_succ, List.getElem?_cons_zero]; exact rfl
          · kernel_rfl
          · kernel_rfl
          · kernel_rfl
          · exact fun _ _ _ h => h
          · (refine Or.inl ⟨by rfl, ?_⟩; (intro w hSw; (try dsimp only at hSw); go_simp) <;> with_reducible rfl)
          · assumption
          simp only [Act.put, List.setIfInBounds_toArray, List.set_cons_zero, List.set_cons_succ]
          refine wpAnyH_take (i := 2) (oi := ?_) (v := ?_) ?_ ?_ ?_ ?_ ?_ ?_ ?_ ?_
          rotate_left 2
          · simp only [List.getElem?_toArray, List.getElem?_cons_succ, List.getElem?_cons_zero]; exact rfl
          · kernel_rfl
          · kernel_rfl
          · kernel_rfl
          · exact fun _ _ _ h => h
          · (refine Or.inl ⟨by rfl, ?_⟩; (intro w hSw; (try dsimp only at hSw); go_simp) <;> with_reducible rfl)
          · assumption
          simp only [Act.put, List.setIfInBounds_toArray, List.set_cons_zero, List.set_cons_succ]
          refine wpAnyH_take (i := 3) (oi := ?_) (v := ?_) ?_ ?_ ?_ ?_ ?_ ?_ ?_ ?_
          rotate_left 2
          · simp only [List.getElem?_toArray, List.getElem?_cons_succ, List.getElem?_cons_zero]; exact rfl
          · kernel_rfl
          · kernel_rfl
          · kernel_rfl
          · exact fun _ _ _ h => h
          · (refine Or.inl ⟨by rfl, ?_⟩; (intro w hSw; (try dsimp only at hSw); go_simp) <;> with_reducible rfl)
          · assumption
          simp only [Act.put, List.setIfInBounds_toArray, List.set_cons_zero, List.set_cons_succ]
          refine wpAnyH_take (i := 4) (oi := ?_) (v := ?_) ?_ ?_ ?_ ?_ ?_ ?_ ?_ ?_
          rotate_left 2
          · simp only [List.getElem?_toArray, List.getElem?_cons_succ, List.getElem?_cons_zero]; exact rfl
          · kernel_rfl
          · kernel_rfl
          · kernel_rfl
          · exact fun _ _ _ h => h
          · (refine Or.inl ⟨by rfl, ?_⟩; (intro w hSw; (try dsimp only at hSw); go_simp) <;> with_reducible rfl)
          · assumption
          simp only [Act.put, List.setIfInBounds_toArray, List.set_cons_zero, List.set_cons_succ]
          refine wpAnyH_take (i := 5) (oi := ?_) (v := ?_) ?_ ?_ ?_ ?_ ?_ ?_ ?_ ?_
          rotate_left 2
          · simp only [List.getElem?_toArray, List.getElem?_cons_succ, List.getElem?_cons_zero]; exact rfl
          · kernel_rfl
          · kernel_rfl
          · kernel_rfl
          · exact fun _ _ _ h => h
          · (refine Or.inl ⟨by rfl, ?_⟩; (intro w hSw; (try dsimp only at hSw); go_simp) <;> with_reducible rfl)
          · assumption
          simp only [Act.put, List.setIfInBounds_toArray, List.set_cons_zero, List.set_cons_succ]
          refine wpAnyH_take (i := 6) (oi := ?_) (v := ?_) ?_ ?_ ?_ ?_ ?_ ?_ ?_ ?_
          rotate_left 2
          · simp only [List.getElem?_toArray, List.getElem?_cons_succ, List.getElem?_cons_zero]; exact rfl
          · kernel_rfl
          · kernel_rfl
          · kernel_rfl
          · exact fun _ _ _ h => h
          · (refine Or.inl ⟨by rfl, ?_⟩; (intro w hSw; (try dsimp only at hSw); go_simp) <;> with_reducible rfl)
          · assumption
          simp only [Act.put, List.setIfInBounds_toArray, List.set_cons_zero, List.set_cons_succ]
          refine wpAnyH_take (i := 7) (oi := ?_) (v := ?_) ?_ ?_ ?_ ?_ ?_ ?_ ?_ ?_
          rotate_left 2
          · simp only [List.getElem?_toArray, List.getElem?_cons_succ, List.getElem?_cons_zero]; exact rfl
          · kernel_rfl
          · kernel_rfl
          · kernel_rfl
          · exact fun _ _ _ h => h
          · (refine Or.inl ⟨by rfl, ?_⟩; (intro w hSw; (try dsimp only at hSw); go_simp) <;> with_reducible rfl)
          · assumption
          simp only [Act.put, List.setIfInBounds_toArray, List.set_cons_zero, List.set_cons_succ]
          refine wpAnyH_take (i := 8) (oi := ?_) (v := ?_) ?_ ?_ ?_ ?_ ?_ ?_ ?_ ?_
          rotate_left 2
          · simp only [List.getElem?_toArray, List.getElem?_cons_succ, List.getElem?_cons_zero]; exact rfl
          · kernel_rfl
          · kernel_rfl
          · kernel_rfl
          · exact fun _ _ _ h => h
          · (refine Or.inl ⟨by rfl, ?_⟩; (intro w hSw; (try dsimp only at hSw); go_simp) <;> with_reducible rfl)
          · assumption
          simp only [Act.put, List.setIfInBounds_toArray, List.set_cons_zero, List.set_cons_succ]
          refine wpAnyH_take (i := 9) (oi := ?_) (v := ?_) ?_ ?_ ?_ ?_ ?_ ?_ ?_ ?_
          rotate_left 2
          · simp only [List.getElem?_toArray, List.getElem?_cons_succ, List.getElem?_cons_zero]; exact rfl
          · kernel_rfl
          · kernel_rfl
          · kernel_rfl
          · exact fun _ _ _ h => h
          · (refine Or.inl ⟨by rfl, ?_⟩; (intro w hSw; (try dsimp only at hSw); go_simp) <;> with_reducible rfl)
          · assumption
          simp only [Act.put, List.setIfInBounds_toArray, List.set_cons_zero, List.set_cons_succ]
          refine wpAnyH_ready (rs := [10]) (by kernel_rfl) (by simp) ?_
          refine AllReadyH.cons rfl (fun K hK => ?_) (AllReadyH.nil)
          rw [if_pos (by rfl)]
          (refine step_copy (P := Try.prog) slInt _ _ rfl rfl rfl HOm.out (ints (((nats O).drop i).take (k - i))) ?_ ?_ ?_ (ints_one _) ?_; (· have := HNL.out; simp [ints_len, nats_len]; omega); (· exact least_src HG3.out.1 HG3.out.2 HST5.out.bel); (· omega); intro w6 ho6 hk6; have HO6 := Lib.hid ho6; have HK6 := Lib.hid hk6; clear ho6 hk6)
          refine hK.out _ _ ?_ (fun hHeld => ?_)
          · (try dsimp only); (all_goals trivial)
          clear hK K
          refine wpAnyH_done (by kernel_rfl) ?_ _
          clear s1 s2 s3 s4 s5 s6 s7 s8 s9 s10 s11 s12 s13 s14 s15 s16 s17
          have hst6 := HUP.out w6 (slA 3 1 _ _ _) (((Keep.refl w5 Gm).drew).trans HK6.out (fun i h => .inl h)) (HO6.out.mono (fun _ h => .inl h))
          rw [show i + 1 + (k - i) = k + 1 by omega, ints_take, ints_drop, ← ints_app, ← ints_app] at hst6
          have HST6 := Lib.hid hst6; clear hst6
          obtain ⟨g', hg', hlt6, hf6, hc6, hst⟩ := HST6.out.store 0 rfl (by omega)
          injection hg' with hg'; injection hg' with hg'; subst hg'
          have hf6i := hf6 i
          obtain ⟨ui, hui⟩ : ∃ ui, w6.cell? ⟨gm, i, none⟩ = some ui := by (rw [hc6 i (by omega)]; exact ⟨_, List.getElem?_eq_getElem (by have := HNL.out; simp [ints_len, nats_len]; omega)⟩)
          have hst7 := hst i (.int .i64 (xk : Int))
          rw [ints_set, moved_form O i k xk hOi] at hst7
          have HST7 := Lib.hid hst7; clear hst7 hst hf6 hc6
          have hci6 := (HST6.out.bel.cell (p := ⟨bo, oo + i, none⟩) (World.block_lt_of_cell? w3 _ (by exact HCI3.out))).trans HCI3.out
          have hne : bo ≠ gm := by (have := HGM3.out; omega)
          obtain ⟨M, hM⟩ : ∃ M, M = (O.take i).map Int.ofNat ++ (xk : Int) :: (((nats O).drop i).take (k - i) ++ (nats O).drop (k + 1)) := ⟨_, rfl⟩
          rw [← hM] at HST7
          obtain ⟨GM, hownM, hrdM, _⟩ := HST7.out.rd 0 rfl
          have hMl : M.length = nm := by (have h := hownM.len; rw [ints_len] at h; omega)
          have HRM := Lib.hid hrdM; clear hownM hrdM
          have HKF := Lib.hid (fun (hx : xk < xi) => show keepsB (aftsOf l) M = false by (rw [hM, HO.out]; exact keeps_least (by rw [← HO.out]; exact hxi) hx _))
          have HML := Lib.hid hMl; clear hM hMl
          by_cases hx : xk < xi
          · have hx' : (xk : Int) < (xi : Int) := by omega
            have HKF2 := Lib.hid (HKF.out hx); clear hx
            go_wp2_with fail
            refine (deps_keeps' _ _ l M nm _ S2 GM (HSYS3.out.below HST7.out.bel HS3.out) HML.out HRM.out).mono ?_
            rw [HKF2.out]
            rintro e w8 ⟨rfl, hk8⟩
            have HB8 := Lib.hid (HST7.out.bel.trans (hk8.belowAt (B := w3.heap.size) (fun _ f => f.elim) HST7.out.bel.size)); clear hk8
            go_wp2_with fail
            go_roundg (nm - (k + 1))
            case measure => have := HGK.out; omega
            case rel => exact ⟨k + 1, by have := HGK.out; omega, by omega, by go_num, HB8.out⟩
          · have hx' : ¬ (xk : Int) < (xi : Int) := by omega
            clear hx
            go_wp2_with fail
            go_roundg (nm - (k + 1))
            case measure => have := HGK.out; omega
            case rel => exact ⟨k + 1, by have := HGK.out; omega, by omega, by go_num, HST7.out.bel⟩
        · go_wp2_with fail
          go_roundg (N - (i + 1))
          case measure => have := HG.out; omega
          case rel => exact ⟨i + 1, by have := HG.out; omega, by go_num, HBk.out⟩
    · go_wp2_with fail
      refine (awake22 _).mono ?_
      rintro e w8 ⟨rfl, hb8⟩
      have HB8 := Lib.hid (HB3.out.trans ((HBr.out.mono HB3.out.size).trans (hb8.mono (by have := HB3.out.size; have := HBr.out.size; omega))))
      clear hb8
      go_wp2_with fail
      go_ret
      exact ⟨rfl, HB8.out⟩
end Go.Proofs.Ytfjamllkjofdbaa
