/-
  DepsKeeps: what deps.Keeps says of the order, of the order with two turned, of any row: the document's word.
-/
import Derived.Test.YtfjamllkjofdbaaDepsOrder
import Derived.Test.YtfjamllkjofdbaaRef1
namespace Go.Proofs.Ytfjamllkjofdbaa
open Go Go.RowKit
set_option linter.unusedVariables false
set_option linter.unusedSimpArgs false

def nice (X : List Int) (A : List (List Int)) (b : Bool) (j : Nat) (L : List Int) : Prop :=
  (b = true → X.length = A.length ∧ ∃ done : List Nat, keepG A done (X.drop j) = keepG A [] X ∧ (∀ x : Int, x ∈ L ↔ ∃ k : Nat, k ∈ done ∧ (k : Int) = x)) ∧ (b = false → keepsB A X = false)

theorem free_mem {A : List (List Int)} {done : List Nat} {t : Nat} {L : List Int} (hmem : ∀ x : Int, x ∈ L ↔ ∃ k : Nat, k ∈ done ∧ (k : Int) = x) : (!(decide ((t : Int) ∈ L)) && (aftOf A t).all (fun x => decide (x ∈ L))) = freeAt A done t := by
  have h1 : decide ((t : Int) ∈ L) = done.contains t := by
    rw [Bool.eq_iff_iff, decide_eq_true_iff, hmem, List.contains_iff_mem]
    constructor
    · rintro ⟨k, hk, e⟩
      obtain rfl : k = t := by omega
      exact hk
    · exact fun h => ⟨t, h, rfl⟩
  have h2 : (fun x : Int => decide (x ∈ L)) = (fun x => done.any (fun k => (k : Int) == x)) := by
    funext x
    rw [Bool.eq_iff_iff, decide_eq_true_iff, hmem, List.any_eq_true]
    simp
  unfold freeAt
  rw [h1, h2]
theorem nice_start {X : List Int} {A : List (List Int)} (b : Bool) (hb : decide (X.length = A.length) = b) : nice X A b 0 [] := by
  refine ⟨fun h => ⟨by rw [h] at hb; simpa using hb, [], by simp, fun x => by simp⟩, fun h => ?_⟩
  rw [h] at hb
  unfold keepsB
  simp [hb]
theorem nice_end {X : List Int} {A : List (List Int)} {b : Bool} {L : List Int} (hc : chk A = 0) (h : nice X A b X.length L) : keepsB A X = b := by
  cases b with
  | false => exact h.2 rfl
  | true =>
    obtain ⟨h1, done, h2, _⟩ := h.1 rfl
    rw [List.drop_length] at h2
    unfold keepsB
    rw [← h2, h1, hc]
    simp [keepG]
theorem nice_bad {X : List Int} {A : List (List Int)} {j : Nat} {z : Int} {L : List Int} (h : nice X A true j L) (hd : X.drop j = z :: X.drop (j + 1)) (hz : z < 0 ∨ (A.length : Int) ≤ z ∨ (0 ≤ z ∧ (!(decide (z ∈ L)) && (aftOf A z.toNat).all (fun x => decide (x ∈ L))) = false)) (L' : List Int) (j' : Nat) : nice X A false j' L' := by
  obtain ⟨h1, done, h2, h3⟩ := h.1 rfl
  refine ⟨fun h => (by cases h), fun _ => ?_⟩
  unfold keepsB
  rw [← h2, hd, keepG_false (hz.imp id (fun h => h.imp id (fun h => by
    obtain ⟨t, rfl⟩ : ∃ t : Nat, z = t := ⟨z.toNat, by omega⟩
    rw [Int.toNat_natCast] at h ⊢
    rw [← free_mem h3]
    exact h.2)))]
  simp
theorem nice_good {X : List Int} {A : List (List Int)} {j t : Nat} {L L' : List Int} (h : nice X A true j L) (hd : X.drop j = (t : Int) :: X.drop (j + 1)) (ht : t < A.length) (hz : (!(decide ((t : Int) ∈ L)) && (aftOf A t).all (fun x => decide (x ∈ L))) = true) (hm : ∀ x, x ∈ L' ↔ x ∈ L ∨ x = (t : Int)) : nice X A true (j + 1) L' := by
  obtain ⟨h1, done, h2, h3⟩ := h.1 rfl
  refine ⟨fun _ => ⟨h1, done ++ [t], ?_, fun x => ?_⟩, fun h => by cases h⟩
  · rw [← h2, hd, keepG_true (by omega) (by omega) (by rw [Int.toNat_natCast, ← free_mem h3]; exact hz), Int.toNat_natCast]
  · rw [hm, h3]
    constructor
    · rintro (⟨k, hk, e⟩ | rfl)
      · exact ⟨k, List.mem_append_left _ hk, e⟩
      · exact ⟨t, by simp, rfl⟩
    · rintro ⟨k, hk, rfl⟩
      rcases List.mem_append.1 hk with hk | hk
      · exact .inl ⟨k, hk, rfl⟩
      · simp at hk
        exact .inr (by rw [hk])
theorem all_part {p : Int → Bool} {d : Bool} {l : List Int} {k : Nat} (h : (d && (l.take k).all p) = false) : (d && l.all p) = false := by
  cases d with
  | false => rfl
  | true =>
    simp only [Bool.true_and, List.all_eq_false] at h ⊢
    obtain ⟨x, hx, hp⟩ := h
    exact ⟨x, List.mem_of_mem_take hx, hp⟩
def LoopDK (w3 : World) (g : Nat) (v16 : Value) (wr : World) : Prop := ∃ q : Nat, g + q = 3 ∧ q ≤ 3 ∧ v16 = .int .i64 q ∧ Keep w3 wr Nope
def LoopDK2 (wq : World) (A : List (List Int)) (X : List Int) (g : Nat) (v18 v19 v20 : Value) (wr : World) : Prop :=
  ∃ (b : Bool) (j : Nat) (S : Nat → Prop) (a : Option Addr) (c : Nat) (L : List Int), g + j = X.length ∧ v20 = .int .i64 j ∧ v18 = .bool b ∧ v19 = .slice a L.length c ∧ Rises L ∧ L.length ≤ j ∧ Rd S wr (.slice a L.length c) L.length (ints L) ∧ nice X A b j L ∧ Keep wq wr Nope
def LoopDK3 (wq : World) (L Y : List Int) (b0 : Bool) (g : Nat) (v18 v21 : Value) (wr : World) : Prop :=
  ∃ k : Nat, g + k = Y.length ∧ v21 = .int .i64 k ∧ v18 = .bool (b0 && (Y.take k).all (fun x => decide (x ∈ L))) ∧ Keep wq wr Nope

set_option maxRecDepth 100000 in
set_option maxHeartbeats 4000000 in
theorem depsKeeps_walk (v : Value) (rs : List RowV) (x i k : Int) (rw : List Int) (ra : Option Addr) (rc : Nat) (w : World) (S : Nat → Prop) (h : RdRows S w v rs) (hr : Rd S w (.slice ra rw.length rc) rw.length (ints rw)) (hS : ∀ i, S i → i < w.heap.size) :
    Calls Try.prog 6 #[v, .int .i64 x, .slice ra rw.length rc, .int .i64 i, .int .i64 k] w (RetTrue w) := by
  have HF := Lib.hid (forward_any v rs x w S h hS)
  have HRW := Lib.hid hr
  have HS := Lib.hid hS
  have hrl : rw.length ≤ 9223372036854775807 := by
    obtain ⟨_, _, e, e1, e2, _⟩ := hr
    unfold maxLen at e2
    omega
  clear h hr hS
  obtain ⟨R, hR⟩ : ∃ R, rw.length = R := ⟨_, rfl⟩
  rw [hR] at HRW hrl ⊢
  have HRL := Lib.hid hR; clear hR
  go_enter Try.func6, Try.ntmps6
  go_wp2_with fail
  refine HF.out.mono ?_
  rintro e w2 ⟨a, c, l, S2, rfl, hsys, hS2, hb2, hchk, hl20⟩
  have HB2 := Lib.hid hb2; clear hb2
  have HSYS := Lib.hid hsys; clear hsys
  have HCHK := Lib.hid hchk; clear hchk
  go_wp2_with fail
  refine (deps_Order _ l _ S2 HSYS.out).mono ?_
  rintro e w3 ⟨ao, no, co, rfl, hk3, ho3⟩
  rw [HCHK.out, if_pos rfl] at ho3
  rw [HCHK.out]
  obtain ⟨z1, z2, z3⟩ := chk_zero HCHK.out
  rw [aftsOf_len] at z3
  have hno : no = l.length := by
    have h := ho3.len
    rw [ints_len, nats_len, z3] at h
    omega
  subst hno
  obtain ⟨O, hO⟩ : ∃ O, O = ord (aftsOf l) := ⟨_, rfl⟩
  rw [← hO] at ho3 z3
  have HSYS3 := Lib.hid (HSYS.out.keep0 hk3)
  have HB3 := Lib.hid (HB2.out.trans (hk3.belowAt (B := w.heap.size) (fun i f => f.elim) HB2.out.size))
  have HOL := Lib.hid z3
  obtain ⟨G3, hG3⟩ : ∃ G3 : Nat → Prop, Rd G3 w3 (.slice ao l.length co) l.length (ints (nats O)) := ⟨_, ho3.rd⟩
  have HG3 := Lib.hid hG3
  have HRW3 := Lib.hid (HRW.out.below HB3.out HS.out)
  clear hG3 hS2 ho3 hk3 HB2 HSYS z1 z2 z3 hO
  obtain ⟨N, hN⟩ : ∃ N, l.length = N := ⟨_, rfl⟩
  rw [hN] at HOL HG3 hl20 HSYS3 ⊢
  have HN := Lib.hid hN; clear hN
  by_cases hbig : 100 < R
  · have hbig' : (100 : Int) < (R : Int) := by omega
    clear hbig
    go_wp2_with fail
    refine (awake22 _).mono ?_
    rintro e w8 ⟨rfl, hb8⟩
    have HB8 := Lib.hid (HB3.out.trans (hb8.mono HB3.out.size))
    clear hb8
    go_wp2_with fail
    go_ret
    exact ⟨rfl, HB8.out⟩
  · have hbig' : ¬ (100 : Int) < (R : Int) := by omega
    have hR100 : R ≤ 100 := by omega
    clear hbig
    go_wp2_with (at_builtin; refine wpList_app (P := Try.prog) slInt rfl _ _ rfl (S := fun z => w3.heap.size ≤ z) (S2 := G3) (n := 0) (xs := []) (m := N) (news := ints (nats O)) rfl rfl ?hown ?hx ?hl ?h1 ?h2 ?h3 ?_)
    case hown => exact Own.lit w3 3 1 0 #[] (Nat.zero_le _) rfl (Nat.le_refl _)
    case hx => exact HG3.out.alloc _
    case hl => rw [ints_len, nats_len]; have := HOL.out; omega
    case h1 => exact ints_one _
    case h2 => omega
    case h3 => unfold maxLen; omega
    rintro am nm cm w5 ⟨ho5, hnum, hk5, _⟩
    have hs5 := hk5.size
    simp only [World.size_alloc] at hs5
    have hnm : nm = N := by omega
    subst hnm
    rw [List.nil_append] at ho5
    have hst5 : St w3 w5 [slA 3 1 (.slice am nm cm) nm (ints (nats O))] :=
      (St.start w3).add (((Keep.refl w3 Nope).alloc _).trans hk5 (fun z hz => .inr hz)) (ho5.tight.mono (fun z hz => ⟨hz.1.elim id (fun h => by have := h.1; simp at this; omega), hz.2⟩))
    have HST5 := Lib.hid hst5
    clear hst5 ho5 hk5 hnum
    go_upto_if 62 with (fail)
    go_cut [3, 4] (fun v3 v4 wx => ∃ T : List Int, T.length = nm ∧ St w3 wx [slA 3 1 (.slice am nm cm) nm (ints T)])
    case first =>
      by_cases hn0 : 0 < nm
      · have hn0' : (0 : Int) < (nm : Int) := by omega
        obtain ⟨ki, hki, hkil⟩ := and_mod i nm hn0
        obtain ⟨kk, hkk, hkkl⟩ := and_mod k nm hn0
        go_wp2_with fail
        go_quiet (fail)
        obtain ⟨g, hg, hltg, hfg, hcg, hst⟩ := HST5.out.store 0 rfl hn0
        subst hg
        obtain ⟨ui, hui⟩ : ∃ ui, (nats O)[ki]? = some ui := ⟨_, List.getElem?_eq_getElem (by rw [nats_len, HOL.out]; exact hkil)⟩
        obtain ⟨uk, huk⟩ : ∃ uk, (nats O)[kk]? = some uk := ⟨_, List.getElem?_eq_getElem (by rw [nats_len, HOL.out]; exact hkkl)⟩
        have hcA := (hcg ki (by omega)).trans (ints_get hui)
        have hcB := (hcg kk (by omega)).trans (ints_get huk)
        have hfA := hfg ki
        clear hst
        obtain ⟨g9, hg9, -, -, -, hst⟩ := (HST5.out.drewN (nq + 1)).store 0 rfl hn0
        injection hg9 with hg9
        injection hg9 with hg9
        subst hg9
        have hst1 := hst ki (.int .i64 uk)
        rw [ints_set] at hst1
        obtain ⟨w6, hw6⟩ : ∃ w6, w6 = (w5.drewN (nq + 1)).setCell ⟨g, ki, none⟩ (.int .i64 uk) := ⟨_, rfl⟩
        rw [← hw6] at hst1
        have HW6 := Lib.hid hw6
        clear hw6
        obtain ⟨g2, hg2, hltg2, hfg2, hcg2, hst2⟩ := St.store hst1 0 rfl hn0
        injection hg2 with hg2
        injection hg2 with hg2
        subst hg2
        have hfB := hfg2 kk
        obtain ⟨uz, huz⟩ : ∃ uz, w6.cell? ⟨g, kk, none⟩ = some uz := by
          rw [hcg2 kk (by omega)]
          exact ⟨_, List.getElem?_eq_getElem (by rw [ints_len, List.length_set, nats_len, HOL.out]; omega)⟩
        have hst3 := hst2 kk (.int .i64 ui)
        rw [ints_set] at hst3
        have HST7 := Lib.hid hst3
        have HTL := Lib.hid (show (((nats O).set ki uk).set kk ui).length = nm by rw [List.length_set, List.length_set, nats_len, HOL.out])
        obtain ⟨_, _, _, hcm1, hcm2, _⟩ := HST5.out.rd 0 rfl |>.choose_spec.2.1
        clear hst hst1 hst2 hst3 hcg hcg2 hfg hfg2 hui huk
        go_wp2_with fail
        refine wp_region_held_drew (S := fun _ => True) (by kernel_rfl) ?_ (fun hHeld => ?_)
        · (try dsimp only); (all_goals trivial)
        refine wpAnyH_take (i := 0) (oi := ?_) (v := ?_) ?_ ?_ ?_ ?_ ?_ ?_ ?_ ?_
        rotate_left 2
        · simp only [List.getElem?_toArray, List.getElem?_cons_succ, List.getElem?_cons_zero]; exact rfl
        · kernel_rfl
        · kernel_rfl
        · kernel_rfl
        · exact fun _ _ _ h => h
        · (refine Or.inl ⟨by rfl, ?_⟩; (intro w hSw; (try dsimp only at hSw); go_simp) <;> with_reducible rfl)
        · assumption
        simp only [Act.put, List.setIfInBounds_toArray, List.set_cons_zero, List.set_cons_succ]
        refine wpAnyH_take (i := 1) (oi := ?_) (v := ?_) ?_ ?_ ?_ ?_ ?_ ?_ ?_ ?_
        rotate_left 2
        · simp only [List.getElem?_toArray, List.getElem?_cons_succ, List.getElem?_cons_zero]; exact rfl
        · kernel_rfl
        · kernel_rfl
        · kernel_rfl
        · exact fun _ _ _ h => h
        · (refine Or.inl ⟨by rfl, ?_⟩; (intro w hSw; (try dsimp only at hSw); go_simp) <;> with_reducible rfl)
        · assumption
        simp only [Act.put, List.setIfInBounds_toArray, List.set_cons_zero, List.set_cons_succ]
        refine wpAnyH_take (i := 2) (oi := ?_) (v := ?_) ?_ ?_ ?_ ?_ ?_ ?_ ?_ ?_
        rotate_left 2
        · simp only [List.getElem?_toArray, List.getElem?_cons_succ, List.getElem?_cons_zero]; exact rfl
        · kernel_rfl
        · kernel_rfl
        · kernel_rfl
        · exact fun _ _ _ h => h
        · (refine Or.inl ⟨by rfl, ?_⟩; (intro w hSw; (try dsimp only at hSw); go_simp) <;> with_reducible rfl)
        · assumption
        simp only [Act.put, List.setIfInBounds_toArray, List.set_cons_zero, List.set_cons_succ]
        refine wpAnyH_take (i := 3) (oi := ?_) (v := ?_) ?_ ?_ ?_ ?_ ?_ ?_ ?_ ?_
        rotate_left 2
        · simp only [List.getElem?_toArray, List.getElem?_cons_succ, List.getElem?_cons_zero]; exact rfl
        · kernel_rfl
        · kernel_rfl
        · kernel_rfl
        · exact fun _ _ _ h => h
        · (refine Or.inl ⟨by rfl, ?_⟩; (intro w hSw; (try dsimp only at hSw); go_simp) <;> with_reducible rfl)
        · assumption
        simp only [Act.put, List.setIfInBounds_toArray, List.set_cons_zero, List.set_cons_succ]
        refine wpAnyH_take (i := 4) (oi := ?_) (v := ?_) ?_ ?_ ?_ ?_ ?_ ?_ ?_ ?_
        rotate_left 2
        · simp only [List.getElem?_toArray, List.getElem?_cons_succ, List.getElem?_cons_zero]; exact rfl
        · kernel_rfl
        · kernel_rfl
        · kernel_rfl
        · exact fun _ _ _ h => h
        · (refine Or.inl ⟨by rfl, ?_⟩; (intro w hSw; (try dsimp only at hSw); go_simp) <;> with_reducible rfl)
        · assumption
        simp only [Act.put, List.setIfInBounds_toArray, List.set_cons_zero, List.set_cons_succ]
        refine wpAnyH_take (i := 5) (oi := ?_) (v := ?_) ?_ ?_ ?_ ?_ ?_ ?_ ?_ ?_
        rotate_left 2
        · simp only [List.getElem?_toArray, List.getElem?_cons_succ, List.getElem?_cons_zero]; exact rfl
        · kernel_rfl
        · kernel_rfl
        · kernel_rfl
        · exact fun _ _ _ h => h
        · (refine Or.inl ⟨by rfl, ?_⟩; (intro w hSw; (try dsimp only at hSw); go_simp) <;> with_reducible rfl)
        · assumption
        simp only [Act.put, List.setIfInBounds_toArray, List.set_cons_zero, List.set_cons_succ]
        refine wpAnyH_take (i := 6) (oi := ?_) (v := ?_) ?_ ?_ ?_ ?_ ?_ ?_ ?_ ?_
        rotate_left 2
        · simp only [List.getElem?_toArray, List.getElem?_cons_succ, List.getElem?_cons_zero]; exact rfl
        · kernel_rfl
        · kernel_rfl
        · kernel_rfl
        · exact fun _ _ _ h => h
        · (refine Or.inl ⟨by rfl, ?_⟩; (intro w hSw; (try dsimp only at hSw); go_simp) <;> with_reducible rfl)
        · assumption
        simp only [Act.put, List.setIfInBounds_toArray, List.set_cons_zero, List.set_cons_succ]
        refine wpAnyH_take (i := 8) (oi := ?_) (v := ?_) ?_ ?_ ?_ ?_ ?_ ?_ ?_ ?_
        rotate_left 2
        · simp only [List.getElem?_toArray, List.getElem?_cons_succ, List.getElem?_cons_zero]; exact rfl
        · kernel_rfl
        · kernel_rfl
        · kernel_rfl
        · exact fun _ _ _ h => h
        · (refine Or.inl ⟨by rfl, ?_⟩; (intro w hSw; (try dsimp only at hSw); go_simp) <;> with_reducible rfl)
        · assumption
        simp only [Act.put, List.setIfInBounds_toArray, List.set_cons_zero, List.set_cons_succ]
        refine wpAnyH_take (i := 9) (oi := ?_) (v := ?_) ?_ ?_ ?_ ?_ ?_ ?_ ?_ ?_
        rotate_left 2
        · simp only [List.getElem?_toArray, List.getElem?_cons_succ, List.getElem?_cons_zero]; exact rfl
        · kernel_rfl
        · kernel_rfl
        · kernel_rfl
        · exact fun _ _ _ h => h
        · (refine Or.inl ⟨by rfl, ?_⟩; (intro w hSw; (try dsimp only at hSw); go_simp) <;> with_reducible rfl)
        · assumption
        simp only [Act.put, List.setIfInBounds_toArray, List.set_cons_zero, List.set_cons_succ]
        refine wpAnyH_take (i := 10) (oi := ?_) (v := ?_) ?_ ?_ ?_ ?_ ?_ ?_ ?_ ?_
        rotate_left 2
        · simp only [List.getElem?_toArray, List.getElem?_cons_succ, List.getElem?_cons_zero]; exact rfl
        · kernel_rfl
        · kernel_rfl
        · kernel_rfl
        · exact fun _ _ _ h => h
        · (refine Or.inl ⟨by rfl, ?_⟩; (intro w hSw; (try dsimp only at hSw); go_simp) <;> with_reducible rfl)
        · assumption
        simp only [Act.put, List.setIfInBounds_toArray, List.set_cons_zero, List.set_cons_succ]
        refine wpAnyH_ready (rs := [7, 11]) (by kernel_rfl) (by simp) ?_
        refine AllReadyH.cons rfl (fun K hK => ?_) (AllReadyH.cons rfl (fun K hK => ?_) (AllReadyH.nil))
        · skip
          go_simp
          refine hK.out _ _ ?_ (fun hHeld => ?_)
          · (try dsimp only); (all_goals trivial)
          clear hK K
          refine wpAnyH_ready (rs := [11]) (by kernel_rfl) (by simp) ?_
          refine AllReadyH.cons rfl (fun K hK => ?_) (AllReadyH.nil)
          go_simp
          refine hK.out _ _ ?_ (fun hHeld => ?_)
          · (try dsimp only); (all_goals trivial)
          clear hK K
          refine wpAnyH_take (i := 12) (oi := ?_) (v := ?_) ?_ ?_ ?_ ?_ ?_ ?_ ?_ ?_
          rotate_left 2
          · simp only [List.getElem?_toArray, List.getElem?_cons_succ, List.getElem?_cons_zero]; exact rfl
          · kernel_rfl
          · kernel_rfl
          · kernel_rfl
          · exact fun _ _ _ h => h
          · (refine Or.inl ⟨by rfl, ?_⟩; (intro w hSw; (try dsimp only at hSw); go_simp) <;> with_reducible rfl)
          · assumption
          simp only [Act.put, List.setIfInBounds_toArray, List.set_cons_zero, List.set_cons_succ]
          refine wpAnyH_ready (rs := [13]) (by kernel_rfl) (by simp) ?_
          refine AllReadyH.cons rfl (fun K hK => ?_) (AllReadyH.nil)
          go_simp
          refine hK.out _ _ ?_ (fun hHeld => ?_)
          · (try dsimp only); (all_goals trivial)
          clear hK K
          rw [← HW6.out]
          refine wpAnyH_take (i := 14) (oi := ?_) (v := ?_) ?_ ?_ ?_ ?_ ?_ ?_ ?_ ?_
          rotate_left 2
          · simp only [List.getElem?_toArray, List.getElem?_cons_succ, List.getElem?_cons_zero]; exact rfl
          · kernel_rfl
          · kernel_rfl
          · kernel_rfl
          · exact fun _ _ _ h => h
          · (refine Or.inl ⟨by rfl, ?_⟩; (intro w hSw; (try dsimp only at hSw); go_simp) <;> with_reducible rfl)
          · assumption
          simp only [Act.put, List.setIfInBounds_toArray, List.set_cons_zero, List.set_cons_succ]
          refine wpAnyH_ready (rs := [15]) (by kernel_rfl) (by simp) ?_
          refine AllReadyH.cons rfl (fun K hK => ?_) (AllReadyH.nil)
          go_simp
          refine hK.out _ _ ?_ (fun hHeld => ?_)
          · (try dsimp only); (all_goals trivial)
          clear hK K
          refine wpAnyH_done (by kernel_rfl) ?_ _
          clear hcA hcB
          go_wp2_with fail
          go_meet
          case rel => exact ⟨_, HTL.out, HST7.out⟩
        · skip
          go_simp
          refine hK.out _ _ ?_ (fun hHeld => ?_)
          · (try dsimp only); (all_goals trivial)
          clear hK K
          refine wpAnyH_ready (rs := [7]) (by kernel_rfl) (by simp) ?_
          refine AllReadyH.cons rfl (fun K hK => ?_) (AllReadyH.nil)
          go_simp
          refine hK.out _ _ ?_ (fun hHeld => ?_)
          · (try dsimp only); (all_goals trivial)
          clear hK K
          refine wpAnyH_take (i := 12) (oi := ?_) (v := ?_) ?_ ?_ ?_ ?_ ?_ ?_ ?_ ?_
          rotate_left 2
          · simp only [List.getElem?_toArray, List.getElem?_cons_succ, List.getElem?_cons_zero]; exact rfl
          · kernel_rfl
          · kernel_rfl
          · kernel_rfl
          · exact fun _ _ _ h => h
          · (refine Or.inl ⟨by rfl, ?_⟩; (intro w hSw; (try dsimp only at hSw); go_simp) <;> with_reducible rfl)
          · assumption
          simp only [Act.put, List.setIfInBounds_toArray, List.set_cons_zero, List.set_cons_succ]
          refine wpAnyH_ready (rs := [13]) (by kernel_rfl) (by simp) ?_
          refine AllReadyH.cons rfl (fun K hK => ?_) (AllReadyH.nil)
          go_simp
          refine hK.out _ _ ?_ (fun hHeld => ?_)
          · (try dsimp only); (all_goals trivial)
          clear hK K
          rw [← HW6.out]
          refine wpAnyH_take (i := 14) (oi := ?_) (v := ?_) ?_ ?_ ?_ ?_ ?_ ?_ ?_ ?_
          rotate_left 2
          · simp only [List.getElem?_toArray, List.getElem?_cons_succ, List.getElem?_cons_zero]; exact rfl
          · kernel_rfl
          · kernel_rfl
          · kernel_rfl
          · exact fun _ _ _ h => h
          · (refine Or.inl ⟨by rfl, ?_⟩; (intro w hSw; (try dsimp only at hSw); go_simp) <;> with_reducible rfl)
          · assumption
          simp only [Act.put, List.setIfInBounds_toArray, List.set_cons_zero, List.set_cons_succ]
          refine wpAnyH_ready (rs := [15]) (by kernel_rfl) (by simp) ?_
          refine AllReadyH.cons rfl (fun K hK => ?_) (AllReadyH.nil)
          go_simp
          refine hK.out _ _ ?_ (fun hHeld => ?_)
          · (try dsimp only); (all_goals trivial)
          clear hK K
          refine wpAnyH_done (by kernel_rfl) ?_ _
          clear hcA hcB
          go_wp2_with fail
          go_meet
          case rel => exact ⟨_, HTL.out, HST7.out⟩
      · obtain rfl : nm = 0 := by omega
        go_wp2_with fail
        go_meet
        case rel => exact ⟨nats O, by rw [nats_len, HOL.out], HST5.out⟩
    case rest =>
      obtain ⟨T, hT, hst⟩ := hcut
      have HT := Lib.hid hT
      have HST := Lib.hid hst
      clear hT hst HST5
      go_wp2_with fail
      go_loopg [16] 3 (fun g v16 wr => LoopDK wc g v16 wr)
      case atStart => exact ⟨0, rfl, by omega, rfl, Keep.refl _ _⟩
      case round =>
        obtain ⟨q, hg, hq3, rfl, hk⟩ := hrel
        have HG := Lib.hid hg; clear hg
        have HKQ := Lib.hid hk; clear hk
        by_cases hlt : q < 3
        · obtain ⟨X, xa, xm, xc, GX, hX, hXm, hX100, hrdX⟩ : ∃ (X : List Int) (xa : Option Addr) (xm xc : Nat) (GX : Nat → Prop), (∀ h : q < 3, [Value.slice ao nm co, Value.slice am nm cm, Value.slice ra R rc][q] = .slice xa xm xc) ∧ X.length = xm ∧ xm ≤ 100 ∧ Rd GX wr (.slice xa xm xc) xm (ints X) := by
            have e : q = 0 ∨ q = 1 ∨ q = 2 := by omega
            rcases e with rfl | rfl | rfl
            · exact ⟨nats O, ao, nm, co, G3, fun _ => rfl, by rw [nats_len, HOL.out], by omega, HG3.out.keep ((Keep.ofSt HST.out).trans HKQ.out (fun _ f => f.elim)) (fun _ _ f => f)⟩
            · obtain ⟨GT, _, hrT, _⟩ := HST.out.rd 0 rfl
              exact ⟨T, am, nm, cm, GT, fun _ => rfl, HT.out, by omega, hrT.keep HKQ.out (fun _ _ f => f)⟩
            · exact ⟨rw, ra, R, rc, S, fun _ => rfl, HRL.out, hR100, HRW3.out.keep ((Keep.ofSt HST.out).trans HKQ.out (fun _ f => f.elim)) (fun _ _ f => f)⟩
          have HX := Lib.hid hX
          have HXM := Lib.hid hXm
          have HRX := Lib.hid hrdX
          clear hX hXm hrdX
          have hqd : decide ((q : Int) < 3) = true := decide_eq_true (by omega)
          go_upto_region 14 with fail
          rw [HX.out hlt]
          obtain ⟨b0, hb0⟩ : ∃ b0, ((xm : Int) == (nm : Int)) = b0 := ⟨_, rfl⟩
          obtain ⟨wq, hwq⟩ : ∃ wq, wq = wr.alloc (.cells #[Value.slice ao nm co, Value.slice am nm cm, Value.slice ra R rc] 25) := ⟨_, rfl⟩
          have HKW := Lib.hid (show Keep wr wq Nope by rw [hwq]; exact (Keep.refl wr Nope).alloc _)
          rw [← hwq]
          have HRXq := Lib.hid (HRX.out.keep HKW.out (fun _ _ f => f))
          have HSYSq := Lib.hid (((HSYS3.out.keep0 (Keep.ofSt HST.out)).keep0 HKQ.out).keep0 HKW.out)
          clear hwq
          have HB0 := Lib.hid hb0
          go_wp2_with fail
          clear hb0
          go_loopg [18, 19, 20] xm (fun g v18 v19 v20 wz => LoopDK2 wq (aftsOf l) X g v18 v19 v20 wz)
          case atStart =>
            refine ⟨b0, 0, GX, none, 0, [], by rw [HXM.out]; rfl, rfl, rfl, rfl, List.Pairwise.nil, Nat.le_refl _, ⟨none, 0, rfl, Nat.le_refl _, Nat.zero_le _, fun _ => ⟨rfl, rfl⟩, fun j u hu => by simp [ints] at hu⟩, nice_start b0 ?_, Keep.refl _ _⟩
            rw [← HB0.out, HXM.out, aftsOf_len, HN.out, Bool.eq_iff_iff]
            simp
            omega
          case round =>
            obtain ⟨b, j, SL, la, lc, L, hgj, rfl, rfl, rfl, hris, hLj, hrL, hni, hkz⟩ := hrel
            obtain ⟨nL, hnL⟩ : ∃ nL, L.length = nL := ⟨_, rfl⟩
            rw [hnL] at hLj hrL ⊢
            rw [HXM.out] at hgj
            have HNL := Lib.hid hnL
            have HGJ := Lib.hid hgj
            have HRIS := Lib.hid hris
            have HRL' := Lib.hid hrL
            have HNI := Lib.hid hni
            have HKZ := Lib.hid hkz
            have hjx : j ≤ xm := by omega
            clear hnL hgj hris hrL hni hkz
            by_cases hjl : j < xm
            · cases b with
              | false =>
                have HE := Lib.hid (HNI.out.2 rfl)
                go_wp2_with fail
                refine (deps_keeps' _ _ l X xm _ S2 GX (HSYSq.out.keep0 HKZ.out) HXM.out (HRXq.out.keep HKZ.out (fun _ _ f => f))).mono ?_
                rw [HE.out]
                rintro e w9 ⟨rfl, hk9⟩
                have HK9 := Lib.hid (((HKQ.out.trans HKW.out (fun _ f => f.elim)).trans HKZ.out (fun _ f => f.elim)).trans hk9 (fun _ f => f.elim))
                clear hk9
                go_wp2_with fail
                go_roundg (3 - (q + 1))
                case measure => have := HG.out; omega
                case rel => exact ⟨q + 1, by have := HG.out; omega, by omega, by go_num, HK9.out⟩
              | true =>
                obtain ⟨z, hz⟩ : ∃ z, X[j]? = some z := ⟨_, List.getElem?_eq_getElem (by rw [HXM.out]; exact hjl)⟩
                obtain ⟨bo, oo, ⟨c', hv⟩, _, hcz⟩ := (HRXq.out.keep HKZ.out (fun _ _ f => f)).int hz
                injection hv with hv1 hv2 hv3
                subst hv1; subst hv3
                have HD := Lib.hid (show X.drop j = z :: X.drop (j + 1) by
                  rw [List.drop_eq_getElem_cons (by rw [HXM.out]; exact hjl)]
                  congr 1
                  exact (List.getElem?_eq_some_iff.1 hz).2)
                obtain ⟨wo, hwo⟩ : ∃ wo, wo = wr := ⟨_, rfl⟩
                subst hwo
                clear hz
                by_cases hz0 : z < 0
                · have HBAD := Lib.hid (nice_bad HNI.out HD.out (.inl hz0) L (j + 1))
                  go_wp2_with fail
                  go_loopg [18, 21] 0 (fun g v18 v21 wz => LoopDK3 wo L [] false g v18 v21 wz)
                  case atStart => exact ⟨0, rfl, rfl, rfl, Keep.refl _ _⟩
                  case round =>
                    obtain ⟨kq, hg4, rfl, rfl, hk4⟩ := hrel
                    have hkq : kq = 0 := by simp at hg4; omega
                    subst hkq
                    have HK4 := Lib.hid hk4
                    clear hg4 hk4
                    have hff : (false && (([] : List Int).take 0).all (fun x => decide (x ∈ L))) = false := rfl
                    rw [hff]
                    clear hff
                    go_wp2_with fail
                    go_roundg (xm - (j + 1))
                    case measure => have := HGJ.out; omega
                    case rel => exact ⟨false, j + 1, SL, la, lc, L, by have := HGJ.out; have := HXM.out; omega, by go_num, rfl, by rw [HNL.out], HRIS.out, by have := HNL.out; omega, by rw [HNL.out]; exact HRL'.out.keep HK4.out (fun _ _ f => f), HBAD.out, HKZ.out.trans HK4.out (fun _ f => f.elim)⟩
                · by_cases hzn : (nm : Int) ≤ z
                  · have HBAD := Lib.hid (nice_bad HNI.out HD.out (.inr (.inl (by rw [aftsOf_len, HN.out]; exact hzn))) L (j + 1))
                    go_wp2_with fail
                    go_loopg [18, 21] 0 (fun g v18 v21 wz => LoopDK3 wo L [] false g v18 v21 wz)
                    case atStart => exact ⟨0, rfl, rfl, rfl, Keep.refl _ _⟩
                    case round =>
                      obtain ⟨kq, hg4, rfl, rfl, hk4⟩ := hrel
                      have hkq : kq = 0 := by simp at hg4; omega
                      subst hkq
                      have HK4 := Lib.hid hk4
                      clear hg4 hk4
                      have hff : (false && (([] : List Int).take 0).all (fun x => decide (x ∈ L))) = false := rfl
                      rw [hff]
                      clear hff
                      go_wp2_with fail
                      go_roundg (xm - (j + 1))
                      case measure => have := HGJ.out; omega
                      case rel => exact ⟨false, j + 1, SL, la, lc, L, by have := HGJ.out; have := HXM.out; omega, by go_num, rfl, by rw [HNL.out], HRIS.out, by have := HNL.out; omega, by rw [HNL.out]; exact HRL'.out.keep HK4.out (fun _ _ f => f), HBAD.out, HKZ.out.trans HK4.out (fun _ f => f.elim)⟩
                  · obtain ⟨t, rfl⟩ : ∃ t : Nat, z = t := ⟨z.toNat, by omega⟩
                    have htn : t < nm := by omega
                    obtain ⟨y, hy⟩ : ∃ y, l[t]? = some y := ⟨_, List.getElem?_eq_getElem (by rw [HN.out]; exact htn)⟩
                    have HY := Lib.hid (aftOf_get hy)
                    have HIN := Lib.hid (fun W (hW : Keep wo W Nope) z => ref_in (.slice la nL lc) L z W SL (by rw [HNL.out]; exact HRL'.out.keep hW (fun _ _ f => f)) HRIS.out (by rw [HNL.out]; omega))
                    have HWI := Lib.hid (fun W (hW : Keep wo W Nope) z => ref_with (.slice la nL lc) L z W SL (by rw [HNL.out]; exact HRL'.out.keep hW (fun _ _ f => f)) HRIS.out (by rw [HNL.out]; omega))
                    obtain ⟨dm, hdm⟩ : ∃ dm, decide ((t : Int) ∈ L) = dm := ⟨_, rfl⟩
                    have HDM := Lib.hid hdm
                    clear hdm
                    go_wp2_with fail
                    have h := HIN.out wo (Keep.refl _ _) t
                    rw [HDM.out] at h
                    refine h.mono ?_
                    clear h
                    rintro e w7 ⟨rfl, hk7⟩
                    have HK7 := Lib.hid hk7
                    have HKZ7 := Lib.hid (HKZ.out.trans hk7 (fun _ f => f.elim))
                    clear hk7
                    obtain ⟨by', oy, he, _, hco⟩ := (HSYSq.out.keep0 HKZ7.out).rd.elem (cells := SysV.cells) (size := 8) (fun _ => rfl) (by decide) hy
                    subst he
                    obtain ⟨hyn, hyr⟩ := (HSYSq.out.keep0 HKZ7.out).af y (List.mem_of_getElem? hy)
                    have hc7 := hco 7 (by decide)
                    simp [SysV.cells, SlV.v] at hc7
                    unfold SlV.v at hyr
                    rw [hyn] at hc7 hyr
                    have hml : y.aft.length ≤ 9223372036854775807 := by
                      obtain ⟨_, _, e, e1, e2, _⟩ := hyr
                      unfold maxLen at e2
                      omega
                    have HYR := Lib.hid hyr
                    have HC7 := Lib.hid hc7
                    have HCZ := Lib.hid (HK7.out.cell hcz (fun f => f))
                    clear hyr hco hyn hy hcz
                    have hcz := HCZ.out
                    go_wp2_with fail
                    go_loopg [18, 21] y.aft.length (fun g v18 v21 wz => LoopDK3 w7 L y.aft (!dm) g v18 v21 wz)
                    case atStart => exact ⟨0, rfl, rfl, by simp, Keep.refl _ _⟩
                    case round =>
                      obtain ⟨kq, hg4, rfl, rfl, hk4⟩ := hrel
                      have HG4 := Lib.hid hg4
                      have HK4 := Lib.hid hk4
                      have hkq : kq ≤ y.aft.length := by omega
                      clear hg4 hk4 hc7 hcz
                      have hcz := HK4.out.cell HCZ.out (fun f => f)
                      have hc7 := HK4.out.cell HC7.out (fun f => f)
                      obtain ⟨bb, hbb⟩ : ∃ bb, ((!dm) && (y.aft.take kq).all (fun x => decide (x ∈ L))) = bb := ⟨_, rfl⟩
                      rw [hbb]
                      have HBB := Lib.hid hbb
                      clear hbb
                      cases bb with
                      | true =>
                        by_cases hlk : kq < y.aft.length
                        · obtain ⟨u, hu⟩ : ∃ u, y.aft[kq]? = some u := ⟨_, List.getElem?_eq_getElem hlk⟩
                          obtain ⟨bu, ou, ⟨cu, hv⟩, _, hcu⟩ := (HYR.out.keep HK4.out (fun _ _ f => f)).int hu
                          injection hv with hv1 hv2 hv3
                          rw [hv1] at hc7
                          have HU := Lib.hid hu
                          clear hu hv1 hv2 hv3
                          go_wp2_with fail
                          refine (HIN.out _ (HK7.out.trans HK4.out (fun _ f => f.elim)) u).mono ?_
                          rintro e w9 ⟨rfl, hk9⟩
                          have HK9 := Lib.hid hk9
                          clear hk9
                          go_wp2_with fail
                          go_roundg (y.aft.length - (kq + 1))
                          case measure => have := HG4.out; omega
                          case rel => exact ⟨kq + 1, by have := HG4.out; omega, by go_num, by rw [all_snoc _ _ _ _ HU.out, ← Bool.and_assoc, HBB.out, Bool.true_and], HK4.out.trans HK9.out (fun _ f => f.elim)⟩
                        · obtain rfl : y.aft.length = kq := by omega
                          have HALL := Lib.hid (show ((!(decide ((t : Int) ∈ L))) && (aftOf (aftsOf l) t).all (fun x => decide (x ∈ L))) = true by (have h := HBB.out; rw [List.take_length] at h; rw [HDM.out, HY.out]; exact h))
                          go_wp2_with fail
                          refine (HWI.out _ (HK7.out.trans HK4.out (fun _ f => f.elim)) t).mono ?_
                          rintro e w8 ⟨S8, a8, c8, L8, rfl, hr8, hm8, hl8, hrd8, hk8⟩
                          have HN8 := Lib.hid (nice_good HNI.out HD.out (by rw [aftsOf_len, HN.out]; exact htn) HALL.out hm8)
                          have HR8 := Lib.hid hr8
                          have HL8 := Lib.hid hl8
                          have HRD8 := Lib.hid hrd8
                          have HK8 := Lib.hid ((HKZ7.out.trans HK4.out (fun _ f => f.elim)).trans hk8 (fun _ f => f.elim))
                          clear hr8 hm8 hl8 hrd8 hk8
                          go_wp2_with fail
                          go_roundg (xm - (j + 1))
                          case measure => have := HGJ.out; omega
                          case rel => exact ⟨true, j + 1, S8, a8, c8, L8, by have := HGJ.out; have := HXM.out; omega, by go_num, rfl, rfl, HR8.out, by have := HL8.out; have := HNL.out; omega, HRD8.out, HN8.out, HK8.out⟩
                      | false =>
                        have HBAD := Lib.hid (nice_bad HNI.out HD.out (.inr (.inr ⟨by omega, by rw [Int.toNat_natCast, HDM.out, HY.out]; exact all_part HBB.out⟩)) L (j + 1))
                        go_wp2_with fail
                        go_roundg (xm - (j + 1))
                        case measure => have := HGJ.out; omega
                        case rel => exact ⟨false, j + 1, SL, la, lc, L, by have := HGJ.out; have := HXM.out; omega, by go_num, rfl, by rw [HNL.out], HRIS.out, by have := HNL.out; omega, by rw [HNL.out]; exact HRL'.out.keep (HK7.out.trans HK4.out (fun _ f => f.elim)) (fun _ _ f => f), HBAD.out, HKZ7.out.trans HK4.out (fun _ f => f.elim)⟩
            · obtain rfl : xm = j := by omega
              have HE := Lib.hid (nice_end HCHK.out (by rw [HXM.out]; exact HNI.out))
              go_wp2_with fail
              refine (deps_keeps' _ _ l X xm _ S2 GX (HSYSq.out.keep0 HKZ.out) HXM.out (HRXq.out.keep HKZ.out (fun _ _ f => f))).mono ?_
              rw [HE.out]
              rintro e w9 ⟨rfl, hk9⟩
              have HK9 := Lib.hid (((HKQ.out.trans HKW.out (fun _ f => f.elim)).trans HKZ.out (fun _ f => f.elim)).trans hk9 (fun _ f => f.elim))
              clear hk9
              go_wp2_with fail
              go_roundg (3 - (q + 1))
              case measure => have := HG.out; omega
              case rel => exact ⟨q + 1, by have := HG.out; omega, by omega, by go_num, HK9.out⟩
        · obtain rfl : q = 3 := by omega
          go_wp2_with fail
          refine (awake22 _).mono ?_
          rintro e w8 ⟨rfl, hb8⟩
          have HB8 := Lib.hid ((HB3.out.trans ((HST.out.bel.trans (HKQ.out.belowAt (B := w3.heap.size) (fun _ f => f.elim) HST.out.bel.size)).mono HB3.out.size)).trans (hb8.mono (Nat.le_trans HB3.out.size (Nat.le_trans HST.out.bel.size HKQ.out.size))))
          clear hb8
          go_wp2_with fail
          go_ret
          exact ⟨rfl, HB8.out⟩
end Go.Proofs.Ytfjamllkjofdbaa
