/-
  The package alloc: New, Mask; Values; boxes; The package dense: values side by side, plainly; The package dense: Get; A store of several cells into the midst of a slice of the call's own, as one operation.
-/
import Derived.Test.YtkiikblpgppmkaaGreatDoorTlM11
import Derived.Test.YtkiikblpgppmkaaGreatDoorTlM10
import Derived.Test.YtkiikblpgppmkaaGreatDoorTlM02
import Derived.Test.YtkiikblpgppmkaaGreatDoorTlM04
import Derived.Deep.MidRow
namespace Go.Proofs.YtkiikblpgppmkaaGreatDoor
open Go Go.RowKit
set_option linter.unusedVariables false
set_option linter.unusedSimpArgs false

/-- The claims that stand first are put into another order, some are let go. -/
theorem St.sel {w0 w : World} {P P' R : List Asr} (js : List Nat) (h : St w0 w (P ++ R)) (hn : js.Nodup) (hb' : js.all (fun j => decide (j < P.length)) = true) (he : js.map (fun j => P[j]?) = P'.map some) : St w0 w (P' ++ R) := by
  have hb : ∀ j ∈ js, j < P.length := fun j hj => of_decide_eq_true (List.all_eq_true.1 hb' j hj)
  have hl : js.length = P'.length := by have := congrArg List.length he; simpa using this
  refine h.pick (fun i => if hi : i < js.length then js[i] else i - P'.length + P.length) (fun i j hi hj e => ?_) (fun i A hi => ?_)
  · by_cases h1 : i < js.length <;> by_cases h2 : j < js.length <;> simp [h1, h2] at e
    · have hp := List.pairwise_iff_getElem.1 hn
      rcases Nat.lt_trichotomy i j with h | h | h
      · exact absurd e (hp i j h1 h2 h)
      · exact h
      · exact absurd e.symm (hp j i h2 h1 h)
    · have := hb _ (List.getElem_mem h1); omega
    · have := hb _ (List.getElem_mem h2); omega
    · omega
  · by_cases h1 : i < js.length
    · simp only [h1, dif_pos]
      have e := congrArg (fun l => l[i]?) he
      simp only [List.getElem?_map] at e
      rw [List.getElem?_append_left (by omega)] at hi
      rw [hi, List.getElem?_eq_getElem h1] at e
      simp only [Option.map_some] at e
      injection e with e
      rw [List.getElem?_append_left (hb _ (List.getElem_mem h1)), e]
    · simp only [h1, dif_neg, not_false_eq_true]
      rw [List.getElem?_append_right (by omega)] at hi
      rw [List.getElem?_append_right (by omega), show i - P'.length + P.length - P.length = i - P'.length by omega]
      exact hi
/-- The claims that stand first are made one, put last. -/
theorem St.pack {α : Type} (f : α → List Asr) (p : α) {w0 w : World} {L : List Asr} (h : St w0 w (f p ++ L)) : St w0 w (L ++ [exA fun p => starA (f p)]) := by
  have h1 := h.add (Keep.refl w Nope) (A := empA) trivial
  have h2 : St w0 w (f p ++ (empA :: L)) := by
    refine h1.pick (fun i => if i < (f p).length then i else if i = (f p).length then (f p ++ L).length else i - 1) (fun i j hi hj e => ?_) (fun i A hi => ?_)
    · simp only [List.length_append, List.length_cons] at hi hj e
      by_cases a1 : i < (f p).length <;> by_cases a2 : j < (f p).length <;> by_cases a3 : i = (f p).length <;> by_cases a4 : j = (f p).length <;> simp [a1, a2, a3, a4] at e <;> omega
    · by_cases a1 : i < (f p).length
      · simp only [a1, if_true]
        rw [List.getElem?_append_left a1] at hi
        rw [List.append_assoc, List.getElem?_append_left a1]
        exact hi
      · by_cases a3 : i = (f p).length
        · subst a3
          simp at hi
          subst hi
          simp
        · obtain ⟨j, rfl⟩ : ∃ j, i = (f p).length + 1 + j := ⟨i - (f p).length - 1, by omega⟩
          simp only [a1, a3, if_false]
          rw [List.getElem?_append_right (by omega), show (f p).length + 1 + j - (f p).length = j + 1 by omega, List.getElem?_cons_succ] at hi
          have hl := (List.getElem?_eq_some_iff.1 hi).1
          rw [List.append_assoc, List.getElem?_append_right (by omega), show (f p).length + 1 + j - 1 - (f p).length = j by omega, List.getElem?_append_left hl]
          exact hi
  have h3 := h2.join 0 (by simp)
  have h4 := h3.weaken 0 (B := exA fun p => starA (f p)) rfl (fun G hG => ⟨p, hG⟩)
  exact h4.last
theorem step_make {P : Program} {o : Oper} {a : Act} {w w' : World} {K : Act → World → Prop} {Q : Exit → Act → World → Prop} {t : TypeId} (x y : Operand) (ho : o.op = .makeSlice t x y) {u v r : Value} (hx : a.eval x = u) (hy : a.eval y = v)
    (hr : (Instr.makeSlice t u v).run P w = .ok r w') (h : K (a.put o.dst r) w') : Oper.wp P o a w K Q := by
  unfold Oper.wp execOp
  simp only [ho, hx, hy, hr, Sem.run_bind, Sem.run_pure, Result.andThen_ok]
  exact h
/-- So many are put among the free ones. -/
def newAt (n top k : Nat) : AlS := ⟨fullW k, 0, 0, top, List.replicate n 0, 0⟩
theorem newAt_ok {n top k : Nat} (h1 : 1 ≤ n) (h2 : n ≤ 64) (h3 : 1 ≤ top) (h4 : top < 4294967296) (hk : k ≤ n) : (newAt n top k).Ok := by
  have h := newAl_ok h1 h2 h3 h4
  have hb : ∀ j, (fullW k).testBit j = true → (fullW n).testBit j = true := fun j hj => by
    rw [fullW_bit] at *
    simp at *
    omega
  exact ⟨h.len, h.len1, fun j hj => h.free j (hb j hj), h.live, h.raised, h.top, h.gens, fun j hj => h.room j (hb j hj)⟩
theorem gens_zero (n : Nat) : (List.replicate n [Value.int .i64 0]).flatten = gensV (List.replicate n 0) := by
  induction n with
  | zero => rfl
  | succ n ih => rw [List.replicate_succ, List.flatten_cons, ih, List.replicate_succ]; rfl
theorem make_gens {w0 w : World} {L : List Asr} (h : St w0 w L) (n : Nat) (hn : n ≤ 2000000) :
    ∃ g w', (Instr.makeSlice 25 (.int .i64 (n : Int)) (.int .i64 (n : Int))).run Tryz.prog w = .ok (.slice (some ⟨g, 0, none⟩) n n) w' ∧
      St w0 w' (slA 2 1 (.slice (some ⟨g, 0, none⟩) n n) n (gensV (List.replicate n 0)) :: L) := by
  obtain ⟨w', h1, h2⟩ := h.make (P := Tryz.prog) (t := 25) (e := 2) (size := 1) (bytes := 8) (.int .i64 0) Tryz.underlying25 (by kernel_rfl) rfl (by decide) .i64 .i64 n (by omega) (by unfold maxLen; omega)
  rw [show (Value.int .i64 0).cells.toList = [Value.int .i64 0] from rfl, gens_zero] at h2
  exact ⟨w.heap.size, w', h1, h2.first⟩

theorem step_gens {w0 w : World} {L : List Asr} (h : St w0 w L) (n : Nat) (hn : n ≤ 2000000) {o : Oper} {a : Act} {K : Act → World → Prop} {Q : Exit → Act → World → Prop} (x y : Operand) (ho : o.op = .makeSlice 25 x y) (hx : a.eval x = .int .i64 (n : Int)) (hy : a.eval y = .int .i64 (n : Int))
    (hk : ∀ (g : Nat) (w' : World), St w0 w' (slA 2 1 (.slice (some ⟨g, 0, none⟩) n n) n (gensV (List.replicate n 0)) :: L) → K (a.put o.dst (.slice (some ⟨g, 0, none⟩) n n)) w') : Oper.wp Tryz.prog o a w K Q := by
  have hm := make_gens h n hn
  exact hm.elim fun g h => h.elim fun w' h => step_make x y ho hx hy h.1 (hk g w' h.2)
theorem new_fin {w0 w : World} {L : List Asr} {b bf bl br bg n top : Nat} (h : St w0 w ([blkA b #[.pointer (some ⟨bf, 0, none⟩), .pointer (some ⟨bl, 0, none⟩), .pointer (some ⟨br, 0, none⟩), .int .i64 (top : Nat), .slice (some ⟨bg, 0, none⟩) n n, .int .i64 0] 190, hibA bf 0, hibA bl 0, hibA br 0, slA 2 1 (.slice (some ⟨bg, 0, none⟩) n n) n (gensV (List.replicate n 0))] ++ L)) :
    St w0 w (alL b (newAt n top 0) ⟨bf, bl, br, bg, n⟩ ++ L) := by
  unfold alL alCs newAt
  simp only [List.length_replicate]
  exact h
theorem al_mask (b : Nat) (a : AlS) (w : World) (h : RdAl w b a) :
    Calls Tryz.prog 134 #[ptr b] w (fun e w' => ∃ nb, e = .returned (ptr nb) ∧ Keep w w' Nope ∧ (hibA nb a.live).at' w' (New w w')) := by
  obtain ⟨p, h⟩ := h
  have c1 := h.cells.2.1
  have HC := Lib.hid (hib_copy p.l a.live w h.l)
  clear h
  unfold ptr at *
  go_enter Tryz.func134, Tryz.ntmps134
  go_wp2_with (go_at_call 210; refine HC.out.mono ?_; rintro e w1 ⟨nb, rfl, hk1, h1⟩; have H1 := Lib.hid (And.intro hk1 h1); clear hk1 h1)
  go_ret
  exact ⟨nb, rfl, H1.out⟩

theorem hib_new' (w : World) : Calls Tryz.prog 215 #[.slice none 0 0] w (fun e w' => ∃ b, e = .returned (.pointer (some ⟨b, 0, none⟩)) ∧ (hibA b 0).at' w' (New w w') ∧ Keep w w' Nope) := hib_new w
def LoopNew (w0 : World) (L : List Asr) (b n top : Nat) (p : AlB) (g : Nat) (v32 : Value) (wr : World) : Prop :=
  ∃ k : Nat, g + k = n ∧ v32 = .int .i64 (k : Nat) ∧ St w0 wr (alL b (newAt n top k) p ++ L)
set_option maxRecDepth 100000 in
set_option maxHeartbeats 2000000 in
theorem al_new {w0 w : World} {L : List Asr} (H : St w0 w L) (n top : Nat) (h1 : 1 ≤ n) (h2 : n ≤ 64) (h3 : 1 ≤ top) (h4 : top < 4294967296) :
    Calls Tryz.prog 142 #[.int .i64 (n : Nat), .int .i64 (top : Nat)] w (fun e w' => ∃ b, e = .returned (.tuple #[ptr b, .int .i64 0]) ∧ St w0 w' (L ++ [alA b (newAl n top)])) := by
  have e0 : decide ((n : Int) < 1) = false := decide_eq_false (by omega)
  have e1 : decide ((n : Int) > 65536) = false := decide_eq_false (by omega)
  have e2 : decide ((top : Int) < 1) = false := decide_eq_false (by omega)
  have e3 : decide ((top : Int) > 4294967295) = false := decide_eq_false (by omega)
  have e4 : decide (n < 1) = false := decide_eq_false (by omega)
  have e5 : decide (65536 < n) = false := decide_eq_false (by omega)
  have e6 : decide (top < 1) = false := decide_eq_false (by omega)
  have e7 : decide (4294967295 < top) = false := decide_eq_false (by omega)
  have HH := Lib.hid H
  clear H
  go_enter Tryz.func142, Tryz.ntmps142
  go_wp2_with fail
  go_cut [6] (fun v6 wc => ∃ (b : Nat) (p : AlB), v6 = .pointer (some ⟨b, 0, none⟩) ∧ St w0 wc (alL b (newAt n top 0) p ++ L))
  case first =>
    have HCUR := Lib.hid HH.out.drew
    refine wp_region_M (r := 9) (S := fun w' => True) (by kernel_rfl) ?_ (fun hHeld => ?_)
    · (try dsimp only); (try trivial)
    refine tkP 4 ?_; refine tkP 5 ?_
    refine wpAnyM_ready (rs := [0, 6]) (by kernel_rfl) (by simp) ?_
    refine AllReadyM.cons (o := ?_) ?_ ?_ ?_
    rotate_left 1
    · simp only [List.getElem?_toArray, List.getElem?_cons_succ, List.getElem?_cons_zero]; exact rfl
    · intro K hK
      go_simp
      go_wp2_with ((go_at_call 215; refine (hib_new' _).mono ?_; rintro e wf ⟨bf, rfl, hA, hK⟩; replace HCUR := Lib.hid (HCUR.out.add hK hA).first; clear hA hK))
      refine hK.out _ _ ?_ (fun hHeld => ?_)
      · (try dsimp only); (try trivial)
      clear hK K
      refine wpAnyM_ready (rs := [1, 6]) (by kernel_rfl) (by simp) ?_
      refine AllReadyM.cons (o := ?_) ?_ ?_ ?_
      rotate_left 1
      · simp only [List.getElem?_toArray, List.getElem?_cons_succ, List.getElem?_cons_zero]; exact rfl
      · intro K hK
        go_simp
        go_wp2_with ((go_at_call 215; refine (hib_new' _).mono ?_; rintro e wl ⟨bl, rfl, hA, hK⟩; replace HCUR := Lib.hid (HCUR.out.add hK hA).first; clear hA hK))
        refine hK.out _ _ ?_ (fun hHeld => ?_)
        · (try dsimp only); (try trivial)
        clear hK K
        refine wpAnyM_ready (rs := [2, 6]) (by kernel_rfl) (by simp) ?_
        refine AllReadyM.cons (o := ?_) ?_ ?_ ?_
        rotate_left 1
        · simp only [List.getElem?_toArray, List.getElem?_cons_succ, List.getElem?_cons_zero]; exact rfl
        · intro K hK
          go_simp
          go_wp2_with ((go_at_call 215; refine (hib_new' _).mono ?_; rintro e wx ⟨br, rfl, hA, hK⟩; replace HCUR := Lib.hid (HCUR.out.add hK hA).first; clear hA hK))
          refine hK.out _ _ ?_ (fun hHeld => ?_)
          · (try dsimp only); (try trivial)
          clear hK K
          refine tkP 3 ?_; refine tkC 6 ?_
          intro K hK
          rw [if_pos (by rfl)]
          (have hn6 : n ≤ 2000000 := (by omega); have h1 := @step_gens _ _ _ HCUR.out n hn6; have h2 := fun o a K Q x y => @h1 o a K Q x y; clear h1; refine h2 _ _ _ _ (.tmp 27) (.tmp 27) ?_ ?_ ?_ ?_; clear h2; (· exact rfl); (· simp [Act.eval, Act.put]); (· simp [Act.eval, Act.put]); intro bg wg hst; replace HCUR := Lib.hid hst; clear hst)
          refine hK.out _ _ ?_ (fun hHeld => ?_)
          · (try dsimp only); (try trivial)
          clear hK K
          (try simp only [List.getElem_toArray, List.getElem_cons_succ, List.getElem_cons_zero, Act.put, List.setIfInBounds_toArray, List.set_cons_zero, List.set_cons_succ])
          refine tkP 7 ?_; refine tkC 8 ?_
          intro K hK
          go_simp
          refine hK.out _ _ ?_ (fun hHeld => ?_)
          · (try dsimp only); (try trivial)
          clear hK K
          refine tkF 9 ?_
          intro K hK
          go_simp
          refine hK.out _ _ ?_
          clear hK K
          refine wpAnyM_done (by kernel_rfl) ?_ _
          go_wp2_with fail
          go_meet
          case rel =>
            refine ⟨_, ⟨bf, bl, br, bg, n⟩, rfl, new_fin ?_⟩
            have h := HCUR.out.box0 #[.pointer (some ⟨bf, 0, none⟩), .pointer (some ⟨bl, 0, none⟩), .pointer (some ⟨br, 0, none⟩), .int .i64 (top : Nat), .slice (some ⟨bg, 0, none⟩) n n, .int .i64 0] 190
            first
              | exact St.sel (P := [_, _, _, _, _]) (R := L) [0, 4, 3, 2, 1] h (by decide) rfl rfl
              | exact St.sel (P := [_, _, _, _, _]) (R := L) [0, 3, 2, 1, 4] h (by decide) rfl rfl
              | exact St.sel (P := [_, _, _, _, _]) (R := L) [0, 4, 2, 1, 3] h (by decide) rfl rfl
              | exact St.sel (P := [_, _, _, _, _]) (R := L) [0, 4, 3, 1, 2] h (by decide) rfl rfl
        refine AllReadyM.cons (o := ?_) ?_ ?_ ?_
        rotate_left 1
        · simp only [List.getElem?_toArray, List.getElem?_cons_succ, List.getElem?_cons_zero]; exact rfl
        · intro K hK
          rw [if_pos (by rfl)]
          (have hn6 : n ≤ 2000000 := (by omega); have h1 := @step_gens _ _ _ HCUR.out n hn6; have h2 := fun o a K Q x y => @h1 o a K Q x y; clear h1; refine h2 _ _ _ _ (.tmp 27) (.tmp 27) ?_ ?_ ?_ ?_; clear h2; (· exact rfl); (· simp [Act.eval, Act.put]); (· simp [Act.eval, Act.put]); intro bg wg hst; replace HCUR := Lib.hid hst; clear hst)
          refine hK.out _ _ ?_ (fun hHeld => ?_)
          · (try dsimp only); (try trivial)
          clear hK K
          (try simp only [List.getElem_toArray, List.getElem_cons_succ, List.getElem_cons_zero, Act.put, List.setIfInBounds_toArray, List.set_cons_zero, List.set_cons_succ])
          refine tkC 2 ?_
          intro K hK
          go_simp
          go_wp2_with ((go_at_call 215; refine (hib_new' _).mono ?_; rintro e wx ⟨br, rfl, hA, hK⟩; replace HCUR := Lib.hid (HCUR.out.add hK hA).first; clear hA hK))
          refine hK.out _ _ ?_ (fun hHeld => ?_)
          · (try dsimp only); (try trivial)
          clear hK K
          refine tkP 3 ?_; refine tkP 7 ?_; refine tkC 8 ?_
          intro K hK
          go_simp
          refine hK.out _ _ ?_ (fun hHeld => ?_)
          · (try dsimp only); (try trivial)
          clear hK K
          refine tkF 9 ?_
          intro K hK
          go_simp
          refine hK.out _ _ ?_
          clear hK K
          refine wpAnyM_done (by kernel_rfl) ?_ _
          go_wp2_with fail
          go_meet
          case rel =>
            refine ⟨_, ⟨bf, bl, br, bg, n⟩, rfl, new_fin ?_⟩
            have h := HCUR.out.box0 #[.pointer (some ⟨bf, 0, none⟩), .pointer (some ⟨bl, 0, none⟩), .pointer (some ⟨br, 0, none⟩), .int .i64 (top : Nat), .slice (some ⟨bg, 0, none⟩) n n, .int .i64 0] 190
            first
              | exact St.sel (P := [_, _, _, _, _]) (R := L) [0, 4, 3, 2, 1] h (by decide) rfl rfl
              | exact St.sel (P := [_, _, _, _, _]) (R := L) [0, 3, 2, 1, 4] h (by decide) rfl rfl
              | exact St.sel (P := [_, _, _, _, _]) (R := L) [0, 4, 2, 1, 3] h (by decide) rfl rfl
              | exact St.sel (P := [_, _, _, _, _]) (R := L) [0, 4, 3, 1, 2] h (by decide) rfl rfl
        exact AllReadyM.nil
      refine AllReadyM.cons (o := ?_) ?_ ?_ ?_
      rotate_left 1
      · simp only [List.getElem?_toArray, List.getElem?_cons_succ, List.getElem?_cons_zero]; exact rfl
      · intro K hK
        rw [if_pos (by rfl)]
        (have hn6 : n ≤ 2000000 := (by omega); have h1 := @step_gens _ _ _ HCUR.out n hn6; have h2 := fun o a K Q x y => @h1 o a K Q x y; clear h1; refine h2 _ _ _ _ (.tmp 27) (.tmp 27) ?_ ?_ ?_ ?_; clear h2; (· exact rfl); (· simp [Act.eval, Act.put]); (· simp [Act.eval, Act.put]); intro bg wg hst; replace HCUR := Lib.hid hst; clear hst)
        refine hK.out _ _ ?_ (fun hHeld => ?_)
        · (try dsimp only); (try trivial)
        clear hK K
        (try simp only [List.getElem_toArray, List.getElem_cons_succ, List.getElem_cons_zero, Act.put, List.setIfInBounds_toArray, List.set_cons_zero, List.set_cons_succ])
        refine tkC 1 ?_
        intro K hK
        go_simp
        go_wp2_with ((go_at_call 215; refine (hib_new' _).mono ?_; rintro e wl ⟨bl, rfl, hA, hK⟩; replace HCUR := Lib.hid (HCUR.out.add hK hA).first; clear hA hK))
        refine hK.out _ _ ?_ (fun hHeld => ?_)
        · (try dsimp only); (try trivial)
        clear hK K
        refine tkC 2 ?_
        intro K hK
        go_simp
        go_wp2_with ((go_at_call 215; refine (hib_new' _).mono ?_; rintro e wx ⟨br, rfl, hA, hK⟩; replace HCUR := Lib.hid (HCUR.out.add hK hA).first; clear hA hK))
        refine hK.out _ _ ?_ (fun hHeld => ?_)
        · (try dsimp only); (try trivial)
        clear hK K
        refine tkP 3 ?_; refine tkP 7 ?_; refine tkC 8 ?_
        intro K hK
        go_simp
        refine hK.out _ _ ?_ (fun hHeld => ?_)
        · (try dsimp only); (try trivial)
        clear hK K
        refine tkF 9 ?_
        intro K hK
        go_simp
        refine hK.out _ _ ?_
        clear hK K
        refine wpAnyM_done (by kernel_rfl) ?_ _
        go_wp2_with fail
        go_meet
        case rel =>
          refine ⟨_, ⟨bf, bl, br, bg, n⟩, rfl, new_fin ?_⟩
          have h := HCUR.out.box0 #[.pointer (some ⟨bf, 0, none⟩), .pointer (some ⟨bl, 0, none⟩), .pointer (some ⟨br, 0, none⟩), .int .i64 (top : Nat), .slice (some ⟨bg, 0, none⟩) n n, .int .i64 0] 190
          first
            | exact St.sel (P := [_, _, _, _, _]) (R := L) [0, 4, 3, 2, 1] h (by decide) rfl rfl
            | exact St.sel (P := [_, _, _, _, _]) (R := L) [0, 3, 2, 1, 4] h (by decide) rfl rfl
            | exact St.sel (P := [_, _, _, _, _]) (R := L) [0, 4, 2, 1, 3] h (by decide) rfl rfl
            | exact St.sel (P := [_, _, _, _, _]) (R := L) [0, 4, 3, 1, 2] h (by decide) rfl rfl
      exact AllReadyM.nil
    refine AllReadyM.cons (o := ?_) ?_ ?_ ?_
    rotate_left 1
    · simp only [List.getElem?_toArray, List.getElem?_cons_succ, List.getElem?_cons_zero]; exact rfl
    · intro K hK
      rw [if_pos (by rfl)]
      (have hn6 : n ≤ 2000000 := (by omega); have h1 := @step_gens _ _ _ HCUR.out n hn6; have h2 := fun o a K Q x y => @h1 o a K Q x y; clear h1; refine h2 _ _ _ _ (.tmp 27) (.tmp 27) ?_ ?_ ?_ ?_; clear h2; (· exact rfl); (· simp [Act.eval, Act.put]); (· simp [Act.eval, Act.put]); intro bg wg hst; replace HCUR := Lib.hid hst; clear hst)
      refine hK.out _ _ ?_ (fun hHeld => ?_)
      · (try dsimp only); (try trivial)
      clear hK K
      (try simp only [List.getElem_toArray, List.getElem_cons_succ, List.getElem_cons_zero, Act.put, List.setIfInBounds_toArray, List.set_cons_zero, List.set_cons_succ])
      refine tkC 0 ?_
      intro K hK
      go_simp
      go_wp2_with ((go_at_call 215; refine (hib_new' _).mono ?_; rintro e wf ⟨bf, rfl, hA, hK⟩; replace HCUR := Lib.hid (HCUR.out.add hK hA).first; clear hA hK))
      refine hK.out _ _ ?_ (fun hHeld => ?_)
      · (try dsimp only); (try trivial)
      clear hK K
      refine tkC 1 ?_
      intro K hK
      go_simp
      go_wp2_with ((go_at_call 215; refine (hib_new' _).mono ?_; rintro e wl ⟨bl, rfl, hA, hK⟩; replace HCUR := Lib.hid (HCUR.out.add hK hA).first; clear hA hK))
      refine hK.out _ _ ?_ (fun hHeld => ?_)
      · (try dsimp only); (try trivial)
      clear hK K
      refine tkC 2 ?_
      intro K hK
      go_simp
      go_wp2_with ((go_at_call 215; refine (hib_new' _).mono ?_; rintro e wx ⟨br, rfl, hA, hK⟩; replace HCUR := Lib.hid (HCUR.out.add hK hA).first; clear hA hK))
      refine hK.out _ _ ?_ (fun hHeld => ?_)
      · (try dsimp only); (try trivial)
      clear hK K
      refine tkP 3 ?_; refine tkP 7 ?_; refine tkC 8 ?_
      intro K hK
      go_simp
      refine hK.out _ _ ?_ (fun hHeld => ?_)
      · (try dsimp only); (try trivial)
      clear hK K
      refine tkF 9 ?_
      intro K hK
      go_simp
      refine hK.out _ _ ?_
      clear hK K
      refine wpAnyM_done (by kernel_rfl) ?_ _
      go_wp2_with fail
      go_meet
      case rel =>
        refine ⟨_, ⟨bf, bl, br, bg, n⟩, rfl, new_fin ?_⟩
        have h := HCUR.out.box0 #[.pointer (some ⟨bf, 0, none⟩), .pointer (some ⟨bl, 0, none⟩), .pointer (some ⟨br, 0, none⟩), .int .i64 (top : Nat), .slice (some ⟨bg, 0, none⟩) n n, .int .i64 0] 190
        first
          | exact St.sel (P := [_, _, _, _, _]) (R := L) [0, 4, 3, 2, 1] h (by decide) rfl rfl
          | exact St.sel (P := [_, _, _, _, _]) (R := L) [0, 3, 2, 1, 4] h (by decide) rfl rfl
          | exact St.sel (P := [_, _, _, _, _]) (R := L) [0, 4, 2, 1, 3] h (by decide) rfl rfl
          | exact St.sel (P := [_, _, _, _, _]) (R := L) [0, 4, 3, 1, 2] h (by decide) rfl rfl
    exact AllReadyM.nil
  case rest =>
    obtain ⟨b, p, rfl, hst⟩ := hcut
    have HST := Lib.hid hst
    clear hst HH
    go_wp2_with fail
    go_loopg [32] n (fun g v32 wr => LoopNew w0 L b n top p g v32 wr)
    case atStart => exact ⟨0, rfl, rfl, HST.out⟩
    case round =>
      obtain ⟨k, hg, rfl, hst⟩ := hrel
      have HG := Lib.hid hg
      have HSK := Lib.hid hst
      clear hg hst HST
      by_cases hlt : k < n
      · have HOK := Lib.hid (newAt_ok h1 h2 h3 h4 (Nat.le_of_lt hlt))
        have c0 : wr.cell? ⟨b, 0, none⟩ = some (.pointer (some ⟨p.f, 0, none⟩)) := by rw [(HSK.out.blk 0 rfl).cell]; rfl
        go_wp2_with (go_at_call 123; refine (hib_add HSK.out 1 rfl HOK.out.f64 k (by omega)).mono ?_; rintro e w2 ⟨rfl, h2'⟩; have H2 := Lib.hid h2'; clear h2' c0)
        go_roundg (n - (k + 1))
        case measure => have := HG.out; omega
        case rel =>
          refine ⟨k + 1, by have := HG.out; omega, by go_num, ?_⟩
          unfold alL
          rw [show (newAt n top (k + 1)).free = addW (newAt n top k).free k from fullW_succ k]
          exact H2.out
      · have hkn : k = n := by have := HG.out; omega
        subst hkn
        go_wp2_with fail
        go_ret2
        refine ⟨b, rfl, ?_⟩
        exact St.pack (alL b (newAl k top)) p HSK.out
end Go.Proofs.YtkiikblpgppmkaaGreatDoor

namespace Go.Proofs.YtkiikblpgppmkaaGreatDoor
open Go Go.RowKit
set_option linter.unusedVariables false
set_option linter.unusedSimpArgs false

/-- A value. -/
structure VV where
  k : Int
  a : Int
  b : Int
deriving DecidableEq
def VV.val (v : VV) : Value := .agg #[.int .i64 v.k, .int .i64 v.a, .int .i64 v.b]
def tagV : VV := ⟨3, 0, 0⟩
def zVV : VV := ⟨0, 0, 0⟩
def updV (f : Nat → VV) (k : Nat) (v : VV) : Nat → VV := fun j => if j = k then v else f j
/-- What was there. -/
def hadV (m : Nat) (f : Nat → VV) (k : Nat) : VV := if m.testBit k then f k else zVV
theorem St.box2 {w0 w : World} {L : List Asr} (h : St w0 w L) (c1 c2 : Array Value) (t1 t2 : TypeId) : St w0 ((w.alloc (.cells c1 t1)).alloc (.cells c2 t2)) (blkA (w.heap.size + 1) c2 t2 :: blkA w.heap.size c1 t1 :: L) := by
  have h2 := (h.box0 c1 t1).box0 c2 t2
  rwa [World.size_alloc] at h2
theorem St.box3 {w0 w : World} {L : List Asr} (h : St w0 w L) (c1 c2 c3 : Array Value) (t1 t2 t3 : TypeId) : St w0 (((w.alloc (.cells c1 t1)).alloc (.cells c2 t2)).alloc (.cells c3 t3)) (blkA (w.heap.size + 1 + 1) c3 t3 :: blkA (w.heap.size + 1) c2 t2 :: blkA w.heap.size c1 t1 :: L) := by
  have h2 := (h.box2 c1 c2 t1 t2).box0 c3 t3
  rwa [World.size_alloc, World.size_alloc] at h2
end Go.Proofs.YtkiikblpgppmkaaGreatDoor

namespace Go.Proofs.YtkiikblpgppmkaaGreatDoor
open Go Go.RowKit
set_option linter.unusedVariables false
set_option linter.unusedSimpArgs false

structure RowV where
  i : Nat
  v : VV
def RowV.cells (x : RowV) : List Value := [.int .i64 (x.i : Nat), .int .i64 x.v.k, .int .i64 x.v.a, .int .i64 x.v.b]
def flatRow (l : List RowV) : List Value := l.flatMap RowV.cells
theorem flatRow_app (a b : List RowV) : flatRow (a ++ b) = flatRow a ++ flatRow b := by simp [flatRow]
structure DenOk (L : List RowV) (D : MapD) (m : Nat) (f : Nat → VV) : Prop where
  inj : ∀ (p q : Nat) (x y : RowV), L[p]? = some x → L[q]? = some y → x.i = y.i → p = q
  lt : ∀ (p : Nat) (x : RowV), L[p]? = some x → x.i < 64
  bit : ∀ k, m.testBit k = true ↔ ∃ (p : Nat) (x : RowV), L[p]? = some x ∧ x.i = k
  val : ∀ (p : Nat) (x : RowV), L[p]? = some x → f x.i = x.v
  has : ∀ k : Nat, Maps.has D (iK k) = m.testBit k
  pos : ∀ (p : Nat) (x : RowV), L[p]? = some x → D.atKey (iK x.i) (iD 0) = iD (p : Nat)
  tidy : Maps.Tidy D
  size : Maps.size D = L.length
  len : L.length = pop m
theorem iK_key (i : Int) : WideAt.IsKeyLit (iK i) := trivial
theorem iK_ne {i j : Nat} (h : i ≠ j) : iK (i : Nat) ≠ iK (j : Nat) := fun e => h (by unfold iK at e; injection e with _ e; omega)
theorem DenOk.start (f : Nat → VV) : DenOk [] (.map []) 0 f := ⟨fun _ _ _ _ h => by simp at h, fun _ _ h => by simp at h, fun k => by simp, fun _ _ h => by simp at h, fun k => by simp [Maps.has], fun _ _ h => by simp at h, Maps.tidy_empty, rfl, rfl⟩
theorem DenOk.le {L : List RowV} {D : MapD} {m : Nat} {f : Nat → VV} (h : DenOk L D m f) : L.length ≤ 64 := by rw [h.len]; exact pop_le _
/-- The place of one that is there. -/
theorem DenOk.find {L : List RowV} {D : MapD} {m : Nat} {f : Nat → VV} (h : DenOk L D m f) {k : Nat} {c : Int} (hb : m.testBit k = true) (hc : D.atKey (iK k) (iD 0) = iD c) : ∃ p : Nat, c = (p : Int) ∧ L[p]? = some ⟨k, f k⟩ := by
  obtain ⟨p, x, hx, rfl⟩ := (h.bit k).1 hb
  refine ⟨p, ?_, ?_⟩
  · have := h.pos p x hx
    rw [hc] at this
    unfold iD at this
    injection this with e
    injection e
  · rw [hx, h.val p x hx]
theorem DenOk.set {L : List RowV} {D : MapD} {m : Nat} {f : Nat → VV} (h : DenOk L D m f) (hm : m < 2 ^ 64) {k p : Nat} (hp : L[p]? = some ⟨k, f k⟩) (v : VV) : DenOk (L.set p ⟨k, v⟩) D (addW m k) (updV f k v) := by
  have hpl := (List.getElem?_eq_some_iff.1 hp).1
  have hk := h.lt p _ hp
  have hb : m.testBit k = true := (h.bit k).2 ⟨p, _, hp, rfl⟩
  have hadd : addW m k = m := addW_has hm hb hk
  have hg : ∀ (q : Nat) (x : RowV), (L.set p ⟨k, v⟩)[q]? = some x → ∃ y : RowV, L[q]? = some y ∧ y.i = x.i ∧ (updV f k v) x.i = x.v := fun q x hq => by
    by_cases e : p = q
    · subst e
      rw [List.getElem?_set_self hpl] at hq
      cases hq
      exact ⟨_, hp, rfl, by simp [updV]⟩
    · rw [List.getElem?_set_ne e] at hq
      refine ⟨x, hq, rfl, ?_⟩
      have hne : x.i ≠ k := fun e2 => e (h.inj p q _ x hp hq e2.symm)
      simp [updV, hne, h.val q x hq]
  have hs : ∀ (q : Nat) (y : RowV), L[q]? = some y → ∃ x : RowV, (L.set p ⟨k, v⟩)[q]? = some x ∧ x.i = y.i := fun q y hq => by
    by_cases e : p = q
    · subst e
      rw [hp] at hq
      cases hq
      exact ⟨_, List.getElem?_set_self hpl, rfl⟩
    · exact ⟨y, by rw [List.getElem?_set_ne e]; exact hq, rfl⟩
  rw [hadd]
  refine ⟨fun q r x y hq hr e => ?_, fun q x hq => ?_, fun j => ?_, fun q x hq => ?_, h.has, fun q x hq => ?_, h.tidy, by rw [List.length_set]; exact h.size, by rw [List.length_set]; exact h.len⟩
  · obtain ⟨x', hx', ex, _⟩ := hg q x hq
    obtain ⟨y', hy', ey, _⟩ := hg r y hr
    exact h.inj q r x' y' hx' hy' (by rw [ex, ey, e])
  · obtain ⟨x', hx', ex, _⟩ := hg q x hq
    rw [← ex]
    exact h.lt q x' hx'
  · rw [h.bit j]
    constructor
    · rintro ⟨q, y, hy, rfl⟩
      obtain ⟨x, hx, e⟩ := hs q y hy
      exact ⟨q, x, hx, e⟩
    · rintro ⟨q, x, hx, rfl⟩
      obtain ⟨y, hy, e, _⟩ := hg q x hx
      exact ⟨q, y, hy, e⟩
  · exact (hg q x hq).choose_spec.2.2
  · obtain ⟨y, hy, e, _⟩ := hg q x hq
    rw [← e]
    exact h.pos q y hy
theorem DenOk.add {L : List RowV} {D : MapD} {m : Nat} {f : Nat → VV} (h : DenOk L D m f) (hm : m < 2 ^ 64) {k : Nat} (hk : k < 64) (hb : m.testBit k = false) (v : VV) : DenOk (L ++ [⟨k, v⟩]) (D.put (iK k) (iD (L.length : Nat))) (addW m k) (updV f k v) := by
  have hno : ∀ (p : Nat) (x : RowV), L[p]? = some x → x.i ≠ k := fun p x hx e => by
    have := (h.bit k).2 ⟨p, x, hx, e⟩
    rw [hb] at this
    cases this
  have hg : ∀ (q : Nat) (x : RowV), (L ++ [(⟨k, v⟩ : RowV)])[q]? = some x → (L[q]? = some x ∧ q < L.length) ∨ (q = L.length ∧ x = ⟨k, v⟩) := fun q x hq => by
    rw [List.getElem?_append] at hq
    split at hq
    · rename_i hl
      exact .inl ⟨hq, hl⟩
    · rename_i hl
      have hl2 := (List.getElem?_eq_some_iff.1 hq).1
      simp only [List.length_cons, List.length_nil] at hl2
      have e : q = L.length := by omega
      subst e
      simp at hq
      exact .inr ⟨rfl, hq.symm⟩
  have hkl : Maps.has D (iK k) = false := by rw [h.has]; exact hb
  refine ⟨fun q r x y hq hr e => ?_, fun q x hq => ?_, fun j => ?_, fun q x hq => ?_, fun j => ?_, fun q x hq => ?_, h.tidy.put (iK_key _) _, ?_, ?_⟩
  · rcases hg q x hq with ⟨h1, _⟩ | ⟨rfl, rfl⟩ <;> rcases hg r y hr with ⟨h2, _⟩ | ⟨rfl, rfl⟩
    · exact h.inj q r x y h1 h2 e
    · exact absurd e (hno q x h1)
    · exact absurd e.symm (hno r y h2)
    · rfl
  · rcases hg q x hq with ⟨h1, _⟩ | ⟨rfl, rfl⟩
    · exact h.lt q x h1
    · exact hk
  · rw [bit_add]
    simp only [Bool.or_eq_true, decide_eq_true_eq, h.bit j]
    constructor
    · rintro (⟨p, x, hx, e⟩ | e)
      · exact ⟨p, x, by rw [List.getElem?_append_left (List.getElem?_eq_some_iff.1 hx).1]; exact hx, e⟩
      · exact ⟨L.length, ⟨k, v⟩, by simp, e.symm⟩
    · rintro ⟨q, x, hq, e⟩
      rcases hg q x hq with ⟨h1, _⟩ | ⟨rfl, rfl⟩
      · exact .inl ⟨q, x, h1, e⟩
      · exact .inr e.symm
  · rcases hg q x hq with ⟨h1, _⟩ | ⟨rfl, rfl⟩
    · simp [updV, hno q x h1, h.val q x h1]
    · simp [updV]
  · rw [bit_add]
    by_cases e : k = j
    · subst e
      rw [Maps.has_put_same h.tidy.isMap (iK_key _)]
      simp
    · rw [Maps.has_put_other (iK_ne (fun e' => e e'.symm)), h.has j]
      have e3 : ¬ j = k := fun e' => e e'.symm
      simp [e3]
  · rcases hg q x hq with ⟨h1, _⟩ | ⟨rfl, rfl⟩
    · rw [Maps.atKey_put_other (iK_ne (hno q x h1))]
      exact h.pos q x h1
    · exact Maps.atKey_put_same h.tidy.isMap (iK_key _) _ _
  · rw [Maps.size_put h.tidy, hkl, h.size, List.length_append]
    rfl
  · rw [List.length_append, h.len, pop_add hk hb]
    rfl
/-- What a take leaves: the last comes to its place. -/
theorem DenOk.del {L : List RowV} {D : MapD} {m : Nat} {f : Nat → VV} (h : DenOk L D m f) (hm : m < 2 ^ 64) {k p n : Nat} (hp : L[p]? = some ⟨k, f k⟩) (hn : L.length = n + 1) {y : RowV} (hy : L[n]? = some y) :
    DenOk ((L.set p y).take n) ((D.put (iK (y.i : Nat)) (iD (p : Nat))).del (iK (k : Nat))) (delW m k) f ∧ Maps.size (D.put (iK (y.i : Nat)) (iD (p : Nat))) = L.length := by
  have hpl := (List.getElem?_eq_some_iff.1 hp).1
  have hk : k < 64 := h.lt p _ hp
  have hb : m.testBit k = true := (h.bit k).2 ⟨p, _, hp, rfl⟩
  have hyb : m.testBit y.i = true := (h.bit y.i).2 ⟨n, _, hy, rfl⟩
  have hyl := h.lt n y hy
  have hsz : Maps.size (D.put (iK (y.i : Nat)) (iD (p : Nat))) = L.length := by
    rw [Maps.size_put h.tidy, h.has, hyb, if_pos rfl, h.size]
  have hT2 : Maps.Tidy (D.put (iK (y.i : Nat)) (iD (p : Nat))) := h.tidy.put (iK_key _) _
  have hhas : ∀ j : Nat, Maps.has ((D.put (iK (y.i : Nat)) (iD (p : Nat))).del (iK (k : Nat))) (iK j) = (m.testBit j && decide (j ≠ k)) := fun j => by
    by_cases e : j = k
    · subst e
      rw [Maps.has_del_same]
      simp
    · rw [Maps.has_del_other (iK_ne e)]
      by_cases e2 : j = y.i
      · subst e2
        rw [Maps.has_put_same h.tidy.isMap (iK_key _)]
        simp [hyb, e]
      · rw [Maps.has_put_other (iK_ne e2), h.has j]
        simp [e]
  have hbit : ∀ j, (delW m k).testBit j = (m.testBit j && decide (j ≠ k)) := fun j => by
    by_cases hj : j < 64
    · rw [bit_del m k hj]
      by_cases e : j = k <;> simp [e]
    · rw [bit_del_ge m k (by omega)]
      have : m.testBit j = false := by
        cases e : m.testBit j with
        | false => rfl
        | true =>
          obtain ⟨q, x, hx, rfl⟩ := (h.bit j).1 e
          exact absurd (h.lt q x hx) hj
      rw [this]
      rfl
  -- a row of what is left is one of those that were there, not the one that went
  have hg : ∀ (q : Nat) (x : RowV), ((L.set p y).take n)[q]? = some x → q < n ∧ ∃ r, L[r]? = some x ∧ r ≠ p ∧ r = (if q = p then n else q) := fun q x hq => by
    have hql : q < n := by
      have := (List.getElem?_eq_some_iff.1 hq).1
      rw [List.length_take] at this
      omega
    rw [List.getElem?_take_of_lt hql] at hq
    refine ⟨hql, ?_⟩
    by_cases e : p = q
    · subst e
      rw [List.getElem?_set_self hpl] at hq
      cases hq
      exact ⟨n, hy, by omega, by simp⟩
    · rw [List.getElem?_set_ne e] at hq
      exact ⟨q, hq, fun e' => e e'.symm, by rw [if_neg (fun e' => e e'.symm)]⟩
  have hs : ∀ (r : Nat) (x : RowV), L[r]? = some x → r ≠ p → ∃ q, ((L.set p y).take n)[q]? = some x := fun r x hr hne => by
    have hrl := (List.getElem?_eq_some_iff.1 hr).1
    by_cases e : r = n
    · subst e
      rw [hy] at hr
      cases hr
      have hpr : p < r := by omega
      exact ⟨p, by rw [List.getElem?_take_of_lt hpr, List.getElem?_set_self hpl]⟩
    · exact ⟨r, by rw [List.getElem?_take_of_lt (by omega), List.getElem?_set_ne (fun e' => hne e'.symm)]; exact hr⟩
  have hne : ∀ (r : Nat) (x : RowV), L[r]? = some x → r ≠ p → x.i ≠ k := fun r x hr hrp e => hrp (h.inj r p x _ hr hp e)
  refine ⟨⟨fun q r x z hq hr e => ?_, fun q x hq => ?_, fun j => ?_, fun q x hq => ?_, fun j => by rw [hhas, hbit], fun q x hq => ?_, hT2.del _, ?_, ?_⟩, hsz⟩
  · obtain ⟨hq1, q', hq2, _, eq⟩ := hg q x hq
    obtain ⟨hr1, r', hr2, _, er⟩ := hg r z hr
    have := h.inj q' r' x z hq2 hr2 e
    rw [eq, er] at this
    split at this <;> split at this <;> omega
  · obtain ⟨_, q', hq2, _⟩ := hg q x hq
    exact h.lt q' x hq2
  · rw [hbit]
    simp only [Bool.and_eq_true, decide_eq_true_eq]
    constructor
    · rintro ⟨hj, hjk⟩
      obtain ⟨r, x, hr, rfl⟩ := (h.bit j).1 hj
      have hrp : r ≠ p := fun e => by
        subst e
        rw [hp] at hr
        cases hr
        exact hjk rfl
      obtain ⟨q, hq⟩ := hs r x hr hrp
      exact ⟨q, x, hq, rfl⟩
    · rintro ⟨q, x, hq, rfl⟩
      obtain ⟨_, r, hr, hrp, _⟩ := hg q x hq
      exact ⟨(h.bit _).2 ⟨r, x, hr, rfl⟩, hne r x hr hrp⟩
  · obtain ⟨_, r, hr, _⟩ := hg q x hq
    exact h.val r x hr
  · obtain ⟨hql, r, hr, hrp, er⟩ := hg q x hq
    rw [Maps.atKey_del_other (iK_ne (hne r x hr hrp))]
    by_cases e : q = p
    · rw [if_pos e] at er
      subst er
      rw [hy] at hr
      cases hr
      rw [Maps.atKey_put_same h.tidy.isMap (iK_key _), e]
    · rw [if_neg e] at er
      subst er
      have hxy : x.i ≠ y.i := fun e2 => by
        have := h.inj r n x y hr hy e2
        omega
      rw [Maps.atKey_put_other (iK_ne hxy)]
      exact h.pos r x hr
  · have h1 := Maps.size_del (k := iK (k : Nat)) hT2
    have h2 : Maps.has (D.put (iK (y.i : Nat)) (iD (p : Nat))) (iK (k : Nat)) = true := by
      by_cases e : k = y.i
      · subst e
        exact Maps.has_put_same h.tidy.isMap (iK_key _) _
      · rw [Maps.has_put_other (iK_ne e), h.has k]
        exact hb
    rw [h2, if_pos rfl, hsz] at h1
    rw [List.length_take, List.length_set]
    omega
  · have h1 := pop_del hk hb
    rw [List.length_take, List.length_set]
    have := h.len
    omega
end Go.Proofs.YtkiikblpgppmkaaGreatDoor

namespace Go.Proofs.YtkiikblpgppmkaaGreatDoor
open Go Go.RowKit
set_option linter.unusedVariables false
set_option linter.unusedSimpArgs false

structure DenB where
  bm : Nat
  a : Option Addr
  c : Nat
def denL (b : Nat) (l : List RowV) (D : MapD) (q : DenB) : List Asr := [blkA b #[.slice q.a l.length q.c, .map (some q.bm)] 433, slA 501 4 (.slice q.a l.length q.c) l.length (flatRow l), mapA q.bm D]
set_option maxRecDepth 100000 in
set_option maxHeartbeats 1000000 in
theorem den_get {w0 w : World} {R : List Asr} {b m : Nat} {l : List RowV} {D : MapD} {q : DenB} {f : Nat → VV} (H : St w0 w (denL b l D q ++ R)) (hD : DenOk l D m f) (k : Nat) (hk : k < 64) :
    Calls Tryz.prog 383 #[ptr b, .int .i64 (k : Nat)] w (Ret w (.tuple #[(hadV m f k).val, .bool (m.testBit k)])) := by
  obtain ⟨bm, a, c⟩ := q
  have hk1 := (show Keep w (w.alloc (.cells #[.int .i64 0, .int .i64 0, .int .i64 0] 34)) Nope from (Keep.refl w Nope).alloc _)
  have c0 : w.cell? ⟨b, 0, none⟩ = some (.slice a l.length c) := by rw [(H.blk 0 rfl).cell]; rfl
  have c1 : w.cell? ⟨b, 1, none⟩ = some (.map (some bm)) := by rw [(H.blk 0 rfl).cell]; rfl
  obtain ⟨pc, hrun, hat⟩ := OwnsI.look ((H.keep hk1).mapOwn 2 rfl) k (by omega)
  rw [hD.has] at hrun
  have hle := hD.le
  obtain ⟨n, hn⟩ : ∃ n, l.length = n := ⟨_, rfl⟩
  rw [hn] at c0 hle
  replace c0 := hk1.cell c0 (fun f => f)
  replace c1 := hk1.cell c1 (fun f => f)
  have HN := Lib.hid hn
  cases hb : m.testBit k with
  | false =>
    rw [hb] at hrun
    unfold hadV
    rw [hb]
    clear H hD hat hn hb hk1
    unfold ptr
    go_enter Tryz.func383, Tryz.ntmps383
    go_wp2_with fail
    refine bodyPost_ret (v := .tuple #[.agg #[.int .i64 0, .int .i64 0, .int .i64 0], .bool false]) (by simp [results, Tryz.results383, go_sem]) rfl ⟨rfl, ?_⟩
    exact (show Keep w _ Nope from (by (repeat (first | exact Keep.refl _ _ | apply Keep.drew | apply Keep.drewN | apply Keep.alloc))))
  | true =>
    rw [hb] at hrun
    obtain ⟨p, rfl, hp⟩ := hD.find hb hat
    have hpl := (List.getElem?_eq_some_iff.1 hp).1
    rw [hn] at hpl
    unfold hadV
    rw [hb, if_pos rfl]
    obtain ⟨⟨vk, va, vb⟩, hv⟩ : ∃ v, f k = v := ⟨_, rfl⟩
    rw [hv] at hp ⊢
    obtain ⟨G, _, hrd, _⟩ := H.rd 1 rfl
    obtain ⟨g, o, rfl, _, hc⟩ := Rd.elem (cells := RowV.cells) (size := 4) hrd (fun _ => rfl) (by decide) hp
    have x1 : w.cell? ⟨g, o + p * 4 + 1, none⟩ = some (.int .i64 vk) := hc 1 (by decide)
    have x2 : w.cell? ⟨g, o + p * 4 + 1 + 1, none⟩ = some (.int .i64 va) := hc 2 (by decide)
    have x3 : w.cell? ⟨g, o + p * 4 + 1 + 2, none⟩ = some (.int .i64 vb) := hc 3 (by decide)
    replace x1 := hk1.cell x1 (fun f => f)
    replace x2 := hk1.cell x2 (fun f => f)
    replace x3 := hk1.cell x3 (fun f => f)
    have e0 : decide (n ≤ p) = false := decide_eq_false (by omega)
    have HP := Lib.hid hpl
    clear H hD hat hn hb hk1 hp hrd hc hv hpl
    unfold ptr VV.val
    go_enter Tryz.func383, Tryz.ntmps383
    go_wp2_with fail
    refine bodyPost_ret (v := .tuple #[.agg #[.int .i64 vk, .int .i64 va, .int .i64 vb], .bool true]) (by simp [results, Tryz.results383, go_sem]) rfl ⟨rfl, ?_⟩
    exact (show Keep w _ Nope from (by (repeat (first | exact Keep.refl _ _ | apply Keep.drew | apply Keep.drewN | apply Keep.alloc))))
end Go.Proofs.YtkiikblpgppmkaaGreatDoor

namespace Go.Proofs.YtkiikblpgppmkaaGreatDoor
open Go Go.RowKit
set_option linter.unusedVariables false
set_option linter.unusedSimpArgs false

def setL : List Value → Nat → List Value → List Value
  | xs, _, [] => xs
  | xs, j, v :: vs => setL (xs.set j v) (j + 1) vs
theorem St.storeL {w0 : World} {L : List Asr} {i g e' n c : Nat} {e : TypeId} (hn : 0 < n) : ∀ (vs : List Value) (j : Nat) (xs : List Value) (w : World), St w0 w L → L[i]? = some (slA e e' (.slice (some ⟨g, 0, none⟩) n c) n xs) → St w0 (w.setCells g j vs) (L.set i (slA e e' (.slice (some ⟨g, 0, none⟩) n c) n (setL xs j vs)))
  | [], j, xs, w, h, hi => by
    have e : L.set i (slA e e' (.slice (some ⟨g, 0, none⟩) n c) n xs) = L := by
      apply List.ext_getElem?
      intro k
      by_cases ek : i = k
      · subst ek
        rw [List.getElem?_set_self (List.getElem?_eq_some_iff.1 hi).1, hi]
      · rw [List.getElem?_set_ne ek]
    show St w0 w _
    rw [show setL xs j [] = xs from rfl, e]
    exact h
  | v :: vs, j, xs, w, h, hi => by
    have h1 := h.store1 hi hn j v
    have h2 := St.storeL (L := L.set i (slA e e' (.slice (some ⟨g, 0, none⟩) n c) n (xs.set j v))) hn vs (j + 1) (xs.set j v) _ h1 (List.getElem?_set_self (List.getElem?_eq_some_iff.1 hi).1)
    rw [List.set_set] at h2
    exact h2
theorem St.stepMid {P : Program} {w0 w : World} {L : List Asr} {i g e' n c : Nat} {e : TypeId} {xs : List Value} (H : St w0 w L) (hi : L[i]? = some (slA e e' (.slice (some ⟨g, 0, none⟩) n c) n xs)) (hn : 0 < n) {o : Oper} {a : Act} {K : Act → World → Prop} {Q : Exit → Act → World → Prop} (ty : TypeId) (x y : Operand) (ho : o.op = .store ty x y) (j : Nat) (cells : Array Value)
    (hx : a.eval x = .pointer (some ⟨g, j, none⟩)) (hy : a.eval y = .agg cells) (hs : (P.info? ty).map (·.size) = some cells.size) (h1 : cells.all (·.oneCell') = true) (hj : j + cells.size ≤ n * e')
    (h : ∀ w', St w0 w' (L.set i (slA e e' (.slice (some ⟨g, 0, none⟩) n c) n (setL xs j cells.toList))) → K (a.put o.dst undef) w') : Oper.wp P o a w K Q := by
  obtain ⟨G, hown, _, _⟩ := H.rd i hi
  obtain ⟨g', he, _, _, hf, hc, _⟩ := hown.head hn
  injection he with he
  injection he with he
  subst he
  have hlen := hown.len
  refine wp_store_mid ty x y ho g j cells hx hy (fun k hk => ⟨?_, hf _⟩) hs h1 ?_
  · rw [hc _ (by omega), List.getElem?_eq_getElem (by rw [hlen]; omega)]
    rfl
  · exact h _ (St.storeL hn cells.toList j xs w H hi)
end Go.Proofs.YtkiikblpgppmkaaGreatDoor
