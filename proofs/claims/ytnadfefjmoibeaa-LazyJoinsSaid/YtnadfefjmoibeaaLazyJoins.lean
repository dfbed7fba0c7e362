/-
  LazyJoins: queues joined one by one, or at once, make the same.
-/
import Derived.Test.YtnadfefjmoibeaaLazySt
import Derived.Deep.RegionHeld2
namespace Go.Proofs.Ytnadfefjmoibeaa
open Go Go.RowKit

theorem filter_ok' (l : List OpV) : ∀ o, o ∈ l.filter okOp → okOp o = true := fun _ ho => (List.mem_filter.1 ho).2

/-- Which of the three slices goes into the queue at place i. -/
def third (a b c : List OpV) (i : Nat) : List OpV := if i % 3 = 0 then a else if i % 3 = 1 then b else c
def cellQ (k : Nat) (bs : Nat → Nat) (i : Nat) : Value := if i < k then .pointer (some ⟨bs i, 0, none⟩) else .pointer none
/-- The claims at the head of the first loop, k queues made. -/
def LJ (bx by' bl k : Nat) (bs : Nat → Nat) (a b c : List OpV) : List Asr :=
  qA bx [] :: qA by' [] :: blkA bl #[cellQ k bs 0, cellQ k bs 1, cellQ k bs 2, cellQ k bs 3, cellQ k bs 4, cellQ k bs 5] 54 :: (List.range k).map (fun i => qA (bs i) ((third a b c i).filter okOp))
def LoopLJ (w : World) (bx by' bl : Nat) (a b c : List OpV) (g : Nat) (v10 : Value) (wr : World) : Prop :=
  ∃ (k : Nat) (bs : Nat → Nat), g + k = 6 ∧ v10 = .int .i64 k ∧ St w wr (LJ bx by' bl k bs a b c)

theorem LJ_succ (bx by' bl k : Nat) (bs : Nat → Nat) (a b c : List OpV) (bn : Nat) (hk : k < 6) (cs : Array Value)
    (hcs : cs = (#[cellQ k bs 0, cellQ k bs 1, cellQ k bs 2, cellQ k bs 3, cellQ k bs 4, cellQ k bs 5] : Array Value).setIfInBounds k (.pointer (some ⟨bn, 0, none⟩))) :
    qA bx [] :: qA by' [] :: blkA bl cs 54 :: ((List.range k).map (fun i => qA (bs i) ((third a b c i).filter okOp)) ++ [qA bn ((third a b c k).filter okOp)]) = LJ bx by' bl (k + 1) (fun i => if i = k then bn else bs i) a b c := by
  subst hcs
  unfold LJ
  congr 3
  · have : k = 0 ∨ k = 1 ∨ k = 2 ∨ k = 3 ∨ k = 4 ∨ k = 5 := by omega
    rcases this with rfl | rfl | rfl | rfl | rfl | rfl <;> simp [cellQ]
  · rw [List.range_succ, List.map_append]
    congr 1
    · refine List.map_congr_left fun i hi => ?_
      have : i ≠ k := by have := List.mem_range.1 hi; omega
      simp [this]
    · simp

def LoopLJ2 (w8 : World) (g : Nat) (v11 : Value) (wr : World) : Prop := ∃ k : Nat, g + k = 6 ∧ v11 = .int .i64 k ∧ w8 = wr

set_option maxRecDepth 100000 in
set_option maxHeartbeats 4000000 in
theorem lazyJoins_walk (va vb vc : Value) (a b c : List OpV) (w : World) (S : Nat → Prop) (ha : Rd S w va a.length (flatOp a)) (hb : Rd S w vb b.length (flatOp b)) (hc : Rd S w vc c.length (flatOp c)) (hS : ∀ i, S i → i < w.heap.size) :
    Calls Try.prog 8 #[va, vb, vc] w (RetTrue w) := by
  obtain ⟨aa, ac, rfl, g1, g2, g3, g4⟩ := id ha
  have hal : a.length ≤ 9223372036854775807 := by unfold maxLen at g2; omega
  clear g1 g2 g3 g4
  obtain ⟨ba, bc, rfl, g1, g2, g3, g4⟩ := id hb
  have hbl : b.length ≤ 9223372036854775807 := by unfold maxLen at g2; omega
  clear g1 g2 g3 g4
  obtain ⟨ca, cc, rfl, g1, g2, g3, g4⟩ := id hc
  have hcl : c.length ≤ 9223372036854775807 := by unfold maxLen at g2; omega
  clear g1 g2 g3 g4
  have HA := Lib.hid ha; clear ha
  have HBB := Lib.hid hb; clear hb
  have HCC := Lib.hid hc; clear hc
  by_cases hbig : 40 < a.length ∨ 40 < b.length ∨ 40 < c.length
  · by_cases h1 : 40 < a.length
    · have h1' : (40 : Int) < a.length := by omega
      clear hbig
      go_enter Try.func8, Try.ntmps8
      go_wp2_with fail
      refine (awake14 _).mono ?_
      rintro e w1 ⟨rfl, hk⟩
      have HK := Lib.hid hk; clear hk
      go_wp2_with fail
      go_ret
      exact ⟨rfl, HK.out⟩
    · by_cases h2 : 40 < b.length
      · have h2' : (40 : Int) < b.length := by omega
        have h1' : ¬ (40 : Int) < a.length := by omega
        clear hbig
        go_enter Try.func8, Try.ntmps8
        go_wp2_with fail
        refine (awake14 _).mono ?_
        rintro e w1 ⟨rfl, hk⟩
        have HK := Lib.hid hk; clear hk
        go_wp2_with fail
        go_ret
        exact ⟨rfl, HK.out⟩
      · have h2' : ¬ (40 : Int) < b.length := by omega
        have h1' : ¬ (40 : Int) < a.length := by omega
        have h3' : (40 : Int) < c.length := by omega
        clear hbig
        go_enter Try.func8, Try.ntmps8
        go_wp2_with fail
        refine (awake14 _).mono ?_
        rintro e w1 ⟨rfl, hk⟩
        have HK := Lib.hid hk; clear hk
        go_wp2_with fail
        go_ret
        exact ⟨rfl, HK.out⟩
  · have h1' : ¬ (40 : Int) < a.length := by omega
    have h2' : ¬ (40 : Int) < b.length := by omega
    have h3' : ¬ (40 : Int) < c.length := by omega
    have ha40 : a.length ≤ 40 := by omega
    have hb40 : b.length ≤ 40 := by omega
    have hc40 : c.length ≤ 40 := by omega
    clear hbig
    have hfa := List.length_filter_le okOp a
    have hfb := List.length_filter_le okOp b
    have hfc := List.length_filter_le okOp c
    go_enter Try.func8, Try.ntmps8
    go_wp2_with fail
    refine (q_new _).mono ?_
    rintro e w1 ⟨bx, rfl, hq, hk⟩
    have H1 := Lib.hid (St.add (St.start w) hk (A := qA bx []) hq); clear hq hk
    go_wp2_with fail
    refine (q_new _).mono ?_
    rintro e w2 ⟨by', rfl, hq, hk⟩
    have H2 := Lib.hid (St.add H1.out hk (A := qA by' []) hq); clear hq hk H1
    obtain ⟨bl, hz⟩ : ∃ bl, w2.heap.size = bl := ⟨_, rfl⟩
    go_wp2_with fail
    have H3 := Lib.hid (show St w (w2.alloc (.cells #[.pointer none, .pointer none, .pointer none, .pointer none, .pointer none, .pointer none] 54)) (LJ bx by' bl 0 (fun _ => 0) a b c) from hz ▸ St.box H2.out _ _)
    clear H2 hz
    go_loopg [10] 6 (fun g v10 wr => LoopLJ w bx by' bl a b c g v10 wr)
    case atStart => exact ⟨0, fun _ => 0, rfl, rfl, H3.out⟩
    case round =>
      obtain ⟨k, bs, hk, rfl, hst⟩ := hrel
      clear H3
      have hk6 : k ≤ 6 := by omega
      have HK := Lib.hid hk; clear hk
      have H := Lib.hid hst; clear hst
      by_cases hlt : k < 6
      · obtain ⟨cs, hcs⟩ : ∃ cs : Array Value, cs = #[cellQ k bs 0, cellQ k bs 1, cellQ k bs 2, cellQ k bs 3, cellQ k bs 4, cellQ k bs 5] := ⟨_, rfl⟩
        have hck : cs[k]? = some (.pointer none) := by
          have : k = 0 ∨ k = 1 ∨ k = 2 ∨ k = 3 ∨ k = 4 ∨ k = 5 := by omega
          rcases this with rfl | rfl | rfl | rfl | rfl | rfl <;> simp [hcs, cellQ]
        have hsz6 : k < cs.size := (Array.getElem?_eq_some_iff.1 hck).1
        have hH := H.out
        unfold LJ at hH
        rw [← hcs] at hH
        have HH := Lib.hid hH; clear hH H
        have HCS := Lib.hid hcs; clear hcs
        have HCK := Lib.hid hck; clear hck
        go_wp2_with fail
        refine (st_new HH.out).mono ?_
        rintro e w4 ⟨bn, rfl, hst⟩
        have H4 := Lib.hid hst; clear hst
        have ck := (H4.out.blk 2 rfl).cell k
        rw [HCK.out] at ck
        have cf := (H4.out.blk 2 rfl).frozen k
        go_upto_region 9 with (fail)
        have hsW := St.write H4.out 2 rfl k (.pointer (some ⟨bn, 0, none⟩))
        obtain ⟨cs2, hcs2⟩ : ∃ cs2 : Array Value, cs2 = cs.setIfInBounds k (.pointer (some ⟨bn, 0, none⟩)) := ⟨_, rfl⟩
        rw [← hcs2] at hsW
        have hck2 : cs2[k]? = some (.pointer (some ⟨bn, 0, none⟩)) := by rw [hcs2]; exact Array.getElem?_setIfInBounds_self_of_lt hsz6
        have H5 := Lib.hid (show St w _ (qA bx [] :: qA by' [] :: blkA bl cs2 54 :: ((List.range k).map (fun i => qA (bs i) ((third a b c i).filter okOp)) ++ [qA bn []])) from hsW)
        have HCK2 := Lib.hid hck2; clear hck2
        have HCS2 := Lib.hid hcs2; clear hcs2
        clear hsW H4 HCK cf ck
        obtain ⟨w5, hw5⟩ : ∃ w5, w5 = w4.setCell ⟨bl, k, none⟩ (.pointer (some ⟨bn, 0, none⟩)) := ⟨_, rfl⟩
        rw [← hw5] at H5 ⊢
        clear hw5
        have ck := (H5.out.blk 2 rfl).cell k
        rw [HCK2.out] at ck
        have h3r : k % 3 = 0 ∨ k % 3 = 1 ∨ k % 3 = 2 := by omega
        have hrr : ((k : Int).tmod 3) = ((k % 3 : Nat) : Int) := by rw [Int.tmod_eq_emod_of_nonneg (by omega)]; omega
        obtain ⟨s, hs⟩ : ∃ s, s = third a b c k := ⟨_, rfl⟩
        have hidx : ∃ (sa : Option Addr) (sc : Nat), Rd S w (.slice sa s.length sc) s.length (flatOp s) := by
          rw [hs]; unfold third
          rcases h3r with h | h | h <;> simp only [h, if_true, if_false] <;> first | exact ⟨_, _, HA.out⟩ | exact ⟨_, _, HBB.out⟩ | exact ⟨_, _, HCC.out⟩
        have hs40 : s.length ≤ 40 := by rw [hs]; unfold third; split <;> (try split) <;> omega
        have hfs := List.length_filter_le okOp s
        obtain ⟨ns, hns⟩ : ∃ ns, (s.filter okOp).length = ns := ⟨_, rfl⟩
        have HNS := Lib.hid hns
        have hns40 : ns ≤ 40 := by omega
        clear hns hfs
        have h3' : (k % 3 = 0 ∧ s = a) ∨ (k % 3 = 1 ∧ s = b) ∨ (k % 3 = 2 ∧ s = c) := by
          rw [hs]; unfold third
          rcases h3r with h | h | h <;> simp [h]
        have HS3 := Lib.hid hs; clear hs h3r hidx
        go_cut [55] (fun v55 wx => v55 = .bool false ∧ St w wx (LJ bx by' bl (k + 1) (fun i => if i = k then bn else bs i) a b c))
        case first =>
          rcases h3' with ⟨h3, rfl⟩ | ⟨h3, rfl⟩ | ⟨h3, rfl⟩
          all_goals
            rw [h3] at hrr
            clear h3
            simp at hrr
            refine wp_region_held_drew (S := fun w' => w'.cell? ⟨bl, k, none⟩ = some (.pointer (some ⟨bn, 0, none⟩))) (by kernel_rfl) ?_ (fun hHeld => ?_)
            · (try dsimp only); go_keep
            refine wpAnyH_take (i := 0) (oi := ?_) (v := ?_) ?_ ?_ ?_ ?_ ?_ ?_ ?_ ?_
            rotate_left 2
            · simp only [List.getElem?_toArray, List.getElem?_cons_succ, List.getElem?_cons_zero]; exact rfl
            · kernel_rfl
            · kernel_rfl
            · kernel_rfl
            · exact fun _ _ _ h => h
            · (refine Or.inl ⟨by rfl, ?_⟩; (intro w hSw; (try dsimp only at hSw); go_simp) <;> with_reducible rfl)
            · assumption
            simp only [Act.put, List.setIfInBounds_toArray, List.set_cons_zero, List.set_cons_succ]
            refine wpAnyH_take (i := 1) (oi := ?_) (v := ?_) ?_ ?_ ?_ ?_ ?_ ?_ ?_ ?_
            rotate_left 2
            · simp only [List.getElem?_toArray, List.getElem?_cons_succ, List.getElem?_cons_zero]; exact rfl
            · kernel_rfl
            · kernel_rfl
            · kernel_rfl
            · exact fun _ _ _ h => h
            · (refine Or.inl ⟨by rfl, ?_⟩; (intro w hSw; (try dsimp only at hSw); go_simp) <;> with_reducible rfl)
            · assumption
            simp only [Act.put, List.setIfInBounds_toArray, List.set_cons_zero, List.set_cons_succ]
            refine wpAnyH_take (i := 2) (oi := ?_) (v := ?_) ?_ ?_ ?_ ?_ ?_ ?_ ?_ ?_
            rotate_left 2
            · simp only [List.getElem?_toArray, List.getElem?_cons_succ, List.getElem?_cons_zero]; exact rfl
            · kernel_rfl
            · kernel_rfl
            · kernel_rfl
            · exact fun _ _ _ h => h
            · (refine Or.inl ⟨by rfl, ?_⟩; (intro w hSw; (try dsimp only at hSw); go_simp) <;> with_reducible rfl)
            · assumption
            simp only [Act.put, List.setIfInBounds_toArray, List.set_cons_zero, List.set_cons_succ]
            refine wpAnyH_take (i := 3) (oi := ?_) (v := ?_) ?_ ?_ ?_ ?_ ?_ ?_ ?_ ?_
            rotate_left 2
            · simp only [List.getElem?_toArray, List.getElem?_cons_succ, List.getElem?_cons_zero]; exact rfl
            · kernel_rfl
            · kernel_rfl
            · kernel_rfl
            · exact fun _ _ _ h => h
            · (refine Or.inl ⟨by rfl, ?_⟩; (intro w hSw; (try dsimp only at hSw); go_simp) <;> with_reducible rfl)
            · assumption
            simp only [Act.put, List.setIfInBounds_toArray, List.set_cons_zero, List.set_cons_succ]
            refine wpAnyH_take (i := 4) (oi := ?_) (v := ?_) ?_ ?_ ?_ ?_ ?_ ?_ ?_ ?_
            rotate_left 2
            · simp only [List.getElem?_toArray, List.getElem?_cons_succ, List.getElem?_cons_zero]; exact rfl
            · kernel_rfl
            · kernel_rfl
            · kernel_rfl
            · exact fun _ _ _ h => h
            · (refine Or.inl ⟨by rfl, ?_⟩; (intro w hSw; (try dsimp only at hSw); go_simp) <;> with_reducible rfl)
            · assumption
            simp only [Act.put, List.setIfInBounds_toArray, List.set_cons_zero, List.set_cons_succ]
            refine wpAnyH_take (i := 5) (oi := ?_) (v := ?_) ?_ ?_ ?_ ?_ ?_ ?_ ?_ ?_
            rotate_left 2
            · simp only [List.getElem?_toArray, List.getElem?_cons_succ, List.getElem?_cons_zero]; exact rfl
            · kernel_rfl
            · kernel_rfl
            · kernel_rfl
            · exact fun _ _ _ h => h
            · (refine Or.inl ⟨by rfl, ?_⟩; (intro w hSw; (try dsimp only at hSw); go_simp) <;> with_reducible rfl)
            · assumption
            simp only [Act.put, List.setIfInBounds_toArray, List.set_cons_zero, List.set_cons_succ]
            refine wpAnyH_take (i := 6) (oi := ?_) (v := ?_) ?_ ?_ ?_ ?_ ?_ ?_ ?_ ?_
            rotate_left 2
            · simp only [List.getElem?_toArray, List.getElem?_cons_succ, List.getElem?_cons_zero]; exact rfl
            · kernel_rfl
            · kernel_rfl
            · kernel_rfl
            · exact fun _ _ _ h => h
            · (refine Or.inl ⟨by rfl, ?_⟩; (intro w hSw; (try dsimp only at hSw); go_simp) <;> with_reducible rfl)
            · assumption
            simp only [Act.put, List.setIfInBounds_toArray, List.set_cons_zero, List.set_cons_succ]
            refine wpAnyH_take (i := 7) (oi := ?_) (v := ?_) ?_ ?_ ?_ ?_ ?_ ?_ ?_ ?_
            rotate_left 2
            · simp only [List.getElem?_toArray, List.getElem?_cons_succ, List.getElem?_cons_zero]; exact rfl
            · kernel_rfl
            · kernel_rfl
            · kernel_rfl
            · exact fun _ _ _ h => h
            · (refine Or.inl ⟨by rfl, ?_⟩; (intro w hSw; (try dsimp only at hSw); go_simp) <;> with_reducible rfl)
            · assumption
            simp only [Act.put, List.setIfInBounds_toArray, List.set_cons_zero, List.set_cons_succ]
            refine wpAnyH_take (i := 8) (oi := ?_) (v := ?_) ?_ ?_ ?_ ?_ ?_ ?_ ?_ ?_
            rotate_left 2
            · simp only [List.getElem?_toArray, List.getElem?_cons_succ, List.getElem?_cons_zero]; exact rfl
            · kernel_rfl
            · kernel_rfl
            · kernel_rfl
            · exact fun _ _ _ h => h
            · (refine Or.inl ⟨by rfl, ?_⟩; (intro w hSw; (try dsimp only at hSw); go_simp) <;> with_reducible rfl)
            · assumption
            simp only [Act.put, List.setIfInBounds_toArray, List.set_cons_zero, List.set_cons_succ]
            refine wpAnyH_take (i := 9) (oi := ?_) (v := ?_) ?_ ?_ ?_ ?_ ?_ ?_ ?_ ?_
            rotate_left 2
            · simp only [List.getElem?_toArray, List.getElem?_cons_succ, List.getElem?_cons_zero]; exact rfl
            · kernel_rfl
            · kernel_rfl
            · kernel_rfl
            · exact fun _ _ _ h => h
            · (refine Or.inl ⟨by rfl, ?_⟩; (intro w hSw; (try dsimp only at hSw); go_simp) <;> with_reducible rfl)
            · assumption
            simp only [Act.put, List.setIfInBounds_toArray, List.set_cons_zero, List.set_cons_succ]
            refine wpAnyH_take (i := 10) (oi := ?_) (v := ?_) ?_ ?_ ?_ ?_ ?_ ?_ ?_ ?_
            rotate_left 2
            · simp only [List.getElem?_toArray, List.getElem?_cons_succ, List.getElem?_cons_zero]; exact rfl
            · kernel_rfl
            · kernel_rfl
            · kernel_rfl
            · exact fun _ _ _ h => h
            · (refine Or.inl ⟨by rfl, ?_⟩; (intro w hSw; (try dsimp only at hSw); go_simp) <;> with_reducible rfl)
            · assumption
            simp only [Act.put, List.setIfInBounds_toArray, List.set_cons_zero, List.set_cons_succ]
            refine wpAnyH_take (i := 12) (oi := ?_) (v := ?_) ?_ ?_ ?_ ?_ ?_ ?_ ?_ ?_
            rotate_left 2
            · simp only [List.getElem?_toArray, List.getElem?_cons_succ, List.getElem?_cons_zero]; exact rfl
            · kernel_rfl
            · kernel_rfl
            · kernel_rfl
            · exact fun _ _ _ h => h
            · (refine Or.inl ⟨by rfl, ?_⟩; (intro w hSw; (try dsimp only at hSw); go_simp) <;> with_reducible rfl)
            · assumption
            simp only [Act.put, List.setIfInBounds_toArray, List.set_cons_zero, List.set_cons_succ]
            refine wpAnyH_take (i := 13) (oi := ?_) (v := ?_) ?_ ?_ ?_ ?_ ?_ ?_ ?_ ?_
            rotate_left 2
            · simp only [List.getElem?_toArray, List.getElem?_cons_succ, List.getElem?_cons_zero]; exact rfl
            · kernel_rfl
            · kernel_rfl
            · kernel_rfl
            · exact fun _ _ _ h => h
            · (refine Or.inl ⟨by rfl, ?_⟩; (intro w hSw; (try dsimp only at hSw); go_simp) <;> with_reducible rfl)
            · assumption
            simp only [Act.put, List.setIfInBounds_toArray, List.set_cons_zero, List.set_cons_succ]
            refine wpAnyH_ready (rs := [11]) (by kernel_rfl) (by simp) ?_
            refine AllReadyH.cons rfl (fun K hK => ?_) AllReadyH.nil
            go_simp
            refine hK.out _ _ ?_ (fun hHeld => ?_)
            · (try dsimp only); go_keep
            clear hK K
            refine wpAnyH_take (i := 14) (oi := ?_) (v := ?_) ?_ ?_ ?_ ?_ ?_ ?_ ?_ ?_
            rotate_left 2
            · simp only [List.getElem?_toArray, List.getElem?_cons_succ, List.getElem?_cons_zero]; exact rfl
            · kernel_rfl
            · kernel_rfl
            · kernel_rfl
            · exact fun _ _ _ h => h
            · (refine Or.inl ⟨by rfl, ?_⟩; (intro w hSw; (try dsimp only at hSw); go_simp) <;> with_reducible rfl)
            · assumption
            simp only [Act.put, List.setIfInBounds_toArray, List.set_cons_zero, List.set_cons_succ]
            refine wpAnyH_ready (rs := [15]) (by kernel_rfl) (by simp) ?_
            refine AllReadyH.cons rfl (fun K hK => ?_) AllReadyH.nil
            go_simp
            refine hK.out _ _ ?_ (fun hHeld => ?_)
            · (try dsimp only); go_keep
            clear hK K
            refine wpAnyH_ready (rs := [16]) (by kernel_rfl) (by simp) ?_
            refine AllReadyH.cons rfl (fun K hK => ?_) AllReadyH.nil
            go_simp
            go_wp2_with ((go_at_call 25; refine (st_good (H5.out.keep ?kw1) _ s S ?kr hS (by omega) ns HNS.out).mono ?_; (case kw1 => (repeat (first | exact Keep.refl _ _ | apply Keep.drew | apply Keep.drewN | apply Keep.alloc))); (case kr => first | exact HA.out | exact HBB.out | exact HCC.out); rintro e wg ⟨ag, cg, rfl, hsg⟩; have HG := Lib.hid hsg; clear hsg; have ckg := (HG.out.blk 2 rfl).cell k; rw [HCK2.out] at ckg))
            refine hK.out _ _ ?_ (fun hHeld => ?_)
            · (try dsimp only); go_keep
            clear hK K
            refine wpAnyH_ready (rs := [17]) (by kernel_rfl) (by simp) ?_
            refine AllReadyH.cons rfl (fun K hK => ?_) AllReadyH.nil
            go_simp
            go_wp2_with ((go_at_call 20; obtain ⟨GS, _, hrdg, _⟩ := HG.out.rd (k + 4) (mid_last _ _ _ _ _ _ k (by simp)); refine (st_add HG.out (k + 3) (mid_get _ _ _ _ _ _ k (by simp)) GS (s.filter okOp) _ ?kr2 (filter_ok' s) ?kl).mono ?_; (case kr2 => rw [HNS.out]; exact hrdg); (case kl => rw [HNS.out]; simp; omega); rintro e wh ⟨rfl, hsh⟩; rw [mid_set _ _ _ _ _ _ _ k (by simp)] at hsh; have HE := Lib.hid (hsh.take (k + 4)); clear hsh hrdg; have cke := (HE.out.blk 2 (by rfl)).cell k; rw [HCK2.out] at cke))
            refine hK.out _ _ ?_ (fun hHeld => ?_)
            · (try dsimp only); go_keep
            clear hK K
            refine wpAnyH_take (i := 18) (oi := ?_) (v := ?_) ?_ ?_ ?_ ?_ ?_ ?_ ?_ ?_
            rotate_left 2
            · simp only [List.getElem?_toArray, List.getElem?_cons_succ, List.getElem?_cons_zero]; exact rfl
            · kernel_rfl
            · kernel_rfl
            · kernel_rfl
            · exact fun _ _ _ h => h
            · (refine Or.inl ⟨by rfl, ?_⟩; (intro w hSw; (try dsimp only at hSw); go_simp) <;> with_reducible rfl)
            · assumption
            simp only [Act.put, List.setIfInBounds_toArray, List.set_cons_zero, List.set_cons_succ]
            refine wpAnyH_take (i := 19) (oi := ?_) (v := ?_) ?_ ?_ ?_ ?_ ?_ ?_ ?_ ?_
            rotate_left 2
            · simp only [List.getElem?_toArray, List.getElem?_cons_succ, List.getElem?_cons_zero]; exact rfl
            · kernel_rfl
            · kernel_rfl
            · kernel_rfl
            · exact fun _ _ _ h => h
            · (refine Or.inl ⟨by rfl, ?_⟩; (intro w hSw; (try dsimp only at hSw); go_simp) <;> with_reducible rfl)
            · assumption
            simp only [Act.put, List.setIfInBounds_toArray, List.set_cons_zero, List.set_cons_succ]
            refine wpAnyH_done (by kernel_rfl) ?_ _
            go_wp2_with fail
            go_meet
            case rel =>
              refine ⟨rfl, ?_⟩
              have h := HE.out
              rw [mid_take _ _ _ _ _ _ k (by simp), List.nil_append] at h
              rw [← LJ_succ bx by' bl k bs _ _ _ bn hlt cs2 (by rw [HCS2.out, HCS.out]), ← HS3.out]
              exact h
        case rest =>
          obtain ⟨rfl, hst⟩ := hcut
          clear H5 HH
          have HE := Lib.hid hst; clear hst
          go_wp2_with fail
          go_roundg (6 - (k + 1))
          case measure => have := HK.out; omega
          case rel => exact ⟨k + 1, _, by omega, by go_num, HE.out⟩
      · obtain rfl : k = 6 := by omega
        have hH : St w wr [qA bx [], qA by' [], blkA bl #[.pointer (some ⟨bs 0, 0, none⟩), .pointer (some ⟨bs 1, 0, none⟩), .pointer (some ⟨bs 2, 0, none⟩), .pointer (some ⟨bs 3, 0, none⟩), .pointer (some ⟨bs 4, 0, none⟩), .pointer (some ⟨bs 5, 0, none⟩)] 54,
            qA (bs 0) (a.filter okOp), qA (bs 1) (b.filter okOp), qA (bs 2) (c.filter okOp), qA (bs 3) (a.filter okOp), qA (bs 4) (b.filter okOp), qA (bs 5) (c.filter okOp)] := H.out
        have HH := Lib.hid hH; clear hH H
        clear hlt HK hk6
        obtain ⟨b0, hb0⟩ : ∃ x, bs 0 = x := ⟨_, rfl⟩
        obtain ⟨b1, hb1⟩ : ∃ x, bs 1 = x := ⟨_, rfl⟩
        obtain ⟨b2, hb2⟩ : ∃ x, bs 2 = x := ⟨_, rfl⟩
        obtain ⟨b3, hb3⟩ : ∃ x, bs 3 = x := ⟨_, rfl⟩
        obtain ⟨b4, hb4⟩ : ∃ x, bs 4 = x := ⟨_, rfl⟩
        obtain ⟨b5, hb5⟩ : ∃ x, bs 5 = x := ⟨_, rfl⟩
        rw [hb0, hb1, hb2, hb3, hb4, hb5] at HH
        clear hb0 hb1 hb2 hb3 hb4 hb5 bs
        obtain ⟨ga, hga⟩ : ∃ x, x = a.filter okOp := ⟨_, rfl⟩
        obtain ⟨gb, hgb⟩ : ∃ x, x = b.filter okOp := ⟨_, rfl⟩
        obtain ⟨gc, hgc⟩ : ∃ x, x = c.filter okOp := ⟨_, rfl⟩
        have HOA : Hid (∀ o, o ∈ ga → okOp o = true) := by rw [hga]; exact Lib.hid (filter_ok' a)
        have HOB : Hid (∀ o, o ∈ gb → okOp o = true) := by rw [hgb]; exact Lib.hid (filter_ok' b)
        have HOC : Hid (∀ o, o ∈ gc → okOp o = true) := by rw [hgc]; exact Lib.hid (filter_ok' c)
        rw [← hga, ← hgb, ← hgc] at HH
        rw [← hga] at hfa
        rw [← hgb] at hfb
        rw [← hgc] at hfc
        have HGA := Lib.hid hga; clear hga
        have HGB := Lib.hid hgb; clear hgb
        have HGC := Lib.hid hgc; clear hgc
        obtain ⟨na, hna⟩ : ∃ x, ga.length = x := ⟨_, rfl⟩
        obtain ⟨nb, hnb⟩ : ∃ x, gb.length = x := ⟨_, rfl⟩
        obtain ⟨nc, hnc⟩ : ∃ x, gc.length = x := ⟨_, rfl⟩
        rw [hna] at hfa
        rw [hnb] at hfb
        rw [hnc] at hfc
        have hna40 : na ≤ 40 := by omega
        have hnb40 : nb ≤ 40 := by omega
        have hnc40 : nc ≤ 40 := by omega
        have HNA := Lib.hid hna; clear hna hfa
        have HNB := Lib.hid hnb; clear hnb hfb
        have HNC := Lib.hid hnc; clear hnc hfc
        have c0 := (HH.out.blk 2 rfl).cell 0
        have c1 := (HH.out.blk 2 rfl).cell 1
        have c2 := (HH.out.blk 2 rfl).cell 2
        have c3 := (HH.out.blk 2 rfl).cell 3
        have c4 := (HH.out.blk 2 rfl).cell 4
        have c5 := (HH.out.blk 2 rfl).cell 5
        simp at c0 c1 c2 c3 c4 c5
        go_wp2_with fail
        have H2 := St.lit HH.out 46 1 3 #[.pointer (some ⟨b0, 0, none⟩), .pointer (some ⟨b1, 0, none⟩), .pointer (some ⟨b2, 0, none⟩)] (by decide) rfl
        refine (st_join H2 0 [3, 4, 5] (fun i => [bx, by', 0, b0, b1, b2, b3, b4, b5].getD i 0) (fun i => [[], [], [], ga, gb, gc, ga, gb, gc].getD i []) ?j1 ?j2 9 _ ?j3 ?j4 ?j5).mono ?_
        case j1 => intro i hi; simp at hi; rcases hi with rfl | rfl | rfl | rfl <;> rfl
        case j2 => intro i hi; simp at hi; rcases hi with rfl | rfl | rfl | rfl <;> first | (intro o ho; cases ho; done) | exact HOA.out | exact HOB.out | exact HOC.out
        case j3 => rfl
        case j4 => simp
        case j5 => simp [HNA.out, HNB.out, HNC.out]; omega
        rintro e w4 ⟨rfl, hst⟩
        have H4 := Lib.hid (show St w w4 [qA bx (ga ++ (gb ++ (gc ++ []))), qA by' [], blkA bl #[.pointer (some ⟨b0, 0, none⟩), .pointer (some ⟨b1, 0, none⟩), .pointer (some ⟨b2, 0, none⟩), .pointer (some ⟨b3, 0, none⟩), .pointer (some ⟨b4, 0, none⟩), .pointer (some ⟨b5, 0, none⟩)] 54,
            qA b0 [], qA b1 [], qA b2 [], qA b3 ga, qA b4 gb, qA b5 gc] from St.take hst 9)
        clear hst H2 HH c0 c1 c2 c3 c4 c5
        have c0 := (H4.out.blk 2 rfl).cell 0
        have c1 := (H4.out.blk 2 rfl).cell 1
        have c2 := (H4.out.blk 2 rfl).cell 2
        have c3 := (H4.out.blk 2 rfl).cell 3
        have c4 := (H4.out.blk 2 rfl).cell 4
        have c5 := (H4.out.blk 2 rfl).cell 5
        simp at c0 c1 c2 c3 c4 c5
        go_wp2_with fail
        have H5 := St.lit H4.out 46 1 1 #[.pointer (some ⟨b3, 0, none⟩)] (by decide) rfl
        refine (st_join H5 1 [6] (fun i => [bx, by', 0, b0, b1, b2, b3, b4, b5].getD i 0) (fun i => [[], [], [], [], [], [], ga, gb, gc].getD i []) ?k1 ?k2 9 _ ?k3 ?k4 ?k5).mono ?_
        case k1 => intro i hi; simp at hi; rcases hi with rfl | rfl <;> rfl
        case k2 => intro i hi; simp at hi; rcases hi with rfl | rfl <;> first | (intro o ho; cases ho; done) | exact HOA.out
        case k3 => rfl
        case k4 => simp
        case k5 => simp [HNA.out]; omega
        rintro e w6 ⟨rfl, hst⟩
        have H6 := Lib.hid (show St w w6 [qA bx (ga ++ (gb ++ (gc ++ []))), qA by' (ga ++ []), blkA bl #[.pointer (some ⟨b0, 0, none⟩), .pointer (some ⟨b1, 0, none⟩), .pointer (some ⟨b2, 0, none⟩), .pointer (some ⟨b3, 0, none⟩), .pointer (some ⟨b4, 0, none⟩), .pointer (some ⟨b5, 0, none⟩)] 54,
            qA b0 [], qA b1 [], qA b2 [], qA b3 [], qA b4 gb, qA b5 gc] from St.take hst 9)
        clear hst H5 H4 c0 c1 c2 c3 c4 c5
        have c0 := (H6.out.blk 2 rfl).cell 0
        have c1 := (H6.out.blk 2 rfl).cell 1
        have c2 := (H6.out.blk 2 rfl).cell 2
        have c3 := (H6.out.blk 2 rfl).cell 3
        have c4 := (H6.out.blk 2 rfl).cell 4
        have c5 := (H6.out.blk 2 rfl).cell 5
        simp at c0 c1 c2 c3 c4 c5
        go_wp2_with fail
        have H7 := St.lit H6.out 46 1 2 #[.pointer (some ⟨b4, 0, none⟩), .pointer (some ⟨b5, 0, none⟩)] (by decide) rfl
        refine (st_join H7 1 [7, 8] (fun i => [bx, by', 0, b0, b1, b2, b3, b4, b5].getD i 0) (fun i => [[], ga ++ [], [], [], [], [], [], gb, gc].getD i []) ?l1 ?l2 9 _ ?l3 ?l4 ?l5).mono ?_
        case l1 => intro i hi; simp at hi; rcases hi with rfl | rfl | rfl <;> rfl
        case l2 => intro i hi; simp at hi; rcases hi with rfl | rfl | rfl <;> first | exact HOB.out | exact HOC.out | (intro o ho; exact HOA.out o (by simpa using ho))
        case l3 => rfl
        case l4 => simp
        case l5 => simp [HNA.out, HNB.out, HNC.out]; omega
        rintro e w8 ⟨rfl, hst⟩
        obtain ⟨T, hT⟩ : ∃ T, T = ga ++ (gb ++ gc) := ⟨_, rfl⟩
        have hT1 : ga ++ (gb ++ (gc ++ [])) = T := by rw [hT]; simp
        have hT2 : (ga ++ []) ++ (gb ++ (gc ++ [])) = T := by rw [hT]; simp
        have hst' : St w w8 [qA bx (ga ++ (gb ++ (gc ++ []))), qA by' ((ga ++ []) ++ (gb ++ (gc ++ []))), blkA bl #[.pointer (some ⟨b0, 0, none⟩), .pointer (some ⟨b1, 0, none⟩), .pointer (some ⟨b2, 0, none⟩), .pointer (some ⟨b3, 0, none⟩), .pointer (some ⟨b4, 0, none⟩), .pointer (some ⟨b5, 0, none⟩)] 54,
            qA b0 [], qA b1 [], qA b2 [], qA b3 [], qA b4 [], qA b5 []] := St.take hst 9
        rw [hT1, hT2] at hst'
        have H8 := Lib.hid hst'
        have HTL := Lib.hid (show (T.length : Int) = na + nb + nc by rw [hT]; simp [HNA.out, HNB.out, HNC.out]; omega)
        have HTO := Lib.hid (show ∀ o, o ∈ T → okOp o = true by rw [hT]; intro o ho; simp at ho; exact ho.elim (HOA.out o) (fun h => h.elim (HOB.out o) (HOC.out o)))
        clear hst' hst hT1 hT2 hT H7 H6 c0 c1 c2 c3 c4 c5
        go_wp2_with fail
        go_loopg [11] 6 (fun g v11 wr => LoopLJ2 w8 g v11 wr)
        case atStart => exact ⟨0, rfl, rfl, rfl⟩
        case round =>
          obtain ⟨k, hk, rfl, rfl⟩ := hrel
          have hk6 : k ≤ 6 := by omega
          have HK := Lib.hid hk; clear hk
          by_cases hlt : k < 6
          · have hq : ∃ bi, w8.cell? ⟨bl, k, none⟩ = some (.pointer (some ⟨bi, 0, none⟩)) ∧ Calls Try.prog 21 #[.pointer (some ⟨bi, 0, none⟩)] w8 (fun e w' => e = .returned (.int .i64 0) ∧ w8 = w') := by
              have : k = 0 ∨ k = 1 ∨ k = 2 ∨ k = 3 ∨ k = 4 ∨ k = 5 := by omega
              rcases this with rfl | rfl | rfl | rfl | rfl | rfl
              · exact ⟨b0, by simpa using (H8.out.blk 2 rfl).cell 0, st_lenN H8.out 3 rfl 0 rfl⟩
              · exact ⟨b1, by simpa using (H8.out.blk 2 rfl).cell 1, st_lenN H8.out 4 rfl 0 rfl⟩
              · exact ⟨b2, by simpa using (H8.out.blk 2 rfl).cell 2, st_lenN H8.out 5 rfl 0 rfl⟩
              · exact ⟨b3, by simpa using (H8.out.blk 2 rfl).cell 3, st_lenN H8.out 6 rfl 0 rfl⟩
              · exact ⟨b4, by simpa using (H8.out.blk 2 rfl).cell 4, st_lenN H8.out 7 rfl 0 rfl⟩
              · exact ⟨b5, by simpa using (H8.out.blk 2 rfl).cell 5, st_lenN H8.out 8 rfl 0 rfl⟩
            obtain ⟨bi, ci, hq⟩ := hq
            have HQ := Lib.hid hq; clear hq
            go_wp2_with fail
            refine HQ.out.mono ?_
            rintro e w9 ⟨rfl, rfl⟩
            go_wp2_with fail
            go_roundg (6 - (k + 1))
            case measure => have := HK.out; omega
            case rel => exact ⟨k + 1, by omega, by go_num, rfl⟩
          · clear HK
            go_wp2_with fail
            refine (st_all H8.out 0 rfl).mono ?_
            rintro e w9 ⟨ax, cx, rfl, hst⟩
            have H9 := Lib.hid hst; clear hst
            go_wp2_with fail
            refine (st_all H9.out 1 rfl).mono ?_
            rintro e w10 ⟨ay, cy, rfl, hst⟩
            have H10 := Lib.hid hst; clear hst H9
            go_wp2_with fail
            refine (st_same H10.out 9 10 rfl rfl).mono ?_
            rintro e w11 ⟨rfl, hst⟩
            have H11 := Lib.hid hst; clear hst H10
            go_wp2_with fail
            refine (st_lenN H11.out 0 rfl _ HTL.out).mono ?_
            rintro e w12 ⟨rfl, rfl⟩
            go_wp2_with fail
            refine (st_good H11.out _ a S HA.out hS (by omega) na (by rw [← HGA.out]; exact HNA.out)).mono ?_
            rintro e w13 ⟨a1, c1, rfl, hst⟩
            have H13 := Lib.hid hst; clear hst H11
            go_wp2_with fail
            refine (st_good H13.out _ b S HBB.out hS (by omega) nb (by rw [← HGB.out]; exact HNB.out)).mono ?_
            rintro e w14 ⟨a2, c2, rfl, hst⟩
            have H14 := Lib.hid hst; clear hst H13
            go_wp2_with fail
            refine (st_good H14.out _ c S HCC.out hS (by omega) nc (by rw [← HGC.out]; exact HNC.out)).mono ?_
            rintro e w15 ⟨a3, c3, rfl, hst⟩
            have H15 := Lib.hid hst; clear hst H14
            go_wp2_with fail
            refine (st_new (H15.out.take 9)).mono ?_
            rintro e w16 ⟨bz, rfl, hst⟩
            have H16 := Lib.hid hst; clear hst H15
            go_wp2_with fail
            have H17 := St.lit H16.out 46 1 2 #[.pointer (some ⟨bx, 0, none⟩), .pointer (some ⟨bx, 0, none⟩)] (by decide) rfl
            refine (st_join H17 9 [0, 0] (fun i => [bx, 0, 0, 0, 0, 0, 0, 0, 0, bz].getD i 0) (fun i => [T, [], [], [], [], [], [], [], [], []].getD i []) ?m1 ?m2 10 _ ?m3 ?m4 ?m5).mono ?_
            case m1 => intro i hi; simp at hi; rcases hi with rfl | rfl <;> rfl
            case m2 => intro i hi; simp at hi; rcases hi with rfl | rfl <;> first | exact HTO.out | (intro o ho; cases ho; done)
            case m3 => rfl
            case m4 => simp
            case m5 => have := HTL.out; simp; omega
            rintro e w18 ⟨rfl, hst⟩
            have H18 := Lib.hid (show St w w18 [qA bx [], qA by' T, blkA bl #[.pointer (some ⟨b0, 0, none⟩), .pointer (some ⟨b1, 0, none⟩), .pointer (some ⟨b2, 0, none⟩), .pointer (some ⟨b3, 0, none⟩), .pointer (some ⟨b4, 0, none⟩), .pointer (some ⟨b5, 0, none⟩)] 54,
              qA b0 [], qA b1 [], qA b2 [], qA b3 [], qA b4 [], qA b5 [], qA bz ([] ++ (T ++ (T ++ [])))] from St.take hst 10)
            clear hst H17 H16
            obtain ⟨t, ht⟩ : ∃ t : Nat, T.length = t := ⟨_, rfl⟩
            have ht120 : t ≤ 120 := by have := HTL.out; omega
            have HT := Lib.hid ht; clear ht
            go_wp2_with fail
            refine (st_lenN H18.out 9 rfl (2 * (t : Int)) (by simp [HT.out]; omega)).mono ?_
            rintro e w19 ⟨rfl, rfl⟩
            go_wp2_with fail
            refine (st_lenN H18.out 1 rfl (t : Int) (by rw [HT.out])).mono ?_
            rintro e w20 ⟨rfl, rfl⟩
            go_wp2_with fail
            refine (st_lenN H18.out 0 rfl 0 rfl).mono ?_
            rintro e w21 ⟨rfl, rfl⟩
            go_wp2_with fail
            refine (st_awake14 H18.out).mono ?_
            rintro e w22 ⟨rfl, hb⟩
            have HB := Lib.hid hb; clear hb
            go_wp2_with fail
            go_ret
            exact ⟨rfl, HB.out⟩
end Go.Proofs.Ytnadfefjmoibeaa
