/-
  DepsAhead: who is ahead of whom goes on from one to the next, never leads back, and stands so in the order.
-/
import Derived.Test.YtfjamllkjofdbaaDepsLeast
import Derived.Test.YtfjamllkjofdbaaOrd2
namespace Go.Proofs.Ytfjamllkjofdbaa
open Go Go.RowKit
set_option linter.unusedVariables false
set_option linter.unusedSimpArgs false

/-- At each number of the order: its place. -/
def Placed (O : List Nat) (P : List Int) (m : Nat) : Prop := P.length = O.length ∧ ∀ q z, q < m → O[q]? = some z → P[z]? = some (q : Int)
theorem Placed.step {O : List Nat} {P : List Int} {m z : Nat} (h : Placed O P m) (hn : O.Nodup) (hz : O[m]? = some z) (hlt : z < O.length) : Placed O (P.set z (m : Int)) (m + 1) := by
  refine ⟨by rw [List.length_set]; exact h.1, fun q y hq hy => ?_⟩
  by_cases e : q = m
  · subst e
    rw [hz] at hy
    cases hy
    rw [List.getElem?_set_self (by rw [h.1]; exact hlt)]
  · have hne : z ≠ y := fun e2 => by
      subst e2
      obtain ⟨h1, h2⟩ := List.getElem?_eq_some_iff.1 hy
      obtain ⟨h3, h4⟩ := List.getElem?_eq_some_iff.1 hz
      exact e ((List.getElem_inj hn).1 (h2.trans h4.symm))
    rw [List.getElem?_set_ne hne]
    exact h.2 q y (by omega) hy
theorem Placed.at {O : List Nat} {P : List Int} (h : Placed O P O.length) {z : Nat} (hz : z ∈ O) : P[z]? = some ((O.idxOf z : Nat) : Int) := by
  have hl := List.idxOf_lt_length_of_mem hz
  exact h.2 _ z hl (by rw [List.getElem?_eq_getElem hl, List.getElem_idxOf hl])

theorem make_int {w0 w : World} {L : List Asr} (h : St w0 w L) (n : Nat) (hn : n ≤ 100000) :
    ∃ w', (Instr.makeSlice 25 (.int .i64 (n : Int)) (.int .i64 (n : Int))).run Try.prog w = .ok (.slice (some ⟨w.heap.size, 0, none⟩) n n) w' ∧
      St w0 w' (L ++ [slA 3 1 (.slice (some ⟨w.heap.size, 0, none⟩) n n) n (ints (List.replicate n 0))]) := by
  obtain ⟨w', h1, h2⟩ := h.make (P := Try.prog) (t := 25) (e := 3) (size := 1) (bytes := 8) (.int .i64 0) Try.underlying25 (by kernel_rfl) rfl (by decide) .i64 .i64 n (by omega) (by unfold maxLen; omega)
  refine ⟨w', h1, ?_⟩
  have e : (List.replicate n (Value.int .i64 0).cells.toList).flatten = ints (List.replicate n 0) := by
    unfold ints
    rw [List.map_replicate]
    show (List.replicate n [Value.int .i64 0]).flatten = _
    induction n with
    | zero => rfl
    | succ n ih => rw [List.replicate_succ, List.flatten_cons]; simp [List.replicate_succ] at ih ⊢
  rw [e] at h2
  exact h2

def LoopA1 (w3 : World) (O : List Nat) (gm N g : Nat) (v14 : Value) (wr : World) : Prop :=
  ∃ (i : Nat) (P : List Int), g + i = N ∧ v14 = .int .i64 i ∧ Placed O P i ∧ St w3 wr [slA 3 1 (.slice (some ⟨gm, 0, none⟩) N N) N (ints P)]
def LoopA2 (w3 : World) (P : List Int) (gm N g : Nat) (v15 : Value) (wr : World) : Prop :=
  ∃ i : Nat, g + i = N ∧ v15 = .int .i64 i ∧ St w3 wr [slA 3 1 (.slice (some ⟨gm, 0, none⟩) N N) N (ints P)]
def LoopA3 (w3 : World) (P : List Int) (gm N g : Nat) (v16 : Value) (wr : World) : Prop :=
  ∃ k : Nat, g + k = N ∧ v16 = .int .i64 k ∧ St w3 wr [slA 3 1 (.slice (some ⟨gm, 0, none⟩) N N) N (ints P)]
def LoopA4 (w3 : World) (P : List Int) (gm N M i : Nat) (A : List (List Int)) (l : List Int) (g : Nat) (v18 v19 v20 : Value) (wr : World) : Prop :=
  ∃ j : Nat, g + j = M ∧ v20 = .int .i64 j ∧ v18 = .bool ((l.take j).any (fun y => y == (i : Int))) ∧ v19 = .bool ((l.take j).any (fun y => aheadB A i y)) ∧ St w3 wr [slA 3 1 (.slice (some ⟨gm, 0, none⟩) N N) N (ints P)]

theorem any_snoc {α : Type} (p : α → Bool) (l : List α) (j : Nat) (x : α) (h : l[j]? = some x) : (l.take (j + 1)).any p = ((l.take j).any p || p x) := by
  rw [List.take_add_one, h]
  simp

set_option maxRecDepth 100000 in
set_option maxHeartbeats 2000000 in
theorem depsAhead_walk (v : Value) (rs : List RowV) (x a' b' : Int) (w : World) (S : Nat → Prop) (h : RdRows S w v rs) (hS : ∀ i, S i → i < w.heap.size) :
    Calls Try.prog 4 #[v, .int .i64 x, .int .i64 a', .int .i64 b'] w (RetTrue w) := by
  have HF := Lib.hid (forward_any v rs x w S h hS); clear h hS
  go_enter Try.func4, Try.ntmps4
  go_wp2_with fail
  refine HF.out.mono ?_
  rintro e w2 ⟨a, c, l, S2, rfl, hsys, hS2, hb2, hchk, hl20⟩
  have HB2 := Lib.hid hb2; clear hb2
  have HSYS := Lib.hid hsys; clear hsys
  have HCHK := Lib.hid hchk; clear hchk
  go_wp2_with fail
  refine (deps_Order _ l _ S2 HSYS.out).mono ?_
  rintro e w3 ⟨ao, no, co, rfl, hk3, ho3⟩
  rw [HCHK.out, if_pos rfl] at ho3
  rw [HCHK.out]
  obtain ⟨z1, z2, z3⟩ := chk_zero HCHK.out
  have HFULL := Lib.hid z3
  rw [aftsOf_len] at z3
  have hno : no = l.length := by
    have h := ho3.len
    rw [ints_len, nats_len, z3] at h
    omega
  subst hno
  obtain ⟨O, hO⟩ : ∃ O, O = ord (aftsOf l) := ⟨_, rfl⟩
  rw [← hO] at ho3 z3
  have hS3 : ∀ z, S2 z → z < w3.heap.size := fun z hz => by have := (hS2 z hz).2; have := hk3.size; omega
  have HS3 := Lib.hid hS3; clear hS3 hS2
  have HO := Lib.hid hO; clear hO
  have HSYS3 := Lib.hid (HSYS.out.keep0 hk3)
  have HB3 := Lib.hid (HB2.out.trans (hk3.belowAt (B := w.heap.size) (fun i f => f.elim) HB2.out.size))
  have HOL := Lib.hid z3
  obtain ⟨G3, hG3⟩ : ∃ G3 : Nat → Prop, Rd G3 w3 (.slice ao l.length co) l.length (ints (nats O)) ∧ ∀ z, G3 z → z < w3.heap.size := ⟨_, ho3.rd, fun z hz => hz.2⟩
  have HG3 := Lib.hid hG3
  clear hG3 ho3 hk3 HB2 HSYS z1 z2 z3
  obtain ⟨N, hN⟩ : ∃ N, l.length = N := ⟨_, rfl⟩
  rw [hN] at HOL HG3 hl20 HSYS3 ⊢
  have HN := Lib.hid hN; clear hN
  have HROW := Lib.hid (show Row (aftsOf l) O from HO.out ▸ ord_row (aftsOf l))
  obtain ⟨w4, hmk, hst4⟩ := make_int (St.start w3) N (by omega)
  obtain ⟨gm, hgm⟩ : ∃ gm, w3.heap.size = gm := ⟨_, rfl⟩
  rw [hgm] at hmk hst4
  have HGM := Lib.hid hgm; clear hgm
  have HST4 := Lib.hid hst4; clear hst4
  go_wp2_with fail
  clear hmk
  go_loopg [14] N (fun g v14 wr => LoopA1 w3 O gm N g v14 wr)
  case atStart => exact ⟨0, List.replicate N 0, rfl, rfl, ⟨by simp [HOL.out], fun q z hq => by omega⟩, HST4.out⟩
  case round =>
    obtain ⟨i, P, hg, rfl, hpl, hst⟩ := hrel
    have hiN : i ≤ N := by omega
    have HG := Lib.hid hg; clear hg
    have HPL := Lib.hid hpl; clear hpl
    have HST := Lib.hid hst; clear hst HST4
    by_cases hlt : i < N
    · obtain ⟨z, hz⟩ : ∃ z, O[i]? = some z := ⟨_, List.getElem?_eq_getElem (by rw [HOL.out]; exact hlt)⟩
      have hzN : z < N := by have := HROW.out.lt z (List.mem_of_getElem? hz); rw [aftsOf_len, HN.out] at this; exact this
      obtain ⟨bo, oo, ⟨c', hv⟩, _, hci⟩ := (HG3.out.1.below HST.out.bel HG3.out.2).int (k := i) (x := (z : Int)) (by simp [nats, hz])
      injection hv with hv1 hv2 hv3
      subst hv1; subst hv3
      obtain ⟨g', hg', hltm, hfm, hcm, hst⟩ := HST.out.store 0 rfl (by omega)
      injection hg' with hg'
      injection hg' with hg'
      subst hg'
      have hfz := hfm z
      obtain ⟨u, hu⟩ : ∃ u, wr.cell? ⟨gm, z, none⟩ = some u := by
        rw [hcm z (by omega)]
        exact ⟨_, List.getElem?_eq_getElem (by rw [ints_len, HPL.out.1, HOL.out]; exact hzN)⟩
      have hst2 := hst z (.int .i64 (i : Int))
      rw [ints_set] at hst2
      have HSTn := Lib.hid hst2
      have HPLn := Lib.hid (HPL.out.step HROW.out.nodup hz (by rw [HOL.out]; exact hzN))
      clear hst2 hst hfm hcm hz
      go_wp2_with fail
      go_roundg (N - (i + 1))
      case measure => have := HG.out; omega
      case rel => exact ⟨i + 1, P.set z (i : Int), by have := HG.out; omega, by go_num, HPLn.out, HSTn.out⟩
    · obtain rfl : N = i := by omega
      clear hlt hiN HG
      have HPL2 := Lib.hid (show Placed O P O.length by rw [HOL.out]; exact HPL.out)
      clear HPL
      obtain ⟨w5, hw5⟩ : ∃ w5, w5 = wr := ⟨_, rfl⟩
      subst hw5
      go_wp2_with fail
      go_loopg [15] N (fun g v15 wr => LoopA2 w3 P gm N g v15 wr)
      case atStart => exact ⟨0, rfl, rfl, HST.out⟩
      case round =>
        obtain ⟨i, hg, rfl, hst⟩ := hrel
        have hiN : i ≤ N := by omega
        have HG := Lib.hid hg; clear hg
        have HSTi := Lib.hid hst; clear hst HST
        by_cases hlt : i < N
        · obtain ⟨w6, hw6⟩ : ∃ w6, w6 = wr := ⟨_, rfl⟩
          subst hw6
          go_wp2_with fail
          go_loopg [16] N (fun g v16 wr => LoopA3 w3 P gm N g v16 wr)
          case atStart => exact ⟨0, rfl, rfl, HSTi.out⟩
          case round =>
            obtain ⟨k, hg, rfl, hst⟩ := hrel
            have hkN : k ≤ N := by omega
            have HGK := Lib.hid hg; clear hg
            have HSTk := Lib.hid hst; clear hst HSTi
            by_cases hlk : k < N
            · obtain ⟨y, hy⟩ : ∃ y, l[k]? = some y := ⟨_, List.getElem?_eq_getElem (by rw [HN.out]; exact hlk)⟩
              have HAF := Lib.hid (aftOf_get hy)
              have hiA : i < (aftsOf l).length := by rw [aftsOf_len, HN.out]; exact hlt
              have hkA : k < (aftsOf l).length := by rw [aftsOf_len, HN.out]; exact hlk
              obtain ⟨xb, hxb⟩ : ∃ xb, aheadB (aftsOf l) i k = xb := ⟨_, rfl⟩
              have HXB := Lib.hid hxb; clear hxb
              have HSTEP := Lib.hid (ahead_step HCHK.out hiA hkA)
              have HBACK0 := Lib.hid (fun hx : xb = true => ahead_back HCHK.out hiA hkA (HXB.out.trans hx))
              have HPOS0 := Lib.hid (fun hx : xb = true => ahead_pos HCHK.out hiA hkA (HXB.out.trans hx))
              obtain ⟨pi, hpi⟩ : ∃ pi, pi = O.idxOf i := ⟨_, rfl⟩
              obtain ⟨pk, hpk⟩ : ∃ pk, pk = O.idxOf k := ⟨_, rfl⟩
              have hallO := HROW.out.all (by rw [HOL.out, aftsOf_len, HN.out])
              have HAT := Lib.hid (show P[i]? = some (pi : Int) ∧ P[k]? = some (pk : Int) from by rw [hpi, hpk]; exact ⟨HPL2.out.at (hallO i hiA), HPL2.out.at (hallO k hkA)⟩)
              rw [← HO.out, ← hpi, ← hpk] at HPOS0
              obtain ⟨bo, oo, rfl, _, hco⟩ := HSYS3.out.rd.elem (cells := SysV.cells) (size := 8) (fun _ => rfl) (by decide) hy
              obtain ⟨hyn, hyr⟩ := HSYS3.out.af y (List.mem_of_getElem? hy)
              have hc7 := hco 7 (by decide)
              simp [SysV.cells, SlV.v] at hc7
              unfold SlV.v at hyr
              rw [hyn] at hc7 hyr
              have HC7 := Lib.hid hc7
              have HYR := Lib.hid hyr
              obtain ⟨M, hM⟩ : ∃ M, y.aft.length = M := ⟨_, rfl⟩
              have hMm : M ≤ 9223372036854775807 := by
                obtain ⟨_, _, e, e1, e2, _⟩ := hyr
                unfold maxLen at e2
                rw [← hM]
                omega
              have HM := Lib.hid hM
              rw [hM] at HC7 HYR
              clear hiA hkA hpi hpk hallO hco hc7 hyr hyn hM hy
              go_wp2_with fail
              refine (deps_ahead _ l i k _ S2 (HSYS3.out.below HSTk.out.bel HS3.out) (fun z hz => Nat.lt_of_lt_of_le (HS3.out z hz) HSTk.out.bel.size)).mono ?_
              rw [HXB.out]
              rintro e w7 ⟨rfl, hk7⟩
              have HST7 := Lib.hid (HSTk.out.keep hk7); clear hk7
              go_wp2_with fail
              go_loopg [18, 19, 20] M (fun g v18 v19 v20 wr => LoopA4 w3 P gm N M i (aftsOf l) y.aft g v18 v19 v20 wr)
              case atStart => exact ⟨0, rfl, rfl, rfl, rfl, HST7.out⟩
              case round =>
                obtain ⟨j, hg, rfl, rfl, rfl, hst⟩ := hrel
                have hjM : j ≤ M := by omega
                have HGJ := Lib.hid hg; clear hg
                have HSTe := Lib.hid hst; clear hst HST7
                have c7 := (HSTe.out.bel.cell (p := ⟨bo, oo + k * 8 + 7, none⟩) (World.block_lt_of_cell? w3 _ HC7.out)).trans HC7.out
                by_cases hlj : j < M
                · obtain ⟨u, hu⟩ : ∃ u, y.aft[j]? = some u := ⟨_, List.getElem?_eq_getElem (by rw [HM.out]; exact hlj)⟩
                  obtain ⟨bu, ou, ⟨cu, hv⟩, _, hcu⟩ := HYR.out.int hu
                  injection hv with hv1 hv2 hv3
                  rw [hv1] at c7
                  have cu2 := (HSTe.out.bel.cell (p := ⟨bu, ou + j, none⟩) (World.block_lt_of_cell? w3 _ hcu)).trans hcu
                  have HD1 := Lib.hid (any_snoc (fun y => y == (i : Int)) y.aft j u hu)
                  have HD2 := Lib.hid (any_snoc (fun y => aheadB (aftsOf l) i y) y.aft j u hu)
                  clear hu hcu hv1 hv2 hv3
                  obtain ⟨d, hd⟩ : ∃ d, (y.aft.take j).any (fun y => y == (i : Int)) = d := ⟨_, rfl⟩
                  obtain ⟨th, hth⟩ : ∃ th, (y.aft.take j).any (fun y => aheadB (aftsOf l) i y) = th := ⟨_, rfl⟩
                  rw [hd] at HD1 ⊢
                  rw [hth] at HD2 ⊢
                  clear hd hth
                  cases d
                  · cases th
                    · go_wp2_with fail
                      refine (deps_ahead _ l i u _ S2 (HSYS3.out.below HSTe.out.bel HS3.out) (fun z hz => Nat.lt_of_lt_of_le (HS3.out z hz) HSTe.out.bel.size)).mono ?_
                      rintro e w8 ⟨rfl, hk8⟩
                      have HST8 := Lib.hid (HSTe.out.keep hk8); clear hk8
                      go_wp2_with fail
                      go_roundg (M - (j + 1))
                      case measure => have := HGJ.out; omega
                      case rel => exact ⟨j + 1, by have := HGJ.out; omega, by go_num, by rw [HD1.out]; rfl, by rw [HD2.out]; rfl, HST8.out⟩
                    · go_wp2_with fail
                      go_roundg (M - (j + 1))
                      case measure => have := HGJ.out; omega
                      case rel => exact ⟨j + 1, by have := HGJ.out; omega, by go_num, by rw [HD1.out]; rfl, by rw [HD2.out]; rfl, HSTe.out⟩
                  · cases th
                    · go_wp2_with fail
                      refine (deps_ahead _ l i u _ S2 (HSYS3.out.below HSTe.out.bel HS3.out) (fun z hz => Nat.lt_of_lt_of_le (HS3.out z hz) HSTe.out.bel.size)).mono ?_
                      rintro e w8 ⟨rfl, hk8⟩
                      have HST8 := Lib.hid (HSTe.out.keep hk8); clear hk8
                      go_wp2_with fail
                      go_roundg (M - (j + 1))
                      case measure => have := HGJ.out; omega
                      case rel => exact ⟨j + 1, by have := HGJ.out; omega, by go_num, by rw [HD1.out]; rfl, by rw [HD2.out]; rfl, HST8.out⟩
                    · go_wp2_with fail
                      go_roundg (M - (j + 1))
                      case measure => have := HGJ.out; omega
                      case rel => exact ⟨j + 1, by have := HGJ.out; omega, by go_num, by rw [HD1.out]; rfl, by rw [HD2.out]; rfl, HSTe.out⟩
                · obtain rfl : M = j := by omega
                  rw [show y.aft.take M = y.aft by rw [← HM.out, List.take_length]]
                  have hstep := HSTEP.out
                  rw [HXB.out, HAF.out] at hstep
                  obtain ⟨d, hd⟩ : ∃ d, y.aft.any (fun y => y == (i : Int)) = d := ⟨_, rfl⟩
                  obtain ⟨th, hth⟩ : ∃ th, y.aft.any (fun y => aheadB (aftsOf l) i y) = th := ⟨_, rfl⟩
                  rw [hd] at hstep ⊢
                  rw [hth] at hstep ⊢
                  clear hd hth hlj hjM HGJ
                  have HSTp := Lib.hid hstep; clear hstep
                  go_wp2_with fail
                  obtain ⟨gi, gk', hgi, hgk⟩ : ∃ gi gk' : Nat, gi = pi ∧ gk' = pk := ⟨_, _, rfl, rfl⟩
                  have hcat : ∀ W, St w3 W [slA 3 1 (.slice (some ⟨gm, 0, none⟩) N N) N (ints P)] → W.cell? ⟨gm, i, none⟩ = some (.int .i64 (pi : Int)) ∧ W.cell? ⟨gm, k, none⟩ = some (.int .i64 (pk : Int)) := by
                    intro W hW
                    obtain ⟨g', hg', _, _, hcm, _⟩ := hW.store 0 rfl (by omega)
                    injection hg' with hg'
                    injection hg' with hg'
                    subst hg'
                    exact ⟨(hcm i (by omega)).trans (ints_get HAT.out.1), (hcm k (by omega)).trans (ints_get HAT.out.2)⟩
                  have HCAT := Lib.hid hcat; clear hcat hgi hgk
                  cases xb
                  · have hdt : d = false ∧ th = false := by have := HSTp.out; cases d <;> cases th <;> simp at this ⊢
                    obtain ⟨rfl, rfl⟩ := hdt
                    refine wp_region_held_drew (S := fun _ => True) (by kernel_rfl) ?_ (fun hHeld => ?_)
                    · (try dsimp only); (all_goals trivial)
                    refine wpAnyH_take (i := 0) (oi := ?_) (v := ?_) ?_ ?_ ?_ ?_ ?_ ?_ ?_ ?_
                    rotate_left 2
                    · simp only [List.getElem?_toArray, List.getElem?_cons_succ, List.getElem?_cons_zero]; exact rfl
                    · kernel_rfl
                    · kernel_rfl
                    · kernel_rfl
                    · exact fun _ _ _ h => h
                    · (refine Or.inl ⟨by rfl, ?_⟩; (intro w hSw; (try dsimp only at hSw); go_simp) <;> with_reducible rfl)
                    · assumption
                    simp only [Act.put, List.setIfInBounds_toArray, List.set_cons_zero, List.set_cons_succ]
                    refine wpAnyH_take (i := 1) (oi := ?_) (v := ?_) ?_ ?_ ?_ ?_ ?_ ?_ ?_ ?_
                    rotate_left 2
                    · simp only [List.getElem?_toArray, List.getElem?_cons_succ, List.getElem?_cons_zero]; exact rfl
                    · kernel_rfl
                    · kernel_rfl
                    · kernel_rfl
                    · exact fun _ _ _ h => h
                    · (refine Or.inl ⟨by rfl, ?_⟩; (intro w hSw; (try dsimp only at hSw); go_simp) <;> with_reducible rfl)
                    · assumption
                    simp only [Act.put, List.setIfInBounds_toArray, List.set_cons_zero, List.set_cons_succ]
                    refine wpAnyH_take (i := 2) (oi := ?_) (v := ?_) ?_ ?_ ?_ ?_ ?_ ?_ ?_ ?_
                    rotate_left 2
                    · simp only [List.getElem?_toArray, List.getElem?_cons_succ, List.getElem?_cons_zero]; exact rfl
                    · kernel_rfl
                    · kernel_rfl
                    · kernel_rfl
                    · exact fun _ _ _ h => h
                    · (refine Or.inl ⟨by rfl, ?_⟩; (intro w hSw; (try dsimp only at hSw); go_simp) <;> with_reducible rfl)
                    · assumption
                    simp only [Act.put, List.setIfInBounds_toArray, List.set_cons_zero, List.set_cons_succ]
                    refine wpAnyH_take (i := 3) (oi := ?_) (v := ?_) ?_ ?_ ?_ ?_ ?_ ?_ ?_ ?_
                    rotate_left 2
                    · simp only [List.getElem?_toArray, List.getElem?_cons_succ, List.getElem?_cons_zero]; exact rfl
                    · kernel_rfl
                    · kernel_rfl
                    · kernel_rfl
                    · exact fun _ _ _ h => h
                    · (refine Or.inl ⟨by rfl, ?_⟩; (intro w hSw; (try dsimp only at hSw); go_simp) <;> with_reducible rfl)
                    · assumption
                    simp only [Act.put, List.setIfInBounds_toArray, List.set_cons_zero, List.set_cons_succ]
                    refine wpAnyH_take (i := 4) (oi := ?_) (v := ?_) ?_ ?_ ?_ ?_ ?_ ?_ ?_ ?_
                    rotate_left 2
                    · simp only [List.getElem?_toArray, List.getElem?_cons_succ, List.getElem?_cons_zero]; exact rfl
                    · kernel_rfl
                    · kernel_rfl
                    · kernel_rfl
                    · exact fun _ _ _ h => h
                    · (refine Or.inl ⟨by rfl, ?_⟩; (intro w hSw; (try dsimp only at hSw); go_simp) <;> with_reducible rfl)
                    · assumption
                    simp only [Act.put, List.setIfInBounds_toArray, List.set_cons_zero, List.set_cons_succ]
                    refine wpAnyH_take (i := 5) (oi := ?_) (v := ?_) ?_ ?_ ?_ ?_ ?_ ?_ ?_ ?_
                    rotate_left 2
                    · simp only [List.getElem?_toArray, List.getElem?_cons_succ, List.getElem?_cons_zero]; exact rfl
                    · kernel_rfl
                    · kernel_rfl
                    · kernel_rfl
                    · exact fun _ _ _ h => h
                    · (refine Or.inl ⟨by rfl, ?_⟩; (intro w hSw; (try dsimp only at hSw); go_simp) <;> with_reducible rfl)
                    · assumption
                    simp only [Act.put, List.setIfInBounds_toArray, List.set_cons_zero, List.set_cons_succ]
                    refine wpAnyH_take (i := 6) (oi := ?_) (v := ?_) ?_ ?_ ?_ ?_ ?_ ?_ ?_ ?_
                    rotate_left 2
                    · simp only [List.getElem?_toArray, List.getElem?_cons_succ, List.getElem?_cons_zero]; exact rfl
                    · kernel_rfl
                    · kernel_rfl
                    · kernel_rfl
                    · exact fun _ _ _ h => h
                    · (refine Or.inl ⟨by rfl, ?_⟩; (intro w hSw; (try dsimp only at hSw); go_simp) <;> with_reducible rfl)
                    · assumption
                    simp only [Act.put, List.setIfInBounds_toArray, List.set_cons_zero, List.set_cons_succ]
                    refine wpAnyH_take (i := 7) (oi := ?_) (v := ?_) ?_ ?_ ?_ ?_ ?_ ?_ ?_ ?_
                    rotate_left 2
                    · simp only [List.getElem?_toArray, List.getElem?_cons_succ, List.getElem?_cons_zero]; exact rfl
                    · kernel_rfl
                    · kernel_rfl
                    · kernel_rfl
                    · exact fun _ _ _ h => h
                    · (refine Or.inl ⟨by rfl, ?_⟩; (intro w hSw; (try dsimp only at hSw); go_simp) <;> with_reducible rfl)
                    · assumption
                    simp only [Act.put, List.setIfInBounds_toArray, List.set_cons_zero, List.set_cons_succ]
                    refine wpAnyH_take (i := 8) (oi := ?_) (v := ?_) ?_ ?_ ?_ ?_ ?_ ?_ ?_ ?_
                    rotate_left 2
                    · simp only [List.getElem?_toArray, List.getElem?_cons_succ, List.getElem?_cons_zero]; exact rfl
                    · kernel_rfl
                    · kernel_rfl
                    · kernel_rfl
                    · exact fun _ _ _ h => h
                    · (refine Or.inl ⟨by rfl, ?_⟩; (intro w hSw; (try dsimp only at hSw); go_simp) <;> with_reducible rfl)
                    · assumption
                    simp only [Act.put, List.setIfInBounds_toArray, List.set_cons_zero, List.set_cons_succ]
                    refine wpAnyH_take (i := 9) (oi := ?_) (v := undef) ?_ ?_ ?_ ?_ ?_ ?_ ?_ ?_
                    rotate_left 1
                    · simp only [List.getElem?_toArray, List.getElem?_cons_succ, List.getElem?_cons_zero]; exact rfl
                    · kernel_rfl
                    · kernel_rfl
                    · kernel_rfl
                    · exact fun _ _ _ h => h
                    · exact Or.inr ⟨by rfl, rfl⟩
                    · assumption
                    simp only [Act.put, List.setIfInBounds_toArray, List.set_cons_zero, List.set_cons_succ]
                    refine wpAnyH_take (i := 10) (oi := ?_) (v := undef) ?_ ?_ ?_ ?_ ?_ ?_ ?_ ?_
                    rotate_left 1
                    · simp only [List.getElem?_toArray, List.getElem?_cons_succ, List.getElem?_cons_zero]; exact rfl
                    · kernel_rfl
                    · kernel_rfl
                    · kernel_rfl
                    · exact fun _ _ _ h => h
                    · exact Or.inr ⟨by rfl, rfl⟩
                    · assumption
                    simp only [Act.put, List.setIfInBounds_toArray, List.set_cons_zero, List.set_cons_succ]
                    refine wpAnyH_take (i := 11) (oi := ?_) (v := undef) ?_ ?_ ?_ ?_ ?_ ?_ ?_ ?_
                    rotate_left 1
                    · simp only [List.getElem?_toArray, List.getElem?_cons_succ, List.getElem?_cons_zero]; exact rfl
                    · kernel_rfl
                    · kernel_rfl
                    · kernel_rfl
                    · exact fun _ _ _ h => h
                    · exact Or.inr ⟨by rfl, rfl⟩
                    · assumption
                    simp only [Act.put, List.setIfInBounds_toArray, List.set_cons_zero, List.set_cons_succ]
                    refine wpAnyH_take (i := 12) (oi := ?_) (v := undef) ?_ ?_ ?_ ?_ ?_ ?_ ?_ ?_
                    rotate_left 1
                    · simp only [List.getElem?_toArray, List.getElem?_cons_succ, List.getElem?_cons_zero]; exact rfl
                    · kernel_rfl
                    · kernel_rfl
                    · kernel_rfl
                    · exact fun _ _ _ h => h
                    · exact Or.inr ⟨by rfl, rfl⟩
                    · assumption
                    simp only [Act.put, List.setIfInBounds_toArray, List.set_cons_zero, List.set_cons_succ]
                    refine wpAnyH_take (i := 13) (oi := ?_) (v := undef) ?_ ?_ ?_ ?_ ?_ ?_ ?_ ?_
                    rotate_left 1
                    · simp only [List.getElem?_toArray, List.getElem?_cons_succ, List.getElem?_cons_zero]; exact rfl
                    · kernel_rfl
                    · kernel_rfl
                    · kernel_rfl
                    · exact fun _ _ _ h => h
                    · exact Or.inr ⟨by rfl, rfl⟩
                    · assumption
                    simp only [Act.put, List.setIfInBounds_toArray, List.set_cons_zero, List.set_cons_succ]
                    refine wpAnyH_take (i := 14) (oi := ?_) (v := undef) ?_ ?_ ?_ ?_ ?_ ?_ ?_ ?_
                    rotate_left 1
                    · simp only [List.getElem?_toArray, List.getElem?_cons_succ, List.getElem?_cons_zero]; exact rfl
                    · kernel_rfl
                    · kernel_rfl
                    · kernel_rfl
                    · exact fun _ _ _ h => h
                    · exact Or.inr ⟨by rfl, rfl⟩
                    · assumption
                    simp only [Act.put, List.setIfInBounds_toArray, List.set_cons_zero, List.set_cons_succ]
                    refine wpAnyH_take (i := 15) (oi := ?_) (v := undef) ?_ ?_ ?_ ?_ ?_ ?_ ?_ ?_
                    rotate_left 1
                    · simp only [List.getElem?_toArray, List.getElem?_cons_succ, List.getElem?_cons_zero]; exact rfl
                    · kernel_rfl
                    · kernel_rfl
                    · kernel_rfl
                    · exact fun _ _ _ h => h
                    · exact Or.inr ⟨by rfl, rfl⟩
                    · assumption
                    simp only [Act.put, List.setIfInBounds_toArray, List.set_cons_zero, List.set_cons_succ]
                    refine wpAnyH_take (i := 16) (oi := ?_) (v := undef) ?_ ?_ ?_ ?_ ?_ ?_ ?_ ?_
                    rotate_left 1
                    · simp only [List.getElem?_toArray, List.getElem?_cons_succ, List.getElem?_cons_zero]; exact rfl
                    · kernel_rfl
                    · kernel_rfl
                    · kernel_rfl
                    · exact fun _ _ _ h => h
                    · exact Or.inr ⟨by rfl, rfl⟩
                    · assumption
                    simp only [Act.put, List.setIfInBounds_toArray, List.set_cons_zero, List.set_cons_succ]
                    refine wpAnyH_take (i := 17) (oi := ?_) (v := undef) ?_ ?_ ?_ ?_ ?_ ?_ ?_ ?_
                    rotate_left 1
                    · simp only [List.getElem?_toArray, List.getElem?_cons_succ, List.getElem?_cons_zero]; exact rfl
                    · kernel_rfl
                    · kernel_rfl
                    · kernel_rfl
                    · exact fun _ _ _ h => h
                    · exact Or.inr ⟨by rfl, rfl⟩
                    · assumption
                    simp only [Act.put, List.setIfInBounds_toArray, List.set_cons_zero, List.set_cons_succ]
                    refine wpAnyH_take (i := 18) (oi := ?_) (v := undef) ?_ ?_ ?_ ?_ ?_ ?_ ?_ ?_
                    rotate_left 1
                    · simp only [List.getElem?_toArray, List.getElem?_cons_succ, List.getElem?_cons_zero]; exact rfl
                    · kernel_rfl
                    · kernel_rfl
                    · kernel_rfl
                    · exact fun _ _ _ h => h
                    · exact Or.inr ⟨by rfl, rfl⟩
                    · assumption
                    simp only [Act.put, List.setIfInBounds_toArray, List.set_cons_zero, List.set_cons_succ]
                    refine wpAnyH_take (i := 19) (oi := ?_) (v := undef) ?_ ?_ ?_ ?_ ?_ ?_ ?_ ?_
                    rotate_left 1
                    · simp only [List.getElem?_toArray, List.getElem?_cons_succ, List.getElem?_cons_zero]; exact rfl
                    · kernel_rfl
                    · kernel_rfl
                    · kernel_rfl
                    · exact fun _ _ _ h => h
                    · exact Or.inr ⟨by rfl, rfl⟩
                    · assumption
                    simp only [Act.put, List.setIfInBounds_toArray, List.set_cons_zero, List.set_cons_succ]
                    refine wpAnyH_take (i := 20) (oi := ?_) (v := undef) ?_ ?_ ?_ ?_ ?_ ?_ ?_ ?_
                    rotate_left 1
                    · simp only [List.getElem?_toArray, List.getElem?_cons_succ, List.getElem?_cons_zero]; exact rfl
                    · kernel_rfl
                    · kernel_rfl
                    · kernel_rfl
                    · exact fun _ _ _ h => h
                    · exact Or.inr ⟨by rfl, rfl⟩
                    · assumption
                    simp only [Act.put, List.setIfInBounds_toArray, List.set_cons_zero, List.set_cons_succ]
                    refine wpAnyH_take (i := 21) (oi := ?_) (v := undef) ?_ ?_ ?_ ?_ ?_ ?_ ?_ ?_
                    rotate_left 1
                    · simp only [List.getElem?_toArray, List.getElem?_cons_succ, List.getElem?_cons_zero]; exact rfl
                    · kernel_rfl
                    · kernel_rfl
                    · kernel_rfl
                    · exact fun _ _ _ h => h
                    · exact Or.inr ⟨by rfl, rfl⟩
                    · assumption
                    simp only [Act.put, List.setIfInBounds_toArray, List.set_cons_zero, List.set_cons_succ]
                    refine wpAnyH_take (i := 22) (oi := ?_) (v := undef) ?_ ?_ ?_ ?_ ?_ ?_ ?_ ?_
                    rotate_left 1
                    · simp only [List.getElem?_toArray, List.getElem?_cons_succ, List.getElem?_cons_zero]; exact rfl
                    · kernel_rfl
                    · kernel_rfl
                    · kernel_rfl
                    · exact fun _ _ _ h => h
                    · exact Or.inr ⟨by rfl, rfl⟩
                    · assumption
                    simp only [Act.put, List.setIfInBounds_toArray, List.set_cons_zero, List.set_cons_succ]
                    refine wpAnyH_take (i := 23) (oi := ?_) (v := undef) ?_ ?_ ?_ ?_ ?_ ?_ ?_ ?_
                    rotate_left 1
                    · simp only [List.getElem?_toArray, List.getElem?_cons_succ, List.getElem?_cons_zero]; exact rfl
                    · kernel_rfl
                    · kernel_rfl
                    · kernel_rfl
                    · exact fun _ _ _ h => h
                    · exact Or.inr ⟨by rfl, rfl⟩
                    · assumption
                    simp only [Act.put, List.setIfInBounds_toArray, List.set_cons_zero, List.set_cons_succ]
                    refine wpAnyH_take (i := 24) (oi := ?_) (v := ?_) ?_ ?_ ?_ ?_ ?_ ?_ ?_ ?_
                    rotate_left 2
                    · simp only [List.getElem?_toArray, List.getElem?_cons_succ, List.getElem?_cons_zero]; exact rfl
                    · kernel_rfl
                    · kernel_rfl
                    · kernel_rfl
                    · exact fun _ _ _ h => h
                    · (refine Or.inl ⟨by rfl, ?_⟩; (intro w hSw; (try dsimp only at hSw); go_simp) <;> with_reducible rfl)
                    · assumption
                    simp only [Act.put, List.setIfInBounds_toArray, List.set_cons_zero, List.set_cons_succ]
                    refine wpAnyH_take (i := 25) (oi := ?_) (v := ?_) ?_ ?_ ?_ ?_ ?_ ?_ ?_ ?_
                    rotate_left 2
                    · simp only [List.getElem?_toArray, List.getElem?_cons_succ, List.getElem?_cons_zero]; exact rfl
                    · kernel_rfl
                    · kernel_rfl
                    · kernel_rfl
                    · exact fun _ _ _ h => h
                    · (refine Or.inl ⟨by rfl, ?_⟩; (intro w hSw; (try dsimp only at hSw); go_simp) <;> with_reducible rfl)
                    · assumption
                    simp only [Act.put, List.setIfInBounds_toArray, List.set_cons_zero, List.set_cons_succ]
                    refine wpAnyH_done (by kernel_rfl) ?_ _
                    go_wp2_with fail
                    go_roundg (N - (k + 1))
                    case measure => have := HGK.out; omega
                    case rel => exact ⟨k + 1, by have := HGK.out; omega, by go_num, HSTe.out.drew⟩
                  · have HBACK := Lib.hid (HBACK0.out rfl)
                    have hpos := HPOS0.out rfl
                    have hpos' : ¬ (pk : Int) ≤ (pi : Int) := by omega
                    cases d
                    · have hth : th = true := by have := HSTp.out; simpa using this.symm
                      subst hth
                      refine wp_region_held_drew (S := fun w' => w'.cell? ⟨gm, i, none⟩ = some (.int .i64 (pi : Int)) ∧ w'.cell? ⟨gm, k, none⟩ = some (.int .i64 (pk : Int))) (by kernel_rfl) ?_ (fun hHeld => ?_)
                      · (try dsimp only); first | exact HCAT.out _ HST9.out | exact HCAT.out _ (HSTe.out.keep (by (repeat (first | exact Keep.refl _ _ | apply Keep.drew | apply Keep.drewN | apply Keep.alloc))))
                      refine wpAnyH_take (i := 0) (oi := ?_) (v := ?_) ?_ ?_ ?_ ?_ ?_ ?_ ?_ ?_
                      rotate_left 2
                      · simp only [List.getElem?_toArray, List.getElem?_cons_succ, List.getElem?_cons_zero]; exact rfl
                      · kernel_rfl
                      · kernel_rfl
                      · kernel_rfl
                      · exact fun _ _ _ h => h
                      · (refine Or.inl ⟨by rfl, ?_⟩; (intro w hSw; (try dsimp only at hSw); go_simp) <;> with_reducible rfl)
                      · assumption
                      simp only [Act.put, List.setIfInBounds_toArray, List.set_cons_zero, List.set_cons_succ]
                      refine wpAnyH_take (i := 1) (oi := ?_) (v := ?_) ?_ ?_ ?_ ?_ ?_ ?_ ?_ ?_
                      rotate_left 2
                      · simp only [List.getElem?_toArray, List.getElem?_cons_succ, List.getElem?_cons_zero]; exact rfl
                      · kernel_rfl
                      · kernel_rfl
                      · kernel_rfl
                      · exact fun _ _ _ h => h
                      · (refine Or.inl ⟨by rfl, ?_⟩; (intro w hSw; (try dsimp only at hSw); go_simp) <;> with_reducible rfl)
                      · assumption
                      simp only [Act.put, List.setIfInBounds_toArray, List.set_cons_zero, List.set_cons_succ]
                      refine wpAnyH_take (i := 2) (oi := ?_) (v := ?_) ?_ ?_ ?_ ?_ ?_ ?_ ?_ ?_
                      rotate_left 2
                      · simp only [List.getElem?_toArray, List.getElem?_cons_succ, List.getElem?_cons_zero]; exact rfl
                      · kernel_rfl
                      · kernel_rfl
                      · kernel_rfl
                      · exact fun _ _ _ h => h
                      · (refine Or.inl ⟨by rfl, ?_⟩; (intro w hSw; (try dsimp only at hSw); go_simp) <;> with_reducible rfl)
                      · assumption
                      simp only [Act.put, List.setIfInBounds_toArray, List.set_cons_zero, List.set_cons_succ]
                      refine wpAnyH_take (i := 3) (oi := ?_) (v := ?_) ?_ ?_ ?_ ?_ ?_ ?_ ?_ ?_
                      rotate_left 2
                      · simp only [List.getElem?_toArray, List.getElem?_cons_succ, List.getElem?_cons_zero]; exact rfl
                      · kernel_rfl
                      · kernel_rfl
                      · kernel_rfl
                      · exact fun _ _ _ h => h
                      · (refine Or.inl ⟨by rfl, ?_⟩; (intro w hSw; (try dsimp only at hSw); go_simp) <;> with_reducible rfl)
                      · assumption
                      simp only [Act.put, List.setIfInBounds_toArray, List.set_cons_zero, List.set_cons_succ]
                      refine wpAnyH_take (i := 4) (oi := ?_) (v := ?_) ?_ ?_ ?_ ?_ ?_ ?_ ?_ ?_
                      rotate_left 2
                      · simp only [List.getElem?_toArray, List.getElem?_cons_succ, List.getElem?_cons_zero]; exact rfl
                      · kernel_rfl
                      · kernel_rfl
                      · kernel_rfl
                      · exact fun _ _ _ h => h
                      · (refine Or.inl ⟨by rfl, ?_⟩; (intro w hSw; (try dsimp only at hSw); go_simp) <;> with_reducible rfl)
                      · assumption
                      simp only [Act.put, List.setIfInBounds_toArray, List.set_cons_zero, List.set_cons_succ]
                      refine wpAnyH_take (i := 5) (oi := ?_) (v := ?_) ?_ ?_ ?_ ?_ ?_ ?_ ?_ ?_
                      rotate_left 2
                      · simp only [List.getElem?_toArray, List.getElem?_cons_succ, List.getElem?_cons_zero]; exact rfl
                      · kernel_rfl
                      · kernel_rfl
                      · kernel_rfl
                      · exact fun _ _ _ h => h
                      · (refine Or.inl ⟨by rfl, ?_⟩; (intro w hSw; (try dsimp only at hSw); go_simp) <;> with_reducible rfl)
                      · assumption
                      simp only [Act.put, List.setIfInBounds_toArray, List.set_cons_zero, List.set_cons_succ]
                      refine wpAnyH_take (i := 6) (oi := ?_) (v := ?_) ?_ ?_ ?_ ?_ ?_ ?_ ?_ ?_
                      rotate_left 2
                      · simp only [List.getElem?_toArray, List.getElem?_cons_succ, List.getElem?_cons_zero]; exact rfl
                      · kernel_rfl
                      · kernel_rfl
                      · kernel_rfl
                      · exact fun _ _ _ h => h
                      · (refine Or.inl ⟨by rfl, ?_⟩; (intro w hSw; (try dsimp only at hSw); go_simp) <;> with_reducible rfl)
                      · assumption
                      simp only [Act.put, List.setIfInBounds_toArray, List.set_cons_zero, List.set_cons_succ]
                      refine wpAnyH_take (i := 7) (oi := ?_) (v := ?_) ?_ ?_ ?_ ?_ ?_ ?_ ?_ ?_
                      rotate_left 2
                      · simp only [List.getElem?_toArray, List.getElem?_cons_succ, List.getElem?_cons_zero]; exact rfl
                      · kernel_rfl
                      · kernel_rfl
                      · kernel_rfl
                      · exact fun _ _ _ h => h
                      · (refine Or.inl ⟨by rfl, ?_⟩; (intro w hSw; (try dsimp only at hSw); go_simp) <;> with_reducible rfl)
                      · assumption
                      simp only [Act.put, List.setIfInBounds_toArray, List.set_cons_zero, List.set_cons_succ]
                      refine wpAnyH_take (i := 8) (oi := ?_) (v := ?_) ?_ ?_ ?_ ?_ ?_ ?_ ?_ ?_
                      rotate_left 2
                      · simp only [List.getElem?_toArray, List.getElem?_cons_succ, List.getElem?_cons_zero]; exact rfl
                      · kernel_rfl
                      · kernel_rfl
                      · kernel_rfl
                      · exact fun _ _ _ h => h
                      · (refine Or.inl ⟨by rfl, ?_⟩; (intro w hSw; (try dsimp only at hSw); go_simp) <;> with_reducible rfl)
                      · assumption
                      simp only [Act.put, List.setIfInBounds_toArray, List.set_cons_zero, List.set_cons_succ]
                      refine wpAnyH_take (i := 9) (oi := ?_) (v := ?_) ?_ ?_ ?_ ?_ ?_ ?_ ?_ ?_
                      rotate_left 2
                      · simp only [List.getElem?_toArray, List.getElem?_cons_succ, List.getElem?_cons_zero]; exact rfl
                      · kernel_rfl
                      · kernel_rfl
                      · kernel_rfl
                      · exact fun _ _ _ h => h
                      · (refine Or.inl ⟨by rfl, ?_⟩; (intro w hSw; (try dsimp only at hSw); go_simp) <;> with_reducible rfl)
                      · assumption
                      simp only [Act.put, List.setIfInBounds_toArray, List.set_cons_zero, List.set_cons_succ]
                      refine wpAnyH_take (i := 10) (oi := ?_) (v := ?_) ?_ ?_ ?_ ?_ ?_ ?_ ?_ ?_
                      rotate_left 2
                      · simp only [List.getElem?_toArray, List.getElem?_cons_succ, List.getElem?_cons_zero]; exact rfl
                      · kernel_rfl
                      · kernel_rfl
                      · kernel_rfl
                      · exact fun _ _ _ h => h
                      · (refine Or.inl ⟨by rfl, ?_⟩; (intro w hSw; (try dsimp only at hSw); go_simp) <;> with_reducible rfl)
                      · assumption
                      simp only [Act.put, List.setIfInBounds_toArray, List.set_cons_zero, List.set_cons_succ]
                      refine wpAnyH_take (i := 11) (oi := ?_) (v := ?_) ?_ ?_ ?_ ?_ ?_ ?_ ?_ ?_
                      rotate_left 2
                      · simp only [List.getElem?_toArray, List.getElem?_cons_succ, List.getElem?_cons_zero]; exact rfl
                      · kernel_rfl
                      · kernel_rfl
                      · kernel_rfl
                      · exact fun _ _ _ h => h
                      · (refine Or.inl ⟨by rfl, ?_⟩; (intro w hSw; (try dsimp only at hSw); go_simp) <;> with_reducible rfl)
                      · assumption
                      simp only [Act.put, List.setIfInBounds_toArray, List.set_cons_zero, List.set_cons_succ]
                      refine wpAnyH_ready (rs := [12]) (by kernel_rfl) (by simp) ?_
                      refine AllReadyH.cons rfl (fun K hK => ?_) (AllReadyH.nil)
                      go_simp
                      go_wp2_with ((go_at_call 12; refine (deps_ahead _ l k i _ S2 (HSYS3.out.below (HSTe.out.keep ((Keep.refl _ _).drew)).bel HS3.out) (fun z hz => Nat.lt_of_lt_of_le (HS3.out z hz) (HSTe.out.keep ((Keep.refl _ _).drew)).bel.size)).mono ?_; rw [HBACK.out]; rintro e w9 ⟨rfl, hk9⟩; have HST9 := Lib.hid (HSTe.out.keep (((Keep.refl _ _).drew).trans hk9 (fun _ f => f.elim))); clear hk9))
                      refine hK.out _ _ ?_ (fun hHeld => ?_)
                      · (try dsimp only); first | exact HCAT.out _ HST9.out | exact HCAT.out _ (HSTe.out.keep (by (repeat (first | exact Keep.refl _ _ | apply Keep.drew | apply Keep.drewN | apply Keep.alloc))))
                      clear hK K
                      refine wpAnyH_take (i := 13) (oi := ?_) (v := ?_) ?_ ?_ ?_ ?_ ?_ ?_ ?_ ?_
                      rotate_left 2
                      · simp only [List.getElem?_toArray, List.getElem?_cons_succ, List.getElem?_cons_zero]; exact rfl
                      · kernel_rfl
                      · kernel_rfl
                      · kernel_rfl
                      · exact fun _ _ _ h => h
                      · (refine Or.inl ⟨by rfl, ?_⟩; (intro w hSw; (try dsimp only at hSw); go_simp) <;> with_reducible rfl)
                      · assumption
                      simp only [Act.put, List.setIfInBounds_toArray, List.set_cons_zero, List.set_cons_succ]
                      refine wpAnyH_take (i := 14) (oi := ?_) (v := ?_) ?_ ?_ ?_ ?_ ?_ ?_ ?_ ?_
                      rotate_left 2
                      · simp only [List.getElem?_toArray, List.getElem?_cons_succ, List.getElem?_cons_zero]; exact rfl
                      · kernel_rfl
                      · kernel_rfl
                      · kernel_rfl
                      · exact fun _ _ _ h => h
                      · (refine Or.inl ⟨by rfl, ?_⟩; (intro w hSw; (try dsimp only at hSw); go_simp) <;> with_reducible rfl)
                      · assumption
                      simp only [Act.put, List.setIfInBounds_toArray, List.set_cons_zero, List.set_cons_succ]
                      refine wpAnyH_take (i := 15) (oi := ?_) (v := ?_) ?_ ?_ ?_ ?_ ?_ ?_ ?_ ?_
                      rotate_left 2
                      · simp only [List.getElem?_toArray, List.getElem?_cons_succ, List.getElem?_cons_zero]; exact rfl
                      · kernel_rfl
                      · kernel_rfl
                      · kernel_rfl
                      · exact fun _ _ _ h => h
                      · (refine Or.inl ⟨by rfl, ?_⟩; (intro w hSw; (try dsimp only at hSw); go_simp) <;> with_reducible rfl)
                      · assumption
                      simp only [Act.put, List.setIfInBounds_toArray, List.set_cons_zero, List.set_cons_succ]
                      refine wpAnyH_take (i := 16) (oi := ?_) (v := ?_) ?_ ?_ ?_ ?_ ?_ ?_ ?_ ?_
                      rotate_left 2
                      · simp only [List.getElem?_toArray, List.getElem?_cons_succ, List.getElem?_cons_zero]; exact rfl
                      · kernel_rfl
                      · kernel_rfl
                      · kernel_rfl
                      · exact fun _ _ _ h => h
                      · (refine Or.inl ⟨by rfl, ?_⟩; (intro w hSw; (try dsimp only at hSw); go_simp) <;> with_reducible rfl)
                      · assumption
                      simp only [Act.put, List.setIfInBounds_toArray, List.set_cons_zero, List.set_cons_succ]
                      refine wpAnyH_take (i := 17) (oi := ?_) (v := ?_) ?_ ?_ ?_ ?_ ?_ ?_ ?_ ?_
                      rotate_left 2
                      · simp only [List.getElem?_toArray, List.getElem?_cons_succ, List.getElem?_cons_zero]; exact rfl
                      · kernel_rfl
                      · kernel_rfl
                      · kernel_rfl
                      · exact fun _ _ _ h => h
                      · (refine Or.inl ⟨by rfl, ?_⟩; (intro w hSw; (try dsimp only at hSw); go_simp) <;> with_reducible rfl)
                      · assumption
                      simp only [Act.put, List.setIfInBounds_toArray, List.set_cons_zero, List.set_cons_succ]
                      refine wpAnyH_take (i := 18) (oi := ?_) (v := ?_) ?_ ?_ ?_ ?_ ?_ ?_ ?_ ?_
                      rotate_left 2
                      · simp only [List.getElem?_toArray, List.getElem?_cons_succ, List.getElem?_cons_zero]; exact rfl
                      · kernel_rfl
                      · kernel_rfl
                      · kernel_rfl
                      · exact fun _ _ _ h => h
                      · (refine Or.inl ⟨by rfl, ?_⟩; (intro w hSw; (try dsimp only at hSw); go_simp) <;> with_reducible rfl)
                      · assumption
                      simp only [Act.put, List.setIfInBounds_toArray, List.set_cons_zero, List.set_cons_succ]
                      refine wpAnyH_take (i := 19) (oi := ?_) (v := ?_) ?_ ?_ ?_ ?_ ?_ ?_ ?_ ?_
                      rotate_left 2
                      · simp only [List.getElem?_toArray, List.getElem?_cons_succ, List.getElem?_cons_zero]; exact rfl
                      · kernel_rfl
                      · kernel_rfl
                      · kernel_rfl
                      · exact fun _ _ _ h => h
                      · (refine Or.inl ⟨by rfl, ?_⟩; (intro w hSw; (try dsimp only at hSw); go_simp) <;> with_reducible rfl)
                      · assumption
                      simp only [Act.put, List.setIfInBounds_toArray, List.set_cons_zero, List.set_cons_succ]
                      refine wpAnyH_take (i := 20) (oi := ?_) (v := ?_) ?_ ?_ ?_ ?_ ?_ ?_ ?_ ?_
                      rotate_left 2
                      · simp only [List.getElem?_toArray, List.getElem?_cons_succ, List.getElem?_cons_zero]; exact rfl
                      · kernel_rfl
                      · kernel_rfl
                      · kernel_rfl
                      · exact fun _ _ _ h => h
                      · (refine Or.inl ⟨by rfl, ?_⟩; (intro w hSw; (try dsimp only at hSw); go_simp) <;> with_reducible rfl)
                      · assumption
                      simp only [Act.put, List.setIfInBounds_toArray, List.set_cons_zero, List.set_cons_succ]
                      refine wpAnyH_take (i := 21) (oi := ?_) (v := ?_) ?_ ?_ ?_ ?_ ?_ ?_ ?_ ?_
                      rotate_left 2
                      · simp only [List.getElem?_toArray, List.getElem?_cons_succ, List.getElem?_cons_zero]; exact rfl
                      · kernel_rfl
                      · kernel_rfl
                      · kernel_rfl
                      · exact fun _ _ _ h => h
                      · (refine Or.inl ⟨by rfl, ?_⟩; (intro w hSw; (try dsimp only at hSw); go_simp) <;> with_reducible rfl)
                      · assumption
                      simp only [Act.put, List.setIfInBounds_toArray, List.set_cons_zero, List.set_cons_succ]
                      refine wpAnyH_take (i := 22) (oi := ?_) (v := ?_) ?_ ?_ ?_ ?_ ?_ ?_ ?_ ?_
                      rotate_left 2
                      · simp only [List.getElem?_toArray, List.getElem?_cons_succ, List.getElem?_cons_zero]; exact rfl
                      · kernel_rfl
                      · kernel_rfl
                      · kernel_rfl
                      · exact fun _ _ _ h => h
                      · (refine Or.inl ⟨by rfl, ?_⟩; (intro w hSw; (try dsimp only at hSw); go_simp) <;> with_reducible rfl)
                      · assumption
                      simp only [Act.put, List.setIfInBounds_toArray, List.set_cons_zero, List.set_cons_succ]
                      refine wpAnyH_take (i := 23) (oi := ?_) (v := ?_) ?_ ?_ ?_ ?_ ?_ ?_ ?_ ?_
                      rotate_left 2
                      · simp only [List.getElem?_toArray, List.getElem?_cons_succ, List.getElem?_cons_zero]; exact rfl
                      · kernel_rfl
                      · kernel_rfl
                      · kernel_rfl
                      · exact fun _ _ _ h => h
                      · (refine Or.inl ⟨by rfl, ?_⟩; (intro w hSw; (try dsimp only at hSw); go_simp) <;> with_reducible rfl)
                      · assumption
                      simp only [Act.put, List.setIfInBounds_toArray, List.set_cons_zero, List.set_cons_succ]
                      refine wpAnyH_take (i := 24) (oi := ?_) (v := ?_) ?_ ?_ ?_ ?_ ?_ ?_ ?_ ?_
                      rotate_left 2
                      · simp only [List.getElem?_toArray, List.getElem?_cons_succ, List.getElem?_cons_zero]; exact rfl
                      · kernel_rfl
                      · kernel_rfl
                      · kernel_rfl
                      · exact fun _ _ _ h => h
                      · (refine Or.inl ⟨by rfl, ?_⟩; (intro w hSw; (try dsimp only at hSw); go_simp) <;> with_reducible rfl)
                      · assumption
                      simp only [Act.put, List.setIfInBounds_toArray, List.set_cons_zero, List.set_cons_succ]
                      refine wpAnyH_take (i := 25) (oi := ?_) (v := ?_) ?_ ?_ ?_ ?_ ?_ ?_ ?_ ?_
                      rotate_left 2
                      · simp only [List.getElem?_toArray, List.getElem?_cons_succ, List.getElem?_cons_zero]; exact rfl
                      · kernel_rfl
                      · kernel_rfl
                      · kernel_rfl
                      · exact fun _ _ _ h => h
                      · (refine Or.inl ⟨by rfl, ?_⟩; (intro w hSw; (try dsimp only at hSw); go_simp) <;> with_reducible rfl)
                      · assumption
                      simp only [Act.put, List.setIfInBounds_toArray, List.set_cons_zero, List.set_cons_succ]
                      refine wpAnyH_done (by kernel_rfl) ?_ _
                      go_wp2_with fail
                      go_roundg (N - (k + 1))
                      case measure => have := HGK.out; omega
                      case rel => exact ⟨k + 1, by have := HGK.out; omega, by go_num, HST9.out⟩
                    · skip
                      refine wp_region_held_drew (S := fun w' => w'.cell? ⟨gm, i, none⟩ = some (.int .i64 (pi : Int)) ∧ w'.cell? ⟨gm, k, none⟩ = some (.int .i64 (pk : Int))) (by kernel_rfl) ?_ (fun hHeld => ?_)
                      · (try dsimp only); first | exact HCAT.out _ HST9.out | exact HCAT.out _ (HSTe.out.keep (by (repeat (first | exact Keep.refl _ _ | apply Keep.drew | apply Keep.drewN | apply Keep.alloc))))
                      refine wpAnyH_take (i := 0) (oi := ?_) (v := ?_) ?_ ?_ ?_ ?_ ?_ ?_ ?_ ?_
                      rotate_left 2
                      · simp only [List.getElem?_toArray, List.getElem?_cons_succ, List.getElem?_cons_zero]; exact rfl
                      · kernel_rfl
                      · kernel_rfl
                      · kernel_rfl
                      · exact fun _ _ _ h => h
                      · (refine Or.inl ⟨by rfl, ?_⟩; (intro w hSw; (try dsimp only at hSw); go_simp) <;> with_reducible rfl)
                      · assumption
                      simp only [Act.put, List.setIfInBounds_toArray, List.set_cons_zero, List.set_cons_succ]
                      refine wpAnyH_take (i := 1) (oi := ?_) (v := ?_) ?_ ?_ ?_ ?_ ?_ ?_ ?_ ?_
                      rotate_left 2
                      · simp only [List.getElem?_toArray, List.getElem?_cons_succ, List.getElem?_cons_zero]; exact rfl
                      · kernel_rfl
                      · kernel_rfl
                      · kernel_rfl
                      · exact fun _ _ _ h => h
                      · (refine Or.inl ⟨by rfl, ?_⟩; (intro w hSw; (try dsimp only at hSw); go_simp) <;> with_reducible rfl)
                      · assumption
                      simp only [Act.put, List.setIfInBounds_toArray, List.set_cons_zero, List.set_cons_succ]
                      refine wpAnyH_take (i := 2) (oi := ?_) (v := ?_) ?_ ?_ ?_ ?_ ?_ ?_ ?_ ?_
                      rotate_left 2
                      · simp only [List.getElem?_toArray, List.getElem?_cons_succ, List.getElem?_cons_zero]; exact rfl
                      · kernel_rfl
                      · kernel_rfl
                      · kernel_rfl
                      · exact fun _ _ _ h => h
                      · (refine Or.inl ⟨by rfl, ?_⟩; (intro w hSw; (try dsimp only at hSw); go_simp) <;> with_reducible rfl)
                      · assumption
                      simp only [Act.put, List.setIfInBounds_toArray, List.set_cons_zero, List.set_cons_succ]
                      refine wpAnyH_take (i := 3) (oi := ?_) (v := undef) ?_ ?_ ?_ ?_ ?_ ?_ ?_ ?_
                      rotate_left 1
                      · simp only [List.getElem?_toArray, List.getElem?_cons_succ, List.getElem?_cons_zero]; exact rfl
                      · kernel_rfl
                      · kernel_rfl
                      · kernel_rfl
                      · exact fun _ _ _ h => h
                      · exact Or.inr ⟨by rfl, rfl⟩
                      · assumption
                      simp only [Act.put, List.setIfInBounds_toArray, List.set_cons_zero, List.set_cons_succ]
                      refine wpAnyH_take (i := 4) (oi := ?_) (v := ?_) ?_ ?_ ?_ ?_ ?_ ?_ ?_ ?_
                      rotate_left 2
                      · simp only [List.getElem?_toArray, List.getElem?_cons_succ, List.getElem?_cons_zero]; exact rfl
                      · kernel_rfl
                      · kernel_rfl
                      · kernel_rfl
                      · exact fun _ _ _ h => h
                      · (refine Or.inl ⟨by rfl, ?_⟩; (intro w hSw; (try dsimp only at hSw); go_simp) <;> with_reducible rfl)
                      · assumption
                      simp only [Act.put, List.setIfInBounds_toArray, List.set_cons_zero, List.set_cons_succ]
                      refine wpAnyH_take (i := 5) (oi := ?_) (v := ?_) ?_ ?_ ?_ ?_ ?_ ?_ ?_ ?_
                      rotate_left 2
                      · simp only [List.getElem?_toArray, List.getElem?_cons_succ, List.getElem?_cons_zero]; exact rfl
                      · kernel_rfl
                      · kernel_rfl
                      · kernel_rfl
                      · exact fun _ _ _ h => h
                      · (refine Or.inl ⟨by rfl, ?_⟩; (intro w hSw; (try dsimp only at hSw); go_simp) <;> with_reducible rfl)
                      · assumption
                      simp only [Act.put, List.setIfInBounds_toArray, List.set_cons_zero, List.set_cons_succ]
                      refine wpAnyH_take (i := 6) (oi := ?_) (v := ?_) ?_ ?_ ?_ ?_ ?_ ?_ ?_ ?_
                      rotate_left 2
                      · simp only [List.getElem?_toArray, List.getElem?_cons_succ, List.getElem?_cons_zero]; exact rfl
                      · kernel_rfl
                      · kernel_rfl
                      · kernel_rfl
                      · exact fun _ _ _ h => h
                      · (refine Or.inl ⟨by rfl, ?_⟩; (intro w hSw; (try dsimp only at hSw); go_simp) <;> with_reducible rfl)
                      · assumption
                      simp only [Act.put, List.setIfInBounds_toArray, List.set_cons_zero, List.set_cons_succ]
                      refine wpAnyH_take (i := 7) (oi := ?_) (v := ?_) ?_ ?_ ?_ ?_ ?_ ?_ ?_ ?_
                      rotate_left 2
                      · simp only [List.getElem?_toArray, List.getElem?_cons_succ, List.getElem?_cons_zero]; exact rfl
                      · kernel_rfl
                      · kernel_rfl
                      · kernel_rfl
                      · exact fun _ _ _ h => h
                      · (refine Or.inl ⟨by rfl, ?_⟩; (intro w hSw; (try dsimp only at hSw); go_simp) <;> with_reducible rfl)
                      · assumption
                      simp only [Act.put, List.setIfInBounds_toArray, List.set_cons_zero, List.set_cons_succ]
                      refine wpAnyH_take (i := 8) (oi := ?_) (v := ?_) ?_ ?_ ?_ ?_ ?_ ?_ ?_ ?_
                      rotate_left 2
                      · simp only [List.getElem?_toArray, List.getElem?_cons_succ, List.getElem?_cons_zero]; exact rfl
                      · kernel_rfl
                      · kernel_rfl
                      · kernel_rfl
                      · exact fun _ _ _ h => h
                      · (refine Or.inl ⟨by rfl, ?_⟩; (intro w hSw; (try dsimp only at hSw); go_simp) <;> with_reducible rfl)
                      · assumption
                      simp only [Act.put, List.setIfInBounds_toArray, List.set_cons_zero, List.set_cons_succ]
                      refine wpAnyH_take (i := 9) (oi := ?_) (v := ?_) ?_ ?_ ?_ ?_ ?_ ?_ ?_ ?_
                      rotate_left 2
                      · simp only [List.getElem?_toArray, List.getElem?_cons_succ, List.getElem?_cons_zero]; exact rfl
                      · kernel_rfl
                      · kernel_rfl
                      · kernel_rfl
                      · exact fun _ _ _ h => h
                      · (refine Or.inl ⟨by rfl, ?_⟩; (intro w hSw; (try dsimp only at hSw); go_simp) <;> with_reducible rfl)
                      · assumption
                      simp only [Act.put, List.setIfInBounds_toArray, List.set_cons_zero, List.set_cons_succ]
                      refine wpAnyH_take (i := 10) (oi := ?_) (v := ?_) ?_ ?_ ?_ ?_ ?_ ?_ ?_ ?_
                      rotate_left 2
                      · simp only [List.getElem?_toArray, List.getElem?_cons_succ, List.getElem?_cons_zero]; exact rfl
                      · kernel_rfl
                      · kernel_rfl
                      · kernel_rfl
                      · exact fun _ _ _ h => h
                      · (refine Or.inl ⟨by rfl, ?_⟩; (intro w hSw; (try dsimp only at hSw); go_simp) <;> with_reducible rfl)
                      · assumption
                      simp only [Act.put, List.setIfInBounds_toArray, List.set_cons_zero, List.set_cons_succ]
                      refine wpAnyH_take (i := 11) (oi := ?_) (v := ?_) ?_ ?_ ?_ ?_ ?_ ?_ ?_ ?_
                      rotate_left 2
                      · simp only [List.getElem?_toArray, List.getElem?_cons_succ, List.getElem?_cons_zero]; exact rfl
                      · kernel_rfl
                      · kernel_rfl
                      · kernel_rfl
                      · exact fun _ _ _ h => h
                      · (refine Or.inl ⟨by rfl, ?_⟩; (intro w hSw; (try dsimp only at hSw); go_simp) <;> with_reducible rfl)
                      · assumption
                      simp only [Act.put, List.setIfInBounds_toArray, List.set_cons_zero, List.set_cons_succ]
                      refine wpAnyH_ready (rs := [12]) (by kernel_rfl) (by simp) ?_
                      refine AllReadyH.cons rfl (fun K hK => ?_) (AllReadyH.nil)
                      go_simp
                      go_wp2_with ((go_at_call 12; refine (deps_ahead _ l k i _ S2 (HSYS3.out.below (HSTe.out.keep ((Keep.refl _ _).drew)).bel HS3.out) (fun z hz => Nat.lt_of_lt_of_le (HS3.out z hz) (HSTe.out.keep ((Keep.refl _ _).drew)).bel.size)).mono ?_; rw [HBACK.out]; rintro e w9 ⟨rfl, hk9⟩; have HST9 := Lib.hid (HSTe.out.keep (((Keep.refl _ _).drew).trans hk9 (fun _ f => f.elim))); clear hk9))
                      refine hK.out _ _ ?_ (fun hHeld => ?_)
                      · (try dsimp only); first | exact HCAT.out _ HST9.out | exact HCAT.out _ (HSTe.out.keep (by (repeat (first | exact Keep.refl _ _ | apply Keep.drew | apply Keep.drewN | apply Keep.alloc))))
                      clear hK K
                      refine wpAnyH_take (i := 13) (oi := ?_) (v := ?_) ?_ ?_ ?_ ?_ ?_ ?_ ?_ ?_
                      rotate_left 2
                      · simp only [List.getElem?_toArray, List.getElem?_cons_succ, List.getElem?_cons_zero]; exact rfl
                      · kernel_rfl
                      · kernel_rfl
                      · kernel_rfl
                      · exact fun _ _ _ h => h
                      · (refine Or.inl ⟨by rfl, ?_⟩; (intro w hSw; (try dsimp only at hSw); go_simp) <;> with_reducible rfl)
                      · assumption
                      simp only [Act.put, List.setIfInBounds_toArray, List.set_cons_zero, List.set_cons_succ]
                      refine wpAnyH_take (i := 14) (oi := ?_) (v := ?_) ?_ ?_ ?_ ?_ ?_ ?_ ?_ ?_
                      rotate_left 2
                      · simp only [List.getElem?_toArray, List.getElem?_cons_succ, List.getElem?_cons_zero]; exact rfl
                      · kernel_rfl
                      · kernel_rfl
                      · kernel_rfl
                      · exact fun _ _ _ h => h
                      · (refine Or.inl ⟨by rfl, ?_⟩; (intro w hSw; (try dsimp only at hSw); go_simp) <;> with_reducible rfl)
                      · assumption
                      simp only [Act.put, List.setIfInBounds_toArray, List.set_cons_zero, List.set_cons_succ]
                      refine wpAnyH_take (i := 15) (oi := ?_) (v := ?_) ?_ ?_ ?_ ?_ ?_ ?_ ?_ ?_
                      rotate_left 2
                      · simp only [List.getElem?_toArray, List.getElem?_cons_succ, List.getElem?_cons_zero]; exact rfl
                      · kernel_rfl
                      · kernel_rfl
                      · kernel_rfl
                      · exact fun _ _ _ h => h
                      · (refine Or.inl ⟨by rfl, ?_⟩; (intro w hSw; (try dsimp only at hSw); go_simp) <;> with_reducible rfl)
                      · assumption
                      simp only [Act.put, List.setIfInBounds_toArray, List.set_cons_zero, List.set_cons_succ]
                      refine wpAnyH_take (i := 16) (oi := ?_) (v := ?_) ?_ ?_ ?_ ?_ ?_ ?_ ?_ ?_
                      rotate_left 2
                      · simp only [List.getElem?_toArray, List.getElem?_cons_succ, List.getElem?_cons_zero]; exact rfl
                      · kernel_rfl
                      · kernel_rfl
                      · kernel_rfl
                      · exact fun _ _ _ h => h
                      · (refine Or.inl ⟨by rfl, ?_⟩; (intro w hSw; (try dsimp only at hSw); go_simp) <;> with_reducible rfl)
                      · assumption
                      simp only [Act.put, List.setIfInBounds_toArray, List.set_cons_zero, List.set_cons_succ]
                      refine wpAnyH_take (i := 17) (oi := ?_) (v := ?_) ?_ ?_ ?_ ?_ ?_ ?_ ?_ ?_
                      rotate_left 2
                      · simp only [List.getElem?_toArray, List.getElem?_cons_succ, List.getElem?_cons_zero]; exact rfl
                      · kernel_rfl
                      · kernel_rfl
                      · kernel_rfl
                      · exact fun _ _ _ h => h
                      · (refine Or.inl ⟨by rfl, ?_⟩; (intro w hSw; (try dsimp only at hSw); go_simp) <;> with_reducible rfl)
                      · assumption
                      simp only [Act.put, List.setIfInBounds_toArray, List.set_cons_zero, List.set_cons_succ]
                      refine wpAnyH_take (i := 18) (oi := ?_) (v := ?_) ?_ ?_ ?_ ?_ ?_ ?_ ?_ ?_
                      rotate_left 2
                      · simp only [List.getElem?_toArray, List.getElem?_cons_succ, List.getElem?_cons_zero]; exact rfl
                      · kernel_rfl
                      · kernel_rfl
                      · kernel_rfl
                      · exact fun _ _ _ h => h
                      · (refine Or.inl ⟨by rfl, ?_⟩; (intro w hSw; (try dsimp only at hSw); go_simp) <;> with_reducible rfl)
                      · assumption
                      simp only [Act.put, List.setIfInBounds_toArray, List.set_cons_zero, List.set_cons_succ]
                      refine wpAnyH_take (i := 19) (oi := ?_) (v := ?_) ?_ ?_ ?_ ?_ ?_ ?_ ?_ ?_
                      rotate_left 2
                      · simp only [List.getElem?_toArray, List.getElem?_cons_succ, List.getElem?_cons_zero]; exact rfl
                      · kernel_rfl
                      · kernel_rfl
                      · kernel_rfl
                      · exact fun _ _ _ h => h
                      · (refine Or.inl ⟨by rfl, ?_⟩; (intro w hSw; (try dsimp only at hSw); go_simp) <;> with_reducible rfl)
                      · assumption
                      simp only [Act.put, List.setIfInBounds_toArray, List.set_cons_zero, List.set_cons_succ]
                      refine wpAnyH_take (i := 20) (oi := ?_) (v := ?_) ?_ ?_ ?_ ?_ ?_ ?_ ?_ ?_
                      rotate_left 2
                      · simp only [List.getElem?_toArray, List.getElem?_cons_succ, List.getElem?_cons_zero]; exact rfl
                      · kernel_rfl
                      · kernel_rfl
                      · kernel_rfl
                      · exact fun _ _ _ h => h
                      · (refine Or.inl ⟨by rfl, ?_⟩; (intro w hSw; (try dsimp only at hSw); go_simp) <;> with_reducible rfl)
                      · assumption
                      simp only [Act.put, List.setIfInBounds_toArray, List.set_cons_zero, List.set_cons_succ]
                      refine wpAnyH_take (i := 21) (oi := ?_) (v := ?_) ?_ ?_ ?_ ?_ ?_ ?_ ?_ ?_
                      rotate_left 2
                      · simp only [List.getElem?_toArray, List.getElem?_cons_succ, List.getElem?_cons_zero]; exact rfl
                      · kernel_rfl
                      · kernel_rfl
                      · kernel_rfl
                      · exact fun _ _ _ h => h
                      · (refine Or.inl ⟨by rfl, ?_⟩; (intro w hSw; (try dsimp only at hSw); go_simp) <;> with_reducible rfl)
                      · assumption
                      simp only [Act.put, List.setIfInBounds_toArray, List.set_cons_zero, List.set_cons_succ]
                      refine wpAnyH_take (i := 22) (oi := ?_) (v := ?_) ?_ ?_ ?_ ?_ ?_ ?_ ?_ ?_
                      rotate_left 2
                      · simp only [List.getElem?_toArray, List.getElem?_cons_succ, List.getElem?_cons_zero]; exact rfl
                      · kernel_rfl
                      · kernel_rfl
                      · kernel_rfl
                      · exact fun _ _ _ h => h
                      · (refine Or.inl ⟨by rfl, ?_⟩; (intro w hSw; (try dsimp only at hSw); go_simp) <;> with_reducible rfl)
                      · assumption
                      simp only [Act.put, List.setIfInBounds_toArray, List.set_cons_zero, List.set_cons_succ]
                      refine wpAnyH_take (i := 23) (oi := ?_) (v := ?_) ?_ ?_ ?_ ?_ ?_ ?_ ?_ ?_
                      rotate_left 2
                      · simp only [List.getElem?_toArray, List.getElem?_cons_succ, List.getElem?_cons_zero]; exact rfl
                      · kernel_rfl
                      · kernel_rfl
                      · kernel_rfl
                      · exact fun _ _ _ h => h
                      · (refine Or.inl ⟨by rfl, ?_⟩; (intro w hSw; (try dsimp only at hSw); go_simp) <;> with_reducible rfl)
                      · assumption
                      simp only [Act.put, List.setIfInBounds_toArray, List.set_cons_zero, List.set_cons_succ]
                      refine wpAnyH_take (i := 24) (oi := ?_) (v := ?_) ?_ ?_ ?_ ?_ ?_ ?_ ?_ ?_
                      rotate_left 2
                      · simp only [List.getElem?_toArray, List.getElem?_cons_succ, List.getElem?_cons_zero]; exact rfl
                      · kernel_rfl
                      · kernel_rfl
                      · kernel_rfl
                      · exact fun _ _ _ h => h
                      · (refine Or.inl ⟨by rfl, ?_⟩; (intro w hSw; (try dsimp only at hSw); go_simp) <;> with_reducible rfl)
                      · assumption
                      simp only [Act.put, List.setIfInBounds_toArray, List.set_cons_zero, List.set_cons_succ]
                      refine wpAnyH_take (i := 25) (oi := ?_) (v := ?_) ?_ ?_ ?_ ?_ ?_ ?_ ?_ ?_
                      rotate_left 2
                      · simp only [List.getElem?_toArray, List.getElem?_cons_succ, List.getElem?_cons_zero]; exact rfl
                      · kernel_rfl
                      · kernel_rfl
                      · kernel_rfl
                      · exact fun _ _ _ h => h
                      · (refine Or.inl ⟨by rfl, ?_⟩; (intro w hSw; (try dsimp only at hSw); go_simp) <;> with_reducible rfl)
                      · assumption
                      simp only [Act.put, List.setIfInBounds_toArray, List.set_cons_zero, List.set_cons_succ]
                      refine wpAnyH_done (by kernel_rfl) ?_ _
                      go_wp2_with fail
                      go_roundg (N - (k + 1))
                      case measure => have := HGK.out; omega
                      case rel => exact ⟨k + 1, by have := HGK.out; omega, by go_num, HST9.out⟩
            · go_wp2_with fail
              go_roundg (N - (i + 1))
              case measure => have := HG.out; omega
              case rel => exact ⟨i + 1, by have := HG.out; omega, by go_num, HSTk.out⟩
        · obtain rfl : N = i := by omega
          have hlA : ((aftsOf l).length : Int) = N := by rw [aftsOf_len, HN.out]
          have HLA := Lib.hid hlA
          have hS2lt : ∀ W, Below w3.heap.size w3 W → ∀ z, S2 z → z < W.heap.size := fun W hW z hz => Nat.lt_of_lt_of_le (HS3.out z hz) hW.size
          have HLT := Lib.hid hS2lt; clear hS2lt hlA hlt hiN
          have hfin : ∀ a0 : Int, (a0 < 0 ∨ (N : Int) ≤ a0) → Hid (aheadB (aftsOf l) a0 b' = false ∧ aheadB (aftsOf l) b' a0 = false) := fun a0 h0 => Lib.hid (ahead_out (by rw [HLA.out]; exact h0))
          have HFIN := Lib.hid hfin; clear hfin
          by_cases hin : 0 ≤ a' ∧ a' < N
          · obtain ⟨hi1, hi2⟩ := hin
            have HE := HFIN.out (N : Int) (.inr (by omega))
            go_wp2_with fail
            refine (deps_ahead _ l N b' _ S2 (HSYS3.out.below HSTi.out.bel HS3.out) (HLT.out _ HSTi.out.bel)).mono ?_
            rw [HE.out.1]
            rintro e w7 ⟨rfl, hk7⟩
            have HST7 := Lib.hid (HSTi.out.keep hk7); clear hk7
            go_wp2_with fail
            refine (deps_ahead _ l b' N _ S2 (HSYS3.out.below HST7.out.bel HS3.out) (HLT.out _ HST7.out.bel)).mono ?_
            rw [HE.out.2]
            rintro e w8 ⟨rfl, hk8⟩
            have HB8 := Lib.hid (HB3.out.trans ((HST7.out.keep hk8).bel.mono HB3.out.size)); clear hk8
            go_wp2_with fail
            refine (awake22 _).mono ?_
            rintro e w9 ⟨rfl, hb9⟩
            have HB9 := Lib.hid (HB8.out.trans (hb9.mono HB8.out.size)); clear hb9
            go_wp2_with fail
            go_ret
            exact ⟨rfl, HB9.out⟩
          · have hbad : a' < 0 ∨ (N : Int) ≤ a' := by omega
            have HE := HFIN.out a' hbad
            clear hin
            rcases hbad with hbd | hbd
            all_goals
              go_wp2_with fail
              refine (deps_ahead _ l a' b' _ S2 (HSYS3.out.below HSTi.out.bel HS3.out) (HLT.out _ HSTi.out.bel)).mono ?_
              rw [HE.out.1]
              rintro e w7 ⟨rfl, hk7⟩
              have HST7 := Lib.hid (HSTi.out.keep hk7); clear hk7
              go_wp2_with fail
              refine (deps_ahead _ l b' a' _ S2 (HSYS3.out.below HST7.out.bel HS3.out) (HLT.out _ HST7.out.bel)).mono ?_
              rw [HE.out.2]
              rintro e w8 ⟨rfl, hk8⟩
              have HB8 := Lib.hid (HB3.out.trans ((HST7.out.keep hk8).bel.mono HB3.out.size)); clear hk8
              go_wp2_with fail
              refine (awake22 _).mono ?_
              rintro e w9 ⟨rfl, hb9⟩
              have HB9 := Lib.hid (HB8.out.trans (hb9.mono HB8.out.size)); clear hb9
              go_wp2_with fail
              go_ret
              exact ⟨rfl, HB9.out⟩
end Go.Proofs.Ytfjamllkjofdbaa
