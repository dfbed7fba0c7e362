/-
  The document's order: the same row.
-/
import Derived.Test.YtbigknmeooaidaaRowE
namespace Go.Proofs.Ytbigknmeooaidaa
open Go Go.RowKit
set_option linter.unusedVariables false
set_option linter.unusedSimpArgs false

def bools (l : List Bool) : List Value := l.map .bool
theorem bools_len (l : List Bool) : (bools l).length = l.length := by simp [bools]
theorem bools_get {l : List Bool} {k : Nat} {x : Bool} (h : l[k]? = some x) : (bools l)[k]? = some (.bool x) := by simp [bools, h]
theorem bools_set (l : List Bool) (k : Nat) (x : Bool) : (bools l).set k (.bool x) = bools (l.set k x) := by simp [bools, List.map_set]
theorem make_bool {w0 w : World} {L : List Asr} (h : St w0 w L) (n : Nat) (hn : n ≤ 100000) :
    ∃ w', (Instr.makeSlice 79 (.int .i64 (n : Int)) (.int .i64 (n : Int))).run Try.prog w = .ok (.slice (some ⟨w.heap.size, 0, none⟩) n n) w' ∧
      St w0 w' (L ++ [slA 4 1 (.slice (some ⟨w.heap.size, 0, none⟩) n n) n (bools (List.replicate n false))]) := by
  obtain ⟨w', h1, h2⟩ := h.make (P := Try.prog) (t := 79) (e := 4) (size := 1) (bytes := 1) (.bool false) Try.underlying79 (by kernel_rfl) rfl (by decide) .i64 .i64 n (by omega) (by unfold maxLen; omega)
  refine ⟨w', h1, ?_⟩
  have e : (List.replicate n (Value.bool false).cells.toList).flatten = bools (List.replicate n false) := by
    unfold bools
    rw [List.map_replicate]
    show (List.replicate n [Value.bool false]).flatten = _
    induction n with
    | zero => rfl
    | succ n ih => rw [List.replicate_succ, List.flatten_cons]; simp [List.replicate_succ] at ih ⊢
  rw [e] at h2
  exact h2

/-- The least that may come next from number i on. -/
def nextDn (A : List (List Int)) (done : List Nat) (i : Nat) : Option Nat := (List.range' i (A.length - i)).find? (freeAt A done)
theorem nextDn_top (A : List (List Int)) (done : List Nat) : nextDn A done A.length = none := by simp [nextDn]
theorem nextDn_step {A : List (List Int)} {done : List Nat} {i : Nat} (hi : i < A.length) : nextDn A done i = if freeAt A done i = true then some i else nextDn A done (i + 1) := by
  unfold nextDn
  rw [show A.length - i = (A.length - (i + 1)) + 1 by omega, List.range'_succ, List.find?_cons]
  cases freeAt A done i <;> simp
theorem nextDn_zero (A : List (List Int)) (done : List Nat) : nextDn A done 0 = nextOf A done := by
  unfold nextDn nextOf
  rw [Nat.sub_zero, List.range_eq_range']
/-- The marks of those that are done. -/
def Marks (done : List Nat) (D : List Bool) (n : Nat) : Prop := D.length = n ∧ ∀ k, k < n → D[k]? = some (done.contains k)
theorem Marks.step {done : List Nat} {D : List Bool} {n i : Nat} (h : Marks done D n) (hi : i < n) : Marks (done ++ [i]) (D.set i true) n := by
  refine ⟨by rw [List.length_set]; exact h.1, fun k hk => ?_⟩
  by_cases e : k = i
  · subst e
    rw [List.getElem?_set_self (by rw [h.1]; exact hk)]
    simp
  · rw [List.getElem?_set_ne (fun e' => e e'.symm), h.2 k hk]
    simp [e]
theorem all_snoc {α : Type} (p : α → Bool) (l : List α) (j : Nat) (x : α) (h : l[j]? = some x) : (l.take (j + 1)).all p = ((l.take j).all p && p x) := by
  rw [List.take_add_one, h]
  simp

theorem Keep.ofSt {w wr : World} {L : List Asr} (h : St w wr L) : Keep w wr Nope := ⟨h.bel.os, h.bel.tape, h.bel.output, h.bel.size, fun k hk _ => h.bel.block k hk⟩
def LoopR1 (w : World) (A : List (List Int)) (g : Nat) (v4 : Value) (wr : World) : Prop :=
  ∃ i : Nat, g + i = A.length ∧ v4 = .int .i64 i ∧ (∀ j, j < i → (aftOf A j).any (badAt A.length j) = false) ∧ w = wr
def LoopR2 (w : World) (l : List Int) (i n : Nat) (g : Nat) (v5 : Value) (wr : World) : Prop :=
  ∃ k : Nat, g + k = l.length ∧ v5 = .int .i64 k ∧ (∀ j x, j < k → l[j]? = some x → badAt n i x = false) ∧ w = wr
def RefL (gd n : Nat) (D : List Bool) (v7 : Value) (done : List Nat) : List Asr :=
  [slA 4 1 (.slice (some ⟨gd, 0, none⟩) n n) n (bools D), slA 3 1 v7 done.length (ints (nats done))]
def LoopR3 (w : World) (A : List (List Int)) (gd n : Nat) (g : Nat) (v7 : Value) (wr : World) : Prop :=
  ∃ (done : List Nat) (D : List Bool) (a : Option Addr) (c : Nat), g + done.length = n ∧ v7 = .slice a done.length c ∧ Part A done ∧ Marks done D n ∧ St w wr (RefL gd n D (.slice a done.length c) done)
def LoopR4 (w wo : World) (A : List (List Int)) (done : List Nat) (g : Nat) (v9 v10 : Value) (wr : World) : Prop :=
  ∃ i : Nat, g = i ∧ i ≤ A.length ∧ v10 = .int .i64 ((i : Int) - 1) ∧ v9 = .int .i64 (nextI (nextDn A done i)) ∧ wo = wr
def LoopR5 (wo : World) (done : List Nat) (l : List Int) (b0 : Bool) (g : Nat) (v11 v12 : Value) (wr : World) : Prop :=
  ∃ k : Nat, g + k = l.length ∧ v12 = .int .i64 k ∧ v11 = .bool (!b0 && (l.take k).all (fun x => done.any (fun j => (j : Int) == x))) ∧ wo = wr

set_option maxRecDepth 100000 in
set_option maxHeartbeats 4000000 in
theorem ref_order (v : Value) (l : List SysV) (w : World) (S : Nat → Prop) (h : RdSys S w v l) (hS : ∀ i, S i → i < w.heap.size) :
    Calls Try.prog 19 #[v] w (RetOrder w (aftsOf l)) := by
  obtain ⟨a, c, rfl, g1, g2, g3, g4⟩ := id h.rd
  have hlen : l.length ≤ 9223372036854775807 := by unfold maxLen at g2; omega
  clear g1 g2 g3 g4
  obtain ⟨A, hA⟩ : ∃ A, A = aftsOf l := ⟨_, rfl⟩
  have hAl : A.length = l.length := by rw [hA]; exact aftsOf_len l
  rw [← hA]
  have H := Lib.hid h; clear h
  have HAL := Lib.hid hAl; clear hAl
  have HA := Lib.hid hA; clear hA
  have HS := Lib.hid hS; clear hS
  by_cases hbig : 64 < l.length
  · have hbig' : (64 : Int) < l.length := by omega
    have HE := Lib.hid (show chk A = 2 by unfold chk; rw [if_pos (by rw [HAL.out]; exact hbig)])
    go_enter Try.func19, Try.ntmps19
    go_wp2_with fail
    go_ret2
    refine ⟨none, 0, 0, by rw [HE.out]; rfl, Keep.refl _ _, ?_⟩
    rw [HE.out]
    exact Own.nil _ _ _ _
  · have hbig' : ¬ (64 : Int) < l.length := by omega
    have hl64 : l.length ≤ 64 := by omega
    obtain ⟨n, hn⟩ : ∃ n, l.length = n := ⟨_, rfl⟩
    rw [hn] at HAL H hlen hbig' hl64 ⊢
    have HN := Lib.hid hn; clear hn hbig
    have hsysc : ∀ (W : World), Below w.heap.size w W → ∀ (k : Nat) (y : SysV), l[k]? = some y → ∃ b o bc, a = some ⟨b, o, none⟩ ∧ W.cell? ⟨b, o + k * 8 + 7, none⟩ = some (.slice y.af.a y.aft.length y.af.c) ∧ Rd S W (.slice y.af.a y.aft.length y.af.c) y.aft.length (ints y.aft) ∧ bc = b := by
      intro W hW k y hy
      obtain ⟨b, o, e, _, hco⟩ := (H.out.below hW HS.out).rd.elem (cells := SysV.cells) (size := 8) (fun _ => rfl) (by decide) hy
      obtain ⟨hyn, hyr⟩ := (H.out.below hW HS.out).af y (List.mem_of_getElem? hy)
      have hc7 := hco 7 (by decide)
      simp [SysV.cells, SlV.v] at hc7
      unfold SlV.v at hyr
      rw [hyn] at hc7 hyr
      exact ⟨b, o, b, e, hc7, hyr, rfl⟩
    have HSC := Lib.hid hsysc; clear hsysc
    go_enter Try.func19, Try.ntmps19
    go_wp2_with fail
    go_loopg [4] n (fun g v4 wr => LoopR1 w A g v4 wr)
    case atStart => exact ⟨0, HAL.out.symm, rfl, fun j hj => by omega, rfl⟩
    case round =>
      obtain ⟨i, hg, rfl, hall, rfl⟩ := hrel
      have hin : i ≤ n := by have := HAL.out; omega
      have HG := Lib.hid hg; clear hg
      have HALL := Lib.hid hall; clear hall
      by_cases hlt : i < n
      · obtain ⟨y, hy⟩ : ∃ y, l[i]? = some y := ⟨_, List.getElem?_eq_getElem (by rw [HN.out]; exact hlt)⟩
        obtain ⟨b, o, _, rfl, hc7, hyr, rfl⟩ := HSC.out w (Below.refl _ _) i y hy
        have hyl := aftOf_get hy
        rw [← HA.out] at hyl
        have HYL := Lib.hid hyl; clear hyl hy
        have HYR := Lib.hid hyr
        have hml : y.aft.length ≤ 9223372036854775807 := by
          obtain ⟨_, _, e, e1, e2, _⟩ := hyr
          unfold maxLen at e2
          omega
        clear hyr
        obtain ⟨wo, hwo⟩ : ∃ wo, wo = w := ⟨_, rfl⟩
        go_wp2_with fail
        go_loopg [5] y.aft.length (fun g v5 wr => LoopR2 w y.aft i n g v5 wr)
        case atStart => exact ⟨0, rfl, rfl, fun j x hj => by omega, rfl⟩
        case round =>
          obtain ⟨k, hg, rfl, hall, rfl⟩ := hrel
          have hkl : k ≤ y.aft.length := by omega
          have HGK := Lib.hid hg; clear hg
          have HALK := Lib.hid hall; clear hall
          by_cases hlk : k < y.aft.length
          · obtain ⟨u, hu⟩ : ∃ u, y.aft[k]? = some u := ⟨_, List.getElem?_eq_getElem hlk⟩
            obtain ⟨bu, ou, ⟨cu, hv⟩, _, hcu⟩ := HYR.out.int hu
            injection hv with hv1 hv2 hv3
            rw [hv1] at hc7
            have HU := Lib.hid hu; clear hu hv1 hv2 hv3
            have hbadR : badAt n i u = true → Hid (chk A = 1) := fun hb => Lib.hid (by
              unfold chk
              rw [if_neg (by rw [HAL.out]; omega), if_pos (badSys_of (k := i) (by rw [HAL.out]; exact hlt) (by rw [HYL.out, HAL.out]; exact List.any_eq_true.2 ⟨u, List.mem_of_getElem? HU.out, hb⟩))])
            have HBR := Lib.hid hbadR; clear hbadR
            by_cases hb1 : u < 0
            · have HE := HBR.out (by simp [badAt, hb1])
              go_wp2_with fail
              go_ret2
              refine ⟨none, 0, 0, by rw [HE.out]; rfl, Keep.refl _ _, ?_⟩
              rw [HE.out]
              exact Own.nil _ _ _ _
            · by_cases hb2 : (n : Int) ≤ u
              · have HE := HBR.out (by simp [badAt, hb2])
                go_wp2_with fail
                go_ret2
                refine ⟨none, 0, 0, by rw [HE.out]; rfl, Keep.refl _ _, ?_⟩
                rw [HE.out]
                exact Own.nil _ _ _ _
              · by_cases hb3 : u = i
                · have HE := HBR.out (by simp [badAt, hb3])
                  have hb3' : (u == (i : Int)) = true := by simpa using hb3
                  clear hb3
                  go_wp2_with fail
                  go_ret2
                  refine ⟨none, 0, 0, by rw [HE.out]; rfl, Keep.refl _ _, ?_⟩
                  rw [HE.out]
                  exact Own.nil _ _ _ _
                · have hb3' : (u == (i : Int)) = false := by simpa using hb3
                  have HNB := Lib.hid (show badAt n i u = false by simp [badAt, hb1, hb2, hb3])
                  clear hb3
                  go_wp2_with fail
                  go_roundg (y.aft.length - (k + 1))
                  case measure => have := HGK.out; omega
                  case rel =>
                    refine ⟨k + 1, by have := HGK.out; omega, by go_num, fun j z hj hz => ?_, rfl⟩
                    by_cases e : j = k
                    · subst e
                      rw [HU.out] at hz
                      cases hz
                      exact HNB.out
                    · exact HALK.out j z (by omega) hz
          · go_wp2_with fail
            go_roundg (n - (i + 1))
            case measure => have := HG.out; have := HAL.out; omega
            case rel =>
              refine ⟨i + 1, by have := HG.out; have := HAL.out; omega, by go_num, fun j hj => ?_, rfl⟩
              by_cases e : j = i
              · subst e
                rw [HYL.out, HAL.out, List.any_eq_false]
                intro z hz
                obtain ⟨q, hq, rfl⟩ := List.getElem_of_mem hz
                rw [HALK.out q _ (by omega) (List.getElem?_eq_getElem hq)]
                simp
              · exact HALL.out j (by omega)
      · obtain rfl : n = i := by omega
        have hno : badSys A = false := badSys_no (fun j hj => HALL.out j (by have := HAL.out; omega))
        have HNO := Lib.hid hno; clear hno HALL HG hlt hin
        obtain ⟨w1, hmk, hst1⟩ := make_bool (St.start w) n (by omega)
        obtain ⟨gd, hgd⟩ : ∃ gd, w.heap.size = gd := ⟨_, rfl⟩
        rw [hgd] at hmk hst1
        have HST1 := Lib.hid (show St w w1 (RefL gd n (List.replicate n false) (.slice none 0 0) []) from hst1.add (Keep.refl _ _) (A := slA 3 1 (.slice none 0 0) 0 (ints (nats []))) (Own.nil _ _ _ _))
        clear hst1 hgd
        go_wp2_with fail
        clear hmk
        go_loopg [7] n (fun g v7 wr => LoopR3 w A gd n g v7 wr)
        case atStart => exact ⟨[], List.replicate n false, none, 0, rfl, rfl, Part.start A, ⟨by simp, fun k hk => by simp [hk]⟩, HST1.out⟩
        case round =>
          obtain ⟨done, D, a7, c7, hg, rfl, hpart, hmk, hst⟩ := hrel
          obtain ⟨m, hm⟩ : ∃ m, done.length = m := ⟨_, rfl⟩
          unfold RefL at hst
          rw [hm] at hg hst ⊢
          have hmn : m ≤ n := by omega
          have HM := Lib.hid hm; clear hm
          have HG := Lib.hid hg; clear hg
          have HPA := Lib.hid hpart; clear hpart
          have HMK := Lib.hid hmk; clear hmk
          have HST := Lib.hid hst; clear hst HST1
          by_cases hlt : m < n
          · obtain ⟨wo, hwo⟩ : ∃ wo, wo = wr := ⟨_, rfl⟩
            subst hwo
            have hn1 : (0 : Int) ≤ (n : Int) - 1 := by omega
            go_wp2_with fail
            clear hn1
            go_loopg [9, 10] n (fun g v9 v10 wr => LoopR4 w wo A done g v9 v10 wr)
            case atStart => exact ⟨n, rfl, by rw [HAL.out]; exact Nat.le_refl _, rfl, by rw [← HAL.out, nextDn_top]; rfl, rfl⟩
            case round =>
              obtain ⟨i, hg, hi, rfl, rfl, rfl⟩ := hrel
              rw [HAL.out] at hi
              by_cases hi0 : i = 0
              · subst hi0
                rw [nextDn_zero]
                clear hg hi
                cases hnx : nextOf A done with
                | none =>
                  have HOR := Lib.hid (HPA.out.stop hnx)
                  have HE := Lib.hid (show chk A = 20 by
                    unfold chk
                    rw [if_neg (by rw [HAL.out]; omega), HNO.out, if_neg (by simp), if_pos (by rw [HOR.out, HM.out, HAL.out]; exact hlt)])
                  clear hnx
                  simp only [nextI, Int.natCast_zero, Int.zero_sub]
                  go_wp2_with fail
                  go_ret2
                  refine ⟨none, 0, 0, by rw [HE.out]; rfl, Keep.ofSt HST.out, ?_⟩
                  rw [HE.out]
                  exact Own.nil _ _ _ _
                | some x =>
                  obtain ⟨hstep, hlt2⟩ := HPA.out.step hnx
                  have hxn : x < n := by have := (nextOf_some hnx).1; rw [HAL.out] at this; exact this
                  have HSTEP := Lib.hid hstep; clear hstep hnx hlt2
                  obtain ⟨g', hg', hltd, hfd, hcd, hst⟩ := HST.out.store 0 rfl (by omega)
                  injection hg' with hg'
                  injection hg' with hg'
                  subst hg'
                  have hfx := hfd x
                  have hcx := (hcd x (by omega)).trans (bools_get (HMK.out.2 x hxn))
                  have hst2 := hst x (.bool true)
                  rw [bools_set] at hst2
                  have HSTs := Lib.hid hst2
                  have HMKs := Lib.hid (HMK.out.step hxn)
                  clear hst2 hst hfd hcd
                  obtain ⟨G, hown, hGb, hup, _⟩ := (HSTs.out.alloc (.cells #[.int .i64 (x : Int)] 3)).opens 1 rfl
                  have HOwn := Lib.hid hown
                  have HUP := Lib.hid hup
                  clear hown hGb hup
                  simp only [nextI, Int.natCast_zero, Int.zero_sub]
                  go_wp2_with (at_builtin; refine wpList_app (P := Try.prog) slInt rfl _ _ rfl (S := G) (S2 := fun z => z = wo.heap.size) (n := m) (xs := ints (nats done)) (m := 1) (news := ints (nats [x])) rfl rfl ?hown ?hx ?hl ?h1 ?h2 ?h3 ?_)
                  case hown => exact HOwn.out
                  case hx => have hx := rd_one (wo.setCell ⟨gd, x, none⟩ (.bool true)) x; simp only [size_setCell] at hx; exact hx
                  case hl => rfl
                  case h1 => exact ints_one _
                  case h2 => omega
                  case h3 => unfold maxLen; omega
                  rintro a' k' c' w5 happ
                  have HNum := Lib.hid happ.num
                  have HST5 := Lib.hid (HUP.out w5 (slA 3 1 (.slice a' k' c') k' (ints (nats done) ++ ints (nats [x]))) happ.keep happ.own)
                  clear happ
                  go_wp2_with fail
                  go_roundg (n - (m + 1))
                  case measure => have := HG.out; omega
                  case rel =>
                    have e1 : (done ++ [x]).length = k' := by rw [List.length_append, HM.out, HNum.out]; rfl
                    refine ⟨done ++ [x], D.set x true, a', c', by rw [e1]; have := HNum.out; omega, by rw [e1], HSTEP.out, HMKs.out, ?_⟩
                    rw [e1]
                    unfold RefL
                    rw [e1, nats_app, ints_app]
                    exact HST5.out
              · obtain ⟨q, rfl⟩ : ∃ q, i = q + 1 := ⟨i - 1, by omega⟩
                have hqn : q < n := by omega
                rw [show (((q + 1 : Nat) : Int) - 1) = (q : Int) by omega]
                have HGQ := Lib.hid hg; clear hg hi hi0
                obtain ⟨y, hy⟩ : ∃ y, l[q]? = some y := ⟨_, List.getElem?_eq_getElem (by rw [HN.out]; exact hqn)⟩
                obtain ⟨b, o, _, rfl, hc7, hyr, rfl⟩ := HSC.out wo HST.out.bel q y hy
                have hyl := aftOf_get hy
                rw [← HA.out] at hyl
                have HFR := Lib.hid (show freeAt A done q = (!done.contains q && y.aft.all (fun x => done.any (fun j => (j : Int) == x))) by unfold freeAt; rw [hyl])
                have HVAL : Hid (∀ u, u ∈ y.aft → 0 ≤ u ∧ u < n) := Lib.hid (fun u hu => by
                  have := okA HNO.out q (by rw [HAL.out]; exact hqn) u (by rw [hyl]; exact hu)
                  rw [HAL.out] at this
                  exact ⟨this.1, this.2.1⟩)
                have HST7 := Lib.hid (nextDn_step (A := A) (done := done) (i := q) (by rw [HAL.out]; exact hqn))
                have HYR := Lib.hid hyr
                have hml : y.aft.length ≤ 9223372036854775807 := by
                  obtain ⟨_, _, e, e1, e2, _⟩ := hyr
                  unfold maxLen at e2
                  omega
                clear hyr hyl hy
                obtain ⟨b0, hb0⟩ : ∃ b0, done.contains q = b0 := ⟨_, rfl⟩
                rw [hb0] at HFR
                obtain ⟨g', hg', hltd, _, hcd, _⟩ := HST.out.store 0 rfl (by omega)
                injection hg' with hg'
                injection hg' with hg'
                subst hg'
                have hcq := (hcd q (by omega)).trans (bools_get ((HMK.out.2 q hqn).trans (by rw [hb0])))
                have HCD : Hid (∀ u : Nat, u < n → wo.cell? ⟨gd, u, none⟩ = some (.bool (done.contains u))) := Lib.hid (fun u hu => (hcd u (by omega)).trans (bools_get (HMK.out.2 u hu)))
                clear hb0 hcd
                obtain ⟨nx, hnx⟩ : ∃ nx, nextI (nextDn A done (q + 1)) = nx := ⟨_, rfl⟩
                rw [hnx]
                have HNX := Lib.hid hnx; clear hnx
                go_wp2_with fail
                go_loopg [11, 12] y.aft.length (fun g v11 v12 wr => LoopR5 wo done y.aft b0 g v11 v12 wr)
                case atStart => exact ⟨0, rfl, rfl, by simp, rfl⟩
                case round =>
                  obtain ⟨k, hg, rfl, rfl, rfl⟩ := hrel
                  have hkl : k ≤ y.aft.length := by omega
                  have HGK := Lib.hid hg; clear hg
                  by_cases hlk : k < y.aft.length
                  · obtain ⟨u, hu⟩ : ∃ u, y.aft[k]? = some u := ⟨_, List.getElem?_eq_getElem hlk⟩
                    obtain ⟨bu, ou, ⟨cu, hv⟩, _, hcu⟩ := HYR.out.int hu
                    injection hv with hv1 hv2 hv3
                    rw [hv1] at hc7
                    have HSN := Lib.hid (all_snoc (fun x => done.any (fun j => (j : Int) == x)) y.aft k u hu)
                    obtain ⟨hu0, hu1⟩ := HVAL.out u (List.mem_of_getElem? hu)
                    obtain ⟨z, rfl⟩ : ∃ z : Nat, u = z := ⟨u.toNat, by omega⟩
                    have hzn : z < n := by omega
                    have hcz := HCD.out z hzn
                    have HCZ := Lib.hid (show done.any (fun j => (j : Int) == (z : Int)) = done.contains z by
                      rw [Bool.eq_iff_iff]
                      simp
                      constructor
                      · rintro ⟨j, hj, e⟩
                        have : j = z := by omega
                        exact this ▸ hj
                      · intro h
                        exact ⟨z, h, rfl⟩)
                    obtain ⟨bz, hbz⟩ : ∃ bz, done.contains z = bz := ⟨_, rfl⟩
                    rw [hbz] at HCZ hcz
                    clear hu hv1 hv2 hv3 hbz hu0 hu1
                    obtain ⟨okv, hok⟩ : ∃ okv, (!b0 && (y.aft.take k).all (fun x => done.any (fun j => (j : Int) == x))) = okv := ⟨_, rfl⟩
                    have HOKn := Lib.hid (show (!b0 && (y.aft.take (k + 1)).all (fun x => done.any (fun j => (j : Int) == x))) = (okv && bz) by rw [HSN.out, ← hok, HCZ.out, Bool.and_assoc])
                    rw [hok]
                    clear hok
                    cases okv
                    · go_wp2_with fail
                      go_roundg (y.aft.length - (k + 1))
                      case measure => have := HGK.out; omega
                      case rel => exact ⟨k + 1, by have := HGK.out; omega, by go_num, by rw [HOKn.out]; rfl, rfl⟩
                    · go_wp2_with fail
                      go_roundg (y.aft.length - (k + 1))
                      case measure => have := HGK.out; omega
                      case rel => exact ⟨k + 1, by have := HGK.out; omega, by go_num, by rw [HOKn.out]; simp, rfl⟩
                  · obtain rfl : k = y.aft.length := by omega
                    rw [List.take_length]
                    rw [← HFR.out]
                    obtain ⟨fr, hfr⟩ : ∃ fr, freeAt A done q = fr := ⟨_, rfl⟩
                    rw [hfr]
                    have HFRR := Lib.hid hfr; clear hfr
                    cases fr
                    · go_wp2_with fail
                      go_roundg q
                      case measure => have := HGQ.out; omega
                      case rel => exact ⟨q, rfl, by rw [HAL.out]; omega, rfl, by rw [HST7.out, HFRR.out, ← HNX.out]; rfl, rfl⟩
                    · go_wp2_with fail
                      go_roundg q
                      case measure => have := HGQ.out; omega
                      case rel => exact ⟨q, rfl, by rw [HAL.out]; omega, rfl, by rw [HST7.out, HFRR.out]; rfl, rfl⟩
          · obtain rfl : n = m := by omega
            have HOR := Lib.hid (HPA.out.full (by rw [HAL.out, HM.out]; exact Nat.le_refl _))
            have HE := Lib.hid (show chk A = 0 from chk_is (by rw [HAL.out]; omega) HNO.out (by rw [HOR.out, HM.out, HAL.out]))
            obtain ⟨G, hown, hGb, _⟩ := HST.out.opens 1 rfl
            have HOwn := Lib.hid (hown.mono (T := New w wr) (fun z hz => hGb z hz)); clear hown hGb
            go_wp2_with fail
            go_ret2
            refine ⟨a7, n, c7, by rw [HE.out]; rfl, Keep.ofSt HST.out, ?_⟩
            rw [if_pos HE.out, HOR.out]
            exact HOwn.out
end Go.Proofs.Ytbigknmeooaidaa
