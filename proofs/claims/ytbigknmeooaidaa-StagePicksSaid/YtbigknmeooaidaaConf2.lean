/-
  The package sys: do two rows meet; do two systems meddle.
-/
import Derived.Test.YtbigknmeooaidaaConf
namespace Go.Proofs.Ytbigknmeooaidaa
open Go Go.RowKit
set_option linter.unusedVariables false
set_option linter.unusedSimpArgs false

theorem meet11 (x : Int) (bn : Nat) (v : Value) (l : List Int) (w : World) (S : Nat → Prop) (h : Rd S w v l.length (ints l)) (hn : w.cell? ⟨bn, 0, none⟩ = some (.int .i64 x)) :
    Calls Try.prog 64 #[v, .pointer (some ⟨bn, 0, none⟩)] w (fun e w' => e = .returned (.bool (hasL l x)) ∧ w = w') := by
  have HI := Lib.hid (contains_val x v l w S h)
  obtain ⟨a, c, rfl, _⟩ := id h
  clear h
  go_enter Try.func64, Try.ntmps64
  go_wp2_with fail
  refine HI.out.mono ?_
  rintro e w' ⟨rfl, rfl⟩
  go_wp2_with fail
  go_ret
  exact ⟨rfl, rfl⟩

def LoopRows (w : World) (rs : List RowV) (p : List Int → Bool) (g : Nat) (v8 : Value) (wr : World) : Prop :=
  ∃ k : Nat, g + k = rs.length ∧ v8 = .int .i64 k ∧ (∀ j x, j < k → rs[j]? = some x → p x.l = false) ∧ w = wr
set_option maxHeartbeats 1000000 in
theorem index_rows (x : Int) (bn : Nat) (v : Value) (rs : List RowV) (w : World) (S : Nat → Prop) (h : RdRows S w v rs) (hn : w.cell? ⟨bn, 0, none⟩ = some (.int .i64 x)) :
    Calls Try.prog 95 #[v, .func (.func 64) #[] #[.pointer (some ⟨bn, 0, none⟩)]] w (RetIx w (rs.any (fun r => hasL r.l x))) := by
  obtain ⟨a, c, rfl, g1, g2, g3, g4⟩ := id h.rd
  have hlen : rs.length ≤ 9223372036854775807 := by unfold maxLen at g2; omega
  clear g1 g2 g3 g4
  have H := Lib.hid h; clear h
  have HP := Lib.hid (fun (v : Value) (l : List Int) (h : Rd S w v l.length (ints l)) => meet11 x bn v l w S h hn); clear hn
  go_enter Try.func95, Try.ntmps95
  go_wp2_with fail
  go_loopg [8] rs.length (fun g v8 wr => LoopRows w rs (fun l => hasL l x) g v8 wr)
  case atStart => exact ⟨0, rfl, rfl, fun j x h => by omega, rfl⟩
  case round =>
    obtain ⟨k, hk, rfl, hall, rfl⟩ := hrel
    have hkl : k ≤ rs.length := by omega
    have HK := Lib.hid hk; clear hk
    have HA := Lib.hid hall; clear hall
    by_cases hlt : k < rs.length
    · obtain ⟨r, hx⟩ : ∃ r, rs[k]? = some r := ⟨_, List.getElem?_eq_getElem hlt⟩
      obtain ⟨bo, oo, rfl, _, hc0, hr⟩ := H.out.get hx
      have HX := Lib.hid hx; clear hx
      have HC := Lib.hid (HP.out _ _ hr)
      obtain ⟨b, hb⟩ : ∃ b, hasL r.l x = b := ⟨_, rfl⟩
      rw [hb] at HC
      have HB := Lib.hid hb; clear hb hr
      unfold RowV.v at HC
      cases b
      · go_wp2_with (go_at_call 64; refine HC.out.mono ?_; rintro e w' ⟨rfl, rfl⟩)
        go_roundg (rs.length - (k + 1))
        case measure => have := HK.out; omega
        case rel =>
          refine ⟨k + 1, by omega, by go_num, fun j o' hj ho' => ?_, rfl⟩
          by_cases e : j = k
          · subst e
            rw [HX.out] at ho'
            cases ho'
            exact HB.out
          · exact HA.out j o' (by omega) ho'
      · go_wp2_with (go_at_call 64; refine HC.out.mono ?_; rintro e w' ⟨rfl, rfl⟩)
        go_ret
        refine ⟨k, rfl, ?_, rfl⟩
        have : rs.any (fun r => hasL r.l x) = true := List.any_eq_true.2 ⟨_, List.mem_of_getElem? HX.out, HB.out⟩
        rw [this]
        simp
    · go_wp2_with fail
      go_ret
      refine ⟨-1, rfl, ?_, rfl⟩
      have : rs.any (fun r => hasL r.l x) = false := by
        rw [List.any_eq_false]
        intro o ho
        obtain ⟨j, hj, rfl⟩ := List.getElem_of_mem ho
        have := HA.out j _ (by omega) (List.getElem?_eq_getElem hj)
        rw [this]
        decide
      rw [this]
      simp
set_option maxHeartbeats 400000 in
theorem contains_rows (x : Int) (bn : Nat) (v : Value) (rs : List RowV) (w : World) (S : Nat → Prop) (h : RdRows S w v rs) (hn : w.cell? ⟨bn, 0, none⟩ = some (.int .i64 x)) :
    Calls Try.prog 63 #[v, .func (.func 64) #[] #[.pointer (some ⟨bn, 0, none⟩)]] w (fun e w' => e = .returned (.bool (rs.any (fun r => hasL r.l x))) ∧ w = w') := by
  have HI := Lib.hid (index_rows x bn v rs w S h hn); clear h hn
  obtain ⟨b, hb⟩ : ∃ b, rs.any (fun r => hasL r.l x) = b := ⟨_, rfl⟩
  rw [hb] at HI ⊢
  clear hb
  go_enter Try.func63, Try.ntmps63
  go_wp2_with fail
  refine HI.out.mono ?_
  rintro e w1 ⟨i, rfl, hi, rfl⟩
  cases b
  · have hi' : i < 0 := by
      simp at hi
      exact hi
    have hd : decide (0 ≤ i) = false := decide_eq_false (by omega)
    clear hi
    go_wp2_with fail
    go_ret
    exact ⟨rfl, rfl⟩
  · have hi' : 0 ≤ i := by simpa using hi
    clear hi
    go_wp2_with fail
    go_ret
    exact ⟨rfl, rfl⟩

set_option maxHeartbeats 400000 in
theorem meet1 (x : Int) (bl : Nat) (v : Value) (rs : List RowV) (w : World) (S : Nat → Prop) (h : RdRows S w v rs) (hl : w.cell? ⟨bl, 0, none⟩ = some v) :
    Calls Try.prog 62 #[.int .i64 x, .pointer (some ⟨bl, 0, none⟩)] w (Ret w (.bool (rs.any (fun r => hasL r.l x)))) := by
  have hk := (Keep.refl w Nope).alloc (.cells #[.int .i64 x] 3)
  have hb : (w.alloc (.cells #[.int .i64 x] 3)).cell? ⟨w.heap.size, 0, none⟩ = some (.int .i64 x) := by simp
  have HC := Lib.hid (contains_rows x w.heap.size v rs _ S (h.keep0 hk) hb)
  have hl2 := hk.cell hl (fun f => f)
  obtain ⟨a, c, rfl, _⟩ := id h.rd
  have HK := Lib.hid hk
  clear h hk hb
  go_enter Try.func62, Try.ntmps62
  go_wp2_with fail
  refine HC.out.mono ?_
  rintro e w' ⟨rfl, rfl⟩
  go_wp2_with fail
  go_ret
  exact ⟨rfl, HK.out⟩

def meetB (a : List Int) (ls : List (List Int)) : Bool := a.any (fun n => ls.any (fun b => hasL b n))
theorem meetB_rows (l : List Int) (rs : List RowV) : l.any (fun n => rs.any (fun r => hasL r.l n)) = meetB l (rs.map RowV.l) := by
  unfold meetB
  simp [List.any_map]
  rfl
set_option maxHeartbeats 400000 in
theorem sys_meet (v : Value) (l : List Int) (v2 : Value) (rs : List RowV) (w : World) (S S2 : Nat → Prop) (h : Rd S w v l.length (ints l)) (h2 : RdRows S2 w v2 rs) :
    Calls Try.prog 42 #[v, v2] w (Ret w (.bool (meetB l (rs.map RowV.l)))) := by
  have hk := (Keep.refl w Nope).alloc (.cells #[v2] 22)
  have hb : (w.alloc (.cells #[v2] 22)).cell? ⟨w.heap.size, 0, none⟩ = some v2 := by simp
  have HC := Lib.hid (contains_meet1 (.pointer (some ⟨w.heap.size, 0, none⟩)) (fun n => rs.any (fun r => hasL r.l n)) v l _ S (h.keep hk (fun _ _ f => f)) (fun x w' hk' => meet1 x w.heap.size v2 rs w' S2 (h2.keep0 (hk.trans hk' (fun _ f => f.elim))) (hk'.cell hb (fun f => f))))
  rw [meetB_rows] at HC
  obtain ⟨b, hbb⟩ : ∃ b, meetB l (rs.map RowV.l) = b := ⟨_, rfl⟩
  rw [hbb] at HC ⊢
  obtain ⟨a, c, rfl, _⟩ := id h
  obtain ⟨a2, c2, rfl, _⟩ := id h2.rd
  have HK := Lib.hid hk
  clear h h2 hk hb hbb
  go_enter Try.func42, Try.ntmps42
  go_wp2_with fail
  refine HC.out.mono ?_
  rintro e w' ⟨rfl, hk'⟩
  have HK' := Lib.hid (HK.out.trans hk' (fun _ f => f.elim))
  clear hk'
  go_wp2_with fail
  go_ret
  exact ⟨rfl, HK'.out⟩

def LoopM1 (w : World) (l : List Int) (p : Int → Bool) (g : Nat) (v5 : Value) (wr : World) : Prop :=
  ∃ k : Nat, g + k = l.length ∧ v5 = .int .i64 k ∧ (∀ j, j < k → p (l.getD j 0) = false) ∧ ∃ q, wr = w.drewN q
theorem getD_of {l : List Int} {k : Nat} {x : Int} (h : l[k]? = some x) : l.getD k 0 = x := by rw [List.getD_eq_getElem?_getD, h]; rfl
theorem any_no {l : List Int} {p : Int → Bool} (h : ∀ j, j < l.length → p (l.getD j 0) = false) : l.any p = false := by
  rw [List.any_eq_false]
  intro o ho
  obtain ⟨j, hj, rfl⟩ := List.getElem_of_mem ho
  have := h j hj
  rw [getD_of (List.getElem?_eq_getElem hj)] at this
  simp [this]
set_option maxHeartbeats 1000000 in
theorem ref_meet (v v2 : Value) (l l2 : List Int) (w : World) (S S2 : Nat → Prop) (h : Rd S w v l.length (ints l)) (h2 : Rd S2 w v2 l2.length (ints l2)) :
    Calls Try.prog 35 #[v, v2] w (Ret w (.bool (l.any (fun x => hasL l2 x)))) := by
  obtain ⟨a, c, rfl, g1, g2, g3, g4⟩ := id h
  have hlen : l.length ≤ 9223372036854775807 := by unfold maxLen at g2; omega
  clear g1 g2 g3 g4
  obtain ⟨a2, c2, rfl, g1, g2, g3, g4⟩ := id h2
  have hlen2 : l2.length ≤ 9223372036854775807 := by unfold maxLen at g2; omega
  clear g1 g2 g3 g4
  have H := Lib.hid h
  have H2 := Lib.hid h2
  clear h h2
  go_enter Try.func35, Try.ntmps35
  go_wp2_with fail
  go_loopg [5] l.length (fun g v5 wr => LoopM1 w l (fun x => hasL l2 x) g v5 wr)
  case atStart => exact ⟨0, by omega, rfl, fun j h => by omega, 0, rfl⟩
  case round =>
    obtain ⟨k, hk, rfl, hall, q, rfl⟩ := hrel
    have hkl : k ≤ l.length := by omega
    have HK := Lib.hid hk; clear hk
    have HA := Lib.hid hall; clear hall
    by_cases hlt : k < l.length
    · obtain ⟨x, hx⟩ : ∃ x, l[k]? = some x := ⟨_, List.getElem?_eq_getElem hlt⟩
      obtain ⟨bo, oo, ⟨c', hv⟩, _, hc0⟩ := H.out.int hx
      injection hv with hv1 hv2 hv3
      subst hv1; subst hv3
      have HX := Lib.hid hx; clear hx
      have hki : (k : Int) < l.length := by omega
      have hkd : decide ((k : Int) < l.length) = true := decide_eq_true hki
      obtain ⟨wq, hwq⟩ : ∃ wq, wq = w.drewN q := ⟨_, rfl⟩
      have HWQ := Lib.hid hwq
      rw [← hwq]
      have hc0q : wq.cell? ⟨bo, oo + k, none⟩ = some (.int .i64 x) := by rw [hwq]; exact hc0
      clear hwq hc0
      go_wp2_with fail
      go_loopg [6] l2.length (fun g v6 wr => LoopM1 wq l2 (fun y => x == y) g v6 wr)
      case atStart => exact ⟨0, by omega, rfl, fun j h => by omega, 0, rfl⟩
      case round =>
        obtain ⟨k2, hk2, rfl, hall2, q2, rfl⟩ := hrel
        have hkl2 : k2 ≤ l2.length := by omega
        have HK2 := Lib.hid hk2; clear hk2
        have HA2 := Lib.hid hall2; clear hall2
        by_cases hlt2 : k2 < l2.length
        · obtain ⟨y, hy⟩ : ∃ y, l2[k2]? = some y := ⟨_, List.getElem?_eq_getElem hlt2⟩
          obtain ⟨bo2, oo2, ⟨c2', hv⟩, _, hd0⟩ := H2.out.int hy
          injection hv with hv1 hv2 hv3
          subst hv1; subst hv3
          have HY := Lib.hid hy; clear hy
          have hki2 : (k2 : Int) < l2.length := by omega
          have hkd2 : decide ((k2 : Int) < l2.length) = true := decide_eq_true hki2
          obtain ⟨wr, hwr⟩ : ∃ wr, wr = wq.drewN q2 := ⟨_, rfl⟩
          have HWR := Lib.hid hwr
          rw [← hwr]
          have hc1 : wr.cell? ⟨bo, oo + k, none⟩ = some (.int .i64 x) := by rw [hwr]; exact hc0q
          have hd1 : wr.cell? ⟨bo2, oo2 + k2, none⟩ = some (.int .i64 y) := by rw [hwr, HWQ.out]; exact hd0
          clear hwr hd0
          obtain ⟨b, hb⟩ : ∃ b, (x == y) = b := ⟨_, rfl⟩
          have HB := Lib.hid hb
          cases b
          · go_upto_region 7 with (fail)
            go_quiet (fail)
            go_wp2_with fail
            go_roundg (l2.length - (k2 + 1))
            case measure => have := HK2.out; omega
            case rel =>
              refine ⟨k2 + 1, by omega, by go_num, fun j hj => ?_, q2 + nq, by rw [HWR.out, World.drewN_drewN]⟩
              by_cases e : j = k2
              · subst e
                rw [getD_of HY.out]
                exact HB.out
              · exact HA2.out j (by omega)
          · go_upto_region 7 with (fail)
            go_quiet (fail)
            go_wp2_with fail
            go_ret
            have hxy : x = y := by simpa using HB.out
            have : l.any (fun x => hasL l2 x) = true := List.any_eq_true.2 ⟨x, List.mem_of_getElem? HX.out, hasL_iff.2 (hxy ▸ List.mem_of_getElem? HY.out)⟩
            rw [this]
            refine ⟨rfl, ?_⟩
            rw [HWR.out, HWQ.out]
            exact (((Keep.refl w Nope).drewN _).drewN _).drewN _
        · obtain rfl : k2 = l2.length := by omega
          have hkd2 : decide (((l2.length : Nat) : Int) < l2.length) = false := decide_eq_false (by omega)
          go_wp2_with fail
          go_roundg (l.length - (k + 1))
          case measure => have := HK.out; omega
          case rel =>
            refine ⟨k + 1, by omega, by go_num, fun j hj => ?_, q + q2, by rw [HWQ.out, World.drewN_drewN]⟩
            by_cases e : j = k
            · subst e
              rw [getD_of HX.out]
              rw [Bool.eq_false_iff]
              intro hc
              have := any_no HA2.out
              rw [List.any_eq_false] at this
              exact this x (hasL_iff.1 hc) (by simp)
            · exact HA.out j (by omega)
    · obtain rfl : k = l.length := by omega
      have hkd2 : decide (((l.length : Nat) : Int) < l.length) = false := decide_eq_false (by omega)
      go_wp2_with fail
      go_ret
      rw [any_no HA.out]
      exact ⟨rfl, (Keep.refl w Nope).drewN _⟩
end Go.Proofs.Ytbigknmeooaidaa
