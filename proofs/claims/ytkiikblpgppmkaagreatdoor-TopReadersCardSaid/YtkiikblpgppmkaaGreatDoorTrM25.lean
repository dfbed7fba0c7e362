/-
  The document's rising rows: where a number stands, whether it is there, with one more; The document's rising rows: without one; What a log tells, as a rising row; Events compared; the package flag once more: as many readers as may be; awake; The second and the third of what lies behind; The package expr: join; what an arena of five nodes looks like.
-/
import Derived.Test.YtkiikblpgppmkaaGreatDoorTrM23
import Derived.Test.YtkiikblpgppmkaaGreatDoorTrM02
import Derived.Test.YtkiikblpgppmkaaGreatDoorTrM24
import Derived.Test.YtkiikblpgppmkaaGreatDoorTrM22
import Derived.Test.YtkiikblpgppmkaaGreatDoorTrM20
import Derived.Test.YtkiikblpgppmkaaGreatDoorTrM21
namespace Go.Proofs.YtkiikblpgppmkaaGreatDoor
open Go Go.RowKit
set_option linter.unusedVariables false
set_option linter.unusedSimpArgs false

/-- Strictly rising. -/
def Rises (l : List Int) : Prop := l.Pairwise (· < ·)
theorem Rises.lt {l : List Int} (h : Rises l) {i j : Nat} {x y : Int} (hij : i < j) (hi : l[i]? = some x) (hj : l[j]? = some y) : x < y := by
  obtain ⟨h1, rfl⟩ := List.getElem?_eq_some_iff.1 hi
  obtain ⟨h2, rfl⟩ := List.getElem?_eq_some_iff.1 hj
  exact List.pairwise_iff_getElem.1 h i j h1 h2 hij
/-- The place of a number in a rising row. -/
structure Spot (l : List Int) (i : Int) (k : Nat) : Prop where
  le : k ≤ l.length
  lo : ∀ j x, j < k → l[j]? = some x → x < i
  hi : ∀ j x, k ≤ j → l[j]? = some x → i ≤ x
theorem Spot.mem {l : List Int} {i : Int} {k : Nat} (h : Spot l i k) (hr : Rises l) : (i ∈ l) = (l[k]? = some i) := by
  apply propext
  constructor
  · intro hm
    obtain ⟨j, hj, e⟩ := List.getElem_of_mem hm
    have hj' : l[j]? = some i := by rw [List.getElem?_eq_getElem hj, e]
    rcases Nat.lt_trichotomy j k with h1 | h1 | h1
    · have := h.lo j i h1 hj'; omega
    · exact h1 ▸ hj'
    · have hk : k < l.length := by omega
      have h2 := hr.lt h1 (List.getElem?_eq_getElem hk) hj'
      have h3 := h.hi k _ (Nat.le_refl _) (List.getElem?_eq_getElem hk)
      omega
  · intro hk
    exact List.mem_of_getElem? hk
theorem Spot.insert {l : List Int} {i : Int} {k : Nat} (h : Spot l i k) (hr : Rises l) (hm : ¬ i ∈ l) : Rises (l.take k ++ [i] ++ l.drop k) := by
  have hlo : ∀ x, x ∈ l.take k → x < i := fun x hx => by
    obtain ⟨j, hj, e⟩ := List.getElem_of_mem hx
    have hj2 : j < min k l.length := by simpa using hj
    exact h.lo j x (by omega) (by rw [List.getElem?_eq_getElem (by omega)]; rw [List.getElem_take] at e; rw [e])
  have hhi : ∀ x, x ∈ l.drop k → i < x := fun x hx => by
    obtain ⟨j, hj, e⟩ := List.getElem_of_mem hx
    have hj2 : j < l.length - k := by simpa using hj
    rw [List.getElem_drop] at e
    have h1 := h.hi (k + j) x (by omega) (by rw [List.getElem?_eq_getElem (by omega), e])
    have h2 : x ≠ i := fun e2 => hm (e2 ▸ List.mem_of_mem_drop hx)
    omega
  unfold Rises at hr ⊢
  have hs : (l.take k ++ l.drop k).Pairwise (· < ·) := by rw [List.take_append_drop]; exact hr
  rw [List.pairwise_append] at hs
  rw [List.append_assoc, List.pairwise_append]
  refine ⟨hs.1, ?_, fun a ha b hb => ?_⟩
  · rw [List.singleton_append, List.pairwise_cons]
    exact ⟨hhi, hs.2.1⟩
  · rcases List.mem_append.1 hb with hb | hb
    · simp at hb
      subst hb
      exact hlo a ha
    · exact hs.2.2 a ha b hb
theorem mem_insert {l : List Int} {i : Int} {k : Nat} (x : Int) : x ∈ l.take k ++ [i] ++ l.drop k ↔ x ∈ l ∨ x = i := by
  have : x ∈ l ↔ x ∈ l.take k ∨ x ∈ l.drop k := by rw [← List.mem_append, List.take_append_drop]
  rw [this]
  simp
  constructor
  · rintro (h | h | h)
    · exact .inl (.inl h)
    · exact .inr h
    · exact .inl (.inr h)
  · rintro ((h | h) | h)
    · exact .inl h
    · exact .inr (.inr h)
    · exact .inr (.inl h)

/-- The place, and whether it is there. -/
def RetAt (w : World) (l : List Int) (i : Int) (en : Ending) (w' : World) : Prop :=
  ∃ k : Nat, en = .returned (.tuple #[.int .i64 k, .bool (decide (i ∈ l))]) ∧ Spot l i k ∧ Keep w w' Nope
def LoopAt (w : World) (l : List Int) (i : Int) (g : Nat) (v6 v7 : Value) (wr : World) : Prop :=
  ∃ lo hi : Nat, g = hi - lo ∧ lo ≤ hi ∧ hi ≤ l.length ∧ v6 = .int .i64 lo ∧ v7 = .int .i64 hi ∧ (∀ j x, j < lo → l[j]? = some x → x < i) ∧ (∀ j x, hi ≤ j → l[j]? = some x → i ≤ x) ∧ w = wr

set_option maxHeartbeats 1000000 in
theorem ref_at (v : Value) (l : List Int) (i : Int) (w : World) (S : Nat → Prop) (h : Rd S w v l.length (ints l)) (hr : Rises l) (hl : l.length ≤ 1000000000) :
    Calls Tryz.prog 68 #[v, .int .i64 i] w (RetAt w l i) := by
  obtain ⟨a, c, rfl, g1, g2, g3, g4⟩ := id h
  clear g1 g2 g3 g4
  have H := Lib.hid h; clear h
  have HR := Lib.hid hr; clear hr
  go_enter Tryz.func68, Tryz.ntmps68
  go_wp2_with fail
  go_loopg [6, 7] l.length (fun g v6 v7 wr => LoopAt w l i g v6 v7 wr)
  case atStart => exact ⟨0, l.length, rfl, Nat.zero_le _, Nat.le_refl _, rfl, rfl, fun j x hj => by omega, fun j x hj hx => (by rw [List.getElem?_eq_none hj] at hx; cases hx), rfl⟩
  case round =>
    obtain ⟨lo, hi, hg, hlh, hhl, rfl, rfl, hlo, hhi, rfl⟩ := hrel
    have HG := Lib.hid hg; clear hg
    have HLO := Lib.hid hlo; clear hlo
    have HHI := Lib.hid hhi; clear hhi
    by_cases hlt : lo < hi
    · obtain ⟨m, hm⟩ : ∃ m, m = (lo + hi) / 2 := ⟨_, rfl⟩
      have hm1 : lo ≤ m := by omega
      have hm2 : m < hi := by omega
      have hmi : ((lo : Int) + (hi : Int)) / 2 = (m : Int) := by omega
      have hmt : ((lo : Int) + (hi : Int)).tdiv 2 = (m : Int) := by rw [Int.tdiv_eq_ediv_of_nonneg (by omega)]; exact hmi
      clear hm
      obtain ⟨x, hx⟩ : ∃ x, l[m]? = some x := ⟨_, List.getElem?_eq_getElem (by omega)⟩
      obtain ⟨bo, oo, ⟨c', hv⟩, _, hc0⟩ := H.out.int hx
      injection hv with hv1 hv2 hv3
      subst hv1; subst hv3
      have HX := Lib.hid hx; clear hx
      by_cases hxi : x < i
      · go_wp2_with fail
        go_roundg (hi - (m + 1))
        case measure => have := HG.out; omega
        case rel => exact ⟨m + 1, hi, rfl, by omega, hhl, by go_num, rfl, fun j y hj hy => (by
            rcases Nat.lt_or_ge j m with h1 | h1
            · have := HR.out.lt h1 hy HX.out; omega
            · obtain rfl : m = j := by omega
              rw [HX.out] at hy
              cases hy
              exact hxi), HHI.out, rfl⟩
      · go_wp2_with fail
        go_roundg (m - lo)
        case measure => have := HG.out; omega
        case rel => exact ⟨lo, m, rfl, by omega, by omega, rfl, rfl, HLO.out, fun j y hj hy => (by
            rcases Nat.lt_or_ge m j with h1 | h1
            · have := HR.out.lt h1 HX.out hy; omega
            · obtain rfl : m = j := by omega
              rw [HX.out] at hy
              cases hy
              omega), rfl⟩
    · obtain rfl : lo = hi := by omega
      have HSP := Lib.hid (show Spot l i lo from ⟨hhl, HLO.out, HHI.out⟩)
      have HME := Lib.hid (HSP.out.mem HR.out)
      by_cases hll : lo < l.length
      · obtain ⟨x, hx⟩ : ∃ x, l[lo]? = some x := ⟨_, List.getElem?_eq_getElem hll⟩
        obtain ⟨bo, oo, ⟨c', hv⟩, _, hc0⟩ := H.out.int hx
        injection hv with hv1 hv2 hv3
        subst hv1; subst hv3
        have HE := Lib.hid (show decide (i ∈ l) = (x == i) by rw [Bool.eq_iff_iff, decide_eq_true_iff, HME.out, hx]; simp)
        have hd : decide (lo < l.length) = true := decide_eq_true hll
        have hll' : (lo : Int) < l.length := by omega
        clear hx
        go_wp2_with fail
        go_quiet (fail)
        go_wp2_with fail
        go_ret2
        exact ⟨lo, by rw [HE.out]; rfl, HSP.out, (Keep.refl _ _).drewN _⟩
      · have HE := Lib.hid (show decide (i ∈ l) = false by rw [decide_eq_false_iff_not, HME.out, List.getElem?_eq_none (by omega)]; simp)
        have hd : decide (lo < l.length) = false := decide_eq_false hll
        have hll' : decide ((lo : Int) < (l.length : Int)) = false := decide_eq_false (by omega)
        go_wp2_with fail
        go_quiet (fail)
        go_wp2_with fail
        go_ret2
        exact ⟨lo, by rw [HE.out]; rfl, HSP.out, (Keep.refl _ _).drewN _⟩

set_option maxHeartbeats 400000 in
theorem ref_in (v : Value) (l : List Int) (i : Int) (w : World) (S : Nat → Prop) (h : Rd S w v l.length (ints l)) (hr : Rises l) (hl : l.length ≤ 1000000000) :
    Calls Tryz.prog 23 #[v, .int .i64 i] w (Ret w (.bool (decide (i ∈ l)))) := by
  have HA := Lib.hid (ref_at v l i w S h hr hl); clear h hr hl
  go_enter Tryz.func23, Tryz.ntmps23
  go_wp2_with fail
  refine HA.out.mono ?_
  rintro e w1 ⟨k, rfl, hs, hk⟩
  have HK := Lib.hid hk; clear hk hs
  obtain ⟨b, hb⟩ : ∃ b, decide (i ∈ l) = b := ⟨_, rfl⟩
  rw [hb]
  have HB := Lib.hid hb; clear hb
  go_wp2_with fail
  go_ret
  exact ⟨by rw [HB.out]; rfl, HK.out⟩

set_option maxRecDepth 10000 in
/-- The first k, and the rest, of a slice that reads. -/
theorem cut_int (a : Option Addr) (n c k : Nat) (hk : k ≤ n) (hn : n ≤ c) : ∃ (a1 : Option Addr) (c1 : Nat), (∀ w, (Instr.slice 22 (.slice a n c) none (some (.int .i64 (k : Int))) none).run Tryz.prog w = .ok (.slice a1 k c1) w) ∧
    ∀ (S : Nat → Prop) w (l : List Int), l.length = n → Rd S w (.slice a n c) n (ints l) → Rd S w (.slice a1 k c1) k (ints (l.take k)) := by
  refine ⟨a, c, fun w => ?_, fun S w l hl h => ?_⟩
  · have h1 : (0 : Int) ≤ (k : Int) := by omega
    have h2 : (k : Int) ≤ (c : Int) := by omega
    have hz : (sizeOf (Tryz.prog.elem 22)).run Tryz.prog w = .ok 1 w := by kernel_rfl
    rw [run_slice_h (P := Tryz.prog) (w := w) 22 a n c (by kernel_rfl) .i64 (k : Int) h1 h2, hz]
    simp only [Result.andThen, sliced, Int.toNat_natCast, Nat.sub_zero, Nat.zero_mul]
    congr 2
    split
    · rfl
    · cases a
      · rfl
      · rename_i x
        obtain ⟨b, o, p⟩ := x
        simp [Addr.add]
  · obtain ⟨a', c', he, h1, h2, h3, h4⟩ := h
    injection he with e1 e2 e3
    subst e1; subst e3
    refine ⟨a, c, rfl, by omega, h2, fun e => ⟨by have := (h3 e).1; omega, (h3 e).2⟩, fun j u hu => h4 j u ?_⟩
    rw [show ints (l.take k) = (ints l).take k by simp [ints, List.map_take], List.getElem?_take] at hu
    split at hu
    · exact hu
    · cases hu
set_option maxRecDepth 10000 in
theorem tail_int (a : Option Addr) (n c k : Nat) (hk : k ≤ n) (hn : n ≤ c) : ∃ (a1 : Option Addr) (c1 : Nat), (∀ w, (Instr.slice 22 (.slice a n c) (some (.int .i64 (k : Int))) none none).run Tryz.prog w = .ok (.slice a1 (n - k) c1) w) ∧
    ∀ (S : Nat → Prop) w (l : List Int), l.length = n → Rd S w (.slice a n c) n (ints l) → Rd S w (.slice a1 (n - k) c1) (n - k) (ints (l.drop k)) := by
  refine ⟨if c = k then a else a.map (·.add k), c - k, fun w => ?_, fun S w l hl h => ?_⟩
  · have h1 : (0 : Int) ≤ (k : Int) := by omega
    have h2 : (k : Int) ≤ (n : Int) := by omega
    have hz : (sizeOf (Tryz.prog.elem 22)).run Tryz.prog w = .ok 1 w := by kernel_rfl
    rw [run_slice_l (P := Tryz.prog) (w := w) 22 a n c (by kernel_rfl) .i64 (k : Int) h1 h2, hz]
    simp only [Result.andThen, sliced, Int.toNat_natCast, Nat.mul_one]
  · obtain ⟨a', c', he, h1, h2, h3, h4⟩ := h
    injection he with e1 e2 e3
    subst e1; subst e3
    refine ⟨_, _, rfl, by omega, by omega, fun e => ?_, fun j u hu => ?_⟩
    · split at e
      · have := h3 e
        omega
      · cases a
        · have := h3 rfl
          omega
        · cases e
    · rw [show ints (l.drop k) = (ints l).drop k by simp [ints, List.map_drop], List.getElem?_drop] at hu
      obtain ⟨b, o, e, hb, hc⟩ := h4 (k + j) u hu
      subst e
      by_cases hck : c = k
      · have : k + j < (ints l).length := (List.getElem?_eq_some_iff.1 hu).1
        rw [ints_len] at this
        omega
      · refine ⟨b, o + k, ?_, hb, by rw [Nat.add_assoc]; exact hc⟩
        rw [if_neg hck]
        simp [Addr.add]

/-- With one more. -/
def RetWith (w : World) (l : List Int) (i : Int) (en : Ending) (w' : World) : Prop :=
  ∃ (S : Nat → Prop) (a : Option Addr) (c : Nat) (L : List Int), en = .returned (.slice a L.length c) ∧ Rises L ∧ (∀ x, x ∈ L ↔ x ∈ l ∨ x = i) ∧ L.length ≤ l.length + 1 ∧ Rd S w' (.slice a L.length c) L.length (ints L) ∧ Keep w w' Nope

set_option maxHeartbeats 1000000 in
theorem ref_with (v : Value) (l : List Int) (i : Int) (w : World) (S : Nat → Prop) (h : Rd S w v l.length (ints l)) (hr : Rises l) (hl : l.length ≤ 1000000000) :
    Calls Tryz.prog 24 #[v, .int .i64 i] w (RetWith w l i) := by
  obtain ⟨a, c, rfl, g1, g2, g3, g4⟩ := id h
  have HA := Lib.hid (ref_at _ l i w S h hr hl)
  have HCT := Lib.hid (fun k hk => cut_int a l.length c k hk g1)
  have HTL := Lib.hid (fun k hk => tail_int a l.length c k hk g1)
  have H := Lib.hid h
  have HR := Lib.hid hr
  clear g1 g2 g3 g4 h hr
  go_enter Tryz.func24, Tryz.ntmps24
  go_wp2_with fail
  refine HA.out.mono ?_
  rintro e w1 ⟨k, rfl, hs, hk⟩
  have HK := Lib.hid hk; clear hk
  have HS := Lib.hid hs
  have hkl : k ≤ l.length := hs.le
  clear hs HA
  by_cases hm : i ∈ l
  · have hd : decide (i ∈ l) = true := decide_eq_true hm
    have HM := Lib.hid hm; clear hm
    rw [hd]
    clear hd
    go_wp2_with fail
    go_ret
    exact ⟨S, _, _, l, rfl, HR.out, fun x => ⟨.inl, fun h => h.elim id (fun e => e ▸ HM.out)⟩, by omega, H.out.keep HK.out (fun _ _ f => f), HK.out⟩
  · have hd : decide (i ∈ l) = false := decide_eq_false hm
    have HM := Lib.hid hm; clear hm
    rw [hd]
    clear hd
    obtain ⟨a1, c1, hc1, hc2⟩ := HCT.out k hkl
    obtain ⟨a2, c2, ht1, ht2⟩ := HTL.out k hkl
    have HR1 := Lib.hid (hc2 S w1 l rfl (H.out.keep HK.out (fun _ _ f => f)))
    have HT2 := Lib.hid ht2
    clear hc2 ht2
    obtain ⟨d, hd⟩ : ∃ d, l.length - k = d := ⟨_, rfl⟩
    rw [hd] at ht1
    have HD := Lib.hid hd; clear hd
    go_wp2_with (at_builtin; refine wpList_app (P := Tryz.prog) slInt rfl _ _ rfl (S := fun z => w1.heap.size ≤ z) (S2 := S) (n := 0) (xs := []) (m := k) (news := ints (l.take k)) rfl rfl ?hown ?hx ?hl ?h1 ?h2 ?h3 ?_)
    case hown => exact Own.lit w1 3 1 0 #[] (Nat.zero_le _) rfl (Nat.le_refl _)
    case hx => exact HR1.out.alloc _
    case hl => simp [ints_len]; omega
    case h1 => exact ints_one _
    case h2 => omega
    case h3 => unfold maxLen; omega
    rintro a3 n3 c3 w3 ⟨ho3, hn3, hk3, _⟩
    have hs3 := hk3.size
    simp only [World.size_alloc] at hs3
    obtain rfl : n3 = k := by omega
    rw [List.nil_append] at ho3
    have HO3 := Lib.hid (ho3.mono (T := fun z => w1.heap.size ≤ z) (fun z h => h.elim id (fun h => by have := h.1; simp only [World.size_alloc] at this; omega)))
    have HK3 := Lib.hid ((HK.out.alloc (.cells #[] 3)).trans (hk3.mono (T := fun z => w1.heap.size ≤ z) (fun _ h => .inl h)) (fun z h => .inr (Nat.le_trans HK.out.size h)))
    clear ho3 hk3 hn3
    go_wp2_with (at_builtin; refine wpList_app (P := Tryz.prog) slInt rfl _ _ rfl (S := fun z => w1.heap.size ≤ z) (S2 := fun z => w1.heap.size ≤ z) (n := n3) (xs := ints (l.take n3)) (m := 1) (news := ints [i]) rfl rfl ?hown ?hx ?hl ?h1 ?h2 ?h3 ?_)
    case hown => exact HO3.out.alloc _
    case hx => exact (Own.lit (S := fun x => w1.heap.size ≤ x) w3 3 1 1 #[.int .i64 i] (by decide) rfl (by omega)).rd
    case hl => rfl
    case h1 => exact ints_one _
    case h2 => omega
    case h3 => unfold maxLen; omega
    rintro a4 n4 c4 w4 ⟨ho4, hn4, hk4, _⟩
    have hs4 := hk4.size
    simp only [World.size_alloc] at hs4
    subst hn4
    rw [← ints_app] at ho4
    have HO4 := Lib.hid (ho4.mono (T := fun z => w1.heap.size ≤ z) (fun z h => h.elim id (fun h => by have := h.1; simp only [World.size_alloc] at this; omega)))
    have HK4 := Lib.hid ((HK3.out.alloc (.cells #[.int .i64 i] 3)).trans hk4 (fun z h => .inr (Nat.le_trans HK.out.size h)))
    clear ho4 hk4
    go_wp2_with (at_builtin; refine wpList_app (P := Tryz.prog) slInt rfl _ _ rfl (S := fun z => w1.heap.size ≤ z) (S2 := S) (n := n3 + 1) (xs := ints (l.take n3 ++ [i])) (m := d) (news := ints (l.drop n3)) rfl rfl ?hown ?hx ?hl ?h1 ?h2 ?h3 ?_)
    case hown => exact HO4.out
    case hx =>
      have h := HT2.out S w4 l rfl (H.out.keep HK4.out (fun _ _ f => f))
      rw [HD.out] at h
      exact h
    case hl => simp [ints_len, HD.out]
    case h1 => exact ints_one _
    case h2 => have := HD.out; omega
    case h3 => have := HD.out; unfold maxLen; omega
    rintro a5 n5 c5 w5 ⟨ho5, hn5, hk5, _⟩
    rw [← ints_app] at ho5
    have HL := Lib.hid (show (l.take n3 ++ [i] ++ l.drop n3).length = n5 by rw [hn5]; have := HD.out; simp; omega)
    have HN := Lib.hid (show n5 = l.length + 1 by rw [hn5]; have := HD.out; omega)
    have HO5 := Lib.hid ho5.rd
    have HK5 := Lib.hid (HK4.out.trans hk5 (fun z h => .inr (Nat.le_trans HK.out.size h)))
    clear ho5 hk5 hn5
    go_wp2_with fail
    go_ret
    refine ⟨_, a5, c5, l.take n3 ++ [i] ++ l.drop n3, by rw [HL.out]; rfl, HS.out.insert HR.out HM.out, fun x => mem_insert x, by rw [HL.out, HN.out]; exact Nat.le_refl _, by rw [HL.out]; exact HO5.out, HK5.out⟩
end Go.Proofs.YtkiikblpgppmkaaGreatDoor

namespace Go.Proofs.YtkiikblpgppmkaaGreatDoor
open Go Go.RowKit
set_option linter.unusedVariables false
set_option linter.unusedSimpArgs false

theorem Rises.inj {l : List Int} (h : Rises l) {j k : Nat} {x : Int} (hj : l[j]? = some x) (hk : l[k]? = some x) : j = k := by
  obtain ⟨h1, e1⟩ := List.getElem?_eq_some_iff.1 hj
  obtain ⟨h2, e2⟩ := List.getElem?_eq_some_iff.1 hk
  have hp := List.pairwise_iff_getElem.1 h
  rcases Nat.lt_trichotomy j k with hlt | hlt | hlt
  · have := hp j k h1 h2 hlt
    omega
  · exact hlt
  · have := hp k j h2 h1 hlt
    omega
theorem Spot.at {l : List Int} {i : Int} {k : Nat} (h : Spot l i k) (hr : Rises l) (hm : i ∈ l) : l[k]? = some i := by
  obtain ⟨j, hj, e⟩ := List.getElem_of_mem hm
  have hj2 : l[j]? = some i := by rw [List.getElem?_eq_getElem hj, e]
  have hjk : ¬ j < k := fun hlt => by
    have := h.lo j i hlt hj2
    omega
  rcases Nat.eq_or_lt_of_le (Nat.le_of_not_lt hjk) with e2 | hlt
  · rw [e2]; exact hj2
  · have hkl : k < l.length := by omega
    have h1 := h.hi k l[k] (Nat.le_refl _) (List.getElem?_eq_getElem hkl)
    have h2 := List.pairwise_iff_getElem.1 hr k j hkl hj hlt
    omega
theorem Rises.erase {l : List Int} (h : Rises l) (k : Nat) : Rises (l.eraseIdx k) := List.Pairwise.sublist (List.eraseIdx_sublist l k) h
theorem Rises.mem_erase {l : List Int} (h : Rises l) {k : Nat} {i : Int} (hk : l[k]? = some i) (x : Int) : x ∈ l.eraseIdx k ↔ x ∈ l ∧ x ≠ i := by
  rw [List.mem_eraseIdx_iff_getElem?]
  constructor
  · rintro ⟨j, hj, hx⟩
    exact ⟨List.mem_of_getElem? hx, fun e => hj (h.inj (e ▸ hx) hk)⟩
  · rintro ⟨hx, hne⟩
    obtain ⟨j, hj, e⟩ := List.getElem_of_mem hx
    have hj2 : l[j]? = some x := by rw [List.getElem?_eq_getElem hj, e]
    refine ⟨j, fun e2 => hne ?_, hj2⟩
    rw [e2, hk] at hj2
    exact (Option.some.inj hj2).symm
def RetWout (w : World) (l : List Int) (i : Int) (en : Ending) (w' : World) : Prop :=
  ∃ (S : Nat → Prop) (a : Option Addr) (c : Nat) (L : List Int), en = .returned (.slice a L.length c) ∧ Rises L ∧ (∀ x, x ∈ L ↔ x ∈ l ∧ x ≠ i) ∧ L.length ≤ l.length ∧ Rd S w' (.slice a L.length c) L.length (ints L) ∧ Keep w w' Nope
set_option maxRecDepth 100000 in
set_option maxHeartbeats 1000000 in
theorem ref_without (v : Value) (l : List Int) (i : Int) (w : World) (S : Nat → Prop) (h : Rd S w v l.length (ints l)) (hr : Rises l) (hl : l.length ≤ 1000000) :
    Calls Tryz.prog 25 #[v, .int .i64 i] w (RetWout w l i) := by
  obtain ⟨a, c, rfl, g1, g2, g3, g4⟩ := id h
  have HA := Lib.hid (ref_at _ l i w S h hr (by omega))
  have HCT := Lib.hid (fun k hk => cut_int a l.length c k hk g1)
  have HTL := Lib.hid (fun k hk => tail_int a l.length c k hk g1)
  have H := Lib.hid h
  have HR := Lib.hid hr
  clear g1 g2 g3 g4 h hr
  go_enter Tryz.func25, Tryz.ntmps25
  go_wp2_with fail
  refine HA.out.mono ?_
  rintro e w1 ⟨k, rfl, hs, hk⟩
  have HK := Lib.hid hk; clear hk
  have HS := Lib.hid hs
  clear hs HA
  by_cases hm : i ∈ l
  · have hd : decide (i ∈ l) = true := decide_eq_true hm
    have HM := Lib.hid hm
    have hkl : k < l.length := (List.getElem?_eq_some_iff.1 (HS.out.at HR.out hm)).1
    clear hm
    rw [hd]
    clear hd
    obtain ⟨a1, c1, hc1, hc2⟩ := HCT.out k (Nat.le_of_lt hkl)
    obtain ⟨k1, hk1⟩ : ∃ k1, k + 1 = k1 := ⟨_, rfl⟩
    obtain ⟨a2, c2, ht1, ht2⟩ := HTL.out k1 (by omega)
    have HR1 := Lib.hid (hc2 S w1 l rfl (H.out.keep HK.out (fun _ _ f => f)))
    have HT2 := Lib.hid ht2
    clear hc2 ht2
    obtain ⟨d, hd⟩ : ∃ d, l.length - k1 = d := ⟨_, rfl⟩
    rw [hd] at ht1
    have HD := Lib.hid hd
    have HK1 := Lib.hid hk1
    have ek : (k : Int) + 1 = (k1 : Int) := by omega
    have ekw : IntKind.i64.wrap (k1 : Int) = (k1 : Int) := IntWalk.i64_in _ (by omega)
    have hk1l : k1 ≤ 1000000 := by omega
    clear hd hk1
    go_upto_region 4 with fail
    refine wp_region_M (r := 9) (S := fun w' => True) (by kernel_rfl) ?_ (fun hHeld => ?_)
    · (try dsimp only); (try trivial)
    (refine tkMP 1 _ _ ?_; simp only [Act.put, List.setIfInBounds_toArray, List.set_cons_zero, List.set_cons_succ])
    (refine tkMP 2 _ _ ?_; simp only [Act.put, List.setIfInBounds_toArray, List.set_cons_zero, List.set_cons_succ])
    (refine tkMP 3 _ _ ?_; simp only [Act.put, List.setIfInBounds_toArray, List.set_cons_zero, List.set_cons_succ])
    (refine tkMP 5 _ _ ?_; simp only [Act.put, List.setIfInBounds_toArray, List.set_cons_zero, List.set_cons_succ])
    (refine tkMP 6 _ _ ?_; simp only [Act.put, List.setIfInBounds_toArray, List.set_cons_zero, List.set_cons_succ])
    (refine tkMP 7 _ _ ?_; simp only [Act.put, List.setIfInBounds_toArray, List.set_cons_zero, List.set_cons_succ])
    (refine tkMP 8 _ _ ?_; simp only [Act.put, List.setIfInBounds_toArray, List.set_cons_zero, List.set_cons_succ])
    refine wpAnyM_ready (rs := [0]) (by kernel_rfl) (by simp) ?_
    refine AllReadyM.cons (o := ?_) ?_ ?_ ?_
    rotate_left 1
    · simp only [List.getElem?_toArray, List.getElem?_cons_succ, List.getElem?_cons_zero]; exact rfl
    rotate_left 1
    · exact AllReadyM.nil
    intro K hK
    go_simp
    refine hK.out _ _ ?_ (fun hHeld => ?_)
    · (try dsimp only); (try trivial)
    clear hK K
    refine wpAnyM_ready (rs := [4]) (by kernel_rfl) (by simp) ?_
    refine AllReadyM.cons (o := ?_) ?_ ?_ ?_
    rotate_left 1
    · simp only [List.getElem?_toArray, List.getElem?_cons_succ, List.getElem?_cons_zero]; exact rfl
    rotate_left 1
    · exact AllReadyM.nil
    intro K hK
    rw [if_pos (by rfl)]
    (refine step_app (P := Tryz.prog) slInt _ _ rfl (S := fun z => w1.heap.size ≤ z) (S2 := S) (n := 0) (xs := []) (m := k) (news := ints (l.take k)) rfl rfl (Own.lit w1.drew 3 1 0 #[] (Nat.zero_le _) rfl (Nat.le_refl _)) (HR1.out.keep (T := Nope) ((Keep.refl w1 Nope).drew.alloc _) (fun _ _ f => f)) (by simp [ints_len]; omega) (ints_one _) (by omega) (by unfold maxLen; omega) ?_; rintro a3 n3 c3 w3 happ; have hn3 := happ.num; rw [Nat.zero_add] at hn3; subst hn3; have ho3 := happ.own.mono (T := fun z => w1.heap.size ≤ z) (fun z h => h.elim id (fun h => Nat.le_trans (show w1.heap.size ≤ (w1.alloc (.cells #[] 3)).heap.size by rw [World.size_alloc]; exact Nat.le_succ _) h.1)); rw [List.nil_append] at ho3; have HO3 := Lib.hid ho3; have HK3 := Lib.hid ((HK.out.drew.alloc (.cells #[] 3)).trans happ.keep (fun z h => .inr (Nat.le_trans HK.out.size h))); clear happ ho3)
    refine hK.out _ _ ?_ (fun hHeld => ?_)
    · (try dsimp only); (try trivial)
    clear hK K
    (try simp only [List.getElem_toArray, List.getElem_cons_succ, List.getElem_cons_zero, Act.put, List.setIfInBounds_toArray, List.set_cons_zero, List.set_cons_succ])
    refine wpAnyM_ready (rs := [9]) (by kernel_rfl) (by simp) ?_
    refine AllReadyM.free (o := ?_) ?_ (by kernel_rfl) ?_ ?_
    rotate_left 1
    · simp only [List.getElem?_toArray, List.getElem?_cons_succ, List.getElem?_cons_zero]; exact rfl
    rotate_left 1
    · exact AllReadyM.nil
    intro K hK
    rw [if_pos (by rfl)]
    (refine step_app (P := Tryz.prog) slInt _ _ rfl (S := fun z => w1.heap.size ≤ z) (S2 := S) (n := n3) (xs := ints (l.take n3)) (m := d) (news := ints (l.drop k1)) rfl rfl HO3.out (by have h := HT2.out S w3 l rfl (H.out.keep HK3.out (fun _ _ f => f)); rw [HD.out] at h; exact h) (by rw [ints_len, List.length_drop, HD.out, Nat.mul_one]) (ints_one _) (by have := HD.out; omega) (by have := HD.out; unfold maxLen; omega) ?_; rintro a5 n5 c5 w5 happ; have hn5 := happ.num; have ho5 := happ.own; rw [← ints_app] at ho5; have HO5 := Lib.hid ho5.rd; have HK5 := Lib.hid (HK3.out.trans happ.keep (fun z h => .inr (Nat.le_trans HK.out.size h))); have HN5 := Lib.hid hn5; clear happ ho5 hn5)
    refine hK.out _ _ ?_
    clear hK K
    (try simp only [List.getElem_toArray, List.getElem_cons_succ, List.getElem_cons_zero, Act.put, List.setIfInBounds_toArray, List.set_cons_zero, List.set_cons_succ])
    (refine tkMP 10 _ _ ?_; simp only [Act.put, List.setIfInBounds_toArray, List.set_cons_zero, List.set_cons_succ])
    refine wpAnyM_done (by kernel_rfl) ?_ _
    have HL := Lib.hid (show (l.eraseIdx n3).length = n5 by rw [HN5.out, List.length_eraseIdx_of_lt hkl]; have := HD.out; have := HK1.out; omega)
    have HE := Lib.hid (show l.eraseIdx n3 = l.take n3 ++ l.drop k1 by rw [List.eraseIdx_eq_take_drop_succ, HK1.out])
    go_wp2_with fail
    go_ret
    exact ⟨_, a5, c5, l.eraseIdx n3, by rw [HL.out]; rfl, HR.out.erase _, HR.out.mem_erase (HS.out.at HR.out HM.out), by rw [HL.out, HN5.out]; have := HD.out; omega, by rw [HL.out, HE.out]; exact HO5.out, HK5.out⟩
  · have hd : decide (i ∈ l) = false := decide_eq_false hm
    have HM := Lib.hid hm; clear hm
    rw [hd]
    clear hd
    go_wp2_with fail
    go_ret
    exact ⟨S, _, _, l, rfl, HR.out, fun x => ⟨fun h => ⟨h, fun e => HM.out (e ▸ h)⟩, fun h => h.1⟩, Nat.le_refl _, H.out.keep HK.out (fun _ _ f => f), HK.out⟩
end Go.Proofs.YtkiikblpgppmkaaGreatDoor

namespace Go.Proofs.YtkiikblpgppmkaaGreatDoor
open Go Go.RowKit
set_option linter.unusedVariables false
set_option linter.unusedSimpArgs false

def Th (th : List Int) (m : Nat) : Prop := Rises th ∧ ∀ x, x ∈ th ↔ ∃ j : Nat, x = (j : Int) ∧ m.testBit j = true
theorem Th.nil : Th [] 0 := ⟨List.Pairwise.nil, fun x => ⟨fun h => absurd h List.not_mem_nil, fun ⟨j, _, h⟩ => absurd h (by simp)⟩⟩
theorem Th.mem {th : List Int} {m : Nat} (h : Th th m) (k : Nat) : decide ((k : Int) ∈ th) = m.testBit k := by
  cases hb : m.testBit k with
  | true => exact decide_eq_true ((h.2 _).2 ⟨k, rfl, hb⟩)
  | false =>
    refine decide_eq_false fun hk => ?_
    obtain ⟨j, hj, hb2⟩ := (h.2 _).1 hk
    have e : k = j := Int.ofNat.inj hj
    subst e
    rw [hb] at hb2
    cases hb2
theorem Th.add {th L : List Int} {m k : Nat} (h : Th th m) (hr : Rises L) (hL : ∀ x, x ∈ L ↔ x ∈ th ∨ x = (k : Int)) : Th L (addW m k) := ⟨hr, fun x => by
  rw [hL, h.2]
  constructor
  · rintro (⟨j, e, hb⟩ | e)
    · exact ⟨j, e, by rw [bit_add, hb]; rfl⟩
    · exact ⟨k, e, by rw [bit_add]; simp⟩
  · rintro ⟨j, e, hb⟩
    rw [bit_add, Bool.or_eq_true] at hb
    rcases hb with hb | hb
    · exact .inl ⟨j, e, hb⟩
    · exact .inr (by rw [e, of_decide_eq_true hb])⟩
theorem Th.del {th L : List Int} {m k : Nat} (hm : m < 2 ^ 64) (h : Th th m) (hr : Rises L) (hL : ∀ x, x ∈ L ↔ x ∈ th ∧ x ≠ (k : Int)) : Th L (delW m k) := ⟨hr, fun x => by
  rw [hL, h.2]
  constructor
  · rintro ⟨⟨j, e, hb⟩, hne⟩
    have hj : j < 64 := by
      apply Nat.lt_of_not_le
      intro h64
      rw [Nat.testBit_lt_two_pow (Nat.lt_of_lt_of_le hm (Nat.pow_le_pow_right (by decide) h64))] at hb
      cases hb
    refine ⟨j, e, ?_⟩
    rw [bit_del m k hj, hb]
    simp
    intro ejk
    exact hne (by rw [e, ejk])
  · rintro ⟨j, e, hb⟩
    obtain ⟨hb1, hne⟩ := bit_del_le hb
    exact ⟨⟨j, e, hb1⟩, by rw [e]; intro ee; exact hne (Int.ofNat.inj ee)⟩⟩
theorem rises_ext : ∀ (a b : List Int), Rises a → Rises b → (∀ x, x ∈ a ↔ x ∈ b) → a = b
  | [], [], _, _, _ => rfl
  | [], y :: b, _, _, h => by have := (h y).2 List.mem_cons_self; cases this
  | x :: a, [], _, _, h => by have := (h x).1 List.mem_cons_self; cases this
  | x :: a, y :: b, h1, h2, h => by
    have ha := List.pairwise_cons.1 h1
    have hb := List.pairwise_cons.1 h2
    have exy : x = y := by
      rcases List.mem_cons.1 ((h x).1 List.mem_cons_self) with e | e
      · exact e
      · rcases List.mem_cons.1 ((h y).2 List.mem_cons_self) with e' | e'
        · exact e'.symm
        · have := hb.1 x e
          have := ha.1 y e'
          omega
    subst exy
    rw [rises_ext a b ha.2 hb.2 (fun z => ⟨fun hz => by
      rcases List.mem_cons.1 ((h z).1 (List.mem_cons_of_mem _ hz)) with e | e
      · have := ha.1 z hz
        omega
      · exact e, fun hz => by
      rcases List.mem_cons.1 ((h z).2 (List.mem_cons_of_mem _ hz)) with e | e
      · have := hb.1 z hz
        omega
      · exact e⟩)]
theorem Th.list {th : List Int} {m : Nat} (hm : m < 2 ^ 64) (h : Th th m) : th = (listW m).map (fun n : Nat => (n : Int)) := by
  refine rises_ext _ _ h.1 ?_ fun x => ?_
  · show List.Pairwise _ (List.map _ _)
    rw [List.pairwise_map]
    unfold listW
    refine List.Pairwise.imp (R := fun (a b : Nat) => a < b) (fun h => by omega) ?_
    exact List.Pairwise.filter _ List.pairwise_lt_range
  · rw [h.2, List.mem_map]
    constructor
    · rintro ⟨j, e, hb⟩
      exact ⟨j, (listW_mem hm).2 hb, e.symm⟩
    · rintro ⟨j, hj, e⟩
      exact ⟨j, e.symm, (listW_mem hm).1 hj⟩
theorem apE_1 (m k : Nat) : apE m ⟨1, (k : Int)⟩ = addW m k := rfl
theorem apE_2 (m k : Nat) : apE m ⟨2, (k : Int)⟩ = m := rfl
theorem apE_3 (m k : Nat) : apE m ⟨3, (k : Int)⟩ = delW m k := rfl
theorem TrI.and {T : TrS} {i : Nat} (h : TrI T i) : T.al.live &&& T.m = T.m := by
  apply Nat.eq_of_testBit_eq
  intro k
  rw [Nat.testBit_and]
  cases hb : T.m.testBit k with
  | false => simp
  | true => rw [h.sub k hb]; rfl
theorem ints_intsN (l : List Nat) : ints (l.map (fun n : Nat => (n : Int))) = intsN l := by
  unfold ints intsN
  rw [List.map_map]
  rfl
end Go.Proofs.YtkiikblpgppmkaaGreatDoor

namespace Go.Proofs.YtkiikblpgppmkaaGreatDoor
open Go Go.RowKit
set_option linter.unusedVariables false
set_option linter.unusedSimpArgs false

theorem neq_ev (w : World) (o : EvV) : (binOp .neq 86 o.val o.val).run Tryz.prog w = .ok (.bool false) w := by
  obtain ⟨kind, hi⟩ := o
  simp only [EvV.val, binOp, Op.equal, Op.maxDepth]
  rw [show (10000 : Nat) = 9998 + 2 from rfl]
  simp [go_sem, run_equalIn_struct]

set_option maxHeartbeats 1000000 in
theorem same_ev (v v2 : Value) (l : List EvV) (w : World) (S S2 : Nat → Prop) (h : Rd S w v l.length (flatEv l)) (h2 : Rd S2 w v2 l.length (flatEv l)) :
    Calls Tryz.prog 22 #[v, v2] w (Ret w (.bool true)) := by
  obtain ⟨a, c, rfl, g1, g2, g3, g4⟩ := id h
  have hlen : l.length ≤ 9223372036854775807 := by unfold maxLen at g2; omega
  clear g1 g2 g3 g4
  obtain ⟨a2, c2, rfl, g1, g2, g3, g4⟩ := id h2
  clear g1 g2 g3 g4
  have H := Lib.hid h; clear h
  have H2 := Lib.hid h2; clear h2
  go_enter Tryz.func22, Tryz.ntmps22
  go_wp2_with fail
  go_loopg [5] l.length (fun g v5 wr => ∃ k q : Nat, g + k = l.length ∧ v5 = .int .i64 k ∧ wr = w.drewN q)
  case atStart => exact ⟨0, 0, rfl, rfl, rfl⟩
  case round =>
    obtain ⟨k, q, hk, rfl, rfl⟩ := hrel
    have hkl : k ≤ l.length := by omega
    have HK := Lib.hid hk; clear hk
    by_cases hlt : k < l.length
    · obtain ⟨o, ho⟩ : ∃ o, l[k]? = some o := ⟨_, List.getElem?_eq_getElem hlt⟩
      obtain ⟨bo, oo, rfl, hbo, hco⟩ := H.out.elem (cells := EvV.cells) (size := 2) (fun _ => rfl) (by decide) ho
      obtain ⟨bo2, oo2, rfl, hbo2, hco2⟩ := H2.out.elem (cells := EvV.cells) (size := 2) (fun _ => rfl) (by decide) ho
      clear ho
      have hneq := fun w => neq_ev w o
      obtain ⟨kind, hi⟩ := o
      have hc0 := hco 0 (by decide)
      have hc1 := hco 1 (by decide)
      have hd0 := hco2 0 (by decide)
      have hd1 := hco2 1 (by decide)
      simp [EvV.cells] at hc0 hc1 hd0 hd1
      clear hco hco2
      simp only [EvV.val] at hneq
      go_wp2_with fail
      go_quiet (fail)
      go_wp2_with fail
      go_roundg (l.length - (k + 1))
      case measure => have := HK.out; omega
      case rel => exact ⟨k + 1, _, by omega, by go_num, rfl⟩
    · go_wp2_with fail
      go_ret
      exact ⟨rfl, (Keep.refl _ _).drewN q⟩
end Go.Proofs.YtkiikblpgppmkaaGreatDoor

namespace Go.Proofs.YtkiikblpgppmkaaGreatDoor
open Go Go.RowKit
set_option linter.unusedVariables false
set_option linter.unusedSimpArgs false

theorem St.ofMidB {w0 w : World} {A B : Asr} {P R : List Asr} (h : St w0 w (P ++ A :: B :: R)) : St w0 w (B :: (P ++ A :: R)) := by
  have h1 : St w0 w ((P ++ [A]) ++ B :: R) := by simpa using h
  have h2 := h1.ofMid
  simpa using h2
theorem St.toMidB {w0 w : World} {A B : Asr} {P R : List Asr} (h : St w0 w (B :: (P ++ A :: R))) : St w0 w (P ++ A :: B :: R) := by
  have h1 : St w0 w (B :: ((P ++ [A]) ++ R)) := by simpa using h
  have h2 := h1.toMid
  simpa using h2
theorem St.ofMidC {w0 w : World} {A B C : Asr} {P R : List Asr} (h : St w0 w (P ++ A :: B :: C :: R)) : St w0 w (C :: (P ++ A :: B :: R)) := by
  have h1 : St w0 w ((P ++ [A, B]) ++ C :: R) := by simpa using h
  have h2 := h1.ofMid
  simpa using h2
theorem St.toMidC {w0 w : World} {A B C : Asr} {P R : List Asr} (h : St w0 w (C :: (P ++ A :: B :: R))) : St w0 w (P ++ A :: B :: C :: R) := by
  have h1 : St w0 w (C :: ((P ++ [A, B]) ++ R)) := by simpa using h
  have h2 := h1.toMid
  simpa using h2
theorem St.ofMidD {w0 w : World} {A B C D : Asr} {P R : List Asr} (h : St w0 w (P ++ A :: B :: C :: D :: R)) : St w0 w (D :: (P ++ A :: B :: C :: R)) := by
  have h1 : St w0 w ((P ++ [A, B, C]) ++ D :: R) := by simpa using h
  have h2 := h1.ofMid
  simpa using h2
theorem St.toMidD {w0 w : World} {A B C D : Asr} {P R : List Asr} (h : St w0 w (D :: (P ++ A :: B :: C :: R))) : St w0 w (P ++ A :: B :: C :: D :: R) := by
  have h1 : St w0 w (D :: ((P ++ [A, B, C]) ++ R)) := by simpa using h
  have h2 := h1.toMid
  simpa using h2
end Go.Proofs.YtkiikblpgppmkaaGreatDoor

namespace Go.Proofs.YtkiikblpgppmkaaGreatDoor
open Go Go.RowKit
set_option linter.unusedVariables false
set_option linter.unusedSimpArgs false

set_option maxHeartbeats 1000000 in
theorem join_none (lb : Nat) (w : World) : Calls Tryz.prog 256 #[.int .i64 3, .slice (some ⟨lb, 0, none⟩) 0 64] w (fun e w' => e = .returned (.int .u64 0) ∧ w = w') := by
  go_enter Tryz.func256, Tryz.ntmps256
  go_wp2_with fail
  refine wp_loop_rounds 1 ?_
  rw [rounds_succ]
  go_wp2_with fail
  go_ret
  exact ⟨rfl, rfl⟩
theorem xor_max0 : bits .xor .u64 IntKind.u64.max 0 = 18446744073709551615 := by decide
theorem and_full {a : Nat} (ha : a < 2 ^ 64) : bits .and .u64 18446744073709551615 (a : Int) = (a : Int) := by
  have h := bits_and 18446744073709551615 a (by decide) ha
  rw [show (18446744073709551615 : Nat) &&& a = a by
    apply Nat.eq_of_testBit_eq
    intro i
    rw [Nat.testBit_and, show (18446744073709551615 : Nat) = 2 ^ 64 - 1 by decide, Nat.testBit_two_pow_sub_one]
    by_cases h : i < 64
    · simp [h]
    · rw [Nat.testBit_lt_two_pow (Nat.lt_of_lt_of_le ha (Nat.pow_le_pow_right (by decide) (by omega)))]
      simp [h]] at h
  exact h
theorem and_full' {a : Nat} (ha : a < 2 ^ 64) : bits .and .u64 (a : Int) 18446744073709551615 = (a : Int) := by
  have h := bits_and a 18446744073709551615 ha (by decide)
  rw [Nat.and_comm] at h
  have h2 := bits_and 18446744073709551615 a (by decide) ha
  exact h.trans (h2.symm.trans (and_full ha))
theorem and_lt {a b : Nat} (ha : a < 2 ^ 64) : a &&& b < 2 ^ 64 := Nat.lt_of_le_of_lt Nat.and_le_left ha
set_option maxHeartbeats 1000000 in
theorem join_and (lb a b : Nat) (ha : a < 2 ^ 64) (hb : b < 2 ^ 64) (w : World) (h0 : w.cell? ⟨lb, 0, none⟩ = some (.int .u64 (a : Nat))) (h1 : w.cell? ⟨lb, 1, none⟩ = some (.int .u64 (b : Nat))) (h2 : w.cell? ⟨lb, 2, none⟩ = some (.int .u64 18446744073709551615)) :
    Calls Tryz.prog 256 #[.int .i64 2, .slice (some ⟨lb, 0, none⟩) 3 64] w (fun e w' => e = .returned (.int .u64 ((a &&& b : Nat) : Int)) ∧ w = w') := by
  have hs : IntKind.u64.signed = false := rfl
  have e0 := xor_max0
  have e1 := and_full ha
  have e2 := bits_and a b ha hb
  have e3 := and_full' (and_lt (b := b) ha)
  obtain ⟨c, hc⟩ : ∃ c, a &&& b = c := ⟨_, rfl⟩
  rw [hc] at e2 e3 ⊢
  clear ha hb hc
  go_enter Tryz.func256, Tryz.ntmps256
  go_wp2_with fail
  refine wp_loop_rounds 4 ?_
  rw [rounds_succ]
  go_wp2_with fail
  rw [rounds_succ]
  go_wp2_with fail
  rw [rounds_succ]
  go_wp2_with fail
  rw [rounds_succ]
  go_wp2_with fail
  go_ret
  exact ⟨rfl, rfl⟩
end Go.Proofs.YtkiikblpgppmkaaGreatDoor
