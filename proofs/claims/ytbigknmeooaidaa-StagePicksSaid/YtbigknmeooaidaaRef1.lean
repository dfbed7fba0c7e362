/-
  The document's rising rows: where a number stands, whether it is there, with one more.
-/
import Derived.Test.YtbigknmeooaidaaDeps
import Derived.Test.YtbigknmeooaidaaMake
namespace Go.Proofs.Ytbigknmeooaidaa
open Go Go.RowKit
set_option linter.unusedVariables false
set_option linter.unusedSimpArgs false

/-- Strictly rising. -/
def Rises (l : List Int) : Prop := l.Pairwise (· < ·)
theorem Rises.lt {l : List Int} (h : Rises l) {i j : Nat} {x y : Int} (hij : i < j) (hi : l[i]? = some x) (hj : l[j]? = some y) : x < y := by
  obtain ⟨h1, rfl⟩ := List.getElem?_eq_some_iff.1 hi
  obtain ⟨h2, rfl⟩ := List.getElem?_eq_some_iff.1 hj
  exact List.pairwise_iff_getElem.1 h i j h1 h2 hij
/-- The place of a number in a rising row. -/
structure Spot (l : List Int) (i : Int) (k : Nat) : Prop where
  le : k ≤ l.length
  lo : ∀ j x, j < k → l[j]? = some x → x < i
  hi : ∀ j x, k ≤ j → l[j]? = some x → i ≤ x
theorem Spot.mem {l : List Int} {i : Int} {k : Nat} (h : Spot l i k) (hr : Rises l) : (i ∈ l) = (l[k]? = some i) := by
  apply propext
  constructor
  · intro hm
    obtain ⟨j, hj, e⟩ := List.getElem_of_mem hm
    have hj' : l[j]? = some i := by rw [List.getElem?_eq_getElem hj, e]
    rcases Nat.lt_trichotomy j k with h1 | h1 | h1
    · have := h.lo j i h1 hj'; omega
    · exact h1 ▸ hj'
    · have hk : k < l.length := by omega
      have h2 := hr.lt h1 (List.getElem?_eq_getElem hk) hj'
      have h3 := h.hi k _ (Nat.le_refl _) (List.getElem?_eq_getElem hk)
      omega
  · intro hk
    exact List.mem_of_getElem? hk
theorem Spot.insert {l : List Int} {i : Int} {k : Nat} (h : Spot l i k) (hr : Rises l) (hm : ¬ i ∈ l) : Rises (l.take k ++ [i] ++ l.drop k) := by
  have hlo : ∀ x, x ∈ l.take k → x < i := fun x hx => by
    obtain ⟨j, hj, e⟩ := List.getElem_of_mem hx
    have hj2 : j < min k l.length := by simpa using hj
    exact h.lo j x (by omega) (by rw [List.getElem?_eq_getElem (by omega)]; rw [List.getElem_take] at e; rw [e])
  have hhi : ∀ x, x ∈ l.drop k → i < x := fun x hx => by
    obtain ⟨j, hj, e⟩ := List.getElem_of_mem hx
    have hj2 : j < l.length - k := by simpa using hj
    rw [List.getElem_drop] at e
    have h1 := h.hi (k + j) x (by omega) (by rw [List.getElem?_eq_getElem (by omega), e])
    have h2 : x ≠ i := fun e2 => hm (e2 ▸ List.mem_of_mem_drop hx)
    omega
  unfold Rises at hr ⊢
  have hs : (l.take k ++ l.drop k).Pairwise (· < ·) := by rw [List.take_append_drop]; exact hr
  rw [List.pairwise_append] at hs
  rw [List.append_assoc, List.pairwise_append]
  refine ⟨hs.1, ?_, fun a ha b hb => ?_⟩
  · rw [List.singleton_append, List.pairwise_cons]
    exact ⟨hhi, hs.2.1⟩
  · rcases List.mem_append.1 hb with hb | hb
    · simp at hb
      subst hb
      exact hlo a ha
    · exact hs.2.2 a ha b hb
theorem mem_insert {l : List Int} {i : Int} {k : Nat} (x : Int) : x ∈ l.take k ++ [i] ++ l.drop k ↔ x ∈ l ∨ x = i := by
  have : x ∈ l ↔ x ∈ l.take k ∨ x ∈ l.drop k := by rw [← List.mem_append, List.take_append_drop]
  rw [this]
  simp
  constructor
  · rintro (h | h | h)
    · exact .inl (.inl h)
    · exact .inr h
    · exact .inl (.inr h)
  · rintro ((h | h) | h)
    · exact .inl h
    · exact .inr (.inr h)
    · exact .inr (.inl h)

/-- The place, and whether it is there. -/
def RetAt (w : World) (l : List Int) (i : Int) (en : Ending) (w' : World) : Prop :=
  ∃ k : Nat, en = .returned (.tuple #[.int .i64 k, .bool (decide (i ∈ l))]) ∧ Spot l i k ∧ Keep w w' Nope
def LoopAt (w : World) (l : List Int) (i : Int) (g : Nat) (v6 v7 : Value) (wr : World) : Prop :=
  ∃ lo hi : Nat, g = hi - lo ∧ lo ≤ hi ∧ hi ≤ l.length ∧ v6 = .int .i64 lo ∧ v7 = .int .i64 hi ∧ (∀ j x, j < lo → l[j]? = some x → x < i) ∧ (∀ j x, hi ≤ j → l[j]? = some x → i ≤ x) ∧ w = wr

set_option maxHeartbeats 1000000 in
theorem ref_at (v : Value) (l : List Int) (i : Int) (w : World) (S : Nat → Prop) (h : Rd S w v l.length (ints l)) (hr : Rises l) (hl : l.length ≤ 1000000000) :
    Calls Try.prog 36 #[v, .int .i64 i] w (RetAt w l i) := by
  obtain ⟨a, c, rfl, g1, g2, g3, g4⟩ := id h
  clear g1 g2 g3 g4
  have H := Lib.hid h; clear h
  have HR := Lib.hid hr; clear hr
  go_enter Try.func36, Try.ntmps36
  go_wp2_with fail
  go_loopg [6, 7] l.length (fun g v6 v7 wr => LoopAt w l i g v6 v7 wr)
  case atStart => exact ⟨0, l.length, rfl, Nat.zero_le _, Nat.le_refl _, rfl, rfl, fun j x hj => by omega, fun j x hj hx => (by rw [List.getElem?_eq_none hj] at hx; cases hx), rfl⟩
  case round =>
    obtain ⟨lo, hi, hg, hlh, hhl, rfl, rfl, hlo, hhi, rfl⟩ := hrel
    have HG := Lib.hid hg; clear hg
    have HLO := Lib.hid hlo; clear hlo
    have HHI := Lib.hid hhi; clear hhi
    by_cases hlt : lo < hi
    · obtain ⟨m, hm⟩ : ∃ m, m = (lo + hi) / 2 := ⟨_, rfl⟩
      have hm1 : lo ≤ m := by omega
      have hm2 : m < hi := by omega
      have hmi : ((lo : Int) + (hi : Int)) / 2 = (m : Int) := by omega
      have hmt : ((lo : Int) + (hi : Int)).tdiv 2 = (m : Int) := by rw [Int.tdiv_eq_ediv_of_nonneg (by omega)]; exact hmi
      clear hm
      obtain ⟨x, hx⟩ : ∃ x, l[m]? = some x := ⟨_, List.getElem?_eq_getElem (by omega)⟩
      obtain ⟨bo, oo, ⟨c', hv⟩, _, hc0⟩ := H.out.int hx
      injection hv with hv1 hv2 hv3
      subst hv1; subst hv3
      have HX := Lib.hid hx; clear hx
      by_cases hxi : x < i
      · go_wp2_with fail
        go_roundg (hi - (m + 1))
        case measure => have := HG.out; omega
        case rel => exact ⟨m + 1, hi, rfl, by omega, hhl, by go_num, rfl, fun j y hj hy => (by
            rcases Nat.lt_or_ge j m with h1 | h1
            · have := HR.out.lt h1 hy HX.out; omega
            · obtain rfl : m = j := by omega
              rw [HX.out] at hy
              cases hy
              exact hxi), HHI.out, rfl⟩
      · go_wp2_with fail
        go_roundg (m - lo)
        case measure => have := HG.out; omega
        case rel => exact ⟨lo, m, rfl, by omega, by omega, rfl, rfl, HLO.out, fun j y hj hy => (by
            rcases Nat.lt_or_ge m j with h1 | h1
            · have := HR.out.lt h1 HX.out hy; omega
            · obtain rfl : m = j := by omega
              rw [HX.out] at hy
              cases hy
              omega), rfl⟩
    · obtain rfl : lo = hi := by omega
      have HSP := Lib.hid (show Spot l i lo from ⟨hhl, HLO.out, HHI.out⟩)
      have HME := Lib.hid (HSP.out.mem HR.out)
      by_cases hll : lo < l.length
      · obtain ⟨x, hx⟩ : ∃ x, l[lo]? = some x := ⟨_, List.getElem?_eq_getElem hll⟩
        obtain ⟨bo, oo, ⟨c', hv⟩, _, hc0⟩ := H.out.int hx
        injection hv with hv1 hv2 hv3
        subst hv1; subst hv3
        have HE := Lib.hid (show decide (i ∈ l) = (x == i) by rw [Bool.eq_iff_iff, decide_eq_true_iff, HME.out, hx]; simp)
        have hd : decide (lo < l.length) = true := decide_eq_true hll
        have hll' : (lo : Int) < l.length := by omega
        clear hx
        go_wp2_with fail
        go_quiet (fail)
        go_wp2_with fail
        go_ret2
        exact ⟨lo, by rw [HE.out]; rfl, HSP.out, (Keep.refl _ _).drewN _⟩
      · have HE := Lib.hid (show decide (i ∈ l) = false by rw [decide_eq_false_iff_not, HME.out, List.getElem?_eq_none (by omega)]; simp)
        have hd : decide (lo < l.length) = false := decide_eq_false hll
        have hll' : decide ((lo : Int) < (l.length : Int)) = false := decide_eq_false (by omega)
        go_wp2_with fail
        go_quiet (fail)
        go_wp2_with fail
        go_ret2
        exact ⟨lo, by rw [HE.out]; rfl, HSP.out, (Keep.refl _ _).drewN _⟩

set_option maxHeartbeats 400000 in
theorem ref_in (v : Value) (l : List Int) (i : Int) (w : World) (S : Nat → Prop) (h : Rd S w v l.length (ints l)) (hr : Rises l) (hl : l.length ≤ 1000000000) :
    Calls Try.prog 13 #[v, .int .i64 i] w (Ret w (.bool (decide (i ∈ l)))) := by
  have HA := Lib.hid (ref_at v l i w S h hr hl); clear h hr hl
  go_enter Try.func13, Try.ntmps13
  go_wp2_with fail
  refine HA.out.mono ?_
  rintro e w1 ⟨k, rfl, hs, hk⟩
  have HK := Lib.hid hk; clear hk hs
  obtain ⟨b, hb⟩ : ∃ b, decide (i ∈ l) = b := ⟨_, rfl⟩
  rw [hb]
  have HB := Lib.hid hb; clear hb
  go_wp2_with fail
  go_ret
  exact ⟨by rw [HB.out]; rfl, HK.out⟩

set_option maxRecDepth 10000 in
/-- The first k, and the rest, of a slice that reads. -/
theorem cut_int (a : Option Addr) (n c k : Nat) (hk : k ≤ n) (hn : n ≤ c) : ∃ (a1 : Option Addr) (c1 : Nat), (∀ w, (Instr.slice 23 (.slice a n c) none (some (.int .i64 (k : Int))) none).run Try.prog w = .ok (.slice a1 k c1) w) ∧
    ∀ (S : Nat → Prop) w (l : List Int), l.length = n → Rd S w (.slice a n c) n (ints l) → Rd S w (.slice a1 k c1) k (ints (l.take k)) := by
  refine ⟨a, c, fun w => ?_, fun S w l hl h => ?_⟩
  · have h1 : (0 : Int) ≤ (k : Int) := by omega
    have h2 : (k : Int) ≤ (c : Int) := by omega
    have hz : (sizeOf (Try.prog.elem 23)).run Try.prog w = .ok 1 w := by kernel_rfl
    rw [run_slice_h (P := Try.prog) (w := w) 23 a n c (by kernel_rfl) .i64 (k : Int) h1 h2, hz]
    simp only [Result.andThen, sliced, Int.toNat_natCast, Nat.sub_zero, Nat.zero_mul]
    congr 2
    split
    · rfl
    · cases a
      · rfl
      · rename_i x
        obtain ⟨b, o, p⟩ := x
        simp [Addr.add]
  · obtain ⟨a', c', he, h1, h2, h3, h4⟩ := h
    injection he with e1 e2 e3
    subst e1; subst e3
    refine ⟨a, c, rfl, by omega, h2, fun e => ⟨by have := (h3 e).1; omega, (h3 e).2⟩, fun j u hu => h4 j u ?_⟩
    rw [show ints (l.take k) = (ints l).take k by simp [ints, List.map_take], List.getElem?_take] at hu
    split at hu
    · exact hu
    · cases hu
set_option maxRecDepth 10000 in
theorem tail_int (a : Option Addr) (n c k : Nat) (hk : k ≤ n) (hn : n ≤ c) : ∃ (a1 : Option Addr) (c1 : Nat), (∀ w, (Instr.slice 23 (.slice a n c) (some (.int .i64 (k : Int))) none none).run Try.prog w = .ok (.slice a1 (n - k) c1) w) ∧
    ∀ (S : Nat → Prop) w (l : List Int), l.length = n → Rd S w (.slice a n c) n (ints l) → Rd S w (.slice a1 (n - k) c1) (n - k) (ints (l.drop k)) := by
  refine ⟨if c = k then a else a.map (·.add k), c - k, fun w => ?_, fun S w l hl h => ?_⟩
  · have h1 : (0 : Int) ≤ (k : Int) := by omega
    have h2 : (k : Int) ≤ (n : Int) := by omega
    have hz : (sizeOf (Try.prog.elem 23)).run Try.prog w = .ok 1 w := by kernel_rfl
    rw [run_slice_l (P := Try.prog) (w := w) 23 a n c (by kernel_rfl) .i64 (k : Int) h1 h2, hz]
    simp only [Result.andThen, sliced, Int.toNat_natCast, Nat.mul_one]
  · obtain ⟨a', c', he, h1, h2, h3, h4⟩ := h
    injection he with e1 e2 e3
    subst e1; subst e3
    refine ⟨_, _, rfl, by omega, by omega, fun e => ?_, fun j u hu => ?_⟩
    · split at e
      · have := h3 e
        omega
      · cases a
        · have := h3 rfl
          omega
        · cases e
    · rw [show ints (l.drop k) = (ints l).drop k by simp [ints, List.map_drop], List.getElem?_drop] at hu
      obtain ⟨b, o, e, hb, hc⟩ := h4 (k + j) u hu
      subst e
      by_cases hck : c = k
      · have : k + j < (ints l).length := (List.getElem?_eq_some_iff.1 hu).1
        rw [ints_len] at this
        omega
      · refine ⟨b, o + k, ?_, hb, by rw [Nat.add_assoc]; exact hc⟩
        rw [if_neg hck]
        simp [Addr.add]

/-- With one more. -/
def RetWith (w : World) (l : List Int) (i : Int) (en : Ending) (w' : World) : Prop :=
  ∃ (S : Nat → Prop) (a : Option Addr) (c : Nat) (L : List Int), en = .returned (.slice a L.length c) ∧ Rises L ∧ (∀ x, x ∈ L ↔ x ∈ l ∨ x = i) ∧ L.length ≤ l.length + 1 ∧ Rd S w' (.slice a L.length c) L.length (ints L) ∧ Keep w w' Nope

set_option maxHeartbeats 1000000 in
theorem ref_with (v : Value) (l : List Int) (i : Int) (w : World) (S : Nat → Prop) (h : Rd S w v l.length (ints l)) (hr : Rises l) (hl : l.length ≤ 1000000000) :
    Calls Try.prog 37 #[v, .int .i64 i] w (RetWith w l i) := by
  obtain ⟨a, c, rfl, g1, g2, g3, g4⟩ := id h
  have HA := Lib.hid (ref_at _ l i w S h hr hl)
  have HCT := Lib.hid (fun k hk => cut_int a l.length c k hk g1)
  have HTL := Lib.hid (fun k hk => tail_int a l.length c k hk g1)
  have H := Lib.hid h
  have HR := Lib.hid hr
  clear g1 g2 g3 g4 h hr
  go_enter Try.func37, Try.ntmps37
  go_wp2_with fail
  refine HA.out.mono ?_
  rintro e w1 ⟨k, rfl, hs, hk⟩
  have HK := Lib.hid hk; clear hk
  have HS := Lib.hid hs
  have hkl : k ≤ l.length := hs.le
  clear hs HA
  by_cases hm : i ∈ l
  · have hd : decide (i ∈ l) = true := decide_eq_true hm
    have HM := Lib.hid hm; clear hm
    rw [hd]
    clear hd
    go_wp2_with fail
    go_ret
    exact ⟨S, _, _, l, rfl, HR.out, fun x => ⟨.inl, fun h => h.elim id (fun e => e ▸ HM.out)⟩, by omega, H.out.keep HK.out (fun _ _ f => f), HK.out⟩
  · have hd : decide (i ∈ l) = false := decide_eq_false hm
    have HM := Lib.hid hm; clear hm
    rw [hd]
    clear hd
    obtain ⟨a1, c1, hc1, hc2⟩ := HCT.out k hkl
    obtain ⟨a2, c2, ht1, ht2⟩ := HTL.out k hkl
    have HR1 := Lib.hid (hc2 S w1 l rfl (H.out.keep HK.out (fun _ _ f => f)))
    have HT2 := Lib.hid ht2
    clear hc2 ht2
    obtain ⟨d, hd⟩ : ∃ d, l.length - k = d := ⟨_, rfl⟩
    rw [hd] at ht1
    have HD := Lib.hid hd; clear hd
    go_wp2_with (at_builtin; refine wpList_app (P := Try.prog) slInt rfl _ _ rfl (S := fun z => w1.heap.size ≤ z) (S2 := S) (n := 0) (xs := []) (m := k) (news := ints (l.take k)) rfl rfl ?hown ?hx ?hl ?h1 ?h2 ?h3 ?_)
    case hown => exact Own.lit w1 3 1 0 #[] (Nat.zero_le _) rfl (Nat.le_refl _)
    case hx => exact HR1.out.alloc _
    case hl => simp [ints_len]; omega
    case h1 => exact ints_one _
    case h2 => omega
    case h3 => unfold maxLen; omega
    rintro a3 n3 c3 w3 ⟨ho3, hn3, hk3, _⟩
    have hs3 := hk3.size
    simp only [World.size_alloc] at hs3
    obtain rfl : n3 = k := by omega
    rw [List.nil_append] at ho3
    have HO3 := Lib.hid (ho3.mono (T := fun z => w1.heap.size ≤ z) (fun z h => h.elim id (fun h => by have := h.1; simp only [World.size_alloc] at this; omega)))
    have HK3 := Lib.hid ((HK.out.alloc (.cells #[] 3)).trans (hk3.mono (T := fun z => w1.heap.size ≤ z) (fun _ h => .inl h)) (fun z h => .inr (Nat.le_trans HK.out.size h)))
    clear ho3 hk3 hn3
    go_wp2_with (at_builtin; refine wpList_app (P := Try.prog) slInt rfl _ _ rfl (S := fun z => w1.heap.size ≤ z) (S2 := fun z => w1.heap.size ≤ z) (n := n3) (xs := ints (l.take n3)) (m := 1) (news := ints [i]) rfl rfl ?hown ?hx ?hl ?h1 ?h2 ?h3 ?_)
    case hown => exact HO3.out.alloc _
    case hx => exact (Own.lit (S := fun x => w1.heap.size ≤ x) w3 3 1 1 #[.int .i64 i] (by decide) rfl (by omega)).rd
    case hl => rfl
    case h1 => exact ints_one _
    case h2 => omega
    case h3 => unfold maxLen; omega
    rintro a4 n4 c4 w4 ⟨ho4, hn4, hk4, _⟩
    have hs4 := hk4.size
    simp only [World.size_alloc] at hs4
    subst hn4
    rw [← ints_app] at ho4
    have HO4 := Lib.hid (ho4.mono (T := fun z => w1.heap.size ≤ z) (fun z h => h.elim id (fun h => by have := h.1; simp only [World.size_alloc] at this; omega)))
    have HK4 := Lib.hid ((HK3.out.alloc (.cells #[.int .i64 i] 3)).trans hk4 (fun z h => .inr (Nat.le_trans HK.out.size h)))
    clear ho4 hk4
    go_wp2_with (at_builtin; refine wpList_app (P := Try.prog) slInt rfl _ _ rfl (S := fun z => w1.heap.size ≤ z) (S2 := S) (n := n3 + 1) (xs := ints (l.take n3 ++ [i])) (m := d) (news := ints (l.drop n3)) rfl rfl ?hown ?hx ?hl ?h1 ?h2 ?h3 ?_)
    case hown => exact HO4.out
    case hx =>
      have h := HT2.out S w4 l rfl (H.out.keep HK4.out (fun _ _ f => f))
      rw [HD.out] at h
      exact h
    case hl => simp [ints_len, HD.out]
    case h1 => exact ints_one _
    case h2 => have := HD.out; omega
    case h3 => have := HD.out; unfold maxLen; omega
    rintro a5 n5 c5 w5 ⟨ho5, hn5, hk5, _⟩
    rw [← ints_app] at ho5
    have HL := Lib.hid (show (l.take n3 ++ [i] ++ l.drop n3).length = n5 by rw [hn5]; have := HD.out; simp; omega)
    have HN := Lib.hid (show n5 = l.length + 1 by rw [hn5]; have := HD.out; omega)
    have HO5 := Lib.hid ho5.rd
    have HK5 := Lib.hid (HK4.out.trans hk5 (fun z h => .inr (Nat.le_trans HK.out.size h)))
    clear ho5 hk5 hn5
    go_wp2_with fail
    go_ret
    refine ⟨_, a5, c5, l.take n3 ++ [i] ++ l.drop n3, by rw [HL.out]; rfl, HS.out.insert HR.out HM.out, fun x => mem_insert x, by rw [HL.out, HN.out]; exact Nat.le_refl _, by rw [HL.out]; exact HO5.out, HK5.out⟩
end Go.Proofs.Ytbigknmeooaidaa
