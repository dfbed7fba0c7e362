/-
  ResPlays, walked: whatever the script, numbers are added, set and got as the document says.
-/
import Derived.Test.YtnadfefjmoibeaaResLaws
import Derived.Test.YtnadfefjmoibeaaFlat
namespace Go.Proofs.Ytnadfefjmoibeaa
open Go Go.RowKit

/-- An op of the script. -/
structure Op13 where
  kind : Int
  k : Int
  n : Int
def Op13.cells (o : Op13) : List Value := [.int .i64 o.kind, .int .i64 o.k, .int .i64 o.n]

/-- The Res at b and the law's own slice v hold the same numbers, apart from each other. -/
def St13 (B : Nat) (w : World) (b : Nat) (v : Value) (cur : List Int) : Prop :=
  ∃ (Sr Sw : Nat → Prop) (a : Option Addr) (n c : Nat), v = .slice a n c ∧ n = cur.length ∧ IsRes Sr w b cur ∧ Own Sw w 2 1 (.slice a n c) n (i64s cur) ∧
    (∀ i, Sr i → Sw i → False) ∧ (∀ i, Sr i → B ≤ i ∧ i < w.heap.size) ∧ (∀ i, Sw i → B ≤ i ∧ i < w.heap.size)
theorem St13.keep {B : Nat} {w w' : World} {b : Nat} {v : Value} {cur : List Int} (h : St13 B w b v cur) (hk : Keep w w' Nope) : St13 B w' b v cur := by
  obtain ⟨Sr, Sw, a, n, c, h1, h2, h3, h4, h5, h6, h7⟩ := h
  have hs := hk.size
  exact ⟨Sr, Sw, a, n, c, h1, h2, h3.keep hk (fun _ _ f => f), h4.keep hk (fun _ _ f => f), h5, fun i h => ⟨(h6 i h).1, by have := (h6 i h).2; omega⟩, fun i h => ⟨(h7 i h).1, by have := (h7 i h).2; omega⟩⟩
/-- The Res was written, the slice was not. -/
theorem St13.res {B : Nat} {w w' : World} {b : Nat} {Sr Sw : Nat → Prop} {a : Option Addr} {n c : Nat} {l : List Int} (h2 : n = l.length) (h3 : IsRes (fun i => Sr i ∨ New w w' i) w' b l) (hk : Keep w w' Sr)
    (h4 : Own Sw w 2 1 (.slice a n c) n (i64s l)) (h5 : ∀ i, Sr i → Sw i → False) (h6 : ∀ i, Sr i → B ≤ i ∧ i < w.heap.size) (h7 : ∀ i, Sw i → B ≤ i ∧ i < w.heap.size) (hB : B ≤ w.heap.size) : St13 B w' b (.slice a n c) l := by
  have hs := hk.size
  exact ⟨_, Sw, a, n, c, rfl, h2, h3, h4.keep hk (fun i h1 h2 => h5 i h2 h1), fun i h1 h2 => h1.elim (fun h => h5 i h h2) (fun h => by have := h.1; have := (h7 i h2).2; omega),
    fun i h => h.elim (fun h => ⟨(h6 i h).1, by have := (h6 i h).2; omega⟩) (fun h => ⟨by have := h.1; omega, h.2⟩), fun i h => ⟨(h7 i h).1, by have := (h7 i h).2; omega⟩⟩
/-- The slice was written, the Res was not. -/
theorem St13.own {B : Nat} {w w' : World} {b : Nat} {Sr Sw : Nat → Prop} {a : Option Addr} {n c : Nat} {l : List Int} (h2 : n = l.length) (h3 : IsRes Sr w b l) (hk : Keep w w' Sw)
    (h4 : Own (fun i => Sw i ∨ New w w' i) w' 2 1 (.slice a n c) n (i64s l)) (h5 : ∀ i, Sr i → Sw i → False) (h6 : ∀ i, Sr i → B ≤ i ∧ i < w.heap.size) (h7 : ∀ i, Sw i → B ≤ i ∧ i < w.heap.size) (hB : B ≤ w.heap.size) : St13 B w' b (.slice a n c) l := by
  have hs := hk.size
  exact ⟨Sr, _, a, n, c, rfl, h2, h3.keep hk h5, h4, fun i h1 h2 => h2.elim (fun h => h5 i h1 h) (fun h => by have := h.1; have := (h6 i h1).2; omega),
    fun i h => ⟨(h6 i h).1, by have := (h6 i h).2; omega⟩, fun i h => h.elim (fun h => ⟨(h7 i h).1, by have := (h7 i h).2; omega⟩) (fun h => ⟨by have := h.1; omega, h.2⟩)⟩

/-- The loop's head: g rounds at most are to come. -/
def Loop13 (w : World) (b N g : Nat) (v6 v7 : Value) (wr : World) : Prop :=
  ∃ (k : Nat) (cur : List Int), g + k = N ∧ k ≤ 60 ∧ v7 = .int .i64 k ∧ St13 w.heap.size wr b v6 cur ∧ Below w.heap.size w wr
set_option maxRecDepth 100000 in
set_option maxHeartbeats 1000000 in
theorem resPlays_walk (v v2 : Value) (l : List Int) (ops : List Op13) (w : World) (S S2 : Nat → Prop) (h : Rd S w v l.length (i64s l)) (hS : ∀ i, S i → i < w.heap.size)
    (h2 : Rd S2 w v2 ops.length (ops.flatMap Op13.cells)) (hS2 : ∀ i, S2 i → i < w.heap.size) :
    Calls Try.prog 5 #[v, v2] w (RetTrue w) := by
  obtain ⟨a, c, rfl, h1, h3, h4, h5⟩ := id h
  have hlen : l.length ≤ 9223372036854775807 := by unfold maxLen at h3; omega
  have hcap := h1
  have hcm := h3
  unfold maxLen at hcm
  clear h1 h3 h4 h5
  obtain ⟨ao, co, rfl, h1, h3, h4, h5⟩ := id h2
  have hlen2 : ops.length ≤ 9223372036854775807 := by unfold maxLen at h3; omega
  clear h1 h3 h4 h5
  have H := Lib.hid h; clear h
  have H2 := Lib.hid h2; clear h2
  by_cases h0 : 60 < l.length
  · go_enter Try.func5, Try.ntmps5
    go_wp2_with fail
    refine (awake13 _).mono ?_
    rintro e w1 ⟨rfl, hk⟩
    have HK := Lib.hid hk; clear hk
    go_wp2_with fail
    go_ret
    exact ⟨rfl, HK.out⟩
  · have hrd : Rd S w (.slice a (min l.length 32) c) (l.take 32).length (i64s (l.take 32)) := by
      obtain ⟨a', c', he, h1, h2, h3, h4⟩ := H.out
      injection he with e1 e2 e3
      subst e1; subst e3
      refine ⟨a, c, by simp [Nat.min_comm], by simp; omega, h2, fun hx => ⟨by have := h3 hx; rw [List.length_take]; omega, (h3 hx).2⟩, fun j u hu => h4 j u ?_⟩
      simp only [i64s, List.map_take, List.getElem?_take] at hu
      split at hu
      · exact hu
      · cases hu
    have HRD := Lib.hid hrd; clear hrd
    go_enter Try.func5, Try.ntmps5
    go_wp2_with fail
    refine (res_new _ l _ _ H.out).mono ?_
    rintro e w1 ⟨b, rfl, hr, hk⟩
    have HR1 := Lib.hid hr; clear hr
    have HB1 := Lib.hid hk.below; clear hk
    go_wp2_with fail
    refine (awake13 _).mono ?_
    rintro e w2 ⟨rfl, hk⟩
    have HR2 := Lib.hid (HR1.out.keep (Keep.ofBelow hk) (fun i h f => by have := h.2; omega))
    have HB2 := Lib.hid (HB1.out.trans (hk.mono HB1.out.size))
    have HW2 := Lib.hid hk.size; clear hk
    go_upto_region 6 with fail
    go_cut [6] (fun v6 wx => St13 w.heap.size wx b v6 (l.take 32) ∧ Below w.heap.size w wx)
    case first =>
      have app : ∀ M : Nat, M = (l.take 32).length → M ≤ 32 := fun M h => by rw [h, List.length_take]; omega
      rcases Nat.lt_or_ge 32 l.length with h32 | h32
      · have hM : 32 = (l.take 32).length := by rw [List.length_take]; omega
        have HM := Lib.hid hM; clear hM
        clear app
        go_wp2_with (at_builtin; refine wpList_app (P := Try.prog) sl64 rfl _ _ rfl (S := fun i => w2.heap.size ≤ i) (S2 := S) (n := 0) (xs := []) (m := 32) (news := i64s (l.take 32)) rfl rfl ?hown ?hx ?hl ?h1 ?h2 ?h3 ?_)
        case hown => exact Own.lit w2 _ 1 0 #[] (Nat.zero_le _) rfl (Nat.le_refl _)
        case hx =>
          have := HRD.out.below HB2.out hS
          rw [Nat.min_eq_right (by omega), ← HM.out] at this
          exact this.alloc _
        case hl => rw [i64s_len, ← HM.out, Nat.mul_one]
        case h1 => exact i64s_one _
        case h2 => omega
        case h3 => unfold maxLen; omega
        rintro a' k c' w3 ⟨ho, hnum, hk3, _⟩
        have hs2 := HB2.out.size
        have HB3 := Lib.hid ((HB2.out.alloc hs2 (.cells #[] 2)).trans (hk3.belowAt (B := w.heap.size) (fun i h => by omega) (by simp; omega)))
        have HS3 := Lib.hid (show St13 w.heap.size w3 b (.slice a' k c') (l.take 32) from
          ⟨New w w1, New w2 w3, a', k, c', rfl, by rw [hnum, Nat.zero_add]; exact HM.out, (HR2.out.keep ((Keep.alloc (Keep.refl w2 _) _).trans hk3 (fun i h => .inl h)) (fun i h1 h2 => by have := h1.2; have := HW2.out; omega)),
            (ho.mono (fun i h => h.elim id (fun h => by have := h.1; simp at this; omega))).new, fun i h1 h2 => by have := h1.2; have := h2.1; have := HW2.out; omega, fun i h => ⟨h.1, by have := h.2; have := HW2.out; have := hk3.size; simp at this; omega⟩, fun i h => ⟨by have := h.1; omega, h.2⟩⟩)
        clear ho hk3
        go_wp2_with fail
        go_meet
        case rel => exact ⟨HS3.out, HB3.out⟩
      · have hM : l.length = (l.take 32).length := by rw [List.length_take]; omega
        have HM := Lib.hid hM; clear hM
        clear app
        go_wp2_with (at_builtin; refine wpList_app (P := Try.prog) sl64 rfl _ _ rfl (S := fun i => w2.heap.size ≤ i) (S2 := S) (n := 0) (xs := []) (m := l.length) (news := i64s (l.take 32)) rfl rfl ?hown ?hx ?hl ?h1 ?h2 ?h3 ?_)
        case hown => exact Own.lit w2 _ 1 0 #[] (Nat.zero_le _) rfl (Nat.le_refl _)
        case hx =>
          have := HRD.out.below HB2.out hS
          rw [Nat.min_eq_left (by omega), ← HM.out] at this
          exact this.alloc _
        case hl => rw [i64s_len, ← HM.out, Nat.mul_one]
        case h1 => exact i64s_one _
        case h2 => omega
        case h3 => unfold maxLen; omega
        rintro a' k c' w3 ⟨ho, hnum, hk3, _⟩
        have hs2 := HB2.out.size
        have HB3 := Lib.hid ((HB2.out.alloc hs2 (.cells #[] 2)).trans (hk3.belowAt (B := w.heap.size) (fun i h => by omega) (by simp; omega)))
        have HS3 := Lib.hid (show St13 w.heap.size w3 b (.slice a' k c') (l.take 32) from
          ⟨New w w1, New w2 w3, a', k, c', rfl, by rw [hnum, Nat.zero_add]; exact HM.out, (HR2.out.keep ((Keep.alloc (Keep.refl w2 _) _).trans hk3 (fun i h => .inl h)) (fun i h1 h2 => by have := h1.2; have := HW2.out; omega)),
            (ho.mono (fun i h => h.elim id (fun h => by have := h.1; simp at this; omega))).new, fun i h1 h2 => by have := h1.2; have := h2.1; have := HW2.out; omega, fun i h => ⟨h.1, by have := h.2; have := HW2.out; have := hk3.size; simp at this; omega⟩, fun i h => ⟨by have := h.1; omega, h.2⟩⟩)
        clear ho hk3
        go_wp2_with fail
        go_meet
        case rel => exact ⟨HS3.out, HB3.out⟩
    case rest =>
      obtain ⟨hs, hb⟩ := hcut
      clear HRD HR1 HB1 HR2 HB2 HW2 hcm hcap hlen
      have HS := Lib.hid hs; clear hs
      have HB := Lib.hid hb; clear hb
      have hz0 : decide (60 < (l.length : Int)) = false := decide_eq_false (by omega)
      clear h0
      go_wp2_with fail
      go_loopg [6, 7] ops.length (fun g v6 v7 wr => Loop13 w b ops.length g v6 v7 wr)
      case atStart => exact ⟨0, _, rfl, by omega, rfl, HS.out, HB.out⟩
      case round =>
        obtain ⟨k, cur, hk, hk6, rfl, hs, hb⟩ := hrel
        clear HS HB
        have HS := Lib.hid hs; clear hs
        have HB := Lib.hid hb; clear hb
        have hko : k ≤ ops.length := by omega
        have HK := Lib.hid hk; clear hk
        obtain ⟨Sr, Sw, a6, n6, c6, rfl, rfl, g1, g2⟩ := HS.out
        by_cases hlt : k < ops.length ∧ k < 60
        · obtain ⟨hlt, hlt6⟩ := hlt
          obtain ⟨⟨kd, kk, nn⟩, ho⟩ : ∃ o, ops[k]? = some o := ⟨_, List.getElem?_eq_getElem hlt⟩
          obtain ⟨bo, oo, rfl, hbo, hco⟩ := (H2.out.below HB.out hS2).elem (size := 3) (fun _ => rfl) (by decide) ho
          have hc0 := hco 0 (by decide)
          have hc1 := hco 1 (by decide)
          have hc2 := hco 2 (by decide)
          clear hco ho
          simp only [Op13.cells] at hc0 hc1 hc2
          simp at hc0 hc1 hc2
          have hsz := HB.out.size
          have G1 := Lib.hid (g1.keep (Keep.alloc (Keep.refl wr Nope) (.cells #[.int .i64 kd, .int .i64 kk, .int .i64 nn] 35)) (fun _ _ f => f))
          have G2 := Lib.hid (g2.1.alloc (.cells #[.int .i64 kd, .int .i64 kk, .int .i64 nn] 35))
          have G3 := Lib.hid g2.2; clear g1 g2
          have HBA := Lib.hid (HB.out.alloc hsz (.cells #[.int .i64 kd, .int .i64 kk, .int .i64 nn] 35))
          go_upto_region 11 with fail
          go_cut [9] (fun v9 wx => v9 = .bool (decide (0 ≤ kk ∧ kk < cur.length)) ∧ wx = wr.alloc (.cells #[.int .i64 kd, .int .i64 kk, .int .i64 nn] 35))
          case first =>
            by_cases k0 : 0 ≤ kk
            · by_cases k1 : kk < cur.length
              · go_wp2_with fail
                go_meet
                case rel => exact ⟨by simp [k0, k1], rfl⟩
              · go_wp2_with fail
                go_meet
                case rel => exact ⟨by simp [k1], rfl⟩
            · go_wp2_with fail
              go_meet
              case rel => exact ⟨by rw [decide_eq_false (by omega)], rfl⟩
          case rest =>
            obtain ⟨rfl, rfl⟩ := hcut
            have hszA := HBA.out.size
            go_upto_block 2 with (fail)
            go_cut [6, 9] (fun v6 _ wx => ∃ cur', St13 w.heap.size wx b v6 cur' ∧ Below w.heap.size w wx)
            case first =>
              obtain ⟨q1, q2, q3⟩ := G3.out
              have Q1 := Lib.hid q1
              have q2' : ∀ i, Sr i → w.heap.size ≤ i ∧ i < (wr.alloc (.cells #[.int .i64 kd, .int .i64 kk, .int .i64 nn] 35)).heap.size := fun i h => ⟨(q2 i h).1, by have := (q2 i h).2; simp; omega⟩
              have q3' : ∀ i, Sw i → w.heap.size ≤ i ∧ i < (wr.alloc (.cells #[.int .i64 kd, .int .i64 kk, .int .i64 nn] 35)).heap.size := fun i h => ⟨(q3 i h).1, by have := (q3 i h).2; simp; omega⟩
              have Q2 := Lib.hid q2'
              have Q3 := Lib.hid q3'
              have QT : Hid (¬ Sr wr.heap.size) := fun h => by have := (q2 _ h).2; omega
              clear q1 q2 q3 q2' q3'
              by_cases kd0 : kd = 0
              · subst kd0
                by_cases hfull : cur.length < 32
                · go_wp2_with fail
                  refine (res_add Sr b cur nn _ G1.out hfull).mono ?_
                  rintro e w5 ⟨rfl, hr, hk⟩
                  have hs5 := hk.size
                  have hB5 := (Blk.new wr #[.int .i64 0, .int .i64 kk, .int .i64 nn] 35).keep hk QT.out
                  have hc51 := hB5.cell 1
                  have hc52 := hB5.cell 2
                  simp at hc51 hc52
                  clear hB5
                  have R5 := Lib.hid hr
                  have O5 := Lib.hid (G2.out.keep hk (fun i h1 h2 => Q1.out i h2 h1))
                  have B5 := Lib.hid (HBA.out.trans (hk.belowAt (B := w.heap.size) (fun i h => (Q2.out i h).1) hszA))
                  clear hr hk
                  have hs6 := B5.out.size
                  have hl6 : (cur ++ [nn]).length = cur.length + 1 := by simp
                  have HL6 := Lib.hid hl6; clear hl6
                  go_wp2_with (at_builtin; refine wpList_app (P := Try.prog) sl64 rfl _ _ rfl (S := Sw) (S2 := fun i => w5.heap.size ≤ i) (n := cur.length) (xs := i64s cur) (m := 1) (news := [.int .i64 nn]) rfl rfl ?hown ?hx rfl ?h1 ?h2 ?h3 ?_)
                  case hown => exact O5.out.alloc _
                  case hx => exact (Own.lit w5 _ 1 1 #[.int .i64 nn] (by decide) rfl (Nat.le_refl _)).rd
                  case h1 => simp [Value.oneCell']
                  case h2 => omega
                  case h3 => unfold maxLen; omega
                  rintro a' k' c' w7 ⟨ho, hnum, hk7, _⟩
                  have hs7 := hk7.size
                  have B7 := Lib.hid ((B5.out.alloc hs6 (.cells #[.int .i64 nn] 2)).trans (hk7.belowAt (B := w.heap.size) (fun i h => (Q3.out i h).1) (by simp; omega)))
                  have S7 : St13 w.heap.size w7 b (.slice a' k' c') (cur ++ [nn]) := by
                    refine St13.own (w := w5.alloc (.cells #[.int .i64 nn] 2)) (Sr := fun i => Sr i ∨ New (wr.alloc (.cells #[.int .i64 0, .int .i64 kk, .int .i64 nn] 35)) w5 i) (Sw := Sw) (by rw [HL6.out]; exact hnum) (R5.out.keep (Keep.alloc (Keep.refl w5 Nope) _) (fun _ _ f => f)) hk7 ?_ ?_ ?_ ?_ ?_
                    · rw [i64s_snoc]; exact ho
                    · exact fun i h1 h2 => h1.elim (fun h => Q1.out i h h2) (fun h => by have := h.1; have := (Q3.out i h2).2; omega)
                    · exact fun i h => h.elim (fun h => ⟨(Q2.out i h).1, by have := (Q2.out i h).2; simp at this ⊢; simp at hs5; omega⟩) (fun h => ⟨by have := h.1; omega, by have := h.2; simp; omega⟩)
                    · exact fun i h => ⟨(Q3.out i h).1, by have := (Q3.out i h).2; simp at this ⊢; simp at hs5; omega⟩
                    · simp; omega
                  have HS7 := Lib.hid S7
                  clear S7 ho hk7 hnum
                  go_wp2_with fail
                  go_meet
                  case rel => exact ⟨_, HS7.out, B7.out⟩
                · have hfull' : 32 ≤ cur.length := by omega
                  go_wp2_with fail
                  refine (res_add_out Sr b cur nn _ G1.out hfull').mono ?_
                  rintro e w5 ⟨rfl, rfl⟩
                  go_wp2_with fail
                  go_meet
                  case rel => exact ⟨cur, ⟨Sr, Sw, _, _, _, rfl, rfl, G1.out, G2.out, Q1.out, Q2.out, Q3.out⟩, HBA.out⟩
              · have kd0' : (kd == 0) = false := beq_eq_false_iff_ne.2 kd0
                by_cases kd1 : kd = 1
                · subst kd1
                  by_cases hin : 0 ≤ kk ∧ kk < cur.length
                  · have hd : decide (0 ≤ kk ∧ kk < cur.length) = true := by simpa using hin
                    obtain ⟨q, rfl⟩ := Int.eq_ofNat_of_zero_le hin.1
                    have hq : q < cur.length := by omega
                    obtain ⟨gw, rfl, hg1, hg2, hg3, hg4, hg5⟩ := G2.out.head (by omega)
                    clear hin
                    go_wp2_with fail
                    refine (res_set Sr b cur q nn _ G1.out hq).mono ?_
                    rintro e w5 ⟨rfl, hr, hk⟩
                    have hs5 := hk.size
                    have hB5 := (Blk.new wr #[.int .i64 1, .int .i64 q, .int .i64 nn] 35).keep hk QT.out
                    have hc51 := hB5.cell 1
                    have hc52 := hB5.cell 2
                    simp at hc51 hc52
                    clear hB5
                    have R5 := Lib.hid hr
                    have O5 := Lib.hid (G2.out.keep hk (fun i h1 h2 => Q1.out i h2 h1))
                    have B5 := Lib.hid (HBA.out.trans (hk.belowAt (B := w.heap.size) (fun i h => (Q2.out i h).1) hszA))
                    clear hr hk hg1 hg2 hg3 hg4 hg5
                    have hs6 := B5.out.size
                    obtain ⟨gw', he', hg1, hg2, hg3, hg4, hg5⟩ := O5.out.head (by omega)
                    injection he' with he'
                    injection he' with he'
                    subst he'
                    have hx := hg4 q (by omega)
                    rw [get_i64 (List.getElem?_eq_getElem hq)] at hx
                    have hf := hg3 q
                    have O6 := Lib.hid (hg5 q (.int .i64 nn))
                    have HG1 := Lib.hid hg1
                    clear hg1 hg2 hg3 hg4 hg5
                    go_wp2_with fail
                    go_meet
                    case rel =>
                      refine ⟨cur.set q nn, St13.own (w := w5) (Sr := fun i => Sr i ∨ New (wr.alloc (.cells #[.int .i64 1, .int .i64 q, .int .i64 nn] 35)) w5 i) (Sw := Sw) (by simp) R5.out ((Keep.refl w5 Sw).setCell (p := ⟨gw, q, none⟩) (.inl HG1.out) _) ?_ ?_ ?_ ?_ ?_, B5.out.setCell (p := ⟨gw, q, none⟩) (Q3.out gw HG1.out).1 _⟩
                      · have := O6.out.mono (T := fun i => Sw i ∨ New w5 (w5.setCell ⟨gw, q, none⟩ (.int .i64 nn)) i) (fun i h => .inl h)
                        simpa [i64s, List.map_set] using this
                      · exact fun i h1 h2 => h1.elim (fun h => Q1.out i h h2) (fun h => by have := h.1; have := (Q3.out i h2).2; omega)
                      · exact fun i h => h.elim (fun h => ⟨(Q2.out i h).1, by have := (Q2.out i h).2; omega⟩) (fun h => ⟨by have := h.1; omega, h.2⟩)
                      · exact fun i h => ⟨(Q3.out i h).1, by have := (Q3.out i h).2; omega⟩
                      · omega
                  · have hd : decide (0 ≤ kk ∧ kk < cur.length) = false := by simpa using hin
                    go_wp2_with fail
                    refine (res_set_out Sr b cur kk nn _ G1.out hin).mono ?_
                    rintro e w5 ⟨rfl, rfl⟩
                    go_wp2_with fail
                    go_meet
                    case rel => exact ⟨cur, ⟨Sr, Sw, _, _, _, rfl, rfl, G1.out, G2.out, Q1.out, Q2.out, Q3.out⟩, HBA.out⟩
                · have kd1' : (kd == 1) = false := beq_eq_false_iff_ne.2 kd1
                  by_cases hin : 0 ≤ kk ∧ kk < cur.length
                  · have hd : decide (0 ≤ kk ∧ kk < cur.length) = true := by simpa using hin
                    obtain ⟨q, rfl⟩ := Int.eq_ofNat_of_zero_le hin.1
                    have hq : q < cur.length := by omega
                    obtain ⟨x0, hx0⟩ : ∃ x0, cur[q]? = some x0 := ⟨_, List.getElem?_eq_getElem hq⟩
                    obtain ⟨gw, rfl, hg1, hg2, hg3, hg4, hg5⟩ := G2.out.head (by omega)
                    have hx := hg4 q (by omega)
                    rw [get_i64 hx0] at hx
                    have HX := Lib.hid hx0
                    clear hin hx0 hg1 hg2 hg3 hg4 hg5
                    go_wp2_with fail
                    refine (res_get Sr b cur q x0 _ G1.out HX.out).mono ?_
                    rintro e w5 ⟨rfl, rfl⟩
                    go_wp2_with fail
                    go_meet
                    case rel => exact ⟨cur, ⟨Sr, Sw, _, _, _, rfl, rfl, G1.out, G2.out, Q1.out, Q2.out, Q3.out⟩, HBA.out⟩
                  · have hd : decide (0 ≤ kk ∧ kk < cur.length) = false := by simpa using hin
                    go_wp2_with fail
                    refine (res_get_out Sr b cur kk _ G1.out hin).mono ?_
                    rintro e w5 ⟨rfl, rfl⟩
                    go_wp2_with fail
                    go_meet
                    case rel => exact ⟨cur, ⟨Sr, Sw, _, _, _, rfl, rfl, G1.out, G2.out, Q1.out, Q2.out, Q3.out⟩, HBA.out⟩
            case rest =>
              obtain ⟨cur2, hs, hb⟩ := hcut
              clear G1 G2 G3 HBA hszA hsz
              have HS2 := Lib.hid hs; clear hs
              have HB2 := Lib.hid hb; clear hb
              have hszB := HB2.out.size
              obtain ⟨Sr2, Sw2, a7, n7, c7, rfl, rfl, r7, o7, q7⟩ := HS2.out
              have R7 := Lib.hid r7
              have O7 := Lib.hid o7
              have hl7 : cur2.length ≤ 32 := by obtain ⟨_, _, _, _, _, _, e1, e2⟩ := r7; omega
              clear r7 o7 q7
              go_wp2_with fail
              refine (res_all Sr2 b cur2 _ R7.out).mono ?_
              rintro e w8 ⟨a8, n8, c8, rfl, ho, hk8⟩
              have hn8 := ho.len
              rw [i64s_len, Nat.mul_one] at hn8
              subst hn8
              have HO8 := Lib.hid ho
              have HS8 := Lib.hid (HS2.out.keep hk8)
              have R8 := Lib.hid (R7.out.keep hk8 (fun _ _ f => f))
              have O8 := Lib.hid (O7.out.keep hk8 (fun _ _ f => f))
              have HB8 := Lib.hid (HB2.out.trans (hk8.belowAt (B := w.heap.size) (fun i h => h.elim) hszB))
              clear ho hk8
              go_wp2_with fail
              refine (res_len Sr2 b cur2 _ R8.out).mono ?_
              rintro e w9 ⟨rfl, rfl⟩
              go_wp2_with fail
              go_loopg [17] cur2.length (fun g v17 wx => ∃ j q : Nat, g + j = cur2.length ∧ v17 = .int .i64 j ∧ wx = w8.drewN q)
              case atStart => exact ⟨0, 0, rfl, rfl, rfl⟩
              case round =>
                obtain ⟨j, q, hj, rfl, rfl⟩ := hrel
                have HJ := Lib.hid hj
                have hj1 : j ≤ cur2.length := by omega
                clear hj
                by_cases hjl : j < cur2.length
                · obtain ⟨x0, hx0⟩ : ∃ x0, cur2[j]? = some x0 := ⟨_, List.getElem?_eq_getElem hjl⟩
                  obtain ⟨g8, rfl, _, _, _, hg4, _⟩ := HO8.out.head (by omega)
                  obtain ⟨g7, rfl, _, _, _, hg4', _⟩ := O8.out.head (by omega)
                  have hx := hg4 j (by omega)
                  have hx' := hg4' j (by omega)
                  rw [get_i64 hx0] at hx hx'
                  clear hg4 hg4' hx0
                  go_wp2_with fail
                  go_quiet (fail)
                  go_wp2_with fail
                  go_roundg (cur2.length - (j + 1))
                  case measure => have := HJ.out; omega
                  case rel => exact ⟨j + 1, _, by omega, by go_num, rfl⟩
                · go_wp2_with fail
                  go_roundg (ops.length - (k + 1))
                  case measure => have := HK.out; omega
                  case rel => exact ⟨k + 1, cur2, by omega, by omega, by go_num, HS8.out.keep ((Keep.refl w8 Nope).drewN q), below_drewN HB8.out q⟩
        · go_wp2_with fail
          all_goals
            go_ret
            exact ⟨rfl, HB.out⟩
end Go.Proofs.Ytnadfefjmoibeaa
