/-
  LazyPlays, walked: whatever the script, ops wait, are drained and joined as the document says.
-/
import Derived.Test.YtnadfefjmoibeaaLazyLaws
namespace Go.Proofs.Ytnadfefjmoibeaa
open Go Go.RowKit

/-- A queue at b that holds x, and a slice of the law's own that holds y, apart from each other. -/
structure Pair (B : Nat) (w : World) (b : Nat) (Fq Fw : Nat → Prop) (a : Option Addr) (n c : Nat) (x y : List OpV) : Prop where
  q : IsQ Fq w b x
  o : Own Fw w 45 7 (.slice a n c) n (flatOp y)
  d : ∀ i, Fq i → Fw i → False
  bq : ∀ i, Fq i → B ≤ i ∧ i < w.heap.size
  bw : ∀ i, Fw i → B ≤ i ∧ i < w.heap.size

theorem Pair.keep {B : Nat} {w w' : World} {b : Nat} {Fq Fw : Nat → Prop} {a : Option Addr} {n c : Nat} {x y : List OpV} (h : Pair B w b Fq Fw a n c x y) (hk : Keep w w' Nope) : Pair B w' b Fq Fw a n c x y :=
  ⟨h.q.keep hk (fun _ _ f => f), h.o.keep hk (fun _ _ f => f), h.d, fun i hi => ⟨(h.bq i hi).1, Nat.lt_of_lt_of_le (h.bq i hi).2 hk.size⟩, fun i hi => ⟨(h.bw i hi).1, Nat.lt_of_lt_of_le (h.bw i hi).2 hk.size⟩⟩
theorem Pair.keepT {B : Nat} {w w' : World} {b : Nat} {Fq Fw T : Nat → Prop} {a : Option Addr} {n c : Nat} {x y : List OpV} (h : Pair B w b Fq Fw a n c x y) (hk : Keep w w' T) (h1 : ∀ i, Fq i → T i → False) (h2 : ∀ i, Fw i → T i → False) : Pair B w' b Fq Fw a n c x y :=
  ⟨h.q.keep hk h1, h.o.keep hk h2, h.d, fun i hi => ⟨(h.bq i hi).1, Nat.lt_of_lt_of_le (h.bq i hi).2 hk.size⟩, fun i hi => ⟨(h.bw i hi).1, Nat.lt_of_lt_of_le (h.bw i hi).2 hk.size⟩⟩
theorem Pair.self {B : Nat} {w : World} {b : Nat} {Fq Fw : Nat → Prop} {a : Option Addr} {n c : Nat} {x y : List OpV} (h : Pair B w b Fq Fw a n c x y) : Fq b := by obtain ⟨_, _, _, _, h, _⟩ := h.q; exact h
theorem Pair.setq {B : Nat} {w w' : World} {b : Nat} {Fq Fw Fr : Nat → Prop} {a : Option Addr} {n c : Nat} {x x' y : List OpV} (h : Pair B w b Fq Fw a n c x y) (hB : B ≤ w.heap.size) (hk : Keep w w' Fq) (hr : ∀ i, Fr i → Fq i ∨ New w w' i) (hq : IsQ Fr w' b x') :
    Pair B w' b Fr Fw a n c x' y :=
  ⟨hq, h.o.keep hk (fun i h1 h2 => h.d i h2 h1), fun i h1 h2 => (hr i h1).elim (fun h3 => h.d i h3 h2) (fun h3 => by have := h3.1; have := (h.bw i h2).2; omega),
    fun i hi => (hr i hi).elim (fun h3 => ⟨(h.bq i h3).1, Nat.lt_of_lt_of_le (h.bq i h3).2 hk.size⟩) (fun h3 => ⟨Nat.le_trans hB h3.1, h3.2⟩), fun i hi => ⟨(h.bw i hi).1, Nat.lt_of_lt_of_le (h.bw i hi).2 hk.size⟩⟩
theorem Pair.seto {B : Nat} {w w' : World} {b : Nat} {Fq Fw Fr : Nat → Prop} {a a' : Option Addr} {n c n' c' : Nat} {x y y' : List OpV} (h : Pair B w b Fq Fw a n c x y) (hB : B ≤ w.heap.size) (hk : Keep w w' Fw) (hr : ∀ i, Fr i → Fw i ∨ New w w' i) (ho : Own Fr w' 45 7 (.slice a' n' c') n' (flatOp y')) :
    Pair B w' b Fq Fr a' n' c' x y' :=
  ⟨h.q.keep hk h.d, ho, fun i h1 h2 => (hr i h2).elim (fun h3 => h.d i h1 h3) (fun h3 => by have := h3.1; have := (h.bq i h1).2; omega),
    fun i hi => ⟨(h.bq i hi).1, Nat.lt_of_lt_of_le (h.bq i hi).2 hk.size⟩, fun i hi => (hr i hi).elim (fun h3 => ⟨(h.bw i h3).1, Nat.lt_of_lt_of_le (h.bw i h3).2 hk.size⟩) (fun h3 => ⟨Nat.le_trans hB h3.1, h3.2⟩)⟩

/-- An act of the script: its kind, the slice of its ops as it came in, and what that reads as. -/
structure ActV where
  kind : Int
  v : Value
  ops : List OpV
def ActV.cells (x : ActV) : List Value := [.int .i64 x.kind, x.v]

/-- The loop's head. -/
def LoopLP (w : World) (b N g : Nat) (v4 v5 : Value) (wr : World) : Prop :=
  ∃ (k : Nat) (cur : List OpV) (Fq Fw : Nat → Prop) (a : Option Addr) (n c : Nat), g + k = N ∧ k ≤ 30 ∧ v5 = .int .i64 k ∧ v4 = .slice a n c ∧ n = cur.length ∧ cur.length ≤ 900 + 40 * k ∧ (∀ o, o ∈ cur → okOp o = true) ∧
    Pair w.heap.size wr b Fq Fw a n c cur cur ∧ Below w.heap.size w wr

/-- What an act leaves. -/
def ActLP (w : World) (b k : Nat) (v4 : Value) (wr : World) : Prop :=
  ∃ (cur : List OpV) (Fq Fw : Nat → Prop) (a : Option Addr) (n c : Nat), v4 = .slice a n c ∧ n = cur.length ∧ cur.length ≤ 900 + 40 * (k + 1) ∧ (∀ o, o ∈ cur → okOp o = true) ∧
    Pair w.heap.size wr b Fq Fw a n c cur cur ∧ Below w.heap.size w wr

theorem filter_all {l : List OpV} (h : l.any (fun o => !okOp o) = false) : l.filter okOp = l := by
  rw [List.filter_eq_self]
  intro o ho
  have := List.any_eq_false.1 h o ho
  simpa using this
theorem filter_short {l : List OpV} (h : l.any (fun o => !okOp o) = true) : (l.filter okOp).length < l.length := by
  obtain ⟨o, ho, hb⟩ := List.any_eq_true.1 h
  have h1 := List.length_filter_le okOp l
  rcases Nat.lt_or_ge (l.filter okOp).length l.length with h2 | h2
  · exact h2
  · have h3 := List.length_filter_eq_length_iff.1 (Nat.le_antisymm h1 h2) o ho
    simp [h3] at hb
theorem filter_ok (l : List OpV) : ∀ o, o ∈ l.filter okOp → okOp o = true := fun o ho => (List.mem_filter.1 ho).2
theorem any_of_ok {l : List OpV} (h : ∀ o, o ∈ l → okOp o = true) : l.any (fun o => !okOp o) = false := by
  rw [List.any_eq_false]
  intro o ho
  simp [h o ho]

set_option maxRecDepth 100000 in
set_option maxHeartbeats 4000000 in
theorem lazyPlays_walk (v : Value) (l : List ActV) (w : World) (S : Nat → Prop) (h : Rd S w v l.length (l.flatMap ActV.cells)) (hS : ∀ i, S i → i < w.heap.size)
    (hA : ∀ x, x ∈ l → (∃ a n c, x.v = .slice a n c) ∧ Rd S w x.v x.ops.length (flatOp x.ops)) :
    Calls Try.prog 9 #[v] w (RetTrue w) := by
  obtain ⟨a0, c0, rfl, h1, h3, h4, h5⟩ := id h
  have hlen : l.length ≤ 9223372036854775807 := by unfold maxLen at h3; omega
  clear h1 h3 h4 h5
  have H := Lib.hid h; clear h
  have HA := Lib.hid hA; clear hA
  go_enter Try.func9, Try.ntmps9
  go_wp2_with fail
  refine (q_new _).mono ?_
  rintro e w1 ⟨b, rfl, hq, hk⟩
  have HQ1 := Lib.hid hq; clear hq
  have HB1 := Lib.hid hk.below; clear hk
  go_wp2_with fail
  refine (awake14 _).mono ?_
  rintro e w2 ⟨rfl, hk⟩
  have HB2 := Lib.hid (HB1.out.trans (hk.mono HB1.out.size))
  have HP2 := Lib.hid (show Pair w.heap.size w2 b (New w w1) Nope none 0 0 [] [] from ⟨HQ1.out.keep (Keep.ofBelow hk) (fun i h1 h2 => by have := h1.2; omega), Own.nil _ _ _ _, fun _ _ f => f, fun i hi => ⟨hi.1, by have := hi.2; have := hk.size; omega⟩, fun _ f => f.elim⟩)
  clear hk
  go_wp2_with fail
  go_loopg [4, 5] l.length (fun g v4 v5 wr => LoopLP w b l.length g v4 v5 wr)
  case atStart => exact ⟨0, [], _, _, none, 0, 0, rfl, by omega, rfl, rfl, rfl, by simp, (fun o ho => by cases ho), HP2.out, HB2.out⟩
  case round =>
    obtain ⟨k, cur, Fq, Fw, a, n, c, hk, hk30, rfl, rfl, hn, hcl, hok, hp, hb⟩ := hrel
    have hkl : k ≤ l.length := by omega
    have HK := Lib.hid hk; clear hk
    have HN := Lib.hid hn
    have hn21 : n ≤ 2100 := by omega
    clear hn
    have HOK := Lib.hid hok; clear hok
    have HP := Lib.hid hp; clear hp
    have HB := Lib.hid hb; clear hb
    have hsz := HB.out.size
    by_cases hlt : k < l.length ∧ k < 30
    · obtain ⟨hlt, hlt3⟩ := hlt
      obtain ⟨x, hx⟩ : ∃ x, l[k]? = some x := ⟨_, List.getElem?_eq_getElem hlt⟩
      obtain ⟨bo, oo, rfl, hbo, hco⟩ := (H.out.below HB.out hS).elem (cells := ActV.cells) (size := 2) (fun _ => rfl) (by decide) hx
      have hc0 := hco 0 (by decide)
      have hc1 := hco 1 (by decide)
      clear hco
      obtain ⟨⟨ax, nx, cx, hvx⟩, hrx⟩ := HA.out x (List.mem_of_getElem? hx)
      clear hx
      obtain ⟨kd, vx, ops⟩ := x
      simp only at hvx hrx
      subst hvx
      simp [ActV.cells] at hc0 hc1
      have hnx : nx = ops.length := by obtain ⟨_, _, e, _⟩ := hrx; injection e with _ e _
      subst hnx
      have HRX := Lib.hid hrx; clear hrx
      by_cases hbig : 40 < ops.length
      · have hbig' : (40 : Int) < ops.length := by omega
        go_wp2_with fail
        go_ret
        exact ⟨rfl, HB.out⟩
      · have hol : ops.length ≤ 40 := by omega
        clear hbig
        go_wp2_with fail
        refine (good_op _ ops _ S (HRX.out.below HB.out hS) (fun i hi => by have := hS i hi; omega) (by omega)).mono ?_
        rintro e w3 ⟨ag, ng, cg, rfl, ho, hk3⟩
        have hng := ho.len
        rw [flatOp_len] at hng
        have hng' : ng = (ops.filter okOp).length := by omega
        have HNG := Lib.hid hng'
        have hngl : ng ≤ ops.length := by rw [hng']; exact List.length_filter_le _ _
        clear hng hng'
        have HG := Lib.hid ho; clear ho
        have HP3 := Lib.hid (HP.out.keep hk3)
        have HB3 := Lib.hid (HB.out.trans (hk3.belowAt (B := w.heap.size) (fun i h => h.elim) hsz))
        have d0 := (World.cell?_of_block (hk3.block bo (by have := hS bo hbo; omega) (fun f => f))).trans hc0
        have d1 := (World.cell?_of_block (hk3.block bo (by have := hS bo hbo; omega) (fun f => f))).trans hc1
        have hs3 := hk3.size
        clear hk3 hc0 hc1
        go_upto_block 2 with (fail)
        go_cut [4] (fun v4 wx => ActLP w b k v4 wx)
        case first =>
          have HRX3 := Lib.hid (HRX.out.below HB3.out hS)
          have hsz3 := HB3.out.size
          by_cases kd0 : kd = 0
          · subst kd0
            cases hany : ops.any (fun o => !okOp o)
            · have he := filter_all hany
              have hngo : ng = ops.length := by rw [HNG.out, he]
              subst hngo
              have HANY := Lib.hid hany; clear hany
              have HE := Lib.hid he; clear he
              go_wp2_with fail
              refine (q_add Fq S b cur ops _ _ HP3.out.q HRX3.out HANY.out (by have := HN.out; omega)).mono ?_
              rintro e w4 ⟨rfl, hq4, hk4⟩
              have HP4 := Lib.hid (HP3.out.setq hsz3 hk4 (fun i h => h) hq4)
              have HB4 := Lib.hid (HB3.out.trans (hk4.belowAt (B := w.heap.size) (fun i h => (HP3.out.bq i h).1) hsz3))
              have hs4 := hk4.size
              have HG4 := Lib.hid (HG.out.keep hk4 (fun i h1 h2 => by have := h1.1; have := (HP.out.bq i h2).2; omega))
              clear hq4 hk4
              go_wp2_with (at_builtin; refine wpList_app (P := Try.prog) slOp rfl _ _ rfl (S := Fw) (S2 := New wr w3) (n := n) (xs := flatOp cur) (m := ops.length) (news := flatOp (ops.filter okOp)) rfl rfl ?hown ?hx ?hl ?h1 ?h2 ?h3 ?_)
              case hown => exact HP4.out.o
              case hx => exact HG4.out.rd
              case hl => rw [flatOp_len, HE.out]
              case h1 => exact flatOp_one _
              case h2 => omega
              case h3 => unfold maxLen; omega
              rintro a' k' c' w5 ⟨ho, hnum, hk5, _⟩
              have hsz4 := HB4.out.size
              have HP5 := Lib.hid (HP4.out.seto (y' := cur ++ ops) hsz4 hk5 (fun i h => h) (by rw [flatOp_app]; have := ho; rw [HE.out] at this; exact this))
              have HB5 := Lib.hid (HB4.out.trans (hk5.belowAt (B := w.heap.size) (fun i h => (HP4.out.bw i h).1) hsz4))
              have HNum := Lib.hid hnum
              clear ho hk5 hnum
              go_wp2_with fail
              go_meet
              case rel => exact ⟨cur ++ ops, _, _, _, _, _, rfl, by rw [List.length_append, HNum.out, HN.out], by rw [List.length_append]; omega, fun o ho => (List.mem_append.1 ho).elim (HOK.out o) (fun h => by have := List.any_eq_false.1 HANY.out o h; simpa using this), HP5.out, HB5.out⟩
            · have hs := filter_short hany
              have hngo : ng < ops.length := by rw [HNG.out]; exact hs
              have hne : ((ng : Int) == (ops.length : Int)) = false := beq_eq_false_iff_ne.2 (by omega)
              have HANY := Lib.hid hany; clear hany hs
              go_wp2_with fail
              refine (q_add_bad Fq S b cur ops _ _ HP3.out.q HRX3.out HANY.out).mono ?_
              rintro e w4 ⟨rfl, hk4⟩
              have HP4 := Lib.hid (HP3.out.keep hk4)
              have HB4 := Lib.hid (HB3.out.trans (hk4.belowAt (B := w.heap.size) (fun i h => h.elim) hsz3))
              clear hk4
              go_wp2_with fail
              go_meet
              case rel => exact ⟨cur, _, _, _, _, _, rfl, HN.out, by omega, HOK.out, HP4.out, HB4.out⟩
          · have kd0' : (kd == 0) = false := beq_eq_false_iff_ne.2 kd0
            by_cases kd1 : kd = 1
            · subst kd1
              go_wp2_with fail
              refine (q_drain Fq b cur _ HP3.out.q).mono ?_
              rintro e w4 ⟨ad, nd, cd, rfl, hod, hnd, hq4, hrow, hk4⟩
              have hFb : Fq b := by obtain ⟨_, _, _, _, h, _⟩ := HP3.out.q; exact h
              have HP4 := Lib.hid (HP3.out.setq hsz3 (hk4.mono (T := Fq) (fun i h => .inl (by rw [h]; exact hFb))) (fun i (h : i = b) => .inl (by rw [h]; exact hFb)) hq4)
              have HB4 := Lib.hid (HB3.out.trans (hk4.belowAt (B := w.heap.size) (fun i h => by rw [h]; exact (HP3.out.bq b hFb).1) hsz3))
              subst hnd
              have HOD := Lib.hid hod.rd
              clear hod hq4 hrow hk4 hFb
              have HRW := Lib.hid (show Rd Fw w4 (.slice a n c) cur.length (flatOp cur) from HN.out ▸ HP4.out.o.rd)
              go_wp2_with fail
              refine (same_ops _ _ cur _ _ _ HOD.out HRW.out).mono ?_
              rintro e w5 ⟨rfl, hk5⟩
              have HP5 := Lib.hid (HP4.out.keep hk5)
              have HB5 := Lib.hid (HB4.out.trans (hk5.belowAt (B := w.heap.size) (fun i h => h.elim) HB4.out.size))
              clear hk5
              go_wp2_with fail
              go_meet
              case rel => exact ⟨[], _, Nope, none, 0, 0, rfl, rfl, by simp, (fun o ho => by cases ho), ⟨HP5.out.q, Own.nil _ _ _ _, fun _ _ f => f, HP5.out.bq, fun _ f => f.elim⟩, HB5.out⟩
            · have kd1' : (kd == 1) = false := beq_eq_false_iff_ne.2 kd1
              by_cases kd2 : kd = 2
              · subst kd2
                go_wp2_with fail
                refine (q_new _).mono ?_
                rintro e w4 ⟨bq, rfl, hq4, hk4⟩
                have HP4 := Lib.hid (HP3.out.keep hk4)
                have HB4 := Lib.hid (HB3.out.trans (hk4.belowAt (B := w.heap.size) (fun i h => h.elim) hsz3))
                have HQ4 := Lib.hid hq4
                have hs4 := hk4.size
                have HG4 := Lib.hid (HG.out.keep hk4 (fun _ _ f => f))
                have HNE := Lib.hid (show bq ≠ b from fun e => by obtain ⟨_, _, _, _, h, _⟩ := hq4; have := h.1; have := (HP3.out.bq b HP3.out.self).2; omega)
                clear hq4 hk4
                have hsz4 := HB4.out.size
                go_wp2_with fail
                refine (q_add (New w3 w4) (New wr w3) bq [] (ops.filter okOp) _ _ HQ4.out (HNG.out ▸ HG4.out.rd) (any_of_ok (filter_ok ops)) (by have := HNG.out; simp; omega)).mono ?_
                rintro e w5 ⟨rfl, hq5, hk5⟩
                have hs5 := hk5.size
                have HP5 := Lib.hid (HP4.out.keepT hk5 (fun i h1 h2 => by have := (HP3.out.bq i h1).2; have := h2.1; omega) (fun i h1 h2 => by have := (HP3.out.bw i h1).2; have := h2.1; omega))
                have HB5 := Lib.hid (HB4.out.trans (hk5.belowAt (B := w.heap.size) (fun i h => by have := h.1; omega) hsz4))
                have HG5 := Lib.hid (HG4.out.keep hk5 (fun i h1 h2 => by have := h1.2; have := h2.1; omega))
                have HQ5 := Lib.hid hq5
                clear hq5 hk5
                have hsz5 := HB5.out.size
                go_wp2_with fail
                have K6 : Keep w5 (w5.alloc (.cells #[.pointer (some ⟨bq, 0, none⟩), .pointer none] 46)) Nope := (Keep.refl w5 Nope).alloc _
                have HQS : Qs [b, bq] (fun x i => (x = b ∧ Fq i) ∨ (x = bq ∧ (New w3 w4 i ∨ New w4 w5 i))) (w5.alloc (.cells #[.pointer (some ⟨bq, 0, none⟩), .pointer none] 46)) (fun x => if x = b then cur else ops.filter okOp) := by
                  refine ⟨fun x hx => ?_, fun x y hx hy hne i h1 h2 => ?_, fun x hx i hi => ?_, fun x hx o ho => ?_⟩
                  · rcases List.mem_cons.1 hx with rfl | hx
                    · simp only [if_true]
                      exact (HP5.out.keep K6).q.mono (fun i h => .inl ⟨by trivial, h⟩)
                    · obtain rfl : x = bq := by simpa using hx
                      rw [if_neg HNE.out]
                      have := HQ5.out.keep K6 (fun _ _ f => f)
                      rw [List.nil_append] at this
                      exact this.mono (fun i h => .inr ⟨rfl, h⟩)
                  · rcases h1 with ⟨rfl, h1⟩ | ⟨rfl, h1⟩
                    · rcases h2 with ⟨rfl, h2⟩ | ⟨rfl, h2⟩
                      · exact hne rfl
                      · have := (HP3.out.bq i h1).2
                        rcases h2 with h2 | h2 <;> (have := h2.1; omega)
                    · rcases h2 with ⟨rfl, h2⟩ | ⟨rfl, h2⟩
                      · have := (HP3.out.bq i h2).2
                        rcases h1 with h1 | h1 <;> (have := h1.1; omega)
                      · exact hne rfl
                  · rcases hi with ⟨_, hi⟩ | ⟨_, hi⟩
                    · have := (HP3.out.bq i hi).2; simp; omega
                    · rcases hi with hi | hi <;> (have := hi.2; simp; omega)
                  · by_cases e : x = b
                    · rw [if_pos e] at ho; exact HOK.out o ho
                    · rw [if_neg e] at ho; exact filter_ok ops o ho
                have HALL : allOf (fun x => if x = b then cur else ops.filter okOp) [some bq, none] = ops.filter okOp := by simp [allOf, HNE.out]
                have RP := (Own.lit (S := fun i => i = w5.heap.size) w5 46 1 2 #[.pointer (some ⟨bq, 0, none⟩), .pointer none] (by decide) rfl rfl).rd
                refine (q_join [b, bq] _ (fun i => i = w5.heap.size) b [some bq, none] _ _ _ HQS (by simp) (by simp) RP (fun x hx i h1 h2 => ?_) (fun i h => by simp; omega)).mono ?_
                · subst h2
                  rcases h1 with ⟨_, h1⟩ | ⟨_, h1⟩
                  · have := (HP3.out.bq _ h1).2; omega
                  · rcases h1 with h1 | h1 <;> (have := h1.2; omega)
                rintro e w6 (⟨_, rfl, ⟨FS', hqs, hfs⟩, hk6⟩ | ⟨hbad, _⟩)
                rotate_left
                · exfalso
                  rw [HALL] at hbad
                  simp at hbad
                  have := HNG.out
                  have := HN.out
                  omega
                have hk6' := (K6.mono (T := fun i => Fq i ∨ New w3 w5 i) (fun i f => f.elim)).trans (hk6.mono (T := fun i => Fq i ∨ New w3 w5 i) (fun i hi => by
                  obtain ⟨x, hx, h1 | h1⟩ := hi
                  · exact .inl (.inl h1.2)
                  · exact .inl (.inr (h1.2.elim (fun h => ⟨h.1, by have := h.2; omega⟩) (fun h => ⟨by have := h.1; omega, h.2⟩))))) (fun i h => .inl h)
                have hs6 := hk6'.size
                have hqb := hqs.q b (by simp)
                have hqq := hqs.q bq (by simp)
                simp only [HALL, if_true] at hqb
                rw [if_neg HNE.out, if_pos (by simp)] at hqq
                have HF := Lib.hid (show ∀ i, FS' b i → Fq i ∨ New w5 w6 i from fun i hi => (hfs b i hi).elim (fun h => h.elim (fun h => .inl h.2) (fun h => (HNE.out h.1.symm).elim)) (fun h => .inr ⟨by have := h.1; simp at this; omega, h.2⟩))
                have HP6 := Lib.hid (show Pair w.heap.size w6 b (FS' b) Fw a n c (cur ++ ops.filter okOp) cur from
                  ⟨hqb, HP5.out.o.keep hk6' (fun i h1 h2 => h2.elim (fun h => HP3.out.d i h h1) (fun h => by have := (HP3.out.bw i h1).2; have := h.1; omega)),
                    fun i h1 h2 => (HF.out i h1).elim (fun h => HP3.out.d i h h2) (fun h => by have := (HP3.out.bw i h2).2; have := h.1; omega),
                    fun i h1 => (HF.out i h1).elim (fun h => ⟨(HP3.out.bq i h).1, by have := (HP3.out.bq i h).2; omega⟩) (fun h => ⟨by have := h.1; omega, h.2⟩),
                    fun i h => ⟨(HP3.out.bw i h).1, by have := (HP3.out.bw i h).2; omega⟩⟩)
                have HQ6 := Lib.hid hqq
                have HG6 := Lib.hid (HG5.out.keep hk6' (fun i h1 h2 => h2.elim (fun h => by have := (HP.out.bq i h).2; have := h1.1; omega) (fun h => by have := h1.2; have := h.1; omega)))
                have HB6 := Lib.hid (HB5.out.trans (hk6'.belowAt (B := w.heap.size) (fun i h => h.elim (fun h => (HP3.out.bq i h).1) (fun h => by have := h.1; omega)) hsz5))
                clear hqs hfs hk6 hk6' hqb hqq K6 HQS RP HALL
                have hsz6 := HB6.out.size
                go_wp2_with fail
                refine (q_len _ bq [] _ HQ6.out).mono ?_
                rintro e w7 ⟨rfl, rfl⟩
                go_wp2_with (at_builtin; refine wpList_app (P := Try.prog) slOp rfl _ _ rfl (S := Fw) (S2 := New wr w3) (n := n) (xs := flatOp cur) (m := ng) (news := flatOp (ops.filter okOp)) rfl rfl ?hown ?hx ?hl ?h1 ?h2 ?h3 ?_)
                case hown => exact HP6.out.o
                case hx => exact HG6.out.rd
                case hl => rw [flatOp_len, HNG.out]
                case h1 => exact flatOp_one _
                case h2 => omega
                case h3 => unfold maxLen; omega
                rintro a' k' c' w8 ⟨ho, hnum, hk8, _⟩
                have HP8 := Lib.hid (HP6.out.seto (y' := cur ++ ops.filter okOp) hsz6 hk8 (fun i h => h) (by rw [flatOp_app]; exact ho))
                have HB8 := Lib.hid (HB6.out.trans (hk8.belowAt (B := w.heap.size) (fun i h => (HP3.out.bw i h).1) hsz6))
                have HNum := Lib.hid hnum
                clear ho hk8 hnum
                go_wp2_with fail
                go_meet
                case rel => exact ⟨cur ++ ops.filter okOp, _, _, _, _, _, rfl, by rw [List.length_append, HNum.out, HN.out, HNG.out], by rw [List.length_append, ← HNG.out]; omega, fun o ho => (List.mem_append.1 ho).elim (HOK.out o) (fun h => filter_ok ops o h), HP8.out, HB8.out⟩
              · have kd2' : (kd == 2) = false := beq_eq_false_iff_ne.2 kd2
                by_cases hn300 : 300 < n
                · have hn300' : (300 : Int) < n := by omega
                  go_wp2_with fail
                  go_roundg (l.length - (k + 1))
                  case measure => have := HK.out; omega
                  case rel => exact ⟨k + 1, cur, Fq, Fw, a, n, c, by omega, by omega, by go_num, rfl, HN.out, by omega, HOK.out, HP3.out, HB3.out⟩
                · have hn300' : ¬ (300 : Int) < n := by omega
                  go_wp2_with fail
                  have K4 : Keep w3 (w3.alloc (.cells #[.pointer (some ⟨b, 0, none⟩), .pointer (some ⟨b, 0, none⟩)] 46)) Nope := (Keep.refl w3 Nope).alloc _
                  have HP4 := Lib.hid (HP3.out.keep K4)
                  have HB4 := Lib.hid (HB3.out.trans (K4.belowAt (B := w.heap.size) (fun i h => h.elim) hsz3))
                  have HQS : Qs [b] (fun _ i => Fq i) (w3.alloc (.cells #[.pointer (some ⟨b, 0, none⟩), .pointer (some ⟨b, 0, none⟩)] 46)) (fun _ => cur) := by
                    refine ⟨fun x hx => ?_, fun x y hx hy hne i h1 h2 => ?_, fun x hx i hi => (HP4.out.bq i hi).2, fun x hx o ho => HOK.out o ho⟩
                    · obtain rfl : x = b := by simpa using hx
                      exact HP4.out.q
                    · obtain rfl : x = b := by simpa using hx
                      obtain rfl : y = x := by simpa using hy
                      exact hne rfl
                  have RP := (Own.lit (S := fun i => i = w3.heap.size) w3 46 1 2 #[.pointer (some ⟨b, 0, none⟩), .pointer (some ⟨b, 0, none⟩)] (by decide) rfl rfl).rd
                  refine (q_join [b] _ (fun i => i = w3.heap.size) b [some b, some b] _ _ _ HQS (by simp) (by simp) RP (fun x hx i h1 h2 => ?_) (fun i h => by simp; omega)).mono ?_
                  · have := (HP3.out.bq i h1).2; omega
                  rintro e w6 (⟨_, rfl, ⟨FS', hqs, hfs⟩, hk6⟩ | ⟨hbad, _⟩)
                  rotate_left
                  · exfalso
                    simp [allOf] at hbad
                    have := HN.out
                    omega
                  have hs6 := hk6.size
                  have hqb := hqs.q b (by simp)
                  simp only [allOf, List.flatMap_cons, List.flatMap_nil, Option.elim_some, List.append_nil, if_true] at hqb
                  have HF := Lib.hid (show ∀ i, FS' b i → Fq i ∨ New (w3.alloc (.cells #[.pointer (some ⟨b, 0, none⟩), .pointer (some ⟨b, 0, none⟩)] 46)) w6 i from hfs b)
                  have hk6' : Keep (w3.alloc (.cells #[.pointer (some ⟨b, 0, none⟩), .pointer (some ⟨b, 0, none⟩)] 46)) w6 Fq := hk6.mono (fun i h => by obtain ⟨x, _, h⟩ := h; exact .inl h)
                  have HP6 := Lib.hid (HP4.out.setq HB4.out.size hk6' HF.out hqb)
                  have HB6 := Lib.hid (HB4.out.trans (hk6'.belowAt (B := w.heap.size) (fun i h => (HP3.out.bq i h).1) HB4.out.size))
                  clear hqs hfs hk6 hk6' hqb K4 HQS RP
                  have hsz6 := HB6.out.size
                  go_wp2_with (at_builtin; refine wpList_app (P := Try.prog) slOp rfl _ _ rfl (S := fun i => w6.heap.size ≤ i) (S2 := Fw) (n := 0) (xs := []) (m := n) (news := flatOp cur) rfl rfl ?hown ?hx ?hl ?h1 ?h2 ?h3 ?_)
                  case hown => exact Own.lit w6 _ 7 0 #[] (Nat.zero_le _) rfl (Nat.le_refl _)
                  case hx => exact HP6.out.o.rd.alloc _
                  case hl => rw [flatOp_len, HN.out]
                  case h1 => exact flatOp_one _
                  case h2 => omega
                  case h3 => unfold maxLen; omega
                  rintro a' k1 c' w7 ⟨ho1, hnum1, hk7, _⟩
                  have hk67 : Keep w6 w7 Nope := (Keep.alloc (Keep.refl w6 Nope) _).trans hk7 (fun i h => .inr h)
                  have HP7 := Lib.hid (HP6.out.keep hk67)
                  have HB7 := Lib.hid (HB6.out.trans (hk67.belowAt (B := w.heap.size) (fun i h => h.elim) hsz6))
                  have HO7 := Lib.hid ((ho1.mono (T := fun i => w6.heap.size ≤ i) (fun i h => h.elim id (fun h => by have := h.1; simp at this; omega))).new)
                  have hs7 := hk67.size
                  have hk1n : k1 = n := by omega
                  clear ho1 hk7 hk67 hnum1
                  subst hk1n
                  have hsz7 := HB7.out.size
                  go_wp2_with (at_builtin; refine wpList_app (P := Try.prog) slOp rfl _ _ rfl (S := New w6 w7) (S2 := Fw) (n := k1) (xs := [] ++ flatOp cur) (m := k1) (news := flatOp cur) rfl rfl ?hown ?hx ?hl ?h1 ?h2 ?h3 ?_)
                  case hown => exact HO7.out
                  case hx => exact HP7.out.o.rd
                  case hl => rw [flatOp_len, HN.out]
                  case h1 => exact flatOp_one _
                  case h2 => omega
                  case h3 => unfold maxLen; omega
                  rintro a'' k2 c'' w8 ⟨ho2, hnum2, hk8, _⟩
                  have HP8 := Lib.hid (HP7.out.keepT hk8 (fun i h1 h2 => by have := (HP6.out.bq i h1).2; have := h2.1; omega) (fun i h1 h2 => by have := (HP6.out.bw i h1).2; have := h2.1; omega))
                  have HB8 := Lib.hid (HB7.out.trans (hk8.belowAt (B := w.heap.size) (fun i h => by have := h.1; omega) hsz7))
                  have hs8 := hk8.size
                  have HO8 := Lib.hid (ho2.mono (T := New w6 w8) (fun i h => h.elim (fun h => ⟨h.1, by have := h.2; omega⟩) (fun h => ⟨by have := h.1; omega, h.2⟩)))
                  have hk2b : k2 ≤ 600 := by omega
                  have HNum2 := Lib.hid hnum2
                  clear ho2 hk8 hnum2
                  have hsz8 := HB8.out.size
                  go_wp2_with (at_builtin; refine wpList_app (P := Try.prog) slOp rfl _ _ rfl (S := New w6 w8) (S2 := Fw) (n := k2) (xs := [] ++ flatOp cur ++ flatOp cur) (m := k1) (news := flatOp cur) rfl rfl ?hown ?hx ?hl ?h1 ?h2 ?h3 ?_)
                  case hown => exact HO8.out
                  case hx => exact HP8.out.o.rd
                  case hl => rw [flatOp_len, HN.out]
                  case h1 => exact flatOp_one _
                  case h2 => omega
                  case h3 => unfold maxLen; omega
                  rintro a3 k3 c3 w9 ⟨ho3, hnum3, hk9, _⟩
                  have hs9 := hk9.size
                  have HP9 := Lib.hid (show Pair w.heap.size w9 b (FS' b) (New w6 w9) a3 k3 c3 (cur ++ (cur ++ cur)) (cur ++ (cur ++ cur)) from
                    ⟨HP8.out.q.keep hk9 (fun i h1 h2 => by have := (HP6.out.bq i h1).2; have := h2.1; omega), by
                      have := ho3.mono (T := New w6 w9) (fun i h => h.elim (fun h => ⟨h.1, by have := h.2; omega⟩) (fun h => ⟨by have := h.1; omega, h.2⟩))
                      rw [flatOp_app, flatOp_app]
                      simpa using this,
                      fun i h1 h2 => by have := (HP6.out.bq i h1).2; have := h2.1; omega, fun i h => ⟨(HP8.out.bq i h).1, by have := (HP8.out.bq i h).2; omega⟩, fun i h => ⟨by have := h.1; omega, h.2⟩⟩)
                  have HB9 := Lib.hid (HB8.out.trans (hk9.belowAt (B := w.heap.size) (fun i h => by have := h.1; omega) hsz8))
                  have HNum3 := Lib.hid hnum3
                  clear ho3 hk9 hnum3
                  go_wp2_with fail
                  go_meet
                  case rel => exact ⟨cur ++ (cur ++ cur), _, _, _, _, _, rfl, by have := HNum3.out; have := HNum2.out; have := HN.out; simp; omega, by have := HN.out; simp; omega, fun o ho => by simp at ho; exact HOK.out o ho, HP9.out, HB9.out⟩
        case rest =>
          obtain ⟨cur2, Fq2, Fw2, a2, n2, c2, rfl, hn2, hl2, hok2, hp2, hb2⟩ := hcut
          clear HP HB HP3 HB3 HG HRX HN HOK HNG
          have HN2 := Lib.hid hn2; clear hn2
          have HOK2 := Lib.hid hok2; clear hok2
          have HPP := Lib.hid hp2; clear hp2
          have HBB := Lib.hid hb2; clear hb2
          have hszB := HBB.out.size
          have hn2' : n2 = cur2.length := HN2.out
          subst hn2'
          go_wp2_with fail
          refine (q_len Fq2 b cur2 _ HPP.out.q).mono ?_
          rintro e w6 ⟨rfl, rfl⟩
          go_wp2_with fail
          refine (q_all Fq2 b cur2 _ HPP.out.q).mono ?_
          rintro e w7 ⟨a7, n7, c7, rfl, ho7, hk7⟩
          have hn7 := ho7.len
          rw [flatOp_len] at hn7
          have hn7' : n7 = cur2.length := by omega
          subst hn7'
          clear hn7
          have HO7 := Lib.hid ho7.rd
          have HPP7 := Lib.hid (HPP.out.keep hk7)
          have HBB7 := Lib.hid (HBB.out.trans (hk7.belowAt (B := w.heap.size) (fun i h => h.elim) hszB))
          clear ho7 hk7
          go_wp2_with fail
          refine (same_ops _ _ cur2 _ _ _ HO7.out HPP7.out.o.rd).mono ?_
          rintro e w8 ⟨rfl, hk8⟩
          have HPP8 := Lib.hid (HPP7.out.keep hk8)
          have HBB8 := Lib.hid (HBB7.out.trans (hk8.belowAt (B := w.heap.size) (fun i h => h.elim) HBB7.out.size))
          clear hk8
          go_wp2_with fail
          go_roundg (l.length - (k + 1))
          case measure => have := HK.out; omega
          case rel => exact ⟨k + 1, cur2, Fq2, Fw2, a2, _, c2, by omega, by omega, by go_num, rfl, rfl, hl2, HOK2.out, HPP8.out, HBB8.out⟩
    · go_wp2_with fail
      all_goals
        go_ret
        exact ⟨rfl, HB.out⟩
end Go.Proofs.Ytnadfefjmoibeaa
