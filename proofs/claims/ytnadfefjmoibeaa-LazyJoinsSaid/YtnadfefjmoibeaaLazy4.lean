/-
  The queue's Join, and the laws' own helpers.
-/
import Derived.Test.YtnadfefjmoibeaaLazy3
namespace Go.Proofs.Ytnadfefjmoibeaa
open Go Go.RowKit

theorem neq_op (w : World) (o : OpV) : (binOp .neq 45 o.val o.val).run Try.prog w = .ok (.bool false) w := by
  obtain ⟨kind, hi, hg, c, vk, va, vb⟩ := o
  simp only [OpV.val, binOp, Op.equal, Op.maxDepth]
  rw [show (10000 : Nat) = 9997 + 3 from rfl]
  simp [go_sem, run_equalIn_struct]

set_option maxHeartbeats 1000000 in
theorem same_ops (v v2 : Value) (l : List OpV) (w : World) (S S2 : Nat → Prop) (h : Rd S w v l.length (flatOp l)) (h2 : Rd S2 w v2 l.length (flatOp l)) :
    Calls Try.prog 26 #[v, v2] w (Ret w (.bool true)) := by
  obtain ⟨a, c, rfl, g1, g2, g3, g4⟩ := id h
  have hlen : l.length ≤ 9223372036854775807 := by unfold maxLen at g2; omega
  clear g1 g2 g3 g4
  obtain ⟨a2, c2, rfl, g1, g2, g3, g4⟩ := id h2
  clear g1 g2 g3 g4
  have H := Lib.hid h; clear h
  have H2 := Lib.hid h2; clear h2
  go_enter Try.func26, Try.ntmps26
  go_wp2_with fail
  go_loopg [5] l.length (fun g v5 wr => ∃ k q : Nat, g + k = l.length ∧ v5 = .int .i64 k ∧ wr = w.drewN q)
  case atStart => exact ⟨0, 0, rfl, rfl, rfl⟩
  case round =>
    obtain ⟨k, q, hk, rfl, rfl⟩ := hrel
    have hkl : k ≤ l.length := by omega
    have HK := Lib.hid hk; clear hk
    by_cases hlt : k < l.length
    · obtain ⟨o, ho⟩ : ∃ o, l[k]? = some o := ⟨_, List.getElem?_eq_getElem hlt⟩
      obtain ⟨bo, oo, rfl, hbo, hco⟩ := H.out.elem (cells := OpV.cells) (size := 7) (fun _ => rfl) (by decide) ho
      obtain ⟨bo2, oo2, rfl, hbo2, hco2⟩ := H2.out.elem (cells := OpV.cells) (size := 7) (fun _ => rfl) (by decide) ho
      clear ho
      have hneq := fun w => neq_op w o
      obtain ⟨kind, hi, hg, c', vk, va, vb⟩ := o
      have hc0 := hco 0 (by decide)
      have hc1 := hco 1 (by decide)
      have hc2 := hco 2 (by decide)
      have hc3 := hco 3 (by decide)
      have hc4 := hco 4 (by decide)
      have hc5 := hco 5 (by decide)
      have hc6 := hco 6 (by decide)
      have hd0 := hco2 0 (by decide)
      have hd1 := hco2 1 (by decide)
      have hd2 := hco2 2 (by decide)
      have hd3 := hco2 3 (by decide)
      have hd4 := hco2 4 (by decide)
      have hd5 := hco2 5 (by decide)
      have hd6 := hco2 6 (by decide)
      simp [OpV.cells] at hc0 hc1 hc2 hc3 hc4 hc5 hc6 hd0 hd1 hd2 hd3 hd4 hd5 hd6
      clear hco hco2
      simp only [OpV.val] at hneq
      go_wp2_with fail
      go_quiet (fail)
      go_wp2_with fail
      go_roundg (l.length - (k + 1))
      case measure => have := HK.out; omega
      case rel => exact ⟨k + 1, _, by omega, by go_num, rfl⟩
    · go_wp2_with fail
      go_ret
      exact ⟨rfl, (Keep.refl _ _).drewN q⟩

/-- The loop of 'good': what has been taken. -/
def LoopGood (w : World) (l : List OpV) (g : Nat) (v3 v4 : Value) (wr : World) : Prop :=
  ∃ (k n : Nat) (a : Option Addr) (c : Nat), g + k = l.length ∧ v4 = .int .i64 k ∧ v3 = .slice a n c ∧ n ≤ k ∧ Own (New w wr) wr 45 7 (.slice a n c) n (flatOp ((l.take k).filter okOp)) ∧ Keep w wr Nope

set_option maxHeartbeats 1000000 in
theorem good_op (v : Value) (l : List OpV) (w : World) (S : Nat → Prop) (h : Rd S w v l.length (flatOp l)) (hS : ∀ i, S i → i < w.heap.size) (hb : l.length * 56 ≤ 140737488355328) :
    Calls Try.prog 25 #[v] w (RetOwn w 45 7 (flatOp (l.filter okOp))) := by
  obtain ⟨a, c, rfl, g1, g2, g3, g4⟩ := id h
  clear g1 g2 g3 g4
  have H := Lib.hid h; clear h
  go_enter Try.func25, Try.ntmps25
  go_wp2_with fail
  go_loopg [3, 4] l.length (fun g v3 v4 wr => LoopGood w l g v3 v4 wr)
  case atStart => exact ⟨0, 0, none, 0, rfl, rfl, rfl, Nat.le_refl _, Own.nil _ _ _ _, Keep.refl _ _⟩
  case round =>
    obtain ⟨k, n, a3, c3, hk, rfl, rfl, hn, ho, hkeep⟩ := hrel
    have hkl : k ≤ l.length := by omega
    have HK := Lib.hid hk; clear hk
    have HO := Lib.hid ho; clear ho
    have HP := Lib.hid hkeep; clear hkeep
    have hsz := HP.out.size
    by_cases hlt : k < l.length
    · obtain ⟨o, ho⟩ : ∃ o, l[k]? = some o := ⟨_, List.getElem?_eq_getElem hlt⟩
      obtain ⟨bo, oo, rfl, hbo, hco⟩ := (H.out.keep HP.out (fun _ _ f => f)).elem (cells := OpV.cells) (size := 7) (fun _ => rfl) (by decide) ho
      have HT := Lib.hid (show l.take (k + 1) = l.take k ++ [o] by rw [List.take_add_one, ho]; rfl)
      clear ho
      have HC := Lib.hid (ref_opok o)
      obtain ⟨ok, hok⟩ : ∃ ok, okOp o = ok := ⟨_, rfl⟩
      rw [hok] at HC
      have HOK := Lib.hid hok; clear hok
      have hlt' : bo < wr.heap.size := by have := hS bo hbo; omega
      have HCO := Lib.hid hco
      obtain ⟨kind, hi, hg, c', vk, va, vb⟩ := o
      have hc0 := hco 0 (by decide)
      have hc1 := hco 1 (by decide)
      have hc2 := hco 2 (by decide)
      have hc3 := hco 3 (by decide)
      have hc4 := hco 4 (by decide)
      have hc5 := hco 5 (by decide)
      have hc6 := hco 6 (by decide)
      simp [OpV.cells] at hc0 hc1 hc2 hc3 hc4 hc5 hc6
      clear hco
      simp only [OpV.val] at HC
      go_wp2_with fail
      refine (HC.out _).mono ?_
      rintro e w1 ⟨rfl, hk1⟩
      have hs1 := hk1.size
      have HO1 := Lib.hid (HO.out.keep hk1 (fun _ _ f => f))
      have HP1 := Lib.hid (HP.out.trans hk1 (fun _ f => f.elim))
      have d0 := hk1.cell hc0 (fun f => f)
      have d1 := hk1.cell hc1 (fun f => f)
      have d2 := hk1.cell hc2 (fun f => f)
      have d3 := hk1.cell hc3 (fun f => f)
      have d4 := hk1.cell hc4 (fun f => f)
      have d5 := hk1.cell hc5 (fun f => f)
      have d6 := hk1.cell hc6 (fun f => f)
      clear hk1 hc0 hc1 hc2 hc3 hc4 hc5 hc6
      cases ok
      · go_wp2_with fail
        go_roundg (l.length - (k + 1))
        case measure => have := HK.out; omega
        case rel =>
          refine ⟨k + 1, n, a3, c3, by omega, by go_num, rfl, by omega, ?_, HP1.out⟩
          rw [HT.out, List.filter_append]
          have e : [(⟨kind, hi, hg, c', vk, va, vb⟩ : OpV)].filter okOp = [] := by simp [HOK.out]
          rw [e, List.append_nil]
          exact HO1.out.mono (fun i h => ⟨h.1, by have := h.2; omega⟩)
      · go_wp2_with (at_builtin; refine wpList_app (P := Try.prog) slOp rfl _ _ rfl (S := New w wr) (S2 := fun i => w1.heap.size ≤ i) (n := n) (xs := flatOp ((l.take k).filter okOp)) (m := 1) (news := flatOp [⟨kind, hi, hg, c', vk, va, vb⟩]) rfl rfl ?hown ?hx rfl ?h1 ?h2 ?h3 ?_)
        case hown => exact HO1.out.alloc _
        case hx => exact (Own.lit w1 _ 7 1 #[.int .i64 kind, .int .i64 hi, .int .i64 hg, .int .i64 c', .int .i64 vk, .int .i64 va, .int .i64 vb] (by decide) rfl (Nat.le_refl _)).rd
        case h1 => exact flatOp_one _
        case h2 => omega
        case h3 => unfold maxLen; omega
        rintro a' k' c2 w2 ⟨ho, hnum, hk2, _⟩
        have hs2 := hk2.size
        simp only [World.size_alloc] at hs2
        have HO2 := Lib.hid (ho.mono (T := New w w2) (fun i h => h.elim (fun h => ⟨h.1, by have := h.2; omega⟩) (fun h => ⟨by have := h.1; simp at this; omega, h.2⟩)))
        have HP2 := Lib.hid ((HP1.out.alloc (.cells #[.int .i64 kind, .int .i64 hi, .int .i64 hg, .int .i64 c', .int .i64 vk, .int .i64 va, .int .i64 vb] 45)).trans hk2 (fun i h => .inr h.1))
        clear ho hk2
        have HN := Lib.hid hnum; clear hnum
        go_wp2_with fail
        go_roundg (l.length - (k + 1))
        case measure => have := HK.out; omega
        case rel =>
          refine ⟨k + 1, k', a', c2, by omega, by go_num, rfl, by have := HN.out; omega, ?_, HP2.out⟩
          rw [HT.out, List.filter_append]
          have e : [(⟨kind, hi, hg, c', vk, va, vb⟩ : OpV)].filter okOp = [⟨kind, hi, hg, c', vk, va, vb⟩] := by simp [HOK.out]
          rw [e, flatOp_app]
          exact HO2.out
    · have hkl' : k = l.length := by omega
      subst hkl'
      have := HO.out
      rw [List.take_length] at this
      have HO' := Lib.hid this; clear this
      go_wp2_with fail
      go_ret
      exact ⟨_, _, _, rfl, HO'.out, HP.out⟩
end Go.Proofs.Ytnadfefjmoibeaa
