/-
  The laws on who comes ahead of whom: what they have in common.
-/
import Derived.Test.YtfjamllkjofdbaaDeps4
namespace Go.Proofs.Ytfjamllkjofdbaa
open Go Go.RowKit
set_option linter.unusedVariables false
set_option linter.unusedSimpArgs false

def LoopSame (w : World) (l : List Int) (g : Nat) (v5 : Value) (wr : World) : Prop := ∃ k q : Nat, g + k = l.length ∧ v5 = .int .i64 k ∧ wr = w.drewN q

set_option maxHeartbeats 1000000 in
theorem same_ints (v v2 : Value) (l : List Int) (w : World) (S S2 : Nat → Prop) (h : Rd S w v l.length (ints l)) (h2 : Rd S2 w v2 l.length (ints l)) :
    Calls Try.prog 15 #[v, v2] w (Ret w (.bool true)) := by
  obtain ⟨a, c, rfl, g1, g2, g3, g4⟩ := id h
  have hlen : l.length ≤ 9223372036854775807 := by unfold maxLen at g2; omega
  clear g1 g2 g3 g4
  obtain ⟨a2, c2, rfl, g1, g2, g3, g4⟩ := id h2
  clear g1 g2 g3 g4
  have H := Lib.hid h; clear h
  have H2 := Lib.hid h2; clear h2
  go_enter Try.func15, Try.ntmps15
  go_wp2_with fail
  go_loopg [5] l.length (fun g v5 wr => LoopSame w l g v5 wr)
  case atStart => exact ⟨0, 0, rfl, rfl, rfl⟩
  case round =>
    obtain ⟨k, q, hk, rfl, rfl⟩ := hrel
    have hkl : k ≤ l.length := by omega
    have HK := Lib.hid hk; clear hk
    by_cases hlt : k < l.length
    · obtain ⟨x, hx⟩ : ∃ x, l[k]? = some x := ⟨_, List.getElem?_eq_getElem hlt⟩
      obtain ⟨bo, oo, ⟨c', hv⟩, _, hc0⟩ := H.out.int hx
      injection hv with hv1 hv2 hv3
      subst hv1; subst hv3
      obtain ⟨bo2, oo2, ⟨c', hv⟩, _, hd0⟩ := H2.out.int hx
      injection hv with hv1 hv2 hv3
      subst hv1; subst hv3
      clear hx
      go_wp2_with fail
      go_quiet (fail)
      go_wp2_with fail
      go_roundg (l.length - (k + 1))
      case measure => have := HK.out; omega
      case rel => exact ⟨k + 1, _, by omega, by go_num, rfl⟩
    · go_wp2_with fail
      go_ret
      exact ⟨rfl, (Keep.refl _ _).drewN q⟩

/-- No words. -/
def nilV : SlV := ⟨none, 0, 0⟩
/-- A system of which only is said for whom it waits. -/
def sysOf (af : SlV) (l : List Int) : SysV := ⟨nilV, nilV, nilV, nilV, false, nilV, nilV, af, l⟩

theorem rd_one (w : World) (x : Int) : Rd (fun i => i = w.heap.size) (w.alloc (.cells #[.int .i64 x] 3)) (.slice (some ⟨w.heap.size, 0, none⟩) 1 1) 1 (ints [x]) :=
  (Own.lit (S := fun i => i = w.heap.size) w 3 1 1 #[.int .i64 x] (by decide) rfl rfl).rd

theorem rd_nil (S : Nat → Prop) (w : World) : Rd S w nilV.v 0 (ints []) := (Own.nil S w 3 1).rd
theorem flatSys_len (l : List SysV) : (l.flatMap SysV.cells).length = l.length * 8 := flat_length SysV.cells 8 (fun _ => rfl) l
/-- A literal of systems. -/
theorem rdsys_lit (w : World) (S : Nat → Prop) (l : List SysV) (n : Nat) (hn : l.length = n) (hm : n ≤ maxLen) (cs : Array Value) (hcs : cs = (l.flatMap SysV.cells).toArray)
    (h : ∀ x, x ∈ l → x.af.n = x.aft.length ∧ Rd S w x.af.v x.aft.length (ints x.aft)) :
    RdSys (fun i => S i ∨ i = w.heap.size) (w.alloc (.cells cs 31)) (.slice (some ⟨w.heap.size, 0, none⟩) n n) l := by
  subst hcs
  subst hn
  refine ⟨?_, fun x hx => ⟨(h x hx).1, ((h x hx).2.alloc _).mono (fun i hi => .inl hi)⟩⟩
  have := (Own.lit (S := fun i => S i ∨ i = w.heap.size) w 31 8 l.length (l.flatMap SysV.cells).toArray hm (by rw [List.size_toArray]; exact flatSys_len l) (.inr rfl)).rd
  simpa using this

set_option maxHeartbeats 2000000 in
theorem awake22 (w : World) : Calls Try.prog 10 #[] w (RetTrue w) := by
  have E2 := Lib.hid (show chk [[1], []] = 0 by decide)
  have E3 := Lib.hid (show ord [[1], []] = [1, 0] by decide)
  have E4 := Lib.hid (show chk [[1], [0]] = 20 by decide)
  have E5 := Lib.hid (show chk [] = 0 by decide)
  go_enter Try.func10, Try.ntmps10
  go_wp2_with fail
  have R1 := rdsys_lit (w.alloc (.cells #[.int .i64 1] 3)) (fun i => i = w.heap.size) [sysOf ⟨some ⟨w.heap.size, 0, none⟩, 1, 1⟩ [1], sysOf nilV []] 2 rfl (by decide) _ rfl (by
    intro x hx
    simp at hx
    rcases hx with rfl | rfl
    · exact ⟨rfl, rd_one w 1⟩
    · exact ⟨rfl, rd_nil _ _⟩)
  simp only [World.size_alloc] at R1
  have HR1 := Lib.hid R1; clear R1
  refine (deps_Order _ _ _ _ HR1.out).mono ?_
  rintro e w1 ⟨ao, no, co, rfl, hk, ho⟩
  rw [show aftsOf [sysOf ⟨some ⟨w.heap.size, 0, none⟩, 1, 1⟩ [1], sysOf nilV []] = [[1], []] from rfl, E2.out, if_pos rfl, E3.out] at ho
  have hno : no = 2 := by have := ho.len; simp [nats, ints] at this; omega
  subst hno
  rw [show aftsOf [sysOf ⟨some ⟨w.heap.size, 0, none⟩, 1, 1⟩ [1], sysOf nilV []] = [[1], []] from rfl, E2.out]
  have HO := Lib.hid ho.rd; clear ho
  have HB := Lib.hid (((Below.refl w.heap.size w).alloc (Nat.le_refl _) (.cells #[.int .i64 1] 3)).trans ((((Keep.refl _ Nope).alloc _).trans hk (fun _ f => f.elim)).belowAt (B := w.heap.size) (fun i h => h.elim) (by simp)))
  clear hk HR1
  go_wp2_with fail
  have R1 := rdsys_lit ((w1.alloc (.cells #[.int .i64 1] 3)).alloc (.cells #[.int .i64 0] 3)) (fun i => i = w1.heap.size ∨ i = w1.heap.size + 1) [sysOf ⟨some ⟨w1.heap.size, 0, none⟩, 1, 1⟩ [1], sysOf ⟨some ⟨w1.heap.size + 1, 0, none⟩, 1, 1⟩ [0]] 2 rfl (by decide) _ rfl (by
    intro x hx
    simp at hx
    rcases hx with rfl | rfl
    · exact ⟨rfl, ((rd_one w1 1).alloc _).mono (fun i hi => .inl hi)⟩
    · have := rd_one (w1.alloc (.cells #[.int .i64 1] 3)) 0
      simp only [World.size_alloc] at this
      exact ⟨rfl, this.mono (fun i hi => .inr hi)⟩)
  simp only [World.size_alloc] at R1
  have HR1 := Lib.hid R1; clear R1
  refine (deps_check _ _ _ _ HR1.out).mono ?_
  rintro e w2 ⟨rfl, hk⟩
  rw [show aftsOf [sysOf ⟨some ⟨w1.heap.size, 0, none⟩, 1, 1⟩ [1], sysOf ⟨some ⟨w1.heap.size + 1, 0, none⟩, 1, 1⟩ [0]] = [[1], [0]] from rfl, E4.out]
  have hk2 := ((((Keep.refl w1 Nope).alloc (.cells #[.int .i64 1] 3)).alloc (.cells #[.int .i64 0] 3)).alloc _).trans hk (fun _ f => f.elim)
  have HO2 := Lib.hid (HO.out.keep hk2 (fun _ _ f => f))
  have HB2 := Lib.hid (HB.out.trans (hk2.belowAt (B := w.heap.size) (fun i h => h.elim) HB.out.size))
  clear hk hk2 HR1 HO HB
  go_wp2_with fail
  refine (same_ints _ _ (nats [1, 0]) _ _ (fun i => i = w2.heap.size) (HO2.out.alloc _) ?s2).mono ?_
  case s2 => exact (Own.lit (S := fun i => i = w2.heap.size) w2 3 1 2 #[.int .i64 1, .int .i64 0] (by decide) rfl rfl).rd
  rintro e w3 ⟨rfl, hk⟩
  have HB3 := Lib.hid (HB2.out.trans ((((Keep.refl w2 Nope).alloc _).trans hk (fun _ f => f.elim)).belowAt (B := w.heap.size) (fun i h => h.elim) HB2.out.size))
  clear hk
  go_wp2_with fail
  refine (deps_check _ [] _ Nope ⟨(Own.nil Nope w3 31 8).rd, by simp⟩).mono ?_
  rintro e w4 ⟨rfl, hk⟩
  rw [show chk (aftsOf []) = 0 from E5.out]
  have HB4 := Lib.hid (HB3.out.trans (hk.belowAt (B := w.heap.size) (fun i h => h.elim) HB3.out.size))
  clear hk
  go_wp2_with fail
  go_ret
  exact ⟨rfl, HB4.out⟩
end Go.Proofs.Ytfjamllkjofdbaa
