/-
  The laws on who comes ahead of whom: what they have in common.
-/
import Derived.Test.YtbigknmeooaidaaDepsE
import Derived.Test.YtbigknmeooaidaaMake
import Derived.Deep.RegionHeld3
namespace Go.Proofs.Ytbigknmeooaidaa
open Go Go.RowKit
set_option linter.unusedVariables false
set_option linter.unusedSimpArgs false

def LoopSame (w : World) (l : List Int) (g : Nat) (v5 : Value) (wr : World) : Prop := ∃ k q : Nat, g + k = l.length ∧ v5 = .int .i64 k ∧ wr = w.drewN q

set_option maxHeartbeats 1000000 in
theorem same_ints (v v2 : Value) (l : List Int) (w : World) (S S2 : Nat → Prop) (h : Rd S w v l.length (ints l)) (h2 : Rd S2 w v2 l.length (ints l)) :
    Calls Try.prog 17 #[v, v2] w (Ret w (.bool true)) := by
  obtain ⟨a, c, rfl, g1, g2, g3, g4⟩ := id h
  have hlen : l.length ≤ 9223372036854775807 := by unfold maxLen at g2; omega
  clear g1 g2 g3 g4
  obtain ⟨a2, c2, rfl, g1, g2, g3, g4⟩ := id h2
  clear g1 g2 g3 g4
  have H := Lib.hid h; clear h
  have H2 := Lib.hid h2; clear h2
  go_enter Try.func17, Try.ntmps17
  go_wp2_with fail
  go_loopg [5] l.length (fun g v5 wr => LoopSame w l g v5 wr)
  case atStart => exact ⟨0, 0, rfl, rfl, rfl⟩
  case round =>
    obtain ⟨k, q, hk, rfl, rfl⟩ := hrel
    have hkl : k ≤ l.length := by omega
    have HK := Lib.hid hk; clear hk
    by_cases hlt : k < l.length
    · obtain ⟨x, hx⟩ : ∃ x, l[k]? = some x := ⟨_, List.getElem?_eq_getElem hlt⟩
      obtain ⟨bo, oo, ⟨c', hv⟩, _, hc0⟩ := H.out.int hx
      injection hv with hv1 hv2 hv3
      subst hv1; subst hv3
      obtain ⟨bo2, oo2, ⟨c', hv⟩, _, hd0⟩ := H2.out.int hx
      injection hv with hv1 hv2 hv3
      subst hv1; subst hv3
      clear hx
      go_wp2_with fail
      go_quiet (fail)
      go_wp2_with fail
      go_roundg (l.length - (k + 1))
      case measure => have := HK.out; omega
      case rel => exact ⟨k + 1, _, by omega, by go_num, rfl⟩
    · go_wp2_with fail
      go_ret
      exact ⟨rfl, (Keep.refl _ _).drewN q⟩

/-- No words. -/
def nilV : SlV := ⟨none, 0, 0⟩
/-- A system of which only is said for whom it waits. -/
def sysOf (af : SlV) (l : List Int) : SysV := ⟨nilV, nilV, nilV, nilV, false, nilV, nilV, af, l⟩

theorem rd_one (w : World) (x : Int) : Rd (fun i => i = w.heap.size) (w.alloc (.cells #[.int .i64 x] 3)) (.slice (some ⟨w.heap.size, 0, none⟩) 1 1) 1 (ints [x]) :=
  (Own.lit (S := fun i => i = w.heap.size) w 3 1 1 #[.int .i64 x] (by decide) rfl rfl).rd

theorem rd_nil (S : Nat → Prop) (w : World) : Rd S w nilV.v 0 (ints []) := (Own.nil S w 3 1).rd
theorem flatSys_len (l : List SysV) : (l.flatMap SysV.cells).length = l.length * 8 := flat_length SysV.cells 8 (fun _ => rfl) l
/-- A literal of systems. -/
theorem rdsys_lit (w : World) (S : Nat → Prop) (l : List SysV) (n : Nat) (hn : l.length = n) (hm : n ≤ maxLen) (cs : Array Value) (hcs : cs = (l.flatMap SysV.cells).toArray)
    (h : ∀ x, x ∈ l → x.af.n = x.aft.length ∧ Rd S w x.af.v x.aft.length (ints x.aft)) :
    RdSys (fun i => S i ∨ i = w.heap.size) (w.alloc (.cells cs 35)) (.slice (some ⟨w.heap.size, 0, none⟩) n n) l := by
  subst hcs
  subst hn
  refine ⟨?_, fun x hx => ⟨(h x hx).1, ((h x hx).2.alloc _).mono (fun i hi => .inl hi)⟩⟩
  have := (Own.lit (S := fun i => S i ∨ i = w.heap.size) w 35 8 l.length (l.flatMap SysV.cells).toArray hm (by rw [List.size_toArray]; exact flatSys_len l) (.inr rfl)).rd
  simpa using this

theorem and16 (x : Int) : ∃ t : Nat, bits .and .i64 x 65535 = (t : Int) ∧ t < 65536 := by
  rw [and_mask x 16 65535 (by decide) rfl]
  exact ⟨(x % 65536).toNat, by omega, by omega⟩

structure RowV where
  a : Option Addr
  c : Nat
  l : List Int
def RowV.v (r : RowV) : Value := .slice r.a r.l.length r.c
structure RdRows (S : Nat → Prop) (w : World) (v : Value) (rs : List RowV) : Prop where
  rd : Rd S w v rs.length (rs.map RowV.v)
  row : ∀ r, r ∈ rs → Rd S w r.v r.l.length (ints r.l)
theorem RdRows.keep0 {S : Nat → Prop} {w w' : World} {v : Value} {rs : List RowV} (h : RdRows S w v rs) (hk : Keep w w' Nope) : RdRows S w' v rs := ⟨h.rd.keep hk (fun _ _ f => f), fun r hr => (h.row r hr).keep hk (fun _ _ f => f)⟩
theorem RdRows.below {S : Nat → Prop} {w w' : World} {v : Value} {rs : List RowV} (h : RdRows S w v rs) (hk : Below w.heap.size w w') (hS : ∀ i, S i → i < w.heap.size) : RdRows S w' v rs := ⟨h.rd.below hk hS, fun r hr => (h.row r hr).below hk hS⟩
/-- The cell of a row, and the row. -/
theorem RdRows.get {S : Nat → Prop} {w : World} {a : Option Addr} {n c : Nat} {rs : List RowV} (h : RdRows S w (.slice a n c) rs) {k : Nat} {r : RowV} (hk : rs[k]? = some r) :
    ∃ b o, a = some ⟨b, o, none⟩ ∧ S b ∧ w.cell? ⟨b, o + k, none⟩ = some (.slice r.a r.l.length r.c) ∧ Rd S w r.v r.l.length (ints r.l) := by
  obtain ⟨a', c', he, _, _, _, h4⟩ := h.rd
  injection he with e1 e2 e3
  subst e1; subst e3
  obtain ⟨b, o, e, hb, hc⟩ := h4 k r.v (by simp [hk])
  exact ⟨b, o, e, hb, hc, h.row r (List.mem_of_getElem? hk)⟩

/-- Each waits for some ahead of it alone. -/
theorem size_setCell (w : World) (p : Addr) (u : Value) : (w.setCell p u).heap.size = w.heap.size := by simp [World.setCell]
def afA (x : SysV) : Asr := slA 3 1 x.af.v x.aft.length (ints x.aft)
/-- What is owned while the systems are made. -/
theorem ints_take (l : List Int) (k : Nat) : (ints l).take k = ints (l.take k) := by simp [ints, List.map_take]
theorem ints_drop (l : List Int) (k : Nat) : (ints l).drop k = ints (l.drop k) := by simp [ints, List.map_drop]
theorem ints_set (l : List Int) (k : Nat) (x : Int) : (ints l).set k (.int .i64 x) = ints (l.set k x) := by simp [ints, List.map_set]
/-- The row with one put ahead of its place. -/
theorem RdSys.below {S : Nat → Prop} {w w' : World} {v : Value} {l : List SysV} (h : RdSys S w v l) (hk : Below w.heap.size w w') (hS : ∀ i, S i → i < w.heap.size) : RdSys S w' v l :=
  ⟨h.rd.below hk hS, fun x hx => ⟨(h.af x hx).1, (h.af x hx).2.below hk hS⟩⟩
end Go.Proofs.Ytbigknmeooaidaa
