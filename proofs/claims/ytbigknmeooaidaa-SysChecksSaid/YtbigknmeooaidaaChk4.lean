/-
  The package code: the shapes of instructions.
-/
import Derived.Test.YtbigknmeooaidaaChk3
import Derived.Deep.WholeRow
namespace Go.Proofs.Ytbigknmeooaidaa
open Go Go.RowKit
set_option linter.unusedVariables false
set_option linter.unusedSimpArgs false

set_option maxHeartbeats 400000 in
theorem shapes_two (s : ByteArray) (w : World) :
    Calls Try.prog 115 #[.string s] w (fun e w' => e = .returned (.agg #[.string s, .bool true, .bool true, .bool false, .bool false]) ∧ Keep w w' Nope) := by
  have HK := Lib.hid ((Keep.refl w Nope).alloc (.cells #[.string s, .bool true, .bool true, .bool false, .bool false] 133))
  go_enter Try.func115, Try.ntmps115
  go_wp2_with fail
  refine bodyPost_ret (results_cell_row rfl _ _ w.heap.size _ _ _ _ rfl (heap_alloc_new w _) Try.underlying133 rfl (by kernel_rfl)) rfl ⟨rfl, HK.out⟩
set_option maxHeartbeats 400000 in
theorem shapes_num (s : ByteArray) (w : World) :
    Calls Try.prog 116 #[.string s] w (fun e w' => e = .returned (.agg #[.string s, .bool true, .bool false, .bool true, .bool true]) ∧ Keep w w' Nope) := by
  have HK := Lib.hid ((Keep.refl w Nope).alloc (.cells #[.string s, .bool true, .bool false, .bool true, .bool true] 133))
  go_enter Try.func116, Try.ntmps116
  go_wp2_with fail
  refine bodyPost_ret (results_cell_row rfl _ _ w.heap.size _ _ _ _ rfl (heap_alloc_new w _) Try.underlying133 rfl (by kernel_rfl)) rfl ⟨rfl, HK.out⟩
/-- The table of all shapes: name, R, S, N, up. -/
def shapesV : Array Value := #[.string ⟨#[]⟩, .bool false, .bool false, .bool false, .bool false, .string ⟨#[99, 111, 110, 115, 116]⟩, .bool true, .bool false, .bool true, .bool false, .string ⟨#[109, 111, 118, 101]⟩, .bool true, .bool true, .bool false, .bool false, .string ⟨#[97, 100, 100]⟩, .bool true, .bool true, .bool false, .bool false, .string ⟨#[115, 117, 98]⟩, .bool true, .bool true, .bool false, .bool false, .string ⟨#[109, 117, 108]⟩, .bool true, .bool true, .bool false, .bool false, .string ⟨#[100, 105, 118]⟩, .bool true, .bool true, .bool false, .bool false, .string ⟨#[103, 101, 116]⟩, .bool true, .bool false, .bool true, .bool true, .string ⟨#[103, 101, 116, 98]⟩, .bool true, .bool false, .bool true, .bool true, .string ⟨#[112, 117, 116]⟩, .bool true, .bool false, .bool true, .bool true, .string ⟨#[112, 117, 116, 98]⟩, .bool true, .bool false, .bool true, .bool true, .string ⟨#[114, 101, 115]⟩, .bool true, .bool false, .bool true, .bool true, .string ⟨#[115, 97, 118, 101]⟩, .bool true, .bool false, .bool true, .bool true, .string ⟨#[115, 107, 105, 112]⟩, .bool true, .bool false, .bool true, .bool true, .string ⟨#[107, 105, 108, 108]⟩, .bool false, .bool false, .bool false, .bool false, .string ⟨#[115, 112, 97, 119, 110]⟩, .bool true, .bool false, .bool false, .bool false, .string ⟨#[103, 105, 118, 101]⟩, .bool true, .bool false, .bool true, .bool true, .string ⟨#[100, 114, 111, 112]⟩, .bool false, .bool false, .bool true, .bool true, .string ⟨#[102, 97, 117, 108, 116]⟩, .bool true, .bool false, .bool false, .bool false]
set_option maxRecDepth 4000 in
set_option maxHeartbeats 2000000 in
theorem code_shapes (w : World) :
    Calls Try.prog 111 #[] w (fun e w' => e = .returned (.agg shapesV) ∧ Keep w w' Nope) := by
  go_enter Try.func111, Try.ntmps111
  go_upto_region 3 with (fail)
  obtain ⟨w0, hw0⟩ : ∃ w0, w0 = w.alloc (.cells Try.zeroCells146 146) := ⟨_, rfl⟩
  rw [← hw0]
  have hb : Blk w0 w.heap.size Try.zeroCells146 146 := by rw [hw0]; exact Blk.new w _ _
  have hkw : Keep w w0 Nope := by rw [hw0]; exact (Keep.refl w Nope).alloc _
  have HB := Lib.hid hb
  have HK := Lib.hid hkw
  clear hw0 hb hkw
  go_wp2_with (first
    | (go_at_call 115; refine (shapes_two _ _).mono ?_; rintro e w' ⟨rfl, hk⟩; have HB := Lib.hid (HB.out.keep hk (fun f => f)); have HK := Lib.hid (HK.out.trans hk (fun _ f => f.elim)); clear hk)
    | (go_at_call 116; refine (shapes_num _ _).mono ?_; rintro e w' ⟨rfl, hk⟩; have HB := Lib.hid (HB.out.keep hk (fun f => f)); have HK := Lib.hid (HK.out.trans hk (fun _ f => f.elim)); clear hk)
    | (refine wpList_build rfl 146 _ rfl (by kernel_rfl) ?_; rw [show (Try.prog.built _ _).getD #[] = shapesV from by kernel_rfl])
    | (refine wpList_store_row rfl 146 _ _ rfl w.heap.size shapesV rfl rfl 146 Try.zeroCells146 HB.out (by kernel_rfl) (by kernel_rfl) (by kernel_rfl) ?_))
  refine bodyPost_ret (results_cell_row rfl _ _ w.heap.size _ _ _ _ rfl (setRow_heap _ _ _ _ _ _ HB.out) Try.underlying146 rfl (by kernel_rfl)) rfl ⟨rfl, HK.out.setRow (g := w.heap.size) (.inr (Nat.le_refl _)) _⟩

def shIs (op : Int) : Bool := decide (1 ≤ op) && decide (op ≤ 18)
def shR (op : Int) : Bool := decide (1 ≤ op ∧ op ≤ 18 ∧ op ≠ 14 ∧ op ≠ 17)
def shS (op : Int) : Bool := decide (2 ≤ op ∧ op ≤ 6)
def shN (op : Int) : Bool := decide (op = 1 ∨ 7 ≤ op ∧ op ≤ 13 ∨ op = 16 ∨ op = 17)
def shU (op : Int) : Bool := decide (7 ≤ op ∧ op ≤ 13 ∨ op = 16 ∨ op = 17)
theorem shapes_at (op : Nat) (h1 : 1 ≤ op) (h2 : op ≤ 18) : ∃ nm : ByteArray, shapesV[op * 5]? = some (.string nm) ∧ shapesV[op * 5 + 1]? = some (.bool (shR op)) ∧
    shapesV[op * 5 + 2]? = some (.bool (shS op)) ∧ shapesV[op * 5 + 3]? = some (.bool (shN op)) ∧ shapesV[op * 5 + 4]? = some (.bool (shU op)) := by
  have : op = 1 ∨ op = 2 ∨ op = 3 ∨ op = 4 ∨ op = 5 ∨ op = 6 ∨ op = 7 ∨ op = 8 ∨ op = 9 ∨ op = 10 ∨ op = 11 ∨ op = 12 ∨ op = 13 ∨ op = 14 ∨ op = 15 ∨ op = 16 ∨ op = 17 ∨ op = 18 := by omega
  rcases this with rfl | rfl | rfl | rfl | rfl | rfl | rfl | rfl | rfl | rfl | rfl | rfl | rfl | rfl | rfl | rfl | rfl | rfl <;> exact ⟨_, rfl, rfl, rfl, rfl, rfl⟩

end Go.Proofs.Ytbigknmeooaidaa
