/-
  The package code: may instructions be: the whole.
-/
import Derived.Test.YtbigknmeooaidaaChk5
namespace Go.Proofs.Ytbigknmeooaidaa
open Go Go.RowKit
set_option linter.unusedVariables false
set_option linter.unusedSimpArgs false

structure InsV where
  op : Int
  r : Int
  s : Int
  n : Int
def InsV.cells (x : InsV) : List Value := [.int .i64 x.op, .int .i64 x.r, .int .i64 x.s, .int .i64 x.n]
def InsV.val (x : InsV) : Value := .agg #[.int .i64 x.op, .int .i64 x.r, .int .i64 x.s, .int .i64 x.n]
abbrev RdIns (S : Nat → Prop) (w : World) (v : Value) (l : List InsV) : Prop := Rd S w v l.length (l.flatMap InsV.cells)
/-- May an instruction be, so many being behind it? -/
def okI (x : InsV) (behind : Int) : Bool :=
  shIs x.op && regB (shR x.op) x.r && regB (shS x.op) x.s && (shN x.op || !(x.n != 0)) && (!(shU x.op) || !(decide (x.n < 0))) && ((x.op != 13) || decide (x.n ≤ behind))

set_option maxHeartbeats 4000000 in
theorem code_ok (x : InsV) (behind : Int) (w : World) :
    Calls Try.prog 69 #[x.val, .int .i64 behind] w (Ret w (.bool (okI x behind))) := by
  obtain ⟨op, r, s, n⟩ := x
  unfold InsV.val okI
  simp only
  obtain ⟨is, his⟩ : ∃ b, shIs op = b := ⟨_, rfl⟩
  obtain ⟨fR, hfR⟩ : ∃ b, shR op = b := ⟨_, rfl⟩
  obtain ⟨fS, hfS⟩ : ∃ b, shS op = b := ⟨_, rfl⟩
  obtain ⟨fN, hfN⟩ : ∃ b, shN op = b := ⟨_, rfl⟩
  obtain ⟨fU, hfU⟩ : ∃ b, shU op = b := ⟨_, rfl⟩
  have hO : ∀ w1, Calls Try.prog 98 #[.int .i64 op] w1 (fun en w' => ∃ nm : ByteArray, en = .returned (.tuple #[.agg #[.string nm, .bool fR, .bool fS, .bool fN, .bool fU], .bool is]) ∧ Keep w1 w' Nope) := by
    intro w1
    have := code_Of op w1
    unfold RetShape at this
    rw [his, hfR, hfS, hfN, hfU] at this
    exact this
  rw [his, hfR, hfS, hfN, hfU]
  have HO := Lib.hid hO
  obtain ⟨b1, hb1⟩ : ∃ b, regB fR r = b := ⟨_, rfl⟩
  obtain ⟨b2, hb2⟩ : ∃ b, regB fS s = b := ⟨_, rfl⟩
  rw [hb1, hb2]
  have q1 := hb1
  have q2 := hb2
  clear hO his hfR hfS hfN hfU hb1 hb2
  obtain ⟨w1, hw1⟩ : ∃ w1, w1 = w.alloc (.cells #[.int .i64 op, .int .i64 r, .int .i64 s, .int .i64 n] 87) := ⟨_, rfl⟩
  have hk1 : Keep w w1 Nope := by rw [hw1]; exact (Keep.refl w Nope).alloc _
  have hb1 : Blk w1 w.heap.size #[.int .i64 op, .int .i64 r, .int .i64 s, .int .i64 n] 87 := by rw [hw1]; exact Blk.new w _ _
  obtain ⟨g0, hg0⟩ : ∃ g, g = w.heap.size := ⟨_, rfl⟩
  have HW1 := Lib.hid hw1
  have HK1 := Lib.hid hk1
  have HB1 := Lib.hid hb1
  clear hw1 hk1 hb1
  go_enter Try.func69, Try.ntmps69
  go_upto_region 1 with (fail)
  rw [← HW1.out]
  rw [← hg0] at HB1 ⊢
  clear hg0
  have c0 := HB1.out.cell 0
  simp at c0
  go_upto_region 2 with (go_at_call 98; refine (HO.out _).mono ?_; rintro e w2 ⟨nm, rfl, hk⟩; have HB2 := Lib.hid (HB1.out.keep hk (fun f => f)); have HK2 := Lib.hid (HK1.out.trans hk (fun _ f => f.elim)); clear hk c0 HB1 HW1 HK1 HO)
  obtain ⟨w3, hw3⟩ : ∃ w3, w3 = w2.alloc (.cells #[.string nm, .bool fR, .bool fS, .bool fN, .bool fU] 133) := ⟨_, rfl⟩
  have hk3 : Keep w2 w3 Nope := by rw [hw3]; exact (Keep.refl w2 Nope).alloc _
  have hb3 : Blk w3 w2.heap.size #[.string nm, .bool fR, .bool fS, .bool fN, .bool fU] 133 := by rw [hw3]; exact Blk.new w2 _ _
  rw [← hw3]
  have HK3 := Lib.hid (HK2.out.trans hk3 (fun _ f => f.elim))
  have hb0 := HB2.out.keep hk3 (fun f => f)
  obtain ⟨g1, hg1⟩ : ∃ g, g = w2.heap.size := ⟨_, rfl⟩
  rw [← hg1] at hb3 ⊢
  have c0 := hb0.cell 0
  have c1 := hb0.cell 1
  have c2 := hb0.cell 2
  have c3 := hb0.cell 3
  have d1 := hb3.cell 1
  have d2 := hb3.cell 2
  have d3 := hb3.cell 3
  have d4 := hb3.cell 4
  simp at c0 c1 c2 c3 d1 d2 d3 d4
  clear hw3 hk3 hb3 hb0 HB2 HK2 hg1
  cases is
  case false =>
    go_wp2_with fail
    go_ret
    exact ⟨rfl, HK3.out⟩
  cases b1
  case false =>
    go_wp2_with (go_at_call 99; refine (ok_reg _ _ _).mono ?_; rintro e w' ⟨rfl, rfl⟩; rw [q1])
    go_ret
    exact ⟨rfl, HK3.out⟩
  have hcs : (fN = false ∧ (n != 0) = true) ∨ (fN = true ∨ fN = false ∧ (n != 0) = false) ∧ ((fU = true ∧ decide (n < 0) = true) ∨ (fU = false ∨ fU = true ∧ decide (n < 0) = false) ∧
      ((op != 13) = true ∨ (op != 13) = false ∧ decide (n ≤ behind) = true ∨ (op != 13) = false ∧ decide (n ≤ behind) = false)) := by
    cases fN <;> cases (n != 0) <;> cases fU <;> cases decide (n < 0) <;> cases (op != 13) <;> cases decide (n ≤ behind) <;> simp
  have HCS := Lib.hid hcs; clear hcs
  have HQ := Lib.hid q2
  obtain ⟨res, hres⟩ : ∃ res, (true && true && b2 && (fN || !(n != 0)) && (!fU || !(decide (n < 0))) && ((op != 13) || decide (n ≤ behind))) = res := ⟨_, rfl⟩
  rw [hres]
  have HRES := Lib.hid hres
  clear hres
  go_wp2_with (go_at_call 99; refine (ok_reg _ _ _).mono ?_; rintro e w' ⟨rfl, rfl⟩; first | (rw [q1]; clear q1) | (rw [HQ.out]; clear HQ q2; cases b2; skip; rcases HCS.out with ⟨rfl, z1⟩ | ⟨rfl | ⟨rfl, z1⟩, ⟨rfl, z2⟩ | ⟨rfl | ⟨rfl, z2⟩, z3 | ⟨z3, z4⟩ | ⟨z3, z4⟩⟩⟩))
  all_goals
    go_ret
    refine ⟨?_, HK3.out⟩
    have := HRES.out
    clear HRES HCS
    try (have e1 : (n != 0) = true := bne_iff_ne.2 (by omega); rw [e1] at this; clear e1)
    try (have e3 : (op != 13) = true := bne_iff_ne.2 (by omega); rw [e3] at this; clear e3)
    try (have e2 : decide (n < 0) = false := decide_eq_false (by omega); rw [e2] at this; clear e2)
    try (have e2 : decide (n < 0) = true := decide_eq_true (by omega); rw [e2] at this; clear e2)
    simp_all
end Go.Proofs.Ytbigknmeooaidaa
