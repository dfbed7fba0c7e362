/-
  The law's own instructions, made of numbers.
-/
import Derived.Test.YtbigknmeooaidaaMk2
namespace Go.Proofs.Ytbigknmeooaidaa
open Go Go.RowKit
set_option linter.unusedVariables false
set_option linter.unusedSimpArgs false

def formL (op : Nat) : List UInt8 :=
  if 2 ≤ op ∧ op ≤ 6 then [114, 115] else if op = 14 then [] else if op = 15 ∨ op = 18 then [114] else if op = 17 then [110] else [114, 110]
set_option maxHeartbeats 1000000 in
theorem law_form (op : Nat) (h1 : 1 ≤ op) (h2 : op ≤ 18) (w : World) :
    Calls Try.prog 65 #[.int .i64 op] w (fun e w' => e = .returned (.string ⟨(formL op).toArray⟩) ∧ w = w') := by
  have hc : op = 1 ∨ op = 2 ∨ op = 3 ∨ op = 4 ∨ op = 5 ∨ op = 6 ∨ op = 7 ∨ op = 8 ∨ op = 9 ∨ op = 10 ∨ op = 11 ∨ op = 12 ∨ op = 13 ∨ op = 14 ∨ op = 15 ∨ op = 16 ∨ op = 17 ∨ op = 18 := by omega
  rcases hc with rfl | rfl | rfl | rfl | rfl | rfl | rfl | rfl | rfl | rfl | rfl | rfl | rfl | rfl | rfl | rfl | rfl | rfl
  all_goals
    go_enter Try.func65, Try.ntmps65
    go_wp2_with fail
    go_ret
    exact ⟨rfl, rfl⟩

/-- An instruction that may be by itself. -/
structure TameI (cols comps res : Nat) (i : InsV) : Prop where
  op1 : 1 ≤ i.op
  op2 : i.op ≤ 18
  r : 0 ≤ i.r ∧ i.r < 4 ∧ (shR i.op = false → i.r = 0)
  s : 0 ≤ i.s ∧ i.s < 4 ∧ (shS i.op = false → i.s = 0)
  n0 : shN i.op = false → i.n = 0
  n1 : i.op ≠ 1 → 0 ≤ i.n
  nc : i.op = 7 ∨ i.op = 8 ∨ i.op = 9 ∨ i.op = 10 → i.n < max (cols : Int) 1
  nr : i.op = 11 ∨ i.op = 12 → i.n < max (res : Int) 1
  nm : i.op = 16 ∨ i.op = 17 → i.n < max (comps : Int) 1
  ns : i.op = 13 → i.n ≤ 1
theorem TameI.setR {cols comps res : Nat} {op r s n : Int} (h : TameI cols comps res ⟨op, r, s, n⟩) (hf : shR op = true) (q : Nat) (hq : q < 4) : TameI cols comps res ⟨op, q, s, n⟩ :=
  ⟨h.op1, h.op2, ⟨by show (0 : Int) ≤ q; omega, by show (q : Int) < 4; omega, fun hh => by rw [show shR op = false from hh] at hf; cases hf⟩, h.s, h.n0, h.n1, h.nc, h.nr, h.nm, h.ns⟩
theorem TameI.setS {cols comps res : Nat} {op r s n : Int} (h : TameI cols comps res ⟨op, r, s, n⟩) (hf : shS op = true) (q : Nat) (hq : q < 4) : TameI cols comps res ⟨op, r, q, n⟩ :=
  ⟨h.op1, h.op2, h.r, ⟨by show (0 : Int) ≤ q; omega, by show (q : Int) < 4; omega, fun hh => by rw [show shS op = false from hh] at hf; cases hf⟩, h.n0, h.n1, h.nc, h.nr, h.nm, h.ns⟩
theorem TameI.setN {cols comps res : Nat} {op r s n : Int} (h : TameI cols comps res ⟨op, r, s, n⟩) (hf : shN op = true) (v : Int) (h1 : op ≠ 1 → 0 ≤ v) (hc : op = 7 ∨ op = 8 ∨ op = 9 ∨ op = 10 → v < max (cols : Int) 1) (hr : op = 11 ∨ op = 12 → v < max (res : Int) 1)
    (hm : op = 16 ∨ op = 17 → v < max (comps : Int) 1) (hs : op = 13 → v ≤ 1) : TameI cols comps res ⟨op, r, s, v⟩ :=
  ⟨h.op1, h.op2, h.r, h.s, (fun hh => by rw [show shN op = false from hh] at hf; cases hf), h1, hc, hr, hm, hs⟩
def LoopT20 (w : World) (cols comps res op : Nat) (gb m : Nat) (g : Nat) (v11 : Value) (wr : World) : Prop :=
  ∃ (k : Nat) (r s n : Int), g + k = m ∧ v11 = .int .i64 k ∧ TameI cols comps res ⟨op, r, s, n⟩ ∧ St w wr [blkA w.heap.size #[.int .i64 0, .int .i64 0, .int .i64 0, .int .i64 0] 87, blkA gb #[.int .i64 op, .int .i64 r, .int .i64 s, .int .i64 n] 87]
def RetIns (w : World) (cols comps res : Nat) (en : Ending) (w' : World) : Prop :=
  ∃ i : InsV, en = .returned i.val ∧ TameI cols comps res i ∧ Keep w w' Nope

set_option maxHeartbeats 4000000 in
theorem law_tame20 (x : Int) (cols comps res : Nat) (w : World) (hc : cols ≤ 1000) (hm : comps ≤ 1000) (hr : res ≤ 1000) :
    Calls Try.prog 45 #[.int .i64 x, .int .i64 cols, .int .i64 comps, .int .i64 res] w (RetIns w cols comps res) := by
  obtain ⟨X, hX, hXl⟩ : ∃ X : Nat, bits .and .i64 x 16777215 = (X : Int) ∧ X < 16777216 := by
    rw [and_mask x 24 16777215 (by decide) rfl]
    exact ⟨(x % 16777216).toNat, by omega, by omega⟩
  obtain ⟨op, hop, ho1, ho2⟩ : ∃ op : Nat, ((X : Int) % 18) + 1 = (op : Int) ∧ 1 ≤ op ∧ op ≤ 18 := ⟨X % 18 + 1, by omega, by omega, by omega⟩
  go_enter Try.func45, Try.ntmps45
  go_upto_region 3 with (fail)
  have h0 := ((St.start w).box #[.int .i64 0, .int .i64 0, .int .i64 0, .int .i64 0] 87).box #[.int .i64 op, .int .i64 0, .int .i64 0, .int .i64 0] 87
  rw [World.size_alloc] at h0
  obtain ⟨w1, hw1⟩ : ∃ w1, w1 = (w.alloc (.cells #[.int .i64 0, .int .i64 0, .int .i64 0, .int .i64 0] 87)).alloc (.cells #[.int .i64 op, .int .i64 0, .int .i64 0, .int .i64 0] 87) := ⟨_, rfl⟩
  rw [← hw1] at h0 ⊢
  obtain ⟨gb, hgb⟩ : ∃ g, g = w.heap.size + 1 := ⟨_, rfl⟩
  rw [← hgb] at h0 ⊢
  have H0 := Lib.hid (show St w w1 [blkA w.heap.size #[.int .i64 0, .int .i64 0, .int .i64 0, .int .i64 0] 87, blkA gb #[.int .i64 op, .int .i64 0, .int .i64 0, .int .i64 0] 87] from h0)
  have c0 := (H0.out.blk 1 rfl).cell 0
  simp at c0
  clear hw1 h0 hop hX
  have HGB := Lib.hid hgb
  clear hgb
  have HT0 := Lib.hid (show TameI cols comps res ⟨op, 0, 0, 0⟩ from ⟨by simp; omega, by simp; omega, ⟨Int.le_refl _, (by show (0 : Int) < 4; decide), fun _ => rfl⟩, ⟨Int.le_refl _, (by show (0 : Int) < 4; decide), fun _ => rfl⟩, fun _ => rfl, fun _ => Int.le_refl _, fun _ => by simp only; omega, fun _ => by simp only; omega, fun _ => by simp only; omega, fun _ => by simp⟩)
  have hF := law_form op ho1 ho2 w1
  obtain ⟨fa, hfa⟩ : ∃ fa, (formL op).toArray = fa := ⟨_, rfl⟩
  rw [hfa] at hF
  have HF := Lib.hid hF
  have hsz : fa.size ≤ 2 := by
    rw [← hfa]
    unfold formL
    split
    · decide
    · split
      · decide
      · split
        · decide
        · split <;> decide
  have HFA := Lib.hid hfa
  clear hF hfa
  obtain ⟨r5, hr5, hr5l⟩ : ∃ r : Nat, bits .and .i64 ((X : Int) / 32) 3 = (r : Int) ∧ r < 4 := by
    rw [and_mask _ 2 3 (by decide) rfl]
    exact ⟨X / 32 % 4, by omega, by omega⟩
  obtain ⟨r7, hr7, hr7l⟩ : ∃ r : Nat, bits .and .i64 ((X : Int) / 128) 3 = (r : Int) ∧ r < 4 := by
    rw [and_mask _ 2 3 (by decide) rfl]
    exact ⟨X / 128 % 4, by omega, by omega⟩
  obtain ⟨Y, hY⟩ : ∃ Y : Nat, (X : Int) / 512 = (Y : Int) := ⟨X / 512, by omega⟩
  obtain ⟨n31, hn31, hn31l⟩ : ∃ r : Nat, bits .and .i64 (Y : Int) 31 = (r : Int) ∧ r < 32 := by
    rw [and_mask _ 5 31 (by decide) rfl]
    exact ⟨Y % 32, by omega, by omega⟩
  obtain ⟨n1, hn1, hn1l⟩ : ∃ r : Nat, bits .and .i64 (Y : Int) 1 = (r : Int) ∧ r < 2 := by
    rw [and_mask _ 1 1 (by decide) rfl]
    exact ⟨Y % 2, by omega, by omega⟩
  obtain ⟨mc, hmc, hmc1⟩ : ∃ m : Nat, max (cols : Int) 1 = (m : Int) ∧ 0 < m := ⟨max cols 1, by omega, by omega⟩
  obtain ⟨mr, hmr, hmr1⟩ : ∃ m : Nat, max (res : Int) 1 = (m : Int) ∧ 0 < m := ⟨max res 1, by omega, by omega⟩
  obtain ⟨mm, hmm, hmm1⟩ : ∃ m : Nat, max (comps : Int) 1 = (m : Int) ∧ 0 < m := ⟨max comps 1, by omega, by omega⟩
  have hmcz : ((mc : Int) == 0) = false := by simp; omega
  have hmrz : ((mr : Int) == 0) = false := by simp; omega
  have hmmz : ((mm : Int) == 0) = false := by simp; omega
  obtain ⟨qc, hqc, hqcl⟩ : ∃ q : Nat, (Y : Int) % (mc : Int) = (q : Int) ∧ q < mc := ⟨Y % mc, rfl, Nat.mod_lt _ hmc1⟩
  obtain ⟨qr, hqr, hqrl⟩ : ∃ q : Nat, (Y : Int) % (mr : Int) = (q : Int) ∧ q < mr := ⟨Y % mr, rfl, Nat.mod_lt _ hmr1⟩
  obtain ⟨qm, hqm, hqml⟩ : ∃ q : Nat, (Y : Int) % (mm : Int) = (q : Int) ∧ q < mm := ⟨Y % mm, rfl, Nat.mod_lt _ hmm1⟩
  have HQ := Lib.hid (show r5 < 4 ∧ r7 < 4 ∧ n1 < 2 ∧ (qc : Int) < max (cols : Int) 1 ∧ (qr : Int) < max (res : Int) 1 ∧ (qm : Int) < max (comps : Int) 1 from by omega)
  go_wp2_with (go_at_call 65; refine HF.out.mono ?_; rintro e w' ⟨rfl, rfl⟩)
  clear c0 HF
  go_loopg [11] fa.size (fun g v11 wr => LoopT20 w cols comps res op gb fa.size g v11 wr)
  case atStart => exact ⟨0, 0, 0, 0, rfl, rfl, HT0.out, H0.out⟩
  case round =>
    obtain ⟨k, r, s, n, hg, rfl, hT, hst⟩ := hrel
    clear H0 HT0
    have HG := Lib.hid hg
    have HT := Lib.hid hT
    have HST := Lib.hid hst
    have hkl : k ≤ fa.size := by omega
    have hb := hst.blk 1 rfl
    have c0 := hb.cell 0
    have c1 := hb.cell 1
    have c2 := hb.cell 2
    have c3 := hb.cell 3
    have f1 := hb.frozen 1
    have f2 := hb.frozen 2
    have f3 := hb.frozen 3
    simp at c0 c1 c2 c3
    clear hg hT hst hb
    by_cases hlt : k < fa.size
    · have hcase : op = 1 ∨ op = 2 ∨ op = 3 ∨ op = 4 ∨ op = 5 ∨ op = 6 ∨ op = 7 ∨ op = 8 ∨ op = 9 ∨ op = 10 ∨ op = 11 ∨ op = 12 ∨ op = 13 ∨ op = 14 ∨ op = 15 ∨ op = 16 ∨ op = 17 ∨ op = 18 := by omega
      rcases hcase with rfl | rfl | rfl | rfl | rfl | rfl | rfl | rfl | rfl | rfl | rfl | rfl | rfl | rfl | rfl | rfl | rfl | rfl
      · obtain rfl : fa = #[114, 110] := HFA.out.symm
        have hk2 : k = 0 ∨ k = 1 := by have : k < 2 := hlt; omega
        rcases hk2 with rfl | rfl
        · go_wp2_with fail
          go_roundg (2 - (0 + 1))
          case measure => have h := HG.out; simp at h; omega
          case rel => exact ⟨1, (r5 : Int), s, n, rfl, by go_num, HT.out.setR rfl r5 HQ.out.1, HST.out.write 1 rfl 1 (.int .i64 (r5))⟩
        · go_wp2_with fail
          go_roundg (2 - (1 + 1))
          case measure => have h := HG.out; simp at h; omega
          case rel => exact ⟨2, r, s, ((n31 : Int) - 9 : Int), rfl, by go_num, HT.out.setN rfl _ (fun h => by have := HQ.out; omega) (fun h => by have := HQ.out; omega) (fun h => by have := HQ.out; omega) (fun h => by have := HQ.out; omega) (fun h => by have := HQ.out; omega), HST.out.write 1 rfl 3 (.int .i64 ((n31 : Int) - 9))⟩
      · obtain rfl : fa = #[114, 115] := HFA.out.symm
        have hk2 : k = 0 ∨ k = 1 := by have : k < 2 := hlt; omega
        rcases hk2 with rfl | rfl
        · go_wp2_with fail
          go_roundg (2 - (0 + 1))
          case measure => have h := HG.out; simp at h; omega
          case rel => exact ⟨1, (r5 : Int), s, n, rfl, by go_num, HT.out.setR rfl r5 HQ.out.1, HST.out.write 1 rfl 1 (.int .i64 (r5))⟩
        · go_wp2_with fail
          go_roundg (2 - (1 + 1))
          case measure => have h := HG.out; simp at h; omega
          case rel => exact ⟨2, r, (r7 : Int), n, rfl, by go_num, HT.out.setS rfl r7 HQ.out.2.1, HST.out.write 1 rfl 2 (.int .i64 (r7))⟩
      · obtain rfl : fa = #[114, 115] := HFA.out.symm
        have hk2 : k = 0 ∨ k = 1 := by have : k < 2 := hlt; omega
        rcases hk2 with rfl | rfl
        · go_wp2_with fail
          go_roundg (2 - (0 + 1))
          case measure => have h := HG.out; simp at h; omega
          case rel => exact ⟨1, (r5 : Int), s, n, rfl, by go_num, HT.out.setR rfl r5 HQ.out.1, HST.out.write 1 rfl 1 (.int .i64 (r5))⟩
        · go_wp2_with fail
          go_roundg (2 - (1 + 1))
          case measure => have h := HG.out; simp at h; omega
          case rel => exact ⟨2, r, (r7 : Int), n, rfl, by go_num, HT.out.setS rfl r7 HQ.out.2.1, HST.out.write 1 rfl 2 (.int .i64 (r7))⟩
      · obtain rfl : fa = #[114, 115] := HFA.out.symm
        have hk2 : k = 0 ∨ k = 1 := by have : k < 2 := hlt; omega
        rcases hk2 with rfl | rfl
        · go_wp2_with fail
          go_roundg (2 - (0 + 1))
          case measure => have h := HG.out; simp at h; omega
          case rel => exact ⟨1, (r5 : Int), s, n, rfl, by go_num, HT.out.setR rfl r5 HQ.out.1, HST.out.write 1 rfl 1 (.int .i64 (r5))⟩
        · go_wp2_with fail
          go_roundg (2 - (1 + 1))
          case measure => have h := HG.out; simp at h; omega
          case rel => exact ⟨2, r, (r7 : Int), n, rfl, by go_num, HT.out.setS rfl r7 HQ.out.2.1, HST.out.write 1 rfl 2 (.int .i64 (r7))⟩
      · obtain rfl : fa = #[114, 115] := HFA.out.symm
        have hk2 : k = 0 ∨ k = 1 := by have : k < 2 := hlt; omega
        rcases hk2 with rfl | rfl
        · go_wp2_with fail
          go_roundg (2 - (0 + 1))
          case measure => have h := HG.out; simp at h; omega
          case rel => exact ⟨1, (r5 : Int), s, n, rfl, by go_num, HT.out.setR rfl r5 HQ.out.1, HST.out.write 1 rfl 1 (.int .i64 (r5))⟩
        · go_wp2_with fail
          go_roundg (2 - (1 + 1))
          case measure => have h := HG.out; simp at h; omega
          case rel => exact ⟨2, r, (r7 : Int), n, rfl, by go_num, HT.out.setS rfl r7 HQ.out.2.1, HST.out.write 1 rfl 2 (.int .i64 (r7))⟩
      · obtain rfl : fa = #[114, 115] := HFA.out.symm
        have hk2 : k = 0 ∨ k = 1 := by have : k < 2 := hlt; omega
        rcases hk2 with rfl | rfl
        · go_wp2_with fail
          go_roundg (2 - (0 + 1))
          case measure => have h := HG.out; simp at h; omega
          case rel => exact ⟨1, (r5 : Int), s, n, rfl, by go_num, HT.out.setR rfl r5 HQ.out.1, HST.out.write 1 rfl 1 (.int .i64 (r5))⟩
        · go_wp2_with fail
          go_roundg (2 - (1 + 1))
          case measure => have h := HG.out; simp at h; omega
          case rel => exact ⟨2, r, (r7 : Int), n, rfl, by go_num, HT.out.setS rfl r7 HQ.out.2.1, HST.out.write 1 rfl 2 (.int .i64 (r7))⟩
      · obtain rfl : fa = #[114, 110] := HFA.out.symm
        have hk2 : k = 0 ∨ k = 1 := by have : k < 2 := hlt; omega
        rcases hk2 with rfl | rfl
        · go_wp2_with fail
          go_roundg (2 - (0 + 1))
          case measure => have h := HG.out; simp at h; omega
          case rel => exact ⟨1, (r5 : Int), s, n, rfl, by go_num, HT.out.setR rfl r5 HQ.out.1, HST.out.write 1 rfl 1 (.int .i64 (r5))⟩
        · go_wp2_with fail
          go_roundg (2 - (1 + 1))
          case measure => have h := HG.out; simp at h; omega
          case rel => exact ⟨2, r, s, (qc : Int), rfl, by go_num, HT.out.setN rfl _ (fun h => by have := HQ.out; omega) (fun h => by have := HQ.out; omega) (fun h => by have := HQ.out; omega) (fun h => by have := HQ.out; omega) (fun h => by have := HQ.out; omega), HST.out.write 1 rfl 3 (.int .i64 (qc))⟩
      · obtain rfl : fa = #[114, 110] := HFA.out.symm
        have hk2 : k = 0 ∨ k = 1 := by have : k < 2 := hlt; omega
        rcases hk2 with rfl | rfl
        · go_wp2_with fail
          go_roundg (2 - (0 + 1))
          case measure => have h := HG.out; simp at h; omega
          case rel => exact ⟨1, (r5 : Int), s, n, rfl, by go_num, HT.out.setR rfl r5 HQ.out.1, HST.out.write 1 rfl 1 (.int .i64 (r5))⟩
        · go_wp2_with fail
          go_roundg (2 - (1 + 1))
          case measure => have h := HG.out; simp at h; omega
          case rel => exact ⟨2, r, s, (qc : Int), rfl, by go_num, HT.out.setN rfl _ (fun h => by have := HQ.out; omega) (fun h => by have := HQ.out; omega) (fun h => by have := HQ.out; omega) (fun h => by have := HQ.out; omega) (fun h => by have := HQ.out; omega), HST.out.write 1 rfl 3 (.int .i64 (qc))⟩
      · obtain rfl : fa = #[114, 110] := HFA.out.symm
        have hk2 : k = 0 ∨ k = 1 := by have : k < 2 := hlt; omega
        rcases hk2 with rfl | rfl
        · go_wp2_with fail
          go_roundg (2 - (0 + 1))
          case measure => have h := HG.out; simp at h; omega
          case rel => exact ⟨1, (r5 : Int), s, n, rfl, by go_num, HT.out.setR rfl r5 HQ.out.1, HST.out.write 1 rfl 1 (.int .i64 (r5))⟩
        · go_wp2_with fail
          go_roundg (2 - (1 + 1))
          case measure => have h := HG.out; simp at h; omega
          case rel => exact ⟨2, r, s, (qc : Int), rfl, by go_num, HT.out.setN rfl _ (fun h => by have := HQ.out; omega) (fun h => by have := HQ.out; omega) (fun h => by have := HQ.out; omega) (fun h => by have := HQ.out; omega) (fun h => by have := HQ.out; omega), HST.out.write 1 rfl 3 (.int .i64 (qc))⟩
      · obtain rfl : fa = #[114, 110] := HFA.out.symm
        have hk2 : k = 0 ∨ k = 1 := by have : k < 2 := hlt; omega
        rcases hk2 with rfl | rfl
        · go_wp2_with fail
          go_roundg (2 - (0 + 1))
          case measure => have h := HG.out; simp at h; omega
          case rel => exact ⟨1, (r5 : Int), s, n, rfl, by go_num, HT.out.setR rfl r5 HQ.out.1, HST.out.write 1 rfl 1 (.int .i64 (r5))⟩
        · go_wp2_with fail
          go_roundg (2 - (1 + 1))
          case measure => have h := HG.out; simp at h; omega
          case rel => exact ⟨2, r, s, (qc : Int), rfl, by go_num, HT.out.setN rfl _ (fun h => by have := HQ.out; omega) (fun h => by have := HQ.out; omega) (fun h => by have := HQ.out; omega) (fun h => by have := HQ.out; omega) (fun h => by have := HQ.out; omega), HST.out.write 1 rfl 3 (.int .i64 (qc))⟩
      · obtain rfl : fa = #[114, 110] := HFA.out.symm
        have hk2 : k = 0 ∨ k = 1 := by have : k < 2 := hlt; omega
        rcases hk2 with rfl | rfl
        · go_wp2_with fail
          go_roundg (2 - (0 + 1))
          case measure => have h := HG.out; simp at h; omega
          case rel => exact ⟨1, (r5 : Int), s, n, rfl, by go_num, HT.out.setR rfl r5 HQ.out.1, HST.out.write 1 rfl 1 (.int .i64 (r5))⟩
        · go_wp2_with fail
          go_roundg (2 - (1 + 1))
          case measure => have h := HG.out; simp at h; omega
          case rel => exact ⟨2, r, s, (qr : Int), rfl, by go_num, HT.out.setN rfl _ (fun h => by have := HQ.out; omega) (fun h => by have := HQ.out; omega) (fun h => by have := HQ.out; omega) (fun h => by have := HQ.out; omega) (fun h => by have := HQ.out; omega), HST.out.write 1 rfl 3 (.int .i64 (qr))⟩
      · obtain rfl : fa = #[114, 110] := HFA.out.symm
        have hk2 : k = 0 ∨ k = 1 := by have : k < 2 := hlt; omega
        rcases hk2 with rfl | rfl
        · go_wp2_with fail
          go_roundg (2 - (0 + 1))
          case measure => have h := HG.out; simp at h; omega
          case rel => exact ⟨1, (r5 : Int), s, n, rfl, by go_num, HT.out.setR rfl r5 HQ.out.1, HST.out.write 1 rfl 1 (.int .i64 (r5))⟩
        · go_wp2_with fail
          go_roundg (2 - (1 + 1))
          case measure => have h := HG.out; simp at h; omega
          case rel => exact ⟨2, r, s, (qr : Int), rfl, by go_num, HT.out.setN rfl _ (fun h => by have := HQ.out; omega) (fun h => by have := HQ.out; omega) (fun h => by have := HQ.out; omega) (fun h => by have := HQ.out; omega) (fun h => by have := HQ.out; omega), HST.out.write 1 rfl 3 (.int .i64 (qr))⟩
      · obtain rfl : fa = #[114, 110] := HFA.out.symm
        have hk2 : k = 0 ∨ k = 1 := by have : k < 2 := hlt; omega
        rcases hk2 with rfl | rfl
        · go_wp2_with fail
          go_roundg (2 - (0 + 1))
          case measure => have h := HG.out; simp at h; omega
          case rel => exact ⟨1, (r5 : Int), s, n, rfl, by go_num, HT.out.setR rfl r5 HQ.out.1, HST.out.write 1 rfl 1 (.int .i64 (r5))⟩
        · go_wp2_with fail
          go_roundg (2 - (1 + 1))
          case measure => have h := HG.out; simp at h; omega
          case rel => exact ⟨2, r, s, (n1 : Int), rfl, by go_num, HT.out.setN rfl _ (fun h => by have := HQ.out; omega) (fun h => by have := HQ.out; omega) (fun h => by have := HQ.out; omega) (fun h => by have := HQ.out; omega) (fun h => by have := HQ.out; omega), HST.out.write 1 rfl 3 (.int .i64 (n1))⟩
      · obtain rfl : fa = #[] := HFA.out.symm
        exact absurd hlt (by show ¬ k < 0; omega)
      · obtain rfl : fa = #[114] := HFA.out.symm
        obtain rfl : k = 0 := by have : k < 1 := hlt; omega
        go_wp2_with fail
        go_roundg (1 - (0 + 1))
        case measure => have h := HG.out; simp at h; omega
        case rel => exact ⟨1, (r5 : Int), s, n, rfl, by go_num, HT.out.setR rfl r5 HQ.out.1, HST.out.write 1 rfl 1 (.int .i64 (r5))⟩
      · obtain rfl : fa = #[114, 110] := HFA.out.symm
        have hk2 : k = 0 ∨ k = 1 := by have : k < 2 := hlt; omega
        rcases hk2 with rfl | rfl
        · go_wp2_with fail
          go_roundg (2 - (0 + 1))
          case measure => have h := HG.out; simp at h; omega
          case rel => exact ⟨1, (r5 : Int), s, n, rfl, by go_num, HT.out.setR rfl r5 HQ.out.1, HST.out.write 1 rfl 1 (.int .i64 (r5))⟩
        · go_wp2_with fail
          go_roundg (2 - (1 + 1))
          case measure => have h := HG.out; simp at h; omega
          case rel => exact ⟨2, r, s, (qm : Int), rfl, by go_num, HT.out.setN rfl _ (fun h => by have := HQ.out; omega) (fun h => by have := HQ.out; omega) (fun h => by have := HQ.out; omega) (fun h => by have := HQ.out; omega) (fun h => by have := HQ.out; omega), HST.out.write 1 rfl 3 (.int .i64 (qm))⟩
      · obtain rfl : fa = #[110] := HFA.out.symm
        obtain rfl : k = 0 := by have : k < 1 := hlt; omega
        go_wp2_with fail
        go_roundg (1 - (0 + 1))
        case measure => have h := HG.out; simp at h; omega
        case rel => exact ⟨1, r, s, (qm : Int), rfl, by go_num, HT.out.setN rfl _ (fun h => by have := HQ.out; omega) (fun h => by have := HQ.out; omega) (fun h => by have := HQ.out; omega) (fun h => by have := HQ.out; omega) (fun h => by have := HQ.out; omega), HST.out.write 1 rfl 3 (.int .i64 (qm))⟩
      · obtain rfl : fa = #[114] := HFA.out.symm
        obtain rfl : k = 0 := by have : k < 1 := hlt; omega
        go_wp2_with fail
        go_roundg (1 - (0 + 1))
        case measure => have h := HG.out; simp at h; omega
        case rel => exact ⟨1, (r5 : Int), s, n, rfl, by go_num, HT.out.setR rfl r5 HQ.out.1, HST.out.write 1 rfl 1 (.int .i64 (r5))⟩
    · obtain rfl : k = fa.size := by omega
      have hb0 := HST.out.blk 0 rfl
      have HB0 := Lib.hid hb0
      have HKP := Lib.hid (Keep.ofSt HST.out)
      obtain ⟨g0, hg0⟩ : ∃ g, g = w.heap.size := ⟨_, rfl⟩
      rw [← hg0] at HB0 ⊢
      have HG0 := Lib.hid (show w.heap.size ≤ g0 by omega)
      clear hg0 hb0
      go_wp2_with (refine wpList_store_row rfl 87 _ _ rfl g0 #[.int .i64 op, .int .i64 r, .int .i64 s, .int .i64 n] rfl rfl 87 _ HB0.out (by kernel_rfl) rfl (by kernel_rfl) ?_)
      refine bodyPost_ret (results_cell_row (P := Try.prog) rfl _ _ g0 87 #[.int .i64 op, .int .i64 r, .int .i64 s, .int .i64 n] (0, 0) _ rfl (setRow_heap _ _ _ _ _ _ HB0.out) Try.underlying87 rfl (by kernel_rfl)) rfl ⟨⟨op, r, s, n⟩, rfl, HT.out, HKP.out.setRow (.inr HG0.out) _⟩
end Go.Proofs.Ytbigknmeooaidaa
