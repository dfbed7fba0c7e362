/-
  DepsBounds: as many systems may be as the bound says; who waits for itself, or nobody, is refused.
-/
import Derived.Test.YtfjamllkjofdbaaLaw22
import Derived.Test.YtfjamllkjofdbaaMake
namespace Go.Proofs.Ytfjamllkjofdbaa
open Go Go.RowKit
set_option linter.unusedVariables false
set_option linter.unusedSimpArgs false

theorem aftOf_replicate (n i : Nat) : aftOf (List.replicate n []) i = [] := by
  unfold aftOf
  rw [List.getD_eq_getElem?_getD, List.getElem?_replicate]
  split <;> rfl
theorem chk_none (n : Nat) : chk (List.replicate n []) = if 64 < n then 2 else 0 := by
  by_cases h : 64 < n
  · unfold chk
    rw [if_pos (by simpa using h), if_pos h]
  · rw [if_neg h]
    have hb : badSys (List.replicate n []) = false := badSys_no (fun j hj => by rw [aftOf_replicate]; rfl)
    exact chk_is (by simp; omega) hb (ord_full _ (fun _ => 0) hb (fun i j _ _ hm => by rw [aftOf_replicate] at hm; cases hm))
theorem aftOf_set (n k i : Nat) (tt : List Int) (hk : k < n) : aftOf ((List.replicate n []).set k tt) i = if i = k then tt else [] := by
  unfold aftOf
  rw [List.getD_eq_getElem?_getD, List.getElem?_set]
  by_cases h : k = i
  · subst h
    simp [hk]
  · rw [if_neg h, if_neg (fun e => h e.symm)]
    exact aftOf_replicate n i
theorem chk_one (k t : Nat) (hk : k < 50) (ht : t < 50) (hne : t ≠ k) : chk ((List.replicate 50 []).set k [(t : Int)]) = 0 ∧ (ord ((List.replicate 50 []).set k [(t : Int)])).length = 50 := by
  have hb : badSys ((List.replicate 50 []).set k [(t : Int)]) = false := badSys_no (fun j hj => by
    rw [aftOf_set 50 k j _ hk]
    split
    · rename_i e
      subst e
      simp [badAt]
      omega
    · rfl)
  have hf := ord_full ((List.replicate 50 []).set k [(t : Int)]) (fun i => if i = k then 1 else 0) hb (fun i j hi hj hm => by
    rw [aftOf_set 50 k i _ hk] at hm
    split at hm
    · rename_i e
      simp at hm
      have : j = t := by omega
      subst this
      simp [e, hne]
    · cases hm)
  simp only [List.length_set, List.length_replicate] at hf
  exact ⟨chk_is (by simp) hb (by simpa using hf), hf⟩
theorem chk_bad (l : List (List Int)) (k : Nat) (t : Int) (hk : k < 50) (hl : l.length = 50) (ht : t < 0 ∨ 50 ≤ t ∨ t = k) : chk (l.set k [t]) = 1 := by
  have hb : badSys (l.set k [t]) = true := badSys_of (k := k) (by simp; omega) (by
    have : aftOf (l.set k [t]) k = [t] := by
      unfold aftOf
      rw [List.getD_eq_getElem?_getD, List.getElem?_set_self (by omega)]
      rfl
    rw [this]
    simp [badAt, hl]
    omega)
  unfold chk
  rw [if_neg (by simp; omega), if_pos hb]

theorem sysZero : (Value.agg #[.slice none 0 0, .slice none 0 0, .slice none 0 0, .slice none 0 0, .bool false, .slice none 0 0, .slice none 0 0, .slice none 0 0]).cells.toList = (sysOf nilV []).cells := rfl
theorem make_sys {w0 w : World} {L : List Asr} (h : St w0 w L) (n : Nat) (hn : n ≤ 100000) :
    ∃ w', (Instr.makeSlice 22 (.int .i64 (n : Int)) (.int .i64 (n : Int))).run Try.prog w = .ok (.slice (some ⟨w.heap.size, 0, none⟩) n n) w' ∧
      St w0 w' (L ++ [slA 31 8 (.slice (some ⟨w.heap.size, 0, none⟩) n n) n ((List.replicate n (sysOf nilV [])).flatMap SysV.cells)]) := by
  obtain ⟨w', h1, h2⟩ := h.make (P := Try.prog) (t := 22) (e := 31) (size := 8) (bytes := 176) (.agg #[.slice none 0 0, .slice none 0 0, .slice none 0 0, .slice none 0 0, .bool false, .slice none 0 0, .slice none 0 0, .slice none 0 0])
    Try.underlying22 (by kernel_rfl) rfl (by decide) .i64 .i64 n (by omega) (by unfold maxLen; omega)
  refine ⟨w', h1, ?_⟩
  rw [sysZero, ← flat_replicate SysV.cells] at h2
  exact h2

/-- Systems of the call's own, and what one of them waits for: as they are read. -/
theorem St.sys {w0 w : World} {L : List Asr} (H : St w0 w L) (i j : Nat) {v : Value} {n : Nat} {l : List SysV} (hn : l.length = n) {tt : Int} {g : Nat}
    (hi : L[i]? = some (slA 31 8 v n (l.flatMap SysV.cells))) (hj : L[j]? = some (slA 3 1 (.slice (some ⟨g, 0, none⟩) 1 1) 1 (ints [tt])))
    (hl : ∀ x, x ∈ l → x = sysOf nilV [] ∨ x = sysOf ⟨some ⟨g, 0, none⟩, 1, 1⟩ [tt]) : ∃ S : Nat → Prop, RdSys S w v l ∧ ∀ x, S x → x < w.heap.size := by
  subst hn
  obtain ⟨G, _, hr, hb⟩ := H.rd i hi
  obtain ⟨G2, _, hr2, hb2⟩ := H.rd j hj
  refine ⟨fun x => G x ∨ G2 x, ⟨hr.mono (fun _ h => .inl h), fun x hx => ?_⟩, fun x hx => hx.elim (fun h => (hb x h).2) (fun h => (hb2 x h).2)⟩
  rcases hl x hx with rfl | rfl
  · exact ⟨rfl, rd_nil _ _⟩
  · exact ⟨rfl, hr2.mono (fun _ h => .inr h)⟩

theorem size_setCell (w : World) (p : Addr) (u : Value) : (w.setCell p u).heap.size = w.heap.size := by simp [World.setCell]
theorem rep_get {α : Type} (n k : Nat) (x : α) (hk : k < n) : (List.replicate n x)[k]? = some x := by simp [hk]
theorem rep_get2 {α : Type} (n k : Nat) (x y : α) (hk : k < n) : ((List.replicate n x).set k y)[k]? = some y := by simp [hk]
theorem rep_set (n k : Nat) (hk : k < n) (af : SlV) (tt : List Int) : ((List.replicate n (sysOf nilV [])).flatMap SysV.cells).set (k * 8 + 7) (.slice af.a af.n af.c) = ((List.replicate n (sysOf nilV [])).set k (sysOf af tt)).flatMap SysV.cells :=
  flat_set SysV.cells 8 (fun _ => rfl) (sysOf af tt) 7 _ (by decide) _ k (sysOf nilV []) (rep_get n k _ hk) rfl
theorem rep_set2 (n k : Nat) (hk : k < n) (af af2 : SlV) (tt tt2 : List Int) : (((List.replicate n (sysOf nilV [])).set k (sysOf af tt)).flatMap SysV.cells).set (k * 8 + 7) (.slice af2.a af2.n af2.c) = ((List.replicate n (sysOf nilV [])).set k (sysOf af2 tt2)).flatMap SysV.cells :=
  (flat_set SysV.cells 8 (fun _ => rfl) (sysOf af2 tt2) 7 _ (by decide) _ k (sysOf af tt) (rep_get2 n k _ _ hk) rfl).trans (by rw [List.set_set])
theorem mem_rep_set {n k : Nat} {y : SysV} : ∀ x, x ∈ (List.replicate n (sysOf nilV [])).set k y → x = sysOf nilV [] ∨ x = y := by
  intro x hx
  rcases List.mem_or_eq_of_mem_set hx with h | h
  · exact .inl (List.mem_replicate.1 h).2
  · exact .inr h
theorem afts_rep_set (k : Nat) (y : SysV) : aftsOf ((List.replicate 50 (sysOf nilV [])).set k y) = (List.replicate 50 []).set k y.aft := by
  unfold aftsOf
  rw [List.map_set, List.map_replicate]
  rfl

set_option maxRecDepth 100000 in
set_option maxHeartbeats 4000000 in
theorem depsBounds_walk (x y z : Int) (w : World) :
    Calls Try.prog 3 #[.int .i64 x, .int .i64 y, .int .i64 z] w (RetTrue w) := by
  obtain ⟨K, hK, hK16⟩ : ∃ K : Nat, bits .and .i64 x 15 = (K : Int) ∧ K < 16 := by
    rw [and_mask x 4 15 (by omega) rfl]
    exact ⟨(x % 16).toNat, by omega, by omega⟩
  obtain ⟨k, hk, hk50⟩ : ∃ k : Nat, (bits .and .i64 y 65535).tmod 50 = (k : Int) ∧ k < 50 := and_mod y 50 (by decide)
  obtain ⟨N, hN⟩ : ∃ N, N = K + 55 := ⟨_, rfl⟩
  have hNi : (K : Int) + 55 = (N : Int) := by omega
  have hN1 : 55 ≤ N := by omega
  have hN2 : N ≤ 70 := by omega
  have hN3 : (N : Int) ≤ 70 := by omega
  have hN4 : (55 : Int) ≤ N := by omega
  clear hN hK16
  obtain ⟨w1, hmk, hst⟩ := make_sys (St.start w) N (by omega)
  have H1 := Lib.hid hst; clear hst
  obtain ⟨g, hg⟩ : ∃ g, w.heap.size = g := ⟨_, rfl⟩
  rw [hg] at hmk H1
  clear hg
  obtain ⟨cN, hcN⟩ : ∃ cN : Int, cN = if 64 < N then 2 else 0 := ⟨_, rfl⟩
  have HCN := Lib.hid (show chk (aftsOf (List.replicate N (sysOf nilV []))) = cN by
    rw [hcN, ← chk_none]
    unfold aftsOf
    rw [List.map_replicate]
    rfl)
  by_cases h64 : 64 < N
  all_goals
    first
    | (rw [if_pos h64] at hcN)
    | (rw [if_neg h64] at hcN)
    subst hcN
    first
    | have h64' : (64 : Int) < N := by omega
    | have h64' : ¬ (64 : Int) < N := by omega
    clear h64
    go_enter Try.func3, Try.ntmps3
    go_wp2_with fail
    obtain ⟨S, hR, _⟩ : ∃ S : Nat → Prop, RdSys S w1 (.slice (some ⟨g, 0, none⟩) N N) (List.replicate N (sysOf nilV [])) ∧ True := by
      obtain ⟨G, _, hr, hb⟩ := H1.out.rd 0 rfl
      exact ⟨G, ⟨by simpa using hr, fun x hx => by rw [(List.mem_replicate.1 hx).2]; exact ⟨rfl, rd_nil _ _⟩⟩, trivial⟩
    have HR := Lib.hid hR; clear hR
    refine (deps_check _ _ _ S HR.out).mono ?_
    rw [HCN.out]
    rintro e w2 ⟨rfl, hk2⟩
    have H3 := Lib.hid (show St w w2 [slA 31 8 (.slice (some ⟨g, 0, none⟩) 50 N) 50 ((List.replicate 50 (sysOf nilV [])).flatMap SysV.cells)] by
      have h := (H1.out.keep hk2).cut 0 rfl 50 (by omega)
      rw [flat_take SysV.cells 8 (fun _ => rfl), List.take_replicate, Nat.min_eq_left (by omega)] at h
      exact h)
    clear HR H1 hk2 HCN hmk
    obtain ⟨g', hg', hlt, hf, hc, hst⟩ := H3.out.store 0 rfl (by decide)
    injection hg' with hg'
    injection hg' with hg'
    subst hg'
    have hf7 := hf (k * 8 + 7)
    have hc7 : w2.cell? ⟨g, k * 8 + 7, none⟩ = some (.slice none 0 0) := by
      rw [hc _ (by omega)]
      exact flat_get SysV.cells 8 (fun _ => rfl) _ k 7 (sysOf nilV []) (rep_get 50 k _ hk50) (by decide)
    have HST := Lib.hid hst
    clear hf hc hst
    by_cases hA : 0 ≤ z ∧ z < 50 ∧ z ≠ k
    · obtain ⟨z1, z2, z3⟩ := hA
      obtain ⟨t, rfl⟩ : ∃ t : Nat, z = t := ⟨z.toNat, by omega⟩
      have ht50 : t < 50 := by omega
      have htk : t ≠ k := by omega
      have hne : ((t : Int) != (k : Int)) = true := by simp; omega
      obtain ⟨q1, q2⟩ := chk_one k t hk50 ht50 htk
      have Q1 := Lib.hid q1; clear q1
      have Q2 := Lib.hid q2; clear q2
      have Q3 := Lib.hid (chk_bad ((List.replicate 50 []).set k [(t : Int)]) k k hk50 (by simp) (.inr (.inr rfl)))
      clear z3 htk
      go_wp2_with fail
      have hst4 := HST.out (k * 8 + 7) (.slice (some ⟨w2.heap.size, 0, none⟩) 1 1)
      rw [rep_set 50 k hk50 ⟨some ⟨w2.heap.size, 0, none⟩, 1, 1⟩ [(t : Int)]] at hst4
      have hst5 := hst4.lit 3 1 1 #[.int .i64 (t : Int)] (by decide) rfl
      rw [size_setCell] at hst5
      have H5 := Lib.hid hst5; clear hst5 hst4 HST hf7 hc7 H3
      obtain ⟨S, hR, _⟩ := H5.out.sys 0 1 (by rw [List.length_set, List.length_replicate]) rfl rfl (fun x hx => mem_rep_set x hx)
      have HR := Lib.hid hR; clear hR
      refine (deps_Order _ _ _ S HR.out).mono ?_
      rintro e w3 ⟨ao, no, co, rfl, hk3, ho3⟩
      have hch : chk (aftsOf ((List.replicate 50 (sysOf nilV [])).set k (sysOf ⟨some ⟨w2.heap.size, 0, none⟩, 1, 1⟩ [(t : Int)]))) = 0 := by rw [afts_rep_set]; exact Q1.out
      have hno : no = 50 := by
        have h := ho3.len
        rw [if_pos hch, ints_len, nats_len, afts_rep_set] at h
        have := Q2.out
        simp only [sysOf] at h
        omega
      subst hno
      rw [hch]
      have H6 := Lib.hid (H5.out.keep hk3)
      clear hch ho3 hk3 HR H5
      obtain ⟨g', hg', hlt6, hf, hc, hst⟩ := H6.out.store 0 rfl (by decide)
      injection hg' with hg'
      injection hg' with hg'
      subst hg'
      have hf7 := hf (k * 8 + 7)
      have hc7 : w3.cell? ⟨g, k * 8 + 7, none⟩ = some (.slice (some ⟨w2.heap.size, 0, none⟩) 1 1) := by
        rw [hc _ (by omega)]
        exact flat_get SysV.cells 8 (fun _ => rfl) _ k 7 (sysOf ⟨some ⟨w2.heap.size, 0, none⟩, 1, 1⟩ [(t : Int)]) (rep_get2 50 k _ _ hk50) (by decide)
      have HST := Lib.hid hst
      clear hf hc hst
      go_wp2_with fail
      have hst7 := HST.out (k * 8 + 7) (.slice (some ⟨w3.heap.size, 0, none⟩) 1 1)
      rw [rep_set2 50 k hk50 ⟨some ⟨w2.heap.size, 0, none⟩, 1, 1⟩ ⟨some ⟨w3.heap.size, 0, none⟩, 1, 1⟩ [(t : Int)] [(k : Int)]] at hst7
      have hst8 := hst7.lit 3 1 1 #[.int .i64 (k : Int)] (by decide) rfl
      rw [size_setCell] at hst8
      have H8 := Lib.hid hst8; clear hst8 hst7 HST hf7 hc7 H6
      obtain ⟨S, hR, _⟩ := H8.out.sys 0 2 (by rw [List.length_set, List.length_replicate]) rfl rfl (fun x hx => mem_rep_set x hx)
      have HR := Lib.hid hR; clear hR
      refine (deps_check _ _ _ S HR.out).mono ?_
      have hch : chk (aftsOf ((List.replicate 50 (sysOf nilV [])).set k (sysOf ⟨some ⟨w3.heap.size, 0, none⟩, 1, 1⟩ [(k : Int)]))) = 1 := by
        rw [afts_rep_set]
        have h := Q3.out
        rw [List.set_set] at h
        exact h
      rw [hch]
      rintro e w4 ⟨rfl, hk4⟩
      have HB := Lib.hid (H8.out.keep hk4).bel
      clear hk4 hch HR H8
      go_wp2_with fail
      refine (awake22 _).mono ?_
      rintro e w5 ⟨rfl, hb5⟩
      have HB5 := Lib.hid (HB.out.trans (hb5.mono HB.out.size))
      clear hb5
      go_wp2_with fail
      go_ret
      exact ⟨rfl, HB5.out⟩
    · have hbad : z < 0 ∨ 50 ≤ z ∨ z = k := by omega
      have Q3 := Lib.hid (chk_bad (List.replicate 50 []) k z hk50 (by simp) hbad)
      clear hA
      rcases hbad with hb | hb | hb
      all_goals
        first
        | subst hb
        | skip
        go_wp2_with fail
        first
        | (have hz0 : z = z := rfl; clear hz0)
        | (generalize hz : (k : Int) = z at Q3 ⊢)
        have hst4 := HST.out (k * 8 + 7) (.slice (some ⟨w2.heap.size, 0, none⟩) 1 1)
        rw [rep_set 50 k hk50 ⟨some ⟨w2.heap.size, 0, none⟩, 1, 1⟩ [z]] at hst4
        have hst5 := hst4.lit 3 1 1 #[.int .i64 z] (by decide) rfl
        rw [size_setCell] at hst5
        have H5 := Lib.hid hst5; clear hst5 hst4 HST hf7 hc7 H3
        obtain ⟨S, hR, _⟩ := H5.out.sys 0 1 (by rw [List.length_set, List.length_replicate]) rfl rfl (fun x hx => mem_rep_set x hx)
        have HR := Lib.hid hR; clear hR
        refine (deps_check _ _ _ S HR.out).mono ?_
        have hch := Q3.out
        rw [afts_rep_set]
        simp only [sysOf]
        rw [hch]
        rintro e w4 ⟨rfl, hk4⟩
        have HB := Lib.hid (H5.out.keep hk4).bel
        clear hk4 hch HR H5
        go_wp2_with fail
        refine (awake22 _).mono ?_
        rintro e w5 ⟨rfl, hb5⟩
        have HB5 := Lib.hid (HB.out.trans (hb5.mono HB.out.size))
        clear hb5
        go_wp2_with fail
        go_ret
        exact ⟨rfl, HB5.out⟩
end Go.Proofs.Ytfjamllkjofdbaa
