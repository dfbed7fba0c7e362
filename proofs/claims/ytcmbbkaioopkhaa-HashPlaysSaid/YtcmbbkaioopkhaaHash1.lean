/-
  The package hash: the struct as a claim; where an index stands.
-/
import Derived.Test.YtcmbbkaioopkhaaHome
import Derived.Test.YtcmbbkaioopkhaaHashU
import Derived.Test.YtcmbbkaioopkhaaMake
import Derived.Test.YtcmbbkaioopkhaaStar
import Derived.Test.YtcmbbkaioopkhaaHeld
namespace Go.Proofs.Ytcmbbkaioopkhaa
open Go Go.RowKit
set_option linter.unusedVariables false
set_option linter.unusedSimpArgs false

def hmO (n : Nat) (i : Int) : Nat := (homeOf i n).toNat
/-- A size that may be. -/
def Pow (n : Nat) : Prop := ∃ k, k ≤ 17 ∧ n = 8 * 2 ^ k
theorem Pow.cases {n : Nat} (h : Pow n) : n = 8 ∨ n = 16 ∨ n = 32 ∨ n = 64 ∨ n = 128 ∨ n = 256 ∨ n = 512 ∨ n = 1024 ∨ n = 2048 ∨ n = 4096 ∨ n = 8192 ∨ n = 16384 ∨ n = 32768 ∨ n = 65536 ∨ n = 131072 ∨ n = 262144 ∨ n = 524288 ∨ n = 1048576 := by
  obtain ⟨k, hk, rfl⟩ := h
  have : k = 0 ∨ k = 1 ∨ k = 2 ∨ k = 3 ∨ k = 4 ∨ k = 5 ∨ k = 6 ∨ k = 7 ∨ k = 8 ∨ k = 9 ∨ k = 10 ∨ k = 11 ∨ k = 12 ∨ k = 13 ∨ k = 14 ∨ k = 15 ∨ k = 16 ∨ k = 17 := by omega
  rcases this with rfl | rfl | rfl | rfl | rfl | rfl | rfl | rfl | rfl | rfl | rfl | rfl | rfl | rfl | rfl | rfl | rfl | rfl <;> simp
theorem Pow.may {n : Nat} (h : Pow n) (i : Int) (h0 : 0 ≤ i) (h1 : i < 65536) : mayHome i n = true := by
  rcases h.cases with rfl | rfl | rfl | rfl | rfl | rfl | rfl | rfl | rfl | rfl | rfl | rfl | rfl | rfl | rfl | rfl | rfl | rfl <;> simp [mayHome, h0, h1] <;> decide
theorem Pow.lt {n : Nat} (h : Pow n) (i : Int) (h0 : 0 ≤ i) (h1 : i < 65536) : 0 ≤ homeOf i n ∧ homeOf i n < n := by
  unfold homeOf
  have a1 : 0 ≤ i * 2654435761 % 4294967296 := by omega
  have a2 : i * 2654435761 % 4294967296 < 4294967296 := by omega
  rcases h.cases with rfl | rfl | rfl | rfl | rfl | rfl | rfl | rfl | rfl | rfl | rfl | rfl | rfl | rfl | rfl | rfl | rfl | rfl <;> simp <;> omega
theorem Pow.home {n : Nat} (h : Pow n) : ∀ i : Int, 0 ≤ i → i < 65536 → hmO n i < n := fun i h0 h1 => by
  have := h.lt i h0 h1
  unfold hmO
  omega
theorem Pow.eq {n : Nat} (h : Pow n) (i : Int) (h0 : 0 ≤ i) (h1 : i < 65536) : homeOf i n = (hmO n i : Int) := by
  have := h.lt i h0 h1
  unfold hmO
  omega
theorem Pow.pos {n : Nat} (h : Pow n) : 8 ≤ n ∧ n ≤ 1048576 := by
  rcases h.cases with rfl | rfl | rfl | rfl | rfl | rfl | rfl | rfl | rfl | rfl | rfl | rfl | rfl | rfl | rfl | rfl | rfl | rfl <;> omega
theorem Pow.eight : Pow 8 := ⟨0, by omega, rfl⟩
theorem Pow.twice {n : Nat} (h : Pow n) (hn : n ≤ 524288) : Pow (2 * n) := by
  obtain ⟨k, hk, rfl⟩ := h
  refine ⟨k + 1, ?_, by rw [Nat.pow_succ]; omega⟩
  rcases Nat.lt_or_ge k 17 with c | c
  · omega
  · have : k = 17 := by omega
    subst this
    simp at hn

def SlotV.cells (s : SlotV) : List Value := [.int .i64 s.kind, .int .i64 s.idx, .int .i64 s.vk, .int .i64 s.va, .int .i64 s.vb]
def flatSl (l : List SlotV) : List Value := l.flatMap SlotV.cells
theorem flatSl_len (l : List SlotV) : (flatSl l).length = l.length * 5 := flat_length SlotV.cells 5 (fun _ => rfl) l
theorem slSl : SlTy Try.prog 76 79 5 40 := SlTy.mk' (.agg #[.int .i64 0, .int .i64 0, .int .i64 0, .int .i64 0, .int .i64 0]) Try.underlying76 (by kernel_rfl) rfl (by decide)
def hashPs (b : Nat) (l : List SlotV) (p : Option Addr × Nat) : List Asr :=
  [blkA b #[.int .i64 (cntK 1 l), .int .i64 (cntK 2 l), .slice p.1 l.length p.2] 92, slA 79 5 (.slice p.1 l.length p.2) l.length (flatSl l)]
def hashA (b : Nat) (l : List SlotV) : Asr := exA (fun p => starA (hashPs b l p))
def Ret (w : World) (v : Value) (en : Ending) (w' : World) : Prop := en = .returned v ∧ Keep w w' Nope

theorem ps_next (n h d : Nat) : (ps n h d + 1) % n = ps n h (d + 1) := by
  unfold ps
  rw [Nat.mod_add_mod, Nat.add_assoc]
structure FindInv (l : List SlotV) (x : Int) (d : Nat) (free : Int) (F : Int × Int) : Prop where
  val : probe l x (hmO l.length x) (l.length - d) d free = F
  go : ∀ e, e < d → goOn l x (hmO l.length x) e
  free : freeOk l (hmO l.length x) d free
theorem FindInv.stop0 {l : List SlotV} {x : Int} {d p : Nat} {free : Int} {F : Int × Int} (h : FindInv l x d free F) (hd : d < l.length) (hp : p = ps l.length (hmO l.length x) d) (hk : (sl l p).kind = 0) : F = (-1, if free < 0 then (p : Int) else free) := by
  have hv := h.val
  rw [show l.length - d = (l.length - (d + 1)) + 1 by omega, probe, ← hp, if_pos hk] at hv
  exact hv.symm
theorem FindInv.stop1 {l : List SlotV} {x : Int} {d p : Nat} {free : Int} {F : Int × Int} (h : FindInv l x d free F) (hd : d < l.length) (hp : p = ps l.length (hmO l.length x) d) (hk : (sl l p).kind = 1) (hx : (sl l p).idx = x) : F = ((p : Int), -1) := by
  have hv := h.val
  rw [show l.length - d = (l.length - (d + 1)) + 1 by omega, probe, ← hp, if_neg (by rw [hk]; decide), if_pos ⟨hk, hx⟩] at hv
  exact hv.symm
theorem FindInv.next {l : List SlotV} {x : Int} {d p : Nat} {free : Int} {F : Int × Int} (h : FindInv l x d free F) (hd : d < l.length) (hp : p = ps l.length (hmO l.length x) d) (hg : goOn l x (hmO l.length x) d) (f2 : Int) (hf : (if (sl l p).kind = 2 ∧ free < 0 then (p : Int) else free) = f2) : FindInv l x (d + 1) f2 F := by
  have hv := h.val
  have h1 := hg.1
  have h2 := hg.2
  rw [← hp] at h1 h2
  rw [show l.length - d = (l.length - (d + 1)) + 1 by omega, probe, ← hp, if_neg h1, if_neg h2] at hv
  subst hf
  refine ⟨hv, fun e he => ?_, ?_⟩
  · by_cases e' : e = d
    · exact e' ▸ hg
    · exact h.go e (by omega)
  · rw [hp]; exact freeOk_next h.free
theorem goOn_lt {l : List SlotV} {x : Int} {h d D : Nat} (hgo : ∀ e, e < d → goOn l x h e) (hg : goOn l x h d) (hD : ¬ goOn l x h D) : d + 1 ≤ D := by
  rcases Nat.lt_or_ge d D with c | c
  · exact c
  · rcases Nat.lt_or_ge D d with c2 | c2
    · exact absurd (hgo D c2) hD
    · have : D = d := by omega
      exact absurd (this ▸ hg) hD
def LoopFind (w : World) (l : List SlotV) (x : Int) (F : Int × Int) (g : Nat) (v5 v6 : Value) (wr : World) : Prop :=
  ∃ (d : Nat) (free : Int) (p : Nat), g + d = l.length ∧ d < l.length ∧ p = ps l.length (hmO l.length x) d ∧ v5 = .int .i64 free ∧ v6 = .int .i64 (p : Int) ∧ FindInv l x d free F ∧ Keep w wr Nope

set_option maxHeartbeats 2000000 in
theorem hash_find {w0 w : World} {L : List Asr} {b : Nat} {l : List SlotV} (H : St w0 w L) (i : Nat) (hi : L[i]? = some (hashA b l)) (hT : Tab hmO l) (hP : Pow l.length) (x : Int) (h0 : 0 ≤ x) (h1 : x < 65536) :
    Calls Try.prog 47 #[.pointer (some ⟨b, 0, none⟩), .int .i64 x] w (Ret w (.tuple #[.int .i64 (findS hmO l x).1, .int .i64 (findS hmO l x).2])) := by
  obtain ⟨⟨a, c⟩, h⟩ := H.exSplit i hi
  obtain ⟨D, hD, hDs⟩ : ∃ D, D < l.length ∧ ¬ goOn l x (hmO l.length x) D := by
    obtain ⟨p, hp, hk⟩ := hT.gap
    obtain ⟨d, hd, he⟩ := ps_onto hp (hT.home x h0 h1)
    exact ⟨d, hd, fun hg => hg.1 (by rw [he]; exact hk)⟩
  have HDS := Lib.hid hDs
  have HP := hP.pos
  obtain ⟨⟨fa, ff⟩, hF⟩ : ∃ F, findS hmO l x = F := ⟨_, rfl⟩
  have HF := Lib.hid hF
  rw [hF]
  have HC := Lib.hid (hash_home_yes x l.length w (hP.may x h0 h1))
  rw [hP.eq x h0 h1] at HC
  have HWF := Lib.hid hT.wf
  obtain ⟨n, hn⟩ : ∃ n, l.length = n := ⟨_, rfl⟩
  unfold hashPs at h
  rw [hn] at h HC hD HP
  have c2 := (h.blk 0 rfl).cell 2
  simp at c2
  obtain ⟨S, hown, hrd, _⟩ := h.rd 1 rfl
  obtain ⟨bs, os, rfl, _, _⟩ := (show Rd S w (.slice a n c) n (flatSl l) from hrd).elem (cells := SlotV.cells) (size := 5) (fun _ => rfl) (by decide) (sl_get (p := 0) (by omega))
  have hcap := hown.cap
  have HRD := Lib.hid hrd
  have HNN := Lib.hid hn
  unfold maxLen at hcap
  have hn1 : n ≤ 1048576 := HP.2
  have hn8 : (8 : Int) ≤ n := by have := HP.1; omega
  have hhl : hmO n x < n := by have := hT.home x h0 h1; rw [hn] at this; exact this
  clear hi hF hn hown hrd hDs hT hP H h HP
  go_enter Try.func47, Try.ntmps47
  go_wp2_with fail
  refine (HC.out).mono ?_
  rintro e w1 ⟨rfl, rfl⟩
  go_wp2_with fail
  go_loopg [5, 6] n (fun g v5 v6 wr => LoopFind w l x (fa, ff) g v5 v6 wr)
  case atStart =>
    refine ⟨0, -1, hmO n x, HNN.out.symm, ?_, ?_, rfl, rfl, ⟨HF.out, fun e he => by omega, .inl rfl⟩, Keep.refl _ _⟩
    · rw [HNN.out]; omega
    · rw [HNN.out]; unfold ps; rw [Nat.add_zero, Nat.mod_eq_of_lt hhl]
  case round =>
    obtain ⟨d, free, p, hd, hdn, hp, rfl, rfl, hinv, hkp⟩ := hrel
    have HINV := Lib.hid hinv; clear hinv
    have HKP := Lib.hid hkp; clear hkp
    have HPP := Lib.hid hp
    rw [HNN.out] at hd hdn hp
    have hpn : p < n := by rw [hp]; exact ps_lt (by omega) _ _
    have HDN := Lib.hid (show d < l.length by rw [HNN.out]; exact hdn)
    obtain ⟨bs', os', hbe, _, hco⟩ := (HRD.out.keep HKP.out (fun _ _ f => f)).elem (cells := SlotV.cells) (size := 5) (fun _ => rfl) (by decide) (sl_get (l := l) (p := p) (by rw [HNN.out]; exact hpn))
    injection hbe with hbe
    injection hbe with e1 e2
    subst e1; subst e2
    have hwf := HWF.out p (by rw [HNN.out]; exact hpn)
    have d2 := HKP.out.cell c2 (fun f => f)
    have d2a : ∀ o, (wr.alloc o).cell? ⟨b, 2, none⟩ = some (.slice (some ⟨bs, os, none⟩) n c) := fun o => ((Keep.refl wr Nope).alloc o).cell d2 (fun f => f)
    have hpi : (p : Int) < n := by omega
    have hmod : ((p : Int) + 1) % (n : Int) = (ps n (hmO n x) (d + 1) : Int) := by
      rw [← ps_next, ← hp, Int.natCast_emod, Int.natCast_add]
      rfl
    have HGK := Lib.hid hd
    have HST0 := Lib.hid (fun hk => HINV.out.stop0 HDN.out HPP.out hk)
    have HST1 := Lib.hid (fun hk hx => HINV.out.stop1 HDN.out HPP.out hk hx)
    have HNX := Lib.hid (fun hg f2 hf => HINV.out.next HDN.out HPP.out hg f2 hf)
    have HGO := Lib.hid (show (sl l p).kind ≠ 0 → ¬ ((sl l p).kind = 1 ∧ (sl l p).idx = x) → goOn l x (hmO l.length x) d from fun a1 a2 => by unfold goOn; rw [← HPP.out]; exact ⟨a1, a2⟩)
    have HLT := Lib.hid (fun hg => goOn_lt HINV.out.go hg HDS.out)
    obtain ⟨s, hs⟩ : ∃ s, sl l p = s := ⟨_, rfl⟩
    rw [hs] at hwf hco HST0 HST1 HNX HGO
    obtain ⟨kind, idx, vk, va, vb⟩ := s
    have d3 := hco 0 (by decide)
    have d4 := hco 1 (by decide)
    have d5 := hco 2 (by decide)
    have d6 := hco 3 (by decide)
    have d7 := hco 4 (by decide)
    simp [SlotV.cells] at d3 d4 d5 d6 d7
    have hk3 : kind = 0 ∨ kind = 1 ∨ kind = 2 := by
      rcases hwf with e | e | e
      · injection e with e; exact .inl e
      · injection e with e; exact .inr (.inr e)
      · exact .inr (.inl e.1)
    clear hco hp hd hwf hs
    rcases hk3 with rfl | rfl | rfl
    · by_cases hf : free < 0
      · have hfd : decide (free < 0) = true := decide_eq_true hf
        have e := HST0.out rfl
        rw [if_pos hf] at e
        injection e with e1 e2
        subst e1; subst e2
        clear HST0 HST1 HNX HGO HLT
        go_wp2_with fail
        go_ret2
        exact ⟨rfl, HKP.out.alloc _⟩
      · have hfd : decide (free < 0) = false := decide_eq_false hf
        have e := HST0.out rfl
        rw [if_neg hf] at e
        injection e with e1 e2
        subst e1; subst e2
        clear HST0 HST1 HNX HGO HLT
        go_wp2_with fail
        go_ret2
        exact ⟨rfl, HKP.out.alloc _⟩
    · by_cases hx : idx = x
      · subst hx
        have e := HST1.out rfl rfl
        injection e with e1 e2
        subst e1; subst e2
        clear HST0 HST1 HNX HGO HLT
        go_wp2_with fail
        go_ret2
        exact ⟨rfl, HKP.out.alloc _⟩
      · have hxd : (idx == x) = false := beq_eq_false_iff_ne.2 hx
        have hg := HGO.out (show (1 : Int) ≠ 0 by decide) (fun h => hx h.2)
        have hx2 := HNX.out hg free (by simp)
        have hlt := HLT.out hg
        have HX2 := Lib.hid hx2
        have HLT2 := Lib.hid hlt
        clear hg hx2 hlt
        go_wp2_with fail
        go_roundg (n - (d + 1))
        case measure => have := HGK.out; omega
        case rel => exact ⟨d + 1, free, ps n (hmO n x) (d + 1), by rw [HNN.out]; omega, by have := HLT2.out; rw [HNN.out]; omega, by rw [HNN.out], rfl, rfl, HX2.out, HKP.out.alloc _⟩
    · have hg := HGO.out (show (2 : Int) ≠ 0 by decide) (fun h => by cases h.1)
      have hlt := HLT.out hg
      have HLT2 := Lib.hid hlt
      by_cases hf : free < 0
      · have hfd : decide (free < 0) = true := decide_eq_true hf
        have HX2 := Lib.hid (HNX.out hg p (by rw [if_pos ⟨rfl, hf⟩]))
        clear hg hlt
        go_wp2_with fail
        go_roundg (n - (d + 1))
        case measure => have := HGK.out; omega
        case rel => exact ⟨d + 1, p, ps n (hmO n x) (d + 1), by rw [HNN.out]; omega, by have := HLT2.out; rw [HNN.out]; omega, by rw [HNN.out], rfl, rfl, HX2.out, HKP.out.alloc _⟩
      · have hfd : decide (free < 0) = false := decide_eq_false hf
        have HX2 := Lib.hid (HNX.out hg free (by rw [if_neg (fun h => hf h.2)]))
        clear hg hlt
        go_wp2_with fail
        go_roundg (n - (d + 1))
        case measure => have := HGK.out; omega
        case rel => exact ⟨d + 1, free, ps n (hmO n x) (d + 1), by rw [HNN.out]; omega, by have := HLT2.out; rw [HNN.out]; omega, by rw [HNN.out], rfl, rfl, HX2.out, HKP.out.alloc _⟩
end Go.Proofs.Ytcmbbkaioopkhaa
