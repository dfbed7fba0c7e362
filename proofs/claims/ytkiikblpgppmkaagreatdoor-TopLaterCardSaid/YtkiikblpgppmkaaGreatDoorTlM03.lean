/-
  The package hash: the struct as a claim; where an index stands; The package hash: a new index goes into its slot; The package hash: room is made; The package hash: a value is got.
-/
import Derived.Test.YtkiikblpgppmkaaGreatDoorTlM01
import Derived.Test.YtkiikblpgppmkaaGreatDoorTlM02
namespace Go.Proofs.YtkiikblpgppmkaaGreatDoor
open Go Go.RowKit
set_option linter.unusedVariables false
set_option linter.unusedSimpArgs false

def hmO (n : Nat) (i : Int) : Nat := (homeOf i n).toNat
/-- A size that may be. -/
def Pow (n : Nat) : Prop := ∃ k, k ≤ 17 ∧ n = 8 * 2 ^ k
theorem Pow.cases {n : Nat} (h : Pow n) : n = 8 ∨ n = 16 ∨ n = 32 ∨ n = 64 ∨ n = 128 ∨ n = 256 ∨ n = 512 ∨ n = 1024 ∨ n = 2048 ∨ n = 4096 ∨ n = 8192 ∨ n = 16384 ∨ n = 32768 ∨ n = 65536 ∨ n = 131072 ∨ n = 262144 ∨ n = 524288 ∨ n = 1048576 := by
  obtain ⟨k, hk, rfl⟩ := h
  have : k = 0 ∨ k = 1 ∨ k = 2 ∨ k = 3 ∨ k = 4 ∨ k = 5 ∨ k = 6 ∨ k = 7 ∨ k = 8 ∨ k = 9 ∨ k = 10 ∨ k = 11 ∨ k = 12 ∨ k = 13 ∨ k = 14 ∨ k = 15 ∨ k = 16 ∨ k = 17 := by omega
  rcases this with rfl | rfl | rfl | rfl | rfl | rfl | rfl | rfl | rfl | rfl | rfl | rfl | rfl | rfl | rfl | rfl | rfl | rfl <;> simp
theorem Pow.may {n : Nat} (h : Pow n) (i : Int) (h0 : 0 ≤ i) (h1 : i < 65536) : mayHome i n = true := by
  rcases h.cases with rfl | rfl | rfl | rfl | rfl | rfl | rfl | rfl | rfl | rfl | rfl | rfl | rfl | rfl | rfl | rfl | rfl | rfl <;> simp [mayHome, h0, h1] <;> decide
theorem Pow.lt {n : Nat} (h : Pow n) (i : Int) (h0 : 0 ≤ i) (h1 : i < 65536) : 0 ≤ homeOf i n ∧ homeOf i n < n := by
  unfold homeOf
  have a1 : 0 ≤ i * 2654435761 % 4294967296 := by omega
  have a2 : i * 2654435761 % 4294967296 < 4294967296 := by omega
  rcases h.cases with rfl | rfl | rfl | rfl | rfl | rfl | rfl | rfl | rfl | rfl | rfl | rfl | rfl | rfl | rfl | rfl | rfl | rfl <;> simp <;> omega
theorem Pow.home {n : Nat} (h : Pow n) : ∀ i : Int, 0 ≤ i → i < 65536 → hmO n i < n := fun i h0 h1 => by
  have := h.lt i h0 h1
  unfold hmO
  omega
theorem Pow.eq {n : Nat} (h : Pow n) (i : Int) (h0 : 0 ≤ i) (h1 : i < 65536) : homeOf i n = (hmO n i : Int) := by
  have := h.lt i h0 h1
  unfold hmO
  omega
theorem Pow.pos {n : Nat} (h : Pow n) : 8 ≤ n ∧ n ≤ 1048576 := by
  rcases h.cases with rfl | rfl | rfl | rfl | rfl | rfl | rfl | rfl | rfl | rfl | rfl | rfl | rfl | rfl | rfl | rfl | rfl | rfl <;> omega
theorem Pow.eight : Pow 8 := ⟨0, by omega, rfl⟩
theorem Pow.twice {n : Nat} (h : Pow n) (hn : n ≤ 524288) : Pow (2 * n) := by
  obtain ⟨k, hk, rfl⟩ := h
  refine ⟨k + 1, ?_, by rw [Nat.pow_succ]; omega⟩
  rcases Nat.lt_or_ge k 17 with c | c
  · omega
  · have : k = 17 := by omega
    subst this
    simp at hn

def SlotV.cells (s : SlotV) : List Value := [.int .i64 s.kind, .int .i64 s.idx, .int .i64 s.vk, .int .i64 s.va, .int .i64 s.vb]
def flatSl (l : List SlotV) : List Value := l.flatMap SlotV.cells
def hashPs (b : Nat) (l : List SlotV) (p : Option Addr × Nat) : List Asr :=
  [blkA b #[.int .i64 (cntK 1 l), .int .i64 (cntK 2 l), .slice p.1 l.length p.2] 440, slA 504 5 (.slice p.1 l.length p.2) l.length (flatSl l)]
def hashA (b : Nat) (l : List SlotV) : Asr := exA (fun p => starA (hashPs b l p))

theorem ps_next (n h d : Nat) : (ps n h d + 1) % n = ps n h (d + 1) := by
  unfold ps
  rw [Nat.mod_add_mod, Nat.add_assoc]
structure FindInv (l : List SlotV) (x : Int) (d : Nat) (free : Int) (F : Int × Int) : Prop where
  val : probe l x (hmO l.length x) (l.length - d) d free = F
  go : ∀ e, e < d → goOn l x (hmO l.length x) e
  free : freeOk l (hmO l.length x) d free
theorem FindInv.stop0 {l : List SlotV} {x : Int} {d p : Nat} {free : Int} {F : Int × Int} (h : FindInv l x d free F) (hd : d < l.length) (hp : p = ps l.length (hmO l.length x) d) (hk : (sl l p).kind = 0) : F = (-1, if free < 0 then (p : Int) else free) := by
  have hv := h.val
  rw [show l.length - d = (l.length - (d + 1)) + 1 by omega, probe, ← hp, if_pos hk] at hv
  exact hv.symm
theorem FindInv.stop1 {l : List SlotV} {x : Int} {d p : Nat} {free : Int} {F : Int × Int} (h : FindInv l x d free F) (hd : d < l.length) (hp : p = ps l.length (hmO l.length x) d) (hk : (sl l p).kind = 1) (hx : (sl l p).idx = x) : F = ((p : Int), -1) := by
  have hv := h.val
  rw [show l.length - d = (l.length - (d + 1)) + 1 by omega, probe, ← hp, if_neg (by rw [hk]; decide), if_pos ⟨hk, hx⟩] at hv
  exact hv.symm
theorem FindInv.next {l : List SlotV} {x : Int} {d p : Nat} {free : Int} {F : Int × Int} (h : FindInv l x d free F) (hd : d < l.length) (hp : p = ps l.length (hmO l.length x) d) (hg : goOn l x (hmO l.length x) d) (f2 : Int) (hf : (if (sl l p).kind = 2 ∧ free < 0 then (p : Int) else free) = f2) : FindInv l x (d + 1) f2 F := by
  have hv := h.val
  have h1 := hg.1
  have h2 := hg.2
  rw [← hp] at h1 h2
  rw [show l.length - d = (l.length - (d + 1)) + 1 by omega, probe, ← hp, if_neg h1, if_neg h2] at hv
  subst hf
  refine ⟨hv, fun e he => ?_, ?_⟩
  · by_cases e' : e = d
    · exact e' ▸ hg
    · exact h.go e (by omega)
  · rw [hp]; exact freeOk_next h.free
theorem goOn_lt {l : List SlotV} {x : Int} {h d D : Nat} (hgo : ∀ e, e < d → goOn l x h e) (hg : goOn l x h d) (hD : ¬ goOn l x h D) : d + 1 ≤ D := by
  rcases Nat.lt_or_ge d D with c | c
  · exact c
  · rcases Nat.lt_or_ge D d with c2 | c2
    · exact absurd (hgo D c2) hD
    · have : D = d := by omega
      exact absurd (this ▸ hg) hD
def LoopFind (w : World) (l : List SlotV) (x : Int) (F : Int × Int) (g : Nat) (v5 v6 : Value) (wr : World) : Prop :=
  ∃ (d : Nat) (free : Int) (p : Nat), g + d = l.length ∧ d < l.length ∧ p = ps l.length (hmO l.length x) d ∧ v5 = .int .i64 free ∧ v6 = .int .i64 (p : Int) ∧ FindInv l x d free F ∧ Keep w wr Nope

set_option maxHeartbeats 2000000 in
theorem hash_find {w0 w : World} {L : List Asr} {b : Nat} {l : List SlotV} (H : St w0 w L) (i : Nat) (hi : L[i]? = some (hashA b l)) (hT : HTab hmO l) (hP : Pow l.length) (x : Int) (h0 : 0 ≤ x) (h1 : x < 65536) :
    Calls Tryz.prog 396 #[.pointer (some ⟨b, 0, none⟩), .int .i64 x] w (Ret w (.tuple #[.int .i64 (findS hmO l x).1, .int .i64 (findS hmO l x).2])) := by
  obtain ⟨⟨a, c⟩, h⟩ := H.exSplit i hi
  obtain ⟨D, hD, hDs⟩ : ∃ D, D < l.length ∧ ¬ goOn l x (hmO l.length x) D := by
    obtain ⟨p, hp, hk⟩ := hT.gap
    obtain ⟨d, hd, he⟩ := ps_onto hp (hT.home x h0 h1)
    exact ⟨d, hd, fun hg => hg.1 (by rw [he]; exact hk)⟩
  have HDS := Lib.hid hDs
  have HP := hP.pos
  obtain ⟨⟨fa, ff⟩, hF⟩ : ∃ F, findS hmO l x = F := ⟨_, rfl⟩
  have HF := Lib.hid hF
  rw [hF]
  have HC := Lib.hid (hash_home_yes x l.length w (hP.may x h0 h1))
  rw [hP.eq x h0 h1] at HC
  have HWF := Lib.hid hT.wf
  obtain ⟨n, hn⟩ : ∃ n, l.length = n := ⟨_, rfl⟩
  unfold hashPs at h
  rw [hn] at h HC hD HP
  have c2 := (h.blk 0 rfl).cell 2
  simp at c2
  obtain ⟨S, hown, hrd, _⟩ := h.rd 1 rfl
  obtain ⟨bs, os, rfl, _, _⟩ := (show Rd S w (.slice a n c) n (flatSl l) from hrd).elem (cells := SlotV.cells) (size := 5) (fun _ => rfl) (by decide) (sl_get (p := 0) (by omega))
  have hcap := hown.cap
  have HRD := Lib.hid hrd
  have HNN := Lib.hid hn
  unfold maxLen at hcap
  have hn1 : n ≤ 1048576 := HP.2
  have hn8 : (8 : Int) ≤ n := by have := HP.1; omega
  have hhl : hmO n x < n := by have := hT.home x h0 h1; rw [hn] at this; exact this
  clear hi hF hn hown hrd hDs hT hP H h HP
  go_enter Tryz.func396, Tryz.ntmps396
  go_wp2_with fail
  refine (HC.out).mono ?_
  rintro e w1 ⟨rfl, rfl⟩
  go_wp2_with fail
  go_loopg [5, 6] n (fun g v5 v6 wr => LoopFind w l x (fa, ff) g v5 v6 wr)
  case atStart =>
    refine ⟨0, -1, hmO n x, HNN.out.symm, ?_, ?_, rfl, rfl, ⟨HF.out, fun e he => by omega, .inl rfl⟩, Keep.refl _ _⟩
    · rw [HNN.out]; omega
    · rw [HNN.out]; unfold ps; rw [Nat.add_zero, Nat.mod_eq_of_lt hhl]
  case round =>
    obtain ⟨d, free, p, hd, hdn, hp, rfl, rfl, hinv, hkp⟩ := hrel
    have HINV := Lib.hid hinv; clear hinv
    have HKP := Lib.hid hkp; clear hkp
    have HPP := Lib.hid hp
    rw [HNN.out] at hd hdn hp
    have hpn : p < n := by rw [hp]; exact ps_lt (by omega) _ _
    have HDN := Lib.hid (show d < l.length by rw [HNN.out]; exact hdn)
    obtain ⟨bs', os', hbe, _, hco⟩ := (HRD.out.keep HKP.out (fun _ _ f => f)).elem (cells := SlotV.cells) (size := 5) (fun _ => rfl) (by decide) (sl_get (l := l) (p := p) (by rw [HNN.out]; exact hpn))
    injection hbe with hbe
    injection hbe with e1 e2
    subst e1; subst e2
    have hwf := HWF.out p (by rw [HNN.out]; exact hpn)
    have d2 := HKP.out.cell c2 (fun f => f)
    have d2a : ∀ o, (wr.alloc o).cell? ⟨b, 2, none⟩ = some (.slice (some ⟨bs, os, none⟩) n c) := fun o => ((Keep.refl wr Nope).alloc o).cell d2 (fun f => f)
    have hpi : (p : Int) < n := by omega
    have hmod : ((p : Int) + 1) % (n : Int) = (ps n (hmO n x) (d + 1) : Int) := by
      rw [← ps_next, ← hp, Int.natCast_emod, Int.natCast_add]
      rfl
    have HGK := Lib.hid hd
    have HST0 := Lib.hid (fun hk => HINV.out.stop0 HDN.out HPP.out hk)
    have HST1 := Lib.hid (fun hk hx => HINV.out.stop1 HDN.out HPP.out hk hx)
    have HNX := Lib.hid (fun hg f2 hf => HINV.out.next HDN.out HPP.out hg f2 hf)
    have HGO := Lib.hid (show (sl l p).kind ≠ 0 → ¬ ((sl l p).kind = 1 ∧ (sl l p).idx = x) → goOn l x (hmO l.length x) d from fun a1 a2 => by unfold goOn; rw [← HPP.out]; exact ⟨a1, a2⟩)
    have HLT := Lib.hid (fun hg => goOn_lt HINV.out.go hg HDS.out)
    obtain ⟨s, hs⟩ : ∃ s, sl l p = s := ⟨_, rfl⟩
    rw [hs] at hwf hco HST0 HST1 HNX HGO
    obtain ⟨kind, idx, vk, va, vb⟩ := s
    have d3 := hco 0 (by decide)
    have d4 := hco 1 (by decide)
    have d5 := hco 2 (by decide)
    have d6 := hco 3 (by decide)
    have d7 := hco 4 (by decide)
    simp [SlotV.cells] at d3 d4 d5 d6 d7
    have hk3 : kind = 0 ∨ kind = 1 ∨ kind = 2 := by
      rcases hwf with e | e | e
      · injection e with e; exact .inl e
      · injection e with e; exact .inr (.inr e)
      · exact .inr (.inl e.1)
    clear hco hp hd hwf hs
    rcases hk3 with rfl | rfl | rfl
    · by_cases hf : free < 0
      · have hfd : decide (free < 0) = true := decide_eq_true hf
        have e := HST0.out rfl
        rw [if_pos hf] at e
        injection e with e1 e2
        subst e1; subst e2
        clear HST0 HST1 HNX HGO HLT
        go_wp2_with fail
        go_ret2
        exact ⟨rfl, HKP.out.alloc _⟩
      · have hfd : decide (free < 0) = false := decide_eq_false hf
        have e := HST0.out rfl
        rw [if_neg hf] at e
        injection e with e1 e2
        subst e1; subst e2
        clear HST0 HST1 HNX HGO HLT
        go_wp2_with fail
        go_ret2
        exact ⟨rfl, HKP.out.alloc _⟩
    · by_cases hx : idx = x
      · subst hx
        have e := HST1.out rfl rfl
        injection e with e1 e2
        subst e1; subst e2
        clear HST0 HST1 HNX HGO HLT
        go_wp2_with fail
        go_ret2
        exact ⟨rfl, HKP.out.alloc _⟩
      · have hxd : (idx == x) = false := beq_eq_false_iff_ne.2 hx
        have hg := HGO.out (show (1 : Int) ≠ 0 by decide) (fun h => hx h.2)
        have hx2 := HNX.out hg free (by simp)
        have hlt := HLT.out hg
        have HX2 := Lib.hid hx2
        have HLT2 := Lib.hid hlt
        clear hg hx2 hlt
        go_wp2_with fail
        go_roundg (n - (d + 1))
        case measure => have := HGK.out; omega
        case rel => exact ⟨d + 1, free, ps n (hmO n x) (d + 1), by rw [HNN.out]; omega, by have := HLT2.out; rw [HNN.out]; omega, by rw [HNN.out], rfl, rfl, HX2.out, HKP.out.alloc _⟩
    · have hg := HGO.out (show (2 : Int) ≠ 0 by decide) (fun h => by cases h.1)
      have hlt := HLT.out hg
      have HLT2 := Lib.hid hlt
      by_cases hf : free < 0
      · have hfd : decide (free < 0) = true := decide_eq_true hf
        have HX2 := Lib.hid (HNX.out hg p (by rw [if_pos ⟨rfl, hf⟩]))
        clear hg hlt
        go_wp2_with fail
        go_roundg (n - (d + 1))
        case measure => have := HGK.out; omega
        case rel => exact ⟨d + 1, p, ps n (hmO n x) (d + 1), by rw [HNN.out]; omega, by have := HLT2.out; rw [HNN.out]; omega, by rw [HNN.out], rfl, rfl, HX2.out, HKP.out.alloc _⟩
      · have hfd : decide (free < 0) = false := decide_eq_false hf
        have HX2 := Lib.hid (HNX.out hg free (by rw [if_neg (fun h => hf h.2)]))
        clear hg hlt
        go_wp2_with fail
        go_roundg (n - (d + 1))
        case measure => have := HGK.out; omega
        case rel => exact ⟨d + 1, free, ps n (hmO n x) (d + 1), by rw [HNN.out]; omega, by have := HLT2.out; rw [HNN.out]; omega, by rw [HNN.out], rfl, rfl, HX2.out, HKP.out.alloc _⟩
end Go.Proofs.YtkiikblpgppmkaaGreatDoor

namespace Go.Proofs.YtkiikblpgppmkaaGreatDoor
open Go Go.RowKit
set_option linter.unusedVariables false
set_option linter.unusedSimpArgs false

theorem box_get (ps L : List Asr) (A : Asr) (i : Nat) (hi : i < L.length) : (ps ++ (L ++ [A]).set i empA)[ps.length + L.length]? = some A := by
  rw [List.set_append_left _ _ hi, List.getElem?_append_right (by omega), Nat.add_sub_cancel_left, List.getElem?_append_right (by simp)]
  simp
theorem St.store1 {w0 w : World} {L : List Asr} {i g e' n c : Nat} {e : TypeId} {xs : List Value} (h : St w0 w L) (hi : L[i]? = some (slA e e' (.slice (some ⟨g, 0, none⟩) n c) n xs)) (hn : 0 < n) (j : Nat) (u : Value) :
    St w0 (w.setCell ⟨g, j, none⟩ u) (L.set i (slA e e' (.slice (some ⟨g, 0, none⟩) n c) n (xs.set j u))) := by
  obtain ⟨g', he, _, _, _, hs⟩ := h.store i hi hn
  injection he with he
  injection he with he
  subst he
  exact hs j u
/-- Five cells are written, one behind the other. -/
theorem St.store5 {w0 w : World} {L : List Asr} {i g e' n c : Nat} {e : TypeId} {xs : List Value} (h : St w0 w L) (hi : L[i]? = some (slA e e' (.slice (some ⟨g, 0, none⟩) n c) n xs)) (hn : 0 < n) (j : Nat) (u0 u1 u2 u3 u4 : Value) :
    St w0 (((((w.setCell ⟨g, j, none⟩ u0).setCell ⟨g, j + 1, none⟩ u1).setCell ⟨g, j + 2, none⟩ u2).setCell ⟨g, j + 3, none⟩ u3).setCell ⟨g, j + 4, none⟩ u4) (L.set i (slA e e' (.slice (some ⟨g, 0, none⟩) n c) n (((((xs.set j u0).set (j + 1) u1).set (j + 2) u2).set (j + 3) u3).set (j + 4) u4))) := by
  have hil := (List.getElem?_eq_some_iff.1 hi).1
  have k : ∀ (L' : List Asr) (A B : Asr), L'.length = L.length → (L'.set i A).set i B = L'.set i B := fun L' A B _ => List.set_set ..
  have h1 := h.store1 hi hn j u0
  have h2 := h1.store1 (List.getElem?_set_self hil) hn (j + 1) u1
  rw [List.set_set] at h2
  have h3 := h2.store1 (List.getElem?_set_self hil) hn (j + 2) u2
  rw [List.set_set] at h3
  have h4 := h3.store1 (List.getElem?_set_self hil) hn (j + 3) u3
  rw [List.set_set] at h4
  have h5 := h4.store1 (List.getElem?_set_self hil) hn (j + 4) u4
  rw [List.set_set] at h5
  exact h5
theorem flatSl_set5 (l : List SlotV) (q : Nat) (hq : q < l.length) (k x vk va vb : Int) :
    (((((flatSl l).set (q * 5) (.int .i64 k)).set (q * 5 + 1) (.int .i64 x)).set (q * 5 + 2) (.int .i64 vk)).set (q * 5 + 3) (.int .i64 va)).set (q * 5 + 4) (.int .i64 vb) = flatSl (l.set q ⟨k, x, vk, va, vb⟩) := by
  have f := fun (y : SlotV) (j : Nat) (u : Value) (hj : j < 5) (l : List SlotV) (z : SlotV) (h : l[q]? = some z) (he : y.cells = z.cells.set j u) => flat_set SlotV.cells 5 (fun _ => rfl) y j u hj l q z h he
  obtain ⟨s, hs⟩ : ∃ s, l[q]? = some s := ⟨_, List.getElem?_eq_getElem hq⟩
  unfold flatSl
  have h1 := f ⟨k, s.idx, s.vk, s.va, s.vb⟩ 0 (.int .i64 k) (by decide) l s hs rfl
  have h2 := f ⟨k, x, s.vk, s.va, s.vb⟩ 1 (.int .i64 x) (by decide) (l.set q ⟨k, s.idx, s.vk, s.va, s.vb⟩) _ (List.getElem?_set_self hq) rfl
  have h3 := f ⟨k, x, vk, s.va, s.vb⟩ 2 (.int .i64 vk) (by decide) (l.set q ⟨k, x, s.vk, s.va, s.vb⟩) _ (List.getElem?_set_self hq) rfl
  have h4 := f ⟨k, x, vk, va, s.vb⟩ 3 (.int .i64 va) (by decide) (l.set q ⟨k, x, vk, s.va, s.vb⟩) _ (List.getElem?_set_self hq) rfl
  have h5 := f ⟨k, x, vk, va, vb⟩ 4 (.int .i64 vb) (by decide) (l.set q ⟨k, x, vk, va, s.vb⟩) _ (List.getElem?_set_self hq) rfl
  rw [List.set_set] at h2 h3 h4 h5
  simp only [Nat.add_zero] at h1
  rw [h1, h2, h3, h4, h5]

set_option maxRecDepth 2000 in
set_option maxHeartbeats 2000000 in
theorem hash_put1 {w0 w : World} {L : List Asr} {b : Nat} {l : List SlotV} (H : St w0 w L) (i : Nat) (hi : L[i]? = some (hashA b l)) (hT : HTab hmO l) (hP : Pow l.length) (x : Int) (h0 : 0 ≤ x) (h1 : x < 65536) (vk va vb : Int) (q : Nat) (hq : q < l.length) (hf : findS hmO l x = (-1, (q : Int))) (hk : (sl l q).kind ≠ 1) (kq : Bool) (hkq : ((sl l q).kind == 2) = kq) (hc1 : cntK 1 l ≤ 1000000) (hc2 : cntK 2 l ≤ 1000000) :
    Calls Tryz.prog 397 #[.pointer (some ⟨b, 0, none⟩), .int .i64 x, .agg #[.int .i64 vk, .int .i64 va, .int .i64 vb]] w (fun e w' => e = .returned (.tuple #[]) ∧ St w0 w' (L.set i (hashA b (l.set q ⟨1, x, vk, va, vb⟩)))) := by
  have HB := H.box #[.int .i64 vk, .int .i64 va, .int .i64 vb] 34
  have hi2 : (L ++ [blkA w.heap.size #[.int .i64 vk, .int .i64 va, .int .i64 vb] 34])[i]? = some (hashA b l) := by rw [List.getElem?_append_left (List.getElem?_eq_some_iff.1 hi).1]; exact hi
  have hC := hash_find HB i hi2 hT hP x h0 h1
  rw [hf] at hC
  have HC := Lib.hid hC; clear hC hf
  obtain ⟨⟨a, c⟩, h⟩ := HB.exSplit i hi2
  have HIL := Lib.hid (List.getElem?_eq_some_iff.1 hi).1
  obtain ⟨n, hn⟩ : ∃ n, l.length = n := ⟨_, rfl⟩
  obtain ⟨cf, hcf⟩ : ∃ cf, cntK 1 l = cf := ⟨_, rfl⟩
  obtain ⟨ct, hct⟩ : ∃ ct, cntK 2 l = ct := ⟨_, rfl⟩
  unfold hashPs at h
  rw [hn, hcf, hct] at h
  have k1 := cntK_set 1 ⟨1, x, vk, va, vb⟩ l q hq
  have k2 := cntK_set 2 ⟨1, x, vk, va, vb⟩ l q hq
  rw [if_neg hk, hcf] at k1
  rw [hct] at k2
  simp only [if_true, if_neg (show ¬ (1 : Int) = 2 by decide)] at k1 k2
  have HK1 := Lib.hid (show cntK 1 (l.set q ⟨1, x, vk, va, vb⟩) = cf + 1 by omega)
  have HK2 := Lib.hid (show cntK 2 (l.set q ⟨1, x, vk, va, vb⟩) + (if kq = true then 1 else 0) = ct by
    rw [← hkq]
    by_cases c : (sl l q).kind = 2
    · rw [if_pos c] at k2; simp [c]; omega
    · rw [if_neg c] at k2; simp [c]; omega)
  clear k1 k2
  rw [hn] at hq
  rw [hcf] at hc1
  rw [hct] at hc2
  have HH := Lib.hid h
  have HN := Lib.hid hn
  have HCF := Lib.hid hcf
  have HCT := Lib.hid hct
  obtain ⟨bv, hbv⟩ : ∃ bv, w.heap.size = bv := ⟨_, rfl⟩
  clear H HB hi hi2 hT hP h hn hcf hct
  go_enter Tryz.func397, Tryz.ntmps397
  go_wp2_with fail
  refine (HC.out).mono ?_
  rintro e w1 ⟨rfl, hk1⟩
  have H1 := Lib.hid (HH.out.keep hk1); clear hk1 HH HC
  obtain ⟨S, hown, hrd, _⟩ := H1.out.rd 1 rfl
  have c2 := (H1.out.blk 0 rfl).cell 2
  have c0 := (H1.out.blk 0 rfl).cell 0
  have c1 := (H1.out.blk 0 rfl).cell 1
  have f0 := (H1.out.blk 0 rfl).frozen 0
  have f1 := (H1.out.blk 0 rfl).frozen 1
  simp at c2 c0 c1
  obtain ⟨g, rfl, hgl, hgf, hgc, hgs⟩ := H1.out.store 1 rfl (by omega)
  have HGS := Lib.hid hgs
  have HGC := Lib.hid hgc
  have HGF := Lib.hid hgf
  have hcap := hown.cap
  unfold maxLen at hcap
  have hx0 := HGC.out (q * 5 + 0) (by omega)
  have hqi : (q : Int) < n := by omega
  rw [show (flatSl l)[q * 5 + 0]? = some (.int .i64 (sl l q).kind) from flat_get SlotV.cells 5 (fun _ => rfl) l q 0 _ (sl_get (by rw [HN.out]; exact hq)) (by decide)] at hx0
  simp only [Nat.add_zero] at hx0
  clear hgs hgc hgf hown hrd
  have HMID : Hid (∃ ct2 : Int, ((kq = false ∧ ct2 = ct) ∨ (kq = true ∧ ct2 = (ct : Int) - 1))) := Lib.hid (by cases kq; exact ⟨ct, .inl ⟨rfl, rfl⟩⟩; exact ⟨(ct : Int) - 1, .inr ⟨rfl, rfl⟩⟩)
  obtain ⟨ct2, hct2⟩ := HMID.out
  have hgo : ∀ w2, St w0 w2 ([blkA b #[.int .i64 ((cf : Int) + 1), .int .i64 ct2, .slice (some ⟨g, 0, none⟩) n c] 440, slA 504 5 (.slice (some ⟨g, 0, none⟩) n c) n (flatSl l)] ++ (L ++ [blkA bv #[.int .i64 vk, .int .i64 va, .int .i64 vb] 34]).set i empA) → True := fun _ _ => trivial
  clear hgo HMID
  cases kq
  all_goals
    first
    | have hkd : ((sl l q).kind == 2) = false := hkq
    | have hkd : ((sl l q).kind == 2) = true := hkq
    simp only [if_true, if_false, Bool.false_eq_true] at HK2
    go_wp2_with fail
    first
    | (have hh := (H1.out.write 0 rfl 1 (.int .i64 ((ct : Int) - 1))).write 0 rfl 0 (.int .i64 ((cf : Int) + 1))
       have he : ct2 = (ct : Int) - 1 := by rcases hct2 with ⟨e, _⟩ | ⟨_, e⟩; cases e; exact e
       have h2 := hh
       obtain ⟨w2, hw2⟩ : ∃ w2, w2 = (w1.setCell ⟨b, 1, none⟩ (.int .i64 ((ct : Int) - 1))).setCell ⟨b, 0, none⟩ (.int .i64 ((cf : Int) + 1)) := ⟨_, rfl⟩
       rw [← hw2] at h2 ⊢)
    | (have hh := H1.out.write 0 rfl 0 (.int .i64 ((cf : Int) + 1))
       have he : ct2 = (ct : Int) := by rcases hct2 with ⟨_, e⟩ | ⟨e, _⟩; exact e; cases e
       have h2 := hh
       obtain ⟨w2, hw2⟩ : ∃ w2, w2 = w1.setCell ⟨b, 0, none⟩ (.int .i64 ((cf : Int) + 1)) := ⟨_, rfl⟩
       rw [← hw2] at h2 ⊢)
    have H2 := Lib.hid (show St w0 w2 ([blkA b #[.int .i64 ((cf : Int) + 1), .int .i64 ct2, .slice (some ⟨g, 0, none⟩) n c] 440, slA 504 5 (.slice (some ⟨g, 0, none⟩) n c) n (flatSl l)] ++ (L ++ [blkA bv #[.int .i64 vk, .int .i64 va, .int .i64 vb] 34]).set i empA) by rw [he]; subst hbv; exact h2)
    clear hh h2 hw2 H1 c0 c1 c2 f0 f1 hgl HGS HGC HGF hx0
    have c22 := (H2.out.blk 0 (b := b) rfl).cell 2
    have hbb := H2.out.blk _ (b := bv) (box_get _ L _ i HIL.out)
    have cv0 := hbb.cell 0
    have cv1 := hbb.cell 1
    have cv2 := hbb.cell 2
    simp at c22 cv0 cv1 cv2
    obtain ⟨g', he', hgl, hgf, hgc, _⟩ := H2.out.store 1 (a := some ⟨g, 0, none⟩) (c := c) (n := n) rfl (by omega)
    injection he' with he'
    injection he' with he'
    subst he'
    have y0 := hgc (q * 5 + 0) (by omega)
    have y1 := hgc (q * 5 + 1) (by omega)
    have y2 := hgc (q * 5 + 2) (by omega)
    have y3 := hgc (q * 5 + 3) (by omega)
    have y4 := hgc (q * 5 + 4) (by omega)
    have fg := fun j (hj : j < 5) => flat_get SlotV.cells 5 (fun _ => rfl) l q j _ (sl_get (l := l) (p := q) (by rw [HN.out]; exact hq)) hj
    rw [show (flatSl l)[q * 5 + 0]? = _ from fg 0 (by decide)] at y0
    rw [show (flatSl l)[q * 5 + 1]? = _ from fg 1 (by decide)] at y1
    rw [show (flatSl l)[q * 5 + 2]? = _ from fg 2 (by decide)] at y2
    rw [show (flatSl l)[q * 5 + 3]? = _ from fg 3 (by decide)] at y3
    rw [show (flatSl l)[q * 5 + 4]? = _ from fg 4 (by decide)] at y4
    simp [SlotV.cells] at y0 y1 y2 y3 y4
    have z0 := hgf (q * 5)
    have z1 := hgf (q * 5 + 1)
    have z2 := hgf (q * 5 + 2)
    have z3 := hgf (q * 5 + 3)
    have z4 := hgf (q * 5 + 4)
    clear hgf hgc fg hbb
    subst hbv
    refine wp_region_M (r := 8) (S := fun w' => w'.cell? ⟨b, 2, none⟩ = some (.slice (some ⟨g, 0, none⟩) n c) ∧ w'.cell? ⟨w.heap.size, 0, none⟩ = some (.int .i64 vk) ∧ w'.cell? ⟨w.heap.size, 1, none⟩ = some (.int .i64 va) ∧ w'.cell? ⟨w.heap.size, 2, none⟩ = some (.int .i64 vb)) (by kernel_rfl) ?_ (fun hHeld => ?_)
    · (try dsimp only); go_keep
    refine tkP 0 ?_; refine tkP 1 ?_; refine tkP 2 ?_; refine tkH 3 ?_; refine tkP 4 ?_; refine tkP 5 ?_; refine tkH 6 ?_; refine tkP 7 ?_; refine tkF 8 ?_
    intro K hK
    go_simp
    refine hK.out _ _ ?_
    clear hK K
    refine tkF 9 ?_
    intro K hK
    go_simp
    refine hK.out _ _ ?_
    clear hK K
    refine wpAnyM_done (by kernel_rfl) ?_ _
    go_wp2_with fail
    go_end0
    refine ⟨rfl, ?_⟩
    have h3 := (H2.out.store5 (i := 1) rfl (by omega) (q * 5) (.int .i64 1) (.int .i64 x) (.int .i64 vk) (.int .i64 va) (.int .i64 vb)).drew
    rw [flatSl_set5 l q (by rw [HN.out]; exact hq)] at h3
    have e1 : ((cntK 1 (l.set q ⟨1, x, vk, va, vb⟩) : Nat) : Int) = (cf : Int) + 1 := by rw [HK1.out]; rfl
    have e2 : ((cntK 2 (l.set q ⟨1, x, vk, va, vb⟩) : Nat) : Int) = ct2 := by
      have := HK2.out
      rw [he]
      omega
    have h4 := St.exJoin (hashPs b (l.set q ⟨1, x, vk, va, vb⟩)) (some ⟨g, 0, none⟩, c) (L := L ++ [blkA w.heap.size #[.int .i64 vk, .int .i64 va, .int .i64 vb] 34]) i (by have := HIL.out; simp; omega) (by
      unfold hashPs
      rw [e1, e2, List.length_set, HN.out]
      exact h3)
    rw [List.set_append_left _ _ HIL.out] at h4
    have h5 := h4.take L.length
    rw [List.take_left' (by simp)] at h5
    exact h5
end Go.Proofs.YtkiikblpgppmkaaGreatDoor

namespace Go.Proofs.YtkiikblpgppmkaaGreatDoor
open Go Go.RowKit
set_option linter.unusedVariables false
set_option linter.unusedSimpArgs false

theorem hash_flat_new (n : Nat) : (List.replicate n [Value.int .i64 0, .int .i64 0, .int .i64 0, .int .i64 0, .int .i64 0]).flatten = flatSl (List.replicate n emptyS) := (flat_replicate SlotV.cells emptyS n).symm
theorem make_slots {w0 w : World} {L : List Asr} (h : St w0 w L) (n : Nat) (hn : n ≤ 2000000) :
    ∃ w', (Instr.makeSlice 436 (.int .i64 (n : Int)) (.int .i64 (n : Int))).run Tryz.prog w = .ok (.slice (some ⟨w.heap.size, 0, none⟩) n n) w' ∧
      St w0 w' (L ++ [slA 504 5 (.slice (some ⟨w.heap.size, 0, none⟩) n n) n (flatSl (List.replicate n emptyS))]) := by
  obtain ⟨w', h1, h2⟩ := h.make (P := Tryz.prog) (t := 436) (e := 504) (size := 5) (bytes := 40) (.agg #[.int .i64 0, .int .i64 0, .int .i64 0, .int .i64 0, .int .i64 0])
    Tryz.underlying436 (by kernel_rfl) rfl (by decide) .i64 .i64 n (by omega) (by unfold maxLen; omega)
  refine ⟨w', h1, ?_⟩
  rw [show (Value.agg #[.int .i64 0, .int .i64 0, .int .i64 0, .int .i64 0, .int .i64 0]).cells.toList = [Value.int .i64 0, .int .i64 0, .int .i64 0, .int .i64 0, .int .i64 0] from rfl, hash_flat_new] at h2
  exact h2

theorem snoc_get (M : List Asr) (A : Asr) (n : Nat) (h : M.length = n) : (M ++ [A])[n]? = some A := by
  subst h
  simp
theorem set_snoc (L : List Asr) (i : Nat) (X Y A : Asr) (hi : i < L.length) : (L.set i X ++ [A]).set i Y = L.set i Y ++ [A] := by
  rw [List.set_append_left _ _ (by simpa using hi), List.set_set]
theorem St.swapLast {w0 w : World} {a o nw : Asr} {R : List Asr} (h : St w0 w ((a :: o :: R) ++ [nw])) : St w0 w ((a :: nw :: R) ++ [o]) := by
  refine h.pick (fun j => if j = 1 then R.length + 2 else if j = R.length + 2 then 1 else j) (fun j k hj hk e => ?_) (fun j B hj => ?_)
  · simp at hj hk
    by_cases e1 : j = 1 <;> by_cases e2 : k = 1 <;> by_cases e3 : j = R.length + 2 <;> by_cases e4 : k = R.length + 2 <;> simp [e1, e2, e3, e4] at e <;> omega
  · by_cases e1 : j = 1
    · subst e1
      simp at hj
      simp [hj]
    · by_cases e2 : j = R.length + 2
      · subst e2
        rw [List.getElem?_append_right (by simp)] at hj
        simp at hj
        simp [hj]
      · have hjl := (List.getElem?_eq_some_iff.1 hj).1
        simp at hjl
        have hj2 : j < (a :: nw :: R).length := by simp; omega
        rw [List.getElem?_append_left hj2] at hj
        simp only [e1, e2, if_false]
        rw [List.getElem?_append_left (by simpa using hj2)]
        match j, e1 with
        | 0, _ => exact hj
        | j + 2, _ => exact hj
def LoopGrow (w0 : World) (L : List Asr) (i b N n : Nat) (l : List SlotV) (ov : Value) (g : Nat) (v49 : Value) (wr : World) : Prop :=
  ∃ k : Nat, g + k = n ∧ v49 = .int .i64 k ∧ St w0 wr (L.set i (hashA b (rebK hmO N l k)) ++ [slA 504 5 ov n (flatSl l)])

set_option maxRecDepth 2000 in
set_option maxHeartbeats 2000000 in
theorem hash_grow {w0 w : World} {L : List Asr} {b : Nat} {l : List SlotV} (H : St w0 w L) (i : Nat) (hi : L[i]? = some (hashA b l)) (hT : HTab hmO l) (hP : Pow l.length) (hl : l.length ≤ 524288) :
    Calls Tryz.prog 395 #[.pointer (some ⟨b, 0, none⟩)] w (fun e w' => e = .returned (.tuple #[]) ∧ St w0 w' (L.set i (hashA b (growS hmO l)))) := by
  have hcl1 := cntK_le 1 l
  have hcl2 := cntK_le 2 l
  obtain ⟨⟨a, c⟩, h⟩ := H.exSplit i hi
  have HIL := Lib.hid (List.getElem?_eq_some_iff.1 hi).1
  have HGE := Lib.hid (show growS hmO l = _ from rfl)
  have HL0 := Lib.hid (show L.set i (hashA b l) = L by
    apply List.ext_getElem?
    intro j
    by_cases e : i = j
    · subst e; rw [List.getElem?_set_self HIL.out, hi]
    · rw [List.getElem?_set_ne e])
  have HH0 := Lib.hid H
  obtain ⟨n, hn⟩ : ∃ n, l.length = n := ⟨_, rfl⟩
  obtain ⟨cf, hcf⟩ : ∃ cf, cntK 1 l = cf := ⟨_, rfl⟩
  obtain ⟨ct, hct⟩ : ∃ ct, cntK 2 l = ct := ⟨_, rfl⟩
  have hNN : newN l = if 2 * (cf + 1) > n then 2 * n else n := by unfold newN; rw [hcf, hn]
  have hGG : growS hmO l = if 4 * (cf + ct + 1) ≤ 3 * n then l else rebK hmO (newN l) l n := by unfold growS; rw [hcf, hct, hn]
  unfold hashPs at h
  rw [hn, hcf, hct] at h
  rw [hn] at hl hcl1 hcl2
  rw [hcf] at hcl1
  rw [hct] at hcl2
  have HH := Lib.hid h
  have HN := Lib.hid hn
  have HT := Lib.hid hT
  have HP := Lib.hid hP
  have HCF := Lib.hid hcf
  have c0 := (HH.out.blk 0 rfl).cell 0
  have c1 := (HH.out.blk 0 rfl).cell 1
  have c2 := (HH.out.blk 0 rfl).cell 2
  simp at c0 c1 c2
  clear H hi hT hP h hn hcf hct HGE
  by_cases hroom : 4 * (cf + ct + 1) ≤ 3 * n
  · rw [hGG, if_pos hroom]
    have hroom' : (4 : Int) * ((cf : Int) + ct + 1) ≤ 3 * n := by omega
    clear hNN hGG
    go_enter Tryz.func395, Tryz.ntmps395
    go_wp2_with fail
    go_quiet (fail)
    go_wp2_with fail
    refine bodyPost_ret (results_none rfl _ _ _) rfl ?_
    rw [HL0.out]
    exact ⟨rfl, HH0.out.drewN _⟩
  · rw [hGG, if_neg hroom]
    have hroom' : ¬ (4 : Int) * ((cf : Int) + ct + 1) ≤ 3 * n := by omega
    obtain ⟨N, hN⟩ : ∃ N, newN l = N := ⟨_, rfl⟩
    rw [hN] at hNN ⊢
    have HNW := Lib.hid hN
    have HRM := Lib.hid hroom
    clear hGG hN hroom HH0 HL0
    by_cases h2 : 2 * (cf + 1) > n
    all_goals
      first
      | (rw [if_pos h2] at hNN)
      | (rw [if_neg h2] at hNN)
      first
      | have h2' : (n : Int) < 2 * ((cf : Int) + 1) := by omega
      | have h2' : ¬ (n : Int) < 2 * ((cf : Int) + 1) := by omega
      have hN2 : N ≤ 1048576 := by omega
      first
      | (have HNI := Lib.hid (show (N : Int) = (n : Int) * 2 by omega)
         have HNP : Hid (Pow N) := Lib.hid (hNN ▸ ((HN.out ▸ HP.out : Pow n).twice hl)))
      | (have HNI := Lib.hid (show (N : Int) = (n : Int) by omega)
         have HNP : Hid (Pow N) := Lib.hid (hNN ▸ (HN.out ▸ HP.out : Pow n)))
      have HR4 : Hid (4 * cntK 1 l ≤ 3 * N) := Lib.hid (by
        have := HT.out.room
        rw [HN.out] at this
        omega)
      clear hNN
      go_enter Tryz.func395, Tryz.ntmps395
      go_wp2_with fail
      go_quiet (fail)
      go_upto_region 5 with (fail)
      generalize hq4 : w.drewN _ = w4
      have H4 := hq4 ▸ HH.out.drewN _
      obtain ⟨w5, hmk, hst5⟩ := make_slots H4 N (by omega)
      obtain ⟨gn, hgn⟩ : ∃ gn, w4.heap.size = gn := ⟨_, rfl⟩
      rw [hgn] at hmk hst5
      rw [HNI.out] at hmk
      have H5 := Lib.hid hst5
      clear hst5 hgn H4 hq4
      have f50 := (H5.out.blk 0 (b := b) rfl).frozen 0
      have f51 := (H5.out.blk 0 (b := b) rfl).frozen 1
      have f52 := (H5.out.blk 0 (b := b) rfl).frozen 2
      have c50 := (H5.out.blk 0 (b := b) rfl).cell 0
      have c51 := (H5.out.blk 0 (b := b) rfl).cell 1
      have c52 := (H5.out.blk 0 (b := b) rfl).cell 2
      simp at c50 c51 c52
      go_upto_region 6 with (fail)
      have h6 := ((H5.out.write 0 (b := b) rfl 0 (.int .i64 0)).write 0 (b := b) rfl 1 (.int .i64 0)).write 0 (b := b) rfl 2 (.slice (some ⟨gn, 0, none⟩) N N)
      obtain ⟨w6, hw6⟩ : ∃ w6, w6 = ((w5.setCell ⟨b, 0, none⟩ (.int .i64 0)).setCell ⟨b, 1, none⟩ (.int .i64 0)).setCell ⟨b, 2, none⟩ (.slice (some ⟨gn, 0, none⟩) N N) := ⟨_, rfl⟩
      rw [← hw6] at h6 ⊢
      have h7 := St.swapLast (show St w0 w6 ((blkA b #[.int .i64 0, .int .i64 0, .slice (some ⟨gn, 0, none⟩) N N] 440 :: slA 504 5 (.slice a n c) n (flatSl l) :: L.set i empA) ++ [slA 504 5 (.slice (some ⟨gn, 0, none⟩) N N) N (flatSl (List.replicate N emptyS))]) from h6)
      have h8 := St.exJoin1 (hashPs b (List.replicate N emptyS)) (some ⟨gn, 0, none⟩, N) (L := L) i HIL.out (by
        unfold hashPs
        have e1 : cntK 1 (List.replicate N emptyS) = 0 := by rw [cntK_rep]; rfl
        have e2 : cntK 2 (List.replicate N emptyS) = 0 := by rw [cntK_rep]; rfl
        rw [e1, e2, List.length_replicate]
        exact h7)
      have H8 := Lib.hid (show St w0 w6 (L.set i (hashA b (rebK hmO N l 0)) ++ [slA 504 5 (.slice a n c) n (flatSl l)]) from h8)
      clear h6 h7 h8 hw6 H5 f50 f51 f52 c50 c51 c52 hmk HH c0 c1 c2
      have HREB := Lib.hid (fun k hk => Reb.all (n := N) HT.out (by have := HNP.out.pos; omega) HNP.out.home HR4.out k hk)
      go_wp2_with fail
      go_loopg [49] n (fun g v49 wr => LoopGrow w0 L i b N n l (.slice a n c) g v49 wr)
      case atStart => exact ⟨0, by omega, rfl, H8.out⟩
      case round =>
        obtain ⟨k, hk, rfl, hst⟩ := hrel
        clear H8
        have hkn : k ≤ n := by omega
        have HK := Lib.hid hk; clear hk
        have H := Lib.hid hst; clear hst
        by_cases hlt : k < n
        · obtain ⟨S, _, hrd, _⟩ := H.out.rd L.length (snoc_get _ _ _ (by simp))
          obtain ⟨bs, os, rfl, _, hco⟩ := (show Rd S wr (.slice a n c) n (flatSl l) from hrd).elem (cells := SlotV.cells) (size := 5) (fun _ => rfl) (by decide) (sl_get (l := l) (p := k) (by rw [HN.out]; exact hlt))
          have hsc := rebK_succ (hm := hmO) N l k (by rw [HN.out]; exact hlt)
          have hR := HREB.out k (by rw [HN.out]; omega)
          have hnx := fun h1 => Reb.next HT.out (n := N) HR4.out hR (by rw [HN.out]; exact hlt) h1
          obtain ⟨s, hs⟩ : ∃ s, sl l k = s := ⟨_, rfl⟩
          rw [hs] at hco hsc hnx
          clear hs hrd
          obtain ⟨kind, idx, vk, va, vb⟩ := s
          have d3 := hco 0 (by decide)
          have d4 := hco 1 (by decide)
          have d5 := hco 2 (by decide)
          have d6 := hco 3 (by decide)
          have d7 := hco 4 (by decide)
          simp [SlotV.cells] at d3 d4 d5 d6 d7
          have hki : (k : Int) < n := by omega
          by_cases hk1 : kind = 1
          · subst hk1
            obtain ⟨⟨i0, i1⟩, n2, n3⟩ := hnx rfl
            obtain ⟨q, q1, q2, q3, q4, q5, q6, q7, q8⟩ := hR.tab.ins ⟨i0, i1⟩ vk va vb n2 n3
            have hsc2 : rebK hmO N l (k + 1) = (rebK hmO N l k).set q ⟨1, idx, vk, va, vb⟩ := by rw [hsc]; unfold addS; rw [if_pos rfl]; exact q4
            have HSC := Lib.hid hsc2
            have HR := Lib.hid hR
            have hcc := cntK_le 1 (rebK hmO N l k)
            have hcc2 := cntK_le 2 (rebK hmO N l k)
            rw [hR.len] at hcc hcc2
            have HC := Lib.hid (fun (w9 : World) (h9 : St w0 w9 (L.set i (hashA b (rebK hmO N l k)) ++ [slA 504 5 (.slice (some ⟨bs, os, none⟩) n c) n (flatSl l)])) =>
              hash_put1 h9 i (by rw [List.getElem?_append_left (by simpa using HIL.out), List.getElem?_set_self HIL.out]) hR.tab (by rw [hR.len]; exact HNP.out) idx i0 i1 vk va vb q q1 q2 q3 _ rfl (by rw [hR.full]; have := cntK_take_le 1 l k; rw [HCF.out] at this; omega) (by rw [hR.left]; omega))
            clear hco hsc hnx hR n2 n3 q1 q2 q3 q4 q5 q6 q7 q8 hsc2 hcc hcc2
            go_wp2_with fail
            refine (HC.out _ (H.out.alloc _)).mono ?_
            rintro e w9 ⟨rfl, hst⟩
            rw [set_snoc _ _ _ _ _ HIL.out, ← HSC.out] at hst
            have H9 := Lib.hid hst
            clear hst H HC
            go_wp2_with fail
            go_roundg (n - (k + 1))
            case measure => have := HK.out; omega
            case rel => exact ⟨k + 1, by omega, by go_num, H9.out⟩
          · have hkd : (kind == 1) = false := beq_eq_false_iff_ne.2 hk1
            have hsc2 : rebK hmO N l (k + 1) = rebK hmO N l k := by rw [hsc]; unfold addS; rw [if_neg hk1]
            have HSC := Lib.hid hsc2
            clear hco hsc hnx hR hsc2
            go_wp2_with fail
            go_roundg (n - (k + 1))
            case measure => have := HK.out; omega
            case rel => exact ⟨k + 1, by omega, by go_num, by rw [HSC.out]; exact H.out.alloc _⟩
        · obtain rfl : k = n := by omega
          go_wp2_with fail
          go_end0
          refine ⟨rfl, ?_⟩
          have h := H.out.take L.length
          rw [List.take_left' (by simp)] at h
          exact h
end Go.Proofs.YtkiikblpgppmkaaGreatDoor

namespace Go.Proofs.YtkiikblpgppmkaaGreatDoor
open Go Go.RowKit
set_option linter.unusedVariables false
set_option linter.unusedSimpArgs false

def zV : Value := .agg #[.int .i64 0, .int .i64 0, .int .i64 0]
def SlotV.val (s : SlotV) : Value := .agg #[.int .i64 s.vk, .int .i64 s.va, .int .i64 s.vb]

set_option maxHeartbeats 1000000 in
theorem hash_get_yes {w0 w : World} {L : List Asr} {b : Nat} {l : List SlotV} (H : St w0 w L) (i : Nat) (hi : L[i]? = some (hashA b l)) (hT : HTab hmO l) (hP : Pow l.length) (x : Int) (h0 : 0 ≤ x) (h1 : x < 65536) (p : Nat) (hp : p < l.length) (hf : findS hmO l x = ((p : Int), -1)) :
    Calls Tryz.prog 391 #[.pointer (some ⟨b, 0, none⟩), .int .i64 x] w (Ret w (.tuple #[(sl l p).val, .bool true])) := by
  have HA := H.alloc (.cells #[.int .i64 0, .int .i64 0, .int .i64 0] 34)
  have hC := hash_find HA i hi hT hP x h0 h1
  rw [hf] at hC
  have HC := Lib.hid hC; clear hC hf
  have HA' := Lib.hid HA
  have HI := Lib.hid hi
  have HB := Lib.hid (Blk.new w #[.int .i64 0, .int .i64 0, .int .i64 0] 34)
  clear H HA hi hT hP
  go_enter Tryz.func391, Tryz.ntmps391
  go_wp2_with fail
  refine (HC.out).mono ?_
  rintro e w1 ⟨rfl, hk1⟩
  have HK1 := Lib.hid hk1; clear hk1
  have hb := HB.out.keep HK1.out (fun f => f)
  have z0 := hb.cell 0
  have z1 := hb.cell 1
  have z2 := hb.cell 2
  have y0 := hb.frozen 0
  have y1 := hb.frozen 1
  have y2 := hb.frozen 2
  simp at z0 z1 z2
  obtain ⟨⟨a, c⟩, h⟩ := (HA'.out.keep HK1.out).exSplit i HI.out
  obtain ⟨n, hn⟩ : ∃ n, l.length = n := ⟨_, rfl⟩
  unfold hashPs at h
  rw [hn] at h hp
  have c2 := (h.blk 0 rfl).cell 2
  simp at c2
  obtain ⟨S, _, hrd, hS⟩ := h.rd 1 rfl
  obtain ⟨bs, os, rfl, hbs, hco⟩ := (show Rd S w1 (.slice a n c) n (flatSl l) from hrd).elem (cells := SlotV.cells) (size := 5) (fun _ => rfl) (by decide) (sl_get (l := l) (p := p) (by omega))
  obtain ⟨s, hs⟩ : ∃ s, sl l p = s := ⟨_, rfl⟩
  rw [hs] at hco
  have HS := Lib.hid hs
  obtain ⟨kind, idx, vk, va, vb⟩ := s
  have d5 := hco 2 (by decide)
  have d6 := hco 3 (by decide)
  have d7 := hco 4 (by decide)
  simp [SlotV.cells] at d5 d6 d7
  have hpi : (p : Int) < n := by omega
  have hcap : n ≤ c ∧ c ≤ maxLen := by obtain ⟨_, ho, _⟩ := h.rd 1 rfl; exact ho.cap
  unfold maxLen at hcap
  have HKK := Lib.hid (show Keep w w1 Nope from ((Keep.refl w Nope).alloc _).trans HK1.out (fun _ f => f.elim))
  have HBB := Lib.hid hb
  clear hco hs hrd h hb hS hn
  go_wp2_with fail
  rw [HS.out]
  have hb5 := ((HBB.out.setCell 0 (.int .i64 vk)).setCell 1 (.int .i64 va)).setCell 2 (.int .i64 vb)
  have e0 := hb5.cell 0
  have e1 := hb5.cell 1
  have e2 := hb5.cell 2
  simp at e0 e1 e2
  have HE := Lib.hid (((HKK.out.setCell (p := ⟨w.heap.size, 0, none⟩) (.inr (Nat.le_refl _)) (.int .i64 vk)).setCell (p := ⟨w.heap.size, 1, none⟩) (.inr (Nat.le_refl _)) (.int .i64 va)).setCell (p := ⟨w.heap.size, 2, none⟩) (.inr (Nat.le_refl _)) (.int .i64 vb))
  clear hb5 z0 z1 z2 y0 y1 y2 c2 d5 d6 d7
  refine bodyPost_ret (v := .tuple #[.agg #[.int .i64 vk, .int .i64 va, .int .i64 vb], .bool true]) (by simp [results, Tryz.results391, go_sem, e0, e1, e2]) rfl ⟨rfl, HE.out⟩

/-- The zero value stands in the cell of the result. -/
theorem zero_res {w w1 : World} (hk : Keep (w.alloc (.cells #[.int .i64 0, .int .i64 0, .int .i64 0] 34)) w1 Nope) :
    Blk w1 w.heap.size #[.int .i64 0, .int .i64 0, .int .i64 0] 34 := (Blk.new w _ _).keep hk (fun f => f)
theorem keep3 {w w1 : World} (hk : Keep w w1 Nope) (u0 u1 u2 : Value) : Keep w (((w1.setCell ⟨w.heap.size, 0, none⟩ u0).setCell ⟨w.heap.size, 1, none⟩ u1).setCell ⟨w.heap.size, 2, none⟩ u2) Nope :=
  ((hk.setCell (p := ⟨w.heap.size, 0, none⟩) (.inr (Nat.le_refl _)) u0).setCell (p := ⟨w.heap.size, 1, none⟩) (.inr (Nat.le_refl _)) u1).setCell (p := ⟨w.heap.size, 2, none⟩) (.inr (Nat.le_refl _)) u2

set_option maxHeartbeats 1000000 in
theorem hash_get_none {w0 w : World} {L : List Asr} {b : Nat} {l : List SlotV} (H : St w0 w L) (i : Nat) (hi : L[i]? = some (hashA b l)) (hT : HTab hmO l) (hP : Pow l.length) (x : Int) (h0 : 0 ≤ x) (h1 : x < 65536) (q : Int) (hf : findS hmO l x = (-1, q)) :
    Calls Tryz.prog 391 #[.pointer (some ⟨b, 0, none⟩), .int .i64 x] w (Ret w (.tuple #[zV, .bool false])) := by
  have HA := H.alloc (.cells #[.int .i64 0, .int .i64 0, .int .i64 0] 34)
  have hC := hash_find HA i hi hT hP x h0 h1
  rw [hf] at hC
  have HC := Lib.hid hC; clear hC hf H HA hi hT hP
  go_enter Tryz.func391, Tryz.ntmps391
  go_wp2_with fail
  refine (HC.out).mono ?_
  rintro e w1 ⟨rfl, hk1⟩
  have hb := zero_res hk1
  have HKK := Lib.hid (show Keep w w1 Nope from ((Keep.refl w Nope).alloc _).trans hk1 (fun _ f => f.elim))
  have z0 := hb.cell 0
  have z1 := hb.cell 1
  have z2 := hb.cell 2
  have y0 := hb.frozen 0
  have y1 := hb.frozen 1
  have y2 := hb.frozen 2
  simp at z0 z1 z2
  have HBB := Lib.hid hb
  clear hk1 hb
  go_wp2_with fail
  have hb5 := ((HBB.out.setCell 0 (.int .i64 0)).setCell 1 (.int .i64 0)).setCell 2 (.int .i64 0)
  have e0 := hb5.cell 0
  have e1 := hb5.cell 1
  have e2 := hb5.cell 2
  simp at e0 e1 e2
  have HE := Lib.hid (keep3 HKK.out (.int .i64 0) (.int .i64 0) (.int .i64 0))
  clear hb5 z0 z1 z2 y0 y1 y2
  refine bodyPost_ret (v := .tuple #[.agg #[.int .i64 0, .int .i64 0, .int .i64 0], .bool false]) (by simp [results, Tryz.results391, go_sem, e0, e1, e2]) rfl ⟨rfl, HE.out⟩

theorem run_make_slots (w : World) (n : Nat) (hn : n ≤ 2000000) :
    ∃ w', (Instr.makeSlice 436 (.int .i64 (n : Int)) (.int .i64 (n : Int))).run Tryz.prog w = .ok (.slice (some ⟨w.heap.size, 0, none⟩) n n) w' ∧
      Own (New w w') w' 504 5 (.slice (some ⟨w.heap.size, 0, none⟩) n n) n (flatSl (List.replicate n emptyS)) ∧ Keep w w' Nope := by
  obtain ⟨w', h1, h2, h3⟩ := run_make (P := Tryz.prog) (t := 436) (e := 504) (size := 5) (bytes := 40) (.agg #[.int .i64 0, .int .i64 0, .int .i64 0, .int .i64 0, .int .i64 0])
    Tryz.underlying436 (by kernel_rfl) rfl (by decide) .i64 .i64 n (by omega) (by unfold maxLen; omega) w
  rw [show (Value.agg #[.int .i64 0, .int .i64 0, .int .i64 0, .int .i64 0, .int .i64 0]).cells.toList = [Value.int .i64 0, .int .i64 0, .int .i64 0, .int .i64 0, .int .i64 0] from rfl, hash_flat_new] at h2
  exact ⟨w', h1, h2, h3⟩
set_option maxHeartbeats 1000000 in
theorem hash_new {w0 w : World} {L : List Asr} (H : St w0 w L) : Calls Tryz.prog 286 #[] w (fun e w' => ∃ b, e = .returned (.pointer (some ⟨b, 0, none⟩)) ∧ St w0 w' (L ++ [hashA b (List.replicate 8 emptyS)])) := by
  obtain ⟨w1, hmk, ho, hk⟩ := run_make_slots w 8 (by decide)
  have hmk' : (Instr.makeSlice 436 (.int .i64 8) (.int .i64 8)).run Tryz.prog w = .ok (.slice (some ⟨w.heap.size, 0, none⟩) 8 8) w1 := hmk
  have HO := Lib.hid ho
  have HK := Lib.hid hk
  have HH := Lib.hid H
  clear hmk ho hk H
  go_enter Tryz.func286, Tryz.ntmps286
  go_wp2_with fail
  go_ret
  refine ⟨_, rfl, ?_⟩
  refine HH.out.add (w' := w1.alloc _) (HK.out.alloc _) (A := hashA w1.heap.size (List.replicate 8 emptyS)) ⟨(some ⟨w.heap.size, 0, none⟩, 8), ?_⟩
  have hs := HK.out.size
  refine ⟨fun j x => (j = 0 ∧ x = w1.heap.size) ∨ (j = 1 ∧ New w w1 x), fun j A hj => ?_, fun j x hx => ?_, fun j k x hj hk => ?_⟩
  · rcases j with _ | _ | j
    · cases hj
      exact ⟨Blk.new w1 _ _, .inl ⟨rfl, rfl⟩⟩
    · cases hj
      exact (HO.out.alloc _).mono (fun x hx => .inr ⟨rfl, hx⟩)
    · cases hj
  · rcases hx with ⟨_, rfl⟩ | ⟨_, hx⟩
    · exact ⟨hs, by simp⟩
    · exact ⟨hx.1, by have := hx.2; simp; omega⟩
  · rcases hj with ⟨rfl, rfl⟩ | ⟨rfl, hj⟩ <;> rcases hk with ⟨rfl, hk⟩ | ⟨rfl, hk⟩
    · rfl
    · have := hk.2; omega
    · subst hk; have := hj.2; omega
    · rfl

end Go.Proofs.YtkiikblpgppmkaaGreatDoor
