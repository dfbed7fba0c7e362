/-
  The document's table of slots: where an index stands, how many slots are of a kind, a new one.
-/
import Derived.Test.YtcmbbkaioopkhaaHash8
namespace Go.Proofs.Ytcmbbkaioopkhaa
open Go Go.RowKit
set_option linter.unusedVariables false
set_option linter.unusedSimpArgs false

def rhPs (b : Nat) (l : List SlotV) (p : Option Addr × Nat) : List Asr :=
  [blkA b #[.slice p.1 l.length p.2] 94, slA 79 5 (.slice p.1 l.length p.2) l.length (flatSl l)]
def rhA (b : Nat) (l : List SlotV) : Asr := exA (fun p => starA (rhPs b l p))

set_option maxHeartbeats 1000000 in
theorem rh_new {w0 w : World} {L : List Asr} (H : St w0 w L) : Calls Try.prog 27 #[] w (fun e w' => ∃ b, e = .returned (.pointer (some ⟨b, 0, none⟩)) ∧ St w0 w' (L ++ [rhA b (List.replicate 8 emptyS)])) := by
  obtain ⟨w1, hmk, ho, hk⟩ := run_make_slots w 8 (by decide)
  have hmk' : (Instr.makeSlice 76 (.int .i64 8) (.int .i64 8)).run Try.prog w = .ok (.slice (some ⟨w.heap.size, 0, none⟩) 8 8) w1 := hmk
  have HO := Lib.hid ho
  have HK := Lib.hid hk
  have HH := Lib.hid H
  clear hmk ho hk H
  go_enter Try.func27, Try.ntmps27
  go_wp2_with fail
  go_ret
  refine ⟨_, rfl, ?_⟩
  refine HH.out.add (w' := w1.alloc _) (HK.out.alloc _) (A := rhA w1.heap.size (List.replicate 8 emptyS)) ⟨(some ⟨w.heap.size, 0, none⟩, 8), ?_⟩
  have hs := HK.out.size
  refine ⟨fun j x => (j = 0 ∧ x = w1.heap.size) ∨ (j = 1 ∧ New w w1 x), fun j A hj => ?_, fun j x hx => ?_, fun j k x hj hk => ?_⟩
  · rcases j with _ | _ | j
    · cases hj
      exact ⟨Blk.new w1 _ _, .inl ⟨rfl, rfl⟩⟩
    · cases hj
      exact (HO.out.alloc _).mono (fun x hx => .inr ⟨rfl, hx⟩)
    · cases hj
  · rcases hx with ⟨_, rfl⟩ | ⟨_, hx⟩
    · exact ⟨hs, by simp⟩
    · exact ⟨hx.1, by have := hx.2; simp; omega⟩
  · rcases hj with ⟨rfl, rfl⟩ | ⟨rfl, hj⟩ <;> rcases hk with ⟨rfl, hk⟩ | ⟨rfl, hk⟩
    · rfl
    · have := hk.2; omega
    · subst hk; have := hj.2; omega
    · rfl

theorem ref_index (x : Int) (w : World) : Calls Try.prog 37 #[.int .i64 x] w (fun e w' => e = .returned (.bool (decide (0 ≤ x ∧ x < 65536))) ∧ w = w') := by
  by_cases h0 : 0 ≤ x
  · by_cases h1 : x < 65536
    · have e : decide (0 ≤ x ∧ x < 65536) = true := decide_eq_true ⟨h0, h1⟩
      rw [e]
      clear e
      have hd : decide (x ≥ 0) = true := decide_eq_true h0
      go_enter Try.func37, Try.ntmps37
      go_wp2_with fail
      go_ret
      exact ⟨rfl, rfl⟩
    · have e : decide (0 ≤ x ∧ x < 65536) = false := decide_eq_false (fun h => h1 h.2)
      rw [e]
      clear e
      have hd : decide (x ≥ 0) = true := decide_eq_true h0
      have hd2 : decide (x < 65536) = false := decide_eq_false h1
      go_enter Try.func37, Try.ntmps37
      go_wp2_with fail
      go_ret
      exact ⟨rfl, rfl⟩
  · have e : decide (0 ≤ x ∧ x < 65536) = false := decide_eq_false (fun h => h0 h.1)
    rw [e]
    clear e
    have hd : decide (x ≥ 0) = false := decide_eq_false h0
    have hd1 : decide (0 ≤ x) = false := decide_eq_false h0
    go_enter Try.func37, Try.ntmps37
    go_wp2_with fail
    go_ret
    exact ⟨rfl, rfl⟩

/-- What the document's search answers, of what the search answers. -/
def seekV (F : Int × Int) : Value := if 0 ≤ F.1 then .tuple #[.int .i64 F.1, .int .i64 F.1] else .tuple #[.int .i64 (-1), .int .i64 F.2]
def LoopSeek (w : World) (l : List SlotV) (x : Int) (F : Int × Int) (g : Nat) (v7 v8 : Value) (wr : World) : Prop :=
  ∃ (d : Nat) (free : Int), g + d = l.length ∧ d < l.length ∧ v7 = .int .i64 free ∧ v8 = .int .i64 (d : Int) ∧ FindInv l x d free F ∧ Keep w wr Nope

set_option maxHeartbeats 2000000 in
theorem rh_seek {w0 w : World} {L : List Asr} {b : Nat} {l : List SlotV} (H : St w0 w L) (i : Nat) (hi : L[i]? = some (rhA b l)) (hT : Tab hmO l) (hP : Pow l.length) (x : Int) (h0 : 0 ≤ x) (h1 : x < 65536) :
    Calls Try.prog 45 #[.pointer (some ⟨b, 0, none⟩), .int .i64 x] w (Ret w (seekV (findS hmO l x))) := by
  obtain ⟨⟨a, c⟩, h⟩ := H.exSplit i hi
  obtain ⟨D, hD, hDs⟩ : ∃ D, D < l.length ∧ ¬ goOn l x (hmO l.length x) D := by
    obtain ⟨p, hp, hk⟩ := hT.gap
    obtain ⟨d, hd, he⟩ := ps_onto hp (hT.home x h0 h1)
    exact ⟨d, hd, fun hg => hg.1 (by rw [he]; exact hk)⟩
  have HDS := Lib.hid hDs
  have HP := hP.pos
  obtain ⟨⟨fa, ff⟩, hF⟩ : ∃ F, findS hmO l x = F := ⟨_, rfl⟩
  have HF := Lib.hid hF
  rw [hF]
  have HC := Lib.hid (fun w => ref_home_yes x l.length w (hP.may x h0 h1))
  rw [hP.eq x h0 h1] at HC
  have HWF := Lib.hid hT.wf
  obtain ⟨n, hn⟩ : ∃ n, l.length = n := ⟨_, rfl⟩
  unfold rhPs at h
  rw [hn] at h HC hD HP
  have c2 := (h.blk 0 rfl).cell 0
  simp at c2
  obtain ⟨S, hown, hrd, _⟩ := h.rd 1 rfl
  obtain ⟨bs, os, rfl, _, _⟩ := (show Rd S w (.slice a n c) n (flatSl l) from hrd).elem (cells := SlotV.cells) (size := 5) (fun _ => rfl) (by decide) (sl_get (p := 0) (by omega))
  have hcap := hown.cap
  have HRD := Lib.hid hrd
  have HNN := Lib.hid hn
  unfold maxLen at hcap
  have hn1 : n ≤ 1048576 := HP.2
  have hn8 : (8 : Int) ≤ n := by have := HP.1; omega
  have hhl : hmO n x < n := by have := hT.home x h0 h1; rw [hn] at this; exact this
  have HSE := Lib.hid (show ∀ F, seekV F = if 0 ≤ F.1 then .tuple #[.int .i64 F.1, .int .i64 F.1] else .tuple #[.int .i64 (-1), .int .i64 F.2] from fun _ => rfl)
  clear hi hF hn hown hrd hDs hT hP H h HP
  go_enter Try.func45, Try.ntmps45
  go_wp2_with fail
  go_loopg [7, 8] n (fun g v7 v8 wr => LoopSeek w l x (fa, ff) g v7 v8 wr)
  case atStart =>
    refine ⟨0, -1, HNN.out.symm, ?_, rfl, rfl, ⟨HF.out, fun e he => by omega, .inl rfl⟩, Keep.refl _ _⟩
    rw [HNN.out]; omega
  case round =>
    obtain ⟨d, free, hd, hdn, rfl, rfl, hinv, hkp⟩ := hrel
    have HINV := Lib.hid hinv; clear hinv
    have HKP := Lib.hid hkp; clear hkp
    obtain ⟨p, hp⟩ : ∃ p, p = ps l.length (hmO l.length x) d := ⟨_, rfl⟩
    have HPP := Lib.hid hp
    rw [HNN.out] at hd hdn hp
    have hpn : p < n := by rw [hp]; exact ps_lt (by omega) _ _
    have HDN := Lib.hid (show d < l.length by rw [HNN.out]; exact hdn)
    obtain ⟨bs', os', hbe, _, hco⟩ := (HRD.out.keep HKP.out (fun _ _ f => f)).elem (cells := SlotV.cells) (size := 5) (fun _ => rfl) (by decide) (sl_get (l := l) (p := p) (by rw [HNN.out]; exact hpn))
    injection hbe with hbe
    injection hbe with e1 e2
    subst e1; subst e2
    have hwf := HWF.out p (by rw [HNN.out]; exact hpn)
    have d2 := HKP.out.cell c2 (fun f => f)
    have d2a : ∀ o, (wr.alloc o).cell? ⟨b, 0, none⟩ = some (.slice (some ⟨bs, os, none⟩) n c) := fun o => ((Keep.refl wr Nope).alloc o).cell d2 (fun f => f)
    have hpi : (p : Int) < n := by omega
    have hmod : ((hmO n x : Int) + d) % (n : Int) = (p : Int) := by
      rw [hp]
      unfold ps
      rw [Int.natCast_emod, Int.natCast_add]
    have HGK := Lib.hid hd
    have HST0 := Lib.hid (fun hk => HINV.out.stop0 HDN.out HPP.out hk)
    have HST1 := Lib.hid (fun hk hx => HINV.out.stop1 HDN.out HPP.out hk hx)
    have HNX := Lib.hid (fun hg f2 hf => HINV.out.next HDN.out HPP.out hg f2 hf)
    have HGO := Lib.hid (show (sl l p).kind ≠ 0 → ¬ ((sl l p).kind = 1 ∧ (sl l p).idx = x) → goOn l x (hmO l.length x) d from fun a1 a2 => by unfold goOn; rw [← HPP.out]; exact ⟨a1, a2⟩)
    have HLT := Lib.hid (fun hg => goOn_lt HINV.out.go hg HDS.out)
    obtain ⟨s, hs⟩ : ∃ s, sl l p = s := ⟨_, rfl⟩
    rw [hs] at hwf hco HST0 HST1 HNX HGO
    obtain ⟨kind, idx, vk, va, vb⟩ := s
    have d3 := hco 0 (by decide)
    have d4 := hco 1 (by decide)
    have d5 := hco 2 (by decide)
    have d6 := hco 3 (by decide)
    have d7 := hco 4 (by decide)
    simp [SlotV.cells] at d3 d4 d5 d6 d7
    have hk3 : kind = 0 ∨ kind = 1 ∨ kind = 2 := by
      rcases hwf with e | e | e
      · injection e with e; exact .inl e
      · injection e with e; exact .inr (.inr e)
      · exact .inr (.inl e.1)
    have hdi : (d : Int) < n := by omega
    have hm0 : hmO n x < 1048576 := by omega
    clear hco hp hd hwf hs
    go_wp2_with fail
    refine (HC.out wr).mono ?_
    rintro e w1 ⟨rfl, rfl⟩
    rcases hk3 with rfl | rfl | rfl
    · by_cases hf : free < 0
      · have hfd : decide (free < 0) = true := decide_eq_true hf
        have e := HST0.out rfl
        rw [if_pos hf] at e
        injection e with e1 e2
        subst e1; subst e2
        have hv := HSE.out (-1, (p : Int))
        rw [if_neg (show ¬ (0 : Int) ≤ -1 by decide)] at hv
        clear HST0 HST1 HNX HGO HLT
        go_wp2_with fail
        go_ret2
        exact ⟨by rw [hv, ← hmod]; rfl, HKP.out.alloc _⟩
      · have hfd : decide (free < 0) = false := decide_eq_false hf
        have e := HST0.out rfl
        rw [if_neg hf] at e
        injection e with e1 e2
        subst e1; subst e2
        have hv := HSE.out (-1, ff)
        rw [if_neg (show ¬ (0 : Int) ≤ -1 by decide)] at hv
        clear HST0 HST1 HNX HGO HLT
        go_wp2_with fail
        go_ret2
        exact ⟨by rw [hv]; rfl, HKP.out.alloc _⟩
    · by_cases hx : idx = x
      · subst hx
        have e := HST1.out rfl rfl
        injection e with e1 e2
        subst e1; subst e2
        have hv := HSE.out ((p : Int), -1)
        rw [if_pos (by simp)] at hv
        clear HST0 HST1 HNX HGO HLT
        go_wp2_with fail
        go_ret2
        exact ⟨by rw [hv, ← hmod]; rfl, HKP.out.alloc _⟩
      · have hxd : (idx == x) = false := beq_eq_false_iff_ne.2 hx
        have hg := HGO.out (show (1 : Int) ≠ 0 by decide) (fun h => hx h.2)
        have hx2 := HNX.out hg free (by simp)
        have hlt := HLT.out hg
        have HX2 := Lib.hid hx2
        have HLT2 := Lib.hid hlt
        clear hg hx2 hlt
        go_wp2_with fail
        go_roundg (n - (d + 1))
        case measure => have := HGK.out; omega
        case rel => exact ⟨d + 1, free, by rw [HNN.out]; omega, by have := HLT2.out; rw [HNN.out]; omega, rfl, by go_num, HX2.out, HKP.out.alloc _⟩
    · have hg := HGO.out (show (2 : Int) ≠ 0 by decide) (fun h => by cases h.1)
      have hlt := HLT.out hg
      have HLT2 := Lib.hid hlt
      by_cases hf : free < 0
      · have hfd : decide (free < 0) = true := decide_eq_true hf
        have HX2 := Lib.hid (HNX.out hg p (by rw [if_pos ⟨rfl, hf⟩]))
        clear hg hlt
        go_wp2_with fail
        go_roundg (n - (d + 1))
        case measure => have := HGK.out; omega
        case rel => exact ⟨d + 1, p, by rw [HNN.out]; omega, by have := HLT2.out; rw [HNN.out]; omega, by rw [hmod], by go_num, HX2.out, HKP.out.alloc _⟩
      · have hfd : decide (free < 0) = false := decide_eq_false hf
        have HX2 := Lib.hid (HNX.out hg free (by rw [if_neg (fun h => hf h.2)]))
        clear hg hlt
        go_wp2_with fail
        go_roundg (n - (d + 1))
        case measure => have := HGK.out; omega
        case rel => exact ⟨d + 1, free, by rw [HNN.out]; omega, by have := HLT2.out; rw [HNN.out]; omega, rfl, by go_num, HX2.out, HKP.out.alloc _⟩

def LoopCnt (w : World) (l : List SlotV) (k : Int) (g : Nat) (v5 v6 : Value) (wr : World) : Prop :=
  ∃ p : Nat, g + p = l.length ∧ v5 = .int .i64 (cntK k (l.take p)) ∧ v6 = .int .i64 p ∧ wr = w

set_option maxHeartbeats 1000000 in
theorem rh_count {w0 w : World} {L : List Asr} {b : Nat} {l : List SlotV} (H : St w0 w L) (i : Nat) (hi : L[i]? = some (rhA b l)) (hl : l.length ≤ 1048576) (k : Int) :
    Calls Try.prog 46 #[.pointer (some ⟨b, 0, none⟩), .int .i64 k] w (fun e w' => e = .returned (.int .i64 (cntK k l)) ∧ w = w') := by
  obtain ⟨⟨a, c⟩, h⟩ := H.exSplit i hi
  unfold rhPs at h
  obtain ⟨n, hn⟩ : ∃ n, l.length = n := ⟨_, rfl⟩
  rw [hn] at h hl
  have c2 := (h.blk 0 rfl).cell 0
  simp at c2
  obtain ⟨S, hown, hrd, _⟩ := h.rd 1 rfl
  have HRD := Lib.hid (show Rd S w (.slice a n c) n (flatSl l) from hrd)
  have HN := Lib.hid hn
  clear H hi h hown hrd hn
  go_enter Try.func46, Try.ntmps46
  go_wp2_with fail
  go_loopg [5, 6] n (fun g v5 v6 wr => LoopCnt w l k g v5 v6 wr)
  case atStart => exact ⟨0, HN.out.symm, rfl, rfl, rfl⟩
  case round =>
    obtain ⟨p, hp, rfl, rfl, rfl⟩ := hrel
    rw [HN.out] at hp
    have hpm : p ≤ n := by omega
    have HP := Lib.hid hp; clear hp
    by_cases hlp : p < n
    · obtain ⟨bs, os, rfl, _, hco⟩ := HRD.out.elem (cells := SlotV.cells) (size := 5) (fun _ => rfl) (by decide) (sl_get (l := l) (p := p) (by rw [HN.out]; exact hlp))
      have hc1 := cntK_take_succ k l p (by rw [HN.out]; exact hlp)
      have hb1 := cntK_le k (l.take p)
      rw [List.length_take] at hb1
      obtain ⟨u1, hu1⟩ : ∃ u, cntK k (l.take p) = u := ⟨_, rfl⟩
      rw [hu1] at hc1 hb1 ⊢
      have d3 := hco 0 (by decide)
      simp [SlotV.cells] at d3
      obtain ⟨kd, hkd⟩ : ∃ kd, (sl l p).kind = kd := ⟨_, rfl⟩
      rw [hkd] at d3 hc1
      have HC1 := Lib.hid hc1
      have hpi : (p : Int) < n := by omega
      have hb3 : u1 ≤ 1048576 := by omega
      clear hco hu1 hkd hc1 hb1
      by_cases hk1 : kd = k
      · subst hk1
        go_wp2_with fail
        go_roundg (n - (p + 1))
        case measure => have := HP.out; omega
        case rel => exact ⟨p + 1, by have := HN.out; omega, by rw [HC1.out]; go_num, by go_num, rfl⟩
      · have e1 : (kd == k) = false := by simp [hk1]
        go_wp2_with fail
        go_roundg (n - (p + 1))
        case measure => have := HP.out; omega
        case rel => exact ⟨p + 1, by have := HN.out; omega, by rw [HC1.out, if_neg hk1]; rfl, by go_num, rfl⟩
    · obtain rfl : p = n := by omega
      have ht : l.take p = l := by rw [← HN.out, List.take_length]
      rw [ht]
      clear ht
      go_wp2_with fail
      go_ret
      exact ⟨rfl, rfl⟩
end Go.Proofs.Ytcmbbkaioopkhaa
