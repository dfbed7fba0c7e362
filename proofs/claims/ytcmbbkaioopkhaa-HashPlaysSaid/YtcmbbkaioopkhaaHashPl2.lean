/-
  HashPlays: a call of both; the slots of both.
-/
import Derived.Test.YtcmbbkaioopkhaaHashPl
namespace Go.Proofs.Ytcmbbkaioopkhaa
open Go Go.RowKit
set_option linter.unusedVariables false
set_option linter.unusedSimpArgs false

theorem rh_put_any {w0 w : World} {L : List Asr} {b : Nat} {l : List SlotV} {C : Nat} (H : St w0 w L) (i : Nat) (hi : L[i]? = some (rhA b l)) (hI : HInv l C) (hC : C ≤ 60000) (x vk va vb : Int) :
    Calls Try.prog 29 #[.pointer (some ⟨b, 0, none⟩), .int .i64 x, .agg #[.int .i64 vk, .int .i64 va, .int .i64 vb]] w (fun e w' => (∃ v, e = .returned v) ∧ St w0 w' (L.set i (rhA b (if okI x then putS hmO l x vk va vb else l)))) := by
  by_cases hx : okI x
  · rw [if_pos hx]
    have h8 := hI.pow.pos.1
    have hlen := hI.len
    rcases hI.tab.find x hx with ⟨D, hD, hgo, k1, k2, hf⟩ | ⟨D, q, hD, hqD, hgo, hk, hq, hf⟩
    · have hp := ps_lt hI.tab.pos (hmO l.length x) D
      have e : putS hmO l x vk va vb = l.set (ps l.length (hmO l.length x) D) ⟨1, x, vk, va, vb⟩ := by
        unfold putS
        rw [hf, if_pos (by omega)]
        rfl
      rw [e]
      exact rh_put_old H i hi hI.tab hI.pow x hx.1 hx.2 vk va vb _ hp hf k1 k2
    · have hno := hI.tab.none hD hgo hk
      have e : putS hmO l x vk va vb = insS hmO (growS hmO l) x vk va vb := by
        unfold putS
        rw [hf, if_neg (by omega)]
      rw [e]
      exact rh_put_new H i hi hI.tab hI.pow (by omega) x hx.1 hx.2 vk va vb _ hf hno
  · rw [if_neg hx, set_same _ _ _ hi]
    exact rh_put_no H b x hx vk va vb
theorem rh_take_any {w0 w : World} {L : List Asr} {b : Nat} {l : List SlotV} {C : Nat} (H : St w0 w L) (i : Nat) (hi : L[i]? = some (rhA b l)) (hI : HInv l C) (x : Int) :
    Calls Try.prog 30 #[.pointer (some ⟨b, 0, none⟩), .int .i64 x] w (fun e w' => (∃ v, e = .returned v) ∧ St w0 w' (L.set i (rhA b (if okI x then takeS hmO l x else l)))) := by
  by_cases hx : okI x
  · rw [if_pos hx]
    exact rh_take H i hi hI.tab hI.pow x hx.1 hx.2
  · rw [if_neg hx, set_same _ _ _ hi]
    exact rh_take_no H b x hx

def LoopSl (w0 : World) (L : List Asr) (n : Nat) (g : Nat) (v6 : Value) (wr : World) : Prop :=
  ∃ k : Nat, g + k = n ∧ v6 = .int .i64 k ∧ St w0 wr L

set_option maxHeartbeats 1000000 in
theorem slots9 {w0 w : World} {L : List Asr} {bd bw : Nat} {l : List SlotV} (H : St w0 w L) (i k : Nat) (hi : L[i]? = some (hashA bd l)) (hk : L[k]? = some (rhA bw l)) (hl0 : 0 < l.length) (hl : l.length ≤ 1048576) :
    Calls Try.prog 31 #[.pointer (some ⟨bd, 0, none⟩), .pointer (some ⟨bw, 0, none⟩)] w (fun e w' => e = .returned (.bool true) ∧ St w0 w' L) := by
  have HIL := Lib.hid (List.getElem?_eq_some_iff.1 hi).1
  have HKL := Lib.hid (List.getElem?_eq_some_iff.1 hk).1
  have hS := hash_slots H i hi hl
  have HL0 := Lib.hid hl0
  obtain ⟨n, hn⟩ : ∃ n, l.length = n := ⟨_, rfl⟩
  have HN := Lib.hid hn
  rw [hn] at hS hl hl0
  have HS := Lib.hid hS
  have HK := Lib.hid hk
  clear H hi hk hS hn
  go_enter Try.func31, Try.ntmps31
  go_wp2_with fail
  refine (HS.out).mono ?_
  rintro e w1 ⟨a1, c1, rfl, hst⟩
  have H1 := Lib.hid hst
  clear hst HS
  obtain ⟨g, c, ho⟩ := rh_open H1.out k (by rw [List.getElem?_append_left HKL.out]; exact HK.out) HL0.out
  have cp := ho.ptr
  rw [HN.out] at cp
  have hne : ((n : Int) != n) = false := by simp
  clear ho
  go_wp2_with fail
  clear cp
  go_loopg [6] n (fun g v6 wr => LoopSl w0 (L ++ [slA 79 5 (.slice a1 n c1) n (flatSl l)]) n g v6 wr)
  case atStart => exact ⟨0, by omega, rfl, H1.out⟩
  case round =>
    obtain ⟨p, hp, rfl, hst⟩ := hrel
    have hpn : p ≤ n := by omega
    have HP := Lib.hid hp; clear hp
    clear H1
    have H1 := Lib.hid hst; clear hst
    by_cases hlt : p < n
    · obtain ⟨g, c, ho⟩ := rh_open H1.out k (by rw [List.getElem?_append_left HKL.out]; exact HK.out) HL0.out
      have cp := ho.ptr
      rw [HN.out] at cp
      have hcap := ho.cap
      rw [HN.out] at hcap
      unfold maxLen at hcap
      obtain ⟨y0, y1, y2, y3, y4⟩ := ho.cell p (by rw [HN.out]; exact hlt)
      obtain ⟨S, _, hrd, _⟩ := H1.out.rd L.length (snoc_get _ _ _ rfl)
      obtain ⟨bs, os, rfl, _, hco⟩ := (show Rd S wr (.slice a1 n c1) n (flatSl l) from hrd).elem (cells := SlotV.cells) (size := 5) (fun _ => rfl) (by decide) (sl_get (l := l) (p := p) (by rw [HN.out]; exact hlt))
      have d3 := hco 0 (by decide)
      have d4 := hco 1 (by decide)
      have d5 := hco 2 (by decide)
      have d6 := hco 3 (by decide)
      have d7 := hco 4 (by decide)
      simp [SlotV.cells] at d3 d4 d5 d6 d7
      obtain ⟨s, hs⟩ : ∃ s, sl l p = s := ⟨_, rfl⟩
      rw [hs] at y0 y1 y2 y3 y4 d3 d4 d5 d6 d7
      obtain ⟨s0, s1, s2, s3, s4⟩ := s
      simp only at y0 y1 y2 y3 y4 d3 d4 d5 d6 d7
      have hpi : (p : Int) < n := by omega
      have hpd : decide ((p : Int) < n) = true := decide_eq_true hpi
      clear ho hco hrd hs
      go_upto_region 7 with (fail)
      go_quiet (fail)
      go_wp2_with fail
      go_roundg (n - (p + 1))
      case measure => have := HP.out; omega
      case rel => exact ⟨p + 1, by omega, by go_num, H1.out.drewN _⟩
    · obtain rfl : p = n := by omega
      have hpd : decide ((p : Int) < p) = false := decide_eq_false (by omega)
      go_wp2_with fail
      go_ret
      refine ⟨rfl, ?_⟩
      have h9 := H1.out.take L.length
      rw [List.take_left' rfl] at h9
      exact h9
end Go.Proofs.Ytcmbbkaioopkhaa
