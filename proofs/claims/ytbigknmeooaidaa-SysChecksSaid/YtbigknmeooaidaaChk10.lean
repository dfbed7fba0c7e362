/-
  The library's Concat; the package sys: may what is declared be.
-/
import Derived.Test.YtbigknmeooaidaaChk9
import Derived.Test.YtbigknmeooaidaaGrow
namespace Go.Proofs.Ytbigknmeooaidaa
open Go Go.RowKit
set_option linter.unusedVariables false
set_option linter.unusedSimpArgs false

def catR (rs : List RowV) : List Int := (rs.map RowV.l).flatten
theorem catR_snoc {rs : List RowV} {k : Nat} {r : RowV} (h : rs[k]? = some r) : catR (rs.take (k + 1)) = catR (rs.take k) ++ r.l := by
  unfold catR
  rw [List.take_add_one, h]
  simp
theorem catR_le (rs : List RowV) (k : Nat) : (catR (rs.take k)).length ≤ (catR rs).length := by
  have : catR rs = catR (rs.take k) ++ catR (rs.drop k) := by
    unfold catR
    rw [← List.flatten_append, ← List.map_append, List.take_append_drop]
  rw [this, List.length_append]
  omega
def LoopCt1 (w : World) (rs : List RowV) (g : Nat) (v3 v11 : Value) (wr : World) : Prop :=
  ∃ k : Nat, g + k = rs.length ∧ v11 = .int .i64 k ∧ v3 = .int .i64 ((catR (rs.take k)).length : Nat) ∧ w = wr
def LoopCt2 (w : World) (rs : List RowV) (g : Nat) (v6 v27 : Value) (wr : World) : Prop :=
  ∃ (k n : Nat) (a : Option Addr) (c : Nat), g + k = rs.length ∧ v27 = .int .i64 k ∧ v6 = .slice a n c ∧ (catR (rs.take k)).length = n ∧ (catR rs).length ≤ c ∧ St w wr [slA 3 1 (.slice a n c) n (ints (catR (rs.take k)))]

set_option maxHeartbeats 2000000 in
theorem slices_Concat (v : Value) (rs : List RowV) (w : World) (S : Nat → Prop) (h : RdRows S w v rs) (hb : (catR rs).length * 8 ≤ 281474976710656) :
    Calls Try.prog 70 #[v] w (fun e w' => ∃ (S2 : Nat → Prop) (a : Option Addr) (n c : Nat), e = .returned (.slice a n c) ∧ n = (catR rs).length ∧ Rd S2 w' (.slice a n c) n (ints (catR rs)) ∧ Keep w w' Nope) := by
  obtain ⟨a, c, rfl, g1, g2, g3, g4⟩ := id h.rd
  have hlen : rs.length ≤ 9223372036854775807 := by unfold maxLen at g2; omega
  clear g1 g2 g3 g4
  have H := Lib.hid h; clear h
  go_enter Try.func70, Try.ntmps70
  go_wp2_with fail
  go_loopg [3, 11] rs.length (fun g v3 v11 wr => LoopCt1 w rs g v3 v11 wr)
  case atStart => exact ⟨0, rfl, rfl, rfl, rfl⟩
  case round =>
    obtain ⟨k, hk, rfl, rfl, rfl⟩ := hrel
    have hkl : k ≤ rs.length := by omega
    have HK := Lib.hid hk; clear hk
    have hle := catR_le rs k
    by_cases hlt : k < rs.length
    · obtain ⟨r, hx⟩ : ∃ r, rs[k]? = some r := ⟨_, List.getElem?_eq_getElem hlt⟩
      obtain ⟨bo, oo, rfl, _, hc0, hr⟩ := H.out.get hx
      have hle2 := catR_le rs (k + 1)
      have hsn : (catR (rs.take (k + 1))).length = (catR (rs.take k)).length + r.l.length := by rw [catR_snoc hx, List.length_append]
      rw [hsn] at hle2
      have HSN := Lib.hid hsn
      obtain ⟨s, hs⟩ : ∃ s, (catR (rs.take k)).length = s := ⟨_, rfl⟩
      obtain ⟨ra, rc, rl⟩ := r
      simp only at hc0 hle2 HSN
      rw [hs] at hle hle2 HSN ⊢
      obtain ⟨m, hm⟩ : ∃ m, rl.length = m := ⟨_, rfl⟩
      rw [hm] at hc0 hle2 HSN
      have hd : decide ((s : Int) + (m : Int) < 0) = false := decide_eq_false (by omega)
      have hs1 : (s : Int) ≤ 35184372088832 := by omega
      have hm1 : (m : Int) ≤ 35184372088832 := by omega
      clear hx hr hs hm hsn
      go_wp2_with fail
      go_roundg (rs.length - (k + 1))
      case measure => have := HK.out; omega
      case rel => exact ⟨k + 1, by omega, by go_num, by rw [HSN.out]; go_num, rfl⟩
    · obtain rfl : k = rs.length := by omega
      rw [List.take_length] at hle ⊢
      obtain ⟨s, hs⟩ : ∃ s, (catR rs).length = s := ⟨_, rfl⟩
      rw [hs] at hb hle ⊢
      have HS := Lib.hid hs; clear hs
      have hG := grow_big s (by omega) w
      have HG := Lib.hid hG; clear hG
      go_wp2_with fail
      refine HG.out.mono ?_
      rintro e w1 ⟨ag, cg, rfl, hcg, hk1, hown⟩
      have hst := (St.start w).add hk1 (A := slA 3 1 (.slice ag 0 cg) 0 (ints [])) hown
      have HST0 := Lib.hid hst
      clear hst hk1 hown HG
      go_wp2_with fail
      go_loopg [6, 27] rs.length (fun g v6 v27 wr => LoopCt2 w rs g v6 v27 wr)
      case atStart => exact ⟨0, 0, ag, cg, rfl, rfl, rfl, rfl, by rw [HS.out]; exact hcg, HST0.out⟩
      case round =>
        obtain ⟨k, n, ao, co, hk, rfl, rfl, hn, hco, hst⟩ := hrel
        rw [HS.out] at hco
        clear HST0
        have hkl : k ≤ rs.length := by omega
        have HK2 := Lib.hid hk; clear hk
        have HN := Lib.hid hn
        have HST := Lib.hid hst; clear hst
        have HKP := Lib.hid (Keep.ofSt HST.out)
        by_cases hlt2 : k < rs.length
        · obtain ⟨r, hx⟩ : ∃ r, rs[k]? = some r := ⟨_, List.getElem?_eq_getElem hlt2⟩
          obtain ⟨bo, oo, rfl, _, hc0, hr⟩ := (H.out.keep0 HKP.out).get hx
          have hle2 := catR_le rs (k + 1)
          have hsn : catR (rs.take (k + 1)) = catR (rs.take k) ++ r.l := catR_snoc hx
          rw [hsn, List.length_append, hn] at hle2
          have HSN := Lib.hid hsn
          have HR := Lib.hid hr
          obtain ⟨ra, rc, rl⟩ := r
          simp only [RowV.v] at hc0 hle2 HSN HR
          obtain ⟨m, hm⟩ : ∃ m, rl.length = m := ⟨_, rfl⟩
          rw [hm] at hc0 hle2 HR
          have HM := Lib.hid hm
          have hki : (k : Int) < rs.length := by omega
          have hkd : decide ((k : Int) < rs.length) = true := decide_eq_true hki
          obtain ⟨G, hown, _, hup, _⟩ := HST.out.opens 0 rfl
          have HOwn := Lib.hid (show Own G wr 3 1 (.slice ao n co) n (ints (catR (rs.take k))) from hown)
          have HUP := Lib.hid hup
          have hHS := HS.out
          rw [hHS] at hle2
          clear hown hup hx hr hm hsn hn hHS
          go_wp2_with (at_builtin; refine wpList_app_room (P := Try.prog) slInt rfl _ _ rfl (S := G) (S2 := S) (n := n) (c := co) (xs := ints (catR (rs.take k))) (m := m) (news := ints rl) rfl rfl ?_ ?_ ?_ ?_ ?_ ?_)
          · exact HOwn.out
          · exact HR.out
          · rw [ints_len, HM.out, Nat.mul_one]
          · intro u hu
            obtain ⟨x, _, rfl⟩ := List.mem_map.1 hu
            rfl
          · omega
          rintro w5 ho5 hk5
          have h5 := HUP.out w5 (slA 3 1 (.slice ao (n + m) co) (n + m) (ints (catR (rs.take k)) ++ ints rl)) hk5 (ho5.mono (fun _ h => .inl h))
          rw [← ints_app] at h5
          have H5 := Lib.hid (show St w w5 [slA 3 1 (.slice ao (n + m) co) (n + m) (ints (catR (rs.take k) ++ rl))] from h5)
          clear ho5 hk5 h5
          go_wp2_with fail
          go_roundg (rs.length - (k + 1))
          case measure => have := HK2.out; omega
          case rel => exact ⟨k + 1, n + m, ao, co, by omega, by go_num, rfl, by rw [HSN.out, List.length_append, HN.out, HM.out], by rw [HS.out]; exact hco, by rw [HSN.out]; exact H5.out⟩
        · obtain rfl : k = rs.length := by omega
          rw [List.take_length] at HN HST
          go_wp2_with fail
          go_ret
          obtain ⟨G, _, hrd, _⟩ := HST.out.rd 0 rfl
          exact ⟨G, ao, n, co, rfl, by have := HN.out; have := HS.out; omega, hrd, HKP.out⟩
end Go.Proofs.Ytbigknmeooaidaa
