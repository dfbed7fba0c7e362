/-
  The law's own plans, made of numbers.
-/
import Derived.Test.YtbigknmeooaidaaChk16
namespace Go.Proofs.Ytbigknmeooaidaa
open Go Go.RowKit
set_option linter.unusedVariables false
set_option linter.unusedSimpArgs false

/-- What is so of a plan that is being made: 'U' has those that are taken. -/
structure T17 (nd : Nat) (L : List ColV) (U : Nat) (sm : Bool) : Prop where
  kind : ∀ c, c ∈ L → 1 ≤ c.kind ∧ c.kind ≤ 4
  comp : ∀ c, c ∈ L → 0 ≤ c.comp ∧ c.comp < nd
  nodup : L.Pairwise (fun a b => a.comp ≠ b.comp)
  used : ∀ c, c ∈ L → U.testBit c.comp.toNat = true
  some' : sm = L.any askB
  lt : U < 2 ^ 60
def LoopT17 (w : World) (nd : Nat) (g : Nat) (v5 v6 v7 v8 : Value) (wr : World) : Prop :=
  ∃ (i n : Nat) (a : Option Addr) (c : Nat) (L : List ColV) (U : Nat) (sm : Bool), g + i = 6 ∧ v8 = .int .i64 i ∧ v5 = .slice a n c ∧ v6 = .int .i64 U ∧ v7 = .bool sm ∧ L.length = n ∧ n ≤ i ∧ T17 nd L U sm ∧ St w wr [slA 82 2 (.slice a n c) n (L.flatMap ColV.cells)]

theorem and_oneb (U cn : Nat) : (bits BinOp.and IntKind.i64 ((U : Int) / 2 ^ cn) 1 == 1) = U.testBit cn := by
  rw [and_mask _ 1 1 (by decide) rfl]
  have e : ((U : Int) / 2 ^ cn) = ((U / 2 ^ cn : Nat) : Int) := by norm_cast
  rw [e, Nat.testBit_eq_decide_div_mod_eq]
  have h := Nat.mod_lt (U / 2 ^ cn) (show 0 < 2 by decide)
  rw [Bool.eq_iff_iff]
  simp only [beq_iff_eq, decide_eq_true_eq]
  omega
def kv : Nat → Int
  | 0 => 1
  | 1 => 2
  | 2 => 3
  | 3 => 4
  | 4 => 1
  | _ => 2
theorem or_oneb (U cn : Nat) (hU : U < 2 ^ 60) (hc : cn < 60) : bits BinOp.or IntKind.i64 (U : Int) (wrap64 (2 ^ cn)) = ((U ||| 2 ^ cn : Nat) : Int) ∧ U ||| 2 ^ cn < 2 ^ 60 := by
  have hp : (2 : Nat) ^ cn < 2 ^ 60 := Nat.pow_lt_pow_right (by decide) hc
  have ho : U ||| 2 ^ cn < 2 ^ 60 := Nat.or_lt_two_pow hU hp
  have e : ((2 : Int) ^ cn) = ((2 ^ cn : Nat) : Int) := by norm_cast
  refine ⟨?_, ho⟩
  obtain ⟨P, hP⟩ : ∃ P : Nat, (2 : Nat) ^ cn = P := ⟨_, rfl⟩
  rw [hP] at hp ho e ⊢
  have hw : wrap64 ((2 : Int) ^ cn) = (P : Int) := by rw [e]; unfold wrap64; omega
  rw [hw]
  show IntKind.i64.wrap (((BitVec.ofInt 64 ((U : Nat) : Int) ||| BitVec.ofInt 64 ((P : Nat) : Int)).toNat : Nat) : Int) = _
  have h1 : (BitVec.ofInt 64 ((U : Nat) : Int)).toNat = U := by
    rw [BitVec.toNat_ofInt, Int.emod_eq_of_lt (by omega) (by omega)]
    simp
  have h2 : (BitVec.ofInt 64 ((P : Nat) : Int)).toNat = P := by
    rw [BitVec.toNat_ofInt, Int.emod_eq_of_lt (by omega) (by omega)]
    simp
  rw [BitVec.toNat_or, h1, h2, IntKind.wrap_i64]
  omega
theorem T17.add {nd : Nat} {L : List ColV} {U : Nat} {sm : Bool} (h : T17 nd L U sm) {cn : Nat} {K : Int} (hb : U.testBit cn = false) (hc : cn < nd) (hn : nd ≤ 60) (hK : 1 ≤ K ∧ K ≤ 4) : T17 nd (L ++ [⟨K, cn⟩]) (U ||| 2 ^ cn) (sm || (K == 1 || K == 2)) := by
  have hne : ∀ c, c ∈ L → c.comp ≠ (cn : Int) := by
    intro c hcL he
    have := h.used c hcL
    rw [he, Int.toNat_natCast, hb] at this
    cases this
  refine ⟨fun c hx => ?_, fun c hx => ?_, ?_, fun c hx => ?_, ?_, (or_oneb U cn h.lt (by omega)).2⟩
  · rcases List.mem_append.1 hx with hx | hx
    · exact h.kind c hx
    · simp at hx; subst hx; exact hK
  · rcases List.mem_append.1 hx with hx | hx
    · exact h.comp c hx
    · simp at hx; subst hx; exact ⟨by simp, by simp; omega⟩
  · rw [List.pairwise_append]
    refine ⟨h.nodup, List.pairwise_singleton _ _, fun a ha b hb => ?_⟩
    simp at hb
    subst hb
    exact hne a ha
  · rw [Nat.testBit_or, Nat.testBit_two_pow]
    rcases List.mem_append.1 hx with hx | hx
    · rw [h.used c hx]; rfl
    · simp at hx; subst hx; simp
  · rw [List.any_append, ← h.some']
    congr 1
    have h5 : (K == 5) = false := by simp; omega
    simp [askB, h5]

/-- A plan made of numbers. -/
def Tame17 (nd : Nat) (L : List ColV) : Prop := ∃ (L0 : List ColV) (U : Nat) (sm : Bool), T17 nd L0 U sm ∧ L0.length ≤ 6 ∧ L = (if sm then L0 else L0 ++ [⟨5, 0⟩])
def Ret17 (w : World) (nd : Nat) (en : Ending) (w' : World) : Prop :=
  ∃ (a : Option Addr) (c : Nat) (L : List ColV), en = .returned (.slice a L.length c) ∧ Tame17 nd L ∧ Keep w w' Nope ∧ Own (New w w') w' 82 2 (.slice a L.length c) L.length (L.flatMap ColV.cells)
theorem St.own1 {w w' : World} {A : Asr} (h : St w w' [A]) : A.at' w' (New w w') := by
  obtain ⟨G, h1, h2⟩ := h.get 0 rfl
  exact A.mono h1 (fun x hx => h2 x hx)
set_option maxHeartbeats 2000000 in
theorem law_tame17 (v : Value) (l : List Int) (nd : Nat) (w : World) (S : Nat → Prop) (h : Rd S w v l.length (ints l)) (hnd : nd ≤ 60) :
    Calls Try.prog 43 #[v, .int .i64 nd] w (Ret17 w nd) := by
  obtain ⟨a, c, rfl, g1, g2, g3, g4⟩ := id h
  have hlen : l.length ≤ 9223372036854775807 := by unfold maxLen at g2; omega
  clear g1 g2 g3 g4
  have H := Lib.hid h; clear h
  go_enter Try.func43, Try.ntmps43
  go_wp2_with fail
  go_loopg [5, 6, 7, 8] 6 (fun g v5 v6 v7 v8 wr => LoopT17 w nd g v5 v6 v7 v8 wr)
  case atStart => exact ⟨0, 0, none, 0, [], 0, false, rfl, rfl, rfl, rfl, rfl, rfl, Nat.le_refl _, ⟨by simp, by simp, by simp, by simp, rfl, by decide⟩, (St.start w).add (Keep.refl _ _) (A := slA 82 2 (.slice none 0 0) 0 []) (Own.nil _ _ _ _)⟩
  case round =>
    obtain ⟨i, n, ao, co, L, U, sm, hg, rfl, rfl, rfl, rfl, hn, hni, hT, hst⟩ := hrel
    have HG := Lib.hid hg
    have HN := Lib.hid hn
    have HT := Lib.hid hT
    have HST := Lib.hid hst
    have HKP := Lib.hid (Keep.ofSt hst)
    have hi6 : i ≤ 6 := by omega
    have hU := hT.lt
    clear hg hn hT hst
    by_cases hlt : i < l.length ∧ i < 6
    · obtain ⟨hl1, hl2⟩ := hlt
      have hI1 : (i : Int) < l.length := by omega
      have hI2 : (i : Int) < 6 := by omega
      obtain ⟨x0, hx⟩ : ∃ x, l[i]? = some x := ⟨_, List.getElem?_eq_getElem hl1⟩
      obtain ⟨bo, oo, ⟨c', hv⟩, _, hc0⟩ := (H.out.keep HKP.out (fun _ _ f => f)).int hx
      injection hv with hv1 hv2 hv3
      subst hv1; subst hv3; clear hv2 hx
      obtain ⟨X, hX, hXl⟩ : ∃ X : Nat, bits .and .i64 x0 65535 = (X : Int) ∧ X < 65536 := by
        rw [and_mask x0 16 65535 (by decide) rfl]
        exact ⟨(x0 % 65536).toNat, by omega, by omega⟩
      have HCN := Lib.hid (show nd ≠ 0 → ∃ cn : Nat, (X : Int) / 8 % min (nd : Int) 64 = (cn : Int) ∧ cn < nd from fun h => by
        rw [Int.min_eq_left (by omega)]
        exact ⟨X / 8 % nd, rfl, Nat.mod_lt _ (by omega)⟩)
      go_upto_region 8 with (fail)
      by_cases h0 : nd = 0
      · subst h0
        go_wp2_with fail
        go_roundg (6 - (i + 1))
        case measure => have := HG.out; omega
        case rel => exact ⟨i + 1, n, ao, co, L, U, sm, by have := HG.out; omega, by go_num, rfl, rfl, rfl, HN.out, by omega, HT.out, HST.out⟩
      have hnI : ((nd : Int) == 0) = false := by simp; omega
      have hmod : (X : Int).tmod 7 = ((X % 7 : Nat) : Int) := by rw [Int.tmod_eq_emod_of_nonneg (by omega)]; rfl
      have h7 : X % 7 < 7 := Nat.mod_lt _ (by decide)
      obtain ⟨M, hM⟩ : ∃ M, X % 7 = M := ⟨_, rfl⟩
      rw [hM] at hmod h7
      by_cases h6 : M = 6
      · subst h6
        go_wp2_with fail
        go_roundg (6 - (i + 1))
        case measure => have := HG.out; omega
        case rel => exact ⟨i + 1, n, ao, co, L, U, sm, by have := HG.out; omega, by go_num, rfl, rfl, rfl, HN.out, by omega, HT.out, HST.out⟩
      have hm6 : ((M : Int) == 6) = false := by simp; omega
      obtain ⟨cn, hcn, hcl⟩ := HCN.out h0
      go_upto_region 10 with (fail)
      rw [hcn]
      clear hcn
      have hbit := and_oneb U cn
      cases hb : U.testBit cn
      case true =>
        rw [hb] at hbit
        go_wp2_with fail
        go_roundg (6 - (i + 1))
        case measure => have := HG.out; omega
        case rel => exact ⟨i + 1, n, ao, co, L, U, sm, by have := HG.out; omega, by go_num, rfl, rfl, rfl, HN.out, by omega, HT.out, HST.out⟩
      rw [hb] at hbit
      have hor := or_oneb U cn hU (by omega)
      obtain ⟨V, hV⟩ : ∃ V, U ||| 2 ^ cn = V := ⟨_, rfl⟩
      rw [hV] at hor
      obtain ⟨hor, hVl⟩ := hor
      go_upto_region 12 with (fail)
      have hmc : M = 0 ∨ M = 1 ∨ M = 2 ∨ M = 3 ∨ M = 4 ∨ M = 5 := by omega
      obtain ⟨G, hown, _, hup, _⟩ := HST.out.opens 0 rfl
      have HOwn := Lib.hid (show Own G wr 82 2 (.slice ao n co) n (L.flatMap ColV.cells) from hown)
      have HUP := Lib.hid hup
      clear hown hup hM hX
      obtain ⟨K, hK⟩ : ∃ K, kv M = K := ⟨_, rfl⟩
      have HKV := Lib.hid hK
      clear hK
      rcases hmc with rfl | rfl | rfl | rfl | rfl | rfl
      all_goals
        cases sm
        all_goals
          go_upto_region 14 with (fail)
          obtain ⟨w1, hw1⟩ : ∃ w1, w1 = wr.alloc (.cells #[.int .i64 1, .int .i64 2, .int .i64 3, .int .i64 4, .int .i64 1, .int .i64 2] 3) := ⟨_, rfl⟩
          have hk1 : Keep wr w1 Nope := by rw [hw1]; exact (Keep.refl wr Nope).alloc _
          rw [← hw1]
          have HK1 := Lib.hid hk1
          clear hw1 hk1
          go_wp2_with (at_builtin; refine wpList_app (P := Try.prog) slCol rfl _ _ rfl (S := G) (S2 := fun z => z = w1.heap.size) (n := n) (xs := L.flatMap ColV.cells) (m := 1) rfl rfl ?_ (Own.lit (S := fun z => z = w1.heap.size) w1 82 2 1 _ (by decide) rfl rfl).rd rfl (by intro u hu; simp at hu; rcases hu with rfl | rfl <;> rfl) (by omega) (by unfold maxLen; omega) ?_; (· exact HOwn.out.keep (T := Nope) (HK1.out.alloc _) (fun _ _ f => f)); rintro a' k' c' w5 happ; obtain ⟨z1, z2⟩ := app_up (wr := wr) (HK1.out.alloc _) happ; obtain rfl := happ.num; have h5 := HUP.out w5 _ z1 z2; have H5 := Lib.hid h5; clear happ z1 z2 h5)
          go_roundg (6 - (i + 1))
          case measure => have := HG.out; omega
          case rel =>
            have hT' := HT.out.add (K := K) hb hcl hnd (by rw [← HKV.out]; decide)
            rw [hV] at hT'
            have h5 := H5.out
            obtain rfl := HKV.out
            exact ⟨i + 1, n + 1, a', c', _, V, _, by have := HG.out; omega, by go_num, rfl, rfl, rfl, by rw [List.length_append, HN.out]; rfl, by omega, hT', by rw [List.flatMap_append]; exact h5⟩
    · have hout : (¬ i < l.length) ∨ (i < l.length ∧ ¬ i < 6) := by omega
      have hT0 := HT.out
      rcases hout with h1 | ⟨h1, h2⟩
      · have d1 : decide ((i : Int) < l.length) = false := decide_eq_false (by omega)
        cases sm
        · obtain ⟨G, hown, _, hup, _⟩ := HST.out.opens 0 rfl
          have HOwn := Lib.hid (show Own G wr 82 2 (.slice ao n co) n (L.flatMap ColV.cells) from hown)
          have HUP := Lib.hid hup
          clear hown hup
          go_wp2_with (at_builtin; go_loud (refine wpList_app (P := Try.prog) slCol rfl _ _ rfl (S := G) (S2 := fun z => z = wr.heap.size) (n := n) (xs := L.flatMap ColV.cells) (m := 1) rfl rfl ?_ (Own.lit (S := fun z => z = wr.heap.size) wr 82 2 1 _ (by decide) rfl rfl).rd rfl (by intro u hu; simp at hu; rcases hu with rfl | rfl <;> rfl) (by omega) (by unfold maxLen; omega) ?_; (· exact HOwn.out.keep (T := Nope) ((Keep.refl wr Nope).alloc _) (fun _ _ f => f)); rintro a' k' c' w5 happ; obtain ⟨z1, z2⟩ := app_up (wr := wr) ((Keep.refl wr Nope).alloc _) happ; obtain rfl := happ.num; have h5 := HUP.out w5 _ z1 z2; have H5 := Lib.hid h5; clear happ z1 z2 h5))
          go_ret
          have hn := HN.out
          subst hn
          have h5 : St w w5 [slA 82 2 (.slice a' (L.length + 1) c') (L.length + 1) ((L ++ [(⟨5, 0⟩ : ColV)]).flatMap ColV.cells)] := by rw [List.flatMap_append]; exact H5.out
          exact ⟨a', c', L ++ [⟨5, 0⟩], by rw [List.length_append]; rfl, (show Tame17 nd (L ++ [⟨5, 0⟩]) from ⟨L, U, false, hT0, by omega, rfl⟩), Keep.ofSt h5, by rw [List.length_append]; exact h5.own1⟩
        · go_wp2_with fail
          go_ret
          have hn := HN.out
          subst hn
          exact ⟨ao, co, L, rfl, ⟨L, U, true, hT0, by omega, rfl⟩, HKP.out, HST.out.own1⟩
      · obtain rfl : i = 6 := by omega
        have d1 : decide (((6 : Nat) : Int) < l.length) = true := decide_eq_true (by omega)
        have d1' : (6 : Int) < l.length := by omega
        cases sm
        · obtain ⟨G, hown, _, hup, _⟩ := HST.out.opens 0 rfl
          have HOwn := Lib.hid (show Own G wr 82 2 (.slice ao n co) n (L.flatMap ColV.cells) from hown)
          have HUP := Lib.hid hup
          clear hown hup
          go_wp2_with (at_builtin; go_loud (refine wpList_app (P := Try.prog) slCol rfl _ _ rfl (S := G) (S2 := fun z => z = wr.heap.size) (n := n) (xs := L.flatMap ColV.cells) (m := 1) rfl rfl ?_ (Own.lit (S := fun z => z = wr.heap.size) wr 82 2 1 _ (by decide) rfl rfl).rd rfl (by intro u hu; simp at hu; rcases hu with rfl | rfl <;> rfl) (by omega) (by unfold maxLen; omega) ?_; (· exact HOwn.out.keep (T := Nope) ((Keep.refl wr Nope).alloc _) (fun _ _ f => f)); rintro a' k' c' w5 happ; obtain ⟨z1, z2⟩ := app_up (wr := wr) ((Keep.refl wr Nope).alloc _) happ; obtain rfl := happ.num; have h5 := HUP.out w5 _ z1 z2; have H5 := Lib.hid h5; clear happ z1 z2 h5))
          go_ret
          have hn := HN.out
          subst hn
          have h5 : St w w5 [slA 82 2 (.slice a' (L.length + 1) c') (L.length + 1) ((L ++ [(⟨5, 0⟩ : ColV)]).flatMap ColV.cells)] := by rw [List.flatMap_append]; exact H5.out
          exact ⟨a', c', L ++ [⟨5, 0⟩], by rw [List.length_append]; rfl, (show Tame17 nd (L ++ [⟨5, 0⟩]) from ⟨L, U, false, hT0, by omega, rfl⟩), Keep.ofSt h5, by rw [List.length_append]; exact h5.own1⟩
        · go_wp2_with fail
          go_ret
          have hn := HN.out
          subst hn
          exact ⟨ao, co, L, rfl, ⟨L, U, true, hT0, by omega, rfl⟩, HKP.out, HST.out.own1⟩
end Go.Proofs.Ytbigknmeooaidaa
