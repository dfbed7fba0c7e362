/-
  HashBack: put and taken again and again, a table of few values does not grow, and finds them.
-/
import Derived.Test.YtcmbbkaioopkhaaHash8
namespace Go.Proofs.Ytcmbbkaioopkhaa
open Go Go.RowKit
set_option linter.unusedVariables false
set_option linter.unusedSimpArgs false

structure Back (l : List SlotV) (C i : Nat) : Prop where
  inv : HInv l C
  has : ∀ j a b c, Has l j a b c ↔ ∃ t : Nat, t < i ∧ j = 60000 + (t : Int) ∧ a = 1 ∧ b = t ∧ c = 0
  cnt : cntK 1 l = i
  len : l.length = 8
theorem Back.start : Back tab0 0 0 := ⟨HInv.start, fun j a b c => ⟨fun h => absurd h (tab0_ok.2.2.2 j a b c), fun ⟨t, h, _⟩ => by omega⟩, tab0_ok.2.1, rfl⟩
theorem newN_small {l : List SlotV} (h : l.length = 8) (hc : cntK 1 l ≤ 3) : newN l = 8 := by
  unfold newN
  rw [h, if_neg (by omega)]
theorem Back.put {l l' : List SlotV} {C i : Nat} {had : Bool} {ov : Value} (h : Back l C i) (hi : i < 3) (p : PutOk l C (60000 + (i : Int)) 1 i 0 l' had ov) : Back l' (C + 1) (i + 1) := by
  have hno : had = false := by
    cases had with
    | false => rfl
    | true =>
      obtain ⟨a, b, c, hh, _⟩ := p.yes rfl
      obtain ⟨t, ht, e, _⟩ := (h.has _ _ _ _).1 hh
      omega
  refine ⟨p.inv, fun j a b c => ?_, by rw [p.cnt, hno, h.cnt]; rfl, ?_⟩
  · rw [p.has, h.has]
    constructor
    · rintro (⟨rfl, rfl, rfl, rfl⟩ | ⟨_, t, ht, e⟩)
      · exact ⟨i, by omega, rfl, rfl, rfl, rfl⟩
      · exact ⟨t, by omega, e⟩
    · rintro ⟨t, ht, rfl, rfl, rfl, rfl⟩
      by_cases e : t = i
      · subst e; exact .inl ⟨rfl, rfl, rfl, rfl⟩
      · exact .inr ⟨by omega, t, by omega, rfl, rfl, rfl, rfl⟩
  · rcases p.len with e | ⟨_, e⟩
    · rw [e, h.len]
    · rw [e]; exact newN_small h.len (by rw [h.cnt]; omega)
/-- Put, and taken again. -/
theorem Back.round {l l1 l2 : List SlotV} {C : Nat} {k : Int} {h1 h2 : Bool} {o1 o2 : Value} (h : Back l C 3) (hk : k < 60000) (p : PutOk l C k 3 0 0 l1 h1 o1) (t : TakeOk l1 (C + 1) k l2 h2 o2) : Back l2 (C + 1) 3 ∧ h2 = true ∧ o2 = agg3 3 0 0 := by
  have hn : ∀ a b c, ¬ Has l k a b c := fun a b c hh => by
    obtain ⟨t, ht, e, _⟩ := (h.has _ _ _ _).1 hh
    omega
  have hno : h1 = false := by
    cases h1 with
    | false => rfl
    | true => obtain ⟨a, b, c, hh, _⟩ := p.yes rfl; exact absurd hh (hn a b c)
  have hin : Has l1 k 3 0 0 := (p.has _ _ _ _).2 (.inl ⟨rfl, rfl, rfl, rfl⟩)
  have hyes : h2 = true := by
    cases h2 with
    | true => rfl
    | false => exact absurd hin ((t.no rfl).2 3 0 0)
  obtain ⟨a, b, c, hh, ho⟩ := t.yes hyes
  have he : a = 3 ∧ b = 0 ∧ c = 0 := by
    rcases (p.has _ _ _ _).1 hh with ⟨_, e⟩ | ⟨e, _⟩
    · exact e
    · exact absurd rfl e
  obtain ⟨rfl, rfl, rfl⟩ := he
  have c1 := p.cnt
  have c2 := t.cnt
  rw [hno] at c1
  rw [hyes] at c2
  have c3 := h.cnt
  simp at c1 c2
  refine ⟨⟨t.inv, fun j a b c => ?_, by omega, ?_⟩, hyes, ho⟩
  · rw [t.has, p.has, ← h.has]
    constructor
    · rintro ⟨h1, (⟨e, _⟩ | ⟨_, e⟩)⟩
      · exact absurd e h1
      · exact e
    · intro e
      have : j ≠ k := fun e' => hn a b c (e' ▸ e)
      exact ⟨this, .inr ⟨this, e⟩⟩
  · rw [t.len]
    rcases p.len with e | ⟨_, e⟩
    · rw [e, h.len]
    · rw [e]; exact newN_small h.len (by omega)
theorem Back.get {l : List SlotV} {C : Nat} (h : Back l C 3) (i : Nat) (hi : i < 3) {had : Bool} {ov : Value} (y : had = true → ∃ a b c, Has l (60000 + (i : Int)) a b c ∧ ov = agg3 a b c) (n : had = false → ov = zV ∧ ∀ a b c, ¬ Has l (60000 + (i : Int)) a b c) : had = true ∧ ov = agg3 1 i 0 := by
  have hin : Has l (60000 + (i : Int)) 1 i 0 := (h.has _ _ _ _).2 ⟨i, hi, rfl, rfl, rfl, rfl⟩
  have hyes : had = true := by
    cases had with
    | true => rfl
    | false => exact absurd hin ((n rfl).2 _ _ _)
  obtain ⟨a, b, c, hh, ho⟩ := y hyes
  obtain ⟨t, ht, e, rfl, rfl, rfl⟩ := (h.has _ _ _ _).1 hh
  have : t = i := by omega
  subst this
  exact ⟨hyes, ho⟩

def LoopHB1 (w : World) (b : Nat) (g : Nat) (v4 : Value) (wr : World) : Prop :=
  ∃ (i : Nat) (l : List SlotV), g + i = 3 ∧ v4 = .int .i64 i ∧ Back l i i ∧ St w wr [hashA b l]
def LoopHB2 (w : World) (b N : Nat) (g : Nat) (v5 : Value) (wr : World) : Prop :=
  ∃ (i : Nat) (l : List SlotV), g + i = N ∧ i ≤ 200 ∧ v5 = .int .i64 i ∧ Back l (3 + i) 3 ∧ St w wr [hashA b l]
def LoopHB3 (w : World) (b : Nat) (l : List SlotV) (g : Nat) (v9 : Value) (wr : World) : Prop :=
  ∃ i : Nat, g + i = 3 ∧ v9 = .int .i64 i ∧ St w wr [hashA b l]

set_option maxRecDepth 100000 in
set_option maxHeartbeats 4000000 in
theorem hashBack_walk (v : Value) (ls : List Int) (w : World) (S : Nat → Prop) (hv : Rd S w v ls.length (ls.map (Value.int .i64))) (hS : ∀ i, S i → i < w.heap.size) :
    Calls Try.prog 10 #[v] w (RetTrue w) := by
  obtain ⟨va, vc, rfl, g1, g2, g3, g4⟩ := id hv
  have hlen : ls.length ≤ 9223372036854775807 := by unfold maxLen at g2; omega
  clear g1 g2 g3 g4
  have HV := Lib.hid hv; clear hv
  have HSB := Lib.hid hS; clear hS
  have HS := Lib.hid (St.start w)
  go_enter Try.func10, Try.ntmps10
  go_wp2_with fail
  refine (hash_new HS.out).mono ?_
  rintro e w1 ⟨b, rfl, hst⟩
  have H1 := Lib.hid (show St w w1 [hashA b tab0] from hst); clear hst HS
  go_wp2_with fail
  go_loopg [4] 3 (fun g v4 wr => LoopHB1 w b g v4 wr)
  case atStart => exact ⟨0, tab0, rfl, rfl, Back.start, H1.out⟩
  case round =>
    obtain ⟨i, l, hi, rfl, hB, hst⟩ := hrel
    clear H1
    have hi3 : i ≤ 3 := by omega
    have HI := Lib.hid hi; clear hi
    by_cases hlt : i < 3
    · obtain ⟨l', had, ov, hok, hC⟩ := hash_put_any hst 0 rfl hB.inv (by omega) (60000 + (i : Int)) (by omega) (by omega) 1 i 0
      have HB2 := Lib.hid (hB.put hlt hok)
      have HC := Lib.hid hC
      clear hC hok hB hst
      have hd : decide ((i : Int) < 3) = true := decide_eq_true (by omega)
      go_wp2_with fail
      refine (HC.out).mono ?_
      rintro e w2 ⟨rfl, hst⟩
      have H2 := Lib.hid (show St w w2 [hashA b l'] from hst); clear hst HC
      go_wp2_with fail
      go_roundg (3 - (i + 1))
      case measure => have := HI.out; omega
      case rel => exact ⟨i + 1, l', by omega, by go_num, HB2.out, H2.out⟩
    · obtain rfl : i = 3 := by omega
      have HB := Lib.hid hB
      have H1 := Lib.hid hst
      clear hB hst HI hlt hi3
      go_wp2_with fail
      go_loopg [5] ls.length (fun g v5 wr => LoopHB2 w b ls.length g v5 wr)
      case atStart => exact ⟨0, l, rfl, by omega, rfl, HB.out, H1.out⟩
      case round =>
        obtain ⟨i, l, hi, hi2, rfl, hB, hst⟩ := hrel
        clear H1 HB
        have hil : i ≤ ls.length := by omega
        have HI := Lib.hid hi; clear hi
        by_cases hlt : i < ls.length ∧ i < 200
        · obtain ⟨hlt, h200⟩ := hlt
          obtain ⟨li, hli⟩ : ∃ li, ls[i]? = some li := ⟨_, List.getElem?_eq_getElem hlt⟩
          have hx := HV.out.below hst.bel HSB.out
          obtain ⟨vb, vo, rfl, hvb, hvc⟩ := hx.at (by simp; omega)
          have hc := hvc i (by simpa using hlt)
          rw [List.getElem?_map, hli] at hc
          simp only [Option.map_some] at hc
          obtain ⟨k, hk, hk7⟩ : ∃ k : Nat, bits .and .i64 li 32767 = (k : Int) ∧ k < 32768 := by
            rw [and_mask li 15 32767 (by decide) rfl]
            exact ⟨(li % 32768).toNat, by omega, by omega⟩
          obtain ⟨l1, h1, o1, hok1, hC1⟩ := hash_put_any hst 0 rfl hB.inv (by omega) (k : Int) (by omega) (by omega) 3 0 0
          have HC1 := Lib.hid hC1
          have HB2 := Lib.hid hB
          have HOK1 := Lib.hid hok1
          have hi200 : (i : Int) < 200 := by omega
          clear hC1 hok1 hB hst hx hvc hli
          go_wp2_with fail
          refine (HC1.out).mono ?_
          rintro e w2 ⟨rfl, hst⟩
          clear HC1
          obtain ⟨l2, h2, o2, hok2, hC2⟩ := hash_take_any (show St w w2 [hashA b l1] from hst) 0 rfl HOK1.out.inv (by omega) (k : Int) (by omega) (by omega)
          obtain ⟨hB3, rfl, rfl⟩ := HB2.out.round (by omega) HOK1.out hok2
          have HB3 := Lib.hid hB3
          have HC2 := Lib.hid hC2
          clear hB3 hC2 hok2 hst HB2 HOK1 hc hk
          go_wp2_with fail
          refine (HC2.out).mono ?_
          rintro e w3 ⟨rfl, hst⟩
          have H3 := Lib.hid (show St w w3 [hashA b l2] from hst); clear hst HC2
          unfold agg3
          go_wp2_with fail
          have hL := hash_len (H3.out.alloc (.cells #[.int .i64 3, .int .i64 0, .int .i64 0] 67)) 0 rfl
          rw [HB3.out.cnt] at hL
          refine hL.mono ?_
          rintro e w4 ⟨rfl, rfl⟩
          clear hL
          go_wp2_with fail
          have hSl := hash_slots (H3.out.alloc (.cells #[.int .i64 3, .int .i64 0, .int .i64 0] 67)) 0 rfl (by rw [HB3.out.len]; omega)
          rw [HB3.out.len] at hSl
          refine hSl.mono ?_
          rintro e w5 ⟨a5, c5, rfl, hst⟩
          have H5 := Lib.hid (show St w w5 [hashA b l2] from hst.take 1)
          clear hst hSl H3
          go_wp2_with fail
          go_roundg (ls.length - (i + 1))
          case measure => have := HI.out; omega
          case rel => exact ⟨i + 1, l2, by omega, by omega, by go_num, HB3.out, H5.out⟩
        · have HB := Lib.hid hB
          have H1 := Lib.hid hst
          clear hB hst HI
          by_cases hl2 : i < ls.length
          all_goals
            first
            | (have hx1 : ¬ (i : Int) < ls.length := by omega)
            | (have hx1 : (i : Int) < ls.length := by omega
               have hx2 : ¬ (i : Int) < 200 := by omega)
            clear hlt hl2 hil
            go_wp2_with fail
            go_loopg [9] 3 (fun g v9 wr => LoopHB3 w b l g v9 wr)
            case atStart => exact ⟨0, rfl, rfl, H1.out⟩
            case round =>
              obtain ⟨i, hi, rfl, hst⟩ := hrel
              clear H1
              have hi3 : i ≤ 3 := by omega
              have HI := Lib.hid hi; clear hi
              have H2 := Lib.hid hst; clear hst
              by_cases hlt : i < 3
              · obtain ⟨had, ov, hy, hn, hC⟩ := hash_get_any H2.out 0 rfl HB.out.inv (60000 + (i : Int)) (by omega) (by omega)
                obtain ⟨rfl, rfl⟩ := HB.out.get i hlt hy hn
                have HC := Lib.hid hC
                clear hC hy hn
                have hd : decide ((i : Int) < 3) = true := decide_eq_true (by omega)
                go_wp2_with fail
                refine (HC.out).mono ?_
                rintro e w3 ⟨rfl, hk3⟩
                have H3 := Lib.hid (H2.out.keep hk3); clear hk3 HC H2
                unfold agg3
                go_wp2_with fail
                go_roundg (3 - (i + 1))
                case measure => have := HI.out; omega
                case rel => exact ⟨i + 1, by omega, by go_num, H3.out.alloc _⟩
              · obtain rfl : i = 3 := by omega
                go_wp2_with fail
                refine (st_awake9 H2.out).mono ?_
                rintro e w9 hret
                have HR := Lib.hid hret; clear hret
                obtain ⟨rfl, hbel⟩ := HR.out
                have HBL := Lib.hid hbel; clear hbel HR
                go_wp2_with fail
                go_ret
                exact ⟨rfl, HBL.out⟩
end Go.Proofs.Ytcmbbkaioopkhaa
