/-
  HashMany: many indexes, put in any order, some of them taken, are found by themselves.
-/
import Derived.Test.YtcmbbkaioopkhaaHash8
namespace Go.Proofs.Ytcmbbkaioopkhaa
open Go Go.RowKit
set_option linter.unusedVariables false
set_option linter.unusedSimpArgs false

theorem odd_dvd (s : Nat) (hs : s % 2 = 1) : ∀ (p d : Nat), 2 ^ p ∣ d * s → 2 ^ p ∣ d
  | 0, d, _ => ⟨d, by simp⟩
  | p + 1, d, ⟨q, h⟩ => by
    have he : 2 ^ (p + 1) * q = 2 * (2 ^ p * q) := by rw [Nat.pow_succ, Nat.mul_comm (2 ^ p) 2, Nat.mul_assoc]
    rw [he] at h
    have hd : d % 2 = 0 := by
      rcases Nat.mod_two_eq_zero_or_one d with e | e
      · exact e
      · exfalso
        have h1 : (d * s) % 2 = 1 := by rw [Nat.mul_mod, e, hs]
        omega
    obtain ⟨d', rfl⟩ : ∃ d', d = 2 * d' := ⟨d / 2, by omega⟩
    rw [Nat.mul_assoc] at h
    obtain ⟨r, hr⟩ := odd_dvd s hs p d' ⟨q, by omega⟩
    exact ⟨r, by rw [hr, Nat.pow_succ, Nat.mul_comm (2 ^ p) 2, Nat.mul_assoc]⟩
/-- The index of the t-th put. -/
def idxM (s t : Nat) : Nat := t * s % 65536
theorem idxM_inj {s t u : Nat} (hs : s % 2 = 1) (ht : t < 65536) (hu : u < 65536) (h : idxM s t = idxM s u) : t = u := by
  have key : ∀ a b : Nat, a ≤ b → b < 65536 → idxM s a = idxM s b → a = b := by
    intro a b hab hb h
    have hd : 2 ^ 16 ∣ (b - a) * s := by
      unfold idxM at h
      refine ⟨(b * s) / 65536 - (a * s) / 65536, ?_⟩
      have h1 : a * s ≤ b * s := Nat.mul_le_mul_right _ hab
      have h2 := Nat.div_add_mod (a * s) 65536
      have h3 := Nat.div_add_mod (b * s) 65536
      have h4 : (a * s) / 65536 ≤ (b * s) / 65536 := Nat.div_le_div_right h1
      rw [Nat.sub_mul, Nat.mul_sub]
      omega
    obtain ⟨q, hq⟩ := odd_dvd s hs 16 (b - a) hd
    rcases Nat.eq_zero_or_pos q with e | e
    · subst e; omega
    · have : 65536 * 1 ≤ 65536 * q := Nat.mul_le_mul_left _ e
      omega
  rcases Nat.le_total t u with c | c
  · exact key t u c hu h
  · exact (key u t c ht h.symm).symm

structure Many (s : Nat) (bt : Nat → Bool) (l : List SlotV) (i : Nat) : Prop where
  inv : HInv l i
  has : ∀ j a b c, Has l j a b c ↔ ∃ t : Nat, t < i ∧ bt t = false ∧ j = (idxM s t : Int) ∧ a = 1 ∧ b = (idxM s t : Int) ∧ c = 0
theorem Many.start (s : Nat) (bt : Nat → Bool) : Many s bt tab0 0 := ⟨HInv.start, fun j a b c => ⟨fun h => absurd h (tab0_ok.2.2.2 j a b c), fun ⟨t, h, _⟩ => by omega⟩⟩
/-- What has been put, and left. -/
theorem Many.keep {s : Nat} {bt : Nat → Bool} {l l' : List SlotV} {i : Nat} {had : Bool} {ov : Value} (hs : s % 2 = 1) (h : Many s bt l i) (hi : i < 300) (hb : bt i = false) (p : PutOk l i (idxM s i) 1 (idxM s i) 0 l' had ov) : Many s bt l' (i + 1) := by
  refine ⟨p.inv, fun j a b c => ?_⟩
  rw [p.has, h.has]
  constructor
  · rintro (⟨rfl, rfl, rfl, rfl⟩ | ⟨_, t, ht, e⟩)
    · exact ⟨i, by omega, hb, rfl, rfl, rfl, rfl⟩
    · exact ⟨t, by omega, e⟩
  · rintro ⟨t, ht, e, rfl, rfl, rfl, rfl⟩
    by_cases c : t = i
    · subst c; exact .inl ⟨rfl, rfl, rfl, rfl⟩
    · exact .inr ⟨fun e' => c (idxM_inj hs (by omega) (by omega) (by omega)), t, by omega, e, rfl, rfl, rfl, rfl⟩
/-- What has been put, and taken. -/
theorem Many.drop {s : Nat} {bt : Nat → Bool} {l l1 l2 : List SlotV} {i : Nat} {h1 h2 : Bool} {o1 o2 : Value} (hs : s % 2 = 1) (h : Many s bt l i) (hi : i < 300) (hb : bt i = true) (p : PutOk l i (idxM s i) 1 (idxM s i) 0 l1 h1 o1) (t : TakeOk l1 (i + 1) (idxM s i) l2 h2 o2) : Many s bt l2 (i + 1) := by
  refine ⟨t.inv, fun j a b c => ?_⟩
  rw [t.has, p.has, h.has]
  constructor
  · rintro ⟨hj, (⟨e, _⟩ | ⟨_, t, ht, e⟩)⟩
    · exact absurd e hj
    · exact ⟨t, by omega, e⟩
  · rintro ⟨t, ht, e, rfl, rfl, rfl, rfl⟩
    have c : t ≠ i := fun c => by subst c; rw [hb] at e; cases e
    have hne : (idxM s t : Int) ≠ idxM s i := fun e' => c (idxM_inj hs (by omega) (by omega) (by omega))
    exact ⟨hne, .inr ⟨hne, t, by omega, e, rfl, rfl, rfl, rfl⟩⟩
theorem Many.get {s : Nat} {bt : Nat → Bool} {l : List SlotV} {n : Nat} (hs : s % 2 = 1) (h : Many s bt l n) (hn : n ≤ 300) (i : Nat) (hi : i < n) {had : Bool} {ov : Value} (y : had = true → ∃ a b c, Has l (idxM s i) a b c ∧ ov = agg3 a b c) (no : had = false → ov = zV ∧ ∀ a b c, ¬ Has l (idxM s i) a b c) : had = !(bt i) ∧ (had = true → ov = agg3 1 (idxM s i) 0) ∧ (had = false → ov = zV) := by
  have hv : ∀ a b c, Has l (idxM s i) a b c → bt i = false ∧ a = 1 ∧ b = (idxM s i : Int) ∧ c = 0 := by
    intro a b c hh
    obtain ⟨t, ht, e, ej, ea, eb, ec⟩ := (h.has _ _ _ _).1 hh
    have : t = i := idxM_inj hs (by omega) (by omega) (by omega)
    subst this
    exact ⟨e, ea, eb, ec⟩
  cases had with
  | true =>
    obtain ⟨a, b, c, hh, ho⟩ := y rfl
    obtain ⟨e, rfl, rfl, rfl⟩ := hv a b c hh
    exact ⟨by rw [e]; rfl, fun _ => ho, fun h => by cases h⟩
  | false =>
    obtain ⟨ho, hh⟩ := no rfl
    refine ⟨?_, fun h => (by cases h), fun _ => ho⟩
    cases e : bt i
    · exact absurd ((h.has _ _ _ _).2 ⟨i, hi, e, rfl, rfl, rfl, rfl⟩) (hh _ _ _)
    · rfl
/-- The value of the i-th step of the loop. -/
theorem idxM_val {i s : Nat} (hi : i ≤ 300) (hs : s ≤ 511) : bits .and .i64 (wrap64 ((i : Int) * (s : Int))) 65535 = (idxM s i : Int) := by
  have h1 : i * s ≤ 300 * 511 := Nat.mul_le_mul hi hs
  have h2 : ((i : Int) * (s : Int)) = ((i * s : Nat) : Int) := by omega
  rw [h2, IntWalk.wrap64_in _ (by omega), and_mask _ 16 65535 (by decide) rfl]
  unfold idxM
  omega
theorem and63 (i : Nat) : bits .and .i64 (i : Int) 63 = ((i % 64 : Nat) : Int) := by
  rw [and_mask (i : Int) 6 63 (by decide) rfl]
  omega
def btM (tk : Int) (i : Nat) : Bool := bits .and .u64 (tk / 2 ^ (i % 64)) 1 == 1
def LoopHM0 (w : World) (b n s : Nat) (bt : Nat → Bool) (g : Nat) (v8 : Value) (wr : World) : Prop :=
  ∃ (i : Nat) (l : List SlotV), g + i = n ∧ v8 = .int .i64 i ∧ Many s bt l i ∧ St w wr [hashA b l]

def LoopHM2 (w4 : World) (l : List SlotV) (m : Nat) (g : Nat) (v10 v11 v13 : Value) (wr : World) : Prop :=
  ∃ p : Nat, g + p = m ∧ v10 = .int .i64 (cntK 1 (l.take p)) ∧ v11 = .int .i64 (cntK 2 (l.take p)) ∧ v13 = .int .i64 p ∧ wr = w4

theorem and1_u64 (x : Int) : (bits .and .u64 x 1 == 0) = !(bits .and .u64 x 1 == 1) := by
  show (IntKind.u64.wrap (((BitVec.ofInt 64 x &&& BitVec.ofInt 64 1).toNat : Nat) : Int) == 0) = !(IntKind.u64.wrap (((BitVec.ofInt 64 x &&& BitVec.ofInt 64 1).toNat : Nat) : Int) == 1)
  have h2 : (BitVec.ofInt 64 x &&& BitVec.ofInt 64 1).toNat = (x % 2 ^ 64).toNat % 2 := by
    rw [BitVec.toNat_and, show (BitVec.ofInt 64 1).toNat = 2 ^ 1 - 1 from rfl, Nat.and_two_pow_sub_one_eq_mod, BitVec.toNat_ofInt]
    rfl
  rw [h2]
  rcases Nat.mod_two_eq_zero_or_one (x % 2 ^ 64).toNat with e | e <;> rw [e] <;> rfl
def LoopHM5 (w : World) (b n : Nat) (l : List SlotV) (g : Nat) (v14 : Value) (wr : World) : Prop :=
  ∃ t : Nat, g + t = n ∧ v14 = .int .i64 t ∧ St w wr [hashA b l]

set_option maxRecDepth 100000 in
set_option maxHeartbeats 4000000 in
theorem hashMany_walk (x y tk : Int) (w : World) :
    Calls Try.prog 9 #[.int .i64 x, .int .i64 y, .int .u64 tk] w (RetTrue w) := by
  have HS := Lib.hid (St.start w)
  go_enter Try.func9, Try.ntmps9
  go_wp2_with fail
  refine (hash_new HS.out).mono ?_
  rintro e w1 ⟨b, rfl, hst⟩
  have H1 := Lib.hid (show St w w1 [hashA b tab0] from hst); clear hst HS
  obtain ⟨n, hn, hn1, hn2⟩ : ∃ n : Nat, (bits .and .i64 x 511).tmod 300 = (n : Int) - 1 ∧ 1 ≤ n ∧ n ≤ 300 := by
    have e : bits .and .i64 x 511 = x % 512 := by rw [and_mask x 9 511 (by decide) rfl]; rfl
    have h0 : 0 ≤ x % 512 := by omega
    rw [e, Int.tmod_eq_emod_of_nonneg h0]
    exact ⟨((x % 512) % 300 + 1).toNat, by omega, by omega, by omega⟩
  obtain ⟨q, hq, hq2⟩ : ∃ q : Nat, bits .and .i64 y 255 = (q : Int) ∧ q ≤ 255 := by
    rw [and_mask y 8 255 (by decide) rfl]
    exact ⟨(y % 256).toNat, by omega, by omega⟩
  obtain ⟨s, hs3, hs2, hs4⟩ : ∃ s : Nat, (q : Int) * 2 + 1 = (s : Int) ∧ s % 2 = 1 ∧ s ≤ 511 := ⟨q * 2 + 1, by omega, by omega, by omega⟩
  have hn3 : (n : Int) - 1 + 1 = n := by omega
  go_wp2_with fail
  clear hn hq hs3 hn3
  go_loopg [8] n (fun g v8 wr => LoopHM0 w b n s (btM tk) g v8 wr)
  case atStart => exact ⟨0, tab0, by omega, rfl, Many.start _ _, H1.out⟩
  case round =>
    obtain ⟨i, l, hi, rfl, hM, hst⟩ := hrel
    clear H1
    have hin : i ≤ n := by omega
    have HI := Lib.hid hi; clear hi
    by_cases hlt : i < n
    · obtain ⟨k, hk⟩ : ∃ k, idxM s i = k := ⟨_, rfl⟩
      have hk2 : k < 65536 := by rw [← hk]; exact Nat.mod_lt _ (by decide)
      have HX := Lib.hid (idxM_val (i := i) (s := s) (by omega) (by omega))
      rw [hk] at HX
      obtain ⟨l', had, ov, hok, hC⟩ := hash_put_any hst 0 rfl hM.inv (by omega) (k : Int) (by omega) (by omega) 1 k 0
      have HOK := Lib.hid hok
      have HC := Lib.hid hC
      have HM := Lib.hid hM
      clear hC hok hst hM
      have hd : decide ((i : Int) < n) = true := decide_eq_true (by omega)
      have hx := HX.out
      go_wp2_with fail
      refine (HC.out).mono ?_
      rintro e w2 ⟨rfl, hst⟩
      have H2 := Lib.hid (show St w w2 [hashA b l'] from hst); clear hst HC
      obtain ⟨j, hj⟩ : ∃ j, i % 64 = j := ⟨_, rfl⟩
      have hj2 : j < 64 := by omega
      have h63 := and63 i
      rw [hj] at h63
      clear hx
      cases hbt : btM tk i
      all_goals
        have hb := hbt
        unfold btM at hb
        rw [hj] at hb
        first
        | (guard_hyp hbt : btM tk i = false
           obtain ⟨l2, hl2, HM2⟩ : ∃ l2, l2 = l' ∧ Many s (btM tk) l2 (i + 1) := ⟨l', rfl, HM.out.keep hs2 (by omega) hbt (by rw [hk]; exact HOK.out)⟩
           subst hl2
           have HM2 := Lib.hid HM2
           have H3 := Lib.hid H2.out
           clear HOK HM H2
           go_wp2_with fail)
        | (obtain ⟨l2, h2, o2, hok2, hC2⟩ := hash_take_any H2.out 0 rfl HOK.out.inv (by omega) (k : Int) (by omega) (by omega)
           have HM2 := Lib.hid (HM.out.drop hs2 (by omega) hbt (by rw [hk]; exact HOK.out) (by rw [hk]; exact hok2))
           have HC2 := Lib.hid hC2
           clear hC2 hok2 HOK HM
           go_wp2_with fail
           refine (HC2.out).mono ?_
           rintro e w3 ⟨rfl, hst⟩
           have H3 := Lib.hid (show St w w3 [hashA b l2] from hst); clear hst HC2 H2
           go_wp2_with fail)
        all_goals
          have hSl := hash_slots H3.out 0 rfl (by have := HM2.out.inv.len; omega)
          obtain ⟨m, hm⟩ : ∃ m, l2.length = m := ⟨_, rfl⟩
          rw [hm] at hSl
          refine hSl.mono ?_
          rintro e w4 ⟨a4, c4, rfl, hst⟩
          clear hSl H3 hb hbt
          have hmb := HM2.out.inv.len
          rw [hm] at hmb
          have H4 := Lib.hid (show St w w4 [hashA b l2, slA 79 5 (.slice a4 m c4) m (flatSl l2)] from hst)
          have HMM := Lib.hid hm
          clear hst hm
          go_wp2_with fail
          go_loopg [10, 11, 13] m (fun g v10 v11 v13 wr => LoopHM2 w4 l2 m g v10 v11 v13 wr)
          case atStart => exact ⟨0, by omega, rfl, rfl, rfl, rfl⟩
          case round =>
            obtain ⟨p, hp, rfl, rfl, rfl, rfl⟩ := hrel
            have hpm : p ≤ m := by omega
            have HP := Lib.hid hp; clear hp
            by_cases hlp : p < m
            · obtain ⟨S, _, hrd, _⟩ := H4.out.rd 1 rfl
              obtain ⟨bs, os, rfl, _, hco⟩ := (show Rd S wr (.slice a4 m c4) m (flatSl l2) from hrd).elem (cells := SlotV.cells) (size := 5) (fun _ => rfl) (by decide) (sl_get (l := l2) (p := p) (by rw [HMM.out]; exact hlp))
              have hc1 := cntK_take_succ 1 l2 p (by rw [HMM.out]; exact hlp)
              have hc2 := cntK_take_succ 2 l2 p (by rw [HMM.out]; exact hlp)
              have hb1 := cntK_le 1 (l2.take p)
              have hb2 := cntK_le 2 (l2.take p)
              rw [List.length_take] at hb1 hb2
              obtain ⟨u1, hu1⟩ : ∃ u, cntK 1 (l2.take p) = u := ⟨_, rfl⟩
              obtain ⟨u2, hu2⟩ : ∃ u, cntK 2 (l2.take p) = u := ⟨_, rfl⟩
              rw [hu1] at hc1 hb1 ⊢
              rw [hu2] at hc2 hb2 ⊢
              have d3 := hco 0 (by decide)
              simp [SlotV.cells] at d3
              obtain ⟨kd, hkd⟩ : ∃ kd, (sl l2 p).kind = kd := ⟨_, rfl⟩
              rw [hkd] at d3 hc1 hc2
              have HC1 := Lib.hid hc1
              have HC2 := Lib.hid hc2
              have hpi : (p : Int) < m := by omega
              have hb3 : u1 ≤ 5000 := by omega
              have hb4 : u2 ≤ 5000 := by omega
              clear hco hrd hu1 hu2 hkd hc1 hc2 hb1 hb2
              by_cases hk1 : kd = 1
              · subst hk1
                go_wp2_with fail
                go_roundg (m - (p + 1))
                case measure => have := HP.out; omega
                case rel => exact ⟨p + 1, by omega, by rw [HC1.out]; go_num, by rw [HC2.out]; rfl, by go_num, rfl⟩
              · by_cases hk2 : kd = 2
                · subst hk2
                  have e1 : ((2 : Int) == 1) = false := by decide
                  go_wp2_with fail
                  go_roundg (m - (p + 1))
                  case measure => have := HP.out; omega
                  case rel => exact ⟨p + 1, by omega, by rw [HC1.out]; rfl, by rw [HC2.out]; go_num, by go_num, rfl⟩
                · have e1 : (kd == 1) = false := by simp [hk1]
                  have e2 : (kd == 2) = false := by simp [hk2]
                  go_wp2_with fail
                  go_roundg (m - (p + 1))
                  case measure => have := HP.out; omega
                  case rel => exact ⟨p + 1, by omega, by rw [HC1.out, if_neg hk1]; rfl, by rw [HC2.out, if_neg hk2]; rfl, by go_num, rfl⟩
            · obtain rfl : p = m := by omega
              have ht : l2.take p = l2 := by rw [← HMM.out, List.take_length]
              rw [ht]
              have hroom := HM2.out.inv.tab.room
              have hcn := HM2.out.inv.cnt
              rw [HMM.out] at hroom
              have H5 := Lib.hid (H4.out.take 1)
              obtain ⟨u1, hu1⟩ : ∃ u, cntK 1 l2 = u := ⟨_, rfl⟩
              obtain ⟨u2, hu2⟩ : ∃ u, cntK 2 l2 = u := ⟨_, rfl⟩
              have hL := hash_len H5.out 0 rfl
              rw [hu1] at hroom hL ⊢
              rw [hu2] at hroom ⊢
              have hne : ((u1 : Int) != u1) = false := by simp
              have hgt : decide (4 * ((u1 : Int) + u2) > 3 * (p : Int)) = false := decide_eq_false (by omega)
              have hgt2 : decide (3 * (p : Int) < 4 * ((u1 : Int) + u2)) = false := decide_eq_false (by omega)
              have hng : ¬ (3 * (p : Int) < 4 * ((u1 : Int) + u2)) := by omega
              clear hu1 hu2 ht hcn
              go_wp2_with fail
              refine hL.mono ?_
              rintro e w5 ⟨rfl, rfl⟩
              clear hL
              go_wp2_with fail
              go_roundg (n - (i + 1))
              case measure => have := HI.out; omega
              case rel => exact ⟨i + 1, l2, by omega, by go_num, HM2.out, H5.out⟩
    · obtain rfl : i = n := by omega
      have HM := Lib.hid hM
      have H1 := Lib.hid hst
      clear hM hst HI hlt hin
      go_wp2_with fail
      go_loopg [14] i (fun g v14 wr => LoopHM5 w b i l g v14 wr)
      case atStart => exact ⟨0, by omega, rfl, H1.out⟩
      case round =>
        obtain ⟨t, ht, rfl, hst⟩ := hrel
        clear H1
        have htn : t ≤ i := by omega
        have HI := Lib.hid ht; clear ht
        have H2 := Lib.hid hst; clear hst
        by_cases hlt : t < i
        · obtain ⟨k, hk⟩ : ∃ k, idxM s t = k := ⟨_, rfl⟩
          have hk2 : k < 65536 := by rw [← hk]; exact Nat.mod_lt _ (by decide)
          have hx := idxM_val (i := t) (s := s) (by omega) (by omega)
          rw [hk] at hx
          obtain ⟨had, ov, hy, hn, hC⟩ := hash_get_any H2.out 0 rfl HM.out.inv (k : Int) (by omega) (by omega)
          obtain ⟨g1, g2, g3⟩ := HM.out.get hs2 hn2 t hlt (had := had) (ov := ov) (by rw [hk]; exact hy) (by rw [hk]; exact hn)
          rw [hk] at g2
          have HC := Lib.hid hC
          clear hC hy hn
          obtain ⟨j, hj⟩ : ∃ j, t % 64 = j := ⟨_, rfl⟩
          have hj2 : j < 64 := by omega
          have h63 := and63 t
          rw [hj] at h63
          have hd : decide ((t : Int) < i) = true := decide_eq_true (by omega)
          cases hbt : btM tk t
          all_goals
            rw [hbt] at g1
            have hb := hbt
            unfold btM at hb
            rw [hj] at hb
            have hb0 := and1_u64 (tk / 2 ^ j)
            rw [hb] at hb0
            simp only [Bool.not_false, Bool.not_true] at g1 hb0
            subst g1
            simp only [forall_const, reduceCtorEq, false_implies] at g2 g3
            first
            | (obtain rfl := g2)
            | (obtain rfl := g3)
            go_wp2_with fail
            refine (HC.out).mono ?_
            rintro e w3 ⟨rfl, hk3⟩
            have H3 := Lib.hid (H2.out.keep hk3); clear hk3 HC H2
            first | (unfold agg3) | (unfold zV)
            go_wp2_with fail
            go_roundg (i - (t + 1))
            case measure => have := HI.out; omega
            case rel => exact ⟨t + 1, by omega, by go_num, H3.out.alloc _⟩
        · obtain rfl : t = i := by omega
          go_wp2_with fail
          refine (st_awake9 H2.out).mono ?_
          rintro e w9 hret
          have HR := Lib.hid hret; clear hret
          obtain ⟨rfl, hbel⟩ := HR.out
          have HBL := Lib.hid hbel; clear hbel HR
          go_wp2_with fail
          go_ret
          exact ⟨rfl, HBL.out⟩
end Go.Proofs.Ytcmbbkaioopkhaa
