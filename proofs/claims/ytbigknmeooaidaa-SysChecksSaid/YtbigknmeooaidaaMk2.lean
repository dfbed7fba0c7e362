/-
  The document's own: the components of columns of some kinds.
-/
import Derived.Test.YtbigknmeooaidaaMk1
import Derived.Test.YtbigknmeooaidaaRef1
namespace Go.Proofs.Ytbigknmeooaidaa
open Go Go.RowKit
set_option linter.unusedVariables false
set_option linter.unusedSimpArgs false

/-- With: where what is made lies. -/
def RetWithN (w : World) (S : Nat → Prop) (l : List Int) (i : Int) (en : Ending) (w' : World) : Prop :=
  ∃ (a : Option Addr) (c : Nat) (L : List Int), en = .returned (.slice a L.length c) ∧ Rises L ∧ (∀ x, x ∈ L ↔ x ∈ l ∨ x = i) ∧ L.length ≤ l.length + 1 ∧ Rd (fun z => S z ∨ w.heap.size ≤ z) w' (.slice a L.length c) L.length (ints L) ∧ Keep w w' Nope

set_option maxHeartbeats 1000000 in
theorem ref_withN (v : Value) (l : List Int) (i : Int) (w : World) (S : Nat → Prop) (h : Rd S w v l.length (ints l)) (hr : Rises l) (hl : l.length ≤ 1000000000) :
    Calls Try.prog 37 #[v, .int .i64 i] w (RetWithN w S l i) := by
  obtain ⟨a, c, rfl, g1, g2, g3, g4⟩ := id h
  have HA := Lib.hid (ref_at _ l i w S h hr hl)
  have HCT := Lib.hid (fun k hk => cut_int a l.length c k hk g1)
  have HTL := Lib.hid (fun k hk => tail_int a l.length c k hk g1)
  have H := Lib.hid h
  have HR := Lib.hid hr
  clear g1 g2 g3 g4 h hr
  go_enter Try.func37, Try.ntmps37
  go_wp2_with fail
  refine HA.out.mono ?_
  rintro e w1 ⟨k, rfl, hs, hk⟩
  have HK := Lib.hid hk; clear hk
  have HS := Lib.hid hs
  have hkl : k ≤ l.length := hs.le
  clear hs HA
  by_cases hm : i ∈ l
  · have hd : decide (i ∈ l) = true := decide_eq_true hm
    have HM := Lib.hid hm; clear hm
    rw [hd]
    clear hd
    go_wp2_with fail
    go_ret
    exact ⟨_, _, l, rfl, HR.out, fun x => ⟨.inl, fun h => h.elim id (fun e => e ▸ HM.out)⟩, by omega, (H.out.keep HK.out (fun _ _ f => f)).mono (fun _ h => .inl h), HK.out⟩
  · have hd : decide (i ∈ l) = false := decide_eq_false hm
    have HM := Lib.hid hm; clear hm
    rw [hd]
    clear hd
    obtain ⟨a1, c1, hc1, hc2⟩ := HCT.out k hkl
    obtain ⟨a2, c2, ht1, ht2⟩ := HTL.out k hkl
    have HR1 := Lib.hid (hc2 S w1 l rfl (H.out.keep HK.out (fun _ _ f => f)))
    have HT2 := Lib.hid ht2
    clear hc2 ht2
    obtain ⟨d, hd⟩ : ∃ d, l.length - k = d := ⟨_, rfl⟩
    rw [hd] at ht1
    have HD := Lib.hid hd; clear hd
    go_wp2_with (at_builtin; refine wpList_app (P := Try.prog) slInt rfl _ _ rfl (S := fun z => w1.heap.size ≤ z) (S2 := S) (n := 0) (xs := []) (m := k) (news := ints (l.take k)) rfl rfl ?hown ?hx ?hl ?h1 ?h2 ?h3 ?_)
    case hown => exact Own.lit w1 3 1 0 #[] (Nat.zero_le _) rfl (Nat.le_refl _)
    case hx => exact HR1.out.alloc _
    case hl => simp [ints_len]; omega
    case h1 => exact ints_one _
    case h2 => omega
    case h3 => unfold maxLen; omega
    rintro a3 n3 c3 w3 ⟨ho3, hn3, hk3, _⟩
    have hs3 := hk3.size
    simp only [World.size_alloc] at hs3
    obtain rfl : n3 = k := by omega
    rw [List.nil_append] at ho3
    have HO3 := Lib.hid (ho3.mono (T := fun z => w1.heap.size ≤ z) (fun z h => h.elim id (fun h => by have := h.1; simp only [World.size_alloc] at this; omega)))
    have HK3 := Lib.hid ((HK.out.alloc (.cells #[] 3)).trans (hk3.mono (T := fun z => w1.heap.size ≤ z) (fun _ h => .inl h)) (fun z h => .inr (Nat.le_trans HK.out.size h)))
    clear ho3 hk3 hn3
    go_wp2_with (at_builtin; refine wpList_app (P := Try.prog) slInt rfl _ _ rfl (S := fun z => w1.heap.size ≤ z) (S2 := fun z => w1.heap.size ≤ z) (n := n3) (xs := ints (l.take n3)) (m := 1) (news := ints [i]) rfl rfl ?hown ?hx ?hl ?h1 ?h2 ?h3 ?_)
    case hown => exact HO3.out.alloc _
    case hx => exact (Own.lit (S := fun x => w1.heap.size ≤ x) w3 3 1 1 #[.int .i64 i] (by decide) rfl (by omega)).rd
    case hl => rfl
    case h1 => exact ints_one _
    case h2 => omega
    case h3 => unfold maxLen; omega
    rintro a4 n4 c4 w4 ⟨ho4, hn4, hk4, _⟩
    have hs4 := hk4.size
    simp only [World.size_alloc] at hs4
    subst hn4
    rw [← ints_app] at ho4
    have HO4 := Lib.hid (ho4.mono (T := fun z => w1.heap.size ≤ z) (fun z h => h.elim id (fun h => by have := h.1; simp only [World.size_alloc] at this; omega)))
    have HK4 := Lib.hid ((HK3.out.alloc (.cells #[.int .i64 i] 3)).trans hk4 (fun z h => .inr (Nat.le_trans HK.out.size h)))
    clear ho4 hk4
    go_wp2_with (at_builtin; refine wpList_app (P := Try.prog) slInt rfl _ _ rfl (S := fun z => w1.heap.size ≤ z) (S2 := S) (n := n3 + 1) (xs := ints (l.take n3 ++ [i])) (m := d) (news := ints (l.drop n3)) rfl rfl ?hown ?hx ?hl ?h1 ?h2 ?h3 ?_)
    case hown => exact HO4.out
    case hx =>
      have h := HT2.out S w4 l rfl (H.out.keep HK4.out (fun _ _ f => f))
      rw [HD.out] at h
      exact h
    case hl => simp [ints_len, HD.out]
    case h1 => exact ints_one _
    case h2 => have := HD.out; omega
    case h3 => have := HD.out; unfold maxLen; omega
    rintro a5 n5 c5 w5 ⟨ho5, hn5, hk5, _⟩
    rw [← ints_app] at ho5
    have HL := Lib.hid (show (l.take n3 ++ [i] ++ l.drop n3).length = n5 by rw [hn5]; have := HD.out; simp; omega)
    have HN := Lib.hid (show n5 = l.length + 1 by rw [hn5]; have := HD.out; omega)
    have HO5 := Lib.hid ho5.rd
    have HK5 := Lib.hid (HK4.out.trans hk5 (fun z h => .inr (Nat.le_trans HK.out.size h)))
    clear ho5 hk5 hn5
    go_wp2_with fail
    go_ret
    refine ⟨a5, c5, l.take n3 ++ [i] ++ l.drop n3, by rw [HL.out]; rfl, HS.out.insert HR.out HM.out, fun x => mem_insert x, by rw [HL.out, HN.out]; exact Nat.le_refl _, by rw [HL.out]; exact HO5.out.mono (fun z h => .inr (h.elim (fun h => Nat.le_trans HK.out.size h) (fun h => Nat.le_trans HK4.out.size h.1))), HK5.out⟩
/-- A rising row that is being made. -/
def RowSt (w wr : World) (M : Int → Prop) (b : Nat) (v5 : Value) : Prop :=
  ∃ (n : Nat) (a : Option Addr) (c : Nat) (L : List Int), L.length = n ∧ v5 = .slice a n c ∧ Rises L ∧ (∀ x, x ∈ L ↔ M x) ∧ n ≤ b ∧ Rd (fun z => w.heap.size ≤ z) wr (.slice a n c) n (ints L) ∧ Keep w wr Nope
def LoopCo1 (w : World) (kinds : List Int) (l : List ColV) (g : Nat) (v5 v6 : Value) (wr : World) : Prop :=
  ∃ k : Nat, g + k = l.length ∧ v6 = .int .i64 k ∧ RowSt w wr (fun x => x ∈ compsF kinds (l.take k)) (k * 10) v5
def inK (kinds : List Int) (j : Nat) (x : Int) : Prop := x ∈ kinds.take j
def LoopCo2 (w : World) (kinds : List Int) (l : List ColV) (k : Nat) (x : ColV) (g : Nat) (v5 v7 : Value) (wr : World) : Prop :=
  ∃ j : Nat, g + j = kinds.length ∧ v7 = .int .i64 j ∧ RowSt w wr (fun y => y ∈ compsF kinds (l.take k) ∨ inK kinds j x.kind ∧ y = x.comp) (k * 10 + j) v5
theorem inK_succ {kinds : List Int} {j : Nat} {z x : Int} (h : kinds[j]? = some z) : inK kinds (j + 1) x ↔ inK kinds j x ∨ x = z := by
  unfold inK
  rw [List.take_add_one, h]
  simp
theorem compsF_succ {kinds : List Int} {l : List ColV} {k : Nat} {x : ColV} (h : l[k]? = some x) (y : Int) : y ∈ compsF kinds (l.take (k + 1)) ↔ y ∈ compsF kinds (l.take k) ∨ x.kind ∈ kinds ∧ y = x.comp := by
  rw [compsF_mem, compsF_mem, List.take_add_one, h]
  simp only [Option.toList_some, List.mem_append, List.mem_singleton]
  constructor
  · rintro ⟨c, h1 | rfl, h2, h3⟩
    · exact .inl ⟨c, h1, h2, h3⟩
    · exact .inr ⟨h2, h3.symm⟩
  · rintro (⟨c, h1, h2, h3⟩ | ⟨h2, h3⟩)
    · exact ⟨c, .inl h1, h2, h3⟩
    · exact ⟨x, .inr rfl, h2, h3.symm⟩
def RetRise (w : World) (M : List Int) (b : Nat) (en : Ending) (w' : World) : Prop :=
  ∃ (a : Option Addr) (c : Nat) (L : List Int), en = .returned (.slice a L.length c) ∧ Rises L ∧ (∀ x, x ∈ L ↔ x ∈ M) ∧ L.length ≤ b ∧ Rd (fun z => w.heap.size ≤ z) w' (.slice a L.length c) L.length (ints L) ∧ Keep w w' Nope

set_option maxHeartbeats 2000000 in
theorem ref_comps (v v2 : Value) (l : List ColV) (kinds : List Int) (w : World) (S S2 : Nat → Prop) (h : RdCols S w v l) (h2 : Rd S2 w v2 kinds.length (ints kinds)) (hl : l.length ≤ 1000) (hk10 : kinds.length ≤ 10) :
    Calls Try.prog 44 #[v, v2] w (RetRise w (compsF kinds l) (l.length * 10)) := by
  obtain ⟨a, c, rfl, g1, g2, g3, g4⟩ := id h
  clear g1 g2 g3 g4
  obtain ⟨a2, c2, rfl, g1, g2, g3, g4⟩ := id h2
  clear g1 g2 g3 g4
  have H := Lib.hid h; clear h
  have H2 := Lib.hid h2; clear h2
  go_enter Try.func44, Try.ntmps44
  go_wp2_with fail
  go_loopg [5, 6] l.length (fun g v5 v6 wr => LoopCo1 w kinds l g v5 v6 wr)
  case atStart => exact ⟨0, rfl, rfl, 0, none, 0, [], rfl, rfl, List.Pairwise.nil, fun x => by simp [compsF], Nat.le_refl _, rd_nil _ _, Keep.refl _ _⟩
  case round =>
    obtain ⟨k, hg, rfl, n, a3, c3, L, hn, rfl, hr, hm, hb, hrd, hkp⟩ := hrel
    have hkl : k ≤ l.length := by omega
    have HG := Lib.hid hg
    have HN := Lib.hid hn
    have HR := Lib.hid hr
    have HM := Lib.hid hm
    have HRD := Lib.hid hrd
    have HKP := Lib.hid hkp
    clear hg hn hr hm hrd hkp
    by_cases hlt : k < l.length
    · obtain ⟨x, hx⟩ : ∃ x, l[k]? = some x := ⟨_, List.getElem?_eq_getElem hlt⟩
      have HX := Lib.hid hx
      obtain ⟨ad, had⟩ : ∃ ad : Nat × Nat, a = some ⟨ad.1, ad.2, none⟩ := by
        obtain ⟨bo, oo, he, _⟩ := H.out.elem (cells := ColV.cells) (size := 2) (fun _ => rfl) (by decide) hx
        exact ⟨(bo, oo), he⟩
      obtain ⟨bo, oo⟩ := ad
      simp only at had
      subst had
      have HC := Lib.hid (fun wq (hk : Keep w wq Nope) => (show wq.cell? ⟨bo, oo + k * 2, none⟩ = some (.int .i64 x.kind) ∧ wq.cell? ⟨bo, oo + k * 2 + 1, none⟩ = some (.int .i64 x.comp) by
        obtain ⟨bo', oo', he, _, hc⟩ := (H.out.keep hk (fun _ _ f => f)).elem (cells := ColV.cells) (size := 2) (fun _ => rfl) (by decide) hx
        injection he with he
        injection he with e1 e2
        subst e1; subst e2
        exact ⟨hc 0 (by decide), hc 1 (by decide)⟩))
      have hki : (k : Int) < l.length := by omega
      have hkd : decide ((k : Int) < l.length) = true := decide_eq_true hki
      clear hx
      obtain ⟨xk, xm⟩ := x
      simp only at HC
      go_wp2_with fail
      go_loopg [5, 7] kinds.length (fun g v5 v7 wz => LoopCo2 w kinds l k ⟨xk, xm⟩ g v5 v7 wz)
      case atStart => exact ⟨0, rfl, rfl, n, a3, c3, L, HN.out, rfl, HR.out, fun y => by rw [HM.out]; simp [inK], by omega, HRD.out, HKP.out⟩
      case round =>
        clear HN HR HM HRD HKP hb
        obtain ⟨j, hg, rfl, n, a3, c3, L, hn, rfl, hr, hm, hb, hrd, hkp⟩ := hrel
        have hjl : j ≤ kinds.length := by omega
        have HG2 := Lib.hid hg
        have HN := Lib.hid hn
        have HR := Lib.hid hr
        have HM := Lib.hid hm
        have HRD := Lib.hid hrd
        have HKP := Lib.hid hkp
        clear hg hn hr hm hrd hkp
        by_cases hlj : j < kinds.length
        · obtain ⟨z, hz⟩ : ∃ z, kinds[j]? = some z := ⟨_, List.getElem?_eq_getElem hlj⟩
          obtain ⟨bk, ok, ⟨c', hv⟩, _, hz0⟩ := (H2.out.keep HKP.out (fun _ _ f => f)).int hz
          injection hv with hv1 hv2 hv3
          subst hv1; subst hv3; clear hv2
          obtain ⟨x0, x1⟩ := HC.out wr HKP.out
          have HS := Lib.hid (fun y => inK_succ (x := y) hz)
          have hji : (j : Int) < kinds.length := by omega
          have hjd : decide ((j : Int) < kinds.length) = true := decide_eq_true hji
          clear hz
          cases hq : (xk == z)
          · go_upto_region 8 with (fail)
            go_quiet (fail)
            go_wp2_with fail
            go_roundg (kinds.length - (j + 1))
            case measure => have := HG2.out; omega
            case rel =>
              have hne : xk ≠ z := by simpa using hq
              exact ⟨j + 1, by have := HG2.out; omega, by go_num, n, a3, c3, L, HN.out, rfl, HR.out, fun y => by rw [HM.out, HS.out]; simp [hne], by omega, HRD.out, HKP.out.drewN _⟩
          · obtain rfl : xk = z := by simpa using hq
            go_upto_region 8 with (fail)
            go_quiet (fail)
            have HW := Lib.hid (show Calls Try.prog 37 #[.slice a3 n c3, .int .i64 xm] (wr.drewN nq) (RetWithN (wr.drewN nq) (fun z => w.heap.size ≤ z) L xm) from HN.out ▸ ref_withN (.slice a3 L.length c3) L xm (wr.drewN nq) (fun z => w.heap.size ≤ z) (HN.out.symm ▸ HRD.out) HR.out (by have := HN.out; omega))
            go_wp2_with (go_at_call 37; go_loud (refine HW.out.mono ?_; rintro e w5 ⟨a5, c5, L5, rfl, hr5, hm5, hl5, hrd5, hk5⟩; have HR5 := Lib.hid hr5; have HM5 := Lib.hid hm5; have HL5 := Lib.hid hl5; have HRD5 := Lib.hid (hrd5.mono (T := fun z => w.heap.size ≤ z) (fun z h => h.elim id (fun h => Nat.le_trans HKP.out.size h))); have HK5 := Lib.hid ((HKP.out.drewN _).trans hk5 (fun _ f => f.elim)); clear hr5 hm5 hl5 hrd5 hk5 HW))
            go_roundg (kinds.length - (j + 1))
            case measure => have := HG2.out; omega
            case rel =>
              exact ⟨j + 1, by have := HG2.out; omega, by go_num, L5.length, a5, c5, L5, rfl, rfl, HR5.out, fun y => by
                rw [HM5.out, HM.out, HS.out]
                constructor
                · rintro ((h | ⟨h, e⟩) | e)
                  · exact .inl h
                  · exact .inr ⟨.inl h, e⟩
                  · exact .inr ⟨.inr rfl, e⟩
                · rintro (h | ⟨h | h, e⟩)
                  · exact .inl (.inl h)
                  · exact .inl (.inr ⟨h, e⟩)
                  · exact .inr e, by have h1 := HL5.out; have h2 := HN.out; omega, HRD5.out, HK5.out⟩
        · obtain rfl : j = kinds.length := by omega
          go_wp2_with fail
          go_roundg (l.length - (k + 1))
          case measure => have := HG.out; omega
          case rel =>
            exact ⟨k + 1, by have := HG.out; omega, by go_num, n, a3, c3, L, HN.out, rfl, HR.out, fun y => by
              show y ∈ L ↔ y ∈ compsF kinds (l.take (k + 1))
              rw [HM.out, compsF_succ HX.out]
              unfold inK
              rw [List.take_length], by omega, HRD.out, HKP.out⟩
    · obtain rfl : k = l.length := by omega
      rw [List.take_length] at HM
      go_wp2_with fail
      go_ret
      have hn := HN.out
      subst hn
      exact ⟨a3, c3, L, rfl, HR.out, HM.out, hb, HRD.out, HKP.out⟩
end Go.Proofs.Ytbigknmeooaidaa
