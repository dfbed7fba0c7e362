/-
  The package flag: events are noted; The package lazy and what it calls, function by function; The package slot: the claim; what keeps the values, through the interface; Desc, Mask, Flag, note, check; The package slot: check, Desc, Mask.
-/
import Derived.Test.YtkiikblpgppmkaaGreatDoorTlM16
import Derived.Test.YtkiikblpgppmkaaGreatDoorProg
import Derived.Test.YtkiikblpgppmkaaGreatDoorTlM02
namespace Go.Proofs.YtkiikblpgppmkaaGreatDoor
open Go Go.RowKit
set_option linter.unusedVariables false
set_option linter.unusedSimpArgs false

/-- What may be read through all that is done to other claims. -/
def ReadIn (w0 : World) (L : List Asr) (v : Value) (n : Nat) (xs : List Value) : Prop := ∀ (w' : World) (M : List Asr), St w0 w' (M ++ L) → ∃ S2, Rd S2 w' v n xs
theorem ReadIn.own {w0 : World} {L : List Asr} {v : Value} {n : Nat} {xs : List Value} {e : TypeId} {size : Nat} (j : Nat) (hj : L[j]? = some (slA e size v n xs)) : ReadIn w0 L v n xs :=
  fun w' M H => by
    obtain ⟨G, _, h, _⟩ := H.rd (M.length + j) (e := e) (size := size) (v := v) (n := n) (xs := xs) (by rw [List.getElem?_append_right (by omega), Nat.add_sub_cancel_left]; exact hj)
    exact ⟨G, h⟩
/-- The last claim takes another one's place. -/
theorem St.swapIn {w0 w : World} {l : List Asr} {A : Asr} (h : St w0 w (l ++ [A])) (i : Nat) (hi : i < l.length) : St w0 w (l.set i A) := by
  refine h.pick (fun j => if j = i then l.length else j) (fun j k hj hk e => ?_) (fun j B hj => ?_)
  · simp at hj hk
    by_cases e1 : j = i <;> by_cases e2 : k = i <;> simp [e1, e2] at e <;> omega
  · by_cases e1 : j = i
    · subst e1
      rw [List.getElem?_set_self hi] at hj
      simpa using hj
    · rw [List.getElem?_set_ne (fun e => e1 e.symm)] at hj
      have hjl := (List.getElem?_eq_some_iff.1 hj).1
      simp only [e1, if_false]
      rw [List.getElem?_append_left hjl]
      exact hj
theorem flatEv_drop (l : List EvV) (d : Nat) : (flatEv l).drop (d * 2) = flatEv (l.drop d) := flat_drop EvV.cells 2 (fun _ => rfl) l d
theorem last_app (F : FlagV) (l : List EvV) : (⟨F.bound, F.all ++ l, F.pos⟩ : FlagV).last = (F.last ++ l).drop (F.last.length + l.length - F.bound) := by
  have h1 : F.last ++ l = (F.all ++ l).drop (F.all.length - F.bound) := by
    unfold FlagV.last
    rw [List.drop_append_of_le_length (by omega)]
  have h2 : F.last.length = min F.all.length F.bound := by simp [FlagV.last]; omega
  rw [h2, h1, List.drop_drop]
  simp only [FlagV.last, List.length_append]
  congr 1
  omega
theorem FlagV.last_len (F : FlagV) : F.last.length = min F.all.length F.bound := by simp [FlagV.last]; omega

set_option maxRecDepth 100000 in
set_option maxHeartbeats 1000000 in
theorem flag_note {w0 w : World} {L : List Asr} {b : Nat} {F : FlagV} (H : St w0 w L) (i : Nat) (hi : L[i]? = some (flagA b F)) (v : Value) (l : List EvV) (hv : ReadIn w0 (L.set i empA) v l.length (flatEv l)) (hb : l.any badEv = false)
    (hl : l.length ≤ 1000) (hall : F.all.length ≤ 100000) (hB : 1 ≤ F.bound) (hB2 : F.bound ≤ 1000) :
    Calls Tryz.prog 242 #[.pointer (some ⟨b, 0, none⟩), v] w (fun e w' => e = .returned (.int .i64 0) ∧ St w0 w' (L.set i (flagA b ⟨F.bound, F.all ++ l, F.pos⟩))) := by
  obtain ⟨la, lc, ra, rc, h⟩ := H.flagSplit i hi
  have HIL := Lib.hid (List.getElem?_eq_some_iff.1 hi).1
  have hll := F.last_len
  obtain ⟨S, hr⟩ := hv w _ h
  have HC := Lib.hid (contains_ev v l w S hr)
  rw [hb] at HC
  obtain ⟨va, vc, rfl, g1, g2, g3, g4⟩ := id hr
  clear g1 g2 g3 g4 hr
  have HV := Lib.hid hv; clear hv
  obtain ⟨n, hn⟩ : ∃ n, F.last.length = n := ⟨_, rfl⟩
  obtain ⟨m, hm⟩ : ∃ m, F.all.length = m := ⟨_, rfl⟩
  obtain ⟨nl, hnl⟩ : ∃ nl, l.length = nl := ⟨_, rfl⟩
  unfold flagPs at h
  rw [hn, hm] at h
  rw [hn] at hll
  rw [hm] at hall hll
  rw [hnl] at hl ⊢
  have hn2 : n ≤ 1000 := by omega
  have HN := Lib.hid hn; clear hn
  have HM := Lib.hid hm; clear hm
  have HNL := Lib.hid hnl; clear hnl
  have HLL := Lib.hid hll; clear hll
  have HH := Lib.hid h; clear h H hi hb
  go_enter Tryz.func242, Tryz.ntmps242
  go_wp2_with fail
  rw [HNL.out] at HC
  refine (HC.out).mono ?_
  rintro e w1 ⟨rfl, hk⟩
  have H1 := Lib.hid (HH.out.keep hk); clear hk HH
  have c1 := (H1.out.blk 0 rfl).cell 1
  have f1 := (H1.out.blk 0 rfl).frozen 1
  simp at c1
  go_upto_region 4 with (fail)
  have h2 := H1.out.write 0 rfl 1 (.int .i64 ((m : Int) + nl))
  obtain ⟨w2, hw2⟩ : ∃ w2, w2 = w1.setCell ⟨b, 1, none⟩ (.int .i64 ((m : Int) + nl)) := ⟨_, rfl⟩
  rw [← hw2] at h2 ⊢
  have H2 := Lib.hid (show St w0 w2 ([blkA b #[.int .i64 F.bound, .int .i64 ((m : Int) + nl), .slice la n lc, .slice ra F.pos.length rc] 247, slA 86 2 (.slice la n lc) n (flatEv F.last), slA 2 1 (.slice ra F.pos.length rc) F.pos.length (i64n F.pos)] ++ L.set i empA) from h2)
  clear h2 hw2 H1 c1 f1
  have c2 := (H2.out.blk 0 rfl).cell 2
  simp at c2
  obtain ⟨S2, hr2⟩ := HV.out w2 _ H2.out
  obtain ⟨S1, _, hr1, _⟩ := H2.out.rd 1 rfl
  have HR1 := Lib.hid (hr1.mono (T := fun _ => True) (fun _ _ => trivial)); clear hr1
  have HR2 := Lib.hid (hr2.mono (T := fun _ => True) (fun _ _ => trivial)); clear hr2
  go_wp2_with fail
  refine (concat_ev _ [⟨la, lc, F.last⟩, ⟨va, vc, l⟩] _ (fun _ => True) ?_ ?_ ?_).mono ?_
  · have := (Own.lit (S := fun _ => True) w2 46 1 2 #[.slice la n lc, .slice va nl vc] (by decide) rfl trivial).rd
    show Rd _ _ _ 2 [.slice la F.last.length lc, .slice va l.length vc]
    rw [HN.out, HNL.out]
    exact this
  · intro r hr
    simp at hr
    rcases hr with rfl | rfl
    · have := HR1.out
      rw [← HN.out] at this
      exact this.alloc _
    · exact HR2.out.alloc _
  · have := HN.out
    have := HNL.out
    simp [catE]
    omega
  rintro e w3 ⟨a3, n3, c3, rfl, ho3, hk3⟩
  have hl3 := Own.len ho3
  rw [flatEv_len, show catE [⟨la, lc, F.last⟩, ⟨va, vc, l⟩] = F.last ++ l by simp [catE], List.length_append, HN.out, HNL.out] at hl3
  rw [show catE [⟨la, lc, F.last⟩, ⟨va, vc, l⟩] = F.last ++ l by simp [catE]] at ho3
  have hn3 : n3 = n + nl := by omega
  subst hn3
  clear hl3
  have h3 := ((H2.out.alloc (.cells #[.slice la n lc, .slice va nl vc] 46)).add hk3 (A := slA 86 2 (.slice a3 (n + nl) c3) (n + nl) (flatEv (F.last ++ l))) ho3).swapIn 1 (by simp)
  have H3 := Lib.hid (show St w0 w3 ([blkA b #[.int .i64 F.bound, .int .i64 ((m : Int) + nl), .slice la n lc, .slice ra F.pos.length rc] 247, slA 86 2 (.slice a3 (n + nl) c3) (n + nl) (flatEv (F.last ++ l)), slA 2 1 (.slice ra F.pos.length rc) F.pos.length (i64n F.pos)] ++ L.set i empA) from h3)
  clear h3 ho3 hk3 HR1 HR2 H2 c2
  have f3 := (H3.out.blk 0 rfl).frozen 2
  have f30 := (H3.out.blk 0 rfl).cell 2
  simp at f30
  go_upto_region 5 with (fail)
  have h4 := H3.out.write 0 rfl 2 (.slice a3 (n + nl) c3)
  obtain ⟨w4, hw4⟩ : ∃ w4, w4 = w3.setCell ⟨b, 2, none⟩ (.slice a3 (n + nl) c3) := ⟨_, rfl⟩
  rw [← hw4] at h4 ⊢
  have H4 := Lib.hid (show St w0 w4 ([blkA b #[.int .i64 F.bound, .int .i64 ((m : Int) + nl), .slice a3 (n + nl) c3, .slice ra F.pos.length rc] 247, slA 86 2 (.slice a3 (n + nl) c3) (n + nl) (flatEv (F.last ++ l)), slA 2 1 (.slice ra F.pos.length rc) F.pos.length (i64n F.pos)] ++ L.set i empA) from h4)
  clear h4 hw4 H3 f3 f30
  have c42 := (H4.out.blk 0 rfl).cell 2
  have c40 := (H4.out.blk 0 rfl).cell 0
  simp at c42 c40
  obtain ⟨S4, ho4, hr4, _⟩ := H4.out.rd 1 rfl
  have hcap := ho4.cap
  have hcap2 : c3 ≤ 9223372036854775807 := by unfold maxLen at hcap; omega
  have hcap1 := hcap.1
  have HR4 := Lib.hid hr4
  have HXL := Lib.hid ho4.len
  clear ho4 hr4 hcap
  obtain ⟨N, hN⟩ : ∃ N, n + nl = N := ⟨_, rfl⟩
  obtain ⟨B, hB'⟩ : ∃ B, F.bound = B := ⟨_, rfl⟩
  rw [hB'] at hB hB2 c40 
  rw [hN] at c42 hcap1
  have hN2 : N ≤ 2000 := by omega
  have HN' := Lib.hid hN; clear hN
  have HB' := Lib.hid hB'; clear hB'
  clear hl hn2 hall
  have HXN := Lib.hid (show (F.last ++ l).length = N by rw [List.length_append, HN.out, HNL.out, HN'.out])
  rw [HN'.out] at HR4 HXL
  obtain ⟨D, hD⟩ : ∃ D : Int, (N : Int) - B = D := ⟨_, rfl⟩
  have hw : IntKind.i64.wrap ((N : Int) - B) = D := by rw [hD]; exact IntWalk.i64_in _ (by omega)
  obtain ⟨d, hd⟩ : ∃ d, N - B = d := ⟨_, rfl⟩
  have HD := Lib.hid (show (if (0 : Int) > D then 0 else D) = (d : Int) by split <;> omega)
  have hd1 : (d : Int) ≤ N := by omega
  have hd2 : (0 : Int) ≤ d := by omega
  have hd3 : d ≤ N := by omega
  have HDD := Lib.hid hd
  clear hd hD
  refine wp_region_M (r := 18) (S := fun w' => w'.cell? ⟨b, 2, none⟩ = some (.slice a3 N c3) ∧ w'.cell? ⟨b, 0, none⟩ = some (.int .i64 B)) (by kernel_rfl) ?_ (fun hHeld => ?_)
  · (try dsimp only); go_keep
  refine tkH 0 ?_; refine tkH 1 ?_; refine tkH 2 ?_; refine tkH 3 ?_; refine tkH 4 ?_; refine tkH 5 ?_; refine tkH 6 ?_; refine tkH 7 ?_; refine tkH 8 ?_; refine tkH 9 ?_; refine tkH 10 ?_; refine tkH 11 ?_; refine tkH 12 ?_; refine tkH 13 ?_; refine tkH 14 ?_; refine tkC 15 ?_
  intro K hK
  rw [if_pos (by rfl)]
  (clear hw; refine step_max (r := (d : Int)) _ _ rfl rfl rfl HD.out ?_)
  refine hK.out _ _ ?_ (fun hHeld => ?_)
  · (try dsimp only); exact hHeld
  clear hK K
  (try simp only [List.getElem_toArray, List.getElem_cons_succ, List.getElem_cons_zero, Act.put, List.setIfInBounds_toArray, List.set_cons_zero, List.set_cons_succ])
  refine tkC 16 ?_
  intro K hK
  rw [if_pos (by rfl)]
  (refine step_slice_l (l := d) slEv _ _ rfl rfl rfl hd3 hcap1 ?_; rintro a5 n5 c5 hcut; have HCut := Lib.hid hcut; have hn5 : n5 ≤ 2000 := (by have := hcut.num; omega); clear hcut)
  refine hK.out _ _ ?_ (fun hHeld => ?_)
  · (try dsimp only); exact hHeld
  clear hK K
  (try simp only [List.getElem_toArray, List.getElem_cons_succ, List.getElem_cons_zero, Act.put, List.setIfInBounds_toArray, List.set_cons_zero, List.set_cons_succ])
  refine tkC 17 ?_
  intro K hK
  go_simp
  go_wp2_with ((go_at_call 126; refine (clone_ev (.slice a5 n5 c5) n5 (flatEv ((F.last ++ l).drop d)) _ S4 ?cr ?cl (flatEv_one _) ?cb).mono ?_; (case cr => (rw [← flatEv_drop]; exact HCut.out.rd S4 _ _ HXL.out HR4.out)); (case cl => (rw [flatEv_len, List.length_drop]; have := HXN.out; have := HCut.out.num; omega)); (case cb => omega); rintro e w5 ⟨a6, n6, c6, rfl, ho6, hk6⟩; have HO6 := Lib.hid ho6; have HK6 := Lib.hid hk6; clear ho6 hk6; have hs6 := ((H4.out.drew).add HK6.out (A := slA 86 2 (.slice a6 n6 c6) n6 (flatEv ((F.last ++ l).drop d))) HO6.out).swapIn 1 (by simp); have f62 := (hs6.blk 0 (b := b) rfl).frozen 2; have c62 := (hs6.blk 0 (b := b) rfl).cell 2; simp at c62; have HS6 := Lib.hid hs6; clear hs6))
  refine hK.out _ _ ?_ (fun hHeld => ?_)
  · (try dsimp only); exact ⟨HK6.out.cell hHeld.1 (fun f => f), HK6.out.cell hHeld.2 (fun f => f)⟩
  clear hK K
  refine tkF 18 ?_
  intro K hK
  go_simp
  refine hK.out _ _ ?_
  clear hK K
  refine tkF 19 ?_
  intro K hK
  go_simp
  refine hK.out _ _ ?_
  clear hK K
  refine tkF 20 ?_
  intro K hK
  go_simp
  refine hK.out _ _ ?_
  clear hK K
  refine wpAnyM_done (by kernel_rfl) ?_ _
  go_wp2_with fail
  go_ret
  refine ⟨rfl, ?_⟩
  have hlen := Own.len HO6.out
  rw [flatEv_len] at hlen
  have e6 : n6 = ((F.last ++ l).drop d).length := by omega
  subst e6
  have h7 := HS6.out.write 0 (b := b) rfl 2 (.slice a6 ((F.last ++ l).drop d).length c6)
  refine St.flagJoin (la := a6) (lc := c6) (ra := ra) (rc := rc) i HIL.out ?_
  unfold flagPs
  have hlast : (⟨F.bound, F.all ++ l, F.pos⟩ : FlagV).last = (F.last ++ l).drop d := by
    rw [← HDD.out, ← HN'.out, ← HB'.out, ← HN.out, ← HNL.out]
    exact last_app F l
  rw [hlast]
  have hal : ((F.all ++ l).length : Int) = (m : Int) + nl := by rw [List.length_append, HM.out, HNL.out]; omega
  simp only [hal]
  exact h7
end Go.Proofs.YtkiikblpgppmkaaGreatDoor

namespace Go.Proofs.YtkiikblpgppmkaaGreatDoor
open Go Go.RowKit
set_option linter.unusedVariables false
set_option linter.unusedSimpArgs false

/-- Whether a value may be. -/
def okV (k a b : Int) : Bool := if k = 1 then b == 0 else if k = 2 then true else if k = 3 then a == 0 && b == 0 else false



theorem eq_value (w : World) (k a b k' a' b' : Int) : (binOp .eql 34 (.agg #[.int .i64 k, .int .i64 a, .int .i64 b]) (.agg #[.int .i64 k', .int .i64 a', .int .i64 b'])).run Tryz.prog w = .ok (.bool (k == k' && (a == a' && b == b'))) w := by
  simp only [binOp, Op.equal, Op.maxDepth]
  rw [show (10000 : Nat) = 9998 + 2 from rfl]
  simp [go_sem, run_equalIn_struct]
  by_cases h1 : k = k' <;> by_cases h2 : a = a' <;> by_cases h3 : b = b' <;> simp [h1, h2, h3]

/-- An op that waits. -/
structure OpV where
  kind : Int
  hi : Int
  hg : Int
  c : Int
  vk : Int
  va : Int
  vb : Int
def OpV.cells (o : OpV) : List Value := [.int .i64 o.kind, .int .i64 o.hi, .int .i64 o.hg, .int .i64 o.c, .int .i64 o.vk, .int .i64 o.va, .int .i64 o.vb]
def OpV.val (o : OpV) : Value := .agg #[.int .i64 o.kind, .int .i64 o.hi, .int .i64 o.hg, .int .i64 o.c, .int .i64 o.vk, .int .i64 o.va, .int .i64 o.vb]
def flatOp (l : List OpV) : List Value := l.flatMap OpV.cells
theorem flatOp_len (l : List OpV) : (flatOp l).length = l.length * 7 := flat_length OpV.cells 7 (fun _ => rfl) l
theorem flatOp_app (a b : List OpV) : flatOp (a ++ b) = flatOp a ++ flatOp b := by simp [flatOp]
theorem flatOp_one (l : List OpV) : ∀ u ∈ flatOp l, u.oneCell' = true := by
  intro u hu
  obtain ⟨o, _, ho⟩ := List.mem_flatMap.1 hu
  simp [OpV.cells] at ho
  rcases ho with rfl | rfl | rfl | rfl | rfl | rfl | rfl <;> rfl
theorem slOp : SlTy Tryz.prog 98 79 7 56 := SlTy.mk' (.agg #[.int .i64 0, .int .i64 0, .int .i64 0, .int .i64 0, .int .i64 0, .int .i64 0, .int .i64 0]) Tryz.underlying98 (by kernel_rfl) rfl (by decide)

/-- Whether an op may be. -/
def okOp (o : OpV) : Bool :=
  if o.kind = 1 then o.c == 0 && (o.vk == 0 && (o.va == 0 && o.vb == 0)) else if o.kind = 2 then decide (0 ≤ o.c) && okV o.vk o.va o.vb else if o.kind = 3 then decide (0 ≤ o.c) && (o.vk == 0 && (o.va == 0 && o.vb == 0)) else false

set_option maxHeartbeats 400000 in
theorem value_ok (k a b : Int) (w : World) :
    Calls Tryz.prog 119 #[.agg #[.int .i64 k, .int .i64 a, .int .i64 b]] w (Ret w (.bool (okV k a b))) := by
  by_cases h1 : k = 1
  · subst h1
    go_enter Tryz.func119, Tryz.ntmps119
    go_wp2_with fail
    go_ret
    exact ⟨by simp [okV], (Keep.refl _ _).alloc _⟩
  · have e1 : (k == 1) = false := beq_eq_false_iff_ne.2 h1
    by_cases h2 : k = 2
    · subst h2
      go_enter Tryz.func119, Tryz.ntmps119
      go_wp2_with fail
      go_ret
      exact ⟨by simp [okV], (Keep.refl _ _).alloc _⟩
    · have e2 : (k == 2) = false := beq_eq_false_iff_ne.2 h2
      by_cases h3 : k = 3
      · subst h3
        by_cases h4 : a = 0
        · subst h4
          go_enter Tryz.func119, Tryz.ntmps119
          go_wp2_with fail
          go_ret
          exact ⟨by simp [okV], (Keep.refl _ _).alloc _⟩
        · have e3 : (a == 0) = false := beq_eq_false_iff_ne.2 h4
          go_enter Tryz.func119, Tryz.ntmps119
          go_wp2_with fail
          go_ret
          exact ⟨by simp [okV, e3], (Keep.refl _ _).alloc _⟩
      · have e3 : (k == 3) = false := beq_eq_false_iff_ne.2 h3
        go_enter Tryz.func119, Tryz.ntmps119
        go_wp2_with fail
        go_ret
        exact ⟨by simp [okV, h1, h2, h3], (Keep.refl _ _).alloc _⟩

set_option maxHeartbeats 400000 in
theorem ref_ok (k a b : Int) (w : World) :
    Calls Tryz.prog 223 #[.agg #[.int .i64 k, .int .i64 a, .int .i64 b]] w (Ret w (.bool (okV k a b))) := by
  by_cases h1 : k = 1
  · subst h1
    go_enter Tryz.func223, Tryz.ntmps223
    go_wp2_with fail
    go_ret
    exact ⟨by simp [okV], (Keep.refl _ _).alloc _⟩
  · have e1 : (k == 1) = false := beq_eq_false_iff_ne.2 h1
    by_cases h2 : k = 2
    · subst h2
      go_enter Tryz.func223, Tryz.ntmps223
      go_wp2_with fail
      go_ret
      exact ⟨by simp [okV], (Keep.refl _ _).alloc _⟩
    · have e2 : (k == 2) = false := beq_eq_false_iff_ne.2 h2
      by_cases h3 : k = 3
      · subst h3
        by_cases h4 : a = 0
        · subst h4
          go_enter Tryz.func223, Tryz.ntmps223
          go_wp2_with fail
          go_ret
          exact ⟨by simp [okV], (Keep.refl _ _).alloc _⟩
        · have e3 : (a == 0) = false := beq_eq_false_iff_ne.2 h4
          go_enter Tryz.func223, Tryz.ntmps223
          go_wp2_with fail
          go_ret
          exact ⟨by simp [okV, e3], (Keep.refl _ _).alloc _⟩
      · have e3 : (k == 3) = false := beq_eq_false_iff_ne.2 h3
        go_enter Tryz.func223, Tryz.ntmps223
        go_wp2_with fail
        go_ret
        exact ⟨by simp [okV, h1, h2, h3], (Keep.refl _ _).alloc _⟩

set_option maxHeartbeats 1000000 in
theorem op_ok (o : OpV) (w : World) : Calls Tryz.prog 60 #[o.val] w (Ret w (.bool (okOp o))) := by
  obtain ⟨kind, hi, hg, c, vk, va, vb⟩ := o
  have heq := fun w => eq_value w vk va vb 0 0 0
  simp only [OpV.val]
  by_cases h1 : kind = 1
  · subst h1
    by_cases hc : c = 0
    · subst hc
      go_enter Tryz.func60, Tryz.ntmps60
      go_wp2_with fail
      go_ret
      exact ⟨by simp [okOp], (Keep.refl _ _).alloc _⟩
    · have ec : (c == 0) = false := beq_eq_false_iff_ne.2 hc
      go_enter Tryz.func60, Tryz.ntmps60
      go_wp2_with fail
      go_ret
      exact ⟨by simp [okOp, ec], (Keep.refl _ _).alloc _⟩
  · have e1 : (kind == 1) = false := beq_eq_false_iff_ne.2 h1
    by_cases h2 : kind = 2
    · subst h2
      by_cases hc : 0 ≤ c
      · go_enter Tryz.func60, Tryz.ntmps60
        go_wp2_with fail
        refine (value_ok _ _ _ _).mono ?_
        rintro e w1 ⟨rfl, hk⟩
        have HK := Lib.hid hk; clear hk
        go_wp2_with fail
        go_ret
        exact ⟨by simp [okOp, hc], (Keep.alloc (Keep.refl _ _) _).trans HK.out (fun _ f => f.elim)⟩
      · go_enter Tryz.func60, Tryz.ntmps60
        go_wp2_with fail
        go_ret
        exact ⟨by simp [okOp]; intro h; omega, (Keep.refl _ _).alloc _⟩
    · have e2 : (kind == 2) = false := beq_eq_false_iff_ne.2 h2
      by_cases h3 : kind = 3
      · subst h3
        by_cases hc : 0 ≤ c
        · go_enter Tryz.func60, Tryz.ntmps60
          go_wp2_with fail
          go_ret
          exact ⟨by simp [okOp, hc], (Keep.refl _ _).alloc _⟩
        · go_enter Tryz.func60, Tryz.ntmps60
          go_wp2_with fail
          go_ret
          exact ⟨by simp [okOp]; intro h; omega, (Keep.refl _ _).alloc _⟩
      · have e3 : (kind == 3) = false := beq_eq_false_iff_ne.2 h3
        go_enter Tryz.func60, Tryz.ntmps60
        go_wp2_with fail
        go_ret
        exact ⟨by simp [okOp, h1, h2, h3], (Keep.refl _ _).alloc _⟩

end Go.Proofs.YtkiikblpgppmkaaGreatDoor

namespace Go.Proofs.YtkiikblpgppmkaaGreatDoor
open Go Go.RowKit
set_option linter.unusedVariables false
set_option linter.unusedSimpArgs false

/-- The variants that there are here. -/
def VarOk (var : Nat) : Prop := var = 1 ∨ var = 2 ∨ var = 3 ∨ var = 4
theorem VarOk.v1 : VarOk 1 := .inl rfl
theorem VarOk.v2 : VarOk 2 := .inr (.inl rfl)
theorem VarOk.v3 : VarOk 3 := .inr (.inr (.inl rfl))
theorem VarOk.v4 : VarOk 4 := .inr (.inr (.inr rfl))
def plT (var : Nat) : TypeId := if var = 4 then 403 else if var = 1 then 396 else if var = 2 then 398 else 400
def plR (var b : Nat) : Value := if var = 4 then .agg #[ptr b] else ptr b
def plPut (var : Nat) : FuncId := if var = 4 then 400 else if var = 1 then 385 else if var = 2 then 388 else 393
def plTake (var : Nat) : FuncId := if var = 4 then 401 else if var = 1 then 386 else if var = 2 then 389 else 394
def plGet (var : Nat) : FuncId := if var = 4 then 399 else if var = 1 then 383 else if var = 2 then 387 else 391
theorem meth4_Put (x : Value) (w : World) : (method 608 403 x "Put").run Tryz.prog w = .ok (400, x) w := by kernel_rfl
theorem meth4_Take (x : Value) (w : World) : (method 608 403 x "Take").run Tryz.prog w = .ok (401, x) w := by kernel_rfl
theorem meth4_Get (x : Value) (w : World) : (method 608 403 x "Get").run Tryz.prog w = .ok (399, x) w := by kernel_rfl
theorem meth3_Put (x : Value) (w : World) : (method 608 400 x "Put").run Tryz.prog w = .ok (393, x) w := by kernel_rfl
theorem meth3_Take (x : Value) (w : World) : (method 608 400 x "Take").run Tryz.prog w = .ok (394, x) w := by kernel_rfl
theorem meth3_Get (x : Value) (w : World) : (method 608 400 x "Get").run Tryz.prog w = .ok (391, x) w := by kernel_rfl
theorem call4_Put (args : Array Value) (w : World) : (callFunc 400 args).run Tryz.prog w = .ok (.enter 400 args) w := by kernel_rfl
theorem call4_Take (args : Array Value) (w : World) : (callFunc 401 args).run Tryz.prog w = .ok (.enter 401 args) w := by kernel_rfl
theorem call4_Get (args : Array Value) (w : World) : (callFunc 399 args).run Tryz.prog w = .ok (.enter 399 args) w := by kernel_rfl
theorem meth1_Put (x : Value) (w : World) : (method 608 396 x "Put").run Tryz.prog w = .ok (385, x) w := by kernel_rfl
theorem call1_Put (args : Array Value) (w : World) : (callFunc 385 args).run Tryz.prog w = .ok (.enter 385 args) w := by kernel_rfl
theorem call3_Put (args : Array Value) (w : World) : (callFunc 393 args).run Tryz.prog w = .ok (.enter 393 args) w := by kernel_rfl
theorem meth1_Take (x : Value) (w : World) : (method 608 396 x "Take").run Tryz.prog w = .ok (386, x) w := by kernel_rfl
theorem call1_Take (args : Array Value) (w : World) : (callFunc 386 args).run Tryz.prog w = .ok (.enter 386 args) w := by kernel_rfl
theorem call3_Take (args : Array Value) (w : World) : (callFunc 394 args).run Tryz.prog w = .ok (.enter 394 args) w := by kernel_rfl
theorem meth1_Get (x : Value) (w : World) : (method 608 396 x "Get").run Tryz.prog w = .ok (383, x) w := by kernel_rfl
theorem call1_Get (args : Array Value) (w : World) : (callFunc 383 args).run Tryz.prog w = .ok (.enter 383 args) w := by kernel_rfl
theorem call3_Get (args : Array Value) (w : World) : (callFunc 391 args).run Tryz.prog w = .ok (.enter 391 args) w := by kernel_rfl
theorem meth2_Put (x : Value) (w : World) : (method 608 398 x "Put").run Tryz.prog w = .ok (388, x) w := by kernel_rfl
theorem call2_Put (args : Array Value) (w : World) : (callFunc 388 args).run Tryz.prog w = .ok (.enter 388 args) w := by kernel_rfl
theorem meth2_Take (x : Value) (w : World) : (method 608 398 x "Take").run Tryz.prog w = .ok (389, x) w := by kernel_rfl
theorem call2_Take (args : Array Value) (w : World) : (callFunc 389 args).run Tryz.prog w = .ok (.enter 389 args) w := by kernel_rfl
theorem meth2_Get (x : Value) (w : World) : (method 608 398 x "Get").run Tryz.prog w = .ok (387, x) w := by kernel_rfl
theorem call2_Get (args : Array Value) (w : World) : (callFunc 387 args).run Tryz.prog w = .ok (.enter 387 args) w := by kernel_rfl
/-- The way through the interface. -/
structure Meth (T : TypeId) (R : Value) (name : String) (fn : FuncId) : Prop where
  m : ∀ w, (method 608 T R name).run Tryz.prog w = .ok (fn, R) w
  c : ∀ args w, (callFunc fn args).run Tryz.prog w = .ok (.enter fn args) w
theorem pl_mput {var : Nat} (h : VarOk var) (b : Nat) : Meth (plT var) (plR var b) "Put" (plPut var) := by
  rcases h with rfl | rfl | rfl | rfl
  · exact ⟨meth1_Put _, call1_Put⟩
  · exact ⟨meth2_Put _, call2_Put⟩
  · exact ⟨meth3_Put _, call3_Put⟩
  · exact ⟨meth4_Put _, call4_Put⟩
theorem pl_mtake {var : Nat} (h : VarOk var) (b : Nat) : Meth (plT var) (plR var b) "Take" (plTake var) := by
  rcases h with rfl | rfl | rfl | rfl
  · exact ⟨meth1_Take _, call1_Take⟩
  · exact ⟨meth2_Take _, call2_Take⟩
  · exact ⟨meth3_Take _, call3_Take⟩
  · exact ⟨meth4_Take _, call4_Take⟩
theorem pl_mget {var : Nat} (h : VarOk var) (b : Nat) : Meth (plT var) (plR var b) "Get" (plGet var) := by
  rcases h with rfl | rfl | rfl | rfl
  · exact ⟨meth1_Get _, call1_Get⟩
  · exact ⟨meth2_Get _, call2_Get⟩
  · exact ⟨meth3_Get _, call3_Get⟩
  · exact ⟨meth4_Get _, call4_Get⟩
theorem pl_put {w0 w : World} {L : List Asr} {var b m : Nat} {f : Nat → VV} (H : St w0 w L) (i : Nat) (hi : L[i]? = some (plA var b m f)) (hv : VarOk var) (hm : m < 2 ^ 64) (k : Nat) (hk : k < 64) (v : VV) (ht : var = 4 → v = tagV) :
    Calls Tryz.prog (plPut var) #[plR var b, .int .i64 (k : Nat), v.val] w (fun e w' => e = .returned (.tuple #[(hadV m f k).val, .bool (m.testBit k)]) ∧ St w0 w' (L.set i (plA var b (addW m k) (updV f k v)))) := by
  rcases hv with rfl | rfl | rfl | rfl
  · exact pl_put1 H i hi hm k hk v
  · exact pl_put2 H i hi hm k hk v
  · exact pl_put3 H i hi hm k hk v
  · exact pl_put4 H i hi hm k hk v (ht rfl)
theorem pl_take {w0 w : World} {L : List Asr} {var b m : Nat} {f : Nat → VV} (H : St w0 w L) (i : Nat) (hi : L[i]? = some (plA var b m f)) (hv : VarOk var) (hm : m < 2 ^ 64) (k : Nat) (hk : k < 64) :
    Calls Tryz.prog (plTake var) #[plR var b, .int .i64 (k : Nat)] w (fun e w' => e = .returned (.tuple #[(hadV m f k).val, .bool (m.testBit k)]) ∧ St w0 w' (L.set i (plA var b (delW m k) f))) := by
  rcases hv with rfl | rfl | rfl | rfl
  · exact pl_take1 H i hi hm k hk
  · exact pl_take2 H i hi hm k hk
  · exact pl_take3 H i hi hm k hk
  · exact pl_take4 H i hi hm k hk
theorem pl_get {w0 w : World} {L : List Asr} {var b m : Nat} {f : Nat → VV} (H : St w0 w L) (i : Nat) (hi : L[i]? = some (plA var b m f)) (hv : VarOk var) (hm : m < 2 ^ 64) (k : Nat) (hk : k < 64) :
    Calls Tryz.prog (plGet var) #[plR var b, .int .i64 (k : Nat)] w (Ret w (.tuple #[(hadV m f k).val, .bool (m.testBit k)])) := by
  rcases hv with rfl | rfl | rfl | rfl
  · exact pl_get1 H i hi k hk
  · exact pl_get2 H i hi hm k hk
  · exact pl_get3 H i hi hm k hk
  · exact pl_get4 H i hi hm k hk

/-- A slot. -/
structure SlS where
  var : Nat
  kind : Nat
  m : Nat
  f : Nat → VV
  fl : Option FlagV
structure SlB where
  p : Nat
  m : Nat
  g : Nat
def SlS.bound (s : SlS) : Nat := match s.fl with
  | none => 0
  | some F => F.bound
def flV (fl : Option FlagV) (g : Nat) : Value := match fl with
  | none => .pointer none
  | some _ => .pointer (some ⟨g, 0, none⟩)
def flA (fl : Option FlagV) (g : Nat) : Asr := match fl with
  | none => empA
  | some F => flagA g F
def sloCs (s : SlS) (p : SlB) : Array Value := #[.iface (plT s.var) (plR s.var p.p), .int .i64 (s.kind : Nat), .int .i64 (s.var : Nat), .int .i64 (s.bound : Nat), ptr p.m, flV s.fl p.g]
def sloL (b : Nat) (s : SlS) (p : SlB) : List Asr := [blkA b (sloCs s p) 278, plA s.var p.p s.m s.f, hibA p.m s.m, flA s.fl p.g]
def sloA (b : Nat) (s : SlS) : Asr := exA fun p => starA (sloL b s p)
/-- What is so of a slot; at most so many events were noted. -/
structure SlS.Ok (s : SlS) (n : Nat) : Prop where
  var : VarOk s.var
  kind : s.kind = 1 ∨ s.kind = 2 ∨ s.kind = 3
  tag : s.var = 4 → s.kind = 3
  m : s.m < 2 ^ 64
  fl : ∀ F, s.fl = some F → F.all.length ≤ n ∧ 1 ≤ F.bound ∧ F.bound ≤ 1000
theorem SlS.Ok.le {s : SlS} {n n' : Nat} (h : s.Ok n) (hn : n ≤ n') : s.Ok n' := ⟨h.var, h.kind, h.tag, h.m, fun F hF => ⟨Nat.le_trans (h.fl F hF).1 hn, (h.fl F hF).2⟩⟩
/-- What is noted. -/
def notedF (fl : Option FlagV) (e : EvV) : Option FlagV := fl.map fun F => ⟨F.bound, F.all ++ [e], F.pos⟩
def SlS.noted (s : SlS) (e : EvV) : SlS := { s with fl := notedF s.fl e }
theorem noted_bound (s : SlS) (e : EvV) : (s.noted e).bound = s.bound := by
  unfold SlS.noted SlS.bound notedF
  cases s.fl <;> rfl

set_option maxHeartbeats 1000000 in
theorem slo_note {w0 w : World} {R : List Asr} {b : Nat} {s : SlS} {p : SlB} (H : St w0 w (sloL b s p ++ R)) (hs : s.Ok 90000) (kd k : Nat) (h1 : 1 ≤ kd) (h3 : kd ≤ 3) (hk : k < 64) :
    Calls Tryz.prog 197 #[ptr b, .int .i64 (kd : Nat), .int .i64 (k : Nat)] w (fun e w' => e = .returned (.tuple #[]) ∧ St w0 w' (sloL b (s.noted ⟨kd, k⟩) p ++ R)) := by
  have c5 : w.cell? ⟨b, 5, none⟩ = some (flV s.fl p.g) := by rw [(H.blk 0 rfl).cell]; rfl
  cases hf : s.fl with
  | none =>
    have e : s.noted ⟨kd, k⟩ = s := by
      unfold SlS.noted notedF
      rw [hf]
      obtain ⟨_, _, _, _, fl⟩ := s
      simp at hf
      subst hf
      rfl
    rw [hf] at c5
    rw [e]
    have HH := Lib.hid H
    clear H hs hf e
    unfold ptr flV at *
    go_enter Tryz.func197, Tryz.ntmps197
    go_wp2_with fail
    go_end0
    exact ⟨rfl, HH.out⟩
  | some F =>
    rw [hf] at c5
    obtain ⟨f1, f2, f3⟩ := hs.fl F hf
    have HL := Lib.hid (show St w0 (w.alloc (.cells #[.int .i64 (kd : Nat), .int .i64 (k : Nat)] 86)) (slA 86 2 (.slice (some ⟨w.heap.size, 0, none⟩) 1 1) 1 (flatEv [⟨kd, k⟩]) :: (sloL b s p ++ R)) from (H.lit 86 2 1 #[.int .i64 (kd : Nat), .int .i64 (k : Nat)] (by decide) rfl).first)
    have e3 : (slA 86 2 (.slice (some ⟨w.heap.size, 0, none⟩) 1 1) 1 (flatEv [⟨kd, k⟩]) :: (sloL b s p ++ R))[4]? = some (flagA p.g F) := by
      unfold sloL flA
      rw [hf]
      rfl
    have hN := flag_note HL.out 4 e3 (.slice (some ⟨w.heap.size, 0, none⟩) 1 1) [⟨kd, k⟩] (ReadIn.own 0 (e := 86) (size := 2) rfl) (by simp [badEv]; omega) (by simp) (by omega) f2 f3
    have HN := Lib.hid hN
    have HF := Lib.hid hf
    clear H hs hf e3 f1 f2 f3 hN
    unfold ptr flV at *
    go_enter Tryz.func197, Tryz.ntmps197
    go_wp2_with (go_at_call 242; refine HN.out.mono ?_; rintro e w1 ⟨rfl, h1⟩; have HH1 := Lib.hid h1; clear h1)
    go_end0
    refine ⟨rfl, ?_⟩
    have h := HH1.out.rest
    have e : sloL b (s.noted ⟨kd, k⟩) p = [blkA b (sloCs s p) 278, plA s.var p.p s.m s.f, hibA p.m s.m, flagA p.g ⟨F.bound, F.all ++ [⟨kd, k⟩], F.pos⟩] := by
      unfold sloL sloCs
      rw [noted_bound]
      unfold SlS.noted notedF flA flV
      simp only [HF.out, Option.map_some]
    rw [e]
    exact h
end Go.Proofs.YtkiikblpgppmkaaGreatDoor

namespace Go.Proofs.YtkiikblpgppmkaaGreatDoor
open Go Go.RowKit
set_option linter.unusedVariables false
set_option linter.unusedSimpArgs false

set_option maxHeartbeats 1000000 in
theorem slo_check (b k kd : Nat) (v : VV) (w : World) (hc : w.cell? ⟨b, 1, none⟩ = some (.int .i64 (kd : Nat))) (hk : k < 64) (hv : okV v.k v.a v.b = true) (hkd : v.k = kd) :
    Calls Tryz.prog 196 #[ptr b, .int .i64 (k : Nat), v.val] w (Ret w (.int .i64 0)) := by
  obtain ⟨vk, va, vb⟩ := v
  simp only at hkd hv
  subst hkd
  have HO := Lib.hid (value_ok kd va vb)
  rw [hv] at HO
  have e0 : decide ((k : Int) < 0) = false := decide_eq_false (by omega)
  have e1 : decide ((k : Int) ≥ 65536) = false := decide_eq_false (by omega)
  have e2 : decide (65536 ≤ k) = false := decide_eq_false (by omega)
  have hk1 := (show Keep w (w.alloc (.cells #[.int .i64 kd, .int .i64 va, .int .i64 vb] 34)) Nope from (Keep.refl w Nope).alloc _)
  replace hc := hk1.cell hc (fun f => f)
  have HK1 := Lib.hid hk1
  obtain ⟨x0, x1, x2, _, _, _⟩ := (Blk.new w #[.int .i64 (kd : Nat), .int .i64 va, .int .i64 vb] 34).three
  clear hk1 hv
  unfold ptr VV.val
  go_enter Tryz.func196, Tryz.ntmps196
  go_wp2_with fail
  refine wp_region_held_drew (S := fun w' => w'.cell? ⟨w.heap.size, 0, none⟩ = some (.int .i64 (kd : Nat)) ∧ w'.cell? ⟨w.heap.size, 1, none⟩ = some (.int .i64 va) ∧ w'.cell? ⟨w.heap.size, 2, none⟩ = some (.int .i64 vb) ∧ w'.cell? ⟨b, 1, none⟩ = some (.int .i64 (kd : Nat))) (by kernel_rfl) ?_ (fun hHeld => ?_)
  · (try dsimp only); exact ⟨x0, x1, x2, hc⟩
  refine tkW 0 ?_
  refine wpAnyH_ready (rs := [1]) (by kernel_rfl) (by simp) ?_
  refine AllReadyH.cons rfl (fun K hK => ?_) (AllReadyH.nil)
  go_simp
  go_wp2_with ((go_at_call 119; refine (HO.out _).mono ?_; rintro e w2 ⟨rfl, hk2⟩; have HK2 := Lib.hid ((HK1.out.drew).trans hk2 (fun _ f => f.elim)); have HC2 := Lib.hid (And.intro (hk2.cell (w := (w.alloc (.cells #[.int .i64 (kd : Nat), .int .i64 va, .int .i64 vb] 34)).drew) x0 (fun f => f)) (And.intro (hk2.cell (w := (w.alloc (.cells #[.int .i64 (kd : Nat), .int .i64 va, .int .i64 vb] 34)).drew) x1 (fun f => f)) (And.intro (hk2.cell (w := (w.alloc (.cells #[.int .i64 (kd : Nat), .int .i64 va, .int .i64 vb] 34)).drew) x2 (fun f => f)) (hk2.cell (w := (w.alloc (.cells #[.int .i64 (kd : Nat), .int .i64 va, .int .i64 vb] 34)).drew) hc (fun f => f))))); clear hk2))
  refine hK.out _ _ ?_ (fun hHeld => ?_)
  · (try dsimp only); exact HC2.out
  clear hK K
  refine tkW 2 ?_; refine tkW 3 ?_; refine tkW 4 ?_; refine tkW 5 ?_; refine tkW 6 ?_; refine tkW 7 ?_; refine tkW 8 ?_; refine tkW 9 ?_; refine tkW 10 ?_; refine tkW 11 ?_; refine tkW 12 ?_; refine tkW 13 ?_
  refine wpAnyH_done (by kernel_rfl) ?_ _
  clear hHeld
  go_wp2_with fail
  go_ret
  exact ⟨rfl, HK2.out⟩
theorem slo_desc (b : Nat) (s : SlS) (p : SlB) (w : World) (h : Blk w b (sloCs s p) 278) :
    Calls Tryz.prog 117 #[ptr b] w (Ret w (.agg #[.int .i64 (s.kind : Nat), .int .i64 (s.var : Nat), .int .i64 (s.bound : Nat)])) := by
  have hb := h.alloc (.cells #[.int .i64 0, .int .i64 0, .int .i64 0] 60)
  have c1 : (w.alloc (.cells #[.int .i64 0, .int .i64 0, .int .i64 0] 60)).cell? ⟨b, 1, none⟩ = some (.int .i64 (s.kind : Nat)) := by rw [hb.cell]; rfl
  have c2 : (w.alloc (.cells #[.int .i64 0, .int .i64 0, .int .i64 0] 60)).cell? ⟨b, 2, none⟩ = some (.int .i64 (s.var : Nat)) := by rw [hb.cell]; rfl
  have c3 : (w.alloc (.cells #[.int .i64 0, .int .i64 0, .int .i64 0] 60)).cell? ⟨b, 3, none⟩ = some (.int .i64 (s.bound : Nat)) := by rw [hb.cell]; rfl
  clear hb h
  unfold ptr
  go_enter Tryz.func117, Tryz.ntmps117
  go_wp2_with fail
  refine bodyPost_ret (v := .agg #[.int .i64 (s.kind : Nat), .int .i64 (s.var : Nat), .int .i64 (s.bound : Nat)]) (by simp [results, Tryz.results117, go_sem]) rfl ⟨rfl, (show Keep w _ Nope from (by (repeat (first | exact Keep.refl _ _ | apply Keep.drew | apply Keep.drewN | apply Keep.alloc))))⟩
theorem slo_mask (b m mb : Nat) (w : World) (hc : w.cell? ⟨b, 4, none⟩ = some (ptr mb)) (h : RdHib w mb m) :
    Calls Tryz.prog 133 #[ptr b] w (fun e w' => ∃ nb, e = .returned (ptr nb) ∧ Keep w w' Nope ∧ (hibA nb m).at' w' (New w w')) := by
  have HC := Lib.hid (hib_copy mb m w h)
  clear h
  unfold ptr at *
  go_enter Tryz.func133, Tryz.ntmps133
  go_wp2_with (go_at_call 210; refine HC.out.mono ?_; rintro e w1 ⟨nb, rfl, hk1, h1⟩; have H1 := Lib.hid (And.intro hk1 h1); clear hk1 h1)
  go_ret
  exact ⟨nb, rfl, H1.out⟩
theorem St.rot3 {w0 w : World} {a b c : Asr} {X R : List Asr} (h : St w0 w (a :: b :: c :: (X ++ R))) : St w0 w (X ++ (R ++ [a, b, c])) := by
  have h1 := h.last.last.last
  have e : ((X ++ R) ++ [a]) ++ [b] ++ [c] = X ++ (R ++ [a, b, c]) := by simp
  rw [← e]
  exact h1
theorem St.unrot3 {w0 w : World} {a b c : Asr} {X R : List Asr} (h : St w0 w (X ++ (R ++ [a, b, c]))) : St w0 w (a :: b :: c :: (X ++ R)) := by
  have e : X ++ (R ++ [a, b, c]) = ((X ++ R) ++ [a]) ++ [b] ++ [c] := by simp
  rw [e] at h
  have h1 : St w0 w (c :: (((X ++ R) ++ [a]) ++ [b])) := h.first
  have h2 : St w0 w (b :: (c :: ((X ++ R) ++ [a]))) := St.first (L := c :: ((X ++ R) ++ [a])) h1
  exact St.first (L := b :: c :: (X ++ R)) h2
theorem St.rot2 {w0 w : World} {a b : Asr} {X R : List Asr} (h : St w0 w (a :: b :: (X ++ R))) : St w0 w (X ++ (R ++ [a, b])) := by
  have h1 := h.last.last
  have e : ((X ++ R) ++ [a]) ++ [b] = X ++ (R ++ [a, b]) := by simp
  rw [← e]
  exact h1
theorem St.unrot2 {w0 w : World} {a b : Asr} {X R : List Asr} (h : St w0 w (X ++ (R ++ [a, b]))) : St w0 w (a :: b :: (X ++ R)) := by
  have e : X ++ (R ++ [a, b]) = ((X ++ R) ++ [a]) ++ [b] := by simp
  rw [e] at h
  have h1 : St w0 w (b :: ((X ++ R) ++ [a])) := h.first
  exact St.first (L := b :: (X ++ R)) h1
theorem St.rot1 {w0 w : World} {a : Asr} {X R : List Asr} (h : St w0 w (a :: (X ++ R))) : St w0 w (X ++ (R ++ [a])) := by
  have h1 := h.last
  rw [List.append_assoc] at h1
  exact h1
theorem St.unrot1 {w0 w : World} {a : Asr} {X R : List Asr} (h : St w0 w (X ++ (R ++ [a]))) : St w0 w (a :: (X ++ R)) := by
  rw [← List.append_assoc] at h
  exact h.first
/-- What a put makes of a slot, and a take. -/
def SlS.put (s : SlS) (k : Nat) (v : VV) : SlS := ⟨s.var, s.kind, addW s.m k, updV s.f k v, notedF s.fl ⟨if s.m.testBit k then 2 else 1, k⟩⟩
def SlS.take (s : SlS) (k : Nat) : SlS := ⟨s.var, s.kind, delW s.m k, s.f, if s.m.testBit k then notedF s.fl ⟨3, k⟩ else s.fl⟩
end Go.Proofs.YtkiikblpgppmkaaGreatDoor
