/-
  At once and later, plainly; what each call does of it; At once and later: Defer, Maintain; The package expr: join; what an arena of five nodes looks like.
-/
import Derived.Test.YtkiikblpgppmkaaGreatDoorTlM33
import Derived.Test.YtkiikblpgppmkaaGreatDoorTlM22
namespace Go.Proofs.YtkiikblpgppmkaaGreatDoor
open Go Go.RowKit
set_option linter.unusedVariables false
set_option linter.unusedSimpArgs false

/-- What an op does, at once or later. -/
def opS (E : EnS) (o : OpV) : EnS := if E.al.st o.hi o.hg = 1 then (if o.kind = 1 then E.del o.hi.toNat else if o.kind = 2 then E.ins o.hi.toNat o.c.toNat ⟨o.vk, o.va, o.vb⟩ else E.takes o.hi.toNat o.c.toNat) else E
structure LtI (ks : List Nat) (E : EnS) (j : Nat) : Prop where
  ra : E.al.raised = 0
  ret : E.al.ret ≤ j
  ok : E.Ok j
  kinds : E.kinds = ks
theorem LtI.up {ks : List Nat} {E : EnS} {i j : Nat} (h : LtI ks E i) (hj : i ≤ j) : LtI ks E j := ⟨h.ra, Nat.le_trans h.ret hj, h.ok.le hj, h.kinds⟩
theorem LtI.st {ks : List Nat} {E : EnS} {j : Nat} (h : LtI ks E j) (i g : Int) : E.al.st i g = 0 ∨ E.al.st i g = 1 := by
  unfold AlS.st
  rw [h.ra]
  split
  · split
    · exact .inr rfl
    · simp
  · exact .inl rfl
theorem LtI.op {ks : List Nat} {E : EnS} {j : Nat} (h : LtI ks E j) (o : OpV) : LtI ks (opS E o) (j + 1) := by
  unfold opS
  split
  · rename_i hs
    obtain ⟨k, hk, hkl, hg, hlv⟩ := AlS.st_live hs
    have h64 := h.ok.al.len
    rw [hk, Int.toNat_natCast]
    split
    · have hd := h.ok.del hkl
      have ht := took_gens E.al k (E.al.gen k : Nat)
      exact ⟨ht.2.1.trans h.ra, Nat.le_trans ht.2.2 (Nat.succ_le_succ h.ret), hd.1, hd.2.trans h.kinds⟩
    · split
      · have hd := h.ok.ins (k := k) (c := o.c.toNat) (by omega) ⟨o.vk, o.va, o.vb⟩
        exact ⟨h.ra, Nat.le_succ_of_le h.ret, hd.1, hd.2.trans h.kinds⟩
      · have hd := h.ok.takes k o.c.toNat
        exact ⟨h.ra, Nat.le_succ_of_le h.ret, hd.1, hd.2.trans h.kinds⟩
  · exact h.up (Nat.le_succ _)
def opsS (E : EnS) (l : List OpV) : EnS := l.foldl opS E
theorem opsS_snoc (E : EnS) (l : List OpV) (o : OpV) : opsS E (l ++ [o]) = opS (opsS E l) o := by
  unfold opsS
  rw [List.foldl_append]
  rfl
theorem LtI.ops {ks : List Nat} {E : EnS} {j : Nat} (h : LtI ks E j) (l : List OpV) : LtI ks (opsS E l) (j + l.length) := by
  induction l generalizing E j with
  | nil => exact h
  | cons o l ih =>
    have := ih (h.op o)
    rw [List.length_cons, show j + (l.length + 1) = j + 1 + l.length by omega]
    exact this
/-- An op that may be deferred here. -/
structure OpGood (ks : List Nat) (o : OpV) : Prop where
  kind : (o.kind = 1 ∧ o.c = 0 ∧ o.vk = 0 ∧ o.va = 0 ∧ o.vb = 0) ∨ (o.kind = 2 ∧ ∃ c kd : Nat, o.c = c ∧ ks[c]? = some kd ∧ o.vk = kd ∧ okV o.vk o.va o.vb = true) ∨ (o.kind = 3 ∧ (∃ c kd : Nat, o.c = c ∧ ks[c]? = some kd) ∧ o.vk = 0 ∧ o.va = 0 ∧ o.vb = 0)
theorem OpGood.ok {ks : List Nat} {o : OpV} (h : OpGood ks o) : okOp o = true := by
  obtain ⟨kind, hi, hg, c, vk, va, vb⟩ := o
  rcases h.kind with ⟨h1, h2, h3, h4, h5⟩ | ⟨h1, c', kd, h2, h3, h4, h5⟩ | ⟨h1, ⟨c', kd, h2, h3⟩, h4, h5, h6⟩
  · simp only at h1 h2 h3 h4 h5
    subst h1 h2 h3 h4 h5
    rfl
  · simp only at h1 h2 h5
    subst h1 h2
    unfold okOp
    simp [h5]
  · simp only at h1 h2 h4 h5 h6
    subst h1 h2 h4 h5 h6
    unfold okOp
    simp
def getV (E : EnS) (i g : Int) (c : Nat) : VV := if E.al.st i g = 1 then (match E.sl[c]? with
  | some s => hadV s.m s.f i.toNat
  | none => zVV) else zVV
def getE (E : EnS) (i g : Int) (c : Nat) : Int := if E.al.st i g = 1 then (match E.sl[c]? with
  | some s => if s.m.testBit i.toNat then 0 else 10
  | none => 0) else 4
theorem lt_get {w0 w : World} {R : List Asr} {b : Nat} {x : WoS} {p : WoB} {ks : List Nat} (H : St w0 w (woL b x p ++ R)) {j : Nat} (hI : LtI ks x.en j) (hj : j ≤ 90000) (i g : Int) (c : Nat) (hc : c < ks.length) :
    Calls Tryz.prog 31 #[ptr b, hdV i g, .int .i64 (c : Nat)] w (Ret w (.tuple #[(getV x.en i g c).val, .int .i64 (getE x.en i g c)])) := by
  rcases hI.st i g with hs | hs
  · unfold getV getE
    rw [if_neg (by rw [hs]; decide), if_neg (by rw [hs]; decide)]
    exact wo_get_gone H hI.ok.al i g c hs
  · obtain ⟨k, hk, _⟩ := AlS.st_live hs
    obtain ⟨s, hs1, _⟩ := EnS.kind_at (e := x.en) (c := c) (kd := ks[c]) (by rw [hI.kinds]; exact List.getElem?_eq_getElem hc)
    unfold getV getE
    rw [if_pos hs, if_pos hs, hs1, hk, Int.toNat_natCast]
    rw [hk] at hs
    exact wo_get H (hI.ok.le hj) k g hs c s hs1
def RetLt (w0 : World) (R : List Asr) (b : Nat) (x : WoS) (p : WoB) (E : EnS) (e : Ending) (w' : World) : Prop := ∃ u, e = .returned u ∧ St w0 w' (woL b (x.withE E) p ++ R)
theorem lt_delete {w0 w : World} {R : List Asr} {b : Nat} {x : WoS} {p : WoB} {ks : List Nat} (H : St w0 w (woL b x p ++ R)) {j : Nat} (hI : LtI ks x.en j) (hj : j ≤ 90000) (i g c vk va vb : Int) :
    Calls Tryz.prog 18 #[ptr b, hdV i g] w (RetLt w0 R b x p (opS x.en ⟨1, i, g, c, vk, va, vb⟩)) := by
  unfold opS
  rcases hI.st i g with hs | hs
  · rw [if_neg (by show ¬ x.en.al.st i g = 1; rw [hs]; decide)]
    refine (wo_delete_gone H hI.ok.al i g hs).mono ?_
    rintro e w' ⟨rfl, hk⟩
    exact ⟨_, rfl, H.keep hk⟩
  · rw [if_pos hs, if_pos rfl]
    obtain ⟨k, hk, hkl, hg, _⟩ := AlS.st_live hs
    show Calls _ _ _ _ (RetLt w0 R b x p (x.en.del i.toNat))
    rw [hk, Int.toNat_natCast, ← hg]
    rw [hk, ← hg] at hs
    refine (wo_delete H (hI.ok.le hj) (Nat.le_trans hI.ret (by omega)) k hs).mono ?_
    rintro e w' ⟨rfl, h⟩
    exact ⟨_, rfl, h⟩
theorem lt_insert {w0 w : World} {R : List Asr} {b : Nat} {x : WoS} {p : WoB} {ks : List Nat} (H : St w0 w (woL b x p ++ R)) {j : Nat} (hI : LtI ks x.en j) (hj : j ≤ 90000) (i g : Int) (c kd : Nat) (hc : ks[c]? = some kd) (v : VV) (hv : okV v.k v.a v.b = true) (hk1 : v.k = kd) :
    Calls Tryz.prog 15 #[ptr b, hdV i g, .int .i64 (c : Nat), v.val] w (RetLt w0 R b x p (opS x.en ⟨2, i, g, c, v.k, v.a, v.b⟩)) := by
  unfold opS
  rcases hI.st i g with hs | hs
  · rw [if_neg (by show ¬ x.en.al.st i g = 1; rw [hs]; decide)]
    refine (wo_insert_gone H hI.ok.al i g c hs v).mono ?_
    rintro e w' ⟨rfl, hk⟩
    exact ⟨_, rfl, H.keep hk⟩
  · rw [if_pos hs, if_neg (show ¬ (2 : Int) = 1 by decide), if_pos rfl]
    obtain ⟨k, hk, _⟩ := AlS.st_live hs
    obtain ⟨s, hs1, hs2⟩ := EnS.kind_at (e := x.en) (c := c) (kd := kd) (by rw [hI.kinds]; exact hc)
    show Calls _ _ _ _ (RetLt w0 R b x p (x.en.ins i.toNat (c : Int).toNat v))
    rw [hk, Int.toNat_natCast, Int.toNat_natCast]
    rw [hk] at hs
    refine (wo_insert H (hI.ok.le hj) k g hs c s hs1 v hv (by rw [hk1, hs2])).mono ?_
    rintro e w' ⟨rfl, h⟩
    exact ⟨_, rfl, h⟩
theorem lt_remove {w0 w : World} {R : List Asr} {b : Nat} {x : WoS} {p : WoB} {ks : List Nat} (H : St w0 w (woL b x p ++ R)) {j : Nat} (hI : LtI ks x.en j) (hj : j ≤ 90000) (i g : Int) (c kd : Nat) (hc : ks[c]? = some kd) (vk va vb : Int) :
    Calls Tryz.prog 17 #[ptr b, hdV i g, .int .i64 (c : Nat)] w (RetLt w0 R b x p (opS x.en ⟨3, i, g, c, vk, va, vb⟩)) := by
  unfold opS
  rcases hI.st i g with hs | hs
  · rw [if_neg (by show ¬ x.en.al.st i g = 1; rw [hs]; decide)]
    refine (wo_remove_gone H hI.ok.al i g c hs).mono ?_
    rintro e w' ⟨rfl, hk⟩
    exact ⟨_, rfl, H.keep hk⟩
  · rw [if_pos hs, if_neg (show ¬ (3 : Int) = 1 by decide), if_neg (show ¬ (3 : Int) = 2 by decide)]
    obtain ⟨k, hk, _⟩ := AlS.st_live hs
    obtain ⟨s, hs1, hs2⟩ := EnS.kind_at (e := x.en) (c := c) (kd := kd) (by rw [hI.kinds]; exact hc)
    show Calls _ _ _ _ (RetLt w0 R b x p (x.en.takes i.toNat (c : Int).toNat))
    rw [hk, Int.toNat_natCast, Int.toNat_natCast]
    rw [hk] at hs
    refine (wo_remove H (hI.ok.le hj) k g hs c s hs1).mono ?_
    rintro e w' ⟨rfl, h⟩
    exact ⟨_, rfl, h⟩
theorem lt_apply {w0 w : World} {R : List Asr} {b : Nat} {x : WoS} {p : WoB} {ks : List Nat} (H : St w0 w (woL b x p ++ R)) {j : Nat} (hI : LtI ks x.en j) (hj : j ≤ 90000) (o : OpV) (ho : OpGood ks o) :
    Calls Tryz.prog 66 #[ptr b, o.val] w (fun e w' => ∃ bb : Bool, e = .returned (.bool bb) ∧ St w0 w' (woL b (x.withE (opS x.en o)) p ++ R)) := by
  obtain ⟨kind, i, g, oc, vk, va, vb⟩ := o
  unfold opS
  rcases hI.st i g with hs | hs
  · rw [if_neg (by show ¬ x.en.al.st i g = 1; rw [hs]; decide)]
    rcases ho.kind with ⟨h1, _⟩ | ⟨h1, _⟩ | ⟨h1, _⟩ <;> (simp only at h1; subst h1)
    · refine (wo_apply_delete_gone H hI.ok.al i g oc vk va vb hs).mono ?_
      rintro e w' ⟨rfl, hk⟩
      exact ⟨_, rfl, H.keep hk⟩
    · refine (wo_apply_insert_gone H hI.ok.al i g oc vk va vb hs).mono ?_
      rintro e w' ⟨rfl, hk⟩
      exact ⟨_, rfl, H.keep hk⟩
    · refine (wo_apply_remove_gone H hI.ok.al i g oc vk va vb hs).mono ?_
      rintro e w' ⟨rfl, hk⟩
      exact ⟨_, rfl, H.keep hk⟩
  · rw [if_pos hs]
    obtain ⟨k, hk, hkl, hg, _⟩ := AlS.st_live hs
    have hk : i = (k : Int) := hk
    rcases ho.kind with ⟨h1, h2, _⟩ | ⟨h1, c, kd, h2, h3, h4, h5⟩ | ⟨h1, ⟨c, kd, h2, h3⟩, _⟩ <;> (simp only at h1 h2; subst h1 h2)
    · rw [if_pos rfl]
      subst hk
      have hs' : x.en.al.st (k : Nat) (x.en.al.gen k : Nat) = 1 := by
        have hg2 : ((x.en.al.gen k : Nat) : Int) = g := hg
        rw [hg2]
        exact hs
      refine (wo_apply_del H (hI.ok.le hj) (Nat.le_trans hI.ret (by omega)) k hs' ⟨1, k, g, 0, vk, va, vb⟩ rfl rfl hg.symm).mono ?_
      rintro e w' ⟨rfl, h⟩
      exact ⟨_, rfl, by rw [Int.toNat_natCast]; exact h⟩
    · rw [if_neg (show ¬ (2 : Int) = 1 by decide), if_pos rfl]
      subst hk
      obtain ⟨s, hs1, hs2⟩ := EnS.kind_at (e := x.en) (c := c) (kd := kd) (by rw [hI.kinds]; exact h3)
      refine (wo_apply_ins H (hI.ok.le hj) k g hs c s hs1 vk va vb h5 (by simp only at h4; rw [h4, hs2])).mono ?_
      rintro e w' ⟨rfl, h⟩
      exact ⟨_, rfl, by rw [Int.toNat_natCast, Int.toNat_natCast]; exact h⟩
    · rw [if_neg (show ¬ (3 : Int) = 1 by decide), if_neg (show ¬ (3 : Int) = 2 by decide)]
      subst hk
      obtain ⟨s, hs1, hs2⟩ := EnS.kind_at (e := x.en) (c := c) (kd := kd) (by rw [hI.kinds]; exact h3)
      refine (wo_apply_rem H (hI.ok.le hj) k g hs c s hs1 vk va vb).mono ?_
      rintro e w' ⟨rfl, h⟩
      exact ⟨_, rfl, by rw [Int.toNat_natCast, Int.toNat_natCast]; exact h⟩
end Go.Proofs.YtkiikblpgppmkaaGreatDoor

namespace Go.Proofs.YtkiikblpgppmkaaGreatDoor
open Go Go.RowKit
set_option linter.unusedVariables false
set_option linter.unusedSimpArgs false

theorem lt_defer {w0 w : World} {R : List Asr} {b : Nat} {x : WoS} {p : WoB} {ks : List Nat} (H : St w0 w (woL b x p ++ R)) {j : Nat} (hok : x.en.Ok j) (hks : x.en.kinds = ks) (o : OpV) (ho : OpGood ks o) (hs : x.en.al.st o.hi o.hg ≠ 0) (hq : x.qu.length ≤ 9000) (S : Nat → Prop) (v : Value) (hv : Rd S w v 1 (flatOp [o])) :
    Calls Tryz.prog 19 #[ptr b, v] w (fun e w' => e = .returned (.int .i64 0) ∧ St w0 w' (woL b (x.withQ (x.qu ++ [o])) p ++ R)) := by
  refine wo_defer H hok.al S [o] v hv (fun o' h => ?_) (fun o' h => ?_) (fun o' h w' hk => ?_) (by show x.qu.length + 1 ≤ 10000; omega)
  · rw [List.mem_singleton.1 h]
    exact ho.ok
  · rw [List.mem_singleton.1 h]
    exact hs
  · rw [List.mem_singleton.1 h]
    rcases ho.kind with ⟨h1, _⟩ | ⟨h1, c, kd, h2, h3, h4, _⟩ | ⟨h1, ⟨c, kd, h2, h3⟩, _⟩
    · exact wo_knows_del b o w' h1
    · obtain ⟨s, hs1, hs2⟩ := EnS.kind_at (e := x.en) (c := c) (kd := kd) (by rw [hks]; exact h3)
      exact wo_knows_ins (H.keep hk) hok.len c s hs1 o h1 h2 (by rw [h4, hs2])
    · obtain ⟨s, hs1, hs2⟩ := EnS.kind_at (e := x.en) (c := c) (kd := kd) (by rw [hks]; exact h3)
      exact wo_knows_rem (H.keep hk) hok.len c s hs1 o h1 h2
def mrgE (e : EnS) : EnS := e.withA e.al.merged
theorem LtI.merged {ks : List Nat} {E : EnS} {j : Nat} (hret : E.al.ret ≤ j) (hok : E.Ok j) (hk : E.kinds = ks) : LtI ks (mrgE E) j := ⟨rfl, hret, hok.withA hok.al.merged, hk⟩
theorem lt_maintain {w0 w : World} {R : List Asr} {b : Nat} {x : WoS} {p : WoB} {ks : List Nat} (H : St w0 w (woL b x p ++ R)) (hT : Tab w0) {j0 : Nat} (hret : x.en.al.ret ≤ j0) (hok : x.en.Ok j0) (hks : x.en.kinds = ks) (hj : j0 ≤ 1000) (hq : x.qu.length ≤ 9000) (hg : ∀ o, o ∈ x.qu → OpGood ks o) :
    Calls Tryz.prog 20 #[ptr b] w (fun e w' => ∃ r a s : Nat, e = .returned (.tuple #[.agg #[.int .i64 (r : Nat), .int .i64 (a : Nat), .int .i64 (s : Nat)], .int .i64 0]) ∧ a + s = x.qu.length ∧ St w0 w' (woL b ((x.withQ []).withE (opsS (mrgE x.en) x.qu)) p ++ R)) := by
  have h := wo_maintain H hT hok.al (by omega) (fun j => opsS (mrgE x.en) (x.qu.take j)) rfl (fun j o ho w1 R1 h1 => by
    have hjl := (List.getElem?_eq_some_iff.1 ho).1
    have hI := (LtI.merged hret hok hks).ops (x.qu.take j)
    have e : opsS (mrgE x.en) (x.qu.take (j + 1)) = opS (opsS (mrgE x.en) (x.qu.take j)) o := by
      rw [List.take_add_one, ho]
      exact opsS_snoc _ _ _
    simp only [e]
    exact lt_apply h1 hI (by rw [List.length_take]; omega) o (hg o (List.mem_of_getElem? ho)))
  simp only [List.take_length] at h
  exact h
theorem liveH_st {a : AlS} (ha : a.Ok) {h : HdV} (hh : h ∈ liveH a) : a.st h.i h.g = 1 := by
  unfold liveH at hh
  obtain ⟨k, hk, rfl⟩ := List.mem_map.1 hh
  have hl := (listW_mem ha.l64).1 hk
  have hkl := ha.live k hl
  show a.st (k : Nat) (a.gen k : Nat) = 1
  unfold AlS.st
  rw [Int.toNat_natCast, if_pos ⟨by omega, by omega, rfl⟩, if_pos hl]
theorem liveH_len (a : AlS) : (liveH a).length ≤ 64 := by
  unfold liveH
  rw [List.length_map]
  exact listTo_len _ _
end Go.Proofs.YtkiikblpgppmkaaGreatDoor

namespace Go.Proofs.YtkiikblpgppmkaaGreatDoor
open Go Go.RowKit
set_option linter.unusedVariables false
set_option linter.unusedSimpArgs false

set_option maxHeartbeats 1000000 in
theorem join_none (lb : Nat) (w : World) : Calls Tryz.prog 256 #[.int .i64 3, .slice (some ⟨lb, 0, none⟩) 0 64] w (fun e w' => e = .returned (.int .u64 0) ∧ w = w') := by
  go_enter Tryz.func256, Tryz.ntmps256
  go_wp2_with fail
  refine wp_loop_rounds 1 ?_
  rw [rounds_succ]
  go_wp2_with fail
  go_ret
  exact ⟨rfl, rfl⟩
theorem xor_max0 : bits .xor .u64 IntKind.u64.max 0 = 18446744073709551615 := by decide
theorem and_full {a : Nat} (ha : a < 2 ^ 64) : bits .and .u64 18446744073709551615 (a : Int) = (a : Int) := by
  have h := bits_and 18446744073709551615 a (by decide) ha
  rw [show (18446744073709551615 : Nat) &&& a = a by
    apply Nat.eq_of_testBit_eq
    intro i
    rw [Nat.testBit_and, show (18446744073709551615 : Nat) = 2 ^ 64 - 1 by decide, Nat.testBit_two_pow_sub_one]
    by_cases h : i < 64
    · simp [h]
    · rw [Nat.testBit_lt_two_pow (Nat.lt_of_lt_of_le ha (Nat.pow_le_pow_right (by decide) (by omega)))]
      simp [h]] at h
  exact h
theorem and_full' {a : Nat} (ha : a < 2 ^ 64) : bits .and .u64 (a : Int) 18446744073709551615 = (a : Int) := by
  have h := bits_and a 18446744073709551615 ha (by decide)
  rw [Nat.and_comm] at h
  have h2 := bits_and 18446744073709551615 a (by decide) ha
  exact h.trans (h2.symm.trans (and_full ha))
theorem and_lt {a b : Nat} (ha : a < 2 ^ 64) : a &&& b < 2 ^ 64 := Nat.lt_of_le_of_lt Nat.and_le_left ha
set_option maxHeartbeats 1000000 in
theorem join_and (lb a b : Nat) (ha : a < 2 ^ 64) (hb : b < 2 ^ 64) (w : World) (h0 : w.cell? ⟨lb, 0, none⟩ = some (.int .u64 (a : Nat))) (h1 : w.cell? ⟨lb, 1, none⟩ = some (.int .u64 (b : Nat))) (h2 : w.cell? ⟨lb, 2, none⟩ = some (.int .u64 18446744073709551615)) :
    Calls Tryz.prog 256 #[.int .i64 2, .slice (some ⟨lb, 0, none⟩) 3 64] w (fun e w' => e = .returned (.int .u64 ((a &&& b : Nat) : Int)) ∧ w = w') := by
  have hs : IntKind.u64.signed = false := rfl
  have e0 := xor_max0
  have e1 := and_full ha
  have e2 := bits_and a b ha hb
  have e3 := and_full' (and_lt (b := b) ha)
  obtain ⟨c, hc⟩ : ∃ c, a &&& b = c := ⟨_, rfl⟩
  rw [hc] at e2 e3 ⊢
  clear ha hb hc
  go_enter Tryz.func256, Tryz.ntmps256
  go_wp2_with fail
  refine wp_loop_rounds 4 ?_
  rw [rounds_succ]
  go_wp2_with fail
  rw [rounds_succ]
  go_wp2_with fail
  rw [rounds_succ]
  go_wp2_with fail
  rw [rounds_succ]
  go_wp2_with fail
  go_ret
  exact ⟨rfl, rfl⟩
end Go.Proofs.YtkiikblpgppmkaaGreatDoor
