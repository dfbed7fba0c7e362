/-
  Where a slot keeps its values: what Put, Take, Get do, of the variants null and hash; Where a slot keeps its values: what Put, Take, Get do, of the variant dense; Where a slot keeps its values: what Put, Take, Get do, of the variant sparse; Events, and the package flag: function by function; The package flag: the struct as a claim, New, Readers; The package flag: a reader joins; The package flag: how far a reader lags.
-/
import Derived.Test.YtkiikblpgppmkaaGreatDoorTlM15
import Derived.Test.YtkiikblpgppmkaaGreatDoorProg
import Derived.Test.YtkiikblpgppmkaaGreatDoorTlM02
import Derived.Deep.RegionHeld3
import Derived.Lib.AppendZerosOnto
import Derived.StillTailTactics
namespace Go.Proofs.YtkiikblpgppmkaaGreatDoor
open Go Go.RowKit
set_option linter.unusedVariables false
set_option linter.unusedSimpArgs false

theorem nulV_had {m : Nat} {f : Nat → VV} {k : Nat} (h : ∀ k, m.testBit k = true → f k = tagV) : nulV (m.testBit k) = (hadV m f k).val := by
  unfold hadV nulV
  cases e : m.testBit k
  · rfl
  · simp only [if_true]
    rw [h k e]
    rfl
theorem pl_put4 {w0 w : World} {L : List Asr} {b m : Nat} {f : Nat → VV} (H : St w0 w L) (i : Nat) (hi : L[i]? = some (plA 4 b m f)) (hm : m < 2 ^ 64) (k : Nat) (hk : k < 64) (v : VV) (hv : v = tagV) :
    Calls Tryz.prog 400 #[.agg #[ptr b], .int .i64 (k : Nat), v.val] w (fun e w' => e = .returned (.tuple #[(hadV m f k).val, .bool (m.testBit k)]) ∧ St w0 w' (L.set i (plA 4 b (addW m k) (updV f k v)))) := by
  have hil := (List.getElem?_eq_some_iff.1 hi).1
  have H1 := H.split i hi
  have hp : ∀ k, m.testBit k = true → f k = tagV := by
    obtain ⟨G, h, _⟩ := H1.get 1 rfl
    exact h
  rw [← nulV_had hp]
  refine (null_put H1 0 rfl hm k hk v).mono ?_
  rintro e w' ⟨rfl, h⟩
  refine ⟨rfl, ?_⟩
  have h2 := h.weaken 1 (B := pureA (∀ j, (addW m k).testBit j = true → updV f k v j = tagV)) rfl (fun G hG j hj => by
    unfold updV
    by_cases e : j = k
    · rw [if_pos e, hv]
    · rw [if_neg e]
      rw [bit_add] at hj
      simp [e] at hj
      exact hp j hj)
  have h3 := St.join (ps := [hibA b (addW m k), pureA (∀ j, (addW m k).testBit j = true → updV f k v j = tagV)]) (L := L.set i empA) h2 i (by rw [List.length_set]; exact hil)
  rw [List.set_set] at h3
  exact h3
theorem pl_take4 {w0 w : World} {L : List Asr} {b m : Nat} {f : Nat → VV} (H : St w0 w L) (i : Nat) (hi : L[i]? = some (plA 4 b m f)) (hm : m < 2 ^ 64) (k : Nat) (hk : k < 64) :
    Calls Tryz.prog 401 #[.agg #[ptr b], .int .i64 (k : Nat)] w (fun e w' => e = .returned (.tuple #[(hadV m f k).val, .bool (m.testBit k)]) ∧ St w0 w' (L.set i (plA 4 b (delW m k) f))) := by
  have hil := (List.getElem?_eq_some_iff.1 hi).1
  have H1 := H.split i hi
  have hp : ∀ k, m.testBit k = true → f k = tagV := by
    obtain ⟨G, h, _⟩ := H1.get 1 rfl
    exact h
  rw [← nulV_had hp]
  refine (null_take H1 0 rfl hm k hk).mono ?_
  rintro e w' ⟨rfl, h⟩
  refine ⟨rfl, ?_⟩
  have h2 := h.weaken 1 (B := pureA (∀ j, (delW m k).testBit j = true → f j = tagV)) rfl (fun G hG j hj => hp j (bit_del_le hj).1)
  have h3 := St.join (ps := [hibA b (delW m k), pureA (∀ j, (delW m k).testBit j = true → f j = tagV)]) (L := L.set i empA) h2 i (by rw [List.length_set]; exact hil)
  rw [List.set_set] at h3
  exact h3
theorem pl_get4 {w0 w : World} {L : List Asr} {b m : Nat} {f : Nat → VV} (H : St w0 w L) (i : Nat) (hi : L[i]? = some (plA 4 b m f)) (hm : m < 2 ^ 64) (k : Nat) (hk : k < 64) :
    Calls Tryz.prog 399 #[.agg #[ptr b], .int .i64 (k : Nat)] w (Ret w (.tuple #[(hadV m f k).val, .bool (m.testBit k)])) := by
  have H1 := H.split i hi
  have hp : ∀ k, m.testBit k = true → f k = tagV := by
    obtain ⟨G, h, _⟩ := H1.get 1 rfl
    exact h
  rw [← nulV_had hp]
  exact null_get b m k hk w (H1.hibRd 0 rfl hm)

theorem HashOk.had {l : List SlotV} {m : Nat} {f : Nat → VV} (h : HashOk l m f) {k : Nat} {had : Bool} {ov : Value} (hy : had = true → ∃ a b c, Has l k a b c ∧ ov = agg3 a b c) (hn : had = false → ov = zV ∧ ∀ a b c, ¬ Has l k a b c) :
    had = m.testBit k ∧ ov = (hadV m f k).val := by
  unfold hadV
  cases had
  · obtain ⟨h1, h2⟩ := hn rfl
    cases e : m.testBit k
    · exact ⟨rfl, h1⟩
    · exact absurd ((h.has k (f k).k (f k).a (f k).b).2 ⟨k, rfl, e, rfl, rfl, rfl⟩) (h2 _ _ _)
  · obtain ⟨a, b, c, h1, h2⟩ := hy rfl
    obtain ⟨k', e1, e2, e3, e4, e5⟩ := (h.has k a b c).1 h1
    obtain rfl : k = k' := by omega
    rw [e2, h2, ← e3, ← e4, ← e5]
    exact ⟨rfl, rfl⟩
theorem pow_268 {n : Nat} (h : Pow n) (hn : n ≤ 268) : n ≤ 264 := by
  rcases h.cases with rfl | rfl | rfl | rfl | rfl | rfl | rfl | rfl | rfl | rfl | rfl | rfl | rfl | rfl | rfl | rfl | rfl | rfl <;> omega
theorem pl_put3 {w0 w : World} {L : List Asr} {b m : Nat} {f : Nat → VV} (H : St w0 w L) (i : Nat) (hi : L[i]? = some (plA 3 b m f)) (hm : m < 2 ^ 64) (k : Nat) (hk : k < 64) (v : VV) :
    Calls Tryz.prog 393 #[ptr b, .int .i64 (k : Nat), v.val] w (fun e w' => e = .returned (.tuple #[(hadV m f k).val, .bool (m.testBit k)]) ∧ St w0 w' (L.set i (plA 3 b (addW m k) (updV f k v)))) := by
  have hil := (List.getElem?_eq_some_iff.1 hi).1
  obtain ⟨l, H1⟩ := H.exSplit i hi
  have hp : HashOk l m f := by
    obtain ⟨G, h, _⟩ := H1.get 1 rfl
    exact h
  obtain ⟨l', had, ov, ho, hc⟩ := hash_put_any H1 0 rfl hp.inv (by decide) k (by omega) (by omega) v.k v.a v.b
  obtain ⟨e1, e2⟩ := hp.had ho.yes ho.no
  subst e1
  subst e2
  have hcn : cntK 1 l' = pop (addW m k) := by
    rw [ho.cnt, hp.cnt]
    cases e : m.testBit k
    · rw [pop_add hk e]; rfl
    · rw [addW_has hm e hk]; rfl
  have hok : HashOk l' (addW m k) (updV f k v) := by
    refine ⟨⟨ho.inv.tab, ho.inv.pow, pow_268 ho.inv.pow ho.inv.len, by rw [hcn]; exact pop_le _⟩, hcn, fun j a b c => ?_⟩
    rw [ho.has, hp.has]
    unfold updV
    constructor
    · rintro (⟨rfl, rfl, rfl, rfl⟩ | ⟨hj, k', rfl, h2, rfl, rfl, rfl⟩)
      · exact ⟨k, rfl, by rw [bit_add]; simp, by simp⟩
      · have hne : k' ≠ k := fun e => hj (by omega)
        exact ⟨k', rfl, by rw [bit_add, h2]; rfl, by rw [if_neg hne], by rw [if_neg hne], by rw [if_neg hne]⟩
    · rintro ⟨k', rfl, h2, h3, h4, h5⟩
      by_cases e : k' = k
      · rw [if_pos e] at h3 h4 h5
        exact .inl ⟨by omega, h3.symm, h4.symm, h5.symm⟩
      · rw [if_neg e] at h3 h4 h5
        rw [bit_add] at h2
        simp [e] at h2
        exact .inr ⟨by omega, k', rfl, h2, h3, h4, h5⟩
  refine hc.mono ?_
  rintro e w' ⟨rfl, h⟩
  refine ⟨rfl, ?_⟩
  have h2 := h.weaken 1 (B := pureA (HashOk l' (addW m k) (updV f k v))) rfl (fun G hG => hok)
  exact St.exJoin (fun l => [hashA b l, pureA (HashOk l (addW m k) (updV f k v))]) l' i hil h2
theorem pl_take3 {w0 w : World} {L : List Asr} {b m : Nat} {f : Nat → VV} (H : St w0 w L) (i : Nat) (hi : L[i]? = some (plA 3 b m f)) (hm : m < 2 ^ 64) (k : Nat) (hk : k < 64) :
    Calls Tryz.prog 394 #[ptr b, .int .i64 (k : Nat)] w (fun e w' => e = .returned (.tuple #[(hadV m f k).val, .bool (m.testBit k)]) ∧ St w0 w' (L.set i (plA 3 b (delW m k) f))) := by
  have hil := (List.getElem?_eq_some_iff.1 hi).1
  obtain ⟨l, H1⟩ := H.exSplit i hi
  have hp : HashOk l m f := by
    obtain ⟨G, h, _⟩ := H1.get 1 rfl
    exact h
  obtain ⟨l', had, ov, ho, hc⟩ := hash_take_any H1 0 rfl hp.inv (by decide) k (by omega) (by omega)
  obtain ⟨e1, e2⟩ := hp.had ho.yes ho.no
  subst e1
  subst e2
  have hok : HashOk l' (delW m k) f := by
    refine ⟨ho.inv, ?_, fun j a b c => ?_⟩
    · have h1 := ho.cnt
      rw [hp.cnt] at h1
      cases e : m.testBit k
      · rw [e] at h1
        rw [delW_no hm e]
        simpa using h1
      · rw [e, pop_del hk e] at h1
        simp at h1
        exact h1
    · rw [ho.has, hp.has]
      constructor
      · rintro ⟨hj, k', rfl, h2, h3⟩
        have hlt : k' < 64 := by
          apply Nat.lt_of_not_le
          intro hle
          rw [testBit_ge hm hle] at h2
          cases h2
        exact ⟨k', rfl, by rw [bit_del m k hlt, h2]; simp; omega, h3⟩
      · rintro ⟨k', rfl, h2, h3⟩
        obtain ⟨h4, h5⟩ := bit_del_le h2
        exact ⟨by omega, k', rfl, h4, h3⟩
  refine hc.mono ?_
  rintro e w' ⟨rfl, h⟩
  refine ⟨rfl, ?_⟩
  have h2 := h.weaken 1 (B := pureA (HashOk l' (delW m k) f)) rfl (fun G hG => hok)
  exact St.exJoin (fun l => [hashA b l, pureA (HashOk l (delW m k) f)]) l' i hil h2
theorem pl_get3 {w0 w : World} {L : List Asr} {b m : Nat} {f : Nat → VV} (H : St w0 w L) (i : Nat) (hi : L[i]? = some (plA 3 b m f)) (hm : m < 2 ^ 64) (k : Nat) (hk : k < 64) :
    Calls Tryz.prog 391 #[ptr b, .int .i64 (k : Nat)] w (Ret w (.tuple #[(hadV m f k).val, .bool (m.testBit k)])) := by
  obtain ⟨l, H1⟩ := H.exSplit i hi
  have hp : HashOk l m f := by
    obtain ⟨G, h, _⟩ := H1.get 1 rfl
    exact h
  obtain ⟨had, ov, hy, hn, hc⟩ := hash_get_any H1 0 rfl hp.inv k (by omega) (by omega)
  obtain ⟨e1, e2⟩ := hp.had hy hn
  subst e1
  subst e2
  exact hc
/-- A new place, empty. -/
theorem pl_new3 {w0 w : World} {L : List Asr} (H : St w0 w L) (f : Nat → VV) : Calls Tryz.prog 286 #[] w (fun e w' => ∃ b, e = .returned (.pointer (some ⟨b, 0, none⟩)) ∧ St w0 w' (L ++ [plA 3 b 0 f])) := by
  refine (hash_new H).mono ?_
  rintro e w' ⟨b, rfl, h⟩
  refine ⟨b, rfl, ?_⟩
  have hok : HashOk tab0 0 f := by
    refine ⟨⟨tab0_ok.1, Pow.eight, by decide, by rw [tab0_ok.2.1]; decide⟩, by rw [tab0_ok.2.1, pop_zero], fun j a b c => ?_⟩
    constructor
    · intro h; exact absurd h (tab0_ok.2.2.2 j a b c)
    · rintro ⟨k, _, h, _⟩
      simp at h
  have h1 : St w0 w' ([hashA b tab0] ++ L) := h.first
  have h2 : St w0 w' ([hashA b tab0, pureA (HashOk tab0 0 f)] ++ L) := by
    have h3 := (h1.add (Keep.refl _ _) (A := pureA (HashOk tab0 0 f)) hok).first
    exact St.sel (P := [_, _]) (R := L) [1, 0] h3 (by decide) rfl rfl
  exact St.pack (fun l => [hashA b l, pureA (HashOk l 0 f)]) tab0 h2
theorem pl_new4 {w0 w : World} {L : List Asr} {b : Nat} (f : Nat → VV) (h : St w0 w (L ++ [hibA b 0])) : St w0 w (L ++ [plA 4 b 0 f]) := by
  have h1 : St w0 w ([hibA b 0] ++ L) := h.first
  have h2 : St w0 w ([hibA b 0, pureA (∀ k, (0 : Nat).testBit k = true → f k = tagV)] ++ L) := by
    have h3 := (h1.add (Keep.refl _ _) (A := pureA (∀ k, (0 : Nat).testBit k = true → f k = tagV)) (fun k hk => by simp at hk)).first
    exact St.sel (P := [_, _]) (R := L) [1, 0] h3 (by decide) rfl rfl
  have h4 := St.pack (fun _ : Unit => [hibA b 0, pureA (∀ k, (0 : Nat).testBit k = true → f k = tagV)]) () h2
  have h5 := h4.weaken L.length (B := plA 4 b 0 f) (snoc_get _ _ _ rfl) (fun G hG => hG.elim fun _ h => h)
  rw [List.set_append_right _ _ (Nat.le_refl _), Nat.sub_self] at h5
  exact h5
end Go.Proofs.YtkiikblpgppmkaaGreatDoor

namespace Go.Proofs.YtkiikblpgppmkaaGreatDoor
open Go Go.RowKit
set_option linter.unusedVariables false
set_option linter.unusedSimpArgs false

theorem pl_open1 {w0 w : World} {L : List Asr} {b m : Nat} {f : Nat → VV} (H : St w0 w L) (i : Nat) (hi : L[i]? = some (plA 1 b m f)) : ∃ l D q, DenOk l D m f ∧ St w0 w (denL b l D q ++ (pureA (DenOk l D m f) :: L.set i empA)) := by
  obtain ⟨x, H1⟩ := St.exSplit (f := denF b m f) H i hi
  have hp : DenOk x.1 x.2.1 m f := by
    obtain ⟨G, h, _⟩ := H1.get 3 rfl
    exact h
  exact ⟨x.1, x.2.1, x.2.2, hp, H1⟩
theorem pl_shut1 {w0 w : World} {L : List Asr} {b m : Nat} {f : Nat → VV} {P : Prop} (i : Nat) (hi : i < L.length) {l : List RowV} {D : MapD} {q : DenB} (hD : DenOk l D m f) (H : St w0 w (denL b l D q ++ (pureA P :: L.set i empA))) : St w0 w (L.set i (plA 1 b m f)) := by
  have h2 := H.weaken 3 (B := pureA (DenOk l D m f)) rfl (fun G hG => hD)
  exact St.exJoin (denF b m f) (l, D, q) i hi h2
theorem pl_put1 {w0 w : World} {L : List Asr} {b m : Nat} {f : Nat → VV} (H : St w0 w L) (i : Nat) (hi : L[i]? = some (plA 1 b m f)) (hm : m < 2 ^ 64) (k : Nat) (hk : k < 64) (v : VV) :
    Calls Tryz.prog 385 #[ptr b, .int .i64 (k : Nat), v.val] w (fun e w' => e = .returned (.tuple #[(hadV m f k).val, .bool (m.testBit k)]) ∧ St w0 w' (L.set i (plA 1 b (addW m k) (updV f k v)))) := by
  have hil := (List.getElem?_eq_some_iff.1 hi).1
  obtain ⟨l, D, q, hD, H1⟩ := pl_open1 H i hi
  cases hb : m.testBit k with
  | true =>
    refine (den_put1 H1 hD hm k hk v hb).mono ?_
    rintro e w' ⟨rfl, l', D', q', hD', h⟩
    refine ⟨by unfold hadV; rw [hb, if_pos rfl], pl_shut1 i hil hD' h⟩
  | false =>
    refine (den_put2 H1 hD hm k hk v hb).mono ?_
    rintro e w' ⟨rfl, l', D', q', hD', h⟩
    refine ⟨by unfold hadV; rw [hb]; rfl, pl_shut1 i hil hD' h⟩
theorem pl_take1 {w0 w : World} {L : List Asr} {b m : Nat} {f : Nat → VV} (H : St w0 w L) (i : Nat) (hi : L[i]? = some (plA 1 b m f)) (hm : m < 2 ^ 64) (k : Nat) (hk : k < 64) :
    Calls Tryz.prog 386 #[ptr b, .int .i64 (k : Nat)] w (fun e w' => e = .returned (.tuple #[(hadV m f k).val, .bool (m.testBit k)]) ∧ St w0 w' (L.set i (plA 1 b (delW m k) f))) := by
  have hil := (List.getElem?_eq_some_iff.1 hi).1
  obtain ⟨l, D, q, hD, H1⟩ := pl_open1 H i hi
  cases hb : m.testBit k with
  | true =>
    refine (den_take1 H1 hD hm k hk hb).mono ?_
    rintro e w' ⟨rfl, l', D', q', hD', h⟩
    refine ⟨by unfold hadV; rw [hb, if_pos rfl], pl_shut1 i hil hD' h⟩
  | false =>
    refine (den_take0 H1 hD k hk hb).mono ?_
    rintro e w' ⟨rfl, hk1⟩
    refine ⟨by unfold hadV; rw [hb]; rfl, ?_⟩
    rw [delW_no hm hb]
    exact pl_shut1 i hil hD (H1.keep hk1)
theorem pl_get1 {w0 w : World} {L : List Asr} {b m : Nat} {f : Nat → VV} (H : St w0 w L) (i : Nat) (hi : L[i]? = some (plA 1 b m f)) (k : Nat) (hk : k < 64) :
    Calls Tryz.prog 383 #[ptr b, .int .i64 (k : Nat)] w (Ret w (.tuple #[(hadV m f k).val, .bool (m.testBit k)])) := by
  obtain ⟨l, D, q, hD, H1⟩ := pl_open1 H i hi
  exact den_get H1 hD k hk
set_option maxHeartbeats 1000000 in
theorem pl_new1 {w0 w : World} {L : List Asr} (H : St w0 w L) (f : Nat → VV) : Calls Tryz.prog 284 #[] w (fun e w' => ∃ b, e = .returned (.pointer (some ⟨b, 0, none⟩)) ∧ St w0 w' (L ++ [plA 1 b 0 f])) := by
  have h1 := (mapA_new H).box0 #[.slice none 0 0, .map (some w.heap.size)] 433
  have h2 := (h1.add (Keep.refl _ _) (A := slA 501 4 (.slice none 0 0) 0 []) (Own.nil _ _ _ _)).first
  have h3 := (h2.add (Keep.refl _ _) (A := pureA (DenOk [] (.map []) 0 f)) (DenOk.start f)).first
  have h4 : St w0 _ ([blkA (w.alloc (.map #[] 0)).heap.size #[.slice none 0 0, .map (some w.heap.size)] 433, slA 501 4 (.slice none 0 0) 0 [], mapA w.heap.size (.map []), pureA (DenOk [] (.map []) 0 f)] ++ L) := St.sel (P := [_, _, _, _]) (R := L) [2, 1, 3, 0] h3 (by decide) rfl rfl
  have h5 := St.pack (denF (w.alloc (.map #[] 0)).heap.size 0 f) ([], .map [], ⟨w.heap.size, none, 0⟩) h4
  rw [World.size_alloc] at h5
  have H5 := Lib.hid h5
  have hmm := @run_makeMap Tryz.prog
  clear h1 h2 h3 h4 h5 H
  go_enter Tryz.func284, Tryz.ntmps284
  go_wp2_with fail
  go_ret
  exact ⟨_, rfl, H5.out⟩
end Go.Proofs.YtkiikblpgppmkaaGreatDoor

namespace Go.Proofs.YtkiikblpgppmkaaGreatDoor
open Go Go.RowKit
set_option linter.unusedVariables false
set_option linter.unusedSimpArgs false

theorem pl_open2 {w0 w : World} {L : List Asr} {b m : Nat} {f : Nat → VV} (H : St w0 w L) (i : Nat) (hi : L[i]? = some (plA 2 b m f)) : ∃ l q, SpaOk l m f ∧ St w0 w (spaL b l m q ++ (pureA (SpaOk l m f) :: L.set i empA)) := by
  obtain ⟨x, H1⟩ := St.exSplit (f := spaF b m f) H i hi
  have hp : SpaOk x.1 m f := by
    obtain ⟨G, h, _⟩ := H1.get 3 rfl
    exact h
  exact ⟨x.1, x.2, hp, H1⟩
theorem pl_shut2 {w0 w : World} {L : List Asr} {b m : Nat} {f : Nat → VV} {P : Prop} (i : Nat) (hi : i < L.length) {l : List VV} {q : SpaB} (hD : SpaOk l m f) (H : St w0 w (spaL b l m q ++ (pureA P :: L.set i empA))) : St w0 w (L.set i (plA 2 b m f)) := by
  have h2 := H.weaken 3 (B := pureA (SpaOk l m f)) rfl (fun G hG => hD)
  exact St.exJoin (spaF b m f) (l, q) i hi h2
theorem pl_put2 {w0 w : World} {L : List Asr} {b m : Nat} {f : Nat → VV} (H : St w0 w L) (i : Nat) (hi : L[i]? = some (plA 2 b m f)) (hm : m < 2 ^ 64) (k : Nat) (hk : k < 64) (v : VV) :
    Calls Tryz.prog 388 #[ptr b, .int .i64 (k : Nat), v.val] w (fun e w' => e = .returned (.tuple #[(hadV m f k).val, .bool (m.testBit k)]) ∧ St w0 w' (L.set i (plA 2 b (addW m k) (updV f k v)))) := by
  have hil := (List.getElem?_eq_some_iff.1 hi).1
  obtain ⟨l, q, hD, H1⟩ := pl_open2 H i hi
  refine (spa_put H1 hD hm k hk v).mono ?_
  rintro e w' ⟨rfl, l', q', hD', h⟩
  exact ⟨rfl, pl_shut2 i hil hD' h⟩
theorem pl_take2 {w0 w : World} {L : List Asr} {b m : Nat} {f : Nat → VV} (H : St w0 w L) (i : Nat) (hi : L[i]? = some (plA 2 b m f)) (hm : m < 2 ^ 64) (k : Nat) (hk : k < 64) :
    Calls Tryz.prog 389 #[ptr b, .int .i64 (k : Nat)] w (fun e w' => e = .returned (.tuple #[(hadV m f k).val, .bool (m.testBit k)]) ∧ St w0 w' (L.set i (plA 2 b (delW m k) f))) := by
  have hil := (List.getElem?_eq_some_iff.1 hi).1
  obtain ⟨l, q, hD, H1⟩ := pl_open2 H i hi
  refine (spa_take H1 hD hm k hk).mono ?_
  rintro e w' ⟨rfl, l', q', hD', h⟩
  exact ⟨rfl, pl_shut2 i hil hD' h⟩
theorem pl_get2 {w0 w : World} {L : List Asr} {b m : Nat} {f : Nat → VV} (H : St w0 w L) (i : Nat) (hi : L[i]? = some (plA 2 b m f)) (hm : m < 2 ^ 64) (k : Nat) (hk : k < 64) :
    Calls Tryz.prog 387 #[ptr b, .int .i64 (k : Nat)] w (Ret w (.tuple #[(hadV m f k).val, .bool (m.testBit k)])) := by
  obtain ⟨l, q, hD, H1⟩ := pl_open2 H i hi
  exact spa_get H1 hD hm k hk
theorem pl_new2 {w0 w : World} {L : List Asr} (H : St w0 w L) (f : Nat → VV) : Calls Tryz.prog 285 #[] w (fun e w' => ∃ b, e = .returned (.pointer (some ⟨b, 0, none⟩)) ∧ St w0 w' (L ++ [plA 2 b 0 f])) := by
  refine (spa_new H).mono ?_
  rintro e w' ⟨b, q, rfl, h⟩
  have h3 := (h.add (Keep.refl _ _) (A := pureA (SpaOk [] 0 f)) (SpaOk.start f)).first
  have h4 : St w0 w' ((spaL b [] 0 q ++ [pureA (SpaOk [] 0 f)]) ++ L) := St.sel (P := [_, _, _, _]) (R := L) [1, 2, 3, 0] h3 (by decide) rfl rfl
  exact ⟨b, rfl, St.pack (spaF b 0 f) ([], q) h4⟩
end Go.Proofs.YtkiikblpgppmkaaGreatDoor

namespace Go.Proofs.YtkiikblpgppmkaaGreatDoor
open Go Go.RowKit
set_option linter.unusedVariables false
set_option linter.unusedSimpArgs false


/-- An event. -/
structure EvV where
  kind : Int
  idx : Int
deriving DecidableEq
def EvV.cells (o : EvV) : List Value := [.int .i64 o.kind, .int .i64 o.idx]
def EvV.val (o : EvV) : Value := .agg #[.int .i64 o.kind, .int .i64 o.idx]
def flatEv (l : List EvV) : List Value := l.flatMap EvV.cells
theorem flatEv_len (l : List EvV) : (flatEv l).length = l.length * 2 := flat_length EvV.cells 2 (fun _ => rfl) l
theorem flatEv_app (a b : List EvV) : flatEv (a ++ b) = flatEv a ++ flatEv b := by simp [flatEv]
theorem flatEv_one (l : List EvV) : ∀ u ∈ flatEv l, u.oneCell' = true := by
  intro u hu
  obtain ⟨o, _, ho⟩ := List.mem_flatMap.1 hu
  simp [EvV.cells] at ho
  rcases ho with rfl | rfl <;> rfl
theorem slEv : SlTy Tryz.prog 46 86 2 16 := SlTy.mk' (.agg #[.int .i64 0, .int .i64 0]) Tryz.underlying46 (by kernel_rfl) rfl (by decide)

/-- Whether an event may not be. -/
def badEv (o : EvV) : Bool := decide (o.kind < 1) || (decide (3 < o.kind) || decide (o.idx < 0))

set_option maxHeartbeats 400000 in
theorem flag_bad (o : EvV) (w : World) : Calls Tryz.prog 277 #[o.val] w (Ret w (.bool (badEv o))) := by
  obtain ⟨k, i⟩ := o
  simp only [EvV.val]
  by_cases h1 : k < 1
  · have e : badEv ⟨k, i⟩ = true := by simp [badEv, h1]
    rw [e]; clear e
    go_enter Tryz.func277, Tryz.ntmps277
    go_wp2_with fail
    go_ret
    exact ⟨rfl, (Keep.refl _ _).alloc _⟩
  · by_cases h2 : 3 < k
    · have e : badEv ⟨k, i⟩ = true := by simp [badEv, h2]
      rw [e]; clear e
      go_enter Tryz.func277, Tryz.ntmps277
      go_wp2_with fail
      go_ret
      exact ⟨rfl, (Keep.refl _ _).alloc _⟩
    · have e : badEv ⟨k, i⟩ = decide (i < 0) := by simp [badEv, h1, h2]
      rw [e]; clear e
      go_enter Tryz.func277, Tryz.ntmps277
      go_wp2_with fail
      go_ret
      exact ⟨rfl, (Keep.refl _ _).alloc _⟩

def RetIxE (w : World) (l : List EvV) (en : Ending) (w' : World) : Prop := ∃ i : Int, en = .returned (.int .i64 i) ∧ ((0 ≤ i) = (l.any badEv = true)) ∧ Keep w w' Nope
def LoopIxE (w : World) (l : List EvV) (g : Nat) (v8 : Value) (wr : World) : Prop :=
  ∃ k : Nat, g + k = l.length ∧ v8 = .int .i64 k ∧ (∀ j o, j < k → l[j]? = some o → badEv o = false) ∧ Keep w wr Nope

set_option maxHeartbeats 1000000 in
theorem index_ev (v : Value) (l : List EvV) (w : World) (S : Nat → Prop) (h : Rd S w v l.length (flatEv l)) :
    Calls Tryz.prog 297 #[v, .func (.func 277) #[] #[]] w (RetIxE w l) := by
  obtain ⟨a, c, rfl, h1, h2, h3, h4⟩ := id h
  have hlen : l.length ≤ 9223372036854775807 := by unfold maxLen at h2; omega
  clear h1 h2 h3 h4
  have H := Lib.hid h; clear h
  go_enter Tryz.func297, Tryz.ntmps297
  go_wp2_with fail
  go_loopg [8] l.length (fun g v8 wr => LoopIxE w l g v8 wr)
  case atStart => exact ⟨0, rfl, rfl, fun j o h => by omega, Keep.refl _ _⟩
  case round =>
    obtain ⟨k, hk, rfl, hall, hkeep⟩ := hrel
    have hkl : k ≤ l.length := by omega
    have HK := Lib.hid hk; clear hk
    have HA := Lib.hid hall; clear hall
    have HP := Lib.hid hkeep; clear hkeep
    by_cases hlt : k < l.length
    · obtain ⟨o, ho⟩ : ∃ o, l[k]? = some o := ⟨_, List.getElem?_eq_getElem hlt⟩
      obtain ⟨bo, oo, rfl, hbo, hco⟩ := (H.out.keep HP.out (fun _ _ f => f)).elem (cells := EvV.cells) (size := 2) (fun _ => rfl) (by decide) ho
      have HO := Lib.hid ho; clear ho
      have HC := Lib.hid (flag_bad o)
      obtain ⟨ok, hok⟩ : ∃ ok, badEv o = ok := ⟨_, rfl⟩
      rw [hok] at HC
      have HOK := Lib.hid hok; clear hok
      obtain ⟨kind, idx⟩ := o
      have hc0 := hco 0 (by decide)
      have hc1 := hco 1 (by decide)
      simp [EvV.cells] at hc0 hc1
      clear hco
      simp only [EvV.val] at HC
      cases ok
      · go_wp2_with fail
        refine (HC.out _).mono ?_
        rintro e w1 ⟨rfl, hk1⟩
        have HK1 := Lib.hid hk1; clear hk1
        go_wp2_with fail
        go_roundg (l.length - (k + 1))
        case measure => have := HK.out; omega
        case rel =>
          refine ⟨k + 1, by omega, by go_num, fun j o' hj ho' => ?_, HP.out.trans HK1.out (fun _ f => f.elim)⟩
          by_cases e : j = k
          · subst e
            rw [HO.out] at ho'
            cases ho'
            exact HOK.out
          · exact HA.out j o' (by omega) ho'
      · go_wp2_with fail
        refine (HC.out _).mono ?_
        rintro e w1 ⟨rfl, hk1⟩
        have HK1 := Lib.hid hk1; clear hk1
        go_wp2_with fail
        go_ret
        refine ⟨k, rfl, ?_, HP.out.trans HK1.out (fun _ f => f.elim)⟩
        have : l.any badEv = true := List.any_eq_true.2 ⟨_, List.mem_of_getElem? HO.out, HOK.out⟩
        rw [this]
        simp
    · go_wp2_with fail
      go_ret
      refine ⟨-1, rfl, ?_, HP.out⟩
      have : l.any badEv = false := by
        rw [List.any_eq_false]
        intro o ho
        obtain ⟨j, hj, rfl⟩ := List.getElem_of_mem ho
        simp [HA.out j _ (by omega) (List.getElem?_eq_getElem hj)]
      rw [this]
      simp

set_option maxHeartbeats 400000 in
theorem contains_ev (v : Value) (l : List EvV) (w : World) (S : Nat → Prop) (h : Rd S w v l.length (flatEv l)) :
    Calls Tryz.prog 276 #[v, .func (.func 277) #[] #[]] w (Ret w (.bool (l.any badEv))) := by
  have H := Lib.hid h; clear h
  obtain ⟨b, hb⟩ : ∃ b, l.any badEv = b := ⟨_, rfl⟩
  rw [hb]
  have HB := Lib.hid hb; clear hb
  go_enter Tryz.func276, Tryz.ntmps276
  go_wp2_with fail
  refine (index_ev v l _ S H.out).mono ?_
  rintro e w1 ⟨i, rfl, hi, hk⟩
  have HI := Lib.hid hi; clear hi
  have HK := Lib.hid hk; clear hk
  cases b
  · have hi : i < 0 := by
      have := HI.out
      rw [HB.out] at this
      simp at this
      exact this
    have hd : decide (0 ≤ i) = false := decide_eq_false (by omega)
    go_wp2_with fail
    go_ret
    exact ⟨rfl, HK.out⟩
  · have hi : 0 ≤ i := by
      have := HI.out
      rw [HB.out] at this
      simpa using this
    go_wp2_with fail
    go_ret
    exact ⟨rfl, HK.out⟩

set_option maxHeartbeats 400000 in
theorem clone_ev (v : Value) (n : Nat) (xs : List Value) (w : World) (S : Nat → Prop) (h : Rd S w v n xs) (hl : xs.length = n * 2) (hone : ∀ u ∈ xs, u.oneCell' = true) (hb : n * 16 ≤ 140737488355328) :
    Calls Tryz.prog 126 #[v] w (RetOwn w 86 2 xs) := by
  have hmx : 0 + n ≤ maxLen := by unfold maxLen; omega
  have hbb : (0 + n) * 16 ≤ 140737488355328 := by omega
  obtain ⟨a, c, rfl, h1, h2, h3, h4⟩ := id h
  have hnil := fun w' => Lib.run_eql_slice_nil (P := Tryz.prog) w' 46 86 a n c 0 0 Tryz.underlying46
  clear h1 h2 h4
  cases a with
  | none =>
    obtain ⟨hn, hc⟩ := h3 rfl
    clear h3
    subst hn
    subst hc
    have hx : xs = [] := List.eq_nil_of_length_eq_zero (by simpa using hl)
    subst hx
    clear hl hone hb hmx hbb
    simp only [Option.isNone_none] at hnil
    go_enter Tryz.func126, Tryz.ntmps126
    go_wp2_with fail
    go_ret
    exact ⟨_, _, _, rfl, Own.nil _ _ _ _, Keep.refl _ _⟩
  | some ad =>
    clear h3
    simp only [Option.isNone_some] at hnil
    have HL := Lib.hid hl; clear hl
    have HO := Lib.hid hone; clear hone
    go_enter Tryz.func126, Tryz.ntmps126
    go_wp2_with (at_builtin; refine wpList_app (P := Tryz.prog) slEv rfl _ _ rfl (S := fun i => w.heap.size ≤ i) (S2 := S) (n := 0) (xs := []) (m := n) (news := xs) rfl rfl ?hown ?hx ?hl ?h1 hbb hmx ?_)
    case hown => exact Own.lit w _ 2 0 #[] (Nat.zero_le _) rfl (Nat.le_refl _)
    case hx => exact h.alloc _
    case hl => exact HL.out
    case h1 => exact HO.out
    rintro a' k c' w1 ⟨ho, _, hk1, _⟩
    clear hnil h hbb hmx hb
    have HO1 := Lib.hid ho; clear ho
    have HK := Lib.hid hk1; clear hk1
    go_wp2_with fail
    go_ret
    exact ⟨_, _, _, rfl, (HO1.out.mono (fun i h => h.elim id (fun h => by have := h.1; simp at this; omega))).new, (Keep.alloc (Keep.refl w Nope) _).trans HK.out (fun i h => .inr h)⟩


/-- Room for n events, none there yet. -/
def RetGrow (w : World) (n : Nat) (en : Ending) (w' : World) : Prop :=
  ∃ a c, en = .returned (.slice a 0 c) ∧ Own (New w w') w' 86 2 (.slice a 0 c) 0 [] ∧ Keep w w' Nope

set_option maxHeartbeats 1000000 in
theorem grow_ev (n : Nat) (hn : n ≤ 1000000) (w : World) :
    Calls Tryz.prog 298 #[.slice none 0 0, .int .i64 n] w (RetGrow w n) := by
  by_cases h0 : n = 0
  · subst h0
    go_enter Tryz.func298, Tryz.ntmps298
    go_wp2_with fail
    go_ret
    exact ⟨none, 0, rfl, Own.nil _ _ _ _, Keep.refl _ _⟩
  · have h1 : 0 < n := by omega
    have hi : (Tryz.prog.info? 86).map (fun i => (i.zero, i.size, i.bytes)) = some (some (.agg #[.int .i64 0, .int .i64 0]), 2, 16) := by kernel_rfl
    obtain ⟨i, e1, e2, e3, e4⟩ := info_parts hi
    have hr := fun ty => Lib.run_append_nil_zeros (P := Tryz.prog) w 46 3 ty 86 i (.agg #[.int .i64 0, .int .i64 0]) .i64 .i64 Tryz.underlying46 Tryz.underlying3 e1 e2 n h1 (by rw [e3]; decide) (by omega) (by rw [e4]; omega)
    have hge := grownCap_ge w n 0 86
    have hcm := grownCap_le_maxLen w n 0 86 (by unfold maxLen; omega)
    obtain ⟨C, hC⟩ : ∃ C, C = grownCap w n 0 86 := ⟨_, rfl⟩
    obtain ⟨cs, hcs⟩ : ∃ cs : Array Value, cs = Builtin.zeroCells (Value.agg #[.int .i64 0, .int .i64 0]).cells n ++ Builtin.zeroCells (Value.agg #[.int .i64 0, .int .i64 0]).cells (C - n) := ⟨_, rfl⟩
    rw [← hC] at hr hge hcm
    have HCZ := Lib.hid (show cs.size = C * 2 by
      rw [hcs]
      simp [size_zeroCells, Value.cells]
      omega)
    rw [← hcs] at hr
    have HR := Lib.hid hr; clear hr hcs hC
    unfold maxLen at hcm
    clear hi e1 e2 e3 e4 h0
    go_enter Tryz.func298, Tryz.ntmps298
    go_wp2_with (at_builtin; refine Lib.wpList_append_run _ rfl _ _ _ _ rfl _ _ rfl rfl _ _ (HR.out _) ?_)
    go_ret
    refine ⟨_, _, rfl, ⟨⟨by simp, .inr ⟨w.heap.size, C, cs, rfl, Nat.zero_le _, heap_alloc_new w.drew _, Nat.zero_le _, hcm, HCZ.out, by simp⟩⟩, fun g hg => ?_⟩, (Keep.refl w Nope).drew.alloc _⟩
    have e : g = w.heap.size := by simp [Value.ownBlock] at hg; exact hg.symm
    subst e
    exact ⟨Nat.le_refl _, by simp⟩

/-- The list of slices that Concat is given, one behind the other. -/
structure RowE where
  a : Option Addr
  c : Nat
  l : List EvV
def RowE.v (r : RowE) : Value := .slice r.a r.l.length r.c
def catE (rs : List RowE) : List EvV := rs.flatMap (fun r => r.l)
def LoopC1 (w : World) (rs : List RowE) (g : Nat) (v3 v11 : Value) (wr : World) : Prop :=
  ∃ k : Nat, g + k = rs.length ∧ v11 = .int .i64 k ∧ v3 = .int .i64 (catE (rs.take k)).length ∧ w = wr
def LoopC2 (w : World) (rs : List RowE) (g : Nat) (v6 v27 : Value) (wr : World) : Prop :=
  ∃ (k n : Nat) (a : Option Addr) (c : Nat), g + k = rs.length ∧ v27 = .int .i64 k ∧ v6 = .slice a n c ∧ n = (catE (rs.take k)).length ∧ Own (New w wr) wr 86 2 (.slice a n c) n (flatEv (catE (rs.take k))) ∧ Keep w wr Nope

theorem catE_snoc (rs : List RowE) (k : Nat) (r : RowE) (h : rs[k]? = some r) : catE (rs.take (k + 1)) = catE (rs.take k) ++ r.l := by
  rw [List.take_add_one, h]
  simp [catE]
theorem catE_take_le (rs : List RowE) (k : Nat) : (catE (rs.take k)).length ≤ (catE rs).length := by
  have h : catE rs = catE (rs.take k) ++ catE (rs.drop k) := by
    unfold catE
    rw [← List.flatMap_append, List.take_append_drop]
  rw [h, List.length_append]
  omega

set_option maxHeartbeats 2000000 in
theorem concat_ev (v : Value) (rs : List RowE) (w : World) (S : Nat → Prop) (h : Rd S w v rs.length (rs.map RowE.v)) (hr : ∀ r, r ∈ rs → Rd S w r.v r.l.length (flatEv r.l)) (hl : (catE rs).length ≤ 1000000) :
    Calls Tryz.prog 278 #[v] w (RetOwn w 86 2 (flatEv (catE rs))) := by
  obtain ⟨a, c, rfl, g1, g2, g3, g4⟩ := id h
  have hlen : rs.length ≤ 9223372036854775807 := by unfold maxLen at g2; omega
  clear g1 g2 g3
  have H := Lib.hid g4; clear g4 h
  have HR := Lib.hid hr; clear hr
  go_enter Tryz.func278, Tryz.ntmps278
  go_wp2_with fail
  go_loopg [3, 11] rs.length (fun g v3 v11 wr => LoopC1 w rs g v3 v11 wr)
  case atStart => exact ⟨0, rfl, rfl, rfl, rfl⟩
  case round =>
    obtain ⟨k, hk, rfl, rfl, rfl⟩ := hrel
    have hkl : k ≤ rs.length := by omega
    have HK := Lib.hid hk; clear hk
    by_cases hlt : k < rs.length
    · obtain ⟨r, hr⟩ : ∃ r, rs[k]? = some r := ⟨_, List.getElem?_eq_getElem hlt⟩
      obtain ⟨bo, oo, rfl, _, hc0⟩ := H.out k r.v (by simp [hr])
      have hsn := catE_snoc rs k r hr
      have hle := catE_take_le rs (k + 1)
      have hl1 : (catE (rs.take (k + 1))).length = (catE (rs.take k)).length + r.l.length := by rw [hsn, List.length_append]
      obtain ⟨N, hN⟩ : ∃ N, (catE (rs.take k)).length = N := ⟨_, rfl⟩
      obtain ⟨N1, hN1⟩ : ∃ N1, (catE (rs.take (k + 1))).length = N1 := ⟨_, rfl⟩
      rw [hN1] at hl1 hle
      rw [hN] at hl1 ⊢
      unfold RowE.v at hc0
      have hb1 : N + r.l.length ≤ 1000000 := by omega
      have hb2 : (N : Int) + (r.l.length : Int) = (N1 : Int) := by omega
      have hb3 : (N1 : Int) ≤ 1000000 := by omega
      have HN1 := Lib.hid hN1
      clear hsn hr hN hN1 hl1 hle
      go_wp2_with fail
      go_roundg (rs.length - (k + 1))
      case measure => have := HK.out; omega
      case rel => exact ⟨k + 1, by omega, by go_num, by rw [HN1.out], rfl⟩
    · obtain rfl : k = rs.length := by omega
      rw [List.take_length]
      clear hlt hkl HK
      obtain ⟨N, hN⟩ : ∃ N, (catE rs).length = N := ⟨_, rfl⟩
      rw [hN] at hl ⊢
      have HN := Lib.hid hN; clear hN
      go_wp2_with fail
      refine (grow_ev N hl _).mono ?_
      rintro e w1 ⟨ag, cg, rfl, ho, hk⟩
      have HO := Lib.hid ho; clear ho
      have HP := Lib.hid hk; clear hk
      obtain ⟨w2, hw2⟩ : ∃ w2, w2 = w := ⟨_, rfl⟩
      go_wp2_with fail
      go_loopg [6, 27] rs.length (fun g v6 v27 wr => LoopC2 w rs g v6 v27 wr)
      case atStart => exact ⟨0, 0, ag, cg, rfl, rfl, rfl, rfl, HO.out, HP.out⟩
      case round =>
        obtain ⟨k, n, a6, c6, hk, rfl, rfl, hn, ho, hkp⟩ := hrel
        have hkl : k ≤ rs.length := by omega
        have HK := Lib.hid hk; clear hk
        have HN6 := Lib.hid hn; clear hn
        have HO6 := Lib.hid ho; clear ho
        have HQ := Lib.hid hkp; clear hkp
        by_cases hlt : k < rs.length
        · obtain ⟨r, hr⟩ : ∃ r, rs[k]? = some r := ⟨_, List.getElem?_eq_getElem hlt⟩
          obtain ⟨bo, oo, rfl, _, hc0⟩ := H.out k r.v (by simp [hr])
          have hc1 := HQ.out.cell (p := ⟨bo, oo + k, none⟩) hc0 (fun f => f)
          clear hc0
          have HRR := Lib.hid ((HR.out r (List.mem_of_getElem? hr)).keep HQ.out (fun _ _ f => f))
          have HSN := Lib.hid (catE_snoc rs k r hr)
          have hle := catE_take_le rs (k + 1)
          have hl1 : (catE (rs.take (k + 1))).length = (catE (rs.take k)).length + r.l.length := by rw [HSN.out, List.length_append]
          have hb1 : n + r.l.length ≤ 1000000 := by have := HN6.out; have := HN.out; omega
          unfold RowE.v at hc1
          have hs := HQ.out.size
          clear hr hle hl1
          go_wp2_with (at_builtin; refine wpList_app (P := Tryz.prog) slEv rfl _ _ rfl (S := New w wr) (S2 := S) (n := n) (xs := flatEv (catE (rs.take k))) (m := r.l.length) (news := flatEv r.l) rfl rfl ?hown ?hx ?hl ?h1 ?h2 ?h3 ?_)
          case hown => exact HO6.out
          case hx => exact HRR.out
          case hl => exact flatEv_len _
          case h1 => exact flatEv_one _
          case h2 => omega
          case h3 => unfold maxLen; omega
          rintro a' k' c' w5 ⟨ho5, hnum, hk5, _⟩
          have hs5 := hk5.size
          have HO5 := Lib.hid (ho5.mono (T := New w w5) (fun x hx => hx.elim (fun hx => ⟨hx.1, by have := hx.2; omega⟩) (fun hx => ⟨by have := hx.1; omega, hx.2⟩)))
          have HP5 := Lib.hid (HQ.out.trans hk5 (fun x hx => .inr hx.1))
          have HNum := Lib.hid hnum
          clear ho5 hk5 hnum
          go_wp2_with fail
          go_roundg (rs.length - (k + 1))
          case measure => have := HK.out; omega
          case rel =>
            refine ⟨k + 1, k', a', c', by omega, by go_num, rfl, ?_, ?_, HP5.out⟩
            · rw [HNum.out, HSN.out, List.length_append, HN6.out]
            · rw [HSN.out, flatEv_app]; exact HO5.out
        · obtain rfl : k = rs.length := by omega
          have HT := Lib.hid (show catE (rs.take rs.length) = catE rs by rw [List.take_length])
          go_wp2_with fail
          go_ret
          exact ⟨_, _, _, rfl, by have := HO6.out; rw [HT.out] at this; exact this, HQ.out⟩
end Go.Proofs.YtkiikblpgppmkaaGreatDoor

namespace Go.Proofs.YtkiikblpgppmkaaGreatDoor
open Go Go.RowKit
set_option linter.unusedVariables false
set_option linter.unusedSimpArgs false

/-- A flag's worth: its bound, all that was noted, where each reader stands. -/
structure FlagV where
  bound : Nat
  all : List EvV
  pos : List Nat
def FlagV.last (F : FlagV) : List EvV := F.all.drop (F.all.length - F.bound)
def i64n (l : List Nat) : List Value := l.map (fun n : Nat => .int .i64 (n : Int))
def flagPs (b : Nat) (F : FlagV) (la : Option Addr) (lc : Nat) (ra : Option Addr) (rc : Nat) : List Asr :=
  [blkA b #[.int .i64 F.bound, .int .i64 F.all.length, .slice la F.last.length lc, .slice ra F.pos.length rc] 247,
    slA 86 2 (.slice la F.last.length lc) F.last.length (flatEv F.last), slA 2 1 (.slice ra F.pos.length rc) F.pos.length (i64n F.pos)]
def flagA (b : Nat) (F : FlagV) : Asr := exA (fun p : (Option Addr × Nat) × (Option Addr × Nat) => starA (flagPs b F p.1.1 p.1.2 p.2.1 p.2.2))
theorem St.flagSplit {w0 w : World} {L : List Asr} {b : Nat} {F : FlagV} (h : St w0 w L) (i : Nat) (hi : L[i]? = some (flagA b F)) : ∃ la lc ra rc, St w0 w (flagPs b F la lc ra rc ++ L.set i empA) := by
  obtain ⟨G, h1, _, h3, _⟩ := h.opens i hi
  obtain ⟨⟨⟨la, lc⟩, ⟨ra, rc⟩⟩, h1⟩ := h1
  have hil := (List.getElem?_eq_some_iff.1 hi).1
  have h2 := (h3 w (starA (flagPs b F la lc ra rc)) (Keep.refl _ _) ((starA _).mono h1 (fun _ hx => .inl hx))).split i (List.getElem?_set_self hil)
  rw [List.set_set] at h2
  exact ⟨la, lc, ra, rc, h2⟩
theorem St.flagJoin {w0 w : World} {L : List Asr} {b : Nat} {F : FlagV} {la ra : Option Addr} {lc rc : Nat} (i : Nat) (hi : i < L.length) (h : St w0 w (flagPs b F la lc ra rc ++ L.set i empA)) : St w0 w (L.set i (flagA b F)) := by
  have h2 := h.join i (by rw [List.length_set]; exact hi)
  rw [List.set_set] at h2
  have h3 := h2.weaken i (B := flagA b F) (List.getElem?_set_self hi) (fun G hG => ⟨((la, lc), (ra, rc)), hG⟩)
  rw [List.set_set] at h3
  exact h3

set_option maxHeartbeats 400000 in
theorem flag_new {w0 w : World} {L : List Asr} (H : St w0 w L) (n : Nat) (h1 : 1 ≤ n) (h2 : n ≤ 1000) :
    Calls Tryz.prog 259 #[.int .i64 n] w (fun e w' => ∃ b, e = .returned (.tuple #[.pointer (some ⟨b, 0, none⟩), .int .i64 0]) ∧ St w0 w' (L ++ [flagA b ⟨n, [], []⟩])) := by
  have HH := Lib.hid H; clear H
  go_enter Tryz.func259, Tryz.ntmps259
  go_wp2_with fail
  go_ret2
  refine ⟨_, rfl, ?_⟩
  refine HH.out.add (w' := w.alloc _) ((Keep.refl w Nope).alloc _) ?_
  have el : (⟨n, [], []⟩ : FlagV).last = [] := by simp [FlagV.last]
  refine ⟨((none, 0), (none, 0)), ?_⟩
  unfold flagPs
  rw [el]
  refine ⟨fun j x => j = 0 ∧ x = w.heap.size, fun j A hj => ?_, fun j x hx => ?_, fun j k x hj hk => ?_⟩
  · rcases j with _ | _ | _ | j
    · cases hj
      exact ⟨Blk.new w _ _, rfl, rfl⟩
    · cases hj
      exact Own.nil _ _ _ _
    · cases hj
      exact Own.nil _ _ _ _
    · cases hj
  · obtain ⟨_, rfl⟩ := hx
    exact ⟨Nat.le_refl _, by simp⟩
  · omega

end Go.Proofs.YtkiikblpgppmkaaGreatDoor

namespace Go.Proofs.YtkiikblpgppmkaaGreatDoor
open Go Go.RowKit
set_option linter.unusedVariables false
set_option linter.unusedSimpArgs false

theorem slI64 : SlTy Tryz.prog 25 2 1 8 := SlTy.mk' (.int .i64 0) Tryz.underlying25 (by kernel_rfl) rfl (by decide)
end Go.Proofs.YtkiikblpgppmkaaGreatDoor

namespace Go.Proofs.YtkiikblpgppmkaaGreatDoor
open Go Go.RowKit
set_option linter.unusedVariables false
set_option linter.unusedSimpArgs false

end Go.Proofs.YtkiikblpgppmkaaGreatDoor
