/-
  The package expr: add. (Printed by tools/gen_add2.py.); The package expr: New, Set, And, Or, Not; The package rows: Build's closure.
-/
import Derived.Test.YtkiikblpgppmkaaGreatDoorTlM37
namespace Go.Proofs.YtkiikblpgppmkaaGreatDoor
open Go Go.RowKit
set_option linter.unusedVariables false
set_option linter.unusedSimpArgs false

/-- The node's number is answered, the node is added, its kids are its own. -/
def RetAdd (w0 : World) (R : List Asr) (b : Nat) (ns : List NdV) (n : Nat) (ss : List Nat) (kind : Int) (kids : List Nat) (v : Value) (e : Ending) (w' : World) : Prop :=
  ∃ q' a c, e = .returned (.int .i64 (n : Nat)) ∧ (v = .slice none 0 0 → a = none ∧ c = 0) ∧ St w0 w' (slA 3 1 (.slice a kids.length c) kids.length (intsN kids) :: (arL b (ns ++ [⟨kind, a, kids.length, c⟩]) ss q' ++ R))
set_option maxRecDepth 100000 in
set_option maxHeartbeats 2000000 in
theorem ar_add {w0 w : World} {R : List Asr} {b : Nat} {ns : List NdV} {ss : List Nat} {q : ArQ} (H : St w0 w (arL b ns ss q ++ R)) (hn : ns.length < 64) (kind : Int) (kids : List Nat) (hkd : kind = 1 ∨ ∀ k, k ∈ kids → k < ns.length) (hkl : kids.length ≤ 64) (v : Value) (S : Nat → Prop) (hv : Rd S w v kids.length (intsN kids)) :
    Calls Tryz.prog 209 #[ptr b, .int .i64 kind, v] w (RetAdd w0 R b ns ns.length ss kind kids v) := by
  obtain ⟨qa, qc, sa, sc⟩ := q
  obtain ⟨va, vc, rfl, _, _, _, _⟩ := id hv
  have HB := Lib.hid (H.box0 #[ptr b] 175)
  have HV := Lib.hid (fun w' (hk : Keep w w' Nope) => (show ∃ S2, Rd S2 w' _ kids.length (intsN kids) from ⟨S, hv.keep hk (fun _ _ f => f)⟩))
  obtain ⟨n, hN⟩ : ∃ n, ns.length = n := ⟨_, rfl⟩
  have HNN := Lib.hid hN
  have h0 : (w.alloc (.cells #[ptr b] 175)).cell? ⟨w.heap.size, 0, none⟩ = some (.pointer (some ⟨b, 0, none⟩)) := by rw [(HB.out.blk 0 rfl).cell]; rfl
  have h1 : (w.alloc (.cells #[ptr b] 175)).cell? ⟨b, 0, none⟩ = some (.slice qa n qc) := by
    rw [(HB.out.blk 1 rfl).cell]
    show some (Value.slice qa ns.length qc) = _
    rw [HNN.out]
  rw [hN] at hn hkd ⊢
  have e0 : decide ((n : Int) ≥ 1000) = false := decide_eq_false (by omega)
  have e1 : decide (1000 ≤ n) = false := decide_eq_false (by omega)
  have e2 : decide (((kids.length : Nat) : Int) > 64) = false := decide_eq_false (by omega)
  have e3 : decide (64 < kids.length) = false := decide_eq_false (by omega)
  clear H hv hN
  unfold ptr at h0 h1 HB ⊢
  have HK0 := Lib.hid ((Keep.refl w Nope).alloc (.cells #[ptr b] 175))
  unfold ptr at HK0
  obtain ⟨cp, hcp⟩ : ∃ cp, w.heap.size = cp := ⟨_, rfl⟩
  obtain ⟨wa, hwa⟩ : ∃ wa, w.alloc (.cells #[.pointer (some ⟨b, 0, none⟩)] 175) = wa := ⟨_, rfl⟩
  rw [hwa, hcp] at h0 HB
  rw [hwa] at h1 HK0
  by_cases hk1 : kind = 1
  · subst hk1
    go_enter Tryz.func209, Tryz.ntmps209
    go_wp2_with fail
    have HCUR := Lib.hid (And.intro (HK0.out.drew) HB.out.drew)
    clear hwa hcp e0 e1 e2 e3
    refine wp_region_M (r := 11) (S := fun w' => w'.cell? ⟨cp, 0, none⟩ = some (.pointer (some ⟨b, 0, none⟩)) ∧ w'.cell? ⟨b, 0, none⟩ = some (.slice qa n qc)) (by kernel_rfl) ?_ (fun hHeld => ?_)
    · (try dsimp only); (first | exact ⟨h0, h1⟩ | exact ⟨((Keep.refl _ Nope).alloc _).cell h0 (fun f => f), ((Keep.refl _ Nope).alloc _).cell h1 (fun f => f)⟩)
    refine tkH 0 ?_; refine tkH 1 ?_; refine tkP 2 ?_; refine tkP 3 ?_; refine tkH 4 ?_; refine tkP 5 ?_; refine tkP 6 ?_; refine tkC 7 ?_
    intro K hK
    go_simp
    go_wp2_with ((go_at_call 253; obtain ⟨S3, hv3⟩ := HV.out _ HCUR.out.1; refine (clone_in _ kids _ S3 hv3 (by omega)).mono ?_; rintro e w2 ⟨ka, kc, rfl, hkn, hown, hk2⟩; have HKN := Lib.hid hkn; have HC2 := Lib.hid (HCUR.out.2.add hk2 (A := slA 3 1 (.slice ka kids.length kc) kids.length (intsN kids)) hown).first; have h0 := hk2.cell h0 (fun f => f); have h1 := hk2.cell h1 (fun f => f); clear hk2 hkn hown hv3; obtain ⟨G, hown, _, hup, _⟩ := HC2.out.opens 3 rfl; have HOwn := Lib.hid (show Own G w2 367 2 (.slice qa n qc) n (flatNd ns) from HNN.out ▸ hown); have HUP := Lib.hid hup; clear hown hup))
    refine hK.out _ _ ?_ (fun hHeld => ?_)
    · (try dsimp only); (first | exact ⟨h0, h1⟩ | exact ⟨((Keep.refl _ Nope).alloc _).cell h0 (fun f => f), ((Keep.refl _ Nope).alloc _).cell h1 (fun f => f)⟩)
    clear hK K
    refine tkP 8 ?_; refine tkC 9 ?_
    intro K hK
    go_simp
    refine hK.out _ _ ?_ (fun hHeld => ?_)
    · (try dsimp only); (first | exact ⟨h0, h1⟩ | exact ⟨((Keep.refl _ Nope).alloc _).cell h0 (fun f => f), ((Keep.refl _ Nope).alloc _).cell h1 (fun f => f)⟩)
    clear hK K
    refine tkC 10 ?_
    intro K hK
    rw [if_pos (by rfl)]
    (refine step_app (P := Tryz.prog) slNd _ _ rfl (S := G) (S2 := fun z => z = w2.heap.size) (n := n) (xs := flatNd ns) (m := 1) (news := [.int .i64 1, .slice ka kids.length kc]) rfl rfl ?_ (Own.lit (S := fun z => z = w2.heap.size) w2 367 2 1 #[.int .i64 1, .slice ka kids.length kc] (by decide) rfl rfl).rd rfl (by intro u hu; simp at hu; rcases hu with rfl | rfl <;> rfl) (by omega) (by unfold maxLen; omega) ?_; (· exact HOwn.out.keep (T := Nope) ((Keep.refl w2 Nope).alloc _) (fun _ _ f => f)); intro a' k' c' w5 happ; obtain ⟨z1, z2⟩ := app_up (wr := w2) ((Keep.refl w2 Nope).alloc _) happ; obtain rfl := happ.num; have h5 := HUP.out w5 _ z1 z2; have H5 := Lib.hid h5; clear happ z1 z2 h5; have h0 : w5.cell? ⟨cp, 0, none⟩ = some (.pointer (some ⟨b, 0, none⟩)) := (by rw [(H5.out.blk 1 rfl).cell]; rfl); have h1 : w5.cell? ⟨b, 0, none⟩ = some (.slice qa n qc) := (by rw [(H5.out.blk 2 rfl).cell]; show some (Value.slice qa ns.length qc) = _; rw [HNN.out]); have y0 := (H5.out.blk 2 rfl).frozen 0)
    refine hK.out _ _ ?_ (fun hHeld => ?_)
    · (try dsimp only); (first | exact ⟨h0, h1⟩ | exact ⟨((Keep.refl _ Nope).alloc _).cell h0 (fun f => f), ((Keep.refl _ Nope).alloc _).cell h1 (fun f => f)⟩)
    clear hK K
    (try simp only [List.getElem_toArray, List.getElem_cons_succ, List.getElem_cons_zero, Act.put, List.setIfInBounds_toArray, List.set_cons_zero, List.set_cons_succ])
    refine tkF 11 ?_
    intro K hK
    go_simp
    refine hK.out _ _ ?_
    clear hK K
    refine tkP 12 ?_; refine tkF 13 ?_
    intro K hK
    go_simp
    refine hK.out _ _ ?_
    clear hK K
    refine wpAnyM_done (by kernel_rfl) ?_ _
    clear hHeld h0 h1 y0
    have H6 := Lib.hid (H5.out.write 2 rfl 0 (.slice a' (n + 1) c'))
    have k0 : (w5.setCell ⟨b, 0, none⟩ (.slice a' (n + 1) c')).cell? ⟨cp, 0, none⟩ = some (.pointer (some ⟨b, 0, none⟩)) := by rw [(H6.out.blk 1 rfl).cell]; rfl
    have k1 : (w5.setCell ⟨b, 0, none⟩ (.slice a' (n + 1) c')).cell? ⟨b, 0, none⟩ = some (.slice a' (n + 1) c') := by rw [(H6.out.blk 2 rfl).cell]; rfl
    go_wp2_with fail
    go_ret
    refine ⟨⟨a', c', sa, sc⟩, ka, kc, rfl, HKN.out, ?_⟩
    have he : (ns ++ [(⟨1, ka, kids.length, kc⟩ : NdV)]).length = n + 1 := by rw [List.length_append, HNN.out]; rfl
    have hf : flatNd (ns ++ [(⟨1, ka, kids.length, kc⟩ : NdV)]) = flatNd ns ++ [.int .i64 1, .slice ka kids.length kc] := by simp [flatNd, NdV.cells]
    unfold arL
    rw [he, hf]
    exact St.sel (P := [_, _]) (P' := [slA 3 1 (.slice ka kids.length kc) kids.length (intsN kids)]) [0] H6.out (by decide) rfl rfl
  · have hne : (kind != 1) = true := by simp [hk1]
    have hne2 : (kind == 1) = false := by simp [hk1]
    have HCON := Lib.hid (fun (S2 : Nat → Prop) (h : Rd S2 wa (.slice va kids.length vc) kids.length (intsN kids)) => acon_add b cp n qa qc _ kids (hkd.resolve_left hk1) wa S2 h h0 h1)
    unfold ptr at HCON
    go_enter Tryz.func209, Tryz.ntmps209
    go_wp2_with (go_at_call 252; obtain ⟨S3, hv3⟩ := HV.out _ HK0.out; refine (HCON.out S3 hv3).mono ?_; rintro e w1 ⟨rfl, rfl⟩)
    have HCUR := Lib.hid (And.intro (HK0.out.drew) HB.out.drew)
    clear hwa hcp e0 e1 e2 e3 hne hne2 hv3
    refine wp_region_M (r := 11) (S := fun w' => w'.cell? ⟨cp, 0, none⟩ = some (.pointer (some ⟨b, 0, none⟩)) ∧ w'.cell? ⟨b, 0, none⟩ = some (.slice qa n qc)) (by kernel_rfl) ?_ (fun hHeld => ?_)
    · (try dsimp only); (first | exact ⟨h0, h1⟩ | exact ⟨((Keep.refl _ Nope).alloc _).cell h0 (fun f => f), ((Keep.refl _ Nope).alloc _).cell h1 (fun f => f)⟩)
    refine tkH 0 ?_; refine tkH 1 ?_; refine tkP 2 ?_; refine tkP 3 ?_; refine tkH 4 ?_; refine tkP 5 ?_; refine tkP 6 ?_; refine tkC 7 ?_
    intro K hK
    go_simp
    go_wp2_with ((go_at_call 253; obtain ⟨S3, hv3⟩ := HV.out _ HCUR.out.1; refine (clone_in _ kids _ S3 hv3 (by omega)).mono ?_; rintro e w2 ⟨ka, kc, rfl, hkn, hown, hk2⟩; have HKN := Lib.hid hkn; have HC2 := Lib.hid (HCUR.out.2.add hk2 (A := slA 3 1 (.slice ka kids.length kc) kids.length (intsN kids)) hown).first; have h0 := hk2.cell h0 (fun f => f); have h1 := hk2.cell h1 (fun f => f); clear hk2 hkn hown hv3; obtain ⟨G, hown, _, hup, _⟩ := HC2.out.opens 3 rfl; have HOwn := Lib.hid (show Own G w2 367 2 (.slice qa n qc) n (flatNd ns) from HNN.out ▸ hown); have HUP := Lib.hid hup; clear hown hup))
    refine hK.out _ _ ?_ (fun hHeld => ?_)
    · (try dsimp only); (first | exact ⟨h0, h1⟩ | exact ⟨((Keep.refl _ Nope).alloc _).cell h0 (fun f => f), ((Keep.refl _ Nope).alloc _).cell h1 (fun f => f)⟩)
    clear hK K
    refine tkP 8 ?_; refine tkC 9 ?_
    intro K hK
    go_simp
    refine hK.out _ _ ?_ (fun hHeld => ?_)
    · (try dsimp only); (first | exact ⟨h0, h1⟩ | exact ⟨((Keep.refl _ Nope).alloc _).cell h0 (fun f => f), ((Keep.refl _ Nope).alloc _).cell h1 (fun f => f)⟩)
    clear hK K
    refine tkC 10 ?_
    intro K hK
    rw [if_pos (by rfl)]
    (refine step_app (P := Tryz.prog) slNd _ _ rfl (S := G) (S2 := fun z => z = w2.heap.size) (n := n) (xs := flatNd ns) (m := 1) (news := [.int .i64 kind, .slice ka kids.length kc]) rfl rfl ?_ (Own.lit (S := fun z => z = w2.heap.size) w2 367 2 1 #[.int .i64 kind, .slice ka kids.length kc] (by decide) rfl rfl).rd rfl (by intro u hu; simp at hu; rcases hu with rfl | rfl <;> rfl) (by omega) (by unfold maxLen; omega) ?_; (· exact HOwn.out.keep (T := Nope) ((Keep.refl w2 Nope).alloc _) (fun _ _ f => f)); intro a' k' c' w5 happ; obtain ⟨z1, z2⟩ := app_up (wr := w2) ((Keep.refl w2 Nope).alloc _) happ; obtain rfl := happ.num; have h5 := HUP.out w5 _ z1 z2; have H5 := Lib.hid h5; clear happ z1 z2 h5; have h0 : w5.cell? ⟨cp, 0, none⟩ = some (.pointer (some ⟨b, 0, none⟩)) := (by rw [(H5.out.blk 1 rfl).cell]; rfl); have h1 : w5.cell? ⟨b, 0, none⟩ = some (.slice qa n qc) := (by rw [(H5.out.blk 2 rfl).cell]; show some (Value.slice qa ns.length qc) = _; rw [HNN.out]); have y0 := (H5.out.blk 2 rfl).frozen 0)
    refine hK.out _ _ ?_ (fun hHeld => ?_)
    · (try dsimp only); (first | exact ⟨h0, h1⟩ | exact ⟨((Keep.refl _ Nope).alloc _).cell h0 (fun f => f), ((Keep.refl _ Nope).alloc _).cell h1 (fun f => f)⟩)
    clear hK K
    (try simp only [List.getElem_toArray, List.getElem_cons_succ, List.getElem_cons_zero, Act.put, List.setIfInBounds_toArray, List.set_cons_zero, List.set_cons_succ])
    refine tkF 11 ?_
    intro K hK
    go_simp
    refine hK.out _ _ ?_
    clear hK K
    refine tkP 12 ?_; refine tkF 13 ?_
    intro K hK
    go_simp
    refine hK.out _ _ ?_
    clear hK K
    refine wpAnyM_done (by kernel_rfl) ?_ _
    clear hHeld h0 h1 y0
    have H6 := Lib.hid (H5.out.write 2 rfl 0 (.slice a' (n + 1) c'))
    have k0 : (w5.setCell ⟨b, 0, none⟩ (.slice a' (n + 1) c')).cell? ⟨cp, 0, none⟩ = some (.pointer (some ⟨b, 0, none⟩)) := by rw [(H6.out.blk 1 rfl).cell]; rfl
    have k1 : (w5.setCell ⟨b, 0, none⟩ (.slice a' (n + 1) c')).cell? ⟨b, 0, none⟩ = some (.slice a' (n + 1) c') := by rw [(H6.out.blk 2 rfl).cell]; rfl
    go_wp2_with fail
    go_ret
    refine ⟨⟨a', c', sa, sc⟩, ka, kc, rfl, HKN.out, ?_⟩
    have he : (ns ++ [(⟨kind, ka, kids.length, kc⟩ : NdV)]).length = n + 1 := by rw [List.length_append, HNN.out]; rfl
    have hf : flatNd (ns ++ [(⟨kind, ka, kids.length, kc⟩ : NdV)]) = flatNd ns ++ [.int .i64 kind, .slice ka kids.length kc] := by simp [flatNd, NdV.cells]
    unfold arL
    rw [he, hf]
    exact St.sel (P := [_, _]) (P' := [slA 3 1 (.slice ka kids.length kc) kids.length (intsN kids)]) [0] H6.out (by decide) rfl rfl

end Go.Proofs.YtkiikblpgppmkaaGreatDoor

namespace Go.Proofs.YtkiikblpgppmkaaGreatDoor
open Go Go.RowKit
set_option linter.unusedVariables false
set_option linter.unusedSimpArgs false

set_option maxHeartbeats 1000000 in
theorem ar_new {w0 w : World} {R : List Asr} (H : St w0 w R) : Calls Tryz.prog 129 #[] w (fun e w' => ∃ b, e = .returned (ptr b) ∧ St w0 w' (arL b [] [] ⟨none, 0, none, 0⟩ ++ R)) := by
  have HB := Lib.hid (H.box0 #[.slice none 0 0, .slice none 0 0] 324)
  clear H
  unfold ptr at *
  go_enter Tryz.func129, Tryz.ntmps129
  go_wp2_with fail
  go_ret
  refine ⟨_, rfl, ?_⟩
  have h1 := (HB.out.add (Keep.refl _ _) (A := slA 186 1 (.slice none 0 0) 0 []) (Own.nil _ _ _ _)).first
  have h2 := (h1.add (Keep.refl _ _) (A := slA 367 2 (.slice none 0 0) 0 []) (Own.nil _ _ _ _)).first
  exact St.sel (P := [_, _, _]) (P' := arL w.heap.size [] [] ⟨none, 0, none, 0⟩) (R := R) [2, 0, 1] h2 (by decide) rfl rfl
set_option maxHeartbeats 1000000 in
theorem ar_and {w0 w : World} {R : List Asr} {b : Nat} {ns : List NdV} {ss : List Nat} {q : ArQ} (H : St w0 w (arL b ns ss q ++ R)) (hn : ns.length < 64) (kids : List Nat) (hkd : ∀ k, k ∈ kids → k < ns.length) (hkl : kids.length ≤ 64) (v : Value) (S : Nat → Prop) (hv : Rd S w v kids.length (intsN kids)) :
    Calls Tryz.prog 137 #[ptr b, v] w (RetAdd w0 R b ns ns.length ss 2 kids v) := by
  have HA := Lib.hid (ar_add H hn 2 kids (.inr hkd) hkl v S hv)
  clear H hv hkd
  unfold ptr at *
  go_enter Tryz.func137, Tryz.ntmps137
  go_wp2_with (go_at_call 209; refine HA.out.mono ?_; rintro e w1 ⟨q', a, c, rfl, h1, h2⟩; have H1 := Lib.hid h1; have H2 := Lib.hid h2; clear h1 h2 HA)
  go_ret
  exact ⟨q', a, c, rfl, H1.out, H2.out⟩
set_option maxHeartbeats 1000000 in
theorem ar_or {w0 w : World} {R : List Asr} {b : Nat} {ns : List NdV} {ss : List Nat} {q : ArQ} (H : St w0 w (arL b ns ss q ++ R)) (hn : ns.length < 64) (kids : List Nat) (hkd : ∀ k, k ∈ kids → k < ns.length) (hkl : kids.length ≤ 64) (v : Value) (S : Nat → Prop) (hv : Rd S w v kids.length (intsN kids)) :
    Calls Tryz.prog 136 #[ptr b, v] w (RetAdd w0 R b ns ns.length ss 3 kids v) := by
  have HA := Lib.hid (ar_add H hn 3 kids (.inr hkd) hkl v S hv)
  clear H hv hkd
  unfold ptr at *
  go_enter Tryz.func136, Tryz.ntmps136
  go_wp2_with (go_at_call 209; refine HA.out.mono ?_; rintro e w1 ⟨q', a, c, rfl, h1, h2⟩; have H1 := Lib.hid h1; have H2 := Lib.hid h2; clear h1 h2 HA)
  go_ret
  exact ⟨q', a, c, rfl, H1.out, H2.out⟩
/-- What a node of one kid answers. -/
def RetOne (w0 : World) (R : List Asr) (b : Nat) (ns : List NdV) (n : Nat) (ss : List Nat) (kind : Int) (k : Nat) (e : Ending) (w' : World) : Prop :=
  ∃ q' g c, e = .returned (.int .i64 (n : Nat)) ∧ St w0 w' (slA 3 1 (.slice (some ⟨g, 0, none⟩) 1 c) 1 (intsN [k]) :: (arL b (ns ++ [⟨kind, some ⟨g, 0, none⟩, 1, c⟩]) ss q' ++ R))
theorem RetAdd.one {w0 : World} {R : List Asr} {b : Nat} {ns : List NdV} {n : Nat} {ss : List Nat} {kind : Int} {k : Nat} {v : Value} {e : Ending} {w' : World} (h : RetAdd w0 R b ns n ss kind [k] v e w') : RetOne w0 R b ns n ss kind k e w' := by
  obtain ⟨q', a, c, rfl, _, h⟩ := h
  obtain ⟨g, rfl, _⟩ := h.store 0 rfl (by simp)
  exact ⟨q', g, c, rfl, h⟩
set_option maxHeartbeats 1000000 in
theorem ar_not {w0 w : World} {R : List Asr} {b : Nat} {ns : List NdV} {ss : List Nat} {q : ArQ} (H : St w0 w (arL b ns ss q ++ R)) (hn : ns.length < 64) (k : Nat) (hk : k < ns.length) :
    Calls Tryz.prog 135 #[ptr b, .int .i64 (k : Nat)] w (RetOne w0 R b ns ns.length ss 5 k) := by
  have HA := Lib.hid (ar_add (H.alloc (.cells #[.int .i64 (k : Nat)] 3)) hn 5 [k] (.inr (fun x hx => by simp at hx; omega)) (by simp) _ (fun z => z = w.heap.size) (Own.lit (S := fun z => z = w.heap.size) w 3 1 1 #[.int .i64 (k : Nat)] (by decide) rfl rfl).rd)
  clear H
  unfold ptr at *
  go_enter Tryz.func135, Tryz.ntmps135
  go_wp2_with (go_at_call 209; refine HA.out.mono ?_; rintro e w1 h1; obtain ⟨q', g, c, rfl, h2⟩ := RetAdd.one h1; have H2 := Lib.hid h2; clear h1 h2 HA)
  go_ret
  exact ⟨q', g, c, rfl, H2.out⟩
/-- What a node of a set answers. -/
def RetSet (w0 : World) (R : List Asr) (b : Nat) (ns : List NdV) (n : Nat) (ss : List Nat) (x : Nat) (e : Ending) (w' : World) : Prop :=
  ∃ q' g c, e = .returned (.int .i64 (n : Nat)) ∧ St w0 w' (slA 3 1 (.slice (some ⟨g, 0, none⟩) 1 c) 1 (intsN [ss.length]) :: (arL b (ns ++ [⟨1, some ⟨g, 0, none⟩, 1, c⟩]) (ss ++ [x]) q' ++ R))
set_option maxRecDepth 100000 in
set_option maxHeartbeats 2000000 in
theorem ar_set {w0 w : World} {R : List Asr} {b : Nat} {ns : List NdV} {ss : List Nat} {q : ArQ} (H : St w0 w (arL b ns ss q ++ R)) (hn : ns.length < 64) (hs : ss.length < 64) (x : Nat) :
    Calls Tryz.prog 132 #[ptr b, ptr x] w (RetSet w0 R b ns ns.length ss x) := by
  have HA := Lib.hid (ar_add (H.alloc (.cells #[.int .i64 (ss.length : Nat)] 3)) hn 1 [ss.length] (.inl rfl) (by simp) _ (fun z => z = w.heap.size) (Own.lit (S := fun z => z = w.heap.size) w 3 1 1 #[.int .i64 (ss.length : Nat)] (by decide) rfl rfl).rd)
  have c1 : w.cell? ⟨b, 1, none⟩ = some (.slice q.sa ss.length q.sc) := by rw [(H.blk 0 rfl).cell]; rfl
  obtain ⟨m, hm⟩ : ∃ m, ss.length = m := ⟨_, rfl⟩
  have HM := Lib.hid hm
  obtain ⟨n, hN⟩ : ∃ n, ns.length = n := ⟨_, rfl⟩
  rw [hm] at HA c1 hs
  rw [hN] at HA hn ⊢
  have e0 : decide ((n : Int) ≥ 0) = true := decide_eq_true (by omega)
  clear H hm hN
  unfold ptr at *
  go_enter Tryz.func132, Tryz.ntmps132
  go_upto_region 3 with (go_at_call 209; refine HA.out.mono ?_; rintro e w1 h1; obtain ⟨q', g, c, rfl, h2⟩ := RetAdd.one h1; have H2 := Lib.hid h2; clear h1 h2 HA c1)
  obtain ⟨qa, qc, sa, sc⟩ := q'
  have c1 : w1.cell? ⟨b, 1, none⟩ = some (.slice sa m sc) := by
    rw [(H2.out.blk 1 rfl).cell]
    show some (Value.slice sa ss.length sc) = _
    rw [HM.out]
  obtain ⟨G, hown, _, hup, _⟩ := H2.out.opens 3 rfl
  have HOwn := Lib.hid (show Own G w1 186 1 (.slice sa m sc) m (ss.map ptr) from HM.out ▸ hown)
  have HUP := Lib.hid hup
  clear hown hup
  go_wp2_with (at_builtin; go_loud (refine wpList_app (P := Tryz.prog) slSet rfl _ _ rfl (S := G) (S2 := fun z => z = w1.heap.size) (n := m) (xs := ss.map ptr) (m := 1) (news := [ptr x]) rfl rfl ?_ (Own.lit (S := fun z => z = w1.heap.size) w1 186 1 1 #[ptr x] (by decide) rfl rfl).rd rfl (by intro u hu; simp at hu; subst hu; rfl) (by omega) (by unfold maxLen; omega) ?_; (· exact HOwn.out.keep (T := Nope) ((Keep.refl w1 Nope).alloc _) (fun _ _ f => f)); rintro a' k' c' w5 happ; obtain ⟨z1, z2⟩ := app_up (wr := w1) ((Keep.refl w1 Nope).alloc _) happ; obtain rfl := happ.num; have h5 := HUP.out w5 _ z1 z2; have H5 := Lib.hid h5; clear happ z1 z2 h5; have k0 : w5.cell? ⟨b, 1, none⟩ = some (.slice sa m sc) := (by rw [(H5.out.blk 1 rfl).cell]; show some (Value.slice sa ss.length sc) = _; rw [HM.out]); have y0 := (H5.out.blk 1 rfl).frozen 1; have H6 := Lib.hid (H5.out.write 1 rfl 1 (.slice a' (m + 1) c'))))
  go_ret
  have he : (ss ++ [x]).length = m + 1 := by rw [List.length_append, HM.out]; rfl
  refine ⟨⟨qa, qc, a', c'⟩, g, c, rfl, ?_⟩
  unfold arL
  rw [he, List.map_append, HM.out]
  exact H6.out
end Go.Proofs.YtkiikblpgppmkaaGreatDoor

namespace Go.Proofs.YtkiikblpgppmkaaGreatDoor
open Go Go.RowKit
set_option linter.unusedVariables false
set_option linter.unusedSimpArgs false

/-- The slot of a component, seen from the world. -/
theorem St.woSlot {w0 w : World} {R : List Asr} {b : Nat} {x : WoS} {p : WoB} (H : St w0 w (woL b x p ++ R)) {c : Nat} {s : SlS} (hc : x.en.sl[c]? = some s) (hm : s.m < 2 ^ 64) : ∃ xa, p.e.q.bs[c]? = some xa ∧ ∃ mb, w.cell? ⟨xa, 4, none⟩ = some (ptr mb) ∧ RdHib w mb s.m := by
  have h := H.woEnt.entReg
  have hl := h.regLen
  have hcl := (List.getElem?_eq_some_iff.1 hc).1
  obtain ⟨xa, hx⟩ : ∃ xa, p.e.q.bs[c]? = some xa := ⟨_, List.getElem?_eq_getElem (by omega)⟩
  obtain ⟨pp, hp⟩ := h.regOpen hx hc
  exact ⟨xa, hx, pp.m, by rw [(hp.blk 0 rfl).cell]; rfl, hp.hibRd 2 rfl hm⟩
set_option maxRecDepth 100000 in
set_option maxHeartbeats 2000000 in
theorem bld_mask {w0 w wr : World} {Rw R : List Asr} {b : Nat} {x : WoS} {p : WoB} (HW : St w0 w (woL b x p ++ Rw)) {ar : Nat} {ns : List NdV} {ss : List Nat} {q : ArQ} (H : St w wr (arL ar ns ss q ++ R)) (hn : ns.length < 64) (hs : ss.length < 64) (hl : x.en.sl.length ≤ 64) (s : SlS) (hc : x.en.sl[0]? = some s) (hm : s.m < 2 ^ 64) (cp1 cp2 : Nat)
    (h1 : wr.cell? ⟨cp1, 0, none⟩ = some (ptr b)) (h2 : wr.cell? ⟨cp2, 0, none⟩ = some (ptr ar)) :
    Calls Tryz.prog 131 #[.int .i64 0, ptr cp1, ptr cp2] wr (fun e w' => ∃ y, RetSet w (hibA y s.m :: R) ar ns ns.length ss y e w') := by
  have HWR := Lib.hid (HW.keep (Keep.ofSt H))
  have c0 := HWR.out.woC.c0
  have e1 := HWR.out.woC.e1
  obtain ⟨xa, hxa, mb, hm4, hmb⟩ := HWR.out.woSlot hc hm
  have HSL := Lib.hid (fun (w' : World) (hk : Keep wr w' Nope) => reg_slot (c := 0) ((HWR.out.keep hk).woEnt.entReg) hxa (by omega))
  have HMK := Lib.hid (fun (w' : World) (hk : Keep wr w' Nope) => slo_mask xa s.m mb w' (hk.cell hm4 (fun f => f)) (hmb.keep hk))
  have HSET := Lib.hid (fun (w' : World) (y : Nat) (h : St w w' (arL ar ns ss q ++ hibA y s.m :: R)) => ar_set h hn hs y)
  have HH := Lib.hid H
  obtain ⟨n, hN⟩ : ∃ n, ns.length = n := ⟨_, rfl⟩
  rw [hN] at HSET ⊢
  clear hm H HW hxa hm4 hmb hc hl hN hn hs
  unfold ptr at *
  go_enter Tryz.func131, Tryz.ntmps131
  go_wp2_with (go_at_call 49; refine (HSL.out _ (Keep.refl _ _)).mono ?_; rintro e w1 ⟨rfl, hk1⟩; have HK1 := Lib.hid hk1; have h2 := hk1.cell h2 (fun f => f); clear hk1)
  refine wp_region_M (r := 3) (S := fun w' => w'.cell? ⟨cp2, 0, none⟩ = some (.pointer (some ⟨ar, 0, none⟩))) (by kernel_rfl) ?_ (fun hHeld => ?_)
  · (try dsimp only); exact h2
  refine tkH 0 ?_; refine tkP 1 ?_; refine tkC 2 ?_
  intro K hK
  go_simp
  go_wp2_with ((go_at_call 133; refine (HMK.out _ HK1.out.drew).mono ?_; rintro e w2 ⟨y, rfl, hk2, hhib⟩; have h2 := hk2.cell h2 (fun f => f); have HY := Lib.hid (St.toMid (P := arL ar ns ss q) ((HH.out.keep (HK1.out.drew)).add hk2 hhib).first); clear hk2 hhib))
  refine hK.out _ _ ?_ (fun hHeld => ?_)
  · (try dsimp only); exact h2
  clear hK K
  refine tkF 3 ?_
  intro K hK
  go_simp
  go_wp2_with ((go_at_call 132; refine (HSET.out _ y HY.out).mono ?_; rintro e w3 ⟨q', g, c, rfl, h3⟩; have H3 := Lib.hid h3; clear h3))
  refine hK.out _ _ ?_
  clear hK K
  refine tkP 4 ?_
  refine wpAnyM_done (by kernel_rfl) ?_ _
  clear hHeld
  go_wp2_with fail
  go_ret
  exact ⟨y, q', g, c, rfl, H3.out⟩
end Go.Proofs.YtkiikblpgppmkaaGreatDoor
