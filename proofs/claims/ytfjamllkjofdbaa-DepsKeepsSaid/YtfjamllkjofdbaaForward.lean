/-
  The law's own 'forward': systems of which each waits for some ahead of it alone, put into any order.
-/
import Derived.Test.YtfjamllkjofdbaaLaw22
import Derived.Test.YtfjamllkjofdbaaMake
import Derived.Test.YtfjamllkjofdbaaDepsBounds
import Derived.Deep.RegionHeld3
namespace Go.Proofs.Ytfjamllkjofdbaa
open Go Go.RowKit
set_option linter.unusedVariables false
set_option linter.unusedSimpArgs false

/-- The place of number i. -/
def atF (n t i : Nat) : Nat := if n % 7 = 0 then (i + t) % n else (i * 7 + t) % n
theorem atF_lt (n t i : Nat) (hn : 0 < n) : atF n t i < n := by
  unfold atF
  split <;> exact Nat.mod_lt _ hn
theorem atF_inj (n t i j : Nat) (hn : 0 < n) (hn20 : n ≤ 20) (hi : i < n) (hj : j < n) (h : atF n t i = atF n t j) : i = j := by
  unfold atF at h
  have key : ((List.range 21).all fun n => (List.range n).all fun s => (List.range n).all fun i => (List.range n).all fun j =>
      ((if n % 7 = 0 then (i + s) % n else (i * 7 + s) % n) != (if n % 7 = 0 then (j + s) % n else (j * 7 + s) % n)) || i == j) = true := by decide +kernel
  have h1 := List.all_eq_true.1 key n (List.mem_range.2 (by omega))
  have h2 := List.all_eq_true.1 h1 (t % n) (List.mem_range.2 (Nat.mod_lt _ hn))
  have h3 := List.all_eq_true.1 h2 i (List.mem_range.2 hi)
  have h4 := List.all_eq_true.1 h3 j (List.mem_range.2 hj)
  have h5 : (if n % 7 = 0 then (i + t % n) % n else (i * 7 + t % n) % n) = (if n % 7 = 0 then (j + t % n) % n else (j * 7 + t % n) % n) := by
    split
    · rename_i h7
      simp only [h7, if_true] at h
      simpa [Nat.add_mod] using h
    · rename_i h7
      simp only [h7, if_false] at h
      rw [Nat.add_mod, Nat.mod_mod, ← Nat.add_mod, Nat.add_mod (j * 7), Nat.mod_mod, ← Nat.add_mod]
      exact h
  rw [h5] at h4
  simpa using h4

theorem and16 (x : Int) : ∃ t : Nat, bits .and .i64 x 65535 = (t : Int) ∧ t < 65536 := by
  rw [and_mask x 16 65535 (by decide) rfl]
  exact ⟨(x % 65536).toNat, by omega, by omega⟩

set_option maxHeartbeats 400000 in
theorem forward_1 (i n t : Nat) (x : Int) (bt bn : Nat) (w : World) (hi : i < 20) (hn0 : 0 < n) (hn : n ≤ 20) (ht : bits .and .i64 x 65535 = (t : Int)) (htl : t < 65536) (h7 : n % 7 ≠ 0)
    (h1 : w.cell? ⟨bt, 0, none⟩ = some (.int .i64 x)) (h2 : w.cell? ⟨bn, 0, none⟩ = some (.int .i64 n)) :
    Calls Try.prog 22 #[.int .i64 i, .pointer (some ⟨bt, 0, none⟩), .pointer (some ⟨bn, 0, none⟩)] w (fun e w' => e = .returned (.int .i64 (atF n t i : Nat)) ∧ w = w') := by
  have HE := Lib.hid (show (((i : Int) * 7 + (t : Int)) % (n : Int)) = ((atF n t i : Nat) : Int) by unfold atF; rw [if_neg h7]; push_cast; rfl)
  clear h7
  go_enter Try.func22, Try.ntmps22
  go_wp2_with fail
  go_ret
  exact ⟨by rw [← HE.out]; rfl, rfl⟩
set_option maxHeartbeats 400000 in
theorem forward_2 (i n t : Nat) (x : Int) (bt bn : Nat) (w : World) (hi : i < 20) (hn0 : 0 < n) (hn : n ≤ 20) (ht : bits .and .i64 x 65535 = (t : Int)) (htl : t < 65536) (h7 : n % 7 = 0)
    (h1 : w.cell? ⟨bt, 0, none⟩ = some (.int .i64 x)) (h2 : w.cell? ⟨bn, 0, none⟩ = some (.int .i64 n)) :
    Calls Try.prog 23 #[.int .i64 i, .pointer (some ⟨bt, 0, none⟩), .pointer (some ⟨bn, 0, none⟩)] w (fun e w' => e = .returned (.int .i64 (atF n t i : Nat)) ∧ w = w') := by
  have HE := Lib.hid (show (((i : Int) + (t : Int)) % (n : Int)) = ((atF n t i : Nat) : Int) by unfold atF; rw [if_pos h7]; push_cast; rfl)
  clear h7
  go_enter Try.func23, Try.ntmps23
  go_wp2_with fail
  go_ret
  exact ⟨by rw [← HE.out]; rfl, rfl⟩

/-- A row of numbers that came in. -/
structure RowV where
  a : Option Addr
  c : Nat
  l : List Int
def RowV.v (r : RowV) : Value := .slice r.a r.l.length r.c
structure RdRows (S : Nat → Prop) (w : World) (v : Value) (rs : List RowV) : Prop where
  rd : Rd S w v rs.length (rs.map RowV.v)
  row : ∀ r, r ∈ rs → Rd S w r.v r.l.length (ints r.l)
theorem RdRows.keep0 {S : Nat → Prop} {w w' : World} {v : Value} {rs : List RowV} (h : RdRows S w v rs) (hk : Keep w w' Nope) : RdRows S w' v rs := ⟨h.rd.keep hk (fun _ _ f => f), fun r hr => (h.row r hr).keep hk (fun _ _ f => f)⟩
theorem RdRows.below {S : Nat → Prop} {w w' : World} {v : Value} {rs : List RowV} (h : RdRows S w v rs) (hk : Below w.heap.size w w') (hS : ∀ i, S i → i < w.heap.size) : RdRows S w' v rs := ⟨h.rd.below hk hS, fun r hr => (h.row r hr).below hk hS⟩
/-- The cell of a row, and the row. -/
theorem RdRows.get {S : Nat → Prop} {w : World} {a : Option Addr} {n c : Nat} {rs : List RowV} (h : RdRows S w (.slice a n c) rs) {k : Nat} {r : RowV} (hk : rs[k]? = some r) :
    ∃ b o, a = some ⟨b, o, none⟩ ∧ S b ∧ w.cell? ⟨b, o + k, none⟩ = some (.slice r.a r.l.length r.c) ∧ Rd S w r.v r.l.length (ints r.l) := by
  obtain ⟨a', c', he, _, _, _, h4⟩ := h.rd
  injection he with e1 e2 e3
  subst e1; subst e3
  obtain ⟨b, o, e, hb, hc⟩ := h4 k r.v (by simp [hk])
  exact ⟨b, o, e, hb, hc, h.row r (List.mem_of_getElem? hk)⟩

/-- Each waits for some ahead of it alone. -/
def Fwd (n t : Nat) (l : List SysV) : Prop := ∀ (p : Nat) (x : SysV), l[p]? = some x → ∀ y, y ∈ x.aft → ∃ i j, j < i ∧ i < n ∧ p = atF n t i ∧ y = (atF n t j : Nat)
def afA (x : SysV) : Asr := slA 3 1 x.af.v x.aft.length (ints x.aft)
/-- What is owned while the systems are made. -/
def FwdL (bt bn g n : Nat) (x : Int) (l : List SysV) : List Asr :=
  blkA bt #[.int .i64 x] 3 :: blkA bn #[.int .i64 n] 3 :: slA 31 8 (.slice (some ⟨g, 0, none⟩) n n) n (l.flatMap SysV.cells) :: l.map afA
structure FwdS (w wr : World) (bt bn g n t b : Nat) (x : Int) (l : List SysV) : Prop where
  st : St w wr (FwdL bt bn g n x l)
  len : l.length = n
  af : ∀ y, y ∈ l → y.af.n = y.aft.length ∧ y.aft.length ≤ b
  fwd : Fwd n t l

theorem fwd_facts {w wr : World} {bt bn n : Nat} {x : Int} {R : List Asr} {A B : Addr} {va vb : Value} (H : St w wr (blkA bt #[.int .i64 x] 3 :: blkA bn #[.int .i64 n] 3 :: R)) (h : w.cell? A = some va ∧ w.cell? B = some vb) :
    wr.cell? ⟨bt, 0, none⟩ = some (.int .i64 x) ∧ wr.cell? ⟨bn, 0, none⟩ = some (.int .i64 n) ∧ wr.cell? A = some va ∧ wr.cell? B = some vb :=
  ⟨(H.blk 0 rfl).cell 0, (H.blk 1 rfl).cell 0, (H.bel.cell (World.block_lt_of_cell? w _ h.1)).trans h.1, (H.bel.cell (World.block_lt_of_cell? w _ h.2)).trans h.2⟩
theorem fwd_step {w wr w5 : World} {bt bn g n t b : Nat} {x : Int} {l : List SysV} {y : SysV} {p k' c' i j q : Nat} {a' : Option Addr} (h : FwdS w wr bt bn g n t b x l) (hy : l[p]? = some y) (hp : p < n)
    (hs : St w w5 (((FwdL bt bn g n x l).set (p + 3) (slA 3 1 (.slice a' k' c') k' (ints y.aft ++ ints [(q : Int)]))).set 2 (slA 31 8 (.slice (some ⟨g, 0, none⟩) n n) n ((l.flatMap SysV.cells).set (p * 8 + 7) (.slice a' k' c')))))
    (hk : k' = y.aft.length + 1) (hij : j < i ∧ i < n ∧ p = atF n t i ∧ q = atF n t j) :
    FwdS w w5 bt bn g n t (b + 1) x (l.set p ⟨y.r, y.w, y.rr, y.rw', y.al, y.pl, y.cd, ⟨a', k', c'⟩, y.aft ++ [(q : Int)]⟩) := by
  have hfl := flat_set SysV.cells 8 (fun _ => rfl) ⟨y.r, y.w, y.rr, y.rw', y.al, y.pl, y.cd, ⟨a', k', c'⟩, y.aft ++ [(q : Int)]⟩ 7 (.slice a' k' c') (by decide) l p y hy rfl
  rw [hfl] at hs
  have e : slA 3 1 (.slice a' k' c') k' (ints y.aft ++ ints [(q : Int)]) = afA ⟨y.r, y.w, y.rr, y.rw', y.al, y.pl, y.cd, ⟨a', k', c'⟩, y.aft ++ [(q : Int)]⟩ := by
    unfold afA
    simp only [SlV.v, List.length_append, List.length_singleton, ← hk, ints_app]
  rw [e] at hs
  refine ⟨?_, by rw [List.length_set]; exact h.len, fun z hz => ?_, fun r z hr u hu => ?_⟩
  · unfold FwdL
    rw [List.map_set]
    exact hs
  · rcases List.mem_or_eq_of_mem_set hz with hz | rfl
    · have := h.af z hz
      exact ⟨this.1, by omega⟩
    · have := h.af y (List.mem_of_getElem? hy)
      simp only [List.length_append, List.length_singleton]
      exact ⟨hk, by omega⟩
  · rw [List.getElem?_set] at hr
    split at hr
    · rename_i e2
      subst e2
      split at hr
      · cases hr
        rcases List.mem_append.1 hu with hu | hu
        · exact h.fwd p y hy u hu
        · simp at hu
          exact ⟨i, j, hij.1, hij.2.1, hij.2.2.1, by rw [hu, hij.2.2.2]⟩
      · cases hr
    · exact h.fwd r z hr u hu

/-- The systems are handed back. -/
def RetFwd (w : World) (en : Ending) (w' : World) : Prop :=
  ∃ (a : Option Addr) (c : Nat) (l : List SysV) (S : Nat → Prop), en = .returned (.slice a l.length c) ∧ RdSys S w' (.slice a l.length c) l ∧ (∀ z, S z → w.heap.size ≤ z ∧ z < w'.heap.size) ∧ Below w.heap.size w w' ∧ chk (aftsOf l) = 0 ∧ l.length ≤ 20

theorem FwdS.le {w wr : World} {bt bn g n t b b' : Nat} {x : Int} {l : List SysV} (h : FwdS w wr bt bn g n t b x l) (hb : b ≤ b') : FwdS w wr bt bn g n t b' x l :=
  ⟨h.st, h.len, fun y hy => ⟨(h.af y hy).1, Nat.le_trans (h.af y hy).2 hb⟩, h.fwd⟩
theorem fwd_ret {w wr : World} {bt bn g n t b : Nat} {x : Int} {l : List SysV} (h : FwdS w wr bt bn g n t b x l) (hn20 : n ≤ 20) : RetFwd w (.returned (.slice (some ⟨g, 0, none⟩) n n)) wr := by
  obtain ⟨hst, hlen, haf, hfw⟩ := h
  subst hlen
  have haft : ∀ (p : Nat) (y : Int), p < l.length → y ∈ aftOf (aftsOf l) p → ∃ i j, j < i ∧ i < l.length ∧ p = atF l.length t i ∧ y = (atF l.length t j : Nat) := fun p y hp hy => by
    have hx := List.getElem?_eq_getElem hp
    rw [aftOf_get hx] at hy
    exact hfw p _ hx y hy
  have hbad : badSys (aftsOf l) = false := badSys_no (fun j hj => by
    rw [List.any_eq_false]
    intro y hy
    rw [aftsOf_len] at hj ⊢
    obtain ⟨i, k, h1, h2, h3, rfl⟩ := haft j y hj hy
    have hk := atF_lt l.length t k (by omega)
    have hne : atF l.length t k ≠ j := fun e => by
      have := atF_inj l.length t k i (by omega) hn20 (by omega) h2 (e.trans h3)
      omega
    simp [badAt]
    omega)
  have hord := ord_full (aftsOf l) (fun p => ((List.range l.length).find? (fun i => atF l.length t i == p)).getD 0) hbad (fun p q hp hq hm => by
    rw [aftsOf_len] at hp hq
    obtain ⟨i, j, h1, h2, h3, h4⟩ := haft p q hp hm
    have hr : ∀ i, i < l.length → ((List.range l.length).find? (fun k => atF l.length t k == atF l.length t i)).getD 0 = i := fun i hi => by
      cases hf : (List.range l.length).find? (fun k => atF l.length t k == atF l.length t i) with
      | none => have := List.find?_eq_none.1 hf i (List.mem_range.2 hi); simp at this
      | some k =>
        have e1 := List.find?_some hf
        have e2 := List.mem_of_find?_eq_some hf
        exact atF_inj l.length t k i (by omega) hn20 (List.mem_range.1 e2) hi (by simpa using e1)
    have h4' : q = atF l.length t j := by omega
    subst h3; subst h4'
    rw [hr i h2, hr j (by omega)]
    exact h1)
  have hbel := hst.bel
  obtain ⟨_, G, k1, k2, k3⟩ := hst
  refine ⟨some ⟨g, 0, none⟩, l.length, l, fun z => w.heap.size ≤ z ∧ z < wr.heap.size, rfl, ⟨(Own.rd (k1 2 _ rfl)).mono (k2 2), fun y hy => ⟨(haf y hy).1, ?_⟩⟩, fun z hz => hz, hbel, chk_is (by rw [aftsOf_len]; omega) hbad hord, hn20⟩
  obtain ⟨p, hp, rfl⟩ := List.getElem_of_mem hy
  have := k1 (p + 3) (afA l[p]) (by unfold FwdL; simp [hp])
  exact (Own.rd this).mono (k2 (p + 3))

def LoopF1 (w : World) (bt bn g n t : Nat) (x : Int) (gk : Nat) (v8 : Value) (wr : World) : Prop :=
  ∃ (i : Nat) (l : List SysV), gk + i = n ∧ v8 = .int .i64 i ∧ FwdS w wr bt bn g n t (4 * i) x l
def LoopF2 (w : World) (bt bn g n t i : Nat) (x : Int) (gk : Nat) (v9 : Value) (wr : World) : Prop :=
  ∃ (k : Nat) (l : List SysV), gk + k = 4 ∧ k ≤ 4 ∧ v9 = .int .i64 k ∧ FwdS w wr bt bn g n t (4 * i + k) x l

set_option maxRecDepth 100000 in
set_option maxHeartbeats 8000000 in
theorem forward_any (v : Value) (rs : List RowV) (x : Int) (w : World) (S : Nat → Prop) (h : RdRows S w v rs) (hS : ∀ i, S i → i < w.heap.size) :
    Calls Try.prog 11 #[v, .int .i64 x] w (RetFwd w) := by
  obtain ⟨a, c, rfl, g1, g2, g3, g4⟩ := id h.rd
  have hlen : rs.length ≤ 9223372036854775807 := by unfold maxLen at g2; omega
  clear g1 g2 g3 g4
  have H := Lib.hid h; clear h
  obtain ⟨n, hn⟩ : ∃ n, n = min rs.length 20 := ⟨_, rfl⟩
  obtain ⟨t, ht, htl⟩ := and16 x
  have HT := Lib.hid ht; clear ht
  obtain ⟨bt, hbt⟩ : ∃ bt, w.heap.size = bt := ⟨_, rfl⟩
  go_enter Try.func11, Try.ntmps11
  go_upto_region 1 with (fail)
  go_cut [5] (fun v5 wx => v5 = .pointer (some ⟨bt + 1, 0, none⟩) ∧ St w wx [blkA bt #[.int .i64 x] 3, blkA (bt + 1) #[.int .i64 n] 3])
  case first =>
    have hb1 := St.box (St.box (St.start w) #[.int .i64 x] 3) #[.int .i64 n] 3
    simp only [World.size_alloc, hbt] at hb1
    have HB1 := Lib.hid hb1; clear hb1
    by_cases h20 : 20 < rs.length
    · have h20' : (20 : Int) < rs.length := by omega
      have e : n = 20 := by omega
      subst e
      clear hn
      go_wp2_with fail
      go_meet
      case rel => exact ⟨rfl, HB1.out⟩
    · have h20' : ¬ (20 : Int) < rs.length := by omega
      obtain rfl : n = rs.length := by omega
      clear hn
      go_wp2_with fail
      go_meet
      case rel => exact ⟨rfl, HB1.out⟩
  case rest =>
    obtain ⟨rfl, hst0⟩ := hcut
    have hnl : n ≤ rs.length := by omega
    have hn20 : n ≤ 20 := by omega
    clear hn hbt
    obtain ⟨bn, hbn⟩ : ∃ bn, bt + 1 = bn := ⟨_, rfl⟩
    rw [hbn] at hst0 ⊢
    clear hbn
    have ct := (hst0.blk 0 rfl).cell 0
    have cn := (hst0.blk 1 rfl).cell 0
    simp at ct cn
    obtain ⟨g, hg⟩ : ∃ g, wc.heap.size = g := ⟨_, rfl⟩
    obtain ⟨w1, hmk, hst1⟩ := make_sys hst0 n (by omega)
    rw [hg] at hmk hst1
    have ct1 := (hst1.blk 0 rfl).cell 0
    have cn1 := (hst1.blk 1 rfl).cell 0
    simp at ct1 cn1
    have HFS1 : Hid (FwdS w w1 bt bn g n t 0 x (List.replicate n (sysOf nilV []))) := Lib.hid ⟨by
      have hE : ∀ (m : Nat), St w w1 ([blkA bt #[.int .i64 x] 3, blkA bn #[.int .i64 n] 3, slA 31 8 (.slice (some ⟨g, 0, none⟩) n n) n ((List.replicate n (sysOf nilV [])).flatMap SysV.cells)] ++ (List.replicate m (sysOf nilV [])).map afA) := by
        intro m
        induction m with
        | zero => simpa using hst1
        | succ m ih =>
          rw [List.replicate_succ', List.map_append, ← List.append_assoc]
          exact ih.add (Keep.refl _ _) (A := afA (sysOf nilV [])) (Own.nil _ _ _ _)
      exact hE n, by simp, fun y hy => by rw [(List.mem_replicate.1 hy).2]; exact ⟨rfl, Nat.zero_le _⟩, fun p y hy u hu => by
        have := List.mem_of_getElem? hy
        rw [(List.mem_replicate.1 this).2] at hu
        cases hu⟩
    clear hst0 hst1 hg
    by_cases h7 : n % 7 = 0
    all_goals
      first
      | (have h7i : ((n : Int) % 7 == 0) = true := by (simp; omega)
         have HF := Lib.hid (fun (i : Nat) (W : World) (hi : i < 20) (h1 : W.cell? ⟨bt, 0, none⟩ = some (.int .i64 x)) (h2 : W.cell? ⟨bn, 0, none⟩ = some (.int .i64 n)) (hn0 : 0 < n) => forward_2 i n t x bt bn W hi hn0 hn20 HT.out htl h7 h1 h2))
      | (have h7i : ((n : Int) % 7 == 0) = false := by (simp; omega)
         have HF := Lib.hid (fun (i : Nat) (W : World) (hi : i < 20) (h1 : W.cell? ⟨bt, 0, none⟩ = some (.int .i64 x)) (h2 : W.cell? ⟨bn, 0, none⟩ = some (.int .i64 n)) (hn0 : 0 < n) => forward_1 i n t x bt bn W hi hn0 hn20 HT.out htl h7 h1 h2))
      clear h7
      go_wp2_with fail
      clear h7i ct cn ct1 cn1 hmk
      go_loopg [8] n (fun gk v8 wr => LoopF1 w bt bn g n t x gk v8 wr)
      case atStart => exact ⟨0, _, rfl, rfl, HFS1.out⟩
      case round =>
        obtain ⟨i, l, hgi, rfl, hfs⟩ := hrel
        clear HFS1
        have HGI := Lib.hid hgi
        have hin : i ≤ n := by omega
        clear hgi
        have HFS := Lib.hid hfs; clear hfs
        have cn := (HFS.out.st.blk 1 rfl).cell 0
        simp at cn
        by_cases hlt : i < n
        · obtain ⟨r, hr⟩ : ∃ r, rs[i]? = some r := ⟨_, List.getElem?_eq_getElem (by omega)⟩
          obtain ⟨bo, oo, rfl, _, hcr, hrr⟩ := H.out.get hr
          have HCR := Lib.hid hcr; clear hcr
          have HRR := Lib.hid hrr; clear hrr hr
          have hrl : r.l.length ≤ 9223372036854775807 := by
            obtain ⟨_, _, e, e1, e2, _⟩ := HRR.out
            unfold maxLen at e2
            omega
          have hn0 : 0 < n := by omega
          have hi20 : i < 20 := by omega
          have hirs : i < rs.length := by omega
          obtain ⟨wo, hwo⟩ : ∃ wo, wo = wr := ⟨_, rfl⟩
          subst hwo
          go_wp2_with fail
          go_loopg [9] 4 (fun gk v9 wr => LoopF2 w bt bn g n t i x gk v9 wr)
          case atStart => exact ⟨0, l, rfl, by omega, rfl, HFS.out⟩
          case round =>
            obtain ⟨k, l, hgk, hk4, rfl, hfs⟩ := hrel
            clear HFS cn
            have HGK := Lib.hid hgk; clear hgk
            have HFS := Lib.hid hfs; clear hfs
            have HST := Lib.hid HFS.out.st
            have hcr : wr.cell? ⟨bo, oo + i, none⟩ = some (.slice r.a r.l.length r.c) := (HST.out.bel.cell (World.block_lt_of_cell? w _ HCR.out)).trans HCR.out
            by_cases hgo : k < r.l.length ∧ k < 4 ∧ 0 < i
            · obtain ⟨hk1, hk2, hi0⟩ := hgo
              have hk1' : (k : Int) < r.l.length := by omega
              obtain ⟨y0, hy0⟩ : ∃ y0, r.l[k]? = some y0 := ⟨_, List.getElem?_eq_getElem hk1⟩
              obtain ⟨br, or', ⟨cr', hv⟩, _, hcy⟩ := HRR.out.int hy0
              unfold RowV.v at hv
              injection hv with hv1 hv2 hv3
              rw [hv1] at hcr HCR
              have HARG := Lib.hid (And.intro HCR.out hcy)
              have hcy' : wr.cell? ⟨br, or' + k, none⟩ = some (.int .i64 y0) := (HST.out.bel.cell (World.block_lt_of_cell? w _ hcy)).trans hcy
              clear hcy hy0 hv1 hv2 hv3
              obtain ⟨T, hT0, hTl⟩ := and16 y0
              obtain ⟨j, hj⟩ : ∃ j, j = T % i := ⟨_, rfl⟩
              have hji : j < i := by rw [hj]; exact Nat.mod_lt _ hi0
              have hj20 : j < 20 := by omega
              have hine : ¬ i = 0 := by omega
              have hrem : (T : Int) % (i : Int) = (j : Int) := by rw [hj]; rfl
              have hrem2 : (T : Int).tmod (i : Int) = (j : Int) := by rw [Int.tmod_eq_emod_of_nonneg (by omega)]; exact hrem
              clear hj
              obtain ⟨p, hp⟩ : ∃ p, atF n t i = p := ⟨_, rfl⟩
              obtain ⟨q, hq⟩ : ∃ q, atF n t j = q := ⟨_, rfl⟩
              have hpn : p < n := by rw [← hp]; exact atF_lt n t i hn0
              have HIJ := Lib.hid (show j < i ∧ i < n ∧ p = atF n t i ∧ q = atF n t j from ⟨hji, hlt, hp.symm, hq.symm⟩)
              have HPI := Lib.hid hp; clear hp
              have HPJ := Lib.hid hq; clear hq
              obtain ⟨y, hy⟩ : ∃ y, l[p]? = some y := ⟨_, List.getElem?_eq_getElem (by rw [HFS.out.len]; exact hpn)⟩
              obtain ⟨hyn, hyl⟩ := HFS.out.af y (List.mem_of_getElem? hy)
              have hyl84 : y.aft.length ≤ 84 := by omega
              obtain ⟨g', hg', hltg, hfg, hcg, _⟩ := HST.out.store 2 rfl hn0
              injection hg' with hg'
              injection hg' with hg'
              subst hg'
              have hx7 : (l.flatMap SysV.cells)[p * 8 + 7]? = some (.slice y.af.a y.aft.length y.af.c) := by
                rw [flat_get SysV.cells 8 (fun _ => rfl) l p 7 y hy (by decide)]
                rw [← hyn]
                rfl
              have hc7 := (hcg (p * 8 + 7) (by omega)).trans hx7
              have HC7 := Lib.hid hx7; clear hx7 hfg hcg
              obtain ⟨G, hown, hGb, hup, _⟩ := HST.out.opens (p + 3) (A := afA y) (by unfold FwdL; simp [hy])
              have HOwn : Hid (Own G wr 3 1 (.slice y.af.a y.aft.length y.af.c) y.aft.length (ints y.aft)) := Lib.hid (by have h := hown; unfold afA slA at h; simp only [SlV.v] at h; rw [hyn] at h; exact h)
              have HUP := Lib.hid hup
              have HGET := Lib.hid hy
              clear hown hGb hup hy hyn hyl
              go_wp2_with fail
              refine wp_region_held_drew (S := fun w' => w'.cell? ⟨bt, 0, none⟩ = some (.int .i64 x) ∧ w'.cell? ⟨bn, 0, none⟩ = some (.int .i64 n) ∧ w'.cell? ⟨bo, oo + i, none⟩ = some (.slice (some ⟨br, or', none⟩) r.l.length r.c) ∧ w'.cell? ⟨br, or' + k, none⟩ = some (.int .i64 y0)) (by kernel_rfl) ?_ (fun hHeld => ?_)
              · (try dsimp only); first | exact fwd_facts HS6.out HARG.out | exact fwd_facts HS5.out HARG.out | exact fwd_facts (HST.out.keep (by (repeat (first | exact Keep.refl _ _ | apply Keep.drew | apply Keep.drewN | apply Keep.alloc)))) HARG.out
              refine wpAnyH_take (i := 0) (oi := ?_) (v := ?_) ?_ ?_ ?_ ?_ ?_ ?_ ?_ ?_
              rotate_left 2
              · simp only [List.getElem?_toArray, List.getElem?_cons_succ, List.getElem?_cons_zero]; exact rfl
              · kernel_rfl
              · kernel_rfl
              · kernel_rfl
              · exact fun _ _ _ h => h
              · (refine Or.inl ⟨by rfl, ?_⟩; (intro w hSw; (try dsimp only at hSw); go_simp) <;> with_reducible rfl)
              · assumption
              simp only [Act.put, List.setIfInBounds_toArray, List.set_cons_zero, List.set_cons_succ]
              refine wpAnyH_take (i := 1) (oi := ?_) (v := ?_) ?_ ?_ ?_ ?_ ?_ ?_ ?_ ?_
              rotate_left 2
              · simp only [List.getElem?_toArray, List.getElem?_cons_succ, List.getElem?_cons_zero]; exact rfl
              · kernel_rfl
              · kernel_rfl
              · kernel_rfl
              · exact fun _ _ _ h => h
              · (refine Or.inl ⟨by rfl, ?_⟩; (intro w hSw; (try dsimp only at hSw); go_simp) <;> with_reducible rfl)
              · assumption
              simp only [Act.put, List.setIfInBounds_toArray, List.set_cons_zero, List.set_cons_succ]
              refine wpAnyH_take (i := 2) (oi := ?_) (v := ?_) ?_ ?_ ?_ ?_ ?_ ?_ ?_ ?_
              rotate_left 2
              · simp only [List.getElem?_toArray, List.getElem?_cons_succ, List.getElem?_cons_zero]; exact rfl
              · kernel_rfl
              · kernel_rfl
              · kernel_rfl
              · exact fun _ _ _ h => h
              · (refine Or.inl ⟨by rfl, ?_⟩; (intro w hSw; (try dsimp only at hSw); go_simp) <;> with_reducible rfl)
              · assumption
              simp only [Act.put, List.setIfInBounds_toArray, List.set_cons_zero, List.set_cons_succ]
              refine wpAnyH_take (i := 4) (oi := ?_) (v := ?_) ?_ ?_ ?_ ?_ ?_ ?_ ?_ ?_
              rotate_left 2
              · simp only [List.getElem?_toArray, List.getElem?_cons_succ, List.getElem?_cons_zero]; exact rfl
              · kernel_rfl
              · kernel_rfl
              · kernel_rfl
              · exact fun _ _ _ h => h
              · (refine Or.inl ⟨by rfl, ?_⟩; (intro w hSw; (try dsimp only at hSw); go_simp) <;> with_reducible rfl)
              · assumption
              simp only [Act.put, List.setIfInBounds_toArray, List.set_cons_zero, List.set_cons_succ]
              refine wpAnyH_take (i := 5) (oi := ?_) (v := ?_) ?_ ?_ ?_ ?_ ?_ ?_ ?_ ?_
              rotate_left 2
              · simp only [List.getElem?_toArray, List.getElem?_cons_succ, List.getElem?_cons_zero]; exact rfl
              · kernel_rfl
              · kernel_rfl
              · kernel_rfl
              · exact fun _ _ _ h => h
              · (refine Or.inl ⟨by rfl, ?_⟩; (intro w hSw; (try dsimp only at hSw); go_simp) <;> with_reducible rfl)
              · assumption
              simp only [Act.put, List.setIfInBounds_toArray, List.set_cons_zero, List.set_cons_succ]
              refine wpAnyH_take (i := 6) (oi := ?_) (v := ?_) ?_ ?_ ?_ ?_ ?_ ?_ ?_ ?_
              rotate_left 2
              · simp only [List.getElem?_toArray, List.getElem?_cons_succ, List.getElem?_cons_zero]; exact rfl
              · kernel_rfl
              · kernel_rfl
              · kernel_rfl
              · exact fun _ _ _ h => h
              · (refine Or.inl ⟨by rfl, ?_⟩; (intro w hSw; (try dsimp only at hSw); go_simp) <;> with_reducible rfl)
              · assumption
              simp only [Act.put, List.setIfInBounds_toArray, List.set_cons_zero, List.set_cons_succ]
              refine wpAnyH_take (i := 11) (oi := ?_) (v := ?_) ?_ ?_ ?_ ?_ ?_ ?_ ?_ ?_
              rotate_left 2
              · simp only [List.getElem?_toArray, List.getElem?_cons_succ, List.getElem?_cons_zero]; exact rfl
              · kernel_rfl
              · kernel_rfl
              · kernel_rfl
              · exact fun _ _ _ h => h
              · (refine Or.inl ⟨by rfl, ?_⟩; (intro w hSw; (try dsimp only at hSw); go_simp) <;> with_reducible rfl)
              · assumption
              simp only [Act.put, List.setIfInBounds_toArray, List.set_cons_zero, List.set_cons_succ]
              refine wpAnyH_take (i := 12) (oi := ?_) (v := ?_) ?_ ?_ ?_ ?_ ?_ ?_ ?_ ?_
              rotate_left 2
              · simp only [List.getElem?_toArray, List.getElem?_cons_succ, List.getElem?_cons_zero]; exact rfl
              · kernel_rfl
              · kernel_rfl
              · kernel_rfl
              · exact fun _ _ _ h => h
              · (refine Or.inl ⟨by rfl, ?_⟩; (intro w hSw; (try dsimp only at hSw); go_simp) <;> with_reducible rfl)
              · assumption
              simp only [Act.put, List.setIfInBounds_toArray, List.set_cons_zero, List.set_cons_succ]
              refine wpAnyH_take (i := 13) (oi := ?_) (v := ?_) ?_ ?_ ?_ ?_ ?_ ?_ ?_ ?_
              rotate_left 2
              · simp only [List.getElem?_toArray, List.getElem?_cons_succ, List.getElem?_cons_zero]; exact rfl
              · kernel_rfl
              · kernel_rfl
              · kernel_rfl
              · exact fun _ _ _ h => h
              · (refine Or.inl ⟨by rfl, ?_⟩; (intro w hSw; (try dsimp only at hSw); go_simp) <;> with_reducible rfl)
              · assumption
              simp only [Act.put, List.setIfInBounds_toArray, List.set_cons_zero, List.set_cons_succ]
              refine wpAnyH_take (i := 14) (oi := ?_) (v := ?_) ?_ ?_ ?_ ?_ ?_ ?_ ?_ ?_
              rotate_left 2
              · simp only [List.getElem?_toArray, List.getElem?_cons_succ, List.getElem?_cons_zero]; exact rfl
              · kernel_rfl
              · kernel_rfl
              · kernel_rfl
              · exact fun _ _ _ h => h
              · (refine Or.inl ⟨by rfl, ?_⟩; (intro w hSw; (try dsimp only at hSw); go_simp) <;> with_reducible rfl)
              · assumption
              simp only [Act.put, List.setIfInBounds_toArray, List.set_cons_zero, List.set_cons_succ]
              refine wpAnyH_take (i := 15) (oi := ?_) (v := ?_) ?_ ?_ ?_ ?_ ?_ ?_ ?_ ?_
              rotate_left 2
              · simp only [List.getElem?_toArray, List.getElem?_cons_succ, List.getElem?_cons_zero]; exact rfl
              · kernel_rfl
              · kernel_rfl
              · kernel_rfl
              · exact fun _ _ _ h => h
              · (refine Or.inl ⟨by rfl, ?_⟩; (intro w hSw; (try dsimp only at hSw); go_simp) <;> with_reducible rfl)
              · assumption
              simp only [Act.put, List.setIfInBounds_toArray, List.set_cons_zero, List.set_cons_succ]
              refine wpAnyH_take (i := 16) (oi := ?_) (v := ?_) ?_ ?_ ?_ ?_ ?_ ?_ ?_ ?_
              rotate_left 2
              · simp only [List.getElem?_toArray, List.getElem?_cons_succ, List.getElem?_cons_zero]; exact rfl
              · kernel_rfl
              · kernel_rfl
              · kernel_rfl
              · exact fun _ _ _ h => h
              · (refine Or.inl ⟨by rfl, ?_⟩; (intro w hSw; (try dsimp only at hSw); go_simp) <;> with_reducible rfl)
              · assumption
              simp only [Act.put, List.setIfInBounds_toArray, List.set_cons_zero, List.set_cons_succ]
              refine wpAnyH_take (i := 17) (oi := ?_) (v := ?_) ?_ ?_ ?_ ?_ ?_ ?_ ?_ ?_
              rotate_left 2
              · simp only [List.getElem?_toArray, List.getElem?_cons_succ, List.getElem?_cons_zero]; exact rfl
              · kernel_rfl
              · kernel_rfl
              · kernel_rfl
              · exact fun _ _ _ h => h
              · (refine Or.inl ⟨by rfl, ?_⟩; (intro w hSw; (try dsimp only at hSw); go_simp) <;> with_reducible rfl)
              · assumption
              simp only [Act.put, List.setIfInBounds_toArray, List.set_cons_zero, List.set_cons_succ]
              refine wpAnyH_take (i := 18) (oi := ?_) (v := ?_) ?_ ?_ ?_ ?_ ?_ ?_ ?_ ?_
              rotate_left 2
              · simp only [List.getElem?_toArray, List.getElem?_cons_succ, List.getElem?_cons_zero]; exact rfl
              · kernel_rfl
              · kernel_rfl
              · kernel_rfl
              · exact fun _ _ _ h => h
              · (refine Or.inl ⟨by rfl, ?_⟩; (intro w hSw; (try dsimp only at hSw); go_simp) <;> with_reducible rfl)
              · assumption
              simp only [Act.put, List.setIfInBounds_toArray, List.set_cons_zero, List.set_cons_succ]
              refine wpAnyH_take (i := 19) (oi := ?_) (v := ?_) ?_ ?_ ?_ ?_ ?_ ?_ ?_ ?_
              rotate_left 2
              · simp only [List.getElem?_toArray, List.getElem?_cons_succ, List.getElem?_cons_zero]; exact rfl
              · kernel_rfl
              · kernel_rfl
              · kernel_rfl
              · exact fun _ _ _ h => h
              · (refine Or.inl ⟨by rfl, ?_⟩; (intro w hSw; (try dsimp only at hSw); go_simp) <;> with_reducible rfl)
              · assumption
              simp only [Act.put, List.setIfInBounds_toArray, List.set_cons_zero, List.set_cons_succ]
              refine wpAnyH_take (i := 20) (oi := ?_) (v := ?_) ?_ ?_ ?_ ?_ ?_ ?_ ?_ ?_
              rotate_left 2
              · simp only [List.getElem?_toArray, List.getElem?_cons_succ, List.getElem?_cons_zero]; exact rfl
              · kernel_rfl
              · kernel_rfl
              · kernel_rfl
              · exact fun _ _ _ h => h
              · (refine Or.inl ⟨by rfl, ?_⟩; (intro w hSw; (try dsimp only at hSw); go_simp) <;> with_reducible rfl)
              · assumption
              simp only [Act.put, List.setIfInBounds_toArray, List.set_cons_zero, List.set_cons_succ]
              refine wpAnyH_take (i := 21) (oi := ?_) (v := ?_) ?_ ?_ ?_ ?_ ?_ ?_ ?_ ?_
              rotate_left 2
              · simp only [List.getElem?_toArray, List.getElem?_cons_succ, List.getElem?_cons_zero]; exact rfl
              · kernel_rfl
              · kernel_rfl
              · kernel_rfl
              · exact fun _ _ _ h => h
              · (refine Or.inl ⟨by rfl, ?_⟩; (intro w hSw; (try dsimp only at hSw); go_simp) <;> with_reducible rfl)
              · assumption
              simp only [Act.put, List.setIfInBounds_toArray, List.set_cons_zero, List.set_cons_succ]
              refine wpAnyH_ready (rs := [3]) (by kernel_rfl) (by simp) ?_
              refine AllReadyH.cons rfl (fun K hK => ?_) (AllReadyH.nil)
              go_simp
              go_wp2_with ((first | go_at_call 22 | go_at_call 23); refine (HF.out i _ (by omega) hHeld.1 hHeld.2.1 hn0).mono ?_; rw [HPI.out]; rintro e w' ⟨rfl, rfl⟩)
              refine hK.out _ _ ?_ (fun hHeld => ?_)
              · (try dsimp only); first | exact fwd_facts HS6.out HARG.out | exact fwd_facts HS5.out HARG.out | exact fwd_facts (HST.out.keep (by (repeat (first | exact Keep.refl _ _ | apply Keep.drew | apply Keep.drewN | apply Keep.alloc)))) HARG.out
              clear hK K
              refine wpAnyH_ready (rs := [7]) (by kernel_rfl) (by simp) ?_
              refine AllReadyH.cons rfl (fun K hK => ?_) (AllReadyH.nil)
              go_simp
              go_wp2_with ((first | go_at_call 22 | go_at_call 23); refine (HF.out i _ (by omega) hHeld.1 hHeld.2.1 hn0).mono ?_; rw [HPI.out]; rintro e w' ⟨rfl, rfl⟩)
              refine hK.out _ _ ?_ (fun hHeld => ?_)
              · (try dsimp only); first | exact fwd_facts HS6.out HARG.out | exact fwd_facts HS5.out HARG.out | exact fwd_facts (HST.out.keep (by (repeat (first | exact Keep.refl _ _ | apply Keep.drew | apply Keep.drewN | apply Keep.alloc)))) HARG.out
              clear hK K
              refine wpAnyH_take (i := 8) (oi := ?_) (v := ?_) ?_ ?_ ?_ ?_ ?_ ?_ ?_ ?_
              rotate_left 2
              · simp only [List.getElem?_toArray, List.getElem?_cons_succ, List.getElem?_cons_zero]; exact rfl
              · kernel_rfl
              · kernel_rfl
              · kernel_rfl
              · exact fun _ _ _ h => h
              · (refine Or.inl ⟨by rfl, ?_⟩; (intro w hSw; (try dsimp only at hSw); go_simp) <;> with_reducible rfl)
              · assumption
              simp only [Act.put, List.setIfInBounds_toArray, List.set_cons_zero, List.set_cons_succ]
              refine wpAnyH_take (i := 9) (oi := ?_) (v := ?_) ?_ ?_ ?_ ?_ ?_ ?_ ?_ ?_
              rotate_left 2
              · simp only [List.getElem?_toArray, List.getElem?_cons_succ, List.getElem?_cons_zero]; exact rfl
              · kernel_rfl
              · kernel_rfl
              · kernel_rfl
              · exact fun _ _ _ h => h
              · (refine Or.inl ⟨by rfl, ?_⟩; (intro w hSw; (try dsimp only at hSw); go_simp) <;> with_reducible rfl)
              · assumption
              simp only [Act.put, List.setIfInBounds_toArray, List.set_cons_zero, List.set_cons_succ]
              refine wpAnyH_ready (rs := [10, 22]) (by kernel_rfl) (by simp) ?_
              refine AllReadyH.cons rfl (fun K hK => ?_) (AllReadyH.cons rfl (fun K hK => ?_) (AllReadyH.nil))
              · skip
                go_simp
                refine hK.out _ _ ?_ (fun hHeld => ?_)
                · (try dsimp only); first | exact fwd_facts HS6.out HARG.out | exact fwd_facts HS5.out HARG.out | exact fwd_facts (HST.out.keep (by (repeat (first | exact Keep.refl _ _ | apply Keep.drew | apply Keep.drewN | apply Keep.alloc)))) HARG.out
                clear hK K
                refine wpAnyH_ready (rs := [22]) (by kernel_rfl) (by simp) ?_
                refine AllReadyH.cons rfl (fun K hK => ?_) (AllReadyH.nil)
                go_simp
                go_wp2_with ((first | go_at_call 22 | go_at_call 23); refine (HF.out j _ (by omega) hHeld.1 hHeld.2.1 hn0).mono ?_; rw [HPJ.out]; rintro e w' ⟨rfl, rfl⟩)
                refine hK.out _ _ ?_ (fun hHeld => ?_)
                · (try dsimp only); first | exact fwd_facts HS6.out HARG.out | exact fwd_facts HS5.out HARG.out | exact fwd_facts (HST.out.keep (by (repeat (first | exact Keep.refl _ _ | apply Keep.drew | apply Keep.drewN | apply Keep.alloc)))) HARG.out
                clear hK K
                refine wpAnyH_ready (rs := [23]) (by kernel_rfl) (by simp) ?_
                refine AllReadyH.cons rfl (fun K hK => ?_) (AllReadyH.nil)
                go_simp
                refine hK.out _ _ ?_ (fun hHeld => ?_)
                · (try dsimp only); first | exact fwd_facts HS6.out HARG.out | exact fwd_facts HS5.out HARG.out | exact fwd_facts (HST.out.keep (by (repeat (first | exact Keep.refl _ _ | apply Keep.drew | apply Keep.drewN | apply Keep.alloc)))) HARG.out
                clear hK K
                refine wpAnyH_ready (rs := [24]) (by kernel_rfl) (by simp) ?_
                refine AllReadyH.cons rfl (fun K hK => ?_) (AllReadyH.nil)
                rw [if_pos (by rfl)]
                (refine step_app (P := Try.prog) slInt _ _ rfl (S := G) (S2 := fun z => z = wr.heap.size) (n := y.aft.length) (xs := ints y.aft) (m := 1) (news := ints [(q : Int)]) rfl rfl ?_ ?_ rfl (ints_one _) (by omega) (by unfold maxLen; omega) ?_; (· exact (HOwn.out.keep (T := Nope) (((Keep.refl wr Nope).alloc _).drew) (fun _ _ f => f))); (· exact rd_one wr q); rintro a' k' c' w5 happ; obtain ⟨q1, q2⟩ := app_up (wr := wr) (by (repeat (first | exact Keep.refl _ _ | apply Keep.drew | apply Keep.drewN | apply Keep.alloc))) happ; have HNum := Lib.hid happ.num; have HS5 := Lib.hid (HUP.out w5 _ q1 q2); clear happ q1 q2; obtain ⟨g', hg', hlt5, hf5, hc5, hst5⟩ := HS5.out.store 2 rfl hn0; injection hg' with hg'; injection hg' with hg'; subst hg'; have hf57 := hf5 (p * 8 + 7); have hc57 := (hc5 (p * 8 + 7) (by omega)).trans HC7.out; have HS6 := Lib.hid (hst5 (p * 8 + 7) (.slice a' k' c')); clear hf5 hc5 hst5)
                refine hK.out _ _ ?_ (fun hHeld => ?_)
                · (try dsimp only); first | exact fwd_facts HS6.out HARG.out | exact fwd_facts HS5.out HARG.out | exact fwd_facts (HST.out.keep (by (repeat (first | exact Keep.refl _ _ | apply Keep.drew | apply Keep.drewN | apply Keep.alloc)))) HARG.out
                clear hK K
                refine wpAnyH_take (i := 25) (oi := ?_) (v := ?_) ?_ ?_ ?_ ?_ ?_ ?_ ?_ ?_
                rotate_left 2
                · simp only [List.getElem?_toArray, List.getElem?_cons_succ, List.getElem?_cons_zero]; exact rfl
                · kernel_rfl
                · kernel_rfl
                · kernel_rfl
                · exact fun _ _ _ h => h
                · (refine Or.inl ⟨by rfl, ?_⟩; (intro w hSw; (try dsimp only at hSw); go_simp) <;> with_reducible rfl)
                · assumption
                simp only [Act.put, List.setIfInBounds_toArray, List.set_cons_zero, List.set_cons_succ]
                refine wpAnyH_take (i := 26) (oi := ?_) (v := ?_) ?_ ?_ ?_ ?_ ?_ ?_ ?_ ?_
                rotate_left 2
                · simp only [List.getElem?_toArray, List.getElem?_cons_succ, List.getElem?_cons_zero]; exact rfl
                · kernel_rfl
                · kernel_rfl
                · kernel_rfl
                · exact fun _ _ _ h => h
                · (refine Or.inl ⟨by rfl, ?_⟩; (intro w hSw; (try dsimp only at hSw); go_simp) <;> with_reducible rfl)
                · assumption
                simp only [Act.put, List.setIfInBounds_toArray, List.set_cons_zero, List.set_cons_succ]
                refine wpAnyH_ready (rs := [27]) (by kernel_rfl) (by simp) ?_
                refine AllReadyH.cons rfl (fun K hK => ?_) (AllReadyH.nil)
                go_simp
                refine hK.out _ _ ?_ (fun hHeld => ?_)
                · (try dsimp only); first | exact fwd_facts HS6.out HARG.out | exact fwd_facts HS5.out HARG.out | exact fwd_facts (HST.out.keep (by (repeat (first | exact Keep.refl _ _ | apply Keep.drew | apply Keep.drewN | apply Keep.alloc)))) HARG.out
                clear hK K
                refine wpAnyH_done (by kernel_rfl) ?_ _
                go_wp2_with fail
                go_roundg (4 - (k + 1))
                case measure => have := HGK.out; omega
                case rel => exact ⟨k + 1, l.set p ⟨y.r, y.w, y.rr, y.rw', y.al, y.pl, y.cd, ⟨a', k', c'⟩, y.aft ++ [(q : Int)]⟩, by have := HGK.out; omega, by omega, by go_num, fwd_step HFS.out HGET.out hpn HS6.out HNum.out HIJ.out⟩
              · skip
                go_simp
                go_wp2_with ((first | go_at_call 22 | go_at_call 23); refine (HF.out j _ (by omega) hHeld.1 hHeld.2.1 hn0).mono ?_; rw [HPJ.out]; rintro e w' ⟨rfl, rfl⟩)
                refine hK.out _ _ ?_ (fun hHeld => ?_)
                · (try dsimp only); first | exact fwd_facts HS6.out HARG.out | exact fwd_facts HS5.out HARG.out | exact fwd_facts (HST.out.keep (by (repeat (first | exact Keep.refl _ _ | apply Keep.drew | apply Keep.drewN | apply Keep.alloc)))) HARG.out
                clear hK K
                refine wpAnyH_ready (rs := [10, 23]) (by kernel_rfl) (by simp) ?_
                refine AllReadyH.cons rfl (fun K hK => ?_) (AllReadyH.cons rfl (fun K hK => ?_) (AllReadyH.nil))
                · skip
                  go_simp
                  refine hK.out _ _ ?_ (fun hHeld => ?_)
                  · (try dsimp only); first | exact fwd_facts HS6.out HARG.out | exact fwd_facts HS5.out HARG.out | exact fwd_facts (HST.out.keep (by (repeat (first | exact Keep.refl _ _ | apply Keep.drew | apply Keep.drewN | apply Keep.alloc)))) HARG.out
                  clear hK K
                  refine wpAnyH_ready (rs := [23]) (by kernel_rfl) (by simp) ?_
                  refine AllReadyH.cons rfl (fun K hK => ?_) (AllReadyH.nil)
                  go_simp
                  refine hK.out _ _ ?_ (fun hHeld => ?_)
                  · (try dsimp only); first | exact fwd_facts HS6.out HARG.out | exact fwd_facts HS5.out HARG.out | exact fwd_facts (HST.out.keep (by (repeat (first | exact Keep.refl _ _ | apply Keep.drew | apply Keep.drewN | apply Keep.alloc)))) HARG.out
                  clear hK K
                  refine wpAnyH_ready (rs := [24]) (by kernel_rfl) (by simp) ?_
                  refine AllReadyH.cons rfl (fun K hK => ?_) (AllReadyH.nil)
                  rw [if_pos (by rfl)]
                  (refine step_app (P := Try.prog) slInt _ _ rfl (S := G) (S2 := fun z => z = wr.heap.size) (n := y.aft.length) (xs := ints y.aft) (m := 1) (news := ints [(q : Int)]) rfl rfl ?_ ?_ rfl (ints_one _) (by omega) (by unfold maxLen; omega) ?_; (· exact (HOwn.out.keep (T := Nope) (((Keep.refl wr Nope).alloc _).drew) (fun _ _ f => f))); (· exact rd_one wr q); rintro a' k' c' w5 happ; obtain ⟨q1, q2⟩ := app_up (wr := wr) (by (repeat (first | exact Keep.refl _ _ | apply Keep.drew | apply Keep.drewN | apply Keep.alloc))) happ; have HNum := Lib.hid happ.num; have HS5 := Lib.hid (HUP.out w5 _ q1 q2); clear happ q1 q2; obtain ⟨g', hg', hlt5, hf5, hc5, hst5⟩ := HS5.out.store 2 rfl hn0; injection hg' with hg'; injection hg' with hg'; subst hg'; have hf57 := hf5 (p * 8 + 7); have hc57 := (hc5 (p * 8 + 7) (by omega)).trans HC7.out; have HS6 := Lib.hid (hst5 (p * 8 + 7) (.slice a' k' c')); clear hf5 hc5 hst5)
                  refine hK.out _ _ ?_ (fun hHeld => ?_)
                  · (try dsimp only); first | exact fwd_facts HS6.out HARG.out | exact fwd_facts HS5.out HARG.out | exact fwd_facts (HST.out.keep (by (repeat (first | exact Keep.refl _ _ | apply Keep.drew | apply Keep.drewN | apply Keep.alloc)))) HARG.out
                  clear hK K
                  refine wpAnyH_take (i := 25) (oi := ?_) (v := ?_) ?_ ?_ ?_ ?_ ?_ ?_ ?_ ?_
                  rotate_left 2
                  · simp only [List.getElem?_toArray, List.getElem?_cons_succ, List.getElem?_cons_zero]; exact rfl
                  · kernel_rfl
                  · kernel_rfl
                  · kernel_rfl
                  · exact fun _ _ _ h => h
                  · (refine Or.inl ⟨by rfl, ?_⟩; (intro w hSw; (try dsimp only at hSw); go_simp) <;> with_reducible rfl)
                  · assumption
                  simp only [Act.put, List.setIfInBounds_toArray, List.set_cons_zero, List.set_cons_succ]
                  refine wpAnyH_take (i := 26) (oi := ?_) (v := ?_) ?_ ?_ ?_ ?_ ?_ ?_ ?_ ?_
                  rotate_left 2
                  · simp only [List.getElem?_toArray, List.getElem?_cons_succ, List.getElem?_cons_zero]; exact rfl
                  · kernel_rfl
                  · kernel_rfl
                  · kernel_rfl
                  · exact fun _ _ _ h => h
                  · (refine Or.inl ⟨by rfl, ?_⟩; (intro w hSw; (try dsimp only at hSw); go_simp) <;> with_reducible rfl)
                  · assumption
                  simp only [Act.put, List.setIfInBounds_toArray, List.set_cons_zero, List.set_cons_succ]
                  refine wpAnyH_ready (rs := [27]) (by kernel_rfl) (by simp) ?_
                  refine AllReadyH.cons rfl (fun K hK => ?_) (AllReadyH.nil)
                  go_simp
                  refine hK.out _ _ ?_ (fun hHeld => ?_)
                  · (try dsimp only); first | exact fwd_facts HS6.out HARG.out | exact fwd_facts HS5.out HARG.out | exact fwd_facts (HST.out.keep (by (repeat (first | exact Keep.refl _ _ | apply Keep.drew | apply Keep.drewN | apply Keep.alloc)))) HARG.out
                  clear hK K
                  refine wpAnyH_done (by kernel_rfl) ?_ _
                  go_wp2_with fail
                  go_roundg (4 - (k + 1))
                  case measure => have := HGK.out; omega
                  case rel => exact ⟨k + 1, l.set p ⟨y.r, y.w, y.rr, y.rw', y.al, y.pl, y.cd, ⟨a', k', c'⟩, y.aft ++ [(q : Int)]⟩, by have := HGK.out; omega, by omega, by go_num, fwd_step HFS.out HGET.out hpn HS6.out HNum.out HIJ.out⟩
                · skip
                  go_simp
                  refine hK.out _ _ ?_ (fun hHeld => ?_)
                  · (try dsimp only); first | exact fwd_facts HS6.out HARG.out | exact fwd_facts HS5.out HARG.out | exact fwd_facts (HST.out.keep (by (repeat (first | exact Keep.refl _ _ | apply Keep.drew | apply Keep.drewN | apply Keep.alloc)))) HARG.out
                  clear hK K
                  refine wpAnyH_ready (rs := [10]) (by kernel_rfl) (by simp) ?_
                  refine AllReadyH.cons rfl (fun K hK => ?_) (AllReadyH.nil)
                  go_simp
                  refine hK.out _ _ ?_ (fun hHeld => ?_)
                  · (try dsimp only); first | exact fwd_facts HS6.out HARG.out | exact fwd_facts HS5.out HARG.out | exact fwd_facts (HST.out.keep (by (repeat (first | exact Keep.refl _ _ | apply Keep.drew | apply Keep.drewN | apply Keep.alloc)))) HARG.out
                  clear hK K
                  refine wpAnyH_ready (rs := [24]) (by kernel_rfl) (by simp) ?_
                  refine AllReadyH.cons rfl (fun K hK => ?_) (AllReadyH.nil)
                  rw [if_pos (by rfl)]
                  (refine step_app (P := Try.prog) slInt _ _ rfl (S := G) (S2 := fun z => z = wr.heap.size) (n := y.aft.length) (xs := ints y.aft) (m := 1) (news := ints [(q : Int)]) rfl rfl ?_ ?_ rfl (ints_one _) (by omega) (by unfold maxLen; omega) ?_; (· exact (HOwn.out.keep (T := Nope) (((Keep.refl wr Nope).alloc _).drew) (fun _ _ f => f))); (· exact rd_one wr q); rintro a' k' c' w5 happ; obtain ⟨q1, q2⟩ := app_up (wr := wr) (by (repeat (first | exact Keep.refl _ _ | apply Keep.drew | apply Keep.drewN | apply Keep.alloc))) happ; have HNum := Lib.hid happ.num; have HS5 := Lib.hid (HUP.out w5 _ q1 q2); clear happ q1 q2; obtain ⟨g', hg', hlt5, hf5, hc5, hst5⟩ := HS5.out.store 2 rfl hn0; injection hg' with hg'; injection hg' with hg'; subst hg'; have hf57 := hf5 (p * 8 + 7); have hc57 := (hc5 (p * 8 + 7) (by omega)).trans HC7.out; have HS6 := Lib.hid (hst5 (p * 8 + 7) (.slice a' k' c')); clear hf5 hc5 hst5)
                  refine hK.out _ _ ?_ (fun hHeld => ?_)
                  · (try dsimp only); first | exact fwd_facts HS6.out HARG.out | exact fwd_facts HS5.out HARG.out | exact fwd_facts (HST.out.keep (by (repeat (first | exact Keep.refl _ _ | apply Keep.drew | apply Keep.drewN | apply Keep.alloc)))) HARG.out
                  clear hK K
                  refine wpAnyH_take (i := 25) (oi := ?_) (v := ?_) ?_ ?_ ?_ ?_ ?_ ?_ ?_ ?_
                  rotate_left 2
                  · simp only [List.getElem?_toArray, List.getElem?_cons_succ, List.getElem?_cons_zero]; exact rfl
                  · kernel_rfl
                  · kernel_rfl
                  · kernel_rfl
                  · exact fun _ _ _ h => h
                  · (refine Or.inl ⟨by rfl, ?_⟩; (intro w hSw; (try dsimp only at hSw); go_simp) <;> with_reducible rfl)
                  · assumption
                  simp only [Act.put, List.setIfInBounds_toArray, List.set_cons_zero, List.set_cons_succ]
                  refine wpAnyH_take (i := 26) (oi := ?_) (v := ?_) ?_ ?_ ?_ ?_ ?_ ?_ ?_ ?_
                  rotate_left 2
                  · simp only [List.getElem?_toArray, List.getElem?_cons_succ, List.getElem?_cons_zero]; exact rfl
                  · kernel_rfl
                  · kernel_rfl
                  · kernel_rfl
                  · exact fun _ _ _ h => h
                  · (refine Or.inl ⟨by rfl, ?_⟩; (intro w hSw; (try dsimp only at hSw); go_simp) <;> with_reducible rfl)
                  · assumption
                  simp only [Act.put, List.setIfInBounds_toArray, List.set_cons_zero, List.set_cons_succ]
                  refine wpAnyH_ready (rs := [27]) (by kernel_rfl) (by simp) ?_
                  refine AllReadyH.cons rfl (fun K hK => ?_) (AllReadyH.nil)
                  go_simp
                  refine hK.out _ _ ?_ (fun hHeld => ?_)
                  · (try dsimp only); first | exact fwd_facts HS6.out HARG.out | exact fwd_facts HS5.out HARG.out | exact fwd_facts (HST.out.keep (by (repeat (first | exact Keep.refl _ _ | apply Keep.drew | apply Keep.drewN | apply Keep.alloc)))) HARG.out
                  clear hK K
                  refine wpAnyH_done (by kernel_rfl) ?_ _
                  go_wp2_with fail
                  go_roundg (4 - (k + 1))
                  case measure => have := HGK.out; omega
                  case rel => exact ⟨k + 1, l.set p ⟨y.r, y.w, y.rr, y.rw', y.al, y.pl, y.cd, ⟨a', k', c'⟩, y.aft ++ [(q : Int)]⟩, by have := HGK.out; omega, by omega, by go_num, fwd_step HFS.out HGET.out hpn HS6.out HNum.out HIJ.out⟩
            · have hend : LoopF1 w bt bn g n t x (n - (i + 1)) (.int .i64 ((i + 1 : Nat) : Int)) wr := ⟨i + 1, l, by omega, rfl, HFS.out.le (by omega)⟩
              have HEND := Lib.hid hend; clear hend
              have hsz := HST.out.le
              by_cases hk1 : k < r.l.length
              · by_cases hk2 : k < 4
                · have hi0 : i = 0 := by omega
                  have hi0' : ¬ (0 : Int) < (i : Int) := by omega
                  have hi1' : ¬ 0 < i := by omega
                  have hi2' : decide (0 < i) = false := decide_eq_false hi1'
                  have hi3' : decide ((0 : Int) < (i : Int)) = false := decide_eq_false hi0'
                  have hk1' : (k : Int) < r.l.length := by omega
                  have hk2' : (k : Int) < 4 := by omega
                  have HI0 := Lib.hid hi0; clear hi0 hgo
                  go_wp2_with fail
                  go_roundg (n - (i + 1))
                  case measure => have := HGI.out; omega
                  case rel => have := HEND.out; exact this
                · have hk2' : ¬ (k : Int) < 4 := by omega
                  have hk1' : (k : Int) < r.l.length := by omega
                  clear hgo
                  go_wp2_with fail
                  go_roundg (n - (i + 1))
                  case measure => have := HGI.out; omega
                  case rel => have := HEND.out; exact this
              · have hk1' : ¬ (k : Int) < r.l.length := by omega
                clear hgo
                go_wp2_with fail
                go_roundg (n - (i + 1))
                case measure => have := HGI.out; omega
                case rel => have := HEND.out; exact this
        · have hR := fwd_ret HFS.out hn20
          have HR := Lib.hid hR; clear hR
          go_wp2_with fail
          go_ret
          exact HR.out
end Go.Proofs.Ytfjamllkjofdbaa
