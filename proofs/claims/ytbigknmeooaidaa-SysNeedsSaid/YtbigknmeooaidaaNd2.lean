/-
  SysNeeds: a made system may be, with one thing less it may not: the walk.
-/
import Derived.Test.YtbigknmeooaidaaMk8
namespace Go.Proofs.Ytbigknmeooaidaa
open Go Go.RowKit
set_option linter.unusedVariables false
set_option linter.unusedSimpArgs false

/-- An allocation, its block and the world behind it being names. -/
theorem step_alloc {P : Program} {t : TypeId} {Z : Array Value} {o : Oper} {a : Act} {w : World} {K : Act → World → Prop} {Q : Exit → Act → World → Prop} (ho : o.op = .alloc t)
    (hrun : ∀ w, (Instr.alloc t true (.tuple #[])).run P w = .ok (.pointer (some ⟨w.heap.size, 0, none⟩)) (w.alloc (.cells Z t)))
    (h : ∀ g w', w.heap.size ≤ g → Keep w w' Nope → Blk w' g Z t → K (a.put o.dst (.pointer (some ⟨g, 0, none⟩))) w') : Oper.wp P o a w K Q := by
  unfold Oper.wp execOp
  simp only [ho, Sem.run_bind, hrun, Result.andThen_ok, Sem.run_pure]
  exact h _ _ (Nat.le_refl _) ((Keep.refl w Nope).alloc _) (Blk.new w Z t)
/-- A store of a whole row, the world behind it being a name. -/
theorem step_store {P : Program} {o : Oper} {a : Act} {w : World} {K : Act → World → Prop} {Q : Exit → Act → World → Prop} (ty : TypeId) (x y : Operand) (ho : o.op = .store ty x y)
    (g : Nat) (cells : Array Value) (hx : a.eval x = .pointer (some ⟨g, 0, none⟩)) (hy : a.eval y = .agg cells) (t : TypeId) (old : Array Value) (hg : Blk w g old t) (hi : (P.info? ty).map (·.size) = some cells.size)
    (hold : old.size = cells.size) (h1 : cells.all (·.oneCell') = true)
    (h : ∀ w', Keep w w' (fun z => z = g) → Blk w' g cells t → K (a.put o.dst undef) w') : Oper.wp P o a w K Q :=
  wp_store_row ty x y ho g cells hx hy t old hg hi hold h1 (h _ ((Keep.refl w (fun z => z = g)).setRow (.inl rfl) cells) (setRow_heap _ _ _ _ _ _ hg))
def sysZ : Array Value := #[.slice none 0 0, .slice none 0 0, .slice none 0 0, .slice none 0 0, .bool false, .slice none 0 0, .slice none 0 0, .slice none 0 0]
theorem alloc_sys : ∀ w, (Instr.alloc 35 true (.tuple #[])).run Try.prog w = .ok (.pointer (some ⟨w.heap.size, 0, none⟩)) (w.alloc (.cells sysZ 35)) := by
  intro w
  have hz := Try.zeroValue35 w
  simp [Instr.alloc, hz, go_sem]
  rfl

/-- The description of one component. -/
def dPH : DescV := ⟨2, 3, 0⟩
theorem slDesc : SlTy Try.prog 54 58 3 24 := SlTy.mk' (.agg #[.int .i64 0, .int .i64 0, .int .i64 0]) Try.underlying54 (by kernel_rfl) rfl (by decide)
def SysN.row (x : SysN) : Array Value := #[.slice x.pa x.plan.length x.pc, .slice x.ca x.code.length x.cc, .slice x.fa x.after.length x.fc, .int .i64 x.use] ++ x.raw.x.cells.toArray
theorem SysRd.keepT {S T : Nat → Prop} {w w' : World} {y : SysF} (h : SysRd S w y) (hk : Keep w w' T) (hd : ∀ z, S z → T z → False) : SysRd S w' y :=
  ⟨⟨h.use.r.keep hk hd, h.use.w'.keep hk hd, h.use.rr.keep hk hd, h.use.rw'.keep hk hd⟩, h.pl.keep hk hd, h.cd.keep hk hd⟩
theorem SysRd.tight {S : Nat → Prop} {w : World} {y : SysF} (h : SysRd S w y) : SysRd (fun z => S z ∧ z < w.heap.size) w y :=
  ⟨⟨Rd.tight h.use.r, Rd.tight h.use.w', Rd.tight h.use.rr, Rd.tight h.use.rw'⟩, Rd.tight h.pl, Rd.tight h.cd⟩
theorem SysRd.mono {S T : Nat → Prop} {w : World} {y : SysF} (h : SysRd S w y) (hT : ∀ z, S z → T z) : SysRd T w y :=
  ⟨⟨h.use.r.mono hT, h.use.w'.mono hT, h.use.rr.mono hT, h.use.rw'.mono hT⟩, h.pl.mono hT, h.cd.mono hT⟩
def sysC (x : SysX) : Array Value := #[x.r.v, x.w.v, x.rr.v, x.rw'.v, .bool x.al, x.pl.v, x.cd.v, x.af.v]
def shortL (x : SysX) : Prop := x.r.l.length ≤ 10000 ∧ x.w.l.length ≤ 10000 ∧ x.rr.l.length ≤ 10000 ∧ x.rw'.l.length ≤ 10000
/-- A made system is handed back. -/
def RetMk (w : World) (dl : List DescV) (S : Nat → Prop) (en : Ending) (w' : World) : Prop :=
  ∃ y : SysF, en = .returned y.x.val ∧ MadeOk dl 2 y ∧ shortL y.x ∧ SysRd (fun z => S z ∨ (w.heap.size ≤ z ∧ z < w'.heap.size)) w' y ∧ Keep w w' Nope
theorem make_two (cf : CfgV) (x : SysN) (w : World) (S : Nat → Prop) (h : SysNRd S w x) (hd : RdDescs S w (.slice cf.ca cf.dl.length cf.cc) cf.dl) (hnd : cf.dl.length ≤ 60) (hrn : cf.rn = 2) (hu : x.use = 0) (haf : x.after.length * 8 ≤ 140737488355328) :
    Calls Try.prog 26 #[cf.val, x.val] w (RetMk w cf.dl S) := by
  refine (law_make cf x w S h hd hnd (fun hh => by rw [hu] at hh; simp at hh) haf).mono ?_
  rintro e w' ⟨y, rfl, hm, hr, hk⟩
  rw [hrn] at hm
  rcases hm with hm | ⟨hh, _⟩
  · exact ⟨y, rfl, hm.ok (by rw [hu]; decide), hm.short, hr.1.tight.mono (fun z hz => hz.1.imp id (fun h => ⟨h, hz.2⟩)), hk⟩
  · rw [hu] at hh
    simp at hh
theorem insesE_zero {nd : Nat} {x : SysX} {dl : List DescV} {pll : List ColV} : ∀ {l : List InsV}, insesE nd x dl pll l = 0 → ∀ i, i ∈ l → insE nd x dl pll i = 0
  | [], _, i, hi => by simp at hi
  | a :: t, h, i, hi => by
    unfold insesE at h
    by_cases h0 : insE nd x dl pll a = 0
    · rw [if_pos h0] at h
      rcases List.mem_cons.1 hi with rfl | hi
      · exact h0
      · exact insesE_zero h i hi
    · rw [if_neg h0] at h
      exact (h0 h).elim
theorem insesE_19 {nd : Nat} {x : SysX} {dl : List DescV} {pll : List ColV} : ∀ {l : List InsV}, (∀ i, i ∈ l → insE nd x dl pll i = 0 ∨ insE nd x dl pll i = 19) → (∃ i, i ∈ l ∧ insE nd x dl pll i = 19) → insesE nd x dl pll l = 19
  | [], _, ⟨i, hi, _⟩ => by simp at hi
  | a :: t, h, ⟨i, hi, h2⟩ => by
    unfold insesE
    by_cases h0 : insE nd x dl pll a = 0
    · rw [if_pos h0]
      rcases List.mem_cons.1 hi with rfl | hi
      · rw [h0] at h2
        exact absurd h2 (by decide)
      · exact insesE_19 (fun i hi => h i (by simp [hi])) ⟨i, hi, h2⟩
    · rw [if_neg h0]
      rcases h a (by simp) with h3 | h3
      · exact (h0 h3).elim
      · exact h3
theorem sysE_parts {dl : List DescV} {nr : Nat} {y : SysF} (h : sysE dl nr y = 0) : ∀ i, i ∈ y.cdl → insE dl.length y.x dl y.pll i = 0 := by
  unfold sysE at h
  by_cases hp : planE dl.length y.pll = 0
  · rw [if_pos hp] at h
    by_cases hc : codeE y.cdl = 0
    · rw [if_pos hc] at h
      by_cases hu : usesE dl.length nr y.x y.pll = 0
      · rw [if_pos hu] at h
        exact insesE_zero h
      · rw [if_neg hu] at h
        exact (hu h).elim
    · rw [if_neg hc] at h
      exact (hc h).elim
  · rw [if_neg hp] at h
    exact (hp h).elim
/-- What an instruction of a fitting system answers when less is declared. -/
theorem insE_less {nd : Nat} {x x' : SysX} {dl : List DescV} {pll : List ColV} {i : InsV} (h : insE nd x dl pll i = 0) : insE nd x' dl pll i = 0 ∨ insE nd x' dl pll i = 19 := by
  unfold insE at h ⊢
  by_cases h7 : (i.op == 7 || i.op == 8 || i.op == 9 || i.op == 10) = true
  · rw [if_pos h7] at h ⊢
    exact .inl h
  · rw [if_neg h7] at h ⊢
    by_cases h11 : (i.op == 11) = true
    · rw [if_pos h11]
      cases hasI i.n (x'.rr.l ++ x'.rw'.l)
      · exact .inr rfl
      · exact .inl rfl
    · rw [if_neg h11] at h ⊢
      by_cases h12 : (i.op == 12) = true
      · rw [if_pos h12]
        cases hasI i.n x'.rw'.l
        · exact .inr rfl
        · exact .inl rfl
      · rw [if_neg h12] at h ⊢
        by_cases h16 : (i.op == 16 || i.op == 17) = true
        · rw [if_pos h16] at h ⊢
          by_cases hd : decide (i.n ≥ (nd : Int)) = true
          · rw [if_pos hd] at h
            exact absurd h (by decide)
          · rw [if_neg hd]
            cases x'.al
            · exact .inr rfl
            · exact .inl rfl
        · rw [if_neg h16]
          by_cases h14 : (i.op == 14 || i.op == 15) = true
          · rw [if_pos h14]
            cases x'.al
            · exact .inr rfl
            · exact .inl rfl
          · rw [if_neg h14]
            exact .inl rfl
theorem insE_12 {nd : Nat} {x : SysX} {dl : List DescV} {pll : List ColV} {i : InsV} (ho : i.op = 12) (hn : ¬ i.n ∈ x.rw'.l) : insE nd x dl pll i = 19 := by
  unfold insE
  rw [ho, if_neg (by decide), if_neg (by decide), if_pos (by decide), show hasI i.n x.rw'.l = false from by unfold hasI; rw [show hasL x.rw'.l i.n = false from hasL_no.2 hn]; simp]
  rfl
theorem insE_al {nd : Nat} {x x' : SysX} {dl : List DescV} {pll : List ColV} {i : InsV} (h : insE nd x dl pll i = 0) (ho : 14 ≤ i.op ∧ i.op ≤ 17) (ha : x'.al = false) : insE nd x' dl pll i = 19 := by
  unfold insE at h ⊢
  have e : ∀ k : Int, k < 14 → (i.op == k) = false := fun k hk => by simp; omega
  rw [e 7 (by decide), e 8 (by decide), e 9 (by decide), e 10 (by decide), e 11 (by decide), e 12 (by decide)] at h ⊢
  rw [if_neg (by decide), if_neg (by decide), if_neg (by decide)] at h ⊢
  by_cases h16 : (i.op == 16 || i.op == 17) = true
  · rw [if_pos h16] at h ⊢
    by_cases hd : decide (i.n ≥ (nd : Int)) = true
    · rw [if_pos hd] at h
      exact absurd h (by decide)
    · rw [if_neg hd, ha]
      rfl
  · have h14 : (i.op == 14 || i.op == 15) = true := by
      simp at h16 ⊢
      omega
    rw [if_neg h16, if_pos h14, ha]
    rfl
theorem pw_ne : ∀ {L : List ColV}, L.Pairwise (fun a b => a.comp ≠ b.comp) → ∀ a, a ∈ L → ∀ b, b ∈ L → a ≠ b → a.comp ≠ b.comp
  | [], _, a, ha, _, _, _ => by simp at ha
  | x :: t, h, a, ha, b, hb, hab => by
    obtain ⟨h1, h2⟩ := List.pairwise_cons.1 h
    rcases List.mem_cons.1 ha with rfl | ha'
    · rcases List.mem_cons.1 hb with rfl | hb'
      · exact (hab rfl).elim
      · exact h1 b hb'
    · rcases List.mem_cons.1 hb with rfl | hb'
      · exact fun e => h1 a ha' e.symm
      · exact pw_ne h2 a ha' b hb' hab
theorem compsF_apart {nd : Nat} {L : List ColV} (h : Tame17 nd L) {z : Int} (h1 : z ∈ compsF [1, 3, 4] L) (h2 : z ∈ compsF [2] L) : False := by
  obtain ⟨L0, U, sm, hT, _, rfl⟩ := h
  obtain ⟨c1, m1, k1, rfl⟩ := compsF_mem.1 h1
  obtain ⟨c2, m2, k2, e⟩ := compsF_mem.1 h2
  have hin : ∀ c : ColV, c ∈ (if sm then L0 else L0 ++ [⟨5, 0⟩]) → c.kind ≠ 5 → c ∈ L0 := by
    intro c hc hk
    cases sm
    · rcases List.mem_append.1 hc with hc | hc
      · exact hc
      · simp at hc
        rw [hc] at hk
        exact (hk rfl).elim
    · exact hc
  have n1 := hin c1 m1 (by intro h5; rw [h5] at k1; revert k1; decide)
  have n2 := hin c2 m2 (by intro h5; rw [h5] at k2; revert k2; decide)
  by_cases hc : c1 = c2
  · subst hc
    simp at k1 k2
    omega
  · exact pw_ne hT.nodup c1 n1 c2 n2 hc e.symm
/-- A made system with one thing less. -/
theorem MadeOk.less {dl : List DescV} {res nr : Nat} {y : SysF} (h : MadeOk dl res y) (hres : res = min nr 32) {x' : SysX}
    (hr : List.Sublist x'.r.l y.x.r.l) (hw : List.Sublist x'.w.l y.x.w.l) (hrr : x'.rr.l = y.x.rr.l) (hrw : List.Sublist x'.rw'.l y.x.rw'.l)
    (hless : (∃ z, z ∈ y.x.w.l ∧ ¬ z ∈ x'.w.l) ∨ (∃ z, z ∈ y.x.r.l ∧ ¬ z ∈ x'.r.l) ∨ (∃ z, z ∈ y.x.rw'.l ∧ ¬ z ∈ x'.rw'.l) ∨ (y.x.al = true ∧ x'.al = false)) : sysE dl nr ⟨x', y.pll, y.cdl⟩ = 19 := by
  have h0 := sysE_parts (h.zero hres)
  have e1 := risB_of (b := (dl.length : Int)) x'.r.l (-1) (List.Pairwise.sublist hr h.r.1) (fun z hz => by
    have := compsF_range h.plan [1, 3, 4] (by decide) z ((h.r.2 z).1 (hr.subset hz))
    omega)
  have e2 := risB_of (b := (dl.length : Int)) x'.w.l (-1) (List.Pairwise.sublist hw h.w'.1) (fun z hz => by
    have := compsF_range h.plan [2] (by decide) z ((h.w'.2 z).1 (hw.subset hz))
    omega)
  have e3 := risB_of (b := ((min nr 32 : Nat) : Int)) x'.rr.l (-1) (by rw [hrr]; exact h.rr.1) (fun z hz => by
    rw [hrr] at hz
    have := h.resR 11 (.inl rfl) z ((h.rr.2 z).1 hz)
    omega)
  have e4 := risB_of (b := ((min nr 32 : Nat) : Int)) x'.rw'.l (-1) (List.Pairwise.sublist hrw h.rw'.1) (fun z hz => by
    have := h.resR 12 (.inr rfl) z ((h.rw'.2 z).1 (hrw.subset hz))
    omega)
  unfold sysE
  simp only
  rw [if_pos h.plan.planE, if_pos h.code]
  have hu : usesE dl.length nr x' y.pll = if !(inB (compsF [2] y.pll) x'.w.l) || !(inB (compsF [1, 3, 4] y.pll) (x'.r.l ++ x'.w.l)) then 19 else 0 := by
    unfold usesE
    rw [e1, e2, e3, e4]
    rfl
  rw [hu]
  cases hb : !(inB (compsF [2] y.pll) x'.w.l) || !(inB (compsF [1, 3, 4] y.pll) (x'.r.l ++ x'.w.l))
  · simp only [Bool.false_eq_true, if_false, if_true]
    simp only [Bool.or_eq_false_iff, Bool.not_eq_false'] at hb
    obtain ⟨b1, b2⟩ := hb
    have b1 := inB_iff.1 b1
    have b2 := inB_iff.1 b2
    refine insesE_19 (fun i hi => insE_less (h0 i hi)) ?_
    rcases hless with ⟨z, h1, h2⟩ | ⟨z, h1, h2⟩ | ⟨z, h1, h2⟩ | ⟨h1, h2⟩
    · exact (h2 (b1 z ((h.w'.2 z).1 h1))).elim
    · have hz := (h.r.2 z).1 h1
      rcases List.mem_append.1 (b2 z hz) with h3 | h3
      · exact (h2 h3).elim
      · exact (compsF_apart h.plan hz ((h.w'.2 z).1 (hw.subset h3))).elim
    · obtain ⟨i, hi, ho, hn⟩ := (h.rw'.2 z).1 h1
      exact ⟨i, hi, insE_12 ho (by rw [hn]; exact h2)⟩
    · rw [h.al, List.any_eq_true] at h1
      obtain ⟨i, hi, ho⟩ := h1
      simp only [Bool.and_eq_true, decide_eq_true_eq] at ho
      exact ⟨i, hi, insE_al (h0 i hi) ho h2⟩
  · rfl
/-- A rising row without one of its numbers. -/
theorem rises_cut {l : List Int} (h : Rises l) (k : Nat) (hk : k < l.length) : l[k] ∈ l ∧ ¬ l[k] ∈ l.take k ++ l.drop (k + 1) ∧ List.Sublist (l.take k ++ l.drop (k + 1)) l := by
  have hp : l.Pairwise (fun a b => a < b) := h
  have e : l = l.take k ++ l[k] :: l.drop (k + 1) := by rw [List.getElem_cons_drop, List.take_append_drop]
  refine ⟨List.getElem_mem hk, ?_, ?_⟩
  · rw [e, List.pairwise_append] at hp
    obtain ⟨_, h2, h3⟩ := hp
    intro hm
    rcases List.mem_append.1 hm with hm | hm
    · have := h3 _ hm l[k] List.mem_cons_self
      omega
    · have := (List.pairwise_cons.1 h2).1 _ hm
      omega
  · conv => rhs; rw [e]
    exact List.Sublist.append (List.Sublist.refl _) (List.sublist_cons_self _ _)
theorem and_modn (x : Int) (p : Nat) (m : Int) (hp : p ≤ 62) (hm : m = ((2 ^ p - 1 : Nat) : Int)) (n : Nat) (hn : 0 < n) : ∃ k : Nat, (bits .and .i64 x m).tmod (n : Int) = (k : Int) ∧ k < n := by
  rw [and_mask x p m hp hm]
  have h1 : 0 ≤ x % ((2 ^ p : Nat) : Int) := Int.emod_nonneg _ (by have := Nat.two_pow_pos p; omega)
  obtain ⟨q, hq⟩ : ∃ q : Nat, x % ((2 ^ p : Nat) : Int) = (q : Int) := ⟨(x % ((2 ^ p : Nat) : Int)).toNat, by omega⟩
  rw [hq, Int.tmod_eq_emod_of_nonneg (by omega)]
  exact ⟨q % n, by norm_cast, Nat.mod_lt _ hn⟩
theorem rd_cap {S : Nat → Prop} {w : World} {a : Option Addr} {n c : Nat} {xs : List Value} (h : Rd S w (.slice a n c) n xs) : n ≤ c := by
  obtain ⟨a', c', he, h1, h2, h3, h4⟩ := h
  injection he with e1 e2 e3
  omega
theorem rises_tail {l : List Int} (h : Rises l) (h0 : 0 < l.length) : ∃ z, z ∈ l ∧ ¬ z ∈ l.drop 1 := by
  obtain ⟨h1, h2, _⟩ := rises_cut h 0 h0
  exact ⟨_, h1, fun hm => h2 (List.mem_append.2 (.inr hm))⟩
theorem nd_app5 {w6 wc w5 : World} {e : TypeId} {size b0 m k : Nat} {v y : Value} {news : List Value} (hk : Keep w6 wc Nope) (hb : w6.heap.size ≤ b0) (happ : App (fun z => z = b0) wc w5 e size v y 0 m k [] news) :
    Own (fun z => w6.heap.size ≤ z) w5 e size y k news ∧ Keep w6 w5 Nope := by
  have h := happ.own
  rw [List.nil_append] at h
  exact ⟨h.mono (fun i hi => hi.elim (fun e => e ▸ hb) (fun e => Nat.le_trans hk.size e.1)), hk.trans happ.keep (fun i hi => .inr (hi ▸ hb))⟩
theorem nd_app {w6 wc w5 : World} {e : TypeId} {size n m k : Nat} {v y : Value} {xs news : List Value} (hk : Keep w6 wc Nope) (happ : App (fun z => w6.heap.size ≤ z) wc w5 e size v y n m k xs news) :
    Own (fun z => w6.heap.size ≤ z) w5 e size y k (xs ++ news) ∧ Keep w6 w5 Nope :=
  ⟨happ.own.mono (fun i hi => hi.elim id (fun e => Nat.le_trans hk.size e.1)), hk.trans happ.keep (fun i hi => .inr hi)⟩
def LoopD3 (w : World) (B : List Asr) (gc : Nat) (rsv : Value) (N : Nat) (g : Nat) (v8 : Value) (wr : World) : Prop :=
  ∃ (i : Nat) (a : Option Addr) (c : Nat) (dl : List DescV), g + i = N ∧ v8 = .int .i64 i ∧ dl.length = i ∧ St w wr (B ++ [blkA gc #[.int .i64 5, .int .i64 5, .slice a i c, rsv] 56, slA 58 3 (.slice a i c) i (dl.flatMap DescV.cells)])

set_option maxRecDepth 5000 in
set_option maxHeartbeats 8000000 in
theorem sysNeeds_walk (v : Value) (ds : List Int) (x : SysN) (n0 : Int) (w : World) (S S0 : Nat → Prop) (hds : Rd S0 w v ds.length (ints ds)) (hx : SysNRd S w x) (hS : ∀ z, S z → z < w.heap.size) (hxa : x.after.length * 8 ≤ 140737488355328) :
    Calls Try.prog 7 #[v, x.val, .int .i64 n0] w (fun e w' => e = .returned (.bool true) ∧ Keep w w' Nope) := by
  obtain ⟨da, dc, rfl, d1, d2, d3, d4⟩ := id hds
  have hDL : ds.length ≤ 9223372036854775807 := by unfold maxLen at d2; omega
  have HX := Lib.hid hx
  have HD := Lib.hid hds
  clear hx hds d1 d2 d3 d4
  obtain ⟨N, hN⟩ : ∃ N : Nat, N = min (ds.length / 2) 8 := ⟨_, rfl⟩
  unfold SysN.val
  go_enter Try.func7, Try.ntmps7
  simp only [SysX.cells, RowV.v, SlV.v, List.append_toArray, List.cons_append, List.nil_append]
  go_upto_region 3 with (fail)
  have h0 := (((St.start w).box #[.slice x.pa x.plan.length x.pc, .slice x.ca x.code.length x.cc, .slice x.fa x.after.length x.fc, .int .i64 0, .slice x.raw.x.r.a x.raw.x.r.l.length x.raw.x.r.c, .slice x.raw.x.w.a x.raw.x.w.l.length x.raw.x.w.c, .slice x.raw.x.rr.a x.raw.x.rr.l.length x.raw.x.rr.c, .slice x.raw.x.rw'.a x.raw.x.rw'.l.length x.raw.x.rw'.c, .bool x.raw.x.al, .slice x.raw.x.pl.a x.raw.x.pl.n x.raw.x.pl.c, .slice x.raw.x.cd.a x.raw.x.cd.n x.raw.x.cd.c, .slice x.raw.x.af.a x.raw.x.af.l.length x.raw.x.af.c] 52).box #[.int .i64 1, .int .i64 2] 2).box #[.int .i64 5, .int .i64 5, .slice none 0 0, .slice (some ⟨w.heap.size + 1, 0, none⟩) 2 2] 56
  simp only [World.size_alloc] at h0
  obtain ⟨w1, hw1⟩ : ∃ w1, w1 = ((w.alloc (.cells #[.slice x.pa x.plan.length x.pc, .slice x.ca x.code.length x.cc, .slice x.fa x.after.length x.fc, .int .i64 0, .slice x.raw.x.r.a x.raw.x.r.l.length x.raw.x.r.c, .slice x.raw.x.w.a x.raw.x.w.l.length x.raw.x.w.c, .slice x.raw.x.rr.a x.raw.x.rr.l.length x.raw.x.rr.c, .slice x.raw.x.rw'.a x.raw.x.rw'.l.length x.raw.x.rw'.c, .bool x.raw.x.al, .slice x.raw.x.pl.a x.raw.x.pl.n x.raw.x.pl.c, .slice x.raw.x.cd.a x.raw.x.cd.n x.raw.x.cd.c, .slice x.raw.x.af.a x.raw.x.af.l.length x.raw.x.af.c] 52)).alloc (.cells #[.int .i64 1, .int .i64 2] 2)).alloc (.cells #[.int .i64 5, .int .i64 5, .slice none 0 0, .slice (some ⟨w.heap.size + 1, 0, none⟩) 2 2] 56) := ⟨_, rfl⟩
  rw [← hw1] at h0 ⊢
  obtain ⟨g0, hg0⟩ : ∃ g, g = w.heap.size := ⟨_, rfl⟩
  rw [← hg0] at h0 ⊢
  obtain ⟨g2, hg2⟩ : ∃ g, g = g0 + 1 := ⟨_, rfl⟩
  rw [← hg2] at h0 ⊢
  obtain ⟨g3, hg3⟩ : ∃ g, g = g2 + 1 := ⟨_, rfl⟩
  rw [← hg3] at h0 ⊢
  have h0' := h0.add (Keep.refl _ _) (A := slA 58 3 (.slice none 0 0) 0 (([] : List DescV).flatMap DescV.cells)) (Own.nil _ _ _ _)
  have H0 := Lib.hid (show St w w1 ([blkA g0 #[.slice x.pa x.plan.length x.pc, .slice x.ca x.code.length x.cc, .slice x.fa x.after.length x.fc, .int .i64 0, .slice x.raw.x.r.a x.raw.x.r.l.length x.raw.x.r.c, .slice x.raw.x.w.a x.raw.x.w.l.length x.raw.x.w.c, .slice x.raw.x.rr.a x.raw.x.rr.l.length x.raw.x.rr.c, .slice x.raw.x.rw'.a x.raw.x.rw'.l.length x.raw.x.rw'.c, .bool x.raw.x.al, .slice x.raw.x.pl.a x.raw.x.pl.n x.raw.x.pl.c, .slice x.raw.x.cd.a x.raw.x.cd.n x.raw.x.cd.c, .slice x.raw.x.af.a x.raw.x.af.l.length x.raw.x.af.c] 52, blkA g2 #[.int .i64 1, .int .i64 2] 2] ++ [blkA g3 #[.int .i64 5, .int .i64 5, .slice none 0 0, .slice (some ⟨g2, 0, none⟩) 2 2] 56, slA 58 3 (.slice none 0 0) 0 (([] : List DescV).flatMap DescV.cells)]) from h0')
  have HGS := Lib.hid (And.intro hg0 (And.intro hg2 hg3))
  have HN := Lib.hid hN
  have hN8 : N ≤ 8 := by omega
  have hN2 : 2 * N ≤ ds.length := by omega
  have hNb : ∀ i : Nat, i ≤ N → ¬ i < N → i = 8 ∨ ds.length ≤ 2 * i + 1 := by intro i _ _; omega
  clear h0 h0' hw1 hg0 hg2 hg3 hN
  go_wp2_with fail
  go_loopg [8] N (fun g v8 wr => LoopD3 w [blkA g0 #[.slice x.pa x.plan.length x.pc, .slice x.ca x.code.length x.cc, .slice x.fa x.after.length x.fc, .int .i64 0, .slice x.raw.x.r.a x.raw.x.r.l.length x.raw.x.r.c, .slice x.raw.x.w.a x.raw.x.w.l.length x.raw.x.w.c, .slice x.raw.x.rr.a x.raw.x.rr.l.length x.raw.x.rr.c, .slice x.raw.x.rw'.a x.raw.x.rw'.l.length x.raw.x.rw'.c, .bool x.raw.x.al, .slice x.raw.x.pl.a x.raw.x.pl.n x.raw.x.pl.c, .slice x.raw.x.cd.a x.raw.x.cd.n x.raw.x.cd.c, .slice x.raw.x.af.a x.raw.x.af.l.length x.raw.x.af.c] 52, blkA g2 #[.int .i64 1, .int .i64 2] 2] g3 (.slice (some ⟨g2, 0, none⟩) 2 2) N g v8 wr)
  case atStart => exact ⟨0, none, 0, [], by omega, rfl, rfl, H0.out⟩
  case round =>
    obtain ⟨i, a, c, dl, hg, rfl, hdl, hst⟩ := hrel
    clear H0
    have HG := Lib.hid hg
    have HDL := Lib.hid hdl
    have hiN : i ≤ N := by omega
    have H1 := Lib.hid (show St w wr [blkA g0 #[.slice x.pa x.plan.length x.pc, .slice x.ca x.code.length x.cc, .slice x.fa x.after.length x.fc, .int .i64 0, .slice x.raw.x.r.a x.raw.x.r.l.length x.raw.x.r.c, .slice x.raw.x.w.a x.raw.x.w.l.length x.raw.x.w.c, .slice x.raw.x.rr.a x.raw.x.rr.l.length x.raw.x.rr.c, .slice x.raw.x.rw'.a x.raw.x.rw'.l.length x.raw.x.rw'.c, .bool x.raw.x.al, .slice x.raw.x.pl.a x.raw.x.pl.n x.raw.x.pl.c, .slice x.raw.x.cd.a x.raw.x.cd.n x.raw.x.cd.c, .slice x.raw.x.af.a x.raw.x.af.l.length x.raw.x.af.c] 52, blkA g2 #[.int .i64 1, .int .i64 2] 2, blkA g3 #[.int .i64 5, .int .i64 5, .slice a i c, .slice (some ⟨g2, 0, none⟩) 2 2] 56, slA 58 3 (.slice a i c) i (dl.flatMap DescV.cells)] from hst)
    clear hg hst hdl
    by_cases hlt : i < N
    · have hI1 : (2 : Int) * i + 1 < ds.length := by omega
      have hI2 : (i : Int) < 8 := by omega
      obtain ⟨x0, hx0⟩ : ∃ x, ds[2 * i]? = some x := ⟨_, List.getElem?_eq_getElem (by omega)⟩
      obtain ⟨x1, hx1⟩ : ∃ x, ds[2 * i + 1]? = some x := ⟨_, List.getElem?_eq_getElem (by omega)⟩
      obtain ⟨bo, oo, ⟨c', hv⟩, _, hd0⟩ := HD.out.int hx0
      obtain ⟨bo', oo', ⟨c2', hv'⟩, _, hd1⟩ := HD.out.int hx1
      injection hv with hv1 hv2 hv3
      injection hv' with hv1' hv2' hv3'
      rw [hv1] at hv1'
      injection hv1' with hq
      injection hq with hq1 hq2
      subst hq1 hq2
      subst hv1; subst hv3; clear hv2 hv2' hv3' hx0 hx1
      have hc0 := (Keep.ofSt H1.out).cell hd0 (fun f => f)
      have hc1 := (Keep.ofSt H1.out).cell hd1 (fun f => f)
      obtain ⟨X0, hX0, hX0l⟩ : ∃ k : Nat, (bits .and .i64 x0 255).tmod 3 = (k : Int) ∧ k < 3 := and_modn x0 8 255 (by decide) rfl 3 (by decide)
      obtain ⟨X1, hX1, hX1l⟩ : ∃ k : Nat, (bits .and .i64 x1 255).tmod 3 = (k : Int) ∧ k < 3 := and_modn x1 8 255 (by decide) rfl 3 (by decide)
      obtain ⟨j, hj⟩ : ∃ j, j = 2 * i := ⟨_, rfl⟩
      obtain ⟨jj, hjj⟩ : ∃ j, j = 2 * i + 1 := ⟨_, rfl⟩
      rw [← hj] at hc0 hd0 
      rw [← hjj] at hc1 hd1
      have hw1 : IntKind.i64.wrap (2 * (i : Int)) = (j : Int) := by rw [show (2 * (i : Int)) = (j : Int) by omega]; exact IntWalk.i64_in _ (by omega)
      have hw2 : IntKind.i64.wrap ((j : Int) + 1) = (jj : Int) := by rw [show ((j : Int) + 1) = (jj : Int) by omega]; exact IntWalk.i64_in _ (by omega)
      obtain ⟨D0, hD0⟩ : ∃ D : Int, IntKind.i64.wrap ((X0 : Int) + 1) = D := ⟨_, rfl⟩
      obtain ⟨D1, hD1⟩ : ∃ D : Int, IntKind.i64.wrap ((X1 : Int) + 1) = D := ⟨_, rfl⟩
      have hjl : (j : Int) < ds.length := by omega
      have hjjl : (jj : Int) < ds.length := by omega
      have HD0 := Lib.hid hd0
      have HD1 := Lib.hid hd1
      clear hj hjj
      have s2 := (H1.out.blk 2 rfl).cell 2
      simp at s2
      obtain ⟨G, hown, _, hup, _⟩ := H1.out.opens 3 rfl
      have HOwn := Lib.hid (show Own G wr 58 3 (.slice a i c) i (dl.flatMap DescV.cells) from hown)
      have HUP := Lib.hid hup
      clear hown hup hd0 hd1
      go_upto_region 6 with (fail)
      refine wp_region_M (r := 22) (S := fun w' => w'.cell? ⟨g3, 2, none⟩ = some (.slice a i c) ∧ w'.cell? ⟨bo, oo + j, none⟩ = some (.int .i64 x0) ∧ w'.cell? ⟨bo, oo + jj, none⟩ = some (.int .i64 x1)) (by kernel_rfl) ?_ (fun hHeld => ?_)
      · (try dsimp only); go_keep
      (refine wpAnyM_takeP (i := 0) (oi := ?_) (v := ?_) ?_ ?_ ?_ ?_ ?_ ?_ ?_ ?_ ?_; rotate_left 2; (· simp only [List.getElem?_toArray, List.getElem?_cons_succ, List.getElem?_cons_zero]; exact rfl); (· kernel_rfl); (· kernel_rfl); (· kernel_rfl); (· kernel_rfl); (· first | exact fun _ _ _ h => h | exact fun _ _ _ h => (HPan.out _ _ _ h).elim); (· (refine Or.inl ⟨by rfl, ?_⟩; (intro w hSw; (try dsimp only at hSw); go_simp) <;> with_reducible rfl)); (· exact fun _ => hHeld); simp only [Act.put, List.setIfInBounds_toArray, List.set_cons_zero, List.set_cons_succ])
      (refine wpAnyM_take (i := 1) (oi := ?_) (v := ?_) ?_ ?_ ?_ ?_ ?_ ?_ ?_ ?_ ?_ ?_; rotate_left 2; (· simp only [List.getElem?_toArray, List.getElem?_cons_succ, List.getElem?_cons_zero]; exact rfl); (· kernel_rfl); (· kernel_rfl); (· kernel_rfl); (· kernel_rfl); (· kernel_rfl); (· first | exact fun _ _ _ h => h | exact fun _ _ _ h => (HPan.out _ _ _ h).elim); (· (refine Or.inl ⟨by rfl, ?_⟩; (intro w hSw; (try dsimp only at hSw); go_simp) <;> with_reducible rfl)); (· assumption); simp only [Act.put, List.setIfInBounds_toArray, List.set_cons_zero, List.set_cons_succ])
      (refine wpAnyM_takeP (i := 2) (oi := ?_) (v := ?_) ?_ ?_ ?_ ?_ ?_ ?_ ?_ ?_ ?_; rotate_left 2; (· simp only [List.getElem?_toArray, List.getElem?_cons_succ, List.getElem?_cons_zero]; exact rfl); (· kernel_rfl); (· kernel_rfl); (· kernel_rfl); (· kernel_rfl); (· first | exact fun _ _ _ h => h | exact fun _ _ _ h => (HPan.out _ _ _ h).elim); (· (refine Or.inl ⟨by rfl, ?_⟩; (intro w hSw; (try dsimp only at hSw); go_simp) <;> with_reducible rfl)); (· exact fun _ => hHeld); simp only [Act.put, List.setIfInBounds_toArray, List.set_cons_zero, List.set_cons_succ])
      (refine wpAnyM_takeP (i := 3) (oi := ?_) (v := ?_) ?_ ?_ ?_ ?_ ?_ ?_ ?_ ?_ ?_; rotate_left 2; (· simp only [List.getElem?_toArray, List.getElem?_cons_succ, List.getElem?_cons_zero]; exact rfl); (· kernel_rfl); (· kernel_rfl); (· kernel_rfl); (· kernel_rfl); (· first | exact fun _ _ _ h => h | exact fun _ _ _ h => (HPan.out _ _ _ h).elim); (· (refine Or.inl ⟨by rfl, ?_⟩; (intro w hSw; (try dsimp only at hSw); go_simp) <;> with_reducible rfl)); (· exact fun _ => hHeld); simp only [Act.put, List.setIfInBounds_toArray, List.set_cons_zero, List.set_cons_succ])
      (refine wpAnyM_takeP (i := 4) (oi := ?_) (v := ?_) ?_ ?_ ?_ ?_ ?_ ?_ ?_ ?_ ?_; rotate_left 2; (· simp only [List.getElem?_toArray, List.getElem?_cons_succ, List.getElem?_cons_zero]; exact rfl); (· kernel_rfl); (· kernel_rfl); (· kernel_rfl); (· kernel_rfl); (· first | exact fun _ _ _ h => h | exact fun _ _ _ h => (HPan.out _ _ _ h).elim); (· (refine Or.inl ⟨by rfl, ?_⟩; (intro w hSw; (try dsimp only at hSw); go_simp) <;> with_reducible rfl)); (· exact fun _ => hHeld); simp only [Act.put, List.setIfInBounds_toArray, List.set_cons_zero, List.set_cons_succ])
      (refine wpAnyM_takeP (i := 5) (oi := ?_) (v := ?_) ?_ ?_ ?_ ?_ ?_ ?_ ?_ ?_ ?_; rotate_left 2; (· simp only [List.getElem?_toArray, List.getElem?_cons_succ, List.getElem?_cons_zero]; exact rfl); (· kernel_rfl); (· kernel_rfl); (· kernel_rfl); (· kernel_rfl); (· first | exact fun _ _ _ h => h | exact fun _ _ _ h => (HPan.out _ _ _ h).elim); (· (refine Or.inl ⟨by rfl, ?_⟩; (intro w hSw; (try dsimp only at hSw); go_simp) <;> with_reducible rfl)); (· exact fun _ => hHeld); simp only [Act.put, List.setIfInBounds_toArray, List.set_cons_zero, List.set_cons_succ])
      (refine wpAnyM_take (i := 6) (oi := ?_) (v := ?_) ?_ ?_ ?_ ?_ ?_ ?_ ?_ ?_ ?_ ?_; rotate_left 2; (· simp only [List.getElem?_toArray, List.getElem?_cons_succ, List.getElem?_cons_zero]; exact rfl); (· kernel_rfl); (· kernel_rfl); (· kernel_rfl); (· kernel_rfl); (· kernel_rfl); (· first | exact fun _ _ _ h => h | exact fun _ _ _ h => (HPan.out _ _ _ h).elim); (· (refine Or.inl ⟨by rfl, ?_⟩; (intro w hSw; (try dsimp only at hSw); go_simp) <;> with_reducible rfl)); (· assumption); simp only [Act.put, List.setIfInBounds_toArray, List.set_cons_zero, List.set_cons_succ])
      (refine wpAnyM_takeP (i := 7) (oi := ?_) (v := ?_) ?_ ?_ ?_ ?_ ?_ ?_ ?_ ?_ ?_; rotate_left 2; (· simp only [List.getElem?_toArray, List.getElem?_cons_succ, List.getElem?_cons_zero]; exact rfl); (· kernel_rfl); (· kernel_rfl); (· kernel_rfl); (· kernel_rfl); (· first | exact fun _ _ _ h => h | exact fun _ _ _ h => (HPan.out _ _ _ h).elim); (· (refine Or.inl ⟨by rfl, ?_⟩; (intro w hSw; (try dsimp only at hSw); go_simp) <;> with_reducible rfl)); (· exact fun _ => hHeld); simp only [Act.put, List.setIfInBounds_toArray, List.set_cons_zero, List.set_cons_succ])
      (refine wpAnyM_takeP (i := 8) (oi := ?_) (v := ?_) ?_ ?_ ?_ ?_ ?_ ?_ ?_ ?_ ?_; rotate_left 2; (· simp only [List.getElem?_toArray, List.getElem?_cons_succ, List.getElem?_cons_zero]; exact rfl); (· kernel_rfl); (· kernel_rfl); (· kernel_rfl); (· kernel_rfl); (· first | exact fun _ _ _ h => h | exact fun _ _ _ h => (HPan.out _ _ _ h).elim); (· (refine Or.inl ⟨by rfl, ?_⟩; (intro w hSw; (try dsimp only at hSw); go_simp) <;> with_reducible rfl)); (· exact fun _ => hHeld); simp only [Act.put, List.setIfInBounds_toArray, List.set_cons_zero, List.set_cons_succ])
      (refine wpAnyM_takeP (i := 9) (oi := ?_) (v := ?_) ?_ ?_ ?_ ?_ ?_ ?_ ?_ ?_ ?_; rotate_left 2; (· simp only [List.getElem?_toArray, List.getElem?_cons_succ, List.getElem?_cons_zero]; exact rfl); (· kernel_rfl); (· kernel_rfl); (· kernel_rfl); (· kernel_rfl); (· first | exact fun _ _ _ h => h | exact fun _ _ _ h => (HPan.out _ _ _ h).elim); (· (refine Or.inl ⟨by rfl, ?_⟩; (intro w hSw; (try dsimp only at hSw); go_simp) <;> with_reducible rfl)); (· exact fun _ => hHeld); simp only [Act.put, List.setIfInBounds_toArray, List.set_cons_zero, List.set_cons_succ])
      (refine wpAnyM_takeP (i := 10) (oi := ?_) (v := ?_) ?_ ?_ ?_ ?_ ?_ ?_ ?_ ?_ ?_; rotate_left 2; (· simp only [List.getElem?_toArray, List.getElem?_cons_succ, List.getElem?_cons_zero]; exact rfl); (· kernel_rfl); (· kernel_rfl); (· kernel_rfl); (· kernel_rfl); (· first | exact fun _ _ _ h => h | exact fun _ _ _ h => (HPan.out _ _ _ h).elim); (· (refine Or.inl ⟨by rfl, ?_⟩; (intro w hSw; (try dsimp only at hSw); go_simp) <;> with_reducible rfl)); (· exact fun _ => hHeld); simp only [Act.put, List.setIfInBounds_toArray, List.set_cons_zero, List.set_cons_succ])
      (refine wpAnyM_takeP (i := 11) (oi := ?_) (v := ?_) ?_ ?_ ?_ ?_ ?_ ?_ ?_ ?_ ?_; rotate_left 2; (· simp only [List.getElem?_toArray, List.getElem?_cons_succ, List.getElem?_cons_zero]; exact rfl); (· kernel_rfl); (· kernel_rfl); (· kernel_rfl); (· kernel_rfl); (· first | exact fun _ _ _ h => h | exact fun _ _ _ h => (HPan.out _ _ _ h).elim); (· (refine Or.inl ⟨by rfl, ?_⟩; (intro w hSw; (try dsimp only at hSw); go_simp) <;> with_reducible rfl)); (· exact fun _ => hHeld); simp only [Act.put, List.setIfInBounds_toArray, List.set_cons_zero, List.set_cons_succ])
      (refine wpAnyM_takeP (i := 12) (oi := ?_) (v := ?_) ?_ ?_ ?_ ?_ ?_ ?_ ?_ ?_ ?_; rotate_left 2; (· simp only [List.getElem?_toArray, List.getElem?_cons_succ, List.getElem?_cons_zero]; exact rfl); (· kernel_rfl); (· kernel_rfl); (· kernel_rfl); (· kernel_rfl); (· first | exact fun _ _ _ h => h | exact fun _ _ _ h => (HPan.out _ _ _ h).elim); (· (refine Or.inl ⟨by rfl, ?_⟩; (intro w hSw; (try dsimp only at hSw); go_simp) <;> with_reducible rfl)); (· exact fun _ => hHeld); simp only [Act.put, List.setIfInBounds_toArray, List.set_cons_zero, List.set_cons_succ])
      (refine wpAnyM_takeP (i := 13) (oi := ?_) (v := ?_) ?_ ?_ ?_ ?_ ?_ ?_ ?_ ?_ ?_; rotate_left 2; (· simp only [List.getElem?_toArray, List.getElem?_cons_succ, List.getElem?_cons_zero]; exact rfl); (· kernel_rfl); (· kernel_rfl); (· kernel_rfl); (· kernel_rfl); (· first | exact fun _ _ _ h => h | exact fun _ _ _ h => (HPan.out _ _ _ h).elim); (· (refine Or.inl ⟨by rfl, ?_⟩; (intro w hSw; (try dsimp only at hSw); go_simp) <;> with_reducible rfl)); (· exact fun _ => hHeld); simp only [Act.put, List.setIfInBounds_toArray, List.set_cons_zero, List.set_cons_succ])
      (refine wpAnyM_takeP (i := 14) (oi := ?_) (v := ?_) ?_ ?_ ?_ ?_ ?_ ?_ ?_ ?_ ?_; rotate_left 2; (· simp only [List.getElem?_toArray, List.getElem?_cons_succ, List.getElem?_cons_zero]; exact rfl); (· kernel_rfl); (· kernel_rfl); (· kernel_rfl); (· kernel_rfl); (· first | exact fun _ _ _ h => h | exact fun _ _ _ h => (HPan.out _ _ _ h).elim); (· (refine Or.inl ⟨by rfl, ?_⟩; (intro w hSw; (try dsimp only at hSw); go_simp) <;> with_reducible rfl)); (· exact fun _ => hHeld); simp only [Act.put, List.setIfInBounds_toArray, List.set_cons_zero, List.set_cons_succ])
      (refine wpAnyM_take (i := 15) (oi := ?_) (v := ?_) ?_ ?_ ?_ ?_ ?_ ?_ ?_ ?_ ?_ ?_; rotate_left 2; (· simp only [List.getElem?_toArray, List.getElem?_cons_succ, List.getElem?_cons_zero]; exact rfl); (· kernel_rfl); (· kernel_rfl); (· kernel_rfl); (· kernel_rfl); (· kernel_rfl); (· first | exact fun _ _ _ h => h | exact fun _ _ _ h => (HPan.out _ _ _ h).elim); (· (refine Or.inl ⟨by rfl, ?_⟩; (intro w hSw; (try dsimp only at hSw); go_simp) <;> with_reducible rfl)); (· assumption); simp only [Act.put, List.setIfInBounds_toArray, List.set_cons_zero, List.set_cons_succ])
      (refine wpAnyM_takeP (i := 16) (oi := ?_) (v := ?_) ?_ ?_ ?_ ?_ ?_ ?_ ?_ ?_ ?_; rotate_left 2; (· simp only [List.getElem?_toArray, List.getElem?_cons_succ, List.getElem?_cons_zero]; exact rfl); (· kernel_rfl); (· kernel_rfl); (· kernel_rfl); (· kernel_rfl); (· first | exact fun _ _ _ h => h | exact fun _ _ _ h => (HPan.out _ _ _ h).elim); (· (refine Or.inl ⟨by rfl, ?_⟩; (intro w hSw; (try dsimp only at hSw); go_simp) <;> with_reducible rfl)); (· exact fun _ => hHeld); simp only [Act.put, List.setIfInBounds_toArray, List.set_cons_zero, List.set_cons_succ])
      (refine wpAnyM_takeP (i := 17) (oi := ?_) (v := ?_) ?_ ?_ ?_ ?_ ?_ ?_ ?_ ?_ ?_; rotate_left 2; (· simp only [List.getElem?_toArray, List.getElem?_cons_succ, List.getElem?_cons_zero]; exact rfl); (· kernel_rfl); (· kernel_rfl); (· kernel_rfl); (· kernel_rfl); (· first | exact fun _ _ _ h => h | exact fun _ _ _ h => (HPan.out _ _ _ h).elim); (· (refine Or.inl ⟨by rfl, ?_⟩; (intro w hSw; (try dsimp only at hSw); go_simp) <;> with_reducible rfl)); (· exact fun _ => hHeld); simp only [Act.put, List.setIfInBounds_toArray, List.set_cons_zero, List.set_cons_succ])
      (refine wpAnyM_takeP (i := 18) (oi := ?_) (v := ?_) ?_ ?_ ?_ ?_ ?_ ?_ ?_ ?_ ?_; rotate_left 2; (· simp only [List.getElem?_toArray, List.getElem?_cons_succ, List.getElem?_cons_zero]; exact rfl); (· kernel_rfl); (· kernel_rfl); (· kernel_rfl); (· kernel_rfl); (· first | exact fun _ _ _ h => h | exact fun _ _ _ h => (HPan.out _ _ _ h).elim); (· (refine Or.inl ⟨by rfl, ?_⟩; (intro w hSw; (try dsimp only at hSw); go_simp) <;> with_reducible rfl)); (· exact fun _ => hHeld); simp only [Act.put, List.setIfInBounds_toArray, List.set_cons_zero, List.set_cons_succ])
      (refine wpAnyM_takeP (i := 19) (oi := ?_) (v := ?_) ?_ ?_ ?_ ?_ ?_ ?_ ?_ ?_ ?_; rotate_left 2; (· simp only [List.getElem?_toArray, List.getElem?_cons_succ, List.getElem?_cons_zero]; exact rfl); (· kernel_rfl); (· kernel_rfl); (· kernel_rfl); (· kernel_rfl); (· first | exact fun _ _ _ h => h | exact fun _ _ _ h => (HPan.out _ _ _ h).elim); (· (refine Or.inl ⟨by rfl, ?_⟩; (intro w hSw; (try dsimp only at hSw); go_simp) <;> with_reducible rfl)); (· exact fun _ => hHeld); simp only [Act.put, List.setIfInBounds_toArray, List.set_cons_zero, List.set_cons_succ])
      refine wpAnyM_ready (rs := [20]) (by kernel_rfl) (by simp) ?_
      refine AllReadyM.cons (o := ?_) ?_ ?_ ?_
      rotate_left 1
      · simp only [List.getElem?_toArray, List.getElem?_cons_succ, List.getElem?_cons_zero]; exact rfl
      rotate_left 1
      · exact AllReadyM.nil
      intro K hK
      go_simp
      refine hK.out _ _ ?_ (fun hHeld => ?_)
      · (try dsimp only); go_keep
      clear hK K
      refine wpAnyM_ready (rs := [21]) (by kernel_rfl) (by simp) ?_
      refine AllReadyM.cons (o := ?_) ?_ ?_ ?_
      rotate_left 1
      · simp only [List.getElem?_toArray, List.getElem?_cons_succ, List.getElem?_cons_zero]; exact rfl
      rotate_left 1
      · exact AllReadyM.nil
      intro K hK
      rw [if_pos (by rfl)]
      (go_loud (refine step_app (P := Try.prog) slDesc _ _ rfl (S := G) (S2 := fun z => z = wr.drew.heap.size) (n := i) (xs := dl.flatMap DescV.cells) (m := 1) (news := [.int .i64 D0, .int .i64 D1, .int .i64 0]) rfl rfl ?_ ?_ rfl (by intro u hu; simp at hu; rcases hu with rfl | rfl | rfl <;> rfl) (by omega) (by unfold maxLen; omega) ?_; (· exact (HOwn.out.keep (T := Nope) (by first | exact ((Keep.refl wr Nope).drew).alloc _ | exact ((Keep.refl wr Nope).alloc _).drew) (fun _ _ f => f))); (· first | exact (Own.lit (S := fun z => z = wr.drew.heap.size) wr.drew 58 3 1 #[.int .i64 D0, .int .i64 D1, .int .i64 0] (by decide) rfl rfl).rd | exact ((Own.lit (S := fun z => z = wr.heap.size) wr 58 3 1 #[.int .i64 D0, .int .i64 D1, .int .i64 0] (by decide) rfl rfl).rd).keep ((Keep.refl _ Nope).drew) (fun _ _ f => f)); rintro a' k' c' w5 happ; obtain ⟨q1, q2⟩ := app_up (wr := wr) (by first | exact ((Keep.refl wr Nope).drew).alloc _ | exact ((Keep.refl wr Nope).alloc _).drew) happ; obtain rfl := happ.num; have h5 := HUP.out w5 _ q1 q2; have HS5 := Lib.hid (show St w w5 [blkA g0 #[.slice x.pa x.plan.length x.pc, .slice x.ca x.code.length x.cc, .slice x.fa x.after.length x.fc, .int .i64 0, .slice x.raw.x.r.a x.raw.x.r.l.length x.raw.x.r.c, .slice x.raw.x.w.a x.raw.x.w.l.length x.raw.x.w.c, .slice x.raw.x.rr.a x.raw.x.rr.l.length x.raw.x.rr.c, .slice x.raw.x.rw'.a x.raw.x.rw'.l.length x.raw.x.rw'.c, .bool x.raw.x.al, .slice x.raw.x.pl.a x.raw.x.pl.n x.raw.x.pl.c, .slice x.raw.x.cd.a x.raw.x.cd.n x.raw.x.cd.c, .slice x.raw.x.af.a x.raw.x.af.l.length x.raw.x.af.c] 52, blkA g2 #[.int .i64 1, .int .i64 2] 2, blkA g3 #[.int .i64 5, .int .i64 5, .slice a i c, .slice (some ⟨g2, 0, none⟩) 2 2] 56, slA 58 3 (.slice a' (i + 1) c') (i + 1) ((dl ++ [(⟨D0, D1, 0⟩ : DescV)]).flatMap DescV.cells)] from (by have h6 := h5; rw [List.flatMap_append]; exact h6)); clear happ q1 q2 h5; have z1 := (Keep.ofSt HS5.out).cell HD0.out (fun f => f); have z2 := (Keep.ofSt HS5.out).cell HD1.out (fun f => f); have z0 := (HS5.out.blk 2 rfl).cell 2; have zf := (HS5.out.blk 2 rfl).frozen 2; simp at z0; have H6 := Lib.hid (HS5.out.write 2 rfl 2 (.slice a' (i + 1) c'))))
      refine hK.out _ _ ?_ (fun hHeld => ?_)
      · (try dsimp only); exact ⟨z0, z1, z2⟩
      clear hK K
      (try simp only [List.getElem_toArray, List.getElem_cons_succ, List.getElem_cons_zero, Act.put, List.setIfInBounds_toArray, List.set_cons_zero, List.set_cons_succ])
      refine wpAnyM_ready (rs := [22]) (by kernel_rfl) (by simp) ?_
      refine AllReadyM.free (o := ?_) ?_ (by kernel_rfl) ?_ ?_
      rotate_left 1
      · simp only [List.getElem?_toArray, List.getElem?_cons_succ, List.getElem?_cons_zero]; exact rfl
      rotate_left 1
      · exact AllReadyM.nil
      intro K hK
      go_simp
      refine hK.out _ _ ?_
      clear hK K
      refine wpAnyM_ready (rs := [23]) (by kernel_rfl) (by simp) ?_
      refine AllReadyM.free (o := ?_) ?_ (by kernel_rfl) ?_ ?_
      rotate_left 1
      · simp only [List.getElem?_toArray, List.getElem?_cons_succ, List.getElem?_cons_zero]; exact rfl
      rotate_left 1
      · exact AllReadyM.nil
      intro K hK
      go_simp
      refine hK.out _ _ ?_
      clear hK K
      refine wpAnyM_done (by kernel_rfl) ?_ _
      clear HOwn HUP hHeld HS5 z1 z2
      go_wp2_with fail
      go_roundg (N - (i + 1))
      case measure => have := HG.out; omega
      case rel => exact ⟨i + 1, a', c', dl ++ [(⟨D0, D1, 0⟩ : DescV)], by have := HG.out; omega, by go_num, by rw [List.length_append, HDL.out]; rfl, H6.out⟩
    · obtain rfl : N = i := by omega
      go_upto_region 4 with (fail)
      go_cut [25] (fun v25 wz => v25 = .bool false ∧ wz = wr)
      case first =>
        rcases hNb N hiN hlt with h8 | h8
        · have d8 : decide ((N : Int) < 8) = false := decide_eq_false (by omega)
          clear h8
          by_cases hq : (2 : Int) * N + 1 < ds.length
          · have dq : decide ((2 : Int) * N + 1 < ds.length) = true := decide_eq_true hq
            go_wp2_with fail
            go_meet
            case rel => exact ⟨rfl, rfl⟩
          · have dq : decide ((2 : Int) * N + 1 < ds.length) = false := decide_eq_false hq
            go_wp2_with fail
            go_meet
            case rel => exact ⟨rfl, rfl⟩
        · have dq : decide ((2 : Int) * N + 1 < ds.length) = false := decide_eq_false (by omega)
          clear h8
          go_wp2_with fail
          go_meet
          case rel => exact ⟨rfl, rfl⟩
      case rest =>
      obtain ⟨rfl, rfl⟩ := hcut
      have HKW := Lib.hid (Keep.ofSt H1.out)
      obtain ⟨Gd, _, hrd, hGd⟩ := H1.out.rd 3 rfl
      have HRD := Lib.hid (show RdDescs Gd wc (.slice a dl.length c) dl from by unfold RdDescs; rw [HDL.out]; exact hrd)
      have HSG := Lib.hid (show ∀ z, S z ∨ Gd z → z < wc.heap.size from fun z hz => hz.elim (fun h => by have := hS z h; have := (Keep.ofSt H1.out).size; omega) (fun h => (hGd z h).2))
      have HMX := Lib.hid (show Calls Try.prog 26 #[.agg #[.int .i64 5, .int .i64 5, .slice a N c, .slice (some ⟨g2, 0, none⟩) 2 2], .agg #[.slice x.pa x.plan.length x.pc, .slice x.ca x.code.length x.cc, .slice x.fa x.after.length x.fc, .int .i64 0, .slice x.raw.x.r.a x.raw.x.r.l.length x.raw.x.r.c, .slice x.raw.x.w.a x.raw.x.w.l.length x.raw.x.w.c, .slice x.raw.x.rr.a x.raw.x.rr.l.length x.raw.x.rr.c, .slice x.raw.x.rw'.a x.raw.x.rw'.l.length x.raw.x.rw'.c, .bool x.raw.x.al, .slice x.raw.x.pl.a x.raw.x.pl.n x.raw.x.pl.c, .slice x.raw.x.cd.a x.raw.x.cd.n x.raw.x.cd.c, .slice x.raw.x.af.a x.raw.x.af.l.length x.raw.x.af.c]] wc (RetMk wc dl (fun z => S z ∨ Gd z)) from by
        have h := make_two ⟨5, 5, a, c, dl, some ⟨g2, 0, none⟩, 2, 2⟩ ⟨x.pa, x.pc, x.plan, x.ca, x.cc, x.code, x.fa, x.fc, x.after, 0, x.raw⟩ wc (fun z => S z ∨ Gd z) ⟨(HX.out.plan.keep HKW.out (fun _ _ f => f)).mono (fun _ h => .inl h), (HX.out.code.keep HKW.out (fun _ _ f => f)).mono (fun _ h => .inl h), (HX.out.after.keep HKW.out (fun _ _ f => f)).mono (fun _ h => .inl h), ⟨(HX.out.raw.1.keep0 HKW.out).mono (fun _ h => .inl h), (HX.out.raw.2.keep HKW.out (fun _ _ f => f)).mono (fun _ h => .inl h)⟩⟩ (HRD.out.mono (fun _ h => .inr h)) (by rw [HDL.out]; omega) rfl rfl hxa
        unfold CfgV.val SysN.val at h
        simp only [SysX.cells, RowV.v, SlV.v, List.append_toArray, List.cons_append, List.nil_append, HDL.out] at h
        exact h)
      have hb2 := H1.out.blk 2 rfl
      have hb0 := H1.out.blk 0 rfl
      clear hrd hGd
      have k0 := hb2.cell 0
      have k1 := hb2.cell 1
      have k2 := hb2.cell 2
      have k3 := hb2.cell 3
      simp at k0 k1 k2 k3
      have l0 := hb0.cell 0
      have l1 := hb0.cell 1
      have l2 := hb0.cell 2
      have l3 := hb0.cell 3
      have l4 := hb0.cell 4
      have l5 := hb0.cell 5
      have l6 := hb0.cell 6
      have l7 := hb0.cell 7
      have l8 := hb0.cell 8
      have l9 := hb0.cell 9
      have l10 := hb0.cell 10
      have l11 := hb0.cell 11
      simp at l0 l1 l2 l3 l4 l5 l6 l7 l8 l9 l10 l11
      go_upto_region 8 with (go_at_call 26; refine HMX.out.mono ?_; rintro e w2 ⟨⟨⟨⟨ra, rc, rl⟩, ⟨wa, wcp, wl⟩, ⟨rra, rrc, rrl⟩, ⟨rwa, rwc, rwl⟩, al, ⟨pla, pln, plc⟩, ⟨cda, cdn, cdc⟩, ⟨afa, afc, afl⟩⟩, pll, cdl⟩, rfl, hm, hs, hr, hk⟩; simp only [SysX.val, RowV.v, SlV.v]; have HM := Lib.hid hm; have HSH := Lib.hid hs; have HR := Lib.hid hr; have HK2 := Lib.hid hk; clear hm hs hr hk HMX)
      obtain ⟨w3, hw3⟩ : ∃ w3, w3 = w2.alloc (.cells #[.slice ra rl.length rc, .slice wa wl.length wcp, .slice rra rrl.length rrc, .slice rwa rwl.length rwc, .bool al, .slice pla pln plc, .slice cda cdn cdc, .slice afa afl.length afc] 35) := ⟨_, rfl⟩
      have hk3 : Keep w2 w3 Nope := by rw [hw3]; exact (Keep.refl w2 Nope).alloc _
      have hb3 : Blk w3 w2.heap.size #[.slice ra rl.length rc, .slice wa wl.length wcp, .slice rra rrl.length rrc, .slice rwa rwl.length rwc, .bool al, .slice pla pln plc, .slice cda cdn cdc, .slice afa afl.length afc] 35 := by rw [hw3]; exact Blk.new w2 _ _
      rw [← hw3]
      obtain ⟨gs, hgs⟩ : ∃ g, g = w2.heap.size := ⟨_, rfl⟩
      rw [← hgs] at hb3 ⊢
      have HKC := Lib.hid (HK2.out.trans hk3 (fun _ f => f.elim))
      have HYR := Lib.hid (show SysRd (fun z => z < gs) w3 ⟨⟨⟨ra, rc, rl⟩, ⟨wa, wcp, wl⟩, ⟨rra, rrc, rrl⟩, ⟨rwa, rwc, rwl⟩, al, ⟨pla, pln, plc⟩, ⟨cda, cdn, cdc⟩, ⟨afa, afc, afl⟩⟩, pll, cdl⟩ from (HR.out.keepT hk3 (fun _ _ f => f)).mono (fun z hz => by
        have h1 := HSG.out z
        have h2 := HK2.out.size
        rcases hz with hz | hz
        · have := h1 hz; omega
        · omega))
      have HDR := Lib.hid (show RdDescs (fun z => z < gs) w3 (.slice a dl.length c) dl from (HRD.out.keep HKC.out (fun _ _ f => f)).mono (fun z hz => by
        have h1 := HSG.out z (.inr hz)
        have h2 := HK2.out.size
        omega))
      have HB3 := Lib.hid hb3
      have HCF := Lib.hid (fun wq (hk : Keep w3 wq Nope) => (hb2.keep HKC.out (fun f => f)).keep hk (fun f => f))
      have HKW3 := Lib.hid (HKW.out.trans HKC.out (fun _ f => f.elim))
      have HSL := Lib.hid (show rl.length + wl.length ≤ 100000 ∧ rrl.length + rwl.length ≤ 100000 from by
        obtain ⟨h1, h2, h3, h4⟩ := HSH.out
        simp only at h1 h2 h3 h4
        omega)
      have HC1 := Lib.hid (show ∀ wq, Keep w3 wq Nope → Calls Try.prog 27 #[.agg #[.int .i64 5, .int .i64 5, .slice a N c, .slice (some ⟨g2, 0, none⟩) 2 2], .agg #[.slice ra rl.length rc, .slice wa wl.length wcp, .slice rra rrl.length rrc, .slice rwa rwl.length rwc, .bool al, .slice pla pln plc, .slice cda cdn cdc, .slice afa afl.length afc]] wq (Ret wq (.int .i64 0)) from fun wq hk => by
        have h := sys_Check ⟨5, 5, a, c, dl, some ⟨g2, 0, none⟩, 2, 2⟩ ⟨⟨⟨ra, rc, rl⟩, ⟨wa, wcp, wl⟩, ⟨rra, rrc, rrl⟩, ⟨rwa, rwc, rwl⟩, al, ⟨pla, pln, plc⟩, ⟨cda, cdn, cdc⟩, ⟨afa, afc, afl⟩⟩, pll, cdl⟩ wq _ (HYR.out.keep0 hk) (HDR.out.keep hk (fun _ _ f => f)) HSL.out.1 HSL.out.2
        unfold CfgV.val at h
        simp only [SysX.val, RowV.v, SlV.v, HDL.out] at h
        rw [HM.out.zero (nr := 2) rfl] at h
        exact h)
      clear hw3 hk3 hgs hb2 hb0 k0 k1 k2 k3 l0 l1 l2 l3 l4 l5 l6 l7 l8 l9 l10 l11 HR HRD HK2 HSG H1 HX
      have hb2 := HCF.out w3 (Keep.refl _ _)
      have k0 := hb2.cell 0
      have k1 := hb2.cell 1
      have k2 := hb2.cell 2
      have k3 := hb2.cell 3
      simp at k0 k1 k2 k3
      have s0 := hb3.cell 0
      have s1 := hb3.cell 1
      have s2 := hb3.cell 2
      have s3 := hb3.cell 3
      have s4 := hb3.cell 4
      have s5 := hb3.cell 5
      have s6 := hb3.cell 6
      have s7 := hb3.cell 7
      simp at s0 s1 s2 s3 s4 s5 s6 s7
      go_upto_region 10 with (go_at_call 27; refine (HC1.out _ (Keep.refl _ _)).mono ?_; rintro e w4 ⟨rfl, hk4⟩; have HK4 := Lib.hid hk4; clear hk4)
      clear hb2 hb3 k0 k1 k2 k3 s0 s1 s2 s3 s4 s5 s6 s7 HC1
      have hb3 := HB3.out.keep HK4.out (fun f => f)
      have s0 := hb3.cell 0
      have s1 := hb3.cell 1
      have s2 := hb3.cell 2
      have s3 := hb3.cell 3
      have s4 := hb3.cell 4
      have s5 := hb3.cell 5
      have s6 := hb3.cell 6
      have s7 := hb3.cell 7
      simp at s0 s1 s2 s3 s4 s5 s6 s7
      go_upto_region 12 with (fail)
      obtain ⟨w5, hw5⟩ : ∃ w5, w5 = w4.alloc (.cells #[.slice ra rl.length rc, .slice wa wl.length wcp, .slice rra rrl.length rrc, .slice rwa rwl.length rwc, .bool al, .slice pla pln plc, .slice cda cdn cdc, .slice afa afl.length afc] 35) := ⟨_, rfl⟩
      have h5 := (St.start w4).box #[.slice ra rl.length rc, .slice wa wl.length wcp, .slice rra rrl.length rrc, .slice rwa rwl.length rwc, .bool al, .slice pla pln plc, .slice cda cdn cdc, .slice afa afl.length afc] 35
      rw [← hw5] at h5 ⊢
      obtain ⟨gt, hgt⟩ : ∃ g, g = w4.heap.size := ⟨_, rfl⟩
      rw [← hgt] at h5 ⊢
      have H5 := Lib.hid (show St w4 w5 [blkA gt #[.slice ra rl.length rc, .slice wa wl.length wcp, .slice rra rrl.length rrc, .slice rwa rwl.length rwc, .bool al, .slice pla pln plc, .slice cda cdn cdc, .slice afa afl.length afc] 35] from h5)
      have HGT := Lib.hid (show gs < gt from by have := HB3.out.lt; have := HK4.out.size; omega)
      have hb4 := HB3.out.keep (HK4.out.trans (Keep.ofSt H5.out) (fun _ f => f.elim)) (fun f => f)
      have hb5 := H5.out.blk 0 rfl
      clear hw5 h5 hgt hb3 s0 s1 s2 s3 s4 s5 s6 s7
      have s0 := hb4.cell 0
      have s1 := hb4.cell 1
      have s2 := hb4.cell 2
      have s3 := hb4.cell 3
      have s4 := hb4.cell 4
      have s5 := hb4.cell 5
      have s6 := hb4.cell 6
      have s7 := hb4.cell 7
      simp at s0 s1 s2 s3 s4 s5 s6 s7
      have t0 := hb5.cell 0
      have t1 := hb5.cell 1
      have t2 := hb5.cell 2
      have t3 := hb5.cell 3
      have t4 := hb5.cell 4
      simp at t0 t1 t2 t3 t4
      have f0 := hb5.frozen 0
      have f1 := hb5.frozen 1
      have f2 := hb5.frozen 2
      have f3 := hb5.frozen 3
      have f4 := hb5.frozen 4
      clear hb4 hb5
      obtain ⟨q, hq⟩ : ∃ q, bits .and .i64 n0 3 = q := ⟨_, rfl⟩
      by_cases hA : q = 0 ∧ 0 < wl.length
      · obtain ⟨hq0, hwl⟩ := hA
        have b0 : (q == 0) = true := by simpa using hq0
        have e1 : decide ((wl.length : Int) > 0) = true := decide_eq_true (by omega)
        have e2 : decide (0 < wl.length) = true := decide_eq_true hwl
        obtain ⟨k, hk, hkl⟩ := and_modn (n0 / 4) 8 255 (by decide) rfl wl.length hwl
        obtain ⟨k1, hk1⟩ : ∃ k1, k1 = k + 1 := ⟨_, rfl⟩
        have hw : IntKind.i64.wrap ((k : Int) + 1) = (k1 : Int) := by rw [show ((k : Int) + 1) = (k1 : Int) by omega]; exact IntWalk.i64_in _ (by have := HSL.out.1; omega)
        have hr4 := HYR.out.use.w'.keep (HK4.out.trans (Keep.ofSt H5.out) (fun _ f => f.elim)) (fun _ _ f => f)
        have hr5 := (show Rd (fun z => z < gs) w5 (.slice wa wl.length wcp) wl.length (ints wl) from hr4)
        have hcap := rd_cap hr5
        have hrunh := slice_h_any slInt wa wl.length wcp k .i64 (by omega)
        obtain ⟨aq, nq, cq, hcut, hrunl⟩ := slice_l_any slInt wa wl.length wcp k1 .i64 (by omega) hcap
        have hnq : nq + k1 = wl.length := hcut.num
        have HRQ := Lib.hid (show Rd (fun z => z < gs) w5 (.slice wa k wcp) k (ints (wl.take k)) from by have h := hr5.take 1 k (by omega); rw [Nat.mul_one] at h; unfold ints at h ⊢; rw [List.map_take]; exact h)
        have HRL := Lib.hid (show Rd (fun z => z < gs) w5 (.slice aq nq cq) nq (ints (wl.drop k1)) from by have h := hcut.rd _ w5 (ints wl) (by rw [ints_len, Nat.mul_one]) hr5; rw [Nat.mul_one] at h; unfold ints at h ⊢; rw [List.map_drop]; exact h)
        have HTL := Lib.hid (show (ints (wl.take k)).length = k * 1 from by rw [ints_len, List.length_take]; omega)
        have HDL2 := Lib.hid (show (ints (wl.drop k1)).length = nq * 1 from by rw [ints_len, List.length_drop]; omega)
        have hnb : k + nq ≤ 100000 := by have := HSL.out.1; omega
        have HK1 := Lib.hid hk1
        have hdl2 : (wl.take k ++ wl.drop (k + 1)).length = k + nq := by rw [List.length_append, List.length_take, List.length_drop]; omega
        have HDL3 := Lib.hid hdl2
        clear hcut hr4 hr5 hcap hnq hk1 hdl2 hq0
        go_upto_region 14 with (fail)
        refine wp_region_M (r := 14) (S := fun w' => w'.cell? ⟨gs, 1, none⟩ = some (.slice wa wl.length wcp)) (by kernel_rfl) ?_ (fun hHeld => ?_)
        · (try dsimp only); go_keep
        (refine wpAnyM_takeP (i := 1) (oi := ?_) (v := ?_) ?_ ?_ ?_ ?_ ?_ ?_ ?_ ?_ ?_; rotate_left 2; (· simp only [List.getElem?_toArray, List.getElem?_cons_succ, List.getElem?_cons_zero]; exact rfl); (· kernel_rfl); (· kernel_rfl); (· kernel_rfl); (· kernel_rfl); (· first | exact fun _ _ _ h => h | exact fun _ _ _ h => (HPan.out _ _ _ h).elim); (· (refine Or.inl ⟨by rfl, ?_⟩; (intro w hSw; (try dsimp only at hSw); go_simp) <;> with_reducible rfl)); (· exact fun _ => hHeld); simp only [Act.put, List.setIfInBounds_toArray, List.set_cons_zero, List.set_cons_succ])
        (refine wpAnyM_takeP (i := 2) (oi := ?_) (v := ?_) ?_ ?_ ?_ ?_ ?_ ?_ ?_ ?_ ?_; rotate_left 2; (· simp only [List.getElem?_toArray, List.getElem?_cons_succ, List.getElem?_cons_zero]; exact rfl); (· kernel_rfl); (· kernel_rfl); (· kernel_rfl); (· kernel_rfl); (· first | exact fun _ _ _ h => h | exact fun _ _ _ h => (HPan.out _ _ _ h).elim); (· (refine Or.inl ⟨by rfl, ?_⟩; (intro w hSw; (try dsimp only at hSw); go_simp) <;> with_reducible rfl)); (· exact fun _ => hHeld); simp only [Act.put, List.setIfInBounds_toArray, List.set_cons_zero, List.set_cons_succ])
        (refine wpAnyM_take (i := 3) (oi := ?_) (v := ?_) ?_ ?_ ?_ ?_ ?_ ?_ ?_ ?_ ?_ ?_; rotate_left 2; (· simp only [List.getElem?_toArray, List.getElem?_cons_succ, List.getElem?_cons_zero]; exact rfl); (· kernel_rfl); (· kernel_rfl); (· kernel_rfl); (· kernel_rfl); (· kernel_rfl); (· first | exact fun _ _ _ h => h | exact fun _ _ _ h => (HPan.out _ _ _ h).elim); (· (refine Or.inl ⟨by rfl, ?_⟩; (intro w hSw; (try dsimp only at hSw); go_simp) <;> with_reducible rfl)); (· assumption); simp only [Act.put, List.setIfInBounds_toArray, List.set_cons_zero, List.set_cons_succ])
        (refine wpAnyM_takeP (i := 4) (oi := ?_) (v := ?_) ?_ ?_ ?_ ?_ ?_ ?_ ?_ ?_ ?_; rotate_left 2; (· simp only [List.getElem?_toArray, List.getElem?_cons_succ, List.getElem?_cons_zero]; exact rfl); (· kernel_rfl); (· kernel_rfl); (· kernel_rfl); (· kernel_rfl); (· first | exact fun _ _ _ h => h | exact fun _ _ _ h => (HPan.out _ _ _ h).elim); (· (refine Or.inl ⟨by rfl, ?_⟩; (intro w hSw; (try dsimp only at hSw); go_simp) <;> with_reducible rfl)); (· exact fun _ => hHeld); simp only [Act.put, List.setIfInBounds_toArray, List.set_cons_zero, List.set_cons_succ])
        (refine wpAnyM_takeP (i := 5) (oi := ?_) (v := ?_) ?_ ?_ ?_ ?_ ?_ ?_ ?_ ?_ ?_; rotate_left 2; (· simp only [List.getElem?_toArray, List.getElem?_cons_succ, List.getElem?_cons_zero]; exact rfl); (· kernel_rfl); (· kernel_rfl); (· kernel_rfl); (· kernel_rfl); (· first | exact fun _ _ _ h => h | exact fun _ _ _ h => (HPan.out _ _ _ h).elim); (· (refine Or.inl ⟨by rfl, ?_⟩; (intro w hSw; (try dsimp only at hSw); go_simp) <;> with_reducible rfl)); (· exact fun _ => hHeld); simp only [Act.put, List.setIfInBounds_toArray, List.set_cons_zero, List.set_cons_succ])
        (refine wpAnyM_takeP (i := 7) (oi := ?_) (v := ?_) ?_ ?_ ?_ ?_ ?_ ?_ ?_ ?_ ?_; rotate_left 2; (· simp only [List.getElem?_toArray, List.getElem?_cons_succ, List.getElem?_cons_zero]; exact rfl); (· kernel_rfl); (· kernel_rfl); (· kernel_rfl); (· kernel_rfl); (· first | exact fun _ _ _ h => h | exact fun _ _ _ h => (HPan.out _ _ _ h).elim); (· (refine Or.inl ⟨by rfl, ?_⟩; (intro w hSw; (try dsimp only at hSw); go_simp) <;> with_reducible rfl)); (· exact fun _ => hHeld); simp only [Act.put, List.setIfInBounds_toArray, List.set_cons_zero, List.set_cons_succ])
        (refine wpAnyM_takeP (i := 8) (oi := ?_) (v := ?_) ?_ ?_ ?_ ?_ ?_ ?_ ?_ ?_ ?_; rotate_left 2; (· simp only [List.getElem?_toArray, List.getElem?_cons_succ, List.getElem?_cons_zero]; exact rfl); (· kernel_rfl); (· kernel_rfl); (· kernel_rfl); (· kernel_rfl); (· first | exact fun _ _ _ h => h | exact fun _ _ _ h => (HPan.out _ _ _ h).elim); (· (refine Or.inl ⟨by rfl, ?_⟩; (intro w hSw; (try dsimp only at hSw); go_simp) <;> with_reducible rfl)); (· exact fun _ => hHeld); simp only [Act.put, List.setIfInBounds_toArray, List.set_cons_zero, List.set_cons_succ])
        (refine wpAnyM_take (i := 9) (oi := ?_) (v := ?_) ?_ ?_ ?_ ?_ ?_ ?_ ?_ ?_ ?_ ?_; rotate_left 2; (· simp only [List.getElem?_toArray, List.getElem?_cons_succ, List.getElem?_cons_zero]; exact rfl); (· kernel_rfl); (· kernel_rfl); (· kernel_rfl); (· kernel_rfl); (· kernel_rfl); (· first | exact fun _ _ _ h => h | exact fun _ _ _ h => (HPan.out _ _ _ h).elim); (· (refine Or.inl ⟨by rfl, ?_⟩; (intro w hSw; (try dsimp only at hSw); go_simp) <;> with_reducible rfl)); (· assumption); simp only [Act.put, List.setIfInBounds_toArray, List.set_cons_zero, List.set_cons_succ])
        (refine wpAnyM_takeP (i := 10) (oi := ?_) (v := ?_) ?_ ?_ ?_ ?_ ?_ ?_ ?_ ?_ ?_; rotate_left 2; (· simp only [List.getElem?_toArray, List.getElem?_cons_succ, List.getElem?_cons_zero]; exact rfl); (· kernel_rfl); (· kernel_rfl); (· kernel_rfl); (· kernel_rfl); (· first | exact fun _ _ _ h => h | exact fun _ _ _ h => (HPan.out _ _ _ h).elim); (· (refine Or.inl ⟨by rfl, ?_⟩; (intro w hSw; (try dsimp only at hSw); go_simp) <;> with_reducible rfl)); (· exact fun _ => hHeld); simp only [Act.put, List.setIfInBounds_toArray, List.set_cons_zero, List.set_cons_succ])
        (refine wpAnyM_takeP (i := 11) (oi := ?_) (v := ?_) ?_ ?_ ?_ ?_ ?_ ?_ ?_ ?_ ?_; rotate_left 2; (· simp only [List.getElem?_toArray, List.getElem?_cons_succ, List.getElem?_cons_zero]; exact rfl); (· kernel_rfl); (· kernel_rfl); (· kernel_rfl); (· kernel_rfl); (· first | exact fun _ _ _ h => h | exact fun _ _ _ h => (HPan.out _ _ _ h).elim); (· (refine Or.inl ⟨by rfl, ?_⟩; (intro w hSw; (try dsimp only at hSw); go_simp) <;> with_reducible rfl)); (· exact fun _ => hHeld); simp only [Act.put, List.setIfInBounds_toArray, List.set_cons_zero, List.set_cons_succ])
        (refine wpAnyM_takeP (i := 12) (oi := ?_) (v := ?_) ?_ ?_ ?_ ?_ ?_ ?_ ?_ ?_ ?_; rotate_left 2; (· simp only [List.getElem?_toArray, List.getElem?_cons_succ, List.getElem?_cons_zero]; exact rfl); (· kernel_rfl); (· kernel_rfl); (· kernel_rfl); (· kernel_rfl); (· first | exact fun _ _ _ h => h | exact fun _ _ _ h => (HPan.out _ _ _ h).elim); (· (refine Or.inl ⟨by rfl, ?_⟩; (intro w hSw; (try dsimp only at hSw); go_simp) <;> with_reducible rfl)); (· exact fun _ => hHeld); simp only [Act.put, List.setIfInBounds_toArray, List.set_cons_zero, List.set_cons_succ])
        refine wpAnyM_ready (rs := [0]) (by kernel_rfl) (by simp) ?_
        refine AllReadyM.cons (o := ?_) ?_ ?_ ?_
        rotate_left 1
        · simp only [List.getElem?_toArray, List.getElem?_cons_succ, List.getElem?_cons_zero]; exact rfl
        rotate_left 1
        · exact AllReadyM.nil
        intro K hK
        go_simp
        refine hK.out _ _ ?_ (fun hHeld => ?_)
        · (try dsimp only); go_keep
        clear hK K
        refine wpAnyM_ready (rs := [6]) (by kernel_rfl) (by simp) ?_
        refine AllReadyM.cons (o := ?_) ?_ ?_ ?_
        rotate_left 1
        · simp only [List.getElem?_toArray, List.getElem?_cons_succ, List.getElem?_cons_zero]; exact rfl
        rotate_left 1
        · exact AllReadyM.nil
        intro K hK
        rw [if_pos (by rfl)]
        (refine step_app (P := Try.prog) slInt _ _ rfl (S := fun z => z = w5.heap.size) (S2 := fun z => z < gs) (n := 0) (xs := []) (m := k) (news := ints (wl.take k)) rfl rfl ?_ (HRQ.out.keep (T := Nope) (by (repeat (first | exact Keep.refl _ _ | apply Keep.drew | apply Keep.drewN | apply Keep.alloc))) (fun _ _ f => f)) HTL.out (ints_one _) (by omega) (by unfold maxLen; omega) ?_; (first | exact Own.lit _ _ _ 0 #[] (Nat.zero_le _) rfl rfl | exact (Own.lit (S := fun z => z = w5.heap.size) w5 3 1 0 #[] (Nat.zero_le _) rfl rfl).drew); rintro a6 n6 c6 w6 happ; have q12 := nd_app5 (w6 := w5) (by (repeat (first | exact Keep.refl _ _ | apply Keep.drew | apply Keep.drewN | apply Keep.alloc))) (Nat.le_refl _) happ; have e5 : n6 = k := (by have := happ.num; omega); subst n6; have X1 := Lib.hid q12.1; have K1 := Lib.hid q12.2; clear happ q12)
        refine hK.out _ _ ?_ (fun hHeld => ?_)
        · (try dsimp only); exact K1.out.cell s1 (fun f => f)
        clear hK K
        (try simp only [List.getElem_toArray, List.getElem_cons_succ, List.getElem_cons_zero, Act.put, List.setIfInBounds_toArray, List.set_cons_zero, List.set_cons_succ])
        refine wpAnyM_ready (rs := [13]) (by kernel_rfl) (by simp) ?_
        refine AllReadyM.cons (o := ?_) ?_ ?_ ?_
        rotate_left 1
        · simp only [List.getElem?_toArray, List.getElem?_cons_succ, List.getElem?_cons_zero]; exact rfl
        rotate_left 1
        · exact AllReadyM.nil
        intro K hK
        rw [if_pos (by rfl)]
        (refine step_app (P := Try.prog) slInt _ _ rfl (S := fun z => w5.heap.size ≤ z) (S2 := fun z => z < gs) (n := k) (xs := ints (wl.take k)) (m := nq) (news := ints (wl.drop k1)) rfl rfl X1.out (HRL.out.keep K1.out (fun _ _ f => f)) HDL2.out (ints_one _) (by omega) (by unfold maxLen; omega) ?_; rintro a1 d c1 w8 happ; have q12 := nd_app (w6 := w5) K1.out happ; have HN8 := Lib.hid happ.num; have X2 := Lib.hid q12.1; have K2 := Lib.hid q12.2; clear happ q12; have h8 := H5.out.keep K2.out; have t1' := (h8.blk 0 rfl).cell 1; have f1' := (h8.blk 0 rfl).frozen 1; simp at t1'; have H8 := Lib.hid h8; clear h8)
        refine hK.out _ _ ?_ (fun hHeld => ?_)
        · (try dsimp only); exact K2.out.cell s1 (fun f => f)
        clear hK K
        (try simp only [List.getElem_toArray, List.getElem_cons_succ, List.getElem_cons_zero, Act.put, List.setIfInBounds_toArray, List.set_cons_zero, List.set_cons_succ])
        refine wpAnyM_ready (rs := [14]) (by kernel_rfl) (by simp) ?_
        refine AllReadyM.free (o := ?_) ?_ (by kernel_rfl) ?_ ?_
        rotate_left 1
        · simp only [List.getElem?_toArray, List.getElem?_cons_succ, List.getElem?_cons_zero]; exact rfl
        rotate_left 1
        · exact AllReadyM.nil
        intro K hK
        go_simp
        refine hK.out _ _ ?_
        clear hK K
        (refine wpAnyM_takeP (i := 15) (oi := ?_) (v := ?_) ?_ ?_ ?_ ?_ ?_ ?_ ?_ ?_ ?_; rotate_left 2; (· simp only [List.getElem?_toArray, List.getElem?_cons_succ, List.getElem?_cons_zero]; exact rfl); (· kernel_rfl); (· kernel_rfl); (· kernel_rfl); (· kernel_rfl); (· first | exact fun _ _ _ h => h | exact fun _ _ _ h => (HPan.out _ _ _ h).elim); (· (refine Or.inl ⟨by rfl, ?_⟩; (intro w hSw; (try dsimp only at hSw); go_simp) <;> with_reducible rfl)); (· exact fun h => Bool.noConfusion (show true = false from h)); simp only [Act.put, List.setIfInBounds_toArray, List.set_cons_zero, List.set_cons_succ])
        refine wpAnyM_ready (rs := [16]) (by kernel_rfl) (by simp) ?_
        refine AllReadyM.free (o := ?_) ?_ (by kernel_rfl) ?_ ?_
        rotate_left 1
        · simp only [List.getElem?_toArray, List.getElem?_cons_succ, List.getElem?_cons_zero]; exact rfl
        rotate_left 1
        · exact AllReadyM.nil
        intro K hK
        go_simp
        refine hK.out _ _ ?_
        clear hK K
        refine wpAnyM_done (by kernel_rfl) ?_ _
        obtain ⟨w6', hw6⟩ : ∃ w6, w6 = w8.setCell ⟨gt, 1, none⟩ (.slice a1 d c1) := ⟨_, rfl⟩
        have h6 := H8.out.write 0 rfl 1 (.slice a1 d c1)
        have hx6 := X2.out.rd.keep ((Keep.refl w8 (fun z => z = gt)).setCell (p := ⟨gt, 1, none⟩) (.inl rfl) (.slice a1 d c1)) (fun z hz e => by have := (H5.out.blk 0 rfl).lt; omega)
        rw [← hw6] at h6 hx6 ⊢
        rename World => w6
        have HDd := Lib.hid (show (wl.take k ++ wl.drop (k + 1)).length = d from by rw [HDL3.out, HN8.out])
        have H6 := Lib.hid (show St w4 w6 [blkA gt #[.slice ra rl.length rc, .slice a1 d c1, .slice rra rrl.length rrc, .slice rwa rwl.length rwc, .bool al, .slice pla pln plc, .slice cda cdn cdc, .slice afa afl.length afc] 35] from h6)
        have RN := Lib.hid (show Rd _ w6 (.slice a1 (wl.take k ++ wl.drop (k + 1)).length c1) (wl.take k ++ wl.drop (k + 1)).length (ints (wl.take k ++ wl.drop (k + 1))) from by rw [HDd.out, ints_app, ← HK1.out]; exact hx6)
        have hdle : d ≤ 100000 := by have := HN8.out; omega
        have hdl4 : d + 1 = wl.length := by have h1 := HN8.out; have h2 := HDL2.out; rw [ints_len, List.length_drop] at h2; have := HK1.out; omega
        clear hw6 h6 hx6 t1' f1' HN8 X1 X2 K1 K2 H8 hHeld
        have KK6 := Lib.hid (Keep.ofSt H6.out)
        have HC2 := Lib.hid (fun wq (hk : Keep w6 wq Nope) => (show Calls Try.prog 27 #[.agg #[.int .i64 5, .int .i64 5, .slice a N c, .slice (some ⟨g2, 0, none⟩) 2 2], .agg #[.slice ra rl.length rc, .slice a1 d c1, .slice rra rrl.length rrc, .slice rwa rwl.length rwc, .bool al, .slice pla pln plc, .slice cda cdn cdc, .slice afa afl.length afc]] wq (Ret wq (.int .i64 19)) from by
          have h := sys_Check ⟨5, 5, a, c, dl, some ⟨g2, 0, none⟩, 2, 2⟩ ⟨⟨⟨ra, rc, rl⟩, ⟨a1, c1, wl.take k ++ wl.drop (k + 1)⟩, ⟨rra, rrc, rrl⟩, ⟨rwa, rwc, rwl⟩, al, ⟨pla, pln, plc⟩, ⟨cda, cdn, cdc⟩, ⟨afa, afc, afl⟩⟩, pll, cdl⟩ wq (fun _ => True) (⟨⟨((HYR.out.use.r.keep ((HK4.out.trans KK6.out (fun _ f => f.elim)).trans hk (fun _ f => f.elim)) (fun _ _ f => f)).mono (fun _ _ => trivial)), ((RN.out.keep hk (fun _ _ f => f)).mono (fun _ _ => trivial)), ((HYR.out.use.rr.keep ((HK4.out.trans KK6.out (fun _ f => f.elim)).trans hk (fun _ f => f.elim)) (fun _ _ f => f)).mono (fun _ _ => trivial)), ((HYR.out.use.rw'.keep ((HK4.out.trans KK6.out (fun _ f => f.elim)).trans hk (fun _ f => f.elim)) (fun _ _ f => f)).mono (fun _ _ => trivial))⟩, ((HYR.out.pl.keep ((HK4.out.trans KK6.out (fun _ f => f.elim)).trans hk (fun _ f => f.elim)) (fun _ _ f => f)).mono (fun _ _ => trivial)), ((HYR.out.cd.keep ((HK4.out.trans KK6.out (fun _ f => f.elim)).trans hk (fun _ f => f.elim)) (fun _ _ f => f)).mono (fun _ _ => trivial))⟩) ((HDR.out.keep ((HK4.out.trans KK6.out (fun _ f => f.elim)).trans hk (fun _ f => f.elim)) (fun _ _ f => f)).mono (fun _ _ => trivial)) (by have := HSL.out.1; show rl.length + (wl.take k ++ wl.drop (k + 1)).length ≤ 100000; rw [HDd.out]; omega) HSL.out.2
          unfold CfgV.val at h
          simp only [SysX.val, RowV.v, SlV.v, HDL.out, HDd.out] at h
          rw [HM.out.less (nr := 2) rfl (x' := ⟨⟨ra, rc, rl⟩, ⟨a1, c1, wl.take k ++ wl.drop (k + 1)⟩, ⟨rra, rrc, rrl⟩, ⟨rwa, rwc, rwl⟩, al, ⟨pla, pln, plc⟩, ⟨cda, cdn, cdc⟩, ⟨afa, afc, afl⟩⟩) (List.Sublist.refl _) (rises_cut HM.out.w'.1 k hkl).2.2 rfl (List.Sublist.refl _) (.inl ⟨_, (rises_cut HM.out.w'.1 k hkl).1, (rises_cut HM.out.w'.1 k hkl).2.1⟩)] at h
          exact h))
        have hb2 := HCF.out w6 (HK4.out.trans KK6.out (fun _ f => f.elim))
        have hb3 := H6.out.blk 0 rfl
        clear s0 s1 s2 s3 s4 s5 s6 s7 t0 t1 t2 t3 t4 f0 f1 f2 f3 f4
        have k0 := hb2.cell 0
        have k1 := hb2.cell 1
        have k2 := hb2.cell 2
        have k3 := hb2.cell 3
        simp at k0 k1 k2 k3
        have s0 := hb3.cell 0
        have s1 := hb3.cell 1
        have s2 := hb3.cell 2
        have s3 := hb3.cell 3
        have s4 := hb3.cell 4
        have s5 := hb3.cell 5
        have s6 := hb3.cell 6
        have s7 := hb3.cell 7
        simp at s0 s1 s2 s3 s4 s5 s6 s7
        go_wp2_with (first | (go_at_call 27; refine (HC2.out _ (Keep.refl _ _)).mono ?_; rintro e w7 ⟨rfl, hk7⟩; have HK7 := Lib.hid hk7; clear hk7) | (go_at_call 24; refine (awake21 _).mono ?_; rintro e w9 ⟨rfl, hk9⟩; have HK9 := Lib.hid hk9; clear hk9))
        go_ret
        exact ⟨rfl, (((HKW3.out.trans HK4.out (fun _ f => f.elim)).trans KK6.out (fun _ f => f.elim)).trans HK7.out (fun _ f => f.elim)).trans HK9.out (fun _ f => f.elim)⟩
      by_cases hB : q = 1 ∧ 0 < rl.length
      · obtain ⟨hq1, hrl⟩ := hB
        have b0 : (q == 0) = false := by subst hq1; rfl
        have b1 : (q == 1) = true := by subst hq1; rfl
        have e1 : decide ((rl.length : Int) > 0) = true := decide_eq_true (by omega)
        have e2 : decide (0 < rl.length) = true := decide_eq_true hrl
        clear hA
        obtain ⟨k, hk, hkl⟩ := and_modn (n0 / 4) 8 255 (by decide) rfl rl.length hrl
        obtain ⟨k1, hk1⟩ : ∃ k1, k1 = k + 1 := ⟨_, rfl⟩
        have hw : IntKind.i64.wrap ((k : Int) + 1) = (k1 : Int) := by rw [show ((k : Int) + 1) = (k1 : Int) by omega]; exact IntWalk.i64_in _ (by have := HSL.out.1; omega)
        have hr4 := HYR.out.use.r.keep (HK4.out.trans (Keep.ofSt H5.out) (fun _ f => f.elim)) (fun _ _ f => f)
        have hr5 := (show Rd (fun z => z < gs) w5 (.slice ra rl.length rc) rl.length (ints rl) from hr4)
        have hcap := rd_cap hr5
        have hrunh := slice_h_any slInt ra rl.length rc k .i64 (by omega)
        obtain ⟨aq, nq, cq, hcut, hrunl⟩ := slice_l_any slInt ra rl.length rc k1 .i64 (by omega) hcap
        have hnq : nq + k1 = rl.length := hcut.num
        have HRQ := Lib.hid (show Rd (fun z => z < gs) w5 (.slice ra k rc) k (ints (rl.take k)) from by have h := hr5.take 1 k (by omega); rw [Nat.mul_one] at h; unfold ints at h ⊢; rw [List.map_take]; exact h)
        have HRL := Lib.hid (show Rd (fun z => z < gs) w5 (.slice aq nq cq) nq (ints (rl.drop k1)) from by have h := hcut.rd _ w5 (ints rl) (by rw [ints_len, Nat.mul_one]) hr5; rw [Nat.mul_one] at h; unfold ints at h ⊢; rw [List.map_drop]; exact h)
        have HTL := Lib.hid (show (ints (rl.take k)).length = k * 1 from by rw [ints_len, List.length_take]; omega)
        have HDL2 := Lib.hid (show (ints (rl.drop k1)).length = nq * 1 from by rw [ints_len, List.length_drop]; omega)
        have hnb : k + nq ≤ 100000 := by have := HSL.out.1; omega
        have HK1 := Lib.hid hk1
        have hdl2 : (rl.take k ++ rl.drop (k + 1)).length = k + nq := by rw [List.length_append, List.length_take, List.length_drop]; omega
        have HDL3 := Lib.hid hdl2
        clear hcut hr4 hr5 hcap hnq hk1 hdl2 hq1
        go_upto_region 17 with (fail)
        refine wp_region_M (r := 14) (S := fun w' => w'.cell? ⟨gs, 0, none⟩ = some (.slice ra rl.length rc)) (by kernel_rfl) ?_ (fun hHeld => ?_)
        · (try dsimp only); go_keep
        (refine wpAnyM_takeP (i := 1) (oi := ?_) (v := ?_) ?_ ?_ ?_ ?_ ?_ ?_ ?_ ?_ ?_; rotate_left 2; (· simp only [List.getElem?_toArray, List.getElem?_cons_succ, List.getElem?_cons_zero]; exact rfl); (· kernel_rfl); (· kernel_rfl); (· kernel_rfl); (· kernel_rfl); (· first | exact fun _ _ _ h => h | exact fun _ _ _ h => (HPan.out _ _ _ h).elim); (· (refine Or.inl ⟨by rfl, ?_⟩; (intro w hSw; (try dsimp only at hSw); go_simp) <;> with_reducible rfl)); (· exact fun _ => hHeld); simp only [Act.put, List.setIfInBounds_toArray, List.set_cons_zero, List.set_cons_succ])
        (refine wpAnyM_takeP (i := 2) (oi := ?_) (v := ?_) ?_ ?_ ?_ ?_ ?_ ?_ ?_ ?_ ?_; rotate_left 2; (· simp only [List.getElem?_toArray, List.getElem?_cons_succ, List.getElem?_cons_zero]; exact rfl); (· kernel_rfl); (· kernel_rfl); (· kernel_rfl); (· kernel_rfl); (· first | exact fun _ _ _ h => h | exact fun _ _ _ h => (HPan.out _ _ _ h).elim); (· (refine Or.inl ⟨by rfl, ?_⟩; (intro w hSw; (try dsimp only at hSw); go_simp) <;> with_reducible rfl)); (· exact fun _ => hHeld); simp only [Act.put, List.setIfInBounds_toArray, List.set_cons_zero, List.set_cons_succ])
        (refine wpAnyM_take (i := 3) (oi := ?_) (v := ?_) ?_ ?_ ?_ ?_ ?_ ?_ ?_ ?_ ?_ ?_; rotate_left 2; (· simp only [List.getElem?_toArray, List.getElem?_cons_succ, List.getElem?_cons_zero]; exact rfl); (· kernel_rfl); (· kernel_rfl); (· kernel_rfl); (· kernel_rfl); (· kernel_rfl); (· first | exact fun _ _ _ h => h | exact fun _ _ _ h => (HPan.out _ _ _ h).elim); (· (refine Or.inl ⟨by rfl, ?_⟩; (intro w hSw; (try dsimp only at hSw); go_simp) <;> with_reducible rfl)); (· assumption); simp only [Act.put, List.setIfInBounds_toArray, List.set_cons_zero, List.set_cons_succ])
        (refine wpAnyM_takeP (i := 4) (oi := ?_) (v := ?_) ?_ ?_ ?_ ?_ ?_ ?_ ?_ ?_ ?_; rotate_left 2; (· simp only [List.getElem?_toArray, List.getElem?_cons_succ, List.getElem?_cons_zero]; exact rfl); (· kernel_rfl); (· kernel_rfl); (· kernel_rfl); (· kernel_rfl); (· first | exact fun _ _ _ h => h | exact fun _ _ _ h => (HPan.out _ _ _ h).elim); (· (refine Or.inl ⟨by rfl, ?_⟩; (intro w hSw; (try dsimp only at hSw); go_simp) <;> with_reducible rfl)); (· exact fun _ => hHeld); simp only [Act.put, List.setIfInBounds_toArray, List.set_cons_zero, List.set_cons_succ])
        (refine wpAnyM_takeP (i := 5) (oi := ?_) (v := ?_) ?_ ?_ ?_ ?_ ?_ ?_ ?_ ?_ ?_; rotate_left 2; (· simp only [List.getElem?_toArray, List.getElem?_cons_succ, List.getElem?_cons_zero]; exact rfl); (· kernel_rfl); (· kernel_rfl); (· kernel_rfl); (· kernel_rfl); (· first | exact fun _ _ _ h => h | exact fun _ _ _ h => (HPan.out _ _ _ h).elim); (· (refine Or.inl ⟨by rfl, ?_⟩; (intro w hSw; (try dsimp only at hSw); go_simp) <;> with_reducible rfl)); (· exact fun _ => hHeld); simp only [Act.put, List.setIfInBounds_toArray, List.set_cons_zero, List.set_cons_succ])
        (refine wpAnyM_takeP (i := 7) (oi := ?_) (v := ?_) ?_ ?_ ?_ ?_ ?_ ?_ ?_ ?_ ?_; rotate_left 2; (· simp only [List.getElem?_toArray, List.getElem?_cons_succ, List.getElem?_cons_zero]; exact rfl); (· kernel_rfl); (· kernel_rfl); (· kernel_rfl); (· kernel_rfl); (· first | exact fun _ _ _ h => h | exact fun _ _ _ h => (HPan.out _ _ _ h).elim); (· (refine Or.inl ⟨by rfl, ?_⟩; (intro w hSw; (try dsimp only at hSw); go_simp) <;> with_reducible rfl)); (· exact fun _ => hHeld); simp only [Act.put, List.setIfInBounds_toArray, List.set_cons_zero, List.set_cons_succ])
        (refine wpAnyM_takeP (i := 8) (oi := ?_) (v := ?_) ?_ ?_ ?_ ?_ ?_ ?_ ?_ ?_ ?_; rotate_left 2; (· simp only [List.getElem?_toArray, List.getElem?_cons_succ, List.getElem?_cons_zero]; exact rfl); (· kernel_rfl); (· kernel_rfl); (· kernel_rfl); (· kernel_rfl); (· first | exact fun _ _ _ h => h | exact fun _ _ _ h => (HPan.out _ _ _ h).elim); (· (refine Or.inl ⟨by rfl, ?_⟩; (intro w hSw; (try dsimp only at hSw); go_simp) <;> with_reducible rfl)); (· exact fun _ => hHeld); simp only [Act.put, List.setIfInBounds_toArray, List.set_cons_zero, List.set_cons_succ])
        (refine wpAnyM_take (i := 9) (oi := ?_) (v := ?_) ?_ ?_ ?_ ?_ ?_ ?_ ?_ ?_ ?_ ?_; rotate_left 2; (· simp only [List.getElem?_toArray, List.getElem?_cons_succ, List.getElem?_cons_zero]; exact rfl); (· kernel_rfl); (· kernel_rfl); (· kernel_rfl); (· kernel_rfl); (· kernel_rfl); (· first | exact fun _ _ _ h => h | exact fun _ _ _ h => (HPan.out _ _ _ h).elim); (· (refine Or.inl ⟨by rfl, ?_⟩; (intro w hSw; (try dsimp only at hSw); go_simp) <;> with_reducible rfl)); (· assumption); simp only [Act.put, List.setIfInBounds_toArray, List.set_cons_zero, List.set_cons_succ])
        (refine wpAnyM_takeP (i := 10) (oi := ?_) (v := ?_) ?_ ?_ ?_ ?_ ?_ ?_ ?_ ?_ ?_; rotate_left 2; (· simp only [List.getElem?_toArray, List.getElem?_cons_succ, List.getElem?_cons_zero]; exact rfl); (· kernel_rfl); (· kernel_rfl); (· kernel_rfl); (· kernel_rfl); (· first | exact fun _ _ _ h => h | exact fun _ _ _ h => (HPan.out _ _ _ h).elim); (· (refine Or.inl ⟨by rfl, ?_⟩; (intro w hSw; (try dsimp only at hSw); go_simp) <;> with_reducible rfl)); (· exact fun _ => hHeld); simp only [Act.put, List.setIfInBounds_toArray, List.set_cons_zero, List.set_cons_succ])
        (refine wpAnyM_takeP (i := 11) (oi := ?_) (v := ?_) ?_ ?_ ?_ ?_ ?_ ?_ ?_ ?_ ?_; rotate_left 2; (· simp only [List.getElem?_toArray, List.getElem?_cons_succ, List.getElem?_cons_zero]; exact rfl); (· kernel_rfl); (· kernel_rfl); (· kernel_rfl); (· kernel_rfl); (· first | exact fun _ _ _ h => h | exact fun _ _ _ h => (HPan.out _ _ _ h).elim); (· (refine Or.inl ⟨by rfl, ?_⟩; (intro w hSw; (try dsimp only at hSw); go_simp) <;> with_reducible rfl)); (· exact fun _ => hHeld); simp only [Act.put, List.setIfInBounds_toArray, List.set_cons_zero, List.set_cons_succ])
        (refine wpAnyM_takeP (i := 12) (oi := ?_) (v := ?_) ?_ ?_ ?_ ?_ ?_ ?_ ?_ ?_ ?_; rotate_left 2; (· simp only [List.getElem?_toArray, List.getElem?_cons_succ, List.getElem?_cons_zero]; exact rfl); (· kernel_rfl); (· kernel_rfl); (· kernel_rfl); (· kernel_rfl); (· first | exact fun _ _ _ h => h | exact fun _ _ _ h => (HPan.out _ _ _ h).elim); (· (refine Or.inl ⟨by rfl, ?_⟩; (intro w hSw; (try dsimp only at hSw); go_simp) <;> with_reducible rfl)); (· exact fun _ => hHeld); simp only [Act.put, List.setIfInBounds_toArray, List.set_cons_zero, List.set_cons_succ])
        refine wpAnyM_ready (rs := [0]) (by kernel_rfl) (by simp) ?_
        refine AllReadyM.cons (o := ?_) ?_ ?_ ?_
        rotate_left 1
        · simp only [List.getElem?_toArray, List.getElem?_cons_succ, List.getElem?_cons_zero]; exact rfl
        rotate_left 1
        · exact AllReadyM.nil
        intro K hK
        go_simp
        refine hK.out _ _ ?_ (fun hHeld => ?_)
        · (try dsimp only); go_keep
        clear hK K
        refine wpAnyM_ready (rs := [6]) (by kernel_rfl) (by simp) ?_
        refine AllReadyM.cons (o := ?_) ?_ ?_ ?_
        rotate_left 1
        · simp only [List.getElem?_toArray, List.getElem?_cons_succ, List.getElem?_cons_zero]; exact rfl
        rotate_left 1
        · exact AllReadyM.nil
        intro K hK
        rw [if_pos (by rfl)]
        (refine step_app (P := Try.prog) slInt _ _ rfl (S := fun z => z = w5.heap.size) (S2 := fun z => z < gs) (n := 0) (xs := []) (m := k) (news := ints (rl.take k)) rfl rfl ?_ (HRQ.out.keep (T := Nope) (by (repeat (first | exact Keep.refl _ _ | apply Keep.drew | apply Keep.drewN | apply Keep.alloc))) (fun _ _ f => f)) HTL.out (ints_one _) (by omega) (by unfold maxLen; omega) ?_; (first | exact Own.lit _ _ _ 0 #[] (Nat.zero_le _) rfl rfl | exact (Own.lit (S := fun z => z = w5.heap.size) w5 3 1 0 #[] (Nat.zero_le _) rfl rfl).drew); rintro a6 n6 c6 w6 happ; have q12 := nd_app5 (w6 := w5) (by (repeat (first | exact Keep.refl _ _ | apply Keep.drew | apply Keep.drewN | apply Keep.alloc))) (Nat.le_refl _) happ; have e5 : n6 = k := (by have := happ.num; omega); subst n6; have X1 := Lib.hid q12.1; have K1 := Lib.hid q12.2; clear happ q12)
        refine hK.out _ _ ?_ (fun hHeld => ?_)
        · (try dsimp only); exact K1.out.cell s0 (fun f => f)
        clear hK K
        (try simp only [List.getElem_toArray, List.getElem_cons_succ, List.getElem_cons_zero, Act.put, List.setIfInBounds_toArray, List.set_cons_zero, List.set_cons_succ])
        refine wpAnyM_ready (rs := [13]) (by kernel_rfl) (by simp) ?_
        refine AllReadyM.cons (o := ?_) ?_ ?_ ?_
        rotate_left 1
        · simp only [List.getElem?_toArray, List.getElem?_cons_succ, List.getElem?_cons_zero]; exact rfl
        rotate_left 1
        · exact AllReadyM.nil
        intro K hK
        rw [if_pos (by rfl)]
        (refine step_app (P := Try.prog) slInt _ _ rfl (S := fun z => w5.heap.size ≤ z) (S2 := fun z => z < gs) (n := k) (xs := ints (rl.take k)) (m := nq) (news := ints (rl.drop k1)) rfl rfl X1.out (HRL.out.keep K1.out (fun _ _ f => f)) HDL2.out (ints_one _) (by omega) (by unfold maxLen; omega) ?_; rintro a1 d c1 w8 happ; have q12 := nd_app (w6 := w5) K1.out happ; have HN8 := Lib.hid happ.num; have X2 := Lib.hid q12.1; have K2 := Lib.hid q12.2; clear happ q12; have h8 := H5.out.keep K2.out; have t0' := (h8.blk 0 rfl).cell 0; have f0' := (h8.blk 0 rfl).frozen 0; simp at t0'; have H8 := Lib.hid h8; clear h8)
        refine hK.out _ _ ?_ (fun hHeld => ?_)
        · (try dsimp only); exact K2.out.cell s0 (fun f => f)
        clear hK K
        (try simp only [List.getElem_toArray, List.getElem_cons_succ, List.getElem_cons_zero, Act.put, List.setIfInBounds_toArray, List.set_cons_zero, List.set_cons_succ])
        refine wpAnyM_ready (rs := [14]) (by kernel_rfl) (by simp) ?_
        refine AllReadyM.free (o := ?_) ?_ (by kernel_rfl) ?_ ?_
        rotate_left 1
        · simp only [List.getElem?_toArray, List.getElem?_cons_succ, List.getElem?_cons_zero]; exact rfl
        rotate_left 1
        · exact AllReadyM.nil
        intro K hK
        go_simp
        refine hK.out _ _ ?_
        clear hK K
        (refine wpAnyM_takeP (i := 15) (oi := ?_) (v := ?_) ?_ ?_ ?_ ?_ ?_ ?_ ?_ ?_ ?_; rotate_left 2; (· simp only [List.getElem?_toArray, List.getElem?_cons_succ, List.getElem?_cons_zero]; exact rfl); (· kernel_rfl); (· kernel_rfl); (· kernel_rfl); (· kernel_rfl); (· first | exact fun _ _ _ h => h | exact fun _ _ _ h => (HPan.out _ _ _ h).elim); (· (refine Or.inl ⟨by rfl, ?_⟩; (intro w hSw; (try dsimp only at hSw); go_simp) <;> with_reducible rfl)); (· exact fun h => Bool.noConfusion (show true = false from h)); simp only [Act.put, List.setIfInBounds_toArray, List.set_cons_zero, List.set_cons_succ])
        refine wpAnyM_ready (rs := [16]) (by kernel_rfl) (by simp) ?_
        refine AllReadyM.free (o := ?_) ?_ (by kernel_rfl) ?_ ?_
        rotate_left 1
        · simp only [List.getElem?_toArray, List.getElem?_cons_succ, List.getElem?_cons_zero]; exact rfl
        rotate_left 1
        · exact AllReadyM.nil
        intro K hK
        go_simp
        refine hK.out _ _ ?_
        clear hK K
        refine wpAnyM_done (by kernel_rfl) ?_ _
        obtain ⟨w6', hw6⟩ : ∃ w6, w6 = w8.setCell ⟨gt, 0, none⟩ (.slice a1 d c1) := ⟨_, rfl⟩
        have h6 := H8.out.write 0 rfl 0 (.slice a1 d c1)
        have hx6 := X2.out.rd.keep ((Keep.refl w8 (fun z => z = gt)).setCell (p := ⟨gt, 0, none⟩) (.inl rfl) (.slice a1 d c1)) (fun z hz e => by have := (H5.out.blk 0 rfl).lt; omega)
        rw [← hw6] at h6 hx6 ⊢
        rename World => w6
        have HDd := Lib.hid (show (rl.take k ++ rl.drop (k + 1)).length = d from by rw [HDL3.out, HN8.out])
        have H6 := Lib.hid (show St w4 w6 [blkA gt #[.slice a1 d c1, .slice wa wl.length wcp, .slice rra rrl.length rrc, .slice rwa rwl.length rwc, .bool al, .slice pla pln plc, .slice cda cdn cdc, .slice afa afl.length afc] 35] from h6)
        have RN := Lib.hid (show Rd _ w6 (.slice a1 (rl.take k ++ rl.drop (k + 1)).length c1) (rl.take k ++ rl.drop (k + 1)).length (ints (rl.take k ++ rl.drop (k + 1))) from by rw [HDd.out, ints_app, ← HK1.out]; exact hx6)
        have hdle : d ≤ 100000 := by have := HN8.out; omega
        have hdl4 : d + 1 = rl.length := by have h1 := HN8.out; have h2 := HDL2.out; rw [ints_len, List.length_drop] at h2; have := HK1.out; omega
        clear hw6 h6 hx6 t0' f0' HN8 X1 X2 K1 K2 H8 hHeld
        have KK6 := Lib.hid (Keep.ofSt H6.out)
        have HC2 := Lib.hid (fun wq (hk : Keep w6 wq Nope) => (show Calls Try.prog 27 #[.agg #[.int .i64 5, .int .i64 5, .slice a N c, .slice (some ⟨g2, 0, none⟩) 2 2], .agg #[.slice a1 d c1, .slice wa wl.length wcp, .slice rra rrl.length rrc, .slice rwa rwl.length rwc, .bool al, .slice pla pln plc, .slice cda cdn cdc, .slice afa afl.length afc]] wq (Ret wq (.int .i64 19)) from by
          have h := sys_Check ⟨5, 5, a, c, dl, some ⟨g2, 0, none⟩, 2, 2⟩ ⟨⟨⟨a1, c1, rl.take k ++ rl.drop (k + 1)⟩, ⟨wa, wcp, wl⟩, ⟨rra, rrc, rrl⟩, ⟨rwa, rwc, rwl⟩, al, ⟨pla, pln, plc⟩, ⟨cda, cdn, cdc⟩, ⟨afa, afc, afl⟩⟩, pll, cdl⟩ wq (fun _ => True) (⟨⟨((RN.out.keep hk (fun _ _ f => f)).mono (fun _ _ => trivial)), ((HYR.out.use.w'.keep ((HK4.out.trans KK6.out (fun _ f => f.elim)).trans hk (fun _ f => f.elim)) (fun _ _ f => f)).mono (fun _ _ => trivial)), ((HYR.out.use.rr.keep ((HK4.out.trans KK6.out (fun _ f => f.elim)).trans hk (fun _ f => f.elim)) (fun _ _ f => f)).mono (fun _ _ => trivial)), ((HYR.out.use.rw'.keep ((HK4.out.trans KK6.out (fun _ f => f.elim)).trans hk (fun _ f => f.elim)) (fun _ _ f => f)).mono (fun _ _ => trivial))⟩, ((HYR.out.pl.keep ((HK4.out.trans KK6.out (fun _ f => f.elim)).trans hk (fun _ f => f.elim)) (fun _ _ f => f)).mono (fun _ _ => trivial)), ((HYR.out.cd.keep ((HK4.out.trans KK6.out (fun _ f => f.elim)).trans hk (fun _ f => f.elim)) (fun _ _ f => f)).mono (fun _ _ => trivial))⟩) ((HDR.out.keep ((HK4.out.trans KK6.out (fun _ f => f.elim)).trans hk (fun _ f => f.elim)) (fun _ _ f => f)).mono (fun _ _ => trivial)) (by have := HSL.out.1; show (rl.take k ++ rl.drop (k + 1)).length + wl.length ≤ 100000; rw [HDd.out]; omega) HSL.out.2
          unfold CfgV.val at h
          simp only [SysX.val, RowV.v, SlV.v, HDL.out, HDd.out] at h
          rw [HM.out.less (nr := 2) rfl (x' := ⟨⟨a1, c1, rl.take k ++ rl.drop (k + 1)⟩, ⟨wa, wcp, wl⟩, ⟨rra, rrc, rrl⟩, ⟨rwa, rwc, rwl⟩, al, ⟨pla, pln, plc⟩, ⟨cda, cdn, cdc⟩, ⟨afa, afc, afl⟩⟩) (rises_cut HM.out.r.1 k hkl).2.2 (List.Sublist.refl _) rfl (List.Sublist.refl _) (.inr (.inl ⟨_, (rises_cut HM.out.r.1 k hkl).1, (rises_cut HM.out.r.1 k hkl).2.1⟩))] at h
          exact h))
        have hb2 := HCF.out w6 (HK4.out.trans KK6.out (fun _ f => f.elim))
        have hb3 := H6.out.blk 0 rfl
        clear s0 s1 s2 s3 s4 s5 s6 s7 t0 t1 t2 t3 t4 f0 f1 f2 f3 f4
        have k0 := hb2.cell 0
        have k1 := hb2.cell 1
        have k2 := hb2.cell 2
        have k3 := hb2.cell 3
        simp at k0 k1 k2 k3
        have s0 := hb3.cell 0
        have s1 := hb3.cell 1
        have s2 := hb3.cell 2
        have s3 := hb3.cell 3
        have s4 := hb3.cell 4
        have s5 := hb3.cell 5
        have s6 := hb3.cell 6
        have s7 := hb3.cell 7
        simp at s0 s1 s2 s3 s4 s5 s6 s7
        go_wp2_with (first | (go_at_call 27; refine (HC2.out _ (Keep.refl _ _)).mono ?_; rintro e w7 ⟨rfl, hk7⟩; have HK7 := Lib.hid hk7; clear hk7) | (go_at_call 24; refine (awake21 _).mono ?_; rintro e w9 ⟨rfl, hk9⟩; have HK9 := Lib.hid hk9; clear hk9))
        go_ret
        exact ⟨rfl, (((HKW3.out.trans HK4.out (fun _ f => f.elim)).trans KK6.out (fun _ f => f.elim)).trans HK7.out (fun _ f => f.elim)).trans HK9.out (fun _ f => f.elim)⟩
      by_cases hC : q = 2 ∧ 0 < rwl.length
      · obtain ⟨hq2, hq0⟩ := hC
        have b0 : (q == 0) = false := by subst hq2; rfl
        have b1 : (q == 1) = false := by subst hq2; rfl
        have b2 : (q == 2) = true := by subst hq2; rfl
        have e1 : decide ((rwl.length : Int) > 0) = true := decide_eq_true (by omega)
        have e2 : decide (0 < rwl.length) = true := decide_eq_true hq0
        have hrwc := rd_cap (show Rd _ _ (.slice rwa rwl.length rwc) rwl.length _ from HYR.out.use.rw')
        obtain ⟨a1, c1, ht1, ht2⟩ := tail_int rwa rwl.length rwc 1 hq0 hrwc
        obtain ⟨d, hd⟩ : ∃ d, rwl.length - 1 = d := ⟨_, rfl⟩
        rw [hd] at ht1 ht2
        have HDd := Lib.hid (show (rwl.drop 1).length = d from by simp [hd])
        have hdle : d ≤ rwl.length := by omega
        have HT1 := Lib.hid (ht2 _ w4 rwl rfl (HYR.out.use.rw'.keep HK4.out (fun _ _ f => f)))
        have ht1 := (show ∀ w, (Instr.slice 23 (.slice rwa rwl.length rwc) (some (.int .i64 1)) none none).run Try.prog w = .ok (.slice a1 d c1) w from ht1)
        clear hA hB hq2 hd ht2 hrwc
        go_upto_region 22 with (fail)
        obtain ⟨w6, hw6⟩ : ∃ w6, w6 = w5.setCell ⟨gt, 3, none⟩ (.slice a1 d c1) := ⟨_, rfl⟩
        have h6 := H5.out.write 0 rfl 3 (.slice a1 d c1)
        rw [← hw6] at h6 ⊢
        have H6 := Lib.hid (show St w4 w6 [blkA gt #[.slice ra rl.length rc, .slice wa wl.length wcp, .slice rra rrl.length rrc, .slice a1 d c1, .bool al, .slice pla pln plc, .slice cda cdn cdc, .slice afa afl.length afc] 35] from h6)
        have RN := Lib.hid (show Rd _ w6 (.slice a1 (rwl.drop 1).length c1) (rwl.drop 1).length (ints (rwl.drop 1)) from by rw [HDd.out]; exact HT1.out.keep (Keep.ofSt H6.out) (fun _ _ f => f))
        clear hw6 h6 ht1
        have KK6 := Lib.hid (Keep.ofSt H6.out)
        have HC2 := Lib.hid (fun wq (hk : Keep w6 wq Nope) => (show Calls Try.prog 27 #[.agg #[.int .i64 5, .int .i64 5, .slice a N c, .slice (some ⟨g2, 0, none⟩) 2 2], .agg #[.slice ra rl.length rc, .slice wa wl.length wcp, .slice rra rrl.length rrc, .slice a1 d c1, .bool al, .slice pla pln plc, .slice cda cdn cdc, .slice afa afl.length afc]] wq (Ret wq (.int .i64 19)) from by
          have h := sys_Check ⟨5, 5, a, c, dl, some ⟨g2, 0, none⟩, 2, 2⟩ ⟨⟨⟨ra, rc, rl⟩, ⟨wa, wcp, wl⟩, ⟨rra, rrc, rrl⟩, ⟨a1, c1, rwl.drop 1⟩, al, ⟨pla, pln, plc⟩, ⟨cda, cdn, cdc⟩, ⟨afa, afc, afl⟩⟩, pll, cdl⟩ wq (fun _ => True) (⟨⟨((HYR.out.use.r.keep ((HK4.out.trans KK6.out (fun _ f => f.elim)).trans hk (fun _ f => f.elim)) (fun _ _ f => f)).mono (fun _ _ => trivial)), ((HYR.out.use.w'.keep ((HK4.out.trans KK6.out (fun _ f => f.elim)).trans hk (fun _ f => f.elim)) (fun _ _ f => f)).mono (fun _ _ => trivial)), ((HYR.out.use.rr.keep ((HK4.out.trans KK6.out (fun _ f => f.elim)).trans hk (fun _ f => f.elim)) (fun _ _ f => f)).mono (fun _ _ => trivial)), ((RN.out.keep hk (fun _ _ f => f)).mono (fun _ _ => trivial))⟩, ((HYR.out.pl.keep ((HK4.out.trans KK6.out (fun _ f => f.elim)).trans hk (fun _ f => f.elim)) (fun _ _ f => f)).mono (fun _ _ => trivial)), ((HYR.out.cd.keep ((HK4.out.trans KK6.out (fun _ f => f.elim)).trans hk (fun _ f => f.elim)) (fun _ _ f => f)).mono (fun _ _ => trivial))⟩) ((HDR.out.keep ((HK4.out.trans KK6.out (fun _ f => f.elim)).trans hk (fun _ f => f.elim)) (fun _ _ f => f)).mono (fun _ _ => trivial)) HSL.out.1 (by have := HSL.out.2; show rrl.length + (rwl.drop 1).length ≤ 100000; rw [HDd.out]; omega)
          unfold CfgV.val at h
          simp only [SysX.val, RowV.v, SlV.v, HDL.out, HDd.out] at h
          rw [HM.out.less (nr := 2) rfl (x' := ⟨⟨ra, rc, rl⟩, ⟨wa, wcp, wl⟩, ⟨rra, rrc, rrl⟩, ⟨a1, c1, rwl.drop 1⟩, al, ⟨pla, pln, plc⟩, ⟨cda, cdn, cdc⟩, ⟨afa, afc, afl⟩⟩) (List.Sublist.refl _) (List.Sublist.refl _) rfl (List.drop_sublist 1 rwl) (.inr (.inr (.inl (rises_tail HM.out.rw'.1 hq0))))] at h
          exact h))
        have hb2 := HCF.out w6 (HK4.out.trans KK6.out (fun _ f => f.elim))
        have hb3 := H6.out.blk 0 rfl
        clear s0 s1 s2 s3 s4 s5 s6 s7 t0 t1 t2 t3 t4 f0 f1 f2 f3 f4
        have k0 := hb2.cell 0
        have k1 := hb2.cell 1
        have k2 := hb2.cell 2
        have k3 := hb2.cell 3
        simp at k0 k1 k2 k3
        have s0 := hb3.cell 0
        have s1 := hb3.cell 1
        have s2 := hb3.cell 2
        have s3 := hb3.cell 3
        have s4 := hb3.cell 4
        have s5 := hb3.cell 5
        have s6 := hb3.cell 6
        have s7 := hb3.cell 7
        simp at s0 s1 s2 s3 s4 s5 s6 s7
        go_wp2_with (first | (go_at_call 27; refine (HC2.out _ (Keep.refl _ _)).mono ?_; rintro e w7 ⟨rfl, hk7⟩; have HK7 := Lib.hid hk7; clear hk7) | (go_at_call 24; refine (awake21 _).mono ?_; rintro e w9 ⟨rfl, hk9⟩; have HK9 := Lib.hid hk9; clear hk9))
        go_ret
        exact ⟨rfl, (((HKW3.out.trans HK4.out (fun _ f => f.elim)).trans KK6.out (fun _ f => f.elim)).trans HK7.out (fun _ f => f.elim)).trans HK9.out (fun _ f => f.elim)⟩
      have c0 : (q == 0) = false ∨ (q == 0) = true ∧ decide (0 < wl.length) = false := by
        by_cases h : q = 0
        · exact .inr ⟨by simpa using h, decide_eq_false (fun hw => hA ⟨h, hw⟩)⟩
        · exact .inl (by simpa using h)
      have c1 : (q == 1) = false ∨ (q == 1) = true ∧ decide (0 < rl.length) = false := by
        by_cases h : q = 1
        · exact .inr ⟨by simpa using h, decide_eq_false (fun hw => hB ⟨h, hw⟩)⟩
        · exact .inl (by simpa using h)
      have c2 : (q == 2) = false ∨ (q == 2) = true ∧ decide (0 < rwl.length) = false := by
        by_cases h : q = 2
        · exact .inr ⟨by simpa using h, decide_eq_false (fun hw => hC ⟨h, hw⟩)⟩
        · exact .inl (by simpa using h)
      clear hA hB hC
      go_upto_region 12 with (fail)
      go_cut [60] (fun v60 wz => v60 = .bool false ∧ w5 = wz)
      case first =>
        rcases c0 with c0 | ⟨c0, c0'⟩
        · go_wp2_with fail
          go_meet
          case rel => exact ⟨rfl, rfl⟩
        · have e1 : decide ((wl.length : Int) > 0) = false := decide_eq_false (by have := of_decide_eq_false c0'; omega)
          go_wp2_with fail
          go_meet
          case rel => exact ⟨rfl, rfl⟩
      case rest =>
      obtain ⟨rfl, hwz⟩ := hcut
      subst hwz
      go_upto_region 15 with (fail)
      go_cut [95] (fun v60 wz => v60 = .bool false ∧ w5 = wz)
      case first =>
        rcases c1 with c0 | ⟨c0, c0'⟩
        · go_wp2_with fail
          go_meet
          case rel => exact ⟨rfl, rfl⟩
        · have e1 : decide ((rl.length : Int) > 0) = false := decide_eq_false (by have := of_decide_eq_false c0'; omega)
          go_wp2_with fail
          go_meet
          case rel => exact ⟨rfl, rfl⟩
      case rest =>
      obtain ⟨rfl, hwz⟩ := hcut
      subst hwz
      go_upto_region 18 with (fail)
      go_cut [130] (fun v60 wz => v60 = .bool false ∧ w5 = wz)
      case first =>
        rcases c2 with c0 | ⟨c0, c0'⟩
        · go_wp2_with fail
          go_meet
          case rel => exact ⟨rfl, rfl⟩
        · have e1 : decide ((rwl.length : Int) > 0) = false := decide_eq_false (by have := of_decide_eq_false c0'; omega)
          go_wp2_with fail
          go_meet
          case rel => exact ⟨rfl, rfl⟩
      case rest =>
      obtain ⟨rfl, hwz⟩ := hcut
      subst hwz
      clear c0 c1 c2
      cases al
      · go_wp2_with (go_at_call 24; refine (awake21 _).mono ?_; rintro e w9 ⟨rfl, hk9⟩; have HK9 := Lib.hid hk9; clear hk9)
        go_ret
        exact ⟨rfl, ((HKW3.out.trans HK4.out (fun _ f => f.elim)).trans (Keep.ofSt H5.out) (fun _ f => f.elim)).trans HK9.out (fun _ f => f.elim)⟩
      · go_upto_region 22 with (fail)
        obtain ⟨w6, hw6⟩ : ∃ w6, w6 = w5.setCell ⟨gt, 4, none⟩ (.bool false) := ⟨_, rfl⟩
        have h6 := H5.out.write 0 rfl 4 (.bool false)
        rw [← hw6] at h6 ⊢
        have H6 := Lib.hid (show St w4 w6 [blkA gt #[.slice ra rl.length rc, .slice wa wl.length wcp, .slice rra rrl.length rrc, .slice rwa rwl.length rwc, .bool false, .slice pla pln plc, .slice cda cdn cdc, .slice afa afl.length afc] 35] from h6)
        clear hw6 h6
        have KK6 := Lib.hid (Keep.ofSt H6.out)
        have HC2 := Lib.hid (fun wq (hk : Keep w6 wq Nope) => (show Calls Try.prog 27 #[.agg #[.int .i64 5, .int .i64 5, .slice a N c, .slice (some ⟨g2, 0, none⟩) 2 2], .agg #[.slice ra rl.length rc, .slice wa wl.length wcp, .slice rra rrl.length rrc, .slice rwa rwl.length rwc, .bool false, .slice pla pln plc, .slice cda cdn cdc, .slice afa afl.length afc]] wq (Ret wq (.int .i64 19)) from by
          have h := sys_Check ⟨5, 5, a, c, dl, some ⟨g2, 0, none⟩, 2, 2⟩ ⟨⟨⟨ra, rc, rl⟩, ⟨wa, wcp, wl⟩, ⟨rra, rrc, rrl⟩, ⟨rwa, rwc, rwl⟩, false, ⟨pla, pln, plc⟩, ⟨cda, cdn, cdc⟩, ⟨afa, afc, afl⟩⟩, pll, cdl⟩ wq (fun _ => True) (⟨⟨((HYR.out.use.r.keep ((HK4.out.trans KK6.out (fun _ f => f.elim)).trans hk (fun _ f => f.elim)) (fun _ _ f => f)).mono (fun _ _ => trivial)), ((HYR.out.use.w'.keep ((HK4.out.trans KK6.out (fun _ f => f.elim)).trans hk (fun _ f => f.elim)) (fun _ _ f => f)).mono (fun _ _ => trivial)), ((HYR.out.use.rr.keep ((HK4.out.trans KK6.out (fun _ f => f.elim)).trans hk (fun _ f => f.elim)) (fun _ _ f => f)).mono (fun _ _ => trivial)), ((HYR.out.use.rw'.keep ((HK4.out.trans KK6.out (fun _ f => f.elim)).trans hk (fun _ f => f.elim)) (fun _ _ f => f)).mono (fun _ _ => trivial))⟩, ((HYR.out.pl.keep ((HK4.out.trans KK6.out (fun _ f => f.elim)).trans hk (fun _ f => f.elim)) (fun _ _ f => f)).mono (fun _ _ => trivial)), ((HYR.out.cd.keep ((HK4.out.trans KK6.out (fun _ f => f.elim)).trans hk (fun _ f => f.elim)) (fun _ _ f => f)).mono (fun _ _ => trivial))⟩) ((HDR.out.keep ((HK4.out.trans KK6.out (fun _ f => f.elim)).trans hk (fun _ f => f.elim)) (fun _ _ f => f)).mono (fun _ _ => trivial)) HSL.out.1 HSL.out.2
          unfold CfgV.val at h
          simp only [SysX.val, RowV.v, SlV.v, HDL.out] at h
          rw [HM.out.less (nr := 2) rfl (x' := ⟨⟨ra, rc, rl⟩, ⟨wa, wcp, wl⟩, ⟨rra, rrc, rrl⟩, ⟨rwa, rwc, rwl⟩, false, ⟨pla, pln, plc⟩, ⟨cda, cdn, cdc⟩, ⟨afa, afc, afl⟩⟩) (List.Sublist.refl _) (List.Sublist.refl _) rfl (List.Sublist.refl _) (.inr (.inr (.inr ⟨rfl, rfl⟩)))] at h
          exact h))
        have hb2 := HCF.out w6 (HK4.out.trans KK6.out (fun _ f => f.elim))
        have hb3 := H6.out.blk 0 rfl
        clear s0 s1 s2 s3 s4 s5 s6 s7 t0 t1 t2 t3 t4 f0 f1 f2 f3 f4
        have k0 := hb2.cell 0
        have k1 := hb2.cell 1
        have k2 := hb2.cell 2
        have k3 := hb2.cell 3
        simp at k0 k1 k2 k3
        have s0 := hb3.cell 0
        have s1 := hb3.cell 1
        have s2 := hb3.cell 2
        have s3 := hb3.cell 3
        have s4 := hb3.cell 4
        have s5 := hb3.cell 5
        have s6 := hb3.cell 6
        have s7 := hb3.cell 7
        simp at s0 s1 s2 s3 s4 s5 s6 s7
        go_wp2_with (first | (go_at_call 27; refine (HC2.out _ (Keep.refl _ _)).mono ?_; rintro e w7 ⟨rfl, hk7⟩; have HK7 := Lib.hid hk7; clear hk7) | (go_at_call 24; refine (awake21 _).mono ?_; rintro e w9 ⟨rfl, hk9⟩; have HK9 := Lib.hid hk9; clear hk9))
        go_ret
        exact ⟨rfl, (((HKW3.out.trans HK4.out (fun _ f => f.elim)).trans KK6.out (fun _ f => f.elim)).trans HK7.out (fun _ f => f.elim)).trans HK9.out (fun _ f => f.elim)⟩
end Go.Proofs.Ytbigknmeooaidaa
