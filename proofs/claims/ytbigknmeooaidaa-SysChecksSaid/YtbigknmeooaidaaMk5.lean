/-
  The law's own systems, made of numbers.
-/
import Derived.Test.YtbigknmeooaidaaMk4
import Derived.Test.YtbigknmeooaidaaOpenSys
namespace Go.Proofs.Ytbigknmeooaidaa
open Go Go.RowKit
set_option linter.unusedVariables false
set_option linter.unusedSimpArgs false

/-- A row that is only read, in blocks of the call's own. -/
def rdA (v : Value) (n : Nat) (xs : List Value) : Asr := ⟨fun w F => Rd F w v n xs, fun h hk hd => h.keep hk hd, fun h hG => h.mono hG⟩
def insA (v : Value) (n : Nat) (L : List InsV) : Asr := slA 87 4 v n (L.flatMap InsV.cells)
/-- The cells of the system that is being made. -/
def mkC (r w rr rw' : Value) (al : Bool) (pl cd af : Value) : Array Value := #[r, w, rr, rw', .bool al, pl, cd, af]

theorem Rd.tight {S : Nat → Prop} {w : World} {v : Value} {n : Nat} {xs : List Value} (h : Rd S w v n xs) : Rd (fun i => S i ∧ i < w.heap.size) w v n xs := by
  obtain ⟨a, c, rfl, h1, h2, h3, h4⟩ := h
  refine ⟨a, c, rfl, h1, h2, h3, fun j u hu => ?_⟩
  obtain ⟨b, o, rfl, hb, hc⟩ := h4 j u hu
  exact ⟨b, o, rfl, ⟨hb, World.block_lt_of_cell? w _ hc⟩, hc⟩
theorem St.addRd {w0 w w' : World} {l : List Asr} {v : Value} {n : Nat} {xs : List Value} (h : St w0 w l) (hk : Keep w w' Nope) (hr : Rd (fun z => w.heap.size ≤ z) w' v n xs) : St w0 w' (l ++ [rdA v n xs]) :=
  h.add hk (A := rdA v n xs) hr.tight
theorem St.row {w0 w : World} {l : List Asr} (h : St w0 w l) (i : Nat) {b : Nat} {cs : Array Value} {t : TypeId} (hi : l[i]? = some (blkA b cs t)) (cs' : Array Value) : St w0 (w.setRow b cs') (l.set i (blkA b cs' t)) := by
  obtain ⟨G, h1, h2, h3, _⟩ := h.opens i hi
  exact h3 _ (blkA b cs' t) ((Keep.refl w G).setRow (.inl h1.2) cs') ⟨setRow_heap _ _ _ _ _ _ h1.1, .inl h1.2⟩
theorem St.rdr {w0 w : World} {l : List Asr} (h : St w0 w l) (i : Nat) {v : Value} {n : Nat} {xs : List Value} (hi : l[i]? = some (rdA v n xs)) : ∃ G : Nat → Prop, Rd G w v n xs ∧ ∀ x, G x → w0.heap.size ≤ x ∧ x < w.heap.size := h.get i hi

/-- A system made of numbers: the plain data. -/
structure SysN where
  pa : Option Addr
  pc : Nat
  plan : List Int
  ca : Option Addr
  cc : Nat
  code : List Int
  fa : Option Addr
  fc : Nat
  after : List Int
  use : Int
  raw : SysF
def SysN.val (x : SysN) : Value := .agg (#[.slice x.pa x.plan.length x.pc, .slice x.ca x.code.length x.cc, .slice x.fa x.after.length x.fc, .int .i64 x.use] ++ x.raw.x.cells.toArray)
structure SysNRd (S : Nat → Prop) (w : World) (x : SysN) : Prop where
  plan : Rd S w (.slice x.pa x.plan.length x.pc) x.plan.length (ints x.plan)
  code : Rd S w (.slice x.ca x.code.length x.cc) x.code.length (ints x.code)
  after : Rd S w (.slice x.fa x.after.length x.fc) x.after.length (ints x.after)
  raw : SysRdA S w x.raw
theorem SysNRd.keep0 {S : Nat → Prop} {w w' : World} {x : SysN} (h : SysNRd S w x) (hk : Keep w w' Nope) : SysNRd S w' x :=
  ⟨h.plan.keep hk (fun _ _ f => f), h.code.keep hk (fun _ _ f => f), h.after.keep hk (fun _ _ f => f), h.raw.1.keep0 hk, h.raw.2.keep hk (fun _ _ f => f)⟩

/-- One instruction more that fits. -/
structure CodeP (dl : List DescV) (pll : List ColV) (res : Nat) (cdl : List InsV) (al : Bool) : Prop where
  tame : ∀ i, i ∈ cdl → TameI pll.length dl.length res i ∧ fitsB dl pll res i = true
  al : al = cdl.any (fun i => decide (14 ≤ i.op) && decide (i.op ≤ 17))
/-- What of the system is the made one's: where skips are cut, and what is read and written of the resources. -/
structure CodeQ (cdl : List InsV) (k : Nat) (cdk : List InsV) (rr rw' : List Int) : Prop where
  len : cdk.length = cdl.length
  same : ∀ (j : Nat) (i i' : InsV), cdl[j]? = some i → cdk[j]? = some i' → i'.op = i.op ∧ i'.r = i.r ∧ i'.s = i.s ∧ (i.op ≠ 13 ∨ k ≤ j → i'.n = i.n) ∧ (i.op = 13 ∧ j < k → i'.n = min i.n ((cdl.length : Int) - 1 - j))
  rr : Rises rr ∧ ∀ x, x ∈ rr ↔ ∃ i, i ∈ cdl.take k ∧ i.op = 11 ∧ i.n = x
  rw' : Rises rw' ∧ ∀ x, x ∈ rw' ↔ ∃ i, i ∈ cdl.take k ∧ i.op = 12 ∧ i.n = x
/-- A system that was made of numbers. -/
structure MadeN (dl : List DescV) (res : Nat) (x : SysN) (y : SysF) : Prop where
  plan : Tame17 dl.length y.pll
  len : y.x.pl.n = y.pll.length ∧ y.x.cd.n = y.cdl.length ∧ y.cdl.length ≤ 10 ∧ y.pll.length ≤ 7
  aft : y.x.af.l = x.after
  use : (∃ cdl, CodeP dl y.pll res cdl y.x.al ∧ CodeQ cdl cdl.length y.cdl y.x.rr.l y.x.rw'.l ∧ (Rises y.x.w.l ∧ ∀ z, z ∈ y.x.w.l ↔ z ∈ compsF [2] y.pll) ∧ Rises y.x.r.l ∧ ∀ z, z ∈ y.x.r.l ↔ z ∈ compsF [1, 3, 4] y.pll) ∨ x.use % 32 = 9
  short : (y.x.r.l.length ≤ 10000 ∧ y.x.w.l.length ≤ 10000 ∧ y.x.rr.l.length ≤ 10000 ∧ y.x.rw'.l.length ≤ 10000) ∨ x.use % 32 = 9 ∧ y.x.r.l = x.raw.x.r.l ∧ y.x.w.l = x.raw.x.w.l ∧ y.x.rr.l = x.raw.x.rr.l ∧ y.x.rw'.l = x.raw.x.rw'.l
def RetMake (w : World) (dl : List DescV) (res : Nat) (x : SysN) (S : Nat → Prop) (en : Ending) (w' : World) : Prop :=
  ∃ y : SysF, en = .returned y.x.val ∧ (MadeN dl res x y ∨ x.use % 32 = 7 ∧ y = x.raw) ∧ SysRdA (fun z => S z ∨ w.heap.size ≤ z) w' y ∧ Keep w w' Nope

theorem Tame17.pos {nd : Nat} {L : List ColV} (h : Tame17 nd L) : 0 < L.length := by
  obtain ⟨L0, U, sm, h1, _, rfl⟩ := h
  cases sm
  · simp
  · have := h1.some'
    cases L0 with
    | nil => simp at this
    | cons a t => simp
theorem Tame17.comps {nd : Nat} {L : List ColV} (h : Tame17 nd L) : CompsIn nd L := by
  obtain ⟨L0, U, sm, h1, _, rfl⟩ := h
  intro c hc hk
  have : c ∈ L0 := by
    cases sm
    · rcases List.mem_append.1 hc with hc | hc
      · exact hc
      · simp at hc
        rw [hc] at hk
        simp at hk
    · exact hc
  exact h1.comp c this
theorem CodeP.add {dl : List DescV} {pll : List ColV} {m : Nat} {cdl : List InsV} {al : Bool} (h : CodeP dl pll m cdl al) {i : InsV} (hi : TameI pll.length dl.length m i) (hf : fitsB dl pll m i = true) :
    CodeP dl pll m (cdl ++ [i]) (al || (decide (14 ≤ i.op) && decide (i.op ≤ 17))) := by
  refine ⟨fun j hj => ?_, ?_⟩
  · rcases List.mem_append.1 hj with hj | hj
    · exact h.tame j hj
    · simp at hj
      subst hj
      exact ⟨hi, hf⟩
  · rw [List.any_append, ← h.al]
    simp
theorem slIns : SlTy Try.prog 33 87 4 32 := SlTy.mk' (.agg #[.int .i64 0, .int .i64 0, .int .i64 0, .int .i64 0]) Try.underlying33 (by kernel_rfl) rfl (by decide)
theorem CodeQ.start (cdl : List InsV) : CodeQ cdl 0 cdl [] [] :=
  ⟨rfl, fun j i i' h1 h2 => by rw [h1] at h2; cases h2; exact ⟨rfl, rfl, rfl, fun _ => rfl, fun h => by omega⟩, ⟨List.Pairwise.nil, fun x => by simp⟩, ⟨List.Pairwise.nil, fun x => by simp⟩⟩
theorem CodeQ.get {cdl cdk : List InsV} {k : Nat} {rr rw' : List Int} (h : CodeQ cdl k cdk rr rw') (hk : k < cdl.length) : ∃ i, cdl[k]? = some i ∧ cdk[k]? = some i := by
  obtain ⟨i, hi⟩ : ∃ i, cdl[k]? = some i := ⟨_, List.getElem?_eq_getElem hk⟩
  obtain ⟨i', hi'⟩ : ∃ i, cdk[k]? = some i := ⟨_, List.getElem?_eq_getElem (by rw [h.len]; exact hk)⟩
  obtain ⟨h1, h2, h3, h4, _⟩ := h.same k i i' hi hi'
  refine ⟨i, hi, ?_⟩
  rw [hi']
  obtain ⟨a, b, c, d⟩ := i
  obtain ⟨a', b', c', d'⟩ := i'
  simp only at h1 h2 h3 h4
  rw [h1, h2, h3, h4 (.inr (Nat.le_refl _))]
theorem CodeQ.mem {cdl cdk : List InsV} {k : Nat} {rr rw' : List Int} (i : InsV) (hi : cdl[k]? = some i) (o : Int) (x : Int) : (∃ j, j ∈ cdl.take (k + 1) ∧ j.op = o ∧ j.n = x) ↔ (∃ j, j ∈ cdl.take k ∧ j.op = o ∧ j.n = x) ∨ (i.op = o ∧ i.n = x) := by
  rw [List.take_add_one, hi]
  simp only [Option.toList_some, List.mem_append, List.mem_singleton]
  constructor
  · rintro ⟨j, h1 | rfl, h2⟩
    · exact .inl ⟨j, h1, h2⟩
    · exact .inr h2
  · rintro (⟨j, h1, h2⟩ | h2)
    · exact ⟨j, .inl h1, h2⟩
    · exact ⟨i, .inr rfl, h2⟩
theorem CodeQ.sameUp {cdl cdk : List InsV} {k : Nat} {rr rw' : List Int} (h : CodeQ cdl k cdk rr rw') {i : InsV} (hi : cdl[k]? = some i) (h13 : i.op ≠ 13) :
    ∀ (j : Nat) (i i' : InsV), cdl[j]? = some i → cdk[j]? = some i' → i'.op = i.op ∧ i'.r = i.r ∧ i'.s = i.s ∧ (i.op ≠ 13 ∨ k + 1 ≤ j → i'.n = i.n) ∧ (i.op = 13 ∧ j < k + 1 → i'.n = min i.n ((cdl.length : Int) - 1 - j)) := by
  intro j a a' h1 h2
  obtain ⟨e1, e2, e3, e4, e5⟩ := h.same j a a' h1 h2
  refine ⟨e1, e2, e3, fun hh => e4 (hh.imp id (fun h => by omega)), fun hh => ?_⟩
  by_cases hjk : j = k
  · subst hjk
    rw [hi] at h1
    cases h1
    exact (h13 hh.1).elim
  · exact e5 ⟨hh.1, by omega⟩
theorem CodeQ.other {cdl cdk : List InsV} {k : Nat} {rr rw' : List Int} (h : CodeQ cdl k cdk rr rw') {i : InsV} (hi : cdl[k]? = some i) (h13 : i.op ≠ 13) (h11 : i.op ≠ 11) (h12 : i.op ≠ 12) : CodeQ cdl (k + 1) cdk rr rw' := by
  refine ⟨h.len, h.sameUp hi h13, ⟨h.rr.1, fun x => ?_⟩, ⟨h.rw'.1, fun x => ?_⟩⟩
  · rw [h.rr.2, CodeQ.mem (cdk := cdk) (rr := rr) (rw' := rw') i hi]
    exact ⟨.inl, fun hh => hh.elim id (fun hh => (h11 hh.1).elim)⟩
  · rw [h.rw'.2, CodeQ.mem (cdk := cdk) (rr := rr) (rw' := rw') i hi]
    exact ⟨.inl, fun hh => hh.elim id (fun hh => (h12 hh.1).elim)⟩
theorem CodeQ.res {cdl cdk : List InsV} {k : Nat} {rr rw' R : List Int} (h : CodeQ cdl k cdk rr rw') {i : InsV} (hi : cdl[k]? = some i) (h11 : i.op = 11) (hr : Rises R) (hm : ∀ x, x ∈ R ↔ x ∈ rr ∨ x = i.n) : CodeQ cdl (k + 1) cdk R rw' := by
  refine ⟨h.len, h.sameUp hi (by omega), ⟨hr, fun x => ?_⟩, ⟨h.rw'.1, fun x => ?_⟩⟩
  · rw [hm, h.rr.2, CodeQ.mem (cdk := cdk) (rr := rr) (rw' := rw') i hi]
    exact ⟨fun hh => hh.imp id (fun e => ⟨h11, e.symm⟩), fun hh => hh.imp id (fun e => e.2.symm)⟩
  · rw [h.rw'.2, CodeQ.mem (cdk := cdk) (rr := rr) (rw' := rw') i hi]
    exact ⟨.inl, fun hh => hh.elim id (fun hh => by omega)⟩
theorem CodeQ.save {cdl cdk : List InsV} {k : Nat} {rr rw' R : List Int} (h : CodeQ cdl k cdk rr rw') {i : InsV} (hi : cdl[k]? = some i) (h12 : i.op = 12) (hr : Rises R) (hm : ∀ x, x ∈ R ↔ x ∈ rw' ∨ x = i.n) : CodeQ cdl (k + 1) cdk rr R := by
  refine ⟨h.len, h.sameUp hi (by omega), ⟨h.rr.1, fun x => ?_⟩, ⟨hr, fun x => ?_⟩⟩
  · rw [h.rr.2, CodeQ.mem (cdk := cdk) (rr := rr) (rw' := rw') i hi]
    exact ⟨.inl, fun hh => hh.elim id (fun hh => by omega)⟩
  · rw [hm, h.rw'.2, CodeQ.mem (cdk := cdk) (rr := rr) (rw' := rw') i hi]
    exact ⟨fun hh => hh.imp id (fun e => ⟨h12, e.symm⟩), fun hh => hh.imp id (fun e => e.2.symm)⟩
theorem CodeQ.skip {cdl cdk : List InsV} {k : Nat} {rr rw' : List Int} (h : CodeQ cdl k cdk rr rw') {o r s n : Int} (hi : cdl[k]? = some ⟨o, r, s, n⟩) (h13 : o = 13) : CodeQ cdl (k + 1) (cdk.set k ⟨o, r, s, min n ((cdl.length : Int) - 1 - k)⟩) rr rw' := by
  have hk := (List.getElem?_eq_some_iff.1 hi).1
  refine ⟨by rw [List.length_set]; exact h.len, fun j a a' h1 h2 => ?_, ⟨h.rr.1, fun x => ?_⟩, ⟨h.rw'.1, fun x => ?_⟩⟩
  · by_cases hjk : k = j
    · subst hjk
      rw [List.getElem?_set_self (by rw [h.len]; exact hk)] at h2
      cases h2
      rw [hi] at h1
      cases h1
      exact ⟨rfl, rfl, rfl, fun hh => by rcases hh with hh | hh; exact (hh h13).elim; omega, fun _ => rfl⟩
    · rw [List.getElem?_set_ne hjk] at h2
      obtain ⟨e1, e2, e3, e4, e5⟩ := h.same j a a' h1 h2
      exact ⟨e1, e2, e3, fun hh => e4 (hh.imp id (fun h => by omega)), fun hh => e5 ⟨hh.1, by omega⟩⟩
  · rw [h.rr.2, CodeQ.mem (cdk := cdk) (rr := rr) (rw' := rw') _ hi]
    exact ⟨.inl, fun hh => hh.elim id (fun hh => by simp only at hh; omega)⟩
  · rw [h.rw'.2, CodeQ.mem (cdk := cdk) (rr := rr) (rw' := rw') _ hi]
    exact ⟨.inl, fun hh => hh.elim id (fun hh => by simp only at hh; omega)⟩
def LoopK2 (w : World) (cdl : List InsV) (B : List Asr) (gs : Nat) (rv wv plv cdv : Value) (n : Nat) (alb : Bool) (T : List Asr) (g : Nat) (v9 : Value) (wr : World) : Prop :=
  ∃ (k : Nat) (cdk : List InsV) (r1 r2 : RowV), g + k = n ∧ v9 = .int .i64 k ∧ CodeQ cdl k cdk r1.l r2.l ∧ r1.l.length ≤ k ∧ r2.l.length ≤ k ∧
    St w wr (B ++ [blkA gs #[rv, wv, r1.v, r2.v, .bool alb, plv, cdv, .slice none 0 0] 35] ++ T ++ [insA cdv n cdk, rdA r1.v r1.l.length (ints r1.l), rdA r2.v r2.l.length (ints r2.l)])
def LoopK1 (w : World) (dl : List DescV) (pll : List ColV) (m : Nat) (B : List Asr) (gs : Nat) (rv wv plv : Value) (T : List Asr) (g : Nat) (v7 : Value) (wr : World) : Prop :=
  ∃ (i n : Nat) (a : Option Addr) (c : Nat) (cdl : List InsV) (alb : Bool), g + i = 10 ∧ v7 = .int .i64 i ∧ cdl.length = n ∧ n ≤ i ∧ CodeP dl pll m cdl alb ∧
    St w wr (B ++ [blkA gs #[rv, wv, .slice none 0 0, .slice none 0 0, .bool alb, plv, .slice a n c, .slice none 0 0] 35] ++ T ++ [insA (.slice a n c) n cdl])
set_option maxRecDepth 5000 in
set_option maxHeartbeats 8000000 in
theorem law_make (cf : CfgV) (x : SysN) (w : World) (S : Nat → Prop) (h : SysNRd S w x) (hd : RdDescs S w (.slice cf.ca cf.dl.length cf.cc) cf.dl) (hnd : cf.dl.length ≤ 60) (haf : x.after.length * 8 ≤ 140737488355328) :
    Calls Try.prog 26 #[cf.val, x.val] w (RetMake w cf.dl (min cf.rn 32) x S) := by
  obtain ⟨size, top, ca, cc, dl, cra, crn, crc⟩ := cf
  obtain ⟨pa, pc, plan, coa, coc, code, fa, fc, after, use, raw⟩ := x
  obtain ⟨rx, rpl, rcd⟩ := raw
  obtain ⟨⟨ra, rc, rl⟩, ⟨wa, wcp, wl⟩, ⟨rra, rrc, rrl⟩, ⟨rwa, rwc, rwl⟩, al, ⟨pla, pln, plc⟩, ⟨cda, cdn, cdc⟩, ⟨afa, afc, afl⟩⟩ := rx
  have H := Lib.hid h
  have HD := Lib.hid hd
  have haf' : after.length * 8 ≤ 140737488355328 := haf
  clear haf
  clear h hd
  unfold CfgV.val SysN.val
  simp only [SysX.cells, RowV.v, SlV.v, List.append_toArray, List.cons_append, List.nil_append]
  obtain ⟨nd, hndl⟩ : ∃ nd, dl.length = nd := ⟨_, rfl⟩
  simp only at hnd HD
  rw [hndl] at hnd HD ⊢
  have HND := Lib.hid hndl
  clear hndl
  obtain ⟨U, hU, hU32⟩ : ∃ U : Nat, bits .and .i64 use 31 = (U : Int) ∧ use % 32 = (U : Int) := by
    rw [and_mask use 5 31 (by decide) rfl]
    exact ⟨(use % 32).toNat, by omega, by omega⟩
  have HUU := Lib.hid hU32
  clear hU32
  have h0 := (((St.start w).box #[.int .i64 size, .int .i64 top, .slice ca nd cc, .slice cra crn crc] 56).box #[.slice pa plan.length pc, .slice coa code.length coc, .slice fa after.length fc, .int .i64 use, .slice ra rl.length rc, .slice wa wl.length wcp, .slice rra rrl.length rrc, .slice rwa rwl.length rwc, .bool al, .slice pla pln plc, .slice cda cdn cdc, .slice afa afl.length afc] 52).box #[.slice none 0 0, .slice none 0 0, .slice none 0 0, .slice none 0 0, .bool false, .slice none 0 0, .slice none 0 0, .slice none 0 0] 35
  simp only [World.size_alloc] at h0
  obtain ⟨w1, hw1⟩ : ∃ w1, w1 = ((w.alloc (.cells #[.int .i64 size, .int .i64 top, .slice ca nd cc, .slice cra crn crc] 56)).alloc (.cells #[.slice pa plan.length pc, .slice coa code.length coc, .slice fa after.length fc, .int .i64 use, .slice ra rl.length rc, .slice wa wl.length wcp, .slice rra rrl.length rrc, .slice rwa rwl.length rwc, .bool al, .slice pla pln plc, .slice cda cdn cdc, .slice afa afl.length afc] 52)).alloc (.cells #[.slice none 0 0, .slice none 0 0, .slice none 0 0, .slice none 0 0, .bool false, .slice none 0 0, .slice none 0 0, .slice none 0 0] 35) := ⟨_, rfl⟩
  rw [← hw1] at h0
  obtain ⟨g0, hg0⟩ : ∃ g, g = w.heap.size := ⟨_, rfl⟩
  obtain ⟨g1, hg1⟩ : ∃ g, g = w.heap.size + 1 := ⟨_, rfl⟩
  obtain ⟨g2, hg2⟩ : ∃ g, g = w.heap.size + 1 + 1 := ⟨_, rfl⟩
  rw [← hg2, ← hg1, ← hg0] at h0
  have H0 := Lib.hid (show St w w1 [blkA g0 #[.int .i64 size, .int .i64 top, .slice ca nd cc, .slice cra crn crc] 56, blkA g1 #[.slice pa plan.length pc, .slice coa code.length coc, .slice fa after.length fc, .int .i64 use, .slice ra rl.length rc, .slice wa wl.length wcp, .slice rra rrl.length rrc, .slice rwa rwl.length rwc, .bool al, .slice pla pln plc, .slice cda cdn cdc, .slice afa afl.length afc] 52, blkA g2 #[.slice none 0 0, .slice none 0 0, .slice none 0 0, .slice none 0 0, .bool false, .slice none 0 0, .slice none 0 0, .slice none 0 0] 35] from h0)
  have HW1 := Lib.hid hw1
  have HGS := Lib.hid (And.intro hg0 (And.intro hg1 hg2))
  clear h0 hw1 hg0 hg1 hg2
  go_enter Try.func26, Try.ntmps26
  go_upto_region 1 with (fail)
  rw [← HW1.out, ← HGS.out.2.2, ← HGS.out.2.1, ← HGS.out.1]
  have x3 := (H0.out.blk 1 rfl).cell 3
  simp at x3
  by_cases hu7 : U = 7
  · subst hu7
    have y4 := (H0.out.blk 1 rfl).cell 4
    have y5 := (H0.out.blk 1 rfl).cell 5
    have y6 := (H0.out.blk 1 rfl).cell 6
    have y7 := (H0.out.blk 1 rfl).cell 7
    have y8 := (H0.out.blk 1 rfl).cell 8
    have y9 := (H0.out.blk 1 rfl).cell 9
    have y10 := (H0.out.blk 1 rfl).cell 10
    have y11 := (H0.out.blk 1 rfl).cell 11
    simp at y4 y5 y6 y7 y8 y9 y10 y11
    have HB2 := Lib.hid (H0.out.blk 2 rfl)
    have HKP := Lib.hid (Keep.ofSt H0.out)
    have HGL := Lib.hid (show w.heap.size ≤ g2 by have := HGS.out.2.2; omega)
    go_wp2_with (refine wpList_store_row rfl 35 _ _ rfl g2 #[.slice ra rl.length rc, .slice wa wl.length wcp, .slice rra rrl.length rrc, .slice rwa rwl.length rwc, .bool al, .slice pla pln plc, .slice cda cdn cdc, .slice afa afl.length afc] rfl rfl 35 _ HB2.out (by kernel_rfl) rfl (by kernel_rfl) ?_)
    refine bodyPost_ret (results_cell_row (P := Try.prog) rfl _ _ g2 35 #[.slice ra rl.length rc, .slice wa wl.length wcp, .slice rra rrl.length rrc, .slice rwa rwl.length rwc, .bool al, .slice pla pln plc, .slice cda cdn cdc, .slice afa afl.length afc] (0, 0) _ rfl (setRow_heap _ _ _ _ _ _ HB2.out) Try.underlying35 rfl (by kernel_rfl)) rfl ?_
    have hk := HKP.out.setRow (g := g2) (.inr HGL.out) #[.slice ra rl.length rc, .slice wa wl.length wcp, .slice rra rrl.length rrc, .slice rwa rwl.length rwc, .bool al, .slice pla pln plc, .slice cda cdn cdc, .slice afa afl.length afc]
    refine ⟨_, rfl, .inr ⟨HUU.out, rfl⟩, ?_, hk⟩
    have hr := (H.out.keep0 hk).raw
    exact ⟨⟨⟨hr.1.use.r.mono (fun _ h => .inl h), hr.1.use.w'.mono (fun _ h => .inl h), hr.1.use.rr.mono (fun _ h => .inl h), hr.1.use.rw'.mono (fun _ h => .inl h)⟩, hr.1.pl.mono (fun _ h => .inl h), hr.1.cd.mono (fun _ h => .inl h)⟩, hr.2.mono (fun _ h => .inl h)⟩
  have hu7' : ((U : Int) == 7) = false := by simp; omega
  have x0 := (H0.out.blk 1 rfl).cell 0
  have z2 := (H0.out.blk 0 rfl).cell 2
  simp at x0 z2
  have HT := Lib.hid (law_tame17 (.slice pa plan.length pc) plan nd w1 S ((H.out.keep0 (Keep.ofSt H0.out)).plan) hnd)
  go_upto_region 4 with (go_at_call 43; go_loud (refine HT.out.mono ?_; rintro e w2 ⟨pla', plc', pll, rfl, htm, hk2, hown⟩; have H2 := Lib.hid (H0.out.add hk2 (A := slA 82 2 (.slice pla' pll.length plc') pll.length (pll.flatMap ColV.cells)) hown); have HTM := Lib.hid htm; clear hk2 hown htm HT))
  obtain ⟨w3, hw3⟩ : ∃ w3, w3 = w2.alloc (.cells #[.slice none 0 0, .slice none 0 0, .slice none 0 0, .slice none 0 0, .bool false, .slice pla' pll.length plc', .slice none 0 0, .slice none 0 0] 35) := ⟨_, rfl⟩
  rw [← hw3]
  have h3 := H2.out.box #[.slice none 0 0, .slice none 0 0, .slice none 0 0, .slice none 0 0, .bool false, .slice pla' pll.length plc', .slice none 0 0, .slice none 0 0] 35
  rw [← hw3] at h3
  obtain ⟨gs, hgs⟩ : ∃ g, g = w2.heap.size := ⟨_, rfl⟩
  rw [← hgs] at h3 ⊢
  have H3 := Lib.hid (show St w w3 [blkA g0 #[.int .i64 size, .int .i64 top, .slice ca nd cc, .slice cra crn crc] 56, blkA g1 #[.slice pa plan.length pc, .slice coa code.length coc, .slice fa after.length fc, .int .i64 use, .slice ra rl.length rc, .slice wa wl.length wcp, .slice rra rrl.length rrc, .slice rwa rwl.length rwc, .bool al, .slice pla pln plc, .slice cda cdn cdc, .slice afa afl.length afc] 52, blkA g2 #[.slice none 0 0, .slice none 0 0, .slice none 0 0, .slice none 0 0, .bool false, .slice none 0 0, .slice none 0 0, .slice none 0 0] 35, slA 82 2 (.slice pla' pll.length plc') pll.length (pll.flatMap ColV.cells), blkA gs #[.slice none 0 0, .slice none 0 0, .slice none 0 0, .slice none 0 0, .bool false, .slice pla' pll.length plc', .slice none 0 0, .slice none 0 0] 35] from h3)
  clear hw3 h3 hgs x3 x0 z2 H2 H0
  have hpl7 : pll.length ≤ 7 := by
    obtain ⟨L0, U0, sm, _, hl6, rfl⟩ := HTM.out
    cases sm
    · simp; omega
    · simp; omega
  have s5 := (H3.out.blk 4 rfl).cell 5
  simp at s5
  obtain ⟨Gp, hpr, _⟩ := H3.out.get 3 rfl
  have HPR := Lib.hid (show RdCols Gp w3 (.slice pla' pll.length plc') pll from Own.rd hpr)
  clear hpr
  have HCW := Lib.hid (ref_comps (.slice pla' pll.length plc') (.slice (some ⟨w3.heap.size, 0, none⟩) 1 1) pll [2] (w3.alloc (.cells #[.int .i64 2] 3)) Gp _ (HPR.out.keep (T := Nope) ((Keep.refl w3 Nope).alloc _) (fun _ _ f => f)) (rd_one w3 2) (by omega) (by decide))
  go_upto_region 5 with (go_at_call 44; go_loud (refine HCW.out.mono ?_; rintro e w4 ⟨aw, cw, Lw, rfl, hr, hm, hl, hrd, hk⟩; have H4 := Lib.hid (show St w w4 [blkA g0 #[.int .i64 size, .int .i64 top, .slice ca nd cc, .slice cra crn crc] 56, blkA g1 #[.slice pa plan.length pc, .slice coa code.length coc, .slice fa after.length fc, .int .i64 use, .slice ra rl.length rc, .slice wa wl.length wcp, .slice rra rrl.length rrc, .slice rwa rwl.length rwc, .bool al, .slice pla pln plc, .slice cda cdn cdc, .slice afa afl.length afc] 52, blkA g2 #[.slice none 0 0, .slice none 0 0, .slice none 0 0, .slice none 0 0, .bool false, .slice none 0 0, .slice none 0 0, .slice none 0 0] 35, slA 82 2 (.slice pla' pll.length plc') pll.length (pll.flatMap ColV.cells), blkA gs #[.slice none 0 0, .slice none 0 0, .slice none 0 0, .slice none 0 0, .bool false, .slice pla' pll.length plc', .slice none 0 0, .slice none 0 0] 35, rdA (.slice aw Lw.length cw) Lw.length (ints Lw)] from H3.out.addRd (((Keep.refl w3 Nope).alloc _).trans hk (fun _ f => f.elim)) (hrd.mono (fun z h => by rw [World.size_alloc] at h; omega))); have HW := Lib.hid (And.intro hr (And.intro hm hl)); have HK4 := Lib.hid (((Keep.refl w3 Nope).alloc _).trans hk (fun _ f => f.elim)); have q1 := (H4.out.blk 4 rfl).cell 1; have f1 := (H4.out.blk 4 rfl).frozen 1; simp at q1; clear hr hm hl hrd hk HCW H3))
  have h5 := H4.out.write 4 rfl 1 (.slice aw Lw.length cw)
  obtain ⟨w5, hw5⟩ : ∃ w5, w5 = w4.setCell ⟨gs, 1, none⟩ (.slice aw Lw.length cw) := ⟨_, rfl⟩
  rw [← hw5] at h5 ⊢
  have H5 := Lib.hid (show St w w5 [blkA g0 #[.int .i64 size, .int .i64 top, .slice ca nd cc, .slice cra crn crc] 56, blkA g1 #[.slice pa plan.length pc, .slice coa code.length coc, .slice fa after.length fc, .int .i64 use, .slice ra rl.length rc, .slice wa wl.length wcp, .slice rra rrl.length rrc, .slice rwa rwl.length rwc, .bool al, .slice pla pln plc, .slice cda cdn cdc, .slice afa afl.length afc] 52, blkA g2 #[.slice none 0 0, .slice none 0 0, .slice none 0 0, .slice none 0 0, .bool false, .slice none 0 0, .slice none 0 0, .slice none 0 0] 35, slA 82 2 (.slice pla' pll.length plc') pll.length (pll.flatMap ColV.cells), blkA gs #[.slice none 0 0, .slice aw Lw.length cw, .slice none 0 0, .slice none 0 0, .bool false, .slice pla' pll.length plc', .slice none 0 0, .slice none 0 0] 35, rdA (.slice aw Lw.length cw) Lw.length (ints Lw)] from h5)
  clear hw5 h5 q1 f1 s5 H4 HPR HK4
  have s5 := (H5.out.blk 4 rfl).cell 5
  simp at s5
  obtain ⟨Gp2, hpr, _⟩ := H5.out.get 3 rfl
  have HPR := Lib.hid (show RdCols Gp2 w5 (.slice pla' pll.length plc') pll from Own.rd hpr)
  clear hpr
  have HCR := Lib.hid (ref_comps (.slice pla' pll.length plc') (.slice (some ⟨w5.heap.size, 0, none⟩) 3 3) pll [1, 3, 4] (w5.alloc (.cells #[.int .i64 1, .int .i64 3, .int .i64 4] 3)) Gp2 (fun i => i = w5.heap.size) (HPR.out.keep (T := Nope) ((Keep.refl w5 Nope).alloc _) (fun _ _ f => f)) (Own.lit (S := fun i => i = w5.heap.size) w5 3 1 3 #[.int .i64 1, .int .i64 3, .int .i64 4] (by decide) rfl rfl).rd (by omega) (by decide))
  go_upto_region 6 with (go_at_call 44; go_loud (refine HCR.out.mono ?_; rintro e w6 ⟨ar, cr, Lr, rfl, hr, hm, hl, hrd, hk⟩; have H6 := Lib.hid (show St w w6 [blkA g0 #[.int .i64 size, .int .i64 top, .slice ca nd cc, .slice cra crn crc] 56, blkA g1 #[.slice pa plan.length pc, .slice coa code.length coc, .slice fa after.length fc, .int .i64 use, .slice ra rl.length rc, .slice wa wl.length wcp, .slice rra rrl.length rrc, .slice rwa rwl.length rwc, .bool al, .slice pla pln plc, .slice cda cdn cdc, .slice afa afl.length afc] 52, blkA g2 #[.slice none 0 0, .slice none 0 0, .slice none 0 0, .slice none 0 0, .bool false, .slice none 0 0, .slice none 0 0, .slice none 0 0] 35, slA 82 2 (.slice pla' pll.length plc') pll.length (pll.flatMap ColV.cells), blkA gs #[.slice none 0 0, .slice aw Lw.length cw, .slice none 0 0, .slice none 0 0, .bool false, .slice pla' pll.length plc', .slice none 0 0, .slice none 0 0] 35, rdA (.slice aw Lw.length cw) Lw.length (ints Lw), rdA (.slice ar Lr.length cr) Lr.length (ints Lr)] from H5.out.addRd (((Keep.refl w5 Nope).alloc _).trans hk (fun _ f => f.elim)) (hrd.mono (fun z h => by rw [World.size_alloc] at h; omega))); have HRR := Lib.hid (And.intro hr (And.intro hm hl)); have q0 := (H6.out.blk 4 rfl).cell 0; have f0 := (H6.out.blk 4 rfl).frozen 0; simp at q0; clear hr hm hl hrd hk HCR H5))
  have h7 := H6.out.write 4 rfl 0 (.slice ar Lr.length cr)
  obtain ⟨w7, hw7⟩ : ∃ w7, w7 = w6.setCell ⟨gs, 0, none⟩ (.slice ar Lr.length cr) := ⟨_, rfl⟩
  rw [← hw7] at h7 ⊢
  have H7 := Lib.hid (show St w w7 [blkA g0 #[.int .i64 size, .int .i64 top, .slice ca nd cc, .slice cra crn crc] 56, blkA g1 #[.slice pa plan.length pc, .slice coa code.length coc, .slice fa after.length fc, .int .i64 use, .slice ra rl.length rc, .slice wa wl.length wcp, .slice rra rrl.length rrc, .slice rwa rwl.length rwc, .bool al, .slice pla pln plc, .slice cda cdn cdc, .slice afa afl.length afc] 52, blkA g2 #[.slice none 0 0, .slice none 0 0, .slice none 0 0, .slice none 0 0, .bool false, .slice none 0 0, .slice none 0 0, .slice none 0 0] 35, slA 82 2 (.slice pla' pll.length plc') pll.length (pll.flatMap ColV.cells), blkA gs #[.slice ar Lr.length cr, .slice aw Lw.length cw, .slice none 0 0, .slice none 0 0, .bool false, .slice pla' pll.length plc', .slice none 0 0, .slice none 0 0] 35, rdA (.slice aw Lw.length cw) Lw.length (ints Lw), rdA (.slice ar Lr.length cr) Lr.length (ints Lr)] from h7)
  clear hw7 h7 q0 f0 s5 H6 HPR
  have z3 := (H7.out.blk 0 rfl).cell 3
  simp at z3
  obtain ⟨m, hm32, hm32'⟩ : ∃ m : Nat, min (crn : Int) 32 = (m : Int) ∧ min crn 32 = m := ⟨min crn 32, by omega, rfl⟩
  have HM32 := Lib.hid hm32'
  have hm32l : m ≤ 32 := by omega
  have h8 : St w w7 [blkA g0 #[.int .i64 size, .int .i64 top, .slice ca nd cc, .slice cra crn crc] 56, blkA g1 #[.slice pa plan.length pc, .slice coa code.length coc, .slice fa after.length fc, .int .i64 use, .slice ra rl.length rc, .slice wa wl.length wcp, .slice rra rrl.length rrc, .slice rwa rwl.length rwc, .bool al, .slice pla pln plc, .slice cda cdn cdc, .slice afa afl.length afc] 52, blkA g2 #[.slice none 0 0, .slice none 0 0, .slice none 0 0, .slice none 0 0, .bool false, .slice none 0 0, .slice none 0 0, .slice none 0 0] 35, slA 82 2 (.slice pla' pll.length plc') pll.length (pll.flatMap ColV.cells), blkA gs #[.slice ar Lr.length cr, .slice aw Lw.length cw, .slice none 0 0, .slice none 0 0, .bool false, .slice pla' pll.length plc', .slice none 0 0, .slice none 0 0] 35, rdA (.slice aw Lw.length cw) Lw.length (ints Lw), rdA (.slice ar Lr.length cr) Lr.length (ints Lr), insA (.slice none 0 0) 0 []] := H7.out.add (Keep.refl _ _) (A := insA (.slice none 0 0) 0 []) (Own.nil _ _ _ _)
  have H8 := Lib.hid h8
  clear h8 H7 hm32'
  go_wp2_with fail
  clear z3 hm32
  go_loopg [7] 10 (fun g v7 wr => LoopK1 w dl pll m [blkA g0 #[.int .i64 size, .int .i64 top, .slice ca nd cc, .slice cra crn crc] 56, blkA g1 #[.slice pa plan.length pc, .slice coa code.length coc, .slice fa after.length fc, .int .i64 use, .slice ra rl.length rc, .slice wa wl.length wcp, .slice rra rrl.length rrc, .slice rwa rwl.length rwc, .bool al, .slice pla pln plc, .slice cda cdn cdc, .slice afa afl.length afc] 52, blkA g2 #[.slice none 0 0, .slice none 0 0, .slice none 0 0, .slice none 0 0, .bool false, .slice none 0 0, .slice none 0 0, .slice none 0 0] 35, slA 82 2 (.slice pla' pll.length plc') pll.length (pll.flatMap ColV.cells)] gs (.slice ar Lr.length cr) (.slice aw Lw.length cw) (.slice pla' pll.length plc') [rdA (.slice aw Lw.length cw) Lw.length (ints Lw), rdA (.slice ar Lr.length cr) Lr.length (ints Lr)] g v7 wr)
  case atStart => exact ⟨0, 0, none, 0, [], false, rfl, rfl, rfl, Nat.le_refl _, ⟨fun i hi => (by simp at hi), rfl⟩, H8.out⟩
  case round =>
    obtain ⟨i, ncd, acd, ccd, cdl, alb, hg, rfl, hn, hni, hcp, hst⟩ := hrel
    clear H8
    have HG := Lib.hid hg
    have HN := Lib.hid hn
    have HCP := Lib.hid hcp
    have H1 := Lib.hid (show St w wr [blkA g0 #[.int .i64 size, .int .i64 top, .slice ca nd cc, .slice cra crn crc] 56, blkA g1 #[.slice pa plan.length pc, .slice coa code.length coc, .slice fa after.length fc, .int .i64 use, .slice ra rl.length rc, .slice wa wl.length wcp, .slice rra rrl.length rrc, .slice rwa rwl.length rwc, .bool al, .slice pla pln plc, .slice cda cdn cdc, .slice afa afl.length afc] 52, blkA g2 #[.slice none 0 0, .slice none 0 0, .slice none 0 0, .slice none 0 0, .bool false, .slice none 0 0, .slice none 0 0, .slice none 0 0] 35, slA 82 2 (.slice pla' pll.length plc') pll.length (pll.flatMap ColV.cells), blkA gs #[.slice ar Lr.length cr, .slice aw Lw.length cw, .slice none 0 0, .slice none 0 0, .bool alb, .slice pla' pll.length plc', .slice acd ncd ccd, .slice none 0 0] 35, rdA (.slice aw Lw.length cw) Lw.length (ints Lw), rdA (.slice ar Lr.length cr) Lr.length (ints Lr), insA (.slice acd ncd ccd) ncd cdl] from hst)
    have hi10 : i ≤ 10 := by omega
    clear hg hn hcp hst
    have y1 := (H1.out.blk 1 rfl).cell 1
    simp at y1
    by_cases hlt : i < code.length ∧ i < 10
    · obtain ⟨hl1, hl2⟩ := hlt
      have hI1 : (i : Int) < code.length := by omega
      have hI2 : (i : Int) < 10 := by omega
      obtain ⟨x0, hx⟩ : ∃ x, code[i]? = some x := ⟨_, List.getElem?_eq_getElem hl1⟩
      obtain ⟨bo, oo, ⟨c', hv⟩, _, hc0⟩ := (show Rd S wr (.slice coa code.length coc) code.length (ints code) from (H.out.keep0 (Keep.ofSt H1.out)).code).int hx
      injection hv with hv1 hv2 hv3
      subst hv1; subst hv3; clear hv2 hx
      have s5 := (H1.out.blk 4 rfl).cell 5
      have z2 := (H1.out.blk 0 rfl).cell 2
      simp at s5 z2
      go_upto_region 10 with (fail)
      go_cut [8] (fun v8 wz => ∃ (gi : Nat) (ii : InsV), v8 = .pointer (some ⟨gi, 0, none⟩) ∧ TameI pll.length nd m ii ∧ St w wz [blkA g0 #[.int .i64 size, .int .i64 top, .slice ca nd cc, .slice cra crn crc] 56, blkA g1 #[.slice pa plan.length pc, .slice (some ⟨bo, oo, none⟩) code.length coc, .slice fa after.length fc, .int .i64 use, .slice ra rl.length rc, .slice wa wl.length wcp, .slice rra rrl.length rrc, .slice rwa rwl.length rwc, .bool al, .slice pla pln plc, .slice cda cdn cdc, .slice afa afl.length afc] 52, blkA g2 #[.slice none 0 0, .slice none 0 0, .slice none 0 0, .slice none 0 0, .bool false, .slice none 0 0, .slice none 0 0, .slice none 0 0] 35, slA 82 2 (.slice pla' pll.length plc') pll.length (pll.flatMap ColV.cells), blkA gs #[.slice ar Lr.length cr, .slice aw Lw.length cw, .slice none 0 0, .slice none 0 0, .bool alb, .slice pla' pll.length plc', .slice acd ncd ccd, .slice none 0 0] 35, rdA (.slice aw Lw.length cw) Lw.length (ints Lw), rdA (.slice ar Lr.length cr) Lr.length (ints Lr), insA (.slice acd ncd ccd) ncd cdl, blkA gi #[.int .i64 ii.op, .int .i64 ii.r, .int .i64 ii.s, .int .i64 ii.n] 87])
      case first =>
        refine wp_region_held_drew (S := fun w' => w'.cell? ⟨g1, 1, none⟩ = some (.slice (some ⟨bo, oo, none⟩) code.length coc) ∧ w'.cell? ⟨bo, oo + i, none⟩ = some (.int .i64 x0) ∧ w'.cell? ⟨gs, 5, none⟩ = some (.slice pla' pll.length plc') ∧ w'.cell? ⟨g0, 2, none⟩ = some (.slice ca nd cc)) (by kernel_rfl) ?_ (fun hHeld => ?_)
        · (try dsimp only); go_keep
        refine wpAnyH_take (i := 0) (oi := ?_) (v := ?_) ?_ ?_ ?_ ?_ ?_ ?_ ?_ ?_
        rotate_left 2
        · simp only [List.getElem?_toArray, List.getElem?_cons_succ, List.getElem?_cons_zero]; exact rfl
        · kernel_rfl
        · kernel_rfl
        · kernel_rfl
        · first | exact fun _ _ _ h => h | exact fun _ _ _ h => (HPan.out _ _ _ h).elim
        · (refine Or.inl ⟨by rfl, ?_⟩; (intro w hSw; (try dsimp only at hSw); go_simp) <;> with_reducible rfl)
        · assumption
        simp only [Act.put, List.setIfInBounds_toArray, List.set_cons_zero, List.set_cons_succ]
        refine wpAnyH_take (i := 1) (oi := ?_) (v := ?_) ?_ ?_ ?_ ?_ ?_ ?_ ?_ ?_
        rotate_left 2
        · simp only [List.getElem?_toArray, List.getElem?_cons_succ, List.getElem?_cons_zero]; exact rfl
        · kernel_rfl
        · kernel_rfl
        · kernel_rfl
        · first | exact fun _ _ _ h => h | exact fun _ _ _ h => (HPan.out _ _ _ h).elim
        · (refine Or.inl ⟨by rfl, ?_⟩; (intro w hSw; (try dsimp only at hSw); go_simp) <;> with_reducible rfl)
        · assumption
        simp only [Act.put, List.setIfInBounds_toArray, List.set_cons_zero, List.set_cons_succ]
        refine wpAnyH_take (i := 2) (oi := ?_) (v := ?_) ?_ ?_ ?_ ?_ ?_ ?_ ?_ ?_
        rotate_left 2
        · simp only [List.getElem?_toArray, List.getElem?_cons_succ, List.getElem?_cons_zero]; exact rfl
        · kernel_rfl
        · kernel_rfl
        · kernel_rfl
        · first | exact fun _ _ _ h => h | exact fun _ _ _ h => (HPan.out _ _ _ h).elim
        · (refine Or.inl ⟨by rfl, ?_⟩; (intro w hSw; (try dsimp only at hSw); go_simp) <;> with_reducible rfl)
        · assumption
        simp only [Act.put, List.setIfInBounds_toArray, List.set_cons_zero, List.set_cons_succ]
        refine wpAnyH_take (i := 3) (oi := ?_) (v := ?_) ?_ ?_ ?_ ?_ ?_ ?_ ?_ ?_
        rotate_left 2
        · simp only [List.getElem?_toArray, List.getElem?_cons_succ, List.getElem?_cons_zero]; exact rfl
        · kernel_rfl
        · kernel_rfl
        · kernel_rfl
        · first | exact fun _ _ _ h => h | exact fun _ _ _ h => (HPan.out _ _ _ h).elim
        · (refine Or.inl ⟨by rfl, ?_⟩; (intro w hSw; (try dsimp only at hSw); go_simp) <;> with_reducible rfl)
        · assumption
        simp only [Act.put, List.setIfInBounds_toArray, List.set_cons_zero, List.set_cons_succ]
        refine wpAnyH_take (i := 4) (oi := ?_) (v := ?_) ?_ ?_ ?_ ?_ ?_ ?_ ?_ ?_
        rotate_left 2
        · simp only [List.getElem?_toArray, List.getElem?_cons_succ, List.getElem?_cons_zero]; exact rfl
        · kernel_rfl
        · kernel_rfl
        · kernel_rfl
        · first | exact fun _ _ _ h => h | exact fun _ _ _ h => (HPan.out _ _ _ h).elim
        · (refine Or.inl ⟨by rfl, ?_⟩; (intro w hSw; (try dsimp only at hSw); go_simp) <;> with_reducible rfl)
        · assumption
        simp only [Act.put, List.setIfInBounds_toArray, List.set_cons_zero, List.set_cons_succ]
        refine wpAnyH_take (i := 5) (oi := ?_) (v := ?_) ?_ ?_ ?_ ?_ ?_ ?_ ?_ ?_
        rotate_left 2
        · simp only [List.getElem?_toArray, List.getElem?_cons_succ, List.getElem?_cons_zero]; exact rfl
        · kernel_rfl
        · kernel_rfl
        · kernel_rfl
        · first | exact fun _ _ _ h => h | exact fun _ _ _ h => (HPan.out _ _ _ h).elim
        · (refine Or.inl ⟨by rfl, ?_⟩; (intro w hSw; (try dsimp only at hSw); go_simp) <;> with_reducible rfl)
        · assumption
        simp only [Act.put, List.setIfInBounds_toArray, List.set_cons_zero, List.set_cons_succ]
        refine wpAnyH_take (i := 6) (oi := ?_) (v := ?_) ?_ ?_ ?_ ?_ ?_ ?_ ?_ ?_
        rotate_left 2
        · simp only [List.getElem?_toArray, List.getElem?_cons_succ, List.getElem?_cons_zero]; exact rfl
        · kernel_rfl
        · kernel_rfl
        · kernel_rfl
        · first | exact fun _ _ _ h => h | exact fun _ _ _ h => (HPan.out _ _ _ h).elim
        · (refine Or.inl ⟨by rfl, ?_⟩; (intro w hSw; (try dsimp only at hSw); go_simp) <;> with_reducible rfl)
        · assumption
        simp only [Act.put, List.setIfInBounds_toArray, List.set_cons_zero, List.set_cons_succ]
        refine wpAnyH_take (i := 7) (oi := ?_) (v := ?_) ?_ ?_ ?_ ?_ ?_ ?_ ?_ ?_
        rotate_left 2
        · simp only [List.getElem?_toArray, List.getElem?_cons_succ, List.getElem?_cons_zero]; exact rfl
        · kernel_rfl
        · kernel_rfl
        · kernel_rfl
        · first | exact fun _ _ _ h => h | exact fun _ _ _ h => (HPan.out _ _ _ h).elim
        · (refine Or.inl ⟨by rfl, ?_⟩; (intro w hSw; (try dsimp only at hSw); go_simp) <;> with_reducible rfl)
        · assumption
        simp only [Act.put, List.setIfInBounds_toArray, List.set_cons_zero, List.set_cons_succ]
        refine wpAnyH_take (i := 8) (oi := ?_) (v := ?_) ?_ ?_ ?_ ?_ ?_ ?_ ?_ ?_
        rotate_left 2
        · simp only [List.getElem?_toArray, List.getElem?_cons_succ, List.getElem?_cons_zero]; exact rfl
        · kernel_rfl
        · kernel_rfl
        · kernel_rfl
        · first | exact fun _ _ _ h => h | exact fun _ _ _ h => (HPan.out _ _ _ h).elim
        · (refine Or.inl ⟨by rfl, ?_⟩; (intro w hSw; (try dsimp only at hSw); go_simp) <;> with_reducible rfl)
        · assumption
        simp only [Act.put, List.setIfInBounds_toArray, List.set_cons_zero, List.set_cons_succ]
        refine wpAnyH_take (i := 9) (oi := ?_) (v := ?_) ?_ ?_ ?_ ?_ ?_ ?_ ?_ ?_
        rotate_left 2
        · simp only [List.getElem?_toArray, List.getElem?_cons_succ, List.getElem?_cons_zero]; exact rfl
        · kernel_rfl
        · kernel_rfl
        · kernel_rfl
        · first | exact fun _ _ _ h => h | exact fun _ _ _ h => (HPan.out _ _ _ h).elim
        · (refine Or.inl ⟨by rfl, ?_⟩; (intro w hSw; (try dsimp only at hSw); go_simp) <;> with_reducible rfl)
        · assumption
        simp only [Act.put, List.setIfInBounds_toArray, List.set_cons_zero, List.set_cons_succ]
        refine wpAnyH_take (i := 10) (oi := ?_) (v := ?_) ?_ ?_ ?_ ?_ ?_ ?_ ?_ ?_
        rotate_left 2
        · simp only [List.getElem?_toArray, List.getElem?_cons_succ, List.getElem?_cons_zero]; exact rfl
        · kernel_rfl
        · kernel_rfl
        · kernel_rfl
        · first | exact fun _ _ _ h => h | exact fun _ _ _ h => (HPan.out _ _ _ h).elim
        · (refine Or.inl ⟨by rfl, ?_⟩; (intro w hSw; (try dsimp only at hSw); go_simp) <;> with_reducible rfl)
        · assumption
        simp only [Act.put, List.setIfInBounds_toArray, List.set_cons_zero, List.set_cons_succ]
        refine wpAnyH_take (i := 11) (oi := ?_) (v := ?_) ?_ ?_ ?_ ?_ ?_ ?_ ?_ ?_
        rotate_left 2
        · simp only [List.getElem?_toArray, List.getElem?_cons_succ, List.getElem?_cons_zero]; exact rfl
        · kernel_rfl
        · kernel_rfl
        · kernel_rfl
        · first | exact fun _ _ _ h => h | exact fun _ _ _ h => (HPan.out _ _ _ h).elim
        · (refine Or.inl ⟨by rfl, ?_⟩; (intro w hSw; (try dsimp only at hSw); go_simp) <;> with_reducible rfl)
        · assumption
        simp only [Act.put, List.setIfInBounds_toArray, List.set_cons_zero, List.set_cons_succ]
        refine wpAnyH_ready (rs := [12, 13]) (by kernel_rfl) (by simp) ?_
        refine AllReadyH.cons rfl (fun K hK => ?_) (AllReadyH.cons rfl (fun K hK => ?_) (AllReadyH.nil))
        · skip
          go_simp
          go_wp2_with ((go_at_call 45; go_loud (refine (law_tame20 x0 pll.length nd m _ (by omega) (by omega) (by omega)).mono ?_; rintro e w' ⟨⟨iop, iir, iis, inn⟩, rfl, hti, hk⟩; have HTI := Lib.hid hti; have HKC := Lib.hid ((show Keep wr _ Nope from (by (repeat (first | exact Keep.refl _ _ | apply Keep.drew | apply Keep.drewN | apply Keep.alloc)))).trans hk (fun _ f => f.elim)); first | have HX := Lib.hid ((H1.out.drew.box #[.int .i64 0, .int .i64 0, .int .i64 0, .int .i64 0] 87).keep hk) | have HX := Lib.hid (H1.out.drew.keep hk); clear hti hk)))
          refine hK.out _ _ ?_ (fun hHeld => ?_)
          · (try dsimp only); exact ⟨HKC.out.cell y1 (fun f => f), HKC.out.cell hc0 (fun f => f), HKC.out.cell s5 (fun f => f), HKC.out.cell z2 (fun f => f)⟩
          clear hK K
          refine wpAnyH_ready (rs := [13]) (by kernel_rfl) (by simp) ?_
          refine AllReadyH.cons rfl (fun K hK => ?_) (AllReadyH.nil)
          go_simp
          refine hK.out _ _ ?_ (fun hHeld => ?_)
          · (try dsimp only); go_keep
          clear hK K
          refine wpAnyH_ready (rs := [14]) (by kernel_rfl) (by simp) ?_
          refine AllReadyH.cons rfl (fun K hK => ?_) (AllReadyH.nil)
          rw [if_pos (by rfl)]
          (first | (refine wp_store_row 87 _ _ rfl _ #[.int .i64 iop, .int .i64 iir, .int .i64 iis, .int .i64 inn] rfl rfl 87 _ (HX.out.blk 8 rfl) (by kernel_rfl) rfl (by kernel_rfl) ?_) | (refine wp_store_row 87 _ _ rfl _ #[.int .i64 iop, .int .i64 iir, .int .i64 iis, .int .i64 inn] rfl rfl 87 #[.int .i64 0, .int .i64 0, .int .i64 0, .int .i64 0] (heap_alloc_new _ _) (by kernel_rfl) rfl (by kernel_rfl) ?_))
          refine hK.out _ _ ?_ (fun hHeld => ?_)
          · (try dsimp only); first | (have HKF := Lib.hid (HKC.out.setRow (g := wr.heap.size) (.inr (Nat.le_refl _)) #[.int .i64 iop, .int .i64 iir, .int .i64 iis, .int .i64 inn]); exact ⟨HKF.out.cell y1 (fun f => f), HKF.out.cell hc0 (fun f => f), HKF.out.cell s5 (fun f => f), HKF.out.cell z2 (fun f => f)⟩) | (have HKF := Lib.hid ((HKC.out.alloc (.cells #[.int .i64 0, .int .i64 0, .int .i64 0, .int .i64 0] 87)).setRow (.inr HKC.out.size) #[.int .i64 iop, .int .i64 iir, .int .i64 iis, .int .i64 inn]); exact ⟨HKF.out.cell y1 (fun f => f), HKF.out.cell hc0 (fun f => f), HKF.out.cell s5 (fun f => f), HKF.out.cell z2 (fun f => f)⟩)
          clear hK K
          refine wpAnyH_done (by kernel_rfl) ?_ _
          go_wp2_with fail
          go_meet
          (case rel => first | exact ⟨_, ⟨iop, iir, iis, inn⟩, rfl, HTI.out, HX.out.row 8 rfl _⟩ | exact ⟨_, ⟨iop, iir, iis, inn⟩, rfl, HTI.out, (HX.out.box _ _).row 8 rfl _⟩)
        · skip
          go_simp
          refine hK.out _ _ ?_ (fun hHeld => ?_)
          · (try dsimp only); go_keep
          clear hK K
          refine wpAnyH_ready (rs := [12]) (by kernel_rfl) (by simp) ?_
          refine AllReadyH.cons rfl (fun K hK => ?_) (AllReadyH.nil)
          go_simp
          go_wp2_with ((go_at_call 45; go_loud (refine (law_tame20 x0 pll.length nd m _ (by omega) (by omega) (by omega)).mono ?_; rintro e w' ⟨⟨iop, iir, iis, inn⟩, rfl, hti, hk⟩; have HTI := Lib.hid hti; have HKC := Lib.hid ((show Keep wr _ Nope from (by (repeat (first | exact Keep.refl _ _ | apply Keep.drew | apply Keep.drewN | apply Keep.alloc)))).trans hk (fun _ f => f.elim)); first | have HX := Lib.hid ((H1.out.drew.box #[.int .i64 0, .int .i64 0, .int .i64 0, .int .i64 0] 87).keep hk) | have HX := Lib.hid (H1.out.drew.keep hk); clear hti hk)))
          refine hK.out _ _ ?_ (fun hHeld => ?_)
          · (try dsimp only); exact ⟨HKC.out.cell y1 (fun f => f), HKC.out.cell hc0 (fun f => f), HKC.out.cell s5 (fun f => f), HKC.out.cell z2 (fun f => f)⟩
          clear hK K
          refine wpAnyH_ready (rs := [14]) (by kernel_rfl) (by simp) ?_
          refine AllReadyH.cons rfl (fun K hK => ?_) (AllReadyH.nil)
          rw [if_pos (by rfl)]
          (first | (refine wp_store_row 87 _ _ rfl _ #[.int .i64 iop, .int .i64 iir, .int .i64 iis, .int .i64 inn] rfl rfl 87 _ (HX.out.blk 8 rfl) (by kernel_rfl) rfl (by kernel_rfl) ?_) | (refine wp_store_row 87 _ _ rfl _ #[.int .i64 iop, .int .i64 iir, .int .i64 iis, .int .i64 inn] rfl rfl 87 #[.int .i64 0, .int .i64 0, .int .i64 0, .int .i64 0] (heap_alloc_new _ _) (by kernel_rfl) rfl (by kernel_rfl) ?_))
          refine hK.out _ _ ?_ (fun hHeld => ?_)
          · (try dsimp only); first | (have HKF := Lib.hid (HKC.out.setRow (g := wr.heap.size) (.inr (Nat.le_refl _)) #[.int .i64 iop, .int .i64 iir, .int .i64 iis, .int .i64 inn]); exact ⟨HKF.out.cell y1 (fun f => f), HKF.out.cell hc0 (fun f => f), HKF.out.cell s5 (fun f => f), HKF.out.cell z2 (fun f => f)⟩) | (have HKF := Lib.hid ((HKC.out.alloc (.cells #[.int .i64 0, .int .i64 0, .int .i64 0, .int .i64 0] 87)).setRow (.inr HKC.out.size) #[.int .i64 iop, .int .i64 iir, .int .i64 iis, .int .i64 inn]); exact ⟨HKF.out.cell y1 (fun f => f), HKF.out.cell hc0 (fun f => f), HKF.out.cell s5 (fun f => f), HKF.out.cell z2 (fun f => f)⟩)
          clear hK K
          refine wpAnyH_done (by kernel_rfl) ?_ _
          go_wp2_with fail
          go_meet
          (case rel => first | exact ⟨_, ⟨iop, iir, iis, inn⟩, rfl, HTI.out, HX.out.row 8 rfl _⟩ | exact ⟨_, ⟨iop, iir, iis, inn⟩, rfl, HTI.out, (HX.out.box _ _).row 8 rfl _⟩)
      case rest =>
        obtain ⟨gi, ⟨iop, iir, iis, inn⟩, rfl, hti, hst⟩ := hcut
        have HTI := Lib.hid hti
        have HX := Lib.hid (show St w wc [blkA g0 #[.int .i64 size, .int .i64 top, .slice ca nd cc, .slice cra crn crc] 56, blkA g1 #[.slice pa plan.length pc, .slice (some ⟨bo, oo, none⟩) code.length coc, .slice fa after.length fc, .int .i64 use, .slice ra rl.length rc, .slice wa wl.length wcp, .slice rra rrl.length rrc, .slice rwa rwl.length rwc, .bool al, .slice pla pln plc, .slice cda cdn cdc, .slice afa afl.length afc] 52, blkA g2 #[.slice none 0 0, .slice none 0 0, .slice none 0 0, .slice none 0 0, .bool false, .slice none 0 0, .slice none 0 0, .slice none 0 0] 35, slA 82 2 (.slice pla' pll.length plc') pll.length (pll.flatMap ColV.cells), blkA gs #[.slice ar Lr.length cr, .slice aw Lw.length cw, .slice none 0 0, .slice none 0 0, .bool alb, .slice pla' pll.length plc', .slice acd ncd ccd, .slice none 0 0] 35, rdA (.slice aw Lw.length cw) Lw.length (ints Lw), rdA (.slice ar Lr.length cr) Lr.length (ints Lr), insA (.slice acd ncd ccd) ncd cdl, blkA gi #[.int .i64 iop, .int .i64 iir, .int .i64 iis, .int .i64 inn] 87] from hst)
        clear hti hst y1 s5 z2 hc0 H1
        have p0 := (HX.out.blk 0 rfl).cell 0
        have p1 := (HX.out.blk 0 rfl).cell 1
        have p2 := (HX.out.blk 0 rfl).cell 2
        have p3 := (HX.out.blk 0 rfl).cell 3
        have s0 := (HX.out.blk 4 rfl).cell 0
        have s1 := (HX.out.blk 4 rfl).cell 1
        have s2 := (HX.out.blk 4 rfl).cell 2
        have s3 := (HX.out.blk 4 rfl).cell 3
        have s4 := (HX.out.blk 4 rfl).cell 4
        have s5 := (HX.out.blk 4 rfl).cell 5
        have s6 := (HX.out.blk 4 rfl).cell 6
        have s7 := (HX.out.blk 4 rfl).cell 7
        have i0 := (HX.out.blk 8 rfl).cell 0
        have i1 := (HX.out.blk 8 rfl).cell 1
        have i2 := (HX.out.blk 8 rfl).cell 2
        have i3 := (HX.out.blk 8 rfl).cell 3
        simp at p0 p1 p2 p3 s0 s1 s2 s3 s4 s5 s6 s7 i0 i1 i2 i3
        have hF := law_fits ⟨size, top, ca, cc, dl, cra, crn, crc⟩ ⟨⟨⟨ar, cr, Lr⟩, ⟨aw, cw, Lw⟩, nilR, nilR, alb, ⟨pla', pll.length, plc'⟩, ⟨acd, ncd, ccd⟩, nilR⟩, pll, cdl⟩ ⟨iop, iir, iis, inn⟩ m wc (fun _ => True) ⟨⟨(HX.out.rdr 6 rfl).choose_spec.1.all, (HX.out.rdr 5 rfl).choose_spec.1.all, rd_nilR _ _, rd_nilR _ _⟩, (HX.out.rd 3 rfl).choose_spec.2.1.all, (by have h := (HX.out.rd 7 rfl).choose_spec.2.1.all; rw [← HN.out] at h ⊢; exact h)⟩
          (by have h := (HD.out.keep (Keep.ofSt HX.out) (fun _ _ f => f)).all; rw [← HND.out] at h; exact h)
          (fun ho => ⟨HTI.out.n1 (by intro h1; rw [h1] at ho; omega), by have h := HTI.out.nc ho; have := HTM.out.pos; simp only at h ⊢; omega⟩) (by rw [show dl.length = nd from HND.out]; exact HTM.out.comps)
        unfold CfgV.val SysX.val InsV.val at hF
        simp only [RowV.v, SlV.v, nilR, HND.out, List.length_nil] at hF
        obtain ⟨b, hb⟩ : ∃ b, fitsB dl pll m ⟨iop, iir, iis, inn⟩ = b := ⟨_, rfl⟩
        rw [hb] at hF
        have HF := Lib.hid hF
        have HB := Lib.hid hb
        clear hF hb
        cases b
        · go_wp2_with (go_at_call 46; go_loud (refine HF.out.mono ?_; rintro e wd ⟨rfl, hk⟩; have H2 := Lib.hid (HX.out.keep hk); clear hk))
          go_roundg (10 - (i + 1))
          case measure => have := HG.out; omega
          case rel => exact ⟨i + 1, ncd, acd, ccd, cdl, alb, by have := HG.out; omega, by go_num, HN.out, by omega, HCP.out, H2.out.take 8⟩
        · go_upto_region 12 with (go_at_call 46; go_loud (refine HF.out.mono ?_; rintro e wd ⟨rfl, hk⟩; have H2 := Lib.hid (HX.out.keep hk); clear hk))
          clear p0 p1 p2 p3 s0 s1 s2 s3 s4 s5 s6 s7 i0 i1 i2 i3 HX HF
          have s6 := (H2.out.blk 4 rfl).cell 6
          have i0 := (H2.out.blk 8 rfl).cell 0
          have i1 := (H2.out.blk 8 rfl).cell 1
          have i2 := (H2.out.blk 8 rfl).cell 2
          have i3 := (H2.out.blk 8 rfl).cell 3
          simp at s6 i0 i1 i2 i3
          obtain ⟨G, hown, _, hup, _⟩ := H2.out.opens 7 rfl
          have HOwn := Lib.hid (show Own G wd 87 4 (.slice acd ncd ccd) ncd (cdl.flatMap InsV.cells) from hown)
          have HUP := Lib.hid hup
          clear hown hup
          go_upto_region 13 with (at_builtin; go_loud (refine wpList_app (P := Try.prog) slIns rfl _ _ rfl (S := G) (S2 := fun z => z = wd.heap.size) (n := ncd) (xs := cdl.flatMap InsV.cells) (m := 1) rfl rfl ?_ (Own.lit (S := fun z => z = wd.heap.size) wd 87 4 1 _ (by decide) rfl rfl).rd rfl (by intro u hu; simp at hu; rcases hu with rfl | rfl | rfl | rfl <;> rfl) (by omega) (by unfold maxLen; omega) ?_; (· exact HOwn.out.keep (T := Nope) ((Keep.refl wd Nope).alloc _) (fun _ _ f => f)); rintro a' k' c' w5 happ; obtain ⟨z1, z2⟩ := app_up (wr := wd) ((Keep.refl wd Nope).alloc _) happ; obtain rfl := happ.num; have h5 := HUP.out w5 _ z1 z2; have H5 := Lib.hid (show St w w5 [blkA g0 #[.int .i64 size, .int .i64 top, .slice ca nd cc, .slice cra crn crc] 56, blkA g1 #[.slice pa plan.length pc, .slice (some ⟨bo, oo, none⟩) code.length coc, .slice fa after.length fc, .int .i64 use, .slice ra rl.length rc, .slice wa wl.length wcp, .slice rra rrl.length rrc, .slice rwa rwl.length rwc, .bool al, .slice pla pln plc, .slice cda cdn cdc, .slice afa afl.length afc] 52, blkA g2 #[.slice none 0 0, .slice none 0 0, .slice none 0 0, .slice none 0 0, .bool false, .slice none 0 0, .slice none 0 0, .slice none 0 0] 35, slA 82 2 (.slice pla' pll.length plc') pll.length (pll.flatMap ColV.cells), blkA gs #[.slice ar Lr.length cr, .slice aw Lw.length cw, .slice none 0 0, .slice none 0 0, .bool alb, .slice pla' pll.length plc', .slice acd ncd ccd, .slice none 0 0] 35, rdA (.slice aw Lw.length cw) Lw.length (ints Lw), rdA (.slice ar Lr.length cr) Lr.length (ints Lr), insA (.slice a' (ncd + 1) c') (ncd + 1) (cdl ++ [⟨iop, iir, iis, inn⟩]), blkA gi #[.int .i64 iop, .int .i64 iir, .int .i64 iis, .int .i64 inn] 87] from (by have h6 := h5; unfold insA; rw [List.flatMap_append]; exact h6)); have q6 := (H5.out.blk 4 rfl).cell 6; have f6 := (H5.out.blk 4 rfl).frozen 6; simp at q6; clear happ z1 z2 h5 s6 i0 i1 i2 i3))
          have h6 := H5.out.write 4 rfl 6 (.slice a' (ncd + 1) c')
          obtain ⟨w6, hw6⟩ : ∃ w6, w6 = w5.setCell ⟨gs, 6, none⟩ (.slice a' (ncd + 1) c') := ⟨_, rfl⟩
          rw [← hw6] at h6 ⊢
          have H6 := Lib.hid (show St w w6 [blkA g0 #[.int .i64 size, .int .i64 top, .slice ca nd cc, .slice cra crn crc] 56, blkA g1 #[.slice pa plan.length pc, .slice (some ⟨bo, oo, none⟩) code.length coc, .slice fa after.length fc, .int .i64 use, .slice ra rl.length rc, .slice wa wl.length wcp, .slice rra rrl.length rrc, .slice rwa rwl.length rwc, .bool al, .slice pla pln plc, .slice cda cdn cdc, .slice afa afl.length afc] 52, blkA g2 #[.slice none 0 0, .slice none 0 0, .slice none 0 0, .slice none 0 0, .bool false, .slice none 0 0, .slice none 0 0, .slice none 0 0] 35, slA 82 2 (.slice pla' pll.length plc') pll.length (pll.flatMap ColV.cells), blkA gs #[.slice ar Lr.length cr, .slice aw Lw.length cw, .slice none 0 0, .slice none 0 0, .bool alb, .slice pla' pll.length plc', .slice a' (ncd + 1) c', .slice none 0 0] 35, rdA (.slice aw Lw.length cw) Lw.length (ints Lw), rdA (.slice ar Lr.length cr) Lr.length (ints Lr), insA (.slice a' (ncd + 1) c') (ncd + 1) (cdl ++ [⟨iop, iir, iis, inn⟩]), blkA gi #[.int .i64 iop, .int .i64 iir, .int .i64 iis, .int .i64 inn] 87] from h6)
          clear hw6 h6 q6 f6 H5 H2 HUP HOwn
          have s4 := (H6.out.blk 4 rfl).cell 4
          have i0 := (H6.out.blk 8 rfl).cell 0
          have f4 := (H6.out.blk 4 rfl).frozen 4
          simp at s4 i0
          cases alb
          · by_cases h14 : iop ≥ 14
            · have d14 : decide (iop ≥ 14) = true := decide_eq_true h14
              by_cases h17 : iop ≤ 17
              · have d17 : decide (iop ≤ 17) = true := decide_eq_true h17
                go_wp2_with fail
                go_roundg (10 - (i + 1))
                case measure => have := HG.out; omega
                case rel =>
                  have hc := HCP.out.add (i := ⟨iop, iir, iis, inn⟩) (HND.out.symm ▸ HTI.out) HB.out
                  rw [show (false || (decide ((14 : Int) ≤ iop) && decide (iop ≤ 17))) = true by rw [d17, show decide ((14 : Int) ≤ iop) = true from d14]; rfl] at hc
                  exact ⟨i + 1, ncd + 1, a', c', cdl ++ [(⟨iop, iir, iis, inn⟩ : InsV)], true, by have := HG.out; omega, by go_num, by rw [List.length_append, HN.out]; rfl, by omega, hc, (H6.out.write 4 rfl 4 (.bool true)).take 8⟩
              · have d17 : decide (iop ≤ 17) = false := decide_eq_false h17
                go_wp2_with fail
                go_roundg (10 - (i + 1))
                case measure => have := HG.out; omega
                case rel =>
                  have hc := HCP.out.add (i := ⟨iop, iir, iis, inn⟩) (HND.out.symm ▸ HTI.out) HB.out
                  rw [show (false || (decide ((14 : Int) ≤ iop) && decide (iop ≤ 17))) = false by rw [d17, show decide ((14 : Int) ≤ iop) = true from d14]; rfl] at hc
                  exact ⟨i + 1, ncd + 1, a', c', cdl ++ [(⟨iop, iir, iis, inn⟩ : InsV)], false, by have := HG.out; omega, by go_num, by rw [List.length_append, HN.out]; rfl, by omega, hc, (H6.out.write 4 rfl 4 (.bool false)).take 8⟩
            · have d14 : decide (iop ≥ 14) = false := decide_eq_false h14
              go_wp2_with fail
              go_roundg (10 - (i + 1))
              case measure => have := HG.out; omega
              case rel =>
                have hc := HCP.out.add (i := ⟨iop, iir, iis, inn⟩) (HND.out.symm ▸ HTI.out) HB.out
                rw [show (false || (decide ((14 : Int) ≤ iop) && decide (iop ≤ 17))) = false by rw [show decide ((14 : Int) ≤ iop) = false from d14]; rfl] at hc
                exact ⟨i + 1, ncd + 1, a', c', cdl ++ [(⟨iop, iir, iis, inn⟩ : InsV)], false, by have := HG.out; omega, by go_num, by rw [List.length_append, HN.out]; rfl, by omega, hc, (H6.out.write 4 rfl 4 (.bool false)).take 8⟩
          · go_wp2_with fail
            go_roundg (10 - (i + 1))
            case measure => have := HG.out; omega
            case rel =>
              have hc := HCP.out.add (i := ⟨iop, iir, iis, inn⟩) (HND.out.symm ▸ HTI.out) HB.out
              rw [Bool.true_or] at hc
              exact ⟨i + 1, ncd + 1, a', c', cdl ++ [(⟨iop, iir, iis, inn⟩ : InsV)], true, by have := HG.out; omega, by go_num, by rw [List.length_append, HN.out]; rfl, by omega, hc, (H6.out.write 4 rfl 4 (.bool true)).take 8⟩

    · have hout : (¬ i < code.length) ∨ (i < code.length ∧ ¬ i < 10) := by omega
      have h2 := (H1.out.add (Keep.refl _ _) (A := rdA (.slice none 0 0) 0 (ints [])) (rd_nil _ _)).add (Keep.refl _ _) (A := rdA (.slice none 0 0) 0 (ints [])) (rd_nil _ _)
      have H2 := Lib.hid (show St w wr [blkA g0 #[.int .i64 size, .int .i64 top, .slice ca nd cc, .slice cra crn crc] 56, blkA g1 #[.slice pa plan.length pc, .slice coa code.length coc, .slice fa after.length fc, .int .i64 use, .slice ra rl.length rc, .slice wa wl.length wcp, .slice rra rrl.length rrc, .slice rwa rwl.length rwc, .bool al, .slice pla pln plc, .slice cda cdn cdc, .slice afa afl.length afc] 52, blkA g2 #[.slice none 0 0, .slice none 0 0, .slice none 0 0, .slice none 0 0, .bool false, .slice none 0 0, .slice none 0 0, .slice none 0 0] 35, slA 82 2 (.slice pla' pll.length plc') pll.length (pll.flatMap ColV.cells), blkA gs #[.slice ar Lr.length cr, .slice aw Lw.length cw, .slice none 0 0, .slice none 0 0, .bool alb, .slice pla' pll.length plc', .slice acd ncd ccd, .slice none 0 0] 35, rdA (.slice aw Lw.length cw) Lw.length (ints Lw), rdA (.slice ar Lr.length cr) Lr.length (ints Lr), insA (.slice acd ncd ccd) ncd cdl, rdA (.slice none 0 0) 0 (ints []), rdA (.slice none 0 0) 0 (ints [])] from h2)
      have hcl : code.length ≤ 9223372036854775807 := by
        obtain ⟨a', c', he, e1, e2, _⟩ := (show Rd S w (.slice coa code.length coc) code.length (ints code) from H.out.code)
        unfold maxLen at e2
        injection he with _ _ he3
        omega
      have s6 := (H2.out.blk 4 rfl).cell 6
      simp at s6
      clear h2 H1
      rcases hout with ho | ⟨ho, ho2⟩
      · have d1 : decide ((i : Int) < code.length) = false := decide_eq_false (by omega)
        go_upto_block 2 with (fail)
        go_wp2_with fail
        go_loopg [9] ncd (fun g v9 wz => LoopK2 w cdl [blkA g0 #[.int .i64 size, .int .i64 top, .slice ca nd cc, .slice cra crn crc] 56, blkA g1 #[.slice pa plan.length pc, .slice coa code.length coc, .slice fa after.length fc, .int .i64 use, .slice ra rl.length rc, .slice wa wl.length wcp, .slice rra rrl.length rrc, .slice rwa rwl.length rwc, .bool al, .slice pla pln plc, .slice cda cdn cdc, .slice afa afl.length afc] 52, blkA g2 #[.slice none 0 0, .slice none 0 0, .slice none 0 0, .slice none 0 0, .bool false, .slice none 0 0, .slice none 0 0, .slice none 0 0] 35, slA 82 2 (.slice pla' pll.length plc') pll.length (pll.flatMap ColV.cells)] gs (.slice ar Lr.length cr) (.slice aw Lw.length cw) (.slice pla' pll.length plc') (.slice acd ncd ccd) ncd alb [rdA (.slice aw Lw.length cw) Lw.length (ints Lw), rdA (.slice ar Lr.length cr) Lr.length (ints Lr)] g v9 wz)
        case atStart => exact ⟨0, cdl, ⟨none, 0, []⟩, ⟨none, 0, []⟩, rfl, rfl, CodeQ.start cdl, Nat.le_refl _, Nat.le_refl _, H2.out⟩
        case round =>
          obtain ⟨k, cdk, ⟨a1, c1, l1⟩, ⟨a2, c2, l2⟩, hg, rfl, hq, hl1, hl2, hst⟩ := hrel
          clear H2 s6
          have HG2 := Lib.hid hg
          have HQ := Lib.hid hq
          have H3 := Lib.hid (show St w wr [blkA g0 #[.int .i64 size, .int .i64 top, .slice ca nd cc, .slice cra crn crc] 56, blkA g1 #[.slice pa plan.length pc, .slice coa code.length coc, .slice fa after.length fc, .int .i64 use, .slice ra rl.length rc, .slice wa wl.length wcp, .slice rra rrl.length rrc, .slice rwa rwl.length rwc, .bool al, .slice pla pln plc, .slice cda cdn cdc, .slice afa afl.length afc] 52, blkA g2 #[.slice none 0 0, .slice none 0 0, .slice none 0 0, .slice none 0 0, .bool false, .slice none 0 0, .slice none 0 0, .slice none 0 0] 35, slA 82 2 (.slice pla' pll.length plc') pll.length (pll.flatMap ColV.cells), blkA gs #[.slice ar Lr.length cr, .slice aw Lw.length cw, .slice a1 l1.length c1, .slice a2 l2.length c2, .bool alb, .slice pla' pll.length plc', .slice acd ncd ccd, .slice none 0 0] 35, rdA (.slice aw Lw.length cw) Lw.length (ints Lw), rdA (.slice ar Lr.length cr) Lr.length (ints Lr), insA (.slice acd ncd ccd) ncd cdk, rdA (.slice a1 l1.length c1) l1.length (ints l1), rdA (.slice a2 l2.length c2) l2.length (ints l2)] from hst)
          have hkn : k ≤ ncd := by omega
          have hnk := HN.out
          clear hg hq hst
          have s6 := (H3.out.blk 4 rfl).cell 6
          simp at s6
          by_cases hlk : k < ncd
          · have hkI : (k : Int) < ncd := by omega
            have hkd : decide ((k : Int) < ncd) = true := decide_eq_true hkI
            obtain ⟨x, hx1, hx2⟩ := HQ.out.get (by rw [hnk]; exact hlk)
            obtain ⟨gc, rfl, hgl, hgf, hgc, hgs⟩ := H3.out.store 7 (n := ncd) (e := 87) (size := 4) (xs := cdk.flatMap InsV.cells) rfl (by omega)
            have e0 := hgc (k * 4 + 0) (by omega)
            have e1 := hgc (k * 4 + 1) (by omega)
            have e2 := hgc (k * 4 + 2) (by omega)
            have e3 := hgc (k * 4 + 3) (by omega)
            have fg := fun j (hj : j < 4) => flat_get InsV.cells 4 (fun _ => rfl) cdk k j _ hx2 hj
            rw [fg 0 (by decide)] at e0
            rw [fg 1 (by decide)] at e1
            rw [fg 2 (by decide)] at e2
            rw [fg 3 (by decide)] at e3
            obtain ⟨iop, iir, iis, inn⟩ := x
            simp only [InsV.cells, List.getElem?_cons_zero, List.getElem?_cons_succ, Nat.add_zero] at e0 e1 e2 e3
            have hcapn : ncd ≤ ccd ∧ ccd ≤ maxLen := by
              obtain ⟨_, ho, _⟩ := H3.out.rd 7 (n := ncd) (v := .slice (some ⟨gc, 0, none⟩) ncd ccd) (e := 87) (size := 4) (xs := cdk.flatMap InsV.cells) rfl
              exact ho.cap
            unfold maxLen at hcapn
            have f3 := hgf (k * 4 + 3)
            have HGSs := Lib.hid hgs
            have HX1 := Lib.hid hx1
            have HX2 := Lib.hid hx2
            clear hgl hgf hgc hgs fg hx1 hx2
            go_upto_region 18 with (fail)
            have h4 := H3.out.box #[.int .i64 iop, .int .i64 iir, .int .i64 iis, .int .i64 inn] 87
            obtain ⟨w4, hw4⟩ : ∃ w4, w4 = wr.alloc (.cells #[.int .i64 iop, .int .i64 iir, .int .i64 iis, .int .i64 inn] 87) := ⟨_, rfl⟩
            rw [← hw4] at h4 ⊢
            obtain ⟨gj, hgj⟩ : ∃ g, g = wr.heap.size := ⟨_, rfl⟩
            rw [← hgj] at h4 ⊢
            have H4 := Lib.hid (show St w w4 [blkA g0 #[.int .i64 size, .int .i64 top, .slice ca nd cc, .slice cra crn crc] 56, blkA g1 #[.slice pa plan.length pc, .slice coa code.length coc, .slice fa after.length fc, .int .i64 use, .slice ra rl.length rc, .slice wa wl.length wcp, .slice rra rrl.length rrc, .slice rwa rwl.length rwc, .bool al, .slice pla pln plc, .slice cda cdn cdc, .slice afa afl.length afc] 52, blkA g2 #[.slice none 0 0, .slice none 0 0, .slice none 0 0, .slice none 0 0, .bool false, .slice none 0 0, .slice none 0 0, .slice none 0 0] 35, slA 82 2 (.slice pla' pll.length plc') pll.length (pll.flatMap ColV.cells), blkA gs #[.slice ar Lr.length cr, .slice aw Lw.length cw, .slice a1 l1.length c1, .slice a2 l2.length c2, .bool alb, .slice pla' pll.length plc', .slice (some ⟨gc, 0, none⟩) ncd ccd, .slice none 0 0] 35, rdA (.slice aw Lw.length cw) Lw.length (ints Lw), rdA (.slice ar Lr.length cr) Lr.length (ints Lr), insA (.slice (some ⟨gc, 0, none⟩) ncd ccd) ncd cdk, rdA (.slice a1 l1.length c1) l1.length (ints l1), rdA (.slice a2 l2.length c2) l2.length (ints l2), blkA gj #[.int .i64 iop, .int .i64 iir, .int .i64 iis, .int .i64 inn] 87] from h4)
            clear hw4 h4 hgj e0 e1 e2 e3 f3 s6 HGSs H3
            have j0 := (H4.out.blk 10 rfl).cell 0
            have j3 := (H4.out.blk 10 rfl).cell 3
            simp at j0 j3
            by_cases h13 : iop = 13
            · subst h13
              have s6 := (H4.out.blk 4 rfl).cell 6
              simp at s6
              obtain ⟨gc2, he, hgl, hgf, hgc, hgs⟩ := H4.out.store 7 (n := ncd) (e := 87) (size := 4) (xs := cdk.flatMap InsV.cells) rfl (by omega)
              injection he with he
              injection he with he
              subst he
              have e3 := hgc (k * 4 + 3) (by omega)
              rw [flat_get InsV.cells 4 (fun _ => rfl) cdk k 3 _ HX2.out (by decide)] at e3
              simp only [InsV.cells, List.getElem?_cons_zero, List.getElem?_cons_succ] at e3
              have f3 := hgf (k * 4 + 3)
              obtain ⟨mn, hmn⟩ : ∃ mn : Int, min inn ((ncd : Int) - 1 - k) = mn := ⟨_, rfl⟩
              have h5 := hgs (k * 4 + 3) (.int .i64 mn)
              rw [flat_set InsV.cells 4 (fun _ => rfl) ⟨13, iir, iis, mn⟩ 3 (.int .i64 mn) (by decide) cdk k _ HX2.out rfl] at h5
              have H5 := Lib.hid h5
              have hqs := HQ.out.skip HX1.out rfl
              rw [hnk, hmn] at hqs
              have HQS := Lib.hid hqs
              clear hgl hgf hgc hgs h5 hqs
              go_wp2_with fail
              go_roundg (ncd - (k + 1))
              case measure => have := HG2.out; omega
              case rel => exact ⟨k + 1, _, ⟨a1, c1, l1⟩, ⟨a2, c2, l2⟩, by have := HG2.out; omega, by go_num, HQS.out, Nat.le_succ_of_le hl1, Nat.le_succ_of_le hl2, H5.out.take 10⟩
            by_cases h11 : iop = 11
            · subst h11
              have s2 := (H4.out.blk 4 rfl).cell 2
              simp at s2
              obtain ⟨G, hrd, _, hup, _⟩ := H4.out.opens 8 rfl
              have hcq := HQ.out.rr.1
              have HW5 := Lib.hid (ref_withN (.slice a1 l1.length c1) l1 inn w4 G hrd hcq (Nat.le_trans hl1 (by omega)))
              have HUP := Lib.hid hup
              clear hrd hup hcq
              go_wp2_with (go_at_call 37; go_loud (refine HW5.out.mono ?_; rintro e w5 ⟨a5, c5, L5, rfl, hr5, hm5, hl5, hrd5, hk5⟩; have H5 := Lib.hid (HUP.out w5 (rdA (.slice a5 L5.length c5) L5.length (ints L5)) (hk5.mono (fun _ f => f.elim)) (hrd5.tight.mono (fun z hz => hz.1.elim .inl (fun h => .inr ⟨h, hz.2⟩)))); have HQS := Lib.hid (HQ.out.res HX1.out rfl hr5 hm5); have HL5 := Lib.hid hl5; have q2 := (H5.out.blk 4 rfl).cell 2; have f2 := (H5.out.blk 4 rfl).frozen 2; have j0 := (H5.out.blk 10 rfl).cell 0; have j3 := (H5.out.blk 10 rfl).cell 3; simp at q2 j0 j3; have H6 := Lib.hid (H5.out.write 4 rfl 2 (.slice a5 L5.length c5)); have y0 := (H6.out.blk 10 rfl).cell 0; simp at y0; clear hr5 hm5 hl5 hrd5 hk5 HW5 HUP s2))
              go_roundg (ncd - (k + 1))
              case measure => have := HG2.out; omega
              case rel => exact ⟨k + 1, cdk, ⟨a5, c5, L5⟩, ⟨a2, c2, l2⟩, by have := HG2.out; omega, by go_num, HQS.out, Nat.le_trans HL5.out (Nat.succ_le_succ hl1), Nat.le_succ_of_le hl2, H6.out.take 10⟩
            by_cases h12 : iop = 12
            · subst h12
              have s3 := (H4.out.blk 4 rfl).cell 3
              simp at s3
              obtain ⟨G, hrd, _, hup, _⟩ := H4.out.opens 9 rfl
              have hcq := HQ.out.rw'.1
              have HW5 := Lib.hid (ref_withN (.slice a2 l2.length c2) l2 inn w4 G hrd hcq (Nat.le_trans hl2 (by omega)))
              have HUP := Lib.hid hup
              clear hrd hup hcq
              go_wp2_with (go_at_call 37; go_loud (refine HW5.out.mono ?_; rintro e w5 ⟨a5, c5, L5, rfl, hr5, hm5, hl5, hrd5, hk5⟩; have H5 := Lib.hid (HUP.out w5 (rdA (.slice a5 L5.length c5) L5.length (ints L5)) (hk5.mono (fun _ f => f.elim)) (hrd5.tight.mono (fun z hz => hz.1.elim .inl (fun h => .inr ⟨h, hz.2⟩)))); have HQS := Lib.hid (HQ.out.save HX1.out rfl hr5 hm5); have HL5 := Lib.hid hl5; have q3 := (H5.out.blk 4 rfl).cell 3; have f3 := (H5.out.blk 4 rfl).frozen 3; have j0 := (H5.out.blk 10 rfl).cell 0; have j3 := (H5.out.blk 10 rfl).cell 3; simp at q3 j0 j3; have H6 := Lib.hid (H5.out.write 4 rfl 3 (.slice a5 L5.length c5)); have y0 := (H6.out.blk 10 rfl).cell 0; simp at y0; clear hr5 hm5 hl5 hrd5 hk5 HW5 HUP s3))
              go_roundg (ncd - (k + 1))
              case measure => have := HG2.out; omega
              case rel => exact ⟨k + 1, cdk, ⟨a1, c1, l1⟩, ⟨a5, c5, L5⟩, by have := HG2.out; omega, by go_num, HQS.out, Nat.le_succ_of_le hl1, Nat.le_trans HL5.out (Nat.succ_le_succ hl2), H6.out.take 10⟩
            have q13 : (iop == 13) = false := by simp; omega
            have q11 : (iop == 11) = false := by simp; omega
            have q12 : (iop == 12) = false := by simp; omega
            have hqs := HQ.out.other HX1.out h13 h11 h12
            have HQS := Lib.hid hqs
            clear hqs
            go_wp2_with fail
            go_roundg (ncd - (k + 1))
            case measure => have := HG2.out; omega
            case rel => exact ⟨k + 1, cdk, ⟨a1, c1, l1⟩, ⟨a2, c2, l2⟩, by have := HG2.out; omega, by go_num, HQS.out, Nat.le_succ_of_le hl1, Nat.le_succ_of_le hl2, H4.out.take 10⟩
          · obtain rfl : ncd = k := by omega
            have y3 := (H3.out.blk 1 rfl).cell 3
            simp at y3
            by_cases hu9 : U = 9
            · subst hu9
              have y4 := (H3.out.blk 1 rfl).cell 4
              have y5 := (H3.out.blk 1 rfl).cell 5
              have y6 := (H3.out.blk 1 rfl).cell 6
              have y7 := (H3.out.blk 1 rfl).cell 7
              have y8 := (H3.out.blk 1 rfl).cell 8
              have q0 := (H3.out.blk 4 rfl).cell 0
              have q1 := (H3.out.blk 4 rfl).cell 1
              have q2 := (H3.out.blk 4 rfl).cell 2
              have q3 := (H3.out.blk 4 rfl).cell 3
              have q4 := (H3.out.blk 4 rfl).cell 4
              have f0 := (H3.out.blk 4 rfl).frozen 0
              have f1 := (H3.out.blk 4 rfl).frozen 1
              have f2 := (H3.out.blk 4 rfl).frozen 2
              have f3 := (H3.out.blk 4 rfl).frozen 3
              have f4 := (H3.out.blk 4 rfl).frozen 4
              simp at y4 y5 y6 y7 y8 q0 q1 q2 q3 q4
              go_upto_region 26 with (fail)
              have h5 := ((((H3.out.write 4 rfl 0 (.slice ra rl.length rc)).write 4 rfl 1 (.slice wa wl.length wcp)).write 4 rfl 2 (.slice rra rrl.length rrc)).write 4 rfl 3 (.slice rwa rwl.length rwc)).write 4 rfl 4 (.bool al)
              obtain ⟨wx, hwx⟩ : ∃ wx, wx = ((((wr.setCell ⟨gs, 0, none⟩ (.slice ra rl.length rc)).setCell ⟨gs, 1, none⟩ (.slice wa wl.length wcp)).setCell ⟨gs, 2, none⟩ (.slice rra rrl.length rrc)).setCell ⟨gs, 3, none⟩ (.slice rwa rwl.length rwc)).setCell ⟨gs, 4, none⟩ (.bool al) := ⟨_, rfl⟩
              rw [← hwx] at h5 ⊢
              have H3b := Lib.hid (show St w wx [blkA g0 #[.int .i64 size, .int .i64 top, .slice ca nd cc, .slice cra crn crc] 56, blkA g1 #[.slice pa plan.length pc, .slice coa code.length coc, .slice fa after.length fc, .int .i64 use, .slice ra rl.length rc, .slice wa wl.length wcp, .slice rra rrl.length rrc, .slice rwa rwl.length rwc, .bool al, .slice pla pln plc, .slice cda cdn cdc, .slice afa afl.length afc] 52, blkA g2 #[.slice none 0 0, .slice none 0 0, .slice none 0 0, .slice none 0 0, .bool false, .slice none 0 0, .slice none 0 0, .slice none 0 0] 35, slA 82 2 (.slice pla' pll.length plc') pll.length (pll.flatMap ColV.cells), blkA gs #[.slice ra rl.length rc, .slice wa wl.length wcp, .slice rra rrl.length rrc, .slice rwa rwl.length rwc, .bool al, .slice pla' pll.length plc', .slice acd ncd ccd, .slice none 0 0] 35, rdA (.slice aw Lw.length cw) Lw.length (ints Lw), rdA (.slice ar Lr.length cr) Lr.length (ints Lr), insA (.slice acd ncd ccd) ncd cdk, rdA (.slice a1 l1.length c1) l1.length (ints l1), rdA (.slice a2 l2.length c2) l2.length (ints l2)] from h5)
              clear hwx h5 y3 y4 y5 y6 y7 y8 q0 q1 q2 q3 q4 f0 f1 f2 f3 f4
              have y2 := (H3b.out.blk 1 rfl).cell 2
              simp at y2
              have HAF := Lib.hid (show Rd S wx (.slice fa after.length fc) after.length (ints after) from (H.out.keep0 (Keep.ofSt H3b.out)).after)
              obtain ⟨na, hna⟩ : ∃ n, after.length = n := ⟨_, rfl⟩
              rw [hna] at HAF haf' y2 ⊢
              have HNA := Lib.hid hna
              clear hna s6
              have y2a := ((Keep.refl wx Nope).alloc (.cells #[] 3)).cell y2 (fun f => f)
              go_upto_region 27 with (at_builtin; go_loud (refine wpList_app (P := Try.prog) slInt rfl _ _ rfl (S := fun z => wx.heap.size ≤ z) (S2 := S) (n := 0) (xs := []) (m := na) (news := ints after) rfl rfl (Own.lit wx _ 1 0 #[] (Nat.zero_le _) rfl (Nat.le_refl _)) (HAF.out.alloc _) (by rw [ints_len, HNA.out, Nat.mul_one]) (by intro u hu; obtain ⟨x, _, rfl⟩ := List.mem_map.1 hu; rfl) (by omega) (by unfold maxLen; omega) ?_; rintro a9 n9 c9 w5 ⟨ho, hn9, hk9, _⟩; obtain rfl : n9 = na := (by omega); have hown : Own (New wx w5) w5 3 1 (.slice a9 n9 c9) n9 (ints after) := ((ho.mono (T := fun z => wx.heap.size ≤ z) (fun z h => h.elim id (fun h => by have := h.1; rw [World.size_alloc] at this; omega)))).new; have H5 := Lib.hid (H3b.out.add ((((Keep.refl wx Nope).alloc _).trans hk9 (fun z h => .inr h))) (A := slA 3 1 (.slice a9 n9 c9) n9 (ints after)) hown); have q7 := (H5.out.blk 4 rfl).cell 7; have f7 := (H5.out.blk 4 rfl).frozen 7; simp at q7; clear ho hn9 hk9 hown HAF))
              have h6 := H5.out.write 4 rfl 7 (.slice a9 n9 c9)
              obtain ⟨w6, hw6⟩ : ∃ w6, w6 = w5.setCell ⟨gs, 7, none⟩ (.slice a9 n9 c9) := ⟨_, rfl⟩
              rw [← hw6] at h6 ⊢
              have H6 := Lib.hid (show St w w6 [blkA g0 #[.int .i64 size, .int .i64 top, .slice ca nd cc, .slice cra crn crc] 56, blkA g1 #[.slice pa plan.length pc, .slice coa code.length coc, .slice fa after.length fc, .int .i64 use, .slice ra rl.length rc, .slice wa wl.length wcp, .slice rra rrl.length rrc, .slice rwa rwl.length rwc, .bool al, .slice pla pln plc, .slice cda cdn cdc, .slice afa afl.length afc] 52, blkA g2 #[.slice none 0 0, .slice none 0 0, .slice none 0 0, .slice none 0 0, .bool false, .slice none 0 0, .slice none 0 0, .slice none 0 0] 35, slA 82 2 (.slice pla' pll.length plc') pll.length (pll.flatMap ColV.cells), blkA gs #[.slice ra rl.length rc, .slice wa wl.length wcp, .slice rra rrl.length rrc, .slice rwa rwl.length rwc, .bool al, .slice pla' pll.length plc', .slice acd ncd ccd, .slice a9 n9 c9] 35, rdA (.slice aw Lw.length cw) Lw.length (ints Lw), rdA (.slice ar Lr.length cr) Lr.length (ints Lr), insA (.slice acd ncd ccd) ncd cdk, rdA (.slice a1 l1.length c1) l1.length (ints l1), rdA (.slice a2 l2.length c2) l2.length (ints l2), slA 3 1 (.slice a9 n9 c9) n9 (ints after)] from h6)
              clear hw6 h6 q7 f7 H5
              have s0 := (H6.out.blk 4 rfl).cell 0
              have s1 := (H6.out.blk 4 rfl).cell 1
              have s2 := (H6.out.blk 4 rfl).cell 2
              have s3 := (H6.out.blk 4 rfl).cell 3
              have s4 := (H6.out.blk 4 rfl).cell 4
              have s5 := (H6.out.blk 4 rfl).cell 5
              have s6 := (H6.out.blk 4 rfl).cell 6
              have s7 := (H6.out.blk 4 rfl).cell 7
              simp at s0 s1 s2 s3 s4 s5 s6 s7
              have HB2 := Lib.hid (H6.out.blk 2 rfl)
              have HKP := Lib.hid (Keep.ofSt H6.out)
              have HGL := Lib.hid (show w.heap.size ≤ g2 by have := HGS.out.2.2; omega)
              go_wp2_with (refine wpList_store_row rfl 35 _ _ rfl g2 #[.slice ra rl.length rc, .slice wa wl.length wcp, .slice rra rrl.length rrc, .slice rwa rwl.length rwc, .bool al, .slice pla' pll.length plc', .slice acd ncd ccd, .slice a9 n9 c9] rfl rfl 35 _ HB2.out (by kernel_rfl) rfl (by kernel_rfl) ?_)
              refine bodyPost_ret (results_cell_row (P := Try.prog) rfl _ _ g2 35 #[.slice ra rl.length rc, .slice wa wl.length wcp, .slice rra rrl.length rrc, .slice rwa rwl.length rwc, .bool al, .slice pla' pll.length plc', .slice acd ncd ccd, .slice a9 n9 c9] (0, 0) _ rfl (setRow_heap _ _ _ _ _ _ HB2.out) Try.underlying35 rfl (by kernel_rfl)) rfl ?_
              have h7 := H6.out.row 2 rfl #[.slice ra rl.length rc, .slice wa wl.length wcp, .slice rra rrl.length rrc, .slice rwa rwl.length rwc, .bool al, .slice pla' pll.length plc', .slice acd ncd ccd, .slice a9 n9 c9]
              have hnq := HN.out
              have hqq := HQ.out
              have hnaa := HNA.out
              have hlen : cdk.length = ncd := by rw [hqq.len]; exact hnq
              have mo := fun (G : Nat → Prop) (hG : ∀ x, G x → w.heap.size ≤ x ∧ x < (w6.setRow g2 #[.slice ra rl.length rc, .slice wa wl.length wcp, .slice rra rrl.length rrc, .slice rwa rwl.length rwc, .bool al, .slice pla' pll.length plc', .slice acd ncd ccd, .slice a9 n9 c9]).heap.size) => (fun z (hz : G z) => (show S z ∨ w.heap.size ≤ z from .inr (hG z hz).1))
              have hraw := (H.out.keep0 (Keep.ofSt h7)).raw
              obtain ⟨G3, _, r3, k3⟩ := h7.rd 3 rfl
              obtain ⟨G7, _, r7, k7⟩ := h7.rd 7 (n := ncd) (v := .slice acd ncd ccd) (e := 87) (size := 4) (xs := cdk.flatMap InsV.cells) rfl
              obtain ⟨Ga, _, ra', ka⟩ := h7.rd 10 rfl
              refine ⟨⟨⟨⟨ra, rc, rl⟩, ⟨wa, wcp, wl⟩, ⟨rra, rrc, rrl⟩, ⟨rwa, rwc, rwl⟩, al, ⟨pla', pll.length, plc'⟩, ⟨acd, ncd, ccd⟩, ⟨a9, c9, after⟩⟩, pll, cdk⟩, ?_, .inl ?_, ⟨⟨⟨hraw.1.use.r.mono (fun _ h => .inl h), hraw.1.use.w'.mono (fun _ h => .inl h), hraw.1.use.rr.mono (fun _ h => .inl h), hraw.1.use.rw'.mono (fun _ h => .inl h)⟩, r3.mono (mo G3 k3), ?_⟩, ?_⟩, HKP.out.setRow (.inr HGL.out) _⟩
              · unfold SysX.val
                simp only [RowV.v, SlV.v, hnaa]
              · exact ⟨HND.out.symm ▸ HTM.out, ⟨rfl, hlen.symm, by show cdk.length ≤ 10; omega, hpl7⟩, rfl, .inr HUU.out, .inr ⟨HUU.out, rfl, rfl, rfl, rfl⟩⟩
              · have h := r7.mono (mo G7 k7)
                unfold SlV.v
                show Rd _ _ (.slice acd ncd ccd) cdk.length _
                rw [hlen]
                exact h
              · have h := ra'.mono (mo Ga ka)
                unfold RowV.v
                show Rd _ _ (.slice a9 after.length c9) after.length _
                rw [hnaa]
                exact h
            have hu9' : ((U : Int) == 9) = false := by simp; omega
            go_upto_region 26 with (fail)
            have y2 := (H3.out.blk 1 rfl).cell 2
            simp at y2
            have HAF := Lib.hid (show Rd S wr (.slice fa after.length fc) after.length (ints after) from (H.out.keep0 (Keep.ofSt H3.out)).after)
            obtain ⟨na, hna⟩ : ∃ n, after.length = n := ⟨_, rfl⟩
            rw [hna] at HAF haf' y2 ⊢
            have HNA := Lib.hid hna
            clear hna s6
            have y2a := ((Keep.refl wr Nope).alloc (.cells #[] 3)).cell y2 (fun f => f)
            go_upto_region 27 with (at_builtin; go_loud (refine wpList_app (P := Try.prog) slInt rfl _ _ rfl (S := fun z => wr.heap.size ≤ z) (S2 := S) (n := 0) (xs := []) (m := na) (news := ints after) rfl rfl (Own.lit wr _ 1 0 #[] (Nat.zero_le _) rfl (Nat.le_refl _)) (HAF.out.alloc _) (by rw [ints_len, HNA.out, Nat.mul_one]) (by intro u hu; obtain ⟨x, _, rfl⟩ := List.mem_map.1 hu; rfl) (by omega) (by unfold maxLen; omega) ?_; rintro a9 n9 c9 w5 ⟨ho, hn9, hk9, _⟩; obtain rfl : n9 = na := (by omega); have hown : Own (New wr w5) w5 3 1 (.slice a9 n9 c9) n9 (ints after) := ((ho.mono (T := fun z => wr.heap.size ≤ z) (fun z h => h.elim id (fun h => by have := h.1; rw [World.size_alloc] at this; omega)))).new; have H5 := Lib.hid (H3.out.add ((((Keep.refl wr Nope).alloc _).trans hk9 (fun z h => .inr h))) (A := slA 3 1 (.slice a9 n9 c9) n9 (ints after)) hown); have q7 := (H5.out.blk 4 rfl).cell 7; have f7 := (H5.out.blk 4 rfl).frozen 7; simp at q7; clear ho hn9 hk9 hown HAF))
            have h6 := H5.out.write 4 rfl 7 (.slice a9 n9 c9)
            obtain ⟨w6, hw6⟩ : ∃ w6, w6 = w5.setCell ⟨gs, 7, none⟩ (.slice a9 n9 c9) := ⟨_, rfl⟩
            rw [← hw6] at h6 ⊢
            have H6 := Lib.hid (show St w w6 [blkA g0 #[.int .i64 size, .int .i64 top, .slice ca nd cc, .slice cra crn crc] 56, blkA g1 #[.slice pa plan.length pc, .slice coa code.length coc, .slice fa after.length fc, .int .i64 use, .slice ra rl.length rc, .slice wa wl.length wcp, .slice rra rrl.length rrc, .slice rwa rwl.length rwc, .bool al, .slice pla pln plc, .slice cda cdn cdc, .slice afa afl.length afc] 52, blkA g2 #[.slice none 0 0, .slice none 0 0, .slice none 0 0, .slice none 0 0, .bool false, .slice none 0 0, .slice none 0 0, .slice none 0 0] 35, slA 82 2 (.slice pla' pll.length plc') pll.length (pll.flatMap ColV.cells), blkA gs #[.slice ar Lr.length cr, .slice aw Lw.length cw, .slice a1 l1.length c1, .slice a2 l2.length c2, .bool alb, .slice pla' pll.length plc', .slice acd ncd ccd, .slice a9 n9 c9] 35, rdA (.slice aw Lw.length cw) Lw.length (ints Lw), rdA (.slice ar Lr.length cr) Lr.length (ints Lr), insA (.slice acd ncd ccd) ncd cdk, rdA (.slice a1 l1.length c1) l1.length (ints l1), rdA (.slice a2 l2.length c2) l2.length (ints l2), slA 3 1 (.slice a9 n9 c9) n9 (ints after)] from h6)
            clear hw6 h6 q7 f7 H5
            have s0 := (H6.out.blk 4 rfl).cell 0
            have s1 := (H6.out.blk 4 rfl).cell 1
            have s2 := (H6.out.blk 4 rfl).cell 2
            have s3 := (H6.out.blk 4 rfl).cell 3
            have s4 := (H6.out.blk 4 rfl).cell 4
            have s5 := (H6.out.blk 4 rfl).cell 5
            have s6 := (H6.out.blk 4 rfl).cell 6
            have s7 := (H6.out.blk 4 rfl).cell 7
            simp at s0 s1 s2 s3 s4 s5 s6 s7
            have HB2 := Lib.hid (H6.out.blk 2 rfl)
            have HKP := Lib.hid (Keep.ofSt H6.out)
            have HGL := Lib.hid (show w.heap.size ≤ g2 by have := HGS.out.2.2; omega)
            go_wp2_with (refine wpList_store_row rfl 35 _ _ rfl g2 #[.slice ar Lr.length cr, .slice aw Lw.length cw, .slice a1 l1.length c1, .slice a2 l2.length c2, .bool alb, .slice pla' pll.length plc', .slice acd ncd ccd, .slice a9 n9 c9] rfl rfl 35 _ HB2.out (by kernel_rfl) rfl (by kernel_rfl) ?_)
            refine bodyPost_ret (results_cell_row (P := Try.prog) rfl _ _ g2 35 #[.slice ar Lr.length cr, .slice aw Lw.length cw, .slice a1 l1.length c1, .slice a2 l2.length c2, .bool alb, .slice pla' pll.length plc', .slice acd ncd ccd, .slice a9 n9 c9] (0, 0) _ rfl (setRow_heap _ _ _ _ _ _ HB2.out) Try.underlying35 rfl (by kernel_rfl)) rfl ?_
            have h7 := H6.out.row 2 rfl #[.slice ar Lr.length cr, .slice aw Lw.length cw, .slice a1 l1.length c1, .slice a2 l2.length c2, .bool alb, .slice pla' pll.length plc', .slice acd ncd ccd, .slice a9 n9 c9]
            have hnq := HN.out
            have hqq := HQ.out
            have hnaa := HNA.out
            have hlen : cdk.length = ncd := by rw [hqq.len]; exact hnq
            have mo := fun (G : Nat → Prop) (hG : ∀ x, G x → w.heap.size ≤ x ∧ x < (w6.setRow g2 #[.slice ar Lr.length cr, .slice aw Lw.length cw, .slice a1 l1.length c1, .slice a2 l2.length c2, .bool alb, .slice pla' pll.length plc', .slice acd ncd ccd, .slice a9 n9 c9]).heap.size) => (fun z (hz : G z) => (show S z ∨ w.heap.size ≤ z from .inr (hG z hz).1))
            obtain ⟨G5, r5, k5⟩ := h7.rdr 5 rfl
            obtain ⟨G6, r6, k6⟩ := h7.rdr 6 rfl
            obtain ⟨G8, r8, k8⟩ := h7.rdr 8 rfl
            obtain ⟨G9, r9, k9⟩ := h7.rdr 9 rfl
            obtain ⟨G3, _, r3, k3⟩ := h7.rd 3 rfl
            obtain ⟨G7, _, r7, k7⟩ := h7.rd 7 (n := ncd) (v := .slice acd ncd ccd) (e := 87) (size := 4) (xs := cdk.flatMap InsV.cells) rfl
            obtain ⟨Ga, _, ra', ka⟩ := h7.rd 10 rfl
            refine ⟨⟨⟨⟨ar, cr, Lr⟩, ⟨aw, cw, Lw⟩, ⟨a1, c1, l1⟩, ⟨a2, c2, l2⟩, alb, ⟨pla', pll.length, plc'⟩, ⟨acd, ncd, ccd⟩, ⟨a9, c9, after⟩⟩, pll, cdk⟩, ?_, .inl ?_, ⟨⟨⟨r6.mono (mo G6 k6), r5.mono (mo G5 k5), r8.mono (mo G8 k8), r9.mono (mo G9 k9)⟩, r3.mono (mo G3 k3), ?_⟩, ?_⟩, HKP.out.setRow (.inr HGL.out) _⟩
            · unfold SysX.val
              simp only [RowV.v, SlV.v, hnaa]
            · refine ⟨HND.out.symm ▸ HTM.out, ⟨rfl, hlen.symm, by show cdk.length ≤ 10; omega, hpl7⟩, rfl, .inl ⟨cdl, by rw [show min crn 32 = m from HM32.out]; exact HCP.out, by rw [hnq]; exact hqq, ⟨HW.out.1, HW.out.2.1⟩, HRR.out.1, HRR.out.2.1⟩, .inl ?_⟩
              have e1 := HW.out.2.2
              have e2 := HRR.out.2.2
              simp only at hl1 hl2 ⊢
              exact ⟨by omega, by omega, by omega, by omega⟩
            · have h := r7.mono (mo G7 k7)
              unfold SlV.v
              show Rd _ _ (.slice acd ncd ccd) cdk.length _
              rw [hlen]
              exact h
            · have h := ra'.mono (mo Ga ka)
              unfold RowV.v
              show Rd _ _ (.slice a9 after.length c9) after.length _
              rw [hnaa]
              exact h
      · obtain rfl : i = 10 := by omega
        have d1 : decide (((10 : Nat) : Int) < code.length) = true := decide_eq_true (by omega)
        have d1' : (10 : Int) < code.length := by omega
        go_upto_block 2 with (fail)
        go_wp2_with fail
        go_loopg [9] ncd (fun g v9 wz => LoopK2 w cdl [blkA g0 #[.int .i64 size, .int .i64 top, .slice ca nd cc, .slice cra crn crc] 56, blkA g1 #[.slice pa plan.length pc, .slice coa code.length coc, .slice fa after.length fc, .int .i64 use, .slice ra rl.length rc, .slice wa wl.length wcp, .slice rra rrl.length rrc, .slice rwa rwl.length rwc, .bool al, .slice pla pln plc, .slice cda cdn cdc, .slice afa afl.length afc] 52, blkA g2 #[.slice none 0 0, .slice none 0 0, .slice none 0 0, .slice none 0 0, .bool false, .slice none 0 0, .slice none 0 0, .slice none 0 0] 35, slA 82 2 (.slice pla' pll.length plc') pll.length (pll.flatMap ColV.cells)] gs (.slice ar Lr.length cr) (.slice aw Lw.length cw) (.slice pla' pll.length plc') (.slice acd ncd ccd) ncd alb [rdA (.slice aw Lw.length cw) Lw.length (ints Lw), rdA (.slice ar Lr.length cr) Lr.length (ints Lr)] g v9 wz)
        case atStart => exact ⟨0, cdl, ⟨none, 0, []⟩, ⟨none, 0, []⟩, rfl, rfl, CodeQ.start cdl, Nat.le_refl _, Nat.le_refl _, H2.out⟩
        case round =>
          obtain ⟨k, cdk, ⟨a1, c1, l1⟩, ⟨a2, c2, l2⟩, hg, rfl, hq, hl1, hl2, hst⟩ := hrel
          clear H2 s6
          have HG2 := Lib.hid hg
          have HQ := Lib.hid hq
          have H3 := Lib.hid (show St w wr [blkA g0 #[.int .i64 size, .int .i64 top, .slice ca nd cc, .slice cra crn crc] 56, blkA g1 #[.slice pa plan.length pc, .slice coa code.length coc, .slice fa after.length fc, .int .i64 use, .slice ra rl.length rc, .slice wa wl.length wcp, .slice rra rrl.length rrc, .slice rwa rwl.length rwc, .bool al, .slice pla pln plc, .slice cda cdn cdc, .slice afa afl.length afc] 52, blkA g2 #[.slice none 0 0, .slice none 0 0, .slice none 0 0, .slice none 0 0, .bool false, .slice none 0 0, .slice none 0 0, .slice none 0 0] 35, slA 82 2 (.slice pla' pll.length plc') pll.length (pll.flatMap ColV.cells), blkA gs #[.slice ar Lr.length cr, .slice aw Lw.length cw, .slice a1 l1.length c1, .slice a2 l2.length c2, .bool alb, .slice pla' pll.length plc', .slice acd ncd ccd, .slice none 0 0] 35, rdA (.slice aw Lw.length cw) Lw.length (ints Lw), rdA (.slice ar Lr.length cr) Lr.length (ints Lr), insA (.slice acd ncd ccd) ncd cdk, rdA (.slice a1 l1.length c1) l1.length (ints l1), rdA (.slice a2 l2.length c2) l2.length (ints l2)] from hst)
          have hkn : k ≤ ncd := by omega
          have hnk := HN.out
          clear hg hq hst
          have s6 := (H3.out.blk 4 rfl).cell 6
          simp at s6
          by_cases hlk : k < ncd
          · have hkI : (k : Int) < ncd := by omega
            have hkd : decide ((k : Int) < ncd) = true := decide_eq_true hkI
            obtain ⟨x, hx1, hx2⟩ := HQ.out.get (by rw [hnk]; exact hlk)
            obtain ⟨gc, rfl, hgl, hgf, hgc, hgs⟩ := H3.out.store 7 (n := ncd) (e := 87) (size := 4) (xs := cdk.flatMap InsV.cells) rfl (by omega)
            have e0 := hgc (k * 4 + 0) (by omega)
            have e1 := hgc (k * 4 + 1) (by omega)
            have e2 := hgc (k * 4 + 2) (by omega)
            have e3 := hgc (k * 4 + 3) (by omega)
            have fg := fun j (hj : j < 4) => flat_get InsV.cells 4 (fun _ => rfl) cdk k j _ hx2 hj
            rw [fg 0 (by decide)] at e0
            rw [fg 1 (by decide)] at e1
            rw [fg 2 (by decide)] at e2
            rw [fg 3 (by decide)] at e3
            obtain ⟨iop, iir, iis, inn⟩ := x
            simp only [InsV.cells, List.getElem?_cons_zero, List.getElem?_cons_succ, Nat.add_zero] at e0 e1 e2 e3
            have hcapn : ncd ≤ ccd ∧ ccd ≤ maxLen := by
              obtain ⟨_, ho, _⟩ := H3.out.rd 7 (n := ncd) (v := .slice (some ⟨gc, 0, none⟩) ncd ccd) (e := 87) (size := 4) (xs := cdk.flatMap InsV.cells) rfl
              exact ho.cap
            unfold maxLen at hcapn
            have f3 := hgf (k * 4 + 3)
            have HGSs := Lib.hid hgs
            have HX1 := Lib.hid hx1
            have HX2 := Lib.hid hx2
            clear hgl hgf hgc hgs fg hx1 hx2
            go_upto_region 18 with (fail)
            have h4 := H3.out.box #[.int .i64 iop, .int .i64 iir, .int .i64 iis, .int .i64 inn] 87
            obtain ⟨w4, hw4⟩ : ∃ w4, w4 = wr.alloc (.cells #[.int .i64 iop, .int .i64 iir, .int .i64 iis, .int .i64 inn] 87) := ⟨_, rfl⟩
            rw [← hw4] at h4 ⊢
            obtain ⟨gj, hgj⟩ : ∃ g, g = wr.heap.size := ⟨_, rfl⟩
            rw [← hgj] at h4 ⊢
            have H4 := Lib.hid (show St w w4 [blkA g0 #[.int .i64 size, .int .i64 top, .slice ca nd cc, .slice cra crn crc] 56, blkA g1 #[.slice pa plan.length pc, .slice coa code.length coc, .slice fa after.length fc, .int .i64 use, .slice ra rl.length rc, .slice wa wl.length wcp, .slice rra rrl.length rrc, .slice rwa rwl.length rwc, .bool al, .slice pla pln plc, .slice cda cdn cdc, .slice afa afl.length afc] 52, blkA g2 #[.slice none 0 0, .slice none 0 0, .slice none 0 0, .slice none 0 0, .bool false, .slice none 0 0, .slice none 0 0, .slice none 0 0] 35, slA 82 2 (.slice pla' pll.length plc') pll.length (pll.flatMap ColV.cells), blkA gs #[.slice ar Lr.length cr, .slice aw Lw.length cw, .slice a1 l1.length c1, .slice a2 l2.length c2, .bool alb, .slice pla' pll.length plc', .slice (some ⟨gc, 0, none⟩) ncd ccd, .slice none 0 0] 35, rdA (.slice aw Lw.length cw) Lw.length (ints Lw), rdA (.slice ar Lr.length cr) Lr.length (ints Lr), insA (.slice (some ⟨gc, 0, none⟩) ncd ccd) ncd cdk, rdA (.slice a1 l1.length c1) l1.length (ints l1), rdA (.slice a2 l2.length c2) l2.length (ints l2), blkA gj #[.int .i64 iop, .int .i64 iir, .int .i64 iis, .int .i64 inn] 87] from h4)
            clear hw4 h4 hgj e0 e1 e2 e3 f3 s6 HGSs H3
            have j0 := (H4.out.blk 10 rfl).cell 0
            have j3 := (H4.out.blk 10 rfl).cell 3
            simp at j0 j3
            by_cases h13 : iop = 13
            · subst h13
              have s6 := (H4.out.blk 4 rfl).cell 6
              simp at s6
              obtain ⟨gc2, he, hgl, hgf, hgc, hgs⟩ := H4.out.store 7 (n := ncd) (e := 87) (size := 4) (xs := cdk.flatMap InsV.cells) rfl (by omega)
              injection he with he
              injection he with he
              subst he
              have e3 := hgc (k * 4 + 3) (by omega)
              rw [flat_get InsV.cells 4 (fun _ => rfl) cdk k 3 _ HX2.out (by decide)] at e3
              simp only [InsV.cells, List.getElem?_cons_zero, List.getElem?_cons_succ] at e3
              have f3 := hgf (k * 4 + 3)
              obtain ⟨mn, hmn⟩ : ∃ mn : Int, min inn ((ncd : Int) - 1 - k) = mn := ⟨_, rfl⟩
              have h5 := hgs (k * 4 + 3) (.int .i64 mn)
              rw [flat_set InsV.cells 4 (fun _ => rfl) ⟨13, iir, iis, mn⟩ 3 (.int .i64 mn) (by decide) cdk k _ HX2.out rfl] at h5
              have H5 := Lib.hid h5
              have hqs := HQ.out.skip HX1.out rfl
              rw [hnk, hmn] at hqs
              have HQS := Lib.hid hqs
              clear hgl hgf hgc hgs h5 hqs
              go_wp2_with fail
              go_roundg (ncd - (k + 1))
              case measure => have := HG2.out; omega
              case rel => exact ⟨k + 1, _, ⟨a1, c1, l1⟩, ⟨a2, c2, l2⟩, by have := HG2.out; omega, by go_num, HQS.out, Nat.le_succ_of_le hl1, Nat.le_succ_of_le hl2, H5.out.take 10⟩
            by_cases h11 : iop = 11
            · subst h11
              have s2 := (H4.out.blk 4 rfl).cell 2
              simp at s2
              obtain ⟨G, hrd, _, hup, _⟩ := H4.out.opens 8 rfl
              have hcq := HQ.out.rr.1
              have HW5 := Lib.hid (ref_withN (.slice a1 l1.length c1) l1 inn w4 G hrd hcq (Nat.le_trans hl1 (by omega)))
              have HUP := Lib.hid hup
              clear hrd hup hcq
              go_wp2_with (go_at_call 37; go_loud (refine HW5.out.mono ?_; rintro e w5 ⟨a5, c5, L5, rfl, hr5, hm5, hl5, hrd5, hk5⟩; have H5 := Lib.hid (HUP.out w5 (rdA (.slice a5 L5.length c5) L5.length (ints L5)) (hk5.mono (fun _ f => f.elim)) (hrd5.tight.mono (fun z hz => hz.1.elim .inl (fun h => .inr ⟨h, hz.2⟩)))); have HQS := Lib.hid (HQ.out.res HX1.out rfl hr5 hm5); have HL5 := Lib.hid hl5; have q2 := (H5.out.blk 4 rfl).cell 2; have f2 := (H5.out.blk 4 rfl).frozen 2; have j0 := (H5.out.blk 10 rfl).cell 0; have j3 := (H5.out.blk 10 rfl).cell 3; simp at q2 j0 j3; have H6 := Lib.hid (H5.out.write 4 rfl 2 (.slice a5 L5.length c5)); have y0 := (H6.out.blk 10 rfl).cell 0; simp at y0; clear hr5 hm5 hl5 hrd5 hk5 HW5 HUP s2))
              go_roundg (ncd - (k + 1))
              case measure => have := HG2.out; omega
              case rel => exact ⟨k + 1, cdk, ⟨a5, c5, L5⟩, ⟨a2, c2, l2⟩, by have := HG2.out; omega, by go_num, HQS.out, Nat.le_trans HL5.out (Nat.succ_le_succ hl1), Nat.le_succ_of_le hl2, H6.out.take 10⟩
            by_cases h12 : iop = 12
            · subst h12
              have s3 := (H4.out.blk 4 rfl).cell 3
              simp at s3
              obtain ⟨G, hrd, _, hup, _⟩ := H4.out.opens 9 rfl
              have hcq := HQ.out.rw'.1
              have HW5 := Lib.hid (ref_withN (.slice a2 l2.length c2) l2 inn w4 G hrd hcq (Nat.le_trans hl2 (by omega)))
              have HUP := Lib.hid hup
              clear hrd hup hcq
              go_wp2_with (go_at_call 37; go_loud (refine HW5.out.mono ?_; rintro e w5 ⟨a5, c5, L5, rfl, hr5, hm5, hl5, hrd5, hk5⟩; have H5 := Lib.hid (HUP.out w5 (rdA (.slice a5 L5.length c5) L5.length (ints L5)) (hk5.mono (fun _ f => f.elim)) (hrd5.tight.mono (fun z hz => hz.1.elim .inl (fun h => .inr ⟨h, hz.2⟩)))); have HQS := Lib.hid (HQ.out.save HX1.out rfl hr5 hm5); have HL5 := Lib.hid hl5; have q3 := (H5.out.blk 4 rfl).cell 3; have f3 := (H5.out.blk 4 rfl).frozen 3; have j0 := (H5.out.blk 10 rfl).cell 0; have j3 := (H5.out.blk 10 rfl).cell 3; simp at q3 j0 j3; have H6 := Lib.hid (H5.out.write 4 rfl 3 (.slice a5 L5.length c5)); have y0 := (H6.out.blk 10 rfl).cell 0; simp at y0; clear hr5 hm5 hl5 hrd5 hk5 HW5 HUP s3))
              go_roundg (ncd - (k + 1))
              case measure => have := HG2.out; omega
              case rel => exact ⟨k + 1, cdk, ⟨a1, c1, l1⟩, ⟨a5, c5, L5⟩, by have := HG2.out; omega, by go_num, HQS.out, Nat.le_succ_of_le hl1, Nat.le_trans HL5.out (Nat.succ_le_succ hl2), H6.out.take 10⟩
            have q13 : (iop == 13) = false := by simp; omega
            have q11 : (iop == 11) = false := by simp; omega
            have q12 : (iop == 12) = false := by simp; omega
            have hqs := HQ.out.other HX1.out h13 h11 h12
            have HQS := Lib.hid hqs
            clear hqs
            go_wp2_with fail
            go_roundg (ncd - (k + 1))
            case measure => have := HG2.out; omega
            case rel => exact ⟨k + 1, cdk, ⟨a1, c1, l1⟩, ⟨a2, c2, l2⟩, by have := HG2.out; omega, by go_num, HQS.out, Nat.le_succ_of_le hl1, Nat.le_succ_of_le hl2, H4.out.take 10⟩
          · obtain rfl : ncd = k := by omega
            have y3 := (H3.out.blk 1 rfl).cell 3
            simp at y3
            by_cases hu9 : U = 9
            · subst hu9
              have y4 := (H3.out.blk 1 rfl).cell 4
              have y5 := (H3.out.blk 1 rfl).cell 5
              have y6 := (H3.out.blk 1 rfl).cell 6
              have y7 := (H3.out.blk 1 rfl).cell 7
              have y8 := (H3.out.blk 1 rfl).cell 8
              have q0 := (H3.out.blk 4 rfl).cell 0
              have q1 := (H3.out.blk 4 rfl).cell 1
              have q2 := (H3.out.blk 4 rfl).cell 2
              have q3 := (H3.out.blk 4 rfl).cell 3
              have q4 := (H3.out.blk 4 rfl).cell 4
              have f0 := (H3.out.blk 4 rfl).frozen 0
              have f1 := (H3.out.blk 4 rfl).frozen 1
              have f2 := (H3.out.blk 4 rfl).frozen 2
              have f3 := (H3.out.blk 4 rfl).frozen 3
              have f4 := (H3.out.blk 4 rfl).frozen 4
              simp at y4 y5 y6 y7 y8 q0 q1 q2 q3 q4
              go_upto_region 26 with (fail)
              have h5 := ((((H3.out.write 4 rfl 0 (.slice ra rl.length rc)).write 4 rfl 1 (.slice wa wl.length wcp)).write 4 rfl 2 (.slice rra rrl.length rrc)).write 4 rfl 3 (.slice rwa rwl.length rwc)).write 4 rfl 4 (.bool al)
              obtain ⟨wx, hwx⟩ : ∃ wx, wx = ((((wr.setCell ⟨gs, 0, none⟩ (.slice ra rl.length rc)).setCell ⟨gs, 1, none⟩ (.slice wa wl.length wcp)).setCell ⟨gs, 2, none⟩ (.slice rra rrl.length rrc)).setCell ⟨gs, 3, none⟩ (.slice rwa rwl.length rwc)).setCell ⟨gs, 4, none⟩ (.bool al) := ⟨_, rfl⟩
              rw [← hwx] at h5 ⊢
              have H3b := Lib.hid (show St w wx [blkA g0 #[.int .i64 size, .int .i64 top, .slice ca nd cc, .slice cra crn crc] 56, blkA g1 #[.slice pa plan.length pc, .slice coa code.length coc, .slice fa after.length fc, .int .i64 use, .slice ra rl.length rc, .slice wa wl.length wcp, .slice rra rrl.length rrc, .slice rwa rwl.length rwc, .bool al, .slice pla pln plc, .slice cda cdn cdc, .slice afa afl.length afc] 52, blkA g2 #[.slice none 0 0, .slice none 0 0, .slice none 0 0, .slice none 0 0, .bool false, .slice none 0 0, .slice none 0 0, .slice none 0 0] 35, slA 82 2 (.slice pla' pll.length plc') pll.length (pll.flatMap ColV.cells), blkA gs #[.slice ra rl.length rc, .slice wa wl.length wcp, .slice rra rrl.length rrc, .slice rwa rwl.length rwc, .bool al, .slice pla' pll.length plc', .slice acd ncd ccd, .slice none 0 0] 35, rdA (.slice aw Lw.length cw) Lw.length (ints Lw), rdA (.slice ar Lr.length cr) Lr.length (ints Lr), insA (.slice acd ncd ccd) ncd cdk, rdA (.slice a1 l1.length c1) l1.length (ints l1), rdA (.slice a2 l2.length c2) l2.length (ints l2)] from h5)
              clear hwx h5 y3 y4 y5 y6 y7 y8 q0 q1 q2 q3 q4 f0 f1 f2 f3 f4
              have y2 := (H3b.out.blk 1 rfl).cell 2
              simp at y2
              have HAF := Lib.hid (show Rd S wx (.slice fa after.length fc) after.length (ints after) from (H.out.keep0 (Keep.ofSt H3b.out)).after)
              obtain ⟨na, hna⟩ : ∃ n, after.length = n := ⟨_, rfl⟩
              rw [hna] at HAF haf' y2 ⊢
              have HNA := Lib.hid hna
              clear hna s6
              have y2a := ((Keep.refl wx Nope).alloc (.cells #[] 3)).cell y2 (fun f => f)
              go_upto_region 27 with (at_builtin; go_loud (refine wpList_app (P := Try.prog) slInt rfl _ _ rfl (S := fun z => wx.heap.size ≤ z) (S2 := S) (n := 0) (xs := []) (m := na) (news := ints after) rfl rfl (Own.lit wx _ 1 0 #[] (Nat.zero_le _) rfl (Nat.le_refl _)) (HAF.out.alloc _) (by rw [ints_len, HNA.out, Nat.mul_one]) (by intro u hu; obtain ⟨x, _, rfl⟩ := List.mem_map.1 hu; rfl) (by omega) (by unfold maxLen; omega) ?_; rintro a9 n9 c9 w5 ⟨ho, hn9, hk9, _⟩; obtain rfl : n9 = na := (by omega); have hown : Own (New wx w5) w5 3 1 (.slice a9 n9 c9) n9 (ints after) := ((ho.mono (T := fun z => wx.heap.size ≤ z) (fun z h => h.elim id (fun h => by have := h.1; rw [World.size_alloc] at this; omega)))).new; have H5 := Lib.hid (H3b.out.add ((((Keep.refl wx Nope).alloc _).trans hk9 (fun z h => .inr h))) (A := slA 3 1 (.slice a9 n9 c9) n9 (ints after)) hown); have q7 := (H5.out.blk 4 rfl).cell 7; have f7 := (H5.out.blk 4 rfl).frozen 7; simp at q7; clear ho hn9 hk9 hown HAF))
              have h6 := H5.out.write 4 rfl 7 (.slice a9 n9 c9)
              obtain ⟨w6, hw6⟩ : ∃ w6, w6 = w5.setCell ⟨gs, 7, none⟩ (.slice a9 n9 c9) := ⟨_, rfl⟩
              rw [← hw6] at h6 ⊢
              have H6 := Lib.hid (show St w w6 [blkA g0 #[.int .i64 size, .int .i64 top, .slice ca nd cc, .slice cra crn crc] 56, blkA g1 #[.slice pa plan.length pc, .slice coa code.length coc, .slice fa after.length fc, .int .i64 use, .slice ra rl.length rc, .slice wa wl.length wcp, .slice rra rrl.length rrc, .slice rwa rwl.length rwc, .bool al, .slice pla pln plc, .slice cda cdn cdc, .slice afa afl.length afc] 52, blkA g2 #[.slice none 0 0, .slice none 0 0, .slice none 0 0, .slice none 0 0, .bool false, .slice none 0 0, .slice none 0 0, .slice none 0 0] 35, slA 82 2 (.slice pla' pll.length plc') pll.length (pll.flatMap ColV.cells), blkA gs #[.slice ra rl.length rc, .slice wa wl.length wcp, .slice rra rrl.length rrc, .slice rwa rwl.length rwc, .bool al, .slice pla' pll.length plc', .slice acd ncd ccd, .slice a9 n9 c9] 35, rdA (.slice aw Lw.length cw) Lw.length (ints Lw), rdA (.slice ar Lr.length cr) Lr.length (ints Lr), insA (.slice acd ncd ccd) ncd cdk, rdA (.slice a1 l1.length c1) l1.length (ints l1), rdA (.slice a2 l2.length c2) l2.length (ints l2), slA 3 1 (.slice a9 n9 c9) n9 (ints after)] from h6)
              clear hw6 h6 q7 f7 H5
              have s0 := (H6.out.blk 4 rfl).cell 0
              have s1 := (H6.out.blk 4 rfl).cell 1
              have s2 := (H6.out.blk 4 rfl).cell 2
              have s3 := (H6.out.blk 4 rfl).cell 3
              have s4 := (H6.out.blk 4 rfl).cell 4
              have s5 := (H6.out.blk 4 rfl).cell 5
              have s6 := (H6.out.blk 4 rfl).cell 6
              have s7 := (H6.out.blk 4 rfl).cell 7
              simp at s0 s1 s2 s3 s4 s5 s6 s7
              have HB2 := Lib.hid (H6.out.blk 2 rfl)
              have HKP := Lib.hid (Keep.ofSt H6.out)
              have HGL := Lib.hid (show w.heap.size ≤ g2 by have := HGS.out.2.2; omega)
              go_wp2_with (refine wpList_store_row rfl 35 _ _ rfl g2 #[.slice ra rl.length rc, .slice wa wl.length wcp, .slice rra rrl.length rrc, .slice rwa rwl.length rwc, .bool al, .slice pla' pll.length plc', .slice acd ncd ccd, .slice a9 n9 c9] rfl rfl 35 _ HB2.out (by kernel_rfl) rfl (by kernel_rfl) ?_)
              refine bodyPost_ret (results_cell_row (P := Try.prog) rfl _ _ g2 35 #[.slice ra rl.length rc, .slice wa wl.length wcp, .slice rra rrl.length rrc, .slice rwa rwl.length rwc, .bool al, .slice pla' pll.length plc', .slice acd ncd ccd, .slice a9 n9 c9] (0, 0) _ rfl (setRow_heap _ _ _ _ _ _ HB2.out) Try.underlying35 rfl (by kernel_rfl)) rfl ?_
              have h7 := H6.out.row 2 rfl #[.slice ra rl.length rc, .slice wa wl.length wcp, .slice rra rrl.length rrc, .slice rwa rwl.length rwc, .bool al, .slice pla' pll.length plc', .slice acd ncd ccd, .slice a9 n9 c9]
              have hnq := HN.out
              have hqq := HQ.out
              have hnaa := HNA.out
              have hlen : cdk.length = ncd := by rw [hqq.len]; exact hnq
              have mo := fun (G : Nat → Prop) (hG : ∀ x, G x → w.heap.size ≤ x ∧ x < (w6.setRow g2 #[.slice ra rl.length rc, .slice wa wl.length wcp, .slice rra rrl.length rrc, .slice rwa rwl.length rwc, .bool al, .slice pla' pll.length plc', .slice acd ncd ccd, .slice a9 n9 c9]).heap.size) => (fun z (hz : G z) => (show S z ∨ w.heap.size ≤ z from .inr (hG z hz).1))
              have hraw := (H.out.keep0 (Keep.ofSt h7)).raw
              obtain ⟨G3, _, r3, k3⟩ := h7.rd 3 rfl
              obtain ⟨G7, _, r7, k7⟩ := h7.rd 7 (n := ncd) (v := .slice acd ncd ccd) (e := 87) (size := 4) (xs := cdk.flatMap InsV.cells) rfl
              obtain ⟨Ga, _, ra', ka⟩ := h7.rd 10 rfl
              refine ⟨⟨⟨⟨ra, rc, rl⟩, ⟨wa, wcp, wl⟩, ⟨rra, rrc, rrl⟩, ⟨rwa, rwc, rwl⟩, al, ⟨pla', pll.length, plc'⟩, ⟨acd, ncd, ccd⟩, ⟨a9, c9, after⟩⟩, pll, cdk⟩, ?_, .inl ?_, ⟨⟨⟨hraw.1.use.r.mono (fun _ h => .inl h), hraw.1.use.w'.mono (fun _ h => .inl h), hraw.1.use.rr.mono (fun _ h => .inl h), hraw.1.use.rw'.mono (fun _ h => .inl h)⟩, r3.mono (mo G3 k3), ?_⟩, ?_⟩, HKP.out.setRow (.inr HGL.out) _⟩
              · unfold SysX.val
                simp only [RowV.v, SlV.v, hnaa]
              · exact ⟨HND.out.symm ▸ HTM.out, ⟨rfl, hlen.symm, by show cdk.length ≤ 10; omega, hpl7⟩, rfl, .inr HUU.out, .inr ⟨HUU.out, rfl, rfl, rfl, rfl⟩⟩
              · have h := r7.mono (mo G7 k7)
                unfold SlV.v
                show Rd _ _ (.slice acd ncd ccd) cdk.length _
                rw [hlen]
                exact h
              · have h := ra'.mono (mo Ga ka)
                unfold RowV.v
                show Rd _ _ (.slice a9 after.length c9) after.length _
                rw [hnaa]
                exact h
            have hu9' : ((U : Int) == 9) = false := by simp; omega
            go_upto_region 26 with (fail)
            have y2 := (H3.out.blk 1 rfl).cell 2
            simp at y2
            have HAF := Lib.hid (show Rd S wr (.slice fa after.length fc) after.length (ints after) from (H.out.keep0 (Keep.ofSt H3.out)).after)
            obtain ⟨na, hna⟩ : ∃ n, after.length = n := ⟨_, rfl⟩
            rw [hna] at HAF haf' y2 ⊢
            have HNA := Lib.hid hna
            clear hna s6
            have y2a := ((Keep.refl wr Nope).alloc (.cells #[] 3)).cell y2 (fun f => f)
            go_upto_region 27 with (at_builtin; go_loud (refine wpList_app (P := Try.prog) slInt rfl _ _ rfl (S := fun z => wr.heap.size ≤ z) (S2 := S) (n := 0) (xs := []) (m := na) (news := ints after) rfl rfl (Own.lit wr _ 1 0 #[] (Nat.zero_le _) rfl (Nat.le_refl _)) (HAF.out.alloc _) (by rw [ints_len, HNA.out, Nat.mul_one]) (by intro u hu; obtain ⟨x, _, rfl⟩ := List.mem_map.1 hu; rfl) (by omega) (by unfold maxLen; omega) ?_; rintro a9 n9 c9 w5 ⟨ho, hn9, hk9, _⟩; obtain rfl : n9 = na := (by omega); have hown : Own (New wr w5) w5 3 1 (.slice a9 n9 c9) n9 (ints after) := ((ho.mono (T := fun z => wr.heap.size ≤ z) (fun z h => h.elim id (fun h => by have := h.1; rw [World.size_alloc] at this; omega)))).new; have H5 := Lib.hid (H3.out.add ((((Keep.refl wr Nope).alloc _).trans hk9 (fun z h => .inr h))) (A := slA 3 1 (.slice a9 n9 c9) n9 (ints after)) hown); have q7 := (H5.out.blk 4 rfl).cell 7; have f7 := (H5.out.blk 4 rfl).frozen 7; simp at q7; clear ho hn9 hk9 hown HAF))
            have h6 := H5.out.write 4 rfl 7 (.slice a9 n9 c9)
            obtain ⟨w6, hw6⟩ : ∃ w6, w6 = w5.setCell ⟨gs, 7, none⟩ (.slice a9 n9 c9) := ⟨_, rfl⟩
            rw [← hw6] at h6 ⊢
            have H6 := Lib.hid (show St w w6 [blkA g0 #[.int .i64 size, .int .i64 top, .slice ca nd cc, .slice cra crn crc] 56, blkA g1 #[.slice pa plan.length pc, .slice coa code.length coc, .slice fa after.length fc, .int .i64 use, .slice ra rl.length rc, .slice wa wl.length wcp, .slice rra rrl.length rrc, .slice rwa rwl.length rwc, .bool al, .slice pla pln plc, .slice cda cdn cdc, .slice afa afl.length afc] 52, blkA g2 #[.slice none 0 0, .slice none 0 0, .slice none 0 0, .slice none 0 0, .bool false, .slice none 0 0, .slice none 0 0, .slice none 0 0] 35, slA 82 2 (.slice pla' pll.length plc') pll.length (pll.flatMap ColV.cells), blkA gs #[.slice ar Lr.length cr, .slice aw Lw.length cw, .slice a1 l1.length c1, .slice a2 l2.length c2, .bool alb, .slice pla' pll.length plc', .slice acd ncd ccd, .slice a9 n9 c9] 35, rdA (.slice aw Lw.length cw) Lw.length (ints Lw), rdA (.slice ar Lr.length cr) Lr.length (ints Lr), insA (.slice acd ncd ccd) ncd cdk, rdA (.slice a1 l1.length c1) l1.length (ints l1), rdA (.slice a2 l2.length c2) l2.length (ints l2), slA 3 1 (.slice a9 n9 c9) n9 (ints after)] from h6)
            clear hw6 h6 q7 f7 H5
            have s0 := (H6.out.blk 4 rfl).cell 0
            have s1 := (H6.out.blk 4 rfl).cell 1
            have s2 := (H6.out.blk 4 rfl).cell 2
            have s3 := (H6.out.blk 4 rfl).cell 3
            have s4 := (H6.out.blk 4 rfl).cell 4
            have s5 := (H6.out.blk 4 rfl).cell 5
            have s6 := (H6.out.blk 4 rfl).cell 6
            have s7 := (H6.out.blk 4 rfl).cell 7
            simp at s0 s1 s2 s3 s4 s5 s6 s7
            have HB2 := Lib.hid (H6.out.blk 2 rfl)
            have HKP := Lib.hid (Keep.ofSt H6.out)
            have HGL := Lib.hid (show w.heap.size ≤ g2 by have := HGS.out.2.2; omega)
            go_wp2_with (refine wpList_store_row rfl 35 _ _ rfl g2 #[.slice ar Lr.length cr, .slice aw Lw.length cw, .slice a1 l1.length c1, .slice a2 l2.length c2, .bool alb, .slice pla' pll.length plc', .slice acd ncd ccd, .slice a9 n9 c9] rfl rfl 35 _ HB2.out (by kernel_rfl) rfl (by kernel_rfl) ?_)
            refine bodyPost_ret (results_cell_row (P := Try.prog) rfl _ _ g2 35 #[.slice ar Lr.length cr, .slice aw Lw.length cw, .slice a1 l1.length c1, .slice a2 l2.length c2, .bool alb, .slice pla' pll.length plc', .slice acd ncd ccd, .slice a9 n9 c9] (0, 0) _ rfl (setRow_heap _ _ _ _ _ _ HB2.out) Try.underlying35 rfl (by kernel_rfl)) rfl ?_
            have h7 := H6.out.row 2 rfl #[.slice ar Lr.length cr, .slice aw Lw.length cw, .slice a1 l1.length c1, .slice a2 l2.length c2, .bool alb, .slice pla' pll.length plc', .slice acd ncd ccd, .slice a9 n9 c9]
            have hnq := HN.out
            have hqq := HQ.out
            have hnaa := HNA.out
            have hlen : cdk.length = ncd := by rw [hqq.len]; exact hnq
            have mo := fun (G : Nat → Prop) (hG : ∀ x, G x → w.heap.size ≤ x ∧ x < (w6.setRow g2 #[.slice ar Lr.length cr, .slice aw Lw.length cw, .slice a1 l1.length c1, .slice a2 l2.length c2, .bool alb, .slice pla' pll.length plc', .slice acd ncd ccd, .slice a9 n9 c9]).heap.size) => (fun z (hz : G z) => (show S z ∨ w.heap.size ≤ z from .inr (hG z hz).1))
            obtain ⟨G5, r5, k5⟩ := h7.rdr 5 rfl
            obtain ⟨G6, r6, k6⟩ := h7.rdr 6 rfl
            obtain ⟨G8, r8, k8⟩ := h7.rdr 8 rfl
            obtain ⟨G9, r9, k9⟩ := h7.rdr 9 rfl
            obtain ⟨G3, _, r3, k3⟩ := h7.rd 3 rfl
            obtain ⟨G7, _, r7, k7⟩ := h7.rd 7 (n := ncd) (v := .slice acd ncd ccd) (e := 87) (size := 4) (xs := cdk.flatMap InsV.cells) rfl
            obtain ⟨Ga, _, ra', ka⟩ := h7.rd 10 rfl
            refine ⟨⟨⟨⟨ar, cr, Lr⟩, ⟨aw, cw, Lw⟩, ⟨a1, c1, l1⟩, ⟨a2, c2, l2⟩, alb, ⟨pla', pll.length, plc'⟩, ⟨acd, ncd, ccd⟩, ⟨a9, c9, after⟩⟩, pll, cdk⟩, ?_, .inl ?_, ⟨⟨⟨r6.mono (mo G6 k6), r5.mono (mo G5 k5), r8.mono (mo G8 k8), r9.mono (mo G9 k9)⟩, r3.mono (mo G3 k3), ?_⟩, ?_⟩, HKP.out.setRow (.inr HGL.out) _⟩
            · unfold SysX.val
              simp only [RowV.v, SlV.v, hnaa]
            · refine ⟨HND.out.symm ▸ HTM.out, ⟨rfl, hlen.symm, by show cdk.length ≤ 10; omega, hpl7⟩, rfl, .inl ⟨cdl, by rw [show min crn 32 = m from HM32.out]; exact HCP.out, by rw [hnq]; exact hqq, ⟨HW.out.1, HW.out.2.1⟩, HRR.out.1, HRR.out.2.1⟩, .inl ?_⟩
              have e1 := HW.out.2.2
              have e2 := HRR.out.2.2
              simp only at hl1 hl2 ⊢
              exact ⟨by omega, by omega, by omega, by omega⟩
            · have h := r7.mono (mo G7 k7)
              unfold SlV.v
              show Rd _ _ (.slice acd ncd ccd) cdk.length _
              rw [hlen]
              exact h
            · have h := ra'.mono (mo Ga ka)
              unfold RowV.v
              show Rd _ _ (.slice a9 after.length c9) after.length _
              rw [hnaa]
              exact h
end Go.Proofs.Ytbigknmeooaidaa
