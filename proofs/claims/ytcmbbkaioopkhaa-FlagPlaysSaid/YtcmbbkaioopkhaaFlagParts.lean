/-
  FlagParts: noted one by one, or in one call, events are told alike.
-/
import Derived.Test.YtcmbbkaioopkhaaFlag8
namespace Go.Proofs.Ytcmbbkaioopkhaa
open Go Go.RowKit
set_option linter.unusedVariables false
set_option linter.unusedSimpArgs false

theorem flatEv_take (l : List EvV) (d : Nat) : (flatEv l).take (d * 2) = flatEv (l.take d) := flat_take EvV.cells 2 (fun _ => rfl) l d
/-- A slice literal in a block whose number is known. -/
theorem Own.litAt {S : Nat → Prop} (w : World) (e : TypeId) (size n b : Nat) (cs : Array Value) (hn : n ≤ maxLen) (hc : cs.size = n * size) (hb : w.heap.size = b) (hS : S b) :
    Own S (w.alloc (.cells cs e)) e size (.slice (some ⟨b, 0, none⟩) n n) n cs.toList := by
  subst hb
  exact Own.lit w e size n cs hn hc hS
theorem fp_app5 {w6 wc w5 : World} {e : TypeId} {b0 m k : Nat} {v y : Value} {news : List Value} (hk : Keep w6 wc Nope) (hb : w6.heap.size ≤ b0) (happ : App (fun z => z = b0) wc w5 e 2 v y 0 m k [] news) :
    Own (fun z => w6.heap.size ≤ z) w5 e 2 y k news ∧ Keep w6 w5 Nope := by
  have h := happ.own
  rw [List.nil_append] at h
  exact ⟨h.mono (fun i hi => hi.elim (fun e => e ▸ hb) (fun e => Nat.le_trans hk.size e.1)), hk.trans happ.keep (fun i hi => .inr (hi ▸ hb))⟩
theorem fp_app {w6 wc w5 : World} {e : TypeId} {n m k : Nat} {v y : Value} {xs news : List Value} (hk : Keep w6 wc Nope) (happ : App (fun z => w6.heap.size ≤ z) wc w5 e 2 v y n m k xs news) :
    Own (fun z => w6.heap.size ≤ z) w5 e 2 y k (xs ++ news) ∧ Keep w6 w5 Nope :=
  ⟨happ.own.mono (fun i hi => hi.elim id (fun e => Nat.le_trans hk.size e.1)), hk.trans happ.keep (fun i hi => .inr hi)⟩

def LoopFP1 (w : World) (b5 : Nat) (cs : Array Value) (l : List EvV) (g : Nat) (v7 v8 : Value) (wr : World) : Prop :=
  ∃ (i n : Nat) (a : Option Addr) (c : Nat) (G : List EvV), g + i = l.length ∧ v8 = .int .i64 i ∧ v7 = .slice a n c ∧ n ≤ 30 ∧ n = G.length ∧ G.any badEv = false ∧
    St w wr [blkA b5 cs 34, slA 34 2 (.slice a n c) n (flatEv G)]
def LoopFP2 (w : World) (b5 : Nat) (cs : Array Value) (a : Option Addr) (n c ba bb : Nat) (G : List EvV) (g : Nat) (v17 : Value) (wr : World) : Prop :=
  ∃ i : Nat, g + i = n ∧ v17 = .int .i64 i ∧
    St w wr [blkA b5 cs 34, slA 34 2 (.slice a n c) n (flatEv G), flagA ba ⟨50, G, [0]⟩, flagA bb ⟨50, G.take i, [0]⟩]

set_option maxRecDepth 100000 in
set_option maxHeartbeats 4000000 in
theorem flagParts_walk (v : Value) (l : List EvV) (at' : Int) (bad : EvV) (w : World) (S : Nat → Prop) (hv : Rd S w v l.length (flatEv l)) (hS : ∀ i, S i → i < w.heap.size) :
    Calls Try.prog 5 #[v, .int .i64 at', bad.val] w (RetTrue w) := by
  obtain ⟨va, vc, rfl, g1, g2, g3, g4⟩ := id hv
  have hlen : l.length ≤ 9223372036854775807 := by unfold maxLen at g2; omega
  clear g1 g2 g3 g4
  have HV := Lib.hid hv; clear hv
  have HSB := Lib.hid hS; clear hS
  obtain ⟨bk, bi⟩ := bad
  have HS := Lib.hid ((St.start w).box #[.int .i64 bk, .int .i64 bi] 34)
  obtain ⟨b5, hb5⟩ : ∃ b5, w.heap.size = b5 := ⟨_, rfl⟩
  have HB5 := Lib.hid hb5
  simp only [EvV.val]
  go_enter Try.func5, Try.ntmps5
  go_upto_block 0 with (fail)
  have H1 := Lib.hid (show St w (w.alloc (.cells #[.int .i64 bk, .int .i64 bi] 34)) [blkA b5 #[.int .i64 bk, .int .i64 bi] 34] from hb5 ▸ HS.out)
  clear hb5 HS
  go_cut [7] (fun v7 wx => ∃ (n : Nat) (a : Option Addr) (c : Nat) (G : List EvV), v7 = .slice a n c ∧ n ≤ 30 ∧ n = G.length ∧ G.any badEv = false ∧ St w wx [blkA b5 #[.int .i64 bk, .int .i64 bi] 34, slA 34 2 (.slice a n c) n (flatEv G)])
  case first =>
    go_wp2_with fail
    go_loopg [7, 8] l.length (fun g v7 v8 wr => LoopFP1 w b5 #[.int .i64 bk, .int .i64 bi] l g v7 v8 wr)
    case atStart => exact ⟨0, 0, none, 0, [], rfl, rfl, rfl, by omega, rfl, rfl, H1.out.add (Keep.refl _ _) (A := slA 34 2 (.slice none 0 0) 0 (flatEv [])) (Own.nil _ _ _ _)⟩
    case round =>
      obtain ⟨i, n, a, c, G, hi, rfl, rfl, hn, hnG, hG, hst⟩ := hrel
      clear H1
      have hil : i ≤ l.length := by omega
      have HI := Lib.hid hi; clear hi
      have HNG := Lib.hid hnG; clear hnG
      have HG := Lib.hid hG; clear hG
      have H := Lib.hid hst; clear hst
      by_cases hlt : i < l.length ∧ n < 30
      · obtain ⟨hlt, h30⟩ := hlt
        obtain ⟨o, ho⟩ : ∃ o, l[i]? = some o := ⟨_, List.getElem?_eq_getElem hlt⟩
        obtain ⟨vb, vo, rfl, _, hco⟩ := (HV.out.below H.out.bel HSB.out).elem (cells := EvV.cells) (size := 2) (fun _ => rfl) (by decide) ho
        have HC := Lib.hid (event_ok o wr)
        obtain ⟨ok, hok⟩ : ∃ ok, badEv o = ok := ⟨_, rfl⟩
        rw [hok] at HC
        have HOK := Lib.hid hok; clear hok ho
        obtain ⟨kind, idx⟩ := o
        have hc0 := hco 0 (by decide)
        have hc1 := hco 1 (by decide)
        simp [EvV.cells] at hc0 hc1
        clear hco
        simp only [EvV.val] at HC
        have hd30 : (n : Int) < 30 := by omega
        cases ok
        · simp only [Bool.not_false] at HC
          go_wp2_with fail
          refine (HC.out).mono ?_
          rintro e w1 ⟨rfl, hk1⟩
          have hc0' := hk1.cell hc0 (fun f => f)
          have hc1' := hk1.cell hc1 (fun f => f)
          have H2 := Lib.hid (H.out.keep hk1)
          clear hk1 hc0 hc1 H HC
          obtain ⟨G1, hown, _, hup, _⟩ := H2.out.opens 1 rfl
          have HOwn := Lib.hid (show Own G1 w1 34 2 (.slice a n c) n (flatEv G) from hown)
          have HUP := Lib.hid hup
          clear hown hup
          go_wp2_with (at_builtin; refine wpList_app (P := Try.prog) slEv rfl _ _ rfl (S := G1) (S2 := fun z => z = w1.heap.size) (n := n) (xs := flatEv G) (m := 1) (news := flatEv [⟨kind, idx⟩]) rfl rfl ?hown ?hx ?hl ?h1 ?h2 ?h3 ?_)
          case hown => exact HOwn.out.alloc _
          case hx => exact (Own.lit (S := fun z => z = w1.heap.size) w1 34 2 1 #[.int .i64 kind, .int .i64 idx] (by decide) rfl rfl).rd
          case hl => rfl
          case h1 => exact flatEv_one _
          case h2 => omega
          case h3 => unfold maxLen; omega
          rintro a' k' c' w5 happ
          obtain ⟨q1, q2⟩ := app_up (wr := w1) ((Keep.refl w1 Nope).alloc _) happ
          obtain rfl := happ.num
          rw [← flatEv_app] at q2
          have H5 := Lib.hid (show St w w5 [blkA b5 #[.int .i64 bk, .int .i64 bi] 34, slA 34 2 (.slice a' (n + 1) c') (n + 1) (flatEv (G ++ [⟨kind, idx⟩]))] from HUP.out w5 _ q1 q2)
          clear happ q1 q2 HUP HOwn
          go_wp2_with fail
          go_roundg (l.length - (i + 1))
          case measure => have := HI.out; omega
          case rel => exact ⟨i + 1, n + 1, a', c', G ++ [⟨kind, idx⟩], by omega, by go_num, rfl, by omega, by have := HNG.out; simp; omega, by rw [List.any_append, HG.out]; simp [HOK.out], H5.out⟩
        · simp only [Bool.not_true] at HC
          go_wp2_with fail
          refine (HC.out).mono ?_
          rintro e w1 ⟨rfl, hk1⟩
          have H2 := Lib.hid (H.out.keep hk1)
          clear hk1 H HC
          go_wp2_with fail
          go_roundg (l.length - (i + 1))
          case measure => have := HI.out; omega
          case rel => exact ⟨i + 1, n, a, c, G, by omega, by go_num, rfl, hn, HNG.out, HG.out, H2.out⟩
      · by_cases hl2 : i < l.length
        · have h30 : ¬ (n : Int) < 30 := by omega
          clear hlt
          go_wp2_with fail
          go_meet
          case rel => exact ⟨n, a, c, G, rfl, hn, HNG.out, HG.out, H.out⟩
        · clear hlt
          go_wp2_with fail
          go_meet
          case rel => exact ⟨n, a, c, G, rfl, hn, HNG.out, HG.out, H.out⟩
  case rest =>
    obtain ⟨n, a, c, G, rfl, hn, hnG, hG, hst⟩ := hcut
    clear H1
    have HNG := Lib.hid hnG; clear hnG
    have HG := Lib.hid hG; clear hG
    have H := Lib.hid hst; clear hst
    go_wp2_with fail
    refine (flag_new H.out 50 (by decide) (by decide)).mono ?_
    rintro e w1 ⟨ba, rfl, hst⟩
    have H1 := Lib.hid (show St w w1 [blkA b5 #[.int .i64 bk, .int .i64 bi] 34, slA 34 2 (.slice a n c) n (flatEv G), flagA ba ⟨50, [], []⟩] from hst); clear hst H
    go_wp2_with fail
    refine (flag_new H1.out 50 (by decide) (by decide)).mono ?_
    rintro e w2 ⟨bb, rfl, hst⟩
    have H2 := Lib.hid (show St w w2 [blkA b5 #[.int .i64 bk, .int .i64 bi] 34, slA 34 2 (.slice a n c) n (flatEv G), flagA ba ⟨50, [], []⟩, flagA bb ⟨50, [], []⟩] from hst); clear hst H1
    go_wp2_with fail
    refine (flag_reader H2.out 2 rfl (by simp)).mono ?_
    rintro e w3 ⟨rfl, hst⟩
    have H3 := Lib.hid (show St w w3 [blkA b5 #[.int .i64 bk, .int .i64 bi] 34, slA 34 2 (.slice a n c) n (flatEv G), flagA ba ⟨50, [], [0]⟩, flagA bb ⟨50, [], []⟩] from hst); clear hst H2
    go_wp2_with fail
    refine (flag_reader H3.out 3 rfl (by simp)).mono ?_
    rintro e w4 ⟨rfl, hst⟩
    have H4 := Lib.hid (show St w w4 [blkA b5 #[.int .i64 bk, .int .i64 bi] 34, slA 34 2 (.slice a n c) n (flatEv G), flagA ba ⟨50, [], [0]⟩, flagA bb ⟨50, [], [0]⟩] from hst); clear hst H3
    go_wp2_with fail
    refine (flag_note H4.out 2 rfl (.slice a n c) G (by have h : ReadIn w _ (.slice a n c) n (flatEv G) := ReadIn.own (L := [blkA b5 #[.int .i64 bk, .int .i64 bi] 34, slA 34 2 (.slice a n c) n (flatEv G), empA, flagA bb ⟨50, [], [0]⟩]) 1 rfl; rw [← HNG.out]; exact h) HG.out (by have := HNG.out; omega) (by simp) (by simp) (by simp)).mono ?_
    rintro e w5 ⟨rfl, hst⟩
    have H5 := Lib.hid (show St w w5 [blkA b5 #[.int .i64 bk, .int .i64 bi] 34, slA 34 2 (.slice a n c) n (flatEv G), flagA ba ⟨50, G, [0]⟩, flagA bb ⟨50, [], [0]⟩] from hst); clear hst H4
    go_wp2_with fail
    go_loopg [17] n (fun g v17 wr => LoopFP2 w b5 #[.int .i64 bk, .int .i64 bi] a n c ba bb G g v17 wr)
    case atStart => exact ⟨0, by omega, rfl, H5.out⟩
    case round =>
      obtain ⟨i, hi, rfl, hst⟩ := hrel
      clear H5
      have hin : i ≤ n := by omega
      have HI := Lib.hid hi; clear hi
      have H6 := Lib.hid hst; clear hst
      by_cases hlt : i < n
      · obtain ⟨o, ho⟩ : ∃ o, G[i]? = some o := ⟨_, List.getElem?_eq_getElem (by have := HNG.out; omega)⟩
        obtain ⟨S6, _, hr6, _⟩ := H6.out.rd 1 rfl
        obtain ⟨vb, vo, rfl, _, hco⟩ := hr6.elem (cells := EvV.cells) (size := 2) (fun _ => rfl) (by decide) ho
        have hbo : badEv o = false := by have := List.any_eq_false.1 HG.out o (List.mem_of_getElem? ho); simpa using this
        have htk : G.take (i + 1) = G.take i ++ [o] := by rw [List.take_add_one, ho]; rfl
        obtain ⟨kind, idx⟩ := o
        have hc0 := hco 0 (by decide)
        have hc1 := hco 1 (by decide)
        simp [EvV.cells] at hc0 hc1
        have HTK := Lib.hid htk
        have HBO := Lib.hid hbo
        clear hco hr6 ho htk hbo
        go_wp2_with fail
        have h7 := St.lit H6.out 34 2 1 #[.int .i64 kind, .int .i64 idx] (by decide) rfl
        refine (flag_note h7 3 rfl _ [⟨kind, idx⟩] (ReadIn.own 4 rfl) (by simp [HBO.out]) (by simp) (by have := HNG.out; simp; omega) (by simp) (by simp)).mono ?_
        rintro e w7 ⟨rfl, hst⟩
        have hst2 := hst.take 4
        have H8 := Lib.hid (show St w w7 [blkA b5 #[.int .i64 bk, .int .i64 bi] 34, slA 34 2 (.slice (some ⟨vb, vo, none⟩) n c) n (flatEv G), flagA ba ⟨50, G, [0]⟩, flagA bb ⟨50, G.take (i + 1), [0]⟩] by rw [HTK.out]; exact hst2); clear hst hst2 H6 h7
        go_wp2_with fail
        go_roundg (n - (i + 1))
        case measure => have := HI.out; omega
        case rel => exact ⟨i + 1, by omega, by go_num, H8.out⟩
      · obtain rfl : i = n := by omega
        have htk : G.take i = G := by rw [HNG.out, List.take_length]
        have hst := H6.out
        rw [htk] at hst
        have H7 := Lib.hid hst
        clear HI hin hlt H6 htk hst
        have c50 := (H7.out.blk 0 rfl).cell 0
        have c51 := (H7.out.blk 0 rfl).cell 1
        simp at c50 c51
        go_wp2_with fail
        have HC := Lib.hid (event_ok ⟨bk, bi⟩ wr)
        simp only [EvV.val] at HC
        obtain ⟨ok, hok⟩ : ∃ ok, badEv ⟨bk, bi⟩ = ok := ⟨_, rfl⟩
        rw [hok] at HC
        have HOK := Lib.hid hok; clear hok
        refine (HC.out).mono ?_
        rintro e w6 ⟨rfl, hk6⟩
        have H8 := Lib.hid (H7.out.keep hk6); clear hk6 H7 HC c50 c51
        have c50 := (H8.out.blk 0 rfl).cell 0
        have c51 := (H8.out.blk 0 rfl).cell 1
        simp at c50 c51
        go_upto_if 100 with (fail)
        go_cut [] (fun wx => St w wx [blkA b5 #[.int .i64 bk, .int .i64 bi] 34, slA 34 2 (.slice a i c) i (flatEv G), flagA ba ⟨50, G, [0]⟩, flagA bb ⟨50, G, [0]⟩])
        case first =>
          cases ok
          · simp only [Bool.not_false]
            go_wp2_with fail
            go_meet
            case rel => exact H8.out
          · simp only [Bool.not_true]
            obtain ⟨q, hq, hqi⟩ := and_mod at' (i + 1) (by omega)
            have hq' : (bits .and .i64 at' 65535).tmod ((i : Int) + 1) = (q : Int) := hq
            have hqi' : q ≤ i := by omega
            obtain ⟨S8, ho8, hr8, hS8⟩ := H8.out.rd 1 rfl
            have hcap := ho8.cap.1
            have hxl := ho8.len
            have hrunh := slice_h_any slEv a i c q .i64 (by omega)
            obtain ⟨al, nq, cl, hcut, hrunl⟩ := slice_l_any slEv a i c q .i64 hqi' hcap
            have hnq : nq + q = i := hcut.num
            have HRQ := Lib.hid (hr8.take 2 q hqi')
            rw [flatEv_take] at HRQ
            have HRL := Lib.hid (hcut.rd S8 w6 (flatEv G) hxl hr8)
            rw [flatEv_drop] at HRL
            have HTL := Lib.hid (show (G.take q).length * 2 = q * 2 by rw [List.length_take, ← HNG.out, Nat.min_eq_left hqi'])
            have HDL := Lib.hid (show (G.drop q).length * 2 = nq * 2 by rw [List.length_drop, ← HNG.out]; omega)
            have HLN := Lib.hid (show q + 1 + nq = (G.take q ++ [(⟨bk, bi⟩ : EvV)] ++ G.drop q).length by have := HNG.out; simp; omega)
            have hnqi : nq ≤ 30 := by omega
            clear hq hqi ho8 hr8 hS8 hcut hnq hxl hcap
            go_wp2_with fail
            refine wp_region_M (r := 7) (S := fun w' => w'.cell? ⟨b5, 0, none⟩ = some (.int .i64 bk) ∧ w'.cell? ⟨b5, 1, none⟩ = some (.int .i64 bi)) (by kernel_rfl) ?_ (fun hHeld => ?_)
            · (try dsimp only); go_keep
            (refine wpAnyM_takeP (i := 0) (oi := ?_) (v := ?_) ?_ ?_ ?_ ?_ ?_ ?_ ?_ ?_ ?_; rotate_left 2; (· simp only [List.getElem?_toArray, List.getElem?_cons_succ, List.getElem?_cons_zero]; exact rfl); (· kernel_rfl); (· kernel_rfl); (· kernel_rfl); (· kernel_rfl); (· exact fun _ _ _ h => h); (· (refine Or.inl ⟨by rfl, ?_⟩; (intro w hSw; (try dsimp only at hSw); go_simp) <;> with_reducible rfl)); (· exact fun _ => hHeld); simp only [Act.put, List.setIfInBounds_toArray, List.set_cons_zero, List.set_cons_succ])
            (refine wpAnyM_takeP (i := 2) (oi := ?_) (v := ?_) ?_ ?_ ?_ ?_ ?_ ?_ ?_ ?_ ?_; rotate_left 2; (· simp only [List.getElem?_toArray, List.getElem?_cons_succ, List.getElem?_cons_zero]; exact rfl); (· kernel_rfl); (· kernel_rfl); (· kernel_rfl); (· kernel_rfl); (· exact fun _ _ _ h => h); (· (refine Or.inl ⟨by rfl, ?_⟩; (intro w hSw; (try dsimp only at hSw); go_simp) <;> with_reducible rfl)); (· exact fun _ => hHeld); simp only [Act.put, List.setIfInBounds_toArray, List.set_cons_zero, List.set_cons_succ])
            (refine wpAnyM_takeP (i := 3) (oi := ?_) (v := ?_) ?_ ?_ ?_ ?_ ?_ ?_ ?_ ?_ ?_; rotate_left 2; (· simp only [List.getElem?_toArray, List.getElem?_cons_succ, List.getElem?_cons_zero]; exact rfl); (· kernel_rfl); (· kernel_rfl); (· kernel_rfl); (· kernel_rfl); (· exact fun _ _ _ h => h); (· (refine Or.inl ⟨by rfl, ?_⟩; (intro w hSw; (try dsimp only at hSw); go_simp) <;> with_reducible rfl)); (· exact fun _ => hHeld); simp only [Act.put, List.setIfInBounds_toArray, List.set_cons_zero, List.set_cons_succ])
            (refine wpAnyM_takeP (i := 4) (oi := ?_) (v := ?_) ?_ ?_ ?_ ?_ ?_ ?_ ?_ ?_ ?_; rotate_left 2; (· simp only [List.getElem?_toArray, List.getElem?_cons_succ, List.getElem?_cons_zero]; exact rfl); (· kernel_rfl); (· kernel_rfl); (· kernel_rfl); (· kernel_rfl); (· exact fun _ _ _ h => h); (· (refine Or.inl ⟨by rfl, ?_⟩; (intro w hSw; (try dsimp only at hSw); go_simp) <;> with_reducible rfl)); (· exact fun _ => hHeld); simp only [Act.put, List.setIfInBounds_toArray, List.set_cons_zero, List.set_cons_succ])
            (refine wpAnyM_take (i := 6) (oi := ?_) (v := ?_) ?_ ?_ ?_ ?_ ?_ ?_ ?_ ?_ ?_ ?_; rotate_left 2; (· simp only [List.getElem?_toArray, List.getElem?_cons_succ, List.getElem?_cons_zero]; exact rfl); (· kernel_rfl); (· kernel_rfl); (· kernel_rfl); (· kernel_rfl); (· kernel_rfl); (· exact fun _ _ _ h => h); (· (refine Or.inl ⟨by rfl, ?_⟩; (intro w hSw; (try dsimp only at hSw); go_simp) <;> with_reducible rfl)); (· assumption); simp only [Act.put, List.setIfInBounds_toArray, List.set_cons_zero, List.set_cons_succ])
            (refine wpAnyM_takeP (i := 9) (oi := ?_) (v := ?_) ?_ ?_ ?_ ?_ ?_ ?_ ?_ ?_ ?_; rotate_left 2; (· simp only [List.getElem?_toArray, List.getElem?_cons_succ, List.getElem?_cons_zero]; exact rfl); (· kernel_rfl); (· kernel_rfl); (· kernel_rfl); (· kernel_rfl); (· exact fun _ _ _ h => h); (· (refine Or.inl ⟨by rfl, ?_⟩; (intro w hSw; (try dsimp only at hSw); go_simp) <;> with_reducible rfl)); (· exact fun _ => hHeld); simp only [Act.put, List.setIfInBounds_toArray, List.set_cons_zero, List.set_cons_succ])
            (refine wpAnyM_takeP (i := 10) (oi := ?_) (v := ?_) ?_ ?_ ?_ ?_ ?_ ?_ ?_ ?_ ?_; rotate_left 2; (· simp only [List.getElem?_toArray, List.getElem?_cons_succ, List.getElem?_cons_zero]; exact rfl); (· kernel_rfl); (· kernel_rfl); (· kernel_rfl); (· kernel_rfl); (· exact fun _ _ _ h => h); (· (refine Or.inl ⟨by rfl, ?_⟩; (intro w hSw; (try dsimp only at hSw); go_simp) <;> with_reducible rfl)); (· exact fun _ => hHeld); simp only [Act.put, List.setIfInBounds_toArray, List.set_cons_zero, List.set_cons_succ])
            (refine wpAnyM_takeP (i := 11) (oi := ?_) (v := ?_) ?_ ?_ ?_ ?_ ?_ ?_ ?_ ?_ ?_; rotate_left 2; (· simp only [List.getElem?_toArray, List.getElem?_cons_succ, List.getElem?_cons_zero]; exact rfl); (· kernel_rfl); (· kernel_rfl); (· kernel_rfl); (· kernel_rfl); (· exact fun _ _ _ h => h); (· (refine Or.inl ⟨by rfl, ?_⟩; (intro w hSw; (try dsimp only at hSw); go_simp) <;> with_reducible rfl)); (· exact fun _ => hHeld); simp only [Act.put, List.setIfInBounds_toArray, List.set_cons_zero, List.set_cons_succ])
            refine wpAnyM_ready (rs := [1, 7]) (by kernel_rfl) (by simp) ?_
            refine AllReadyM.cons (o := ?_) ?_ ?_ ?_
            rotate_left 1
            · simp only [List.getElem?_toArray, List.getElem?_cons_succ, List.getElem?_cons_zero]; exact rfl
            · intro K hK
              go_simp
              refine hK.out _ _ ?_ (fun hHeld => ?_)
              · (try dsimp only); go_keep
              clear hK K
              refine wpAnyM_ready (rs := [5, 7]) (by kernel_rfl) (by simp) ?_
              refine AllReadyM.cons (o := ?_) ?_ ?_ ?_
              rotate_left 1
              · simp only [List.getElem?_toArray, List.getElem?_cons_succ, List.getElem?_cons_zero]; exact rfl
              · intro K hK
                rw [if_pos (by rfl)]
                (first | (refine step_app (P := Try.prog) slEv _ _ rfl (S := fun z => z = w6.heap.size) (S2 := S8) (n := 0) (xs := []) (m := q) (news := flatEv (G.take q)) rfl rfl (Own.lit _ _ _ 0 #[] (Nat.zero_le _) rfl rfl) ((by (first | exact HRQ.out.keep (T := Nope) (by (repeat (first | exact Keep.refl _ _ | apply Keep.drew | apply Keep.drewN | apply Keep.alloc))) (fun _ _ f => f)))) (flatEv_len _ ▸ HTL.out) (flatEv_one _) (by omega) (by unfold maxLen; omega) ?_; rintro a5 n5 c5 w5 happ; have q12 := fp_app5 (w6 := w6) (by (repeat (first | exact Keep.refl _ _ | apply Keep.drew | apply Keep.drewN | apply Keep.alloc))) (by omega) happ; skip; have e5 : n5 = q := (by have := happ.num; omega); subst e5; have X1 := Lib.hid q12.1; have K1 := Lib.hid q12.2; clear happ q12) | (refine step_app (P := Try.prog) slEv _ _ rfl (S := fun z => z = w6.heap.size) (S2 := S8) (n := 0) (xs := []) (m := q) (news := flatEv (G.take q)) rfl rfl ((Own.lit (S := fun z => z = w6.heap.size) w6 34 2 0 #[] (Nat.zero_le _) rfl rfl).alloc (.cells #[.int .i64 bk, .int .i64 bi] 34)).drew ((by (first | exact HRQ.out.keep (T := Nope) (by (repeat (first | exact Keep.refl _ _ | apply Keep.drew | apply Keep.drewN | apply Keep.alloc))) (fun _ _ f => f)))) (flatEv_len _ ▸ HTL.out) (flatEv_one _) (by omega) (by unfold maxLen; omega) ?_; rintro a5 n5 c5 w5 happ; have q12 := fp_app5 (w6 := w6) (by (repeat (first | exact Keep.refl _ _ | apply Keep.drew | apply Keep.drewN | apply Keep.alloc))) (by omega) happ; have RB := Lib.hid ((Own.litAt (S := fun z => z = w6.heap.size + 1) (w6.alloc (.cells #[] 34)) 34 2 1 _ #[.int .i64 bk, .int .i64 bi] (by decide) rfl (World.size_alloc _ _) rfl).rd.drew.keep happ.keep (fun i h1 h2 => by omega)); have e5 : n5 = q := (by have := happ.num; omega); subst e5; have X1 := Lib.hid q12.1; have K1 := Lib.hid q12.2; clear happ q12) | (refine step_app (P := Try.prog) slEv _ _ rfl (S := fun z => z = w6.heap.size + 1) (S2 := S8) (n := 0) (xs := []) (m := q) (news := flatEv (G.take q)) rfl rfl (Own.litAt (S := fun z => z = w6.heap.size + 1) (w6.alloc (.cells #[.int .i64 bk, .int .i64 bi] 34)) 34 2 0 _ #[] (Nat.zero_le _) rfl (World.size_alloc _ _) rfl).drew ((by (first | exact HRQ.out.keep (T := Nope) (by (repeat (first | exact Keep.refl _ _ | apply Keep.drew | apply Keep.drewN | apply Keep.alloc))) (fun _ _ f => f)))) (flatEv_len _ ▸ HTL.out) (flatEv_one _) (by omega) (by unfold maxLen; omega) ?_; rintro a5 n5 c5 w5 happ; have q12 := fp_app5 (w6 := w6) (by (repeat (first | exact Keep.refl _ _ | apply Keep.drew | apply Keep.drewN | apply Keep.alloc))) (by omega) happ; have RB := Lib.hid (((Own.lit (S := fun z => z = w6.heap.size) w6 34 2 1 #[.int .i64 bk, .int .i64 bi] (by decide) rfl rfl).alloc (.cells #[] 34)).rd.drew.keep happ.keep (fun i h1 h2 => by omega)); have e5 : n5 = q := (by have := happ.num; omega); subst e5; have X1 := Lib.hid q12.1; have K1 := Lib.hid q12.2; clear happ q12))
                refine hK.out _ _ ?_ (fun hHeld => ?_)
                · (try dsimp only); exact ⟨K1.out.cell c50 (fun f => f), K1.out.cell c51 (fun f => f)⟩
                clear hK K
                (try simp only [List.getElem_toArray, List.getElem_cons_succ, List.getElem_cons_zero, Act.put, List.setIfInBounds_toArray, List.set_cons_zero, List.set_cons_succ])
                refine wpAnyM_ready (rs := [7]) (by kernel_rfl) (by simp) ?_
                refine AllReadyM.free (o := ?_) ?_ (by kernel_rfl) ?_ ?_
                rotate_left 1
                · simp only [List.getElem?_toArray, List.getElem?_cons_succ, List.getElem?_cons_zero]; exact rfl
                rotate_left 1
                · exact AllReadyM.nil
                intro K hK
                go_simp
                refine hK.out _ _ ?_
                clear hK K
                refine wpAnyM_ready (rs := [8]) (by kernel_rfl) (by simp) ?_
                refine AllReadyM.free (o := ?_) ?_ (by kernel_rfl) ?_ ?_
                rotate_left 1
                · simp only [List.getElem?_toArray, List.getElem?_cons_succ, List.getElem?_cons_zero]; exact rfl
                rotate_left 1
                · exact AllReadyM.nil
                intro K hK
                rw [if_pos (by rfl)]
                (first | (refine step_app (P := Try.prog) slEv _ _ rfl (S := fun z => w6.heap.size ≤ z) (S2 := fun z => z = w5.heap.size) (n := n5) (xs := flatEv (G.take n5)) (m := 1) (news := flatEv [(⟨bk, bi⟩ : EvV)]) rfl rfl (X1.out.alloc _) ((Own.lit (S := fun z => z = w5.heap.size) w5 _ 2 1 #[.int .i64 bk, .int .i64 bi] (by decide) rfl rfl).rd) rfl (flatEv_one _) (by omega) (by unfold maxLen; omega) ?_; rintro a7 n7 c7 w7 happ; have q12 := fp_app (w6 := w6) (by (repeat (first | exact K1.out | exact Keep.refl _ _ | apply Keep.drew | apply Keep.drewN | apply Keep.alloc))) happ; obtain rfl := happ.num; have X2 := Lib.hid q12.1; have K2 := Lib.hid q12.2; clear happ q12) | (refine step_app (P := Try.prog) slEv _ _ rfl (S := fun z => w6.heap.size ≤ z) (S2 := _) (n := n5) (xs := flatEv (G.take n5)) (m := 1) (news := flatEv [(⟨bk, bi⟩ : EvV)]) rfl rfl (X1.out) (RB.out) rfl (flatEv_one _) (by omega) (by unfold maxLen; omega) ?_; rintro a7 n7 c7 w7 happ; have q12 := fp_app (w6 := w6) (by (repeat (first | exact K1.out | exact Keep.refl _ _ | apply Keep.drew | apply Keep.drewN | apply Keep.alloc))) happ; obtain rfl := happ.num; have X2 := Lib.hid q12.1; have K2 := Lib.hid q12.2; clear happ q12))
                refine hK.out _ _ ?_
                clear hK K
                (try simp only [List.getElem_toArray, List.getElem_cons_succ, List.getElem_cons_zero, Act.put, List.setIfInBounds_toArray, List.set_cons_zero, List.set_cons_succ])
                refine wpAnyM_ready (rs := [12]) (by kernel_rfl) (by simp) ?_
                refine AllReadyM.free (o := ?_) ?_ (by kernel_rfl) ?_ ?_
                rotate_left 1
                · simp only [List.getElem?_toArray, List.getElem?_cons_succ, List.getElem?_cons_zero]; exact rfl
                rotate_left 1
                · exact AllReadyM.nil
                intro K hK
                rw [if_pos (by rfl)]
                (refine step_app (P := Try.prog) slEv _ _ rfl (S := fun z => w6.heap.size ≤ z) (S2 := S8) (n := n5 + 1) (xs := flatEv (G.take n5) ++ flatEv [(⟨bk, bi⟩ : EvV)]) (m := nq) (news := flatEv (G.drop n5)) rfl rfl X2.out (HRL.out.keep K2.out (fun _ _ f => f)) (flatEv_len _ ▸ HDL.out) (flatEv_one _) (by omega) (by unfold maxLen; omega) ?_; rintro a9 n9 c9 w9 happ; have q12 := fp_app (w6 := w6) K2.out happ; have HN9 := Lib.hid happ.num; have hn9 : n9 ≤ 100 := (by have := happ.num; omega); have X3 := Lib.hid q12.1; have K3 := Lib.hid q12.2; clear happ q12)
                refine hK.out _ _ ?_
                clear hK K
                (try simp only [List.getElem_toArray, List.getElem_cons_succ, List.getElem_cons_zero, Act.put, List.setIfInBounds_toArray, List.set_cons_zero, List.set_cons_succ])
                refine wpAnyM_ready (rs := [13]) (by kernel_rfl) (by simp) ?_
                refine AllReadyM.free (o := ?_) ?_ (by kernel_rfl) ?_ ?_
                rotate_left 1
                · simp only [List.getElem?_toArray, List.getElem?_cons_succ, List.getElem?_cons_zero]; exact rfl
                rotate_left 1
                · exact AllReadyM.nil
                intro K hK
                go_simp
                go_wp2_with ((go_at_call 17; refine (flag_note_bad (b := ba) (F := ⟨50, G, [0]⟩) (H8.out.keep K3.out) _ (G.take n5 ++ [(⟨bk, bi⟩ : EvV)] ++ G.drop n5) (S := fun z => w6.heap.size ≤ z) ?cr ?cb).mono ?_; (case cr => (have h := X3.out.rd; have e : n9 = (G.take n5 ++ [(⟨bk, bi⟩ : EvV)] ++ G.drop n5).length := (HN9.out.trans HLN.out); rw [e] at h ⊢; simp only [flatEv_app]; exact h)); (case cb => (rw [List.any_append, List.any_append]; simp [HOK.out])); rintro e w11 ⟨rfl, hk11⟩; have K11 := Lib.hid (K3.out.trans hk11 (fun _ f => f.elim)); clear hk11))
                refine hK.out _ _ ?_
                clear hK K
                (refine wpAnyM_takeP (i := 14) (oi := ?_) (v := ?_) ?_ ?_ ?_ ?_ ?_ ?_ ?_ ?_ ?_; rotate_left 2; (· simp only [List.getElem?_toArray, List.getElem?_cons_succ, List.getElem?_cons_zero]; exact rfl); (· kernel_rfl); (· kernel_rfl); (· kernel_rfl); (· kernel_rfl); (· exact fun _ _ _ h => h); (· (refine Or.inl ⟨by rfl, ?_⟩; (intro w hSw; (try dsimp only at hSw); go_simp) <;> with_reducible rfl)); (· exact fun h => Bool.noConfusion (show true = false from h)); simp only [Act.put, List.setIfInBounds_toArray, List.set_cons_zero, List.set_cons_succ])
                refine wpAnyM_done (by kernel_rfl) ?_ _
                go_wp2_with fail
                go_meet
                (case rel => exact H8.out.keep K11.out)
              refine AllReadyM.free (o := ?_) ?_ (by kernel_rfl) ?_ ?_
              rotate_left 1
              · simp only [List.getElem?_toArray, List.getElem?_cons_succ, List.getElem?_cons_zero]; exact rfl
              · intro K hK
                go_simp
                refine hK.out _ _ ?_
                clear hK K
                refine wpAnyM_ready (rs := [5]) (by kernel_rfl) (by simp) ?_
                refine AllReadyM.free (o := ?_) ?_ (by kernel_rfl) ?_ ?_
                rotate_left 1
                · simp only [List.getElem?_toArray, List.getElem?_cons_succ, List.getElem?_cons_zero]; exact rfl
                rotate_left 1
                · exact AllReadyM.nil
                intro K hK
                rw [if_pos (by rfl)]
                (first | (refine step_app (P := Try.prog) slEv _ _ rfl (S := fun z => z = w6.heap.size) (S2 := S8) (n := 0) (xs := []) (m := q) (news := flatEv (G.take q)) rfl rfl (Own.lit _ _ _ 0 #[] (Nat.zero_le _) rfl rfl) ((by (first | exact HRQ.out.keep (T := Nope) (by (repeat (first | exact Keep.refl _ _ | apply Keep.drew | apply Keep.drewN | apply Keep.alloc))) (fun _ _ f => f)))) (flatEv_len _ ▸ HTL.out) (flatEv_one _) (by omega) (by unfold maxLen; omega) ?_; rintro a5 n5 c5 w5 happ; have q12 := fp_app5 (w6 := w6) (by (repeat (first | exact Keep.refl _ _ | apply Keep.drew | apply Keep.drewN | apply Keep.alloc))) (by omega) happ; skip; have e5 : n5 = q := (by have := happ.num; omega); subst e5; have X1 := Lib.hid q12.1; have K1 := Lib.hid q12.2; clear happ q12) | (refine step_app (P := Try.prog) slEv _ _ rfl (S := fun z => z = w6.heap.size) (S2 := S8) (n := 0) (xs := []) (m := q) (news := flatEv (G.take q)) rfl rfl ((Own.lit (S := fun z => z = w6.heap.size) w6 34 2 0 #[] (Nat.zero_le _) rfl rfl).alloc (.cells #[.int .i64 bk, .int .i64 bi] 34)).drew ((by (first | exact HRQ.out.keep (T := Nope) (by (repeat (first | exact Keep.refl _ _ | apply Keep.drew | apply Keep.drewN | apply Keep.alloc))) (fun _ _ f => f)))) (flatEv_len _ ▸ HTL.out) (flatEv_one _) (by omega) (by unfold maxLen; omega) ?_; rintro a5 n5 c5 w5 happ; have q12 := fp_app5 (w6 := w6) (by (repeat (first | exact Keep.refl _ _ | apply Keep.drew | apply Keep.drewN | apply Keep.alloc))) (by omega) happ; have RB := Lib.hid ((Own.litAt (S := fun z => z = w6.heap.size + 1) (w6.alloc (.cells #[] 34)) 34 2 1 _ #[.int .i64 bk, .int .i64 bi] (by decide) rfl (World.size_alloc _ _) rfl).rd.drew.keep happ.keep (fun i h1 h2 => by omega)); have e5 : n5 = q := (by have := happ.num; omega); subst e5; have X1 := Lib.hid q12.1; have K1 := Lib.hid q12.2; clear happ q12) | (refine step_app (P := Try.prog) slEv _ _ rfl (S := fun z => z = w6.heap.size + 1) (S2 := S8) (n := 0) (xs := []) (m := q) (news := flatEv (G.take q)) rfl rfl (Own.litAt (S := fun z => z = w6.heap.size + 1) (w6.alloc (.cells #[.int .i64 bk, .int .i64 bi] 34)) 34 2 0 _ #[] (Nat.zero_le _) rfl (World.size_alloc _ _) rfl).drew ((by (first | exact HRQ.out.keep (T := Nope) (by (repeat (first | exact Keep.refl _ _ | apply Keep.drew | apply Keep.drewN | apply Keep.alloc))) (fun _ _ f => f)))) (flatEv_len _ ▸ HTL.out) (flatEv_one _) (by omega) (by unfold maxLen; omega) ?_; rintro a5 n5 c5 w5 happ; have q12 := fp_app5 (w6 := w6) (by (repeat (first | exact Keep.refl _ _ | apply Keep.drew | apply Keep.drewN | apply Keep.alloc))) (by omega) happ; have RB := Lib.hid (((Own.lit (S := fun z => z = w6.heap.size) w6 34 2 1 #[.int .i64 bk, .int .i64 bi] (by decide) rfl rfl).alloc (.cells #[] 34)).rd.drew.keep happ.keep (fun i h1 h2 => by omega)); have e5 : n5 = q := (by have := happ.num; omega); subst e5; have X1 := Lib.hid q12.1; have K1 := Lib.hid q12.2; clear happ q12))
                refine hK.out _ _ ?_
                clear hK K
                (try simp only [List.getElem_toArray, List.getElem_cons_succ, List.getElem_cons_zero, Act.put, List.setIfInBounds_toArray, List.set_cons_zero, List.set_cons_succ])
                refine wpAnyM_ready (rs := [8]) (by kernel_rfl) (by simp) ?_
                refine AllReadyM.free (o := ?_) ?_ (by kernel_rfl) ?_ ?_
                rotate_left 1
                · simp only [List.getElem?_toArray, List.getElem?_cons_succ, List.getElem?_cons_zero]; exact rfl
                rotate_left 1
                · exact AllReadyM.nil
                intro K hK
                rw [if_pos (by rfl)]
                (first | (refine step_app (P := Try.prog) slEv _ _ rfl (S := fun z => w6.heap.size ≤ z) (S2 := fun z => z = w5.heap.size) (n := n5) (xs := flatEv (G.take n5)) (m := 1) (news := flatEv [(⟨bk, bi⟩ : EvV)]) rfl rfl (X1.out.alloc _) ((Own.lit (S := fun z => z = w5.heap.size) w5 _ 2 1 #[.int .i64 bk, .int .i64 bi] (by decide) rfl rfl).rd) rfl (flatEv_one _) (by omega) (by unfold maxLen; omega) ?_; rintro a7 n7 c7 w7 happ; have q12 := fp_app (w6 := w6) (by (repeat (first | exact K1.out | exact Keep.refl _ _ | apply Keep.drew | apply Keep.drewN | apply Keep.alloc))) happ; obtain rfl := happ.num; have X2 := Lib.hid q12.1; have K2 := Lib.hid q12.2; clear happ q12) | (refine step_app (P := Try.prog) slEv _ _ rfl (S := fun z => w6.heap.size ≤ z) (S2 := _) (n := n5) (xs := flatEv (G.take n5)) (m := 1) (news := flatEv [(⟨bk, bi⟩ : EvV)]) rfl rfl (X1.out) (RB.out) rfl (flatEv_one _) (by omega) (by unfold maxLen; omega) ?_; rintro a7 n7 c7 w7 happ; have q12 := fp_app (w6 := w6) (by (repeat (first | exact K1.out | exact Keep.refl _ _ | apply Keep.drew | apply Keep.drewN | apply Keep.alloc))) happ; obtain rfl := happ.num; have X2 := Lib.hid q12.1; have K2 := Lib.hid q12.2; clear happ q12))
                refine hK.out _ _ ?_
                clear hK K
                (try simp only [List.getElem_toArray, List.getElem_cons_succ, List.getElem_cons_zero, Act.put, List.setIfInBounds_toArray, List.set_cons_zero, List.set_cons_succ])
                refine wpAnyM_ready (rs := [12]) (by kernel_rfl) (by simp) ?_
                refine AllReadyM.free (o := ?_) ?_ (by kernel_rfl) ?_ ?_
                rotate_left 1
                · simp only [List.getElem?_toArray, List.getElem?_cons_succ, List.getElem?_cons_zero]; exact rfl
                rotate_left 1
                · exact AllReadyM.nil
                intro K hK
                rw [if_pos (by rfl)]
                (refine step_app (P := Try.prog) slEv _ _ rfl (S := fun z => w6.heap.size ≤ z) (S2 := S8) (n := n5 + 1) (xs := flatEv (G.take n5) ++ flatEv [(⟨bk, bi⟩ : EvV)]) (m := nq) (news := flatEv (G.drop n5)) rfl rfl X2.out (HRL.out.keep K2.out (fun _ _ f => f)) (flatEv_len _ ▸ HDL.out) (flatEv_one _) (by omega) (by unfold maxLen; omega) ?_; rintro a9 n9 c9 w9 happ; have q12 := fp_app (w6 := w6) K2.out happ; have HN9 := Lib.hid happ.num; have hn9 : n9 ≤ 100 := (by have := happ.num; omega); have X3 := Lib.hid q12.1; have K3 := Lib.hid q12.2; clear happ q12)
                refine hK.out _ _ ?_
                clear hK K
                (try simp only [List.getElem_toArray, List.getElem_cons_succ, List.getElem_cons_zero, Act.put, List.setIfInBounds_toArray, List.set_cons_zero, List.set_cons_succ])
                refine wpAnyM_ready (rs := [13]) (by kernel_rfl) (by simp) ?_
                refine AllReadyM.free (o := ?_) ?_ (by kernel_rfl) ?_ ?_
                rotate_left 1
                · simp only [List.getElem?_toArray, List.getElem?_cons_succ, List.getElem?_cons_zero]; exact rfl
                rotate_left 1
                · exact AllReadyM.nil
                intro K hK
                go_simp
                go_wp2_with ((go_at_call 17; refine (flag_note_bad (b := ba) (F := ⟨50, G, [0]⟩) (H8.out.keep K3.out) _ (G.take n5 ++ [(⟨bk, bi⟩ : EvV)] ++ G.drop n5) (S := fun z => w6.heap.size ≤ z) ?cr ?cb).mono ?_; (case cr => (have h := X3.out.rd; have e : n9 = (G.take n5 ++ [(⟨bk, bi⟩ : EvV)] ++ G.drop n5).length := (HN9.out.trans HLN.out); rw [e] at h ⊢; simp only [flatEv_app]; exact h)); (case cb => (rw [List.any_append, List.any_append]; simp [HOK.out])); rintro e w11 ⟨rfl, hk11⟩; have K11 := Lib.hid (K3.out.trans hk11 (fun _ f => f.elim)); clear hk11))
                refine hK.out _ _ ?_
                clear hK K
                (refine wpAnyM_takeP (i := 14) (oi := ?_) (v := ?_) ?_ ?_ ?_ ?_ ?_ ?_ ?_ ?_ ?_; rotate_left 2; (· simp only [List.getElem?_toArray, List.getElem?_cons_succ, List.getElem?_cons_zero]; exact rfl); (· kernel_rfl); (· kernel_rfl); (· kernel_rfl); (· kernel_rfl); (· exact fun _ _ _ h => h); (· (refine Or.inl ⟨by rfl, ?_⟩; (intro w hSw; (try dsimp only at hSw); go_simp) <;> with_reducible rfl)); (· exact fun h => Bool.noConfusion (show true = false from h)); simp only [Act.put, List.setIfInBounds_toArray, List.set_cons_zero, List.set_cons_succ])
                refine wpAnyM_done (by kernel_rfl) ?_ _
                go_wp2_with fail
                go_meet
                (case rel => exact H8.out.keep K11.out)
              exact AllReadyM.nil
            refine AllReadyM.free (o := ?_) ?_ (by kernel_rfl) ?_ ?_
            rotate_left 1
            · simp only [List.getElem?_toArray, List.getElem?_cons_succ, List.getElem?_cons_zero]; exact rfl
            · intro K hK
              go_simp
              refine hK.out _ _ ?_
              clear hK K
              refine wpAnyM_ready (rs := [1]) (by kernel_rfl) (by simp) ?_
              refine AllReadyM.free (o := ?_) ?_ (by kernel_rfl) ?_ ?_
              rotate_left 1
              · simp only [List.getElem?_toArray, List.getElem?_cons_succ, List.getElem?_cons_zero]; exact rfl
              rotate_left 1
              · exact AllReadyM.nil
              intro K hK
              go_simp
              refine hK.out _ _ ?_
              clear hK K
              refine wpAnyM_ready (rs := [5]) (by kernel_rfl) (by simp) ?_
              refine AllReadyM.free (o := ?_) ?_ (by kernel_rfl) ?_ ?_
              rotate_left 1
              · simp only [List.getElem?_toArray, List.getElem?_cons_succ, List.getElem?_cons_zero]; exact rfl
              rotate_left 1
              · exact AllReadyM.nil
              intro K hK
              rw [if_pos (by rfl)]
              (first | (refine step_app (P := Try.prog) slEv _ _ rfl (S := fun z => z = w6.heap.size) (S2 := S8) (n := 0) (xs := []) (m := q) (news := flatEv (G.take q)) rfl rfl (Own.lit _ _ _ 0 #[] (Nat.zero_le _) rfl rfl) ((by (first | exact HRQ.out.keep (T := Nope) (by (repeat (first | exact Keep.refl _ _ | apply Keep.drew | apply Keep.drewN | apply Keep.alloc))) (fun _ _ f => f)))) (flatEv_len _ ▸ HTL.out) (flatEv_one _) (by omega) (by unfold maxLen; omega) ?_; rintro a5 n5 c5 w5 happ; have q12 := fp_app5 (w6 := w6) (by (repeat (first | exact Keep.refl _ _ | apply Keep.drew | apply Keep.drewN | apply Keep.alloc))) (by omega) happ; skip; have e5 : n5 = q := (by have := happ.num; omega); subst e5; have X1 := Lib.hid q12.1; have K1 := Lib.hid q12.2; clear happ q12) | (refine step_app (P := Try.prog) slEv _ _ rfl (S := fun z => z = w6.heap.size) (S2 := S8) (n := 0) (xs := []) (m := q) (news := flatEv (G.take q)) rfl rfl ((Own.lit (S := fun z => z = w6.heap.size) w6 34 2 0 #[] (Nat.zero_le _) rfl rfl).alloc (.cells #[.int .i64 bk, .int .i64 bi] 34)).drew ((by (first | exact HRQ.out.keep (T := Nope) (by (repeat (first | exact Keep.refl _ _ | apply Keep.drew | apply Keep.drewN | apply Keep.alloc))) (fun _ _ f => f)))) (flatEv_len _ ▸ HTL.out) (flatEv_one _) (by omega) (by unfold maxLen; omega) ?_; rintro a5 n5 c5 w5 happ; have q12 := fp_app5 (w6 := w6) (by (repeat (first | exact Keep.refl _ _ | apply Keep.drew | apply Keep.drewN | apply Keep.alloc))) (by omega) happ; have RB := Lib.hid ((Own.litAt (S := fun z => z = w6.heap.size + 1) (w6.alloc (.cells #[] 34)) 34 2 1 _ #[.int .i64 bk, .int .i64 bi] (by decide) rfl (World.size_alloc _ _) rfl).rd.drew.keep happ.keep (fun i h1 h2 => by omega)); have e5 : n5 = q := (by have := happ.num; omega); subst e5; have X1 := Lib.hid q12.1; have K1 := Lib.hid q12.2; clear happ q12) | (refine step_app (P := Try.prog) slEv _ _ rfl (S := fun z => z = w6.heap.size + 1) (S2 := S8) (n := 0) (xs := []) (m := q) (news := flatEv (G.take q)) rfl rfl (Own.litAt (S := fun z => z = w6.heap.size + 1) (w6.alloc (.cells #[.int .i64 bk, .int .i64 bi] 34)) 34 2 0 _ #[] (Nat.zero_le _) rfl (World.size_alloc _ _) rfl).drew ((by (first | exact HRQ.out.keep (T := Nope) (by (repeat (first | exact Keep.refl _ _ | apply Keep.drew | apply Keep.drewN | apply Keep.alloc))) (fun _ _ f => f)))) (flatEv_len _ ▸ HTL.out) (flatEv_one _) (by omega) (by unfold maxLen; omega) ?_; rintro a5 n5 c5 w5 happ; have q12 := fp_app5 (w6 := w6) (by (repeat (first | exact Keep.refl _ _ | apply Keep.drew | apply Keep.drewN | apply Keep.alloc))) (by omega) happ; have RB := Lib.hid (((Own.lit (S := fun z => z = w6.heap.size) w6 34 2 1 #[.int .i64 bk, .int .i64 bi] (by decide) rfl rfl).alloc (.cells #[] 34)).rd.drew.keep happ.keep (fun i h1 h2 => by omega)); have e5 : n5 = q := (by have := happ.num; omega); subst e5; have X1 := Lib.hid q12.1; have K1 := Lib.hid q12.2; clear happ q12))
              refine hK.out _ _ ?_
              clear hK K
              (try simp only [List.getElem_toArray, List.getElem_cons_succ, List.getElem_cons_zero, Act.put, List.setIfInBounds_toArray, List.set_cons_zero, List.set_cons_succ])
              refine wpAnyM_ready (rs := [8]) (by kernel_rfl) (by simp) ?_
              refine AllReadyM.free (o := ?_) ?_ (by kernel_rfl) ?_ ?_
              rotate_left 1
              · simp only [List.getElem?_toArray, List.getElem?_cons_succ, List.getElem?_cons_zero]; exact rfl
              rotate_left 1
              · exact AllReadyM.nil
              intro K hK
              rw [if_pos (by rfl)]
              (first | (refine step_app (P := Try.prog) slEv _ _ rfl (S := fun z => w6.heap.size ≤ z) (S2 := fun z => z = w5.heap.size) (n := n5) (xs := flatEv (G.take n5)) (m := 1) (news := flatEv [(⟨bk, bi⟩ : EvV)]) rfl rfl (X1.out.alloc _) ((Own.lit (S := fun z => z = w5.heap.size) w5 _ 2 1 #[.int .i64 bk, .int .i64 bi] (by decide) rfl rfl).rd) rfl (flatEv_one _) (by omega) (by unfold maxLen; omega) ?_; rintro a7 n7 c7 w7 happ; have q12 := fp_app (w6 := w6) (by (repeat (first | exact K1.out | exact Keep.refl _ _ | apply Keep.drew | apply Keep.drewN | apply Keep.alloc))) happ; obtain rfl := happ.num; have X2 := Lib.hid q12.1; have K2 := Lib.hid q12.2; clear happ q12) | (refine step_app (P := Try.prog) slEv _ _ rfl (S := fun z => w6.heap.size ≤ z) (S2 := _) (n := n5) (xs := flatEv (G.take n5)) (m := 1) (news := flatEv [(⟨bk, bi⟩ : EvV)]) rfl rfl (X1.out) (RB.out) rfl (flatEv_one _) (by omega) (by unfold maxLen; omega) ?_; rintro a7 n7 c7 w7 happ; have q12 := fp_app (w6 := w6) (by (repeat (first | exact K1.out | exact Keep.refl _ _ | apply Keep.drew | apply Keep.drewN | apply Keep.alloc))) happ; obtain rfl := happ.num; have X2 := Lib.hid q12.1; have K2 := Lib.hid q12.2; clear happ q12))
              refine hK.out _ _ ?_
              clear hK K
              (try simp only [List.getElem_toArray, List.getElem_cons_succ, List.getElem_cons_zero, Act.put, List.setIfInBounds_toArray, List.set_cons_zero, List.set_cons_succ])
              refine wpAnyM_ready (rs := [12]) (by kernel_rfl) (by simp) ?_
              refine AllReadyM.free (o := ?_) ?_ (by kernel_rfl) ?_ ?_
              rotate_left 1
              · simp only [List.getElem?_toArray, List.getElem?_cons_succ, List.getElem?_cons_zero]; exact rfl
              rotate_left 1
              · exact AllReadyM.nil
              intro K hK
              rw [if_pos (by rfl)]
              (refine step_app (P := Try.prog) slEv _ _ rfl (S := fun z => w6.heap.size ≤ z) (S2 := S8) (n := n5 + 1) (xs := flatEv (G.take n5) ++ flatEv [(⟨bk, bi⟩ : EvV)]) (m := nq) (news := flatEv (G.drop n5)) rfl rfl X2.out (HRL.out.keep K2.out (fun _ _ f => f)) (flatEv_len _ ▸ HDL.out) (flatEv_one _) (by omega) (by unfold maxLen; omega) ?_; rintro a9 n9 c9 w9 happ; have q12 := fp_app (w6 := w6) K2.out happ; have HN9 := Lib.hid happ.num; have hn9 : n9 ≤ 100 := (by have := happ.num; omega); have X3 := Lib.hid q12.1; have K3 := Lib.hid q12.2; clear happ q12)
              refine hK.out _ _ ?_
              clear hK K
              (try simp only [List.getElem_toArray, List.getElem_cons_succ, List.getElem_cons_zero, Act.put, List.setIfInBounds_toArray, List.set_cons_zero, List.set_cons_succ])
              refine wpAnyM_ready (rs := [13]) (by kernel_rfl) (by simp) ?_
              refine AllReadyM.free (o := ?_) ?_ (by kernel_rfl) ?_ ?_
              rotate_left 1
              · simp only [List.getElem?_toArray, List.getElem?_cons_succ, List.getElem?_cons_zero]; exact rfl
              rotate_left 1
              · exact AllReadyM.nil
              intro K hK
              go_simp
              go_wp2_with ((go_at_call 17; refine (flag_note_bad (b := ba) (F := ⟨50, G, [0]⟩) (H8.out.keep K3.out) _ (G.take n5 ++ [(⟨bk, bi⟩ : EvV)] ++ G.drop n5) (S := fun z => w6.heap.size ≤ z) ?cr ?cb).mono ?_; (case cr => (have h := X3.out.rd; have e : n9 = (G.take n5 ++ [(⟨bk, bi⟩ : EvV)] ++ G.drop n5).length := (HN9.out.trans HLN.out); rw [e] at h ⊢; simp only [flatEv_app]; exact h)); (case cb => (rw [List.any_append, List.any_append]; simp [HOK.out])); rintro e w11 ⟨rfl, hk11⟩; have K11 := Lib.hid (K3.out.trans hk11 (fun _ f => f.elim)); clear hk11))
              refine hK.out _ _ ?_
              clear hK K
              (refine wpAnyM_takeP (i := 14) (oi := ?_) (v := ?_) ?_ ?_ ?_ ?_ ?_ ?_ ?_ ?_ ?_; rotate_left 2; (· simp only [List.getElem?_toArray, List.getElem?_cons_succ, List.getElem?_cons_zero]; exact rfl); (· kernel_rfl); (· kernel_rfl); (· kernel_rfl); (· kernel_rfl); (· exact fun _ _ _ h => h); (· (refine Or.inl ⟨by rfl, ?_⟩; (intro w hSw; (try dsimp only at hSw); go_simp) <;> with_reducible rfl)); (· exact fun h => Bool.noConfusion (show true = false from h)); simp only [Act.put, List.setIfInBounds_toArray, List.set_cons_zero, List.set_cons_succ])
              refine wpAnyM_done (by kernel_rfl) ?_ _
              go_wp2_with fail
              go_meet
              (case rel => exact H8.out.keep K11.out)
            exact AllReadyM.nil
        case rest =>
          have H9 := Lib.hid hcut; clear hcut H8
          go_wp2_with fail
          refine (flag_read_yes H9.out 2 rfl (by simp) (by have := HNG.out; simp; omega) (by simp) 0 0 i rfl (by have := HNG.out; simp; omega) (by simp; omega)).mono ?_
          rintro e wa ⟨ax, nx, cx, rfl, ex, hst⟩
          subst ex
          have HA := Lib.hid (show St w wa [blkA b5 #[.int .i64 bk, .int .i64 bi] 34, slA 34 2 (.slice a nx c) nx (flatEv G), flagA ba (FlagV.seen ⟨50, G, [0]⟩ 0), flagA bb ⟨50, G, [0]⟩, slA 34 2 (.slice ax nx cx) nx (flatEv G)] from hst); clear hst H9
          go_wp2_with fail
          refine (flag_read_yes HA.out 3 rfl (by simp) (by have := HNG.out; simp; omega) (by simp) 0 0 nx rfl (by have := HNG.out; simp; omega) (by simp; omega)).mono ?_
          rintro e wb ⟨ay, ny, cy, rfl, ey, hst⟩
          subst ey
          have HB := Lib.hid (show St w wb [blkA b5 #[.int .i64 bk, .int .i64 bi] 34, slA 34 2 (.slice a ny c) ny (flatEv G), flagA ba (FlagV.seen ⟨50, G, [0]⟩ 0), flagA bb (FlagV.seen ⟨50, G, [0]⟩ 0), slA 34 2 (.slice ax ny cx) ny (flatEv G), slA 34 2 (.slice ay ny cy) ny (flatEv G)] from hst); clear hst HA
          go_wp2_with fail
          obtain ⟨S1, _, r1, _⟩ := HB.out.rd 1 rfl
          obtain ⟨S2, _, r2, _⟩ := HB.out.rd 4 rfl
          have R1 := Lib.hid r1
          have R2 := Lib.hid r2
          clear r1 r2
          refine (same_ev _ _ G _ S2 S1 (by rw [← HNG.out]; exact R2.out) (by rw [← HNG.out]; exact R1.out)).mono ?_
          rintro e wd ⟨rfl, hkd⟩
          have HD := Lib.hid (HB.out.keep hkd); clear hkd HB R1 R2
          go_wp2_with fail
          obtain ⟨S3, _, r1, _⟩ := HD.out.rd 1 rfl
          obtain ⟨S4, _, r2, _⟩ := HD.out.rd 5 rfl
          have R1 := Lib.hid r1
          have R2 := Lib.hid r2
          clear r1 r2
          refine (same_ev _ _ G _ S4 S3 (by rw [← HNG.out]; exact R2.out) (by rw [← HNG.out]; exact R1.out)).mono ?_
          rintro e we ⟨rfl, hke⟩
          have HE := Lib.hid (HD.out.keep hke); clear hke HD R1 R2
          go_wp2_with fail
          refine (st_awake10 HE.out).mono ?_
          rintro e wf hret
          have HR := Lib.hid hret; clear hret
          obtain ⟨rfl, hbel⟩ := HR.out
          have HBL := Lib.hid hbel; clear hbel HR
          go_wp2_with fail
          go_ret
          exact ⟨rfl, HBL.out⟩
end Go.Proofs.Ytcmbbkaioopkhaa
