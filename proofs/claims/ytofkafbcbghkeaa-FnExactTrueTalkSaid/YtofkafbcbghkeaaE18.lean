-- WRITTEN by xprint.py, a program of this session that drives the kit's printer: out of the translation. Lean checks it.
import Derived.Test.YtofkafbcbghkeaaE0
import Derived.Test.YtofkafbcbghkeaaE5
import Derived.Test.YtofkafbcbghkeaaE6
import Derived.Test.YtofkafbcbghkeaaE8
import Derived.Test.YtofkafbcbghkeaaE10
import Derived.Test.YtofkafbcbghkeaaE11
import Derived.Test.YtofkafbcbghkeaaE14
import Derived.Test.YtofkafbcbghkeaaE17
import Derived.Test.YtofkafbcbghkeaaWMore
namespace Go.Proofs.Ytofkafbcbghkeaa.E
open Go.RowKit Go.Proofs.YtofkafbcbghkeaaW.PrintWords Go.Proofs.YtofkafbcbghkeaaW.PrintLast Go.Proofs.YtofkafbcbghkeaaW.PrintMore
attribute [local go_sem] max2_int min2_int max_two min_two max_three min_three max_four min_four   -- for this text's walks alone
set_option linter.unusedVariables false
set_option linter.unusedSimpArgs false

-- OURS, BY HAND
/-! ### spec_taSay: function 69 -/
-- func spec.taSay
-- ext raw=1
-- needs impl.left
-- needs spec.taCounts
-- needs spec.taTold
theorem rd_lset (l : List Int) (i : Nat) (v : Int) (j : Nat) (hi : i < l.length) : rd (l.set i v) (j : Int) = if j = i then v else rd l (j : Int) := by
  simp only [rd, Int.toNat_natCast, List.getD_eq_getElem?_getD, List.getElem?_set]
  by_cases h : i = j
  · subst h; simp [hi]
  · rw [if_neg h, if_neg (fun e => h e.symm)]
theorem rd_L1_at (xs : List (List Int)) (i : Nat) (h : i < xs.length) : rd_L1 xs (i : Int) = xs[i] := by
  simp [rd_L1, List.getD, List.getElem?_eq_getElem h]
theorem counts_wrap {x : Int} (h0 : 0 ≤ x) (h1 : x ≤ ((4000 : Nat) : Int)) : wrap64 (x + 1) = x + 1 := by unfold wrap64; omega
theorem counts_loop (b : Bool) (xs : List (List Int)) (ha : ∀ x ∈ xs, Ages x) (hn : xs.length ≤ 4000) (d : Nat) : ∀ (i : Nat) (l : List Int), d = xs.length - i → i ≤ xs.length → l.length = 1601 → (∀ v : Nat, v ≤ 1600 → rd l (v : Int) = cnt b (xs.take i) (v : Int)) →
    ∃ (K : Nat) (r : List Int), spec_taCounts.l0 K (whoB b) l xs (xs.length : Int) (i : Int) = some r ∧ r.length = 1601 ∧ ∀ v : Nat, v ≤ 1600 → rd r (v : Int) = cnt b xs (v : Int) := by
  induction d with
  | zero =>
    intro i l hd hi hl hv
    obtain rfl : i = xs.length := by omega
    rw [List.take_length] at hv
    exact ⟨1, l, by rw [spec_taCounts.l0, if_neg (by omega)], hl, hv⟩
  | succ d ih =>
    intro i l hd hi hl hv
    have hlt : i < xs.length := by omega
    have k1 : d = xs.length - (i + 1) := by omega
    have k2 : i + 1 ≤ xs.length := hlt
    have c1 : (i : Int) < (xs.length : Int) := Int.ofNat_lt.2 hlt
    have hw2 : wrap64 ((i : Int) + 1) = ((i + 1 : Nat) : Int) := by unfold wrap64; omega
    have hA := ha xs[i] (List.getElem_mem hlt)
    obtain ⟨n, hnn, hn1⟩ : ∃ n : Nat, valW b xs[i] = (n : Int) ∧ n ≤ 1600 := by
      have hin := valW_in b hA
      exact ⟨(valW b xs[i]).toNat, (Int.toNat_of_nonneg (by omega)).symm, by omega⟩
    have c4 : n < l.length := Nat.lt_of_le_of_lt hn1 (by rw [hl]; decide)
    have hts : xs.take (i + 1) = xs.take i ++ [xs[i]] := List.take_succ_eq_append_getElem hlt
    have hw : wrap64 (rd l (n : Int) + 1) = rd l (n : Int) + 1 := by
      have hcl := cnt_le b (xs.take i) (n : Int)
      have htl : (xs.take i).length ≤ 4000 := by rw [List.length_take]; exact Nat.le_trans (Nat.min_le_right _ _) hn
      rw [hv n hn1]
      exact counts_wrap hcl.1 (Int.le_trans hcl.2 (Int.ofNat_le.2 htl))
    obtain ⟨K, r, h1, h2, h3⟩ := ih (i + 1) (l.set n (rd l (n : Int) + 1)) k1 k2 ((List.length_set ..).trans hl) (by
      intro v hvl
      rw [rd_lset l n _ v c4, hts, cnt_snoc, hnn]
      by_cases e : v = n
      · rw [if_pos e, if_pos (show (v : Int) = (n : Int) by rw [e]), e, hv n hn1]
      · rw [if_neg e, if_neg (show ¬ (v : Int) = (n : Int) from fun e' => e (Int.ofNat.inj e')), hv v hvl, Int.add_zero])
    refine ⟨K + 1, r, ?_, h2, h3⟩
    rw [spec_taCounts.l0, if_pos c1, if_pos (Int.natCast_nonneg i), if_pos c1, rd_L1_at xs i hlt, told_W b hA, Option.bind_some, hnn, if_pos (Int.natCast_nonneg n), if_pos (Int.ofNat_lt.2 c4), Int.toNat_natCast, hw, hw2]
    exact h1
theorem rd_replicate (n : Nat) (v : Nat) : rd (List.replicate n 0) (v : Int) = 0 := by
  simp only [rd, Int.toNat_natCast, List.getD_eq_getElem?_getD, List.getElem?_replicate]
  split <;> rfl
theorem counts_val (b : Bool) (xs : List (List Int)) (ha : ∀ x ∈ xs, Ages x) (hn : xs.length ≤ 4000) : ∃ (K : Nat) (l : List Int), spec_taCounts.f K xs (whoB b) = some l ∧ l.length = 1601 ∧ ∀ v : Nat, v ≤ 1600 → rd l (v : Int) = cnt b xs (v : Int) := by
  obtain ⟨K, r, h1, h2, h3⟩ := counts_loop b xs ha hn xs.length 0 (List.replicate 1601 0) (by omega) (by omega) List.length_replicate (fun v hv => by rw [rd_replicate]; rfl)
  exact ⟨K, r, (if_pos (show 1601 ≤ 35184372088832 by decide)).trans h1, h2, h3⟩
/-- A row of 1601 truths in block g. -/
def BoolRow (W : World) (g : Nat) (f : Nat → Bool) : Prop := ∃ cur : Array Value, W.heap[g]? = some (.cells cur 4 (0, 0)) ∧ ∀ v, v < 1601 → cur[v]? = some (.bool (f v))
theorem BoolRow.of_block {W W' : World} {g : Nat} {f : Nat → Bool} (h : BoolRow W g f) (e : W'.heap[g]? = W.heap[g]?) : BoolRow W' g f := by
  obtain ⟨cur, h1, h2⟩ := h
  exact ⟨cur, e.trans h1, h2⟩
theorem BoolRow.lt {W : World} {g : Nat} {f : Nat → Bool} (h : BoolRow W g f) : g < W.heap.size := by
  obtain ⟨cur, h1, h2⟩ := h
  exact blk_lt h1
theorem BoolRow.congr {W : World} {g : Nat} {f f' : Nat → Bool} (h : BoolRow W g f) (e : ∀ v, v < 1601 → f v = f' v) : BoolRow W g f' := by
  obtain ⟨cur, h1, h2⟩ := h
  exact ⟨cur, h1, fun v hv => by rw [← e v hv]; exact h2 v hv⟩
theorem BoolRow.set {W : World} {g : Nat} {f : Nat → Bool} (h : BoolRow W g f) (v : Nat) (hv : v < 1601) (x : Bool) : BoolRow (W.setCell ⟨g, v, none⟩ (.bool x)) g (fun u => if u = v then x else f u) := by
  obtain ⟨cur, h1, h2⟩ := h
  refine ⟨_, blk_set h1 v (.bool x), fun u hu => ?_⟩
  have hs : v < cur.size := (Array.getElem?_eq_some_iff.1 (h2 v hv)).1
  rw [Array.getElem?_setIfInBounds]
  by_cases e : v = u
  · subst e; rw [if_pos rfl, if_pos hs]; simp
  · rw [if_neg e]
    show _ = some (Value.bool (if u = v then x else f u))
    rw [if_neg (fun e' : u = v => e e'.symm)]
    exact h2 u hu
theorem BoolRow.cell {W : World} {g : Nat} {f : Nat → Bool} (h : BoolRow W g f) (v : Nat) (hv : v < 1601) : W.cell? ((⟨g, 0, none⟩ : Addr).add v) = some (.bool (f v)) ∧ W.frozen? ((⟨g, 0, none⟩ : Addr).add v) = false := by
  obtain ⟨cur, h1, h2⟩ := h
  rw [add_at]
  exact ⟨(blk_cell h1 v).trans (h2 v hv), blk_frozen h1 v⟩
theorem BoolRow.drewN {W : World} {g : Nat} {f : Nat → Bool} (h : BoolRow W g f) (m : Nat) : BoolRow (W.drewN m) g f := by
  obtain ⟨cur, h1, h2⟩ := h
  exact ⟨cur, blk_drewN h1 m, h2⟩
theorem made_row {w : World} {base : Nat} {ok : Nat → Prop} {v : Value} (h : Kd.bool.R 4 w base ok v (List.replicate 1601 false)) : ∃ g cap, v = .slice (some ⟨g, 0, none⟩) 1601 cap ∧ base ≤ g ∧ 1601 ≤ cap ∧ BoolRow w g (fun _ => false) := by
  obtain ⟨h0, inner, ho, hr⟩ := h
  rcases ho.2 with ⟨rfl, e⟩ | ⟨g, cap, cur, e, hb, hg, hnc, hcm, hsz, htk⟩
  · rw [List.length_replicate] at e
    exact absurd e (by decide)
  · rw [List.length_replicate] at e hnc htk
    refine ⟨g, cap, e, hb, hnc, cur, hg, fun v hv => ?_⟩
    have hv2 : (List.replicate 1601 false)[v]? = some false := by rw [List.getElem?_replicate, if_pos hv]
    have h1 : ((inner.drop (v * 1)).take 1) = [.bool false] := hr.2 v false hv2
    have h2 := drop_take_one inner v h1
    have h3 : cur.toList.take 1601 = inner := htk
    rw [← h3, List.getElem?_take, if_pos hv, Array.getElem?_toList] at h2
    exact h2
theorem bool4 : (Try.prog.info? 4).map (fun i => (i.zero, i.size, i.bytes)) = some (some (.bool false), 1, 1) := by kernel_rfl
/-- What the reference keeps. -/
def says (b : Bool) (w : Int) (xs : List (List Int)) (x : List Int) : Bool := if w = 45 then decide (1 < cnt b xs (valW b x)) else if w = 43 then (cnt b xs (valW b x) == 1) else !known b xs (valW b x)
theorem cnt_pos (b : Bool) (xs : List (List Int)) (x : List Int) (h : x ∈ xs) : 1 ≤ cnt b xs (valW b x) := by
  unfold cnt
  have : 0 < (xs.filter fun y => valW b y == valW b x).length := List.length_pos_of_mem (List.mem_filter.2 ⟨h, by simp⟩)
  omega
theorem says_stays (b : Bool) (w : Int) (hw : w = 45 ∨ w = 43 ∨ w = 33) (xs : List (List Int)) : xs.filter (says b w xs) = xs.filter (keepsW b w xs) := by
  apply List.filter_congr
  intro x hx
  have hp := cnt_pos b xs x hx
  unfold says keepsW
  rcases hw with rfl | rfl | rfl
  · rw [if_pos rfl, if_neg (by decide), show ((45 : Int) == 43) = false from rfl]
    by_cases h : cnt b xs (valW b x) = 1
    · rw [h]; rfl
    · rw [beq_eq_false_iff_ne.2 h, decide_eq_true (by omega)]; rfl
  · rw [if_neg (by decide), if_pos rfl, if_neg (by decide), show ((43 : Int) == 43) = true from rfl]
    cases cnt b xs (valW b x) == 1 <;> rfl
  · rw [if_neg (by decide), if_neg (by decide), if_pos rfl]
set_option maxHeartbeats 8000000 in
set_option maxRecDepth 100000 in
theorem taSaytrue45_calls (A : Option Addr) (c : Nat) (xs : List (List Int)) (W : World) (hC : Kd.C (Kd.slice 3 (Kd.int .i64)) W A xs.length xs) (hc : xs.length ≤ c) (ha : ∀ x ∈ xs, Ages x) (hn : xs.length ≤ 4000) :
    Calls Try.prog 69 #[.slice A xs.length c, .string (whoB true), .int .u8 45] W fun e w' => ∃ A' c', e = .returned (.slice A' (xs.filter (says true 45 xs)).length c') ∧ (xs.filter (says true 45 xs)).length ≤ c' ∧ Kd.C (Kd.slice 3 (Kd.int .i64)) w' A' (xs.filter (says true 45 xs)).length (xs.filter (says true 45 xs)) ∧ Below W.heap.size W w' := by
  obtain ⟨K1, l1, ht1, hl1, hv1⟩ := counts_val true xs ha hn
  obtain ⟨K2, l2, ht2, hl2, hv2⟩ := counts_val (!true) xs ha hn
  have HC := Aside0.mk hC
  have HA := Aside0.mk ha
  have HT1 := Aside0.mk (fun W1 h => spec_taCounts.calls K1 A c xs (whoB true) l1 W1 h hc ht1)
  have HT2 := Aside0.mk (fun W1 h => show Calls Try.prog 76 #[.slice A xs.length c, .string ⟨#[112]⟩] W1 _ from spec_taCounts.calls K2 A c xs (whoB (!true)) l2 W1 h hc ht2)
  have HV1 := Aside0.mk hv1
  have HV2 := Aside0.mk hv2
  have HL1 := Aside0.mk hl1
  have HL2 := Aside0.mk hl2
  have HV := Aside0.mk (fun (x : List Int) (hx : x ∈ xs) (A1 : Option Addr) (c1 : Nat) (w : World) (h : (Kd.int .i64).C w A1 x.length x) (h1 : x.length ≤ c1) => spec_taTold.calls (whoB true) A1 c1 x (valW true x) w h h1 (told_W true (ha x hx)))
  have HVO := Aside0.mk (fun (x : List Int) (hx : x ∈ xs) (A1 : Option Addr) (c1 : Nat) (w : World) (h : (Kd.int .i64).C w A1 x.length x) (h1 : x.length ≤ c1) => show Calls Try.prog 43 #[.string ⟨#[112]⟩, .slice A1 x.length c1] w _ from spec_taTold.calls (whoB (!true)) A1 c1 x (valW (!true) x) w h h1 (told_W (!true) (ha x hx)))
  obtain ⟨who, hwho⟩ : ∃ who, who = whoB true := ⟨_, rfl⟩
  have hwl : (who.toList == ([112] : List UInt8)) = false := by rw [hwho]; kernel_rfl
  rw [← hwho] at HT1 HV ⊢
  clear hC ha hwho ht1 ht2 hv1 hv2 hl1 hl2
  go_enter Try.func69, Try.ntmps69
  go_wp2_with (first | (go_at_call 76; (with_reducible refine (HT1.out _ ?hC).mono ?_); (case hC => exact HC.out); rintro e w1 ⟨v1, rfl, hR, hb⟩; obtain ⟨A1, c1, rfl, hc1, hC1⟩ := Kd.R_reads hR; rw [HL1.out] at hC1 hc1 ⊢; have HC1 := Aside0.mk hC1; have HB1 := Aside0.mk hb; clear hR hb hC1) | (go_at_call 76; (with_reducible refine (HT2.out _ ?hC).mono ?_); (case hC => exact Kd.C_below HC.out HB1.out); rintro e w2 ⟨v2, rfl, hR, hb⟩; obtain ⟨A2, c2, rfl, hc2, hC2⟩ := Kd.R_reads hR; rw [HL2.out] at hC2 hc2 ⊢; have HC2 := Aside0.mk hC2; have HB2 := Aside0.mk hb; clear hR hb hC2) | ((with_reducible refine gate_dst (N := 27) rfl ?_); refine Kd.R_make Kd.bool (w0 := w2) w2.heap.size 4 rfl (N := 27) rfl 66 _ _ rfl 1601 rfl rfl Try.underlying66 (.bool false) 1 bool4 rfl (by decide) (by omega) false (ok := fun _ => True) (okp := fun _ => True) rfl (fun _ hk => hk) trivial (by omega) (by omega) (Below.refl _ _) (Nat.le_refl _) ?_; intro v3 w3 ho3 hb hg_ hnew_; obtain ⟨g, cap, rfl, hgb, hcap, hrow⟩ := made_row ho3; have HROW := Aside0.mk hrow; have HGB := Aside0.mk hgb; have HB3 := Aside0.mk hb; clear ho3 hb hg_ hnew_ hrow hgb))
  have BW2 := Aside0.mk (show Below W.heap.size W w2 from below_then HB1.out HB1.out.size HB2.out)
  have BW3 := Aside0.mk (show Below W.heap.size W w3 from below_then BW2.out BW2.out.size HB3.out)
  have C13 := Aside0.mk (Kd.C_below (Kd.C_below HC1.out HB2.out) HB3.out)
  have C23 := Aside0.mk (Kd.C_below HC2.out HB3.out)
  obtain ⟨adg, hadg⟩ : ∃ ad : Addr, ad = ⟨g, 0, none⟩ := ⟨_, rfl⟩
  have HADG := Aside0.mk hadg
  rw [← hadg]
  clear hadg
  go_loopw [30] (fun v30 wr => ∃ k : Nat, k ≤ xs.length ∧ v30 = .int .i64 (k : Int) ∧ Aside0 (BoolRow wr g (fun v => knownP true xs (xs.take k) (v : Int))) ∧ Aside0 (w3.grownBy wr (some g))) (fun v30 _ => xs.length - (intOf v30).toNat)
  case atStart => exact ⟨0, Nat.zero_le _, rfl, HROW, ⟨⟨rfl, rfl, rfl, Nat.le_refl _, fun _ _ _ => rfl⟩⟩⟩
  case round =>
    obtain ⟨k, hk, rfl, HR, HG⟩ := hrel
    have HBW := Aside0.mk (show Below w2.heap.size w2 wr from HB3.out.grown HG.out HB3.out.size (fun j hj => by cases hj; exact HGB.out))
    have HBWW := Aside0.mk (show Below W.heap.size W wr from below_then BW2.out BW2.out.size HBW.out)
    have HC2r := Aside0.mk (Kd.C_below HC2.out HBW.out)
    by_cases hlt : k < xs.length
    · have hlt1 : decide ((k : Int) < (xs.length : Int)) = true := decide_eq_true (by omega)
      obtain ⟨ad, A3, c3, rfl, hx0, h1, hC3, _⟩ := row_at HC.out HBWW.out hlt
      have hag := HA.out xs[k] (List.getElem_mem hlt)
      have HCo := Aside0.mk (HVO.out xs[k] (List.getElem_mem hlt) A3 c3 wr hC3 h1)
      have HCw := Aside0.mk (fun m => HV.out xs[k] (List.getElem_mem hlt) A3 c3 (wr.drewN m) (Kd.C_drewN hC3 m) h1)
      have HTS := Aside0.mk (show xs.take (k + 1) = xs.take k ++ [xs[k]] from List.take_succ_eq_append_getElem hlt)
      have HKS := Aside0.mk (knownP_snoc true xs (xs.take k) xs[k])
      obtain ⟨vo, hvo, hvo1⟩ : ∃ n : Nat, valW (!true) xs[k] = (n : Int) ∧ n < 1601 := by
        have hin := valW_in (!true) hag
        exact ⟨(valW (!true) xs[k]).toNat, (Int.toNat_of_nonneg (by omega)).symm, by omega⟩
      obtain ⟨v0, hv0, hv01⟩ : ∃ n : Nat, valW true xs[k] = (n : Int) ∧ n < 1601 := by
        have hin := valW_in true hag
        exact ⟨(valW true xs[k]).toNat, (Int.toNat_of_nonneg (by omega)).symm, by omega⟩
      rw [hvo] at HCo HKS
      rw [hv0] at HCw HKS
      obtain ⟨ad2, rfl, ho2⟩ : ∃ ad2, A2 = some ad2 ∧ ∀ m, (wr.drewN m).cell? (ad2.add vo) = some (.int .i64 (rd l2 (vo : Int))) := by
        obtain ⟨ad2, e, _⟩ := Kd.at_int HC2r.out (vo : Int) (Int.natCast_nonneg _) (Int.ofNat_lt.2 hvo1)
        refine ⟨ad2, e, fun m => ?_⟩
        obtain ⟨ad2', e', h⟩ := Kd.at_int (Kd.C_drewN HC2r.out m) (vo : Int) (Int.natCast_nonneg _) (Int.ofNat_lt.2 hvo1)
        rw [e] at e'
        rw [Option.some.inj e']
        simpa using h
      rw [HV2.out vo (by omega)] at ho2
      obtain ⟨co, hco⟩ : ∃ co, co = cnt (!true) xs (vo : Int) := ⟨_, rfl⟩
      rw [← hco] at ho2 HKS
      have r1 := fun m => (((HR.out.drewN m).cell v0 hv01).1)
      have r2 := fun m => (((HR.out.drewN m).cell v0 hv01).2)
      rw [← HADG.out] at r1 r2
      have hvo2 : (vo : Int) < 1601 := by omega
      have hv02 : (v0 : Int) < 1601 := by omega
      clear hC3 hag hvo hv0 hco
      cases hq : (co == 1) with
      | false =>
        rw [hq] at HKS
        go_wp2_with (go_at_call 43; (with_reducible refine HCo.out.mono ?_); rintro e w' ⟨rfl, ⟨nd, rfl⟩⟩)
        go_roundw
        case rel =>
          refine ⟨k + 1, by omega, by go_num, ⟨?_⟩, ⟨?_⟩⟩
          · refine (HR.out.drewN nd).congr fun v hv => ?_
            rw [HTS.out, HKS.out, Bool.false_and, Bool.or_false]
          · exact grown_trans HG.out ⟨rfl, rfl, rfl, Nat.le_refl _, fun _ _ _ => rfl⟩
        case measure => simp [intOf]; omega
      | true =>
        rw [hq] at HKS
        go_wp2_with (first | (go_at_call 43; (with_reducible refine HCo.out.mono ?_); rintro e w' ⟨rfl, ⟨nd, rfl⟩⟩) | (go_at_call 43; (with_reducible refine (HCw.out _).mono ?_); rintro e w' ⟨rfl, ⟨nd2, rfl⟩⟩))
        go_roundw
        case rel =>
          refine ⟨k + 1, by omega, by go_num, ⟨?_⟩, ⟨?_⟩⟩
          · rw [HADG.out, add_at]
            refine ((HR.out.drewN _).set v0 hv01 true).congr fun v hv => ?_
            rw [HTS.out, HKS.out, Bool.true_and]
            by_cases e : v = v0
            · rw [if_pos e, e]; simp
            · rw [if_neg e, beq_eq_false_iff_ne.2 (show ¬ (v : Int) = (v0 : Int) from fun e' => e (Int.ofNat.inj e')), Bool.or_false]
          · rw [HADG.out, add_at]
            exact grown_set (grown_drewN HG.out _) _ _
        case measure => simp [intOf]; omega
    · obtain rfl : k = xs.length := by omega
      have hlt1 : decide ((xs.length : Int) < (xs.length : Int)) = false := decide_eq_false (by omega)
      rw [List.take_length] at HR
      go_wp2
      have HC1r := Aside0.mk (Kd.C_below (Kd.C_below HC1.out HB2.out) HBW.out)
      have HROW5 := Aside0.mk (show BoolRow wr g (fun v => known true xs (v : Int)) from HR.out)
      obtain ⟨w5, hw5⟩ : ∃ w5, w5 = wr := ⟨_, rfl⟩
      rw [← hw5] at HROW5 HC1r HBWW ⊢
      clear hw5 HR HG HBW HC2r hk hlt
      go_loopw [13, 49] (fun v13 v49 wr => ∃ k : Nat, k ≤ xs.length ∧ v49 = .int .i64 (k : Int) ∧ Aside0 ((Kd.fixed (Kd.slice 3 (Kd.int .i64)) W).R 45 wr w5.heap.size (fun _ => True) v13 ((xs.take k).filter (says true 45 xs))) ∧ Aside0 (Below w5.heap.size w5 wr)) (fun _ v49 _ => xs.length - (intOf v49).toNat)
      case atStart => exact ⟨0, Nat.zero_le _, rfl, ⟨Kd.R_nil _ _ _ _ _⟩, ⟨Below.refl _ _⟩⟩
      case round =>
        obtain ⟨k, hk, rfl, HR, HB⟩ := hrel
        have HBWr := Aside0.mk (below_then HBWW.out HBWW.out.size HB.out)
        by_cases hlt : k < xs.length
        · have hlt1 : decide ((k : Int) < (xs.length : Int)) = true := decide_eq_true (by omega)
          obtain ⟨ad, A3, c3, rfl, hx0, h1, hC3, hK3⟩ := row_at HC.out HBWr.out hlt
          have hag := HA.out xs[k] (List.getElem_mem hlt)
          have HCw := Aside0.mk (HV.out xs[k] (List.getElem_mem hlt) A3 c3 wr hC3 h1)
          have HK1 := Aside0.mk hK3
          have HTS := Aside0.mk (take_succ_filter (says true 45 xs) xs k hlt)
          have hfl := Nat.le_trans (List.length_filter_le (says true 45 xs) (xs.take k)) (by rw [List.length_take]; exact Nat.min_le_right _ _)
          have HFL := Aside0.mk hfl
          obtain ⟨v0, hv0, hv01⟩ : ∃ n : Nat, valW true xs[k] = (n : Int) ∧ n < 1601 := by
            have hin := valW_in true hag
            exact ⟨(valW true xs[k]).toNat, (Int.toNat_of_nonneg (by omega)).symm, by omega⟩
          have hsay : says true 45 xs xs[k] = decide (1 < cnt true xs (v0 : Int)) := by unfold says; rw [hv0]; rfl
          rw [hv0] at HCw
          obtain ⟨ad1, rfl, ho1⟩ : ∃ ad1, A1 = some ad1 ∧ ∀ m, (wr.drewN m).cell? (ad1.add v0) = some (.int .i64 (rd l1 (v0 : Int))) := by
            have hCr := Kd.C_below HC1r.out HB.out
            obtain ⟨ad1, e, _⟩ := Kd.at_int hCr (v0 : Int) (Int.natCast_nonneg _) (Int.ofNat_lt.2 hv01)
            refine ⟨ad1, e, fun m => ?_⟩
            obtain ⟨ad1', e', h⟩ := Kd.at_int (Kd.C_drewN hCr m) (v0 : Int) (Int.natCast_nonneg _) (Int.ofNat_lt.2 hv01)
            rw [e] at e'
            rw [Option.some.inj e']
            simpa using h
          rw [HV1.out v0 (by omega)] at ho1
          have HRr := HROW5.out.of_block (HB.out.block g HROW5.out.lt)
          have r1 := fun m => (((HRr.drewN m).cell v0 hv01).1)
          rw [← HADG.out] at r1
          obtain ⟨cv, hcv⟩ : ∃ cv, cv = cnt true xs (v0 : Int) := ⟨_, rfl⟩
          obtain ⟨mk, hmk⟩ : ∃ mk, mk = known true xs (v0 : Int) := ⟨_, rfl⟩
          rw [← hmk] at r1
          rw [← hcv] at ho1
          rw [← hcv] at hsay
          have hv02 : (v0 : Int) < 1601 := by omega
          clear hC3 hK3 hag hv0 hcv hmk HRr
          cases hq : says true 45 xs xs[k] with
          | true =>
            rw [hq, if_pos rfl] at HTS
            rw [hq] at hsay
            have q1 : decide (1 < cv) = true := hsay.symm
            have q2 : decide (cv > 1) = true := hsay.symm
            obtain ⟨Ao, co, rfl⟩ := Kd.R_slice HR.out
            clear hq hfl hsay
            go_wp2_with (first | (go_at_call 43; (with_reducible refine HCw.out.mono ?_); rintro e w' ⟨rfl, ⟨nd, rfl⟩⟩) | ((with_reducible refine gate_builtin (b := .append) (xs := #[.tmp 87, .tmp 89]) rfl ?_); at_builtin; refine Kd.R_append (Kd.fixed (Kd.slice 3 (Kd.int .i64)) W) (w0 := w5) w5.heap.size rfl (.tmp 87) (.tmp 89) 23 45 (.slice none 0 0) 24 rfl Try.underlying23 (infoRowsF W) rfl Nat.zero_lt_one (by omega) (.slice Ao ((xs.take k).filter (says true 45 xs)).length co) ((xs.take k).filter (says true 45 xs)) xs[k] [.slice A3 xs[k].length c3] (fun _ => True) (fun _ => False) rfl rfl ?aP (fun _ h => h.elim) (fun _ _ => trivial) ?aO ?aB ?aS ?aL ?_; (case aP => exact HK1.out); (case aO => exact Kd.R_drewN HR.out nd); (case aB => exact pw_below_drewN HB.out nd); (case aS => exact (pw_below_drewN HB.out nd).size); (case aL => have := HFL.out; omega); intro v6 w6 ho hb hg hat; have HO := Aside0.mk ho; have HB6 := Aside0.mk hb; clear ho hb hg hat))
            go_roundw
            case rel => exact ⟨k + 1, by omega, by go_num, ⟨by rw [HTS.out]; exact HO.out⟩, HB6⟩
            case measure => simp [intOf]; omega
          | false =>
            rw [hq, if_neg (by simp), List.append_nil] at HTS
            rw [hq] at hsay
            have q1 : decide (1 < cv) = false := hsay.symm
            have q2 : decide (cv > 1) = false := hsay.symm
            clear hq hfl hsay
            go_wp2_with (go_at_call 43; (with_reducible refine HCw.out.mono ?_); rintro e w' ⟨rfl, ⟨nd, rfl⟩⟩)
            go_roundw
            case rel => exact ⟨k + 1, by omega, by go_num, ⟨by rw [HTS.out]; exact Kd.R_drewN HR.out nd⟩, ⟨pw_below_drewN HB.out nd⟩⟩
            case measure => simp [intOf]; omega
        · obtain rfl : k = xs.length := by omega
          have hlt1 : decide ((xs.length : Int) < (xs.length : Int)) = false := decide_eq_false (by omega)
          rw [List.take_length] at HR
          obtain ⟨A', c', rfl, h1, h2⟩ := Kd.R_reads HR.out
          have H2 := Aside0.mk h2
          clear h2
          go_wp2
          go_ret
          exact ⟨A', c', rfl, h1, ReadsRow.imp_ H2.out (Below.refl _ _) (fun _ _ hp => (Kd.slice 3 (Kd.int .i64)).K_below HBWr.out hp), HBWr.out⟩
set_option maxHeartbeats 8000000 in
set_option maxRecDepth 100000 in
theorem taSaytrue43_calls (A : Option Addr) (c : Nat) (xs : List (List Int)) (W : World) (hC : Kd.C (Kd.slice 3 (Kd.int .i64)) W A xs.length xs) (hc : xs.length ≤ c) (ha : ∀ x ∈ xs, Ages x) (hn : xs.length ≤ 4000) :
    Calls Try.prog 69 #[.slice A xs.length c, .string (whoB true), .int .u8 43] W fun e w' => ∃ A' c', e = .returned (.slice A' (xs.filter (says true 43 xs)).length c') ∧ (xs.filter (says true 43 xs)).length ≤ c' ∧ Kd.C (Kd.slice 3 (Kd.int .i64)) w' A' (xs.filter (says true 43 xs)).length (xs.filter (says true 43 xs)) ∧ Below W.heap.size W w' := by
  obtain ⟨K1, l1, ht1, hl1, hv1⟩ := counts_val true xs ha hn
  obtain ⟨K2, l2, ht2, hl2, hv2⟩ := counts_val (!true) xs ha hn
  have HC := Aside0.mk hC
  have HA := Aside0.mk ha
  have HT1 := Aside0.mk (fun W1 h => spec_taCounts.calls K1 A c xs (whoB true) l1 W1 h hc ht1)
  have HT2 := Aside0.mk (fun W1 h => show Calls Try.prog 76 #[.slice A xs.length c, .string ⟨#[112]⟩] W1 _ from spec_taCounts.calls K2 A c xs (whoB (!true)) l2 W1 h hc ht2)
  have HV1 := Aside0.mk hv1
  have HV2 := Aside0.mk hv2
  have HL1 := Aside0.mk hl1
  have HL2 := Aside0.mk hl2
  have HV := Aside0.mk (fun (x : List Int) (hx : x ∈ xs) (A1 : Option Addr) (c1 : Nat) (w : World) (h : (Kd.int .i64).C w A1 x.length x) (h1 : x.length ≤ c1) => spec_taTold.calls (whoB true) A1 c1 x (valW true x) w h h1 (told_W true (ha x hx)))
  have HVO := Aside0.mk (fun (x : List Int) (hx : x ∈ xs) (A1 : Option Addr) (c1 : Nat) (w : World) (h : (Kd.int .i64).C w A1 x.length x) (h1 : x.length ≤ c1) => show Calls Try.prog 43 #[.string ⟨#[112]⟩, .slice A1 x.length c1] w _ from spec_taTold.calls (whoB (!true)) A1 c1 x (valW (!true) x) w h h1 (told_W (!true) (ha x hx)))
  obtain ⟨who, hwho⟩ : ∃ who, who = whoB true := ⟨_, rfl⟩
  have hwl : (who.toList == ([112] : List UInt8)) = false := by rw [hwho]; kernel_rfl
  rw [← hwho] at HT1 HV ⊢
  clear hC ha hwho ht1 ht2 hv1 hv2 hl1 hl2
  go_enter Try.func69, Try.ntmps69
  go_wp2_with (first | (go_at_call 76; (with_reducible refine (HT1.out _ ?hC).mono ?_); (case hC => exact HC.out); rintro e w1 ⟨v1, rfl, hR, hb⟩; obtain ⟨A1, c1, rfl, hc1, hC1⟩ := Kd.R_reads hR; rw [HL1.out] at hC1 hc1 ⊢; have HC1 := Aside0.mk hC1; have HB1 := Aside0.mk hb; clear hR hb hC1) | (go_at_call 76; (with_reducible refine (HT2.out _ ?hC).mono ?_); (case hC => exact Kd.C_below HC.out HB1.out); rintro e w2 ⟨v2, rfl, hR, hb⟩; obtain ⟨A2, c2, rfl, hc2, hC2⟩ := Kd.R_reads hR; rw [HL2.out] at hC2 hc2 ⊢; have HC2 := Aside0.mk hC2; have HB2 := Aside0.mk hb; clear hR hb hC2) | ((with_reducible refine gate_dst (N := 27) rfl ?_); refine Kd.R_make Kd.bool (w0 := w2) w2.heap.size 4 rfl (N := 27) rfl 66 _ _ rfl 1601 rfl rfl Try.underlying66 (.bool false) 1 bool4 rfl (by decide) (by omega) false (ok := fun _ => True) (okp := fun _ => True) rfl (fun _ hk => hk) trivial (by omega) (by omega) (Below.refl _ _) (Nat.le_refl _) ?_; intro v3 w3 ho3 hb hg_ hnew_; obtain ⟨g, cap, rfl, hgb, hcap, hrow⟩ := made_row ho3; have HROW := Aside0.mk hrow; have HGB := Aside0.mk hgb; have HB3 := Aside0.mk hb; clear ho3 hb hg_ hnew_ hrow hgb))
  have BW2 := Aside0.mk (show Below W.heap.size W w2 from below_then HB1.out HB1.out.size HB2.out)
  have BW3 := Aside0.mk (show Below W.heap.size W w3 from below_then BW2.out BW2.out.size HB3.out)
  have C13 := Aside0.mk (Kd.C_below (Kd.C_below HC1.out HB2.out) HB3.out)
  have C23 := Aside0.mk (Kd.C_below HC2.out HB3.out)
  obtain ⟨adg, hadg⟩ : ∃ ad : Addr, ad = ⟨g, 0, none⟩ := ⟨_, rfl⟩
  have HADG := Aside0.mk hadg
  rw [← hadg]
  clear hadg
  go_loopw [30] (fun v30 wr => ∃ k : Nat, k ≤ xs.length ∧ v30 = .int .i64 (k : Int) ∧ Aside0 (BoolRow wr g (fun v => knownP true xs (xs.take k) (v : Int))) ∧ Aside0 (w3.grownBy wr (some g))) (fun v30 _ => xs.length - (intOf v30).toNat)
  case atStart => exact ⟨0, Nat.zero_le _, rfl, HROW, ⟨⟨rfl, rfl, rfl, Nat.le_refl _, fun _ _ _ => rfl⟩⟩⟩
  case round =>
    obtain ⟨k, hk, rfl, HR, HG⟩ := hrel
    have HBW := Aside0.mk (show Below w2.heap.size w2 wr from HB3.out.grown HG.out HB3.out.size (fun j hj => by cases hj; exact HGB.out))
    have HBWW := Aside0.mk (show Below W.heap.size W wr from below_then BW2.out BW2.out.size HBW.out)
    have HC2r := Aside0.mk (Kd.C_below HC2.out HBW.out)
    by_cases hlt : k < xs.length
    · have hlt1 : decide ((k : Int) < (xs.length : Int)) = true := decide_eq_true (by omega)
      obtain ⟨ad, A3, c3, rfl, hx0, h1, hC3, _⟩ := row_at HC.out HBWW.out hlt
      have hag := HA.out xs[k] (List.getElem_mem hlt)
      have HCo := Aside0.mk (HVO.out xs[k] (List.getElem_mem hlt) A3 c3 wr hC3 h1)
      have HCw := Aside0.mk (fun m => HV.out xs[k] (List.getElem_mem hlt) A3 c3 (wr.drewN m) (Kd.C_drewN hC3 m) h1)
      have HTS := Aside0.mk (show xs.take (k + 1) = xs.take k ++ [xs[k]] from List.take_succ_eq_append_getElem hlt)
      have HKS := Aside0.mk (knownP_snoc true xs (xs.take k) xs[k])
      obtain ⟨vo, hvo, hvo1⟩ : ∃ n : Nat, valW (!true) xs[k] = (n : Int) ∧ n < 1601 := by
        have hin := valW_in (!true) hag
        exact ⟨(valW (!true) xs[k]).toNat, (Int.toNat_of_nonneg (by omega)).symm, by omega⟩
      obtain ⟨v0, hv0, hv01⟩ : ∃ n : Nat, valW true xs[k] = (n : Int) ∧ n < 1601 := by
        have hin := valW_in true hag
        exact ⟨(valW true xs[k]).toNat, (Int.toNat_of_nonneg (by omega)).symm, by omega⟩
      rw [hvo] at HCo HKS
      rw [hv0] at HCw HKS
      obtain ⟨ad2, rfl, ho2⟩ : ∃ ad2, A2 = some ad2 ∧ ∀ m, (wr.drewN m).cell? (ad2.add vo) = some (.int .i64 (rd l2 (vo : Int))) := by
        obtain ⟨ad2, e, _⟩ := Kd.at_int HC2r.out (vo : Int) (Int.natCast_nonneg _) (Int.ofNat_lt.2 hvo1)
        refine ⟨ad2, e, fun m => ?_⟩
        obtain ⟨ad2', e', h⟩ := Kd.at_int (Kd.C_drewN HC2r.out m) (vo : Int) (Int.natCast_nonneg _) (Int.ofNat_lt.2 hvo1)
        rw [e] at e'
        rw [Option.some.inj e']
        simpa using h
      rw [HV2.out vo (by omega)] at ho2
      obtain ⟨co, hco⟩ : ∃ co, co = cnt (!true) xs (vo : Int) := ⟨_, rfl⟩
      rw [← hco] at ho2 HKS
      have r1 := fun m => (((HR.out.drewN m).cell v0 hv01).1)
      have r2 := fun m => (((HR.out.drewN m).cell v0 hv01).2)
      rw [← HADG.out] at r1 r2
      have hvo2 : (vo : Int) < 1601 := by omega
      have hv02 : (v0 : Int) < 1601 := by omega
      clear hC3 hag hvo hv0 hco
      cases hq : (co == 1) with
      | false =>
        rw [hq] at HKS
        go_wp2_with (go_at_call 43; (with_reducible refine HCo.out.mono ?_); rintro e w' ⟨rfl, ⟨nd, rfl⟩⟩)
        go_roundw
        case rel =>
          refine ⟨k + 1, by omega, by go_num, ⟨?_⟩, ⟨?_⟩⟩
          · refine (HR.out.drewN nd).congr fun v hv => ?_
            rw [HTS.out, HKS.out, Bool.false_and, Bool.or_false]
          · exact grown_trans HG.out ⟨rfl, rfl, rfl, Nat.le_refl _, fun _ _ _ => rfl⟩
        case measure => simp [intOf]; omega
      | true =>
        rw [hq] at HKS
        go_wp2_with (first | (go_at_call 43; (with_reducible refine HCo.out.mono ?_); rintro e w' ⟨rfl, ⟨nd, rfl⟩⟩) | (go_at_call 43; (with_reducible refine (HCw.out _).mono ?_); rintro e w' ⟨rfl, ⟨nd2, rfl⟩⟩))
        go_roundw
        case rel =>
          refine ⟨k + 1, by omega, by go_num, ⟨?_⟩, ⟨?_⟩⟩
          · rw [HADG.out, add_at]
            refine ((HR.out.drewN _).set v0 hv01 true).congr fun v hv => ?_
            rw [HTS.out, HKS.out, Bool.true_and]
            by_cases e : v = v0
            · rw [if_pos e, e]; simp
            · rw [if_neg e, beq_eq_false_iff_ne.2 (show ¬ (v : Int) = (v0 : Int) from fun e' => e (Int.ofNat.inj e')), Bool.or_false]
          · rw [HADG.out, add_at]
            exact grown_set (grown_drewN HG.out _) _ _
        case measure => simp [intOf]; omega
    · obtain rfl : k = xs.length := by omega
      have hlt1 : decide ((xs.length : Int) < (xs.length : Int)) = false := decide_eq_false (by omega)
      rw [List.take_length] at HR
      go_wp2
      have HC1r := Aside0.mk (Kd.C_below (Kd.C_below HC1.out HB2.out) HBW.out)
      have HROW5 := Aside0.mk (show BoolRow wr g (fun v => known true xs (v : Int)) from HR.out)
      obtain ⟨w5, hw5⟩ : ∃ w5, w5 = wr := ⟨_, rfl⟩
      rw [← hw5] at HROW5 HC1r HBWW ⊢
      clear hw5 HR HG HBW HC2r hk hlt
      go_loopw [13, 49] (fun v13 v49 wr => ∃ k : Nat, k ≤ xs.length ∧ v49 = .int .i64 (k : Int) ∧ Aside0 ((Kd.fixed (Kd.slice 3 (Kd.int .i64)) W).R 45 wr w5.heap.size (fun _ => True) v13 ((xs.take k).filter (says true 43 xs))) ∧ Aside0 (Below w5.heap.size w5 wr)) (fun _ v49 _ => xs.length - (intOf v49).toNat)
      case atStart => exact ⟨0, Nat.zero_le _, rfl, ⟨Kd.R_nil _ _ _ _ _⟩, ⟨Below.refl _ _⟩⟩
      case round =>
        obtain ⟨k, hk, rfl, HR, HB⟩ := hrel
        have HBWr := Aside0.mk (below_then HBWW.out HBWW.out.size HB.out)
        by_cases hlt : k < xs.length
        · have hlt1 : decide ((k : Int) < (xs.length : Int)) = true := decide_eq_true (by omega)
          obtain ⟨ad, A3, c3, rfl, hx0, h1, hC3, hK3⟩ := row_at HC.out HBWr.out hlt
          have hag := HA.out xs[k] (List.getElem_mem hlt)
          have HCw := Aside0.mk (HV.out xs[k] (List.getElem_mem hlt) A3 c3 wr hC3 h1)
          have HK1 := Aside0.mk hK3
          have HTS := Aside0.mk (take_succ_filter (says true 43 xs) xs k hlt)
          have hfl := Nat.le_trans (List.length_filter_le (says true 43 xs) (xs.take k)) (by rw [List.length_take]; exact Nat.min_le_right _ _)
          have HFL := Aside0.mk hfl
          obtain ⟨v0, hv0, hv01⟩ : ∃ n : Nat, valW true xs[k] = (n : Int) ∧ n < 1601 := by
            have hin := valW_in true hag
            exact ⟨(valW true xs[k]).toNat, (Int.toNat_of_nonneg (by omega)).symm, by omega⟩
          have hsay : says true 43 xs xs[k] = (cnt true xs (v0 : Int) == 1) := by unfold says; rw [hv0]; rfl
          rw [hv0] at HCw
          obtain ⟨ad1, rfl, ho1⟩ : ∃ ad1, A1 = some ad1 ∧ ∀ m, (wr.drewN m).cell? (ad1.add v0) = some (.int .i64 (rd l1 (v0 : Int))) := by
            have hCr := Kd.C_below HC1r.out HB.out
            obtain ⟨ad1, e, _⟩ := Kd.at_int hCr (v0 : Int) (Int.natCast_nonneg _) (Int.ofNat_lt.2 hv01)
            refine ⟨ad1, e, fun m => ?_⟩
            obtain ⟨ad1', e', h⟩ := Kd.at_int (Kd.C_drewN hCr m) (v0 : Int) (Int.natCast_nonneg _) (Int.ofNat_lt.2 hv01)
            rw [e] at e'
            rw [Option.some.inj e']
            simpa using h
          rw [HV1.out v0 (by omega)] at ho1
          have HRr := HROW5.out.of_block (HB.out.block g HROW5.out.lt)
          have r1 := fun m => (((HRr.drewN m).cell v0 hv01).1)
          rw [← HADG.out] at r1
          obtain ⟨cv, hcv⟩ : ∃ cv, cv = cnt true xs (v0 : Int) := ⟨_, rfl⟩
          obtain ⟨mk, hmk⟩ : ∃ mk, mk = known true xs (v0 : Int) := ⟨_, rfl⟩
          rw [← hmk] at r1
          rw [← hcv] at ho1
          rw [← hcv] at hsay
          have hv02 : (v0 : Int) < 1601 := by omega
          clear hC3 hK3 hag hv0 hcv hmk HRr
          cases hq : says true 43 xs xs[k] with
          | true =>
            rw [hq, if_pos rfl] at HTS
            rw [hq] at hsay
            have q1 : (cv == 1) = true := hsay.symm
            obtain ⟨Ao, co, rfl⟩ := Kd.R_slice HR.out
            clear hq hfl hsay
            go_wp2_with (first | (go_at_call 43; (with_reducible refine HCw.out.mono ?_); rintro e w' ⟨rfl, ⟨nd, rfl⟩⟩) | ((with_reducible refine gate_builtin (b := .append) (xs := #[.tmp 87, .tmp 89]) rfl ?_); at_builtin; refine Kd.R_append (Kd.fixed (Kd.slice 3 (Kd.int .i64)) W) (w0 := w5) w5.heap.size rfl (.tmp 87) (.tmp 89) 23 45 (.slice none 0 0) 24 rfl Try.underlying23 (infoRowsF W) rfl Nat.zero_lt_one (by omega) (.slice Ao ((xs.take k).filter (says true 43 xs)).length co) ((xs.take k).filter (says true 43 xs)) xs[k] [.slice A3 xs[k].length c3] (fun _ => True) (fun _ => False) rfl rfl ?aP (fun _ h => h.elim) (fun _ _ => trivial) ?aO ?aB ?aS ?aL ?_; (case aP => exact HK1.out); (case aO => exact Kd.R_drewN HR.out nd); (case aB => exact pw_below_drewN HB.out nd); (case aS => exact (pw_below_drewN HB.out nd).size); (case aL => have := HFL.out; omega); intro v6 w6 ho hb hg hat; have HO := Aside0.mk ho; have HB6 := Aside0.mk hb; clear ho hb hg hat))
            go_roundw
            case rel => exact ⟨k + 1, by omega, by go_num, ⟨by rw [HTS.out]; exact HO.out⟩, HB6⟩
            case measure => simp [intOf]; omega
          | false =>
            rw [hq, if_neg (by simp), List.append_nil] at HTS
            rw [hq] at hsay
            have q1 : (cv == 1) = false := hsay.symm
            clear hq hfl hsay
            go_wp2_with (go_at_call 43; (with_reducible refine HCw.out.mono ?_); rintro e w' ⟨rfl, ⟨nd, rfl⟩⟩)
            go_roundw
            case rel => exact ⟨k + 1, by omega, by go_num, ⟨by rw [HTS.out]; exact Kd.R_drewN HR.out nd⟩, ⟨pw_below_drewN HB.out nd⟩⟩
            case measure => simp [intOf]; omega
        · obtain rfl : k = xs.length := by omega
          have hlt1 : decide ((xs.length : Int) < (xs.length : Int)) = false := decide_eq_false (by omega)
          rw [List.take_length] at HR
          obtain ⟨A', c', rfl, h1, h2⟩ := Kd.R_reads HR.out
          have H2 := Aside0.mk h2
          clear h2
          go_wp2
          go_ret
          exact ⟨A', c', rfl, h1, ReadsRow.imp_ H2.out (Below.refl _ _) (fun _ _ hp => (Kd.slice 3 (Kd.int .i64)).K_below HBWr.out hp), HBWr.out⟩
set_option maxHeartbeats 8000000 in
set_option maxRecDepth 100000 in
theorem taSaytrue33_calls (A : Option Addr) (c : Nat) (xs : List (List Int)) (W : World) (hC : Kd.C (Kd.slice 3 (Kd.int .i64)) W A xs.length xs) (hc : xs.length ≤ c) (ha : ∀ x ∈ xs, Ages x) (hn : xs.length ≤ 4000) :
    Calls Try.prog 69 #[.slice A xs.length c, .string (whoB true), .int .u8 33] W fun e w' => ∃ A' c', e = .returned (.slice A' (xs.filter (says true 33 xs)).length c') ∧ (xs.filter (says true 33 xs)).length ≤ c' ∧ Kd.C (Kd.slice 3 (Kd.int .i64)) w' A' (xs.filter (says true 33 xs)).length (xs.filter (says true 33 xs)) ∧ Below W.heap.size W w' := by
  obtain ⟨K1, l1, ht1, hl1, hv1⟩ := counts_val true xs ha hn
  obtain ⟨K2, l2, ht2, hl2, hv2⟩ := counts_val (!true) xs ha hn
  have HC := Aside0.mk hC
  have HA := Aside0.mk ha
  have HT1 := Aside0.mk (fun W1 h => spec_taCounts.calls K1 A c xs (whoB true) l1 W1 h hc ht1)
  have HT2 := Aside0.mk (fun W1 h => show Calls Try.prog 76 #[.slice A xs.length c, .string ⟨#[112]⟩] W1 _ from spec_taCounts.calls K2 A c xs (whoB (!true)) l2 W1 h hc ht2)
  have HV1 := Aside0.mk hv1
  have HV2 := Aside0.mk hv2
  have HL1 := Aside0.mk hl1
  have HL2 := Aside0.mk hl2
  have HV := Aside0.mk (fun (x : List Int) (hx : x ∈ xs) (A1 : Option Addr) (c1 : Nat) (w : World) (h : (Kd.int .i64).C w A1 x.length x) (h1 : x.length ≤ c1) => spec_taTold.calls (whoB true) A1 c1 x (valW true x) w h h1 (told_W true (ha x hx)))
  have HVO := Aside0.mk (fun (x : List Int) (hx : x ∈ xs) (A1 : Option Addr) (c1 : Nat) (w : World) (h : (Kd.int .i64).C w A1 x.length x) (h1 : x.length ≤ c1) => show Calls Try.prog 43 #[.string ⟨#[112]⟩, .slice A1 x.length c1] w _ from spec_taTold.calls (whoB (!true)) A1 c1 x (valW (!true) x) w h h1 (told_W (!true) (ha x hx)))
  obtain ⟨who, hwho⟩ : ∃ who, who = whoB true := ⟨_, rfl⟩
  have hwl : (who.toList == ([112] : List UInt8)) = false := by rw [hwho]; kernel_rfl
  rw [← hwho] at HT1 HV ⊢
  clear hC ha hwho ht1 ht2 hv1 hv2 hl1 hl2
  go_enter Try.func69, Try.ntmps69
  go_wp2_with (first | (go_at_call 76; (with_reducible refine (HT1.out _ ?hC).mono ?_); (case hC => exact HC.out); rintro e w1 ⟨v1, rfl, hR, hb⟩; obtain ⟨A1, c1, rfl, hc1, hC1⟩ := Kd.R_reads hR; rw [HL1.out] at hC1 hc1 ⊢; have HC1 := Aside0.mk hC1; have HB1 := Aside0.mk hb; clear hR hb hC1) | (go_at_call 76; (with_reducible refine (HT2.out _ ?hC).mono ?_); (case hC => exact Kd.C_below HC.out HB1.out); rintro e w2 ⟨v2, rfl, hR, hb⟩; obtain ⟨A2, c2, rfl, hc2, hC2⟩ := Kd.R_reads hR; rw [HL2.out] at hC2 hc2 ⊢; have HC2 := Aside0.mk hC2; have HB2 := Aside0.mk hb; clear hR hb hC2) | ((with_reducible refine gate_dst (N := 27) rfl ?_); refine Kd.R_make Kd.bool (w0 := w2) w2.heap.size 4 rfl (N := 27) rfl 66 _ _ rfl 1601 rfl rfl Try.underlying66 (.bool false) 1 bool4 rfl (by decide) (by omega) false (ok := fun _ => True) (okp := fun _ => True) rfl (fun _ hk => hk) trivial (by omega) (by omega) (Below.refl _ _) (Nat.le_refl _) ?_; intro v3 w3 ho3 hb hg_ hnew_; obtain ⟨g, cap, rfl, hgb, hcap, hrow⟩ := made_row ho3; have HROW := Aside0.mk hrow; have HGB := Aside0.mk hgb; have HB3 := Aside0.mk hb; clear ho3 hb hg_ hnew_ hrow hgb))
  have BW2 := Aside0.mk (show Below W.heap.size W w2 from below_then HB1.out HB1.out.size HB2.out)
  have BW3 := Aside0.mk (show Below W.heap.size W w3 from below_then BW2.out BW2.out.size HB3.out)
  have C13 := Aside0.mk (Kd.C_below (Kd.C_below HC1.out HB2.out) HB3.out)
  have C23 := Aside0.mk (Kd.C_below HC2.out HB3.out)
  obtain ⟨adg, hadg⟩ : ∃ ad : Addr, ad = ⟨g, 0, none⟩ := ⟨_, rfl⟩
  have HADG := Aside0.mk hadg
  rw [← hadg]
  clear hadg
  go_loopw [30] (fun v30 wr => ∃ k : Nat, k ≤ xs.length ∧ v30 = .int .i64 (k : Int) ∧ Aside0 (BoolRow wr g (fun v => knownP true xs (xs.take k) (v : Int))) ∧ Aside0 (w3.grownBy wr (some g))) (fun v30 _ => xs.length - (intOf v30).toNat)
  case atStart => exact ⟨0, Nat.zero_le _, rfl, HROW, ⟨⟨rfl, rfl, rfl, Nat.le_refl _, fun _ _ _ => rfl⟩⟩⟩
  case round =>
    obtain ⟨k, hk, rfl, HR, HG⟩ := hrel
    have HBW := Aside0.mk (show Below w2.heap.size w2 wr from HB3.out.grown HG.out HB3.out.size (fun j hj => by cases hj; exact HGB.out))
    have HBWW := Aside0.mk (show Below W.heap.size W wr from below_then BW2.out BW2.out.size HBW.out)
    have HC2r := Aside0.mk (Kd.C_below HC2.out HBW.out)
    by_cases hlt : k < xs.length
    · have hlt1 : decide ((k : Int) < (xs.length : Int)) = true := decide_eq_true (by omega)
      obtain ⟨ad, A3, c3, rfl, hx0, h1, hC3, _⟩ := row_at HC.out HBWW.out hlt
      have hag := HA.out xs[k] (List.getElem_mem hlt)
      have HCo := Aside0.mk (HVO.out xs[k] (List.getElem_mem hlt) A3 c3 wr hC3 h1)
      have HCw := Aside0.mk (fun m => HV.out xs[k] (List.getElem_mem hlt) A3 c3 (wr.drewN m) (Kd.C_drewN hC3 m) h1)
      have HTS := Aside0.mk (show xs.take (k + 1) = xs.take k ++ [xs[k]] from List.take_succ_eq_append_getElem hlt)
      have HKS := Aside0.mk (knownP_snoc true xs (xs.take k) xs[k])
      obtain ⟨vo, hvo, hvo1⟩ : ∃ n : Nat, valW (!true) xs[k] = (n : Int) ∧ n < 1601 := by
        have hin := valW_in (!true) hag
        exact ⟨(valW (!true) xs[k]).toNat, (Int.toNat_of_nonneg (by omega)).symm, by omega⟩
      obtain ⟨v0, hv0, hv01⟩ : ∃ n : Nat, valW true xs[k] = (n : Int) ∧ n < 1601 := by
        have hin := valW_in true hag
        exact ⟨(valW true xs[k]).toNat, (Int.toNat_of_nonneg (by omega)).symm, by omega⟩
      rw [hvo] at HCo HKS
      rw [hv0] at HCw HKS
      obtain ⟨ad2, rfl, ho2⟩ : ∃ ad2, A2 = some ad2 ∧ ∀ m, (wr.drewN m).cell? (ad2.add vo) = some (.int .i64 (rd l2 (vo : Int))) := by
        obtain ⟨ad2, e, _⟩ := Kd.at_int HC2r.out (vo : Int) (Int.natCast_nonneg _) (Int.ofNat_lt.2 hvo1)
        refine ⟨ad2, e, fun m => ?_⟩
        obtain ⟨ad2', e', h⟩ := Kd.at_int (Kd.C_drewN HC2r.out m) (vo : Int) (Int.natCast_nonneg _) (Int.ofNat_lt.2 hvo1)
        rw [e] at e'
        rw [Option.some.inj e']
        simpa using h
      rw [HV2.out vo (by omega)] at ho2
      obtain ⟨co, hco⟩ : ∃ co, co = cnt (!true) xs (vo : Int) := ⟨_, rfl⟩
      rw [← hco] at ho2 HKS
      have r1 := fun m => (((HR.out.drewN m).cell v0 hv01).1)
      have r2 := fun m => (((HR.out.drewN m).cell v0 hv01).2)
      rw [← HADG.out] at r1 r2
      have hvo2 : (vo : Int) < 1601 := by omega
      have hv02 : (v0 : Int) < 1601 := by omega
      clear hC3 hag hvo hv0 hco
      cases hq : (co == 1) with
      | false =>
        rw [hq] at HKS
        go_wp2_with (go_at_call 43; (with_reducible refine HCo.out.mono ?_); rintro e w' ⟨rfl, ⟨nd, rfl⟩⟩)
        go_roundw
        case rel =>
          refine ⟨k + 1, by omega, by go_num, ⟨?_⟩, ⟨?_⟩⟩
          · refine (HR.out.drewN nd).congr fun v hv => ?_
            rw [HTS.out, HKS.out, Bool.false_and, Bool.or_false]
          · exact grown_trans HG.out ⟨rfl, rfl, rfl, Nat.le_refl _, fun _ _ _ => rfl⟩
        case measure => simp [intOf]; omega
      | true =>
        rw [hq] at HKS
        go_wp2_with (first | (go_at_call 43; (with_reducible refine HCo.out.mono ?_); rintro e w' ⟨rfl, ⟨nd, rfl⟩⟩) | (go_at_call 43; (with_reducible refine (HCw.out _).mono ?_); rintro e w' ⟨rfl, ⟨nd2, rfl⟩⟩))
        go_roundw
        case rel =>
          refine ⟨k + 1, by omega, by go_num, ⟨?_⟩, ⟨?_⟩⟩
          · rw [HADG.out, add_at]
            refine ((HR.out.drewN _).set v0 hv01 true).congr fun v hv => ?_
            rw [HTS.out, HKS.out, Bool.true_and]
            by_cases e : v = v0
            · rw [if_pos e, e]; simp
            · rw [if_neg e, beq_eq_false_iff_ne.2 (show ¬ (v : Int) = (v0 : Int) from fun e' => e (Int.ofNat.inj e')), Bool.or_false]
          · rw [HADG.out, add_at]
            exact grown_set (grown_drewN HG.out _) _ _
        case measure => simp [intOf]; omega
    · obtain rfl : k = xs.length := by omega
      have hlt1 : decide ((xs.length : Int) < (xs.length : Int)) = false := decide_eq_false (by omega)
      rw [List.take_length] at HR
      go_wp2
      have HC1r := Aside0.mk (Kd.C_below (Kd.C_below HC1.out HB2.out) HBW.out)
      have HROW5 := Aside0.mk (show BoolRow wr g (fun v => known true xs (v : Int)) from HR.out)
      obtain ⟨w5, hw5⟩ : ∃ w5, w5 = wr := ⟨_, rfl⟩
      rw [← hw5] at HROW5 HC1r HBWW ⊢
      clear hw5 HR HG HBW HC2r hk hlt
      go_loopw [13, 49] (fun v13 v49 wr => ∃ k : Nat, k ≤ xs.length ∧ v49 = .int .i64 (k : Int) ∧ Aside0 ((Kd.fixed (Kd.slice 3 (Kd.int .i64)) W).R 45 wr w5.heap.size (fun _ => True) v13 ((xs.take k).filter (says true 33 xs))) ∧ Aside0 (Below w5.heap.size w5 wr)) (fun _ v49 _ => xs.length - (intOf v49).toNat)
      case atStart => exact ⟨0, Nat.zero_le _, rfl, ⟨Kd.R_nil _ _ _ _ _⟩, ⟨Below.refl _ _⟩⟩
      case round =>
        obtain ⟨k, hk, rfl, HR, HB⟩ := hrel
        have HBWr := Aside0.mk (below_then HBWW.out HBWW.out.size HB.out)
        by_cases hlt : k < xs.length
        · have hlt1 : decide ((k : Int) < (xs.length : Int)) = true := decide_eq_true (by omega)
          obtain ⟨ad, A3, c3, rfl, hx0, h1, hC3, hK3⟩ := row_at HC.out HBWr.out hlt
          have hag := HA.out xs[k] (List.getElem_mem hlt)
          have HCw := Aside0.mk (HV.out xs[k] (List.getElem_mem hlt) A3 c3 wr hC3 h1)
          have HK1 := Aside0.mk hK3
          have HTS := Aside0.mk (take_succ_filter (says true 33 xs) xs k hlt)
          have hfl := Nat.le_trans (List.length_filter_le (says true 33 xs) (xs.take k)) (by rw [List.length_take]; exact Nat.min_le_right _ _)
          have HFL := Aside0.mk hfl
          obtain ⟨v0, hv0, hv01⟩ : ∃ n : Nat, valW true xs[k] = (n : Int) ∧ n < 1601 := by
            have hin := valW_in true hag
            exact ⟨(valW true xs[k]).toNat, (Int.toNat_of_nonneg (by omega)).symm, by omega⟩
          have hsay : says true 33 xs xs[k] = !known true xs (v0 : Int) := by unfold says; rw [hv0]; rfl
          rw [hv0] at HCw
          obtain ⟨ad1, rfl, ho1⟩ : ∃ ad1, A1 = some ad1 ∧ ∀ m, (wr.drewN m).cell? (ad1.add v0) = some (.int .i64 (rd l1 (v0 : Int))) := by
            have hCr := Kd.C_below HC1r.out HB.out
            obtain ⟨ad1, e, _⟩ := Kd.at_int hCr (v0 : Int) (Int.natCast_nonneg _) (Int.ofNat_lt.2 hv01)
            refine ⟨ad1, e, fun m => ?_⟩
            obtain ⟨ad1', e', h⟩ := Kd.at_int (Kd.C_drewN hCr m) (v0 : Int) (Int.natCast_nonneg _) (Int.ofNat_lt.2 hv01)
            rw [e] at e'
            rw [Option.some.inj e']
            simpa using h
          rw [HV1.out v0 (by omega)] at ho1
          have HRr := HROW5.out.of_block (HB.out.block g HROW5.out.lt)
          have r1 := fun m => (((HRr.drewN m).cell v0 hv01).1)
          rw [← HADG.out] at r1
          obtain ⟨cv, hcv⟩ : ∃ cv, cv = cnt true xs (v0 : Int) := ⟨_, rfl⟩
          obtain ⟨mk, hmk⟩ : ∃ mk, mk = known true xs (v0 : Int) := ⟨_, rfl⟩
          rw [← hmk] at r1
          rw [← hcv] at ho1
          rw [← hmk] at hsay
          have hv02 : (v0 : Int) < 1601 := by omega
          clear hC3 hK3 hag hv0 hcv hmk HRr
          cases hq : says true 33 xs xs[k] with
          | true =>
            rw [hq, if_pos rfl] at HTS
            rw [hq] at hsay
            obtain rfl : mk = false := by cases mk <;> simp at hsay ⊢
            obtain ⟨Ao, co, rfl⟩ := Kd.R_slice HR.out
            clear hq hfl hsay
            go_wp2_with (first | (go_at_call 43; (with_reducible refine HCw.out.mono ?_); rintro e w' ⟨rfl, ⟨nd, rfl⟩⟩) | ((with_reducible refine gate_builtin (b := .append) (xs := #[.tmp 87, .tmp 89]) rfl ?_); at_builtin; refine Kd.R_append (Kd.fixed (Kd.slice 3 (Kd.int .i64)) W) (w0 := w5) w5.heap.size rfl (.tmp 87) (.tmp 89) 23 45 (.slice none 0 0) 24 rfl Try.underlying23 (infoRowsF W) rfl Nat.zero_lt_one (by omega) (.slice Ao ((xs.take k).filter (says true 33 xs)).length co) ((xs.take k).filter (says true 33 xs)) xs[k] [.slice A3 xs[k].length c3] (fun _ => True) (fun _ => False) rfl rfl ?aP (fun _ h => h.elim) (fun _ _ => trivial) ?aO ?aB ?aS ?aL ?_; (case aP => exact HK1.out); (case aO => exact Kd.R_drewN HR.out nd); (case aB => exact pw_below_drewN HB.out nd); (case aS => exact (pw_below_drewN HB.out nd).size); (case aL => have := HFL.out; omega); intro v6 w6 ho hb hg hat; have HO := Aside0.mk ho; have HB6 := Aside0.mk hb; clear ho hb hg hat))
            go_roundw
            case rel => exact ⟨k + 1, by omega, by go_num, ⟨by rw [HTS.out]; exact HO.out⟩, HB6⟩
            case measure => simp [intOf]; omega
          | false =>
            rw [hq, if_neg (by simp), List.append_nil] at HTS
            rw [hq] at hsay
            obtain rfl : mk = true := by cases mk <;> simp at hsay ⊢
            clear hq hfl hsay
            go_wp2_with (go_at_call 43; (with_reducible refine HCw.out.mono ?_); rintro e w' ⟨rfl, ⟨nd, rfl⟩⟩)
            go_roundw
            case rel => exact ⟨k + 1, by omega, by go_num, ⟨by rw [HTS.out]; exact Kd.R_drewN HR.out nd⟩, ⟨pw_below_drewN HB.out nd⟩⟩
            case measure => simp [intOf]; omega
        · obtain rfl : k = xs.length := by omega
          have hlt1 : decide ((xs.length : Int) < (xs.length : Int)) = false := decide_eq_false (by omega)
          rw [List.take_length] at HR
          obtain ⟨A', c', rfl, h1, h2⟩ := Kd.R_reads HR.out
          have H2 := Aside0.mk h2
          clear h2
          go_wp2
          go_ret
          exact ⟨A', c', rfl, h1, ReadsRow.imp_ H2.out (Below.refl _ _) (fun _ _ hp => (Kd.slice 3 (Kd.int .i64)).K_below HBWr.out hp), HBWr.out⟩
set_option maxHeartbeats 8000000 in
set_option maxRecDepth 100000 in
theorem taSayfalse45_calls (A : Option Addr) (c : Nat) (xs : List (List Int)) (W : World) (hC : Kd.C (Kd.slice 3 (Kd.int .i64)) W A xs.length xs) (hc : xs.length ≤ c) (ha : ∀ x ∈ xs, Ages x) (hn : xs.length ≤ 4000) :
    Calls Try.prog 69 #[.slice A xs.length c, .string (whoB false), .int .u8 45] W fun e w' => ∃ A' c', e = .returned (.slice A' (xs.filter (says false 45 xs)).length c') ∧ (xs.filter (says false 45 xs)).length ≤ c' ∧ Kd.C (Kd.slice 3 (Kd.int .i64)) w' A' (xs.filter (says false 45 xs)).length (xs.filter (says false 45 xs)) ∧ Below W.heap.size W w' := by
  obtain ⟨K1, l1, ht1, hl1, hv1⟩ := counts_val false xs ha hn
  obtain ⟨K2, l2, ht2, hl2, hv2⟩ := counts_val (!false) xs ha hn
  have HC := Aside0.mk hC
  have HA := Aside0.mk ha
  have HT1 := Aside0.mk (fun W1 h => spec_taCounts.calls K1 A c xs (whoB false) l1 W1 h hc ht1)
  have HT2 := Aside0.mk (fun W1 h => show Calls Try.prog 76 #[.slice A xs.length c, .string ⟨#[115]⟩] W1 _ from spec_taCounts.calls K2 A c xs (whoB (!false)) l2 W1 h hc ht2)
  have HV1 := Aside0.mk hv1
  have HV2 := Aside0.mk hv2
  have HL1 := Aside0.mk hl1
  have HL2 := Aside0.mk hl2
  have HV := Aside0.mk (fun (x : List Int) (hx : x ∈ xs) (A1 : Option Addr) (c1 : Nat) (w : World) (h : (Kd.int .i64).C w A1 x.length x) (h1 : x.length ≤ c1) => spec_taTold.calls (whoB false) A1 c1 x (valW false x) w h h1 (told_W false (ha x hx)))
  have HVO := Aside0.mk (fun (x : List Int) (hx : x ∈ xs) (A1 : Option Addr) (c1 : Nat) (w : World) (h : (Kd.int .i64).C w A1 x.length x) (h1 : x.length ≤ c1) => show Calls Try.prog 43 #[.string ⟨#[115]⟩, .slice A1 x.length c1] w _ from spec_taTold.calls (whoB (!false)) A1 c1 x (valW (!false) x) w h h1 (told_W (!false) (ha x hx)))
  obtain ⟨who, hwho⟩ : ∃ who, who = whoB false := ⟨_, rfl⟩
  have hwl : (who.toList == ([112] : List UInt8)) = true := by rw [hwho]; kernel_rfl
  rw [← hwho] at HT1 HV ⊢
  clear hC ha hwho ht1 ht2 hv1 hv2 hl1 hl2
  go_enter Try.func69, Try.ntmps69
  go_wp2_with (first | (go_at_call 76; (with_reducible refine (HT1.out _ ?hC).mono ?_); (case hC => exact HC.out); rintro e w1 ⟨v1, rfl, hR, hb⟩; obtain ⟨A1, c1, rfl, hc1, hC1⟩ := Kd.R_reads hR; rw [HL1.out] at hC1 hc1 ⊢; have HC1 := Aside0.mk hC1; have HB1 := Aside0.mk hb; clear hR hb hC1) | (go_at_call 76; (with_reducible refine (HT2.out _ ?hC).mono ?_); (case hC => exact Kd.C_below HC.out HB1.out); rintro e w2 ⟨v2, rfl, hR, hb⟩; obtain ⟨A2, c2, rfl, hc2, hC2⟩ := Kd.R_reads hR; rw [HL2.out] at hC2 hc2 ⊢; have HC2 := Aside0.mk hC2; have HB2 := Aside0.mk hb; clear hR hb hC2) | ((with_reducible refine gate_dst (N := 27) rfl ?_); refine Kd.R_make Kd.bool (w0 := w2) w2.heap.size 4 rfl (N := 27) rfl 66 _ _ rfl 1601 rfl rfl Try.underlying66 (.bool false) 1 bool4 rfl (by decide) (by omega) false (ok := fun _ => True) (okp := fun _ => True) rfl (fun _ hk => hk) trivial (by omega) (by omega) (Below.refl _ _) (Nat.le_refl _) ?_; intro v3 w3 ho3 hb hg_ hnew_; obtain ⟨g, cap, rfl, hgb, hcap, hrow⟩ := made_row ho3; have HROW := Aside0.mk hrow; have HGB := Aside0.mk hgb; have HB3 := Aside0.mk hb; clear ho3 hb hg_ hnew_ hrow hgb))
  have BW2 := Aside0.mk (show Below W.heap.size W w2 from below_then HB1.out HB1.out.size HB2.out)
  have BW3 := Aside0.mk (show Below W.heap.size W w3 from below_then BW2.out BW2.out.size HB3.out)
  have C13 := Aside0.mk (Kd.C_below (Kd.C_below HC1.out HB2.out) HB3.out)
  have C23 := Aside0.mk (Kd.C_below HC2.out HB3.out)
  obtain ⟨adg, hadg⟩ : ∃ ad : Addr, ad = ⟨g, 0, none⟩ := ⟨_, rfl⟩
  have HADG := Aside0.mk hadg
  rw [← hadg]
  clear hadg
  go_loopw [30] (fun v30 wr => ∃ k : Nat, k ≤ xs.length ∧ v30 = .int .i64 (k : Int) ∧ Aside0 (BoolRow wr g (fun v => knownP false xs (xs.take k) (v : Int))) ∧ Aside0 (w3.grownBy wr (some g))) (fun v30 _ => xs.length - (intOf v30).toNat)
  case atStart => exact ⟨0, Nat.zero_le _, rfl, HROW, ⟨⟨rfl, rfl, rfl, Nat.le_refl _, fun _ _ _ => rfl⟩⟩⟩
  case round =>
    obtain ⟨k, hk, rfl, HR, HG⟩ := hrel
    have HBW := Aside0.mk (show Below w2.heap.size w2 wr from HB3.out.grown HG.out HB3.out.size (fun j hj => by cases hj; exact HGB.out))
    have HBWW := Aside0.mk (show Below W.heap.size W wr from below_then BW2.out BW2.out.size HBW.out)
    have HC2r := Aside0.mk (Kd.C_below HC2.out HBW.out)
    by_cases hlt : k < xs.length
    · have hlt1 : decide ((k : Int) < (xs.length : Int)) = true := decide_eq_true (by omega)
      obtain ⟨ad, A3, c3, rfl, hx0, h1, hC3, _⟩ := row_at HC.out HBWW.out hlt
      have hag := HA.out xs[k] (List.getElem_mem hlt)
      have HCo := Aside0.mk (HVO.out xs[k] (List.getElem_mem hlt) A3 c3 wr hC3 h1)
      have HCw := Aside0.mk (fun m => HV.out xs[k] (List.getElem_mem hlt) A3 c3 (wr.drewN m) (Kd.C_drewN hC3 m) h1)
      have HTS := Aside0.mk (show xs.take (k + 1) = xs.take k ++ [xs[k]] from List.take_succ_eq_append_getElem hlt)
      have HKS := Aside0.mk (knownP_snoc false xs (xs.take k) xs[k])
      obtain ⟨vo, hvo, hvo1⟩ : ∃ n : Nat, valW (!false) xs[k] = (n : Int) ∧ n < 1601 := by
        have hin := valW_in (!false) hag
        exact ⟨(valW (!false) xs[k]).toNat, (Int.toNat_of_nonneg (by omega)).symm, by omega⟩
      obtain ⟨v0, hv0, hv01⟩ : ∃ n : Nat, valW false xs[k] = (n : Int) ∧ n < 1601 := by
        have hin := valW_in false hag
        exact ⟨(valW false xs[k]).toNat, (Int.toNat_of_nonneg (by omega)).symm, by omega⟩
      rw [hvo] at HCo HKS
      rw [hv0] at HCw HKS
      obtain ⟨ad2, rfl, ho2⟩ : ∃ ad2, A2 = some ad2 ∧ ∀ m, (wr.drewN m).cell? (ad2.add vo) = some (.int .i64 (rd l2 (vo : Int))) := by
        obtain ⟨ad2, e, _⟩ := Kd.at_int HC2r.out (vo : Int) (Int.natCast_nonneg _) (Int.ofNat_lt.2 hvo1)
        refine ⟨ad2, e, fun m => ?_⟩
        obtain ⟨ad2', e', h⟩ := Kd.at_int (Kd.C_drewN HC2r.out m) (vo : Int) (Int.natCast_nonneg _) (Int.ofNat_lt.2 hvo1)
        rw [e] at e'
        rw [Option.some.inj e']
        simpa using h
      rw [HV2.out vo (by omega)] at ho2
      obtain ⟨co, hco⟩ : ∃ co, co = cnt (!false) xs (vo : Int) := ⟨_, rfl⟩
      rw [← hco] at ho2 HKS
      have r1 := fun m => (((HR.out.drewN m).cell v0 hv01).1)
      have r2 := fun m => (((HR.out.drewN m).cell v0 hv01).2)
      rw [← HADG.out] at r1 r2
      have hvo2 : (vo : Int) < 1601 := by omega
      have hv02 : (v0 : Int) < 1601 := by omega
      clear hC3 hag hvo hv0 hco
      cases hq : (co == 1) with
      | false =>
        rw [hq] at HKS
        go_wp2_with (go_at_call 43; (with_reducible refine HCo.out.mono ?_); rintro e w' ⟨rfl, ⟨nd, rfl⟩⟩)
        go_roundw
        case rel =>
          refine ⟨k + 1, by omega, by go_num, ⟨?_⟩, ⟨?_⟩⟩
          · refine (HR.out.drewN nd).congr fun v hv => ?_
            rw [HTS.out, HKS.out, Bool.false_and, Bool.or_false]
          · exact grown_trans HG.out ⟨rfl, rfl, rfl, Nat.le_refl _, fun _ _ _ => rfl⟩
        case measure => simp [intOf]; omega
      | true =>
        rw [hq] at HKS
        go_wp2_with (first | (go_at_call 43; (with_reducible refine HCo.out.mono ?_); rintro e w' ⟨rfl, ⟨nd, rfl⟩⟩) | (go_at_call 43; (with_reducible refine (HCw.out _).mono ?_); rintro e w' ⟨rfl, ⟨nd2, rfl⟩⟩))
        go_roundw
        case rel =>
          refine ⟨k + 1, by omega, by go_num, ⟨?_⟩, ⟨?_⟩⟩
          · rw [HADG.out, add_at]
            refine ((HR.out.drewN _).set v0 hv01 true).congr fun v hv => ?_
            rw [HTS.out, HKS.out, Bool.true_and]
            by_cases e : v = v0
            · rw [if_pos e, e]; simp
            · rw [if_neg e, beq_eq_false_iff_ne.2 (show ¬ (v : Int) = (v0 : Int) from fun e' => e (Int.ofNat.inj e')), Bool.or_false]
          · rw [HADG.out, add_at]
            exact grown_set (grown_drewN HG.out _) _ _
        case measure => simp [intOf]; omega
    · obtain rfl : k = xs.length := by omega
      have hlt1 : decide ((xs.length : Int) < (xs.length : Int)) = false := decide_eq_false (by omega)
      rw [List.take_length] at HR
      go_wp2
      have HC1r := Aside0.mk (Kd.C_below (Kd.C_below HC1.out HB2.out) HBW.out)
      have HROW5 := Aside0.mk (show BoolRow wr g (fun v => known false xs (v : Int)) from HR.out)
      obtain ⟨w5, hw5⟩ : ∃ w5, w5 = wr := ⟨_, rfl⟩
      rw [← hw5] at HROW5 HC1r HBWW ⊢
      clear hw5 HR HG HBW HC2r hk hlt
      go_loopw [13, 49] (fun v13 v49 wr => ∃ k : Nat, k ≤ xs.length ∧ v49 = .int .i64 (k : Int) ∧ Aside0 ((Kd.fixed (Kd.slice 3 (Kd.int .i64)) W).R 45 wr w5.heap.size (fun _ => True) v13 ((xs.take k).filter (says false 45 xs))) ∧ Aside0 (Below w5.heap.size w5 wr)) (fun _ v49 _ => xs.length - (intOf v49).toNat)
      case atStart => exact ⟨0, Nat.zero_le _, rfl, ⟨Kd.R_nil _ _ _ _ _⟩, ⟨Below.refl _ _⟩⟩
      case round =>
        obtain ⟨k, hk, rfl, HR, HB⟩ := hrel
        have HBWr := Aside0.mk (below_then HBWW.out HBWW.out.size HB.out)
        by_cases hlt : k < xs.length
        · have hlt1 : decide ((k : Int) < (xs.length : Int)) = true := decide_eq_true (by omega)
          obtain ⟨ad, A3, c3, rfl, hx0, h1, hC3, hK3⟩ := row_at HC.out HBWr.out hlt
          have hag := HA.out xs[k] (List.getElem_mem hlt)
          have HCw := Aside0.mk (HV.out xs[k] (List.getElem_mem hlt) A3 c3 wr hC3 h1)
          have HK1 := Aside0.mk hK3
          have HTS := Aside0.mk (take_succ_filter (says false 45 xs) xs k hlt)
          have hfl := Nat.le_trans (List.length_filter_le (says false 45 xs) (xs.take k)) (by rw [List.length_take]; exact Nat.min_le_right _ _)
          have HFL := Aside0.mk hfl
          obtain ⟨v0, hv0, hv01⟩ : ∃ n : Nat, valW false xs[k] = (n : Int) ∧ n < 1601 := by
            have hin := valW_in false hag
            exact ⟨(valW false xs[k]).toNat, (Int.toNat_of_nonneg (by omega)).symm, by omega⟩
          have hsay : says false 45 xs xs[k] = decide (1 < cnt false xs (v0 : Int)) := by unfold says; rw [hv0]; rfl
          rw [hv0] at HCw
          obtain ⟨ad1, rfl, ho1⟩ : ∃ ad1, A1 = some ad1 ∧ ∀ m, (wr.drewN m).cell? (ad1.add v0) = some (.int .i64 (rd l1 (v0 : Int))) := by
            have hCr := Kd.C_below HC1r.out HB.out
            obtain ⟨ad1, e, _⟩ := Kd.at_int hCr (v0 : Int) (Int.natCast_nonneg _) (Int.ofNat_lt.2 hv01)
            refine ⟨ad1, e, fun m => ?_⟩
            obtain ⟨ad1', e', h⟩ := Kd.at_int (Kd.C_drewN hCr m) (v0 : Int) (Int.natCast_nonneg _) (Int.ofNat_lt.2 hv01)
            rw [e] at e'
            rw [Option.some.inj e']
            simpa using h
          rw [HV1.out v0 (by omega)] at ho1
          have HRr := HROW5.out.of_block (HB.out.block g HROW5.out.lt)
          have r1 := fun m => (((HRr.drewN m).cell v0 hv01).1)
          rw [← HADG.out] at r1
          obtain ⟨cv, hcv⟩ : ∃ cv, cv = cnt false xs (v0 : Int) := ⟨_, rfl⟩
          obtain ⟨mk, hmk⟩ : ∃ mk, mk = known false xs (v0 : Int) := ⟨_, rfl⟩
          rw [← hmk] at r1
          rw [← hcv] at ho1
          rw [← hcv] at hsay
          have hv02 : (v0 : Int) < 1601 := by omega
          clear hC3 hK3 hag hv0 hcv hmk HRr
          cases hq : says false 45 xs xs[k] with
          | true =>
            rw [hq, if_pos rfl] at HTS
            rw [hq] at hsay
            have q1 : decide (1 < cv) = true := hsay.symm
            have q2 : decide (cv > 1) = true := hsay.symm
            obtain ⟨Ao, co, rfl⟩ := Kd.R_slice HR.out
            clear hq hfl hsay
            go_wp2_with (first | (go_at_call 43; (with_reducible refine HCw.out.mono ?_); rintro e w' ⟨rfl, ⟨nd, rfl⟩⟩) | ((with_reducible refine gate_builtin (b := .append) (xs := #[.tmp 87, .tmp 89]) rfl ?_); at_builtin; refine Kd.R_append (Kd.fixed (Kd.slice 3 (Kd.int .i64)) W) (w0 := w5) w5.heap.size rfl (.tmp 87) (.tmp 89) 23 45 (.slice none 0 0) 24 rfl Try.underlying23 (infoRowsF W) rfl Nat.zero_lt_one (by omega) (.slice Ao ((xs.take k).filter (says false 45 xs)).length co) ((xs.take k).filter (says false 45 xs)) xs[k] [.slice A3 xs[k].length c3] (fun _ => True) (fun _ => False) rfl rfl ?aP (fun _ h => h.elim) (fun _ _ => trivial) ?aO ?aB ?aS ?aL ?_; (case aP => exact HK1.out); (case aO => exact Kd.R_drewN HR.out nd); (case aB => exact pw_below_drewN HB.out nd); (case aS => exact (pw_below_drewN HB.out nd).size); (case aL => have := HFL.out; omega); intro v6 w6 ho hb hg hat; have HO := Aside0.mk ho; have HB6 := Aside0.mk hb; clear ho hb hg hat))
            go_roundw
            case rel => exact ⟨k + 1, by omega, by go_num, ⟨by rw [HTS.out]; exact HO.out⟩, HB6⟩
            case measure => simp [intOf]; omega
          | false =>
            rw [hq, if_neg (by simp), List.append_nil] at HTS
            rw [hq] at hsay
            have q1 : decide (1 < cv) = false := hsay.symm
            have q2 : decide (cv > 1) = false := hsay.symm
            clear hq hfl hsay
            go_wp2_with (go_at_call 43; (with_reducible refine HCw.out.mono ?_); rintro e w' ⟨rfl, ⟨nd, rfl⟩⟩)
            go_roundw
            case rel => exact ⟨k + 1, by omega, by go_num, ⟨by rw [HTS.out]; exact Kd.R_drewN HR.out nd⟩, ⟨pw_below_drewN HB.out nd⟩⟩
            case measure => simp [intOf]; omega
        · obtain rfl : k = xs.length := by omega
          have hlt1 : decide ((xs.length : Int) < (xs.length : Int)) = false := decide_eq_false (by omega)
          rw [List.take_length] at HR
          obtain ⟨A', c', rfl, h1, h2⟩ := Kd.R_reads HR.out
          have H2 := Aside0.mk h2
          clear h2
          go_wp2
          go_ret
          exact ⟨A', c', rfl, h1, ReadsRow.imp_ H2.out (Below.refl _ _) (fun _ _ hp => (Kd.slice 3 (Kd.int .i64)).K_below HBWr.out hp), HBWr.out⟩
set_option maxHeartbeats 8000000 in
set_option maxRecDepth 100000 in
theorem taSayfalse43_calls (A : Option Addr) (c : Nat) (xs : List (List Int)) (W : World) (hC : Kd.C (Kd.slice 3 (Kd.int .i64)) W A xs.length xs) (hc : xs.length ≤ c) (ha : ∀ x ∈ xs, Ages x) (hn : xs.length ≤ 4000) :
    Calls Try.prog 69 #[.slice A xs.length c, .string (whoB false), .int .u8 43] W fun e w' => ∃ A' c', e = .returned (.slice A' (xs.filter (says false 43 xs)).length c') ∧ (xs.filter (says false 43 xs)).length ≤ c' ∧ Kd.C (Kd.slice 3 (Kd.int .i64)) w' A' (xs.filter (says false 43 xs)).length (xs.filter (says false 43 xs)) ∧ Below W.heap.size W w' := by
  obtain ⟨K1, l1, ht1, hl1, hv1⟩ := counts_val false xs ha hn
  obtain ⟨K2, l2, ht2, hl2, hv2⟩ := counts_val (!false) xs ha hn
  have HC := Aside0.mk hC
  have HA := Aside0.mk ha
  have HT1 := Aside0.mk (fun W1 h => spec_taCounts.calls K1 A c xs (whoB false) l1 W1 h hc ht1)
  have HT2 := Aside0.mk (fun W1 h => show Calls Try.prog 76 #[.slice A xs.length c, .string ⟨#[115]⟩] W1 _ from spec_taCounts.calls K2 A c xs (whoB (!false)) l2 W1 h hc ht2)
  have HV1 := Aside0.mk hv1
  have HV2 := Aside0.mk hv2
  have HL1 := Aside0.mk hl1
  have HL2 := Aside0.mk hl2
  have HV := Aside0.mk (fun (x : List Int) (hx : x ∈ xs) (A1 : Option Addr) (c1 : Nat) (w : World) (h : (Kd.int .i64).C w A1 x.length x) (h1 : x.length ≤ c1) => spec_taTold.calls (whoB false) A1 c1 x (valW false x) w h h1 (told_W false (ha x hx)))
  have HVO := Aside0.mk (fun (x : List Int) (hx : x ∈ xs) (A1 : Option Addr) (c1 : Nat) (w : World) (h : (Kd.int .i64).C w A1 x.length x) (h1 : x.length ≤ c1) => show Calls Try.prog 43 #[.string ⟨#[115]⟩, .slice A1 x.length c1] w _ from spec_taTold.calls (whoB (!false)) A1 c1 x (valW (!false) x) w h h1 (told_W (!false) (ha x hx)))
  obtain ⟨who, hwho⟩ : ∃ who, who = whoB false := ⟨_, rfl⟩
  have hwl : (who.toList == ([112] : List UInt8)) = true := by rw [hwho]; kernel_rfl
  rw [← hwho] at HT1 HV ⊢
  clear hC ha hwho ht1 ht2 hv1 hv2 hl1 hl2
  go_enter Try.func69, Try.ntmps69
  go_wp2_with (first | (go_at_call 76; (with_reducible refine (HT1.out _ ?hC).mono ?_); (case hC => exact HC.out); rintro e w1 ⟨v1, rfl, hR, hb⟩; obtain ⟨A1, c1, rfl, hc1, hC1⟩ := Kd.R_reads hR; rw [HL1.out] at hC1 hc1 ⊢; have HC1 := Aside0.mk hC1; have HB1 := Aside0.mk hb; clear hR hb hC1) | (go_at_call 76; (with_reducible refine (HT2.out _ ?hC).mono ?_); (case hC => exact Kd.C_below HC.out HB1.out); rintro e w2 ⟨v2, rfl, hR, hb⟩; obtain ⟨A2, c2, rfl, hc2, hC2⟩ := Kd.R_reads hR; rw [HL2.out] at hC2 hc2 ⊢; have HC2 := Aside0.mk hC2; have HB2 := Aside0.mk hb; clear hR hb hC2) | ((with_reducible refine gate_dst (N := 27) rfl ?_); refine Kd.R_make Kd.bool (w0 := w2) w2.heap.size 4 rfl (N := 27) rfl 66 _ _ rfl 1601 rfl rfl Try.underlying66 (.bool false) 1 bool4 rfl (by decide) (by omega) false (ok := fun _ => True) (okp := fun _ => True) rfl (fun _ hk => hk) trivial (by omega) (by omega) (Below.refl _ _) (Nat.le_refl _) ?_; intro v3 w3 ho3 hb hg_ hnew_; obtain ⟨g, cap, rfl, hgb, hcap, hrow⟩ := made_row ho3; have HROW := Aside0.mk hrow; have HGB := Aside0.mk hgb; have HB3 := Aside0.mk hb; clear ho3 hb hg_ hnew_ hrow hgb))
  have BW2 := Aside0.mk (show Below W.heap.size W w2 from below_then HB1.out HB1.out.size HB2.out)
  have BW3 := Aside0.mk (show Below W.heap.size W w3 from below_then BW2.out BW2.out.size HB3.out)
  have C13 := Aside0.mk (Kd.C_below (Kd.C_below HC1.out HB2.out) HB3.out)
  have C23 := Aside0.mk (Kd.C_below HC2.out HB3.out)
  obtain ⟨adg, hadg⟩ : ∃ ad : Addr, ad = ⟨g, 0, none⟩ := ⟨_, rfl⟩
  have HADG := Aside0.mk hadg
  rw [← hadg]
  clear hadg
  go_loopw [30] (fun v30 wr => ∃ k : Nat, k ≤ xs.length ∧ v30 = .int .i64 (k : Int) ∧ Aside0 (BoolRow wr g (fun v => knownP false xs (xs.take k) (v : Int))) ∧ Aside0 (w3.grownBy wr (some g))) (fun v30 _ => xs.length - (intOf v30).toNat)
  case atStart => exact ⟨0, Nat.zero_le _, rfl, HROW, ⟨⟨rfl, rfl, rfl, Nat.le_refl _, fun _ _ _ => rfl⟩⟩⟩
  case round =>
    obtain ⟨k, hk, rfl, HR, HG⟩ := hrel
    have HBW := Aside0.mk (show Below w2.heap.size w2 wr from HB3.out.grown HG.out HB3.out.size (fun j hj => by cases hj; exact HGB.out))
    have HBWW := Aside0.mk (show Below W.heap.size W wr from below_then BW2.out BW2.out.size HBW.out)
    have HC2r := Aside0.mk (Kd.C_below HC2.out HBW.out)
    by_cases hlt : k < xs.length
    · have hlt1 : decide ((k : Int) < (xs.length : Int)) = true := decide_eq_true (by omega)
      obtain ⟨ad, A3, c3, rfl, hx0, h1, hC3, _⟩ := row_at HC.out HBWW.out hlt
      have hag := HA.out xs[k] (List.getElem_mem hlt)
      have HCo := Aside0.mk (HVO.out xs[k] (List.getElem_mem hlt) A3 c3 wr hC3 h1)
      have HCw := Aside0.mk (fun m => HV.out xs[k] (List.getElem_mem hlt) A3 c3 (wr.drewN m) (Kd.C_drewN hC3 m) h1)
      have HTS := Aside0.mk (show xs.take (k + 1) = xs.take k ++ [xs[k]] from List.take_succ_eq_append_getElem hlt)
      have HKS := Aside0.mk (knownP_snoc false xs (xs.take k) xs[k])
      obtain ⟨vo, hvo, hvo1⟩ : ∃ n : Nat, valW (!false) xs[k] = (n : Int) ∧ n < 1601 := by
        have hin := valW_in (!false) hag
        exact ⟨(valW (!false) xs[k]).toNat, (Int.toNat_of_nonneg (by omega)).symm, by omega⟩
      obtain ⟨v0, hv0, hv01⟩ : ∃ n : Nat, valW false xs[k] = (n : Int) ∧ n < 1601 := by
        have hin := valW_in false hag
        exact ⟨(valW false xs[k]).toNat, (Int.toNat_of_nonneg (by omega)).symm, by omega⟩
      rw [hvo] at HCo HKS
      rw [hv0] at HCw HKS
      obtain ⟨ad2, rfl, ho2⟩ : ∃ ad2, A2 = some ad2 ∧ ∀ m, (wr.drewN m).cell? (ad2.add vo) = some (.int .i64 (rd l2 (vo : Int))) := by
        obtain ⟨ad2, e, _⟩ := Kd.at_int HC2r.out (vo : Int) (Int.natCast_nonneg _) (Int.ofNat_lt.2 hvo1)
        refine ⟨ad2, e, fun m => ?_⟩
        obtain ⟨ad2', e', h⟩ := Kd.at_int (Kd.C_drewN HC2r.out m) (vo : Int) (Int.natCast_nonneg _) (Int.ofNat_lt.2 hvo1)
        rw [e] at e'
        rw [Option.some.inj e']
        simpa using h
      rw [HV2.out vo (by omega)] at ho2
      obtain ⟨co, hco⟩ : ∃ co, co = cnt (!false) xs (vo : Int) := ⟨_, rfl⟩
      rw [← hco] at ho2 HKS
      have r1 := fun m => (((HR.out.drewN m).cell v0 hv01).1)
      have r2 := fun m => (((HR.out.drewN m).cell v0 hv01).2)
      rw [← HADG.out] at r1 r2
      have hvo2 : (vo : Int) < 1601 := by omega
      have hv02 : (v0 : Int) < 1601 := by omega
      clear hC3 hag hvo hv0 hco
      cases hq : (co == 1) with
      | false =>
        rw [hq] at HKS
        go_wp2_with (go_at_call 43; (with_reducible refine HCo.out.mono ?_); rintro e w' ⟨rfl, ⟨nd, rfl⟩⟩)
        go_roundw
        case rel =>
          refine ⟨k + 1, by omega, by go_num, ⟨?_⟩, ⟨?_⟩⟩
          · refine (HR.out.drewN nd).congr fun v hv => ?_
            rw [HTS.out, HKS.out, Bool.false_and, Bool.or_false]
          · exact grown_trans HG.out ⟨rfl, rfl, rfl, Nat.le_refl _, fun _ _ _ => rfl⟩
        case measure => simp [intOf]; omega
      | true =>
        rw [hq] at HKS
        go_wp2_with (first | (go_at_call 43; (with_reducible refine HCo.out.mono ?_); rintro e w' ⟨rfl, ⟨nd, rfl⟩⟩) | (go_at_call 43; (with_reducible refine (HCw.out _).mono ?_); rintro e w' ⟨rfl, ⟨nd2, rfl⟩⟩))
        go_roundw
        case rel =>
          refine ⟨k + 1, by omega, by go_num, ⟨?_⟩, ⟨?_⟩⟩
          · rw [HADG.out, add_at]
            refine ((HR.out.drewN _).set v0 hv01 true).congr fun v hv => ?_
            rw [HTS.out, HKS.out, Bool.true_and]
            by_cases e : v = v0
            · rw [if_pos e, e]; simp
            · rw [if_neg e, beq_eq_false_iff_ne.2 (show ¬ (v : Int) = (v0 : Int) from fun e' => e (Int.ofNat.inj e')), Bool.or_false]
          · rw [HADG.out, add_at]
            exact grown_set (grown_drewN HG.out _) _ _
        case measure => simp [intOf]; omega
    · obtain rfl : k = xs.length := by omega
      have hlt1 : decide ((xs.length : Int) < (xs.length : Int)) = false := decide_eq_false (by omega)
      rw [List.take_length] at HR
      go_wp2
      have HC1r := Aside0.mk (Kd.C_below (Kd.C_below HC1.out HB2.out) HBW.out)
      have HROW5 := Aside0.mk (show BoolRow wr g (fun v => known false xs (v : Int)) from HR.out)
      obtain ⟨w5, hw5⟩ : ∃ w5, w5 = wr := ⟨_, rfl⟩
      rw [← hw5] at HROW5 HC1r HBWW ⊢
      clear hw5 HR HG HBW HC2r hk hlt
      go_loopw [13, 49] (fun v13 v49 wr => ∃ k : Nat, k ≤ xs.length ∧ v49 = .int .i64 (k : Int) ∧ Aside0 ((Kd.fixed (Kd.slice 3 (Kd.int .i64)) W).R 45 wr w5.heap.size (fun _ => True) v13 ((xs.take k).filter (says false 43 xs))) ∧ Aside0 (Below w5.heap.size w5 wr)) (fun _ v49 _ => xs.length - (intOf v49).toNat)
      case atStart => exact ⟨0, Nat.zero_le _, rfl, ⟨Kd.R_nil _ _ _ _ _⟩, ⟨Below.refl _ _⟩⟩
      case round =>
        obtain ⟨k, hk, rfl, HR, HB⟩ := hrel
        have HBWr := Aside0.mk (below_then HBWW.out HBWW.out.size HB.out)
        by_cases hlt : k < xs.length
        · have hlt1 : decide ((k : Int) < (xs.length : Int)) = true := decide_eq_true (by omega)
          obtain ⟨ad, A3, c3, rfl, hx0, h1, hC3, hK3⟩ := row_at HC.out HBWr.out hlt
          have hag := HA.out xs[k] (List.getElem_mem hlt)
          have HCw := Aside0.mk (HV.out xs[k] (List.getElem_mem hlt) A3 c3 wr hC3 h1)
          have HK1 := Aside0.mk hK3
          have HTS := Aside0.mk (take_succ_filter (says false 43 xs) xs k hlt)
          have hfl := Nat.le_trans (List.length_filter_le (says false 43 xs) (xs.take k)) (by rw [List.length_take]; exact Nat.min_le_right _ _)
          have HFL := Aside0.mk hfl
          obtain ⟨v0, hv0, hv01⟩ : ∃ n : Nat, valW false xs[k] = (n : Int) ∧ n < 1601 := by
            have hin := valW_in false hag
            exact ⟨(valW false xs[k]).toNat, (Int.toNat_of_nonneg (by omega)).symm, by omega⟩
          have hsay : says false 43 xs xs[k] = (cnt false xs (v0 : Int) == 1) := by unfold says; rw [hv0]; rfl
          rw [hv0] at HCw
          obtain ⟨ad1, rfl, ho1⟩ : ∃ ad1, A1 = some ad1 ∧ ∀ m, (wr.drewN m).cell? (ad1.add v0) = some (.int .i64 (rd l1 (v0 : Int))) := by
            have hCr := Kd.C_below HC1r.out HB.out
            obtain ⟨ad1, e, _⟩ := Kd.at_int hCr (v0 : Int) (Int.natCast_nonneg _) (Int.ofNat_lt.2 hv01)
            refine ⟨ad1, e, fun m => ?_⟩
            obtain ⟨ad1', e', h⟩ := Kd.at_int (Kd.C_drewN hCr m) (v0 : Int) (Int.natCast_nonneg _) (Int.ofNat_lt.2 hv01)
            rw [e] at e'
            rw [Option.some.inj e']
            simpa using h
          rw [HV1.out v0 (by omega)] at ho1
          have HRr := HROW5.out.of_block (HB.out.block g HROW5.out.lt)
          have r1 := fun m => (((HRr.drewN m).cell v0 hv01).1)
          rw [← HADG.out] at r1
          obtain ⟨cv, hcv⟩ : ∃ cv, cv = cnt false xs (v0 : Int) := ⟨_, rfl⟩
          obtain ⟨mk, hmk⟩ : ∃ mk, mk = known false xs (v0 : Int) := ⟨_, rfl⟩
          rw [← hmk] at r1
          rw [← hcv] at ho1
          rw [← hcv] at hsay
          have hv02 : (v0 : Int) < 1601 := by omega
          clear hC3 hK3 hag hv0 hcv hmk HRr
          cases hq : says false 43 xs xs[k] with
          | true =>
            rw [hq, if_pos rfl] at HTS
            rw [hq] at hsay
            have q1 : (cv == 1) = true := hsay.symm
            obtain ⟨Ao, co, rfl⟩ := Kd.R_slice HR.out
            clear hq hfl hsay
            go_wp2_with (first | (go_at_call 43; (with_reducible refine HCw.out.mono ?_); rintro e w' ⟨rfl, ⟨nd, rfl⟩⟩) | ((with_reducible refine gate_builtin (b := .append) (xs := #[.tmp 87, .tmp 89]) rfl ?_); at_builtin; refine Kd.R_append (Kd.fixed (Kd.slice 3 (Kd.int .i64)) W) (w0 := w5) w5.heap.size rfl (.tmp 87) (.tmp 89) 23 45 (.slice none 0 0) 24 rfl Try.underlying23 (infoRowsF W) rfl Nat.zero_lt_one (by omega) (.slice Ao ((xs.take k).filter (says false 43 xs)).length co) ((xs.take k).filter (says false 43 xs)) xs[k] [.slice A3 xs[k].length c3] (fun _ => True) (fun _ => False) rfl rfl ?aP (fun _ h => h.elim) (fun _ _ => trivial) ?aO ?aB ?aS ?aL ?_; (case aP => exact HK1.out); (case aO => exact Kd.R_drewN HR.out nd); (case aB => exact pw_below_drewN HB.out nd); (case aS => exact (pw_below_drewN HB.out nd).size); (case aL => have := HFL.out; omega); intro v6 w6 ho hb hg hat; have HO := Aside0.mk ho; have HB6 := Aside0.mk hb; clear ho hb hg hat))
            go_roundw
            case rel => exact ⟨k + 1, by omega, by go_num, ⟨by rw [HTS.out]; exact HO.out⟩, HB6⟩
            case measure => simp [intOf]; omega
          | false =>
            rw [hq, if_neg (by simp), List.append_nil] at HTS
            rw [hq] at hsay
            have q1 : (cv == 1) = false := hsay.symm
            clear hq hfl hsay
            go_wp2_with (go_at_call 43; (with_reducible refine HCw.out.mono ?_); rintro e w' ⟨rfl, ⟨nd, rfl⟩⟩)
            go_roundw
            case rel => exact ⟨k + 1, by omega, by go_num, ⟨by rw [HTS.out]; exact Kd.R_drewN HR.out nd⟩, ⟨pw_below_drewN HB.out nd⟩⟩
            case measure => simp [intOf]; omega
        · obtain rfl : k = xs.length := by omega
          have hlt1 : decide ((xs.length : Int) < (xs.length : Int)) = false := decide_eq_false (by omega)
          rw [List.take_length] at HR
          obtain ⟨A', c', rfl, h1, h2⟩ := Kd.R_reads HR.out
          have H2 := Aside0.mk h2
          clear h2
          go_wp2
          go_ret
          exact ⟨A', c', rfl, h1, ReadsRow.imp_ H2.out (Below.refl _ _) (fun _ _ hp => (Kd.slice 3 (Kd.int .i64)).K_below HBWr.out hp), HBWr.out⟩
set_option maxHeartbeats 8000000 in
set_option maxRecDepth 100000 in
theorem taSayfalse33_calls (A : Option Addr) (c : Nat) (xs : List (List Int)) (W : World) (hC : Kd.C (Kd.slice 3 (Kd.int .i64)) W A xs.length xs) (hc : xs.length ≤ c) (ha : ∀ x ∈ xs, Ages x) (hn : xs.length ≤ 4000) :
    Calls Try.prog 69 #[.slice A xs.length c, .string (whoB false), .int .u8 33] W fun e w' => ∃ A' c', e = .returned (.slice A' (xs.filter (says false 33 xs)).length c') ∧ (xs.filter (says false 33 xs)).length ≤ c' ∧ Kd.C (Kd.slice 3 (Kd.int .i64)) w' A' (xs.filter (says false 33 xs)).length (xs.filter (says false 33 xs)) ∧ Below W.heap.size W w' := by
  obtain ⟨K1, l1, ht1, hl1, hv1⟩ := counts_val false xs ha hn
  obtain ⟨K2, l2, ht2, hl2, hv2⟩ := counts_val (!false) xs ha hn
  have HC := Aside0.mk hC
  have HA := Aside0.mk ha
  have HT1 := Aside0.mk (fun W1 h => spec_taCounts.calls K1 A c xs (whoB false) l1 W1 h hc ht1)
  have HT2 := Aside0.mk (fun W1 h => show Calls Try.prog 76 #[.slice A xs.length c, .string ⟨#[115]⟩] W1 _ from spec_taCounts.calls K2 A c xs (whoB (!false)) l2 W1 h hc ht2)
  have HV1 := Aside0.mk hv1
  have HV2 := Aside0.mk hv2
  have HL1 := Aside0.mk hl1
  have HL2 := Aside0.mk hl2
  have HV := Aside0.mk (fun (x : List Int) (hx : x ∈ xs) (A1 : Option Addr) (c1 : Nat) (w : World) (h : (Kd.int .i64).C w A1 x.length x) (h1 : x.length ≤ c1) => spec_taTold.calls (whoB false) A1 c1 x (valW false x) w h h1 (told_W false (ha x hx)))
  have HVO := Aside0.mk (fun (x : List Int) (hx : x ∈ xs) (A1 : Option Addr) (c1 : Nat) (w : World) (h : (Kd.int .i64).C w A1 x.length x) (h1 : x.length ≤ c1) => show Calls Try.prog 43 #[.string ⟨#[115]⟩, .slice A1 x.length c1] w _ from spec_taTold.calls (whoB (!false)) A1 c1 x (valW (!false) x) w h h1 (told_W (!false) (ha x hx)))
  obtain ⟨who, hwho⟩ : ∃ who, who = whoB false := ⟨_, rfl⟩
  have hwl : (who.toList == ([112] : List UInt8)) = true := by rw [hwho]; kernel_rfl
  rw [← hwho] at HT1 HV ⊢
  clear hC ha hwho ht1 ht2 hv1 hv2 hl1 hl2
  go_enter Try.func69, Try.ntmps69
  go_wp2_with (first | (go_at_call 76; (with_reducible refine (HT1.out _ ?hC).mono ?_); (case hC => exact HC.out); rintro e w1 ⟨v1, rfl, hR, hb⟩; obtain ⟨A1, c1, rfl, hc1, hC1⟩ := Kd.R_reads hR; rw [HL1.out] at hC1 hc1 ⊢; have HC1 := Aside0.mk hC1; have HB1 := Aside0.mk hb; clear hR hb hC1) | (go_at_call 76; (with_reducible refine (HT2.out _ ?hC).mono ?_); (case hC => exact Kd.C_below HC.out HB1.out); rintro e w2 ⟨v2, rfl, hR, hb⟩; obtain ⟨A2, c2, rfl, hc2, hC2⟩ := Kd.R_reads hR; rw [HL2.out] at hC2 hc2 ⊢; have HC2 := Aside0.mk hC2; have HB2 := Aside0.mk hb; clear hR hb hC2) | ((with_reducible refine gate_dst (N := 27) rfl ?_); refine Kd.R_make Kd.bool (w0 := w2) w2.heap.size 4 rfl (N := 27) rfl 66 _ _ rfl 1601 rfl rfl Try.underlying66 (.bool false) 1 bool4 rfl (by decide) (by omega) false (ok := fun _ => True) (okp := fun _ => True) rfl (fun _ hk => hk) trivial (by omega) (by omega) (Below.refl _ _) (Nat.le_refl _) ?_; intro v3 w3 ho3 hb hg_ hnew_; obtain ⟨g, cap, rfl, hgb, hcap, hrow⟩ := made_row ho3; have HROW := Aside0.mk hrow; have HGB := Aside0.mk hgb; have HB3 := Aside0.mk hb; clear ho3 hb hg_ hnew_ hrow hgb))
  have BW2 := Aside0.mk (show Below W.heap.size W w2 from below_then HB1.out HB1.out.size HB2.out)
  have BW3 := Aside0.mk (show Below W.heap.size W w3 from below_then BW2.out BW2.out.size HB3.out)
  have C13 := Aside0.mk (Kd.C_below (Kd.C_below HC1.out HB2.out) HB3.out)
  have C23 := Aside0.mk (Kd.C_below HC2.out HB3.out)
  obtain ⟨adg, hadg⟩ : ∃ ad : Addr, ad = ⟨g, 0, none⟩ := ⟨_, rfl⟩
  have HADG := Aside0.mk hadg
  rw [← hadg]
  clear hadg
  go_loopw [30] (fun v30 wr => ∃ k : Nat, k ≤ xs.length ∧ v30 = .int .i64 (k : Int) ∧ Aside0 (BoolRow wr g (fun v => knownP false xs (xs.take k) (v : Int))) ∧ Aside0 (w3.grownBy wr (some g))) (fun v30 _ => xs.length - (intOf v30).toNat)
  case atStart => exact ⟨0, Nat.zero_le _, rfl, HROW, ⟨⟨rfl, rfl, rfl, Nat.le_refl _, fun _ _ _ => rfl⟩⟩⟩
  case round =>
    obtain ⟨k, hk, rfl, HR, HG⟩ := hrel
    have HBW := Aside0.mk (show Below w2.heap.size w2 wr from HB3.out.grown HG.out HB3.out.size (fun j hj => by cases hj; exact HGB.out))
    have HBWW := Aside0.mk (show Below W.heap.size W wr from below_then BW2.out BW2.out.size HBW.out)
    have HC2r := Aside0.mk (Kd.C_below HC2.out HBW.out)
    by_cases hlt : k < xs.length
    · have hlt1 : decide ((k : Int) < (xs.length : Int)) = true := decide_eq_true (by omega)
      obtain ⟨ad, A3, c3, rfl, hx0, h1, hC3, _⟩ := row_at HC.out HBWW.out hlt
      have hag := HA.out xs[k] (List.getElem_mem hlt)
      have HCo := Aside0.mk (HVO.out xs[k] (List.getElem_mem hlt) A3 c3 wr hC3 h1)
      have HCw := Aside0.mk (fun m => HV.out xs[k] (List.getElem_mem hlt) A3 c3 (wr.drewN m) (Kd.C_drewN hC3 m) h1)
      have HTS := Aside0.mk (show xs.take (k + 1) = xs.take k ++ [xs[k]] from List.take_succ_eq_append_getElem hlt)
      have HKS := Aside0.mk (knownP_snoc false xs (xs.take k) xs[k])
      obtain ⟨vo, hvo, hvo1⟩ : ∃ n : Nat, valW (!false) xs[k] = (n : Int) ∧ n < 1601 := by
        have hin := valW_in (!false) hag
        exact ⟨(valW (!false) xs[k]).toNat, (Int.toNat_of_nonneg (by omega)).symm, by omega⟩
      obtain ⟨v0, hv0, hv01⟩ : ∃ n : Nat, valW false xs[k] = (n : Int) ∧ n < 1601 := by
        have hin := valW_in false hag
        exact ⟨(valW false xs[k]).toNat, (Int.toNat_of_nonneg (by omega)).symm, by omega⟩
      rw [hvo] at HCo HKS
      rw [hv0] at HCw HKS
      obtain ⟨ad2, rfl, ho2⟩ : ∃ ad2, A2 = some ad2 ∧ ∀ m, (wr.drewN m).cell? (ad2.add vo) = some (.int .i64 (rd l2 (vo : Int))) := by
        obtain ⟨ad2, e, _⟩ := Kd.at_int HC2r.out (vo : Int) (Int.natCast_nonneg _) (Int.ofNat_lt.2 hvo1)
        refine ⟨ad2, e, fun m => ?_⟩
        obtain ⟨ad2', e', h⟩ := Kd.at_int (Kd.C_drewN HC2r.out m) (vo : Int) (Int.natCast_nonneg _) (Int.ofNat_lt.2 hvo1)
        rw [e] at e'
        rw [Option.some.inj e']
        simpa using h
      rw [HV2.out vo (by omega)] at ho2
      obtain ⟨co, hco⟩ : ∃ co, co = cnt (!false) xs (vo : Int) := ⟨_, rfl⟩
      rw [← hco] at ho2 HKS
      have r1 := fun m => (((HR.out.drewN m).cell v0 hv01).1)
      have r2 := fun m => (((HR.out.drewN m).cell v0 hv01).2)
      rw [← HADG.out] at r1 r2
      have hvo2 : (vo : Int) < 1601 := by omega
      have hv02 : (v0 : Int) < 1601 := by omega
      clear hC3 hag hvo hv0 hco
      cases hq : (co == 1) with
      | false =>
        rw [hq] at HKS
        go_wp2_with (go_at_call 43; (with_reducible refine HCo.out.mono ?_); rintro e w' ⟨rfl, ⟨nd, rfl⟩⟩)
        go_roundw
        case rel =>
          refine ⟨k + 1, by omega, by go_num, ⟨?_⟩, ⟨?_⟩⟩
          · refine (HR.out.drewN nd).congr fun v hv => ?_
            rw [HTS.out, HKS.out, Bool.false_and, Bool.or_false]
          · exact grown_trans HG.out ⟨rfl, rfl, rfl, Nat.le_refl _, fun _ _ _ => rfl⟩
        case measure => simp [intOf]; omega
      | true =>
        rw [hq] at HKS
        go_wp2_with (first | (go_at_call 43; (with_reducible refine HCo.out.mono ?_); rintro e w' ⟨rfl, ⟨nd, rfl⟩⟩) | (go_at_call 43; (with_reducible refine (HCw.out _).mono ?_); rintro e w' ⟨rfl, ⟨nd2, rfl⟩⟩))
        go_roundw
        case rel =>
          refine ⟨k + 1, by omega, by go_num, ⟨?_⟩, ⟨?_⟩⟩
          · rw [HADG.out, add_at]
            refine ((HR.out.drewN _).set v0 hv01 true).congr fun v hv => ?_
            rw [HTS.out, HKS.out, Bool.true_and]
            by_cases e : v = v0
            · rw [if_pos e, e]; simp
            · rw [if_neg e, beq_eq_false_iff_ne.2 (show ¬ (v : Int) = (v0 : Int) from fun e' => e (Int.ofNat.inj e')), Bool.or_false]
          · rw [HADG.out, add_at]
            exact grown_set (grown_drewN HG.out _) _ _
        case measure => simp [intOf]; omega
    · obtain rfl : k = xs.length := by omega
      have hlt1 : decide ((xs.length : Int) < (xs.length : Int)) = false := decide_eq_false (by omega)
      rw [List.take_length] at HR
      go_wp2
      have HC1r := Aside0.mk (Kd.C_below (Kd.C_below HC1.out HB2.out) HBW.out)
      have HROW5 := Aside0.mk (show BoolRow wr g (fun v => known false xs (v : Int)) from HR.out)
      obtain ⟨w5, hw5⟩ : ∃ w5, w5 = wr := ⟨_, rfl⟩
      rw [← hw5] at HROW5 HC1r HBWW ⊢
      clear hw5 HR HG HBW HC2r hk hlt
      go_loopw [13, 49] (fun v13 v49 wr => ∃ k : Nat, k ≤ xs.length ∧ v49 = .int .i64 (k : Int) ∧ Aside0 ((Kd.fixed (Kd.slice 3 (Kd.int .i64)) W).R 45 wr w5.heap.size (fun _ => True) v13 ((xs.take k).filter (says false 33 xs))) ∧ Aside0 (Below w5.heap.size w5 wr)) (fun _ v49 _ => xs.length - (intOf v49).toNat)
      case atStart => exact ⟨0, Nat.zero_le _, rfl, ⟨Kd.R_nil _ _ _ _ _⟩, ⟨Below.refl _ _⟩⟩
      case round =>
        obtain ⟨k, hk, rfl, HR, HB⟩ := hrel
        have HBWr := Aside0.mk (below_then HBWW.out HBWW.out.size HB.out)
        by_cases hlt : k < xs.length
        · have hlt1 : decide ((k : Int) < (xs.length : Int)) = true := decide_eq_true (by omega)
          obtain ⟨ad, A3, c3, rfl, hx0, h1, hC3, hK3⟩ := row_at HC.out HBWr.out hlt
          have hag := HA.out xs[k] (List.getElem_mem hlt)
          have HCw := Aside0.mk (HV.out xs[k] (List.getElem_mem hlt) A3 c3 wr hC3 h1)
          have HK1 := Aside0.mk hK3
          have HTS := Aside0.mk (take_succ_filter (says false 33 xs) xs k hlt)
          have hfl := Nat.le_trans (List.length_filter_le (says false 33 xs) (xs.take k)) (by rw [List.length_take]; exact Nat.min_le_right _ _)
          have HFL := Aside0.mk hfl
          obtain ⟨v0, hv0, hv01⟩ : ∃ n : Nat, valW false xs[k] = (n : Int) ∧ n < 1601 := by
            have hin := valW_in false hag
            exact ⟨(valW false xs[k]).toNat, (Int.toNat_of_nonneg (by omega)).symm, by omega⟩
          have hsay : says false 33 xs xs[k] = !known false xs (v0 : Int) := by unfold says; rw [hv0]; rfl
          rw [hv0] at HCw
          obtain ⟨ad1, rfl, ho1⟩ : ∃ ad1, A1 = some ad1 ∧ ∀ m, (wr.drewN m).cell? (ad1.add v0) = some (.int .i64 (rd l1 (v0 : Int))) := by
            have hCr := Kd.C_below HC1r.out HB.out
            obtain ⟨ad1, e, _⟩ := Kd.at_int hCr (v0 : Int) (Int.natCast_nonneg _) (Int.ofNat_lt.2 hv01)
            refine ⟨ad1, e, fun m => ?_⟩
            obtain ⟨ad1', e', h⟩ := Kd.at_int (Kd.C_drewN hCr m) (v0 : Int) (Int.natCast_nonneg _) (Int.ofNat_lt.2 hv01)
            rw [e] at e'
            rw [Option.some.inj e']
            simpa using h
          rw [HV1.out v0 (by omega)] at ho1
          have HRr := HROW5.out.of_block (HB.out.block g HROW5.out.lt)
          have r1 := fun m => (((HRr.drewN m).cell v0 hv01).1)
          rw [← HADG.out] at r1
          obtain ⟨cv, hcv⟩ : ∃ cv, cv = cnt false xs (v0 : Int) := ⟨_, rfl⟩
          obtain ⟨mk, hmk⟩ : ∃ mk, mk = known false xs (v0 : Int) := ⟨_, rfl⟩
          rw [← hmk] at r1
          rw [← hcv] at ho1
          rw [← hmk] at hsay
          have hv02 : (v0 : Int) < 1601 := by omega
          clear hC3 hK3 hag hv0 hcv hmk HRr
          cases hq : says false 33 xs xs[k] with
          | true =>
            rw [hq, if_pos rfl] at HTS
            rw [hq] at hsay
            obtain rfl : mk = false := by cases mk <;> simp at hsay ⊢
            obtain ⟨Ao, co, rfl⟩ := Kd.R_slice HR.out
            clear hq hfl hsay
            go_wp2_with (first | (go_at_call 43; (with_reducible refine HCw.out.mono ?_); rintro e w' ⟨rfl, ⟨nd, rfl⟩⟩) | ((with_reducible refine gate_builtin (b := .append) (xs := #[.tmp 87, .tmp 89]) rfl ?_); at_builtin; refine Kd.R_append (Kd.fixed (Kd.slice 3 (Kd.int .i64)) W) (w0 := w5) w5.heap.size rfl (.tmp 87) (.tmp 89) 23 45 (.slice none 0 0) 24 rfl Try.underlying23 (infoRowsF W) rfl Nat.zero_lt_one (by omega) (.slice Ao ((xs.take k).filter (says false 33 xs)).length co) ((xs.take k).filter (says false 33 xs)) xs[k] [.slice A3 xs[k].length c3] (fun _ => True) (fun _ => False) rfl rfl ?aP (fun _ h => h.elim) (fun _ _ => trivial) ?aO ?aB ?aS ?aL ?_; (case aP => exact HK1.out); (case aO => exact Kd.R_drewN HR.out nd); (case aB => exact pw_below_drewN HB.out nd); (case aS => exact (pw_below_drewN HB.out nd).size); (case aL => have := HFL.out; omega); intro v6 w6 ho hb hg hat; have HO := Aside0.mk ho; have HB6 := Aside0.mk hb; clear ho hb hg hat))
            go_roundw
            case rel => exact ⟨k + 1, by omega, by go_num, ⟨by rw [HTS.out]; exact HO.out⟩, HB6⟩
            case measure => simp [intOf]; omega
          | false =>
            rw [hq, if_neg (by simp), List.append_nil] at HTS
            rw [hq] at hsay
            obtain rfl : mk = true := by cases mk <;> simp at hsay ⊢
            clear hq hfl hsay
            go_wp2_with (go_at_call 43; (with_reducible refine HCw.out.mono ?_); rintro e w' ⟨rfl, ⟨nd, rfl⟩⟩)
            go_roundw
            case rel => exact ⟨k + 1, by omega, by go_num, ⟨by rw [HTS.out]; exact Kd.R_drewN HR.out nd⟩, ⟨pw_below_drewN HB.out nd⟩⟩
            case measure => simp [intOf]; omega
        · obtain rfl : k = xs.length := by omega
          have hlt1 : decide ((xs.length : Int) < (xs.length : Int)) = false := decide_eq_false (by omega)
          rw [List.take_length] at HR
          obtain ⟨A', c', rfl, h1, h2⟩ := Kd.R_reads HR.out
          have H2 := Aside0.mk h2
          clear h2
          go_wp2
          go_ret
          exact ⟨A', c', rfl, h1, ReadsRow.imp_ H2.out (Below.refl _ _) (fun _ _ hp => (Kd.slice 3 (Kd.int .i64)).K_below HBWr.out hp), HBWr.out⟩
theorem taSay_calls (b : Bool) (w : Int) (hw : w = 45 ∨ w = 43 ∨ w = 33) (A : Option Addr) (c : Nat) (xs : List (List Int)) (W : World) (hC : Kd.C (Kd.slice 3 (Kd.int .i64)) W A xs.length xs) (hc : xs.length ≤ c) (ha : ∀ x ∈ xs, Ages x) (hn : xs.length ≤ 4000) :
    Calls Try.prog 69 #[.slice A xs.length c, .string (whoB b), .int .u8 w] W fun e w' => ∃ A' c', e = .returned (.slice A' (xs.filter (keepsW b w xs)).length c') ∧ (xs.filter (keepsW b w xs)).length ≤ c' ∧ Kd.C (Kd.slice 3 (Kd.int .i64)) w' A' (xs.filter (keepsW b w xs)).length (xs.filter (keepsW b w xs)) ∧ Below W.heap.size W w' := by
  rw [← says_stays b w hw xs]
  rcases hw with rfl | rfl | rfl
  · cases b with
    | true => exact taSaytrue45_calls A c xs W hC hc ha hn
    | false => exact taSayfalse45_calls A c xs W hC hc ha hn
  · cases b with
    | true => exact taSaytrue43_calls A c xs W hC hc ha hn
    | false => exact taSayfalse43_calls A c xs W hC hc ha hn
  · cases b with
    | true => exact taSaytrue33_calls A c xs W hC hc ha hn
    | false => exact taSayfalse33_calls A c xs W hC hc ha hn

end Go.Proofs.Ytofkafbcbghkeaa.E
