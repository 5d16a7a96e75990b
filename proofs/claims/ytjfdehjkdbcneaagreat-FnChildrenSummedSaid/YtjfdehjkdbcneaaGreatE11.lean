-- WRITTEN by xprint.py, a program of this session that drives the kit's printer: out of the translation. Lean checks it.
import Derived.Test.YtjfdehjkdbcneaaGreatE0
import Derived.Test.YtjfdehjkdbcneaaGreatE7
import Derived.Test.YtjfdehjkdbcneaaGreatE10
import Derived.Test.YtjfdehjkdbcneaaGreatWm
namespace Go.Proofs.YtjfdehjkdbcneaaGreat.E
open Go.RowKit Go.Proofs.YtjfdehjkdbcneaaGreatW.PrintWords Go.Proofs.YtjfdehjkdbcneaaGreatW.PrintLast Go.Proofs.YtjfdehjkdbcneaaGreatW.PrintMore
attribute [local go_sem] max2_int min2_int max_two min_two max_three min_three max_four min_four   -- for this text's walks alone
set_option linter.unusedVariables false
set_option linter.unusedSimpArgs false

-- OURS, BY HAND
/-! ### spec_siApart: function 41 -/
-- func spec.siApart
-- ext rounds=0 making=1
-- needs impl.sets
-- needs spec.l1Own
def fromA (ap : Int) (l : List Int) : Int := if l.length = 0 then 1 else fromOf l + ap
def cntA (ap left : Int) (l : List Int) : Nat := (min 20 left - fromA ap l + 1).toNat
def bySum : Nat → Int → Int → List Int → List (List Int)
  | 0, left, ap, l => if left = 0 then [l] else []
  | n + 1, left, ap, l => ((List.range (cntA ap left l)).map fun i : Nat => bySum n (left - (fromA ap l + (i : Int))) ap (l ++ [fromA ap l + (i : Int)])).flatten
def sumUpTo (n : Nat) (left ap : Int) (l : List Int) (i : Nat) : List (List Int) := ((List.range i).map fun j : Nat => bySum n (left - (fromA ap l + (j : Int))) ap (l ++ [fromA ap l + (j : Int)])).flatten
theorem sumUpTo_succ (n : Nat) (left ap : Int) (l : List Int) (i : Nat) : sumUpTo n left ap l (i + 1) = sumUpTo n left ap l i ++ bySum n (left - (fromA ap l + (i : Int))) ap (l ++ [fromA ap l + (i : Int)]) := by
  unfold sumUpTo
  rw [List.range_succ, List.map_append, List.flatten_append]
  simp
theorem fromA_pos {ap : Int} {l : List Int} (h : Ages l) (h0 : 0 ≤ ap) (h1 : ap ≤ 20) : 1 ≤ fromA ap l ∧ fromA ap l ≤ 40 := by
  have := h.from_
  unfold fromA
  split <;> omega
theorem bySum_len (n : Nat) (ap : Int) (h0 : 0 ≤ ap) (hap : ap ≤ 20) : ∀ left l, Ages l → (bySum n left ap l).length ≤ 20 ^ n := by
  induction n with
  | zero =>
    intro left l _
    unfold bySum
    split <;> simp
  | succ n ih =>
    intro left l hl
    have hf := fromA_pos hl h0 hap
    have key : ∀ i : Nat, i ≤ cntA ap left l → (sumUpTo n left ap l i).length ≤ i * 20 ^ n := by
      intro i
      induction i with
      | zero => intro _; simp [sumUpTo]
      | succ i ih2 =>
        intro hi
        have hc : (i : Int) + 1 ≤ 21 - fromA ap l := by unfold cntA at hi; omega
        rw [sumUpTo_succ, List.length_append, Nat.succ_mul]
        exact Nat.add_le_add (ih2 (by omega)) (ih _ _ (hl.snoc (by omega) (by omega)))
    have h1 := key (cntA ap left l) (Nat.le_refl _)
    have h2 : cntA ap left l * 20 ^ n ≤ 20 * 20 ^ n := Nat.mul_le_mul_right _ (by unfold cntA; omega)
    rw [Nat.pow_succ, Nat.mul_comm (20 ^ n) 20]
    exact Nat.le_trans h1 h2
theorem sumUpTo_len (n : Nat) (ap left : Int) (l : List Int) (i : Nat) (h0 : 0 ≤ ap) (hap : ap ≤ 20) (hl : Ages l) (hi : i ≤ cntA ap left l) : (sumUpTo n left ap l i).length ≤ i * 20 ^ n := by
  have hf := fromA_pos hl h0 hap
  induction i with
  | zero => simp [sumUpTo]
  | succ i ih2 =>
    have hc : (i : Int) + 1 ≤ 21 - fromA ap l := by unfold cntA at hi; omega
    rw [sumUpTo_succ, List.length_append, Nat.succ_mul]
    exact Nat.add_le_add (ih2 (by omega)) (bySum_len n ap h0 hap _ _ (hl.snoc (by omega) (by omega)))
set_option maxHeartbeats 1600000 in
set_option maxRecDepth 100000 in
theorem bySum_calls (base q : Nat) (ap : Int) (hq : base ≤ q) (ha0 : 0 ≤ ap) (ha1 : ap ≤ 20) (n : Nat) :
    ∀ (left : Int) (l : List Int) (v : Value) (done : List (List Int)) (W0 W : World), l.length + n ≤ 4 → 0 ≤ left → left ≤ 80 → Ages l → Outs base q done W0 → Below W0.heap.size W0 W → base ≤ W0.heap.size → done.length + 20 ^ n ≤ 200000 →
      (Kd.int .i64).R 3 W W0.heap.size (fun _ => True) v l →
      Calls Tryz.prog 66 #[.int .i64 n, .int .i64 left, .int .i64 ap, v, .pointer (some ⟨q, 0, none⟩)] W fun e w' => e = .returned (.tuple #[]) ∧ Outs base q (done ++ bySum n left ap l) w' ∧ Eff base W w' := by
  induction n with
  | zero =>
    intro left l v done W0 W hc l0 l80 ha hI hb hbase hd hR
    obtain ⟨vo, k3, k4⟩ := hI
    have g3 := (hb.block q (blk_lt k3)).trans k3
    have gS := Kd.S_elder' k4 (Kd.R_base hR) hb
    have hbW : base ≤ W.heap.size := Nat.le_trans hbase hb.size
    obtain ⟨A, c, rfl⟩ := Kd.R_slice hR
    have HS := Aside0.mk gS
    have HR := Aside0.mk hR
    have G3 := Aside0.mk g3
    have HBW := Aside0.mk hbW
    by_cases hz : left = 0
    · subst hz
      obtain ⟨Ao, co, rfl⟩ := Kd.S_slice gS
      have hc3 : W.cell? ⟨q, 0, none⟩ = some (.slice Ao done.length co) := (blk_cell g3 0).trans rfl
      have hty := Kd.S_typed gS
      have HTY := Aside0.mk hty
      have HD := Aside0.mk hd
      have HRT := Aside0.mk (Kd.R_mono (Kd.R_tight rfl (Kd.R_apart' (Kd.R_lower hR hbase) hty (by decide))) (fun _ h => h))
      have HRA := Aside0.mk (Kd.R_apart' (Kd.R_lower hR hbase) hty (by decide)).1
      clear k3 k4 g3 gS hbW hR hb hty hd hbase
      go_enter Tryz.func66, Tryz.ntmps66
      go_wp2_with (first | ((with_reducible refine gate_builtin (b := .append) (xs := #[.tmp 19, .tmp 21]) rfl ?_); at_builtin; refine Kd.S_append (Kd.slice 3 (Kd.int .i64)) (w0 := W) base rfl (.tmp 19) (.tmp 21) 26 29 (.slice none 0 0) 24 rfl Tryz.underlying26 infoRows rfl (by decide) (by omega) (.slice Ao done.length co) done l [.slice A l.length c] (fun _ => True) (fun k_ => some k_ = (.slice A l.length c : Value).ownBlock) rfl rfl ?aP (fun k_ hk_ => ⟨trivial, (HRA.out k_ hk_.symm).2⟩) (fun _ _ => trivial) ?aO ?aB ?aS ?aL ?_; (case aP => exact Kd.M_row (by (with_reducible repeat (first | apply Kd.R_alloc | apply Kd.R_drewN)); exact HRT.out)); (case aO => exact Kd.S_mono HS.out (fun _ hk => ⟨trivial, fun e_ => hk.2 e_⟩)); (case aB => exact Below.refl _ _); (case aS => exact HBW.out); (case aL => have := HD.out; simp only [Nat.pow_zero] at this; omega); intro v1 w1 ho hb hg hat; have gq1 := blk_grown G3.out hg (fun he => by obtain ⟨_, hx⟩ := HTY.out q he.symm; rw [G3.out] at hx; cases hx); have hc4 := blk_cell gq1 0; have hfz4 := blk_frozen gq1 0; obtain ⟨A1, c1, rfl⟩ := Kd.S_slice ho; have HO := Aside0.mk ho; have HB1 := Aside0.mk hb; have HG := Aside0.mk hg; have GQ1 := Aside0.mk gq1; clear ho hb hg hat gq1; simp only [List.getElem?_toArray, List.getElem?_cons_zero] at hc4))
      (first | go_end0 | ((try simp only [Exit.inBlock, Exit.then]); refine bodyPost_ret (results_none rfl _ _ _) rfl ?_))
      refine ⟨rfl, ⟨_, one_setCell GQ1.out, ?_⟩, ?_, ?_, ?_⟩
      · have hz := Kd.S_set HO.out GQ1.out (by decide) 0 (.slice A1 (done.length + 1) c1)
        rw [List.length_append] at hz
        exact hz
      · exact HB1.out.setCell hq _
      · have h1 := HG.out.size
        simpa using h1
      · intro k cells hk
        have h1 := blk_grown hk HG.out (fun he => by obtain ⟨_, hx⟩ := HTY.out k he.symm; rw [hk] at hx; cases hx)
        exact (blk_far h1 (blk_ne h1 GQ1.out (by decide)) _).trans hk.symm
    · have hz1 : (left == 0) = false := by simp [hz]
      have HZ := Aside0.mk hz
      clear k3 k4 g3 gS hbW hR hb hd hbase hz
      go_enter Tryz.func66, Tryz.ntmps66
      go_wp2
      (first | go_end0 | ((try simp only [Exit.inBlock, Exit.then]); refine bodyPost_ret (results_none rfl _ _ _) rfl ?_))
      refine ⟨rfl, ⟨vo, G3.out, ?_⟩, Eff.refl _ _⟩
      rw [show bySum 0 left ap l = [] from if_neg HZ.out, List.append_nil]
      exact Kd.S_drop HS.out
  | succ n ih =>
    intro left l v done W0 W hc l0 l80 ha hI hb hbase hd hR
    obtain ⟨A, cc, rfl⟩ := Kd.R_slice hR
    obtain ⟨hn_, hcc, hC⟩ := Kd.R_reads' hR
    have hfa := fromA_pos ha ha0 ha1
    have hfr := ha.from_
    have hl4 : l.length ≤ 4 := by omega
    have hn4 : (n : Int) ≤ 4 := by omega
    have e0 : (((n + 1 : Nat) : Int) == 0) = false := by simp; omega
    have e9 : ((n : Int) + 1 == 0) = false := by simp; omega
    have HA := Aside0.mk ha
    have HR0 := Aside0.mk hR
    have HI0 := Aside0.mk hI
    have HB0 := Aside0.mk hb
    have HD := Aside0.mk hd
    have HC := Aside0.mk hC
    have HN := Aside0.mk hc
    have HF0 := Aside0.mk (rfl : fromA ap l = fromA ap l)
    clear hR hI hb hd hC hn_ ha hc
    by_cases hz : l.length = 0
    · have e2 : decide (0 < l.length) = false := decide_eq_false (by omega)
      have hF : fromA ap l = 1 := by unfold fromA; rw [if_pos hz]
      have HF := Aside0.mk hF
      clear hz hF
      go_enter Tryz.func66, Tryz.ntmps66
      go_wp2
      go_loopw [11] (fun v11 wr => ∃ (i : Nat) (W1 : World), i ≤ cntA ap left l ∧ v11 = .int .i64 (fromA ap l + (i : Int)) ∧ Aside0 (Outs base q (done ++ sumUpTo n left ap l i) W1) ∧ Aside0 (Below W1.heap.size W1 wr) ∧ Aside0 (base ≤ W1.heap.size) ∧ Aside0 (Eff base W wr) ∧ Aside0 ((Kd.int .i64).R 3 wr W0.heap.size (fun _ => True) (.slice A l.length cc) l)) (fun v11 _ => (41 - intOf v11).toNat)
      case atStart => exact ⟨0, W0, Nat.zero_le _, by first | (rw [HF.out]; rfl) | (rw [HF.out]; simp), ⟨by have := HI0.out; simpa [sumUpTo] using this⟩, HB0, ⟨hbase⟩, ⟨Eff.refl _ _⟩, HR0⟩
      case round =>
        obtain ⟨i, W1, hi, rfl, HI, HBW, HBA, HE, HRl⟩ := hrel
        have hcnt : cntA ap left l = (min 20 left - fromA ap l + 1).toNat := rfl
        by_cases hlt : fromA ap l + (i : Int) ≤ 20
        · have hd1 : decide (fromA ap l + (i : Int) ≤ 20) = true := decide_eq_true hlt
          by_cases hlt2 : fromA ap l + (i : Int) ≤ left
          · have hd2 : decide (fromA ap l + (i : Int) ≤ left) = true := decide_eq_true hlt2
            have HLT := Aside0.mk hlt
            have HLT2 := Aside0.mk (show i + 1 ≤ cntA ap left l by omega)
            clear hcnt hi
            have hcl := fun w hr => spec_l1Own.calls A cc l l w hr hcc (by unfold spec_l1Own.f; simp; omega)
            go_wp2_with (first | (go_at_call 49; (with_reducible refine (hcl _ (Kd.R_reads' HRl.out).2.2).mono ?_); rintro e w2 ⟨v2, rfl, hR2, hb2⟩; have HR2 := Aside0.mk hR2; have HB2 := Aside0.mk hb2; clear hR2 hb2; obtain ⟨A2, c2, rfl⟩ := Kd.R_slice HR2.out) | ((with_reducible refine gate_builtin (b := .append) (xs := #[.tmp 52, .tmp 54]) rfl ?_); at_builtin; refine Kd.R_append (Kd.int .i64) (w0 := wr) wr.heap.size rfl (.tmp 52) (.tmp 54) 29 3 (.int .i64 0) 8 rfl Tryz.underlying29 info3 rfl (by decide) (by omega) _ l (fromA ap l + (i : Int)) [.int .i64 (fromA ap l + (i : Int))] (fun _ => True) (fun _ => False) rfl rfl ?aP (fun _ hk => hk.elim) ?aF ?aO ?aB ?aS ?aL ?_; (case aP => exact rfl); (case aB => exact HB2.out); (case aF => exact fun _ _ => trivial); (case aO => exact HR2.out); (case aS => exact HB2.out.size); (case aL => omega); intro v3 w3 ho hb hg hat; have HR3 := Aside0.mk ho; have HB3 := Aside0.mk hb; clear ho hb hg hat))
            have hup : (sumUpTo n left ap l i).length ≤ i * 20 ^ n := sumUpTo_len n ap left l i ha0 ha1 HA.out (by have := HLT2.out; omega)
            have hpow : (i + 1) * 20 ^ n ≤ 20 * 20 ^ n := Nat.mul_le_mul_right _ (by have := HLT.out; omega)
            have hdn : (done ++ sumUpTo n left ap l i).length + 20 ^ n ≤ 200000 := by
              have h1 := HD.out
              rw [Nat.pow_succ, Nat.mul_comm] at h1
              rw [Nat.succ_mul] at hpow
              rw [List.length_append]
              omega
            with_reducible refine (ih (left - (fromA ap l + (i : Int))) (l ++ [fromA ap l + (i : Int)]) v3 (done ++ sumUpTo n left ap l i) W1 w3 (by have := HN.out; simp; omega) (by omega) (by omega) (HA.out.snoc (by omega) HLT.out) HI.out (below_then HBW.out HBW.out.size HB3.out) HBA.out hdn (Kd.R_lower HR3.out HBW.out.size)).mono ?_
            rintro e w4 ⟨rfl, hI4, hE4⟩
            have hE3 : Eff base wr w4 := (Eff.of_below HB3.out (Nat.le_trans HBA.out HBW.out.size)).trans hE4
            have HI4 := Aside0.mk hI4
            have HE4 := Aside0.mk hE3
            clear hI4 hE4 hE3 hup hpow hdn
            go_wp2
            go_roundw
            case rel => exact ⟨i + 1, w4, by have := HLT2.out; omega, by first | go_num | (congr 1; omega), ⟨by rw [sumUpTo_succ, ← List.append_assoc]; exact HI4.out⟩, ⟨Below.refl _ _⟩, ⟨Nat.le_trans HBA.out (Nat.le_trans HBW.out.size HE4.out.size)⟩, ⟨HE.out.trans HE4.out⟩, ⟨Eff.R HRl.out HE4.out⟩⟩
            case measure => simp [intOf]; have := HLT.out; omega
          · have hd2 : decide (fromA ap l + (i : Int) ≤ left) = false := decide_eq_false hlt2
            have hi2 : i = cntA ap left l := by omega
            clear hcnt
            go_wp2
            (first | go_end0 | ((try simp only [Exit.inBlock, Exit.then]); refine bodyPost_ret (results_none rfl _ _ _) rfl ?_))
            refine ⟨rfl, ?_, HE.out⟩
            rw [show bySum (n + 1) left ap l = sumUpTo n left ap l (cntA ap left l) from rfl, ← hi2]
            exact Outs.below _ _ _ HI.out HBW.out
        · have hd1 : decide (fromA ap l + (i : Int) ≤ 20) = false := decide_eq_false hlt
          have hi2 : i = cntA ap left l := by omega
          clear hcnt
          go_wp2
          (first | go_end0 | ((try simp only [Exit.inBlock, Exit.then]); refine bodyPost_ret (results_none rfl _ _ _) rfl ?_))
          refine ⟨rfl, ?_, HE.out⟩
          rw [show bySum (n + 1) left ap l = sumUpTo n left ap l (cntA ap left l) from rfl, ← hi2]
          exact Outs.below _ _ _ HI.out HBW.out
    · have e2 : decide (0 < l.length) = true := decide_eq_true (by omega)
      have hF : fromA ap l = fromOf l + ap := by unfold fromA; rw [if_neg hz]
      have HF := Aside0.mk hF
      obtain ⟨ad, rfl, hx0⟩ := Kd.at_int HC.out ((l.length - 1 : Nat) : Int) (by omega) (by omega)
      rw [Int.toNat_natCast, ← getLast_rd l (by omega)] at hx0
      have p1 : (0 ≤ (l.length : Int) - 1) = True := eq_true (by omega)
      have q1 : ((l.length : Int) - 1 < (l.length : Int)) = True := eq_true (by omega)
      clear hF
      go_enter Tryz.func66, Tryz.ntmps66
      go_wp2
      go_loopw [11] (fun v11 wr => ∃ (i : Nat) (W1 : World), i ≤ cntA ap left l ∧ v11 = .int .i64 (fromA ap l + (i : Int)) ∧ Aside0 (Outs base q (done ++ sumUpTo n left ap l i) W1) ∧ Aside0 (Below W1.heap.size W1 wr) ∧ Aside0 (base ≤ W1.heap.size) ∧ Aside0 (Eff base W wr) ∧ Aside0 ((Kd.int .i64).R 3 wr W0.heap.size (fun _ => True) (.slice (some ad) l.length cc) l)) (fun v11 _ => (41 - intOf v11).toNat)
      case atStart => exact ⟨0, W0, Nat.zero_le _, by first | (rw [HF.out]; rfl) | (rw [HF.out]; simp), ⟨by have := HI0.out; simpa [sumUpTo] using this⟩, HB0, ⟨hbase⟩, ⟨Eff.refl _ _⟩, HR0⟩
      case round =>
        obtain ⟨i, W1, hi, rfl, HI, HBW, HBA, HE, HRl⟩ := hrel
        have hcnt : cntA ap left l = (min 20 left - fromA ap l + 1).toNat := rfl
        by_cases hlt : fromA ap l + (i : Int) ≤ 20
        · have hd1 : decide (fromA ap l + (i : Int) ≤ 20) = true := decide_eq_true hlt
          by_cases hlt2 : fromA ap l + (i : Int) ≤ left
          · have hd2 : decide (fromA ap l + (i : Int) ≤ left) = true := decide_eq_true hlt2
            have HLT := Aside0.mk hlt
            have HLT2 := Aside0.mk (show i + 1 ≤ cntA ap left l by omega)
            clear hcnt hi
            have hcl := fun w hr => spec_l1Own.calls (some ad) cc l l w hr hcc (by unfold spec_l1Own.f; simp; omega)
            go_wp2_with (first | (go_at_call 49; (with_reducible refine (hcl _ (Kd.R_reads' HRl.out).2.2).mono ?_); rintro e w2 ⟨v2, rfl, hR2, hb2⟩; have HR2 := Aside0.mk hR2; have HB2 := Aside0.mk hb2; clear hR2 hb2; obtain ⟨A2, c2, rfl⟩ := Kd.R_slice HR2.out) | ((with_reducible refine gate_builtin (b := .append) (xs := #[.tmp 52, .tmp 54]) rfl ?_); at_builtin; refine Kd.R_append (Kd.int .i64) (w0 := wr) wr.heap.size rfl (.tmp 52) (.tmp 54) 29 3 (.int .i64 0) 8 rfl Tryz.underlying29 info3 rfl (by decide) (by omega) _ l (fromA ap l + (i : Int)) [.int .i64 (fromA ap l + (i : Int))] (fun _ => True) (fun _ => False) rfl rfl ?aP (fun _ hk => hk.elim) ?aF ?aO ?aB ?aS ?aL ?_; (case aP => exact rfl); (case aB => exact HB2.out); (case aF => exact fun _ _ => trivial); (case aO => exact HR2.out); (case aS => exact HB2.out.size); (case aL => omega); intro v3 w3 ho hb hg hat; have HR3 := Aside0.mk ho; have HB3 := Aside0.mk hb; clear ho hb hg hat))
            have hup : (sumUpTo n left ap l i).length ≤ i * 20 ^ n := sumUpTo_len n ap left l i ha0 ha1 HA.out (by have := HLT2.out; omega)
            have hpow : (i + 1) * 20 ^ n ≤ 20 * 20 ^ n := Nat.mul_le_mul_right _ (by have := HLT.out; omega)
            have hdn : (done ++ sumUpTo n left ap l i).length + 20 ^ n ≤ 200000 := by
              have h1 := HD.out
              rw [Nat.pow_succ, Nat.mul_comm] at h1
              rw [Nat.succ_mul] at hpow
              rw [List.length_append]
              omega
            with_reducible refine (ih (left - (fromA ap l + (i : Int))) (l ++ [fromA ap l + (i : Int)]) v3 (done ++ sumUpTo n left ap l i) W1 w3 (by have := HN.out; simp; omega) (by omega) (by omega) (HA.out.snoc (by omega) HLT.out) HI.out (below_then HBW.out HBW.out.size HB3.out) HBA.out hdn (Kd.R_lower HR3.out HBW.out.size)).mono ?_
            rintro e w4 ⟨rfl, hI4, hE4⟩
            have hE3 : Eff base wr w4 := (Eff.of_below HB3.out (Nat.le_trans HBA.out HBW.out.size)).trans hE4
            have HI4 := Aside0.mk hI4
            have HE4 := Aside0.mk hE3
            clear hI4 hE4 hE3 hup hpow hdn
            go_wp2
            go_roundw
            case rel => exact ⟨i + 1, w4, by have := HLT2.out; omega, by first | go_num | (congr 1; omega), ⟨by rw [sumUpTo_succ, ← List.append_assoc]; exact HI4.out⟩, ⟨Below.refl _ _⟩, ⟨Nat.le_trans HBA.out (Nat.le_trans HBW.out.size HE4.out.size)⟩, ⟨HE.out.trans HE4.out⟩, ⟨Eff.R HRl.out HE4.out⟩⟩
            case measure => simp [intOf]; have := HLT.out; omega
          · have hd2 : decide (fromA ap l + (i : Int) ≤ left) = false := decide_eq_false hlt2
            have hi2 : i = cntA ap left l := by omega
            clear hcnt
            go_wp2
            (first | go_end0 | ((try simp only [Exit.inBlock, Exit.then]); refine bodyPost_ret (results_none rfl _ _ _) rfl ?_))
            refine ⟨rfl, ?_, HE.out⟩
            rw [show bySum (n + 1) left ap l = sumUpTo n left ap l (cntA ap left l) from rfl, ← hi2]
            exact Outs.below _ _ _ HI.out HBW.out
        · have hd1 : decide (fromA ap l + (i : Int) ≤ 20) = false := decide_eq_false hlt
          have hi2 : i = cntA ap left l := by omega
          clear hcnt
          go_wp2
          (first | go_end0 | ((try simp only [Exit.inBlock, Exit.then]); refine bodyPost_ret (results_none rfl _ _ _) rfl ?_))
          refine ⟨rfl, ?_, HE.out⟩
          rw [show bySum (n + 1) left ap l = sumUpTo n left ap l (cntA ap left l) from rfl, ← hi2]
          exact Outs.below _ _ _ HI.out HBW.out
def spec_siApart.f (c s ap : Int) : Option (List (List Int)) := if 0 ≤ c ∧ c ≤ 4 ∧ 0 ≤ s ∧ s ≤ 80 ∧ 0 ≤ ap ∧ ap ≤ 20 then some (bySum c.toNat s ap []) else none
set_option maxHeartbeats 1600000 in
set_option maxRecDepth 100000 in
theorem spec_siApart.calls (c s ap : Int) (r : List (List Int)) (W : World) (h : spec_siApart.f c s ap = some r) :
    Calls Tryz.prog 41 #[.int .i64 c, .int .i64 s, .int .i64 ap] W fun e w' => ∃ v, e = .returned v ∧ Kd.S (Kd.slice 3 (Kd.int .i64)) 29 w' W.heap.size (fun _ => True) v r ∧ Below W.heap.size W w' := by
  unfold spec_siApart.f at h
  by_cases hg : 0 ≤ c ∧ c ≤ 4 ∧ 0 ≤ s ∧ s ≤ 80 ∧ 0 ≤ ap ∧ ap ≤ 20
  · rw [if_pos hg] at h
    obtain ⟨h1, h2, h3, h4, h5, h6⟩ := hg
    obtain ⟨n, rfl⟩ : ∃ n : Nat, c = n := ⟨c.toNat, by omega⟩
    simp only [Option.some.injEq] at h
    subst h
    have HS := Aside0.mk (fun (W' : World) (hG : Outs W.heap.size W.heap.size [] W') (hs : W.heap.size ≤ W'.heap.size) =>
      bySum_calls W.heap.size W.heap.size ap (Nat.le_refl _) h5 h6 n s [] (.slice none 0 0) [] W' W' (by simp; omega) h3 h4 (fun x hx => by simp at hx) hG (Below.refl _ _) hs (by have h1 : 20 ^ n ≤ 20 ^ 4 := Nat.pow_le_pow_right (by omega) (by omega); simp; omega) (Kd.R_nil _ _ _ _ _))
    clear h1 h2 h3 h4 h5 h6
    go_enter Tryz.func41, Tryz.ntmps41
    go_wp2_with (go_at_call 66; (with_reducible refine (HS.out _ ?h2 ?h3).mono ?_); (case h2 => exact ⟨_, blk_new _ _, Kd.S_nil _ _ _ _ _⟩); (case h3 => simp); rintro e w' ⟨rfl, hI', hE⟩; obtain ⟨vo, gq, hSo⟩ := hI'; have hc5 := blk_cell gq 0; have HSO := Aside0.mk hSo; have HE := Aside0.mk hE; clear gq hSo hE; simp only [List.getElem?_toArray, List.getElem?_cons_zero] at hc5)
    go_ret
    exact ⟨vo, rfl, HSO.out, (below_alloc (Below.refl _ _) _).trans HE.out.low⟩
  · rw [if_neg hg] at h
    cases h

end Go.Proofs.YtjfdehjkdbcneaaGreat.E
