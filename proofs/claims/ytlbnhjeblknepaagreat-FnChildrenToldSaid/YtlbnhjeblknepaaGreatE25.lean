-- WRITTEN by xprint.py, a program of this session that drives the kit's printer: out of the translation. Lean checks it.
import Derived.Test.YtlbnhjeblknepaaGreatE0
import Derived.Test.YtlbnhjeblknepaaGreatEa
import Derived.Test.YtlbnhjeblknepaaGreatE24
import Derived.Test.YtlbnhjeblknepaaGreatWm
namespace Go.Proofs.YtlbnhjeblknepaaGreat.E
open Go.RowKit Go.Proofs.YtlbnhjeblknepaaGreatW.PrintWords Go.Proofs.YtlbnhjeblknepaaGreatW.PrintLast Go.Proofs.YtlbnhjeblknepaaGreatW.PrintMore
attribute [local go_sem] max2_int min2_int max_two min_two max_three min_three max_four min_four   -- for this text's walks alone
set_option linter.unusedVariables false
set_option linter.unusedSimpArgs false

-- OURS, BY HAND
/-! ### spec_siSets: function 47 -/
-- func spec.siSets
-- ext rounds=0 making=1
-- needs impl.sets
-- needs spec.l1Own
-- import Derived.Deep.RegionLaw
-- import Derived.IntWalk
theorem C_single {w : World} {g : Nat} {a : Int} (h : w.heap[g]? = some (.cells #[.int .i64 a] 3 (0, 0))) : Kd.C (Kd.int .i64) w (some ⟨g, 0, none⟩) 1 [a] := by
  refine ⟨rfl, by omega, fun _ => ⟨_, rfl, fun j p hj => ?_⟩⟩
  match j, hj with
  | 0, hj =>
    obtain rfl : a = p := by simpa using hj
    refine ⟨[.int .i64 a], rfl, rfl, fun i u hu => ?_⟩
    match i, hu with
    | 0, hu => exact (blk_cell h 0).trans hu
def lookSets : Nat → Int → List Int → List (List Int)
  | 0, left, l => if left = 1 then [l] else []
  | n + 1, left, l => ((List.range (21 - fromOf l).toNat).map fun i : Nat => if left.tmod (fromOf l + (i : Int)) = 0 then lookSets n (left.tdiv (fromOf l + (i : Int))) (l ++ [fromOf l + (i : Int)]) else []).flatten
def lookUpTo (n : Nat) (left : Int) (l : List Int) (i : Nat) : List (List Int) := ((List.range i).map fun j : Nat => if left.tmod (fromOf l + (j : Int)) = 0 then lookSets n (left.tdiv (fromOf l + (j : Int))) (l ++ [fromOf l + (j : Int)]) else []).flatten
theorem lookUpTo_succ (n : Nat) (left : Int) (l : List Int) (i : Nat) : lookUpTo n left l (i + 1) = lookUpTo n left l i ++ if left.tmod (fromOf l + (i : Int)) = 0 then lookSets n (left.tdiv (fromOf l + (i : Int))) (l ++ [fromOf l + (i : Int)]) else [] := by
  unfold lookUpTo
  rw [List.range_succ, List.map_append, List.flatten_append]
  simp
theorem look_len (n : Nat) : ∀ left l, Ages l → (lookSets n left l).length ≤ 20 ^ n := by
  induction n with
  | zero =>
    intro left l _
    unfold lookSets
    split <;> simp
  | succ n ih =>
    intro left l hl
    have hf := hl.from_
    have key : ∀ i : Nat, (i : Int) ≤ 21 - fromOf l → (lookUpTo n left l i).length ≤ i * 20 ^ n := by
      intro i
      induction i with
      | zero => intro _; simp [lookUpTo]
      | succ i ih2 =>
        intro hi
        rw [lookUpTo_succ, List.length_append, Nat.succ_mul]
        refine Nat.add_le_add (ih2 (by omega)) ?_
        split
        · exact ih _ _ (hl.snoc (by omega) (by omega))
        · simp
    have h1 := key (21 - fromOf l).toNat (by omega)
    have h2 : (21 - fromOf l).toNat * 20 ^ n ≤ 20 * 20 ^ n := Nat.mul_le_mul_right _ (by omega)
    rw [Nat.pow_succ, Nat.mul_comm (20 ^ n) 20]
    exact Nat.le_trans h1 h2
theorem lookUpTo_len (n : Nat) (left : Int) (l : List Int) (i : Nat) (hl : Ages l) (hi : (i : Int) ≤ 21 - fromOf l) : (lookUpTo n left l i).length ≤ i * 20 ^ n := by
  have hf := hl.from_
  induction i with
  | zero => simp [lookUpTo]
  | succ i ih2 =>
    rw [lookUpTo_succ, List.length_append, Nat.succ_mul]
    refine Nat.add_le_add (ih2 (by omega)) ?_
    split
    · exact look_len n _ _ (hl.snoc (by omega) (by omega))
    · simp
theorem tdiv_range (left a : Int) (h1 : 1 ≤ left) (h2 : left ≤ 200000) (ha : 1 ≤ a) (hm : left.tmod a = 0) : 1 ≤ left.tdiv a ∧ left.tdiv a ≤ 200000 := by
  have e := Int.mul_tdiv_add_tmod left a
  rw [hm, Int.add_zero] at e
  have h0 : 0 ≤ left.tdiv a := Int.tdiv_nonneg (by omega) (by omega)
  constructor
  · rcases Int.lt_or_le 0 (left.tdiv a) with h | h
    · omega
    · have : left.tdiv a = 0 := by omega
      rw [this, Int.mul_zero] at e
      omega
  · have : 1 * left.tdiv a ≤ a * left.tdiv a := Int.mul_le_mul_of_nonneg_right ha h0
    omega
set_option maxHeartbeats 2000000 in
set_option maxRecDepth 100000 in
theorem look_calls (base q : Nat) (hq : base ≤ q) (n : Nat) :
    ∀ (left : Int) (l : List Int) (v : Value) (done : List (List Int)) (W0 W : World), l.length + n ≤ 4 → 1 ≤ left → left ≤ 200000 → Ages l → Outs base q done W0 → Below W0.heap.size W0 W → base ≤ W0.heap.size → done.length + 20 ^ n ≤ 200000 →
      (Kd.int .i64).R 3 W W0.heap.size (fun _ => True) v l →
      Calls Tryz.prog 83 #[.int .i64 n, .int .i64 left, v, .pointer (some ⟨q, 0, none⟩)] W fun e w' => e = .returned (.tuple #[]) ∧ Outs base q (done ++ lookSets n left l) w' ∧ Eff base W w' := by
  induction n with
  | zero =>
    intro left l v done W0 W hc l0 l80 ha hI hb hbase hd hR
    obtain ⟨vo, k3, k4⟩ := hI
    have g3 := (hb.block q (blk_lt k3)).trans k3
    have gS := Kd.S_elder' k4 (Kd.R_base hR) hb
    have hbW : base ≤ W.heap.size := Nat.le_trans hbase hb.size
    obtain ⟨A, c, rfl⟩ := Kd.R_slice hR
    have HS := Aside0.mk gS
    have HR := Aside0.mk hR
    have G3 := Aside0.mk g3
    have HBW := Aside0.mk hbW
    by_cases hz : left = 1
    · subst hz
      obtain ⟨Ao, co, rfl⟩ := Kd.S_slice gS
      have hc3 : W.cell? ⟨q, 0, none⟩ = some (.slice Ao done.length co) := (blk_cell g3 0).trans rfl
      have hty := Kd.S_typed gS
      have HTY := Aside0.mk hty
      have HD := Aside0.mk hd
      have HRT := Aside0.mk (Kd.R_mono (Kd.R_tight rfl (Kd.R_apart' (Kd.R_lower hR hbase) hty (by decide))) (fun _ h => h))
      have HRA := Aside0.mk (Kd.R_apart' (Kd.R_lower hR hbase) hty (by decide)).1
      clear k3 k4 g3 gS hbW hR hb hty hd hbase
      go_enter Tryz.func83, Tryz.ntmps83
      go_wp2_with (first | ((with_reducible refine gate_builtin (b := .append) (xs := #[.tmp 17, .tmp 19]) rfl ?_); at_builtin; refine Kd.S_append (Kd.slice 3 (Kd.int .i64)) (w0 := W) base rfl (.tmp 17) (.tmp 19) 26 31 (.slice none 0 0) 24 rfl Tryz.underlying26 infoRows rfl (by decide) (by omega) (.slice Ao done.length co) done l [.slice A l.length c] (fun _ => True) (fun k_ => some k_ = (.slice A l.length c : Value).ownBlock) rfl rfl ?aP (fun k_ hk_ => ⟨trivial, (HRA.out k_ hk_.symm).2⟩) (fun _ _ => trivial) ?aO ?aB ?aS ?aL ?_; (case aP => exact Kd.M_row (by (with_reducible repeat (first | apply Kd.R_alloc | apply Kd.R_drewN)); exact HRT.out)); (case aO => exact Kd.S_mono HS.out (fun _ hk => ⟨trivial, fun e_ => hk.2 e_⟩)); (case aB => exact Below.refl _ _); (case aS => exact HBW.out); (case aL => have := HD.out; simp only [Nat.pow_zero] at this; omega); intro v1 w1 ho hb hg hat; have gq1 := blk_grown G3.out hg (fun he => by obtain ⟨_, hx⟩ := HTY.out q he.symm; rw [G3.out] at hx; cases hx); have hc4 := blk_cell gq1 0; have hfz4 := blk_frozen gq1 0; obtain ⟨A1, c1, rfl⟩ := Kd.S_slice ho; have HO := Aside0.mk ho; have HB1 := Aside0.mk hb; have HG := Aside0.mk hg; have GQ1 := Aside0.mk gq1; clear ho hb hg hat gq1; simp only [List.getElem?_toArray, List.getElem?_cons_zero] at hc4))
      (first | go_end0 | ((try simp only [Exit.inBlock, Exit.then]); refine bodyPost_ret (results_none rfl _ _ _) rfl ?_))
      refine ⟨rfl, ⟨_, one_setCell GQ1.out, ?_⟩, ?_, ?_, ?_⟩
      · have hz := Kd.S_set HO.out GQ1.out (by decide) 0 (.slice A1 (done.length + 1) c1)
        rw [List.length_append] at hz
        exact hz
      · exact HB1.out.setCell hq _
      · have h1 := HG.out.size
        simpa using h1
      · intro k cells hk
        have h1 := blk_grown hk HG.out (fun he => by obtain ⟨_, hx⟩ := HTY.out k he.symm; rw [hk] at hx; cases hx)
        exact (blk_far h1 (blk_ne h1 GQ1.out (by decide)) _).trans hk.symm
    · have hz1 : (left == 1) = false := by simp [hz]
      have HZ := Aside0.mk hz
      clear k3 k4 g3 gS hbW hR hb hd hbase hz
      go_enter Tryz.func83, Tryz.ntmps83
      go_wp2
      (first | go_end0 | ((try simp only [Exit.inBlock, Exit.then]); refine bodyPost_ret (results_none rfl _ _ _) rfl ?_))
      refine ⟨rfl, ⟨vo, G3.out, ?_⟩, Eff.refl _ _⟩
      rw [show lookSets 0 left l = [] from if_neg HZ.out, List.append_nil]
      exact Kd.S_drop HS.out
  | succ n ih =>
    intro left l v done W0 W hc l0 l80 ha hI hb hbase hd hR
    obtain ⟨A, cc, rfl⟩ := Kd.R_slice hR
    obtain ⟨hn_, hcc, hC⟩ := Kd.R_reads' hR
    have hfr := ha.from_
    have hl4 : l.length ≤ 4 := by omega
    have hn4 : (n : Int) ≤ 4 := by omega
    have e0 : (((n + 1 : Nat) : Int) == 0) = false := by simp; omega
    have e9 : ((n : Int) + 1 == 0) = false := by simp; omega
    have HA := Aside0.mk ha
    have HR0 := Aside0.mk hR
    have HI0 := Aside0.mk hI
    have HB0 := Aside0.mk hb
    have HD := Aside0.mk hd
    have HC := Aside0.mk hC
    have HN := Aside0.mk hc
    clear hR hI hb hd hC hn_ ha hc
    by_cases hz : l.length = 0
    · have e2 : decide (0 < l.length) = false := decide_eq_false (by omega)
      have hF : fromOf l = 1 := by rw [List.eq_nil_of_length_eq_zero hz]; rfl
      have HF := Aside0.mk hF
      clear hz hF
      rw [show (((n + 1 : Nat) : Int)) = (n : Int) + 1 from rfl]
      go_enter Tryz.func83, Tryz.ntmps83
      go_wp2
      go_loopw [9] (fun v9 wr => ∃ (i : Nat) (W1 : World), (i : Int) ≤ 21 - fromOf l ∧ v9 = .int .i64 (fromOf l + (i : Int)) ∧ Aside0 (Outs base q (done ++ lookUpTo n left l i) W1) ∧ Aside0 (Below W1.heap.size W1 wr) ∧ Aside0 (base ≤ W1.heap.size) ∧ Aside0 (Eff base W wr) ∧ Aside0 ((Kd.int .i64).R 3 wr W0.heap.size (fun _ => True) (.slice A l.length cc) l)) (fun v9 _ => (21 - intOf v9).toNat)
      case atStart => exact ⟨0, W0, by omega, by first | (rw [HF.out]; rfl) | simp, ⟨by have := HI0.out; simpa [lookUpTo] using this⟩, HB0, ⟨hbase⟩, ⟨Eff.refl _ _⟩, HR0⟩
      case round =>
        obtain ⟨i, W1, hi, rfl, HI, HBW, HBA, HE, HRl⟩ := hrel
        by_cases hlt : fromOf l + (i : Int) ≤ 20
        · have hd1 : decide (fromOf l + (i : Int) ≤ 20) = true := decide_eq_true hlt
          have HLT := Aside0.mk hlt
          have hne : fromOf l + (i : Int) ≠ 0 := by omega
          have hne2 : (fromOf l + (i : Int) == 0) = false := by simp; omega
          have hm0 : 0 ≤ left.tmod (fromOf l + (i : Int)) := Int.tmod_nonneg _ (by omega)
          have hm1 : left.tmod (fromOf l + (i : Int)) < fromOf l + (i : Int) := Int.tmod_lt_of_pos _ (by omega)
          by_cases hmod : left.tmod (fromOf l + (i : Int)) = 0
          · have hmb : (left.tmod (fromOf l + (i : Int)) == 0) = true := by simp [hmod]
            obtain ⟨ht1, ht2⟩ := tdiv_range left (fromOf l + (i : Int)) l0 l80 (by omega) hmod
            have hcl := fun w hr => spec_l1Own.calls A cc l l w hr hcc (by unfold spec_l1Own.f; simp; omega)
            go_wp2
            have hw1 : IntKind.i64.wrap (n : Int) = n := IntWalk.i64_in _ (by omega)
            have hw2 : IntKind.i64.wrap (left.tdiv (fromOf l + (i : Int))) = left.tdiv (fromOf l + (i : Int)) := IntWalk.i64_in _ (by omega)
            have HIH := Aside0.mk (fun (v3 : Value) (w3 : World) (hB : Below wr.heap.size wr w3) (hR3 : (Kd.int .i64).R 3 w3 wr.heap.size (fun _ => True) v3 (l ++ [fromOf l + (i : Int)])) =>
              have hup : (lookUpTo n left l i).length ≤ i * 20 ^ n := lookUpTo_len n left l i HA.out hi
              have hpow : (i + 1) * 20 ^ n ≤ 20 * 20 ^ n := Nat.mul_le_mul_right _ (by have := HLT.out; omega)
              have hdn : (done ++ lookUpTo n left l i).length + 20 ^ n ≤ 200000 := by
                have h1 := HD.out
                rw [Nat.pow_succ, Nat.mul_comm] at h1
                rw [Nat.succ_mul] at hpow
                rw [List.length_append]
                omega
              ih (left.tdiv (fromOf l + (i : Int))) (l ++ [fromOf l + (i : Int)]) v3 (done ++ lookUpTo n left l i) W1 w3 (by have := HN.out; simp; omega) ht1 ht2 (HA.out.snoc (by omega) HLT.out) HI.out (below_then HBW.out HBW.out.size hB) HBA.out hdn (Kd.R_lower hR3 HBW.out.size))
            have HMOD := Aside0.mk hmod
            go_region_law (first | (refine goes_ Tryz.func108 (by kernel_rfl) rfl #[.slice A l.length cc] (by rfl) rfl rfl (by first | kernel_rfl | (simp [Act.eval, Act.put]; done)) ?_; (with_reducible refine (hcl _ ?hC).mono ?_); (case hC => (repeat (first | exact (Kd.R_reads' HRl.out).2.2 | refine Kd.C_alloc ?_ _ | refine Kd.C_drew ?_))); rintro e w2 ⟨v2, rfl, hR2, hb2⟩; obtain ⟨A2, c2, rfl⟩ := Kd.R_slice hR2; refine ⟨_, rfl, ?_⟩; have HR2 := Aside0.mk hR2; have HB2 := Aside0.mk hb2; clear hR2 hb2) | (refine Kd.R_append_rows_step (Kd.int .i64) (w0 := wr) wr.heap.size (by rfl) (.tmp 46) (.tmp 48) 31 3 (.int .i64 0) 8 rfl Tryz.underlying31 info3 rfl (by decide) (by omega) (.slice A2 l.length c2) l [fromOf l + (i : Int)] (some ⟨w2.heap.size, 0, none⟩) 1 1 (fun _ => True) (fun _ => False) (by first | kernel_rfl | (simp [Act.eval, Act.put]; done)) (by first | kernel_rfl | (simp [Act.eval, Act.put]; done)) ?aO ?aR (fun _ _ h => h) (fun _ h => h.elim) ?aF ?aB ?aS ?aL ?_; (case aR => first | exact C_single (blk_new _ _) | exact C_single (blk_below (blk_drew (blk_new _ _)) HB2.out)); (case aB => first | exact below_alloc (below_then (below_drew (Below.refl _ _)) (by simp) HB2.out) _ | exact below_then (below_drew (below_alloc (Below.refl _ _) _)) (by simp) HB2.out); (case aF => exact fun _ _ => trivial); (case aO => first | exact Kd.R_alloc (Kd.R_lower HR2.out (by simp)) _ | exact Kd.R_lower HR2.out (by simp)); (case aS => first | (have := HB2.out.size; simp at this ⊢; omega)); (case aL => omega); intro v3 w3 ho hb hg hat; have HR3 := Aside0.mk ho; have HB3 := Aside0.mk hb; clear ho hb hg hat HR2 HB2) | (refine goes_ Tryz.func83 (by kernel_rfl) rfl #[.int .i64 n, .int .i64 (left.tdiv (fromOf l + (i : Int))), v3, .pointer (some ⟨q, 0, none⟩)] (by rfl) rfl rfl (by first | kernel_rfl | (simp [Act.eval, Act.put]; done)) ?_; (with_reducible refine (HIH.out _ _ HB3.out HR3.out).mono ?_); rintro e w4 ⟨rfl, hI4, hE4⟩; refine ⟨_, rfl, ?_⟩; have HI4 := Aside0.mk hI4; have HE4 := Aside0.mk ((Eff.of_below HB3.out (Nat.le_trans HBA.out HBW.out.size)).trans hE4); clear hI4 hE4 HR3 HB3) | (refine Kd.R_append_rows_step (Kd.int .i64) (w0 := wr) wr.heap.size (by rfl) (.tmp 46) (.tmp 48) 31 3 (.int .i64 0) 8 rfl Tryz.underlying31 info3 rfl (by decide) (by omega) (.slice A2 l.length c2) l [fromOf l + (i : Int)] (some ⟨wr.heap.size, 0, none⟩) 1 1 (fun _ => True) (fun _ => False) (by first | kernel_rfl | (simp [Act.eval, Act.put]; done)) (by first | kernel_rfl | (simp [Act.eval, Act.put]; done)) ?aO ?aR (fun _ _ h => h) (fun _ h => h.elim) ?aF ?aB ?aS ?aL ?_; (case aR => first | exact C_single (blk_new _ _) | exact C_single (blk_below (blk_drew (blk_new _ _)) HB2.out)); (case aB => first | exact below_alloc (below_then (below_drew (Below.refl _ _)) (by simp) HB2.out) _ | exact below_then (below_drew (below_alloc (Below.refl _ _) _)) (by simp) HB2.out); (case aF => exact fun _ _ => trivial); (case aO => first | exact Kd.R_alloc (Kd.R_lower HR2.out (by simp)) _ | exact Kd.R_lower HR2.out (by simp)); (case aS => first | (have := HB2.out.size; simp at this ⊢; omega)); (case aL => omega); intro v3 w3 ho hb hg hat; have HR3 := Aside0.mk ho; have HB3 := Aside0.mk hb; clear ho hb hg hat HR2 HB2))
            all_goals clear HIH hcl
            · go_wp2
              go_roundw
              case rel => exact ⟨i + 1, w4, by have := HLT.out; omega, by first | go_num | (congr 1; omega), ⟨by rw [lookUpTo_succ, if_pos HMOD.out, ← List.append_assoc]; exact HI4.out⟩, ⟨Below.refl _ _⟩, ⟨Nat.le_trans HBA.out (Nat.le_trans HBW.out.size HE4.out.size)⟩, ⟨HE.out.trans HE4.out⟩, ⟨Eff.R HRl.out HE4.out⟩⟩
              case measure => simp [intOf]; have := HLT.out; omega
            · go_wp2
              go_roundw
              case rel => exact ⟨i + 1, w4, by have := HLT.out; omega, by first | go_num | (congr 1; omega), ⟨by rw [lookUpTo_succ, if_pos HMOD.out, ← List.append_assoc]; exact HI4.out⟩, ⟨Below.refl _ _⟩, ⟨Nat.le_trans HBA.out (Nat.le_trans HBW.out.size HE4.out.size)⟩, ⟨HE.out.trans HE4.out⟩, ⟨Eff.R HRl.out HE4.out⟩⟩
              case measure => simp [intOf]; have := HLT.out; omega
          · have hmb : (left.tmod (fromOf l + (i : Int)) == 0) = false := by simp [hmod]
            have HM := Aside0.mk hmod
            have hmb2 : (left % (fromOf l + (i : Int)) == 0) = false := by rw [← Int.tmod_eq_emod_of_nonneg (by omega)]; exact hmb
            go_wp2
            go_roundw
            case rel => exact ⟨i + 1, W1, by have := HLT.out; omega, by first | go_num | (congr 1; omega), ⟨by rw [lookUpTo_succ, if_neg HM.out, List.append_nil]; exact HI.out⟩, by first | exact HBW | exact ⟨by repeat (first | exact HBW.out | apply pw_below_drewN)⟩, HBA, by first | exact HE | (exact ⟨HE.out.trans (Eff.of_below (by repeat (first | exact Below.refl _ _ | apply pw_below_drewN)) (Nat.le_trans HBA.out HBW.out.size))⟩), by first | exact HRl | exact ⟨Kd.R_drewN HRl.out _⟩⟩
            case measure => simp [intOf]; have := HLT.out; omega
        · have hd1 : decide (fromOf l + (i : Int) ≤ 20) = false := decide_eq_false hlt
          have hi2 : i = (21 - fromOf l).toNat := by omega
          go_wp2
          (first | go_end0 | ((try simp only [Exit.inBlock, Exit.then]); refine bodyPost_ret (results_none rfl _ _ _) rfl ?_))
          refine ⟨rfl, ?_, HE.out⟩
          rw [show lookSets (n + 1) left l = lookUpTo n left l (21 - fromOf l).toNat from rfl, ← hi2]
          exact Outs.below _ _ _ HI.out HBW.out
    · have e2 : decide (0 < l.length) = true := decide_eq_true (by omega)
      obtain ⟨ad, rfl, hx0⟩ := Kd.at_int HC.out ((l.length - 1 : Nat) : Int) (by omega) (by omega)
      rw [Int.toNat_natCast, ← getLast_rd l (by omega)] at hx0
      have p1 : (0 ≤ (l.length : Int) - 1) = True := eq_true (by omega)
      have q1 : ((l.length : Int) - 1 < (l.length : Int)) = True := eq_true (by omega)
      rw [show (((n + 1 : Nat) : Int)) = (n : Int) + 1 from rfl]
      go_enter Tryz.func83, Tryz.ntmps83
      go_wp2
      go_loopw [9] (fun v9 wr => ∃ (i : Nat) (W1 : World), (i : Int) ≤ 21 - fromOf l ∧ v9 = .int .i64 (fromOf l + (i : Int)) ∧ Aside0 (Outs base q (done ++ lookUpTo n left l i) W1) ∧ Aside0 (Below W1.heap.size W1 wr) ∧ Aside0 (base ≤ W1.heap.size) ∧ Aside0 (Eff base W wr) ∧ Aside0 ((Kd.int .i64).R 3 wr W0.heap.size (fun _ => True) (.slice (some ad) l.length cc) l)) (fun v9 _ => (21 - intOf v9).toNat)
      case atStart => exact ⟨0, W0, by omega, by first | (rw [HF.out]; rfl) | simp, ⟨by have := HI0.out; simpa [lookUpTo] using this⟩, HB0, ⟨hbase⟩, ⟨Eff.refl _ _⟩, HR0⟩
      case round =>
        obtain ⟨i, W1, hi, rfl, HI, HBW, HBA, HE, HRl⟩ := hrel
        by_cases hlt : fromOf l + (i : Int) ≤ 20
        · have hd1 : decide (fromOf l + (i : Int) ≤ 20) = true := decide_eq_true hlt
          have HLT := Aside0.mk hlt
          have hne : fromOf l + (i : Int) ≠ 0 := by omega
          have hne2 : (fromOf l + (i : Int) == 0) = false := by simp; omega
          have hm0 : 0 ≤ left.tmod (fromOf l + (i : Int)) := Int.tmod_nonneg _ (by omega)
          have hm1 : left.tmod (fromOf l + (i : Int)) < fromOf l + (i : Int) := Int.tmod_lt_of_pos _ (by omega)
          by_cases hmod : left.tmod (fromOf l + (i : Int)) = 0
          · have hmb : (left.tmod (fromOf l + (i : Int)) == 0) = true := by simp [hmod]
            obtain ⟨ht1, ht2⟩ := tdiv_range left (fromOf l + (i : Int)) l0 l80 (by omega) hmod
            have hcl := fun w hr => spec_l1Own.calls (some ad) cc l l w hr hcc (by unfold spec_l1Own.f; simp; omega)
            go_wp2
            have hw1 : IntKind.i64.wrap (n : Int) = n := IntWalk.i64_in _ (by omega)
            have hw2 : IntKind.i64.wrap (left.tdiv (fromOf l + (i : Int))) = left.tdiv (fromOf l + (i : Int)) := IntWalk.i64_in _ (by omega)
            have HIH := Aside0.mk (fun (v3 : Value) (w3 : World) (hB : Below wr.heap.size wr w3) (hR3 : (Kd.int .i64).R 3 w3 wr.heap.size (fun _ => True) v3 (l ++ [fromOf l + (i : Int)])) =>
              have hup : (lookUpTo n left l i).length ≤ i * 20 ^ n := lookUpTo_len n left l i HA.out hi
              have hpow : (i + 1) * 20 ^ n ≤ 20 * 20 ^ n := Nat.mul_le_mul_right _ (by have := HLT.out; omega)
              have hdn : (done ++ lookUpTo n left l i).length + 20 ^ n ≤ 200000 := by
                have h1 := HD.out
                rw [Nat.pow_succ, Nat.mul_comm] at h1
                rw [Nat.succ_mul] at hpow
                rw [List.length_append]
                omega
              ih (left.tdiv (fromOf l + (i : Int))) (l ++ [fromOf l + (i : Int)]) v3 (done ++ lookUpTo n left l i) W1 w3 (by have := HN.out; simp; omega) ht1 ht2 (HA.out.snoc (by omega) HLT.out) HI.out (below_then HBW.out HBW.out.size hB) HBA.out hdn (Kd.R_lower hR3 HBW.out.size))
            have HMOD := Aside0.mk hmod
            go_region_law (first | (refine goes_ Tryz.func108 (by kernel_rfl) rfl #[.slice (some ad) l.length cc] (by rfl) rfl rfl (by first | kernel_rfl | (simp [Act.eval, Act.put]; done)) ?_; (with_reducible refine (hcl _ ?hC).mono ?_); (case hC => (repeat (first | exact (Kd.R_reads' HRl.out).2.2 | refine Kd.C_alloc ?_ _ | refine Kd.C_drew ?_))); rintro e w2 ⟨v2, rfl, hR2, hb2⟩; obtain ⟨A2, c2, rfl⟩ := Kd.R_slice hR2; refine ⟨_, rfl, ?_⟩; have HR2 := Aside0.mk hR2; have HB2 := Aside0.mk hb2; clear hR2 hb2) | (refine Kd.R_append_rows_step (Kd.int .i64) (w0 := wr) wr.heap.size (by rfl) (.tmp 46) (.tmp 48) 31 3 (.int .i64 0) 8 rfl Tryz.underlying31 info3 rfl (by decide) (by omega) (.slice A2 l.length c2) l [fromOf l + (i : Int)] (some ⟨w2.heap.size, 0, none⟩) 1 1 (fun _ => True) (fun _ => False) (by first | kernel_rfl | (simp [Act.eval, Act.put]; done)) (by first | kernel_rfl | (simp [Act.eval, Act.put]; done)) ?aO ?aR (fun _ _ h => h) (fun _ h => h.elim) ?aF ?aB ?aS ?aL ?_; (case aR => first | exact C_single (blk_new _ _) | exact C_single (blk_below (blk_drew (blk_new _ _)) HB2.out)); (case aB => first | exact below_alloc (below_then (below_drew (Below.refl _ _)) (by simp) HB2.out) _ | exact below_then (below_drew (below_alloc (Below.refl _ _) _)) (by simp) HB2.out); (case aF => exact fun _ _ => trivial); (case aO => first | exact Kd.R_alloc (Kd.R_lower HR2.out (by simp)) _ | exact Kd.R_lower HR2.out (by simp)); (case aS => first | (have := HB2.out.size; simp at this ⊢; omega)); (case aL => omega); intro v3 w3 ho hb hg hat; have HR3 := Aside0.mk ho; have HB3 := Aside0.mk hb; clear ho hb hg hat HR2 HB2) | (refine goes_ Tryz.func83 (by kernel_rfl) rfl #[.int .i64 n, .int .i64 (left.tdiv (fromOf l + (i : Int))), v3, .pointer (some ⟨q, 0, none⟩)] (by rfl) rfl rfl (by first | kernel_rfl | (simp [Act.eval, Act.put]; done)) ?_; (with_reducible refine (HIH.out _ _ HB3.out HR3.out).mono ?_); rintro e w4 ⟨rfl, hI4, hE4⟩; refine ⟨_, rfl, ?_⟩; have HI4 := Aside0.mk hI4; have HE4 := Aside0.mk ((Eff.of_below HB3.out (Nat.le_trans HBA.out HBW.out.size)).trans hE4); clear hI4 hE4 HR3 HB3) | (refine Kd.R_append_rows_step (Kd.int .i64) (w0 := wr) wr.heap.size (by rfl) (.tmp 46) (.tmp 48) 31 3 (.int .i64 0) 8 rfl Tryz.underlying31 info3 rfl (by decide) (by omega) (.slice A2 l.length c2) l [fromOf l + (i : Int)] (some ⟨wr.heap.size, 0, none⟩) 1 1 (fun _ => True) (fun _ => False) (by first | kernel_rfl | (simp [Act.eval, Act.put]; done)) (by first | kernel_rfl | (simp [Act.eval, Act.put]; done)) ?aO ?aR (fun _ _ h => h) (fun _ h => h.elim) ?aF ?aB ?aS ?aL ?_; (case aR => first | exact C_single (blk_new _ _) | exact C_single (blk_below (blk_drew (blk_new _ _)) HB2.out)); (case aB => first | exact below_alloc (below_then (below_drew (Below.refl _ _)) (by simp) HB2.out) _ | exact below_then (below_drew (below_alloc (Below.refl _ _) _)) (by simp) HB2.out); (case aF => exact fun _ _ => trivial); (case aO => first | exact Kd.R_alloc (Kd.R_lower HR2.out (by simp)) _ | exact Kd.R_lower HR2.out (by simp)); (case aS => first | (have := HB2.out.size; simp at this ⊢; omega)); (case aL => omega); intro v3 w3 ho hb hg hat; have HR3 := Aside0.mk ho; have HB3 := Aside0.mk hb; clear ho hb hg hat HR2 HB2))
            all_goals clear HIH hcl
            · go_wp2
              go_roundw
              case rel => exact ⟨i + 1, w4, by have := HLT.out; omega, by first | go_num | (congr 1; omega), ⟨by rw [lookUpTo_succ, if_pos HMOD.out, ← List.append_assoc]; exact HI4.out⟩, ⟨Below.refl _ _⟩, ⟨Nat.le_trans HBA.out (Nat.le_trans HBW.out.size HE4.out.size)⟩, ⟨HE.out.trans HE4.out⟩, ⟨Eff.R HRl.out HE4.out⟩⟩
              case measure => simp [intOf]; have := HLT.out; omega
            · go_wp2
              go_roundw
              case rel => exact ⟨i + 1, w4, by have := HLT.out; omega, by first | go_num | (congr 1; omega), ⟨by rw [lookUpTo_succ, if_pos HMOD.out, ← List.append_assoc]; exact HI4.out⟩, ⟨Below.refl _ _⟩, ⟨Nat.le_trans HBA.out (Nat.le_trans HBW.out.size HE4.out.size)⟩, ⟨HE.out.trans HE4.out⟩, ⟨Eff.R HRl.out HE4.out⟩⟩
              case measure => simp [intOf]; have := HLT.out; omega
          · have hmb : (left.tmod (fromOf l + (i : Int)) == 0) = false := by simp [hmod]
            have HM := Aside0.mk hmod
            have hmb2 : (left % (fromOf l + (i : Int)) == 0) = false := by rw [← Int.tmod_eq_emod_of_nonneg (by omega)]; exact hmb
            go_wp2
            go_roundw
            case rel => exact ⟨i + 1, W1, by have := HLT.out; omega, by first | go_num | (congr 1; omega), ⟨by rw [lookUpTo_succ, if_neg HM.out, List.append_nil]; exact HI.out⟩, by first | exact HBW | exact ⟨by repeat (first | exact HBW.out | apply pw_below_drewN)⟩, HBA, by first | exact HE | (exact ⟨HE.out.trans (Eff.of_below (by repeat (first | exact Below.refl _ _ | apply pw_below_drewN)) (Nat.le_trans HBA.out HBW.out.size))⟩), by first | exact HRl | exact ⟨Kd.R_drewN HRl.out _⟩⟩
            case measure => simp [intOf]; have := HLT.out; omega
        · have hd1 : decide (fromOf l + (i : Int) ≤ 20) = false := decide_eq_false hlt
          have hi2 : i = (21 - fromOf l).toNat := by omega
          go_wp2
          (first | go_end0 | ((try simp only [Exit.inBlock, Exit.then]); refine bodyPost_ret (results_none rfl _ _ _) rfl ?_))
          refine ⟨rfl, ?_, HE.out⟩
          rw [show lookSets (n + 1) left l = lookUpTo n left l (21 - fromOf l).toNat from rfl, ← hi2]
          exact Outs.below _ _ _ HI.out HBW.out
def spec_siSets.f (c p : Int) : Option (List (List Int)) := if 0 ≤ c ∧ c ≤ 4 ∧ 1 ≤ p ∧ p ≤ 200000 then some (lookSets c.toNat p []) else none
set_option maxHeartbeats 2000000 in
set_option maxRecDepth 100000 in
theorem spec_siSets.calls (c p : Int) (r : List (List Int)) (W : World) (h : spec_siSets.f c p = some r) :
    Calls Tryz.prog 47 #[.int .i64 c, .int .i64 p] W fun e w' => ∃ v, e = .returned v ∧ Kd.S (Kd.slice 3 (Kd.int .i64)) 31 w' W.heap.size (fun _ => True) v r ∧ Below W.heap.size W w' := by
  unfold spec_siSets.f at h
  by_cases hg : 0 ≤ c ∧ c ≤ 4 ∧ 1 ≤ p ∧ p ≤ 200000
  · rw [if_pos hg] at h
    obtain ⟨h1, h2, h3, h4⟩ := hg
    obtain ⟨n, rfl⟩ : ∃ n : Nat, c = n := ⟨c.toNat, by omega⟩
    simp only [Option.some.injEq] at h
    subst h
    have HS := Aside0.mk (fun (W' : World) (hG : Outs W.heap.size W.heap.size [] W') (hs : W.heap.size ≤ W'.heap.size) =>
      look_calls W.heap.size W.heap.size (Nat.le_refl _) n p [] (.slice none 0 0) [] W' W' (by simp; omega) h3 h4 (fun x hx => by simp at hx) hG (Below.refl _ _) hs (by have h1 : 20 ^ n ≤ 20 ^ 4 := Nat.pow_le_pow_right (by omega) (by omega); simp; omega) (Kd.R_nil _ _ _ _ _))
    clear h1 h2 h3 h4
    go_enter Tryz.func47, Tryz.ntmps47
    go_wp2_with (go_at_call 83; (with_reducible refine (HS.out _ ?h2 ?h3).mono ?_); (case h2 => exact ⟨_, blk_new _ _, Kd.S_nil _ _ _ _ _⟩); (case h3 => simp); rintro e w' ⟨rfl, hI', hE⟩; obtain ⟨vo, gq, hSo⟩ := hI'; have hc5 := blk_cell gq 0; have HSO := Aside0.mk hSo; have HE := Aside0.mk hE; clear gq hSo hE; simp only [List.getElem?_toArray, List.getElem?_cons_zero] at hc5)
    go_ret
    exact ⟨vo, rfl, HSO.out, (below_alloc (Below.refl _ _) _).trans HE.out.low⟩
  · rw [if_neg hg] at h
    cases h

end Go.Proofs.YtlbnhjeblknepaaGreat.E
