-- WRITTEN by xprint.py, a program of this session that drives the kit's printer: out of the translation. Lean checks it.
import Derived.Test.YtebidfogkjidaaaE0
import Derived.Test.YtebidfogkjidaaaE3
import Derived.Test.YtebidfogkjidaaaE6
import Derived.Test.YtebidfogkjidaaaE10
import Derived.Test.YtebidfogkjidaaaE11
import Derived.Test.YtebidfogkjidaaaE12
import Derived.Test.YtebidfogkjidaaaWMore
namespace Go.Proofs.Ytebidfogkjidaaa.E
open Go.RowKit Go.Proofs.YtebidfogkjidaaaW.PrintWords Go.Proofs.YtebidfogkjidaaaW.PrintLast Go.Proofs.YtebidfogkjidaaaW.PrintMore
attribute [local go_sem] max2_int min2_int max_two min_two max_three min_three max_four min_four   -- for this text's walks alone
set_option linter.unusedVariables false
set_option linter.unusedSimpArgs false

-- OURS, BY HAND
/-! ### spec_siTold: function 25 -/
-- func spec.siTold
-- ext raw=1
-- needs spec.siBoth
-- needs spec.agSum
-- needs spec.siOldest
-- needs spec.siYoungest
-- needs impl.sets
-- needs impl.hasOldest
-- needs impl.hasYoungest
-- needs impl.withSum
-- import Derived.WalkKit
-- import Derived.Deep.RegionWith
-- import Derived.Deep.RegionLaw
-- import Derived.IntWalk
-- import Derived.WalkSpells
-- import Derived.Lib.SliceRun
-- seat Ytebidfogkjidaaa
def oldB (s : List Int) : Bool := decide ((s.length : Int) = 1) || decide (rd s ((s.length : Int) - 1) > rd s ((s.length : Int) - 2))
def youngB (s : List Int) : Bool := decide ((s.length : Int) = 1) || decide (rd s 0 < rd s 1)
def ageB (b : Bool) (s : List Int) : Bool := if b = true then oldB s else youngB s
theorem siOldest_val (s : List Int) (h1 : 1 ≤ s.length) (h4 : s.length ≤ 4) : spec_siOldest.f s = some (oldB s) := by
  unfold spec_siOldest.f oldB
  rw [wrap_small ((s.length : Int) - 1) (by omega) (by omega), wrap_small ((s.length : Int) - 1 - 1) (by omega) (by omega)]
  by_cases h : (s.length : Int) = 1
  · rw [if_pos (by omega), decide_eq_true h]; rfl
  · rw [if_neg (by omega), if_pos (by omega), if_pos (by omega), if_pos (by omega), if_pos (by omega), decide_eq_false h, Bool.false_or, show (s.length : Int) - 1 - 1 = (s.length : Int) - 2 by omega]
theorem hasOldest_val (s : List Int) (h1 : 1 ≤ s.length) (h4 : s.length ≤ 4) : impl_hasOldest.f s = some (oldB s) := by
  unfold impl_hasOldest.f oldB
  rw [wrap_small ((s.length : Int) - 1) (by omega) (by omega), wrap_small ((s.length : Int) - 2) (by omega) (by omega)]
  by_cases h : (s.length : Int) = 1
  · rw [if_pos h, decide_eq_true h]; rfl
  · rw [if_neg h, if_pos (by omega), if_pos (by omega), if_pos (by omega), if_pos (by omega), decide_eq_false h, Bool.false_or]
theorem siYoungest_val (s : List Int) (h1 : 1 ≤ s.length) (h4 : s.length ≤ 4) : spec_siYoungest.f s = some (youngB s) := by
  unfold spec_siYoungest.f youngB
  by_cases h : (s.length : Int) = 1
  · rw [if_pos h, decide_eq_true h]; rfl
  · rw [if_neg h, if_pos (by omega), if_pos (by omega), decide_eq_false h, Bool.false_or]
theorem hasYoungest_val (s : List Int) (h1 : 1 ≤ s.length) (h4 : s.length ≤ 4) : impl_hasYoungest.f s = some (youngB s) := by
  unfold impl_hasYoungest.f youngB
  by_cases h : (s.length : Int) = 1
  · rw [if_pos h, decide_eq_true h]; rfl
  · rw [if_neg h, if_pos (by omega), if_pos (by omega), decide_eq_false h, Bool.false_or]
/-- Is a set told by an open sum and such a child. -/
def isTold (b : Bool) (xs : List (List Int)) (s : List Int) : Bool := decide (1 < (xs.filter (hasSum (sumL s))).length) && (decide (((xs.filter (hasSum (sumL s))).filter (ageB b)).length = 1) && ageB b s)
def toldS (b : Bool) (xs : List (List Int)) : List (List Int) := xs.filter (isTold b xs)
theorem age_true (s : List Int) : ageB true s = oldB s := rfl
theorem age_false (s : List Int) : ageB false s = youngB s := rfl
set_option maxHeartbeats 16000000 in
theorem siTold_true (A : Option Addr) (c : Nat) (xs : List (List Int)) (W : World) (hC : Kd.C (Kd.slice 3 (Kd.int .i64)) W A xs.length xs) (hc : xs.length ≤ c) (ha : ∀ x ∈ xs, Ages x ∧ x.length ≤ 4) (h1 : ∀ x ∈ xs, 1 ≤ x.length) (hn : xs.length ≤ 200000) :
    Calls Try.prog 25 #[.slice A xs.length c, .bool true] W fun e w' => ∃ A' c', e = .returned (.slice A' (toldS true xs).length c') ∧ (toldS true xs).length ≤ c' ∧ Kd.C (Kd.slice 3 (Kd.int .i64)) w' A' (toldS true xs).length (toldS true xs) ∧ Below W.heap.size W w' := by
  have HC := Aside0.mk hC
  have HA := Aside0.mk ha
  have H1 := Aside0.mk h1
  have HCC := Aside0.mk hc
  have HSM := Aside0.mk (fun (x : List Int) (hx : x ∈ xs) (A1 : Option Addr) (c1 : Nat) (w : World) (h : (Kd.int .i64).C w A1 x.length x) (h1 : x.length ≤ c1) => spec_agSum.calls _ A1 c1 x _ w h h1 (agSum_is x (ha x hx).2 (ha x hx).1))
  have HSB := Aside0.mk (fun (t : Int) (w : World) (h : Kd.C (Kd.slice 3 (Kd.int .i64)) w A xs.length xs) => siBoth_calls t A c xs w h hc ha hn)
  have HAG := Aside0.mk (fun (x : List Int) (hx : x ∈ xs) (A1 : Option Addr) (c1 : Nat) (w : World) (h : (Kd.int .i64).C w A1 x.length x) (hcc : x.length ≤ c1) => spec_siOldest.calls A1 c1 x _ w h hcc (siOldest_val x (h1 x hx) (ha x hx).2))
  clear hC ha h1
  go_enter Try.func25, Try.ntmps25
  go_wp2
  go_loopw [5, 14] (fun v5 v14 wr => ∃ k : Nat, k ≤ xs.length ∧ v14 = .int .i64 (k : Int) ∧ Aside0 ((Kd.fixed (Kd.slice 3 (Kd.int .i64)) W).R 31 wr W.heap.size (fun _ => True) v5 ((xs.take k).filter (isTold true xs))) ∧ Aside0 (Below W.heap.size W wr)) (fun _ v14 _ => xs.length - (intOf v14).toNat)
  case atStart => exact ⟨0, Nat.zero_le _, rfl, ⟨Kd.R_nil _ _ _ _ _⟩, ⟨Below.refl _ _⟩⟩
  case round =>
    obtain ⟨k, hk, rfl, HR, HB⟩ := hrel
    by_cases hlt : k < xs.length
    · have hlt1 : decide ((k : Int) < (xs.length : Int)) = true := decide_eq_true (by omega)
      obtain ⟨Ao, co, rfl⟩ := Kd.R_slice HR.out
      obtain ⟨ad, rfl, cs, hcs, ⟨A1, c1, rfl, h1, hC1⟩, hcell⟩ : ∃ ad, A = some ad ∧ ∃ cs, cs.length = 1 ∧ (Kd.slice 3 (Kd.int .i64)).K W xs[k] cs ∧ ∀ i u, cs[i]? = some u → W.cell? (ad.add (k * 1 + i)) = some u := by
        obtain ⟨ad, e, hh⟩ := HC.out.2.2 (by omega)
        obtain ⟨cs, q1, q2, q3⟩ := hh k xs[k] (List.getElem?_eq_getElem hlt)
        exact ⟨ad, e, cs, q1, q2, q3⟩
      have hx0 : wr.cell? (ad.add k) = some (.slice A1 xs[k].length c1) := by
        have := hcell 0 _ rfl
        rw [Nat.mul_one, Nat.add_zero] at this
        exact pw_cell_below HB.out this
      have HCa := Aside0.mk (HSM.out xs[k] (List.getElem_mem hlt) A1 c1 wr (Kd.C_below hC1 HB.out) h1)
      have HAK := Aside0.mk (fun (w : World) (hb : Below W.heap.size W w) => HAG.out xs[k] (List.getElem_mem hlt) A1 c1 w (Kd.C_below hC1 hb) h1)
      have HK1 := Aside0.mk (show (Kd.slice 3 (Kd.int .i64)).K W xs[k] [.slice A1 xs[k].length c1] from ⟨A1, c1, rfl, h1, hC1⟩)
      have HTS := Aside0.mk (take_succ_filter (isTold true xs) xs k hlt)
      have hfl := Nat.le_trans (List.length_filter_le (isTold true xs) (xs.take k)) (by rw [List.length_take]; exact Nat.min_le_right _ _)
      have HFL := Aside0.mk hfl
      obtain ⟨x, hx⟩ : ∃ x, x = xs[k] := ⟨_, rfl⟩
      obtain ⟨both, hboth⟩ : ∃ both, both = xs.filter (hasSum (sumL x)) := ⟨_, rfl⟩
      have HBO := Aside0.mk hboth
      have hIT : isTold true xs x = (decide (1 < both.length) && (decide ((both.filter oldB).length = 1) && oldB x)) := by rw [hboth]; rfl
      have HIT := Aside0.mk hIT
      have hbl : both.length ≤ 200000 := by rw [hboth]; exact Nat.le_trans (List.length_filter_le _ _) hn
      have HBM := Aside0.mk (show ∀ y ∈ both, y ∈ xs from fun y hy => by rw [hboth] at hy; exact (List.mem_filter.1 hy).1)
      have HSK := Aside0.mk (fun w h => by have q := HSB.out (sumL x) w h; rw [← hboth] at q; exact q)
      rw [← hx] at hx0 HCa HAK HK1 HTS
      clear hcell hC1 hcs hfl hIT hboth hx
      go_wp2_with (first | (go_at_call 39; (with_reducible refine HCa.out.mono ?_); rintro e w' ⟨rfl, ⟨nd, rfl⟩⟩) | (go_at_call 38; (with_reducible refine (HSK.out _ (Kd.C_below HC.out (pw_below_drewN HB.out nd))).mono ?_); rintro e w2 ⟨A2, c2, rfl, q2, hC2, hb2⟩; have HC2 := Aside0.mk hC2; have HB2 := Aside0.mk (show Below W.heap.size W w2 from below_step (pw_below_drewN HB.out nd) hb2); have HR2 := Aside0.mk (Kd.R_below (Kd.R_drewN HR.out nd) hb2); clear hC2 hb2))
      go_loopw [8, 24] (fun v8 v24 wr => ∃ i : Nat, i ≤ both.length ∧ v24 = .int .i64 (i : Int) ∧ v8 = .int .i64 ((((both.take i).filter oldB).length : Nat) : Int) ∧ Aside0 (Kd.C (Kd.slice 3 (Kd.int .i64)) wr A2 both.length both) ∧ Aside0 ((Kd.fixed (Kd.slice 3 (Kd.int .i64)) W).R 31 wr W.heap.size (fun _ => True) (.slice Ao ((xs.take k).filter (isTold true xs)).length co) ((xs.take k).filter (isTold true xs))) ∧ Aside0 (Below W.heap.size W wr)) (fun _ v24 _ => both.length - (intOf v24).toNat)
      case atStart => exact ⟨0, Nat.zero_le _, rfl, rfl, HC2, HR2, HB2⟩
      case round =>
        clear HR HB hx0 HCa
        obtain ⟨i, hi, rfl, rfl, HC3, HR3, HB3⟩ := hrel
        by_cases hil : i < both.length
        · have hil1 : decide ((i : Int) < (both.length : Int)) = true := decide_eq_true (by omega)
          obtain ⟨ad2, rfl, A3, c3, hy0, h3, hC4⟩ : ∃ ad2, A2 = some ad2 ∧ ∃ A3 c3, wr.cell? (ad2.add i) = some (.slice A3 both[i].length c3) ∧ both[i].length ≤ c3 ∧ (Kd.int .i64).C wr A3 both[i].length both[i] := by
            obtain ⟨ad2, e, hh⟩ := HC3.out.2.2 (by omega)
            obtain ⟨cs, q1, ⟨A3, c3, rfl, q4, q5⟩, q3⟩ := hh i both[i] (List.getElem?_eq_getElem hil)
            have this : wr.cell? (ad2.add (i * 1 + 0)) = some (.slice A3 both[i].length c3) := q3 0 _ rfl
            rw [Nat.mul_one, Nat.add_zero] at this
            exact ⟨ad2, e, A3, c3, this, q4, q5⟩
          have HAI := Aside0.mk (HAG.out both[i] (HBM.out _ (List.getElem_mem hil)) A3 c3 wr hC4 h3)
          have HT2 := Aside0.mk (take_succ_filter oldB both i hil)
          obtain ⟨m, hm⟩ : ∃ m, m = ((both.take i).filter oldB).length := ⟨_, rfl⟩
          have hm2 : m ≤ 200000 := by rw [hm]; exact Nat.le_trans (List.length_filter_le _ _) (by rw [List.length_take]; omega)
          have HMM := Aside0.mk hm
          obtain ⟨y, hy⟩ : ∃ y, y = both[i] := ⟨_, rfl⟩
          rw [← hy] at hy0 HAI HT2
          rw [← hm]
          clear hC4 hm hy
          cases hq : oldB y with
          | true =>
            rw [hq] at HAI HT2
            rw [if_pos rfl] at HT2
            clear hq
            go_wp2_with (go_at_call 40; (with_reducible refine HAI.out.mono ?_); rintro e w' ⟨rfl, ⟨nd2, rfl⟩⟩)
            go_roundw
            case rel => exact ⟨i + 1, by omega, by go_num, by rw [HT2.out, List.length_append, ← HMM.out]; rfl, ⟨Kd.C_drewN HC3.out _⟩, ⟨Kd.R_drewN HR3.out _⟩, ⟨pw_below_drewN HB3.out _⟩⟩
            case measure => simp [intOf]; omega
          | false =>
            rw [hq] at HAI HT2
            rw [if_neg (by simp), List.append_nil] at HT2
            clear hq
            go_wp2_with (go_at_call 40; (with_reducible refine HAI.out.mono ?_); rintro e w' ⟨rfl, ⟨nd2, rfl⟩⟩)
            go_roundw
            case rel => exact ⟨i + 1, by omega, by go_num, by rw [HT2.out, ← HMM.out], ⟨Kd.C_drewN HC3.out _⟩, ⟨Kd.R_drewN HR3.out _⟩, ⟨pw_below_drewN HB3.out _⟩⟩
            case measure => simp [intOf]; omega
        · obtain rfl : i = both.length := by omega
          have hil1 : decide ((both.length : Int) < (both.length : Int)) = false := decide_eq_false (by omega)
          rw [List.take_length]
          obtain ⟨m, hm⟩ : ∃ m, m = (both.filter oldB).length := ⟨_, rfl⟩
          have hit := HIT.out
          rw [← hm] at hit ⊢
          obtain ⟨n, hnn⟩ : ∃ n, n = both.length := ⟨_, rfl⟩
          rw [← hnn] at hit hil1 hbl ⊢
          have HN2 := Aside0.mk hnn
          have HAX := Aside0.mk (fun w hb => HAK.out w hb)
          clear hm hnn hi hil
          have stay : isTold true xs x = false → (xs.take (k + 1)).filter (isTold true xs) = (xs.take k).filter (isTold true xs) := fun h => by rw [HTS.out, h, if_neg (by simp), List.append_nil]
          have HST := Aside0.mk stay
          clear stay
          by_cases g1 : 1 < n
          · have d1 : decide ((n : Int) > 1) = true := decide_eq_true (by omega)
            have d1' : decide (1 < n) = true := decide_eq_true g1
            by_cases g2 : m = 1
            · have d2 : ((m : Int) == 1) = true := by simp; omega
              have d2' : (m == 1) = true := by simp; omega
              rw [d1', decide_eq_true g2, Bool.true_and, Bool.true_and] at hit
              cases hq : oldB x with
              | true =>
                rw [hq] at HAX hit
                have HTT := Aside0.mk (show (xs.take (k + 1)).filter (isTold true xs) = (xs.take k).filter (isTold true xs) ++ [x] by rw [HTS.out, hit, if_pos rfl])
                clear hq hit g1 g2
                go_wp2_with (first | (go_at_call 40; (with_reducible refine (HAX.out _ HB3.out).mono ?_); rintro e w' ⟨rfl, ⟨nd2, rfl⟩⟩) | ((with_reducible refine gate_builtin (b := .append) (xs := #[.tmp 66, .tmp 68]) rfl ?_); at_builtin; refine Kd.R_append (Kd.fixed (Kd.slice 3 (Kd.int .i64)) W) (w0 := W) W.heap.size rfl (.tmp 66) (.tmp 68) 25 31 (.slice none 0 0) 24 rfl Try.underlying25 (infoRowsF W) rfl Nat.zero_lt_one (by omega) (.slice Ao ((xs.take k).filter (isTold true xs)).length co) ((xs.take k).filter (isTold true xs)) x [.slice A1 x.length c1] (fun _ => True) (fun _ => False) rfl rfl ?aP (fun _ h => h.elim) (fun _ _ => trivial) ?aO ?aB ?aS ?aL ?_; (case aP => exact HK1.out); (case aO => exact Kd.R_drewN HR3.out nd2); (case aB => exact pw_below_drewN HB3.out nd2); (case aS => exact (pw_below_drewN HB3.out nd2).size); (case aL => have := HFL.out; omega); intro v1 w1 ho hb hg hat; have HO := Aside0.mk ho; have HB1 := Aside0.mk hb; clear ho hb hg hat))
                go_roundw
                case rel => exact ⟨k + 1, by omega, by go_num, ⟨by rw [HTT.out]; exact HO.out⟩, HB1⟩
                case measure => simp [intOf]; omega
              | false =>
                rw [hq] at HAX hit
                clear hq g1 g2
                have HS2 := Aside0.mk (HST.out hit)
                clear hit
                go_wp2_with (go_at_call 40; (with_reducible refine (HAX.out _ HB3.out).mono ?_); rintro e w' ⟨rfl, ⟨nd2, rfl⟩⟩)
                go_roundw
                case rel => exact ⟨k + 1, by omega, by go_num, ⟨by rw [HS2.out]; exact Kd.R_drewN HR3.out _⟩, ⟨pw_below_drewN HB3.out _⟩⟩
                case measure => simp [intOf]; omega
            · have d2 : ((m : Int) == 1) = false := by simp; omega
              have d2' : (m == 1) = false := by simp; omega
              rw [d1', decide_eq_false g2, Bool.true_and, Bool.false_and] at hit
              have HS2 := Aside0.mk (HST.out hit)
              clear hit g1 g2
              go_wp2
              go_roundw
              case rel => exact ⟨k + 1, by omega, by go_num, ⟨by rw [HS2.out]; exact HR3.out⟩, HB3⟩
              case measure => simp [intOf]; omega
          · have d1 : decide ((n : Int) > 1) = false := decide_eq_false (by omega)
            have d1' : decide (1 < n) = false := decide_eq_false g1
            rw [d1', Bool.false_and] at hit
            have HS2 := Aside0.mk (HST.out hit)
            clear hit g1
            go_wp2
            go_roundw
            case rel => exact ⟨k + 1, by omega, by go_num, ⟨by rw [HS2.out]; exact HR3.out⟩, HB3⟩
            case measure => simp [intOf]; omega
    · obtain rfl : k = xs.length := by omega
      rw [List.take_length] at HR
      obtain ⟨A', c', rfl, h1, h2⟩ := Kd.R_reads HR.out
      have H2 := Aside0.mk h2
      clear h2
      go_wp2
      go_ret
      exact ⟨A', c', rfl, h1, ReadsRow.imp_ H2.out (Below.refl _ _) (fun _ _ hp => (Kd.slice 3 (Kd.int .i64)).K_below HB.out hp), HB.out⟩
set_option maxHeartbeats 16000000 in
theorem siTold_false (A : Option Addr) (c : Nat) (xs : List (List Int)) (W : World) (hC : Kd.C (Kd.slice 3 (Kd.int .i64)) W A xs.length xs) (hc : xs.length ≤ c) (ha : ∀ x ∈ xs, Ages x ∧ x.length ≤ 4) (h1 : ∀ x ∈ xs, 1 ≤ x.length) (hn : xs.length ≤ 200000) :
    Calls Try.prog 25 #[.slice A xs.length c, .bool false] W fun e w' => ∃ A' c', e = .returned (.slice A' (toldS false xs).length c') ∧ (toldS false xs).length ≤ c' ∧ Kd.C (Kd.slice 3 (Kd.int .i64)) w' A' (toldS false xs).length (toldS false xs) ∧ Below W.heap.size W w' := by
  have HC := Aside0.mk hC
  have HA := Aside0.mk ha
  have H1 := Aside0.mk h1
  have HCC := Aside0.mk hc
  have HSM := Aside0.mk (fun (x : List Int) (hx : x ∈ xs) (A1 : Option Addr) (c1 : Nat) (w : World) (h : (Kd.int .i64).C w A1 x.length x) (h1 : x.length ≤ c1) => spec_agSum.calls _ A1 c1 x _ w h h1 (agSum_is x (ha x hx).2 (ha x hx).1))
  have HSB := Aside0.mk (fun (t : Int) (w : World) (h : Kd.C (Kd.slice 3 (Kd.int .i64)) w A xs.length xs) => siBoth_calls t A c xs w h hc ha hn)
  have HAG := Aside0.mk (fun (x : List Int) (hx : x ∈ xs) (A1 : Option Addr) (c1 : Nat) (w : World) (h : (Kd.int .i64).C w A1 x.length x) (hcc : x.length ≤ c1) => spec_siYoungest.calls A1 c1 x _ w h hcc (siYoungest_val x (h1 x hx) (ha x hx).2))
  clear hC ha h1
  go_enter Try.func25, Try.ntmps25
  go_wp2
  go_loopw [5, 14] (fun v5 v14 wr => ∃ k : Nat, k ≤ xs.length ∧ v14 = .int .i64 (k : Int) ∧ Aside0 ((Kd.fixed (Kd.slice 3 (Kd.int .i64)) W).R 31 wr W.heap.size (fun _ => True) v5 ((xs.take k).filter (isTold false xs))) ∧ Aside0 (Below W.heap.size W wr)) (fun _ v14 _ => xs.length - (intOf v14).toNat)
  case atStart => exact ⟨0, Nat.zero_le _, rfl, ⟨Kd.R_nil _ _ _ _ _⟩, ⟨Below.refl _ _⟩⟩
  case round =>
    obtain ⟨k, hk, rfl, HR, HB⟩ := hrel
    by_cases hlt : k < xs.length
    · have hlt1 : decide ((k : Int) < (xs.length : Int)) = true := decide_eq_true (by omega)
      obtain ⟨Ao, co, rfl⟩ := Kd.R_slice HR.out
      obtain ⟨ad, rfl, cs, hcs, ⟨A1, c1, rfl, h1, hC1⟩, hcell⟩ : ∃ ad, A = some ad ∧ ∃ cs, cs.length = 1 ∧ (Kd.slice 3 (Kd.int .i64)).K W xs[k] cs ∧ ∀ i u, cs[i]? = some u → W.cell? (ad.add (k * 1 + i)) = some u := by
        obtain ⟨ad, e, hh⟩ := HC.out.2.2 (by omega)
        obtain ⟨cs, q1, q2, q3⟩ := hh k xs[k] (List.getElem?_eq_getElem hlt)
        exact ⟨ad, e, cs, q1, q2, q3⟩
      have hx0 : wr.cell? (ad.add k) = some (.slice A1 xs[k].length c1) := by
        have := hcell 0 _ rfl
        rw [Nat.mul_one, Nat.add_zero] at this
        exact pw_cell_below HB.out this
      have HCa := Aside0.mk (HSM.out xs[k] (List.getElem_mem hlt) A1 c1 wr (Kd.C_below hC1 HB.out) h1)
      have HAK := Aside0.mk (fun (w : World) (hb : Below W.heap.size W w) => HAG.out xs[k] (List.getElem_mem hlt) A1 c1 w (Kd.C_below hC1 hb) h1)
      have HK1 := Aside0.mk (show (Kd.slice 3 (Kd.int .i64)).K W xs[k] [.slice A1 xs[k].length c1] from ⟨A1, c1, rfl, h1, hC1⟩)
      have HTS := Aside0.mk (take_succ_filter (isTold false xs) xs k hlt)
      have hfl := Nat.le_trans (List.length_filter_le (isTold false xs) (xs.take k)) (by rw [List.length_take]; exact Nat.min_le_right _ _)
      have HFL := Aside0.mk hfl
      obtain ⟨x, hx⟩ : ∃ x, x = xs[k] := ⟨_, rfl⟩
      obtain ⟨both, hboth⟩ : ∃ both, both = xs.filter (hasSum (sumL x)) := ⟨_, rfl⟩
      have HBO := Aside0.mk hboth
      have hIT : isTold false xs x = (decide (1 < both.length) && (decide ((both.filter youngB).length = 1) && youngB x)) := by rw [hboth]; rfl
      have HIT := Aside0.mk hIT
      have hbl : both.length ≤ 200000 := by rw [hboth]; exact Nat.le_trans (List.length_filter_le _ _) hn
      have HBM := Aside0.mk (show ∀ y ∈ both, y ∈ xs from fun y hy => by rw [hboth] at hy; exact (List.mem_filter.1 hy).1)
      have HSK := Aside0.mk (fun w h => by have q := HSB.out (sumL x) w h; rw [← hboth] at q; exact q)
      rw [← hx] at hx0 HCa HAK HK1 HTS
      clear hcell hC1 hcs hfl hIT hboth hx
      go_wp2_with (first | (go_at_call 39; (with_reducible refine HCa.out.mono ?_); rintro e w' ⟨rfl, ⟨nd, rfl⟩⟩) | (go_at_call 38; (with_reducible refine (HSK.out _ (Kd.C_below HC.out (pw_below_drewN HB.out nd))).mono ?_); rintro e w2 ⟨A2, c2, rfl, q2, hC2, hb2⟩; have HC2 := Aside0.mk hC2; have HB2 := Aside0.mk (show Below W.heap.size W w2 from below_step (pw_below_drewN HB.out nd) hb2); have HR2 := Aside0.mk (Kd.R_below (Kd.R_drewN HR.out nd) hb2); clear hC2 hb2))
      go_loopw [8, 24] (fun v8 v24 wr => ∃ i : Nat, i ≤ both.length ∧ v24 = .int .i64 (i : Int) ∧ v8 = .int .i64 ((((both.take i).filter youngB).length : Nat) : Int) ∧ Aside0 (Kd.C (Kd.slice 3 (Kd.int .i64)) wr A2 both.length both) ∧ Aside0 ((Kd.fixed (Kd.slice 3 (Kd.int .i64)) W).R 31 wr W.heap.size (fun _ => True) (.slice Ao ((xs.take k).filter (isTold false xs)).length co) ((xs.take k).filter (isTold false xs))) ∧ Aside0 (Below W.heap.size W wr)) (fun _ v24 _ => both.length - (intOf v24).toNat)
      case atStart => exact ⟨0, Nat.zero_le _, rfl, rfl, HC2, HR2, HB2⟩
      case round =>
        clear HR HB hx0 HCa
        obtain ⟨i, hi, rfl, rfl, HC3, HR3, HB3⟩ := hrel
        by_cases hil : i < both.length
        · have hil1 : decide ((i : Int) < (both.length : Int)) = true := decide_eq_true (by omega)
          obtain ⟨ad2, rfl, A3, c3, hy0, h3, hC4⟩ : ∃ ad2, A2 = some ad2 ∧ ∃ A3 c3, wr.cell? (ad2.add i) = some (.slice A3 both[i].length c3) ∧ both[i].length ≤ c3 ∧ (Kd.int .i64).C wr A3 both[i].length both[i] := by
            obtain ⟨ad2, e, hh⟩ := HC3.out.2.2 (by omega)
            obtain ⟨cs, q1, ⟨A3, c3, rfl, q4, q5⟩, q3⟩ := hh i both[i] (List.getElem?_eq_getElem hil)
            have this : wr.cell? (ad2.add (i * 1 + 0)) = some (.slice A3 both[i].length c3) := q3 0 _ rfl
            rw [Nat.mul_one, Nat.add_zero] at this
            exact ⟨ad2, e, A3, c3, this, q4, q5⟩
          have HAI := Aside0.mk (HAG.out both[i] (HBM.out _ (List.getElem_mem hil)) A3 c3 wr hC4 h3)
          have HT2 := Aside0.mk (take_succ_filter youngB both i hil)
          obtain ⟨m, hm⟩ : ∃ m, m = ((both.take i).filter youngB).length := ⟨_, rfl⟩
          have hm2 : m ≤ 200000 := by rw [hm]; exact Nat.le_trans (List.length_filter_le _ _) (by rw [List.length_take]; omega)
          have HMM := Aside0.mk hm
          obtain ⟨y, hy⟩ : ∃ y, y = both[i] := ⟨_, rfl⟩
          rw [← hy] at hy0 HAI HT2
          rw [← hm]
          clear hC4 hm hy
          cases hq : youngB y with
          | true =>
            rw [hq] at HAI HT2
            rw [if_pos rfl] at HT2
            clear hq
            go_wp2_with (go_at_call 41; (with_reducible refine HAI.out.mono ?_); rintro e w' ⟨rfl, ⟨nd2, rfl⟩⟩)
            go_roundw
            case rel => exact ⟨i + 1, by omega, by go_num, by rw [HT2.out, List.length_append, ← HMM.out]; rfl, ⟨Kd.C_drewN HC3.out _⟩, ⟨Kd.R_drewN HR3.out _⟩, ⟨pw_below_drewN HB3.out _⟩⟩
            case measure => simp [intOf]; omega
          | false =>
            rw [hq] at HAI HT2
            rw [if_neg (by simp), List.append_nil] at HT2
            clear hq
            go_wp2_with (go_at_call 41; (with_reducible refine HAI.out.mono ?_); rintro e w' ⟨rfl, ⟨nd2, rfl⟩⟩)
            go_roundw
            case rel => exact ⟨i + 1, by omega, by go_num, by rw [HT2.out, ← HMM.out], ⟨Kd.C_drewN HC3.out _⟩, ⟨Kd.R_drewN HR3.out _⟩, ⟨pw_below_drewN HB3.out _⟩⟩
            case measure => simp [intOf]; omega
        · obtain rfl : i = both.length := by omega
          have hil1 : decide ((both.length : Int) < (both.length : Int)) = false := decide_eq_false (by omega)
          rw [List.take_length]
          obtain ⟨m, hm⟩ : ∃ m, m = (both.filter youngB).length := ⟨_, rfl⟩
          have hit := HIT.out
          rw [← hm] at hit ⊢
          obtain ⟨n, hnn⟩ : ∃ n, n = both.length := ⟨_, rfl⟩
          rw [← hnn] at hit hil1 hbl ⊢
          have HN2 := Aside0.mk hnn
          have HAX := Aside0.mk (fun w hb => HAK.out w hb)
          clear hm hnn hi hil
          have stay : isTold false xs x = false → (xs.take (k + 1)).filter (isTold false xs) = (xs.take k).filter (isTold false xs) := fun h => by rw [HTS.out, h, if_neg (by simp), List.append_nil]
          have HST := Aside0.mk stay
          clear stay
          by_cases g1 : 1 < n
          · have d1 : decide ((n : Int) > 1) = true := decide_eq_true (by omega)
            have d1' : decide (1 < n) = true := decide_eq_true g1
            by_cases g2 : m = 1
            · have d2 : ((m : Int) == 1) = true := by simp; omega
              have d2' : (m == 1) = true := by simp; omega
              rw [d1', decide_eq_true g2, Bool.true_and, Bool.true_and] at hit
              cases hq : youngB x with
              | true =>
                rw [hq] at HAX hit
                have HTT := Aside0.mk (show (xs.take (k + 1)).filter (isTold false xs) = (xs.take k).filter (isTold false xs) ++ [x] by rw [HTS.out, hit, if_pos rfl])
                clear hq hit g1 g2
                go_wp2_with (first | (go_at_call 41; (with_reducible refine (HAX.out _ HB3.out).mono ?_); rintro e w' ⟨rfl, ⟨nd2, rfl⟩⟩) | ((with_reducible refine gate_builtin (b := .append) (xs := #[.tmp 66, .tmp 68]) rfl ?_); at_builtin; refine Kd.R_append (Kd.fixed (Kd.slice 3 (Kd.int .i64)) W) (w0 := W) W.heap.size rfl (.tmp 66) (.tmp 68) 25 31 (.slice none 0 0) 24 rfl Try.underlying25 (infoRowsF W) rfl Nat.zero_lt_one (by omega) (.slice Ao ((xs.take k).filter (isTold false xs)).length co) ((xs.take k).filter (isTold false xs)) x [.slice A1 x.length c1] (fun _ => True) (fun _ => False) rfl rfl ?aP (fun _ h => h.elim) (fun _ _ => trivial) ?aO ?aB ?aS ?aL ?_; (case aP => exact HK1.out); (case aO => exact Kd.R_drewN HR3.out nd2); (case aB => exact pw_below_drewN HB3.out nd2); (case aS => exact (pw_below_drewN HB3.out nd2).size); (case aL => have := HFL.out; omega); intro v1 w1 ho hb hg hat; have HO := Aside0.mk ho; have HB1 := Aside0.mk hb; clear ho hb hg hat))
                go_roundw
                case rel => exact ⟨k + 1, by omega, by go_num, ⟨by rw [HTT.out]; exact HO.out⟩, HB1⟩
                case measure => simp [intOf]; omega
              | false =>
                rw [hq] at HAX hit
                clear hq g1 g2
                have HS2 := Aside0.mk (HST.out hit)
                clear hit
                go_wp2_with (go_at_call 41; (with_reducible refine (HAX.out _ HB3.out).mono ?_); rintro e w' ⟨rfl, ⟨nd2, rfl⟩⟩)
                go_roundw
                case rel => exact ⟨k + 1, by omega, by go_num, ⟨by rw [HS2.out]; exact Kd.R_drewN HR3.out _⟩, ⟨pw_below_drewN HB3.out _⟩⟩
                case measure => simp [intOf]; omega
            · have d2 : ((m : Int) == 1) = false := by simp; omega
              have d2' : (m == 1) = false := by simp; omega
              rw [d1', decide_eq_false g2, Bool.true_and, Bool.false_and] at hit
              have HS2 := Aside0.mk (HST.out hit)
              clear hit g1 g2
              go_wp2
              go_roundw
              case rel => exact ⟨k + 1, by omega, by go_num, ⟨by rw [HS2.out]; exact HR3.out⟩, HB3⟩
              case measure => simp [intOf]; omega
          · have d1 : decide ((n : Int) > 1) = false := decide_eq_false (by omega)
            have d1' : decide (1 < n) = false := decide_eq_false g1
            rw [d1', Bool.false_and] at hit
            have HS2 := Aside0.mk (HST.out hit)
            clear hit g1
            go_wp2
            go_roundw
            case rel => exact ⟨k + 1, by omega, by go_num, ⟨by rw [HS2.out]; exact HR3.out⟩, HB3⟩
            case measure => simp [intOf]; omega
    · obtain rfl : k = xs.length := by omega
      rw [List.take_length] at HR
      obtain ⟨A', c', rfl, h1, h2⟩ := Kd.R_reads HR.out
      have H2 := Aside0.mk h2
      clear h2
      go_wp2
      go_ret
      exact ⟨A', c', rfl, h1, ReadsRow.imp_ H2.out (Below.refl _ _) (fun _ _ hp => (Kd.slice 3 (Kd.int .i64)).K_below HB.out hp), HB.out⟩

end Go.Proofs.Ytebidfogkjidaaa.E
