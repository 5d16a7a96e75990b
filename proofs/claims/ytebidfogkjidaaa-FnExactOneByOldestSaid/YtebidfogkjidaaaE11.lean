-- WRITTEN by xprint.py, a program of this session that drives the kit's printer: out of the translation. Lean checks it.
import Derived.Test.YtebidfogkjidaaaE0
import Derived.Test.YtebidfogkjidaaaE3
import Derived.Test.YtebidfogkjidaaaE6
import Derived.Test.YtebidfogkjidaaaE10
import Derived.Test.YtebidfogkjidaaaWMore
namespace Go.Proofs.Ytebidfogkjidaaa.E
open Go.RowKit Go.Proofs.YtebidfogkjidaaaW.PrintWords Go.Proofs.YtebidfogkjidaaaW.PrintLast Go.Proofs.YtebidfogkjidaaaW.PrintMore
attribute [local go_sem] max2_int min2_int max_two min_two max_three min_three max_four min_four   -- for this text's walks alone
set_option linter.unusedVariables false
set_option linter.unusedSimpArgs false

-- OURS, BY HAND
/-! ### spec_siBoth: function 38 -/
-- func spec.siBoth
-- ext raw=1
-- seat Ytebidfogkjidaaa
-- needs spec.agSum
-- needs impl.withSum
-- needs impl.sets
theorem agSumOn (l : List Int) (hl : l.length ≤ 4) (ha : Ages l) : ∀ (n i : Nat) (acc : Int), i + n = l.length → 0 ≤ acc → acc ≤ 20 * i → spec_agSum.l0 (n + 1) acc l (l.length : Int) (i : Int) = some ((l.drop i).foldl (· + ·) acc) := by
  intro n
  induction n with
  | zero =>
    intro i acc hi h0 h1
    have : ¬ ((i : Int) < (l.length : Int)) := by omega
    rw [spec_agSum.l0, if_neg this, List.drop_of_length_le (by omega)]
    rfl
  | succ n ih =>
    intro i acc hi h0 h1
    have hlt : i < l.length := by omega
    have hr : rd l (i : Int) = l[i] := by simp [rd, List.getD, List.getElem?_eq_getElem hlt]
    have hx := ha l[i] (List.getElem_mem hlt)
    rw [spec_agSum.l0, if_pos (by omega), if_pos (by omega), if_pos (by omega), hr, wrap_small (acc + l[i]) (by omega) (by omega), wrap_small ((i : Int) + 1) (by omega) (by omega)]
    have := ih (i + 1) (acc + l[i]) (by omega) (by omega) (by omega)
    rw [List.drop_eq_getElem_cons hlt, List.foldl_cons]
    exact_mod_cast this
theorem agSum_is (l : List Int) (hl : l.length ≤ 4) (ha : Ages l) : spec_agSum.f (l.length + 1) l = some (sumL l) := by
  unfold spec_agSum.f
  exact agSumOn l hl ha l.length 0 0 (by omega) (by omega) (by simp)
theorem infoRowsF (w : World) : (Try.prog.info? 31).map (fun i => (i.zero, i.size, i.bytes)) = some (some (.slice none 0 0), (Kd.fixed (Kd.slice 3 (Kd.int .i64)) w).sz, 24) := infoRows
theorem take_succ_filter {α : Type} (q : α → Bool) (xs : List α) (k : Nat) (h : k < xs.length) : (xs.take (k + 1)).filter q = (xs.take k).filter q ++ if q xs[k] = true then [xs[k]] else [] := by
  rw [List.take_succ_eq_append_getElem h, List.filter_append]
  congr 1
  rw [List.filter_cons, List.filter_nil]
set_option maxHeartbeats 8000000 in
set_option maxRecDepth 100000 in
theorem siBoth_calls (t : Int) (A : Option Addr) (c : Nat) (xs : List (List Int)) (W : World) (hC : Kd.C (Kd.slice 3 (Kd.int .i64)) W A xs.length xs) (hc : xs.length ≤ c) (ha : ∀ x ∈ xs, Ages x ∧ x.length ≤ 4) (hn : xs.length ≤ 200000) :
    Calls Try.prog 38 #[.slice A xs.length c, .int .i64 t] W fun e w' => ∃ A' c', e = .returned (.slice A' (xs.filter (hasSum t)).length c') ∧ (xs.filter (hasSum t)).length ≤ c' ∧ Kd.C (Kd.slice 3 (Kd.int .i64)) w' A' (xs.filter (hasSum t)).length (xs.filter (hasSum t)) ∧ Below W.heap.size W w' := by
  have HC := Aside0.mk hC
  have HA := Aside0.mk ha
  have HSM := Aside0.mk (fun (x : List Int) (hx : x ∈ xs) (A1 : Option Addr) (c1 : Nat) (w : World) (h : (Kd.int .i64).C w A1 x.length x) (h1 : x.length ≤ c1) => spec_agSum.calls _ A1 c1 x _ w h h1 (agSum_is x (ha x hx).2 (ha x hx).1))
  clear hC ha
  go_enter Try.func38, Try.ntmps38
  go_wp2
  go_loopw [5, 10] (fun v5 v10 wr => ∃ k : Nat, k ≤ xs.length ∧ v10 = .int .i64 (k : Int) ∧ Aside0 ((Kd.fixed (Kd.slice 3 (Kd.int .i64)) W).R 31 wr W.heap.size (fun _ => True) v5 ((xs.take k).filter (hasSum t))) ∧ Aside0 (Below W.heap.size W wr)) (fun _ v10 _ => xs.length - (intOf v10).toNat)
  case atStart => exact ⟨0, Nat.zero_le _, rfl, ⟨Kd.R_nil _ _ _ _ _⟩, ⟨Below.refl _ _⟩⟩
  case round =>
    obtain ⟨k, hk, rfl, HR, HB⟩ := hrel
    by_cases hlt : k < xs.length
    · have hlt1 : decide ((k : Int) < (xs.length : Int)) = true := decide_eq_true (by omega)
      obtain ⟨ad, rfl, cs, hcs, ⟨A1, c1, rfl, h1, hC1⟩, hcell⟩ : ∃ ad, A = some ad ∧ ∃ cs, cs.length = 1 ∧ (Kd.slice 3 (Kd.int .i64)).K W xs[k] cs ∧ ∀ i u, cs[i]? = some u → W.cell? (ad.add (k * 1 + i)) = some u := by
        obtain ⟨ad, e, hh⟩ := HC.out.2.2 (by omega)
        obtain ⟨cs, q1, q2, q3⟩ := hh k xs[k] (List.getElem?_eq_getElem hlt)
        exact ⟨ad, e, cs, q1, q2, q3⟩
      have hx0 : wr.cell? (ad.add k) = some (.slice A1 xs[k].length c1) := by
        have := hcell 0 _ rfl
        rw [Nat.mul_one, Nat.add_zero] at this
        exact pw_cell_below HB.out this
      have HCa := Aside0.mk (HSM.out xs[k] (List.getElem_mem hlt) A1 c1 wr (Kd.C_below hC1 HB.out) h1)
      have HK1 := Aside0.mk (show (Kd.slice 3 (Kd.int .i64)).K W xs[k] [.slice A1 xs[k].length c1] from ⟨A1, c1, rfl, h1, hC1⟩)
      have HTS := Aside0.mk (take_succ_filter (hasSum t) xs k hlt)
      have hfl := Nat.le_trans (List.length_filter_le (hasSum t) (xs.take k)) (by rw [List.length_take]; exact Nat.min_le_right _ _)
      have HFL := Aside0.mk hfl
      clear hcell hC1 hcs
      cases hq : hasSum t xs[k] with
      | true =>
        rw [hq, if_pos rfl] at HTS
        have hq1 : (sumL xs[k] == t) = true := by rw [← hq]; rfl
        obtain ⟨Ao, co, rfl⟩ := Kd.R_slice HR.out
        clear hq hfl
        go_wp2_with (first | (go_at_call 39; (with_reducible refine HCa.out.mono ?_); rintro e w' ⟨rfl, ⟨nd, rfl⟩⟩) | ((with_reducible refine gate_builtin (b := .append) (xs := #[.tmp 18, .tmp 20]) rfl ?_); at_builtin; refine Kd.R_append (Kd.fixed (Kd.slice 3 (Kd.int .i64)) W) (w0 := W) W.heap.size rfl (.tmp 18) (.tmp 20) 25 31 (.slice none 0 0) 24 rfl Try.underlying25 (infoRowsF W) rfl Nat.zero_lt_one (by omega) (.slice Ao ((xs.take k).filter (hasSum t)).length co) ((xs.take k).filter (hasSum t)) xs[k] [.slice A1 xs[k].length c1] (fun _ => True) (fun _ => False) rfl rfl ?aP (fun _ h => h.elim) (fun _ _ => trivial) ?aO ?aB ?aS ?aL ?_; (case aP => exact HK1.out); (case aO => exact Kd.R_drewN HR.out nd); (case aB => exact pw_below_drewN HB.out nd); (case aS => exact (pw_below_drewN HB.out nd).size); (case aL => have := HFL.out; omega); intro v1 w1 ho hb hg hat; have HO := Aside0.mk ho; have HB1 := Aside0.mk hb; clear ho hb hg hat))
        go_roundw
        case rel => exact ⟨k + 1, by omega, by go_num, ⟨by rw [HTS.out]; exact HO.out⟩, HB1⟩
        case measure => simp [intOf]; omega
      | false =>
        rw [hq, if_neg (by simp), List.append_nil] at HTS
        have hq1 : (sumL xs[k] == t) = false := by rw [← hq]; rfl
        clear hq hfl
        go_wp2_with (go_at_call 39; (with_reducible refine HCa.out.mono ?_); rintro e w' ⟨rfl, ⟨nd, rfl⟩⟩)
        go_roundw
        case rel => exact ⟨k + 1, by omega, by go_num, ⟨by rw [HTS.out]; exact Kd.R_drewN HR.out nd⟩, ⟨pw_below_drewN HB.out nd⟩⟩
        case measure => simp [intOf]; omega
    · obtain rfl : k = xs.length := by omega
      rw [List.take_length] at HR
      obtain ⟨A', c', rfl, h1, h2⟩ := Kd.R_reads HR.out
      have H2 := Aside0.mk h2
      clear h2
      go_wp2
      go_ret
      exact ⟨A', c', rfl, h1, ReadsRow.imp_ H2.out (Below.refl _ _) (fun _ _ hp => (Kd.slice 3 (Kd.int .i64)).K_below HB.out hp), HB.out⟩
def okSets (l : List (List Int)) : Bool := decide (l.length ≤ 200000) && l.all fun x => decide (x.length ≤ 4) && x.all fun y => decide (1 ≤ y) && decide (y ≤ 20)
theorem okSets_len {l : List (List Int)} (h : okSets l = true) : l.length ≤ 200000 := by
  unfold okSets at h
  exact of_decide_eq_true (Bool.and_eq_true_iff.1 h).1
theorem okSets_ages {l : List (List Int)} (h : okSets l = true) : ∀ x ∈ l, Ages x ∧ x.length ≤ 4 := by
  unfold okSets at h
  intro x hx
  have := List.all_eq_true.1 (Bool.and_eq_true_iff.1 h).2 x hx
  obtain ⟨h1, h2⟩ := Bool.and_eq_true_iff.1 this
  refine ⟨fun y hy => ?_, of_decide_eq_true h1⟩
  have := List.all_eq_true.1 h2 y hy
  obtain ⟨h3, h4⟩ := Bool.and_eq_true_iff.1 this
  exact ⟨of_decide_eq_true h3, of_decide_eq_true h4⟩

end Go.Proofs.Ytebidfogkjidaaa.E
