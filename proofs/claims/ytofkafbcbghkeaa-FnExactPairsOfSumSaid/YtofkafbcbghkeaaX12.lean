-- WRITTEN by xprint.py, a program of this session that drives the kit's printer: out of the translation. Lean checks it.
import Derived.Test.YtofkafbcbghkeaaX0
import Derived.Test.YtofkafbcbghkeaaX3
import Derived.Test.YtofkafbcbghkeaaX5
import Derived.Test.YtofkafbcbghkeaaX11
import Derived.Test.YtofkafbcbghkeaaWMore
namespace Go.Proofs.Ytofkafbcbghkeaa.X
open Go.RowKit Go.Proofs.YtofkafbcbghkeaaW.PrintWords Go.Proofs.YtofkafbcbghkeaaW.PrintLast Go.Proofs.YtofkafbcbghkeaaW.PrintMore
attribute [local go_sem] max2_int min2_int max_two min_two max_three min_three max_four min_four   -- for this text's walks alone
set_option linter.unusedVariables false
set_option linter.unusedSimpArgs false

-- OURS, BY HAND
/-! ### spec_PairsOfSum: function 21 -/
-- func spec.PairsOfSum
-- ext rounds=0 making=1
-- needs impl.PairsOfSum
-- needs spec.taPairs
-- needs spec.taTold
-- needs spec.taLimit
def spec_PairsOfSum.f (m t : Int) : Option (List (List Int) × Bool) := if (2 ≤ m ∧ m ≤ 40) ∧ 0 ≤ t then some ((prs m.toNat m.toNat).filter (hasS t), true) else some ([], false)
set_option maxHeartbeats 8000000 in
set_option maxRecDepth 100000 in
theorem spec_PairsOfSum.calls (m t : Int) (r1 : List (List Int)) (r2 : Bool) (W : World) (h : spec_PairsOfSum.f m t = some (r1, r2)) :
    Calls Try.prog 21 #[.int .i64 m, .int .i64 t] W fun e w' => ∃ A cc, e = .returned (.tuple #[.slice A r1.length cc, .bool r2]) ∧ r1.length ≤ cc ∧ Kd.C (Kd.slice 3 (Kd.int .i64)) w' A r1.length r1 ∧ Below W.heap.size W w' := by
  unfold spec_PairsOfSum.f at h
  have HA := Aside0.mk (fun w => spec_taLimit.calls m _ w (taLimit_is m))
  by_cases c1 : 2 ≤ m ∧ m ≤ 40
  · rw [decide_eq_true c1] at HA
    by_cases p1 : 0 ≤ t
    · rw [if_pos ⟨c1, p1⟩] at h
      have p2 : decide (t < 0) = false := decide_eq_false (by omega)
      obtain ⟨n, rfl⟩ : ∃ n : Nat, m = n := ⟨m.toNat, by omega⟩
      simp only [Option.some.injEq, Prod.mk.injEq] at h
      obtain ⟨rfl, rfl⟩ := h
      obtain ⟨K, hK⟩ := taPairs_ev n (by omega)
      have HT := Aside0.mk (fun (W' : World) => spec_taPairs.calls K n _ W' (hK K (Nat.le_refl _)))
      obtain ⟨xs, hxs⟩ : ∃ xs, xs = prs n n := ⟨_, rfl⟩
      have HSM := Aside0.mk (fun (x : List Int) (hx : x ∈ xs) (A1 : Option Addr) (c1 : Nat) (w : World) (h : (Kd.int .i64).C w A1 x.length x) (h1 : x.length ≤ c1) => spec_taTold.calls ⟨#[115]⟩ A1 c1 x (valS x) w h h1 (by
        rw [hxs] at hx
        obtain ⟨a, b, q1, q2, q3, rfl⟩ := prs_mem n n x (Nat.le_refl _) hx
        exact told_S a b (by omega) (by omega)))
      have HLX := Aside0.mk (show xs.length ≤ 4000 by
        have h2 := prs_len n n
        have h3 : n * (n + 1) ≤ 40 * 41 := Nat.mul_le_mul (by omega) (by omega)
        rw [hxs]; omega)
      rw [Int.toNat_natCast, ← hxs]
      rw [← hxs] at HT
      clear c1 p1 hxs hK
      go_enter Try.func21, Try.ntmps21
      go_wp2_with (first | (go_at_call 41; (with_reducible refine (HA.out _).mono ?_); rintro e w' ⟨rfl, ⟨nd, rfl⟩⟩) | (go_at_call 42; (with_reducible refine (HT.out _).mono ?_); rintro e W1 ⟨v, rfl, hS, hb⟩; obtain ⟨A, c, rfl, hc, hC⟩ := Kd.S_reads hS; have HC := Aside0.mk hC; have HB0 := Aside0.mk (show Below W.heap.size W W1 from below_then (pw_below_drewN (Below.refl _ _) nd) (by simp) hb); clear hS hb hC))
      go_loopw [6, 19] (fun v6 v19 wr => ∃ k : Nat, k ≤ xs.length ∧ v19 = .int .i64 (k : Int) ∧ Aside0 ((Kd.fixed (Kd.slice 3 (Kd.int .i64)) W1).R 45 wr W1.heap.size (fun _ => True) v6 ((xs.take k).filter (hasS t))) ∧ Aside0 (Below W1.heap.size W1 wr)) (fun _ v19 _ => xs.length - (intOf v19).toNat)
      case atStart => exact ⟨0, Nat.zero_le _, rfl, ⟨Kd.R_nil _ _ _ _ _⟩, ⟨Below.refl _ _⟩⟩
      case round =>
        obtain ⟨k, hk, rfl, HR, HB⟩ := hrel
        have hlx := HLX.out
        by_cases hlt : k < xs.length
        · have hlt1 : decide ((k : Int) < (xs.length : Int)) = true := decide_eq_true (by omega)
          obtain ⟨ad, rfl, cs, hcs, ⟨A1, c1, rfl, h1, hC1⟩, hcell⟩ : ∃ ad, A = some ad ∧ ∃ cs, cs.length = 1 ∧ (Kd.slice 3 (Kd.int .i64)).K W1 xs[k] cs ∧ ∀ i u, cs[i]? = some u → W1.cell? (ad.add (k * 1 + i)) = some u := by
            obtain ⟨ad, e, hh⟩ := HC.out.2.2 (by omega)
            obtain ⟨cs, q1, q2, q3⟩ := hh k xs[k] (List.getElem?_eq_getElem hlt)
            exact ⟨ad, e, cs, q1, q2, q3⟩
          have hx0 : wr.cell? (ad.add k) = some (.slice A1 xs[k].length c1) := by
            have := hcell 0 _ rfl
            rw [Nat.mul_one, Nat.add_zero] at this
            exact pw_cell_below HB.out this
          have HCa := Aside0.mk (HSM.out xs[k] (List.getElem_mem hlt) A1 c1 wr (Kd.C_below hC1 HB.out) h1)
          have HK1 := Aside0.mk (show (Kd.slice 3 (Kd.int .i64)).K W1 xs[k] [.slice A1 xs[k].length c1] from ⟨A1, c1, rfl, h1, hC1⟩)
          have HTS := Aside0.mk (take_succ_filter (hasS t) xs k hlt)
          have hfl := Nat.le_trans (List.length_filter_le (hasS t) (xs.take k)) (by rw [List.length_take]; exact Nat.min_le_right _ _)
          have HFL := Aside0.mk hfl
          clear hcell hC1 hcs
          cases hq : hasS t xs[k] with
          | true =>
            rw [hq, if_pos rfl] at HTS
            have hq1 : (valS xs[k] == t) = true := by rw [← hq]; rfl
            obtain ⟨Ao, co, rfl⟩ := Kd.R_slice HR.out
            clear hq hfl
            go_wp2_with (first | (go_at_call 43; (with_reducible refine HCa.out.mono ?_); rintro e w' ⟨rfl, ⟨nd2, rfl⟩⟩) | ((with_reducible refine gate_builtin (b := .append) (xs := #[.tmp 27, .tmp 29]) rfl ?_); at_builtin; refine Kd.R_append (Kd.fixed (Kd.slice 3 (Kd.int .i64)) W1) (w0 := W1) W1.heap.size rfl (.tmp 27) (.tmp 29) 23 45 (.slice none 0 0) 24 rfl Try.underlying23 (infoRowsF W1) rfl Nat.zero_lt_one (by omega) (.slice Ao ((xs.take k).filter (hasS t)).length co) ((xs.take k).filter (hasS t)) xs[k] [.slice A1 xs[k].length c1] (fun _ => True) (fun _ => False) rfl rfl ?aP (fun _ h => h.elim) (fun _ _ => trivial) ?aO ?aB ?aS ?aL ?_; (case aP => exact HK1.out); (case aO => exact Kd.R_drewN HR.out nd2); (case aB => exact pw_below_drewN HB.out nd2); (case aS => exact (pw_below_drewN HB.out nd2).size); (case aL => have := HFL.out; have := HLX.out; omega); intro v1 w1 ho hb hg hat; have HO := Aside0.mk ho; have HB1 := Aside0.mk hb; clear ho hb hg hat))
            go_roundw
            case rel => exact ⟨k + 1, by omega, by go_num, ⟨by rw [HTS.out]; exact HO.out⟩, HB1⟩
            case measure => simp [intOf]; omega
          | false =>
            rw [hq, if_neg (by simp), List.append_nil] at HTS
            have hq1 : (valS xs[k] == t) = false := by rw [← hq]; rfl
            clear hq hfl
            go_wp2_with (go_at_call 43; (with_reducible refine HCa.out.mono ?_); rintro e w' ⟨rfl, ⟨nd2, rfl⟩⟩)
            go_roundw
            case rel => exact ⟨k + 1, by omega, by go_num, ⟨by rw [HTS.out]; exact Kd.R_drewN HR.out nd2⟩, ⟨pw_below_drewN HB.out nd2⟩⟩
            case measure => simp [intOf]; omega
        · obtain rfl : k = xs.length := by omega
          rw [List.take_length] at HR
          obtain ⟨A', c', rfl, h1, h2⟩ := Kd.R_reads HR.out
          have H2 := Aside0.mk h2
          clear h2
          go_wp2
          go_ret2
          exact ⟨A', c', rfl, h1, ReadsRow.imp_ H2.out (Below.refl _ _) (fun _ _ hp => (Kd.slice 3 (Kd.int .i64)).K_below HB.out hp), below_then HB0.out HB0.out.size HB.out⟩
    · rw [if_neg (fun hx => p1 hx.2)] at h
      have p2 : decide (t < 0) = true := decide_eq_true (by omega)
      simp only [Option.some.injEq, Prod.mk.injEq] at h
      obtain ⟨rfl, rfl⟩ := h
      clear c1 p1
      go_enter Try.func21, Try.ntmps21
      go_wp2_with (go_at_call 41; (with_reducible refine (HA.out _).mono ?_); rintro e w' ⟨rfl, ⟨nd, rfl⟩⟩)
      go_ret2
      exact ⟨none, 0, rfl, Nat.le_refl _, Kd.C_nil _ _, pw_below_drewN (Below.refl _ _) _⟩
  · rw [decide_eq_false c1] at HA
    rw [if_neg (fun hx => c1 hx.1)] at h
    simp only [Option.some.injEq, Prod.mk.injEq] at h
    obtain ⟨rfl, rfl⟩ := h
    clear c1
    go_enter Try.func21, Try.ntmps21
    go_wp2_with (go_at_call 41; (with_reducible refine (HA.out _).mono ?_); rintro e w' ⟨rfl, ⟨nd, rfl⟩⟩)
    go_ret2
    exact ⟨none, 0, rfl, Nat.le_refl _, Kd.C_nil _ _, pw_below_drewN (Below.refl _ _) _⟩

end Go.Proofs.Ytofkafbcbghkeaa.X
