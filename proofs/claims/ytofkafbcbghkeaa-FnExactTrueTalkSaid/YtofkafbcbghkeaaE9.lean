-- WRITTEN by xprint.py, a program of this session that drives the kit's printer: out of the translation. Lean checks it.
import Derived.Test.YtofkafbcbghkeaaE0
import Derived.Test.YtofkafbcbghkeaaE8
import Derived.Test.YtofkafbcbghkeaaWMore
namespace Go.Proofs.Ytofkafbcbghkeaa.E
open Go.RowKit Go.Proofs.YtofkafbcbghkeaaW.PrintWords Go.Proofs.YtofkafbcbghkeaaW.PrintLast Go.Proofs.YtofkafbcbghkeaaW.PrintMore
attribute [local go_sem] max2_int min2_int max_two min_two max_three min_three max_four min_four   -- for this text's walks alone
set_option linter.unusedVariables false
set_option linter.unusedSimpArgs false

-- OURS, BY HAND
/-! ### impl_allPairs: function 58 -/
-- func impl.allPairs
-- ext raw=1
-- needs impl.pairsThat
def AsksPA (Q : List Int → Bool) : Prop := ∀ (a b : Nat) (v : Value) (bb : Nat) (W : World), 1 ≤ a → a ≤ b → b ≤ 40 → (Kd.int .i64).R 3 W bb (fun _ => True) v [(a : Int), (b : Int)] → 
  Calls Try.prog 71 #[v] W fun e w' => e = .returned (.bool (Q [(a : Int), (b : Int)])) ∧ Drawn0 W w'
set_option maxHeartbeats 8000000 in
set_option maxRecDepth 100000 in
theorem pairsThatA_calls (Q : List Int → Bool) (hQ : AsksPA Q) (m : Nat) (hm : m ≤ 40) (W : World) :
    Calls Try.prog 45 #[.int .i64 m, .func (.func 71) #[] #[]] W fun e w' => ∃ v, e = .returned v ∧ Kd.S (Kd.slice 3 (Kd.int .i64)) 45 w' W.heap.size (fun _ => True) v ((prs m m).filter Q) ∧ Below W.heap.size W w' := by
  have HQ := Aside0.mk hQ
  
  clear hQ
  have hm1 : (m : Int) ≤ 40 := by omega
  go_enter Try.func45, Try.ntmps45
  go_wp2_with ((with_reducible refine gate_dst (N := 9) rfl ?_); refine Kd.S_lit (Kd.slice 3 (Kd.int .i64)) (w0 := W) W.heap.size 45 ?hg (N := 9) ?hd (xs := ([] : List (List Int))) (inner := []) (ok := fun _ => True) (okp := fun _ => True) ?hr ?hp (fun _ hk => hk) trivial ?hB ?hS (by simp) ?_; (case hd => rfl); (case hg => rfl); (case hr => first | (go_simp; done) | (go_simp; rfl)); (case hp => exact (Reps.none _ _)); (case hB => exact Below.refl _ _); (case hS => exact Nat.le_refl _); intro v1 w1 ho hb hg hnew; have HO := Aside0.mk ho; have HB1 := Aside0.mk hb; clear ho hb hg hnew)
  go_loopw [5, 6] (fun v5 v6 wr => ∃ k : Nat, k ≤ m ∧ v6 = .int .i64 ((k : Int) + 1) ∧ Aside0 (Kd.S (Kd.slice 3 (Kd.int .i64)) 45 wr W.heap.size (fun _ => True) v5 ((prs m k).filter Q)) ∧ Aside0 (Below W.heap.size W wr)) (fun _ v6 _ => m + 1 - (intOf v6).toNat)
  case atStart => exact ⟨0, Nat.zero_le _, rfl, HO, HB1⟩
  case round =>
    obtain ⟨k, hk, rfl, HS, HB⟩ := hrel
    by_cases hlt : k < m
    · have hlt1 : decide ((k : Int) + 1 ≤ (m : Int)) = true := decide_eq_true (by omega)
      go_wp2
      go_loopw [5, 7] (fun v5 v7 wr => ∃ j : Nat, j ≤ m - k ∧ v7 = .int .i64 ((k : Int) + 1 + (j : Int)) ∧ Aside0 (Kd.S (Kd.slice 3 (Kd.int .i64)) 45 wr W.heap.size (fun _ => True) v5 ((prs m k ++ (rowsOf m (k + 1)).take j).filter Q)) ∧ Aside0 (Below W.heap.size W wr)) (fun _ v7 _ => m + 1 - (intOf v7).toNat)
      case atStart => exact ⟨0, Nat.zero_le _, by go_num, ⟨by rw [List.take_zero, List.append_nil]; exact HS.out⟩, HB⟩
      case round =>
        clear HS HB
        obtain ⟨j, hj, rfl, HS, HB⟩ := hrel
        by_cases hjl : j < m - k
        · have hjl1 : decide ((k : Int) + 1 + (j : Int) ≤ (m : Int)) = true := decide_eq_true (by omega)
          have hcast : ((k + 1 : Nat) : Int) = (k : Int) + 1 := by omega
          have hcast2 : ((k + 1 + j : Nat) : Int) = (k : Int) + 1 + (j : Int) := by omega
          have hq0 := fun v bb W1 => HQ.out (k + 1) (k + 1 + j) v bb W1 (by omega) (by omega) (by omega)
          have hts := rowsOf_take m (k + 1) j (by omega)
          rw [hcast, hcast2] at hts
          rw [hcast, hcast2] at hq0
          have hln : ((prs m k ++ (rowsOf m (k + 1)).take j).filter Q).length ≤ 4000 := by
            have h1 := List.length_filter_le Q (prs m k ++ (rowsOf m (k + 1)).take j)
            have h2 := prs_len m k
            have h3 : k * (m + 1) ≤ 40 * 41 := Nat.mul_le_mul (by omega) (by omega)
            rw [List.length_append, List.length_take] at h1
            omega
          obtain ⟨done, hdone⟩ : ∃ done, done = prs m k ++ (rowsOf m (k + 1)).take j := ⟨_, rfl⟩
          rw [← hdone] at hln HS
          have HLN := Aside0.mk hln
          have HTS := Aside0.mk (show prs m k ++ (rowsOf m (k + 1)).take (j + 1) = done ++ [[(k : Int) + 1, (k : Int) + 1 + (j : Int)]] by rw [hts, ← List.append_assoc, ← hdone])
          obtain ⟨s, hs⟩ : ∃ s : List Int, s = [(k : Int) + 1, (k : Int) + 1 + (j : Int)] := ⟨_, rfl⟩
          rw [← hs] at HTS
          have HQ0 := Aside0.mk hq0
          clear hq0 hts hln hdone hcast hcast2
          cases hqs : Q [(k : Int) + 1, (k : Int) + 1 + (j : Int)] with
          | false =>
            rw [hqs] at HQ0
            have HF := Aside0.mk (show Q s = false by rw [hs]; exact hqs)
            clear hqs
            go_wp2_with (first | ((with_reducible refine gate_dst (N := 23) rfl ?_); refine Kd.R_lit (Kd.int .i64) (w0 := wr) wr.heap.size 3 ?hg (N := 23) ?hd (xs := [(k : Int) + 1, (k : Int) + 1 + (j : Int)]) (inner := [.int .i64 ((k : Int) + 1), .int .i64 ((k : Int) + 1 + (j : Int))]) (ok := fun _ => True) (okp := fun _ => True) ?hr ?hp (fun _ _ => trivial) trivial (Below.refl _ _) (Nat.le_refl _) (by simp) ?_; (case hd => rfl); (case hg => rfl); (case hr => first | (go_simp; done) | (go_simp; rfl)); (case hp => exact reps_two _ _ _ _ _); intro v2 w2 ho hb hg hnew; have HP := Aside0.mk ho; have HB2 := Aside0.mk hb; clear ho hb hg hnew) | (go_at_call 71; (with_reducible refine (HQ0.out _ _ _ HP.out).mono ?_); rintro e w' ⟨rfl, ⟨nd, rfl⟩⟩))
            go_roundw
            case rel =>
              refine ⟨j + 1, by omega, by go_num, ⟨?_⟩, ⟨?_⟩⟩
              · rw [HTS.out, List.filter_append, show [s].filter Q = [] by simp [HF.out], List.append_nil]
                exact Kd.S_drewN (Kd.S_below HS.out HB2.out) nd
              · exact pw_below_drewN (below_then HB.out HB.out.size HB2.out) nd
            case measure => simp [intOf]; omega
          | true =>
            rw [hqs] at HQ0
            have HF := Aside0.mk (show Q s = true by rw [hs]; exact hqs)
            clear hqs
            obtain ⟨Ao, co, rfl⟩ := Kd.S_slice HS.out
            go_wp2_with (first | ((with_reducible refine gate_dst (N := 23) rfl ?_); refine Kd.R_lit (Kd.int .i64) (w0 := wr) wr.heap.size 3 ?hg (N := 23) ?hd (xs := [(k : Int) + 1, (k : Int) + 1 + (j : Int)]) (inner := [.int .i64 ((k : Int) + 1), .int .i64 ((k : Int) + 1 + (j : Int))]) (ok := fun _ => True) (okp := fun _ => True) ?hr ?hp (fun _ _ => trivial) trivial (Below.refl _ _) (Nat.le_refl _) (by simp) ?_; (case hd => rfl); (case hg => rfl); (case hr => first | (go_simp; done) | (go_simp; rfl)); (case hp => exact reps_two _ _ _ _ _); intro v2 w2 ho hb hg hnew; have HP := Aside0.mk ho; have HB2 := Aside0.mk hb; have HE := Aside0.mk (Kd.S_elder' HS.out (Kd.R_base ho) hb); have HTY := Aside0.mk (Kd.S_typed (Kd.S_elder' HS.out (Kd.R_base ho) hb)); rw [← hs] at ho; have HRT := Aside0.mk (Kd.R_mono (Kd.R_tight rfl (Kd.R_apart' (Kd.R_lower ho HB.out.size) HTY.out (by decide))) (fun _ h => h)); have HRA := Aside0.mk (Kd.R_apart' (Kd.R_lower ho HB.out.size) HTY.out (by decide)).1; clear ho hb hg hnew) | (go_at_call 71; (with_reducible refine (HQ0.out _ _ _ HP.out).mono ?_); rintro e w' ⟨rfl, ⟨nd, rfl⟩⟩; obtain ⟨A2, c2, rfl⟩ := Kd.R_slice HP.out) | ((with_reducible refine gate_builtin (b := .append) (xs := #[.tmp 27, .tmp 29]) rfl ?_); at_builtin; refine Kd.S_append (Kd.slice 3 (Kd.int .i64)) (w0 := W) W.heap.size rfl (.tmp 27) (.tmp 29) 23 45 (.slice none 0 0) 24 rfl Try.underlying23 infoRows rfl (by decide) (by omega) (.slice Ao (done.filter Q).length co) (done.filter Q) s [.slice A2 [(k : Int) + 1, (k : Int) + 1 + (j : Int)].length c2] (fun _ => True) (fun k_ => some k_ = (.slice A2 [(k : Int) + 1, (k : Int) + 1 + (j : Int)].length c2 : Value).ownBlock) rfl rfl ?aP (fun k_ hk_ => ⟨trivial, (HRA.out k_ hk_.symm).2⟩) (fun _ _ => trivial) ?aO ?aB ?aS ?aL ?_; (case aP => exact Kd.M_row (Kd.R_drewN HRT.out _)); (case aO => exact Kd.S_drewN (Kd.S_mono HE.out (fun _ hk => ⟨trivial, fun e_ => hk.2 e_⟩)) _); (case aB => exact pw_below_drewN (below_then HB.out HB.out.size HB2.out) _); (case aS => exact (pw_below_drewN (below_then HB.out HB.out.size HB2.out) _).size); (case aL => have := HLN.out; omega); intro v3 w3 ho hb hg hat; have HO3 := Aside0.mk ho; have HB3 := Aside0.mk hb; clear ho hb hg hat))
            go_roundw
            case rel =>
              refine ⟨j + 1, by omega, by go_num, ⟨?_⟩, HB3⟩
              rw [HTS.out, List.filter_append, show [s].filter Q = [s] by simp [HF.out]]
              exact HO3.out
            case measure => simp [intOf]; omega
        · obtain rfl : j = m - k := by omega
          have hjl1 : decide ((k : Int) + 1 + ((m - k : Nat) : Int) ≤ (m : Int)) = false := decide_eq_false (by omega)
          go_wp2
          go_roundw
          case rel =>
            refine ⟨k + 1, by omega, by go_num, ⟨?_⟩, HB⟩
            have e : (rowsOf m (k + 1)).take (m - k) = rowsOf m (k + 1) := List.take_of_length_le (by rw [rowsOf_len]; omega)
            rw [e] at HS
            exact HS.out
          case measure => simp [intOf]; omega
    · obtain rfl : k = m := by omega
      have hlt1 : decide ((k : Int) + 1 ≤ (k : Int)) = false := decide_eq_false (by omega)
      go_wp2
      go_ret
      exact ⟨_, rfl, HS.out, HB.out⟩
set_option maxHeartbeats 800000 in
set_option maxRecDepth 100000 in
theorem asksA : AsksPA (fun _ => true) := by
  intro a b v bb W ha hab hb hR
  go_enter Try.func71, Try.ntmps71
  go_wp2
  go_ret
  exact ⟨rfl, ⟨0, rfl⟩⟩
theorem filter_all (xs : List (List Int)) : xs.filter (fun _ => true) = xs := by simp
set_option maxHeartbeats 800000 in
set_option maxRecDepth 100000 in
theorem allPairs_calls (m : Nat) (hm : m ≤ 40) (W : World) :
    Calls Try.prog 58 #[.int .i64 m] W fun e w' => ∃ A c, e = .returned (.slice A (prs m m).length c) ∧ (prs m m).length ≤ c ∧ Kd.C (Kd.slice 3 (Kd.int .i64)) w' A (prs m m).length (prs m m) ∧ Below W.heap.size W w' := by
  have HP := Aside0.mk (pairsThatA_calls (fun _ => true) asksA m hm W)
  rw [filter_all] at HP
  go_enter Try.func58, Try.ntmps58
  go_wp2_with (go_at_call 45; (with_reducible refine HP.out.mono ?_); rintro e w' ⟨v, rfl, hS, hb⟩; obtain ⟨A, c, rfl, hc, hC⟩ := Kd.S_reads hS; have HC := Aside0.mk hC; have HB := Aside0.mk hb; clear hS hb hC)
  go_ret
  exact ⟨A, c, rfl, hc, HC.out, HB.out⟩

end Go.Proofs.Ytofkafbcbghkeaa.E
