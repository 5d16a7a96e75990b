-- WRITTEN by xprint.py, a program of this session that drives the kit's printer: out of the translation. Lean checks it.
import Derived.Test.YtofkafbcbghkeaaX0
import Derived.Test.YtofkafbcbghkeaaX3
import Derived.Test.YtofkafbcbghkeaaX4
import Derived.Test.YtofkafbcbghkeaaX5
import Derived.Test.YtofkafbcbghkeaaWMore
namespace Go.Proofs.Ytofkafbcbghkeaa.X
open Go.RowKit Go.Proofs.YtofkafbcbghkeaaW.PrintWords Go.Proofs.YtofkafbcbghkeaaW.PrintLast Go.Proofs.YtofkafbcbghkeaaW.PrintMore
attribute [local go_sem] max2_int min2_int max_two min_two max_three min_three max_four min_four   -- for this text's walks alone
set_option linter.unusedVariables false
set_option linter.unusedSimpArgs false

-- OURS, BY HAND
/-! ### impl_PairsOfSum: function 22 -/
-- func impl.PairsOfSum
-- ext rounds=0 making=1
-- needs impl.pairsThat
def AsksPS (t : Int) (Q : List Int → Bool) : Prop := ∀ (a b : Nat) (v : Value) (r bb : Nat) (W : World), 1 ≤ a → a ≤ b → b ≤ 40 → (Kd.int .i64).R 3 W bb (fun _ => True) v [(a : Int), (b : Int)] → W.heap[r]? = some (.cells #[.int .i64 t] 3 (0, 0)) →
  Calls Try.prog 51 #[v, .pointer (some ⟨r, 0, none⟩)] W fun e w' => e = .returned (.bool (Q [(a : Int), (b : Int)])) ∧ Drawn0 W w'
set_option maxHeartbeats 8000000 in
set_option maxRecDepth 100000 in
theorem pairsThatS_calls (r : Nat) (t : Int) (Q : List Int → Bool) (hQ : AsksPS t Q) (m : Nat) (hm : m ≤ 40) (W : World) (hr : W.heap[r]? = some (.cells #[.int .i64 t] 3 (0, 0))) :
    Calls Try.prog 45 #[.int .i64 m, .func (.func 51) #[] #[.pointer (some ⟨r, 0, none⟩)]] W fun e w' => ∃ v, e = .returned v ∧ Kd.S (Kd.slice 3 (Kd.int .i64)) 45 w' W.heap.size (fun _ => True) v ((prs m m).filter Q) ∧ Below W.heap.size W w' := by
  have HQ := Aside0.mk hQ
  have HR := Aside0.mk hr
  clear hQ hr
  have hm1 : (m : Int) ≤ 40 := by omega
  go_enter Try.func45, Try.ntmps45
  go_wp2_with ((with_reducible refine gate_dst (N := 9) rfl ?_); refine Kd.S_lit (Kd.slice 3 (Kd.int .i64)) (w0 := W) W.heap.size 45 ?hg (N := 9) ?hd (xs := ([] : List (List Int))) (inner := []) (ok := fun _ => True) (okp := fun _ => True) ?hr ?hp (fun _ hk => hk) trivial ?hB ?hS (by simp) ?_; (case hd => rfl); (case hg => rfl); (case hr => first | (go_simp; done) | (go_simp; rfl)); (case hp => exact (Reps.none _ _)); (case hB => exact Below.refl _ _); (case hS => exact Nat.le_refl _); intro v1 w1 ho hb hg hnew; have HO := Aside0.mk ho; have HB1 := Aside0.mk hb; clear ho hb hg hnew)
  go_loopw [5, 6] (fun v5 v6 wr => ∃ k : Nat, k ≤ m ∧ v6 = .int .i64 ((k : Int) + 1) ∧ Aside0 (Kd.S (Kd.slice 3 (Kd.int .i64)) 45 wr W.heap.size (fun _ => True) v5 ((prs m k).filter Q)) ∧ Aside0 (Below W.heap.size W wr)) (fun _ v6 _ => m + 1 - (intOf v6).toNat)
  case atStart => exact ⟨0, Nat.zero_le _, rfl, HO, HB1⟩
  case round =>
    obtain ⟨k, hk, rfl, HS, HB⟩ := hrel
    by_cases hlt : k < m
    · have hlt1 : decide ((k : Int) + 1 ≤ (m : Int)) = true := decide_eq_true (by omega)
      go_wp2
      go_loopw [5, 7] (fun v5 v7 wr => ∃ j : Nat, j ≤ m - k ∧ v7 = .int .i64 ((k : Int) + 1 + (j : Int)) ∧ Aside0 (Kd.S (Kd.slice 3 (Kd.int .i64)) 45 wr W.heap.size (fun _ => True) v5 ((prs m k ++ (rowsOf m (k + 1)).take j).filter Q)) ∧ Aside0 (Below W.heap.size W wr)) (fun _ v7 _ => m + 1 - (intOf v7).toNat)
      case atStart => exact ⟨0, Nat.zero_le _, by go_num, ⟨by rw [List.take_zero, List.append_nil]; exact HS.out⟩, HB⟩
      case round =>
        clear HS HB
        obtain ⟨j, hj, rfl, HS, HB⟩ := hrel
        by_cases hjl : j < m - k
        · have hjl1 : decide ((k : Int) + 1 + (j : Int) ≤ (m : Int)) = true := decide_eq_true (by omega)
          have hcast : ((k + 1 : Nat) : Int) = (k : Int) + 1 := by omega
          have hcast2 : ((k + 1 + j : Nat) : Int) = (k : Int) + 1 + (j : Int) := by omega
          have hq0 := fun v bb W1 => HQ.out (k + 1) (k + 1 + j) v r bb W1 (by omega) (by omega) (by omega)
          have hts := rowsOf_take m (k + 1) j (by omega)
          rw [hcast, hcast2] at hts
          rw [hcast, hcast2] at hq0
          have hln : ((prs m k ++ (rowsOf m (k + 1)).take j).filter Q).length ≤ 4000 := by
            have h1 := List.length_filter_le Q (prs m k ++ (rowsOf m (k + 1)).take j)
            have h2 := prs_len m k
            have h3 : k * (m + 1) ≤ 40 * 41 := Nat.mul_le_mul (by omega) (by omega)
            rw [List.length_append, List.length_take] at h1
            omega
          obtain ⟨done, hdone⟩ : ∃ done, done = prs m k ++ (rowsOf m (k + 1)).take j := ⟨_, rfl⟩
          rw [← hdone] at hln HS
          have HLN := Aside0.mk hln
          have HTS := Aside0.mk (show prs m k ++ (rowsOf m (k + 1)).take (j + 1) = done ++ [[(k : Int) + 1, (k : Int) + 1 + (j : Int)]] by rw [hts, ← List.append_assoc, ← hdone])
          obtain ⟨s, hs⟩ : ∃ s : List Int, s = [(k : Int) + 1, (k : Int) + 1 + (j : Int)] := ⟨_, rfl⟩
          rw [← hs] at HTS
          have HQ0 := Aside0.mk hq0
          clear hq0 hts hln hdone hcast hcast2
          cases hqs : Q [(k : Int) + 1, (k : Int) + 1 + (j : Int)] with
          | false =>
            rw [hqs] at HQ0
            have HF := Aside0.mk (show Q s = false by rw [hs]; exact hqs)
            clear hqs
            go_wp2_with (first | ((with_reducible refine gate_dst (N := 23) rfl ?_); refine Kd.R_lit (Kd.int .i64) (w0 := wr) wr.heap.size 3 ?hg (N := 23) ?hd (xs := [(k : Int) + 1, (k : Int) + 1 + (j : Int)]) (inner := [.int .i64 ((k : Int) + 1), .int .i64 ((k : Int) + 1 + (j : Int))]) (ok := fun _ => True) (okp := fun _ => True) ?hr ?hp (fun _ _ => trivial) trivial (Below.refl _ _) (Nat.le_refl _) (by simp) ?_; (case hd => rfl); (case hg => rfl); (case hr => first | (go_simp; done) | (go_simp; rfl)); (case hp => exact reps_two _ _ _ _ _); intro v2 w2 ho hb hg hnew; have HP := Aside0.mk ho; have HB2 := Aside0.mk hb; have GR := Aside0.mk (blk_below (blk_below HR.out HB.out) hb); clear ho hb hg hnew) | (go_at_call 51; (with_reducible refine (HQ0.out _ _ _ HP.out GR.out).mono ?_); rintro e w' ⟨rfl, ⟨nd, rfl⟩⟩))
            go_roundw
            case rel =>
              refine ⟨j + 1, by omega, by go_num, ⟨?_⟩, ⟨?_⟩⟩
              · rw [HTS.out, List.filter_append, show [s].filter Q = [] by simp [HF.out], List.append_nil]
                exact Kd.S_drewN (Kd.S_below HS.out HB2.out) nd
              · exact pw_below_drewN (below_then HB.out HB.out.size HB2.out) nd
            case measure => simp [intOf]; omega
          | true =>
            rw [hqs] at HQ0
            have HF := Aside0.mk (show Q s = true by rw [hs]; exact hqs)
            clear hqs
            obtain ⟨Ao, co, rfl⟩ := Kd.S_slice HS.out
            go_wp2_with (first | ((with_reducible refine gate_dst (N := 23) rfl ?_); refine Kd.R_lit (Kd.int .i64) (w0 := wr) wr.heap.size 3 ?hg (N := 23) ?hd (xs := [(k : Int) + 1, (k : Int) + 1 + (j : Int)]) (inner := [.int .i64 ((k : Int) + 1), .int .i64 ((k : Int) + 1 + (j : Int))]) (ok := fun _ => True) (okp := fun _ => True) ?hr ?hp (fun _ _ => trivial) trivial (Below.refl _ _) (Nat.le_refl _) (by simp) ?_; (case hd => rfl); (case hg => rfl); (case hr => first | (go_simp; done) | (go_simp; rfl)); (case hp => exact reps_two _ _ _ _ _); intro v2 w2 ho hb hg hnew; have HP := Aside0.mk ho; have HB2 := Aside0.mk hb; have GR := Aside0.mk (blk_below (blk_below HR.out HB.out) hb); have HE := Aside0.mk (Kd.S_elder' HS.out (Kd.R_base ho) hb); have HTY := Aside0.mk (Kd.S_typed (Kd.S_elder' HS.out (Kd.R_base ho) hb)); rw [← hs] at ho; have HRT := Aside0.mk (Kd.R_mono (Kd.R_tight rfl (Kd.R_apart' (Kd.R_lower ho HB.out.size) HTY.out (by decide))) (fun _ h => h)); have HRA := Aside0.mk (Kd.R_apart' (Kd.R_lower ho HB.out.size) HTY.out (by decide)).1; clear ho hb hg hnew) | (go_at_call 51; (with_reducible refine (HQ0.out _ _ _ HP.out GR.out).mono ?_); rintro e w' ⟨rfl, ⟨nd, rfl⟩⟩; obtain ⟨A2, c2, rfl⟩ := Kd.R_slice HP.out) | ((with_reducible refine gate_builtin (b := .append) (xs := #[.tmp 27, .tmp 29]) rfl ?_); at_builtin; refine Kd.S_append (Kd.slice 3 (Kd.int .i64)) (w0 := W) W.heap.size rfl (.tmp 27) (.tmp 29) 23 45 (.slice none 0 0) 24 rfl Try.underlying23 infoRows rfl (by decide) (by omega) (.slice Ao (done.filter Q).length co) (done.filter Q) s [.slice A2 [(k : Int) + 1, (k : Int) + 1 + (j : Int)].length c2] (fun _ => True) (fun k_ => some k_ = (.slice A2 [(k : Int) + 1, (k : Int) + 1 + (j : Int)].length c2 : Value).ownBlock) rfl rfl ?aP (fun k_ hk_ => ⟨trivial, (HRA.out k_ hk_.symm).2⟩) (fun _ _ => trivial) ?aO ?aB ?aS ?aL ?_; (case aP => exact Kd.M_row (Kd.R_drewN HRT.out _)); (case aO => exact Kd.S_drewN (Kd.S_mono HE.out (fun _ hk => ⟨trivial, fun e_ => hk.2 e_⟩)) _); (case aB => exact pw_below_drewN (below_then HB.out HB.out.size HB2.out) _); (case aS => exact (pw_below_drewN (below_then HB.out HB.out.size HB2.out) _).size); (case aL => have := HLN.out; omega); intro v3 w3 ho hb hg hat; have HO3 := Aside0.mk ho; have HB3 := Aside0.mk hb; clear ho hb hg hat))
            go_roundw
            case rel =>
              refine ⟨j + 1, by omega, by go_num, ⟨?_⟩, HB3⟩
              rw [HTS.out, List.filter_append, show [s].filter Q = [s] by simp [HF.out]]
              exact HO3.out
            case measure => simp [intOf]; omega
        · obtain rfl : j = m - k := by omega
          have hjl1 : decide ((k : Int) + 1 + ((m - k : Nat) : Int) ≤ (m : Int)) = false := decide_eq_false (by omega)
          go_wp2
          go_roundw
          case rel =>
            refine ⟨k + 1, by omega, by go_num, ⟨?_⟩, HB⟩
            have e : (rowsOf m (k + 1)).take (m - k) = rowsOf m (k + 1) := List.take_of_length_le (by rw [rowsOf_len]; omega)
            rw [e] at HS
            exact HS.out
          case measure => simp [intOf]; omega
    · obtain rfl : k = m := by omega
      have hlt1 : decide ((k : Int) + 1 ≤ (k : Int)) = false := decide_eq_false (by omega)
      go_wp2
      go_ret
      exact ⟨_, rfl, HS.out, HB.out⟩
def hasS (t : Int) (s : List Int) : Bool := decide (valS s = t)
set_option maxHeartbeats 8000000 in
set_option maxRecDepth 100000 in
theorem asksS (t : Int) : AsksPS t (hasS t) := by
  intro a b v r bb W ha hab hb hR hr
  obtain ⟨A, c, rfl⟩ := Kd.R_slice hR
  obtain ⟨_, hcc, hC⟩ := Kd.R_reads' hR
  have HP := Aside0.mk (fun n => impl_value.calls A c _ ⟨#[115]⟩ _ (W.drewN n) (Kd.C_drewN hC n) hcc (value_S a b (by omega) (by omega)))
  have hc1 := fun m => blk_cell (blk_drewN hr m) 0
  simp only [List.getElem?_toArray, List.getElem?_cons_zero] at hc1
  obtain ⟨s, hs⟩ : ∃ s : List Int, s = [(a : Int), (b : Int)] := ⟨_, rfl⟩
  rw [← hs] at HP ⊢
  have e1 : (valS s == t) = hasS t s := rfl
  clear hR hC hs
  go_enter Try.func51, Try.ntmps51
  go_wp2
  go_quiet ((go_at_call 47; (with_reducible refine (HP.out _).mono ?_); rintro e w' ⟨rfl, ⟨nd, rfl⟩⟩; exact ⟨rfl, _, World.drewN_drewN _ _ _⟩))
  go_wp2
  go_ret
  exact ⟨by rw [← e1]; rfl, ⟨_, rfl⟩⟩
def impl_PairsOfSum.f (m t : Int) : Option (List (List Int) × Bool) := if (2 ≤ m ∧ m ≤ 40) ∧ 0 ≤ t then some ((prs m.toNat m.toNat).filter (hasS t), true) else some ([], false)
set_option maxHeartbeats 8000000 in
set_option maxRecDepth 100000 in
theorem impl_PairsOfSum.calls (m t : Int) (r1 : List (List Int)) (r2 : Bool) (W : World) (h : impl_PairsOfSum.f m t = some (r1, r2)) :
    Calls Try.prog 22 #[.int .i64 m, .int .i64 t] W fun e w' => ∃ v, e = .returned (.tuple #[v, .bool r2]) ∧ Kd.S (Kd.slice 3 (Kd.int .i64)) 45 w' W.heap.size (fun _ => True) v r1 ∧ Below W.heap.size W w' := by
  unfold impl_PairsOfSum.f at h
  have HA := Aside0.mk (fun w => impl_isMost.calls m _ w (isMost_is m))
  by_cases c1 : 2 ≤ m ∧ m ≤ 40
  · rw [decide_eq_true c1] at HA
    by_cases p1 : 0 ≤ t
    · rw [if_pos ⟨c1, p1⟩] at h
      have p2 : decide (t < 0) = false := decide_eq_false (by omega)
      obtain ⟨n, rfl⟩ : ∃ n : Nat, m = n := ⟨m.toNat, by omega⟩
      simp only [Option.some.injEq, Prod.mk.injEq] at h
      obtain ⟨rfl, rfl⟩ := h
      have HT := Aside0.mk (fun (W' : World) hr => pairsThatS_calls W.heap.size t (hasS t) (asksS t) n (by omega) W' hr)
      clear c1 p1
      go_enter Try.func22, Try.ntmps22
      go_wp2_with (first | (go_at_call 44; (with_reducible refine (HA.out _).mono ?_); rintro e w' ⟨rfl, ⟨nd, rfl⟩⟩; have hcr0 : ((W.alloc (.cells #[.int .i64 t] 3)).drewN nd).cell? ⟨W.heap.size, 0, none⟩ = some (.int .i64 t) := (blk_cell (blk_drewN (blk_new W _) nd) 0).trans rfl) | (go_at_call 45; (with_reducible refine (HT.out _ (by first | exact blk_new _ _ | exact blk_drewN (blk_new _ _) _ | exact blk_drewN (blk_drewN (blk_new _ _) _) _)).mono ?_); rintro e w' ⟨v, rfl, hS, hb⟩; have HS := Aside0.mk hS; have HBW := Aside0.mk hb; clear hS hb; obtain ⟨A1, c1, rfl⟩ := Kd.S_slice HS.out))
      go_ret2
      refine ⟨_, rfl, Kd.S_lower HS.out ?_, ?_⟩
      · simp
      · exact below_then (by repeat (first | exact Below.refl _ _ | apply below_alloc | apply pw_below_drewN)) (by simp) HBW.out
    · rw [if_neg (fun hx => p1 hx.2)] at h
      have p2 : decide (t < 0) = true := decide_eq_true (by omega)
      simp only [Option.some.injEq, Prod.mk.injEq] at h
      obtain ⟨rfl, rfl⟩ := h
      clear c1 p1
      go_enter Try.func22, Try.ntmps22
      go_wp2_with (go_at_call 44; (with_reducible refine (HA.out _).mono ?_); rintro e w' ⟨rfl, ⟨nd, rfl⟩⟩; have hcr0 : ((W.alloc (.cells #[.int .i64 t] 3)).drewN nd).cell? ⟨W.heap.size, 0, none⟩ = some (.int .i64 t) := (blk_cell (blk_drewN (blk_new W _) nd) 0).trans rfl)
      go_ret2
      exact ⟨_, rfl, Kd.S_nil _ _ _ _ _, by repeat (first | exact Below.refl _ _ | apply below_alloc | apply pw_below_drewN)⟩
  · rw [decide_eq_false c1] at HA
    rw [if_neg (fun hx => c1 hx.1)] at h
    simp only [Option.some.injEq, Prod.mk.injEq] at h
    obtain ⟨rfl, rfl⟩ := h
    clear c1
    go_enter Try.func22, Try.ntmps22
    go_wp2_with (go_at_call 44; (with_reducible refine (HA.out _).mono ?_); rintro e w' ⟨rfl, ⟨nd, rfl⟩⟩; have hcr0 : ((W.alloc (.cells #[.int .i64 t] 3)).drewN nd).cell? ⟨W.heap.size, 0, none⟩ = some (.int .i64 t) := (blk_cell (blk_drewN (blk_new W _) nd) 0).trans rfl)
    go_ret2
    exact ⟨_, rfl, Kd.S_nil _ _ _ _ _, by repeat (first | exact Below.refl _ _ | apply below_alloc | apply pw_below_drewN)⟩

end Go.Proofs.Ytofkafbcbghkeaa.X
