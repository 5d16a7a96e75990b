-- WRITTEN by xprint.py, a program of this session that drives the kit's printer: out of the translation. Lean checks it.
import Derived.Test.YtofkafbcbghkeaaX0
import Derived.Test.YtofkafbcbghkeaaX4
import Derived.Test.YtofkafbcbghkeaaX10
import Derived.Test.YtofkafbcbghkeaaX11
import Derived.Test.YtofkafbcbghkeaaX16
import Derived.Test.YtofkafbcbghkeaaX27
import Derived.Test.YtofkafbcbghkeaaX29
import Derived.Test.YtofkafbcbghkeaaWLast
import Derived.Test.YtofkafbcbghkeaaWWords
namespace Go.Proofs.Ytofkafbcbghkeaa.X
open Go.RowKit Go.Proofs.YtofkafbcbghkeaaW.PrintWords Go.Proofs.YtofkafbcbghkeaaW.PrintLast
set_option linter.unusedVariables false
set_option linter.unusedSimpArgs false

-- OURS, BY HAND
/-! ### impl_IsTrueTalk: function 34 -/
-- func impl.IsTrueTalk
-- ext rounds=0 making=1
-- needs spec.IsTrueTalk
-- needs impl.left
-- needs impl.isPair
-- needs impl.isTalk
-- needs slices.DeleteFunc[[][]int,[]int]
/-- What isTrue's function finds in its boxes. -/
def Own3 (r1 r2 : Nat) (a b : Int) (W : World) : Prop := W.heap[r1]? = some (.cells #[.int .i64 a] 3 (0, 0)) ∧ W.heap[r2]? = some (.cells #[.int .i64 b] 3 (0, 0))
set_option maxHeartbeats 1600000 in
set_option maxRecDepth 100000 in
theorem asks3 (r1 r2 : Nat) (a b : Int) (s : List Int) (A : Option Addr) (c : Nat) (W : World) (ha : Ages s) (hcc : s.length ≤ c) (hC : (Kd.int .i64).C W A s.length s) (hP : Own3 r1 r2 a b W) :
    Calls Try.prog 74 #[.slice A s.length c, .pointer (some ⟨r1, 0, none⟩), .pointer (some ⟨r2, 0, none⟩)] W fun e w' => e = .returned (.bool ((rd s 0 == a) && (rd s 1 == b))) ∧ Drawn0 W w' := by
  obtain ⟨p1, p2⟩ := hP
  have hl := ha.len
  obtain ⟨A1, rfl, q0⟩ := Kd.at_int hC 0 (by omega) (by rw [hl]; decide)
  have q1 : W.cell? (A1.add 1) = some (.int .i64 (rd s 1)) := by
    obtain ⟨a2, e, q1⟩ := Kd.at_int hC 1 (by omega) (by rw [hl]; decide)
    obtain rfl := Option.some.inj e
    exact q1
  have d0 : W.drew.cell? (A1.add 0) = some (.int .i64 (rd s 0)) := q0
  have d0' : W.drew.cell? A1 = some (.int .i64 (rd s 0)) := q0
  have d0'' : W.cell? A1 = some (.int .i64 (rd s 0)) := q0
  have d1 : W.drew.cell? (A1.add 1) = some (.int .i64 (rd s 1)) := q1
  have d1' : W.cell? ⟨A1.block, A1.off + 1, none⟩ = some (.int .i64 (rd s 1)) := q1
  have d2 : W.drew.cell? ⟨r1, 0, none⟩ = some (.int .i64 a) := (blk_cell p1 0).trans rfl
  have d3 : W.drew.cell? ⟨r2, 0, none⟩ = some (.int .i64 b) := (blk_cell p2 0).trans rfl
  have d2' : W.cell? ⟨r1, 0, none⟩ = some (.int .i64 a) := (blk_cell p1 0).trans rfl
  have d3' : W.cell? ⟨r2, 0, none⟩ = some (.int .i64 b) := (blk_cell p2 0).trans rfl
  rw [hl] at hcc ⊢
  obtain ⟨x, hx⟩ : ∃ x, x = rd s 0 := ⟨_, rfl⟩
  obtain ⟨y, hy⟩ : ∃ y, y = rd s 1 := ⟨_, rfl⟩
  rw [← hx] at d0 d0' d0'' q0 ⊢
  rw [← hy] at d1 d1' q1 ⊢
  clear hC ha hl p1 p2 hx hy
  cases h1 : (x == a) with
  | true =>
    go_enter Try.func74, Try.ntmps74
    go_wp2
    go_region
    all_goals
      go_wp2
      go_ret
      exact ⟨by simp, ⟨1, rfl⟩⟩
  | false =>
    go_enter Try.func74, Try.ntmps74
    go_wp2
    go_region
    all_goals
      go_wp2
      go_ret
      exact ⟨by simp, ⟨1, rfl⟩⟩
set_option maxHeartbeats 800000 in
set_option maxRecDepth 100000 in
theorem index3_calls (r1 r2 : Nat) (a b : Int) (A : Option Addr) (c : Nat) (xs : List (List Int)) (W : World) (hC : Kd.C (Kd.slice 3 (Kd.int .i64)) W A xs.length xs) (hc : xs.length ≤ c) (ha : ∀ x ∈ xs, Ages x) (hn : xs.length ≤ 4000) (hP : Own3 r1 r2 a b W) :
    Calls Try.prog 82 #[.slice A xs.length c, .func (.func 74) #[] #[.pointer (some ⟨r1, 0, none⟩), .pointer (some ⟨r2, 0, none⟩)]] W fun e w' => e = .returned (.int .i64 (firstDel (fun s => (rd s 0 == a) && (rd s 1 == b)) xs 0)) ∧ Drawn0 W w' := by
  have HC := Aside0.mk hC
  have HA := Aside0.mk ha
  have HP := Aside0.mk hP
  obtain ⟨D, hD⟩ : ∃ D, D = fun s : List Int => (rd s 0 == a) && (rd s 1 == b) := ⟨_, rfl⟩
  have HD := Aside0.mk (fun (s : List Int) (A : Option Addr) (c : Nat) (W : World) (h1 : Ages s) (h2 : s.length ≤ c) (h3 : (Kd.int .i64).C W A s.length s) (h4 : Own3 r1 r2 a b W) => show Calls Try.prog 74 _ W (fun e w' => e = .returned (.bool (D s)) ∧ Drawn0 W w') by rw [hD]; exact asks3 r1 r2 a b s A c W h1 h2 h3 h4)
  rw [← hD]
  clear hC ha hP hD
  go_enter Try.func82, Try.ntmps82
  go_wp2
  go_loopw [8] (fun v8 wr => ∃ i : Nat, i ≤ xs.length ∧ v8 = .int .i64 (i : Int) ∧ Aside0 (firstDel D xs 0 = firstDel D (xs.drop i) i) ∧ Aside0 (∃ m, wr = W.drewN m)) (fun v8 _ => xs.length - (intOf v8).toNat)
  case atStart => exact ⟨0, Nat.zero_le _, rfl, ⟨rfl⟩, ⟨0, rfl⟩⟩
  case round =>
    obtain ⟨i, hi, rfl, HF, HM⟩ := hrel
    obtain ⟨m0, hm0⟩ := HM.out
    clear HM
    subst hm0
    by_cases hlt : i < xs.length
    · have hlt1 : decide ((i : Int) < (xs.length : Int)) = true := decide_eq_true (by omega)
      obtain ⟨ad, A1, c1, rfl, hx0, h1, hC1, _⟩ := row_at HC.out (pw_below_drewN (Below.refl _ _) m0) hlt
      have HCa := Aside0.mk (HD.out xs[i] A1 c1 (W.drewN m0) (HA.out _ (List.getElem_mem hlt)) h1 hC1 ⟨blk_drewN HP.out.1 m0, blk_drewN HP.out.2 m0⟩)
      have hdr : firstDel D (xs.drop i) i = if D xs[i] = true then (i : Int) else firstDel D (xs.drop (i + 1)) (i + 1) := by rw [List.drop_eq_getElem_cons hlt]; rfl
      have HDR := Aside0.mk hdr
      clear hC1 hdr
      cases hd : D xs[i] with
      | true =>
        rw [hd] at HCa HDR
        clear hd
        go_wp2_with (go_at_call 74; (with_reducible refine HCa.out.mono ?_); rintro e w' ⟨rfl, ⟨nd, rfl⟩⟩)
        go_ret
        refine ⟨?_, ⟨_, rfl⟩⟩
        rw [HF.out, HDR.out]
        rfl
      | false =>
        rw [hd] at HCa HDR
        clear hd
        go_wp2_with (go_at_call 74; (with_reducible refine HCa.out.mono ?_); rintro e w' ⟨rfl, ⟨nd, rfl⟩⟩)
        go_roundw
        case rel => exact ⟨i + 1, by omega, by go_num, ⟨by rw [HF.out, HDR.out]; rfl⟩, ⟨_, rfl⟩⟩
        case measure => simp [intOf]; omega
    · obtain rfl : i = xs.length := by omega
      go_wp2
      go_ret
      refine ⟨?_, ⟨_, rfl⟩⟩
      rw [HF.out, List.drop_of_length_le (Nat.le_refl _)]
      rfl
theorem firstDel_any (D : List Int → Bool) : ∀ (xs : List (List Int)) (i : Nat), decide (firstDel D xs i ≥ 0) = xs.any D
  | [], _ => rfl
  | x :: xs, i => by
    show decide ((if D x = true then (i : Int) else firstDel D xs (i + 1)) ≥ 0) = (D x || xs.any D)
    cases h : D x with
    | true => rw [if_pos rfl, Bool.true_or]; exact decide_eq_true (Int.natCast_nonneg i)
    | false => rw [if_neg (by simp), Bool.false_or]; exact firstDel_any D xs (i + 1)
set_option maxHeartbeats 800000 in
set_option maxRecDepth 100000 in
theorem contains3_calls (r1 r2 : Nat) (a b : Int) (A : Option Addr) (c : Nat) (xs : List (List Int)) (W : World) (hC : Kd.C (Kd.slice 3 (Kd.int .i64)) W A xs.length xs) (hc : xs.length ≤ c) (ha : ∀ x ∈ xs, Ages x) (hn : xs.length ≤ 4000) (hP : Own3 r1 r2 a b W) :
    Calls Try.prog 73 #[.slice A xs.length c, .func (.func 74) #[] #[.pointer (some ⟨r1, 0, none⟩), .pointer (some ⟨r2, 0, none⟩)]] W fun e w' => e = .returned (.bool (hasPair xs a b)) ∧ Drawn0 W w' := by
  have HI := Aside0.mk (index3_calls r1 r2 a b A c xs W hC hc ha hn hP)
  have HF := Aside0.mk (firstDel_any (fun s => (rd s 0 == a) && (rd s 1 == b)) xs 0)
  obtain ⟨n, hn⟩ : ∃ n, n = firstDel (fun s => (rd s 0 == a) && (rd s 1 == b)) xs 0 := ⟨_, rfl⟩
  rw [← hn] at HI HF
  clear hC ha hP hn
  go_enter Try.func73, Try.ntmps73
  go_wp2_with (go_at_call 82; (with_reducible refine HI.out.mono ?_); rintro e w' ⟨rfl, ⟨nd, rfl⟩⟩)
  go_ret
  exact ⟨by rw [show hasPair xs a b = decide (n ≥ 0) from HF.out.symm]; first | rfl | simp, ⟨_, rfl⟩⟩
set_option maxHeartbeats 800000 in
set_option maxRecDepth 100000 in
theorem isTrue_calls (m a b : Int) (s : ByteArray) (hv : validLT m s = true) (W : World) :
    Calls Try.prog 64 #[.int .i64 m, .int .i64 a, .int .i64 b, .string s] W fun e w' => e = .returned (.bool (hasPair (leftList m s) a b)) ∧ Below W.heap.size W w' := by
  have hm := (validLT_of hv).1.2
  have HL := Aside0.mk (left_of hv)
  have HI := Aside0.mk (fun r1 r2 A c W1 h h1 h2 => contains3_calls r1 r2 a b A c (leftList m s) W1 h h1 (leftList_ages m s hm) (leftList_len m s hm) h2)
  clear hm hv
  go_enter Try.func64, Try.ntmps64
  go_wp2_with (first | (go_at_call 70; (with_reducible refine (HL.out _).mono ?_); rintro e w1 ⟨A, c, rfl, hc, hC, hb⟩; have HC := Aside0.mk hC; have G1 := Aside0.mk (blk_below (blk_alloc (blk_new W (.cells #[.int .i64 a] 3)) (.cells #[.int .i64 b] 3)) hb); have G2 := Aside0.mk (show w1.heap[W.heap.size + 1]? = some (.cells #[.int .i64 b] 3) by have h := blk_below (blk_new (W.alloc (.cells #[.int .i64 a] 3)) (.cells #[.int .i64 b] 3)) hb; simpa using h); have HB := Aside0.mk (show Below W.heap.size W w1 from below_then (below_alloc (below_alloc (Below.refl _ _) _) _) (by simp; omega) hb); clear hC hb) | (go_at_call 73; (with_reducible refine (HI.out _ _ _ _ _ HC.out hc ?hO).mono ?_); (case hO => exact ⟨G1.out, G2.out⟩); rintro e w' ⟨rfl, ⟨nd, rfl⟩⟩))
  go_ret
  exact ⟨rfl, pw_below_drewN HB.out _⟩
def impl_IsTrueTalk.f (m a b : Int) (s : ByteArray) : Option (Bool × Bool) := if (pairB m a b && talkB s) = true then some (hasPair (leftList m s) a b, true) else some (false, false)
set_option maxHeartbeats 1600000 in
set_option maxRecDepth 100000 in
theorem impl_IsTrueTalk.calls (m a b : Int) (s : ByteArray) (r1 r2 : Bool) (W : World) (h : impl_IsTrueTalk.f m a b s = some (r1, r2)) :
    Calls Try.prog 34 #[.int .i64 m, .int .i64 a, .int .i64 b, .string s] W fun e w' => e = .returned (.tuple #[.bool r1, .bool r2]) ∧ Below W.heap.size W w' := by
  unfold impl_IsTrueTalk.f at h
  obtain ⟨K, _, hK⟩ := talk_K s
  have HA := Aside0.mk (fun w => impl_isPair.calls m a b _ w (isPair_is m a b))
  have HT := Aside0.mk (fun w => impl_isTalk.calls K s _ w hK)
  clear hK
  cases hp : pairB m a b with
  | false =>
    rw [hp] at HA
    rw [hp, Bool.false_and, if_neg (by simp)] at h
    simp only [Option.some.injEq, Prod.mk.injEq] at h
    obtain ⟨rfl, rfl⟩ := h
    clear hp
    go_enter Try.func34, Try.ntmps34
    go_wp2_with (go_at_call 62; (with_reducible refine (HA.out _).mono ?_); rintro e w' ⟨rfl, ⟨nd, rfl⟩⟩)
    go_ret2
    exact ⟨rfl, pw_below_drewN (Below.refl _ _) _⟩
  | true =>
    cases ht : talkB s with
    | false =>
      rw [hp] at HA
      rw [ht] at HT
      rw [hp, ht, if_neg (by simp)] at h
      simp only [Option.some.injEq, Prod.mk.injEq] at h
      obtain ⟨rfl, rfl⟩ := h
      clear hp ht
      go_enter Try.func34, Try.ntmps34
      go_wp2_with (first | (go_at_call 62; (with_reducible refine (HA.out _).mono ?_); rintro e w' ⟨rfl, ⟨nd, rfl⟩⟩) | (go_at_call 40; (with_reducible refine (HT.out _).mono ?_); rintro e w' ⟨rfl, ⟨nd2, rfl⟩⟩))
      go_ret2
      exact ⟨rfl, pw_below_drewN (Below.refl _ _) _⟩
    | true =>
      have hv := valid_of_pair hp ht
      have HL := Aside0.mk (fun w => isTrue_calls m a b s hv w)
      rw [hp] at HA
      rw [ht] at HT
      rw [hp, ht, Bool.and_self, if_pos rfl] at h
      simp only [Option.some.injEq, Prod.mk.injEq] at h
      obtain ⟨rfl, rfl⟩ := h
      clear hp ht hv
      go_enter Try.func34, Try.ntmps34
      go_wp2_with (first | (go_at_call 62; (with_reducible refine (HA.out _).mono ?_); rintro e w' ⟨rfl, ⟨nd, rfl⟩⟩) | (go_at_call 40; (with_reducible refine (HT.out _).mono ?_); rintro e w' ⟨rfl, ⟨nd2, rfl⟩⟩) | (go_at_call 64; (with_reducible refine (HL.out _).mono ?_); rintro e w1 ⟨rfl, hb⟩; have HB := Aside0.mk hb; clear hb))
      go_ret2
      exact ⟨rfl, below_then (pw_below_drewN (Below.refl _ _) _) (by simp) HB.out⟩

end Go.Proofs.Ytofkafbcbghkeaa.X
