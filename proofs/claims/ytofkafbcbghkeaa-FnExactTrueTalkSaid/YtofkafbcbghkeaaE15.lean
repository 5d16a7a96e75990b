-- WRITTEN by xprint.py, a program of this session that drives the kit's printer: out of the translation. Lean checks it.
import Derived.Test.YtofkafbcbghkeaaE0
import Derived.Test.YtofkafbcbghkeaaE8
import Derived.Test.YtofkafbcbghkeaaE9
import Derived.Test.YtofkafbcbghkeaaE10
import Derived.Test.YtofkafbcbghkeaaE14
import Derived.Test.YtofkafbcbghkeaaWLast
import Derived.Test.YtofkafbcbghkeaaWWords
namespace Go.Proofs.Ytofkafbcbghkeaa.E
open Go.RowKit Go.Proofs.YtofkafbcbghkeaaW.PrintWords Go.Proofs.YtofkafbcbghkeaaW.PrintLast
set_option linter.unusedVariables false
set_option linter.unusedSimpArgs false

-- OURS, BY HAND
/-! ### impl_left: function 70 -/
-- func impl.left
-- ext raw=1
-- needs impl.behind
-- needs impl.allPairs
/-- Who speaks at a place of a talk. -/
def sayer (s : ByteArray) (i : Nat) : Bool := (s.extract i (i + 1)).toList == [115]
def TalkOk (s : ByteArray) : Prop := s.size % 2 = 0 ∧ s.size ≤ 24 ∧ ∀ i, i % 2 = 0 → i < s.size → s.extract i (i + 1) = whoB (sayer s i) ∧ (bt s ((i + 1 : Nat) : Int) = 45 ∨ bt s ((i + 1 : Nat) : Int) = 43 ∨ bt s ((i + 1 : Nat) : Int) = 33)
/-- The pairs that are left behind so many statements. -/
def leftN (m : Nat) (s : ByteArray) : Nat → List (List Int)
  | 0 => prs m m
  | j + 1 => (leftN m s j).filter (keepsW (sayer s (2 * j)) (bt s ((2 * j + 1 : Nat) : Int)) (leftN m s j))
theorem leftN_sub (m : Nat) (s : ByteArray) : ∀ j x, x ∈ leftN m s j → x ∈ prs m m
  | 0, x, h => h
  | j + 1, x, h => leftN_sub m s j x (List.mem_filter.1 h).1
theorem leftN_len (m : Nat) (hm : m ≤ 40) (s : ByteArray) : ∀ j, (leftN m s j).length ≤ 4000
  | 0 => by
    have h2 := prs_len m m
    have h3 : m * (m + 1) ≤ 40 * 41 := Nat.mul_le_mul (by omega) (by omega)
    show (prs m m).length ≤ 4000
    omega
  | j + 1 => Nat.le_trans (List.length_filter_le _ _) (leftN_len m hm s j)
theorem i64_small {x : Int} (h0 : -9223372036854775808 ≤ x) (h1 : x ≤ 9223372036854775807) : IntKind.i64.wrap x = x := by
  rw [IntKind.wrap_i64]
  omega
set_option maxHeartbeats 8000000 in
set_option maxRecDepth 100000 in
theorem left_calls (m : Nat) (hm : m ≤ 40) (s : ByteArray) (hs : TalkOk s) (W : World) :
    Calls Try.prog 70 #[.int .i64 m, .string s] W fun e w' => ∃ A c, e = .returned (.slice A (leftN m s (s.size / 2)).length c) ∧ (leftN m s (s.size / 2)).length ≤ c ∧ Kd.C (Kd.slice 3 (Kd.int .i64)) w' A (leftN m s (s.size / 2)).length (leftN m s (s.size / 2)) ∧ Below W.heap.size W w' := by
  have HP := Aside0.mk (allPairs_calls m hm W)
  have HS := Aside0.mk hs.2.2
  have hz := hs.1
  have hz2 := hs.2.1
  clear hs
  go_enter Try.func70, Try.ntmps70
  go_wp2_with (go_at_call 58; (with_reducible refine HP.out.mono ?_); rintro e w' ⟨A, c, rfl, hc, hC, hb⟩; have HC := Aside0.mk hC; have HB := Aside0.mk hb; clear hb hC)
  go_loopw [5, 6] (fun v5 v6 wr => ∃ (j : Nat) (A : Option Addr) (c : Nat), 2 * j ≤ s.size ∧ v6 = .int .i64 ((2 * j : Nat) : Int) ∧ v5 = .slice A (leftN m s j).length c ∧ (leftN m s j).length ≤ c ∧ Aside0 (Kd.C (Kd.slice 3 (Kd.int .i64)) wr A (leftN m s j).length (leftN m s j)) ∧ Aside0 (Below W.heap.size W wr)) (fun _ v6 _ => s.size - (intOf v6).toNat)
  case atStart => exact ⟨0, A, c, by omega, rfl, rfl, hc, HC, HB⟩
  case round =>
    clear HC HB hc
    obtain ⟨j, A, c, hj, rfl, rfl, hc, HC, HB⟩ := hrel
    obtain ⟨i, hi⟩ : ∃ i : Nat, i = 2 * j := ⟨_, rfl⟩
    rw [← hi] at hj ⊢
    by_cases hlt : i < s.size
    · have hlt1 : decide ((i : Int) < (s.size : Int)) = true := decide_eq_true (by omega)
      obtain ⟨ho, _⟩ := HS.out i (by omega) hlt
      have HBH := Aside0.mk (fun W1 h => behind_calls (sayer s i) (bt s ((i + 1 : Nat) : Int)) A c (leftN m s j) W1 h hc (fun x hx => prs_ages m m hm (Nat.le_refl _) x (leftN_sub m s j x hx)) (leftN_len m hm s j))
      rw [← ho] at HBH
      have HI := Aside0.mk hi
      have HE := Aside0.mk (show leftN m s (j + 1) = (leftN m s j).filter (keepsW (sayer s i) (bt s ((i + 1 : Nat) : Int)) (leftN m s j)) by rw [hi]; rfl)
      have hi1 : i + 1 < s.size := by omega
      have hw1 : IntKind.i64.wrap ((i : Int) + 1) = (i : Int) + 1 := i64_small (by omega) (by omega)
      have hi0 : 0 ≤ (i : Int) + 1 := by omega
      have hi2 : (i : Int) ≤ (i : Int) + 1 := by omega
      have hi3 : (i : Int) + 1 ≤ (s.size : Int) := by omega
      have hi4 : (i : Int) + 1 < (s.size : Int) := by omega
      clear hi ho
      have hbt := bt_at s ((i + 1 : Nat) : Int) (by omega)
      simp only [Int.toNat_natCast] at hbt
      go_wp2
      go_region_law (refine goes_ Try.func72 (by kernel_rfl) rfl #[.slice A (leftN m s j).length c, .string (s.extract i (i + 1)), .int .u8 (bt s ((i + 1 : Nat) : Int))] (by rfl) rfl rfl (by first | kernel_rfl | (simp [Act.eval, Act.put]; done)) ?_; (with_reducible refine (HBH.out _ ?hC).mono ?_); (case hC => exact Kd.C_drew HC.out); rintro e w' ⟨A2, c2, rfl, hc2, hC2, hb2⟩; refine ⟨_, rfl, ?_⟩; have HC2 := Aside0.mk hC2; have HB2 := Aside0.mk hb2; clear hC2 hb2)
      go_wp2
      go_roundw
      case rel => exact ⟨j + 1, A2, c2, by have := HI.out; omega, by first | go_num | (have := HI.out; congr 1; omega) | (have := HI.out; go_num; omega), by rw [HE.out]; rfl, by rw [HE.out]; exact hc2, by rw [HE.out]; exact HC2, ⟨below_then (below_drew HB.out) (below_drew HB.out).size HB2.out⟩⟩
      case measure => simp [intOf]; omega
    · have hi2 : j = s.size / 2 := by omega
      obtain rfl : i = s.size := by omega
      have hlt1 : decide ((s.size : Int) < (s.size : Int)) = false := decide_eq_false (by omega)
      subst hi2
      clear hi
      go_wp2
      go_ret
      exact ⟨A, c, rfl, hc, HC.out, HB.out⟩

end Go.Proofs.Ytofkafbcbghkeaa.E
