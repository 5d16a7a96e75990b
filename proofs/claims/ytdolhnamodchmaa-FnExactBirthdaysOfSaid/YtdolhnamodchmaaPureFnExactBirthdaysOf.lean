/- The program's BirthdaysOf returns what the reference's returns, for all arguments, in memory of the call's own. No condition. -/
import Derived.Test.YtdolhnamodchmaaBBase
import Derived.Test.YtdolhnamodchmaaBRows
import Derived.Test.YtdolhnamodchmaaE10
import Derived.Test.YtdolhnamodchmaaE11
import Derived.Test.YtdolhnamodchmaaE12
import Derived.Test.YtdolhnamodchmaaE2
import Derived.Test.YtdolhnamodchmaaE5
import Derived.Test.YtdolhnamodchmaaE6
namespace Go.Proofs.Ytdolhnamodchmaa.Pure
open Go.RowKit Go.Proofs.Ytdolhnamodchmaa.E Go.Proofs.YtdolhnamodchmaaW.PrintWords Go.Proofs.YtdolhnamodchmaaW.PrintLast
set_option linter.unusedVariables false
set_option linter.unusedSimpArgs false

/-- The people with a birthday on a day. -/
def hits (day : Int) : List D → Nat → List Int
  | [], _ => []
  | b :: bs, i => if b.f1 = day then (i : Int) :: hits day bs (i + 1) else hits day bs (i + 1)
theorem hits_len (day : Int) : ∀ (l : List D) (i : Nat), (hits day l i).length ≤ l.length
  | [], _ => Nat.le_refl _
  | b :: bs, i => by
    have := hits_len day bs (i + 1)
    unfold hits
    split
    · rw [List.length_cons, List.length_cons]; omega
    · rw [List.length_cons]; omega
/-- The rows of days from one on. -/
def rowsFrom (l : List D) : Nat → Nat → List (List Int)
  | 0, _ => []
  | d + 1, day => if 0 < (hits (day : Int) l 0).length then ((day : Int) :: hits (day : Int) l 0) :: rowsFrom l d (day + 1) else rowsFrom l d (day + 1)
theorem rowsFrom_len (l : List D) : ∀ (d day : Nat), (rowsFrom l d day).length ≤ d ∧ ∀ x ∈ rowsFrom l d day, x.length ≤ 1 + l.length
  | 0, _ => ⟨Nat.le_refl _, fun x hx => by cases hx⟩
  | d + 1, day => by
    obtain ⟨h1, h2⟩ := rowsFrom_len l d (day + 1)
    unfold rowsFrom
    split
    · refine ⟨by rw [List.length_cons]; omega, fun x hx => ?_⟩
      rcases List.mem_cons.1 hx with rfl | hx
      · have := hits_len (day : Int) l 0
        rw [List.length_cons]; omega
      · exact h2 x hx
    · exact ⟨by omega, h2⟩
theorem same_loops : ∀ k, (∀ x0 x4 x5, spec_BirthdaysOf.l0 k x0 x4 x5 = impl_BirthdaysOf.l0 k x0 x4 x5) ∧ (∀ x0 x4 x5 x6 a b c, spec_BirthdaysOf.l1 k x0 x4 x5 x6 a b c = impl_BirthdaysOf.l1 k x0 x4 x5 x6 a b c)
  | 0 => ⟨fun _ _ _ => rfl, fun _ _ _ _ _ _ _ => rfl⟩
  | k + 1 => by
    obtain ⟨h0, h1⟩ := same_loops k
    constructor
    · intro x0 x4 x5
      rw [spec_BirthdaysOf.l0, impl_BirthdaysOf.l0, h1]
    · intro x0 x4 x5 x6 a b c
      rw [spec_BirthdaysOf.l1, impl_BirthdaysOf.l1]
      simp only [h0, h1]
theorem inner (l : List D) (hl : l.length ≤ 8) (day : Int) (x4 : List (List Int)) (r : List (List Int) × Bool) (d : Nat) : ∀ (i : Nat) (x6 : List Int), l.length - i = d → i ≤ l.length → x6.length ≤ 1 + i →
    Ev (fun k => if ((x6 ++ hits day (l.drop i) i).length : Int) > 1 then (if x4.length < 5864062014805 then impl_BirthdaysOf.l0 k l (x4 ++ [x6 ++ hits day (l.drop i) i]) (wrap64 (day + 1)) else none) else impl_BirthdaysOf.l0 k l x4 (wrap64 (day + 1))) r →
    Ev (fun k => impl_BirthdaysOf.l1 k l x4 day x6 l (l.length : Int) (i : Int)) r := by
  induction d with
  | zero =>
    intro i x6 hd hi hx h
    obtain rfl : i = l.length := by omega
    rw [List.drop_of_length_le (Nat.le_refl _), hits, List.append_nil] at h
    exact Ev.step (fun k => by rw [impl_BirthdaysOf.l1, if_neg (by omega)]) h
  | succ d ih =>
    intro i x6 hd hi hx h
    have hlt : i < l.length := by omega
    have c1 : (i : Int) < (l.length : Int) := Int.ofNat_lt.2 hlt
    have e1 : wrap64 ((i : Int) + 1) = ((i + 1 : Nat) : Int) := w_succ i l.length hlt (by omega)
    have c2 : x6.length < 17592186044416 := by omega
    rw [List.drop_eq_getElem_cons hlt, hits] at h
    by_cases hb : l[i].f1 = day
    · rw [if_pos hb, show x6 ++ (i : Int) :: hits day (l.drop (i + 1)) (i + 1) = (x6 ++ [(i : Int)]) ++ hits day (l.drop (i + 1)) (i + 1) by rw [List.append_assoc]; rfl] at h
      refine Ev.step (fun k => ?_) (ih (i + 1) (x6 ++ [(i : Int)]) (by omega) (by omega) (by rw [List.length_append, List.length_singleton]; omega) h)
      rw [impl_BirthdaysOf.l1, if_pos c1, if_pos (Int.natCast_nonneg i), if_pos c1, rdT_at l i hlt, if_pos hb, if_pos c2, e1]
    · rw [if_neg hb] at h
      refine Ev.step (fun k => ?_) (ih (i + 1) x6 (by omega) (by omega) (by omega) h)
      rw [impl_BirthdaysOf.l1, if_pos c1, if_pos (Int.natCast_nonneg i), if_pos c1, rdT_at l i hlt, if_neg hb, e1]
theorem outer (l : List D) (hl : l.length ≤ 8) (d : Nat) : ∀ (day : Nat) (x4 : List (List Int)), day + d = 366 → 1 ≤ day → x4.length ≤ day → Ev (fun k => impl_BirthdaysOf.l0 k l x4 (day : Int)) (x4 ++ rowsFrom l d day, true) := by
  induction d with
  | zero =>
    intro day x4 hd h1 hx
    rw [rowsFrom, List.append_nil]
    exact Ev.step (f := fun _ => some (x4, true)) (fun k => by rw [impl_BirthdaysOf.l0, if_neg (by omega)]) (Ev.now _)
  | succ d ih =>
    intro day x4 hd h1 hx
    have e1 : wrap64 ((day : Int) + 1) = ((day + 1 : Nat) : Int) := w_succ day 366 (by omega) (by omega)
    refine Ev.step (fun k => by rw [impl_BirthdaysOf.l0, if_pos (show (day : Int) ≤ 365 by omega)]) ?_
    refine inner l hl (day : Int) x4 _ l.length 0 [(day : Int)] (by omega) (by omega) (by simp) ?_
    rw [List.drop_zero, e1, rowsFrom]
    by_cases h : 0 < (hits (day : Int) l 0).length
    · rw [if_pos h]
      have c1 : (([(day : Int)] ++ hits (day : Int) l 0).length : Int) > 1 := by rw [List.length_append, List.length_singleton]; omega
      have c2 : x4.length < 5864062014805 := by omega
      have := ih (day + 1) (x4 ++ [[(day : Int)] ++ hits (day : Int) l 0]) (by omega) (by omega) (by rw [List.length_append, List.length_singleton]; omega)
      rw [List.append_assoc] at this
      exact Ev.congr (fun k => by rw [if_pos c1, if_pos c2]) this
    · rw [if_neg h]
      have c1 : ¬ (([(day : Int)] ++ hits (day : Int) l 0).length : Int) > 1 := by rw [List.length_append, List.length_singleton]; omega
      exact Ev.congr (fun k => by rw [if_neg c1]) (ih (day + 1) x4 (by omega) (by omega) (by omega))
theorem both_BirthdaysOf (l : List D) (hl : l.length ≤ 9223372036854775807) : ∃ r : List (List Int) × Bool, Ev (fun k => spec_BirthdaysOf.f k l) r ∧ Ev (fun k => impl_BirthdaysOf.f k l) r ∧ r.1.length ≤ 1000000 ∧ ∀ x ∈ r.1, x.length ≤ 100 := by
  unfold spec_BirthdaysOf.f impl_BirthdaysOf.f
  cases hg : goodL l with
  | true =>
    have h8 : l.length ≤ 8 := by
      unfold goodL at hg
      exact (of_decide_eq_true (Bool.and_eq_true_iff.1 hg).1).2
    have ho := outer l h8 365 1 [] (by omega) (by omega) (by simp)
    rw [List.nil_append] at ho
    obtain ⟨q1, q2⟩ := rowsFrom_len l 365 1
    refine ⟨(rowsFrom l 365 1, true), ?_, ?_, ?_, fun x hx => ?_⟩
    · have hb := ev_biGood l hl
      rw [hg] at hb
      refine Ev.bind hb ?_
      simp only [if_true]
      exact Ev.congr (fun k => (same_loops k).1 l [] 1) ho
    · rw [ev_goodI, hg]
      simp only [Option.bind_some, if_true]
      exact ho
    · show (rowsFrom l 365 1).length ≤ 1000000
      omega
    · have := q2 x hx
      omega
  | false =>
    refine ⟨([], false), ?_, ?_, by simp, fun x hx => by simp at hx⟩
    · have hb := ev_biGood l hl
      rw [hg] at hb
      refine Ev.bind hb ?_
      simp only [Bool.false_eq_true, if_false]
      exact Ev.now _
    · rw [ev_goodI, hg]
      simp only [Option.bind_some, Bool.false_eq_true, if_false]
      exact Ev.now _
theorem FnExactBirthdaysOf : laws_FnExactBirthdaysOf.Pure := by
  intro l hm hy hw
  by_cases hs : l.length ≤ 1048576
  · have hl : (l.map cv).length ≤ 1048576 := by simpa using hs
    obtain ⟨⟨r1, r2⟩, h1, h2, h3, h4⟩ := both_BirthdaysOf (l.map cv) (by omega)
    obtain ⟨K0, m, ys, q1, q2, q3, q4⟩ := rows_hold r1 h3 h4
    obtain ⟨K1, p1⟩ := h1
    obtain ⟨K2, p2⟩ := h2
    obtain ⟨K3, p3⟩ := ev_toDateS l hs
    obtain ⟨K4, p4⟩ := ev_eqDateS (l.map cv) (by omega)
    obtain ⟨rm, t', ⟨K5, p5⟩, hrm⟩ := ev_markDateS (l.map cv) hl
    have s1 : Ev (fun k => laws_eqIntSS.f k r1 r1) true := Ev.of (laws_eqIntSS.mono _ _) q1
    have s2 : Ev (fun k => laws_heldIntSS.f k ys 1) m := Ev.of (laws_heldIntSS.mono _ _) q3
    have s3 : Ev (fun k => markSS k r1 1) (m, ys) := Ev.of (fun k => markSS_mono k r1 1) q2
    obtain ⟨K6, p6⟩ := s1
    obtain ⟨K7, p7⟩ := s2
    obtain ⟨K8, p8⟩ := s3
    refine ⟨K1 + K2 + K3 + K4 + K5 + K6 + K7 + K8, _, sz_ok hs, fun _ => ⟨l.map cv, t', r1, ys, r2, m, rm, p3 _ (by omega), p1 _ (by omega), p2 _ (by omega), p4 _ (by omega), p5 _ (by omega), by omega, p6 _ (by omega), p8 _ (by omega), p7 _ (by omega), q4⟩⟩
  · exact ⟨0, _, sz_no hs hm, fun h => absurd h (by omega)⟩
end Go.Proofs.Ytdolhnamodchmaa.Pure
