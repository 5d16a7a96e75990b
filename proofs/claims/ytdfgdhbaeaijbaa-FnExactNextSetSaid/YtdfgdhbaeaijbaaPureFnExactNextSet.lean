/- The program's NextSet returns what the reference's returns, for all arguments. No condition. -/
import Derived.Test.YtdfgdhbaeaijbaaC4Base
import Derived.Test.YtdfgdhbaeaijbaaC4Conv
import Derived.Test.YtdfgdhbaeaijbaaC4Mark
import Derived.Test.YtdfgdhbaeaijbaaX17
import Derived.Test.YtdfgdhbaeaijbaaX18
import Derived.Test.YtdfgdhbaeaijbaaX19
import Derived.Test.YtdfgdhbaeaijbaaX20
import Derived.Test.YtdfgdhbaeaijbaaX21
namespace Go.Proofs.Ytdfgdhbaeaijbaa.Pure
open Go.RowKit Go.Proofs.Ytdfgdhbaeaijbaa.X Go.Proofs.YtdfgdhbaeaijbaaW.PrintWords Go.Proofs.YtdfgdhbaeaijbaaW.PrintLast
set_option linter.unusedVariables false
set_option linter.unusedSimpArgs false

def nextV (l : List Int) (i : Nat) : List Int := l.take i ++ List.replicate (l.length - i) (rd l (i : Int) + 1)
theorem nextS_loop (l : List Int) (h4 : l.length ≤ 4) (i : Nat) (hi : i < l.length) (hv : -100 ≤ rd l (i : Int) ∧ rd l (i : Int) ≤ 100) (d : Nat) : ∀ (j : Nat), l.length - (i + j) = d → i + j ≤ l.length →
    Ev (fun k => spec_NextSet.l1 k l (i : Int) (l.take i ++ List.replicate j (rd l (i : Int) + 1))) (nextV l i, true) := by
  induction d with
  | zero =>
    intro j hd hj
    have e : j = l.length - i := by omega
    subst e
    refine Ev.step (f := fun _ => some (nextV l i, true)) (fun k => ?_) (Ev.now _)
    rw [spec_NextSet.l1, if_neg (by simp; omega)]
    rfl
  | succ d ih =>
    intro j hd hj
    refine Ev.step (fun k => ?_) (ih (j + 1) (by omega) (by omega))
    rw [spec_NextSet.l1, if_pos (by simp; omega), if_pos (by omega), if_pos (by omega), if_pos (by simp; omega), w64 (by omega) (by omega), List.append_assoc, ← List.replicate_succ']
theorem nextI_loop (l xs : List Int) (h4 : l.length ≤ 4) (i : Nat) (v : Int) (hx : xs.length = l.length) (hi : i < l.length) (hv : rd xs (i : Int) = v) (d : Nat) : ∀ (j : Nat) (ys : List Int), l.length - j = d → i < j → j ≤ l.length → ys.length = l.length → (∀ m, m < i → ys[m]? = xs[m]?) → (∀ m, i ≤ m → m < j → ys[m]? = some v) →
    ∃ zs, Ev (fun k => impl_NextSet.l1 k ys (i : Int) (j : Int)) (zs, true) ∧ zs.length = l.length ∧ (∀ m, m < i → zs[m]? = xs[m]?) ∧ ∀ m, i ≤ m → m < l.length → zs[m]? = some v := by
  induction d with
  | zero =>
    intro j ys hd h1 h2 hy ha hb
    exact ⟨ys, Ev.step (f := fun _ => some (ys, true)) (fun k => by rw [impl_NextSet.l1, if_neg (by omega)]) (Ev.now _), hy, ha, fun m g1 g2 => hb m g1 (by omega)⟩
  | succ d ih =>
    intro j ys hd h1 h2 hy ha hb
    have hr : rd ys (i : Int) = v := by
      have := hb i (Nat.le_refl _) h1
      simp [rd, List.getD_eq_getElem?_getD, this]
    obtain ⟨zs, hz, hl, h3, h5⟩ := ih (j + 1) (ys.set j v) (by omega) (by omega) (by omega) (by simpa using hy)
      (fun m hm => by rw [List.getElem?_set, if_neg (by omega)]; exact ha m hm)
      (fun m g1 g2 => by
        rw [List.getElem?_set]
        by_cases e : j = m
        · rw [if_pos e, if_pos (by omega)]
        · rw [if_neg e]; exact hb m g1 (by omega))
    refine ⟨zs, Ev.step (fun k => ?_) hz, hl, h3, h5⟩
    rw [impl_NextSet.l1, if_pos (by omega), if_pos (by omega), if_pos (by omega), if_pos (by omega), hr, w_succ j l.length (by omega) (by omega)]
    rfl
theorem next_eq (l zs : List Int) (i : Nat) (hi : i < l.length) (hl : zs.length = l.length) (h3 : ∀ m, m < i → zs[m]? = l[m]?) (h5 : ∀ m, i ≤ m → m < l.length → zs[m]? = some (rd l (i : Int) + 1)) : zs = nextV l i := by
  apply List.ext_getElem?
  intro m
  unfold nextV
  by_cases h1 : m < i
  · rw [h3 m h1, List.getElem?_append_left (by simp; omega), List.getElem?_take, if_pos h1]
  · by_cases h2 : m < l.length
    · rw [h5 m (by omega) h2, List.getElem?_append_right (by simp; omega), List.getElem?_replicate, if_pos (by simp; omega)]
    · rw [List.getElem?_eq_none (by omega), List.getElem?_eq_none (by simp; omega)]
theorem next_loops (l : List Int) (h4 : l.length ≤ 4) (hx : ∀ x ∈ l, 1 ≤ x ∧ x ≤ 20) : ∀ i : Nat, i ≤ l.length → ∃ r, Ev (fun k => spec_NextSet.l0 k l ((i : Int) - 1)) r ∧ Ev (fun k => impl_NextSet.l0 k l ((i : Int) - 1)) r ∧ r.1.length ≤ 4 := by
  intro i
  induction i with
  | zero =>
    intro hi
    refine ⟨([], false), ?_, ?_, by simp⟩
    · refine Ev.step (fun k => by rw [spec_NextSet.l0, if_neg (by omega)]) ?_
      exact Ev.step (f := fun _ => some ([], false)) (fun k => by rw [spec_NextSet.j1, if_pos (by omega)]) (Ev.now _)
    · exact Ev.step (f := fun _ => some ([], false)) (fun k => by rw [impl_NextSet.l0, if_neg (by omega)]) (Ev.now _)
  | succ i ih =>
    intro hi
    have e0 : (((i + 1 : Nat) : Int) - 1) = (i : Int) := by omega
    rw [e0]
    have hlt : i < l.length := by omega
    have hr := hx _ (List.getElem_mem hlt)
    rw [← rd_at l i hlt] at hr
    have e1 : wrap64 ((i : Int) - 1) = (i : Int) - 1 := w64 (by omega) (by omega)
    by_cases e : rd l (i : Int) = 20
    · obtain ⟨r, h1, h2, h3⟩ := ih (by omega)
      exact ⟨r, Ev.step (fun k => by rw [spec_NextSet.l0, if_pos (by omega), if_pos (by omega), if_pos (by omega), if_pos e, e1]) h1, Ev.step (fun k => by rw [impl_NextSet.l0, if_pos (by omega), if_pos (by omega), if_pos (by omega), if_pos e, e1]) h2, h3⟩
    · refine ⟨(nextV l i, true), ?_, ?_, by simp [nextV]; omega⟩
      · refine Ev.step (fun k => by rw [spec_NextSet.l0, if_pos (by omega), if_pos (by omega), if_pos (by omega), if_neg e]) ?_
        refine Ev.step (fun k => by rw [spec_NextSet.j1, if_neg (by omega), if_pos (by omega), if_pos (by omega)]) ?_
        have hown : spec_l1Own.f (l.take (i : Int).toNat) = some (l.take i) := by
          unfold spec_l1Own.f
          simp only [Option.bind_some, Int.toNat_natCast]
          rw [if_pos (by simp; omega), List.nil_append]
        rw [hown]
        simp only [Option.bind_some]
        have := nextS_loop l h4 i hlt (by omega) (l.length - i) 0 (by omega) (by omega)
        rw [List.replicate_zero, List.append_nil] at this
        exact this
      · refine Ev.step (fun k => by rw [impl_NextSet.l0, if_pos (by omega), if_pos (by omega), if_pos (by omega), if_neg e, w64 (x := rd l (i : Int) + 1) (by omega) (by omega), w_succ i l.length hlt (by omega)]) ?_
        have hset : ∀ m, (l.set i (rd l (i : Int) + 1))[m]? = if i = m then (if i < l.length then some (rd l (i : Int) + 1) else none) else l[m]? := fun m => List.getElem?_set
        obtain ⟨zs, hz, hzl, g3, g5⟩ := nextI_loop l (l.set i (rd l (i : Int) + 1)) h4 i (rd l (i : Int) + 1) (by simp) hlt (by simp [rd, List.getD_eq_getElem?_getD, hlt]) (l.length - (i + 1)) (i + 1) (l.set i (rd l (i : Int) + 1)) (by omega) (by omega) (by omega) (by simp) (fun _ _ => rfl)
          (fun m q1 q2 => by have : m = i := by omega
                             subst this
                             rw [hset, if_pos rfl, if_pos hlt])
        have hv := next_eq l zs i hlt hzl (fun m hm => by rw [g3 m hm, hset, if_neg (by omega)]) g5
        subst hv
        exact hz
theorem both_NextSet (l : List Int) (hn : l.length ≤ 9223372036854775807) : ∃ r, Ev (fun k => spec_NextSet.f k l) r ∧ Ev (fun k => impl_NextSet.f k l) r ∧ r.1.length ≤ 4 := by
  obtain ⟨b, h1, h2, hiff⟩ := ev_set l hn
  unfold spec_NextSet.f impl_NextSet.f
  cases b with
  | false =>
    refine ⟨([], false), Ev.bind h1 ?_, Ev.bind h2 ?_, by simp⟩
    · simp only [Bool.false_eq_true, if_false]; exact Ev.now _
    · simp only [Bool.false_eq_true, if_false]; exact Ev.now _
  | true =>
    have hp := hiff.1 rfl
    have h4 := hp.1.2
    obtain ⟨r, g1, g2, g3⟩ := next_loops l h4 hp.2.1 l.length (Nat.le_refl _)
    have e1 : wrap64 ((l.length : Int) - 1) = (l.length : Int) - 1 := w64 (by omega) (by omega)
    refine ⟨r, Ev.bind h1 ?_, Ev.bind h2 ?_, g3⟩
    · simp only [if_true]; rw [e1]; exact g1
    · simp only [if_true]
      have hc : slices_Clone_int_int.f l = some l := by unfold slices_Clone_int_int.f; rw [if_pos (by omega)]
      rw [hc]
      simp only [Option.bind_some]
      rw [e1]; exact g2
theorem FnExactNextSet : laws_FnExactNextSet.Pure := by
  intro l hm hy hw
  refine Ev.rounds ?_
  unfold laws_FnExactNextSet.f
  by_cases hs : l.length ≤ 1048576
  · simp only [if_neg (show ¬ ((l.length : Int) > 1048576) by omega)]
    obtain ⟨⟨r1, r2⟩, h1, h2, h8⟩ := both_NextSet l (by omega)
    simp only at h8
    refine Ev.bind (ev_toIntS l hs) ?_
    refine Ev.bind h1 ?_
    refine Ev.bind (ev_toIntS l hs) ?_
    refine Ev.bind h2 ?_
    refine Ev.bind (ev_eqIntS r1 (by omega)) ?_
    simp only [if_true, bne_self_eq_false]
    refine Ev.step (fun k => by rw [laws_FnExactNextSet.j0, if_neg (by simp)]) ?_
    refine Ev.bind (ev_toIntS l hs) ?_
    refine Ev.bind (ev_eqIntS l (by omega)) ?_
    simp only [if_true]
    obtain ⟨l', hmk, _, _⟩ := ev_markIntS l hs
    refine Ev.bind hmk ?_
    simp only [if_neg (show ¬ (1 + (l.length : Int) < 0) by omega)]
    refine Ev.bind (ev_eqIntS r1 (by omega)) ?_
    simp only [if_true, bne_self_eq_false]
    refine Ev.step (fun k => by rw [laws_FnExactNextSet.j1, if_neg (by simp)]) ?_
    obtain ⟨x', hx, hxl, hxr⟩ := ev_markIntS r1 (by omega)
    refine Ev.bind hx ?_
    have hheld := ev_heldIntS x' (by omega) (by rw [hxl]; exact hxr)
    rw [hxl] at hheld
    refine Ev.bind hheld ?_
    simp only [if_neg (show ¬ (1 + (r1.length : Int) < 0) by omega), if_true]
    refine Ev.bind (ev_toIntS l hs) ?_
    refine Ev.bind h2 ?_
    refine Ev.bind (ev_eqIntS r1 (by omega)) ?_
    simp only [if_true, bne_self_eq_false]
    refine Ev.step (fun k => by rw [laws_FnExactNextSet.j2, if_neg (by simp)]) ?_
    refine Ev.bind hheld ?_
    simp only [if_neg (show ¬ (1 + (r1.length : Int) < 0) by omega), if_true]
    exact Ev.now _
  · simp only [if_pos (show (l.length : Int) > 1048576 by omega)]
    exact Ev.now _

end Go.Proofs.Ytdfgdhbaeaijbaa.Pure
