/- Sets of a sum are counted, products of them are all of those, children who are apart are so, the next set comes next, and later sets are older: plain. No condition. -/
import Derived.Test.YtjfdehjkdbcneaaGreatE10
import Derived.Test.YtjfdehjkdbcneaaGreatE22
import Derived.Test.YtjfdehjkdbcneaaGreatE23
import Derived.Test.YtjfdehjkdbcneaaGreatE28
import Derived.Test.YtjfdehjkdbcneaaGreatE29
import Derived.Test.YtjfdehjkdbcneaaGreatE4
import Derived.Test.YtjfdehjkdbcneaaGreatE1
import Derived.Test.YtjfdehjkdbcneaaGreatE2
import Derived.Test.YtjfdehjkdbcneaaGreatE24
import Derived.Test.YtjfdehjkdbcneaaGreatE25
import Derived.Test.YtjfdehjkdbcneaaGreatE26
import Derived.Test.YtjfdehjkdbcneaaGreatE34
import Derived.Test.YtjfdehjkdbcneaaGreatE7
import Derived.Laws.Bits64
import Derived.Laws.Bits64b
import Derived.Test.YtjfdehjkdbcneaaGreatE27
import Derived.Test.YtjfdehjkdbcneaaGreatE3
import Derived.Test.YtjfdehjkdbcneaaGreatE31
import Derived.Test.YtjfdehjkdbcneaaGreatE35
import Derived.Test.YtjfdehjkdbcneaaGreatE0
import Derived.Test.YtjfdehjkdbcneaaGreatE32
import Derived.Test.YtjfdehjkdbcneaaGreatE33
import Derived.Test.YtjfdehjkdbcneaaGreatE16
import Derived.Test.YtjfdehjkdbcneaaGreatE37
import Derived.Test.YtjfdehjkdbcneaaGreatE39
import Derived.Test.YtjfdehjkdbcneaaGreatE36
import Derived.Test.YtjfdehjkdbcneaaGreatE38
import Derived.Test.YtjfdehjkdbcneaaGreatE19
import Derived.Test.YtjfdehjkdbcneaaGreatE20
import Derived.Test.YtjfdehjkdbcneaaGreatE21
import Derived.Test.YtjfdehjkdbcneaaGreatE8
import Derived.Test.YtjfdehjkdbcneaaGreatE30
import Derived.Test.YtjfdehjkdbcneaaGreatE5
import Derived.Lib.SlicesCompact
import Derived.Test.YtjfdehjkdbcneaaGreatE11
import Derived.Test.YtjfdehjkdbcneaaGreatE12
import Derived.Test.YtjfdehjkdbcneaaGreatE14
import Derived.Test.YtjfdehjkdbcneaaGreatE15
import Derived.Test.YtjfdehjkdbcneaaGreatE17
import Derived.Test.YtjfdehjkdbcneaaGreatE40
import Derived.Test.YtjfdehjkdbcneaaGreatE9
import Derived.Test.YtjfdehjkdbcneaaGreatE18
/- Chapter 4, plain: which lists are sets; conversions and marks. No condition beyond those typed at each lemma. -/
namespace Go.Proofs.YtjfdehjkdbcneaaGreat.Pure
open Go.RowKit Go.Proofs.YtjfdehjkdbcneaaGreat.E Go.Proofs.YtjfdehjkdbcneaaGreatW.PrintWords Go.Proofs.YtjfdehjkdbcneaaGreatW.PrintLast
set_option linter.unusedVariables false
set_option linter.unusedSimpArgs false

theorem w64 {x : Int} (h0 : -9223372036854775808 ≤ x) (h1 : x ≤ 9223372036854775807) : wrap64 x = x := by unfold wrap64; omega
theorem w_succ (i n : Nat) (h : i < n) (hn : n ≤ 9223372036854775807) : wrap64 ((i : Int) + 1) = ((i + 1 : Nat) : Int) := by
  rw [w64 (by omega) (by omega)]; rfl
theorem l1In_val (n a b : Int) : spec_l1In.f n a b = some (decide (a ≤ n ∧ n ≤ b)) := by
  unfold spec_l1In.f
  by_cases h1 : a ≤ n <;> by_cases h2 : n ≤ b <;> simp [h1, h2]
theorem between_val (n a b : Int) : impl_between.f n a b = some (decide (a ≤ n ∧ n ≤ b)) := l1In_val n a b
theorem rd_at (l : List Int) (i : Nat) (h : i < l.length) : rd l (i : Int) = l[i] := by simp [rd, List.getD, List.getElem?_eq_getElem h]
theorem drop_rd (l : List Int) (i : Nat) (h : i < l.length) : l.drop i = rd l (i : Int) :: l.drop (i + 1) := by
  rw [rd_at l i h]
  exact List.drop_eq_getElem_cons h

/-! ### sets -/
def SetP (l : List Int) : Prop := (1 ≤ l.length ∧ l.length ≤ 4) ∧ (∀ x ∈ l, 1 ≤ x ∧ x ≤ 20) ∧ ∀ j : Nat, 1 ≤ j → j < l.length → rd l ((j - 1 : Nat) : Int) ≤ rd l (j : Int)
theorem all_loop (l : List Int) (a b : Int) (hn : l.length ≤ 9223372036854775807) (d : Nat) : ∀ i : Nat, l.length - i = d → i ≤ l.length → Ev (fun k => spec_l1All.l0 k a b l (l.length : Int) (i : Int)) ((l.drop i).all fun x => decide (a ≤ x ∧ x ≤ b)) := by
  induction d with
  | zero =>
    intro i hd hi
    rw [List.drop_of_length_le (by omega)]
    exact Ev.step (f := fun _ => some true) (fun k => by rw [spec_l1All.l0, if_neg (by omega)]) (Ev.now _)
  | succ d ih =>
    intro i hd hi
    have hlt : i < l.length := by omega
    rw [drop_rd l i hlt, List.all_cons]
    cases hb : decide (a ≤ rd l (i : Int) ∧ rd l (i : Int) ≤ b) with
    | true =>
      rw [Bool.true_and]
      refine Ev.step (fun k => ?_) (ih (i + 1) (by omega) (by omega))
      rw [spec_l1All.l0, if_pos (by omega), if_pos (by omega), if_pos (by omega), l1In_val, hb]
      simp only [Option.bind_some, if_true]
      rw [w_succ i l.length hlt hn]
    | false =>
      rw [Bool.false_and]
      refine Ev.step (f := fun _ => some false) (fun k => ?_) (Ev.now _)
      rw [spec_l1All.l0, if_pos (by omega), if_pos (by omega), if_pos (by omega), l1In_val, hb]
      simp
theorem ev_all (l : List Int) (a b : Int) (hn : l.length ≤ 9223372036854775807) : Ev (fun k => spec_l1All.f k l a b) (l.all fun x => decide (a ≤ x ∧ x ≤ b)) := by
  unfold spec_l1All.f
  simpa using all_loop l a b hn l.length 0 (by omega) (by omega)
theorem up_loop (l : List Int) (hn : l.length ≤ 4) (d : Nat) : ∀ i : Nat, l.length - i = d → 1 ≤ i → ∃ b, Ev (fun k => spec_siGood.l0 k l (i : Int)) b ∧ (b = true ↔ ∀ j : Nat, i ≤ j → j < l.length → rd l ((j - 1 : Nat) : Int) ≤ rd l (j : Int)) := by
  induction d with
  | zero =>
    intro i hd hi
    exact ⟨true, Ev.step (f := fun _ => some true) (fun k => by rw [spec_siGood.l0, if_neg (by omega)]) (Ev.now _), ⟨fun _ j h1 h2 => by omega, fun _ => rfl⟩⟩
  | succ d ih =>
    intro i hd hi
    have hlt : i < l.length := by omega
    have e1 : wrap64 ((i : Int) - 1) = ((i - 1 : Nat) : Int) := by rw [w64 (by omega) (by omega)]; omega
    by_cases hc : rd l (i : Int) < rd l ((i - 1 : Nat) : Int)
    · refine ⟨false, Ev.step (f := fun _ => some false) (fun k => ?_) (Ev.now _), ⟨fun h => (by cases h), fun h => ?_⟩⟩
      · rw [spec_siGood.l0, if_pos (by omega), if_pos (by omega), e1, if_pos (by omega), if_pos (by omega), if_pos hc]
      · have := h i (Nat.le_refl _) hlt; omega
    · obtain ⟨b, hb, hiff⟩ := ih (i + 1) (by omega) (by omega)
      refine ⟨b, Ev.step (fun k => ?_) hb, hiff.trans ⟨fun h j h1 h2 => ?_, fun h j h1 h2 => h j (by omega) h2⟩⟩
      · rw [spec_siGood.l0, if_pos (by omega), if_pos (by omega), e1, if_pos (by omega), if_pos (by omega), if_neg hc, w_succ i l.length hlt (by omega)]
      · by_cases e : j = i
        · subst e; omega
        · exact h j (by omega) h2
theorem less_val (a b : Int) : cmp_Less_int.f a b = some (decide (a < b)) := by
  unfold cmp_Less_int.f cmp_isNaN_int.f
  simp
theorem down_loop (l : List Int) (hn : l.length ≤ 4) : ∀ i : Nat, i < l.length → ∃ b, Ev (fun k => slices_IsSorted_int_int.l0 k l (i : Int)) b ∧ (b = true ↔ ∀ j : Nat, 1 ≤ j → j ≤ i → rd l ((j - 1 : Nat) : Int) ≤ rd l (j : Int)) := by
  intro i
  induction i with
  | zero =>
    intro hi
    exact ⟨true, Ev.step (f := fun _ => some true) (fun k => by rw [slices_IsSorted_int_int.l0, if_neg (by omega)]) (Ev.now _), ⟨fun _ j h1 h2 => by omega, fun _ => rfl⟩⟩
  | succ i ih =>
    intro hi
    have e1 : wrap64 (((i + 1 : Nat) : Int) - 1) = (i : Int) := by rw [w64 (by omega) (by omega)]; omega
    by_cases hc : rd l ((i + 1 : Nat) : Int) < rd l (i : Int)
    · refine ⟨false, Ev.step (f := fun _ => some false) (fun k => ?_) (Ev.now _), ⟨fun h => (by cases h), fun h => ?_⟩⟩
      · rw [slices_IsSorted_int_int.l0, if_pos (by omega), if_pos (by omega), if_pos (by omega), e1, if_pos (by omega), if_pos (by omega), less_val, decide_eq_true hc]
        rfl
      · have := h (i + 1) (by omega) (Nat.le_refl _)
        rw [Nat.add_sub_cancel] at this
        omega
    · obtain ⟨b, hb, hiff⟩ := ih (by omega)
      refine ⟨b, Ev.step (fun k => ?_) hb, hiff.trans ⟨fun h j h1 h2 => ?_, fun h j h1 h2 => h j h1 (by omega)⟩⟩
      · rw [slices_IsSorted_int_int.l0, if_pos (by omega), if_pos (by omega), if_pos (by omega), e1, if_pos (by omega), if_pos (by omega), less_val, decide_eq_false hc]
        rfl
      · by_cases e : j = i + 1
        · subst e
          rw [Nat.add_sub_cancel]
          omega
        · exact h j h1 (by omega)
theorem bool_eq {a b : Bool} {P : Prop} (h : a = true ↔ P) (h' : b = true ↔ P) : a = b := by rw [Bool.eq_iff_iff, h, h']
theorem ev_set (l : List Int) (hn : l.length ≤ 9223372036854775807) : ∃ b, Ev (fun k => spec_siGood.f k l) b ∧ Ev (fun k => impl_isSet.f k l) b ∧ (b = true ↔ SetP l) := by
  unfold spec_siGood.f impl_isSet.f SetP
  rw [l1In_val, between_val]
  simp only [Option.bind_some]
  have sno : Ev (fun k => spec_siGood.j0 k l true) false := Ev.step (f := fun _ => some false) (fun k => by rw [spec_siGood.j0, if_pos rfl]) (Ev.now _)
  by_cases h : 1 ≤ l.length ∧ l.length ≤ 4
  · rw [decide_eq_true (show (1 : Int) ≤ (l.length : Int) ∧ (l.length : Int) ≤ 4 by omega)]
    simp only [if_true]
    have ha := ev_all l 1 20 hn
    cases hall : (l.all fun x => decide ((1 : Int) ≤ x ∧ x ≤ 20)) with
    | false =>
      rw [hall] at ha
      refine ⟨false, Ev.bind ha ?_, ?_, ⟨fun h => (by cases h), fun h => ?_⟩⟩
      · simp only [Bool.not_false]; exact sno
      · unfold impl_areBetween.f
        rw [hall]
        simp only [Option.bind_some, Bool.false_eq_true, if_false]
        exact Ev.now _
      · have : (l.all fun x => decide ((1 : Int) ≤ x ∧ x ≤ 20)) = true := by
          rw [List.all_eq_true]
          exact fun x hx => decide_eq_true (h.2.1 x hx)
        rw [hall] at this
        cases this
    | true =>
      rw [hall] at ha
      have hx : ∀ x ∈ l, 1 ≤ x ∧ x ≤ 20 := fun x hx => of_decide_eq_true ((List.all_eq_true.1 hall) x hx)
      obtain ⟨b, hb, hiff⟩ := up_loop l h.2 (l.length - 1) 1 rfl (by omega)
      obtain ⟨c, hc, hiff'⟩ := down_loop l h.2 (l.length - 1) (by omega)
      have hP : c = true ↔ ∀ j : Nat, 1 ≤ j → j < l.length → rd l ((j - 1 : Nat) : Int) ≤ rd l (j : Int) := hiff'.trans ⟨fun g j h1 h2 => g j h1 (by omega), fun g j h1 h2 => g j h1 (by omega)⟩
      have hbc : c = b := bool_eq hP hiff
      subst hbc
      refine ⟨c, Ev.bind ha ?_, ?_, ?_⟩
      · simp only [Bool.not_true]
        refine Ev.step (fun k => by rw [spec_siGood.j0, if_neg (by simp)]) ?_
        exact hb
      · unfold impl_areBetween.f
        rw [hall]
        simp only [Option.bind_some, if_true]
        unfold slices_IsSorted_int_int.f
        have e1 : wrap64 ((l.length : Int) - 1) = ((l.length - 1 : Nat) : Int) := by rw [w64 (by omega) (by omega)]; omega
        rw [e1]
        exact Ev.bind hc (Ev.now _)
      · rw [hP]
        exact ⟨fun g => ⟨h, hx, g⟩, fun g => g.2.2⟩
  · rw [decide_eq_false (show ¬ ((1 : Int) ≤ (l.length : Int) ∧ (l.length : Int) ≤ 4) by omega)]
    simp only [Bool.false_eq_true, if_false]
    exact ⟨false, sno, Ev.now _, ⟨fun h => (by cases h), fun g => absurd g.1 h⟩⟩

theorem rd_set_ne (xs : List Int) (i j : Nat) (v : Int) (h : i ≠ j) : rd (xs.set i v) (j : Int) = rd xs (j : Int) := by
  simp only [rd, Int.toNat_natCast, List.getD_eq_getElem?_getD, List.getElem?_set]
  rw [if_neg h]
theorem rd_set_eq (xs : List Int) (i : Nat) (v : Int) (h : i < xs.length) : rd (xs.set i v) (i : Int) = v := by
  simp [rd, List.getD_eq_getElem?_getD, List.getElem?_set, h]
end Go.Proofs.YtjfdehjkdbcneaaGreat.Pure
/- Chapter 4, plain: what is drawn. No condition beyond those typed at each lemma. -/
namespace Go.Proofs.YtjfdehjkdbcneaaGreat.Pure
open Go.RowKit Go.Proofs.YtjfdehjkdbcneaaGreat.E Go.Proofs.YtjfdehjkdbcneaaGreatW.PrintWords Go.Proofs.YtjfdehjkdbcneaaGreatW.PrintLast
set_option linter.unusedVariables false
set_option linter.unusedSimpArgs false

theorem and255 (a : Int) (h : 0 ≤ a) (h1 : a ≤ 18446744073709551615) : 0 ≤ Go.bits .and .u64 a 255 ∧ Go.bits .and .u64 a 255 ≤ 255 := by
  obtain ⟨n, rfl⟩ : ∃ n : Nat, a = n := ⟨a.toNat, by omega⟩
  rw [show (255 : Int) = ((255 : Nat) : Int) from rfl, bits_and_u64_nat _ _ (by omega) (by omega)]
  have := Nat.and_le_right (n := n) (m := 255)
  omega
/-- bytes -/
def Bytes (l : List Int) : Prop := ∀ x ∈ l, 0 ≤ x ∧ x ≤ 255
theorem rd_byte {l : List Int} (hl : Bytes l) (i : Int) : 0 ≤ rd l i ∧ rd l i ≤ 255 := by
  unfold rd
  rw [List.getD_eq_getElem?_getD]
  cases h : l[i.toNat]? with
  | none => simp
  | some x => exact hl x (List.mem_of_getElem? h)
theorem u64r (x : Int) : 0 ≤ IntKind.u64.wrap x ∧ IntKind.u64.wrap x ≤ 18446744073709551615 := by
  rw [IntKind.wrap_u64]
  omega
theorem next_some {l : List Int} (hl : Bytes l) (at_ s : Int) (h0 : 0 ≤ at_) (h1 : at_ ≤ 1000000000000) : ∃ b s', spec_l1Cur_next.f l at_ s = some (b, at_ + 1, s') ∧ 0 ≤ b ∧ b ≤ 255 := by
  have e : wrap64 (at_ + 1) = at_ + 1 := w64 (by omega) (by omega)
  have hr := rd_byte hl at_
  have e2 : wrap64 (rd l at_) = rd l at_ := w64 (by omega) (by omega)
  have hsh : ∀ x : Int, ∃ b : Int, wrap64 (Go.bits .and .u64 (IntKind.u64.wrap x / 1099511627776) 255) = b ∧ 0 ≤ b ∧ b ≤ 255 := by
    intro x
    have h := u64r x
    have := and255 (IntKind.u64.wrap x / 1099511627776) (by omega) (by omega)
    exact ⟨_, w64 (by omega) (by omega), this.1, this.2⟩
  unfold spec_l1Cur_next.f
  rw [e, e2]
  by_cases c1 : at_ < (l.length : Int)
  · rw [if_pos c1, if_pos h0]
    by_cases c2 : at_ + 1 ≤ (l.length : Int)
    · rw [if_pos c2]; exact ⟨_, _, rfl, hr.1, hr.2⟩
    · omega
  · rw [if_neg c1, if_neg (by omega)]
    obtain ⟨b, hb, h2⟩ := hsh ((IntKind.u64.wrap (IntKind.u64.wrap (s * 6364136223846793005))) + 1442695040888963407)
    exact ⟨b, _, by rw [hb], h2⟩
theorem pick_some {l : List Int} (hl : Bytes l) (at_ s n : Int) (h0 : 0 ≤ at_) (h1 : at_ ≤ 1000000000000) (hn : 1 ≤ n) (hn2 : n ≤ 200) : ∃ x a' s', spec_l1Cur_pick.f l at_ s n = some (x, a', s') ∧ 0 ≤ x ∧ x < n ∧ at_ ≤ a' ∧ a' ≤ at_ + 1 := by
  unfold spec_l1Cur_pick.f
  by_cases c : n ≤ 1
  · rw [if_pos c]; exact ⟨0, at_, s, rfl, by omega, by omega, by omega, by omega⟩
  · rw [if_neg c]
    obtain ⟨b, s', h, hb0, hb1⟩ := next_some hl at_ s h0 h1
    rw [h]
    simp only [Option.bind_some]
    rw [if_neg (by omega), if_neg (by omega)]
    refine ⟨_, _, _, rfl, ?_, ?_, by omega, by omega⟩
    · rw [Int.tmod_eq_emod_of_nonneg hb0]; exact Int.emod_nonneg _ (by omega)
    · rw [Int.tmod_eq_emod_of_nonneg hb0]; exact Int.emod_lt_of_pos _ (by omega)
theorem among_some {l : List Int} (hl : Bytes l) (at_ s : Int) (xs : List Int) (h0 : 0 ≤ at_) (h1 : at_ ≤ 1000000000000) (hx : 1 ≤ xs.length) (hx2 : xs.length ≤ 200) : ∃ x a' s', spec_l1Cur_among.f l at_ s xs = some (x, a', s') ∧ at_ ≤ a' ∧ a' ≤ at_ + 1 := by
  obtain ⟨x, a', s', h, hx0, hx1, ha, ha2⟩ := pick_some hl at_ s (xs.length : Int) h0 h1 (by omega) (by omega)
  unfold spec_l1Cur_among.f
  rw [h]
  simp only [Option.bind_some]
  rw [if_pos hx0, if_pos hx1]
  exact ⟨_, _, _, rfl, ha, ha2⟩
theorem pick_big {l : List Int} (hl : Bytes l) (at_ s n : Int) (h0 : 0 ≤ at_) (h1 : at_ ≤ 1000000000) (hn : 201 ≤ n) (hn2 : n ≤ 60000) : ∃ x a' s', spec_l1Cur_pick.f l at_ s n = some (x, a', s') ∧ 0 ≤ x ∧ x < n ∧ at_ ≤ a' ∧ a' ≤ at_ + 2 := by
  unfold spec_l1Cur_pick.f
  rw [if_neg (by omega)]
  obtain ⟨b, s', h, hb0, hb1⟩ := next_some hl at_ s h0 (by omega)
  rw [h]
  simp only [Option.bind_some]
  rw [if_pos (by omega)]
  obtain ⟨b2, s2, h2, hc0, hc1⟩ := next_some hl (at_ + 1) s' (by omega) (by omega)
  rw [h2]
  simp only [Option.bind_some]
  rw [if_neg (by omega), w64 (x := b * 256) (by omega) (by omega), w64 (x := b * 256 + b2) (by omega) (by omega)]
  refine ⟨_, _, _, rfl, ?_, ?_, by omega, by omega⟩
  · rw [Int.tmod_eq_emod_of_nonneg (by omega)]; exact Int.emod_nonneg _ (by omega)
  · rw [Int.tmod_eq_emod_of_nonneg (by omega)]; exact Int.emod_lt_of_pos _ (by omega)
theorem one_some {l : List Int} (hl : Bytes l) (at_ s n : Int) (h0 : 0 ≤ at_) (h1 : at_ ≤ 1000000000000) (hn : 1 ≤ n) (hn2 : n ≤ 200) : ∃ b a' s', spec_l1Cur_one.f l at_ s n = some (b, a', s') ∧ at_ ≤ a' ∧ a' ≤ at_ + 1 := by
  obtain ⟨x, a', s', h, _, _, p, q⟩ := pick_some hl at_ s n h0 h1 hn hn2
  unfold spec_l1Cur_one.f
  rw [h]
  exact ⟨_, _, _, rfl, p, q⟩
theorem sure_loop {l : List Int} (hl : Bytes l) (d : Nat) : ∀ (xs : List Int) (age q at_ s : Int), q = d → xs.length + d ≤ 4 → (1 ≤ age ∧ age ≤ 20) → Ages xs → 0 ≤ at_ → at_ + d ≤ 100000000 → ∃ r a' s', Ev (fun n => spec_l1Cur_sureSet.l0 n age xs q l at_ s) (r, a', s') ∧ r.length = xs.length + d ∧ Ages r ∧ at_ ≤ a' ∧ a' ≤ at_ + d := by
  induction d with
  | zero =>
    intro xs age q at_ s hq hx ha hg h0 h1
    exact ⟨xs, at_, s, Ev.step (f := fun _ => some (xs, at_, s)) (fun n => by rw [spec_l1Cur_sureSet.l0, if_neg (by omega)]) (Ev.now _), by omega, hg, by omega, by omega⟩
  | succ d ih =>
    intro xs age q at_ s hq hx ha hg h0 h1
    obtain ⟨x, a1, s1, e1, p1, p2, l1, u1⟩ := pick_some hl at_ s 5 h0 (by omega) (by omega) (by omega)
    obtain ⟨v, hv, v1, v2⟩ : ∃ v, spec_l1Least.f 20 (wrap64 (age + x)) = some v ∧ 1 ≤ v ∧ v ≤ 20 := by
      rw [w64 (x := age + x) (by omega) (by omega)]
      unfold spec_l1Least.f
      by_cases c : 20 < age + x
      · rw [if_pos c]; exact ⟨20, rfl, by omega, by omega⟩
      · rw [if_neg c]; exact ⟨_, rfl, by omega, by omega⟩
    obtain ⟨r, a', s', hr, hlen, hage, hl2, hu2⟩ := ih (xs ++ [v]) v (q - 1) a1 s1 (by omega) (by simp; omega) ⟨v1, v2⟩ (hg.snoc v1 v2) (by omega) (by omega)
    refine ⟨r, a', s', Ev.step (fun n => ?_) hr, by rw [hlen]; simp; omega, hage, by omega, by omega⟩
    rw [spec_l1Cur_sureSet.l0, if_pos (by omega), e1]
    simp only [Option.bind_some]
    rw [hv]
    simp only [Option.bind_some]
    rw [if_pos (by omega), w64 (x := q - 1) (by omega) (by omega)]
theorem sure_some {l : List Int} (hl : Bytes l) (at_ s : Int) (h0 : 0 ≤ at_) (h1 : at_ ≤ 1000000) : ∃ r a' s', Ev (fun n => spec_l1Cur_sureSet.f n l at_ s) (r, a', s') ∧ 1 ≤ r.length ∧ r.length ≤ 4 ∧ Ages r ∧ at_ ≤ a' ∧ a' ≤ at_ + 10 := by
  unfold spec_l1Cur_sureSet.f
  obtain ⟨x, a1, s1, e1, p1, q1, l1, u1⟩ := pick_some hl at_ s 6 h0 (by omega) (by omega) (by omega)
  rw [e1]
  simp only [Option.bind_some]
  obtain ⟨y, a2, s2, e2, p2, q2, l2, u2⟩ := pick_some hl a1 s1 4 (by omega) (by omega) (by omega) (by omega)
  rw [e2]
  simp only [Option.bind_some]
  rw [w64 (x := 1 + x) (by omega) (by omega)]
  obtain ⟨r, a', s', hr, hlen, hage, hl2, hu2⟩ := sure_loop hl y.toNat [1 + x] (1 + x) y a2 s2 (by omega) (by simp; omega) ⟨by omega, by omega⟩ (fun z hz => by rw [List.mem_singleton] at hz; omega) (by omega) (by omega)
  simp only [List.length_singleton] at hlen
  exact ⟨r, a', s', hr, by omega, by omega, hage, by omega, by omega⟩
theorem set_some {l : List Int} (hl : Bytes l) (at_ s : Int) (h0 : 0 ≤ at_) (h1 : at_ ≤ 1000000) : ∃ r a' s', Ev (fun n => spec_l1Cur_set.f n l at_ s) (r, a', s') ∧ r.length ≤ 5 ∧ at_ ≤ a' ∧ a' ≤ at_ + 20 := by
  unfold spec_l1Cur_set.f
  obtain ⟨xs, a0, s0, h, _, hx4, _, l0, u0⟩ := sure_some hl at_ s h0 h1
  obtain ⟨x, a1, s1, e1, p1, q1, l1, u1⟩ := pick_some hl a0 s0 16 (by omega) (by omega) (by omega) (by omega)
  by_cases c0 : x = 0
  · refine ⟨[], a1, s1, Ev.bind h ?_, by simp, by omega, by omega⟩
    simp only [e1, Option.bind_some, if_pos c0]
    exact Ev.now _
  · by_cases c1 : x = 1
    · obtain ⟨v, a2, s2, e2, l2, u2⟩ := among_some hl a1 s1 [(-1), 0, 1, 20, 21, 4611686018427387904] (by omega) (by omega) (by simp) (by simp)
      refine ⟨xs ++ [v], a2, s2, Ev.bind h ?_, by simp; omega, by omega, by omega⟩
      simp only [e1, Option.bind_some, if_neg c0, if_pos c1, e2, if_pos (show xs.length < 17592186044416 by omega)]
      exact Ev.now _
    · by_cases c2 : x = 2
      · obtain ⟨y, a2, s2, e2, _, _, l2, u2⟩ := pick_some hl a1 s1 21 (by omega) (by omega) (by omega) (by omega)
        refine ⟨[y, 20, 20, 20], a2, s2, Ev.bind h ?_, by simp, by omega, by omega⟩
        simp only [e1, Option.bind_some, if_neg c0, if_neg c1, if_pos c2, e2]
        exact Ev.now _
      · refine ⟨xs, a1, s1, Ev.bind h ?_, by omega, by omega, by omega⟩
        simp only [e1, Option.bind_some, if_neg c0, if_neg c1, if_neg c2]
        exact Ev.now _
theorem summed_some {l : List Int} (hl : Bytes l) (at_ s : Int) (h0 : 0 ≤ at_) (h1 : at_ ≤ 1000000) : ∃ c t a' s', spec_l1Cur_summed.f l at_ s = some (c, t, a', s') ∧ at_ ≤ a' ∧ a' ≤ at_ + 10 := by
  unfold spec_l1Cur_summed.f
  obtain ⟨b, a1, s1, e1, l1, u1⟩ := one_some hl at_ s 10 h0 (by omega) (by omega) (by omega)
  rw [e1]
  simp only [Option.bind_some]
  cases b with
  | true =>
    obtain ⟨v, a2, s2, e2, l2, u2⟩ := among_some hl a1 s1 [(-1), 0, 1, 4, 5] (by omega) (by omega) (by simp) (by simp)
    obtain ⟨v3, a3, s3, e3, l3, u3⟩ := among_some hl a2 s2 [(-1), 0, 1, 80, 81, 4611686018427387904] (by omega) (by omega) (by simp) (by simp)
    simp only [if_true, e2, e3, Option.bind_some]
    exact ⟨_, _, _, _, rfl, by omega, by omega⟩
  | false =>
    obtain ⟨v, a2, s2, e2, _, _, l2, u2⟩ := pick_some hl a1 s1 4 (by omega) (by omega) (by omega) (by omega)
    obtain ⟨v3, a3, s3, e3, _, _, l3, u3⟩ := pick_some hl a2 s2 30 (by omega) (by omega) (by omega) (by omega)
    simp only [Bool.false_eq_true, if_false, e2, e3, Option.bind_some]
    exact ⟨_, _, _, _, rfl, by omega, by omega⟩
theorem drawIs {l : List Int} (hl : Bytes l) : ∃ r, Ev (fun k => spec_DrawIsSet.f k l) r ∧ r.length ≤ 5 := by
  obtain ⟨r, a', s', h, h5, _, _⟩ := set_some hl 0 0 (by omega) (by omega)
  refine ⟨r, ?_, h5⟩
  unfold spec_DrawIsSet.f
  exact Ev.bind h (Ev.now _)
theorem drawOne {l : List Int} (hl : Bytes l) : ∃ c f t, spec_DrawOneByOldest.f l = some (c, f, t) := by
  unfold spec_DrawOneByOldest.f
  obtain ⟨b, a1, s1, e1, l1, u1⟩ := one_some hl 0 0 8 (by omega) (by omega) (by omega) (by omega)
  rw [e1]
  simp only [Option.bind_some]
  cases b with
  | true =>
    obtain ⟨v, a2, s2, e2, l2, u2⟩ := among_some hl a1 s1 [(-1), 0, 1, 4, 5] (by omega) (by omega) (by simp) (by simp)
    obtain ⟨v3, a3, s3, e3, l3, u3⟩ := among_some hl a2 s2 [(-1), 0, 1, 159990] (by omega) (by omega) (by simp) (by simp)
    obtain ⟨v4, a4, s4, e4, l4, u4⟩ := among_some hl a3 s3 [(-1), 0, 1, 20, 160000, 160001] (by omega) (by omega) (by simp) (by simp)
    simp only [if_true, e2, e3, e4, Option.bind_some]
    exact ⟨_, _, _, rfl⟩
  | false =>
    obtain ⟨v, a2, s2, e2, _, _, l2, u2⟩ := pick_big hl a1 s1 250 (by omega) (by omega) (by omega) (by omega)
    obtain ⟨v3, a3, s3, e3, _, _, l3, u3⟩ := pick_some hl a2 s2 4 (by omega) (by omega) (by omega) (by omega)
    obtain ⟨v4, a4, s4, e4, _, _, l4, u4⟩ := pick_some hl a3 s3 40 (by omega) (by omega) (by omega) (by omega)
    obtain ⟨v5, a5, s5, e5, _, _, l5, u5⟩ := pick_some hl a4 s4 9 (by omega) (by omega) (by omega) (by omega)
    simp only [Bool.false_eq_true, if_false, e2, e3, e4, e5, Option.bind_some]
    exact ⟨_, _, _, rfl⟩
end Go.Proofs.YtjfdehjkdbcneaaGreat.Pure
/- Chapter 4, plain: what is drawn for the law of sums. No condition beyond those typed at each lemma. -/
namespace Go.Proofs.YtjfdehjkdbcneaaGreat.Pure
open Go.RowKit Go.Proofs.YtjfdehjkdbcneaaGreat.E Go.Proofs.YtjfdehjkdbcneaaGreatW.PrintWords Go.Proofs.YtjfdehjkdbcneaaGreatW.PrintLast
set_option linter.unusedVariables false
set_option linter.unusedSimpArgs false

theorem drawApart {l : List Int} (hl : Bytes l) : ∃ c s ap, spec_DrawSetsApart.f l = some (c, s, ap) := by
  unfold spec_DrawSetsApart.f
  obtain ⟨c, t, a1, s1, e1, l1, u1⟩ := summed_some hl 0 0 (by omega) (by omega)
  obtain ⟨v, a2, s2, e2, l2, u2⟩ := among_some hl a1 s1 [0, 1, 1, 2, 3, 20, 21, (-1)] (by omega) (by omega) (by simp) (by simp)
  simp only [e1, e2, Option.bind_some]
  exact ⟨_, _, _, rfl⟩
theorem drawNext {l : List Int} (hl : Bytes l) : ∃ r, Ev (fun k => spec_DrawNextSet.f k l) r ∧ r.length ≤ 5 := by
  obtain ⟨r, h, h5⟩ := drawIs hl
  refine ⟨r, ?_, h5⟩
  unfold spec_DrawNextSet.f
  exact Ev.bind h (Ev.now _)
theorem drawLater {l : List Int} (hl : Bytes l) : ∃ (r : List Int) (y : Int), Ev (fun k => spec_DrawLaterSet.f k l) (r, y) ∧ r.length ≤ 5 := by
  unfold spec_DrawLaterSet.f
  obtain ⟨b, a1, s1, e1, l1, u1⟩ := one_some hl 0 0 8 (by omega) (by omega) (by omega) (by omega)
  rw [e1]
  simp only [Option.bind_some]
  obtain ⟨r, a2, s2, h, h5, l2, u2⟩ := set_some hl a1 s1 (by omega) (by omega)
  cases b with
  | true =>
    obtain ⟨v, a3, s3, e3, l3, u3⟩ := among_some hl a2 s2 [(-21), (-20), 20, 21] (by omega) (by omega) (by simp) (by simp)
    refine ⟨r, v, ?_, h5⟩
    simp only [if_true]
    refine Ev.bind h ?_
    simp only [e3, Option.bind_some]
    exact Ev.now _
  | false =>
    obtain ⟨v, a3, s3, e3, _, _, l3, u3⟩ := pick_some hl a2 s2 16 (by omega) (by omega) (by omega) (by omega)
    refine ⟨r, wrap64 (v - 6), ?_, h5⟩
    simp only [Bool.false_eq_true, if_false]
    refine Ev.bind h ?_
    simp only [e3, Option.bind_some]
    exact Ev.now _
theorem drawMost {l : List Int} (hl : Bytes l) : ∃ c f t, spec_DrawMostSets.f l = some (c, f, t) := by
  obtain ⟨c, f, t, h⟩ := drawOne hl
  unfold spec_DrawMostSets.f
  rw [h]
  exact ⟨_, _, _, rfl⟩
end Go.Proofs.YtjfdehjkdbcneaaGreat.Pure
/- Chapter 4, plain: what holds from so many rounds on. No condition beyond those typed at each lemma. -/
namespace Go.Proofs.YtjfdehjkdbcneaaGreat.Pure
open Go.RowKit Go.Proofs.YtjfdehjkdbcneaaGreat.E Go.Proofs.YtjfdehjkdbcneaaGreatW.PrintWords Go.Proofs.YtjfdehjkdbcneaaGreatW.PrintLast
set_option linter.unusedVariables false
set_option linter.unusedSimpArgs false

def EvP (P : Nat → Prop) : Prop := ∃ K, ∀ k, K ≤ k → P k
theorem EvP.of {α : Type} {g : Nat → Option α} {r : α} (h : Ev g r) : EvP (fun k => g k = some r) := h
theorem EvP.const {p : Prop} (h : p) : EvP (fun _ => p) := ⟨0, fun _ _ => h⟩
theorem EvP.and {P Q : Nat → Prop} (h : EvP P) (g : EvP Q) : EvP (fun k => P k ∧ Q k) := by
  obtain ⟨a, ha⟩ := h
  obtain ⟨b, hb⟩ := g
  exact ⟨a + b, fun k hk => ⟨ha k (by omega), hb k (by omega)⟩⟩
theorem EvP.mono {P Q : Nat → Prop} (h : EvP P) (g : ∀ k, P k → Q k) : EvP Q := by
  obtain ⟨a, ha⟩ := h
  exact ⟨a, fun k hk => g k (ha k hk)⟩
theorem EvP.imp {p : Prop} {P : Nat → Prop} (h : p → EvP P) : EvP (fun k => p → P k) := by
  by_cases hp : p
  · exact (h hp).mono (fun k hk _ => hk)
  · exact ⟨0, fun k _ hq => absurd hq hp⟩
theorem EvP.all {α : Type} {P : α → Nat → Prop} : ∀ xs : List α, (∀ x ∈ xs, EvP (P x)) → EvP (fun k => ∀ x ∈ xs, P x k)
  | [], _ => ⟨0, fun _ _ x hx => absurd hx List.not_mem_nil⟩
  | y :: ys, h => by
    obtain ⟨a, ha⟩ := h y List.mem_cons_self
    obtain ⟨b, hb⟩ := EvP.all ys (fun x hx => h x (List.mem_cons_of_mem _ hx))
    refine ⟨a + b, fun k hk x hx => ?_⟩
    rcases List.mem_cons.1 hx with rfl | hx
    · exact ha k (by omega)
    · exact hb k (by omega) x hx
end Go.Proofs.YtjfdehjkdbcneaaGreat.Pure
/- Chapter 4, plain: a set in some years. No condition beyond those typed at each lemma. -/
namespace Go.Proofs.YtjfdehjkdbcneaaGreat.Pure
open Go.RowKit Go.Proofs.YtjfdehjkdbcneaaGreat.E Go.Proofs.YtjfdehjkdbcneaaGreatW.PrintWords Go.Proofs.YtjfdehjkdbcneaaGreatW.PrintLast
set_option linter.unusedVariables false
set_option linter.unusedSimpArgs false

theorem spec_agIn_loop (l : List Int) (y : Int) (h4 : l.length ≤ 4) (d : Nat) : ∀ (i : Nat) (acc : List Int), l.length - i = d → i ≤ l.length → acc.length = i →
    Ev (fun k => spec_agIn.l0 k y acc l (l.length : Int) (i : Int)) (acc ++ (l.drop i).map fun x => wrap64 (x + y)) := by
  induction d with
  | zero =>
    intro i acc hd hi ha
    rw [List.drop_of_length_le (by omega)]
    exact Ev.step (f := fun _ => some (acc ++ [])) (fun k => by rw [spec_agIn.l0, if_neg (by omega), List.append_nil]) (Ev.now _)
  | succ d ih =>
    intro i acc hd hi ha
    have hlt : i < l.length := by omega
    have hs := ih (i + 1) (acc ++ [wrap64 (rd l (i : Int) + y)]) (by omega) (by omega) (by simp [ha])
    rw [drop_rd l i hlt, List.map_cons]
    rw [List.append_assoc, List.singleton_append] at hs
    refine Ev.step (fun k => ?_) hs
    rw [spec_agIn.l0, if_pos (by omega), if_pos (by omega), if_pos (by omega), if_pos (by omega), w_succ i l.length hlt (by omega)]
theorem impl_inYears_loop (l : List Int) (y : Int) (h4 : l.length ≤ 4) (d : Nat) : ∀ (i : Nat) (acc : List Int), l.length - i = d → i ≤ l.length → acc.length = i →
    Ev (fun k => impl_inYears.l0 k y acc l (l.length : Int) (i : Int)) (acc ++ (l.drop i).map fun x => wrap64 (x + y)) := by
  induction d with
  | zero =>
    intro i acc hd hi ha
    rw [List.drop_of_length_le (by omega)]
    exact Ev.step (f := fun _ => some (acc ++ [])) (fun k => by rw [impl_inYears.l0, if_neg (by omega), List.append_nil]) (Ev.now _)
  | succ d ih =>
    intro i acc hd hi ha
    have hlt : i < l.length := by omega
    have hs := ih (i + 1) (acc ++ [wrap64 (rd l (i : Int) + y)]) (by omega) (by omega) (by simp [ha])
    rw [drop_rd l i hlt, List.map_cons]
    rw [List.append_assoc, List.singleton_append] at hs
    refine Ev.step (fun k => ?_) hs
    rw [impl_inYears.l0, if_pos (by omega), if_pos (by omega), if_pos (by omega), if_pos (by omega), w_succ i l.length hlt (by omega)]
/-- A set in some years. -/
def inY (l : List Int) (y : Int) : List Int := l.map fun x => wrap64 (x + y)
theorem both_Later (l : List Int) (y : Int) (hn : l.length ≤ 9223372036854775807) : ∃ r : List Int × Bool, Ev (fun k => spec_LaterSet.f k l y) r ∧ Ev (fun k => impl_LaterSet.f k l y) r ∧ (r.2 = true ↔ SetP l ∧ (-20 ≤ y ∧ y ≤ 20) ∧ SetP (inY l y)) ∧ r.1 = if r.2 = true then inY l y else [] := by
  obtain ⟨b, h1, h2, hiff⟩ := ev_set l hn
  have no : ∃ r : List Int × Bool, r = ([], false) ∧ Ev (fun k => spec_LaterSet.j0 k l y true) r ∧ Ev (fun k => impl_LaterSet.j0 k l y true) r :=
    ⟨([], false), rfl, Ev.step (f := fun _ => some ([], false)) (fun k => by rw [spec_LaterSet.j0, if_pos rfl]) (Ev.now _), Ev.step (f := fun _ => some ([], false)) (fun k => by rw [impl_LaterSet.j0, if_pos rfl]) (Ev.now _)⟩
  unfold spec_LaterSet.f impl_LaterSet.f
  rw [l1In_val, between_val]
  simp only [Option.bind_some]
  cases b with
  | false =>
    obtain ⟨r, hr, g1, g2⟩ := no
    refine ⟨r, Ev.bind h1 ?_, Ev.bind h2 ?_, ?_, ?_⟩
    · simp only [Bool.false_eq_true, if_false]; exact g1
    · simp only [Bool.false_eq_true, if_false]; exact g2
    · subst hr
      exact ⟨fun h => (by cases h), fun h => (by have := hiff.2 h.1; cases this)⟩
    · subst hr; rfl
  | true =>
    have hs := hiff.1 rfl
    have h4 := hs.1.2
    by_cases hy : -20 ≤ y ∧ y ≤ 20
    · rw [decide_eq_true hy]
      have a1 := spec_agIn_loop l y h4 l.length 0 [] (by omega) (by omega) rfl
      have a2 := impl_inYears_loop l y h4 l.length 0 [] (by omega) (by omega) rfl
      rw [List.drop_zero, List.nil_append] at a1 a2
      have hl : (inY l y).length ≤ 4 := by simpa [inY] using h4
      obtain ⟨c, s1, s2, s3⟩ := ev_set (inY l y) (by omega)
      have f1 : Ev (fun k => spec_agIn.f k l y) (inY l y) := by unfold spec_agIn.f; exact a1
      have f2 : Ev (fun k => impl_inYears.f k l y) (inY l y) := by unfold impl_inYears.f; exact a2
      cases c with
      | true =>
        refine ⟨(inY l y, true), Ev.bind h1 ?_, Ev.bind h2 ?_, ⟨fun _ => ⟨hs, hy, s3.1 rfl⟩, fun _ => rfl⟩, rfl⟩
        · simp only [if_true, Bool.not_true]
          refine Ev.step (fun k => by rw [spec_LaterSet.j0, if_neg (by simp)]) ?_
          refine Ev.bind f1 (Ev.bind s1 ?_)
          simp only [if_true]
          exact Ev.now _
        · simp only [if_true, Bool.not_true]
          refine Ev.step (fun k => by rw [impl_LaterSet.j0, if_neg (by simp)]) ?_
          refine Ev.bind f2 (Ev.bind s2 ?_)
          simp only [if_true]
          exact Ev.now _
      | false =>
        refine ⟨([], false), Ev.bind h1 ?_, Ev.bind h2 ?_, ⟨fun h => by (cases h), fun h => by (have := s3.2 h.2.2; cases this)⟩, rfl⟩
        · simp only [if_true, Bool.not_true]
          refine Ev.step (fun k => by rw [spec_LaterSet.j0, if_neg (by simp)]) ?_
          refine Ev.bind f1 (Ev.bind s1 ?_)
          simp only [Bool.false_eq_true, if_false]
          exact Ev.now _
        · simp only [if_true, Bool.not_true]
          refine Ev.step (fun k => by rw [impl_LaterSet.j0, if_neg (by simp)]) ?_
          refine Ev.bind f2 (Ev.bind s2 ?_)
          simp only [Bool.false_eq_true, if_false]
          exact Ev.now _
    · rw [decide_eq_false hy]
      obtain ⟨r, hr, g1, g2⟩ := no
      refine ⟨r, Ev.bind h1 ?_, Ev.bind h2 ?_, ?_, ?_⟩
      · simp only [if_true, Bool.not_false]; exact g1
      · simp only [if_true, Bool.not_false]; exact g2
      · subst hr
        exact ⟨fun h => (by cases h), fun h => absurd h.2.1 hy⟩
      · subst hr; rfl
/-- Back again. -/
theorem back_Later (l : List Int) (y : Int) (hs : SetP l) (hy : -20 ≤ y ∧ y ≤ 20) (hs2 : SetP (inY l y)) : Ev (fun k => impl_LaterSet.f k (inY l y) (wrap64 (-y))) (l, true) := by
  have e : inY (inY l y) (wrap64 (-y)) = l := by
    unfold inY
    rw [List.map_map]
    conv => rhs; rw [← List.map_id l]
    apply List.map_congr_left
    intro x hx
    have hb := hs.2.1 x hx
    show wrap64 (wrap64 (x + y) + wrap64 (-y)) = x
    rw [w64 (x := x + y) (by omega) (by omega), w64 (x := -y) (by omega) (by omega), w64 (by omega) (by omega)]
    omega
  have e2 : wrap64 (-y) = -y := w64 (by omega) (by omega)
  have hl : (inY l y).length ≤ 4 := hs2.1.2
  obtain ⟨r, _, h2, h3, h4⟩ := both_Later (inY l y) (wrap64 (-y)) (by omega)
  rw [e] at h3 h4
  have ht := h3.2 ⟨hs2, by omega, hs⟩
  rw [if_pos ht] at h4
  have : r = (l, true) := Prod.ext h4 ht
  rwa [this] at h2
end Go.Proofs.YtjfdehjkdbcneaaGreat.Pure
/- Chapter 4, plain: the sets that are found by dividing a product are the sets of so many children with that product, in order. No condition beyond those typed at each lemma. -/
namespace Go.Proofs.YtjfdehjkdbcneaaGreat.Pure
open Go.RowKit Go.Proofs.YtjfdehjkdbcneaaGreat.E Go.Proofs.YtjfdehjkdbcneaaGreatW.PrintWords Go.Proofs.YtjfdehjkdbcneaaGreatW.PrintLast
set_option linter.unusedVariables false
set_option linter.unusedSimpArgs false

theorem prodL_snoc (l : List Int) (a : Int) : prodL (l ++ [a]) = prodL l * a := by simp [prodL]
theorem prodL_pos (l : List Int) (h : Ages l) : 1 ≤ prodL l := by
  have key : ∀ (l : List Int) (acc : Int), Ages l → 1 ≤ acc → 1 ≤ l.foldl (· * ·) acc := by
    intro l
    induction l with
    | nil => intro acc _ h; exact h
    | cons x r ih =>
      intro acc hl hacc
      rw [List.foldl_cons]
      refine ih _ (fun y hy => hl y (List.mem_cons_of_mem _ hy)) ?_
      have hx := (hl x (List.mem_cons_self ..)).1
      have := Int.mul_le_mul hacc hx (by omega) (by omega)
      omega
  exact key l 1 h (by omega)
theorem mem_allSets_prod (n : Nat) : ∀ (l s : List Int), Ages l → s ∈ allSets n l → ∃ k, prodL s = prodL l * k := by
  induction n with
  | zero =>
    intro l s _ hs
    obtain rfl : s = l := by simpa [allSets] using hs
    exact ⟨1, by omega⟩
  | succ n ih =>
    intro l s hl hs
    have hf := hl.from_
    simp only [allSets, List.mem_flatten, List.mem_map, List.mem_range] at hs
    obtain ⟨_, ⟨i, hi, rfl⟩, hs⟩ := hs
    obtain ⟨k, hk⟩ := ih _ s (hl.snoc (by omega) (by omega)) hs
    exact ⟨(fromOf l + (i : Int)) * k, by rw [hk, prodL_snoc, Int.mul_assoc]⟩
theorem look_eq (n : Nat) : ∀ (left : Int) (l : List Int), Ages l → lookSets n left l = (allSets n l).filter (fun s => decide (prodL s = prodL l * left)) := by
  induction n with
  | zero =>
    intro left l hl
    have hp := prodL_pos l hl
    unfold lookSets allSets
    by_cases h : left = 1
    · rw [if_pos h]; simp [h]
    · rw [if_neg h]
      have : ¬ prodL l = prodL l * left := by
        intro e
        have e2 : prodL l * left = prodL l * 1 := by omega
        exact h (Int.eq_of_mul_eq_mul_left (by omega) e2)
      simp [this]
  | succ n ih =>
    intro left l hl
    have hf := hl.from_
    have hp := prodL_pos l hl
    rw [show allSets (n + 1) l = ((List.range (21 - fromOf l).toNat).map fun i : Nat => allSets n (l ++ [fromOf l + (i : Int)])).flatten from rfl, List.filter_flatten, List.map_map]
    show ((List.range (21 - fromOf l).toNat).map _).flatten = _
    congr 1
    apply List.map_congr_left
    intro i hi
    rw [List.mem_range] at hi
    have hA : Ages (l ++ [fromOf l + (i : Int)]) := hl.snoc (by omega) (by omega)
    simp only [Function.comp_apply]
    by_cases hm : left.tmod (fromOf l + (i : Int)) = 0
    · rw [if_pos hm, ih _ _ hA]
      have e := Int.mul_tdiv_add_tmod left (fromOf l + (i : Int))
      rw [hm, Int.add_zero] at e
      rw [prodL_snoc, Int.mul_assoc, e]
    · rw [if_neg hm]
      symm
      rw [List.filter_eq_nil_iff]
      intro s hs
      obtain ⟨k, hk⟩ := mem_allSets_prod n _ s hA hs
      simp only [decide_eq_true_eq]
      rw [hk, prodL_snoc, Int.mul_assoc]
      intro e
      have e2 := Int.eq_of_mul_eq_mul_left (by omega) e
      exact hm (by rw [← e2]; exact Int.mul_tmod_right _ _)
theorem look_all (n : Nat) (t : Int) : lookSets n t [] = (allSets n []).filter (hasProd t) := by
  rw [look_eq n t [] (fun x hx => by simp at hx)]
  congr 1
  funext s
  show decide (prodL s = 1 * t) = decide (prodL s = t)
  rw [Int.one_mul]
theorem siChildren_val (c p : Int) : spec_siChildren.f c p = some (decide (1 ≤ c ∧ c ≤ 4 ∧ 1 ≤ p ∧ p ≤ 160000)) := by
  unfold spec_siChildren.f
  rw [l1In_val, Option.bind_some]
  by_cases h : 1 ≤ c ∧ c ≤ 4
  · rw [decide_eq_true h, if_pos rfl, l1In_val]; simp [h]
  · rw [decide_eq_false h, if_neg (by simp)]; simp; omega
theorem siSets_val (c p : Int) (h : 1 ≤ c ∧ c ≤ 4 ∧ 1 ≤ p ∧ p ≤ 160000) : spec_siSets.f c p = some ((allSets c.toNat []).filter (hasProd p)) := by
  unfold spec_siSets.f
  rw [if_pos (by omega), look_all]
end Go.Proofs.YtjfdehjkdbcneaaGreat.Pure
/- Chapter 4, plain: the product with the most sets. No condition beyond those typed at each lemma. -/
namespace Go.Proofs.YtjfdehjkdbcneaaGreat.Pure
open Go.RowKit Go.Proofs.YtjfdehjkdbcneaaGreat.E Go.Proofs.YtjfdehjkdbcneaaGreatW.PrintWords Go.Proofs.YtjfdehjkdbcneaaGreatW.PrintLast
set_option linter.unusedVariables false
set_option linter.unusedSimpArgs false

theorem w64p {x : Int} (h0 : -9223372036854775808 ≤ x) (h1 : x ≤ 9223372036854775807) : wrap64 x = x := by unfold wrap64; omega
theorem siRange_val (c fr tt : Int) : spec_siRange.f c fr tt = some (lotsOk c fr tt) := by
  unfold spec_siRange.f lotsOk
  rw [siChildren_val, Option.bind_some]
  by_cases h1 : 1 ≤ c ∧ c ≤ 4 ∧ 1 ≤ tt ∧ tt ≤ 160000
  · rw [decide_eq_true h1, if_pos rfl, l1In_val, Option.bind_some]
    by_cases h2 : 1 ≤ fr ∧ fr ≤ tt
    · rw [decide_eq_true h2, if_pos rfl, w64p (by omega) (by omega), decide_eq_true (show 1 ≤ c ∧ c ≤ 4 by omega), decide_eq_true (show 1 ≤ fr ∧ fr ≤ 160000 by omega), decide_eq_true (show fr ≤ tt ∧ tt ≤ 160000 by omega)]
      rfl
    · rw [decide_eq_false h2, if_neg (by simp)]
      have : (decide (1 ≤ fr ∧ fr ≤ 160000) && (decide (fr ≤ tt ∧ tt ≤ 160000) && decide (tt - fr ≤ 1000))) = false := by
        by_cases h3 : 1 ≤ fr
        · rw [decide_eq_false (show ¬ (fr ≤ tt ∧ tt ≤ 160000) by omega), Bool.false_and, Bool.and_false]
        · rw [decide_eq_false (show ¬ (1 ≤ fr ∧ fr ≤ 160000) by omega), Bool.false_and]
      rw [this, Bool.and_false]
  · rw [decide_eq_false h1, if_neg (by simp)]
    have : (decide (1 ≤ c ∧ c ≤ 4) && (decide (1 ≤ fr ∧ fr ≤ 160000) && (decide (fr ≤ tt ∧ tt ≤ 160000) && decide (tt - fr ≤ 1000)))) = false := by
      rw [← Bool.not_eq_true]
      intro h
      simp only [Bool.and_eq_true, decide_eq_true_eq] at h
      omega
    rw [this]
theorem most_loop (c fr tt : Int) (N : Nat) (hc : 1 ≤ c ∧ c ≤ 4) (hf : 1 ≤ fr) (ht : tt ≤ 160000) (hN : (N : Int) = tt - fr + 1) (d : Nat) : ∀ i : Nat, N - i = d → i ≤ N →
    Ev (fun k => spec_MostSets.l0 k c tt (fr + ((mostAt (lotCount c.toNat fr) i : Nat) : Int)) (if i = 0 then -1 else (lotCount c.toNat fr (mostAt (lotCount c.toNat fr) i) : Int)) (fr + (i : Int)))
      (fr + ((mostAt (lotCount c.toNat fr) N : Nat) : Int), (if N = 0 then -1 else (lotCount c.toNat fr (mostAt (lotCount c.toNat fr) N) : Int)), true) := by
  induction d with
  | zero =>
    intro i hd hi
    obtain rfl : i = N := by omega
    exact Ev.step (f := fun _ => some _) (fun k => by rw [spec_MostSets.l0, if_neg (by omega)]) (Ev.now _)
  | succ d ih =>
    intro i hd hi
    have hs := ih (i + 1) (by omega) (by omega)
    refine Ev.step (fun k => ?_) hs
    rw [spec_MostSets.l0, if_pos (by omega), siSets_val c (fr + (i : Int)) (by omega), Option.bind_some, w64p (by omega) (by omega)]
    have e1 : (((allSets c.toNat []).filter (hasProd (fr + (i : Int)))).length : Int) = (lotCount c.toNat fr i : Int) := rfl
    have e2 : fr + (i : Int) + 1 = fr + ((i + 1 : Nat) : Int) := by omega
    have e3 : mostAt (lotCount c.toNat fr) (i + 1) = if lotCount c.toNat fr (mostAt (lotCount c.toNat fr) i) < lotCount c.toNat fr i then i else mostAt (lotCount c.toNat fr) i := rfl
    rw [e1, e2, if_neg (show ¬ i + 1 = 0 by omega), e3]
    by_cases h0 : i = 0
    · subst h0
      rw [if_pos rfl, if_pos (by omega)]
      have e4 : mostAt (lotCount c.toNat fr) 0 = 0 := rfl
      rw [e4, if_neg (Nat.lt_irrefl _)]
    · rw [if_neg h0]
      by_cases hlt : lotCount c.toNat fr (mostAt (lotCount c.toNat fr) i) < lotCount c.toNat fr i
      · rw [if_pos hlt, if_pos (by omega)]
      · rw [if_neg hlt, if_neg (by omega)]
theorem ev_MostSets (c fr tt : Int) : Ev (fun k => spec_MostSets.f k c fr tt) (if lotsOk c fr tt = true then (fr + ((mostAt (lotCount c.toNat fr) (tt - fr + 1).toNat : Nat) : Int), (lotCount c.toNat fr (mostAt (lotCount c.toNat fr) (tt - fr + 1).toNat) : Int), true) else (0, 0, false)) := by
  unfold spec_MostSets.f
  rw [siRange_val]
  simp only [Option.bind_some]
  cases hp : lotsOk c fr tt with
  | false =>
    simp only [Bool.false_eq_true, if_false]
    exact Ev.now _
  | true =>
    simp only [if_true]
    have hk : 1 ≤ c ∧ c ≤ 4 ∧ 1 ≤ fr ∧ fr ≤ 160000 ∧ fr ≤ tt ∧ tt ≤ 160000 := by
      unfold lotsOk at hp
      simp only [Bool.and_eq_true, decide_eq_true_eq] at hp
      omega
    have h := most_loop c fr tt (tt - fr + 1).toNat (by omega) (by omega) (by omega) (by omega) _ 0 rfl (Nat.zero_le _)
    rw [if_pos rfl, if_neg (show ¬ (tt - fr + 1).toNat = 0 by omega)] at h
    have e : fr + ((mostAt (lotCount c.toNat fr) 0 : Nat) : Int) = fr := by show fr + ((0 : Nat) : Int) = fr; omega
    have e2 : fr + ((0 : Nat) : Int) = fr := by omega
    rw [e, e2] at h
    exact h

theorem impl_Most_val (c fr tt : Int) : impl_MostSets.f c fr tt = some (if lotsOk c fr tt = true then (fr + ((mostAt (lotCount c.toNat fr) (tt - fr + 1).toNat : Nat) : Int), (lotCount c.toNat fr (mostAt (lotCount c.toNat fr) (tt - fr + 1).toNat) : Int), true) else (0, 0, false)) := by
  unfold impl_MostSets.f
  cases lotsOk c fr tt <;> rfl
theorem mostAt_most (f : Nat → Nat) : ∀ N i : Nat, i < N → f i ≤ f (mostAt f N) ∧ (f i = f (mostAt f N) → mostAt f N ≤ i)
  | 0, i, h => absurd h (Nat.not_lt_zero _)
  | N + 1, i, h => by
    have e : mostAt f (N + 1) = if f (mostAt f N) < f N then N else mostAt f N := rfl
    rw [e]
    by_cases hc : f (mostAt f N) < f N
    · rw [if_pos hc]
      by_cases hi : i < N
      · have := (mostAt_most f N i hi).1
        exact ⟨by omega, fun e => by omega⟩
      · obtain rfl : i = N := by omega
        exact ⟨Nat.le_refl _, fun _ => Nat.le_refl _⟩
    · rw [if_neg hc]
      by_cases hi : i < N
      · exact mostAt_most f N i hi
      · obtain rfl : i = N := by omega
        refine ⟨by omega, fun e => ?_⟩
        by_cases h0 : i = 0
        · subst h0; exact Nat.le_refl _
        · exact Nat.le_of_lt (mostAt_lt f i (by omega) i (Nat.le_refl _))
theorem countSets_val (c p : Int) (h : 1 ≤ c ∧ c ≤ 4 ∧ 1 ≤ p ∧ p ≤ 160000) : impl_CountSets.f c p = some ((((allSets c.toNat []).filter (hasProd p)).length : Int), true) := by
  unfold impl_CountSets.f impl_SetsOfProduct.f
  rw [if_pos h]; rfl
end Go.Proofs.YtjfdehjkdbcneaaGreat.Pure
/- Chapter 4, plain: what the laws' own helpers answer. No condition beyond those typed at each lemma. -/
namespace Go.Proofs.YtjfdehjkdbcneaaGreat.Pure
open Go.RowKit Go.Proofs.YtjfdehjkdbcneaaGreat.E Go.Proofs.YtjfdehjkdbcneaaGreatW.PrintWords Go.Proofs.YtjfdehjkdbcneaaGreatW.PrintLast
set_option linter.unusedVariables false
set_option linter.unusedSimpArgs false

theorem qSame_loop (a b : List Int) (hl : a.length = b.length) (hn : a.length ≤ 1000000) (d : Nat) : ∀ i : Nat, a.length - i = d → i ≤ a.length → Ev (fun k => laws_qSame.l0 k a b (a.length : Int) (i : Int)) (decide (a.drop i = b.drop i)) := by
  induction d with
  | zero =>
    intro i hd hi
    obtain rfl : i = a.length := by omega
    rw [List.drop_of_length_le (Nat.le_refl _), List.drop_of_length_le (by omega)]
    exact Ev.step (f := fun _ => some true) (fun k => by rw [laws_qSame.l0, if_neg (by omega)]) (Ev.now _)
  | succ d ih =>
    intro i hd hi
    have hlt : i < a.length := by omega
    have hlt2 : i < b.length := by omega
    have e1 : wrap64 ((i : Int) + 1) = ((i + 1 : Nat) : Int) := w_succ i a.length hlt (by omega)
    have ih1 := ih (i + 1) (by omega) (by omega)
    rw [drop_rd a i hlt, drop_rd b i hlt2]
    by_cases e : rd a (i : Int) = rd b (i : Int)
    · rw [e]
      have : decide (rd b (i : Int) :: a.drop (i + 1) = rd b (i : Int) :: b.drop (i + 1)) = decide (a.drop (i + 1) = b.drop (i + 1)) := by
        congr 1; simp
      rw [this]
      exact Ev.step (fun k => by rw [laws_qSame.l0, if_pos (by omega), if_pos (by omega), if_pos (by omega), if_pos (by omega), if_pos e, e1]) ih1
    · rw [decide_eq_false (fun h => e (List.cons.inj h).1)]
      exact Ev.step (f := fun _ => some false) (fun k => by rw [laws_qSame.l0, if_pos (by omega), if_pos (by omega), if_pos (by omega), if_pos (by omega), if_neg e]) (Ev.now _)
theorem ev_qSame (a b : List Int) (hn : a.length ≤ 1000000) : Ev (fun k => laws_qSame.f k a b) (decide (a = b)) := by
  unfold laws_qSame.f
  by_cases h : a.length = b.length
  · simp only [if_pos (show (a.length : Int) = (b.length : Int) by omega)]
    have := qSame_loop a b h hn a.length 0 (by omega) (by omega)
    simpa using this
  · simp only [if_neg (show ¬ (a.length : Int) = (b.length : Int) by omega)]
    rw [decide_eq_false (fun e => h (by rw [e]))]
    exact Ev.now _
theorem ev_qSame_self (a : List Int) (hn : a.length ≤ 1000000) : Ev (fun k => laws_qSame.f k a a) true := by
  have := ev_qSame a a hn
  rwa [decide_eq_true rfl] at this
theorem rowAt (xs : List (List Int)) (i : Nat) (h : i < xs.length) : rd_L2 xs (i : Int) = xs[i] := by
  simp [rd_L2, List.getD, List.getElem?_eq_getElem h]
theorem qRows_loop (xs : List (List Int)) (hn : xs.length ≤ 1000000) (hr : ∀ x ∈ xs, x.length ≤ 1000000) (d : Nat) : ∀ i : Nat, xs.length - i = d → i ≤ xs.length → Ev (fun k => laws_qRows.l0 k xs xs (xs.length : Int) (i : Int)) true := by
  induction d with
  | zero =>
    intro i hd hi
    exact Ev.step (f := fun _ => some true) (fun k => by rw [laws_qRows.l0, if_neg (by omega)]) (Ev.now _)
  | succ d ih =>
    intro i hd hi
    have hlt : i < xs.length := by omega
    have e1 : wrap64 ((i : Int) + 1) = ((i + 1 : Nat) : Int) := w_succ i xs.length hlt (by omega)
    refine Ev.step (fun k => by rw [laws_qRows.l0, if_pos (by omega), if_pos (by omega), if_pos (by omega), if_pos (by omega), rowAt xs i hlt]) ?_
    refine Ev.bind (ev_qSame_self xs[i] (hr _ (List.getElem_mem hlt))) ?_
    simp only [if_true, e1]
    exact ih (i + 1) (by omega) (by omega)
theorem ev_qRows (xs : List (List Int)) (hn : xs.length ≤ 1000000) (hr : ∀ x ∈ xs, x.length ≤ 1000000) : Ev (fun k => laws_qRows.f k xs xs) true := by
  unfold laws_qRows.f
  simp only [if_true]
  exact qRows_loop xs hn hr xs.length 0 (by omega) (by omega)
theorem qRises_loop (l : List Int) (hn : l.length ≤ 1000000) (hp : l.Pairwise (· < ·)) (d : Nat) : ∀ i : Nat, l.length - i = d → 1 ≤ i → Ev (fun k => laws_qRises.l0 k l (i : Int)) true := by
  induction d with
  | zero =>
    intro i hd hi
    exact Ev.step (f := fun _ => some true) (fun k => by rw [laws_qRises.l0, if_neg (by omega)]) (Ev.now _)
  | succ d ih =>
    intro i hd hi
    have hlt : i < l.length := by omega
    have e1 : wrap64 ((i : Int) + 1) = ((i + 1 : Nat) : Int) := w_succ i l.length hlt (by omega)
    have e2 : wrap64 ((i : Int) - 1) = ((i - 1 : Nat) : Int) := by rw [w64 (by omega) (by omega)]; omega
    have h := List.pairwise_iff_getElem.1 hp (i - 1) i (by omega) hlt (by omega)
    rw [← rd_at l i hlt, ← rd_at l (i - 1) (by omega)] at h
    exact Ev.step (fun k => by rw [laws_qRises.l0, e2, e1, if_pos (by omega), if_pos (by omega), if_pos (by omega), if_pos (by omega), if_neg (by omega)]) (ih (i + 1) (by omega) (by omega))
theorem ev_qRises (l : List Int) (hn : l.length ≤ 1000000) (hp : l.Pairwise (· < ·)) : Ev (fun k => laws_qRises.f k l) true :=
  qRises_loop l hn hp (l.length - 1) 1 rfl (by omega)
/-- One list is before another one, where they first differ. -/
def LexP (a b : List Int) : Prop := ∃ i : Nat, i < a.length ∧ i < b.length ∧ (∀ j : Nat, j < i → rd a (j : Int) = rd b (j : Int)) ∧ rd a (i : Int) < rd b (i : Int)
theorem qBefore_loop (a b : List Int) (hn : a.length ≤ 1000000) (i : Nat) (h1 : i < a.length) (h2 : i < b.length) (h3 : ∀ j : Nat, j < i → rd a (j : Int) = rd b (j : Int)) (h4 : rd a (i : Int) < rd b (i : Int)) (d : Nat) : ∀ j : Nat, i - j = d → j ≤ i → Ev (fun k => laws_qBefore.l0 k a b a (a.length : Int) (j : Int)) true := by
  induction d with
  | zero =>
    intro j hd hj
    obtain rfl : j = i := by omega
    exact Ev.step (f := fun _ => some true) (fun k => by rw [laws_qBefore.l0, if_pos (by omega), if_pos (by omega), if_pos (by omega), if_neg (by omega), if_pos (by omega), if_neg (by omega), decide_eq_true h4]) (Ev.now _)
  | succ d ih =>
    intro j hd hj
    have hlt : j < a.length := by omega
    have e1 : wrap64 ((j : Int) + 1) = ((j + 1 : Nat) : Int) := w_succ j a.length hlt (by omega)
    exact Ev.step (fun k => by rw [laws_qBefore.l0, if_pos (by omega), if_pos (by omega), if_pos (by omega), if_neg (by omega), if_pos (by omega), if_pos (h3 j (by omega)), e1]) (ih (j + 1) (by omega) (by omega))
theorem ev_qBefore (a b : List Int) (hn : a.length ≤ 1000000) (h : LexP a b) : Ev (fun k => laws_qBefore.f k a b) true := by
  obtain ⟨i, h1, h2, h3, h4⟩ := h
  exact qBefore_loop a b hn i h1 h2 h3 h4 i 0 (by omega) (by omega)
theorem qOrdered_loop (xs : List (List Int)) (hn : xs.length ≤ 1000000) (hr : ∀ x ∈ xs, x.length ≤ 1000000) (hp : xs.Pairwise LexP) (d : Nat) : ∀ i : Nat, xs.length - i = d → 1 ≤ i → Ev (fun k => laws_qOrdered.l0 k xs (i : Int)) true := by
  induction d with
  | zero =>
    intro i hd hi
    exact Ev.step (f := fun _ => some true) (fun k => by rw [laws_qOrdered.l0, if_neg (by omega)]) (Ev.now _)
  | succ d ih =>
    intro i hd hi
    have hlt : i < xs.length := by omega
    have hlt1 : i - 1 < xs.length := by omega
    have e1 : wrap64 ((i : Int) + 1) = ((i + 1 : Nat) : Int) := w_succ i xs.length hlt (by omega)
    have e2 : wrap64 ((i : Int) - 1) = ((i - 1 : Nat) : Int) := by rw [w64 (by omega) (by omega)]; omega
    have h := List.pairwise_iff_getElem.1 hp (i - 1) i hlt1 hlt (by omega)
    refine Ev.step (fun k => by rw [laws_qOrdered.l0, e2, e1, if_pos (by omega), if_pos (by omega), if_pos (by omega), if_pos (by omega), rowAt xs i hlt, rowAt xs (i - 1) hlt1]) ?_
    refine Ev.bind (ev_qBefore _ _ (hr _ (List.getElem_mem hlt1)) h) ?_
    simp only [if_true]
    exact ih (i + 1) (by omega) (by omega)
theorem ev_qOrdered (xs : List (List Int)) (hn : xs.length ≤ 1000000) (hr : ∀ x ∈ xs, x.length ≤ 1000000) (hp : xs.Pairwise LexP) : Ev (fun k => laws_qOrdered.f k xs) true :=
  qOrdered_loop xs hn hr hp (xs.length - 1) 1 rfl (by omega)
theorem sumL_cons (a : Int) (l : List Int) (acc : Int) : (a :: l).foldl (· + ·) acc = l.foldl (· + ·) (acc + a) := rfl
theorem qSum_loop (l : List Int) (ha : Ages l) (h4 : l.length ≤ 4) (d : Nat) : ∀ (i : Nat) (acc : Int), l.length - i = d → i ≤ l.length → 0 ≤ acc → acc ≤ 100 * (i : Int) → Ev (fun k => laws_qSum.l0 k acc l (l.length : Int) (i : Int)) ((l.drop i).foldl (· + ·) acc) := by
  induction d with
  | zero =>
    intro i acc hd hi h0 h1
    rw [List.drop_of_length_le (by omega)]
    exact Ev.step (f := fun _ => some acc) (fun k => by rw [laws_qSum.l0, if_neg (by omega)]) (Ev.now _)
  | succ d ih =>
    intro i acc hd hi h0 h1
    have hlt : i < l.length := by omega
    have e1 : wrap64 ((i : Int) + 1) = ((i + 1 : Nat) : Int) := w_succ i l.length hlt (by omega)
    have hb := ha _ (List.getElem_mem hlt)
    rw [← rd_at l i hlt] at hb
    have e2 : wrap64 (acc + rd l (i : Int)) = acc + rd l (i : Int) := w64 (by omega) (by omega)
    rw [drop_rd l i hlt, List.foldl_cons]
    exact Ev.step (fun k => by rw [laws_qSum.l0, if_pos (by omega), if_pos (by omega), if_pos (by omega), e1, e2]) (ih (i + 1) _ (by omega) (by omega) (by omega) (by omega))
theorem ev_qSum (l : List Int) (ha : Ages l) (h4 : l.length ≤ 4) : Ev (fun k => laws_qSum.f k l) (sumL l) := by
  have := qSum_loop l ha h4 l.length 0 0 (by omega) (by omega) (by omega) (by omega)
  exact this
theorem qHas_loop (l : List Int) (v : Int) (hn : l.length ≤ 1000000) (d : Nat) : ∀ i : Nat, l.length - i = d → i ≤ l.length → Ev (fun k => laws_qHas.l0 k v l (l.length : Int) (i : Int)) (decide (v ∈ l.drop i)) := by
  induction d with
  | zero =>
    intro i hd hi
    rw [List.drop_of_length_le (by omega)]
    exact Ev.step (f := fun _ => some false) (fun k => by rw [laws_qHas.l0, if_neg (by omega)]) (Ev.now _)
  | succ d ih =>
    intro i hd hi
    have hlt : i < l.length := by omega
    have e1 : wrap64 ((i : Int) + 1) = ((i + 1 : Nat) : Int) := w_succ i l.length hlt (by omega)
    have ih1 := ih (i + 1) (by omega) (by omega)
    rw [drop_rd l i hlt]
    by_cases e : rd l (i : Int) = v
    · rw [decide_eq_true (by rw [e]; exact List.mem_cons_self)]
      exact Ev.step (f := fun _ => some true) (fun k => by rw [laws_qHas.l0, if_pos (by omega), if_pos (by omega), if_pos (by omega), if_pos e]) (Ev.now _)
    · have : decide (v ∈ rd l (i : Int) :: l.drop (i + 1)) = decide (v ∈ l.drop (i + 1)) := by
        congr 1
        rw [List.mem_cons, eq_iff_iff]
        exact ⟨fun h => h.resolve_left (fun h => e h.symm), Or.inr⟩
      rw [this]
      exact Ev.step (fun k => by rw [laws_qHas.l0, if_pos (by omega), if_pos (by omega), if_pos (by omega), if_neg e, e1]) ih1
theorem ev_qHas (l : List Int) (v : Int) (hn : l.length ≤ 1000000) : Ev (fun k => laws_qHas.f k l v) (decide (v ∈ l)) := by
  have := qHas_loop l v hn l.length 0 (by omega) (by omega)
  exact this
theorem qHasRow_loop (xs : List (List Int)) (v : List Int) (hn : xs.length ≤ 1000000) (hr : ∀ x ∈ xs, x.length ≤ 1000000) (d : Nat) : ∀ i : Nat, xs.length - i = d → i ≤ xs.length → Ev (fun k => laws_qHasRow.l0 k v xs (xs.length : Int) (i : Int)) (decide (v ∈ xs.drop i)) := by
  induction d with
  | zero =>
    intro i hd hi
    rw [List.drop_of_length_le (by omega)]
    exact Ev.step (f := fun _ => some false) (fun k => by rw [laws_qHasRow.l0, if_neg (by omega)]) (Ev.now _)
  | succ d ih =>
    intro i hd hi
    have hlt : i < xs.length := by omega
    have e1 : wrap64 ((i : Int) + 1) = ((i + 1 : Nat) : Int) := w_succ i xs.length hlt (by omega)
    have ih1 := ih (i + 1) (by omega) (by omega)
    rw [List.drop_eq_getElem_cons hlt]
    refine Ev.step (fun k => by rw [laws_qHasRow.l0, if_pos (by omega), if_pos (by omega), if_pos (by omega), rowAt xs i hlt]) ?_
    refine Ev.bind (ev_qSame xs[i] v (hr _ (List.getElem_mem hlt))) ?_
    by_cases e : xs[i] = v
    · rw [decide_eq_true e, decide_eq_true (by rw [e]; exact List.mem_cons_self)]
      simp only [if_true]
      exact Ev.now _
    · have : decide (v ∈ xs[i] :: xs.drop (i + 1)) = decide (v ∈ xs.drop (i + 1)) := by
        congr 1
        rw [List.mem_cons, eq_iff_iff]
        exact ⟨fun h => h.resolve_left (fun h => e h.symm), Or.inr⟩
      rw [this, decide_eq_false e]
      simp only [Bool.false_eq_true, if_false, e1]
      exact ih1
theorem ev_qHasRow (xs : List (List Int)) (v : List Int) (hn : xs.length ≤ 1000000) (hr : ∀ x ∈ xs, x.length ≤ 1000000) : Ev (fun k => laws_qHasRow.f k xs v) (decide (v ∈ xs)) := by
  have := qHasRow_loop xs v hn hr xs.length 0 (by omega) (by omega)
  exact this
/-- So many rounds serve for all of a list. -/
theorem ev_each {α β : Type} (g : α → Nat → Option β) (r : α → β) : ∀ xs : List α, (∀ x ∈ xs, Ev (g x) (r x)) → ∃ K, ∀ k, K ≤ k → ∀ x ∈ xs, g x k = some (r x)
  | [], _ => ⟨0, fun _ _ x hx => absurd hx List.not_mem_nil⟩
  | y :: ys, h => by
    obtain ⟨K1, h1⟩ := h y List.mem_cons_self
    obtain ⟨K2, h2⟩ := ev_each g r ys (fun x hx => h x (List.mem_cons_of_mem _ hx))
    refine ⟨max K1 K2, fun k hk x hx => ?_⟩
    rcases List.mem_cons.1 hx with rfl | hx
    · exact h1 k (by omega)
    · exact h2 k (by omega) x hx
end Go.Proofs.YtjfdehjkdbcneaaGreat.Pure
/- Chapter 4, plain: the set that comes next. No condition beyond those typed at each lemma. -/
namespace Go.Proofs.YtjfdehjkdbcneaaGreat.Pure
open Go.RowKit Go.Proofs.YtjfdehjkdbcneaaGreat.E Go.Proofs.YtjfdehjkdbcneaaGreatW.PrintWords Go.Proofs.YtjfdehjkdbcneaaGreatW.PrintLast
set_option linter.unusedVariables false
set_option linter.unusedSimpArgs false

def nextV (l : List Int) (i : Nat) : List Int := l.take i ++ List.replicate (l.length - i) (rd l (i : Int) + 1)
theorem nextS_loop (l : List Int) (h4 : l.length ≤ 4) (i : Nat) (hi : i < l.length) (hv : -100 ≤ rd l (i : Int) ∧ rd l (i : Int) ≤ 100) (d : Nat) : ∀ (j : Nat), l.length - (i + j) = d → i + j ≤ l.length →
    Ev (fun k => spec_NextSet.l1 k l (i : Int) (l.take i ++ List.replicate j (rd l (i : Int) + 1))) (nextV l i, true) := by
  induction d with
  | zero =>
    intro j hd hj
    have e : j = l.length - i := by omega
    subst e
    refine Ev.step (f := fun _ => some (nextV l i, true)) (fun k => ?_) (Ev.now _)
    rw [spec_NextSet.l1, if_neg (by simp; omega)]
    rfl
  | succ d ih =>
    intro j hd hj
    refine Ev.step (fun k => ?_) (ih (j + 1) (by omega) (by omega))
    rw [spec_NextSet.l1, if_pos (by simp; omega), if_pos (by omega), if_pos (by omega), if_pos (by simp; omega), w64 (by omega) (by omega), List.append_assoc, ← List.replicate_succ']
theorem nextI_loop (l xs : List Int) (h4 : l.length ≤ 4) (i : Nat) (v : Int) (hx : xs.length = l.length) (hi : i < l.length) (hv : rd xs (i : Int) = v) (d : Nat) : ∀ (j : Nat) (ys : List Int), l.length - j = d → i < j → j ≤ l.length → ys.length = l.length → (∀ m, m < i → ys[m]? = xs[m]?) → (∀ m, i ≤ m → m < j → ys[m]? = some v) →
    ∃ zs, Ev (fun k => impl_NextSet.l1 k ys (i : Int) (j : Int)) (zs, true) ∧ zs.length = l.length ∧ (∀ m, m < i → zs[m]? = xs[m]?) ∧ ∀ m, i ≤ m → m < l.length → zs[m]? = some v := by
  induction d with
  | zero =>
    intro j ys hd h1 h2 hy ha hb
    exact ⟨ys, Ev.step (f := fun _ => some (ys, true)) (fun k => by rw [impl_NextSet.l1, if_neg (by omega)]) (Ev.now _), hy, ha, fun m g1 g2 => hb m g1 (by omega)⟩
  | succ d ih =>
    intro j ys hd h1 h2 hy ha hb
    have hr : rd ys (i : Int) = v := by
      have := hb i (Nat.le_refl _) h1
      simp [rd, List.getD_eq_getElem?_getD, this]
    obtain ⟨zs, hz, hl, h3, h5⟩ := ih (j + 1) (ys.set j v) (by omega) (by omega) (by omega) (by simpa using hy)
      (fun m hm => by rw [List.getElem?_set, if_neg (by omega)]; exact ha m hm)
      (fun m g1 g2 => by
        rw [List.getElem?_set]
        by_cases e : j = m
        · rw [if_pos e, if_pos (by omega)]
        · rw [if_neg e]; exact hb m g1 (by omega))
    refine ⟨zs, Ev.step (fun k => ?_) hz, hl, h3, h5⟩
    rw [impl_NextSet.l1, if_pos (by omega), if_pos (by omega), if_pos (by omega), if_pos (by omega), hr, w_succ j l.length (by omega) (by omega)]
    rfl
theorem next_eq (l zs : List Int) (i : Nat) (hi : i < l.length) (hl : zs.length = l.length) (h3 : ∀ m, m < i → zs[m]? = l[m]?) (h5 : ∀ m, i ≤ m → m < l.length → zs[m]? = some (rd l (i : Int) + 1)) : zs = nextV l i := by
  apply List.ext_getElem?
  intro m
  unfold nextV
  by_cases h1 : m < i
  · rw [h3 m h1, List.getElem?_append_left (by simp; omega), List.getElem?_take, if_pos h1]
  · by_cases h2 : m < l.length
    · rw [h5 m (by omega) h2, List.getElem?_append_right (by simp; omega), List.getElem?_replicate, if_pos (by simp; omega)]
    · rw [List.getElem?_eq_none (by omega), List.getElem?_eq_none (by simp; omega)]
/-- What comes next: one older at the last place that can be, and as old behind. -/
def NextIs (l : List Int) (r : List Int × Bool) : Prop := r = ([], false) ∨ ∃ p : Nat, p < l.length ∧ rd l (p : Int) ≠ 20 ∧ (∀ j : Nat, p < j → j < l.length → rd l (j : Int) = 20) ∧ r = (nextV l p, true)
theorem next_loops (l : List Int) (h4 : l.length ≤ 4) (hx : ∀ x ∈ l, 1 ≤ x ∧ x ≤ 20) : ∀ i : Nat, i ≤ l.length → (∀ j : Nat, i ≤ j → j < l.length → rd l (j : Int) = 20) → ∃ r, Ev (fun k => spec_NextSet.l0 k l ((i : Int) - 1)) r ∧ Ev (fun k => impl_NextSet.l0 k l ((i : Int) - 1)) r ∧ NextIs l r := by
  intro i
  induction i with
  | zero =>
    intro hi h20
    refine ⟨([], false), ?_, ?_, .inl rfl⟩
    · refine Ev.step (fun k => by rw [spec_NextSet.l0, if_neg (by omega)]) ?_
      exact Ev.step (f := fun _ => some ([], false)) (fun k => by rw [spec_NextSet.j1, if_pos (by omega)]) (Ev.now _)
    · exact Ev.step (f := fun _ => some ([], false)) (fun k => by rw [impl_NextSet.l0, if_neg (by omega)]) (Ev.now _)
  | succ i ih =>
    intro hi h20
    have e0 : (((i + 1 : Nat) : Int) - 1) = (i : Int) := by omega
    rw [e0]
    have hlt : i < l.length := by omega
    have hr := hx _ (List.getElem_mem hlt)
    rw [← rd_at l i hlt] at hr
    have e1 : wrap64 ((i : Int) - 1) = (i : Int) - 1 := w64 (by omega) (by omega)
    by_cases e : rd l (i : Int) = 20
    · obtain ⟨r, h1, h2, h3⟩ := ih (by omega) (fun j j1 j2 => by
        by_cases ej : j = i
        · rw [ej]; exact e
        · exact h20 j (by omega) j2)
      exact ⟨r, Ev.step (fun k => by rw [spec_NextSet.l0, if_pos (by omega), if_pos (by omega), if_pos (by omega), if_pos e, e1]) h1, Ev.step (fun k => by rw [impl_NextSet.l0, if_pos (by omega), if_pos (by omega), if_pos (by omega), if_pos e, e1]) h2, h3⟩
    · refine ⟨(nextV l i, true), ?_, ?_, .inr ⟨i, hlt, e, fun j j1 j2 => h20 j (by omega) j2, rfl⟩⟩
      · refine Ev.step (fun k => by rw [spec_NextSet.l0, if_pos (by omega), if_pos (by omega), if_pos (by omega), if_neg e]) ?_
        refine Ev.step (fun k => by rw [spec_NextSet.j1, if_neg (by omega), if_pos (by omega), if_pos (by omega)]) ?_
        have hown : spec_l1Own.f (l.take (i : Int).toNat) = some (l.take i) := by
          unfold spec_l1Own.f
          simp only [Option.bind_some, Int.toNat_natCast]
          rw [if_pos (by simp; omega), List.nil_append]
        rw [hown]
        simp only [Option.bind_some]
        have := nextS_loop l h4 i hlt (by omega) (l.length - i) 0 (by omega) (by omega)
        rw [List.replicate_zero, List.append_nil] at this
        exact this
      · refine Ev.step (fun k => by rw [impl_NextSet.l0, if_pos (by omega), if_pos (by omega), if_pos (by omega), if_neg e, w64 (x := rd l (i : Int) + 1) (by omega) (by omega), w_succ i l.length hlt (by omega)]) ?_
        have hset : ∀ m, (l.set i (rd l (i : Int) + 1))[m]? = if i = m then (if i < l.length then some (rd l (i : Int) + 1) else none) else l[m]? := fun m => List.getElem?_set
        obtain ⟨zs, hz, hzl, g3, g5⟩ := nextI_loop l (l.set i (rd l (i : Int) + 1)) h4 i (rd l (i : Int) + 1) (by simp) hlt (by simp [rd, List.getD_eq_getElem?_getD, hlt]) (l.length - (i + 1)) (i + 1) (l.set i (rd l (i : Int) + 1)) (by omega) (by omega) (by omega) (by simp) (fun _ _ => rfl)
          (fun m q1 q2 => by have : m = i := by omega
                             subst this
                             rw [hset, if_pos rfl, if_pos hlt])
        have hv := next_eq l zs i hlt hzl (fun m hm => by rw [g3 m hm, hset, if_neg (by omega)]) g5
        subst hv
        exact hz
theorem both_Next (l : List Int) (hn : l.length ≤ 9223372036854775807) : ∃ r, Ev (fun k => spec_NextSet.f k l) r ∧ Ev (fun k => impl_NextSet.f k l) r ∧ NextIs l r ∧ (r.2 = true → SetP l) := by
  obtain ⟨b, h1, h2, hiff⟩ := ev_set l hn
  unfold spec_NextSet.f impl_NextSet.f
  cases b with
  | false =>
    refine ⟨([], false), Ev.bind h1 ?_, Ev.bind h2 ?_, .inl rfl, fun h => by cases h⟩
    · simp only [Bool.false_eq_true, if_false]; exact Ev.now _
    · simp only [Bool.false_eq_true, if_false]; exact Ev.now _
  | true =>
    have hp := hiff.1 rfl
    have h4 := hp.1.2
    obtain ⟨r, g1, g2, g3⟩ := next_loops l h4 hp.2.1 l.length (Nat.le_refl _) (fun j j1 j2 => by omega)
    have e1 : wrap64 ((l.length : Int) - 1) = (l.length : Int) - 1 := w64 (by omega) (by omega)
    refine ⟨r, Ev.bind h1 ?_, Ev.bind h2 ?_, g3, fun _ => hp⟩
    · simp only [if_true]; rw [e1]; exact g1
    · simp only [if_true]
      have hc : slices_Clone_int_int.f l = some l := by unfold slices_Clone_int_int.f; rw [if_pos (by omega)]
      rw [hc]
      simp only [Option.bind_some]
      rw [e1]; exact g2
theorem nextV_len (l : List Int) (p : Nat) (hp : p < l.length) : (nextV l p).length = l.length := by simp [nextV]; omega
theorem nextV_lo (l : List Int) (p j : Nat) (hp : p < l.length) (hj : j < p) : rd (nextV l p) (j : Int) = rd l (j : Int) := by
  have : (l.take p).length = p := by rw [List.length_take]; omega
  have h1 : (nextV l p)[j]? = l[j]? := by
    unfold nextV
    rw [List.getElem?_append_left (by omega), List.getElem?_take, if_pos hj]
  simp only [rd, List.getD_eq_getElem?_getD, Int.toNat_natCast, h1]
theorem nextV_hi (l : List Int) (p j : Nat) (hp : p ≤ j) (hj : j < l.length) : rd (nextV l p) (j : Int) = rd l (p : Int) + 1 := by
  have : (l.take p).length = p := by rw [List.length_take]; omega
  have h1 : (nextV l p)[j]? = some (rd l (p : Int) + 1) := by
    unfold nextV
    rw [List.getElem?_append_right (by omega), this, List.getElem?_replicate, if_pos (by omega)]
  have : rd (nextV l p) (j : Int) = ((nextV l p)[j]?).getD 0 := by simp [rd, List.getD_eq_getElem?_getD]
  rw [this, h1]; rfl
theorem nextV_take (l : List Int) (p : Nat) (hp : p < l.length) : (nextV l p).take p = l.take p := by
  have : (l.take p).length = p := by rw [List.length_take]; omega
  unfold nextV
  rw [List.take_append_of_le_length (by omega), List.take_take, Nat.min_self]
theorem mem_rd_ (l : List Int) (x : Int) (h : x ∈ l) : ∃ j : Nat, j < l.length ∧ rd l (j : Int) = x := by
  obtain ⟨j, hj, e⟩ := List.getElem_of_mem h
  exact ⟨j, hj, by rw [rd_at l j hj]; exact e⟩
theorem nextV_set (l : List Int) (hs : SetP l) (p : Nat) (hp : p < l.length) (h20 : rd l (p : Int) ≠ 20) : SetP (nextV l p) := by
  have hb : ∀ j : Nat, j < l.length → 1 ≤ rd l (j : Int) ∧ rd l (j : Int) ≤ 20 := fun j hj => by rw [rd_at l j hj]; exact hs.2.1 _ (List.getElem_mem hj)
  have h1 := hb p hp
  refine ⟨by rw [nextV_len l p hp]; exact hs.1, fun x hx => ?_, fun j j1 j2 => ?_⟩
  · obtain ⟨j, hj, rfl⟩ := mem_rd_ _ _ hx
    rw [nextV_len l p hp] at hj
    by_cases c : j < p
    · rw [nextV_lo l p j hp c]; exact hb j hj
    · rw [nextV_hi l p j (by omega) hj]; omega
  · rw [nextV_len l p hp] at j2
    by_cases c : j < p
    · rw [nextV_lo l p j hp c, nextV_lo l p (j - 1) hp (by omega)]; exact hs.2.2 j j1 j2
    · rw [nextV_hi l p j (by omega) j2]
      by_cases c2 : j - 1 < p
      · rw [nextV_lo l p (j - 1) hp c2]
        have : j = p := by omega
        subst this
        have := hs.2.2 j j1 j2
        omega
      · rw [nextV_hi l p (j - 1) (by omega) (by omega)]; exact Int.le_refl _
theorem nextV_before (l : List Int) (p : Nat) (hp : p < l.length) : LexP l (nextV l p) := by
  refine ⟨p, hp, by rw [nextV_len l p hp]; exact hp, fun j hj => (nextV_lo l p j hp hj).symm, ?_⟩
  rw [nextV_hi l p p (Nat.le_refl _) hp]; omega
end Go.Proofs.YtjfdehjkdbcneaaGreat.Pure
/- Chapter 4, plain: sets of up to four children, within bounds. No condition beyond those typed at each lemma. -/
namespace Go.Proofs.YtjfdehjkdbcneaaGreat.Pure
open Go.RowKit Go.Proofs.YtjfdehjkdbcneaaGreat.E Go.Proofs.YtjfdehjkdbcneaaGreatW.PrintWords Go.Proofs.YtjfdehjkdbcneaaGreatW.PrintLast
set_option linter.unusedVariables false
set_option linter.unusedSimpArgs false

def SetsOk (xs : List (List Int)) : Prop := (∀ x ∈ xs, Ages x ∧ x.length ≤ 4) ∧ xs.length ≤ 200000
theorem row_is (xs : List (List Int)) (i : Nat) (h : i < xs.length) : rd_L2 xs (i : Int) = xs[i] := by
  simp [rd_L2, List.getD, List.getElem?_eq_getElem h]
theorem part_ok (c : Nat) (h : c ≤ 4) (q : List Int → Bool) : SetsOk ((allSets c []).filter q) := by
  refine ⟨fun x hx => ?_, ?_⟩
  · have key : ∀ (n : Nat) (l s : List Int), Ages l → s ∈ allSets n l → Ages s ∧ s.length = l.length + n := by
      intro n
      induction n with
      | zero =>
        intro l s hl hs
        obtain rfl : s = l := by simpa [allSets] using hs
        exact ⟨hl, rfl⟩
      | succ n ih =>
        intro l s hl hs
        have hf := hl.from_
        simp only [allSets, List.mem_flatten, List.mem_map, List.mem_range] at hs
        obtain ⟨_, ⟨i, hi, rfl⟩, hs⟩ := hs
        obtain ⟨h1, h2⟩ := ih _ s (hl.snoc (by omega) (by omega)) hs
        exact ⟨h1, by rw [h2]; simp; omega⟩
    have := key c [] x (fun y hy => by simp at hy) (List.mem_filter.1 hx).1
    exact ⟨this.1, by have := this.2; simp at this; omega⟩
  · have h1 := List.length_filter_le q (allSets c [])
    have h2 := allSets_len c [] (fun x hx => by simp at hx)
    have h3 : 20 ^ c ≤ 20 ^ 4 := Nat.pow_le_pow_right (by omega) h
    omega
end Go.Proofs.YtjfdehjkdbcneaaGreat.Pure
/- Chapter 4, plain: lists in order, each number once. No condition beyond those typed at each lemma. -/
namespace Go.Proofs.YtjfdehjkdbcneaaGreat.Pure
open Go.RowKit Go.Proofs.YtjfdehjkdbcneaaGreat.E Go.Proofs.YtjfdehjkdbcneaaGreatW.PrintWords Go.Proofs.YtjfdehjkdbcneaaGreatW.PrintLast
set_option linter.unusedVariables false
set_option linter.unusedSimpArgs false

theorem strict_eq : ∀ (a b : List Int), a.Pairwise (· < ·) → b.Pairwise (· < ·) → (∀ x, x ∈ a ↔ x ∈ b) → a = b
  | [], [], _, _, _ => rfl
  | [], y :: b, _, _, h => absurd ((h y).2 (List.mem_cons_self ..)) (by simp)
  | x :: a, [], _, _, h => absurd ((h x).1 (List.mem_cons_self ..)) (by simp)
  | x :: a, y :: b, ha, hb, h => by
    obtain ⟨ha1, ha2⟩ := List.pairwise_cons.1 ha
    obtain ⟨hb1, hb2⟩ := List.pairwise_cons.1 hb
    have e : x = y := by
      rcases List.mem_cons.1 ((h x).1 (List.mem_cons_self ..)) with e | hx
      · exact e
      · rcases List.mem_cons.1 ((h y).2 (List.mem_cons_self ..)) with e | hy
        · exact e.symm
        · have h1 := hb1 x hx
          have h2 := ha1 y hy
          omega
    subst e
    rw [strict_eq a b ha2 hb2 (fun z => ?_)]
    constructor
    · intro hz
      rcases List.mem_cons.1 ((h z).1 (List.mem_cons_of_mem _ hz)) with e | hz2
      · have := ha1 z hz; omega
      · exact hz2
    · intro hz
      rcases List.mem_cons.1 ((h z).2 (List.mem_cons_of_mem _ hz)) with e | hz2
      · have := hb1 z hz; omega
      · exact hz2
theorem compactUp (d : Array Int) (hs : ∀ i j, i ≤ j → j < d.size → d[i]! ≤ d[j]!) : ∀ m, m ≤ d.size → (∀ x ∈ Lib.compactUpTo d m, ∃ j, j < m ∧ x = d[j]!) ∧ (∀ j, j < m → d[j]! ∈ Lib.compactUpTo d m) ∧ (Lib.compactUpTo d m).Pairwise (· < ·)
  | 0, _ => ⟨fun x hx => by simp [Lib.compactUpTo] at hx, fun j hj => absurd hj (Nat.not_lt_zero _), by simp [Lib.compactUpTo]⟩
  | m + 1, hm => by
    obtain ⟨h1, h2, h3⟩ := compactUp d hs m (by omega)
    rw [Lib.compactUpTo_succ]
    cases hk : Lib.keeps d m with
    | true =>
      rw [if_pos rfl]
      have hne : m = 0 ∨ d[m]! ≠ d[m - 1]! := of_decide_eq_true hk
      refine ⟨fun x hx => ?_, fun j hj => ?_, ?_⟩
      · rcases List.mem_append.1 hx with hx | hx
        · obtain ⟨j, hj, e⟩ := h1 x hx
          exact ⟨j, by omega, e⟩
        · exact ⟨m, by omega, List.mem_singleton.1 hx⟩
      · by_cases e : j = m
        · subst e; exact List.mem_append_right _ (List.mem_singleton.2 rfl)
        · exact List.mem_append_left _ (h2 j (by omega))
      · refine List.pairwise_append.2 ⟨h3, List.pairwise_singleton _ _, fun x hx y hy => ?_⟩
        obtain ⟨j, hj, e⟩ := h1 x hx
        have e2 := List.mem_singleton.1 hy
        have hle := hs j (m - 1) (by omega) (by omega)
        have hle2 := hs (m - 1) m (by omega) (by omega)
        rw [e, e2]
        rcases hne with h0 | hne
        · omega
        · omega
    | false =>
      rw [if_neg (by simp), List.append_nil]
      have hk2 : ¬ (m = 0 ∨ d[m]! ≠ d[m - 1]!) := of_decide_eq_false hk
      refine ⟨fun x hx => ?_, fun j hj => ?_, h3⟩
      · obtain ⟨j, hj, e⟩ := h1 x hx
        exact ⟨j, by omega, e⟩
      · by_cases e : j = m
        · have hm0 : m ≠ 0 := fun h => hk2 (.inl h)
          have he : d[m]! = d[m - 1]! := Classical.byContradiction fun h => hk2 (.inr h)
          rw [e, he]
          exact h2 (m - 1) (by omega)
        · exact h2 j (by omega)
theorem compact_sorted (l : List Int) (h : l.Pairwise (· ≤ ·)) : (Lib.compact l).Pairwise (· < ·) ∧ ∀ x, x ∈ Lib.compact l ↔ x ∈ l := by
  have hs : ∀ i j, i ≤ j → j < l.toArray.size → l.toArray[i]! ≤ l.toArray[j]! := by
    intro i j hij hj
    have hj2 : j < l.length := by simpa using hj
    have e : ∀ k (hk : k < l.length), l.toArray[k]! = l[k] := fun k hk => by simp [getElem!_pos, hk]
    rw [e i (by omega), e j hj2]
    by_cases he : i = j
    · subst he; exact Int.le_refl _
    · exact List.pairwise_iff_getElem.1 h i j (by omega) hj2 (by omega)
  obtain ⟨h1, h2, h3⟩ := compactUp l.toArray hs l.length (by simp)
  refine ⟨h3, fun x => ⟨fun hx => ?_, fun hx => ?_⟩⟩
  · obtain ⟨j, hj, e⟩ := h1 x hx
    rw [e]
    simp [getElem!_pos, hj]
  · obtain ⟨j, hj, e⟩ := List.mem_iff_getElem.1 hx
    have := h2 j hj
    rwa [show l.toArray[j]! = x by simp [getElem!_pos, hj, e]] at this
theorem distinct_is (l : List Int) : (Lib.compact (l.mergeSort fun x y => decide (x ≤ y))).Pairwise (· < ·) ∧ ∀ x, x ∈ Lib.compact (l.mergeSort fun x y => decide (x ≤ y)) ↔ x ∈ l := by
  have h := List.pairwise_mergeSort (le := fun x y : Int => decide (x ≤ y)) (fun a b c h1 h2 => by simp at *; omega) (fun a b => by simp; omega) l
  have h2 : (l.mergeSort fun x y => decide (x ≤ y)).Pairwise (· ≤ ·) := h.imp (fun h => of_decide_eq_true h)
  obtain ⟨h3, h4⟩ := compact_sorted _ h2
  exact ⟨h3, fun x => (h4 x).trans List.mem_mergeSort⟩
end Go.Proofs.YtjfdehjkdbcneaaGreat.Pure
/- Chapter 4, plain: the sets of a sum whose children are apart are the sets of so many children with that sum and so apart, in order. No condition beyond those typed at each lemma. -/
namespace Go.Proofs.YtjfdehjkdbcneaaGreat.Pure
open Go.RowKit Go.Proofs.YtjfdehjkdbcneaaGreat.E Go.Proofs.YtjfdehjkdbcneaaGreatW.PrintWords Go.Proofs.YtjfdehjkdbcneaaGreatW.PrintLast
set_option linter.unusedVariables false
set_option linter.unusedSimpArgs false

/-- Each number is so far above the one before it. -/
def chainB (ap : Int) : List Int → Bool
  | a :: b :: r => decide (a + ap ≤ b) && chainB ap (b :: r)
  | _ => true
theorem chainB_snoc (ap a : Int) : ∀ l : List Int, chainB ap (l ++ [a]) = (chainB ap l && (decide (l.length = 0) || decide (fromOf l + ap ≤ a)))
  | [] => rfl
  | [x] => by
    show (decide (x + ap ≤ a) && true) = (true && (decide ((1 : Nat) = 0) || decide (fromOf [x] + ap ≤ a)))
    rw [show fromOf [x] = x from rfl]
    simp
  | x :: y :: r => by
    have h := chainB_snoc ap a (y :: r)
    have e : fromOf (x :: y :: r) = fromOf (y :: r) := by simp [fromOf]
    show (decide (x + ap ≤ y) && chainB ap ((y :: r) ++ [a])) = _
    rw [h, e]
    show _ = ((decide (x + ap ≤ y) && chainB ap (y :: r)) && _)
    rw [Bool.and_assoc]
    congr 1
theorem sumL_snoc (l : List Int) (a : Int) : sumL (l ++ [a]) = sumL l + a := by simp [sumL]
theorem mem_allSets (n : Nat) : ∀ (l s : List Int), Ages l → s ∈ allSets n l → sumL l ≤ sumL s ∧ ∀ ap, chainB ap s = true → chainB ap l = true := by
  induction n with
  | zero =>
    intro l s _ hs
    obtain rfl : s = l := by simpa [allSets] using hs
    exact ⟨Int.le_refl _, fun _ h => h⟩
  | succ n ih =>
    intro l s hl hs
    have hf := hl.from_
    simp only [allSets, List.mem_flatten, List.mem_map, List.mem_range] at hs
    obtain ⟨_, ⟨i, hi, rfl⟩, hs⟩ := hs
    obtain ⟨h1, h2⟩ := ih _ s (hl.snoc (by omega) (by omega)) hs
    rw [sumL_snoc] at h1
    refine ⟨by omega, fun ap h => ?_⟩
    have h3 := h2 ap h
    rw [chainB_snoc] at h3
    simp only [Bool.and_eq_true] at h3
    exact h3.1
theorem flat_nil {α : Type} (N : Nat) (g : Nat → List α) (h : ∀ j, j < N → g j = []) : ((List.range N).map g).flatten = [] := by
  induction N with
  | zero => rfl
  | succ N ih =>
    rw [List.range_succ, List.map_append, List.flatten_append, ih (fun j hj => h j (by omega))]
    simp [h N (by omega)]
theorem flat_add {α : Type} (a b : Nat) (g : Nat → List α) : ((List.range (a + b)).map g).flatten = ((List.range a).map g).flatten ++ ((List.range b).map fun i => g (a + i)).flatten := by
  induction b with
  | zero => simp
  | succ b ih =>
    rw [← Nat.add_assoc, List.range_succ, List.map_append, List.flatten_append, ih, List.range_succ, List.map_append, List.flatten_append]
    simp
theorem flat_part {α : Type} (N d m : Nat) (g : Nat → List α) (hm : m = 0 ∨ d + m ≤ N) (h : ∀ j, j < N → (j < d ∨ d + m ≤ j) → g j = []) : ((List.range N).map g).flatten = ((List.range m).map fun i => g (d + i)).flatten := by
  rcases hm with rfl | hm
  · rw [flat_nil N g (fun j hj => h j hj (by omega))]; rfl
  · obtain ⟨r, rfl⟩ : ∃ r, N = d + (m + r) := ⟨N - d - m, by omega⟩
    rw [flat_add, flat_nil d g (fun j hj => h j (by omega) (by omega)), flat_add, flat_nil r _ (fun j hj => h _ (by omega) (by omega))]
    simp
theorem bySum_eq (n : Nat) : ∀ (left : Int) (l : List Int) (ap : Int), Ages l → 0 ≤ ap → chainB ap l = true →
    bySum n left ap l = (allSets n l).filter (fun s => chainB ap s && decide (sumL s = sumL l + left)) := by
  induction n with
  | zero =>
    intro left l ap hl h0 hc
    unfold bySum allSets
    by_cases h : left = 0
    · rw [if_pos h]; simp [hc, h]
    · rw [if_neg h]; simp [hc]; omega
  | succ n ih =>
    intro left l ap hl h0 hc
    have hf := hl.from_
    have hd : ∃ d : Nat, fromA ap l = fromOf l + (d : Int) ∧ ∀ a : Int, fromOf l ≤ a → (chainB ap (l ++ [a]) = true ↔ fromOf l + (d : Int) ≤ a) := by
      unfold fromA
      by_cases hz : l.length = 0
      · refine ⟨0, ?_, fun a ha => ?_⟩
        · rw [if_pos hz, List.eq_nil_of_length_eq_zero hz]; rfl
        · rw [chainB_snoc, hc]; simp [hz]; omega
      · refine ⟨ap.toNat, ?_, fun a ha => ?_⟩
        · rw [if_neg hz]; omega
        · rw [chainB_snoc, hc]
          have hz2 : l ≠ [] := fun e => hz (by rw [e]; rfl)
          simp [hz2]
          have : ((ap.toNat : Nat) : Int) = ap := by omega
          omega
    obtain ⟨d, hA, hch⟩ := hd
    show ((List.range (cntA ap left l)).map _).flatten = _
    rw [show allSets (n + 1) l = ((List.range (21 - fromOf l).toNat).map fun i : Nat => allSets n (l ++ [fromOf l + (i : Int)])).flatten from rfl]
    rw [List.filter_flatten, List.map_map]
    have hcn : cntA ap left l = (min 20 left - fromA ap l + 1).toNat := rfl
    rw [flat_part (21 - fromOf l).toNat d (cntA ap left l) _ (by omega)]
    · congr 1
      apply List.map_congr_left
      intro i hi
      rw [List.mem_range] at hi
      have hle : fromOf l + ((d + i : Nat) : Int) ≤ 20 := by omega
      have e1 : fromA ap l + (i : Int) = fromOf l + ((d + i : Nat) : Int) := by omega
      simp only [Function.comp_apply]
      rw [e1, ih _ _ _ (hl.snoc (by omega) hle) h0 ((hch _ (by omega)).2 (by omega))]
      congr 1
      funext s
      rw [sumL_snoc]
      congr 2
      apply propext
      constructor <;> intro h <;> omega
    · intro j hj hout
      simp only [Function.comp_apply]
      rw [List.filter_eq_nil_iff]
      intro s hs
      have hle : fromOf l + (j : Int) ≤ 20 := by omega
      obtain ⟨h1, h2⟩ := mem_allSets n _ s (hl.snoc (by omega) hle) hs
      rw [sumL_snoc] at h1
      simp only [Bool.and_eq_true, decide_eq_true_eq, not_and]
      intro hcs hss
      have h3 := (hch _ (by omega)).1 (h2 ap hcs)
      omega
/-- All sets are in order. -/
theorem chain0 (n : Nat) : ∀ (l s : List Int), Ages l → chainB 0 l = true → s ∈ allSets n l → chainB 0 s = true := by
  induction n with
  | zero =>
    intro l s _ hc hs
    obtain rfl : s = l := by simpa [allSets] using hs
    exact hc
  | succ n ih =>
    intro l s hl hc hs
    have hf := hl.from_
    simp only [allSets, List.mem_flatten, List.mem_map, List.mem_range] at hs
    obtain ⟨_, ⟨i, hi, rfl⟩, hs⟩ := hs
    refine ih _ s (hl.snoc (by omega) (by omega)) ?_ hs
    rw [chainB_snoc, hc]
    simp
    omega
theorem ages_nil : Ages [] := fun x hx => by simp at hx
theorem bySum_all (n : Nat) (t : Int) : bySum n t 0 [] = (allSets n []).filter (hasSum t) := by
  rw [bySum_eq n t [] 0 ages_nil (by omega) rfl]
  apply List.filter_congr
  intro s hs
  rw [chain0 n [] s ages_nil rfl hs]
  show (true && decide (sumL s = 0 + t)) = decide (sumL s = t)
  rw [Int.zero_add, Bool.true_and]
theorem siSum_val (c s : Int) : spec_siSum.f c s = some (decide (1 ≤ c ∧ c ≤ 4 ∧ 1 ≤ s ∧ s ≤ 80)) := by
  unfold spec_siSum.f
  rw [l1In_val, Option.bind_some]
  by_cases h : 1 ≤ c ∧ c ≤ 4
  · rw [decide_eq_true h, if_pos rfl, l1In_val]; simp [h]
  · rw [decide_eq_false h, if_neg (by simp)]; simp; omega
end Go.Proofs.YtjfdehjkdbcneaaGreat.Pure
/- Chapter 4, plain: the products of sets, gathered, each once, in order. No condition beyond those typed at each lemma. -/
namespace Go.Proofs.YtjfdehjkdbcneaaGreat.Pure
open Go.RowKit Go.Proofs.YtjfdehjkdbcneaaGreat.E Go.Proofs.YtjfdehjkdbcneaaGreatW.PrintWords Go.Proofs.YtjfdehjkdbcneaaGreatW.PrintLast
set_option linter.unusedVariables false
set_option linter.unusedSimpArgs false

theorem has_loop (l : List Int) (v : Int) (hn : l.length ≤ 1000000) (d : Nat) : ∀ i : Nat, l.length - i = d → i ≤ l.length → Ev (fun k => spec_l1Has.l0 k v l (l.length : Int) (i : Int)) ((l.drop i).contains v) := by
  induction d with
  | zero =>
    intro i hd hi
    obtain rfl : i = l.length := by omega
    rw [List.drop_of_length_le (Nat.le_refl _)]
    exact Ev.step (f := fun _ => some false) (fun k => by rw [spec_l1Has.l0, if_neg (by omega)]) (Ev.now _)
  | succ d ih =>
    intro i hd hi
    have hlt : i < l.length := by omega
    have c1 : (i : Int) < (l.length : Int) := Int.ofNat_lt.2 hlt
    have e1 : wrap64 ((i : Int) + 1) = ((i + 1 : Nat) : Int) := w_succ i l.length hlt (by omega)
    have ih1 := ih (i + 1) (by omega) (by omega)
    have hr : rd l (i : Int) = l[i] := by simp [rd, List.getD, List.getElem?_eq_getElem hlt]
    rw [List.drop_eq_getElem_cons hlt, List.contains_cons]
    by_cases e : l[i] = v
    · have : (v == l[i]) = true := beq_iff_eq.2 e.symm
      rw [this, Bool.true_or]
      exact Ev.step (f := fun _ => some true) (fun k => by rw [spec_l1Has.l0, if_pos c1, if_pos (Int.natCast_nonneg i), if_pos c1, hr, if_pos e]) (Ev.now _)
    · have : (v == l[i]) = false := beq_eq_false_iff_ne.2 (fun h => e h.symm)
      rw [this, Bool.false_or]
      exact Ev.step (fun k => by rw [spec_l1Has.l0, if_pos c1, if_pos (Int.natCast_nonneg i), if_pos c1, hr, if_neg e, e1]) ih1
theorem ev_has (l : List Int) (v : Int) (hn : l.length ≤ 1000000) : Ev (fun k => spec_l1Has.f k l v) (l.contains v) := by
  have := has_loop l v hn l.length 0 (by omega) (by omega)
  exact this
/-- A product so far, of so many numbers up to 20. -/
theorem pow_step {a x : Int} {m : Nat} (h1 : 1 ≤ a) (h2 : a ≤ ((20 ^ m : Nat) : Int)) (hx1 : 1 ≤ x) (hx2 : x ≤ 20) : 1 ≤ a * x ∧ a * x ≤ ((20 ^ (m + 1) : Nat) : Int) := by
  have q1 := Int.mul_le_mul h1 hx1 (by omega) (by omega)
  have q2 := Int.mul_le_mul h2 hx2 (by omega) (by omega)
  rw [Nat.pow_succ, Int.natCast_mul]
  exact ⟨by omega, q2⟩
theorem pow_small {m : Nat} (h : m ≤ 4) : 20 ^ m ≤ 160000 := Nat.le_trans (Nat.pow_le_pow_right (by omega) h) (by decide)
theorem l1_loop (x6 : List Int) (x21 : List (List Int)) (n i23 : Int) (s : List Int) (ha : Ages s) (h4 : s.length ≤ 4) (hx : x6.length ≤ 1000000) (r : List Int × Bool) (d : Nat) : ∀ (j : Nat) (a : Int), s.length - j = d → j ≤ s.length → 1 ≤ a → a ≤ ((20 ^ j : Nat) : Int) →
    Ev (fun k => if x6.contains ((s.drop j).foldl (· * ·) a) = true then spec_ProductsOfSum.l0 k x6 x21 n (wrap64 (i23 + 1)) else (if x6.length < 17592186044416 then spec_ProductsOfSum.l0 k (x6 ++ [(s.drop j).foldl (· * ·) a]) x21 n (wrap64 (i23 + 1)) else none)) r →
    Ev (fun k => spec_ProductsOfSum.l1 k x6 a x21 n i23 s (s.length : Int) (j : Int)) r := by
  induction d with
  | zero =>
    intro j a hd hj h1 h2 h
    obtain rfl : j = s.length := by omega
    rw [List.drop_of_length_le (Nat.le_refl _), List.foldl_nil] at h
    exact Ev.step (fun k => by rw [spec_ProductsOfSum.l1, if_neg (by omega)]) (Ev.bind (ev_has x6 a hx) h)
  | succ d ih =>
    intro j a hd hj h1 h2 h
    have hlt : j < s.length := by omega
    have c1 : (j : Int) < (s.length : Int) := Int.ofNat_lt.2 hlt
    have e1 : wrap64 ((j : Int) + 1) = ((j + 1 : Nat) : Int) := w_succ j s.length hlt (by omega)
    have hr : rd s (j : Int) = s[j] := by simp [rd, List.getD, List.getElem?_eq_getElem hlt]
    have hxj := ha s[j] (List.getElem_mem hlt)
    obtain ⟨q1, q2⟩ := pow_step h1 h2 hxj.1 hxj.2
    have q3 := pow_small (m := j + 1) (by omega)
    have e2 : wrap64 (a * s[j]) = a * s[j] := w64 (by omega) (by omega)
    have ih1 := ih (j + 1) (a * s[j]) (by omega) (by omega) q1 q2
    rw [List.drop_eq_getElem_cons hlt, List.foldl_cons] at h
    exact Ev.step (fun k => by rw [spec_ProductsOfSum.l1, if_pos c1, if_pos (Int.natCast_nonneg j), if_pos c1, hr, e1, e2]) (ih1 h)
/-- Each product once, as they come. -/
def once : List Int → List (List Int) → List Int
  | acc, [] => acc
  | acc, s :: xs => once (if acc.contains (prodL s) = true then acc else acc ++ [prodL s]) xs
theorem l0_loop (xs : List (List Int)) (hk : SetsOk xs) (r : List Int × Bool) (d : Nat) : ∀ (i : Nat) (acc : List Int), xs.length - i = d → i ≤ xs.length → acc.length ≤ i → Ev (fun k => spec_ProductsOfSum.l2 k (once acc (xs.drop i)) ((once acc (xs.drop i)).length : Int) 0) r →
    Ev (fun k => spec_ProductsOfSum.l0 k acc xs (xs.length : Int) (i : Int)) r := by
  induction d with
  | zero =>
    intro i acc hd hi hl h
    obtain rfl : i = xs.length := by omega
    rw [List.drop_of_length_le (Nat.le_refl _), once] at h
    exact Ev.step (fun k => by rw [spec_ProductsOfSum.l0, if_neg (by omega)]) h
  | succ d ih =>
    intro i acc hd hi hl h
    have hlt : i < xs.length := by omega
    have hx2 := hk.2
    have c1 : (i : Int) < (xs.length : Int) := Int.ofNat_lt.2 hlt
    have e1 : wrap64 ((i : Int) + 1) = ((i + 1 : Nat) : Int) := w_succ i xs.length hlt (by omega)
    have c2 : acc.length < 17592186044416 := by omega
    have c3 : acc.length ≤ 1000000 := by omega
    obtain ⟨h1, h2⟩ := hk.1 xs[i] (List.getElem_mem hlt)
    have k1 : xs.length - (i + 1) = d := by omega
    have k2 : acc.length ≤ i + 1 := by omega
    have k3 : (acc ++ [prodL xs[i]]).length ≤ i + 1 := by rw [List.length_append, List.length_singleton]; omega
    rw [List.drop_eq_getElem_cons hlt, once] at h
    refine Ev.step (fun k => by rw [spec_ProductsOfSum.l0, if_pos c1, if_pos (Int.natCast_nonneg i), if_pos c1, row_is xs i hlt]) ?_
    refine l1_loop acc xs (xs.length : Int) (i : Int) xs[i] h1 h2 c3 r xs[i].length 0 1 (by omega) (by omega) (by omega) (by decide) ?_
    rw [List.drop_zero, show xs[i].foldl (· * ·) 1 = prodL xs[i] from rfl, e1]
    by_cases e : acc.contains (prodL xs[i]) = true
    · rw [if_pos e] at h
      exact Ev.congr (fun k => by rw [if_pos e]) (ih (i + 1) acc k1 hlt k2 h)
    · rw [if_neg e] at h
      exact Ev.congr (fun k => by rw [if_neg e, if_pos c2]) (ih (i + 1) (acc ++ [prodL xs[i]]) k1 hlt k3 h)
theorem once_mem : ∀ (xs : List (List Int)) (acc : List Int) (v : Int), v ∈ once acc xs ↔ v ∈ acc ∨ ∃ s ∈ xs, prodL s = v
  | [], acc, v => by simp [once]
  | s :: xs, acc, v => by
    rw [once, once_mem xs _ v]
    by_cases e : acc.contains (prodL s) = true
    · rw [if_pos e]
      have hm : prodL s ∈ acc := by simpa using e
      constructor
      · rintro (h | ⟨t, ht, h⟩)
        · exact .inl h
        · exact .inr ⟨t, List.mem_cons_of_mem _ ht, h⟩
      · rintro (h | ⟨t, ht, h⟩)
        · exact .inl h
        · rcases List.mem_cons.1 ht with rfl | ht
          · exact .inl (h ▸ hm)
          · exact .inr ⟨t, ht, h⟩
    · rw [if_neg e, List.mem_append, List.mem_singleton]
      constructor
      · rintro ((h | h) | ⟨t, ht, h⟩)
        · exact .inl h
        · exact .inr ⟨s, List.mem_cons_self .., h.symm⟩
        · exact .inr ⟨t, List.mem_cons_of_mem _ ht, h⟩
      · rintro (h | ⟨t, ht, h⟩)
        · exact .inl (.inl h)
        · rcases List.mem_cons.1 ht with rfl | ht
          · exact .inl (.inr h.symm)
          · exact .inr ⟨t, ht, h⟩
theorem once_nodup : ∀ (xs : List (List Int)) (acc : List Int), acc.Nodup → (once acc xs).Nodup
  | [], acc, h => h
  | s :: xs, acc, h => by
    rw [once]
    refine once_nodup xs _ ?_
    by_cases e : acc.contains (prodL s) = true
    · rw [if_pos e]; exact h
    · rw [if_neg e]
      have hm : ¬ prodL s ∈ acc := by simpa using e
      refine List.nodup_append.2 ⟨h, by simp, fun a ha b hb => ?_⟩
      rw [List.mem_singleton.1 hb]
      exact fun h => hm (h ▸ ha)
theorem once_len : ∀ (xs : List (List Int)) (acc : List Int), (once acc xs).length ≤ acc.length + xs.length
  | [], acc => by simp [once]
  | s :: xs, acc => by
    rw [once, List.length_cons]
    have := once_len xs (if acc.contains (prodL s) = true then acc else acc ++ [prodL s])
    by_cases e : acc.contains (prodL s) = true
    · rw [if_pos e] at this ⊢; omega
    · rw [if_neg e] at this ⊢
      rw [List.length_append, List.length_singleton] at this
      omega
/-! ### the reference's sorting -/
/-- y holds the numbers of L, each at one place; the first i of it are in order. -/
structure Good (L y : List Int) (i : Nat) : Prop where
  len : y.length = L.length
  inj : ∀ a b : Nat, a < y.length → b < y.length → rd y (a : Int) = rd y (b : Int) → a = b
  mem : ∀ v, v ∈ y ↔ v ∈ L
  ord : ∀ a b : Nat, a < b → b < i → rd y (a : Int) ≤ rd y (b : Int)
/-- The first i + 1 are in order but for place j, which is no greater than those behind it. -/
structure Sink (L y : List Int) (i j : Nat) : Prop where
  len : y.length = L.length
  inj : ∀ a b : Nat, a < y.length → b < y.length → rd y (a : Int) = rd y (b : Int) → a = b
  mem : ∀ v, v ∈ y ↔ v ∈ L
  ord : ∀ a b : Nat, a < b → b < i + 1 → a ≠ j → b ≠ j → rd y (a : Int) ≤ rd y (b : Int)
  low : ∀ b : Nat, j < b → b < i + 1 → rd y (j : Int) ≤ rd y (b : Int)
theorem rd_swap (y : List Int) (j : Nat) (hj : j + 1 < y.length) (a : Nat) : rd ((y.set (j + 1) (rd y (j : Int))).set j (rd y ((j + 1 : Nat) : Int))) (a : Int) = if a = j then rd y ((j + 1 : Nat) : Int) else if a = j + 1 then rd y (j : Int) else rd y (a : Int) := by
  by_cases h1 : a = j
  · subst h1
    rw [if_pos rfl, rd_set_eq _ a _ (by rw [List.length_set]; omega)]
  · rw [if_neg h1, rd_set_ne _ j a _ (fun e => h1 e.symm)]
    by_cases h2 : a = j + 1
    · subst h2
      rw [if_pos rfl, rd_set_eq _ _ _ hj]
    · rw [if_neg h2, rd_set_ne _ (j + 1) a _ (fun e => h2 e.symm)]
theorem mem_rd (y : List Int) (v : Int) : v ∈ y ↔ ∃ a : Nat, a < y.length ∧ rd y (a : Int) = v := by
  constructor
  · intro h
    obtain ⟨a, ha, e⟩ := List.mem_iff_getElem.1 h
    exact ⟨a, ha, by simp [rd, List.getD, List.getElem?_eq_getElem ha, e]⟩
  · rintro ⟨a, ha, e⟩
    rw [← e]
    have : rd y (a : Int) = y[a] := by simp [rd, List.getD, List.getElem?_eq_getElem ha]
    rw [this]
    exact List.getElem_mem ha
theorem Sink.swap {L y : List Int} {i j : Nat} (h : Sink L y i (j + 1)) (hi : i < y.length) (hj : j + 1 ≤ i) (hgt : rd y ((j + 1 : Nat) : Int) < rd y (j : Int)) : Sink L ((y.set (j + 1) (rd y (j : Int))).set j (rd y ((j + 1 : Nat) : Int))) i j := by
  have hs := rd_swap y j (by omega)
  have hl : ((y.set (j + 1) (rd y (j : Int))).set j (rd y ((j + 1 : Nat) : Int))).length = y.length := by rw [List.length_set, List.length_set]
  obtain ⟨z, hz⟩ : ∃ z, z = (y.set (j + 1) (rd y (j : Int))).set j (rd y ((j + 1 : Nat) : Int)) := ⟨_, rfl⟩
  rw [← hz] at hs hl ⊢
  clear hz
  have hsig : ∀ a : Nat, rd z (a : Int) = rd y ((if a = j then j + 1 else if a = j + 1 then j else a : Nat) : Int) := by
    intro a
    rw [hs a]
    by_cases h1 : a = j
    · rw [if_pos h1, if_pos h1]
    · rw [if_neg h1, if_neg h1]
      by_cases h2 : a = j + 1
      · rw [if_pos h2, if_pos h2]
      · rw [if_neg h2, if_neg h2]
  refine ⟨hl.trans h.len, fun a b ha hb e => ?_, fun v => ?_, fun a b hab hb h1 h2 => ?_, fun b hb1 hb2 => ?_⟩
  · rw [hsig a, hsig b] at e
    have := h.inj _ _ (by split <;> (try split) <;> omega) (by split <;> (try split) <;> omega) e
    split at this <;> split at this <;> (try split at this) <;> (try split at this) <;> omega
  · rw [← h.mem v, mem_rd, mem_rd]
    constructor
    · rintro ⟨a, ha, e⟩
      exact ⟨_, by split <;> (try split) <;> omega, (hsig a).symm.trans e⟩
    · rintro ⟨a, ha, e⟩
      by_cases h1 : a = j
      · exact ⟨j + 1, by omega, by rw [hs, if_neg (by omega), if_pos rfl, ← h1]; exact e⟩
      · by_cases h2 : a = j + 1
        · exact ⟨j, by omega, by rw [hs, if_pos rfl, ← h2]; exact e⟩
        · exact ⟨a, by omega, by rw [hs, if_neg h1, if_neg h2]; exact e⟩
  · rw [hs a, hs b, if_neg h1, if_neg h2]
    by_cases q1 : a = j + 1
    · rw [if_pos q1, if_neg (by omega)]
      exact h.ord j b (by omega) hb (by omega) (by omega)
    · rw [if_neg q1]
      by_cases q2 : b = j + 1
      · rw [if_pos q2]
        exact h.ord a j (by omega) (by omega) q1 (by omega)
      · rw [if_neg q2]
        exact h.ord a b hab hb q1 q2
  · rw [hs j, hs b, if_pos rfl, if_neg (by omega)]
    by_cases q2 : b = j + 1
    · rw [if_pos q2]; omega
    · rw [if_neg q2]
      exact h.low b (by omega) hb2
theorem Sink.done {L y : List Int} {i j : Nat} (h : Sink L y i j) (hd : j = 0 ∨ rd y ((j - 1 : Nat) : Int) ≤ rd y (j : Int)) : Good L y (i + 1) := by
  refine ⟨h.len, h.inj, h.mem, fun a b hab hb => ?_⟩
  by_cases q1 : a = j
  · subst q1; exact h.low b hab hb
  · by_cases q2 : b = j
    · subst q2
      rcases hd with hd | hd
      · omega
      · by_cases q3 : a = b - 1
        · rw [q3]; exact hd
        · exact Int.le_trans (h.ord a (b - 1) (by omega) (by omega) q1 (by omega)) hd
    · exact h.ord a b hab hb q1 q2
theorem l3_loop (L : List Int) (hn : L.length ≤ 1000000) (i : Nat) (r : List Int × Bool) : ∀ (j : Nat) (y : List Int), Sink L y i j → i < y.length → j ≤ i →
    (∀ z, Good L z (i + 1) → Ev (fun k => spec_ProductsOfSum.l2 k z (L.length : Int) ((i + 1 : Nat) : Int)) r) → Ev (fun k => spec_ProductsOfSum.l3 k y (j : Int) (L.length : Int) (i : Int)) r
  | 0, y, hs, hi, hj, h => by
    have hl := hs.len
    have e1 : wrap64 ((i : Int) + 1) = ((i + 1 : Nat) : Int) := w_succ i y.length hi (by omega)
    exact Ev.step (fun k => by rw [spec_ProductsOfSum.l3, if_neg (by decide), e1]) (h y (hs.done (.inl rfl)))
  | j + 1, y, hs, hi, hj, h => by
    have hl := hs.len
    have e1 : wrap64 ((i : Int) + 1) = ((i + 1 : Nat) : Int) := w_succ i y.length hi (by omega)
    have e2 : wrap64 (((j + 1 : Nat) : Int) - 1) = (j : Int) := by rw [w64 (by omega) (by omega)]; omega
    have c1 : ((j + 1 : Nat) : Int) > 0 := by omega
    have c2 : (j : Int) < (y.length : Int) := by omega
    have c3 : ((j + 1 : Nat) : Int) < (y.length : Int) := by omega
    by_cases hgt : rd y (j : Int) > rd y ((j + 1 : Nat) : Int)
    · have ih := l3_loop L hn i r j _ (hs.swap hi hj hgt) (by rw [List.length_set, List.length_set]; exact hi) (by omega) h
      refine Ev.step (fun k => ?_) ih
      rw [spec_ProductsOfSum.l3, if_pos c1, e2, if_pos (Int.natCast_nonneg j), if_pos c2, if_pos (Int.natCast_nonneg (j + 1)), if_pos c3, if_pos hgt, Int.toNat_natCast, Int.toNat_natCast]
    · refine Ev.step (fun k => ?_) (h y (hs.done (.inr (Int.not_lt.1 hgt))))
      rw [spec_ProductsOfSum.l3, if_pos c1, e2, if_pos (Int.natCast_nonneg j), if_pos c2, if_pos (Int.natCast_nonneg (j + 1)), if_pos c3, if_neg hgt, e1]
theorem l2_loop (L : List Int) (hn : L.length ≤ 1000000) (r : List Int) (hr : ∀ z, Good L z L.length → z = r) (d : Nat) : ∀ (i : Nat) (y : List Int), L.length - i = d → i ≤ L.length → Good L y i → Ev (fun k => spec_ProductsOfSum.l2 k y (L.length : Int) (i : Int)) (r, true) := by
  induction d with
  | zero =>
    intro i y hd hi hg
    obtain rfl : i = L.length := by omega
    rw [← hr y hg]
    exact Ev.step (f := fun _ => some (y, true)) (fun k => by rw [spec_ProductsOfSum.l2, if_neg (by omega)]) (Ev.now _)
  | succ d ih =>
    intro i y hd hi hg
    have c1 : (i : Int) < (L.length : Int) := by omega
    refine Ev.step (fun k => by rw [spec_ProductsOfSum.l2, if_pos c1]) ?_
    exact l3_loop L hn i (r, true) i y ⟨hg.len, hg.inj, hg.mem, fun a b hab hb h1 h2 => hg.ord a b hab (by omega), fun b h1 h2 => by omega⟩ (by rw [hg.len]; omega) (Nat.le_refl _) (fun z hz => ih (i + 1) z (by omega) (by omega) hz)
theorem Good.strict {L y : List Int} (h : Good L y L.length) : y.Pairwise (· < ·) := by
  refine List.pairwise_iff_getElem.2 fun a b ha hb hab => ?_
  have e : ∀ k (hk : k < y.length), rd y (k : Int) = y[k] := fun k hk => by simp [rd, List.getD, List.getElem?_eq_getElem hk]
  have h1 := h.ord a b hab (by have := h.len; omega)
  have h2 : ¬ rd y (a : Int) = rd y (b : Int) := fun e => by have := h.inj a b ha hb e; omega
  rw [e a ha, e b hb] at h1 h2
  omega
/-- All products, in order. -/
def prodsOf (xs : List (List Int)) : List Int := Lib.compact ((xs.map prodL).mergeSort fun x y => decide (x ≤ y))
theorem good_is (xs : List (List Int)) (z : List Int) (h : Good (once [] xs) z (once [] xs).length) : z = prodsOf xs := by
  obtain ⟨h1, h2⟩ := distinct_is (xs.map prodL)
  refine strict_eq _ _ h.strict h1 fun v => ?_
  have e : v ∈ prodsOf xs ↔ v ∈ xs.map prodL := h2 v
  rw [h.mem, once_mem, e, List.mem_map]
  simp
theorem good_start (L : List Int) (h : L.Nodup) : Good L L 0 := by
  have e : ∀ k (hk : k < L.length), rd L (k : Int) = L[k] := fun k hk => by simp [rd, List.getD, List.getElem?_eq_getElem hk]
  refine ⟨rfl, fun a b ha hb hab => ?_, fun v => Iff.rfl, fun a b _ hb => absurd hb (Nat.not_lt_zero _)⟩
  rw [e a ha, e b hb] at hab
  exact (List.getElem_inj h).1 hab
theorem ev_spec_prods (xs : List (List Int)) (hk : SetsOk xs) : Ev (fun k => spec_ProductsOfSum.l0 k [] xs (xs.length : Int) 0) (prodsOf xs, true) := by
  have hl := once_len xs []
  have hx := hk.2
  have := l0_loop xs hk (prodsOf xs, true) xs.length 0 [] (by omega) (by omega) (by simp) (by
    rw [List.drop_zero]
    have := l2_loop (once [] xs) (by simp at hl; omega) (prodsOf xs) (good_is xs) (once [] xs).length 0 (once [] xs) (by omega) (by omega) (good_start _ (once_nodup xs [] (by simp)))
    exact this)
  exact this
theorem impl_loop (xs : List (List Int)) (hk : SetsOk xs) (d : Nat) : ∀ (i : Nat) (acc : List Int), xs.length - i = d → i ≤ xs.length → acc.length + d ≤ 200000 → acc ++ (xs.drop i).map prodL = xs.map prodL → Ev (fun k => impl_ProductsOfSum.l0 k acc xs (xs.length : Int) (i : Int)) (prodsOf xs, true) := by
  induction d with
  | zero =>
    intro i acc hd hi hl he
    obtain rfl : i = xs.length := by omega
    rw [List.drop_of_length_le (Nat.le_refl _), List.map_nil, List.append_nil] at he
    have : impl_distinct.f acc = some (prodsOf xs) := by
      unfold impl_distinct.f
      rw [if_pos (by omega), he]
      rfl
    exact Ev.step (f := fun _ => some (prodsOf xs, true)) (fun k => by rw [impl_ProductsOfSum.l0, if_neg (by omega), this]; rfl) (Ev.now _)
  | succ d ih =>
    intro i acc hd hi hl he
    have hlt : i < xs.length := by omega
    have hx2 := hk.2
    have c1 : (i : Int) < (xs.length : Int) := Int.ofNat_lt.2 hlt
    have c2 : acc.length < 17592186044416 := by omega
    have e1 : wrap64 ((i : Int) + 1) = ((i + 1 : Nat) : Int) := w_succ i xs.length hlt (by omega)
    obtain ⟨h1, h2⟩ := hk.1 xs[i] (List.getElem_mem hlt)
    have ih1 := ih (i + 1) (acc ++ [prodL xs[i]]) (by omega) (by omega) (by rw [List.length_append, List.length_singleton]; omega) (by
      rw [← he, List.drop_eq_getElem_cons hlt, List.map_cons, List.append_assoc, List.singleton_append])
    refine Ev.step (fun k => by rw [impl_ProductsOfSum.l0, if_pos c1, if_pos (Int.natCast_nonneg i), if_pos c1, row_is xs i hlt, e1]) ?_
    refine Ev.bind (Ev.of (impl_productOf.mono xs[i]) (product_is xs[i] h2 h1)) ?_
    simp only [if_pos c2]
    exact ih1
theorem prodsOf_len (xs : List (List Int)) (hk : SetsOk xs) : (prodsOf xs).length ≤ 200000 := by
  have h := compact_le ((xs.map prodL).mergeSort fun x y => decide (x ≤ y))
  rw [List.length_mergeSort, List.length_map] at h
  have := hk.2
  unfold prodsOf
  omega
theorem siSum_is (c s : Int) : spec_siSum.f c s = some (decide (1 ≤ c ∧ c ≤ 4 ∧ 1 ≤ s ∧ s ≤ 80)) := siSum_val c s
theorem both_ProductsOfSum (c s : Int) : ∃ r : List Int × Bool, Ev (fun k => spec_ProductsOfSum.f k c s) r ∧ Ev (fun k => impl_ProductsOfSum.f k c s) r ∧ r.1.length ≤ 200000 := by
  unfold spec_ProductsOfSum.f impl_ProductsOfSum.f impl_setsOfSum.f
  rw [siSum_val]
  by_cases h : 1 ≤ c ∧ c ≤ 4 ∧ 1 ≤ s ∧ s ≤ 80
  · have hk := part_ok c.toNat (by omega) (hasSum s)
    have e : spec_siApart.f c s 0 = some ((allSets c.toNat []).filter (hasSum s)) := by
      unfold spec_siApart.f
      rw [if_pos (by omega), bySum_all]
    rw [decide_eq_true h, if_pos h, e]
    simp only [Option.bind_some, if_true]
    obtain ⟨xs, hxs⟩ : ∃ xs, xs = (allSets c.toNat []).filter (hasSum s) := ⟨_, rfl⟩
    rw [← hxs] at hk ⊢
    refine ⟨(prodsOf xs, true), ev_spec_prods xs hk, ?_, prodsOf_len xs hk⟩
    have hx2 := hk.2
    exact impl_loop xs hk xs.length 0 [] (by omega) (by omega) (by simpa using hx2) rfl
  · rw [decide_eq_false h, if_neg h]
    simp only [Option.bind_some, Bool.false_eq_true, if_false]
    exact ⟨([], false), Ev.now _, Ev.now _, by simp⟩
end Go.Proofs.YtjfdehjkdbcneaaGreat.Pure
/- Chapter 4, plain: all sets come in order, and are all sets. No condition beyond those typed at each lemma. -/
namespace Go.Proofs.YtjfdehjkdbcneaaGreat.Pure
open Go.RowKit Go.Proofs.YtjfdehjkdbcneaaGreat.E Go.Proofs.YtjfdehjkdbcneaaGreatW.PrintWords Go.Proofs.YtjfdehjkdbcneaaGreatW.PrintLast
set_option linter.unusedVariables false
set_option linter.unusedSimpArgs false

theorem ages_nil' : Ages [] := fun x hx => by simp at hx
theorem allSets_pre (n : Nat) : ∀ (l s : List Int), s ∈ allSets n l → ∃ t, s = l ++ t ∧ t.length = n := by
  induction n with
  | zero =>
    intro l s hs
    obtain rfl : s = l := by simpa [allSets] using hs
    exact ⟨[], by simp, rfl⟩
  | succ n ih =>
    intro l s hs
    simp only [allSets, List.mem_flatten, List.mem_map, List.mem_range] at hs
    obtain ⟨_, ⟨i, hi, rfl⟩, hs⟩ := hs
    obtain ⟨t, rfl, ht⟩ := ih _ s hs
    exact ⟨(fromOf l + (i : Int)) :: t, by simp, by simp [ht]⟩
theorem rd_pre (l t : List Int) (j : Nat) (h : j < l.length) : rd (l ++ t) (j : Int) = rd l (j : Int) := by
  simp [rd, List.getD_eq_getElem?_getD, List.getElem?_append_left h]
theorem rd_mid (l t : List Int) (a : Int) : rd (l ++ a :: t) ((l.length : Nat) : Int) = a := by
  simp [rd, List.getD_eq_getElem?_getD]
theorem allSets_lex (n : Nat) : ∀ l : List Int, (allSets n l).Pairwise LexP := by
  induction n with
  | zero => intro l; simp [allSets]
  | succ n ih =>
    intro l
    rw [show allSets (n + 1) l = ((List.range (21 - fromOf l).toNat).map fun i : Nat => allSets n (l ++ [fromOf l + (i : Int)])).flatten from rfl]
    rw [List.pairwise_flatten]
    refine ⟨fun x hx => ?_, ?_⟩
    · obtain ⟨i, _, rfl⟩ := List.mem_map.1 hx
      exact ih _
    · rw [List.pairwise_map]
      refine List.Pairwise.imp ?_ List.pairwise_lt_range
      intro i j hij x hx y hy
      obtain ⟨t, rfl, _⟩ := allSets_pre n _ x hx
      obtain ⟨u, rfl, _⟩ := allSets_pre n _ y hy
      rw [List.append_assoc, List.append_assoc, List.singleton_append, List.singleton_append]
      refine ⟨l.length, by simp, by simp, fun q hq => ?_, ?_⟩
      · rw [rd_pre _ _ q hq, rd_pre _ _ q hq]
      · rw [rd_mid, rd_mid]; omega
theorem chain_broken' (ap : Int) : ∀ l : List Int, chainB ap l = !brokenB ap l
  | [] => rfl
  | [_] => rfl
  | a :: b :: r => by
    show (decide (a + ap ≤ b) && chainB ap (b :: r)) = !(decide (b - a < ap) || brokenB ap (b :: r))
    rw [chain_broken' ap (b :: r), Bool.not_or]
    congr 1
    by_cases h : a + ap ≤ b
    · rw [decide_eq_true h, decide_eq_false (by omega)]; rfl
    · rw [decide_eq_false h, decide_eq_true (by omega)]; rfl
theorem apart_eq (n : Nat) (s ap : Int) (h : 0 ≤ ap) : bySum n s ap [] = ((allSets n []).filter (hasSum s)).filter (fun x => !brokenB ap x) := by
  rw [bySum_eq n s [] ap ages_nil h rfl, List.filter_filter]
  apply List.filter_congr
  intro x _
  rw [chain_broken']
  show ((!brokenB ap x) && decide (sumL x = 0 + s)) = ((!brokenB ap x) && decide (sumL x = s))
  rw [Int.zero_add]
/-- The numbers of a set, and their order. -/
theorem allSets_set (n : Nat) (h : n ≤ 4) (s : List Int) (hs : s ∈ allSets n []) : Ages s ∧ s.length = n ∧ brokenB 0 s = false ∧ (1 ≤ n → SetP s) := by
  have ho := part_ok n h (fun _ => true)
  have ha := (ho.1 s (List.mem_filter.2 ⟨hs, rfl⟩)).1
  obtain ⟨t, ht, hl⟩ := allSets_pre n [] s hs
  rw [List.nil_append] at ht
  subst ht
  have hc := chain0 n [] s ages_nil rfl hs
  rw [chain_broken'] at hc
  have hb : brokenB 0 s = false := by simpa using hc
  refine ⟨ha, hl, hb, fun h1 => ⟨⟨by omega, by omega⟩, ha, fun j j1 j2 => ?_⟩⟩
  have : ¬ brokenB 0 s = true := by rw [hb]; simp
  rw [broken_iff] at this
  have h2 : ¬ (rd s (j : Int) - rd s ((j - 1 : Nat) : Int) < 0) := fun e => this ⟨j, j1, j2, e⟩
  omega
/-- A list of numbers that goes on from a number, in order. -/
def Goes : Int → List Int → Prop
  | _, [] => True
  | f, a :: t => f ≤ a ∧ a ≤ 20 ∧ Goes a t
theorem allSets_mem : ∀ (t l : List Int), Ages l → Goes (fromOf l) t → l ++ t ∈ allSets t.length l
  | [], l, _, _ => by simp [allSets]
  | a :: t, l, hl, h => by
    obtain ⟨h1, h2, h3⟩ := h
    have hf := hl.from_
    have ih := allSets_mem t (l ++ [a]) (hl.snoc (by omega) h2) (by rw [fromOf_snoc]; exact h3)
    rw [List.append_assoc, List.singleton_append] at ih
    show l ++ a :: t ∈ allSets (t.length + 1) l
    simp only [allSets, List.mem_flatten, List.mem_map, List.mem_range]
    refine ⟨_, ⟨(a - fromOf l).toNat, by omega, rfl⟩, ?_⟩
    rw [show fromOf l + ((a - fromOf l).toNat : Int) = a by omega]
    exact ih
theorem sumL_acc : ∀ (t : List Int) (a : Int), t.foldl (· + ·) a = a + sumL t
  | [], a => by simp [sumL]
  | x :: t, a => by
    show t.foldl (· + ·) (a + x) = a + t.foldl (· + ·) (0 + x)
    rw [sumL_acc t (a + x), sumL_acc t (0 + x)]
    omega
theorem sumL_head (a : Int) (t : List Int) : sumL (a :: t) = a + sumL t := by
  show t.foldl (· + ·) (0 + a) = _
  rw [sumL_acc]; omega
/-- There is one with a sum. -/
theorem goes_sum : ∀ (n : Nat) (f s : Int), f ≤ 20 → (n : Int) * f ≤ s → s ≤ (n : Int) * 20 → ∃ t, t.length = n ∧ Goes f t ∧ sumL t = s
  | 0, f, s, hf, h1, h2 => ⟨[], rfl, trivial, by
      have e : sumL [] = 0 := rfl
      rw [e]
      have z : ((0 : Nat) : Int) * f = 0 := by simp
      have z2 : ((0 : Nat) : Int) * 20 = 0 := by simp
      omega⟩
  | n + 1, f, s, hf, h1, h2 => by
    have e1 : ((n + 1 : Nat) : Int) * f = (n : Int) * f + f := by rw [Int.natCast_add, Int.add_mul]; simp
    have e2 : ((n + 1 : Nat) : Int) * 20 = (n : Int) * 20 + 20 := by omega
    by_cases hc : s - f ≤ (n : Int) * 20
    · obtain ⟨t, ht, hg, hs⟩ := goes_sum n f (s - f) hf (by omega) hc
      exact ⟨f :: t, by simp [ht], ⟨Int.le_refl _, hf, hg⟩, by rw [sumL_head, hs]; omega⟩
    · have ha : s - (n : Int) * 20 ≤ 20 := by omega
      have hm : (n : Int) * (s - (n : Int) * 20) ≤ (n : Int) * 20 := Int.mul_le_mul_of_nonneg_left ha (Int.natCast_nonneg n)
      obtain ⟨t, ht, hg, hs⟩ := goes_sum n (s - (n : Int) * 20) ((n : Int) * 20) ha hm (Int.le_refl _)
      exact ⟨(s - (n : Int) * 20) :: t, by simp [ht], ⟨by omega, ha, hg⟩, by rw [sumL_head, hs]; omega⟩
theorem sum_bounds : ∀ s : List Int, Ages s → (s.length : Int) ≤ sumL s ∧ sumL s ≤ (s.length : Int) * 20
  | [], _ => by simp [sumL]
  | a :: t, h => by
    obtain ⟨h1, h2⟩ := sum_bounds t (fun x hx => h x (List.mem_cons_of_mem _ hx))
    have h3 := h a List.mem_cons_self
    rw [sumL_head]
    have : ((a :: t).length : Int) = (t.length : Int) + 1 := by simp
    omega
/-- A sum has sets just where it can. -/
theorem sum_some (n : Nat) (h1 : 1 ≤ n) (h4 : n ≤ 4) (s : Int) : 0 < ((allSets n []).filter (hasSum s)).length ↔ ((n : Int) ≤ s ∧ s ≤ (n : Int) * 20) := by
  rw [List.length_pos_iff_exists_mem]
  constructor
  · rintro ⟨x, hx⟩
    obtain ⟨hx1, hx2⟩ := List.mem_filter.1 hx
    obtain ⟨ha, hl, _, _⟩ := allSets_set n h4 x hx1
    have hb := sum_bounds x ha
    have : sumL x = s := of_decide_eq_true hx2
    rw [hl] at hb
    omega
  · rintro ⟨ha, hb⟩
    obtain ⟨t, ht, hg, hs⟩ := goes_sum n 1 s (by omega) (by omega) hb
    have := allSets_mem t [] ages_nil (by exact hg)
    rw [ht, List.nil_append] at this
    exact ⟨t, List.mem_filter.2 ⟨this, decide_eq_true hs⟩⟩
/-! ### what the law reckons step by step -/
theorem prodTo_take (s : List Int) (ha : Ages s) (h4 : s.length ≤ 4) : ∀ j : Nat, j ≤ s.length → prodTo s j = prodL (s.take j) ∧ 1 ≤ prodTo s j ∧ prodTo s j ≤ ((20 ^ j : Nat) : Int)
  | 0, _ => ⟨rfl, by show (1 : Int) ≤ 1; omega, by show (1 : Int) ≤ ((20 ^ 0 : Nat) : Int); simp⟩
  | j + 1, h => by
    obtain ⟨h1, h2, h3⟩ := prodTo_take s ha h4 j (by omega)
    have hlt : j < s.length := by omega
    have hb := ha _ (List.getElem_mem hlt)
    rw [← rd_at s j hlt] at hb
    obtain ⟨p1, p2⟩ := pow_step h2 h3 hb.1 hb.2
    have p3 := pow_small (m := j + 1) (by omega)
    have e : prodTo s (j + 1) = prodTo s j * rd s (j : Int) := by
      show wrap64 (prodTo s j * rd s (j : Int)) = _
      exact w64 (by omega) (by omega)
    rw [e]
    refine ⟨?_, p1, p2⟩
    rw [List.take_succ_eq_append_getElem hlt, prodL_snoc, h1, rd_at s j hlt]
theorem prodTo_all (s : List Int) (ha : Ages s) (h4 : s.length ≤ 4) : prodTo s s.length = prodL s := by
  rw [(prodTo_take s ha h4 s.length (Nat.le_refl _)).1, List.take_length]
theorem farTo_iff (ap : Int) (s : List Int) (ha : Ages s) (h4 : s.length ≤ 4) : ∀ n : Nat, n < s.length → (farTo ap s n = true ↔ ∀ j : Nat, 1 ≤ j → j ≤ n → ¬ (rd s (j : Int) - rd s ((j - 1 : Nat) : Int) < ap))
  | 0, _ => ⟨fun _ j h1 h2 => by omega, fun _ => rfl⟩
  | n + 1, h => by
    have ih := farTo_iff ap s ha h4 n (by omega)
    have hb : ∀ j : Nat, j < s.length → 1 ≤ rd s (j : Int) ∧ rd s (j : Int) ≤ 20 := fun j hj => by rw [rd_at s j hj]; exact ha _ (List.getElem_mem hj)
    have b1 := hb n (by omega)
    have b2 := hb (n + 1) h
    have e1 : ((1 + n : Nat) : Int) = ((n + 1 : Nat) : Int) := by omega
    show (farTo ap s n && decide (wrap64 (rd s ((1 + n : Nat) : Int) - rd s (n : Int)) ≥ ap)) = true ↔ _
    rw [e1, w64 (by omega) (by omega), Bool.and_eq_true, ih, decide_eq_true_iff]
    constructor
    · rintro ⟨g1, g2⟩ j j1 j2
      by_cases e : j = n + 1
      · subst e
        rw [Nat.add_sub_cancel]
        omega
      · exact g1 j j1 (by omega)
    · intro g
      refine ⟨fun j j1 j2 => g j j1 (by omega), ?_⟩
      have := g (n + 1) (by omega) (Nat.le_refl _)
      rw [Nat.add_sub_cancel] at this
      omega
theorem farTo_all (ap : Int) (s : List Int) (ha : Ages s) (h4 : s.length ≤ 4) (h1 : 1 ≤ s.length) : farTo ap s (s.length - 1) = !brokenB ap s := by
  have h := farTo_iff ap s ha h4 (s.length - 1) (by omega)
  rw [Bool.eq_iff_iff, h, Bool.not_eq_true', ← Bool.not_eq_true, broken_iff]
  constructor
  · rintro g ⟨j, j1, j2, e⟩
    exact g j j1 (by omega) e
  · intro g j j1 j2 e
    exact g ⟨j, j1, by omega, e⟩
end Go.Proofs.YtjfdehjkdbcneaaGreat.Pure
/- Sets of a sum are counted, products of them are all of those, children who are apart are so, the next set comes next, and later sets are older: plain. No condition. -/
namespace Go.Proofs.YtjfdehjkdbcneaaGreat.Pure
open Go.RowKit Go.Proofs.YtjfdehjkdbcneaaGreat.E Go.Proofs.YtjfdehjkdbcneaaGreatW.PrintWords Go.Proofs.YtjfdehjkdbcneaaGreatW.PrintLast
set_option linter.unusedVariables false
set_option linter.unusedSimpArgs false

theorem prods_yes (c s : Int) (h : 1 ≤ c ∧ c ≤ 4 ∧ 1 ≤ s ∧ s ≤ 80) : Ev (fun k => spec_ProductsOfSum.f k c s) (prodsOf ((allSets c.toNat []).filter (hasSum s)), true) ∧ Ev (fun k => impl_ProductsOfSum.f k c s) (prodsOf ((allSets c.toNat []).filter (hasSum s)), true) := by
  unfold spec_ProductsOfSum.f impl_ProductsOfSum.f impl_setsOfSum.f
  rw [siSum_val]
  have hk := part_ok c.toNat (by omega) (hasSum s)
  have e : spec_siApart.f c s 0 = some ((allSets c.toNat []).filter (hasSum s)) := by
    unfold spec_siApart.f
    rw [if_pos (by omega), bySum_all]
  rw [decide_eq_true h, if_pos h, e]
  simp only [Option.bind_some, if_true]
  obtain ⟨xs, hxs⟩ : ∃ xs, xs = (allSets c.toNat []).filter (hasSum s) := ⟨_, rfl⟩
  rw [← hxs] at hk ⊢
  have hx2 := hk.2
  exact ⟨ev_spec_prods xs hk, impl_loop xs hk xs.length 0 [] (by omega) (by omega) (by simpa using hx2) rfl⟩
theorem prods_no (c s : Int) (h : ¬ (1 ≤ c ∧ c ≤ 4 ∧ 1 ≤ s ∧ s ≤ 80)) : Ev (fun k => spec_ProductsOfSum.f k c s) ([], false) ∧ Ev (fun k => impl_ProductsOfSum.f k c s) ([], false) := by
  unfold spec_ProductsOfSum.f impl_ProductsOfSum.f impl_setsOfSum.f
  rw [siSum_val, decide_eq_false h, if_neg h]
  simp only [Option.bind_some, Bool.false_eq_true, if_false]
  exact ⟨Ev.now _, Ev.now _⟩
/-- The greatest of some products. -/
def topOf (r : List Int) : Int × Bool := if r.length = 0 then (0, false) else (rd r ((r.length - 1 : Nat) : Int), true)
theorem great_of (c s : Int) (r1 : List Int) (hl : r1.length ≤ 200000) (h1 : Ev (fun k => spec_ProductsOfSum.f k c s) (r1, true)) (h2 : Ev (fun k => impl_ProductsOfSum.f k c s) (r1, true)) : Ev (fun k => spec_GreatestProduct.f k c s) (topOf r1) ∧ Ev (fun k => impl_GreatestProduct.f k c s) (topOf r1) := by
  unfold spec_GreatestProduct.f impl_GreatestProduct.f topOf
  by_cases h0 : r1.length = 0
  · have h0' : (r1.length : Int) = 0 := by omega
    rw [if_pos h0]
    exact ⟨Ev.bind h1 (by simp only [if_true, if_pos h0']; exact Ev.now _), Ev.bind h2 (by simp only [if_true, if_pos h0']; exact Ev.now _)⟩
  · have h0' : ¬ (r1.length : Int) = 0 := by omega
    have e : wrap64 ((r1.length : Int) - 1) = ((r1.length - 1 : Nat) : Int) := by rw [w64 (by omega) (by omega)]; omega
    have c1 : (0 : Int) ≤ ((r1.length - 1 : Nat) : Int) := Int.natCast_nonneg _
    have c2 : ((r1.length - 1 : Nat) : Int) < (r1.length : Int) := by omega
    rw [if_neg h0]
    exact ⟨Ev.bind h1 (by simp only [if_true, if_neg h0', e, if_pos c1, if_pos c2]; exact Ev.now _), Ev.bind h2 (by simp only [if_true, if_neg h0', e, if_pos c1, if_pos c2]; exact Ev.now _)⟩
theorem great_no (c s : Int) (h1 : Ev (fun k => spec_ProductsOfSum.f k c s) ([], false)) (h2 : Ev (fun k => impl_ProductsOfSum.f k c s) ([], false)) : Ev (fun k => spec_GreatestProduct.f k c s) (0, false) ∧ Ev (fun k => impl_GreatestProduct.f k c s) (0, false) := by
  unfold spec_GreatestProduct.f impl_GreatestProduct.f
  exact ⟨Ev.bind h1 (by simp only [Bool.false_eq_true, if_false]; exact Ev.now _), Ev.bind h2 (by simp only [Bool.false_eq_true, if_false]; exact Ev.now _)⟩
theorem prods_facts (xs : List (List Int)) : (prodsOf xs).Pairwise (· < ·) ∧ (∀ v, v ∈ prodsOf xs ↔ v ∈ xs.map prodL) ∧ (prodsOf xs).length ≤ xs.length := by
  obtain ⟨h1, h2⟩ := distinct_is (xs.map prodL)
  refine ⟨h1, h2, ?_⟩
  have h := compact_le ((xs.map prodL).mergeSort fun x y => decide (x ≤ y))
  rw [List.length_mergeSort, List.length_map] at h
  exact h
theorem prods_none (xs : List (List Int)) : (prodsOf xs).length = 0 ↔ xs.length = 0 := by
  obtain ⟨_, h2, h3⟩ := prods_facts xs
  constructor
  · intro h
    by_cases hx : xs = []
    · rw [hx]; rfl
    · obtain ⟨y, hy⟩ := List.exists_mem_of_ne_nil xs hx
      have := (h2 (prodL y)).2 (List.mem_map_of_mem hy)
      rw [List.eq_nil_of_length_eq_zero h] at this
      exact absurd this List.not_mem_nil
  · intro h; omega
theorem apart_val (c s ap : Int) (h : 1 ≤ c ∧ c ≤ 4 ∧ 1 ≤ s ∧ s ≤ 80) (h2 : 0 ≤ ap ∧ ap ≤ 20) : impl_SetsApart.f c s ap = some (((allSets c.toNat []).filter (hasSum s)).filter (fun x => !brokenB ap x), true) ∧ spec_SetsApart.f c s ap = some (((allSets c.toNat []).filter (hasSum s)).filter (fun x => !brokenB ap x), true) := by
  have e : spec_siApart.f c s ap = some (((allSets c.toNat []).filter (hasSum s)).filter (fun x => !brokenB ap x)) := by
    unfold spec_siApart.f
    rw [if_pos (by omega), apart_eq _ _ _ h2.1]
  refine ⟨by unfold impl_SetsApart.f; rw [if_pos (by omega)], ?_⟩
  unfold spec_SetsApart.f
  rw [siSum_val, decide_eq_true h, Option.bind_some, if_pos rfl, l1In_val, decide_eq_true h2, e]
  rfl
theorem apart_no (c s ap : Int) (h : ¬ ((1 ≤ c ∧ c ≤ 4 ∧ 1 ≤ s ∧ s ≤ 80) ∧ (0 ≤ ap ∧ ap ≤ 20))) : impl_SetsApart.f c s ap = some ([], false) ∧ spec_SetsApart.f c s ap = some ([], false) := by
  refine ⟨by unfold impl_SetsApart.f; rw [if_neg (by omega)], ?_⟩
  unfold spec_SetsApart.f
  rw [siSum_val]
  by_cases h1 : 1 ≤ c ∧ c ≤ 4 ∧ 1 ≤ s ∧ s ≤ 80
  · rw [decide_eq_true h1, Option.bind_some, if_pos rfl, l1In_val, decide_eq_false (fun h2 => h ⟨h1, h2⟩)]
    rfl
  · rw [decide_eq_false h1]
    rfl
theorem count_val (c s : Int) (h : 1 ≤ c ∧ c ≤ 4 ∧ 1 ≤ s ∧ s ≤ 80) : impl_CountBySum.f c s = some ((((allSets c.toNat []).filter (hasSum s)).length : Int), true) ∧ spec_CountBySum.f c s = some ((((allSets c.toNat []).filter (hasSum s)).length : Int), true) := by
  have e : spec_siApart.f c s 0 = some ((allSets c.toNat []).filter (hasSum s)) := by
    unfold spec_siApart.f
    rw [if_pos (by omega), bySum_all]
  unfold impl_CountBySum.f spec_CountBySum.f impl_setsOfSum.f
  rw [siSum_val, decide_eq_true h, if_pos h, e]
  exact ⟨rfl, rfl⟩
theorem count_no (c s : Int) (h : ¬ (1 ≤ c ∧ c ≤ 4 ∧ 1 ≤ s ∧ s ≤ 80)) : impl_CountBySum.f c s = some (0, false) ∧ spec_CountBySum.f c s = some (0, false) := by
  unfold impl_CountBySum.f spec_CountBySum.f impl_setsOfSum.f
  rw [siSum_val, decide_eq_false h, if_neg h]
  exact ⟨rfl, rfl⟩
theorem isSet_ev (s : List Int) (hs : SetP s) : Ev (fun k => impl_IsSet.f k s) true := by
  obtain ⟨b, _, h2, h3⟩ := ev_set s (by have := hs.1; omega)
  have : b = true := h3.2 hs
  subst this
  unfold impl_IsSet.f
  exact Ev.bind h2 (Ev.now _)
/-- The first half. -/
theorem half1 (l0 : List Int) (hl : Bytes l0) : ∃ children sum apart sets ok products one greatest three count, EvP fun k => g4F1 k l0 children sum apart sets ok products one greatest three count := by
  obtain ⟨c, s, ap, hD⟩ := drawApart hl
  by_cases h : 1 ≤ c ∧ c ≤ 4 ∧ 1 ≤ s ∧ s ≤ 80
  · obtain ⟨n, rfl⟩ : ∃ n : Nat, c = n := ⟨c.toNat, by omega⟩
    obtain ⟨xs, hxs⟩ : ∃ xs, xs = (allSets n []).filter (hasSum s) := ⟨_, rfl⟩
    obtain ⟨p1, p2⟩ := prods_yes n s h
    obtain ⟨v1, v2⟩ := count_val n s h
    rw [Int.toNat_natCast, ← hxs] at p1 p2 v1 v2
    have hk := part_ok n (by omega) (hasSum s)
    rw [← hxs] at hk
    obtain ⟨f1, f2, f3⟩ := prods_facts xs
    have f4 := prods_none xs
    have hxl := hk.2
    obtain ⟨g1, g2⟩ := great_of n s (prodsOf xs) (by omega) p1 p2
    have hss := sum_some n (by omega) (by omega) s
    rw [← hxs] at hss
    have hset : ∀ x ∈ xs, Ages x ∧ x.length = n ∧ brokenB 0 x = false ∧ SetP x ∧ sumL x = s := fun x hx => by
      rw [hxs] at hx
      obtain ⟨q1, q2⟩ := List.mem_filter.1 hx
      obtain ⟨r1, r2, r3, r4⟩ := allSets_set n (by omega) x q1
      exact ⟨r1, r2, r3, r4 (by omega), of_decide_eq_true q2⟩
    have hlex : xs.Pairwise LexP := by rw [hxs]; exact List.Pairwise.sublist List.filter_sublist (allSets_lex n [])
    obtain ⟨top, htop⟩ : ∃ top, top = topOf (prodsOf xs) := ⟨_, rfl⟩
    rw [← htop] at g1 g2
    have ht2 : top.2 = true ↔ (prodsOf xs).length ≠ 0 := by
      rw [htop]; unfold topOf
      by_cases z : (prodsOf xs).length = 0
      · rw [if_pos z]; simp [z]
      · rw [if_neg z]; simp [z]
    have ht1 : top.2 = true → rd (prodsOf xs) (((prodsOf xs).length - 1 : Nat) : Int) = top.1 := fun hz => by
      rw [htop]; unfold topOf
      rw [if_neg (ht2.1 hz)]
    have hD' : (true = true → (Ev (fun k => laws_qRises.f k (prodsOf xs)) true)) := fun _ => ev_qRises _ (by omega) f1
    have common : ∀ (sets : List (List Int)) (ok : Bool) (hAI : impl_SetsApart.f n s ap = some (sets, ok)) (hAS : spec_SetsApart.f n s ap = some (sets, ok)) (hsl : sets.length ≤ 200000) (hsr : ∀ x ∈ sets, x.length ≤ 1000000)
        (hE : ok = true → EvP fun k => ∃ all : List (List Int), impl_SetsApart.f n s 0 = some (all, true) ∧ ((all.length : Nat) : Int) = (xs.length : Int) ∧ ((sets.length : Nat) : Int) ≤ (xs.length : Int) ∧ laws_qOrdered.f k sets = some true ∧ all.length ≤ 1000000 ∧
          ∀ i : Nat, i < all.length → ∃ x : List Int, rd_L2 all ((i : Nat) : Int) = x ∧ ((x.length : Nat) : Int) = (n : Int) ∧ (1 ≤ x.length ∧ x.length ≤ 4) ∧ laws_qSum.f k x = some s ∧ impl_IsSet.f k x = some true ∧ (((i : Nat) : Int) < 40 → laws_qHas.f k (prodsOf xs) (prodTo x x.length) = some true ∧ laws_qHasRow.f k sets x = some (farTo ap x (x.length - 1)))),
        EvP fun k => g4F1 k l0 n s ap sets ok (prodsOf xs) true top.1 top.2 (xs.length : Int) := by
      intro sets ok hAI hAS hsl hsr hE
      refine (EvP.and (.of p2) (EvP.and (.of p1) (EvP.and (.of g2) (EvP.and (.of g1) (EvP.and (.of (ev_qRows sets (by omega) hsr)) (EvP.and (.of (ev_qSame_self (prodsOf xs) (by omega))) (EvP.and (.of (ev_qRises (prodsOf xs) (by omega) f1)) (EvP.imp hE)))))))).mono ?_
      rintro k ⟨a1, a2, a3, a4, a5, a6, a7, a8⟩
      exact { hD := hD, hAI := hAI, hAS := hAS, hPI := a1, hPS := a2, hGI := a3, hGS := a4, hCI := v1, hCS := v2, hW1 := a5, hW2 := a6, hOO := fun _ => rfl, hO3 := fun e => (by cases e),
              hO4 := fun _ => (by rw [ht2]; omega),
              hD_ := fun _ => ⟨a7, by omega, by omega, by omega, (by rw [← hss]; omega), fun e => ⟨by omega, ht1 e⟩⟩,
              hE_ := a8 }
    by_cases h2 : 0 ≤ ap ∧ ap ≤ 20
    · obtain ⟨w1, w2⟩ := apart_val n s ap h h2
      obtain ⟨u1, _⟩ := apart_val n s 0 h (by omega)
      rw [Int.toNat_natCast, ← hxs] at w1 w2 u1
      have hall : xs.filter (fun x => !brokenB 0 x) = xs := List.filter_eq_self.2 (fun x hx => by rw [(hset x hx).2.2.1]; rfl)
      rw [hall] at u1
      obtain ⟨sets, hsets⟩ : ∃ sets, sets = xs.filter (fun x => !brokenB ap x) := ⟨_, rfl⟩
      rw [← hsets] at w1 w2
      have hsl : sets.length ≤ xs.length := by rw [hsets]; exact List.length_filter_le _ _
      have hsr : ∀ x ∈ sets, x.length ≤ 1000000 := fun x hx => by
        rw [hsets] at hx
        have := (hset x (List.mem_filter.1 hx).1).2.1
        omega
      have hmem : ∀ x ∈ xs, decide (x ∈ sets) = farTo ap x (x.length - 1) := fun x hx => by
        obtain ⟨q1, q2, _, _, _⟩ := hset x hx
        rw [farTo_all ap x q1 (by omega) (by omega), hsets, Bool.eq_iff_iff, decide_eq_true_iff, List.mem_filter]
        exact ⟨fun e => e.2, fun e => ⟨hx, e⟩⟩
      refine ⟨n, s, ap, sets, true, prodsOf xs, true, top.1, top.2, xs.length, common sets true w1 w2 (by omega) hsr (fun _ => ?_)⟩
      have hev := EvP.all (P := fun x k => laws_qSum.f k x = some s ∧ impl_IsSet.f k x = some true ∧ laws_qHas.f k (prodsOf xs) (prodTo x x.length) = some true ∧ laws_qHasRow.f k sets x = some (farTo ap x (x.length - 1))) xs (fun x hx => by
        obtain ⟨q1, q2, q3, q4, q5⟩ := hset x hx
        have b1 := ev_qSum x q1 (by omega)
        rw [q5] at b1
        have b3 := ev_qHas (prodsOf xs) (prodTo x x.length) (by omega)
        rw [prodTo_all x q1 (by omega), decide_eq_true ((f2 (prodL x)).2 (List.mem_map_of_mem hx)), ← prodTo_all x q1 (by omega)] at b3
        have b4 := ev_qHasRow sets x (by omega) hsr
        rw [hmem x hx] at b4
        exact EvP.and (.of b1) (EvP.and (.of (isSet_ev x q4)) (EvP.and (.of b3) (.of b4))))
      refine (EvP.and (.of (ev_qOrdered sets (by omega) hsr (by rw [hsets]; exact List.Pairwise.sublist List.filter_sublist hlex))) hev).mono ?_
      rintro k ⟨a1, a2⟩
      refine ⟨xs, u1, rfl, by omega, a1, by omega, fun i hi => ?_⟩
      have hx := List.getElem_mem hi
      obtain ⟨q1, q2, _, _, _⟩ := hset _ hx
      obtain ⟨t1, t2, t3, t4⟩ := a2 _ hx
      exact ⟨xs[i], rowAt xs i hi, by omega, by omega, t1, t2, fun _ => ⟨t3, t4⟩⟩
    · obtain ⟨w1, w2⟩ := apart_no n s ap (fun e => h2 e.2)
      exact ⟨n, s, ap, [], false, prodsOf xs, true, top.1, top.2, xs.length, common [] false w1 w2 (by simp) (by simp) (fun e => (by cases e))⟩
  · obtain ⟨p1, p2⟩ := prods_no c s h
    obtain ⟨g1, g2⟩ := great_no c s p1 p2
    obtain ⟨v1, v2⟩ := count_no c s h
    obtain ⟨w1, w2⟩ := apart_no c s ap (fun e => h e.1)
    refine ⟨c, s, ap, [], false, [], false, 0, false, 0, ?_⟩
    refine (EvP.and (.of p2) (EvP.and (.of p1) (EvP.and (.of g2) (EvP.and (.of g1) (EvP.and (.of (ev_qRows [] (by simp) (by simp))) (.of (ev_qSame_self [] (by simp)))))))).mono ?_
    rintro k ⟨a1, a2, a3, a4, a5, a6⟩
    exact { hD := hD, hAI := w1, hAS := w2, hPI := a1, hPS := a2, hGI := a3, hGS := a4, hCI := v1, hCS := v2, hW1 := a5, hW2 := a6, hOO := fun e => (by cases e), hO3 := fun _ => rfl, hO4 := fun e => (by cases e), hD_ := fun e => (by cases e), hE_ := fun e => (by cases e) }
/-- The second half. -/
theorem half2 (l1 : List Int) (hl : Bytes l1) : ∃ set_ next seven u years later nine c from_ to_ at_ most eleven, EvP fun k => g4F2 k l1 set_ next seven u years later nine c from_ to_ at_ most eleven := by
  obtain ⟨set_, hD2, hs5⟩ := drawNext hl
  obtain ⟨u, years, hD3, hu5⟩ := drawLater hl
  obtain ⟨c, fr, tt, hD4⟩ := drawMost hl
  obtain ⟨⟨next, seven⟩, n1, n2, hn, hsp⟩ := both_Next set_ (by omega)
  obtain ⟨⟨later, nine⟩, t1, t2, t3, t4⟩ := both_Later u years (by omega)
  simp only at hn hsp t3 t4
  have hnl : next.length ≤ 5 := by
    rcases hn with e | ⟨p, hp, _, _, e⟩
    · rw [(Prod.mk.inj e).1]; simp
    · rw [(Prod.mk.inj e).1, nextV_len _ _ hp]; exact hs5
  have hll : later.length ≤ 5 := by
    rw [t4]
    cases nine
    · simp
    · simpa [inY] using hu5
  have m1 := ev_MostSets c fr tt
  have m2 := impl_Most_val c fr tt
  obtain ⟨r, hr⟩ : ∃ r, r = (if lotsOk c fr tt = true then (fr + ((mostAt (lotCount c.toNat fr) (tt - fr + 1).toNat : Nat) : Int), (lotCount c.toNat fr (mostAt (lotCount c.toNat fr) (tt - fr + 1).toNat) : Int), true) else ((0 : Int), (0 : Int), false)) := ⟨_, rfl⟩
  rw [← hr] at m1 m2
  obtain ⟨at_, most, eleven⟩ := r
  have h7 : seven = true → EvP fun k => impl_IsSet.f k next = some true ∧ next.length = set_.length ∧ laws_qBefore.f k set_ next = some true ∧ set_.length ≤ 4 ∧ ∃ m p : Nat, p + m + 1 = set_.length ∧ (∀ i : Nat, i < m → rd set_ ((set_.length - 1 - i : Nat) : Int) = 20) ∧ rd set_ ((p : Nat) : Int) ≠ 20 ∧
      laws_qSame.f k (next.take p) (set_.take p) = some true ∧ wrap64 (rd set_ ((p : Nat) : Int) + 1) = rd next ((p : Nat) : Int) ∧ rd next ((next.length - 1 : Nat) : Int) = rd next ((p : Nat) : Int) := fun e => by
    have hs := hsp e
    subst e
    rcases hn with e | ⟨p, hp, h20, hi, e⟩
    · cases (Prod.mk.inj e).2
    · have en := (Prod.mk.inj e).1
      subst en
      have q1 := nextV_len set_ p hp
      have hb := hs.2.1 _ (List.getElem_mem hp)
      rw [← rd_at set_ p hp] at hb
      have hs4 := hs.1.2
      refine (EvP.and (.of (isSet_ev _ (nextV_set set_ hs p hp h20))) (EvP.and (.of (ev_qBefore set_ _ (by omega) (nextV_before set_ p hp))) (.of (ev_qSame_self (set_.take p) (by rw [List.length_take]; omega))))).mono ?_
      rintro k ⟨a1, a2, a3⟩
      refine ⟨a1, q1, a2, hs4, set_.length - 1 - p, p, by omega, fun i hi2 => hi _ (by omega) (by omega), h20, (by rw [nextV_take set_ p hp]; exact a3), ?_, ?_⟩
      · rw [nextV_hi set_ p p (Nat.le_refl _) hp, w64 (by omega) (by omega)]
      · rw [nextV_hi set_ p p (Nat.le_refl _) hp, nextV_hi set_ p _ (by omega) (by omega)]
  have h9 : nine = true → EvP fun k => impl_LaterSet.f k later (wrap64 (-years)) = some (u, true) ∧ laws_qSame.f k u u = some true := fun e => by
    subst e
    obtain ⟨q1, q2, q3⟩ := t3.1 rfl
    rw [if_pos rfl] at t4
    subst t4
    exact EvP.and (.of (back_Later u years q1 q2 q3)) (.of (ev_qSame_self u (by omega)))
  have h11 : eleven = true → impl_CountSets.f c at_ = some (most, true) ∧ fr ≤ at_ ∧ at_ ≤ tt ∧ (1 ≤ fr ∧ tt ≤ 160000) ∧
      ∀ i : Nat, fr + (i : Int) ≤ tt → i < 30 → ∃ n : Int, impl_CountSets.f c (fr + (i : Int)) = some (n, true) ∧ n ≤ most ∧ (n = most → at_ ≤ fr + (i : Int)) := fun e => by
    subst e
    cases hp : lotsOk c fr tt with
    | false => rw [hp] at hr; simp at hr
    | true =>
      rw [hp, if_pos rfl] at hr
      simp only [Prod.mk.injEq] at hr
      obtain ⟨r1, r2, _⟩ := hr
      have hk : 1 ≤ c ∧ c ≤ 4 ∧ 1 ≤ fr ∧ fr ≤ 160000 ∧ fr ≤ tt ∧ tt ≤ 160000 := by
        unfold lotsOk at hp
        simp only [Bool.and_eq_true, decide_eq_true_eq] at hp
        omega
      have hlt := mostAt_lt (lotCount c.toNat fr) (tt - fr + 1).toNat (by omega) (tt - fr + 1).toNat (Nat.le_refl _)
      refine ⟨?_, by omega, by omega, by omega, fun i hi hi2 => ?_⟩
      · rw [countSets_val c at_ (by omega), r1, r2]; rfl
      · obtain ⟨q1, q2⟩ := mostAt_most (lotCount c.toNat fr) (tt - fr + 1).toNat i (by omega)
        refine ⟨(lotCount c.toNat fr i : Int), (by rw [countSets_val c (fr + (i : Int)) (by omega)]; rfl), by omega, fun e => ?_⟩
        have := q2 (by omega)
        omega
  refine ⟨set_, next, seven, u, years, later, nine, c, fr, tt, at_, most, eleven, ?_⟩
  refine (EvP.and (.of hD2) (EvP.and (.of n2) (EvP.and (.of n1) (EvP.and (.of hD3) (EvP.and (.of t2) (EvP.and (.of t1) (EvP.and (.of m1) (EvP.and (.of (ev_qSame_self next (by omega))) (EvP.and (.of (ev_qSame_self later (by omega))) (EvP.and (EvP.imp h7) (EvP.imp h9))))))))))).mono ?_
  rintro k ⟨a1, a2, a3, a4, a5, a6, a7, a8, a9, a10, a11⟩
  exact { hD2 := a1, hNI := a2, hNS := a3, hD3 := a4, hLI := a5, hLS := a6, hD4 := hD4, hMI := m2, hMS := a7, hW3 := a8, hW4 := a9, h7 := a10, h9 := a11, h11 := h11 }
theorem FnChildrenSummed : laws_FnChildrenSummed.Pure := by
  intro l0 l1 _ _ hw0 _ _ hw1
  have hb : ∀ l : List Int, (∀ x ∈ l, (Lit.int .u8 x).wf = true) → Bytes l := fun l h x hx => by
    have := h x hx
    simp [Lit.wf, IntKind.min, IntKind.max, IntKind.bits, IntKind.signed] at this
    omega
  unfold laws_big.f
  by_cases h1 : (l0.length : Int) > 1048576
  · left; rw [if_pos h1]
  · rw [if_neg h1]
    by_cases h2 : (l1.length : Int) > wrap64 (1048576 - (l0.length : Int))
    · left; rw [decide_eq_true h2]
    · right
      refine ⟨by rw [decide_eq_false h2], ?_⟩
      obtain ⟨c, s, ap, sets, ok, products, one, greatest, three, count, p⟩ := half1 l0 (hb l0 hw0)
      obtain ⟨set_, next, seven, u, years, later, nine, c2, from_, to_, at_, most, eleven, q⟩ := half2 l1 (hb l1 hw1)
      obtain ⟨K, h⟩ := p.and q
      exact ⟨K, ⟨c, s, ap, sets, ok, products, one, greatest, three, count, (h K (Nat.le_refl _)).1⟩, ⟨set_, next, seven, u, years, later, nine, c2, from_, to_, at_, most, eleven, (h K (Nat.le_refl _)).2⟩⟩

end Go.Proofs.YtjfdehjkdbcneaaGreat.Pure
