/- Sets have the told products and sums and are all of them in order, open sums have several, and an oldest or a youngest child tells just one of these: plain. No condition. -/
import Derived.Test.YtlbnhjeblknepaaGreatE20
import Derived.Test.YtlbnhjeblknepaaGreatE24
import Derived.Test.YtlbnhjeblknepaaGreatE34
import Derived.Test.YtlbnhjeblknepaaGreatE35
import Derived.Test.YtlbnhjeblknepaaGreatEa
import Derived.Test.YtlbnhjeblknepaaGreatE51
import Derived.Test.YtlbnhjeblknepaaGreatE52
import Derived.Test.YtlbnhjeblknepaaGreatE1
import Derived.Test.YtlbnhjeblknepaaGreatE2
import Derived.Test.YtlbnhjeblknepaaGreatE39
import Derived.Test.YtlbnhjeblknepaaGreatE44
import Derived.Test.YtlbnhjeblknepaaGreatE49
import Derived.Test.YtlbnhjeblknepaaGreatE50
import Derived.Laws.Bits64
import Derived.Laws.Bits64b
import Derived.Test.YtlbnhjeblknepaaGreatE25
import Derived.Test.YtlbnhjeblknepaaGreatE0
import Derived.Test.YtlbnhjeblknepaaGreatEb
import Derived.Test.YtlbnhjeblknepaaGreatE31
import Derived.Test.YtlbnhjeblknepaaGreatE32
import Derived.Test.YtlbnhjeblknepaaGreatE33
import Derived.Test.YtlbnhjeblknepaaGreatE36
import Derived.Test.YtlbnhjeblknepaaGreatE38
import Derived.Lib.SlicesCompact
import Derived.Test.YtlbnhjeblknepaaGreatE17
import Derived.Test.YtlbnhjeblknepaaGreatE18
import Derived.Test.YtlbnhjeblknepaaGreatE29
import Derived.Test.YtlbnhjeblknepaaGreatE30
import Derived.Test.YtlbnhjeblknepaaGreatE57
import Derived.Test.YtlbnhjeblknepaaGreatE40
import Derived.Test.YtlbnhjeblknepaaGreatE19
import Derived.Test.YtlbnhjeblknepaaGreatE21
import Derived.Test.YtlbnhjeblknepaaGreatE22
import Derived.Test.YtlbnhjeblknepaaGreatE45
import Derived.Test.YtlbnhjeblknepaaGreatE46
import Derived.Test.YtlbnhjeblknepaaGreatE47
import Derived.Test.YtlbnhjeblknepaaGreatE48
import Derived.Test.YtlbnhjeblknepaaGreatE26
import Derived.Test.YtlbnhjeblknepaaGreatE28
import Derived.Test.YtlbnhjeblknepaaGreatE37
import Derived.Test.YtlbnhjeblknepaaGreatE41
import Derived.Test.YtlbnhjeblknepaaGreatE42
import Derived.Test.YtlbnhjeblknepaaGreatE43
import Derived.Test.YtlbnhjeblknepaaGreatE53
import Derived.Test.YtlbnhjeblknepaaGreatE54
import Derived.Test.YtlbnhjeblknepaaGreatE55
import Derived.Test.YtlbnhjeblknepaaGreatE56
/- Chapter 4, plain: which lists are sets; conversions and marks. No condition beyond those typed at each lemma. -/
namespace Go.Proofs.YtlbnhjeblknepaaGreat.Pure
open Go.RowKit Go.Proofs.YtlbnhjeblknepaaGreat.E Go.Proofs.YtlbnhjeblknepaaGreatW.PrintWords Go.Proofs.YtlbnhjeblknepaaGreatW.PrintLast
set_option linter.unusedVariables false
set_option linter.unusedSimpArgs false

theorem w64 {x : Int} (h0 : -9223372036854775808 ≤ x) (h1 : x ≤ 9223372036854775807) : wrap64 x = x := by unfold wrap64; omega
theorem w_succ (i n : Nat) (h : i < n) (hn : n ≤ 9223372036854775807) : wrap64 ((i : Int) + 1) = ((i + 1 : Nat) : Int) := by
  rw [w64 (by omega) (by omega)]; rfl
theorem l1In_val (n a b : Int) : spec_l1In.f n a b = some (decide (a ≤ n ∧ n ≤ b)) := by
  unfold spec_l1In.f
  by_cases h1 : a ≤ n <;> by_cases h2 : n ≤ b <;> simp [h1, h2]
theorem between_val (n a b : Int) : impl_between.f n a b = some (decide (a ≤ n ∧ n ≤ b)) := l1In_val n a b
theorem rd_at (l : List Int) (i : Nat) (h : i < l.length) : rd l (i : Int) = l[i] := by simp [rd, List.getD, List.getElem?_eq_getElem h]
theorem drop_rd (l : List Int) (i : Nat) (h : i < l.length) : l.drop i = rd l (i : Int) :: l.drop (i + 1) := by
  rw [rd_at l i h]
  exact List.drop_eq_getElem_cons h

/-! ### sets -/
def SetP (l : List Int) : Prop := (1 ≤ l.length ∧ l.length ≤ 4) ∧ (∀ x ∈ l, 1 ≤ x ∧ x ≤ 20) ∧ ∀ j : Nat, 1 ≤ j → j < l.length → rd l ((j - 1 : Nat) : Int) ≤ rd l (j : Int)
theorem all_loop (l : List Int) (a b : Int) (hn : l.length ≤ 9223372036854775807) (d : Nat) : ∀ i : Nat, l.length - i = d → i ≤ l.length → Ev (fun k => spec_l1All.l0 k a b l (l.length : Int) (i : Int)) ((l.drop i).all fun x => decide (a ≤ x ∧ x ≤ b)) := by
  induction d with
  | zero =>
    intro i hd hi
    rw [List.drop_of_length_le (by omega)]
    exact Ev.step (f := fun _ => some true) (fun k => by rw [spec_l1All.l0, if_neg (by omega)]) (Ev.now _)
  | succ d ih =>
    intro i hd hi
    have hlt : i < l.length := by omega
    rw [drop_rd l i hlt, List.all_cons]
    cases hb : decide (a ≤ rd l (i : Int) ∧ rd l (i : Int) ≤ b) with
    | true =>
      rw [Bool.true_and]
      refine Ev.step (fun k => ?_) (ih (i + 1) (by omega) (by omega))
      rw [spec_l1All.l0, if_pos (by omega), if_pos (by omega), if_pos (by omega), l1In_val, hb]
      simp only [Option.bind_some, if_true]
      rw [w_succ i l.length hlt hn]
    | false =>
      rw [Bool.false_and]
      refine Ev.step (f := fun _ => some false) (fun k => ?_) (Ev.now _)
      rw [spec_l1All.l0, if_pos (by omega), if_pos (by omega), if_pos (by omega), l1In_val, hb]
      simp
theorem ev_all (l : List Int) (a b : Int) (hn : l.length ≤ 9223372036854775807) : Ev (fun k => spec_l1All.f k l a b) (l.all fun x => decide (a ≤ x ∧ x ≤ b)) := by
  unfold spec_l1All.f
  simpa using all_loop l a b hn l.length 0 (by omega) (by omega)
theorem up_loop (l : List Int) (hn : l.length ≤ 4) (d : Nat) : ∀ i : Nat, l.length - i = d → 1 ≤ i → ∃ b, Ev (fun k => spec_siGood.l0 k l (i : Int)) b ∧ (b = true ↔ ∀ j : Nat, i ≤ j → j < l.length → rd l ((j - 1 : Nat) : Int) ≤ rd l (j : Int)) := by
  induction d with
  | zero =>
    intro i hd hi
    exact ⟨true, Ev.step (f := fun _ => some true) (fun k => by rw [spec_siGood.l0, if_neg (by omega)]) (Ev.now _), ⟨fun _ j h1 h2 => by omega, fun _ => rfl⟩⟩
  | succ d ih =>
    intro i hd hi
    have hlt : i < l.length := by omega
    have e1 : wrap64 ((i : Int) - 1) = ((i - 1 : Nat) : Int) := by rw [w64 (by omega) (by omega)]; omega
    by_cases hc : rd l (i : Int) < rd l ((i - 1 : Nat) : Int)
    · refine ⟨false, Ev.step (f := fun _ => some false) (fun k => ?_) (Ev.now _), ⟨fun h => (by cases h), fun h => ?_⟩⟩
      · rw [spec_siGood.l0, if_pos (by omega), if_pos (by omega), e1, if_pos (by omega), if_pos (by omega), if_pos hc]
      · have := h i (Nat.le_refl _) hlt; omega
    · obtain ⟨b, hb, hiff⟩ := ih (i + 1) (by omega) (by omega)
      refine ⟨b, Ev.step (fun k => ?_) hb, hiff.trans ⟨fun h j h1 h2 => ?_, fun h j h1 h2 => h j (by omega) h2⟩⟩
      · rw [spec_siGood.l0, if_pos (by omega), if_pos (by omega), e1, if_pos (by omega), if_pos (by omega), if_neg hc, w_succ i l.length hlt (by omega)]
      · by_cases e : j = i
        · subst e; omega
        · exact h j (by omega) h2
theorem less_val (a b : Int) : cmp_Less_int.f a b = some (decide (a < b)) := by
  unfold cmp_Less_int.f cmp_isNaN_int.f
  simp
theorem down_loop (l : List Int) (hn : l.length ≤ 4) : ∀ i : Nat, i < l.length → ∃ b, Ev (fun k => slices_IsSorted_int_int.l0 k l (i : Int)) b ∧ (b = true ↔ ∀ j : Nat, 1 ≤ j → j ≤ i → rd l ((j - 1 : Nat) : Int) ≤ rd l (j : Int)) := by
  intro i
  induction i with
  | zero =>
    intro hi
    exact ⟨true, Ev.step (f := fun _ => some true) (fun k => by rw [slices_IsSorted_int_int.l0, if_neg (by omega)]) (Ev.now _), ⟨fun _ j h1 h2 => by omega, fun _ => rfl⟩⟩
  | succ i ih =>
    intro hi
    have e1 : wrap64 (((i + 1 : Nat) : Int) - 1) = (i : Int) := by rw [w64 (by omega) (by omega)]; omega
    by_cases hc : rd l ((i + 1 : Nat) : Int) < rd l (i : Int)
    · refine ⟨false, Ev.step (f := fun _ => some false) (fun k => ?_) (Ev.now _), ⟨fun h => (by cases h), fun h => ?_⟩⟩
      · rw [slices_IsSorted_int_int.l0, if_pos (by omega), if_pos (by omega), if_pos (by omega), e1, if_pos (by omega), if_pos (by omega), less_val, decide_eq_true hc]
        rfl
      · have := h (i + 1) (by omega) (Nat.le_refl _)
        rw [Nat.add_sub_cancel] at this
        omega
    · obtain ⟨b, hb, hiff⟩ := ih (by omega)
      refine ⟨b, Ev.step (fun k => ?_) hb, hiff.trans ⟨fun h j h1 h2 => ?_, fun h j h1 h2 => h j h1 (by omega)⟩⟩
      · rw [slices_IsSorted_int_int.l0, if_pos (by omega), if_pos (by omega), if_pos (by omega), e1, if_pos (by omega), if_pos (by omega), less_val, decide_eq_false hc]
        rfl
      · by_cases e : j = i + 1
        · subst e
          rw [Nat.add_sub_cancel]
          omega
        · exact h j h1 (by omega)
theorem bool_eq {a b : Bool} {P : Prop} (h : a = true ↔ P) (h' : b = true ↔ P) : a = b := by rw [Bool.eq_iff_iff, h, h']
theorem ev_set (l : List Int) (hn : l.length ≤ 9223372036854775807) : ∃ b, Ev (fun k => spec_siGood.f k l) b ∧ Ev (fun k => impl_isSet.f k l) b ∧ (b = true ↔ SetP l) := by
  unfold spec_siGood.f impl_isSet.f SetP
  rw [l1In_val, between_val]
  simp only [Option.bind_some]
  have sno : Ev (fun k => spec_siGood.j0 k l true) false := Ev.step (f := fun _ => some false) (fun k => by rw [spec_siGood.j0, if_pos rfl]) (Ev.now _)
  by_cases h : 1 ≤ l.length ∧ l.length ≤ 4
  · rw [decide_eq_true (show (1 : Int) ≤ (l.length : Int) ∧ (l.length : Int) ≤ 4 by omega)]
    simp only [if_true]
    have ha := ev_all l 1 20 hn
    cases hall : (l.all fun x => decide ((1 : Int) ≤ x ∧ x ≤ 20)) with
    | false =>
      rw [hall] at ha
      refine ⟨false, Ev.bind ha ?_, ?_, ⟨fun h => (by cases h), fun h => ?_⟩⟩
      · simp only [Bool.not_false]; exact sno
      · unfold impl_areBetween.f
        rw [hall]
        simp only [Option.bind_some, Bool.false_eq_true, if_false]
        exact Ev.now _
      · have : (l.all fun x => decide ((1 : Int) ≤ x ∧ x ≤ 20)) = true := by
          rw [List.all_eq_true]
          exact fun x hx => decide_eq_true (h.2.1 x hx)
        rw [hall] at this
        cases this
    | true =>
      rw [hall] at ha
      have hx : ∀ x ∈ l, 1 ≤ x ∧ x ≤ 20 := fun x hx => of_decide_eq_true ((List.all_eq_true.1 hall) x hx)
      obtain ⟨b, hb, hiff⟩ := up_loop l h.2 (l.length - 1) 1 rfl (by omega)
      obtain ⟨c, hc, hiff'⟩ := down_loop l h.2 (l.length - 1) (by omega)
      have hP : c = true ↔ ∀ j : Nat, 1 ≤ j → j < l.length → rd l ((j - 1 : Nat) : Int) ≤ rd l (j : Int) := hiff'.trans ⟨fun g j h1 h2 => g j h1 (by omega), fun g j h1 h2 => g j h1 (by omega)⟩
      have hbc : c = b := bool_eq hP hiff
      subst hbc
      refine ⟨c, Ev.bind ha ?_, ?_, ?_⟩
      · simp only [Bool.not_true]
        refine Ev.step (fun k => by rw [spec_siGood.j0, if_neg (by simp)]) ?_
        exact hb
      · unfold impl_areBetween.f
        rw [hall]
        simp only [Option.bind_some, if_true]
        unfold slices_IsSorted_int_int.f
        have e1 : wrap64 ((l.length : Int) - 1) = ((l.length - 1 : Nat) : Int) := by rw [w64 (by omega) (by omega)]; omega
        rw [e1]
        exact Ev.bind hc (Ev.now _)
      · rw [hP]
        exact ⟨fun g => ⟨h, hx, g⟩, fun g => g.2.2⟩
  · rw [decide_eq_false (show ¬ ((1 : Int) ≤ (l.length : Int) ∧ (l.length : Int) ≤ 4) by omega)]
    simp only [Bool.false_eq_true, if_false]
    exact ⟨false, sno, Ev.now _, ⟨fun h => (by cases h), fun g => absurd g.1 h⟩⟩

theorem rd_set_ne (xs : List Int) (i j : Nat) (v : Int) (h : i ≠ j) : rd (xs.set i v) (j : Int) = rd xs (j : Int) := by
  simp only [rd, Int.toNat_natCast, List.getD_eq_getElem?_getD, List.getElem?_set]
  rw [if_neg h]
theorem rd_set_eq (xs : List Int) (i : Nat) (v : Int) (h : i < xs.length) : rd (xs.set i v) (i : Int) = v := by
  simp [rd, List.getD_eq_getElem?_getD, List.getElem?_set, h]
end Go.Proofs.YtlbnhjeblknepaaGreat.Pure
/- Chapter 4, plain: what is drawn. No condition beyond those typed at each lemma. -/
namespace Go.Proofs.YtlbnhjeblknepaaGreat.Pure
open Go.RowKit Go.Proofs.YtlbnhjeblknepaaGreat.E Go.Proofs.YtlbnhjeblknepaaGreatW.PrintWords Go.Proofs.YtlbnhjeblknepaaGreatW.PrintLast
set_option linter.unusedVariables false
set_option linter.unusedSimpArgs false

theorem and255 (a : Int) (h : 0 ≤ a) (h1 : a ≤ 18446744073709551615) : 0 ≤ Go.bits .and .u64 a 255 ∧ Go.bits .and .u64 a 255 ≤ 255 := by
  obtain ⟨n, rfl⟩ : ∃ n : Nat, a = n := ⟨a.toNat, by omega⟩
  rw [show (255 : Int) = ((255 : Nat) : Int) from rfl, bits_and_u64_nat _ _ (by omega) (by omega)]
  have := Nat.and_le_right (n := n) (m := 255)
  omega
/-- bytes -/
def Bytes (l : List Int) : Prop := ∀ x ∈ l, 0 ≤ x ∧ x ≤ 255
theorem rd_byte {l : List Int} (hl : Bytes l) (i : Int) : 0 ≤ rd l i ∧ rd l i ≤ 255 := by
  unfold rd
  rw [List.getD_eq_getElem?_getD]
  cases h : l[i.toNat]? with
  | none => simp
  | some x => exact hl x (List.mem_of_getElem? h)
theorem u64r (x : Int) : 0 ≤ IntKind.u64.wrap x ∧ IntKind.u64.wrap x ≤ 18446744073709551615 := by
  rw [IntKind.wrap_u64]
  omega
theorem next_some {l : List Int} (hl : Bytes l) (at_ s : Int) (h0 : 0 ≤ at_) (h1 : at_ ≤ 1000000000000) : ∃ b s', spec_l1Cur_next.f l at_ s = some (b, at_ + 1, s') ∧ 0 ≤ b ∧ b ≤ 255 := by
  have e : wrap64 (at_ + 1) = at_ + 1 := w64 (by omega) (by omega)
  have hr := rd_byte hl at_
  have e2 : wrap64 (rd l at_) = rd l at_ := w64 (by omega) (by omega)
  have hsh : ∀ x : Int, ∃ b : Int, wrap64 (Go.bits .and .u64 (IntKind.u64.wrap x / 1099511627776) 255) = b ∧ 0 ≤ b ∧ b ≤ 255 := by
    intro x
    have h := u64r x
    have := and255 (IntKind.u64.wrap x / 1099511627776) (by omega) (by omega)
    exact ⟨_, w64 (by omega) (by omega), this.1, this.2⟩
  unfold spec_l1Cur_next.f
  rw [e, e2]
  by_cases c1 : at_ < (l.length : Int)
  · rw [if_pos c1, if_pos h0]
    by_cases c2 : at_ + 1 ≤ (l.length : Int)
    · rw [if_pos c2]; exact ⟨_, _, rfl, hr.1, hr.2⟩
    · omega
  · rw [if_neg c1, if_neg (by omega)]
    obtain ⟨b, hb, h2⟩ := hsh ((IntKind.u64.wrap (IntKind.u64.wrap (s * 6364136223846793005))) + 1442695040888963407)
    exact ⟨b, _, by rw [hb], h2⟩
theorem pick_some {l : List Int} (hl : Bytes l) (at_ s n : Int) (h0 : 0 ≤ at_) (h1 : at_ ≤ 1000000000000) (hn : 1 ≤ n) (hn2 : n ≤ 200) : ∃ x a' s', spec_l1Cur_pick.f l at_ s n = some (x, a', s') ∧ 0 ≤ x ∧ x < n ∧ at_ ≤ a' ∧ a' ≤ at_ + 1 := by
  unfold spec_l1Cur_pick.f
  by_cases c : n ≤ 1
  · rw [if_pos c]; exact ⟨0, at_, s, rfl, by omega, by omega, by omega, by omega⟩
  · rw [if_neg c]
    obtain ⟨b, s', h, hb0, hb1⟩ := next_some hl at_ s h0 h1
    rw [h]
    simp only [Option.bind_some]
    rw [if_neg (by omega), if_neg (by omega)]
    refine ⟨_, _, _, rfl, ?_, ?_, by omega, by omega⟩
    · rw [Int.tmod_eq_emod_of_nonneg hb0]; exact Int.emod_nonneg _ (by omega)
    · rw [Int.tmod_eq_emod_of_nonneg hb0]; exact Int.emod_lt_of_pos _ (by omega)
theorem among_some {l : List Int} (hl : Bytes l) (at_ s : Int) (xs : List Int) (h0 : 0 ≤ at_) (h1 : at_ ≤ 1000000000000) (hx : 1 ≤ xs.length) (hx2 : xs.length ≤ 200) : ∃ x a' s', spec_l1Cur_among.f l at_ s xs = some (x, a', s') ∧ at_ ≤ a' ∧ a' ≤ at_ + 1 := by
  obtain ⟨x, a', s', h, hx0, hx1, ha, ha2⟩ := pick_some hl at_ s (xs.length : Int) h0 h1 (by omega) (by omega)
  unfold spec_l1Cur_among.f
  rw [h]
  simp only [Option.bind_some]
  rw [if_pos hx0, if_pos hx1]
  exact ⟨_, _, _, rfl, ha, ha2⟩
theorem pick_big {l : List Int} (hl : Bytes l) (at_ s n : Int) (h0 : 0 ≤ at_) (h1 : at_ ≤ 1000000000) (hn : 201 ≤ n) (hn2 : n ≤ 60000) : ∃ x a' s', spec_l1Cur_pick.f l at_ s n = some (x, a', s') ∧ 0 ≤ x ∧ x < n ∧ at_ ≤ a' ∧ a' ≤ at_ + 2 := by
  unfold spec_l1Cur_pick.f
  rw [if_neg (by omega)]
  obtain ⟨b, s', h, hb0, hb1⟩ := next_some hl at_ s h0 (by omega)
  rw [h]
  simp only [Option.bind_some]
  rw [if_pos (by omega)]
  obtain ⟨b2, s2, h2, hc0, hc1⟩ := next_some hl (at_ + 1) s' (by omega) (by omega)
  rw [h2]
  simp only [Option.bind_some]
  rw [if_neg (by omega), w64 (x := b * 256) (by omega) (by omega), w64 (x := b * 256 + b2) (by omega) (by omega)]
  refine ⟨_, _, _, rfl, ?_, ?_, by omega, by omega⟩
  · rw [Int.tmod_eq_emod_of_nonneg (by omega)]; exact Int.emod_nonneg _ (by omega)
  · rw [Int.tmod_eq_emod_of_nonneg (by omega)]; exact Int.emod_lt_of_pos _ (by omega)
theorem one_some {l : List Int} (hl : Bytes l) (at_ s n : Int) (h0 : 0 ≤ at_) (h1 : at_ ≤ 1000000000000) (hn : 1 ≤ n) (hn2 : n ≤ 200) : ∃ b a' s', spec_l1Cur_one.f l at_ s n = some (b, a', s') ∧ at_ ≤ a' ∧ a' ≤ at_ + 1 := by
  obtain ⟨x, a', s', h, _, _, p, q⟩ := pick_some hl at_ s n h0 h1 hn hn2
  unfold spec_l1Cur_one.f
  rw [h]
  exact ⟨_, _, _, rfl, p, q⟩
theorem sure_loop {l : List Int} (hl : Bytes l) (d : Nat) : ∀ (xs : List Int) (age q at_ s : Int), q = d → xs.length + d ≤ 4 → (1 ≤ age ∧ age ≤ 20) → Ages xs → 0 ≤ at_ → at_ + d ≤ 100000000 → ∃ r a' s', Ev (fun n => spec_l1Cur_sureSet.l0 n age xs q l at_ s) (r, a', s') ∧ r.length = xs.length + d ∧ Ages r ∧ at_ ≤ a' ∧ a' ≤ at_ + d := by
  induction d with
  | zero =>
    intro xs age q at_ s hq hx ha hg h0 h1
    exact ⟨xs, at_, s, Ev.step (f := fun _ => some (xs, at_, s)) (fun n => by rw [spec_l1Cur_sureSet.l0, if_neg (by omega)]) (Ev.now _), by omega, hg, by omega, by omega⟩
  | succ d ih =>
    intro xs age q at_ s hq hx ha hg h0 h1
    obtain ⟨x, a1, s1, e1, p1, p2, l1, u1⟩ := pick_some hl at_ s 5 h0 (by omega) (by omega) (by omega)
    obtain ⟨v, hv, v1, v2⟩ : ∃ v, spec_l1Least.f 20 (wrap64 (age + x)) = some v ∧ 1 ≤ v ∧ v ≤ 20 := by
      rw [w64 (x := age + x) (by omega) (by omega)]
      unfold spec_l1Least.f
      by_cases c : 20 < age + x
      · rw [if_pos c]; exact ⟨20, rfl, by omega, by omega⟩
      · rw [if_neg c]; exact ⟨_, rfl, by omega, by omega⟩
    obtain ⟨r, a', s', hr, hlen, hage, hl2, hu2⟩ := ih (xs ++ [v]) v (q - 1) a1 s1 (by omega) (by simp; omega) ⟨v1, v2⟩ (hg.snoc v1 v2) (by omega) (by omega)
    refine ⟨r, a', s', Ev.step (fun n => ?_) hr, by rw [hlen]; simp; omega, hage, by omega, by omega⟩
    rw [spec_l1Cur_sureSet.l0, if_pos (by omega), e1]
    simp only [Option.bind_some]
    rw [hv]
    simp only [Option.bind_some]
    rw [if_pos (by omega), w64 (x := q - 1) (by omega) (by omega)]
theorem sure_some {l : List Int} (hl : Bytes l) (at_ s : Int) (h0 : 0 ≤ at_) (h1 : at_ ≤ 1000000) : ∃ r a' s', Ev (fun n => spec_l1Cur_sureSet.f n l at_ s) (r, a', s') ∧ 1 ≤ r.length ∧ r.length ≤ 4 ∧ Ages r ∧ at_ ≤ a' ∧ a' ≤ at_ + 10 := by
  unfold spec_l1Cur_sureSet.f
  obtain ⟨x, a1, s1, e1, p1, q1, l1, u1⟩ := pick_some hl at_ s 6 h0 (by omega) (by omega) (by omega)
  rw [e1]
  simp only [Option.bind_some]
  obtain ⟨y, a2, s2, e2, p2, q2, l2, u2⟩ := pick_some hl a1 s1 4 (by omega) (by omega) (by omega) (by omega)
  rw [e2]
  simp only [Option.bind_some]
  rw [w64 (x := 1 + x) (by omega) (by omega)]
  obtain ⟨r, a', s', hr, hlen, hage, hl2, hu2⟩ := sure_loop hl y.toNat [1 + x] (1 + x) y a2 s2 (by omega) (by simp; omega) ⟨by omega, by omega⟩ (fun z hz => by rw [List.mem_singleton] at hz; omega) (by omega) (by omega)
  simp only [List.length_singleton] at hlen
  exact ⟨r, a', s', hr, by omega, by omega, hage, by omega, by omega⟩
theorem set_some {l : List Int} (hl : Bytes l) (at_ s : Int) (h0 : 0 ≤ at_) (h1 : at_ ≤ 1000000) : ∃ r a' s', Ev (fun n => spec_l1Cur_set.f n l at_ s) (r, a', s') ∧ r.length ≤ 5 ∧ at_ ≤ a' ∧ a' ≤ at_ + 20 := by
  unfold spec_l1Cur_set.f
  obtain ⟨xs, a0, s0, h, _, hx4, _, l0, u0⟩ := sure_some hl at_ s h0 h1
  obtain ⟨x, a1, s1, e1, p1, q1, l1, u1⟩ := pick_some hl a0 s0 16 (by omega) (by omega) (by omega) (by omega)
  by_cases c0 : x = 0
  · refine ⟨[], a1, s1, Ev.bind h ?_, by simp, by omega, by omega⟩
    simp only [e1, Option.bind_some, if_pos c0]
    exact Ev.now _
  · by_cases c1 : x = 1
    · obtain ⟨v, a2, s2, e2, l2, u2⟩ := among_some hl a1 s1 [(-1), 0, 1, 20, 21, 4611686018427387904] (by omega) (by omega) (by simp) (by simp)
      refine ⟨xs ++ [v], a2, s2, Ev.bind h ?_, by simp; omega, by omega, by omega⟩
      simp only [e1, Option.bind_some, if_neg c0, if_pos c1, e2, if_pos (show xs.length < 17592186044416 by omega)]
      exact Ev.now _
    · by_cases c2 : x = 2
      · obtain ⟨y, a2, s2, e2, _, _, l2, u2⟩ := pick_some hl a1 s1 21 (by omega) (by omega) (by omega) (by omega)
        refine ⟨[y, 20, 20, 20], a2, s2, Ev.bind h ?_, by simp, by omega, by omega⟩
        simp only [e1, Option.bind_some, if_neg c0, if_neg c1, if_pos c2, e2]
        exact Ev.now _
      · refine ⟨xs, a1, s1, Ev.bind h ?_, by omega, by omega, by omega⟩
        simp only [e1, Option.bind_some, if_neg c0, if_neg c1, if_neg c2]
        exact Ev.now _
theorem summed_some {l : List Int} (hl : Bytes l) (at_ s : Int) (h0 : 0 ≤ at_) (h1 : at_ ≤ 1000000) : ∃ c t a' s', spec_l1Cur_summed.f l at_ s = some (c, t, a', s') ∧ at_ ≤ a' ∧ a' ≤ at_ + 10 := by
  unfold spec_l1Cur_summed.f
  obtain ⟨b, a1, s1, e1, l1, u1⟩ := one_some hl at_ s 10 h0 (by omega) (by omega) (by omega)
  rw [e1]
  simp only [Option.bind_some]
  cases b with
  | true =>
    obtain ⟨v, a2, s2, e2, l2, u2⟩ := among_some hl a1 s1 [(-1), 0, 1, 4, 5] (by omega) (by omega) (by simp) (by simp)
    obtain ⟨v3, a3, s3, e3, l3, u3⟩ := among_some hl a2 s2 [(-1), 0, 1, 80, 81, 4611686018427387904] (by omega) (by omega) (by simp) (by simp)
    simp only [if_true, e2, e3, Option.bind_some]
    exact ⟨_, _, _, _, rfl, by omega, by omega⟩
  | false =>
    obtain ⟨v, a2, s2, e2, _, _, l2, u2⟩ := pick_some hl a1 s1 4 (by omega) (by omega) (by omega) (by omega)
    obtain ⟨v3, a3, s3, e3, _, _, l3, u3⟩ := pick_some hl a2 s2 30 (by omega) (by omega) (by omega) (by omega)
    simp only [Bool.false_eq_true, if_false, e2, e3, Option.bind_some]
    exact ⟨_, _, _, _, rfl, by omega, by omega⟩
theorem drawIs {l : List Int} (hl : Bytes l) : ∃ r, Ev (fun k => spec_DrawIsSet.f k l) r ∧ r.length ≤ 5 := by
  obtain ⟨r, a', s', h, h5, _, _⟩ := set_some hl 0 0 (by omega) (by omega)
  refine ⟨r, ?_, h5⟩
  unfold spec_DrawIsSet.f
  exact Ev.bind h (Ev.now _)
theorem drawOne {l : List Int} (hl : Bytes l) : ∃ c f t, spec_DrawOneByOldest.f l = some (c, f, t) := by
  unfold spec_DrawOneByOldest.f
  obtain ⟨b, a1, s1, e1, l1, u1⟩ := one_some hl 0 0 8 (by omega) (by omega) (by omega) (by omega)
  rw [e1]
  simp only [Option.bind_some]
  cases b with
  | true =>
    obtain ⟨v, a2, s2, e2, l2, u2⟩ := among_some hl a1 s1 [(-1), 0, 1, 4, 5] (by omega) (by omega) (by simp) (by simp)
    obtain ⟨v3, a3, s3, e3, l3, u3⟩ := among_some hl a2 s2 [(-1), 0, 1, 159990] (by omega) (by omega) (by simp) (by simp)
    obtain ⟨v4, a4, s4, e4, l4, u4⟩ := among_some hl a3 s3 [(-1), 0, 1, 20, 160000, 160001] (by omega) (by omega) (by simp) (by simp)
    simp only [if_true, e2, e3, e4, Option.bind_some]
    exact ⟨_, _, _, rfl⟩
  | false =>
    obtain ⟨v, a2, s2, e2, _, _, l2, u2⟩ := pick_big hl a1 s1 250 (by omega) (by omega) (by omega) (by omega)
    obtain ⟨v3, a3, s3, e3, _, _, l3, u3⟩ := pick_some hl a2 s2 4 (by omega) (by omega) (by omega) (by omega)
    obtain ⟨v4, a4, s4, e4, _, _, l4, u4⟩ := pick_some hl a3 s3 40 (by omega) (by omega) (by omega) (by omega)
    obtain ⟨v5, a5, s5, e5, _, _, l5, u5⟩ := pick_some hl a4 s4 9 (by omega) (by omega) (by omega) (by omega)
    simp only [Bool.false_eq_true, if_false, e2, e3, e4, e5, Option.bind_some]
    exact ⟨_, _, _, rfl⟩
end Go.Proofs.YtlbnhjeblknepaaGreat.Pure
/- Chapter 4, plain: the sets that are found by dividing a product are the sets of so many children with that product, in order. No condition beyond those typed at each lemma. -/
namespace Go.Proofs.YtlbnhjeblknepaaGreat.Pure
open Go.RowKit Go.Proofs.YtlbnhjeblknepaaGreat.E Go.Proofs.YtlbnhjeblknepaaGreatW.PrintWords Go.Proofs.YtlbnhjeblknepaaGreatW.PrintLast
set_option linter.unusedVariables false
set_option linter.unusedSimpArgs false

theorem prodL_snoc (l : List Int) (a : Int) : prodL (l ++ [a]) = prodL l * a := by simp [prodL]
theorem prodL_pos (l : List Int) (h : Ages l) : 1 ≤ prodL l := by
  have key : ∀ (l : List Int) (acc : Int), Ages l → 1 ≤ acc → 1 ≤ l.foldl (· * ·) acc := by
    intro l
    induction l with
    | nil => intro acc _ h; exact h
    | cons x r ih =>
      intro acc hl hacc
      rw [List.foldl_cons]
      refine ih _ (fun y hy => hl y (List.mem_cons_of_mem _ hy)) ?_
      have hx := (hl x (List.mem_cons_self ..)).1
      have := Int.mul_le_mul hacc hx (by omega) (by omega)
      omega
  exact key l 1 h (by omega)
theorem mem_allSets_prod (n : Nat) : ∀ (l s : List Int), Ages l → s ∈ allSets n l → ∃ k, prodL s = prodL l * k := by
  induction n with
  | zero =>
    intro l s _ hs
    obtain rfl : s = l := by simpa [allSets] using hs
    exact ⟨1, by omega⟩
  | succ n ih =>
    intro l s hl hs
    have hf := hl.from_
    simp only [allSets, List.mem_flatten, List.mem_map, List.mem_range] at hs
    obtain ⟨_, ⟨i, hi, rfl⟩, hs⟩ := hs
    obtain ⟨k, hk⟩ := ih _ s (hl.snoc (by omega) (by omega)) hs
    exact ⟨(fromOf l + (i : Int)) * k, by rw [hk, prodL_snoc, Int.mul_assoc]⟩
theorem look_eq (n : Nat) : ∀ (left : Int) (l : List Int), Ages l → lookSets n left l = (allSets n l).filter (fun s => decide (prodL s = prodL l * left)) := by
  induction n with
  | zero =>
    intro left l hl
    have hp := prodL_pos l hl
    unfold lookSets allSets
    by_cases h : left = 1
    · rw [if_pos h]; simp [h]
    · rw [if_neg h]
      have : ¬ prodL l = prodL l * left := by
        intro e
        have e2 : prodL l * left = prodL l * 1 := by omega
        exact h (Int.eq_of_mul_eq_mul_left (by omega) e2)
      simp [this]
  | succ n ih =>
    intro left l hl
    have hf := hl.from_
    have hp := prodL_pos l hl
    rw [show allSets (n + 1) l = ((List.range (21 - fromOf l).toNat).map fun i : Nat => allSets n (l ++ [fromOf l + (i : Int)])).flatten from rfl, List.filter_flatten, List.map_map]
    show ((List.range (21 - fromOf l).toNat).map _).flatten = _
    congr 1
    apply List.map_congr_left
    intro i hi
    rw [List.mem_range] at hi
    have hA : Ages (l ++ [fromOf l + (i : Int)]) := hl.snoc (by omega) (by omega)
    simp only [Function.comp_apply]
    by_cases hm : left.tmod (fromOf l + (i : Int)) = 0
    · rw [if_pos hm, ih _ _ hA]
      have e := Int.mul_tdiv_add_tmod left (fromOf l + (i : Int))
      rw [hm, Int.add_zero] at e
      rw [prodL_snoc, Int.mul_assoc, e]
    · rw [if_neg hm]
      symm
      rw [List.filter_eq_nil_iff]
      intro s hs
      obtain ⟨k, hk⟩ := mem_allSets_prod n _ s hA hs
      simp only [decide_eq_true_eq]
      rw [hk, prodL_snoc, Int.mul_assoc]
      intro e
      have e2 := Int.eq_of_mul_eq_mul_left (by omega) e
      exact hm (by rw [← e2]; exact Int.mul_tmod_right _ _)
theorem look_all (n : Nat) (t : Int) : lookSets n t [] = (allSets n []).filter (hasProd t) := by
  rw [look_eq n t [] (fun x hx => by simp at hx)]
  congr 1
  funext s
  show decide (prodL s = 1 * t) = decide (prodL s = t)
  rw [Int.one_mul]
theorem siChildren_val (c p : Int) : spec_siChildren.f c p = some (decide (1 ≤ c ∧ c ≤ 4 ∧ 1 ≤ p ∧ p ≤ 160000)) := by
  unfold spec_siChildren.f
  rw [l1In_val, Option.bind_some]
  by_cases h : 1 ≤ c ∧ c ≤ 4
  · rw [decide_eq_true h, if_pos rfl, l1In_val]; simp [h]
  · rw [decide_eq_false h, if_neg (by simp)]; simp; omega
theorem siSets_val (c p : Int) (h : 1 ≤ c ∧ c ≤ 4 ∧ 1 ≤ p ∧ p ≤ 160000) : spec_siSets.f c p = some ((allSets c.toNat []).filter (hasProd p)) := by
  unfold spec_siSets.f
  rw [if_pos (by omega), look_all]
end Go.Proofs.YtlbnhjeblknepaaGreat.Pure
/- Chapter 4, plain: what the laws' own helpers answer. No condition beyond those typed at each lemma. -/
namespace Go.Proofs.YtlbnhjeblknepaaGreat.Pure
open Go.RowKit Go.Proofs.YtlbnhjeblknepaaGreat.E Go.Proofs.YtlbnhjeblknepaaGreatW.PrintWords Go.Proofs.YtlbnhjeblknepaaGreatW.PrintLast
set_option linter.unusedVariables false
set_option linter.unusedSimpArgs false

theorem qSame_loop (a b : List Int) (hl : a.length = b.length) (hn : a.length ≤ 1000000) (d : Nat) : ∀ i : Nat, a.length - i = d → i ≤ a.length → Ev (fun k => laws_qSame.l0 k a b (a.length : Int) (i : Int)) (decide (a.drop i = b.drop i)) := by
  induction d with
  | zero =>
    intro i hd hi
    obtain rfl : i = a.length := by omega
    rw [List.drop_of_length_le (Nat.le_refl _), List.drop_of_length_le (by omega)]
    exact Ev.step (f := fun _ => some true) (fun k => by rw [laws_qSame.l0, if_neg (by omega)]) (Ev.now _)
  | succ d ih =>
    intro i hd hi
    have hlt : i < a.length := by omega
    have hlt2 : i < b.length := by omega
    have e1 : wrap64 ((i : Int) + 1) = ((i + 1 : Nat) : Int) := w_succ i a.length hlt (by omega)
    have ih1 := ih (i + 1) (by omega) (by omega)
    rw [drop_rd a i hlt, drop_rd b i hlt2]
    by_cases e : rd a (i : Int) = rd b (i : Int)
    · rw [e]
      have : decide (rd b (i : Int) :: a.drop (i + 1) = rd b (i : Int) :: b.drop (i + 1)) = decide (a.drop (i + 1) = b.drop (i + 1)) := by
        congr 1; simp
      rw [this]
      exact Ev.step (fun k => by rw [laws_qSame.l0, if_pos (by omega), if_pos (by omega), if_pos (by omega), if_pos (by omega), if_pos e, e1]) ih1
    · rw [decide_eq_false (fun h => e (List.cons.inj h).1)]
      exact Ev.step (f := fun _ => some false) (fun k => by rw [laws_qSame.l0, if_pos (by omega), if_pos (by omega), if_pos (by omega), if_pos (by omega), if_neg e]) (Ev.now _)
theorem ev_qSame (a b : List Int) (hn : a.length ≤ 1000000) : Ev (fun k => laws_qSame.f k a b) (decide (a = b)) := by
  unfold laws_qSame.f
  by_cases h : a.length = b.length
  · simp only [if_pos (show (a.length : Int) = (b.length : Int) by omega)]
    have := qSame_loop a b h hn a.length 0 (by omega) (by omega)
    simpa using this
  · simp only [if_neg (show ¬ (a.length : Int) = (b.length : Int) by omega)]
    rw [decide_eq_false (fun e => h (by rw [e]))]
    exact Ev.now _
theorem ev_qSame_self (a : List Int) (hn : a.length ≤ 1000000) : Ev (fun k => laws_qSame.f k a a) true := by
  have := ev_qSame a a hn
  rwa [decide_eq_true rfl] at this
theorem rowAt (xs : List (List Int)) (i : Nat) (h : i < xs.length) : rd_L2 xs (i : Int) = xs[i] := by
  simp [rd_L2, List.getD, List.getElem?_eq_getElem h]
theorem qRows_loop (xs : List (List Int)) (hn : xs.length ≤ 1000000) (hr : ∀ x ∈ xs, x.length ≤ 1000000) (d : Nat) : ∀ i : Nat, xs.length - i = d → i ≤ xs.length → Ev (fun k => laws_qRows.l0 k xs xs (xs.length : Int) (i : Int)) true := by
  induction d with
  | zero =>
    intro i hd hi
    exact Ev.step (f := fun _ => some true) (fun k => by rw [laws_qRows.l0, if_neg (by omega)]) (Ev.now _)
  | succ d ih =>
    intro i hd hi
    have hlt : i < xs.length := by omega
    have e1 : wrap64 ((i : Int) + 1) = ((i + 1 : Nat) : Int) := w_succ i xs.length hlt (by omega)
    refine Ev.step (fun k => by rw [laws_qRows.l0, if_pos (by omega), if_pos (by omega), if_pos (by omega), if_pos (by omega), rowAt xs i hlt]) ?_
    refine Ev.bind (ev_qSame_self xs[i] (hr _ (List.getElem_mem hlt))) ?_
    simp only [if_true, e1]
    exact ih (i + 1) (by omega) (by omega)
theorem ev_qRows (xs : List (List Int)) (hn : xs.length ≤ 1000000) (hr : ∀ x ∈ xs, x.length ≤ 1000000) : Ev (fun k => laws_qRows.f k xs xs) true := by
  unfold laws_qRows.f
  simp only [if_true]
  exact qRows_loop xs hn hr xs.length 0 (by omega) (by omega)
theorem qRises_loop (l : List Int) (hn : l.length ≤ 1000000) (hp : l.Pairwise (· < ·)) (d : Nat) : ∀ i : Nat, l.length - i = d → 1 ≤ i → Ev (fun k => laws_qRises.l0 k l (i : Int)) true := by
  induction d with
  | zero =>
    intro i hd hi
    exact Ev.step (f := fun _ => some true) (fun k => by rw [laws_qRises.l0, if_neg (by omega)]) (Ev.now _)
  | succ d ih =>
    intro i hd hi
    have hlt : i < l.length := by omega
    have e1 : wrap64 ((i : Int) + 1) = ((i + 1 : Nat) : Int) := w_succ i l.length hlt (by omega)
    have e2 : wrap64 ((i : Int) - 1) = ((i - 1 : Nat) : Int) := by rw [w64 (by omega) (by omega)]; omega
    have h := List.pairwise_iff_getElem.1 hp (i - 1) i (by omega) hlt (by omega)
    rw [← rd_at l i hlt, ← rd_at l (i - 1) (by omega)] at h
    exact Ev.step (fun k => by rw [laws_qRises.l0, e2, e1, if_pos (by omega), if_pos (by omega), if_pos (by omega), if_pos (by omega), if_neg (by omega)]) (ih (i + 1) (by omega) (by omega))
theorem ev_qRises (l : List Int) (hn : l.length ≤ 1000000) (hp : l.Pairwise (· < ·)) : Ev (fun k => laws_qRises.f k l) true :=
  qRises_loop l hn hp (l.length - 1) 1 rfl (by omega)
/-- One list is before another one, where they first differ. -/
def LexP (a b : List Int) : Prop := ∃ i : Nat, i < a.length ∧ i < b.length ∧ (∀ j : Nat, j < i → rd a (j : Int) = rd b (j : Int)) ∧ rd a (i : Int) < rd b (i : Int)
theorem qBefore_loop (a b : List Int) (hn : a.length ≤ 1000000) (i : Nat) (h1 : i < a.length) (h2 : i < b.length) (h3 : ∀ j : Nat, j < i → rd a (j : Int) = rd b (j : Int)) (h4 : rd a (i : Int) < rd b (i : Int)) (d : Nat) : ∀ j : Nat, i - j = d → j ≤ i → Ev (fun k => laws_qBefore.l0 k a b a (a.length : Int) (j : Int)) true := by
  induction d with
  | zero =>
    intro j hd hj
    obtain rfl : j = i := by omega
    exact Ev.step (f := fun _ => some true) (fun k => by rw [laws_qBefore.l0, if_pos (by omega), if_pos (by omega), if_pos (by omega), if_neg (by omega), if_pos (by omega), if_neg (by omega), decide_eq_true h4]) (Ev.now _)
  | succ d ih =>
    intro j hd hj
    have hlt : j < a.length := by omega
    have e1 : wrap64 ((j : Int) + 1) = ((j + 1 : Nat) : Int) := w_succ j a.length hlt (by omega)
    exact Ev.step (fun k => by rw [laws_qBefore.l0, if_pos (by omega), if_pos (by omega), if_pos (by omega), if_neg (by omega), if_pos (by omega), if_pos (h3 j (by omega)), e1]) (ih (j + 1) (by omega) (by omega))
theorem ev_qBefore (a b : List Int) (hn : a.length ≤ 1000000) (h : LexP a b) : Ev (fun k => laws_qBefore.f k a b) true := by
  obtain ⟨i, h1, h2, h3, h4⟩ := h
  exact qBefore_loop a b hn i h1 h2 h3 h4 i 0 (by omega) (by omega)
theorem qOrdered_loop (xs : List (List Int)) (hn : xs.length ≤ 1000000) (hr : ∀ x ∈ xs, x.length ≤ 1000000) (hp : xs.Pairwise LexP) (d : Nat) : ∀ i : Nat, xs.length - i = d → 1 ≤ i → Ev (fun k => laws_qOrdered.l0 k xs (i : Int)) true := by
  induction d with
  | zero =>
    intro i hd hi
    exact Ev.step (f := fun _ => some true) (fun k => by rw [laws_qOrdered.l0, if_neg (by omega)]) (Ev.now _)
  | succ d ih =>
    intro i hd hi
    have hlt : i < xs.length := by omega
    have hlt1 : i - 1 < xs.length := by omega
    have e1 : wrap64 ((i : Int) + 1) = ((i + 1 : Nat) : Int) := w_succ i xs.length hlt (by omega)
    have e2 : wrap64 ((i : Int) - 1) = ((i - 1 : Nat) : Int) := by rw [w64 (by omega) (by omega)]; omega
    have h := List.pairwise_iff_getElem.1 hp (i - 1) i hlt1 hlt (by omega)
    refine Ev.step (fun k => by rw [laws_qOrdered.l0, e2, e1, if_pos (by omega), if_pos (by omega), if_pos (by omega), if_pos (by omega), rowAt xs i hlt, rowAt xs (i - 1) hlt1]) ?_
    refine Ev.bind (ev_qBefore _ _ (hr _ (List.getElem_mem hlt1)) h) ?_
    simp only [if_true]
    exact ih (i + 1) (by omega) (by omega)
theorem ev_qOrdered (xs : List (List Int)) (hn : xs.length ≤ 1000000) (hr : ∀ x ∈ xs, x.length ≤ 1000000) (hp : xs.Pairwise LexP) : Ev (fun k => laws_qOrdered.f k xs) true :=
  qOrdered_loop xs hn hr hp (xs.length - 1) 1 rfl (by omega)
theorem sumL_cons (a : Int) (l : List Int) (acc : Int) : (a :: l).foldl (· + ·) acc = l.foldl (· + ·) (acc + a) := rfl
theorem qSum_loop (l : List Int) (ha : Ages l) (h4 : l.length ≤ 4) (d : Nat) : ∀ (i : Nat) (acc : Int), l.length - i = d → i ≤ l.length → 0 ≤ acc → acc ≤ 100 * (i : Int) → Ev (fun k => laws_qSum.l0 k acc l (l.length : Int) (i : Int)) ((l.drop i).foldl (· + ·) acc) := by
  induction d with
  | zero =>
    intro i acc hd hi h0 h1
    rw [List.drop_of_length_le (by omega)]
    exact Ev.step (f := fun _ => some acc) (fun k => by rw [laws_qSum.l0, if_neg (by omega)]) (Ev.now _)
  | succ d ih =>
    intro i acc hd hi h0 h1
    have hlt : i < l.length := by omega
    have e1 : wrap64 ((i : Int) + 1) = ((i + 1 : Nat) : Int) := w_succ i l.length hlt (by omega)
    have hb := ha _ (List.getElem_mem hlt)
    rw [← rd_at l i hlt] at hb
    have e2 : wrap64 (acc + rd l (i : Int)) = acc + rd l (i : Int) := w64 (by omega) (by omega)
    rw [drop_rd l i hlt, List.foldl_cons]
    exact Ev.step (fun k => by rw [laws_qSum.l0, if_pos (by omega), if_pos (by omega), if_pos (by omega), e1, e2]) (ih (i + 1) _ (by omega) (by omega) (by omega) (by omega))
theorem ev_qSum (l : List Int) (ha : Ages l) (h4 : l.length ≤ 4) : Ev (fun k => laws_qSum.f k l) (sumL l) := by
  have := qSum_loop l ha h4 l.length 0 0 (by omega) (by omega) (by omega) (by omega)
  exact this
theorem qHas_loop (l : List Int) (v : Int) (hn : l.length ≤ 1000000) (d : Nat) : ∀ i : Nat, l.length - i = d → i ≤ l.length → Ev (fun k => laws_qHas.l0 k v l (l.length : Int) (i : Int)) (decide (v ∈ l.drop i)) := by
  induction d with
  | zero =>
    intro i hd hi
    rw [List.drop_of_length_le (by omega)]
    exact Ev.step (f := fun _ => some false) (fun k => by rw [laws_qHas.l0, if_neg (by omega)]) (Ev.now _)
  | succ d ih =>
    intro i hd hi
    have hlt : i < l.length := by omega
    have e1 : wrap64 ((i : Int) + 1) = ((i + 1 : Nat) : Int) := w_succ i l.length hlt (by omega)
    have ih1 := ih (i + 1) (by omega) (by omega)
    rw [drop_rd l i hlt]
    by_cases e : rd l (i : Int) = v
    · rw [decide_eq_true (by rw [e]; exact List.mem_cons_self)]
      exact Ev.step (f := fun _ => some true) (fun k => by rw [laws_qHas.l0, if_pos (by omega), if_pos (by omega), if_pos (by omega), if_pos e]) (Ev.now _)
    · have : decide (v ∈ rd l (i : Int) :: l.drop (i + 1)) = decide (v ∈ l.drop (i + 1)) := by
        congr 1
        rw [List.mem_cons, eq_iff_iff]
        exact ⟨fun h => h.resolve_left (fun h => e h.symm), Or.inr⟩
      rw [this]
      exact Ev.step (fun k => by rw [laws_qHas.l0, if_pos (by omega), if_pos (by omega), if_pos (by omega), if_neg e, e1]) ih1
theorem ev_qHas (l : List Int) (v : Int) (hn : l.length ≤ 1000000) : Ev (fun k => laws_qHas.f k l v) (decide (v ∈ l)) := by
  have := qHas_loop l v hn l.length 0 (by omega) (by omega)
  exact this
theorem qHasRow_loop (xs : List (List Int)) (v : List Int) (hn : xs.length ≤ 1000000) (hr : ∀ x ∈ xs, x.length ≤ 1000000) (d : Nat) : ∀ i : Nat, xs.length - i = d → i ≤ xs.length → Ev (fun k => laws_qHasRow.l0 k v xs (xs.length : Int) (i : Int)) (decide (v ∈ xs.drop i)) := by
  induction d with
  | zero =>
    intro i hd hi
    rw [List.drop_of_length_le (by omega)]
    exact Ev.step (f := fun _ => some false) (fun k => by rw [laws_qHasRow.l0, if_neg (by omega)]) (Ev.now _)
  | succ d ih =>
    intro i hd hi
    have hlt : i < xs.length := by omega
    have e1 : wrap64 ((i : Int) + 1) = ((i + 1 : Nat) : Int) := w_succ i xs.length hlt (by omega)
    have ih1 := ih (i + 1) (by omega) (by omega)
    rw [List.drop_eq_getElem_cons hlt]
    refine Ev.step (fun k => by rw [laws_qHasRow.l0, if_pos (by omega), if_pos (by omega), if_pos (by omega), rowAt xs i hlt]) ?_
    refine Ev.bind (ev_qSame xs[i] v (hr _ (List.getElem_mem hlt))) ?_
    by_cases e : xs[i] = v
    · rw [decide_eq_true e, decide_eq_true (by rw [e]; exact List.mem_cons_self)]
      simp only [if_true]
      exact Ev.now _
    · have : decide (v ∈ xs[i] :: xs.drop (i + 1)) = decide (v ∈ xs.drop (i + 1)) := by
        congr 1
        rw [List.mem_cons, eq_iff_iff]
        exact ⟨fun h => h.resolve_left (fun h => e h.symm), Or.inr⟩
      rw [this, decide_eq_false e]
      simp only [Bool.false_eq_true, if_false, e1]
      exact ih1
theorem ev_qHasRow (xs : List (List Int)) (v : List Int) (hn : xs.length ≤ 1000000) (hr : ∀ x ∈ xs, x.length ≤ 1000000) : Ev (fun k => laws_qHasRow.f k xs v) (decide (v ∈ xs)) := by
  have := qHasRow_loop xs v hn hr xs.length 0 (by omega) (by omega)
  exact this
/-- So many rounds serve for all of a list. -/
theorem ev_each {α β : Type} (g : α → Nat → Option β) (r : α → β) : ∀ xs : List α, (∀ x ∈ xs, Ev (g x) (r x)) → ∃ K, ∀ k, K ≤ k → ∀ x ∈ xs, g x k = some (r x)
  | [], _ => ⟨0, fun _ _ x hx => absurd hx List.not_mem_nil⟩
  | y :: ys, h => by
    obtain ⟨K1, h1⟩ := h y List.mem_cons_self
    obtain ⟨K2, h2⟩ := ev_each g r ys (fun x hx => h x (List.mem_cons_of_mem _ hx))
    refine ⟨max K1 K2, fun k hk x hx => ?_⟩
    rcases List.mem_cons.1 hx with rfl | hx
    · exact h1 k (by omega)
    · exact h2 k (by omega) x hx
end Go.Proofs.YtlbnhjeblknepaaGreat.Pure
/- Chapter 4, plain: sets of up to four children, within bounds. No condition beyond those typed at each lemma. -/
namespace Go.Proofs.YtlbnhjeblknepaaGreat.Pure
open Go.RowKit Go.Proofs.YtlbnhjeblknepaaGreat.E Go.Proofs.YtlbnhjeblknepaaGreatW.PrintWords Go.Proofs.YtlbnhjeblknepaaGreatW.PrintLast
set_option linter.unusedVariables false
set_option linter.unusedSimpArgs false

def SetsOk (xs : List (List Int)) : Prop := (∀ x ∈ xs, Ages x ∧ x.length ≤ 4) ∧ xs.length ≤ 200000
theorem row_is (xs : List (List Int)) (i : Nat) (h : i < xs.length) : rd_L2 xs (i : Int) = xs[i] := by
  simp [rd_L2, List.getD, List.getElem?_eq_getElem h]
theorem part_ok (c : Nat) (h : c ≤ 4) (q : List Int → Bool) : SetsOk ((allSets c []).filter q) := by
  refine ⟨fun x hx => ?_, ?_⟩
  · have key : ∀ (n : Nat) (l s : List Int), Ages l → s ∈ allSets n l → Ages s ∧ s.length = l.length + n := by
      intro n
      induction n with
      | zero =>
        intro l s hl hs
        obtain rfl : s = l := by simpa [allSets] using hs
        exact ⟨hl, rfl⟩
      | succ n ih =>
        intro l s hl hs
        have hf := hl.from_
        simp only [allSets, List.mem_flatten, List.mem_map, List.mem_range] at hs
        obtain ⟨_, ⟨i, hi, rfl⟩, hs⟩ := hs
        obtain ⟨h1, h2⟩ := ih _ s (hl.snoc (by omega) (by omega)) hs
        exact ⟨h1, by rw [h2]; simp; omega⟩
    have := key c [] x (fun y hy => by simp at hy) (List.mem_filter.1 hx).1
    exact ⟨this.1, by have := this.2; simp at this; omega⟩
  · have h1 := List.length_filter_le q (allSets c [])
    have h2 := allSets_len c [] (fun x hx => by simp at hx)
    have h3 : 20 ^ c ≤ 20 ^ 4 := Nat.pow_le_pow_right (by omega) h
    omega
end Go.Proofs.YtlbnhjeblknepaaGreat.Pure
/- Chapter 4, plain: lists in order, each number once. No condition beyond those typed at each lemma. -/
namespace Go.Proofs.YtlbnhjeblknepaaGreat.Pure
open Go.RowKit Go.Proofs.YtlbnhjeblknepaaGreat.E Go.Proofs.YtlbnhjeblknepaaGreatW.PrintWords Go.Proofs.YtlbnhjeblknepaaGreatW.PrintLast
set_option linter.unusedVariables false
set_option linter.unusedSimpArgs false

theorem strict_eq : ∀ (a b : List Int), a.Pairwise (· < ·) → b.Pairwise (· < ·) → (∀ x, x ∈ a ↔ x ∈ b) → a = b
  | [], [], _, _, _ => rfl
  | [], y :: b, _, _, h => absurd ((h y).2 (List.mem_cons_self ..)) (by simp)
  | x :: a, [], _, _, h => absurd ((h x).1 (List.mem_cons_self ..)) (by simp)
  | x :: a, y :: b, ha, hb, h => by
    obtain ⟨ha1, ha2⟩ := List.pairwise_cons.1 ha
    obtain ⟨hb1, hb2⟩ := List.pairwise_cons.1 hb
    have e : x = y := by
      rcases List.mem_cons.1 ((h x).1 (List.mem_cons_self ..)) with e | hx
      · exact e
      · rcases List.mem_cons.1 ((h y).2 (List.mem_cons_self ..)) with e | hy
        · exact e.symm
        · have h1 := hb1 x hx
          have h2 := ha1 y hy
          omega
    subst e
    rw [strict_eq a b ha2 hb2 (fun z => ?_)]
    constructor
    · intro hz
      rcases List.mem_cons.1 ((h z).1 (List.mem_cons_of_mem _ hz)) with e | hz2
      · have := ha1 z hz; omega
      · exact hz2
    · intro hz
      rcases List.mem_cons.1 ((h z).2 (List.mem_cons_of_mem _ hz)) with e | hz2
      · have := hb1 z hz; omega
      · exact hz2
theorem compactUp (d : Array Int) (hs : ∀ i j, i ≤ j → j < d.size → d[i]! ≤ d[j]!) : ∀ m, m ≤ d.size → (∀ x ∈ Lib.compactUpTo d m, ∃ j, j < m ∧ x = d[j]!) ∧ (∀ j, j < m → d[j]! ∈ Lib.compactUpTo d m) ∧ (Lib.compactUpTo d m).Pairwise (· < ·)
  | 0, _ => ⟨fun x hx => by simp [Lib.compactUpTo] at hx, fun j hj => absurd hj (Nat.not_lt_zero _), by simp [Lib.compactUpTo]⟩
  | m + 1, hm => by
    obtain ⟨h1, h2, h3⟩ := compactUp d hs m (by omega)
    rw [Lib.compactUpTo_succ]
    cases hk : Lib.keeps d m with
    | true =>
      rw [if_pos rfl]
      have hne : m = 0 ∨ d[m]! ≠ d[m - 1]! := of_decide_eq_true hk
      refine ⟨fun x hx => ?_, fun j hj => ?_, ?_⟩
      · rcases List.mem_append.1 hx with hx | hx
        · obtain ⟨j, hj, e⟩ := h1 x hx
          exact ⟨j, by omega, e⟩
        · exact ⟨m, by omega, List.mem_singleton.1 hx⟩
      · by_cases e : j = m
        · subst e; exact List.mem_append_right _ (List.mem_singleton.2 rfl)
        · exact List.mem_append_left _ (h2 j (by omega))
      · refine List.pairwise_append.2 ⟨h3, List.pairwise_singleton _ _, fun x hx y hy => ?_⟩
        obtain ⟨j, hj, e⟩ := h1 x hx
        have e2 := List.mem_singleton.1 hy
        have hle := hs j (m - 1) (by omega) (by omega)
        have hle2 := hs (m - 1) m (by omega) (by omega)
        rw [e, e2]
        rcases hne with h0 | hne
        · omega
        · omega
    | false =>
      rw [if_neg (by simp), List.append_nil]
      have hk2 : ¬ (m = 0 ∨ d[m]! ≠ d[m - 1]!) := of_decide_eq_false hk
      refine ⟨fun x hx => ?_, fun j hj => ?_, h3⟩
      · obtain ⟨j, hj, e⟩ := h1 x hx
        exact ⟨j, by omega, e⟩
      · by_cases e : j = m
        · have hm0 : m ≠ 0 := fun h => hk2 (.inl h)
          have he : d[m]! = d[m - 1]! := Classical.byContradiction fun h => hk2 (.inr h)
          rw [e, he]
          exact h2 (m - 1) (by omega)
        · exact h2 j (by omega)
theorem compact_sorted (l : List Int) (h : l.Pairwise (· ≤ ·)) : (Lib.compact l).Pairwise (· < ·) ∧ ∀ x, x ∈ Lib.compact l ↔ x ∈ l := by
  have hs : ∀ i j, i ≤ j → j < l.toArray.size → l.toArray[i]! ≤ l.toArray[j]! := by
    intro i j hij hj
    have hj2 : j < l.length := by simpa using hj
    have e : ∀ k (hk : k < l.length), l.toArray[k]! = l[k] := fun k hk => by simp [getElem!_pos, hk]
    rw [e i (by omega), e j hj2]
    by_cases he : i = j
    · subst he; exact Int.le_refl _
    · exact List.pairwise_iff_getElem.1 h i j (by omega) hj2 (by omega)
  obtain ⟨h1, h2, h3⟩ := compactUp l.toArray hs l.length (by simp)
  refine ⟨h3, fun x => ⟨fun hx => ?_, fun hx => ?_⟩⟩
  · obtain ⟨j, hj, e⟩ := h1 x hx
    rw [e]
    simp [getElem!_pos, hj]
  · obtain ⟨j, hj, e⟩ := List.mem_iff_getElem.1 hx
    have := h2 j hj
    rwa [show l.toArray[j]! = x by simp [getElem!_pos, hj, e]] at this
theorem distinct_is (l : List Int) : (Lib.compact (l.mergeSort fun x y => decide (x ≤ y))).Pairwise (· < ·) ∧ ∀ x, x ∈ Lib.compact (l.mergeSort fun x y => decide (x ≤ y)) ↔ x ∈ l := by
  have h := List.pairwise_mergeSort (le := fun x y : Int => decide (x ≤ y)) (fun a b c h1 h2 => by simp at *; omega) (fun a b => by simp; omega) l
  have h2 : (l.mergeSort fun x y => decide (x ≤ y)).Pairwise (· ≤ ·) := h.imp (fun h => of_decide_eq_true h)
  obtain ⟨h3, h4⟩ := compact_sorted _ h2
  exact ⟨h3, fun x => (h4 x).trans List.mem_mergeSort⟩
end Go.Proofs.YtlbnhjeblknepaaGreat.Pure
/- Chapter 4, plain: the sums of sets, gathered and counted. No condition beyond those typed at each lemma. -/
namespace Go.Proofs.YtlbnhjeblknepaaGreat.Pure
open Go.RowKit Go.Proofs.YtlbnhjeblknepaaGreat.E Go.Proofs.YtlbnhjeblknepaaGreatW.PrintWords Go.Proofs.YtlbnhjeblknepaaGreatW.PrintLast
set_option linter.unusedVariables false
set_option linter.unusedSimpArgs false

theorem sumFold : ∀ (l : List Int) (acc : Int), Ages l → acc ≤ l.foldl (· + ·) acc ∧ l.foldl (· + ·) acc ≤ acc + 20 * (l.length : Int)
  | [], acc, _ => by simp
  | x :: r, acc, h => by
    have hx := h x (List.mem_cons_self ..)
    have ih := sumFold r (acc + x) (fun y hy => h y (List.mem_cons_of_mem _ hy))
    rw [List.foldl_cons, List.length_cons]
    omega
theorem sum_in {l : List Int} (h : Ages l) (h4 : l.length ≤ 4) : 0 ≤ sumL l ∧ sumL l ≤ 80 := by
  have := sumFold l 0 h
  unfold sumL
  omega
theorem agSum_on (l : List Int) (hl : l.length ≤ 4) (ha : Ages l) : ∀ (n i : Nat) (acc : Int), i + n = l.length → 0 ≤ acc → acc ≤ 20 * i → spec_agSum.l0 (n + 1) acc l (l.length : Int) (i : Int) = some ((l.drop i).foldl (· + ·) acc) := by
  intro n
  induction n with
  | zero =>
    intro i acc hi h0 h1
    have : ¬ ((i : Int) < (l.length : Int)) := by omega
    rw [spec_agSum.l0, if_neg this, List.drop_of_length_le (by omega)]
    rfl
  | succ n ih =>
    intro i acc hi h0 h1
    have hlt : i < l.length := by omega
    have hr : rd l (i : Int) = l[i] := by simp [rd, List.getD, List.getElem?_eq_getElem hlt]
    have hx := ha l[i] (List.getElem_mem hlt)
    rw [spec_agSum.l0, if_pos (by omega), if_pos (by omega), if_pos (by omega), hr, w64 (x := acc + l[i]) (by omega) (by omega), w64 (x := (i : Int) + 1) (by omega) (by omega)]
    have := ih (i + 1) (acc + l[i]) (by omega) (by omega) (by omega)
    rw [List.drop_eq_getElem_cons hlt, List.foldl_cons]
    exact_mod_cast this
theorem ev_agSum (l : List Int) (hl : l.length ≤ 4) (ha : Ages l) : Ev (fun k => spec_agSum.f k l) (sumL l) :=
  Ev.of (spec_agSum.mono l) (k := l.length + 1) (by unfold spec_agSum.f; exact agSum_on l hl ha l.length 0 0 (by omega) (by omega) (by simp))
theorem ev_total (l : List Int) (hl : l.length ≤ 4) (ha : Ages l) : Ev (fun k => impl_total.f k l) (sumL l) := Ev.of (impl_total.mono l) (total_is l hl ha)
theorem sumsOf_loop (xs : List (List Int)) (hk : SetsOk xs) (d : Nat) : ∀ (i : Nat) (acc : List Int), xs.length - i = d → i ≤ xs.length → acc.length + d ≤ 200000 → Ev (fun k => impl_sumsOf.l0 k acc xs (xs.length : Int) (i : Int)) (acc ++ (xs.drop i).map sumL) := by
  induction d with
  | zero =>
    intro i acc hd hi hl
    obtain rfl : i = xs.length := by omega
    rw [List.drop_of_length_le (Nat.le_refl _), List.map_nil, List.append_nil]
    exact Ev.step (f := fun _ => some acc) (fun k => by rw [impl_sumsOf.l0, if_neg (by omega)]) (Ev.now _)
  | succ d ih =>
    intro i acc hd hi hl
    have hlt : i < xs.length := by omega
    have c1 : (i : Int) < (xs.length : Int) := Int.ofNat_lt.2 hlt
    have c2 : acc.length < 17592186044416 := by omega
    have e1 : wrap64 ((i : Int) + 1) = ((i + 1 : Nat) : Int) := w_succ i xs.length hlt (by have := hk.2; omega)
    obtain ⟨h1, h2⟩ := hk.1 xs[i] (List.getElem_mem hlt)
    have ih1 := ih (i + 1) (acc ++ [sumL xs[i]]) (by omega) (by omega) (by rw [List.length_append, List.length_singleton]; omega)
    have e : acc ++ (xs.drop i).map sumL = (acc ++ [sumL xs[i]]) ++ (xs.drop (i + 1)).map sumL := by
      rw [List.drop_eq_getElem_cons hlt, List.map_cons, List.append_assoc, List.singleton_append]
    rw [e]
    refine Ev.step (fun k => by rw [impl_sumsOf.l0, if_pos c1, if_pos (Int.natCast_nonneg i), if_pos c1, row_is xs i hlt, e1]) ?_
    refine Ev.bind (ev_total xs[i] h2 h1) ?_
    simp only [if_pos c2]
    exact ih1
theorem ev_sumsOf (xs : List (List Int)) (hk : SetsOk xs) : Ev (fun k => impl_sumsOf.f k xs) (xs.map sumL) := by
  have := sumsOf_loop xs hk xs.length 0 [] (by omega) (by omega) (by have := hk.2; simpa using this)
  exact this
/-- How many sets have a sum. -/
def cntS (xs : List (List Int)) (v : Nat) : Nat := (xs.filter fun x => sumL x == (v : Int)).length
theorem cntS_snoc (xs : List (List Int)) (x : List Int) (v : Nat) : cntS (xs ++ [x]) v = cntS xs v + if sumL x = (v : Int) then 1 else 0 := by
  unfold cntS
  rw [List.filter_append, List.length_append, List.filter_cons, List.filter_nil]
  by_cases h : sumL x = (v : Int)
  · rw [if_pos h, if_pos (by simp [h])]; rfl
  · rw [if_neg h, if_neg (by simpa using h)]; rfl
theorem cntS_le (xs : List (List Int)) (v : Nat) : cntS xs v ≤ xs.length := List.length_filter_le _ _
theorem count_wrap {n : Nat} (h : n ≤ 200000) : wrap64 ((n : Int) + 1) = ((n + 1 : Nat) : Int) := by rw [w64 (by omega) (by omega)]; rfl
theorem siSums_loop (xs : List (List Int)) (hk : SetsOk xs) (d : Nat) : ∀ (i : Nat) (l : List Int), xs.length - i = d → i ≤ xs.length → l.length = 81 → (∀ v : Nat, v ≤ 80 → rd l (v : Int) = (cntS (xs.take i) v : Int)) →
    ∃ r : List Int, Ev (fun k => spec_siSums.l0 k l xs (xs.length : Int) (i : Int)) r ∧ r.length = 81 ∧ ∀ v : Nat, v ≤ 80 → rd r (v : Int) = (cntS xs v : Int) := by
  induction d with
  | zero =>
    intro i l hd hi hl hv
    obtain rfl : i = xs.length := by omega
    rw [List.take_length] at hv
    exact ⟨l, Ev.step (f := fun _ => some l) (fun k => by rw [spec_siSums.l0, if_neg (by omega)]) (Ev.now _), hl, hv⟩
  | succ d ih =>
    intro i l hd hi hl hv
    have hlt : i < xs.length := by omega
    have k1 : xs.length - (i + 1) = d := by omega
    have c1 : (i : Int) < (xs.length : Int) := Int.ofNat_lt.2 hlt
    have e1 : wrap64 ((i : Int) + 1) = ((i + 1 : Nat) : Int) := w_succ i xs.length hlt (by have := hk.2; omega)
    obtain ⟨h1, h2⟩ := hk.1 xs[i] (List.getElem_mem hlt)
    obtain ⟨n, hnn, hn1⟩ : ∃ n : Nat, sumL xs[i] = (n : Int) ∧ n ≤ 80 := by
      have hin := sum_in h1 h2
      exact ⟨(sumL xs[i]).toNat, (Int.toNat_of_nonneg hin.1).symm, by omega⟩
    have c4 : n < l.length := Nat.lt_of_le_of_lt hn1 (by rw [hl]; decide)
    have hts : xs.take (i + 1) = xs.take i ++ [xs[i]] := List.take_succ_eq_append_getElem hlt
    have hw : wrap64 (rd l (n : Int) + 1) = ((cntS (xs.take i) n + 1 : Nat) : Int) := by
      rw [hv n hn1]
      exact count_wrap (Nat.le_trans (cntS_le _ _) (by rw [List.length_take]; exact Nat.le_trans (Nat.min_le_right _ _) hk.2))
    obtain ⟨r, q1, q2, q3⟩ := ih (i + 1) (l.set n ((cntS (xs.take i) n + 1 : Nat) : Int)) k1 hlt ((List.length_set ..).trans hl) (by
      intro v hvl
      rw [hts, cntS_snoc, hnn]
      by_cases e : n = v
      · subst e
        rw [rd_set_eq l n _ c4, if_pos rfl]
      · rw [rd_set_ne l n v _ e, if_neg (show ¬ (n : Int) = (v : Int) from fun e' => e (Int.ofNat.inj e')), hv v hvl, Nat.add_zero])
    refine ⟨r, Ev.step (fun k => by rw [spec_siSums.l0, if_pos c1, if_pos (Int.natCast_nonneg i), if_pos c1, row_is xs i hlt, e1]) ?_, q2, q3⟩
    refine Ev.bind (ev_agSum xs[i] h2 h1) ?_
    rw [hnn]
    simp only [if_pos (Int.natCast_nonneg n), if_pos (Int.ofNat_lt.2 c4), Int.toNat_natCast, hw]
    exact q1
theorem ev_siSums (xs : List (List Int)) (hk : SetsOk xs) : ∃ r : List Int, Ev (fun k => spec_siSums.f k xs) r ∧ r.length = 81 ∧ ∀ v : Nat, v ≤ 80 → rd r (v : Int) = (cntS xs v : Int) := by
  obtain ⟨r, h1, h2, h3⟩ := siSums_loop xs hk xs.length 0 (List.replicate 81 0) (by omega) (by omega) List.length_replicate (fun v hv => by
    simp only [rd, Int.toNat_natCast, List.getD_eq_getElem?_getD, List.getElem?_replicate]
    rw [List.take_zero]
    split <;> rfl)
  exact ⟨r, Ev.congr (fun k => by unfold spec_siSums.f; exact if_pos (by decide)) h1, h2, h3⟩
/-- Sums from i on that so many have. -/
def sumsFrom (xs : List (List Int)) (many : Nat) : Nat → Nat → List Int
  | 0, _ => []
  | d + 1, i => if many ≤ cntS xs i then (i : Int) :: sumsFrom xs many d (i + 1) else sumsFrom xs many d (i + 1)
theorem siWith_loop (xs : List (List Int)) (hx : xs.length ≤ 200000) (many : Nat) (l : List Int) (hl : l.length = 81) (hv : ∀ v : Nat, v ≤ 80 → rd l (v : Int) = (cntS xs v : Int)) (d : Nat) : ∀ (i : Nat) (acc : List Int), 81 - i = d → i ≤ 81 → acc.length ≤ i →
    Ev (fun k => spec_siWith.l0 k (many : Int) acc l (l.length : Int) (i : Int)) (acc ++ sumsFrom xs many d i) := by
  induction d with
  | zero =>
    intro i acc hd hi ha
    have c1 : ¬ (i : Int) < (l.length : Int) := by rw [hl]; omega
    show Ev _ (acc ++ [])
    rw [List.append_nil]
    exact Ev.step (f := fun _ => some acc) (fun k => by rw [spec_siWith.l0, if_neg c1]) (Ev.now _)
  | succ d ih =>
    intro i acc hd hi ha
    have hlt : i < l.length := by rw [hl]; omega
    have c1 : (i : Int) < (l.length : Int) := Int.ofNat_lt.2 hlt
    have c2 : acc.length < 17592186044416 := by omega
    have e1 : wrap64 ((i : Int) + 1) = ((i + 1 : Nat) : Int) := w_succ i l.length hlt (by rw [hl]; decide)
    have e2 := hv i (by omega)
    unfold sumsFrom
    by_cases hm : many ≤ cntS xs i
    · rw [if_pos hm, show acc ++ (i : Int) :: sumsFrom xs many d (i + 1) = (acc ++ [(i : Int)]) ++ sumsFrom xs many d (i + 1) by rw [List.append_assoc]; rfl]
      have c3 : ((cntS xs i : Nat) : Int) ≥ (many : Int) := Int.ofNat_le.2 hm
      exact Ev.step (fun k => by rw [spec_siWith.l0, if_pos c1, if_pos (Int.natCast_nonneg i), if_pos c1, e2, if_pos c3, if_pos c2, e1]) (ih (i + 1) (acc ++ [(i : Int)]) (by omega) (by omega) (by rw [List.length_append, List.length_singleton]; omega))
    · rw [if_neg hm]
      have c3 : ¬ ((cntS xs i : Nat) : Int) ≥ (many : Int) := fun h => hm (Int.ofNat_le.1 h)
      exact Ev.step (fun k => by rw [spec_siWith.l0, if_pos c1, if_pos (Int.natCast_nonneg i), if_pos c1, e2, if_neg c3, e1]) (ih (i + 1) acc (by omega) (by omega) (by omega))
theorem ev_siWith (xs : List (List Int)) (hk : SetsOk xs) (many : Nat) : Ev (fun k => spec_siWith.f k xs (many : Int)) (sumsFrom xs many 81 0) := by
  obtain ⟨r, h1, h2, h3⟩ := ev_siSums xs hk
  unfold spec_siWith.f
  refine Ev.bind h1 ?_
  have := siWith_loop xs hk.2 many r h2 h3 81 0 [] (by omega) (by omega) (by simp)
  exact this
theorem sumsFrom_mem (xs : List (List Int)) (many : Nat) : ∀ (d i : Nat) (x : Int), x ∈ sumsFrom xs many d i ↔ ∃ v : Nat, i ≤ v ∧ v < i + d ∧ x = (v : Int) ∧ many ≤ cntS xs v
  | 0, i, x => by
    constructor
    · intro h; cases h
    · rintro ⟨v, h1, h2, _⟩; omega
  | d + 1, i, x => by
    have ih := sumsFrom_mem xs many d (i + 1) x
    unfold sumsFrom
    by_cases hm : many ≤ cntS xs i
    · rw [if_pos hm, List.mem_cons, ih]
      constructor
      · rintro (h | ⟨v, h1, h2, h3, h4⟩)
        · exact ⟨i, by omega, by omega, h, hm⟩
        · exact ⟨v, by omega, by omega, h3, h4⟩
      · rintro ⟨v, h1, h2, h3, h4⟩
        by_cases e : v = i
        · exact .inl (by rw [h3, e])
        · exact .inr ⟨v, by omega, by omega, h3, h4⟩
    · rw [if_neg hm, ih]
      constructor
      · rintro ⟨v, h1, h2, h3, h4⟩; exact ⟨v, by omega, by omega, h3, h4⟩
      · rintro ⟨v, h1, h2, h3, h4⟩
        by_cases e : v = i
        · exact absurd (e ▸ h4) hm
        · exact ⟨v, by omega, by omega, h3, h4⟩
theorem sumsFrom_pair (xs : List (List Int)) (many : Nat) : ∀ (d i : Nat), (sumsFrom xs many d i).Pairwise (· < ·)
  | 0, i => List.Pairwise.nil
  | d + 1, i => by
    unfold sumsFrom
    by_cases hm : many ≤ cntS xs i
    · rw [if_pos hm]
      refine List.pairwise_cons.2 ⟨fun y hy => ?_, sumsFrom_pair xs many d (i + 1)⟩
      obtain ⟨v, h1, _, h3, _⟩ := (sumsFrom_mem xs many d (i + 1) y).1 hy
      omega
    · rw [if_neg hm]; exact sumsFrom_pair xs many d (i + 1)
theorem sumsFrom_len (xs : List (List Int)) (many : Nat) : ∀ (d i : Nat), (sumsFrom xs many d i).length ≤ d
  | 0, i => Nat.le_refl _
  | d + 1, i => by
    have := sumsFrom_len xs many d (i + 1)
    unfold sumsFrom
    split
    · rw [List.length_cons]; omega
    · omega
/-- In order, each once: the sums that some set has. -/
theorem sums_same (xs : List (List Int)) (hk : SetsOk xs) : Lib.compact ((xs.map sumL).mergeSort fun x y => decide (x ≤ y)) = sumsFrom xs 1 81 0 := by
  obtain ⟨h1, h2⟩ := distinct_is (xs.map sumL)
  refine strict_eq _ _ h1 (sumsFrom_pair xs 1 81 0) fun x => ?_
  rw [h2, sumsFrom_mem, List.mem_map]
  constructor
  · rintro ⟨s, hs, rfl⟩
    obtain ⟨q1, q2⟩ := hk.1 s hs
    have hin := sum_in q1 q2
    refine ⟨(sumL s).toNat, Nat.zero_le _, by omega, (Int.toNat_of_nonneg hin.1).symm, ?_⟩
    exact List.length_pos_of_mem (List.mem_filter.2 ⟨hs, by rw [Int.toNat_of_nonneg hin.1]; simp⟩)
  · rintro ⟨v, _, _, rfl, hc⟩
    obtain ⟨s, hs⟩ := List.exists_mem_of_length_pos hc
    obtain ⟨hs1, hs2⟩ := List.mem_filter.1 hs
    exact ⟨s, hs1, by simpa using hs2⟩
theorem ev_sums (xs : List (List Int)) (hk : SetsOk xs) : Ev (fun k => (impl_sumsOf.f k xs).bind fun t => impl_distinct.f t) (sumsFrom xs 1 81 0) := by
  refine Ev.bind (ev_sumsOf xs hk) ?_
  have : impl_distinct.f (xs.map sumL) = some (sumsFrom xs 1 81 0) := by
    unfold impl_distinct.f
    rw [if_pos (by rw [List.length_map]; exact hk.2), sums_same xs hk]
  rw [this]
  exact Ev.now _
end Go.Proofs.YtlbnhjeblknepaaGreat.Pure
/- Chapter 4, plain: all sets come in order, and are all sets. No condition beyond those typed at each lemma. -/
namespace Go.Proofs.YtlbnhjeblknepaaGreat.Pure
open Go.RowKit Go.Proofs.YtlbnhjeblknepaaGreat.E Go.Proofs.YtlbnhjeblknepaaGreatW.PrintWords Go.Proofs.YtlbnhjeblknepaaGreatW.PrintLast
set_option linter.unusedVariables false
set_option linter.unusedSimpArgs false

theorem allSets_pren (n : Nat) : ∀ (l s : List Int), s ∈ allSets n l → ∃ t, s = l ++ t ∧ t.length = n := by
  induction n with
  | zero =>
    intro l s hs
    obtain rfl : s = l := by simpa [allSets] using hs
    exact ⟨[], by simp, rfl⟩
  | succ n ih =>
    intro l s hs
    simp only [allSets, List.mem_flatten, List.mem_map, List.mem_range] at hs
    obtain ⟨_, ⟨i, hi, rfl⟩, hs⟩ := hs
    obtain ⟨t, rfl, ht⟩ := ih _ s hs
    exact ⟨(fromOf l + (i : Int)) :: t, by simp, by simp [ht]⟩
theorem rd_pre (l t : List Int) (j : Nat) (h : j < l.length) : rd (l ++ t) (j : Int) = rd l (j : Int) := by
  simp [rd, List.getD_eq_getElem?_getD, List.getElem?_append_left h]
theorem rd_mid (l t : List Int) (a : Int) : rd (l ++ a :: t) ((l.length : Nat) : Int) = a := by
  simp [rd, List.getD_eq_getElem?_getD]
theorem allSets_lex (n : Nat) : ∀ l : List Int, (allSets n l).Pairwise LexP := by
  induction n with
  | zero => intro l; simp [allSets]
  | succ n ih =>
    intro l
    rw [show allSets (n + 1) l = ((List.range (21 - fromOf l).toNat).map fun i : Nat => allSets n (l ++ [fromOf l + (i : Int)])).flatten from rfl]
    rw [List.pairwise_flatten]
    refine ⟨fun x hx => ?_, ?_⟩
    · obtain ⟨i, _, rfl⟩ := List.mem_map.1 hx
      exact ih _
    · rw [List.pairwise_map]
      refine List.Pairwise.imp ?_ List.pairwise_lt_range
      intro i j hij x hx y hy
      obtain ⟨t, rfl, _⟩ := allSets_pren n _ x hx
      obtain ⟨u, rfl, _⟩ := allSets_pren n _ y hy
      rw [List.append_assoc, List.append_assoc, List.singleton_append, List.singleton_append]
      refine ⟨l.length, by simp, by simp, fun q hq => ?_, ?_⟩
      · rw [rd_pre _ _ q hq, rd_pre _ _ q hq]
      · rw [rd_mid, rd_mid]; omega
/-- A list of numbers that goes on from a number, in order. -/
def Goes : Int → List Int → Prop
  | _, [] => True
  | f, a :: t => f ≤ a ∧ a ≤ 20 ∧ Goes a t
theorem allSets_goes (n : Nat) : ∀ (l s : List Int), Ages l → s ∈ allSets n l → ∃ t, s = l ++ t ∧ t.length = n ∧ Goes (fromOf l) t := by
  induction n with
  | zero =>
    intro l s _ hs
    obtain rfl : s = l := by simpa [allSets] using hs
    exact ⟨[], by simp, rfl, trivial⟩
  | succ n ih =>
    intro l s hl hs
    have hf := hl.from_
    simp only [allSets, List.mem_flatten, List.mem_map, List.mem_range] at hs
    obtain ⟨_, ⟨i, hi, rfl⟩, hs⟩ := hs
    obtain ⟨t, rfl, ht, hg⟩ := ih _ s (hl.snoc (by omega) (by omega)) hs
    rw [fromOf_snoc] at hg
    exact ⟨(fromOf l + (i : Int)) :: t, by simp, by simp [ht], ⟨by omega, by omega, hg⟩⟩
theorem Goes.all : ∀ {f : Int} {t : List Int}, Goes f t → ∀ x ∈ t, f ≤ x ∧ x ≤ 20
  | _, [], _, x, hx => absurd hx List.not_mem_nil
  | f, a :: t, h, x, hx => by
    obtain ⟨h1, h2, h3⟩ := h
    rcases List.mem_cons.1 hx with rfl | hx
    · exact ⟨h1, h2⟩
    · have := Goes.all h3 x hx
      exact ⟨by omega, this.2⟩
theorem Goes.up : ∀ {f : Int} {t : List Int}, Goes f t → ∀ j : Nat, 1 ≤ j → j < t.length → rd t ((j - 1 : Nat) : Int) ≤ rd t (j : Int)
  | _, [], _, j, _, h => absurd h (Nat.not_lt_zero _)
  | f, a :: t, h, j, h1, h2 => by
    obtain ⟨_, _, h3⟩ := h
    have sh : ∀ m : Nat, rd (a :: t) ((m + 1 : Nat) : Int) = rd t (m : Int) := fun m => by simp [rd, List.getD_eq_getElem?_getD]
    obtain ⟨m, rfl⟩ : ∃ m, j = m + 1 := ⟨j - 1, by omega⟩
    rw [sh, Nat.add_sub_cancel]
    by_cases hm : m = 0
    · subst hm
      have h0 : 0 < t.length := by simpa using h2
      have hx := Goes.all h3 _ (List.getElem_mem h0)
      rw [← rd_at t 0 h0] at hx
      have e : rd (a :: t) ((0 : Nat) : Int) = a := by simp [rd]
      rw [e]
      exact hx.1
    · obtain ⟨q, rfl⟩ : ∃ q, m = q + 1 := ⟨m - 1, by omega⟩
      rw [sh]
      have := Goes.up h3 (q + 1) (by omega) (by simpa using h2)
      rwa [Nat.add_sub_cancel] at this
theorem allSets_set (n : Nat) (h : n ≤ 4) (s : List Int) (hs : s ∈ allSets n []) : Ages s ∧ s.length = n ∧ (1 ≤ n → SetP s) := by
  obtain ⟨t, ht, hl, hg⟩ := allSets_goes n [] s (fun x hx => by simp at hx) hs
  rw [List.nil_append] at ht
  subst ht
  have hf : fromOf [] = 1 := rfl
  rw [hf] at hg
  have ha : Ages s := fun x hx => hg.all x hx
  exact ⟨ha, hl, fun h1 => ⟨⟨by omega, by omega⟩, ha, fun j j1 j2 => hg.up j j1 j2⟩⟩
theorem sum_in_ (s : List Int) (ha : Ages s) (h4 : s.length ≤ 4) (h1 : 1 ≤ s.length) : 1 ≤ sumL s ∧ sumL s ≤ 80 := by
  refine ⟨?_, (sum_in ha h4).2⟩
  cases s with
  | nil => simp at h1
  | cons a t =>
    have h2 := ha a List.mem_cons_self
    have h3 := (sumFold t (0 + a) (fun x hx => ha x (List.mem_cons_of_mem _ hx))).1
    show 1 ≤ t.foldl (· + ·) (0 + a)
    omega
/-- How many of a list's rows are such, step by step. -/
theorem cntTo_take (f : List Int → Bool) (xs : List (List Int)) : ∀ j : Nat, j ≤ xs.length → cntTo f xs j = ((xs.take j).filter f).length
  | 0, _ => rfl
  | j + 1, h => by
    have hlt : j < xs.length := by omega
    show cntTo f xs j + (if f (rd_L2 xs (j : Int)) = true then 1 else 0) = _
    rw [cntTo_take f xs j (by omega), rowAt xs j hlt, List.take_succ_eq_append_getElem hlt, List.filter_append, List.length_append]
    congr 1
    rw [List.filter_cons, List.filter_nil]
    cases f xs[j] <;> rfl
theorem cntTo_all (f : List Int → Bool) (xs : List (List Int)) : cntTo f xs xs.length = (xs.filter f).length := by
  rw [cntTo_take f xs xs.length (Nat.le_refl _), List.take_length]
/-- A product so far, of so many numbers up to 20. -/
theorem pow_step {a x : Int} {m : Nat} (h1 : 1 ≤ a) (h2 : a ≤ ((20 ^ m : Nat) : Int)) (hx1 : 1 ≤ x) (hx2 : x ≤ 20) : 1 ≤ a * x ∧ a * x ≤ ((20 ^ (m + 1) : Nat) : Int) := by
  have q1 := Int.mul_le_mul h1 hx1 (by omega) (by omega)
  have q2 := Int.mul_le_mul h2 hx2 (by omega) (by omega)
  rw [Nat.pow_succ, Int.natCast_mul]
  exact ⟨by omega, q2⟩
theorem pow_small {m : Nat} (h : m ≤ 4) : 20 ^ m ≤ 160000 := Nat.le_trans (Nat.pow_le_pow_right (by omega) h) (by decide)
theorem prodTo_take (s : List Int) (ha : Ages s) (h4 : s.length ≤ 4) : ∀ j : Nat, j ≤ s.length → prodTo s j = prodL (s.take j) ∧ 1 ≤ prodTo s j ∧ prodTo s j ≤ ((20 ^ j : Nat) : Int)
  | 0, _ => ⟨rfl, by show (1 : Int) ≤ 1; omega, by show (1 : Int) ≤ ((20 ^ 0 : Nat) : Int); simp⟩
  | j + 1, h => by
    obtain ⟨h1, h2, h3⟩ := prodTo_take s ha h4 j (by omega)
    have hlt : j < s.length := by omega
    have hb := ha _ (List.getElem_mem hlt)
    rw [← rd_at s j hlt] at hb
    obtain ⟨p1, p2⟩ := pow_step h2 h3 hb.1 hb.2
    have p3 := pow_small (m := j + 1) (by omega)
    have e : prodTo s (j + 1) = prodTo s j * rd s (j : Int) := by
      show wrap64 (prodTo s j * rd s (j : Int)) = _
      exact w64 (by omega) (by omega)
    rw [e]
    refine ⟨?_, p1, p2⟩
    rw [List.take_succ_eq_append_getElem hlt, prodL_snoc, h1, rd_at s j hlt]
theorem prodTo_all (s : List Int) (ha : Ages s) (h4 : s.length ≤ 4) : prodTo s s.length = prodL s := by
  rw [(prodTo_take s ha h4 s.length (Nat.le_refl _)).1, List.take_length]
end Go.Proofs.YtlbnhjeblknepaaGreat.Pure
/- Chapter 4, plain: what is drawn for the law of told sets. No condition beyond those typed at each lemma. -/
namespace Go.Proofs.YtlbnhjeblknepaaGreat.Pure
open Go.RowKit Go.Proofs.YtlbnhjeblknepaaGreat.E Go.Proofs.YtlbnhjeblknepaaGreatW.PrintWords Go.Proofs.YtlbnhjeblknepaaGreatW.PrintLast
set_option linter.unusedVariables false
set_option linter.unusedSimpArgs false

theorem pick_any {l : List Int} (hl : Bytes l) (at_ s n : Int) (h0 : 0 ≤ at_) (h1 : at_ ≤ 1000000000) (hn : 1 ≤ n) : ∃ x a' s', spec_l1Cur_pick.f l at_ s n = some (x, a', s') ∧ 0 ≤ x ∧ x < n ∧ at_ ≤ a' ∧ a' ≤ at_ + 2 := by
  by_cases hb : n ≤ 200
  · obtain ⟨x, a', s', h, p1, p2, p3, p4⟩ := pick_some hl at_ s n h0 (by omega) hn hb
    exact ⟨x, a', s', h, p1, p2, p3, by omega⟩
  · unfold spec_l1Cur_pick.f
    rw [if_neg (by omega)]
    obtain ⟨b, s', h, hb0, hb1⟩ := next_some hl at_ s h0 (by omega)
    rw [h]
    simp only [Option.bind_some]
    rw [if_pos (by omega)]
    obtain ⟨b2, s2, h2, hc0, hc1⟩ := next_some hl (at_ + 1) s' (by omega) (by omega)
    rw [h2]
    simp only [Option.bind_some]
    rw [if_neg (by omega), w64 (x := b * 256) (by omega) (by omega), w64 (x := b * 256 + b2) (by omega) (by omega)]
    refine ⟨_, _, _, rfl, ?_, ?_, by omega, by omega⟩
    · rw [Int.tmod_eq_emod_of_nonneg (by omega)]; exact Int.emod_nonneg _ (by omega)
    · rw [Int.tmod_eq_emod_of_nonneg (by omega)]; exact Int.emod_lt_of_pos _ (by omega)
theorem prod_loop (l s : List Int) (a1 a2 : Int) (ha : Ages s) (h4 : s.length ≤ 4) (d : Nat) : ∀ (i : Nat) (acc : Int), s.length - i = d → i ≤ s.length → 1 ≤ acc → acc ≤ ((20 ^ i : Nat) : Int) → ∃ p, Ev (fun k => spec_l1Cur_product.l0 k s acc s (s.length : Int) (i : Int) l a1 a2) ((s.length : Int), p, a1, a2) := by
  induction d with
  | zero =>
    intro i acc hd hi h1 h2
    exact ⟨acc, Ev.step (f := fun _ => some ((s.length : Int), acc, a1, a2)) (fun k => by rw [spec_l1Cur_product.l0, if_neg (by omega)]) (Ev.now _)⟩
  | succ d ih =>
    intro i acc hd hi h1 h2
    have hlt : i < s.length := by omega
    have hb := ha _ (List.getElem_mem hlt)
    rw [← rd_at s i hlt] at hb
    obtain ⟨p1, p2⟩ := pow_step h1 h2 hb.1 hb.2
    have p3 := pow_small (m := i + 1) (by omega)
    have e1 : wrap64 ((i : Int) + 1) = ((i + 1 : Nat) : Int) := w_succ i s.length hlt (by omega)
    have e2 : wrap64 (acc * rd s (i : Int)) = acc * rd s (i : Int) := w64 (by omega) (by omega)
    obtain ⟨p, hp⟩ := ih (i + 1) (acc * rd s (i : Int)) (by omega) (by omega) p1 p2
    refine ⟨p, Ev.step (fun k => ?_) hp⟩
    rw [spec_l1Cur_product.l0, if_pos (by omega), if_pos (by omega), if_pos (by omega), e1, e2]
theorem product_some {l : List Int} (hl : Bytes l) (at_ s : Int) (h0 : 0 ≤ at_) (h1 : at_ ≤ 100000) : ∃ c p a' s', Ev (fun k => spec_l1Cur_product.f k l at_ s) (c, p, a', s') ∧ at_ ≤ a' ∧ a' ≤ at_ + 20 := by
  unfold spec_l1Cur_product.f
  obtain ⟨x, a1, s1, e1, p1, q1, l1, u1⟩ := pick_some hl at_ s 12 h0 (by omega) (by omega) (by omega)
  simp only [e1, Option.bind_some]
  by_cases c0 : x = 0
  · obtain ⟨v, a2, s2, e2, l2, u2⟩ := among_some hl a1 s1 [(-1), 0, 1, 4, 5] (by omega) (by omega) (by simp) (by simp)
    obtain ⟨v3, a3, s3, e3, l3, u3⟩ := among_some hl a2 s2 [(-1), 0, 1, 160000, 160001, 4611686018427387904] (by omega) (by omega) (by simp) (by simp)
    refine ⟨v, v3, a3, s3, ?_, by omega, by omega⟩
    simp only [if_pos c0, e2, e3, Option.bind_some]
    exact Ev.now _
  · by_cases c1 : x = 1
    · obtain ⟨v, a2, s2, e2, l2, u2⟩ := among_some hl a1 s1 [36, 40, 72, 96, 144, 200, 225, 252] (by omega) (by omega) (by simp) (by simp)
      refine ⟨3, v, a2, s2, ?_, by omega, by omega⟩
      simp only [if_neg c0, if_pos c1, e2, Option.bind_some]
      exact Ev.now _
    · obtain ⟨r, a2, s2, h, h1', h4, hage, l2, u2⟩ := sure_some hl a1 s1 (by omega) (by omega)
      obtain ⟨p, hp⟩ := prod_loop l r a2 s2 hage h4 r.length 0 1 (by omega) (by omega) (by omega) (by simp)
      refine ⟨(r.length : Int), p, a2, s2, ?_, by omega, by omega⟩
      simp only [if_neg c0, if_neg c1]
      exact Ev.bind h hp
theorem drawProd {l : List Int} (hl : Bytes l) : ∃ c p, Ev (fun k => spec_DrawToldByOldest.f k l) (c, p) := by
  obtain ⟨c, p, a', s', h, _, _⟩ := product_some hl 0 0 (by omega) (by omega)
  refine ⟨c, p, ?_⟩
  unfold spec_DrawToldByOldest.f spec_DrawSetsOfProduct.f
  exact Ev.bind (Ev.bind h (Ev.now _)) (Ev.now _)
theorem most_val (a b : Int) : ∃ v, spec_l1Most.f a b = some v ∧ a ≤ v ∧ b ≤ v ∧ (v = a ∨ v = b) := by
  unfold spec_l1Most.f
  by_cases h : a > b
  · rw [if_pos h]; exact ⟨a, rfl, by omega, by omega, .inl rfl⟩
  · rw [if_neg h]; exact ⟨b, rfl, by omega, by omega, .inr rfl⟩
theorem least_val (a b : Int) : ∃ v, spec_l1Least.f a b = some v ∧ v ≤ a ∧ v ≤ b ∧ (v = a ∨ v = b) := by
  unfold spec_l1Least.f
  by_cases h : a < b
  · rw [if_pos h]; exact ⟨a, rfl, by omega, by omega, .inl rfl⟩
  · rw [if_neg h]; exact ⟨b, rfl, by omega, by omega, .inr rfl⟩
theorem drawBoth {l : List Int} (hl : Bytes l) : ∃ c p s, Ev (fun k => spec_DrawSetsOfBoth.f k l) (c, p, s) := by
  obtain ⟨c, p, a1, s1, h, l1, u1⟩ := product_some hl 0 0 (by omega) (by omega)
  obtain ⟨c1, hc1, g1, g2, g3⟩ := most_val 1 c
  obtain ⟨c2, hc2, g4, g5, g6⟩ := least_val 4 c1
  obtain ⟨p1, hp1, g7, g8, g9⟩ := most_val 1 p
  obtain ⟨p2, hp2, g10, g11, g12⟩ := least_val 200000 p1
  have hs : spec_siSets.f c2 p2 = some ((allSets c2.toNat []).filter (hasProd p2)) := by
    unfold spec_siSets.f
    rw [if_pos (by omega), look_all]
  have hk := part_ok c2.toNat (by omega) (hasProd p2)
  obtain ⟨xs, hxs⟩ : ∃ xs, xs = (allSets c2.toNat []).filter (hasProd p2) := ⟨_, rfl⟩
  rw [← hxs] at hs hk
  unfold spec_DrawSetsOfBoth.f
  have fin : ∀ (a b : Int), 0 ≤ a → a ≤ 1000 → ∃ z, Ev (fun _ => (spec_l1Cur_summed.f l a b).bind fun z => some (c, p, z.2.1)) (c, p, z) := fun a b ha hb => by
    obtain ⟨u, v, a2, s2, e2, _, _⟩ := summed_some hl a b ha (by omega)
    refine ⟨v, ?_⟩
    simp only [e2, Option.bind_some]
    exact Ev.now _
  by_cases hx : 0 < xs.length
  · obtain ⟨b, a2, s2, e2, l2, u2⟩ := one_some hl a1 s1 4 (by omega) (by omega) (by omega) (by omega)
    cases b with
    | true =>
      obtain ⟨z, hz⟩ := fin a2 s2 (by omega) (by omega)
      refine ⟨c, p, z, Ev.bind h ?_⟩
      simp only [hc1, hc2, hp1, hp2, hs, Option.bind_some, if_pos hx, e2, if_true]
      exact hz
    | false =>
      obtain ⟨q, a3, s3, e3, q0, q1, _, _⟩ := pick_any hl a2 s2 (xs.length : Int) (by omega) (by omega) (by omega)
      obtain ⟨m, rfl⟩ : ∃ m : Nat, q = m := ⟨q.toNat, by omega⟩
      have hm : m < xs.length := by omega
      obtain ⟨ka, kl⟩ := hk.1 _ (List.getElem_mem hm)
      refine ⟨c, p, sumL xs[m], Ev.bind h ?_⟩
      simp only [hc1, hc2, hp1, hp2, hs, Option.bind_some, if_pos hx, e2, Bool.false_eq_true, if_false, e3, if_pos (And.intro q0 q1), rowAt xs m hm]
      exact Ev.bind (ev_agSum xs[m] kl ka) (Ev.now _)
  · obtain ⟨z, hz⟩ := fin a1 s1 (by omega) (by omega)
    refine ⟨c, p, z, Ev.bind h ?_⟩
    simp only [hc1, hc2, hp1, hp2, hs, Option.bind_some, if_neg hx]
    exact hz
theorem drawHas {l : List Int} (hl : Bytes l) : ∃ r, Ev (fun k => spec_DrawHasOldest.f k l) r ∧ r.length ≤ 5 := by
  obtain ⟨r, h, h5⟩ := drawIs hl
  refine ⟨r, ?_, h5⟩
  unfold spec_DrawHasOldest.f
  exact Ev.bind h (Ev.now _)
end Go.Proofs.YtlbnhjeblknepaaGreat.Pure
/- Chapter 4, plain: what holds from so many rounds on. No condition beyond those typed at each lemma. -/
namespace Go.Proofs.YtlbnhjeblknepaaGreat.Pure
open Go.RowKit Go.Proofs.YtlbnhjeblknepaaGreat.E Go.Proofs.YtlbnhjeblknepaaGreatW.PrintWords Go.Proofs.YtlbnhjeblknepaaGreatW.PrintLast
set_option linter.unusedVariables false
set_option linter.unusedSimpArgs false

def EvP (P : Nat → Prop) : Prop := ∃ K, ∀ k, K ≤ k → P k
theorem EvP.of {α : Type} {g : Nat → Option α} {r : α} (h : Ev g r) : EvP (fun k => g k = some r) := h
theorem EvP.const {p : Prop} (h : p) : EvP (fun _ => p) := ⟨0, fun _ _ => h⟩
theorem EvP.and {P Q : Nat → Prop} (h : EvP P) (g : EvP Q) : EvP (fun k => P k ∧ Q k) := by
  obtain ⟨a, ha⟩ := h
  obtain ⟨b, hb⟩ := g
  exact ⟨a + b, fun k hk => ⟨ha k (by omega), hb k (by omega)⟩⟩
theorem EvP.mono {P Q : Nat → Prop} (h : EvP P) (g : ∀ k, P k → Q k) : EvP Q := by
  obtain ⟨a, ha⟩ := h
  exact ⟨a, fun k hk => g k (ha k hk)⟩
theorem EvP.imp {p : Prop} {P : Nat → Prop} (h : p → EvP P) : EvP (fun k => p → P k) := by
  by_cases hp : p
  · exact (h hp).mono (fun k hk _ => hk)
  · exact ⟨0, fun k _ hq => absurd hq hp⟩
theorem EvP.all {α : Type} {P : α → Nat → Prop} : ∀ xs : List α, (∀ x ∈ xs, EvP (P x)) → EvP (fun k => ∀ x ∈ xs, P x k)
  | [], _ => ⟨0, fun _ _ x hx => absurd hx List.not_mem_nil⟩
  | y :: ys, h => by
    obtain ⟨a, ha⟩ := h y List.mem_cons_self
    obtain ⟨b, hb⟩ := EvP.all ys (fun x hx => h x (List.mem_cons_of_mem _ hx))
    refine ⟨a + b, fun k hk x hx => ?_⟩
    rcases List.mem_cons.1 hx with rfl | hx
    · exact ha k (by omega)
    · exact hb k (by omega) x hx
end Go.Proofs.YtlbnhjeblknepaaGreat.Pure
/- Chapter 4, plain: sums, open sums. No condition beyond those typed at each lemma. -/
namespace Go.Proofs.YtlbnhjeblknepaaGreat.Pure
open Go.RowKit Go.Proofs.YtlbnhjeblknepaaGreat.E Go.Proofs.YtlbnhjeblknepaaGreatW.PrintWords Go.Proofs.YtlbnhjeblknepaaGreatW.PrintLast
set_option linter.unusedVariables false
set_option linter.unusedSimpArgs false

theorem okSetsO_of (xs : List (List Int)) (hk : SetsOk xs) : okSetsO xs = true := by
  unfold okSetsO
  refine Bool.and_eq_true_iff.2 ⟨decide_eq_true hk.2, List.all_eq_true.2 fun x hx => ?_⟩
  obtain ⟨h1, h2⟩ := hk.1 x hx
  refine Bool.and_eq_true_iff.2 ⟨decide_eq_true h2, List.all_eq_true.2 fun y hy => ?_⟩
  obtain ⟨h3, h4⟩ := h1 y hy
  exact Bool.and_eq_true_iff.2 ⟨decide_eq_true h3, decide_eq_true h4⟩
theorem open_same (xs : List (List Int)) : ((sumsFrom xs 1 81 0).filter fun t => !decide (((xs.filter (hasSum t)).length : Int) < 2)) = sumsFrom xs 2 81 0 := by
  refine strict_eq _ _ (List.Pairwise.filter _ (sumsFrom_pair xs 1 81 0)) (sumsFrom_pair xs 2 81 0) fun x => ?_
  rw [List.mem_filter, sumsFrom_mem, sumsFrom_mem]
  constructor
  · rintro ⟨⟨v, h1, h2, rfl, h3⟩, h4⟩
    refine ⟨v, h1, h2, rfl, ?_⟩
    have h5 : ¬ (((xs.filter (hasSum (v : Int))).length : Int) < 2) := by simpa using h4
    have e : (xs.filter (hasSum (v : Int))).length = cntS xs v := rfl
    rw [e] at h5
    omega
  · rintro ⟨v, h1, h2, rfl, h3⟩
    refine ⟨⟨v, h1, h2, rfl, by omega⟩, ?_⟩
    have e : (xs.filter (hasSum (v : Int))).length = cntS xs v := rfl
    rw [e]
    have h5 : ¬ ((cntS xs v : Int) < 2) := by omega
    simpa using h5
theorem ev_openSums (xs : List (List Int)) (hk : SetsOk xs) : Ev (fun k => impl_openSums.f k xs) (sumsFrom xs 2 81 0) := by
  unfold impl_openSums.f
  simp only [if_pos (okSetsO_of xs hk)]
  refine Ev.bind (ev_sumsOf xs hk) ?_
  have : impl_distinct.f (xs.map sumL) = some (sumsFrom xs 1 81 0) := by
    unfold impl_distinct.f
    rw [if_pos (by rw [List.length_map]; exact hk.2), sums_same xs hk]
  rw [this]
  simp only [Option.bind_some, open_same]
  exact Ev.now _
theorem sums_yes (c p : Int) (h : 1 ≤ c ∧ c ≤ 4 ∧ 1 ≤ p ∧ p ≤ 160000) : Ev (fun k => spec_SumsOfProduct.f k c p) (sumsFrom ((allSets c.toNat []).filter (hasProd p)) 1 81 0, true) ∧ Ev (fun k => impl_SumsOfProduct.f k c p) (sumsFrom ((allSets c.toNat []).filter (hasProd p)) 1 81 0, true) := by
  unfold spec_SumsOfProduct.f impl_SumsOfProduct.f impl_SetsOfProduct.f
  rw [siChildren_val]
  have hk := part_ok c.toNat (by omega) (hasProd p)
  rw [decide_eq_true h, if_pos h, siSets_val c p h]
  simp only [Option.bind_some, if_true]
  obtain ⟨xs, hxs⟩ : ∃ xs, xs = (allSets c.toNat []).filter (hasProd p) := ⟨_, rfl⟩
  rw [← hxs] at hk ⊢
  refine ⟨Ev.bind (ev_siWith xs hk 1) (Ev.now _), ?_⟩
  have h1 := ev_sums xs hk
  refine Ev.congr (f := fun k => ((impl_sumsOf.f k xs).bind fun t => impl_distinct.f t).bind fun t => some (t, true)) (fun k => ?_) (Ev.bind h1 (Ev.now _))
  cases impl_sumsOf.f k xs <;> rfl
theorem sums_no (c p : Int) (h : ¬ (1 ≤ c ∧ c ≤ 4 ∧ 1 ≤ p ∧ p ≤ 160000)) : Ev (fun k => spec_SumsOfProduct.f k c p) ([], false) ∧ Ev (fun k => impl_SumsOfProduct.f k c p) ([], false) := by
  unfold spec_SumsOfProduct.f impl_SumsOfProduct.f impl_SetsOfProduct.f
  rw [siChildren_val, decide_eq_false h, if_neg h]
  simp only [Option.bind_some, Bool.false_eq_true, if_false]
  exact ⟨Ev.now _, Ev.now _⟩
theorem open_yes (c p : Int) (h : 1 ≤ c ∧ c ≤ 4 ∧ 1 ≤ p ∧ p ≤ 160000) : Ev (fun k => spec_OpenSums.f k c p) (sumsFrom ((allSets c.toNat []).filter (hasProd p)) 2 81 0, true) ∧ Ev (fun k => impl_OpenSums.f k c p) (sumsFrom ((allSets c.toNat []).filter (hasProd p)) 2 81 0, true) := by
  unfold spec_OpenSums.f impl_OpenSums.f impl_SetsOfProduct.f
  rw [siChildren_val]
  have hk := part_ok c.toNat (by omega) (hasProd p)
  rw [decide_eq_true h, if_pos h, siSets_val c p h]
  simp only [Option.bind_some, if_true]
  obtain ⟨xs, hxs⟩ : ∃ xs, xs = (allSets c.toNat []).filter (hasProd p) := ⟨_, rfl⟩
  rw [← hxs] at hk ⊢
  exact ⟨Ev.bind (ev_siWith xs hk 2) (Ev.now _), Ev.bind (ev_openSums xs hk) (Ev.now _)⟩
theorem open_no (c p : Int) (h : ¬ (1 ≤ c ∧ c ≤ 4 ∧ 1 ≤ p ∧ p ≤ 160000)) : Ev (fun k => spec_OpenSums.f k c p) ([], false) ∧ Ev (fun k => impl_OpenSums.f k c p) ([], false) := by
  unfold spec_OpenSums.f impl_OpenSums.f impl_SetsOfProduct.f
  rw [siChildren_val, decide_eq_false h, if_neg h]
  simp only [Option.bind_some, Bool.false_eq_true, if_false]
  exact ⟨Ev.now _, Ev.now _⟩
end Go.Proofs.YtlbnhjeblknepaaGreat.Pure
/- Chapter 4, plain: what is told out of the open sums, put in order, is the reference's list. No condition beyond those typed at each lemma. -/
namespace Go.Proofs.YtlbnhjeblknepaaGreat.Pure
open Go.RowKit Go.Proofs.YtlbnhjeblknepaaGreat.E Go.Proofs.YtlbnhjeblknepaaGreatW.PrintWords Go.Proofs.YtlbnhjeblknepaaGreatW.PrintLast
set_option linter.unusedVariables false
set_option linter.unusedSimpArgs false

/-- Sets of so many children are so long. -/
theorem mem_allSets_len (n : Nat) : ∀ (l s : List Int), s ∈ allSets n l → s.length = l.length + n := by
  induction n with
  | zero =>
    intro l s hs
    obtain rfl : s = l := by simpa [allSets] using hs
    rfl
  | succ n ih =>
    intro l s hs
    simp only [allSets, List.mem_flatten, List.mem_map, List.mem_range] at hs
    obtain ⟨_, ⟨i, hi, rfl⟩, hs⟩ := hs
    have := ih _ s hs
    rw [List.length_append] at this
    simp at this
    omega
theorem okSets_part (c : Nat) (h : c ≤ 4) (q : List Int → Bool) : okSets ((allSets c []).filter q) = true := by
  unfold okSets
  refine Bool.and_eq_true_iff.2 ⟨decide_eq_true ?_, List.all_eq_true.2 fun x hx => ?_⟩
  · have h1 := List.length_filter_le q (allSets c [])
    have h2 := allSets_len c [] (fun x hx => by simp at hx)
    have h3 : 20 ^ c ≤ 20 ^ 4 := Nat.pow_le_pow_right (by omega) h
    omega
  · have := allSets_ages c [] x (fun y hy => by simp at hy) (List.mem_filter.1 hx).1
    refine Bool.and_eq_true_iff.2 ⟨decide_eq_true ?_, List.all_eq_true.2 fun y hy => ?_⟩
    · have h2 := this.2
      simp at h2
      omega
    · have h3 := this.1 y hy
      exact Bool.and_eq_true_iff.2 ⟨decide_eq_true h3.1, decide_eq_true h3.2⟩
theorem cmpL_prefix : ∀ (l x y : List Int), cmpL (l ++ x) (l ++ y) = cmpL x y
  | [], _, _ => rfl
  | a :: l, x, y => by
    show cmpL (a :: (l ++ x)) (a :: (l ++ y)) = _
    rw [cmpL, if_neg (Int.lt_irrefl _), if_neg (Int.lt_irrefl _)]
    exact cmpL_prefix l x y
theorem allSets_pre (n : Nat) : ∀ (l s : List Int), s ∈ allSets n l → ∃ t, s = l ++ t := by
  induction n with
  | zero =>
    intro l s hs
    obtain rfl : s = l := by simpa [allSets] using hs
    exact ⟨[], by simp⟩
  | succ n ih =>
    intro l s hs
    simp only [allSets, List.mem_flatten, List.mem_map, List.mem_range] at hs
    obtain ⟨_, ⟨i, hi, rfl⟩, hs⟩ := hs
    obtain ⟨t, rfl⟩ := ih _ s hs
    exact ⟨(fromOf l + (i : Int)) :: t, by simp⟩
theorem flat_pair {α : Type} {R : α → α → Prop} (f : Nat → List α) (h1 : ∀ i, (f i).Pairwise R) (h2 : ∀ i j, i < j → ∀ x ∈ f i, ∀ y ∈ f j, R x y) : ∀ n, (((List.range n).map f).flatten).Pairwise R
  | 0 => List.Pairwise.nil
  | n + 1 => by
    rw [List.range_succ, List.map_append, List.flatten_append]
    refine List.pairwise_append.2 ⟨flat_pair f h1 h2 n, by simpa using h1 n, fun x hx y hy => ?_⟩
    obtain ⟨l, hl, hx⟩ := List.mem_flatten.1 hx
    obtain ⟨i, hi, rfl⟩ := List.mem_map.1 hl
    have hy : y ∈ f n := by simpa using hy
    exact h2 i n (List.mem_range.1 hi) x hx y hy
theorem allSets_up (n : Nat) : ∀ l : List Int, (allSets n l).Pairwise fun x y => cmpL x y < 0 := by
  induction n with
  | zero => intro l; exact List.pairwise_singleton _ _
  | succ n ih =>
    intro l
    refine flat_pair _ (fun i => ih _) (fun i j hij x hx y hy => ?_) _
    obtain ⟨t, rfl⟩ := allSets_pre n _ x hx
    obtain ⟨u, rfl⟩ := allSets_pre n _ y hy
    rw [List.append_assoc, List.append_assoc, cmpL_prefix]
    show cmpL ((fromOf l + (i : Int)) :: t) ((fromOf l + (j : Int)) :: u) < 0
    rw [cmpL, if_pos (by omega)]
    decide
theorem sorted_eq : ∀ (a b : List Nat), a.Pairwise (· ≤ ·) → b.Pairwise (· ≤ ·) → a.Perm b → a = b
  | [], b, _, _, h => (List.Perm.nil_eq h)
  | x :: a, [], _, _, h => absurd h.length_eq (by simp)
  | x :: a, y :: b, ha, hb, h => by
    obtain ⟨hx, ha'⟩ := List.pairwise_cons.1 ha
    obtain ⟨hy, hb'⟩ := List.pairwise_cons.1 hb
    have e : x = y := by
      have h1 : y ∈ x :: a := h.mem_iff.2 (List.mem_cons_self ..)
      have h2 : x ∈ y :: b := h.mem_iff.1 (List.mem_cons_self ..)
      rcases List.mem_cons.1 h1 with h1 | h1
      · exact h1.symm
      · rcases List.mem_cons.1 h2 with h2 | h2
        · exact h2
        · exact Nat.le_antisymm (hx y h1) (hy x h2)
    subst e
    rw [sorted_eq a b ha' hb' (List.Perm.cons_inv h)]
theorem pick_range (xs : List (List Int)) (f : List Int → Bool) : pickX xs ((List.range xs.length).filter fun q => f (xs.getD q [])) = xs.filter f := by
  have h := stay_filter (fun x => !f x) xs
  simp only [Bool.not_not] at h
  unfold stayAt at h
  simp only [Bool.not_not] at h
  exact h
theorem pick_filter (l : List Nat) (f : Nat → Bool) : ((List.range l.length).filter fun m => f (l.getD m 0)).map (fun m => l.getD m 0) = l.filter f := by
  have e : l = (List.range l.length).map (fun m => l.getD m 0) := by
    apply List.ext_getElem?
    intro j
    by_cases hj : j < l.length
    · rw [List.getElem?_map, List.getElem?_range hj, Option.map_some, List.getElem?_eq_getElem hj]
      simp [List.getD, List.getElem?_eq_getElem hj]
    · rw [List.getElem?_eq_none (by omega), List.getElem?_eq_none (by simp; omega)]
  conv => rhs; rw [e, List.filter_map]
  rfl
theorem idxSum_is (t : Int) (xs : List (List Int)) : idxSum t xs = (List.range xs.length).filter fun q => hasSum t (xs.getD q []) := by
  unfold idxSum stayAt
  simp only [Bool.not_not]
theorem pickX_at (xs : List (List Int)) (st : List Nat) (m : Nat) (h : m < st.length) : (pickX xs st).getD m [] = xs.getD (st.getD m 0) [] := by
  unfold pickX
  simp [List.getD, List.getElem?_eq_getElem h]
theorem ownIdx_is (b : Bool) (xs : List (List Int)) (t : Int) : ownIdx b xs t = (List.range xs.length).filter fun q => hasSum t (xs.getD q []) && ageB b (xs.getD q []) := by
  unfold ownIdx
  rw [pickX_len]
  unfold stayAt
  simp only [Bool.not_not]
  have e : ((List.range (idxSum t xs).length).filter fun m => ageB b ((pickX xs (idxSum t xs)).getD m [])) = (List.range (idxSum t xs).length).filter fun m => ageB b (xs.getD ((idxSum t xs).getD m 0) []) :=
    List.filter_congr fun m hm => by rw [pickX_at xs _ m (List.mem_range.1 hm)]
  rw [e, pick_filter (idxSum t xs) (fun q => ageB b (xs.getD q [])), idxSum_is, List.filter_filter]
  exact List.filter_congr fun q _ => Bool.and_comm _ _
theorem ownIdx_len (b : Bool) (xs : List (List Int)) (t : Int) : (ownIdx b xs t).length = ((xs.filter (hasSum t)).filter (ageB b)).length := by
  have h := pick_range xs (fun x => hasSum t x && ageB b x)
  rw [← ownIdx_is] at h
  rw [← pickX_len xs, h, List.filter_filter]
  congr 1
  exact List.filter_congr fun x _ => Bool.and_comm _ _
theorem toldOne_is (b : Bool) (xs : List (List Int)) (t : Int) : toldOne b xs t = if (ownIdx b xs t).length = 1 then ownIdx b xs t else [] := by
  unfold toldOne
  by_cases h : (ownIdx b xs t).length = 1
  · rw [if_pos h, if_pos h]
    obtain ⟨y, hy⟩ := List.length_eq_one_iff.1 h
    rw [hy]
    rfl
  · rw [if_neg h, if_neg h]
theorem mem_toldOne (b : Bool) (xs : List (List Int)) (t : Int) (q : Nat) : q ∈ toldOne b xs t ↔ (q < xs.length ∧ ((xs.filter (hasSum t)).filter (ageB b)).length = 1 ∧ sumL (xs.getD q []) = t ∧ ageB b (xs.getD q []) = true) := by
  rw [toldOne_is]
  by_cases h : (ownIdx b xs t).length = 1
  · rw [if_pos h]
    rw [ownIdx_len] at h
    rw [ownIdx_is, List.mem_filter, List.mem_range, Bool.and_eq_true]
    constructor
    · rintro ⟨h1, h2, h3⟩
      exact ⟨h1, h, of_decide_eq_true h2, h3⟩
    · rintro ⟨h1, _, h2, h3⟩
      exact ⟨h1, decide_eq_true h2, h3⟩
  · rw [if_neg h]
    rw [ownIdx_len] at h
    exact ⟨fun h1 => absurd h1 List.not_mem_nil, fun h1 => absurd h1.2.1 h⟩
theorem mem_toldIdx (b : Bool) (xs : List (List Int)) (os : List Int) (q : Nat) : q ∈ toldIdx b xs os ↔ (q < xs.length ∧ sumL (xs.getD q []) ∈ os ∧ ((xs.filter (hasSum (sumL (xs.getD q [])))).filter (ageB b)).length = 1 ∧ ageB b (xs.getD q []) = true) := by
  unfold toldIdx
  rw [List.mem_flatten]
  constructor
  · rintro ⟨l, hl, hq⟩
    obtain ⟨t, ht, rfl⟩ := List.mem_map.1 hl
    obtain ⟨h1, h2, h3, h4⟩ := (mem_toldOne b xs t q).1 hq
    rw [h3]
    exact ⟨h1, ht, h2, h4⟩
  · rintro ⟨h1, h2, h3, h4⟩
    exact ⟨_, List.mem_map.2 ⟨_, h2, rfl⟩, (mem_toldOne b xs _ q).2 ⟨h1, h3, rfl, h4⟩⟩
theorem toldOne_nodup (b : Bool) (xs : List (List Int)) (t : Int) : (toldOne b xs t).Nodup := by
  unfold toldOne
  split
  · exact List.pairwise_singleton _ _
  · exact List.Pairwise.nil
theorem toldIdx_nodup (b : Bool) (xs : List (List Int)) : ∀ os : List Int, os.Nodup → (toldIdx b xs os).Nodup
  | [], _ => List.Pairwise.nil
  | t :: os, h => by
    obtain ⟨h1, h2⟩ := List.nodup_cons.1 h
    show (toldOne b xs t ++ toldIdx b xs os).Nodup
    refine List.nodup_append.2 ⟨toldOne_nodup b xs t, toldIdx_nodup b xs os h2, fun q hq r hr e => ?_⟩
    subst e
    have e1 := ((mem_toldOne b xs t q).1 hq).2.2.1
    have e2 := ((mem_toldIdx b xs os q).1 hr).2.1
    rw [e1] at e2
    exact h1 e2
theorem told_same (b : Bool) (xs : List (List Int)) (hup : xs.Pairwise fun x y => cmpL x y < 0) (os : List Int) (hnd : os.Nodup) (hos : ∀ x ∈ xs, sumL x ∈ os ↔ 1 < (xs.filter (hasSum (sumL x))).length) (st : List Nat) (hp : st.Perm (toldIdx b xs os)) (hpw : st.Pairwise fun a b => ¬ cfQ xs b a < 0) : pickX xs st = toldS b xs := by
  have hlt : ∀ q ∈ st, q < xs.length := fun q hq => toldIdx_lt b xs os q (hp.mem_iff.1 hq)
  have hle : st.Pairwise (· ≤ ·) := by
    refine List.Pairwise.imp_of_mem (fun {a b} ha hb h => ?_) hpw
    apply Nat.le_of_not_lt
    intro hba
    apply h
    unfold cfQ
    have hbl := hlt b hb
    have hal := hlt a ha
    have := List.pairwise_iff_getElem.1 hup b a hbl hal hba
    rw [show xs.getD b [] = xs[b] by simp [List.getD, List.getElem?_eq_getElem hbl], show xs.getD a [] = xs[a] by simp [List.getD, List.getElem?_eq_getElem hal]]
    exact this
  have hT : ((List.range xs.length).filter fun q => isTold b xs (xs.getD q [])).Pairwise (· ≤ ·) := List.Pairwise.filter _ (List.Pairwise.imp (fun h => Nat.le_of_lt h) List.pairwise_lt_range)
  have hTn : ((List.range xs.length).filter fun q => isTold b xs (xs.getD q [])).Nodup := List.Pairwise.filter _ List.nodup_range
  have hperm : st.Perm ((List.range xs.length).filter fun q => isTold b xs (xs.getD q [])) := by
    refine hp.trans ((List.perm_ext_iff_of_nodup (toldIdx_nodup b xs os hnd) hTn).2 fun q => ?_)
    rw [mem_toldIdx, List.mem_filter, List.mem_range]
    constructor
    · rintro ⟨h1, h2, h3, h4⟩
      have hx : xs.getD q [] ∈ xs := by rw [show xs.getD q [] = xs[q] by simp [List.getD, List.getElem?_eq_getElem h1]]; exact List.getElem_mem _
      refine ⟨h1, ?_⟩
      unfold isTold
      rw [decide_eq_true ((hos _ hx).1 h2), decide_eq_true h3, h4]
      rfl
    · rintro ⟨h1, h2⟩
      have hx : xs.getD q [] ∈ xs := by rw [show xs.getD q [] = xs[q] by simp [List.getD, List.getElem?_eq_getElem h1]]; exact List.getElem_mem _
      unfold isTold at h2
      simp only [Bool.and_eq_true, decide_eq_true_eq] at h2
      exact ⟨h1, (hos _ hx).2 h2.1, h2.2.1, h2.2.2⟩
  rw [sorted_eq _ _ hle hT hperm, pick_range]
  rfl
theorem told_len (b : Bool) (xs : List (List Int)) (os : List Int) (hnd : os.Nodup) (hos : ∀ x ∈ xs, sumL x ∈ os ↔ 1 < (xs.filter (hasSum (sumL x))).length) : (toldIdx b xs os).length = (toldS b xs).length := by
  have hTn : ((List.range xs.length).filter fun q => isTold b xs (xs.getD q [])).Nodup := List.Pairwise.filter _ List.nodup_range
  have hperm : (toldIdx b xs os).Perm ((List.range xs.length).filter fun q => isTold b xs (xs.getD q [])) := by
    refine (List.perm_ext_iff_of_nodup (toldIdx_nodup b xs os hnd) hTn).2 fun q => ?_
    rw [mem_toldIdx, List.mem_filter, List.mem_range]
    constructor
    · rintro ⟨h1, h2, h3, h4⟩
      have hx : xs.getD q [] ∈ xs := by rw [show xs.getD q [] = xs[q] by simp [List.getD, List.getElem?_eq_getElem h1]]; exact List.getElem_mem _
      refine ⟨h1, ?_⟩
      unfold isTold
      rw [decide_eq_true ((hos _ hx).1 h2), decide_eq_true h3, h4]
      rfl
    · rintro ⟨h1, h2⟩
      have hx : xs.getD q [] ∈ xs := by rw [show xs.getD q [] = xs[q] by simp [List.getD, List.getElem?_eq_getElem h1]]; exact List.getElem_mem _
      unfold isTold at h2
      simp only [Bool.and_eq_true, decide_eq_true_eq] at h2
      exact ⟨h1, (hos _ hx).2 h2.1, h2.2.1, h2.2.2⟩
  rw [hperm.length_eq, ← pickX_len xs, pick_range]
  rfl
theorem open_mem (xs : List (List Int)) (hk : SetsOk xs) (x : List Int) (hx : x ∈ xs) : sumL x ∈ sumsFrom xs 2 81 0 ↔ 1 < (xs.filter (hasSum (sumL x))).length := by
  obtain ⟨h1, h2⟩ := hk.1 x hx
  have hs := sum_in h1 h2
  rw [sumsFrom_mem]
  constructor
  · rintro ⟨v, _, _, e, h3⟩
    have e2 : (xs.filter (hasSum (v : Int))).length = cntS xs v := rfl
    rw [e, e2]
    omega
  · intro h
    refine ⟨(sumL x).toNat, by omega, by omega, by omega, ?_⟩
    have e2 : (xs.filter (hasSum ((sumL x).toNat : Int))).length = cntS xs (sumL x).toNat := rfl
    rw [← e2, Int.toNat_of_nonneg hs.1]
    omega
theorem told_ok (b : Bool) (xs : List (List Int)) (hk : SetsOk xs) (hup : xs.Pairwise fun x y => cmpL x y < 0) : ToldOk b xs (toldS b xs) := by
  obtain ⟨k, hk2⟩ := Ev.rounds (ev_openSums xs hk)
  have hpw := sumsFrom_pair xs 2 81 0
  have hnd : (sumsFrom xs 2 81 0).Nodup := List.Pairwise.imp (fun h => Int.ne_of_lt h) hpw
  refine ⟨k, _, hk2, Nat.le_trans (sumsFrom_len xs 2 81 0) (by decide), toldIdx_nodup b xs _ hnd, fun st hp hs => told_same b xs hup _ hnd (open_mem xs hk) st hp hs⟩
theorem okTold_part (c : Nat) (h1 : 1 ≤ c) (h : c ≤ 4) (q : List Int → Bool) : okTold ((allSets c []).filter q) = true := by
  unfold okTold
  refine Bool.and_eq_true_iff.2 ⟨okSets_part c h q, List.all_eq_true.2 fun x hx => decide_eq_true ?_⟩
  have := mem_allSets_len c [] x (List.mem_filter.1 hx).1
  simp at this
  omega
end Go.Proofs.YtlbnhjeblknepaaGreat.Pure
/- Chapter 4, plain: the products for which one set is told. No condition beyond those typed at each lemma. -/
namespace Go.Proofs.YtlbnhjeblknepaaGreat.Pure
open Go.RowKit Go.Proofs.YtlbnhjeblknepaaGreat.E Go.Proofs.YtlbnhjeblknepaaGreatW.PrintWords Go.Proofs.YtlbnhjeblknepaaGreatW.PrintLast
set_option linter.unusedVariables false
set_option linter.unusedSimpArgs false

theorem w64p {x : Int} (h0 : -9223372036854775808 ≤ x) (h1 : x ≤ 9223372036854775807) : wrap64 x = x := by unfold wrap64; omega
theorem siRange_val (c fr tt : Int) : spec_siRange.f c fr tt = some (lotsOk c fr tt) := by
  unfold spec_siRange.f lotsOk
  rw [siChildren_val, Option.bind_some]
  by_cases h1 : 1 ≤ c ∧ c ≤ 4 ∧ 1 ≤ tt ∧ tt ≤ 160000
  · rw [decide_eq_true h1, if_pos rfl, l1In_val, Option.bind_some]
    by_cases h2 : 1 ≤ fr ∧ fr ≤ tt
    · rw [decide_eq_true h2, if_pos rfl, w64p (by omega) (by omega), decide_eq_true (show 1 ≤ c ∧ c ≤ 4 by omega), decide_eq_true (show 1 ≤ fr ∧ fr ≤ 160000 by omega), decide_eq_true (show fr ≤ tt ∧ tt ≤ 160000 by omega)]
      rfl
    · rw [decide_eq_false h2, if_neg (by simp)]
      have : (decide (1 ≤ fr ∧ fr ≤ 160000) && (decide (fr ≤ tt ∧ tt ≤ 160000) && decide (tt - fr ≤ 1000))) = false := by
        by_cases h3 : 1 ≤ fr
        · rw [decide_eq_false (show ¬ (fr ≤ tt ∧ tt ≤ 160000) by omega), Bool.false_and, Bool.and_false]
        · rw [decide_eq_false (show ¬ (1 ≤ fr ∧ fr ≤ 160000) by omega), Bool.false_and]
      rw [this, Bool.and_false]
  · rw [decide_eq_false h1, if_neg (by simp)]
    have : (decide (1 ≤ c ∧ c ≤ 4) && (decide (1 ≤ fr ∧ fr ≤ 160000) && (decide (fr ≤ tt ∧ tt ≤ 160000) && decide (tt - fr ≤ 1000)))) = false := by
      rw [← Bool.not_eq_true]
      intro h
      simp only [Bool.and_eq_true, decide_eq_true_eq] at h
      omega
    rw [this]
/-- The products among the first n for which one set is told. -/
def oneP (c : Nat) (fr : Int) : Nat → List Int
  | 0 => []
  | n + 1 => oneP c fr n ++ if (toldS true (lotX c fr n)).length = 1 then [fr + (n : Int)] else []
theorem oneP_len (c : Nat) (fr : Int) : ∀ n, (oneP c fr n).length ≤ n
  | 0 => Nat.le_refl _
  | n + 1 => by
    have ih := oneP_len c fr n
    show (oneP c fr n ++ _).length ≤ _
    rw [List.length_append]
    split <;> simp <;> omega
theorem ev_oneI (c : Nat) (h1 : 1 ≤ c) (h4 : c ≤ 4) (fr : Int) : ∀ n, Ev (fun k => oneI k c fr n) (oneP c fr n)
  | 0 => Ev.now _
  | n + 1 => by
    have hk : SetsOk (lotX c fr n) := part_ok c h4 (hasProd (fr + (n : Int)))
    have hpw := sumsFrom_pair (lotX c fr n) 2 81 0
    have hnd : (sumsFrom (lotX c fr n) 2 81 0).Nodup := List.Pairwise.imp (fun h => Int.ne_of_lt h) hpw
    have hl : (sumsFrom (lotX c fr n) 2 81 0).length ≤ 200000 := Nat.le_trans (sumsFrom_len _ 2 81 0) (by decide)
    have hlen := told_len true (lotX c fr n) _ hnd (open_mem _ hk)
    simp only [oneI, oneP]
    refine Ev.bind (ev_oneI c h1 h4 fr n) (Ev.bind (ev_openSums _ hk) ?_)
    rw [if_pos hl, hlen]
    exact Ev.now _
theorem oneS_is (c fr : Int) (hc : 1 ≤ c ∧ c ≤ 4) (hf : 1 ≤ fr) : ∀ n : Nat, fr + (n : Int) ≤ 160001 → oneS c fr n = some (oneP c.toNat fr n)
  | 0, _ => rfl
  | n + 1, h => by
    have h2 : 1 ≤ c ∧ c ≤ 4 ∧ 1 ≤ fr + (n : Int) ∧ fr + (n : Int) ≤ 160000 := by omega
    simp only [oneS, oneP]
    rw [oneS_is c fr hc hf n (by omega), Option.bind_some, siSets_val c _ h2, Option.bind_some, if_pos (okTold_part c.toNat (by omega) (by omega) _)]
    rfl
theorem one_yes (c fr tt : Int) (hp : lotsOk c fr tt = true) : spec_OneByOldest.f c fr tt = some (oneP c.toNat fr (tt - fr + 1).toNat, true) ∧ Ev (fun k => impl_OneByOldest.f k c fr tt) (oneP c.toNat fr (tt - fr + 1).toNat, true) := by
  unfold spec_OneByOldest.f impl_OneByOldest.f
  rw [siRange_val, Option.bind_some]
  have hk : 1 ≤ c ∧ c ≤ 4 ∧ 1 ≤ fr ∧ fr ≤ 160000 ∧ fr ≤ tt ∧ tt ≤ 160000 := by
    unfold lotsOk at hp
    simp only [Bool.and_eq_true, decide_eq_true_eq] at hp
    omega
  rw [hp, if_pos rfl, if_pos (show 0 ≤ tt - fr + 1 ∧ 0 ≤ fr ∧ fr ≤ 160000 ∧ tt ≤ 160000 by omega), oneS_is c fr (by omega) (by omega) _ (by omega), Option.bind_some]
  refine ⟨rfl, ?_⟩
  simp only [if_true]
  exact Ev.bind (ev_oneI c.toNat (by omega) (by omega) fr _) (Ev.now _)
theorem one_no (c fr tt : Int) (hp : lotsOk c fr tt = false) : spec_OneByOldest.f c fr tt = some ([], false) ∧ Ev (fun k => impl_OneByOldest.f k c fr tt) ([], false) := by
  unfold spec_OneByOldest.f impl_OneByOldest.f
  rw [siRange_val, Option.bind_some, hp, if_neg (by simp)]
  refine ⟨rfl, ?_⟩
  rw [show (fun k : Nat => if false = true then (oneI k c.toNat fr (tt - fr + 1).toNat).bind fun l => some (l, true) else some (([] : List Int), false)) = fun _ => some ([], false) from rfl]
  exact Ev.now _
theorem oneP_mem (c : Nat) (fr : Int) : ∀ (n : Nat) (v : Int), v ∈ oneP c fr n → ∃ i : Nat, i < n ∧ v = fr + (i : Int) ∧ (toldS true (lotX c fr i)).length = 1
  | 0, v, h => absurd h List.not_mem_nil
  | n + 1, v, h => by
    rcases List.mem_append.1 (show v ∈ oneP c fr n ++ _ from h) with h1 | h1
    · obtain ⟨i, hi, e, hl⟩ := oneP_mem c fr n v h1
      exact ⟨i, by omega, e, hl⟩
    · by_cases hc : (toldS true (lotX c fr n)).length = 1
      · rw [if_pos hc, List.mem_singleton] at h1
        exact ⟨n, by omega, h1, hc⟩
      · rw [if_neg hc] at h1
        exact absurd h1 List.not_mem_nil
theorem oneP_up (c : Nat) (fr : Int) : ∀ n : Nat, (oneP c fr n).Pairwise (· < ·)
  | 0 => List.Pairwise.nil
  | n + 1 => by
    show (oneP c fr n ++ _).Pairwise _
    rw [List.pairwise_append]
    refine ⟨oneP_up c fr n, ?_, fun a ha b hb => ?_⟩
    · split <;> simp
    · obtain ⟨i, hi, e, _⟩ := oneP_mem c fr n a ha
      by_cases hc : (toldS true (lotX c fr n)).length = 1
      · rw [if_pos hc, List.mem_singleton] at hb
        omega
      · rw [if_neg hc] at hb
        exact absurd hb List.not_mem_nil
end Go.Proofs.YtlbnhjeblknepaaGreat.Pure
/- Sets have the told products and sums and are all of them in order, open sums have several, and an oldest or a youngest child tells just one of these: plain. No condition. -/
namespace Go.Proofs.YtlbnhjeblknepaaGreat.Pure
open Go.RowKit Go.Proofs.YtlbnhjeblknepaaGreat.E Go.Proofs.YtlbnhjeblknepaaGreatW.PrintWords Go.Proofs.YtlbnhjeblknepaaGreatW.PrintLast
set_option linter.unusedVariables false
set_option linter.unusedSimpArgs false

/-! ### one list: what it has -/
theorem set_evs (s : List Int) (hn : s.length ≤ 1000) : ∃ b : Bool, (b = true ↔ SetP s) ∧ Ev (fun k => impl_IsSet.f k s) b ∧ Ev (fun k => spec_IsSet.f k s) b ∧
    Ev (fun k => impl_HasOldest.f k s) (if b = true then (oldB s, true) else (false, false)) ∧ Ev (fun k => spec_HasOldest.f k s) (if b = true then (oldB s, true) else (false, false)) ∧
    Ev (fun k => impl_HasYoungest.f k s) (if b = true then (youngB s, true) else (false, false)) ∧ Ev (fun k => spec_HasYoungest.f k s) (if b = true then (youngB s, true) else (false, false)) ∧
    Ev (fun k => impl_TwinsIn.f k s) (if b = true then ((spec_TwinsIn.tw s s.length : Int), true) else (0, false)) ∧ Ev (fun k => spec_TwinsIn.f k s) (if b = true then ((spec_TwinsIn.tw s s.length : Int), true) else (0, false)) := by
  obtain ⟨b, h1, h2, h3⟩ := ev_set s (by omega)
  have tws : ∀ i, impl_TwinsIn.tw s i = spec_TwinsIn.tw s i := by
    intro i
    induction i with
    | zero => rfl
    | succ i ih => show impl_TwinsIn.tw s i + impl_TwinsIn.row s i i = spec_TwinsIn.tw s i + spec_TwinsIn.row s i i; rw [ih]; rfl
  unfold impl_IsSet.f spec_IsSet.f impl_HasOldest.f spec_HasOldest.f impl_HasYoungest.f spec_HasYoungest.f impl_TwinsIn.f spec_TwinsIn.f
  refine ⟨b, h3, Ev.bind h2 (Ev.now _), Ev.bind h1 (Ev.now _), ?_⟩
  cases b with
  | false =>
    simp only [Bool.false_eq_true, if_false]
    exact ⟨Ev.bind h2 (by simp only [Bool.false_eq_true, if_false]; exact Ev.now _), Ev.bind h1 (by simp only [Bool.false_eq_true, if_false]; exact Ev.now _), Ev.bind h2 (by simp only [Bool.false_eq_true, if_false]; exact Ev.now _), Ev.bind h1 (by simp only [Bool.false_eq_true, if_false]; exact Ev.now _), Ev.bind h2 (by simp only [Bool.false_eq_true, if_false]; exact Ev.now _), Ev.bind h1 (by simp only [Bool.false_eq_true, if_false]; exact Ev.now _)⟩
  | true =>
    have hs := (h3.1 rfl).1
    simp only [if_true]
    refine ⟨Ev.bind h2 ?_, Ev.bind h1 ?_, Ev.bind h2 ?_, Ev.bind h1 ?_, Ev.bind h2 ?_, Ev.bind h1 ?_⟩
    · simp only [if_true, hasOldest_val s hs.1 hs.2, Option.bind_some]; exact Ev.now _
    · simp only [if_true, siOldest_val s hs.1 hs.2, Option.bind_some]; exact Ev.now _
    · simp only [if_true, hasYoungest_val s hs.1 hs.2, Option.bind_some]; exact Ev.now _
    · simp only [if_true, siYoungest_val s hs.1 hs.2, Option.bind_some]; exact Ev.now _
    · simp only [if_true, if_pos hs.2, tws]; exact Ev.now _
    · simp only [if_true, if_pos hs.2]; exact Ev.now _
theorem mem_take_rd (l : List Int) (i : Nat) (hi : i ≤ l.length) (x : Int) : x ∈ l.take i ↔ ∃ j : Nat, j < i ∧ rd l (j : Int) = x := by
  rw [List.mem_take_iff_getElem]
  constructor
  · rintro ⟨j, hj, e⟩
    exact ⟨j, by omega, by rw [rd_at l j (by omega)]; exact e⟩
  · rintro ⟨j, hj, e⟩
    exact ⟨j, by omega, by rw [← rd_at l j (by omega)]; exact e⟩
theorem row_zero (l : List Int) (i : Nat) (hi : i < l.length) : spec_TwinsIn.row l i i = 0 ↔ ∀ j : Nat, j < i → rd l (i : Int) ≠ rd l (j : Int) := by
  unfold spec_TwinsIn.row
  rw [List.length_eq_zero_iff, List.filter_eq_nil_iff]
  constructor
  · intro h j hj e
    exact h _ ((mem_take_rd l i (by omega) _).2 ⟨j, hj, rfl⟩) (decide_eq_true e)
  · intro h x hx e
    obtain ⟨j, hj, rfl⟩ := (mem_take_rd l i (by omega) x).1 hx
    exact h j hj (of_decide_eq_true e)
theorem tw_zero (l : List Int) : ∀ n : Nat, n ≤ l.length → (spec_TwinsIn.tw l n = 0 ↔ ∀ i j : Nat, j < i → i < n → rd l (i : Int) ≠ rd l (j : Int))
  | 0, _ => ⟨fun _ i j _ h => absurd h (Nat.not_lt_zero _), fun _ => rfl⟩
  | n + 1, h => by
    have ih := tw_zero l n (by omega)
    have hr := row_zero l n (by omega)
    show spec_TwinsIn.tw l n + spec_TwinsIn.row l n n = 0 ↔ _
    rw [Nat.add_eq_zero_iff, ih, hr]
    constructor
    · rintro ⟨g1, g2⟩ i j hj hi
      by_cases e : i = n
      · subst e; exact g2 j hj
      · exact g1 i j hj (by omega)
    · intro g
      exact ⟨fun i j hj hi => g i j hj (by omega), fun j hj => g n j hj (by omega)⟩
theorem old_iff (s : List Int) (h : 1 < s.length) : oldB s = true ↔ rd s ((s.length - 2 : Nat) : Int) < rd s ((s.length - 1 : Nat) : Int) := by
  unfold oldB
  have e1 : (s.length : Int) - 1 = ((s.length - 1 : Nat) : Int) := by omega
  have e2 : (s.length : Int) - 2 = ((s.length - 2 : Nat) : Int) := by omega
  rw [decide_eq_false (by omega), Bool.false_or, e1, e2, decide_eq_true_iff]
  first | done | exact Iff.rfl
theorem young_iff (s : List Int) (h : 1 < s.length) : youngB s = true ↔ rd s ((0 : Nat) : Int) < rd s ((1 : Nat) : Int) := by
  unfold youngB
  rw [decide_eq_false (by omega), Bool.false_or, decide_eq_true_iff]
  first | done | exact Iff.rfl
theorem twins_facts (s : List Int) (hs : SetP s) (h : 1 < s.length) : (oldB s = true → youngB s = true → s.length < 4 → spec_TwinsIn.tw s s.length = 0) ∧ (spec_TwinsIn.tw s s.length = 0 → oldB s = true ∧ youngB s = true) := by
  rw [old_iff s h, young_iff s h, tw_zero s s.length (Nat.le_refl _)]
  have hu := hs.2.2
  have u1 := hu 1 (Nat.le_refl _) h
  have u2 := hu (s.length - 1) (by omega) (by omega)
  rw [show s.length - 1 - 1 = s.length - 2 by omega] at u2
  constructor
  · intro g1 g2 g3 i j hj hi
    by_cases h2 : s.length = 2
    · have e1 : i = 1 := by omega
      have e2 : j = 0 := by omega
      subst e1; subst e2
      omega
    · have h3 : s.length = 3 := by omega
      rw [h3] at g1
      have g1' : rd s ((1 : Nat) : Int) < rd s ((2 : Nat) : Int) := g1
      by_cases e1 : i = 1
      · have e2 : j = 0 := by omega
        subst e1; subst e2
        omega
      · have e1 : i = 2 := by omega
        subst e1
        by_cases e2 : j = 0
        · subst e2; omega
        · have e2 : j = 1 := by omega
          subst e2; omega
  · intro g
    have g1 := g 1 0 (by omega) h
    have g2 := g (s.length - 1) (s.length - 2) (by omega) (by omega)
    rw [show (1 : Nat) - 1 = 0 from rfl] at u1
    exact ⟨by omega, by omega⟩
/-! ### products and sums -/
theorem sets_val (c p : Int) (h : 1 ≤ c ∧ c ≤ 4 ∧ 1 ≤ p ∧ p ≤ 160000) : impl_SetsOfProduct.f c p = some ((allSets c.toNat []).filter (hasProd p), true) ∧ spec_SetsOfProduct.f c p = some ((allSets c.toNat []).filter (hasProd p), true) ∧
    impl_CountSets.f c p = some ((((allSets c.toNat []).filter (hasProd p)).length : Int), true) ∧ spec_CountSets.f c p = some ((((allSets c.toNat []).filter (hasProd p)).length : Int), true) := by
  unfold impl_CountSets.f impl_SetsOfProduct.f spec_SetsOfProduct.f spec_CountSets.f
  rw [siChildren_val, decide_eq_true h, if_pos h, siSets_val c p h]
  exact ⟨rfl, rfl, rfl, rfl⟩
theorem sets_no (c p : Int) (h : ¬ (1 ≤ c ∧ c ≤ 4 ∧ 1 ≤ p ∧ p ≤ 160000)) : impl_SetsOfProduct.f c p = some ([], false) ∧ spec_SetsOfProduct.f c p = some ([], false) ∧ impl_CountSets.f c p = some (0, false) ∧ spec_CountSets.f c p = some (0, false) := by
  unfold impl_CountSets.f impl_SetsOfProduct.f spec_SetsOfProduct.f spec_CountSets.f
  rw [siChildren_val, decide_eq_false h, if_neg h]
  exact ⟨rfl, rfl, rfl, rfl⟩
theorem siSum_v (c s : Int) : spec_siSum.f c s = some (decide (1 ≤ c ∧ c ≤ 4 ∧ 1 ≤ s ∧ s ≤ 80)) := by
  unfold spec_siSum.f
  rw [l1In_val, Option.bind_some]
  by_cases h : 1 ≤ c ∧ c ≤ 4
  · rw [decide_eq_true h, if_pos rfl, l1In_val]; simp [h]
  · rw [decide_eq_false h, if_neg (by simp)]; simp; omega
theorem both_val (c p s : Int) (h : 1 ≤ c ∧ c ≤ 4 ∧ 1 ≤ p ∧ p ≤ 160000) (h2 : 1 ≤ s ∧ s ≤ 80) : impl_SetsOfBoth.f c p s = some (((allSets c.toNat []).filter (hasProd p)).filter (hasSum s), true) ∧ spec_SetsOfBoth.f c p s = some (((allSets c.toNat []).filter (hasProd p)).filter (hasSum s), true) ∧
    impl_DoesTell.f c p s = some (decide ((((allSets c.toNat []).filter (hasProd p)).filter (hasSum s)).length = 1), decide (0 < (((allSets c.toNat []).filter (hasProd p)).filter (hasSum s)).length)) ∧ spec_DoesTell.f c p s = some (decide ((((allSets c.toNat []).filter (hasProd p)).filter (hasSum s)).length = 1), decide (0 < (((allSets c.toNat []).filter (hasProd p)).filter (hasSum s)).length)) := by
  have hk := okSets_part c.toNat (by omega) (hasProd p)
  have h3 : 1 ≤ c ∧ c ≤ 4 ∧ 1 ≤ s ∧ s ≤ 80 := ⟨h.1, h.2.1, h2.1, h2.2⟩
  have h4 : 1 ≤ c ∧ c ≤ 4 ∧ 1 ≤ p ∧ p ≤ 160000 ∧ 1 ≤ s ∧ s ≤ 80 := ⟨h.1, h.2.1, h.2.2.1, h.2.2.2, h2.1, h2.2⟩
  have e1 : impl_SetsOfBoth.f c p s = some (((allSets c.toNat []).filter (hasProd p)).filter (hasSum s), true) := by unfold impl_SetsOfBoth.f; rw [if_pos h4]
  have e2 : spec_SetsOfBoth.f c p s = some (((allSets c.toNat []).filter (hasProd p)).filter (hasSum s), true) := by
    unfold spec_SetsOfBoth.f
    rw [siChildren_val, siSum_v, decide_eq_true h, decide_eq_true h3, siSets_val c p h]
    simp only [Option.bind_some, if_true, if_pos hk]
  have e4 : spec_DoesTell.f c p s = some (decide ((((allSets c.toNat []).filter (hasProd p)).filter (hasSum s)).length = 1), decide (0 < (((allSets c.toNat []).filter (hasProd p)).filter (hasSum s)).length)) := by
    unfold spec_DoesTell.f
    rw [siChildren_val, siSum_v, decide_eq_true h, decide_eq_true h3, siSets_val c p h]
    simp only [Option.bind_some, if_true, if_pos hk]
  refine ⟨e1, e2, ?_, e4⟩
  unfold impl_DoesTell.f
  rw [e1]
  simp only [Option.bind_some, if_true]
  obtain ⟨n, hn⟩ : ∃ n, n = (((allSets c.toNat []).filter (hasProd p)).filter (hasSum s)).length := ⟨_, rfl⟩
  rw [← hn]
  rcases n with _ | _ | n
  · simp
  · simp
  · have a1 : ¬ (((n + 1 + 1 : Nat) : Int) = 0) := by omega
    have a2 : (((n + 1 + 1 : Nat) : Int) == 1) = false := beq_eq_false_iff_ne.2 (by omega)
    have a3 : decide (n + 1 + 1 = 1) = false := decide_eq_false (by omega)
    have a4 : decide (0 < n + 1 + 1) = true := decide_eq_true (by omega)
    rw [if_neg a1, a2, a3, a4]
theorem both_no (c p s : Int) (h : ¬ ((1 ≤ c ∧ c ≤ 4 ∧ 1 ≤ p ∧ p ≤ 160000) ∧ (1 ≤ s ∧ s ≤ 80))) : impl_SetsOfBoth.f c p s = some ([], false) ∧ spec_SetsOfBoth.f c p s = some ([], false) ∧ impl_DoesTell.f c p s = some (false, false) ∧ spec_DoesTell.f c p s = some (false, false) := by
  have h4 : ¬ (1 ≤ c ∧ c ≤ 4 ∧ 1 ≤ p ∧ p ≤ 160000 ∧ 1 ≤ s ∧ s ≤ 80) := by omega
  unfold impl_DoesTell.f impl_SetsOfBoth.f spec_SetsOfBoth.f spec_DoesTell.f
  rw [siChildren_val, siSum_v, if_neg h4]
  by_cases h1 : 1 ≤ c ∧ c ≤ 4 ∧ 1 ≤ p ∧ p ≤ 160000
  · have h3 : ¬ (1 ≤ c ∧ c ≤ 4 ∧ 1 ≤ s ∧ s ≤ 80) := by omega
    rw [decide_eq_true h1, decide_eq_false h3]
    exact ⟨rfl, rfl, rfl, rfl⟩
  · rw [decide_eq_false h1]
    exact ⟨rfl, rfl, rfl, rfl⟩
theorem told_val (c p : Int) (h : 1 ≤ c ∧ c ≤ 4 ∧ 1 ≤ p ∧ p ≤ 160000) (b : Bool) : ToldF b c p (toldS b ((allSets c.toNat []).filter (hasProd p))) true := by
  have hk := part_ok c.toNat (by omega) (hasProd p)
  have hup : ((allSets c.toNat []).filter (hasProd p)).Pairwise fun x y => cmpL x y < 0 := List.Pairwise.filter _ (allSets_up c.toNat [])
  unfold ToldF
  rw [if_pos h]
  exact ⟨rfl, told_ok b _ hk hup⟩
theorem told_spec (c p : Int) (h : 1 ≤ c ∧ c ≤ 4 ∧ 1 ≤ p ∧ p ≤ 160000) : spec_ToldByOldest.f c p = some (toldS true ((allSets c.toNat []).filter (hasProd p)), true) ∧ spec_ToldByYoungest.f c p = some (toldS false ((allSets c.toNat []).filter (hasProd p)), true) := by
  unfold spec_ToldByOldest.f spec_ToldByYoungest.f
  have hok := okTold_part c.toNat (by omega) (by omega) (hasProd p)
  rw [siChildren_val, decide_eq_true h, siSets_val c p h]
  exact ⟨by rw [Option.bind_some, if_pos rfl, Option.bind_some, if_pos hok], by rw [Option.bind_some, if_pos rfl, Option.bind_some, if_pos hok]⟩
theorem told_no (c p : Int) (h : ¬ (1 ≤ c ∧ c ≤ 4 ∧ 1 ≤ p ∧ p ≤ 160000)) : (∀ b, ToldF b c p [] false) ∧ spec_ToldByOldest.f c p = some ([], false) ∧ spec_ToldByYoungest.f c p = some ([], false) := by
  unfold spec_ToldByOldest.f spec_ToldByYoungest.f
  rw [siChildren_val, decide_eq_false h]
  refine ⟨fun b => ?_, rfl, rfl⟩
  unfold ToldF
  rw [if_neg h]
  exact ⟨rfl, rfl⟩
theorem cnt_len (xs : List (List Int)) (s : Int) (h0 : 0 ≤ s) : cntS xs s.toNat = (xs.filter (hasSum s)).length := by
  unfold cntS
  rw [show ((s.toNat : Nat) : Int) = s by omega]
  rfl
theorem sums_mem (xs : List (List Int)) (many : Nat) (s : Int) (h1 : 0 ≤ s) (h2 : s ≤ 80) : s ∈ sumsFrom xs many 81 0 ↔ many ≤ (xs.filter (hasSum s)).length := by
  rw [sumsFrom_mem, ← cnt_len xs s h1]
  constructor
  · rintro ⟨v, _, _, e, h3⟩
    rw [show s.toNat = v by omega]; exact h3
  · intro h
    exact ⟨s.toNat, by omega, by omega, by omega, h⟩
theorem sums_is (xs : List (List Int)) (many : Nat) (s : Int) (h : s ∈ sumsFrom xs many 81 0) : 0 ≤ s ∧ s ≤ 80 := by
  obtain ⟨v, _, _, e, _⟩ := (sumsFrom_mem xs many 81 0 s).1 h
  omega
/-- The first half. -/
theorem half1 (l0 : List Int) (hl : Bytes l0) : ∃ children product oldest ok youngest sets count sums open_, EvP fun k => g4F1 k l0 children product oldest ok youngest sets count sums open_ := by
  obtain ⟨c, p, hD⟩ := drawProd hl
  by_cases h : 1 ≤ c ∧ c ≤ 4 ∧ 1 ≤ p ∧ p ≤ 160000
  · obtain ⟨n, rfl⟩ : ∃ n : Nat, c = n := ⟨c.toNat, by omega⟩
    obtain ⟨v1, v2, v3, v4⟩ := sets_val n p h
    obtain ⟨t1, t2⟩ := told_spec n p h
    have t3 := told_val n p h true
    have t4 := told_val n p h false
    obtain ⟨u1, u2⟩ := sums_yes n p h
    obtain ⟨o1, o2⟩ := open_yes n p h
    have hbv := both_val n p
    have hk := part_ok n (by omega) (hasProd p)
    have hlex : ((allSets n []).filter (hasProd p)).Pairwise LexP := List.Pairwise.sublist List.filter_sublist (allSets_lex n [])
    have hset : ∀ x ∈ (allSets n []).filter (hasProd p), Ages x ∧ x.length = n ∧ SetP x ∧ prodL x = p := fun x hx => by
      obtain ⟨q1, q2⟩ := List.mem_filter.1 hx
      obtain ⟨r1, r2, r4⟩ := allSets_set n (by omega) x q1
      exact ⟨r1, r2, r4 (by omega), of_decide_eq_true q2⟩
    rw [Int.toNat_natCast] at v1 v2 v3 v4 t1 t2 t3 t4 u1 u2 o1 o2 hbv
    obtain ⟨xs, hxs⟩ : ∃ xs, xs = (allSets n []).filter (hasProd p) := ⟨_, rfl⟩
    rw [← hxs] at v1 v2 v3 v4 t1 t2 t3 t4 u1 u2 o1 o2 hbv hk hlex hset
    have hxl := hk.2
    have hrow : ∀ x ∈ xs, x.length ≤ 1000000 := fun x hx => by have := (hset x hx).2.1; omega
    have htl : ∀ b, (toldS b xs).length ≤ xs.length := fun b => List.length_filter_le _ _
    have htm : ∀ b, ∀ x ∈ toldS b xs, x ∈ xs := fun b x hx => (List.mem_filter.1 hx).1
    have htr : ∀ b, ∀ x ∈ toldS b xs, x.length ≤ 1000000 := fun b x hx => hrow x (htm b x hx)
    have htx : ∀ b, (toldS b xs).Pairwise LexP := fun b => List.Pairwise.sublist List.filter_sublist hlex
    have hl1 := htl true
    have hl2 := htl false
    have hs1 := sumsFrom_len xs 1 81 0
    have hs2 := sumsFrom_len xs 2 81 0
    have hsum : ∀ x ∈ xs, 1 ≤ sumL x ∧ sumL x ≤ 80 := fun x hx => by
      obtain ⟨r1, r2, _, _⟩ := hset x hx
      exact sum_in_ x r1 (by omega) (by omega)
    -- each set
    have hev1 := EvP.all (P := fun x k => impl_IsSet.f k x = some true ∧ laws_qSum.f k x = some (sumL x) ∧ laws_qHas.f k (sumsFrom xs 1 81 0) (sumL x) = some true) xs (fun x hx => by
      obtain ⟨q1, q2, q3, q4⟩ := hset x hx
      obtain ⟨b, hb, i1, _⟩ := set_evs x (by omega)
      obtain rfl : b = true := hb.2 q3
      have b3 := ev_qHas (sumsFrom xs 1 81 0) (sumL x) (by omega)
      have hm : sumL x ∈ sumsFrom xs 1 81 0 := (sums_mem xs 1 (sumL x) (by have := (hsum x hx).1; omega) (hsum x hx).2).2 (List.length_pos_of_mem (List.mem_filter.2 ⟨hx, decide_eq_true rfl⟩))
      rw [decide_eq_true hm] at b3
      exact EvP.and (.of i1) (EvP.and (.of (ev_qSum x q1 (by omega))) (.of b3)))
    -- each sum
    have hmem : ∀ s, ∀ x ∈ xs.filter (hasSum s), x ∈ xs ∧ sumL x = s := fun s x hx => by
      obtain ⟨q1, q2⟩ := List.mem_filter.1 hx
      exact ⟨q1, of_decide_eq_true q2⟩
    have told_is : ∀ (b : Bool) (s : Int), ∀ x ∈ xs.filter (hasSum s), decide (x ∈ toldS b xs) = (decide (1 < (xs.filter (hasSum s)).length) && (decide (((xs.filter (hasSum s)).filter (ageB b)).length = 1) && ageB b x)) := fun b s x hx => by
      obtain ⟨q1, rfl⟩ := hmem s x hx
      rw [Bool.eq_iff_iff, decide_eq_true_iff]
      unfold toldS
      rw [List.mem_filter]
      unfold isTold
      exact ⟨fun e => e.2, fun e => ⟨q1, e⟩⟩
    have hev2 := EvP.all (P := fun s k => laws_qHas.f k (sumsFrom xs 2 81 0) s = some (decide (1 < (xs.filter (hasSum s)).length)) ∧ ∀ x ∈ xs.filter (hasSum s), impl_HasOldest.f k x = some (oldB x, true) ∧ impl_HasYoungest.f k x = some (youngB x, true) ∧ laws_qHasRow.f k xs x = some true ∧
        laws_qHasRow.f k (toldS true xs) x = some (decide (1 < (xs.filter (hasSum s)).length) && (decide (((xs.filter (hasSum s)).filter (ageB true)).length = 1) && oldB x)) ∧ laws_qHasRow.f k (toldS false xs) x = some (decide (1 < (xs.filter (hasSum s)).length) && (decide (((xs.filter (hasSum s)).filter (ageB false)).length = 1) && youngB x))) (sumsFrom xs 1 81 0) (fun s hs => by
      obtain ⟨r1, r2⟩ := sums_is xs 1 s hs
      have b1 := ev_qHas (sumsFrom xs 2 81 0) s (by omega)
      have e1 : decide (s ∈ sumsFrom xs 2 81 0) = decide (1 < (xs.filter (hasSum s)).length) := by
        congr 1
        rw [eq_iff_iff, sums_mem xs 2 s r1 r2]
        exact Iff.rfl
      rw [e1] at b1
      refine EvP.and (.of b1) (EvP.all _ (fun x hx => ?_))
      obtain ⟨q0, q9⟩ := hmem s x hx
      obtain ⟨q1, q2, q3, q4⟩ := hset x q0
      obtain ⟨b, hb, _, _, i3, _, i5, _, _, _⟩ := set_evs x (by omega)
      obtain rfl : b = true := hb.2 q3
      have b3 := ev_qHasRow xs x (by omega) hrow
      rw [decide_eq_true q0] at b3
      have b4 := ev_qHasRow (toldS true xs) x (by omega) (htr true)
      rw [told_is true s x hx] at b4
      have b5 := ev_qHasRow (toldS false xs) x (by omega) (htr false)
      rw [told_is false s x hx] at b5
      exact EvP.and (.of i3) (EvP.and (.of i5) (EvP.and (.of b3) (EvP.and (.of b4) (.of b5)))))
    refine ⟨n, p, toldS true xs, true, toldS false xs, xs, xs.length, sumsFrom xs 1 81 0, sumsFrom xs 2 81 0, ?_⟩
    refine (EvP.and (.of hD) (EvP.and (.of u1) (EvP.and (.of u2) (EvP.and (.of o1) (EvP.and (.of o2) (EvP.and (.of (ev_qRows (toldS true xs) (by omega) (htr true))) (EvP.and (.of (ev_qRows (toldS false xs) (by omega) (htr false))) (EvP.and (.of (ev_qRows xs (by omega) hrow)) (EvP.and (.of (ev_qSame_self (sumsFrom xs 1 81 0) (by omega))) (EvP.and (.of (ev_qSame_self (sumsFrom xs 2 81 0) (by omega)))
      (EvP.and (.of (ev_qOrdered xs (by omega) hrow hlex)) (EvP.and (.of (ev_qOrdered (toldS true xs) (by omega) (htr true) (htx true))) (EvP.and (.of (ev_qOrdered (toldS false xs) (by omega) (htr false) (htx false))) (EvP.and (.of (ev_qRises (sumsFrom xs 1 81 0) (by omega) (sumsFrom_pair xs 1 81 0))) (EvP.and (.of (ev_qRises (sumsFrom xs 2 81 0) (by omega) (sumsFrom_pair xs 2 81 0))) (EvP.and hev1 hev2)))))))))))))))).mono ?_
    rintro k ⟨a1, a2, a3, a4, a5, a6, a7, a8, a9, a10, a11, a12, a13, a14, a15, a16, a17⟩
    exact { hD := a1, hOI := t3, hOS := t1, hYI := t4, hYS := t2, hSI := v1, hSS := v2, hCI := v3, hCS := v4, hUI := a3, hUS := a2, hNI := a5, hNS := a4, hW1 := a6, hW2 := a7, hW3 := a8, hW4 := a9, hW5 := a10,
            hD_ := fun _ => ⟨rfl, a11, a12, a13, a14, a15, by omega, by omega, fun i hi => (by
                have hx := List.getElem_mem hi
                obtain ⟨q1, q2, q3, q4⟩ := hset _ hx
                obtain ⟨g1, g2, g3⟩ := a16 _ hx
                exact ⟨xs[i], sumL xs[i], rowAt xs i hi, by omega, by omega, (by rw [prodTo_all xs[i] q1 (by omega)]; exact q4), g1, g2, g3⟩), fun i hi => (by
                have hs := List.getElem_mem hi
                obtain ⟨s, hse⟩ : ∃ s, s = (sumsFrom xs 1 81 0)[i] := ⟨_, rfl⟩
                rw [← hse] at hs
                obtain ⟨r1, r2⟩ := sums_is xs 1 s hs
                have hpos := (sums_mem xs 1 s r1 r2).1 hs
                obtain ⟨x0, hx0⟩ := List.exists_mem_of_length_pos (show 0 < (xs.filter (hasSum s)).length by omega)
                have hr := hsum x0 (hmem s x0 hx0).1
                rw [(hmem s x0 hx0).2] at hr
                obtain ⟨w1, _, w3, _⟩ := hbv s h hr
                obtain ⟨g1, g2⟩ := a17 s hs
                have hfl := List.length_filter_le (hasSum s) xs
                rw [decide_eq_true (show 0 < (xs.filter (hasSum s)).length by omega)] at w3
                refine ⟨s, xs.filter (hasSum s), decide ((xs.filter (hasSum s)).length = 1), decide (1 < (xs.filter (hasSum s)).length), decide (((xs.filter (hasSum s)).filter (ageB true)).length = 1), decide (((xs.filter (hasSum s)).filter (ageB false)).length = 1), (by rw [rd_at _ i hi, hse]), w1, w3, ⟨by omega, by omega⟩, (by rw [decide_eq_true_iff]; omega), g1, (by rw [decide_eq_true_iff]; omega), ?_, ?_, fun j hj => ?_⟩
                · rw [decide_eq_true_iff, cntTo_all, show ((xs.filter (hasSum s)).filter (ageB true)) = ((xs.filter (hasSum s)).filter oldB) from rfl]
                  omega
                · rw [decide_eq_true_iff, cntTo_all, show ((xs.filter (hasSum s)).filter (ageB false)) = ((xs.filter (hasSum s)).filter youngB) from rfl]
                  omega
                · obtain ⟨y1, y2, y3, y4, y5⟩ := g2 _ (List.getElem_mem hj)
                  exact ⟨(xs.filter (hasSum s))[j], rowAt _ j hj, y1, y2, y3, y4, y5⟩)⟩ }
  · obtain ⟨v1, v2, v3, v4⟩ := sets_no c p h
    obtain ⟨t3, t1, t2⟩ := told_no c p h
    obtain ⟨u1, u2⟩ := sums_no c p h
    obtain ⟨o1, o2⟩ := open_no c p h
    refine ⟨c, p, [], false, [], [], 0, [], [], ?_⟩
    refine (EvP.and (.of hD) (EvP.and (.of u1) (EvP.and (.of u2) (EvP.and (.of o1) (EvP.and (.of o2) (EvP.and (.of (ev_qRows [] (by simp) (by simp))) (.of (ev_qSame_self [] (by simp))))))))).mono ?_
    rintro k ⟨a1, a2, a3, a4, a5, a6, a7⟩
    exact { hD := a1, hOI := t3 true, hOS := t1, hYI := t3 false, hYS := t2, hSI := v1, hSS := v2, hCI := v3, hCS := v4, hUI := a3, hUS := a2, hNI := a5, hNS := a4, hW1 := a6, hW2 := a6, hW3 := a6, hW4 := a7, hW5 := a7, hD_ := fun e => (by cases e) }
/-- The second half. -/
theorem half2 (l1 : List Int) (hl : Bytes l1) : ∃ c from_ to_ products fifteen set_ x z twins good n p s both eleven tells thirteen, EvP fun k => g4F2 k l1 c from_ to_ products fifteen set_ x z twins good n p s both eleven tells thirteen := by
  obtain ⟨n, p, s, hD2⟩ := drawBoth hl
  obtain ⟨c, fr, tt, hD3⟩ := drawOne hl
  obtain ⟨set_, hD4, hs5⟩ := drawHas hl
  obtain ⟨good, hg, i1, i2, i3, i4, i5, i6, i7, i8⟩ := set_evs set_ (by omega)
  obtain ⟨x, hx⟩ : ∃ x : Bool, x = (if good = true then oldB set_ else false) := ⟨_, rfl⟩
  obtain ⟨z, hz⟩ : ∃ z : Bool, z = (if good = true then youngB set_ else false) := ⟨_, rfl⟩
  obtain ⟨tw, htw⟩ : ∃ t : Int, t = (if good = true then (spec_TwinsIn.tw set_ set_.length : Int) else 0) := ⟨_, rfl⟩
  have ex : (if good = true then (oldB set_, true) else (false, false)) = (x, good) := by rw [hx]; cases good <;> rfl
  have ez : (if good = true then (youngB set_, true) else (false, false)) = (z, good) := by rw [hz]; cases good <;> rfl
  have et : (if good = true then ((spec_TwinsIn.tw set_ set_.length : Int), true) else ((0 : Int), false)) = (tw, good) := by rw [htw]; cases good <;> rfl
  rw [ex] at i3 i4
  rw [ez] at i5 i6
  rw [et] at i7 i8
  have hT : good = true → ((set_.length : Nat) : Int) > 1 → (x = true → z = true → ((set_.length : Nat) : Int) < 4 → tw = 0) ∧ (tw = 0 → x = true ∧ z = true) := fun e h1 => by
    subst e
    rw [if_pos rfl] at hx hz htw
    obtain ⟨f1, f2⟩ := twins_facts set_ (hg.1 rfl) (by omega)
    rw [hx, hz, htw]
    exact ⟨fun a b d => by have := f1 a b (by omega); omega, fun a => f2 (by omega)⟩
  -- the products
  obtain ⟨products, fifteen, o1, o2, o3, o4⟩ : ∃ (products : List Int) (fifteen : Bool), spec_OneByOldest.f c fr tt = some (products, fifteen) ∧ Ev (fun k => impl_OneByOldest.f k c fr tt) (products, fifteen) ∧ products.length ≤ 160000 ∧
      (fifteen = true → products.Pairwise (· < ·) ∧ ∀ i : Nat, i < products.length → ∃ (p : Int) (row : List (List Int)), rd products ((i : Nat) : Int) = p ∧ ToldF true c p row true ∧ row.length = 1 ∧ fr ≤ p ∧ p ≤ tt) := by
    cases hp : lotsOk c fr tt with
    | false =>
      obtain ⟨q1, q2⟩ := one_no c fr tt hp
      exact ⟨[], false, q1, q2, by simp, fun e => by cases e⟩
    | true =>
      obtain ⟨q1, q2⟩ := one_yes c fr tt hp
      have hk : 1 ≤ c ∧ c ≤ 4 ∧ 1 ≤ fr ∧ fr ≤ 160000 ∧ fr ≤ tt ∧ tt ≤ 160000 := by
        unfold lotsOk at hp
        simp only [Bool.and_eq_true, decide_eq_true_eq] at hp
        omega
      have hl2 := oneP_len c.toNat fr (tt - fr + 1).toNat
      refine ⟨_, true, q1, q2, by omega, fun _ => ⟨oneP_up c.toNat fr _, fun i hi => ?_⟩⟩
      obtain ⟨m, hm, e, hlen⟩ := oneP_mem c.toNat fr _ _ (List.getElem_mem hi)
      have ht := told_val c (fr + (m : Int)) (by omega) true
      exact ⟨_, _, rd_at _ i hi, (by rw [e]; exact ht), hlen, by omega, by omega⟩
  -- both
  obtain ⟨both, eleven, tells, thirteen, b1, b2, b3, b4, b5, b6, b7⟩ : ∃ (both : List (List Int)) (eleven tells thirteen : Bool), impl_SetsOfBoth.f n p s = some (both, eleven) ∧ spec_SetsOfBoth.f n p s = some (both, eleven) ∧ impl_DoesTell.f n p s = some (tells, thirteen) ∧ spec_DoesTell.f n p s = some (tells, thirteen) ∧
      (both.length ≤ 200000 ∧ ∀ x ∈ both, x.length ≤ 1000000) ∧ (eleven = false → thirteen = false) ∧ (eleven = true → ((both.length : Int) > 0 ↔ thirteen = true)) := by
    by_cases h : (1 ≤ n ∧ n ≤ 4 ∧ 1 ≤ p ∧ p ≤ 160000) ∧ (1 ≤ s ∧ s ≤ 80)
    · obtain ⟨w1, w2, w3, w4⟩ := both_val n p s h.1 h.2
      have hk := part_ok n.toNat (by omega) (hasProd p)
      have hfl := List.length_filter_le (hasSum s) ((allSets n.toNat []).filter (hasProd p))
      have := hk.2
      exact ⟨_, true, _, _, w1, w2, w3, w4, ⟨by omega, fun x hx => by have := (hk.1 x (List.mem_filter.1 hx).1).2; omega⟩, fun e => (by cases e), fun _ => (by rw [decide_eq_true_iff]; omega)⟩
    · obtain ⟨w1, w2, w3, w4⟩ := both_no n p s h
      exact ⟨[], false, false, false, w1, w2, w3, w4, ⟨by simp, by simp⟩, fun _ => rfl, fun e => (by cases e)⟩
  refine ⟨c, fr, tt, products, fifteen, set_, x, z, tw, good, n, p, s, both, eleven, tells, thirteen, ?_⟩
  refine (EvP.and (.of hD2) (EvP.and (.of o2) (EvP.and (.of hD4) (EvP.and (.of i1) (EvP.and (.of i2) (EvP.and (.of i3) (EvP.and (.of i4) (EvP.and (.of i5) (EvP.and (.of i6) (EvP.and (.of i7) (EvP.and (.of i8) (EvP.and (.of (ev_qRows both (by omega) b5.2)) (EvP.and (.of (ev_qSame_self products (by omega))) (EvP.imp (fun e => EvP.of (ev_qRises products (by omega) (o4 e).1)))))))))))))))).mono ?_
  rintro k ⟨a1, a2, a3, a4, a5, a6, a7, a8, a9, a10, a11, a12, a13, a14⟩
  exact { hD2 := a1, hBI := b1, hBS := b2, hTI := b3, hTS := b4, hD3 := hD3, hOI := a2, hOS := o1, hD4 := a3, hHI := a6, hHS := a7, hYI := a8, hYS := a9, hWI := a10, hWS := a11, hGI := a4, hGS := a5, hW1 := a12, hW2 := a13, hE0 := b6, hE1 := b7,
          hG_ := fun e => ⟨a14 e, by omega, (o4 e).2⟩, hT_ := hT }
theorem FnChildrenTold : laws_FnChildrenTold.Pure := by
  intro l0 l1 _ _ hw0 _ _ hw1
  have hb : ∀ l : List Int, (∀ x ∈ l, (Lit.int .u8 x).wf = true) → Bytes l := fun l h x hx => by
    have := h x hx
    simp [Lit.wf, IntKind.min, IntKind.max, IntKind.bits, IntKind.signed] at this
    omega
  unfold laws_big.f
  by_cases h1 : (l0.length : Int) > 1048576
  · left; rw [if_pos h1]
  · rw [if_neg h1]
    by_cases h2 : (l1.length : Int) > wrap64 (1048576 - (l0.length : Int))
    · left; rw [decide_eq_true h2]
    · right
      refine ⟨by rw [decide_eq_false h2], ?_⟩
      obtain ⟨v1, v2, v3, v4, v5, v6, v7, v8, v9, p⟩ := half1 l0 (hb l0 hw0)
      obtain ⟨u1, u2, u3, u4, u5, u6, u7, u8, u9, u10, u11, u12, u13, u14, u15, u16, u17, q⟩ := half2 l1 (hb l1 hw1)
      obtain ⟨K, h⟩ := p.and q
      exact ⟨K, ⟨v1, v2, v3, v4, v5, v6, v7, v8, v9, (h K (Nat.le_refl _)).1⟩, ⟨u1, u2, u3, u4, u5, u6, u7, u8, u9, u10, u11, u12, u13, u14, u15, u16, u17, (h K (Nat.le_refl _)).2⟩⟩

end Go.Proofs.YtlbnhjeblknepaaGreat.Pure
