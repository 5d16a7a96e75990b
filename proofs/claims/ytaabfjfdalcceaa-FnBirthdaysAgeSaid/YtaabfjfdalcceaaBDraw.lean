/- Chapter 3, plain: what is drawn. No condition beyond those typed at each lemma. -/
import Derived.Test.YtaabfjfdalcceaaC3Base
import Derived.Test.YtaabfjfdalcceaaE1
import Derived.Test.YtaabfjfdalcceaaE12
import Derived.Test.YtaabfjfdalcceaaE14
import Derived.Test.YtaabfjfdalcceaaE16
import Derived.Test.YtaabfjfdalcceaaE17
import Derived.Test.YtaabfjfdalcceaaE18
import Derived.Test.YtaabfjfdalcceaaE2
import Derived.Test.YtaabfjfdalcceaaE3
import Derived.Laws.Bits64
import Derived.Laws.Bits64b
namespace Go.Proofs.Ytaabfjfdalcceaa.Pure
open Go.RowKit Go.Proofs.Ytaabfjfdalcceaa.E Go.Proofs.YtaabfjfdalcceaaW.PrintWords Go.Proofs.YtaabfjfdalcceaaW.PrintLast
set_option linter.unusedVariables false
set_option linter.unusedSimpArgs false

theorem and255 (a : Int) (h : 0 ≤ a) (h1 : a ≤ 18446744073709551615) : 0 ≤ Go.bits .and .u64 a 255 ∧ Go.bits .and .u64 a 255 ≤ 255 := by
  obtain ⟨n, rfl⟩ : ∃ n : Nat, a = n := ⟨a.toNat, by omega⟩
  rw [show (255 : Int) = ((255 : Nat) : Int) from rfl, bits_and_u64_nat _ _ (by omega) (by omega)]
  have := Nat.and_le_right (n := n) (m := 255)
  omega
/-- bytes -/
def Bytes (l : List Int) : Prop := ∀ x ∈ l, 0 ≤ x ∧ x ≤ 255
theorem rd_byte {l : List Int} (hl : Bytes l) (i : Int) : 0 ≤ rd l i ∧ rd l i ≤ 255 := by
  unfold rd
  rw [List.getD_eq_getElem?_getD]
  cases h : l[i.toNat]? with
  | none => simp
  | some x => exact hl x (List.mem_of_getElem? h)
theorem u64r (x : Int) : 0 ≤ IntKind.u64.wrap x ∧ IntKind.u64.wrap x ≤ 18446744073709551615 := by
  rw [IntKind.wrap_u64]
  omega
theorem next_some {l : List Int} (hl : Bytes l) (at_ s : Int) (h0 : 0 ≤ at_) (h1 : at_ ≤ 1000000000000) : ∃ b s', spec_l1Cur_next.f l at_ s = some (b, at_ + 1, s') ∧ 0 ≤ b ∧ b ≤ 255 := by
  have e : wrap64 (at_ + 1) = at_ + 1 := w64 (by omega) (by omega)
  have hr := rd_byte hl at_
  have e2 : wrap64 (rd l at_) = rd l at_ := w64 (by omega) (by omega)
  have hsh : ∀ x : Int, ∃ b : Int, wrap64 (Go.bits .and .u64 (IntKind.u64.wrap x / 1099511627776) 255) = b ∧ 0 ≤ b ∧ b ≤ 255 := by
    intro x
    have h := u64r x
    have := and255 (IntKind.u64.wrap x / 1099511627776) (by omega) (by omega)
    exact ⟨_, w64 (by omega) (by omega), this.1, this.2⟩
  unfold spec_l1Cur_next.f
  rw [e, e2]
  by_cases c1 : at_ < (l.length : Int)
  · rw [if_pos c1, if_pos h0]
    by_cases c2 : at_ + 1 ≤ (l.length : Int)
    · rw [if_pos c2]; exact ⟨_, _, rfl, hr.1, hr.2⟩
    · omega
  · rw [if_neg c1, if_neg (by omega)]
    obtain ⟨b, hb, h2⟩ := hsh ((IntKind.u64.wrap (IntKind.u64.wrap (s * 6364136223846793005))) + 1442695040888963407)
    exact ⟨b, _, by rw [hb], h2⟩
theorem pick_some {l : List Int} (hl : Bytes l) (at_ s n : Int) (h0 : 0 ≤ at_) (h1 : at_ ≤ 1000000000000) (hn : 1 ≤ n) (hn2 : n ≤ 200) : ∃ x a' s', spec_l1Cur_pick.f l at_ s n = some (x, a', s') ∧ 0 ≤ x ∧ x < n ∧ at_ ≤ a' ∧ a' ≤ at_ + 1 := by
  unfold spec_l1Cur_pick.f
  by_cases c : n ≤ 1
  · rw [if_pos c]; exact ⟨0, at_, s, rfl, by omega, by omega, by omega, by omega⟩
  · rw [if_neg c]
    obtain ⟨b, s', h, hb0, hb1⟩ := next_some hl at_ s h0 h1
    rw [h]
    simp only [Option.bind_some]
    rw [if_neg (by omega), if_neg (by omega)]
    refine ⟨_, _, _, rfl, ?_, ?_, by omega, by omega⟩
    · rw [Int.tmod_eq_emod_of_nonneg hb0]; exact Int.emod_nonneg _ (by omega)
    · rw [Int.tmod_eq_emod_of_nonneg hb0]; exact Int.emod_lt_of_pos _ (by omega)
theorem among_some {l : List Int} (hl : Bytes l) (at_ s : Int) (xs : List Int) (h0 : 0 ≤ at_) (h1 : at_ ≤ 1000000000000) (hx : 1 ≤ xs.length) (hx2 : xs.length ≤ 200) : ∃ x a' s', spec_l1Cur_among.f l at_ s xs = some (x, a', s') ∧ at_ ≤ a' ∧ a' ≤ at_ + 1 := by
  obtain ⟨x, a', s', h, hx0, hx1, ha, ha2⟩ := pick_some hl at_ s (xs.length : Int) h0 h1 (by omega) (by omega)
  unfold spec_l1Cur_among.f
  rw [h]
  simp only [Option.bind_some]
  rw [if_pos hx0, if_pos hx1]
  exact ⟨_, _, _, rfl, ha, ha2⟩
theorem date_some {l : List Int} (hl : Bytes l) (at_ s : Int) (h0 : 0 ≤ at_) (h1 : at_ ≤ 999999999000) : ∃ y d a' s', spec_l1Cur_date.f l at_ s = some (y, d, a', s') ∧ at_ ≤ a' ∧ a' ≤ at_ + 4 := by
  unfold spec_l1Cur_date.f
  obtain ⟨x1, a1, s1, e1, l1, u1⟩ := among_some hl at_ s [1999, 2000, 2001, 2010, 2000, 1990, 1992, 3000] h0 (by omega) (by simp) (by simp)
  rw [e1]
  simp only [Option.bind_some]
  obtain ⟨x2, a2, s2, e2, l2, u2⟩ := among_some hl a1 s1 [1, 49, 50, 60, 99, 100, 101, 200, 365] (by omega) (by omega) (by simp) (by simp)
  rw [e2]
  simp only [Option.bind_some]
  obtain ⟨x3, a3, s3, e3, p3, q3, l3, u3⟩ := pick_some hl a2 s2 18 (by omega) (by omega) (by omega) (by omega)
  rw [e3]
  simp only [Option.bind_some]
  by_cases c0 : x3 = 0
  · rw [if_pos c0]
    obtain ⟨x4, a4, s4, e4, l4, u4⟩ := among_some hl a3 s3 [0, (-1), 366, 4611686018427387904] (by omega) (by omega) (by simp) (by simp)
    rw [e4]
    simp only [Option.bind_some]
    exact ⟨_, _, _, _, rfl, by omega, by omega⟩
  · rw [if_neg c0]
    by_cases c1 : x3 = 1
    · rw [if_pos c1]
      obtain ⟨x4, a4, s4, e4, l4, u4⟩ := among_some hl a3 s3 [(-1), 0, 3001, 4611686018427387904] (by omega) (by omega) (by simp) (by simp)
      rw [e4]
      simp only [Option.bind_some]
      exact ⟨_, _, _, _, rfl, by omega, by omega⟩
    · rw [if_neg c1]
      exact ⟨_, _, _, _, rfl, by omega, by omega⟩
theorem sure_some {l : List Int} (hl : Bytes l) (at_ s : Int) (h0 : 0 ≤ at_) (h1 : at_ ≤ 999999999000) : ∃ y d a' s', spec_l1Cur_sureDate.f l at_ s = some (y, d, a', s') ∧ at_ ≤ a' ∧ a' ≤ at_ + 4 := by
  unfold spec_l1Cur_sureDate.f
  obtain ⟨x1, a1, s1, e1, l1, u1⟩ := among_some hl at_ s [1990, 1991, 1992, 1995, 1999, 1960] h0 (by omega) (by simp) (by simp)
  rw [e1]
  simp only [Option.bind_some]
  obtain ⟨x2, a2, s2, e2, l2, u2⟩ := among_some hl a1 s1 [1, 50, 99, 100, 101, 200, 364, 365] (by omega) (by omega) (by simp) (by simp)
  rw [e2]
  simp only [Option.bind_some]
  exact ⟨_, _, _, _, rfl, by omega, by omega⟩
theorem sures_loop {l : List Int} (hl : Bytes l) (d : Nat) : ∀ (xs : List D) (k at_ s : Int), k = d → xs.length + d ≤ 8 → 0 ≤ at_ → at_ + 10 * d ≤ 900000000 → ∃ r a' s', Ev (fun n => spec_l1Cur_sureBirths.l0 n xs k l at_ s) (r, a', s') ∧ r.length = xs.length + d ∧ at_ ≤ a' ∧ a' ≤ at_ + 10 * d := by
  induction d with
  | zero =>
    intro xs k at_ s hk hx h0 h1
    exact ⟨xs, at_, s, Ev.step (f := fun _ => some (xs, at_, s)) (fun n => by rw [spec_l1Cur_sureBirths.l0, if_neg (by omega)]) (Ev.now _), by omega, by omega, by omega⟩
  | succ d ih =>
    intro xs k at_ s hk hx h0 h1
    obtain ⟨y, dd, a1, s1, e1, l1, u1⟩ := sure_some hl at_ s h0 (by omega)
    obtain ⟨r, a', s', hr, hlen, hl2, hu2⟩ := ih (xs ++ [⟨y, dd⟩]) (k - 1) a1 s1 (by omega) (by simp; omega) (by omega) (by omega)
    refine ⟨r, a', s', Ev.step (fun n => ?_) hr, by rw [hlen]; simp; omega, by omega, by omega⟩
    rw [spec_l1Cur_sureBirths.l0, if_pos (by omega), e1]
    simp only [Option.bind_some]
    rw [if_pos (by omega), w64 (x := k - 1) (by omega) (by omega)]
theorem sures_some {l : List Int} (hl : Bytes l) : ∃ r a' s', Ev (fun n => spec_l1Cur_sureBirths.f n l 0 0) (r, a', s') ∧ 1 ≤ r.length ∧ r.length ≤ 4 ∧ 0 ≤ a' ∧ a' ≤ 100 := by
  unfold spec_l1Cur_sureBirths.f
  obtain ⟨x, a1, s1, e1, p1, q1, l1, u1⟩ := pick_some hl 0 0 4 (by omega) (by omega) (by omega) (by omega)
  rw [e1]
  simp only [Option.bind_some]
  rw [w64 (x := 1 + x) (by omega) (by omega)]
  obtain ⟨r, a', s', hr, hlen, hl2, hu2⟩ := sures_loop hl (1 + x).toNat [] (1 + x) a1 s1 (by omega) (by simp; omega) (by omega) (by omega)
  simp only [List.length_nil] at hlen
  exact ⟨r, a', s', hr, by omega, by omega, by omega, by omega⟩
theorem births_loop {l : List Int} (hl : Bytes l) (d : Nat) : ∀ (xs : List D) (at_ s : Int), xs.length + d = 9 → 0 ≤ at_ → at_ + 10 * d ≤ 900000000 → ∃ r a' s', Ev (fun n => spec_l1Cur_births.l0 n xs l at_ s) (r, a', s') ∧ r.length ≤ 9 ∧ at_ ≤ a' ∧ a' ≤ at_ + 10 * d + 1 := by
  induction d with
  | zero =>
    intro xs at_ s hx h0 h1
    obtain ⟨x, a1, s1, e1, p1, q1, l1, u1⟩ := pick_some hl at_ s 2 h0 (by omega) (by omega) (by omega)
    refine ⟨xs, a1, s1, Ev.step (f := fun _ => some (xs, a1, s1)) (fun n => ?_) (Ev.now _), by omega, by omega, by omega⟩
    rw [spec_l1Cur_births.l0, e1]
    simp only [Option.bind_some]
    rw [w64 (x := 8 + x) (by omega) (by omega), if_neg (by omega)]
  | succ d ih =>
    intro xs at_ s hx h0 h1
    obtain ⟨x, a1, s1, e1, p1, q1, l1, u1⟩ := pick_some hl at_ s 2 h0 (by omega) (by omega) (by omega)
    by_cases c : (xs.length : Int) < 8 + x
    · obtain ⟨y, dd, a2, s2, e2, l2, u2⟩ := sure_some hl a1 s1 (by omega) (by omega)
      obtain ⟨r, a', s', hr, hlen, hl2, hu2⟩ := ih (xs ++ [⟨y, dd⟩]) a2 s2 (by simp; omega) (by omega) (by omega)
      refine ⟨r, a', s', Ev.step (fun n => ?_) hr, hlen, by omega, by omega⟩
      rw [spec_l1Cur_births.l0, e1]
      simp only [Option.bind_some]
      rw [w64 (x := 8 + x) (by omega) (by omega), if_pos c, e2]
      simp only [Option.bind_some]
      rw [if_pos (by omega)]
    · refine ⟨xs, a1, s1, Ev.step (f := fun _ => some (xs, a1, s1)) (fun n => ?_) (Ev.now _), by omega, by omega, by omega⟩
      rw [spec_l1Cur_births.l0, e1]
      simp only [Option.bind_some]
      rw [w64 (x := 8 + x) (by omega) (by omega), if_neg c]
theorem births_some {l : List Int} (hl : Bytes l) : ∃ r a' s', Ev (fun n => spec_l1Cur_births.f n l 0 0) (r, a', s') ∧ r.length ≤ 9 ∧ 0 ≤ a' ∧ a' ≤ 1000 := by
  unfold spec_l1Cur_births.f
  obtain ⟨xs, a0, s0, h0, hx1, hx4, l0, u0⟩ := sures_some hl
  obtain ⟨x, a1, s1, e1, p1, q1, l1, u1⟩ := pick_some hl a0 s0 14 l0 (by omega) (by omega) (by omega)
  by_cases c0 : x = 0
  · refine ⟨[], a1, s1, Ev.bind h0 ?_, by simp, by omega, by omega⟩
    simp only [e1, Option.bind_some, if_pos c0]
    exact Ev.now _
  · by_cases c1 : x = 1
    · obtain ⟨y, d, a2, s2, e2, l2, u2⟩ := date_some hl a1 s1 (by omega) (by omega)
      refine ⟨xs.set (0 : Int).toNat ⟨y, d⟩, a2, s2, Ev.bind h0 ?_, by rw [List.length_set]; omega, by omega, by omega⟩
      simp only [e1, Option.bind_some, if_neg c0, if_pos c1, e2, if_pos (show (0 : Int) < (xs.length : Int) by omega)]
      exact Ev.now _
    · by_cases c2 : x = 2
      · obtain ⟨r, a', s', hr, hlen, hl2, hu2⟩ := births_loop hl (9 - xs.length) xs a1 s1 (by omega) (by omega) (by omega)
        refine ⟨r, a', s', Ev.bind h0 ?_, hlen, by omega, by omega⟩
        simp only [e1, Option.bind_some, if_neg c0, if_neg c1, if_pos c2]
        exact hr
      · refine ⟨xs, a1, s1, Ev.bind h0 ?_, by omega, by omega, by omega⟩
        simp only [e1, Option.bind_some, if_neg c0, if_neg c1, if_neg c2]
        exact Ev.now _
theorem drawNext {l : List Int} (hl : Bytes l) : ∃ (B : List D) (on : D), Ev (fun k => spec_DrawNextBirthday.f k l) (B, on.f0, on.f1) ∧ B.length ≤ 9 := by
  obtain ⟨r, a1, s1, h, hlen, p, q⟩ := births_some hl
  obtain ⟨y, d, a2, s2, e2, _, _⟩ := date_some hl a1 s1 p (by omega)
  refine ⟨r, ⟨y, d⟩, ?_, hlen⟩
  unfold spec_DrawNextBirthday.f spec_DrawAgesOn.f
  refine Ev.bind (a := (r, y, d)) (Ev.bind h ?_) (Ev.now _)
  simp only [e2, Option.bind_some]
  exact Ev.now _
theorem drawBetween {l : List Int} (hl : Bytes l) : ∃ (B : List D) (f t : D), Ev (fun k => spec_DrawBirthdaysBetween.f k l) (B, f.f0, f.f1, t.f0, t.f1) ∧ B.length ≤ 9 := by
  obtain ⟨r, a1, s1, h, hlen, p, q⟩ := births_some hl
  obtain ⟨y, d, a2, s2, e2, l2, u2⟩ := date_some hl a1 s1 p (by omega)
  obtain ⟨y3, d3, a3, s3, e3, _, _⟩ := date_some hl a2 s2 (by omega) (by omega)
  refine ⟨r, ⟨y, d⟩, ⟨y3, d3⟩, ?_, hlen⟩
  unfold spec_DrawBirthdaysBetween.f
  refine Ev.bind h ?_
  simp only [e2, e3, Option.bind_some]
  exact Ev.now _
theorem drawAdd {l : List Int} (hl : Bytes l) : ∃ (d : D) (n : Int), spec_DrawAddDays.f l = some (d.f0, d.f1, n) := by
  obtain ⟨y, d, a2, s2, e2, l2, u2⟩ := date_some hl 0 0 (by omega) (by omega)
  obtain ⟨x, a3, s3, e3, _, _⟩ := among_some hl a2 s2 [0, 1, (-1), 100, 365, (-365), 2000000, (-2000000), 2000001, 4611686018427387904] (by omega) (by omega) (by simp) (by simp)
  refine ⟨⟨y, d⟩, x, ?_⟩
  unfold spec_DrawAddDays.f
  simp only [e2, e3, Option.bind_some]
theorem drawAge {l : List Int} (hl : Bytes l) : ∃ (x y : D), spec_DrawAgeOn.f l = some (x.f0, x.f1, y.f0, y.f1) := by
  obtain ⟨y, d, a2, s2, e2, l2, u2⟩ := sure_some hl 0 0 (by omega) (by omega)
  obtain ⟨y3, d3, a3, s3, e3, _, _⟩ := date_some hl a2 s2 (by omega) (by omega)
  refine ⟨⟨y, d⟩, ⟨y3, d3⟩, ?_⟩
  unfold spec_DrawAgeOn.f
  simp only [e2, e3, Option.bind_some]
theorem drawApart {l : List Int} (hl : Bytes l) : ∃ (x y : D), spec_DrawDaysApart.f l = some (x.f0, x.f1, y.f0, y.f1) := by
  obtain ⟨x, y, h⟩ := drawAge hl
  refine ⟨x, y, ?_⟩
  unfold spec_DrawDaysApart.f
  simp only [h, Option.bind_some]
theorem drawIs {l : List Int} (hl : Bytes l) : ∃ (x : D), spec_DrawIsDate.f l = some (x.f0, x.f1) := by
  obtain ⟨y, d, a2, s2, e2, l2, u2⟩ := date_some hl 0 0 (by omega) (by omega)
  refine ⟨⟨y, d⟩, ?_⟩
  unfold spec_DrawIsDate.f
  simp only [e2, Option.bind_some]

end Go.Proofs.Ytaabfjfdalcceaa.Pure
