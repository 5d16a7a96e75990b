/- Ages on days change on birthdays alone, next and last birthdays have nobody's between, birthdays between days are those of all ages, and days are added. No condition. -/
import Derived.Test.YtaabfjfdalcceaaBBetw
import Derived.Test.YtaabfjfdalcceaaBDraw
import Derived.Test.YtaabfjfdalcceaaBFacts
import Derived.Test.YtaabfjfdalcceaaBLast
import Derived.Test.YtaabfjfdalcceaaBMore
import Derived.Test.YtaabfjfdalcceaaBNext
import Derived.Test.YtaabfjfdalcceaaBOne
import Derived.Test.YtaabfjfdalcceaaC3Ages
import Derived.Test.YtaabfjfdalcceaaC3Base
import Derived.Test.YtaabfjfdalcceaaC3Sum
import Derived.Test.YtaabfjfdalcceaaC3Who
import Derived.Test.YtaabfjfdalcceaaE0
import Derived.Test.YtaabfjfdalcceaaE1
import Derived.Test.YtaabfjfdalcceaaE10
import Derived.Test.YtaabfjfdalcceaaE11
import Derived.Test.YtaabfjfdalcceaaE19
import Derived.Test.YtaabfjfdalcceaaE20
import Derived.Test.YtaabfjfdalcceaaE3
import Derived.Test.YtaabfjfdalcceaaE4
import Derived.Test.YtaabfjfdalcceaaE8
import Derived.Test.YtaabfjfdalcceaaE9
namespace Go.Proofs.Ytaabfjfdalcceaa.Pure
open Go.RowKit Go.Proofs.Ytaabfjfdalcceaa.E Go.Proofs.YtaabfjfdalcceaaW.PrintWords Go.Proofs.YtaabfjfdalcceaaW.PrintLast
set_option linter.unusedVariables false
set_option linter.unusedSimpArgs false

theorem absI_sub (a b : Int) : absI (a - b) = absI (b - a) := by unfold absI; split <;> split <;> omega
theorem apart_ok {a b : D} (ha : dateOk a = true) (hb : dateOk b = true) : apartV a b = (absI (dy a - dy b), true) := by unfold apartV; rw [ha, hb]; rfl
theorem dayV_in (l : List D) {n : Int} (h0 : 0 ≤ n) (h1 : n ≤ 1095364) : dayV l n = ((dateD n).f0, (dateD n).f1, whoFrom (dateD n) l 0, true) := by unfold dayV; rw [if_pos ⟨h0, h1⟩]
theorem dayV_out (l : List D) {n : Int} (h : ¬ (0 ≤ n ∧ n ≤ 1095364)) : dayV l n = (0, 0, [], false) := by unfold dayV; rw [if_neg h]

/-- Those who aren't born: nothing is told. -/
theorem half_not (l0 : List Int) (B : List D) (on : D) (hD : Ev (fun k => spec_DrawNextBirthday.f k l0) (B, on.f0, on.f1)) (h9 : B.length ≤ 9) (hb : bornL B on = false) :
    EvP fun k => g3F1 k l0 B on.f0 on.f1 0 0 [] false 0 0 [] false [] false 0 := by
  have hn := next_not B on (by omega) hb
  have hl := last_not B on (by omega) hb
  have ha := ev_implAges B on (by omega)
  have ha2 := ev_specAges B on (by omega)
  have hs := ev_implSum B on (by omega)
  have hs2 := ev_specSum B on (by omega)
  have hg := ev_gSame [] (by simp)
  unfold agesV at ha ha2
  unfold sumV at hs hs2
  simp only [hb, Bool.false_eq_true, if_false] at ha ha2 hs hs2
  refine (EvP.and (.of hD) (EvP.and (.of hn.2) (EvP.and (.of hn.1) (EvP.and (.of hl.2) (EvP.and (.of hl.1) (EvP.and (.of ha) (EvP.and (.of ha2) (EvP.and (.of hs) (EvP.and (.of hs2) (.of hg)))))))))).mono ?_
  rintro k ⟨h1, h2, h3, h4, h5, h6, h7, h8, h10, h11⟩
  exact { hB := by omega, hD := h1, hNI := h2, hNS := h3, hLI := h4, hLS := h5, hAI := h6, hAS := h7, hSI := h8, hSS := h10, hW1 := h11, hW2 := h11, hW3 := h11, hOT := fun h => h, hWT := fun h => h, hlen := fun h => (nomatch h), hsum := fun h => (nomatch h), heach := fun h => (nomatch h), hok := fun h => (nomatch h), hone := fun h => (nomatch h) }

/-- What the law asks behind a next birthday. -/
theorem next_part (B : List D) (on : D) (hb : bornL B on = true) {n : Int} (h1 : dy on < n) (h2 : n ≤ dy on + 365) (h3 : ∀ b ∈ B, n ≤ dy b + ((dy on - dy b) / 365 + 1) * 365) (h4 : n = 1095365 ∨ ∃ b ∈ B, n = dy b + ((dy on - dy b) / 365 + 1) * 365) (h5 : n ≤ 1095364) :
    ∃ (then_ : List Int) (apart b0 b1 : Int), EvP fun k => impl_BirthdaysBetween.f k B on.f0 on.f1 (dateD n).f0 (dateD n).f1 = some ((((whoFrom (dateD n) B 0).length : Nat) : Int), true) ∧ 1 ≤ (whoFrom (dateD n) B 0).length ∧ laws_gRises.f k (whoFrom (dateD n) B 0) = some true ∧ impl_AgesOn.f k B (dateD n).f0 (dateD n).f1 = some (then_, true) ∧ impl_DaysApart.f k on.f0 on.f1 (dateD n).f0 (dateD n).f1 = some (apart, true) ∧ 1 ≤ apart ∧ apart ≤ 365 ∧ impl_AddDays.f k (dateD n).f0 (dateD n).f1 (-1) = some (b0, b1, true) ∧ impl_BirthdaysBetween.f k B on.f0 on.f1 b0 b1 = some (0, true) ∧ (then_.length = B.length ∧ (agesV B on).1.length = B.length) ∧
      ∀ i : Nat, i < B.length → ∃ has : Bool, laws_gHas.f k (whoFrom (dateD n) B 0) (i : Int) = some has ∧ (has = true → wrap64 (rd (agesV B on).1 (i : Int) + 1) = rd then_ (i : Int)) ∧ (has = false → rd then_ (i : Int) = rd (agesV B on).1 (i : Int)) := by
  obtain ⟨p1, p8, pl, po, pd⟩ := born_parts hb
  have ro := dy_range po
  have hd := dateD_ok (n := n) (by omega) h5
  have hd1 := dateD_ok (n := n - 1) (by omega) (by omega)
  have hbn := born_later hb hd.1 (by rw [hd.2]; omega)
  have hbp := born_later hb hd1.1 (by rw [hd1.2]; omega)
  have hag : agesV B on = (B.map fun b => ageD b on, true) := by unfold agesV; rw [if_pos hb]
  have han : agesV B (dateD n) = (B.map fun b => ageD b (dateD n), true) := by unfold agesV; rw [if_pos hbn]
  have hw8 := who_len (dateD n) B 0
  have hdiff : ∀ b ∈ B, (isDay (dateD n) b → ageD b (dateD n) - ageD b on = 1) ∧ (¬ isDay (dateD n) b → ageD b (dateD n) - ageD b on = 0) := fun b hm => sub_day ((List.all_eq_true.1 pl) b hm) po (pd b hm) h1 (h3 b hm) h5
  have hcount := who_count (dateD n) (fun b => ageD b (dateD n) - ageD b on) B hdiff 0
  have hbet : betweenV B on (dateD n) = ((((whoFrom (dateD n) B 0).length : Nat) : Int), true) := by
    unfold betweenV
    rw [hb, hd.1, hd.2, decide_eq_true (show dy on ≤ n by omega)]
    simp only [Bool.and_self, if_true]
    rw [← sum_sub, hcount]
  have hz : ∀ b ∈ B, ageD b (dateD (n - 1)) - ageD b on = 0 := fun b hm => by
    have hok := (List.all_eq_true.1 pl) b hm
    rw [← age_days hok hd1.1 (by rw [hd1.2]; have := pd b hm; omega), ← age_days hok po (pd b hm), hd1.2]
    have := h3 b hm
    have := pd b hm
    omega
  have hzero : (B.map fun b => ageD b (dateD (n - 1)) - ageD b on).sum = 0 := by
    have : ∀ l : List D, (∀ b ∈ l, ageD b (dateD (n - 1)) - ageD b on = 0) → (l.map fun b => ageD b (dateD (n - 1)) - ageD b on).sum = 0 := by
      intro l
      induction l with
      | nil => intro _; rfl
      | cons b l ih => intro h; rw [List.map_cons, List.sum_cons, h b (List.mem_cons_self ..), ih fun c hc => h c (List.mem_cons_of_mem _ hc)]; rfl
    exact this B hz
  have hbet0 : betweenV B on (dateD (n - 1)) = (0, true) := by
    unfold betweenV
    rw [hb, hd1.1, hd1.2, decide_eq_true (show dy on ≤ n - 1 by omega)]
    simp only [Bool.and_self, if_true]
    rw [← sum_sub, hzero]
  have hone : 1 ≤ (whoFrom (dateD n) B 0).length := by
    rcases h4 with h | ⟨b, hm, h⟩
    · omega
    · have hne : whoFrom (dateD n) B 0 ≠ [] := fun e => by
        rw [who_none B pl (by omega) h5] at e
        have := pd b hm
        exact e b hm (by omega)
      exact List.length_pos_iff.2 hne
  have hap : apartV on (dateD n) = (n - dy on, true) := by rw [apart_ok po hd.1, hd.2]; unfold absI; rw [if_neg (by omega)]; congr 1; omega
  have hadd : addV (dateD n) (-1) = ((dateD (n - 1)).f0, (dateD (n - 1)).f1, true) := by
    unfold addV
    rw [hd.1, decide_eq_true (by omega), hd.2]
    simp only [Bool.and_self, if_true]
    unfold backV
    rw [if_pos (by omega)]
    rfl
  have e1 := ev_implBetween B on (dateD n) (by omega)
  have e2 := ev_gRises (whoFrom (dateD n) B 0) (by omega) (fun i hi => who_rises (dateD n) B i hi)
  have e3 := ev_implAges B (dateD n) (by omega)
  have e4 := ev_implApart on (dateD n)
  have e5 := ev_implAdd (dateD n) (-1)
  have e6 := ev_implBetween B on (dateD (n - 1)) (by omega)
  rw [hbet] at e1
  rw [han] at e3
  rw [hap] at e4
  rw [hadd] at e5
  rw [hbet0] at e6
  rw [hag]
  refine ⟨B.map fun b => ageD b (dateD n), n - dy on, (dateD (n - 1)).f0, (dateD (n - 1)).f1, ?_⟩
  have hall : EvP fun k => ∀ i : Nat, i < B.length → laws_gHas.f k (whoFrom (dateD n) B 0) (i : Int) = some (decide ((i : Int) ∈ whoFrom (dateD n) B 0)) := EvP.all B.length fun i _ => .of (ev_gHas (whoFrom (dateD n) B 0) (by omega) (i : Int))
  refine (EvP.and (.of e1) (EvP.and (.of e2) (EvP.and (.of e3) (EvP.and (.of e4) (EvP.and (.of e5) (EvP.and (.of e6) hall)))))).mono ?_
  rintro k ⟨q1, q2, q3, q4, q5, q6, q7⟩
  refine ⟨q1, hone, q2, q3, q4, by omega, by omega, q5, q6, ⟨by simp, by simp⟩, fun i hi => ⟨_, q7 i hi, fun hh => ?_, fun hh => ?_⟩⟩
  · have hm := (who_small (dateD n) B (i : Int) (of_decide_eq_true hh)).2.2
    have hok := all_at B i hi pl
    have hmem : rd_T26 B (i : Int) ∈ B := by rw [rdT_at B i hi]; exact List.getElem_mem _
    have hr := ageD_range hok po (pd _ hmem)
    have := (hdiff _ hmem).1 hm
    rw [rd_map B _ i hi, rd_map B _ i hi, w64 (by omega) (by omega)]
    omega
  · have hmem : rd_T26 B (i : Int) ∈ B := by rw [rdT_at B i hi]; exact List.getElem_mem _
    have hno : ¬ isDay (dateD n) (rd_T26 B (i : Int)) := fun hc => by
      rw [rdT_at B i hi] at hc
      have := who_has (dateD n) B 0 i hi hc
      rw [Nat.zero_add] at this
      have this' : (i : Int) ∈ whoFrom (dateD n) B 0 := this
      rw [decide_eq_true this'] at hh
      exact absurd hh (by simp)
    have := (hdiff _ hmem).2 hno
    rw [rd_map B _ i hi, rd_map B _ i hi]
    omega
/-- What it asks behind a last one. -/
theorem last_part (B : List D) (on : D) (hb : bornL B on = true) {m : Int} (h1 : m ≤ dy on) (h2 : dy on < m + 365 ∨ m < 0) (h3 : m = -1 ∨ ∃ b ∈ B, dy b < m ∧ (m - dy b) % 365 = 0) (h0 : 0 ≤ m) :
    ∃ apart : Int, EvP fun k => impl_DaysApart.f k on.f0 on.f1 (dateD m).f0 (dateD m).f1 = some (apart, true) ∧ apart < 365 ∧ laws_gRises.f k (whoFrom (dateD m) B 0) = some true ∧ (1 ≤ (whoFrom (dateD m) B 0).length ∧ (whoFrom (dateD m) B 0).length ≤ 1048576) ∧
      ∀ i : Nat, i < (whoFrom (dateD m) B 0).length → 0 ≤ rd (whoFrom (dateD m) B 0) (i : Int) ∧ rd (whoFrom (dateD m) B 0) (i : Int) < ((B.length : Nat) : Int) ∧ (rd_T26 B (rd (whoFrom (dateD m) B 0) (i : Int))).f1 = (dateD m).f1 ∧ (rd_T26 B (rd (whoFrom (dateD m) B 0) (i : Int))).f0 < (dateD m).f0 := by
  obtain ⟨p1, p8, pl, po, pd⟩ := born_parts hb
  have ro := dy_range po
  have hd := dateD_ok (n := m) h0 (by omega)
  have hw8 := who_len (dateD m) B 0
  have hap : apartV on (dateD m) = (dy on - m, true) := by rw [apart_ok po hd.1, hd.2]; unfold absI; rw [if_pos (by omega)]
  have e4 := ev_implApart on (dateD m)
  rw [hap] at e4
  have e2 := ev_gRises (whoFrom (dateD m) B 0) (by omega) (fun i hi => who_rises (dateD m) B i hi)
  have hone : 1 ≤ (whoFrom (dateD m) B 0).length := by
    rcases h3 with h | ⟨b, hm, h, h'⟩
    · omega
    · have hne : whoFrom (dateD m) B 0 ≠ [] := fun e => by
        rw [who_none B pl h0 (by omega)] at e
        exact e b hm ⟨h', h⟩
      exact List.length_pos_iff.2 hne
  refine ⟨dy on - m, (EvP.and (.of e4) (.of e2)).mono ?_⟩
  rintro k ⟨q1, q2⟩
  refine ⟨q1, by omega, q2, ⟨hone, by omega⟩, fun i hi => ?_⟩
  have hmem : rd (whoFrom (dateD m) B 0) (i : Int) ∈ whoFrom (dateD m) B 0 := by rw [rd_at _ i hi]; exact List.getElem_mem _
  obtain ⟨a, b, c⟩ := who_small (dateD m) B _ hmem
  exact ⟨a, b, c.1, c.2⟩
theorem each_part (B : List D) (on : D) (hb : bornL B on = true) : EvP fun k => ∀ i : Nat, i < (agesV B on).1.length → ∃ days, impl_AgeOn.f k (rd_T26 B (i : Int)).f0 (rd_T26 B (i : Int)).f1 on.f0 on.f1 = some (rd (agesV B on).1 (i : Int), true) ∧ 0 ≤ rd (agesV B on).1 (i : Int) ∧ impl_DaysOld.f k (rd_T26 B (i : Int)).f0 (rd_T26 B (i : Int)).f1 on.f0 on.f1 = some (days, true) ∧ wrap64 (Int.tdiv days 365) = rd (agesV B on).1 (i : Int) := by
  obtain ⟨p1, p8, pl, po, pd⟩ := born_parts hb
  have ro := dy_range po
  have hag : agesV B on = (B.map fun b => ageD b on, true) := by unfold agesV; rw [if_pos hb]
  rw [hag]
  refine EvP.all _ fun i hi => ?_
  have hi : i < B.length := by simpa using hi
  have hok := all_at B i hi pl
  have hmem : rd_T26 B (i : Int) ∈ B := by rw [rdT_at B i hi]; exact List.getElem_mem _
  have hle := pd _ hmem
  have hr := ageD_range hok po hle
  have rb := dy_range hok
  have h1 : bornL [rd_T26 B (i : Int)] on = true := by rw [born_one', hok, po, decide_eq_true hle]; rfl
  have e1 := ev_implAge (rd_T26 B (i : Int)) on
  have e2 := ev_implDays (rd_T26 B (i : Int)) on
  unfold ageV at e1
  unfold daysV at e2
  rw [if_pos h1] at e1 e2
  refine (EvP.and (.of e1) (.of e2)).mono ?_
  rintro k ⟨q1, q2⟩
  rw [rd_map B _ i hi]
  refine ⟨_, q1, hr.1, q2, ?_⟩
  rw [Int.tdiv_eq_ediv_of_nonneg (by omega), age_days hok po hle, w64 (by omega) (by omega)]
theorem half1 (l0 : List Int) (hl : Bytes l0) : ∃ (B : List D) (o0 o1 n0 n1 : Int) (who : List Int) (ok : Bool) (m0 m1 : Int) (whose : List Int) (one : Bool) (ages : List Int) (three : Bool) (sum : Int), EvP fun k => g3F1 k l0 B o0 o1 n0 n1 who ok m0 m1 whose one ages three sum := by
  obtain ⟨B, on, hD, h9⟩ := drawNext hl
  cases hb : bornL B on with
  | false => exact ⟨B, on.f0, on.f1, 0, 0, [], false, 0, 0, [], false, [], false, 0, half_not l0 B on hD h9 hb⟩
  | true =>
    obtain ⟨p1, p8, pl, po, pd⟩ := born_parts hb
    obtain ⟨n, n1, n2, n3, n4, nS, nI⟩ := next_all B on hb
    obtain ⟨m, m1, m2, m3, mS, mI⟩ := last_all B on hb
    have hag : agesV B on = (B.map fun b => ageD b on, true) := by unfold agesV; rw [if_pos hb]
    have hsm : sumV B on = ((B.map fun b => ageD b on).sum, true) := by unfold sumV; rw [if_pos hb]
    have aI := ev_implAges B on (by omega)
    have aS := ev_specAges B on (by omega)
    have sI := ev_implSum B on (by omega)
    have sS := ev_specSum B on (by omega)
    have eS := ev_gSum (B.map fun b => ageD b on) (by simpa using p8) (ages_bound pl po pd)
    have each := each_part B on hb
    have hw1 : (dayV B n).2.2.1.length ≤ 1048576 := by unfold dayV; split; have := who_len (dateD n) B 0; simp only; omega; simp
    have hw2 : (dayV B m).2.2.1.length ≤ 1048576 := by unfold dayV; split; have := who_len (dateD m) B 0; simp only; omega; simp
    have g1 := ev_gSame _ hw1
    have g2 := ev_gSame _ hw2
    have g3 := ev_gSame (agesV B on).1 (by rw [hag]; simp; omega)
    have hok : EvP fun k => (dayV B n).2.2.2 = true → ∃ (then_ : List Int) (apart b0 b1 : Int), impl_BirthdaysBetween.f k B on.f0 on.f1 (dayV B n).1 (dayV B n).2.1 = some ((((dayV B n).2.2.1.length : Nat) : Int), true) ∧ 1 ≤ (dayV B n).2.2.1.length ∧ laws_gRises.f k (dayV B n).2.2.1 = some true ∧ impl_AgesOn.f k B (dayV B n).1 (dayV B n).2.1 = some (then_, true) ∧ impl_DaysApart.f k on.f0 on.f1 (dayV B n).1 (dayV B n).2.1 = some (apart, true) ∧ 1 ≤ apart ∧ apart ≤ 365 ∧ impl_AddDays.f k (dayV B n).1 (dayV B n).2.1 (-1) = some (b0, b1, true) ∧ impl_BirthdaysBetween.f k B on.f0 on.f1 b0 b1 = some (0, true) ∧ (then_.length = B.length ∧ (agesV B on).1.length = B.length) ∧
        ∀ i : Nat, i < B.length → ∃ has : Bool, laws_gHas.f k (dayV B n).2.2.1 (i : Int) = some has ∧ (has = true → wrap64 (rd (agesV B on).1 (i : Int) + 1) = rd then_ (i : Int)) ∧ (has = false → rd then_ (i : Int) = rd (agesV B on).1 (i : Int)) := by
      have ro := dy_range po
      by_cases h5 : n ≤ 1095364
      · rw [dayV_in B (by omega) h5]
        obtain ⟨a, b, c, d, h⟩ := next_part B on hb n1 n2 n3 n4 h5
        exact h.mono fun k hk _ => ⟨a, b, c, d, hk⟩
      · rw [dayV_out B (by omega)]
        exact EvP.mono (EvP.now trivial) fun k _ h => (nomatch h)
    have hone : EvP fun k => (dayV B m).2.2.2 = true → ∃ apart : Int, impl_DaysApart.f k on.f0 on.f1 (dayV B m).1 (dayV B m).2.1 = some (apart, true) ∧ apart < 365 ∧ laws_gRises.f k (dayV B m).2.2.1 = some true ∧ (1 ≤ (dayV B m).2.2.1.length ∧ (dayV B m).2.2.1.length ≤ 1048576) ∧
        ∀ i : Nat, i < (dayV B m).2.2.1.length → 0 ≤ rd (dayV B m).2.2.1 (i : Int) ∧ rd (dayV B m).2.2.1 (i : Int) < ((B.length : Nat) : Int) ∧ (rd_T26 B (rd (dayV B m).2.2.1 (i : Int))).f1 = (dayV B m).2.1 ∧ (rd_T26 B (rd (dayV B m).2.2.1 (i : Int))).f0 < (dayV B m).1 := by
      have ro := dy_range po
      by_cases h5 : 0 ≤ m
      · rw [dayV_in B h5 (by omega)]
        obtain ⟨a, h⟩ := last_part B on hb m1 m2 m3 h5
        exact h.mono fun k hk _ => ⟨a, hk⟩
      · rw [dayV_out B (by omega)]
        exact EvP.mono (EvP.now trivial) fun k _ h => (nomatch h)
    refine ⟨B, on.f0, on.f1, (dayV B n).1, (dayV B n).2.1, (dayV B n).2.2.1, (dayV B n).2.2.2, (dayV B m).1, (dayV B m).2.1, (dayV B m).2.2.1, (dayV B m).2.2.2, (agesV B on).1, true, (B.map fun b => ageD b on).sum, ?_⟩
    have haT : ((agesV B on).1, true) = agesV B on := by rw [hag]
    refine (EvP.and (.of hD) (EvP.and (.of nI) (EvP.and (.of nS) (EvP.and (.of mI) (EvP.and (.of mS) (EvP.and (.of aI) (EvP.and (.of aS) (EvP.and (.of sI) (EvP.and (.of sS) (EvP.and (.of g1) (EvP.and (.of g2) (EvP.and (.of g3) (EvP.and (.of eS) (EvP.and each (EvP.and hok hone))))))))))))))).mono ?_
    rintro k ⟨q1, q2, q3, q4, q5, q6, q7, q8, q9, q10, q11, q12, q13, q14, q15, q16⟩
    exact { hB := by omega, hD := q1, hNI := q2, hNS := q3, hLI := q4, hLS := q5, hAI := by rw [haT]; exact q6, hAS := by rw [haT]; exact q7, hSI := by rw [← hsm]; exact q8, hSS := by rw [← hsm]; exact q9, hW1 := q10, hW2 := q11, hW3 := q12, hOT := fun _ => rfl, hWT := fun _ => rfl, hlen := fun _ => by rw [hag]; simp, hsum := fun _ => by rw [hag]; exact q13, heach := fun _ => q14, hok := q15, hone := q16 }

/-! ### the second half -/
theorem seven_part (L : List D) (f t : D) (h9 : L.length ≤ 9) : EvP fun k => (betweenV L f t).2 = true → ∃ p q : Int, impl_SumOfAgesOn.f k L f.f0 f.f1 = some (p, true) ∧ impl_SumOfAgesOn.f k L t.f0 t.f1 = some (q, true) ∧ wrap64 (q - p) = (betweenV L f t).1 := by
  by_cases h : (bornL L f && (dateOk t && decide (dy f ≤ dy t))) = true
  · have hv : betweenV L f t = ((L.map fun b => ageD b t).sum - (L.map fun b => ageD b f).sum, true) := by unfold betweenV; rw [if_pos h]
    simp only [Bool.and_eq_true, decide_eq_true_iff] at h
    have hbt := born_later h.1 h.2.1 h.2.2
    obtain ⟨p1, p8, pl, pf, pd⟩ := born_parts h.1
    obtain ⟨_, _, _, pt, pdt⟩ := born_parts hbt
    have e1 := ev_implSum L f (by omega)
    have e2 := ev_implSum L t (by omega)
    unfold sumV at e1 e2
    rw [if_pos h.1] at e1
    rw [if_pos hbt] at e2
    have b1 := sum_range _ (ages_bound pl pt pdt)
    have b2 := sum_range _ (ages_bound pl pf pd)
    rw [List.length_map] at b1 b2
    refine (EvP.and (.of e1) (.of e2)).mono ?_
    rintro k ⟨q1, q2⟩ _
    exact ⟨_, _, q1, q2, by rw [hv]; exact w64 (by omega) (by omega)⟩
  · have hv : betweenV L f t = (0, false) := by unfold betweenV; rw [if_neg h]
    rw [hv]
    exact EvP.mono (EvP.now trivial) fun k _ h => (nomatch h)
theorem nine_part (d : D) (n : Int) : EvP fun k => (addV d n).2.2 = true → ∃ btw : Int, impl_AddDays.f k (addV d n).1 (addV d n).2.1 (wrap64 (-n)) = some (d.f0, d.f1, true) ∧ impl_DaysApart.f k d.f0 d.f1 (addV d n).1 (addV d n).2.1 = some (btw, true) ∧ (btw = n ∨ btw = wrap64 (-n)) := by
  by_cases h : (dateOk d && decide (-2000000 ≤ n ∧ n ≤ 2000000)) = true
  · have hv : addV d n = backV (dy d + n) := by unfold addV; rw [if_pos h]
    simp only [Bool.and_eq_true, decide_eq_true_iff] at h
    obtain ⟨hd, hn⟩ := h
    have rd_ := dy_range hd
    by_cases hm : 0 ≤ dy d + n ∧ dy d + n ≤ 1095364
    · have hv2 : addV d n = ((dateD (dy d + n)).f0, (dateD (dy d + n)).f1, true) := by rw [hv]; unfold backV; rw [if_pos hm]
      have hl := dateD_ok hm.1 hm.2
      rw [hv2]
      have e1 := ev_implAdd (dateD (dy d + n)) (-n)
      have hb : addV (dateD (dy d + n)) (-n) = (d.f0, d.f1, true) := by
        unfold addV
        rw [hl.1, decide_eq_true (by omega), hl.2]
        simp only [Bool.and_self, if_true]
        unfold backV
        rw [if_pos (by omega), show dy d + n + -n = dy d by omega, dateD_dy hd]
      rw [hb] at e1
      have e2 := ev_implApart d (dateD (dy d + n))
      rw [apart_ok hd hl.1, hl.2] at e2
      rw [w64 (x := -n) (by omega) (by omega)]
      refine (EvP.and (.of e1) (.of e2)).mono ?_
      rintro k ⟨q1, q2⟩ _
      exact ⟨_, q1, q2, by unfold absI; split <;> omega⟩
    · have hv2 : addV d n = (0, 0, false) := by rw [hv]; unfold backV; rw [if_neg hm]
      rw [hv2]
      exact EvP.mono (EvP.now trivial) fun k _ h => (nomatch h)
  · have hv : addV d n = (0, 0, false) := by unfold addV; rw [if_neg h]
    rw [hv]
    exact EvP.mono (EvP.now trivial) fun k _ h => (nomatch h)
theorem eleven_part (a b : D) : EvP fun k => (apartV a b).2 = true → impl_DaysApart.f k b.f0 b.f1 a.f0 a.f1 = some ((apartV a b).1, true) ∧ (((apartV a b).1 == 0) != (a.f0 == b.f0 && a.f1 == b.f1)) = false := by
  by_cases h : (dateOk a && dateOk b) = true
  · simp only [Bool.and_eq_true] at h
    rw [apart_ok h.1 h.2]
    have e := ev_implApart b a
    rw [apart_ok h.2 h.1, absI_sub] at e
    refine (EvP.of e).mono ?_
    intro k q _
    refine ⟨q, ?_⟩
    by_cases hd : dy a = dy b
    · have := inj_dy h.1 h.2 hd
      subst this
      simp [absI]
    · have h1 : ¬ absI (dy a - dy b) = 0 := by unfold absI; split <;> omega
      have h2 : ¬ (a.f0 = b.f0 ∧ a.f1 = b.f1) := fun ⟨x, y⟩ => hd (by unfold dy; rw [x, y])
      have h3 : (absI (dy a - dy b) == 0) = false := by simpa using h1
      have h4 : (a.f0 == b.f0 && a.f1 == b.f1) = false := by
        rw [← Bool.not_eq_true, Bool.and_eq_true, beq_iff_eq, beq_iff_eq]; exact h2
      simp only [h3, h4]
      rfl
  · have hv : apartV a b = (0, false) := by unfold apartV; rw [if_neg h]
    rw [hv]
    exact EvP.mono (EvP.now trivial) fun k _ h => (nomatch h)
theorem thirteen_part (x y : D) : EvP fun k => (ageV x y).2 = true → (ageV x y).1 > 0 → ∃ older : Int, impl_AgeOn.f k x.f0 x.f1 (wrap64 (y.f0 - 1)) y.f1 = some (older, true) ∧ wrap64 ((ageV x y).1 - 1) = older := by
  by_cases h : bornL [x] y = true
  · have hv : ageV x y = (ageD x y, true) := by unfold ageV; rw [if_pos h]
    rw [hv]
    rw [born_one'] at h
    simp only [Bool.and_eq_true, decide_eq_true_iff] at h
    obtain ⟨hx, hy, hle⟩ := h
    have ox := (ok_iff x).1 hx
    have oy := (ok_iff y).1 hy
    by_cases hp : ageD x y > 0
    · have hr := ageD_range hx hy hle
      have hp' := hp
      unfold ageD at hp'
      have hok : dateOk ⟨y.f0 - 1, y.f1⟩ = true := by
        rw [ok_iff]
        simp only
        split at hp' <;> omega
      have hle2 : dy x ≤ dy ⟨y.f0 - 1, y.f1⟩ := by
        unfold dy
        simp only
        split at hp' <;> omega
      have hb : bornL [x] ⟨y.f0 - 1, y.f1⟩ = true := by rw [born_one', hx, hok, decide_eq_true hle2]; rfl
      have e := ev_implAge x ⟨y.f0 - 1, y.f1⟩
      unfold ageV at e
      rw [if_pos hb] at e
      rw [w64 (x := y.f0 - 1) (by omega) (by omega), w64 (x := ageD x y - 1) (by omega) (by omega)]
      refine (EvP.of e).mono ?_
      intro k q _ _
      refine ⟨_, q, ?_⟩
      unfold ageD
      simp only
      omega
    · exact EvP.mono (EvP.now trivial) fun k _ _ h => absurd h hp
  · have hv : ageV x y = (0, false) := by unfold ageV; rw [if_neg h]
    rw [hv]
    exact EvP.mono (EvP.now trivial) fun k _ h => (nomatch h)
theorem half2 (l1 : List Int) (hl : Bytes l1) : ∃ (L : List D) (f0 f1 t0 t1 n : Int) (seven : Bool) (d0 d1 days la0 la1 : Int) (nine : Bool) (a0 a1 b0 b1 apart : Int) (eleven : Bool) (x0 x1 y0 y1 age : Int) (thirteen : Bool) (z0 z1 : Int) (isd : Bool), EvP fun k => g3F2 k l1 L f0 f1 t0 t1 n seven d0 d1 days la0 la1 nine a0 a1 b0 b1 apart eleven x0 x1 y0 y1 age thirteen z0 z1 isd := by
  obtain ⟨L, f, t, hD2, h9⟩ := drawBetween hl
  obtain ⟨d, days, hD3⟩ := drawAdd hl
  obtain ⟨a, b, hD4⟩ := drawApart hl
  obtain ⟨x, y, hD5⟩ := drawAge hl
  obtain ⟨z, hD6⟩ := drawIs hl
  refine ⟨L, f.f0, f.f1, t.f0, t.f1, (betweenV L f t).1, (betweenV L f t).2, d.f0, d.f1, days, (addV d days).1, (addV d days).2.1, (addV d days).2.2, a.f0, a.f1, b.f0, b.f1, (apartV a b).1, (apartV a b).2, x.f0, x.f1, y.f0, y.f1, (ageV x y).1, (ageV x y).2, z.f0, z.f1, dateOk z, ?_⟩
  refine (EvP.and (.of hD2) (EvP.and (.of (ev_implBetween L f t (by omega))) (EvP.and (.of (ev_specBetween L f t (by omega))) (EvP.and (.of (ev_implAdd d days)) (EvP.and (.of (ev_specAdd d days)) (EvP.and (.of (ev_implApart a b)) (EvP.and (.of (ev_specApart a b)) (EvP.and (.of (ev_implAge x y)) (EvP.and (seven_part L f t h9) (EvP.and (nine_part d days) (EvP.and (eleven_part a b) (thirteen_part x y)))))))))))).mono ?_
  rintro k ⟨q1, q2, q3, q4, q5, q6, q7, q8, q9, q10, q11, q12⟩
  have hz : spec_IsDate.f z.f0 z.f1 = some (dateOk z) := by unfold spec_IsDate.f; rw [biDate_val]; rfl
  exact { hD2 := q1, hBI := q2, hBS := q3, hD3 := hD3, hDI := q4, hDS := q5, hD4 := hD4, hPI := q6, hPS := q7, hD5 := hD5, hGI := q8, hGS := ev_specAge x y, hD6 := hD6, hZI := isDate_val z.f0 z.f1, hZS := hz, h7 := q9, h9 := q10, h11 := q11, h13 := q12 }
theorem FnBirthdaysAge : laws_FnBirthdaysAge.Pure := by
  intro l0 l1 _ _ hw0 _ _ hw1
  have hb : ∀ l : List Int, (∀ x ∈ l, (Lit.int .u8 x).wf = true) → Bytes l := fun l h x hx => by
    have := h x hx
    simp [Lit.wf, IntKind.min, IntKind.max, IntKind.bits, IntKind.signed] at this
    omega
  unfold laws_big.f
  by_cases h1 : (l0.length : Int) > 1048576
  · left; rw [if_pos h1]
  · rw [if_neg h1]
    by_cases h2 : (l1.length : Int) > wrap64 (1048576 - (l0.length : Int))
    · left; rw [decide_eq_true h2]
    · right
      refine ⟨by rw [decide_eq_false h2], ?_⟩
      obtain ⟨B, o0, o1, n0, n1, who, ok, m0, m1, whose, one, ages, three, sum, p⟩ := half1 l0 (hb l0 hw0)
      obtain ⟨L, f0, f1, t0, t1, n, seven, d0, d1, days, la0, la1, nine, a0, a1, b0, b1, apart, eleven, x0, x1, y0, y1, age, thirteen, z0, z1, isd, q⟩ := half2 l1 (hb l1 hw1)
      obtain ⟨K, h⟩ := p.and q
      exact ⟨K, ⟨B, o0, o1, n0, n1, who, ok, m0, m1, whose, one, ages, three, sum, (h K (Nat.le_refl _)).1⟩, ⟨L, f0, f1, t0, t1, n, seven, d0, d1, days, la0, la1, nine, a0, a1, b0, b1, apart, eleven, x0, x1, y0, y1, age, thirteen, z0, z1, isd, (h K (Nat.le_refl _)).2⟩⟩

end Go.Proofs.Ytaabfjfdalcceaa.Pure
