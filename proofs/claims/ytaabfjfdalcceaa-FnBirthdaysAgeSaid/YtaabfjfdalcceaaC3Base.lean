/- Chapter 3, plain: what the program's and the reference's functions on dates answer, as formulas. No condition beyond those typed at each lemma. -/
import Derived.Test.YtaabfjfdalcceaaE0
import Derived.Test.YtaabfjfdalcceaaE3
import Derived.Test.YtaabfjfdalcceaaE4
import Derived.Test.YtaabfjfdalcceaaE5
import Derived.Test.YtaabfjfdalcceaaE6
import Derived.Test.YtaabfjfdalcceaaE7
import Derived.Test.YtaabfjfdalcceaaE8
namespace Go.Proofs.Ytaabfjfdalcceaa.Pure
open Go.RowKit Go.Proofs.Ytaabfjfdalcceaa.E Go.Proofs.YtaabfjfdalcceaaW.PrintWords Go.Proofs.YtaabfjfdalcceaaW.PrintLast
set_option linter.unusedVariables false
set_option linter.unusedSimpArgs false

abbrev D := S26
def dy (d : D) : Int := d.f0 * 365 + d.f1 - 1
def ageD (b on : D) : Int := on.f0 - b.f0 - if on.f1 < b.f1 then 1 else 0
def goodL (l : List D) : Bool := decide (1 ≤ l.length ∧ l.length ≤ 8) && l.all dateOk
def bornL (l : List D) (on : D) : Bool := goodL l && (dateOk on && l.all fun b => decide (dy b ≤ dy on))

theorem ok_iff (d : D) : dateOk d = true ↔ 0 ≤ d.f0 ∧ d.f0 ≤ 3000 ∧ 1 ≤ d.f1 ∧ d.f1 ≤ 365 := by unfold dateOk; exact decide_eq_true_iff
theorem dy_range {d : D} (h : dateOk d = true) : 0 ≤ dy d ∧ dy d ≤ 1095364 := by
  have := (ok_iff d).1 h
  unfold dy
  omega
theorem w64 {x : Int} (h0 : -9223372036854775808 ≤ x) (h1 : x ≤ 9223372036854775807) : wrap64 x = x := by unfold wrap64; omega
theorem days_val {d : D} (h : dateOk d = true) : wrap64 ((wrap64 ((wrap64 (d.f0 * 365)) + d.f1)) - 1) = dy d := by
  have := (ok_iff d).1 h
  unfold dy wrap64
  omega
theorem biDays_ok {d : D} (h : dateOk d = true) : spec_biDays.f d.f0 d.f1 = some (dy d) := by unfold spec_biDays.f; rw [days_val h]
theorem index_ok {d : D} (h : dateOk d = true) : impl_Date_index.f d.f0 d.f1 = some (dy d) := by unfold impl_Date_index.f; rw [days_val h]
theorem l1In_val (n a b : Int) : spec_l1In.f n a b = some (decide (a ≤ n ∧ n ≤ b)) := by
  unfold spec_l1In.f
  by_cases h1 : a ≤ n <;> by_cases h2 : n ≤ b <;> simp [h1, h2]
theorem between_val (n a b : Int) : impl_between.f n a b = some (decide (a ≤ n ∧ n ≤ b)) := l1In_val n a b
theorem biDate_val (a b : Int) : spec_biDate.f a b = some (dateOk ⟨a, b⟩) := by
  unfold spec_biDate.f dateOk
  rw [l1In_val, l1In_val]
  by_cases h1 : 0 ≤ a ∧ a ≤ 3000 <;> by_cases h2 : 1 ≤ b ∧ b ≤ 365 <;> simp [h1, h2]
  all_goals omega
theorem isDate_val (a b : Int) : impl_IsDate.f a b = some (dateOk ⟨a, b⟩) := biDate_val a b
theorem back_val {n : Int} (h0 : 0 ≤ n) (h1 : n ≤ 1095364) : spec_biBack.f n = some (n / 365, n % 365 + 1, true) := by
  unfold spec_biBack.f
  rw [l1In_val, decide_eq_true (by omega)]
  simp only [Option.bind_some, if_true]
  rw [Int.tdiv_eq_ediv_of_nonneg h0, Int.tmod_eq_emod_of_nonneg h0, w64 (by omega) (by omega), w64 (by omega) (by omega)]
theorem back_none {n : Int} (h : ¬ (0 ≤ n ∧ n ≤ 1095364)) : spec_biBack.f n = some (0, 0, false) := by
  unfold spec_biBack.f
  rw [l1In_val, decide_eq_false h]
  rfl
theorem dateAt_eq (n : Int) : impl_dateAt.f n = spec_biBack.f n := rfl
def dateD (n : Int) : D := ⟨n / 365, n % 365 + 1⟩
theorem dateD_ok {n : Int} (h0 : 0 ≤ n) (h1 : n ≤ 1095364) : dateOk (dateD n) = true ∧ dy (dateD n) = n := by
  rw [ok_iff]
  unfold dateD dy
  simp only
  omega
theorem dateD_dy {d : D} (h : dateOk d = true) : dateD (dy d) = d := by
  have := (ok_iff d).1 h
  cases d with
  | mk y x =>
    simp only at this
    simp only [dateD, dy, S26.mk.injEq]
    omega
/-- an age by days is the age by years and days. -/
theorem age_days {b on : D} (hb : dateOk b = true) (ho : dateOk on = true) (h : dy b ≤ dy on) : (dy on - dy b) / 365 = ageD b on := by
  have h1 := (ok_iff b).1 hb
  have h2 := (ok_iff on).1 ho
  unfold ageD
  unfold dy at h ⊢
  split <;> omega
theorem biAge_ok {b on : D} (hb : dateOk b = true) (ho : dateOk on = true) : spec_biAge.f b.f0 b.f1 on.f0 on.f1 = some (ageD b on) := by
  have h1 := (ok_iff b).1 hb
  have h2 := (ok_iff on).1 ho
  unfold spec_biAge.f ageD
  rw [w64 (x := on.f0 - b.f0) (by omega) (by omega), w64 (x := on.f0 - b.f0 - 1) (by omega) (by omega)]
  split <;> simp
theorem age_ok {b : D} {n : Int} (hb : dateOk b = true) (h0 : dy b ≤ n) (h1 : n ≤ 1095365) : impl_Date_age.f b.f0 b.f1 n = some ((n - dy b) / 365) := by
  have h2 := dy_range hb
  unfold impl_Date_age.f
  rw [index_ok hb]
  simp only [Option.bind_some]
  rw [w64 (x := n - dy b) (by omega) (by omega), Int.tdiv_eq_ediv_of_nonneg (by omega), w64 (by omega) (by omega)]
theorem ageD_range {b on : D} (hb : dateOk b = true) (ho : dateOk on = true) (h : dy b ≤ dy on) : 0 ≤ ageD b on ∧ ageD b on ≤ 3001 := by
  rw [← age_days hb ho h]
  have h1 := dy_range hb
  have h2 := dy_range ho
  omega

theorem rdT_at (l : List D) (i : Nat) (h : i < l.length) : rd_T26 l (i : Int) = l[i] := by
  simp [rd_T26, List.getD, List.getElem?_eq_getElem h]
theorem drop_at (l : List D) (i : Nat) (h : i < l.length) : l.drop i = rd_T26 l (i : Int) :: l.drop (i + 1) := by
  rw [rdT_at l i h]
  exact List.drop_eq_getElem_cons h
theorem all_drop {p : D → Bool} (l : List D) (i : Nat) (h : l.all p = true) : (l.drop i).all p = true := by
  rw [List.all_eq_true] at h ⊢
  exact fun x hx => h x (List.mem_of_mem_drop hx)
theorem all_at {p : D → Bool} (l : List D) (i : Nat) (hl : i < l.length) (h : l.all p = true) : p (rd_T26 l (i : Int)) = true := by
  rw [rdT_at l i hl]
  exact (List.all_eq_true.1 h) _ (List.getElem_mem _)
theorem w_succ (i n : Nat) (h : i < n) (hn : n ≤ 9223372036854775807) : wrap64 ((i : Int) + 1) = ((i + 1 : Nat) : Int) := by
  rw [w64 (by omega) (by omega)]; rfl

/-! ### the reference: births, and all born -/
theorem biGood_loop (l : List D) (hn : l.length ≤ 9223372036854775807) (d : Nat) : ∀ i : Nat, l.length - i = d → i ≤ l.length → Ev (fun k => spec_biGood.l0 k l (l.length : Int) (i : Int)) ((l.drop i).all dateOk) := by
  induction d with
  | zero =>
    intro i hd hi
    rw [List.drop_of_length_le (by omega)]
    exact Ev.step (f := fun _ => some true) (fun k => by rw [spec_biGood.l0, if_neg (by omega)]) (Ev.now _)
  | succ d ih =>
    intro i hd hi
    have hlt : i < l.length := by omega
    have hs := ih (i + 1) (by omega) (by omega)
    rw [drop_at l i hlt, List.all_cons]
    cases hb : dateOk (rd_T26 l (i : Int)) with
    | true =>
      rw [Bool.true_and]
      refine Ev.step (fun k => ?_) hs
      rw [spec_biGood.l0, if_pos (by omega), if_pos (by omega), if_pos (by omega), biDate_val]
      simp only [Option.bind_some]
      have hb' : dateOk ⟨(rd_T26 l (i : Int)).f0, (rd_T26 l (i : Int)).f1⟩ = true := hb
      rw [hb', if_pos rfl, w_succ i l.length hlt hn]
    | false =>
      rw [Bool.false_and]
      refine Ev.step (f := fun _ => some false) (fun k => ?_) (Ev.now _)
      rw [spec_biGood.l0, if_pos (by omega), if_pos (by omega), if_pos (by omega), biDate_val]
      simp only [Option.bind_some]
      have hb' : dateOk ⟨(rd_T26 l (i : Int)).f0, (rd_T26 l (i : Int)).f1⟩ = false := hb
      rw [hb', if_neg (by simp)]
theorem ev_biGood (l : List D) (hn : l.length ≤ 9223372036854775807) : Ev (fun k => spec_biGood.f k l) (goodL l) := by
  unfold spec_biGood.f goodL
  rw [l1In_val]
  simp only [Option.bind_some]
  by_cases h : 1 ≤ l.length ∧ l.length ≤ 8
  · rw [decide_eq_true (by omega), decide_eq_true h, Bool.true_and]
    simp only [if_true]
    simpa using biGood_loop l hn l.length 0 (by omega) (by omega)
  · rw [decide_eq_false (by omega), decide_eq_false h, Bool.false_and]
    simp only [Bool.false_eq_true, if_false]
    exact Ev.now _
theorem ev_goodI (l : List D) : impl_AreBirthDates.f l = some (goodL l) := rfl
theorem born_val {b on : D} (hb : dateOk b = true) : spec_biBorn.f b.f0 b.f1 on.f0 on.f1 = some (dateOk on && decide (dy b ≤ dy on)) := by
  unfold spec_biBorn.f
  rw [biDate_val, biDate_val]
  have hb' : dateOk ⟨b.f0, b.f1⟩ = true := hb
  have ho' : dateOk ⟨on.f0, on.f1⟩ = dateOk on := rfl
  rw [hb', ho']
  simp only [Option.bind_some, if_true]
  cases ho : dateOk on with
  | true =>
    rw [biDays_ok ho, biDays_ok hb]
    simp
  | false => simp
theorem biAll_loop (l : List D) (on : D) (hl : l.all dateOk = true) (hn : l.length ≤ 9223372036854775807) (d : Nat) : ∀ i : Nat, l.length - i = d → i ≤ l.length →
    Ev (fun k => spec_biAll.l0 k l (l.length : Int) (i : Int) on.f0 on.f1) ((l.drop i).all fun b => dateOk on && decide (dy b ≤ dy on)) := by
  induction d with
  | zero =>
    intro i hd hi
    rw [List.drop_of_length_le (by omega)]
    exact Ev.step (f := fun _ => some true) (fun k => by rw [spec_biAll.l0, if_neg (by omega)]) (Ev.now _)
  | succ d ih =>
    intro i hd hi
    have hlt : i < l.length := by omega
    have hs := ih (i + 1) (by omega) (by omega)
    rw [drop_at l i hlt, List.all_cons]
    cases hb : (dateOk on && decide (dy (rd_T26 l (i : Int)) ≤ dy on)) with
    | true =>
      rw [Bool.true_and]
      refine Ev.step (fun k => ?_) hs
      rw [spec_biAll.l0, if_pos (by omega), if_pos (by omega), if_pos (by omega), born_val (all_at l i hlt hl), hb]
      simp only [Option.bind_some, if_true]
      rw [w_succ i l.length hlt hn]
    | false =>
      rw [Bool.false_and]
      refine Ev.step (f := fun _ => some false) (fun k => ?_) (Ev.now _)
      rw [spec_biAll.l0, if_pos (by omega), if_pos (by omega), if_pos (by omega), born_val (all_at l i hlt hl), hb]
      simp
theorem all_and (l : List D) (hl : 1 ≤ l.length) (b : Bool) (p : D → Bool) : (l.all fun x => b && p x) = (b && l.all p) := by
  cases b with
  | true => simp
  | false => cases l with
    | nil => simp at hl
    | cons x l => simp
theorem ev_biAll (l : List D) (on : D) (hn : l.length ≤ 9223372036854775807) : Ev (fun k => spec_biAll.f k l on.f0 on.f1) (bornL l on) := by
  unfold spec_biAll.f
  refine Ev.bind (ev_biGood l hn) ?_
  unfold bornL
  cases hg : goodL l with
  | true =>
    simp only [if_true, Bool.true_and]
    have hg' := hg
    unfold goodL at hg'
    rw [Bool.and_eq_true, decide_eq_true_iff] at hg'
    rw [← all_and l hg'.1.1]
    simpa using biAll_loop l on hg'.2 hn l.length 0 (by omega) (by omega)
  | false =>
    simp only [Bool.false_eq_true, if_false, Bool.false_and]
    exact Ev.now _

/-! ### the program: the last birth, all born -/
theorem lastBirth_loop (l : List D) (hl : l.all dateOk = true) (hn : l.length ≤ 9223372036854775807) (d : Nat) : ∀ (i : Nat) (m : Int), l.length - i = d → i ≤ l.length →
    ∃ r, Ev (fun k => impl_lastBirth.l0 k m l (l.length : Int) (i : Int)) r ∧ (∀ x : Int, r ≤ x ↔ m ≤ x ∧ ∀ b ∈ l.drop i, dy b ≤ x) := by
  induction d with
  | zero =>
    intro i m hd hi
    rw [List.drop_of_length_le (by omega)]
    exact ⟨m, Ev.step (f := fun _ => some m) (fun k => by rw [impl_lastBirth.l0, if_neg (by omega)]) (Ev.now _), by simp⟩
  | succ d ih =>
    intro i m hd hi
    have hlt : i < l.length := by omega
    have hb := all_at l i hlt hl
    obtain ⟨r, hs, hr⟩ := ih (i + 1) (mx m (dy (rd_T26 l (i : Int)))) (by omega) (by omega)
    rw [drop_at l i hlt]
    refine ⟨r, Ev.step (fun k => ?_) hs, fun x => ?_⟩
    · rw [impl_lastBirth.l0, if_pos (by omega), if_pos (by omega), if_pos (by omega), index_ok hb]
      simp only [Option.bind_some]
      rw [w_succ i l.length hlt hn]
    · rw [hr x]
      simp only [List.mem_cons, forall_eq_or_imp]
      have : mx m (dy (rd_T26 l (i : Int))) ≤ x ↔ m ≤ x ∧ dy (rd_T26 l (i : Int)) ≤ x := by unfold mx; split <;> omega
      rw [this]
      exact and_assoc
theorem ev_lastBirth (l : List D) (hl : l.all dateOk = true) (hn : l.length ≤ 9223372036854775807) : ∃ r, Ev (fun k => impl_lastBirth.f k l) r ∧ (∀ x : Int, r ≤ x ↔ 0 ≤ x ∧ ∀ b ∈ l, dy b ≤ x) := by
  unfold impl_lastBirth.f
  simpa using lastBirth_loop l hl hn l.length 0 0 (by omega) (by omega)
theorem ev_areBorn (l : List D) (on : D) (hn : l.length ≤ 9223372036854775807) : Ev (fun k => impl_areBornOn.f k l on.f0 on.f1) (bornL l on) := by
  unfold impl_areBornOn.f
  rw [ev_goodI, isDate_val]
  have ho' : dateOk ⟨on.f0, on.f1⟩ = dateOk on := rfl
  rw [ho']
  simp only [Option.bind_some]
  unfold bornL
  cases hg : goodL l with
  | false => simp only [Bool.false_eq_true, if_false, Bool.false_and]; exact Ev.now _
  | true =>
    have hg' := hg
    unfold goodL at hg'
    rw [Bool.and_eq_true, decide_eq_true_iff] at hg'
    simp only [if_true, Bool.true_and]
    cases ho : dateOk on with
    | false => simp only [Bool.false_eq_true, if_false, Bool.false_and]; exact Ev.now _
    | true =>
      simp only [if_true, Bool.true_and]
      obtain ⟨r, hr, hx⟩ := ev_lastBirth l hg'.2 hn
      refine Ev.bind hr ?_
      rw [index_ok ho]
      simp only [Option.bind_some]
      have e : (l.all fun b => decide (dy b ≤ dy on)) = decide (r ≤ dy on) := by
        rw [Bool.eq_iff_iff, decide_eq_true_iff, hx, List.all_eq_true]
        simp only [decide_eq_true_iff]
        exact ⟨fun h => ⟨(dy_range ho).1, h⟩, fun h => h.2⟩
      rw [e]
      exact Ev.now _
theorem born_parts {l : List D} {on : D} (h : bornL l on = true) : 1 ≤ l.length ∧ l.length ≤ 8 ∧ l.all dateOk = true ∧ dateOk on = true ∧ ∀ b ∈ l, dy b ≤ dy on := by
  unfold bornL goodL at h
  simp only [Bool.and_eq_true, decide_eq_true_iff] at h
  refine ⟨h.1.1.1, h.1.1.2, h.1.2, h.2.1, fun b hb => ?_⟩
  have := (List.all_eq_true.1 h.2.2) b hb
  simpa using this

end Go.Proofs.Ytaabfjfdalcceaa.Pure
