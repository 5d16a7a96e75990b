/- Chapter 3, plain: births that are right, dates turned, held equal and marked; numbers held equal and marked. No condition beyond those typed at each lemma. -/
import Derived.Test.YtfkdkikodoingaaE0
import Derived.Test.YtfkdkikodoingaaE1
import Derived.Test.YtfkdkikodoingaaE3
import Derived.Test.YtfkdkikodoingaaE4
import Derived.Test.YtfkdkikodoingaaE7
import Derived.Test.YtfkdkikodoingaaE8
import Derived.Test.YtfkdkikodoingaaE9
namespace Go.Proofs.Ytfkdkikodoingaa.Pure
open Go.RowKit Go.Proofs.Ytfkdkikodoingaa.E Go.Proofs.YtfkdkikodoingaaW.PrintWords Go.Proofs.YtfkdkikodoingaaW.PrintLast
set_option linter.unusedVariables false
set_option linter.unusedSimpArgs false

theorem w64 {x : Int} (h0 : -9223372036854775808 ≤ x) (h1 : x ≤ 9223372036854775807) : wrap64 x = x := by unfold wrap64; omega
theorem w_succ (i n : Nat) (h : i < n) (hn : n ≤ 9223372036854775807) : wrap64 ((i : Int) + 1) = ((i + 1 : Nat) : Int) := by
  rw [w64 (by omega) (by omega)]; rfl
abbrev D := S36
def goodL (l : List D) : Bool := decide (1 ≤ l.length ∧ l.length ≤ 8) && l.all dateOk
theorem ok_iff (d : D) : dateOk d = true ↔ 0 ≤ d.f0 ∧ d.f0 ≤ 3000 ∧ 1 ≤ d.f1 ∧ d.f1 ≤ 365 := by unfold dateOk; exact decide_eq_true_iff
theorem l1In_val (n a b : Int) : spec_l1In.f n a b = some (decide (a ≤ n ∧ n ≤ b)) := by
  unfold spec_l1In.f
  by_cases h1 : a ≤ n <;> by_cases h2 : n ≤ b <;> simp [h1, h2]
theorem biDate_val (a b : Int) : spec_biDate.f a b = some (dateOk ⟨a, b⟩) := by
  unfold spec_biDate.f dateOk
  rw [l1In_val, l1In_val]
  by_cases h1 : 0 ≤ a ∧ a ≤ 3000 <;> by_cases h2 : 1 ≤ b ∧ b ≤ 365 <;> simp [h1, h2]
  all_goals omega
theorem rdT_at (l : List D) (i : Nat) (h : i < l.length) : rd_T36 l (i : Int) = l[i] := by
  simp [rd_T36, List.getD, List.getElem?_eq_getElem h]
theorem drop_at (l : List D) (i : Nat) (h : i < l.length) : l.drop i = rd_T36 l (i : Int) :: l.drop (i + 1) := by
  rw [rdT_at l i h]
  exact List.drop_eq_getElem_cons h
theorem biGood_loop (l : List D) (hn : l.length ≤ 9223372036854775807) (d : Nat) : ∀ i : Nat, l.length - i = d → i ≤ l.length → Ev (fun k => spec_biGood.l0 k l (l.length : Int) (i : Int)) ((l.drop i).all dateOk) := by
  induction d with
  | zero =>
    intro i hd hi
    rw [List.drop_of_length_le (by omega)]
    exact Ev.step (f := fun _ => some true) (fun k => by rw [spec_biGood.l0, if_neg (by omega)]) (Ev.now _)
  | succ d ih =>
    intro i hd hi
    have hlt : i < l.length := by omega
    have hs := ih (i + 1) (by omega) (by omega)
    rw [drop_at l i hlt, List.all_cons]
    cases hb : dateOk (rd_T36 l (i : Int)) with
    | true =>
      rw [Bool.true_and]
      refine Ev.step (fun k => ?_) hs
      rw [spec_biGood.l0, if_pos (by omega), if_pos (by omega), if_pos (by omega), biDate_val]
      simp only [Option.bind_some]
      have hb' : dateOk ⟨(rd_T36 l (i : Int)).f0, (rd_T36 l (i : Int)).f1⟩ = true := hb
      rw [hb', if_pos rfl, w_succ i l.length hlt hn]
    | false =>
      rw [Bool.false_and]
      refine Ev.step (f := fun _ => some false) (fun k => ?_) (Ev.now _)
      rw [spec_biGood.l0, if_pos (by omega), if_pos (by omega), if_pos (by omega), biDate_val]
      simp only [Option.bind_some]
      have hb' : dateOk ⟨(rd_T36 l (i : Int)).f0, (rd_T36 l (i : Int)).f1⟩ = false := hb
      rw [hb', if_neg (by simp)]
theorem ev_biGood (l : List D) (hn : l.length ≤ 9223372036854775807) : Ev (fun k => spec_biGood.f k l) (goodL l) := by
  unfold spec_biGood.f goodL
  rw [l1In_val]
  simp only [Option.bind_some]
  by_cases h : 1 ≤ l.length ∧ l.length ≤ 8
  · rw [decide_eq_true (by omega), decide_eq_true h, Bool.true_and]
    simp only [if_true]
    simpa using biGood_loop l hn l.length 0 (by omega) (by omega)
  · rw [decide_eq_false (by omega), decide_eq_false h, Bool.false_and]
    simp only [Bool.false_eq_true, if_false]
    exact Ev.now _
theorem ev_goodI (l : List D) : impl_AreBirthDates.f l = some (goodL l) := rfl
def cv (d : S40) : D := ⟨d.f0, d.f1⟩
theorem sz_ok {l : List S40} (h : l.length ≤ 1048576) : laws_szDateS.f l 1048576 = some (1048576 - (l.length : Int)) := by
  unfold laws_szDateS.f
  rw [w64 (by omega) (by omega), if_neg (by omega)]
theorem sz_no {l : List S40} (h : ¬ l.length ≤ 1048576) (hm : l.length ≤ maxLen) : laws_szDateS.f l 1048576 = some (-1) := by
  unfold maxLen at hm
  unfold laws_szDateS.f
  rw [w64 (by omega) (by omega), if_pos (by omega)]
theorem toDateS_loop (l : List S40) (hn : l.length ≤ 9223372036854775807) (d : Nat) : ∀ (i : Nat) (xs : List D), l.length - i = d → i ≤ l.length → xs.length = l.length → (∀ j, j < i → xs[j]? = (l.map cv)[j]?) →
    Ev (fun k => laws_toDateS.l0 k l xs (i : Int)) (l.map cv) := by
  induction d with
  | zero =>
    intro i xs hd hi hx hj
    have e : xs = l.map cv := by
      apply List.ext_getElem?
      intro j
      by_cases h : j < i
      · exact hj j h
      · rw [List.getElem?_eq_none (by omega), List.getElem?_eq_none (by simp; omega)]
    subst e
    exact Ev.step (f := fun _ => some (l.map cv)) (fun k => by rw [laws_toDateS.l0, if_neg (by omega)]) (Ev.now _)
  | succ d ih =>
    intro i xs hd hi hx hj
    have hlt : i < l.length := by omega
    refine Ev.step (fun k => ?_) (ih (i + 1) (xs.set i (cv (rd_T40 l (i : Int)))) (by omega) (by omega) (by simpa using hx) ?_)
    · rw [laws_toDateS.l0, if_pos (by omega), if_pos (by omega)]
      simp only [laws_toDate.f, Option.bind_some]
      rw [if_pos (by omega), w_succ i l.length hlt hn]
      rfl
    · intro j hj'
      rw [List.getElem?_set]
      by_cases e : i = j
      · subst e
        rw [if_pos rfl, if_pos (by omega)]
        simp [rd_T40, List.getD, List.getElem?_eq_getElem hlt]
      · rw [if_neg e]
        exact hj j (by omega)
theorem ev_toDateS (l : List S40) (hn : l.length ≤ 1048576) : Ev (fun k => laws_toDateS.f k l) (l.map cv) := by
  unfold laws_toDateS.f
  simp only [if_pos (show (0 : Int) ≤ (l.length : Int) by omega), Int.toNat_natCast, if_pos (show l.length ≤ 17592186044416 by omega)]
  simpa using toDateS_loop l (by omega) l.length 0 (List.replicate l.length z36) (by omega) (by omega) (by simp) (fun j h => absurd h (by omega))
theorem eqDateS_loop (l : List D) (hn : l.length ≤ 9223372036854775807) (d : Nat) : ∀ (i : Nat), l.length - i = d → i ≤ l.length → Ev (fun k => laws_eqDateS.l0 k l l (i : Int)) true := by
  induction d with
  | zero =>
    intro i hd hi
    exact Ev.step (f := fun _ => some true) (fun k => by rw [laws_eqDateS.l0, if_neg (by omega)]) (Ev.now _)
  | succ d ih =>
    intro i hd hi
    refine Ev.step (fun k => ?_) (ih (i + 1) (by omega) (by omega))
    rw [laws_eqDateS.l0, if_pos (by omega), if_pos (by omega), if_pos (by omega)]
    simp only [laws_eqDate.f, if_true, Option.bind_some]
    rw [w_succ i l.length (by omega) hn]
theorem ev_eqDateS (l : List D) (hn : l.length ≤ 9223372036854775807) : Ev (fun k => laws_eqDateS.f k l l) true := by
  unfold laws_eqDateS.f
  simp only [if_true]
  simpa using eqDateS_loop l hn l.length 0 (by omega) (by omega)
theorem markDateS_loop (n : Nat) (hn : n ≤ 1048576) (d : Nat) : ∀ (i : Nat) (xs : List D) (m : Int), xs.length = n → n - i = d → i ≤ n → 1 ≤ m → m ≤ 1 + 2 * i → ∃ r l', Ev (fun k => laws_markDateS.l0 k xs m (i : Int)) (r, l') ∧ 1 ≤ r := by
  induction d with
  | zero =>
    intro i xs m hx hd hi h1 h2
    exact ⟨m, xs, Ev.step (f := fun _ => some (m, xs)) (fun k => by rw [laws_markDateS.l0, if_neg (by omega)]) (Ev.now _), h1⟩
  | succ d ih =>
    intro i xs m hx hd hi h1 h2
    have hlt : i < n := by omega
    have e1 : wrap64 (m + 1) = m + 1 := w64 (by omega) (by omega)
    have e2 : wrap64 (m + 1 + 1) = m + 2 := by rw [w64 (by omega) (by omega)]; omega
    obtain ⟨r, l', h, hr⟩ := ih (i + 1) ((xs.set i ⟨m, (rd_T36 xs (i : Int)).f1⟩).set i ⟨(rd_T36 (xs.set i ⟨m, (rd_T36 xs (i : Int)).f1⟩) (i : Int)).f0, wrap64 (m + 1)⟩) (m + 2) (by simpa using hx) (by omega) (by omega) (by omega) (by omega)
    refine ⟨r, l', Ev.step (fun k => ?_) h, hr⟩
    rw [laws_markDateS.l0, if_pos (by omega), if_pos (by omega)]
    simp only [Option.bind_some, Int.toNat_natCast]
    rw [e1, e2, w_succ i n hlt (by omega)]
theorem ev_markDateS (l : List D) (hn : l.length ≤ 1048576) : ∃ r l', Ev (fun k => laws_markDateS.f k l 1) (r, l') ∧ 1 ≤ r := by
  unfold laws_markDateS.f
  simpa using markDateS_loop l.length hn l.length 0 l 1 rfl (by omega) (by omega) (by omega) (by omega)
theorem eqIntS_loop (l : List Int) (hn : l.length ≤ 9223372036854775807) (d : Nat) : ∀ (i : Nat), l.length - i = d → i ≤ l.length → Ev (fun k => laws_eqIntS.l0 k l l (i : Int)) true := by
  induction d with
  | zero =>
    intro i hd hi
    exact Ev.step (f := fun _ => some true) (fun k => by rw [laws_eqIntS.l0, if_neg (by omega)]) (Ev.now _)
  | succ d ih =>
    intro i hd hi
    have hlt : i < l.length := by omega
    refine Ev.step (fun k => ?_) (ih (i + 1) (by omega) (by omega))
    rw [laws_eqIntS.l0, if_pos (by omega), if_pos (by omega), if_pos (by omega), if_pos rfl, w_succ i l.length hlt hn]
theorem ev_eqIntS (l : List Int) (hn : l.length ≤ 9223372036854775807) : Ev (fun k => laws_eqIntS.f k l l) true := by
  unfold laws_eqIntS.f
  simp only [if_true]
  exact eqIntS_loop l hn l.length 0 (by omega) (by omega)
theorem rd_set_ne (xs : List Int) (i j : Nat) (v : Int) (h : i ≠ j) : rd (xs.set i v) (j : Int) = rd xs (j : Int) := by
  simp only [rd, Int.toNat_natCast, List.getD_eq_getElem?_getD, List.getElem?_set]
  rw [if_neg h]
theorem rd_set_eq (xs : List Int) (i : Nat) (v : Int) (h : i < xs.length) : rd (xs.set i v) (i : Int) = v := by
  simp [rd, List.getD_eq_getElem?_getD, List.getElem?_set, h]
theorem markIntS_loop (n : Nat) (hn : n ≤ 1048576) (d : Nat) : ∀ (i : Nat) (xs : List Int), xs.length = n → n - i = d → i ≤ n → (∀ j : Nat, j < i → rd xs (j : Int) = 1 + j) →
    ∃ l', Ev (fun k => laws_markIntS.l0 k xs (1 + i) (i : Int)) (1 + (n : Int), l') ∧ l'.length = n ∧ ∀ j : Nat, j < n → rd l' (j : Int) = 1 + j := by
  induction d with
  | zero =>
    intro i xs hx hd hi hj
    have e : i = n := by omega
    subst e
    exact ⟨xs, Ev.step (f := fun _ => some (1 + (i : Int), xs)) (fun k => by rw [laws_markIntS.l0, if_neg (by omega)]) (Ev.now _), hx, hj⟩
  | succ d ih =>
    intro i xs hx hd hi hj
    have hlt : i < n := by omega
    have e1 : wrap64 (1 + (i : Int) + 1) = 1 + ((i + 1 : Nat) : Int) := by rw [w64 (by omega) (by omega)]; omega
    obtain ⟨l', h, hl, hr⟩ := ih (i + 1) (xs.set i (1 + (i : Int))) (by simpa using hx) (by omega) (by omega) (by
      intro j hj'
      by_cases e : i = j
      · subst e; exact rd_set_eq xs i _ (by omega)
      · rw [rd_set_ne xs i j _ e]; exact hj j (by omega))
    refine ⟨l', Ev.step (fun k => ?_) h, hl, hr⟩
    rw [laws_markIntS.l0, if_pos (by omega), if_pos (by omega)]
    simp only [Int.toNat_natCast]
    rw [e1, w_succ i n hlt (by omega)]
theorem ev_markIntS (l : List Int) (hn : l.length ≤ 1048576) : ∃ l', Ev (fun k => laws_markIntS.f k l 1) (1 + (l.length : Int), l') ∧ l'.length = l.length ∧ ∀ j : Nat, j < l.length → rd l' (j : Int) = 1 + j := by
  unfold laws_markIntS.f
  simpa using markIntS_loop l.length hn l.length 0 l rfl (by omega) (by omega) (fun j h => absurd h (by omega))
theorem heldIntS_loop (l : List Int) (hn : l.length ≤ 1048576) (hl : ∀ j : Nat, j < l.length → rd l (j : Int) = 1 + j) (d : Nat) : ∀ (i : Nat), l.length - i = d → i ≤ l.length → Ev (fun k => laws_heldIntS.l0 k l (1 + i) (i : Int)) (1 + (l.length : Int)) := by
  induction d with
  | zero =>
    intro i hd hi
    have e : i = l.length := by omega
    subst e
    exact Ev.step (f := fun _ => some (1 + (l.length : Int))) (fun k => by rw [laws_heldIntS.l0, if_neg (by omega)]) (Ev.now _)
  | succ d ih =>
    intro i hd hi
    have hlt : i < l.length := by omega
    have e1 : wrap64 (1 + (i : Int) + 1) = 1 + ((i + 1 : Nat) : Int) := by rw [w64 (by omega) (by omega)]; omega
    refine Ev.step (fun k => ?_) (ih (i + 1) (by omega) (by omega))
    rw [laws_heldIntS.l0, if_pos (by omega), if_pos (by omega), if_pos (hl i hlt), e1, w_succ i l.length hlt (by omega)]
theorem ev_heldIntS (l : List Int) (hn : l.length ≤ 1048576) (hl : ∀ j : Nat, j < l.length → rd l (j : Int) = 1 + j) : Ev (fun k => laws_heldIntS.f k l 1) (1 + (l.length : Int)) := by
  unfold laws_heldIntS.f
  simpa using heldIntS_loop l hn hl l.length 0 (by omega) (by omega)


end Go.Proofs.Ytfkdkikodoingaa.Pure
