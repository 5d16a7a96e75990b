/- Chapter 4, plain: lists of lists: held equal, marked, the marks held. No condition beyond those typed at each lemma. -/
import Derived.Test.YtebidfogkjidaaaE0
import Derived.Test.YtebidfogkjidaaaE26
import Derived.Test.YtebidfogkjidaaaE27
import Derived.Test.YtebidfogkjidaaaE3
import Derived.Test.YtebidfogkjidaaaE7
import Derived.Test.YtebidfogkjidaaaE8
namespace Go.Proofs.Ytebidfogkjidaaa.Pure
open Go.RowKit Go.Proofs.Ytebidfogkjidaaa.E Go.Proofs.YtebidfogkjidaaaW.PrintWords Go.Proofs.YtebidfogkjidaaaW.PrintLast
set_option linter.unusedVariables false
set_option linter.unusedSimpArgs false

theorem w64 {x : Int} (h0 : -9223372036854775808 ≤ x) (h1 : x ≤ 9223372036854775807) : wrap64 x = x := by unfold wrap64; omega
theorem w_succ (i n : Nat) (h : i < n) (hn : n ≤ 9223372036854775807) : wrap64 ((i : Int) + 1) = ((i + 1 : Nat) : Int) := by
  rw [w64 (by omega) (by omega)]; rfl
theorem eqIntS_loop (l : List Int) (hn : l.length ≤ 9223372036854775807) (d : Nat) : ∀ (i : Nat), l.length - i = d → i ≤ l.length → Ev (fun k => laws_eqIntS.l0 k l l (i : Int)) true := by
  induction d with
  | zero =>
    intro i hd hi
    exact Ev.step (f := fun _ => some true) (fun k => by rw [laws_eqIntS.l0, if_neg (by omega)]) (Ev.now _)
  | succ d ih =>
    intro i hd hi
    have hlt : i < l.length := by omega
    refine Ev.step (fun k => ?_) (ih (i + 1) (by omega) (by omega))
    rw [laws_eqIntS.l0, if_pos (by omega), if_pos (by omega), if_pos (by omega), if_pos rfl, w_succ i l.length hlt hn]
theorem ev_eqIntS (l : List Int) (hn : l.length ≤ 9223372036854775807) : Ev (fun k => laws_eqIntS.f k l l) true := by
  unfold laws_eqIntS.f
  simp only [if_true]
  exact eqIntS_loop l hn l.length 0 (by omega) (by omega)
theorem rows_at (xs : List (List Int)) (i : Nat) (h : i < xs.length) : rd_L1 xs (i : Int) = xs[i] := by
  simp [rd_L1, List.getD, List.getElem?_eq_getElem h]
theorem eqIntSS_loop (xs : List (List Int)) (hn : xs.length ≤ 9223372036854775807) (hr : ∀ x ∈ xs, x.length ≤ 9223372036854775807) (d : Nat) : ∀ (i : Nat), xs.length - i = d → i ≤ xs.length → Ev (fun k => laws_eqIntSS.l0 k xs xs (i : Int)) true := by
  induction d with
  | zero =>
    intro i hd hi
    exact Ev.step (f := fun _ => some true) (fun k => by rw [laws_eqIntSS.l0, if_neg (by omega)]) (Ev.now _)
  | succ d ih =>
    intro i hd hi
    have hlt : i < xs.length := by omega
    refine Ev.step (fun k => by rw [laws_eqIntSS.l0, if_pos (by omega), if_pos (by omega), if_pos (by omega), rows_at xs i hlt, w_succ i xs.length hlt hn]) ?_
    refine Ev.bind (ev_eqIntS xs[i] (hr _ (List.getElem_mem hlt))) ?_
    simp only [if_true]
    exact ih (i + 1) (by omega) (by omega)
theorem ev_eqIntSS (xs : List (List Int)) (hn : xs.length ≤ 9223372036854775807) (hr : ∀ x ∈ xs, x.length ≤ 9223372036854775807) : Ev (fun k => laws_eqIntSS.f k xs xs) true := by
  unfold laws_eqIntSS.f
  simp only [if_true]
  exact eqIntSS_loop xs hn hr xs.length 0 (by omega) (by omega)
theorem rd_set_ne (xs : List Int) (i j : Nat) (v : Int) (h : i ≠ j) : rd (xs.set i v) (j : Int) = rd xs (j : Int) := by
  simp only [rd, Int.toNat_natCast, List.getD_eq_getElem?_getD, List.getElem?_set]
  rw [if_neg h]
theorem rd_set_eq (xs : List Int) (i : Nat) (v : Int) (h : i < xs.length) : rd (xs.set i v) (i : Int) = v := by
  simp [rd, List.getD_eq_getElem?_getD, List.getElem?_set, h]
theorem markRow_loop (m n : Nat) (hn : m + n ≤ 1000000000) (d : Nat) : ∀ (i : Nat) (xs : List Int), xs.length = n → n - i = d → i ≤ n → (∀ j : Nat, j < i → rd xs (j : Int) = ((m + j : Nat) : Int)) →
    ∃ l', Ev (fun k => laws_markIntS.l0 k xs ((m + i : Nat) : Int) (i : Int)) (((m + n : Nat) : Int), l') ∧ l'.length = n ∧ ∀ j : Nat, j < n → rd l' (j : Int) = ((m + j : Nat) : Int) := by
  induction d with
  | zero =>
    intro i xs hx hd hi hj
    have e : i = n := by omega
    subst e
    exact ⟨xs, Ev.step (f := fun _ => some (((m + i : Nat) : Int), xs)) (fun k => by rw [laws_markIntS.l0, if_neg (by omega)]) (Ev.now _), hx, hj⟩
  | succ d ih =>
    intro i xs hx hd hi hj
    have hlt : i < n := by omega
    have e1 : wrap64 (((m + i : Nat) : Int) + 1) = ((m + (i + 1) : Nat) : Int) := by rw [w64 (by omega) (by omega)]; omega
    obtain ⟨l', h, hl, hr⟩ := ih (i + 1) (xs.set i ((m + i : Nat) : Int)) (by simpa using hx) (by omega) (by omega) (by
      intro j hj'
      by_cases e : i = j
      · subst e; exact rd_set_eq xs i _ (by omega)
      · rw [rd_set_ne xs i j _ e]; exact hj j (by omega))
    refine ⟨l', Ev.step (fun k => ?_) h, hl, hr⟩
    rw [laws_markIntS.l0, if_pos (by omega), if_pos (by omega)]
    simp only [Int.toNat_natCast]
    rw [e1, w_succ i n hlt (by omega)]
theorem ev_markRow (m : Nat) (l : List Int) (hn : m + l.length ≤ 1000000000) : ∃ l', Ev (fun k => laws_markIntS.f k l (m : Int)) (((m + l.length : Nat) : Int), l') ∧ l'.length = l.length ∧ ∀ j : Nat, j < l.length → rd l' (j : Int) = ((m + j : Nat) : Int) := by
  unfold laws_markIntS.f
  simpa using markRow_loop m l.length hn l.length 0 l rfl (by omega) (by omega) (fun j h => absurd h (by omega))
/-- Numbers that go on from row to row. -/
def Runs : Nat → List (List Int) → Prop
  | _, [] => True
  | m, y :: ys => (∀ j : Nat, j < y.length → rd y (j : Int) = ((m + j : Nat) : Int)) ∧ Runs (m + y.length) ys
def lens : List (List Int) → Nat
  | [] => 0
  | y :: ys => y.length + lens ys
theorem ev_markSS : ∀ (xs : List (List Int)) (m : Nat), m + lens xs ≤ 1000000000 → ∃ ys, Ev (fun k => markSS k xs (m : Int)) (((m + lens xs : Nat) : Int), ys) ∧ Runs m ys ∧ lens ys = lens xs ∧ ys.length = xs.length
  | [], m, _ => ⟨[], Ev.now _, trivial, rfl, rfl⟩
  | x :: xs, m, h => by
    have hl : lens (x :: xs) = x.length + lens xs := rfl
    obtain ⟨y, h1, h2, h3⟩ := ev_markRow m x (by omega)
    obtain ⟨ys, h4, h5, h6, h7⟩ := ev_markSS xs (m + x.length) (by omega)
    refine ⟨y :: ys, ?_, ⟨by rw [h2]; exact h3, by rw [h2]; exact h5⟩, ?_, by simp [h7]⟩
    · have e : m + lens (x :: xs) = m + x.length + lens xs := by omega
      rw [e]
      exact Ev.bind h1 (Ev.bind h4 (Ev.now _))
    · show y.length + lens ys = x.length + lens xs
      omega
theorem heldRow_loop (m : Nat) (l : List Int) (hn : m + l.length ≤ 1000000000) (hl : ∀ j : Nat, j < l.length → rd l (j : Int) = ((m + j : Nat) : Int)) (d : Nat) : ∀ (i : Nat), l.length - i = d → i ≤ l.length → Ev (fun k => laws_heldIntS.l0 k l ((m + i : Nat) : Int) (i : Int)) ((m + l.length : Nat) : Int) := by
  induction d with
  | zero =>
    intro i hd hi
    have e : i = l.length := by omega
    subst e
    exact Ev.step (f := fun _ => some ((m + l.length : Nat) : Int)) (fun k => by rw [laws_heldIntS.l0, if_neg (by omega)]) (Ev.now _)
  | succ d ih =>
    intro i hd hi
    have hlt : i < l.length := by omega
    have e1 : wrap64 (((m + i : Nat) : Int) + 1) = ((m + (i + 1) : Nat) : Int) := by rw [w64 (by omega) (by omega)]; omega
    refine Ev.step (fun k => ?_) (ih (i + 1) (by omega) (by omega))
    rw [laws_heldIntS.l0, if_pos (by omega), if_pos (by omega), if_pos (hl i hlt), e1, w_succ i l.length hlt (by omega)]
theorem ev_heldRow (m : Nat) (l : List Int) (hn : m + l.length ≤ 1000000000) (hl : ∀ j : Nat, j < l.length → rd l (j : Int) = ((m + j : Nat) : Int)) : Ev (fun k => laws_heldIntS.f k l (m : Int)) ((m + l.length : Nat) : Int) := by
  unfold laws_heldIntS.f
  simpa using heldRow_loop m l hn hl l.length 0 (by omega) (by omega)
theorem heldSS_loop (xs : List (List Int)) (hn : xs.length ≤ 1000000000) (d : Nat) : ∀ (i m : Nat), xs.length - i = d → i ≤ xs.length → Runs m (xs.drop i) → m + lens (xs.drop i) ≤ 1000000000 → Ev (fun k => laws_heldIntSS.l0 k xs (m : Int) (i : Int)) ((m + lens (xs.drop i) : Nat) : Int) := by
  induction d with
  | zero =>
    intro i m hd hi hr hm
    rw [List.drop_of_length_le (by omega)]
    exact Ev.step (f := fun _ => some ((m + lens ([] : List (List Int)) : Nat) : Int)) (fun k => by rw [laws_heldIntSS.l0, if_neg (by omega)]; rfl) (Ev.now _)
  | succ d ih =>
    intro i m hd hi hr hm
    have hlt : i < xs.length := by omega
    rw [List.drop_eq_getElem_cons hlt] at hr hm ⊢
    obtain ⟨h1, h2⟩ := hr
    have hl : lens (xs[i] :: xs.drop (i + 1)) = xs[i].length + lens (xs.drop (i + 1)) := rfl
    refine Ev.step (fun k => by rw [laws_heldIntSS.l0, if_pos (by omega), if_pos (by omega), rows_at xs i hlt, w_succ i xs.length hlt (by omega)]) ?_
    refine Ev.bind (ev_heldRow m xs[i] (by omega) h1) ?_
    simp only [if_neg (show ¬ (((m + xs[i].length : Nat) : Int) < 0) by omega)]
    have := ih (i + 1) (m + xs[i].length) (by omega) (by omega) h2 (by omega)
    rw [show m + lens (xs[i] :: xs.drop (i + 1)) = m + xs[i].length + lens (xs.drop (i + 1)) by omega]
    exact this
theorem ev_heldSS (m : Nat) (xs : List (List Int)) (hn : xs.length ≤ 1000000000) (hr : Runs m xs) (hm : m + lens xs ≤ 1000000000) : Ev (fun k => laws_heldIntSS.f k xs (m : Int)) ((m + lens xs : Nat) : Int) := by
  unfold laws_heldIntSS.f
  simpa using heldSS_loop xs hn xs.length 0 m (by omega) (by omega) (by simpa using hr) (by simpa using hm)
/-- What the law about a list of lists asks of it. -/
theorem rows_hold (xs : List (List Int)) (hn : xs.length ≤ 1000000) (hr : ∀ x ∈ xs, x.length ≤ 100) : ∃ k m ys, laws_eqIntSS.f k xs xs = some true ∧ markSS k xs 1 = some (m, ys) ∧ laws_heldIntSS.f k ys 1 = some m ∧ 0 ≤ m := by
  have key : ∀ ys : List (List Int), (∀ x ∈ ys, x.length ≤ 100) → lens ys ≤ ys.length * 100 := by
    intro ys
    induction ys with
    | nil => intro _; exact Nat.le_refl _
    | cons y ys ih =>
      intro h
      have h1 := h y (List.mem_cons_self ..)
      have h2 := ih (fun x hx => h x (List.mem_cons_of_mem _ hx))
      show y.length + lens ys ≤ (ys.length + 1) * 100
      omega
  have hb := key xs hr
  obtain ⟨ys, h1, h2, h3, h4⟩ := ev_markSS xs 1 (by omega)
  have h5 := ev_heldSS 1 ys (by omega) h2 (by omega)
  have h6 := ev_eqIntSS xs (by omega) (fun x hx => by have := hr x hx; omega)
  obtain ⟨K1, q1⟩ := h1
  obtain ⟨K2, q2⟩ := h5
  obtain ⟨K3, q3⟩ := h6
  refine ⟨max K1 (max K2 K3), _, ys, q3 _ (by omega), q1 _ (by omega), ?_, by omega⟩
  rw [← h3]
  exact q2 _ (by omega)
/-- Sets of so many children are so long. -/
theorem mem_allSets_len (n : Nat) : ∀ (l s : List Int), s ∈ allSets n l → s.length = l.length + n := by
  induction n with
  | zero =>
    intro l s hs
    obtain rfl : s = l := by simpa [allSets] using hs
    rfl
  | succ n ih =>
    intro l s hs
    simp only [allSets, List.mem_flatten, List.mem_map, List.mem_range] at hs
    obtain ⟨_, ⟨i, hi, rfl⟩, hs⟩ := hs
    have := ih _ s hs
    rw [List.length_append] at this
    simp at this
    omega
theorem part_holds (n : Nat) (hn : n ≤ 4) (q : List Int → Bool) : ∃ k m ys, laws_eqIntSS.f k ((allSets n []).filter q) ((allSets n []).filter q) = some true ∧ markSS k ((allSets n []).filter q) 1 = some (m, ys) ∧ laws_heldIntSS.f k ys 1 = some m ∧ 0 ≤ m := by
  apply rows_hold
  · have h1 := List.length_filter_le q (allSets n [])
    have h2 := allSets_len n [] (fun x hx => by simp at hx)
    have h3 : 20 ^ n ≤ 20 ^ 4 := Nat.pow_le_pow_right (by omega) hn
    omega
  · intro x hx
    have := mem_allSets_len n [] x (List.mem_filter.1 hx).1
    simp at this
    omega
end Go.Proofs.Ytebidfogkjidaaa.Pure
