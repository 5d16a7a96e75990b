/- Chapter 3, plain: ages, sums, conversions and marks. No condition beyond those typed at each lemma. -/
import Derived.Test.YtcebaiopkeaoaaaC3Base
import Derived.Test.YtcebaiopkeaoaaaX0
import Derived.Test.YtcebaiopkeaoaaaX1
import Derived.Test.YtcebaiopkeaoaaaX13
import Derived.Test.YtcebaiopkeaoaaaX16
import Derived.Test.YtcebaiopkeaoaaaX18
import Derived.Test.YtcebaiopkeaoaaaX19
import Derived.Test.YtcebaiopkeaoaaaX3
import Derived.Test.YtcebaiopkeaoaaaX5
import Derived.Test.YtcebaiopkeaoaaaX6
import Derived.Test.YtcebaiopkeaoaaaX7
import Derived.Test.YtcebaiopkeaoaaaX8
namespace Go.Proofs.Ytcebaiopkeaoaaa.Pure
open Go.RowKit Go.Proofs.Ytcebaiopkeaoaaa.X Go.Proofs.YtcebaiopkeaoaaaW.PrintWords Go.Proofs.YtcebaiopkeaoaaaW.PrintLast
set_option linter.unusedVariables false
set_option linter.unusedSimpArgs false

def cv (d : S30) : D := ⟨d.f0, d.f1⟩
theorem sz_ok {l : List S30} (h : l.length ≤ 1048576) : laws_szDateS.f l 1048576 = some (1048576 - (l.length : Int)) := by
  unfold laws_szDateS.f
  rw [w64 (by omega) (by omega), if_neg (by omega)]
theorem sz_no {l : List S30} (h : ¬ l.length ≤ 1048576) (hm : l.length ≤ maxLen) : laws_szDateS.f l 1048576 = some (-1) := by
  unfold maxLen at hm
  unfold laws_szDateS.f
  rw [w64 (by omega) (by omega), if_pos (by omega)]
theorem toDateS_loop (l : List S30) (hn : l.length ≤ 9223372036854775807) (d : Nat) : ∀ (i : Nat) (xs : List D), l.length - i = d → i ≤ l.length → xs.length = l.length → (∀ j, j < i → xs[j]? = (l.map cv)[j]?) →
    Ev (fun k => laws_toDateS.l0 k l xs (i : Int)) (l.map cv) := by
  induction d with
  | zero =>
    intro i xs hd hi hx hj
    have e : xs = l.map cv := by
      apply List.ext_getElem?
      intro j
      by_cases h : j < i
      · exact hj j h
      · rw [List.getElem?_eq_none (by omega), List.getElem?_eq_none (by simp; omega)]
    subst e
    exact Ev.step (f := fun _ => some (l.map cv)) (fun k => by rw [laws_toDateS.l0, if_neg (by omega)]) (Ev.now _)
  | succ d ih =>
    intro i xs hd hi hx hj
    have hlt : i < l.length := by omega
    refine Ev.step (fun k => ?_) (ih (i + 1) (xs.set i (cv (rd_T30 l (i : Int)))) (by omega) (by omega) (by simpa using hx) ?_)
    · rw [laws_toDateS.l0, if_pos (by omega), if_pos (by omega)]
      simp only [laws_toDate.f, Option.bind_some]
      rw [if_pos (by omega), w_succ i l.length hlt hn]
      rfl
    · intro j hj'
      rw [List.getElem?_set]
      by_cases e : i = j
      · subst e
        rw [if_pos rfl, if_pos (by omega)]
        simp [rd_T30, List.getD, List.getElem?_eq_getElem hlt]
      · rw [if_neg e]
        exact hj j (by omega)
theorem ev_toDateS (l : List S30) (hn : l.length ≤ 1048576) : Ev (fun k => laws_toDateS.f k l) (l.map cv) := by
  unfold laws_toDateS.f
  simp only [if_pos (show (0 : Int) ≤ (l.length : Int) by omega), Int.toNat_natCast, if_pos (show l.length ≤ 17592186044416 by omega)]
  simpa using toDateS_loop l (by omega) l.length 0 (List.replicate l.length z33) (by omega) (by omega) (by simp) (fun j h => absurd h (by omega))
theorem eqDateS_loop (l : List D) (hn : l.length ≤ 9223372036854775807) (d : Nat) : ∀ (i : Nat), l.length - i = d → i ≤ l.length → Ev (fun k => laws_eqDateS.l0 k l l (i : Int)) true := by
  induction d with
  | zero =>
    intro i hd hi
    exact Ev.step (f := fun _ => some true) (fun k => by rw [laws_eqDateS.l0, if_neg (by omega)]) (Ev.now _)
  | succ d ih =>
    intro i hd hi
    refine Ev.step (fun k => ?_) (ih (i + 1) (by omega) (by omega))
    rw [laws_eqDateS.l0, if_pos (by omega), if_pos (by omega), if_pos (by omega)]
    simp only [laws_eqDate.f, if_true, Option.bind_some]
    rw [w_succ i l.length (by omega) hn]
theorem ev_eqDateS (l : List D) (hn : l.length ≤ 9223372036854775807) : Ev (fun k => laws_eqDateS.f k l l) true := by
  unfold laws_eqDateS.f
  simp only [if_true]
  simpa using eqDateS_loop l hn l.length 0 (by omega) (by omega)
theorem eqIntS_loop (l : List Int) (hn : l.length ≤ 9223372036854775807) (d : Nat) : ∀ (i : Nat), l.length - i = d → i ≤ l.length → Ev (fun k => laws_eqIntS.l0 k l l (i : Int)) true := by
  induction d with
  | zero =>
    intro i hd hi
    exact Ev.step (f := fun _ => some true) (fun k => by rw [laws_eqIntS.l0, if_neg (by omega)]) (Ev.now _)
  | succ d ih =>
    intro i hd hi
    refine Ev.step (fun k => ?_) (ih (i + 1) (by omega) (by omega))
    rw [laws_eqIntS.l0, if_pos (by omega), if_pos (by omega), if_pos (by omega)]
    simp only [if_true]
    rw [w_succ i l.length (by omega) hn]
theorem ev_eqIntS (l : List Int) (hn : l.length ≤ 9223372036854775807) : Ev (fun k => laws_eqIntS.f k l l) true := by
  unfold laws_eqIntS.f
  simp only [if_true]
  simpa using eqIntS_loop l hn l.length 0 (by omega) (by omega)
theorem markDateS_loop (n : Nat) (hn : n ≤ 1048576) (d : Nat) : ∀ (i : Nat) (xs : List D) (m : Int), xs.length = n → n - i = d → i ≤ n → 1 ≤ m → m ≤ 1 + 2 * i → ∃ r l', Ev (fun k => laws_markDateS.l0 k xs m (i : Int)) (r, l') ∧ 1 ≤ r := by
  induction d with
  | zero =>
    intro i xs m hx hd hi h1 h2
    exact ⟨m, xs, Ev.step (f := fun _ => some (m, xs)) (fun k => by rw [laws_markDateS.l0, if_neg (by omega)]) (Ev.now _), h1⟩
  | succ d ih =>
    intro i xs m hx hd hi h1 h2
    have hlt : i < n := by omega
    have e1 : wrap64 (m + 1) = m + 1 := w64 (by omega) (by omega)
    have e2 : wrap64 (m + 1 + 1) = m + 2 := by rw [w64 (by omega) (by omega)]; omega
    obtain ⟨r, l', h, hr⟩ := ih (i + 1) ((xs.set i ⟨m, (rd_T33 xs (i : Int)).f1⟩).set i ⟨(rd_T33 (xs.set i ⟨m, (rd_T33 xs (i : Int)).f1⟩) (i : Int)).f0, wrap64 (m + 1)⟩) (m + 2) (by simpa using hx) (by omega) (by omega) (by omega) (by omega)
    refine ⟨r, l', Ev.step (fun k => ?_) h, hr⟩
    rw [laws_markDateS.l0, if_pos (by omega), if_pos (by omega)]
    simp only [Option.bind_some, Int.toNat_natCast]
    rw [e1, e2, w_succ i n hlt (by omega)]
theorem ev_markDateS (l : List D) (hn : l.length ≤ 1048576) : ∃ r l', Ev (fun k => laws_markDateS.f k l 1) (r, l') ∧ 1 ≤ r := by
  unfold laws_markDateS.f
  simpa using markDateS_loop l.length hn l.length 0 l 1 rfl (by omega) (by omega) (by omega) (by omega)
theorem rd_set_ne (xs : List Int) (i j : Nat) (v : Int) (h : i ≠ j) : rd (xs.set i v) (j : Int) = rd xs (j : Int) := by
  simp only [rd, Int.toNat_natCast, List.getD_eq_getElem?_getD, List.getElem?_set]
  rw [if_neg h]
theorem rd_set_eq (xs : List Int) (i : Nat) (v : Int) (h : i < xs.length) : rd (xs.set i v) (i : Int) = v := by
  simp [rd, List.getD_eq_getElem?_getD, List.getElem?_set, h]
theorem markIntS_loop (n : Nat) (hn : n ≤ 1048576) (d : Nat) : ∀ (i : Nat) (xs : List Int), xs.length = n → n - i = d → i ≤ n → (∀ j : Nat, j < i → rd xs (j : Int) = 1 + j) →
    ∃ l', Ev (fun k => laws_markIntS.l0 k xs (1 + i) (i : Int)) (1 + (n : Int), l') ∧ l'.length = n ∧ ∀ j : Nat, j < n → rd l' (j : Int) = 1 + j := by
  induction d with
  | zero =>
    intro i xs hx hd hi hj
    have e : i = n := by omega
    subst e
    exact ⟨xs, Ev.step (f := fun _ => some (1 + (i : Int), xs)) (fun k => by rw [laws_markIntS.l0, if_neg (by omega)]) (Ev.now _), hx, hj⟩
  | succ d ih =>
    intro i xs hx hd hi hj
    have hlt : i < n := by omega
    have e1 : wrap64 (1 + (i : Int) + 1) = 1 + ((i + 1 : Nat) : Int) := by rw [w64 (by omega) (by omega)]; omega
    obtain ⟨l', h, hl, hr⟩ := ih (i + 1) (xs.set i (1 + (i : Int))) (by simpa using hx) (by omega) (by omega) (by
      intro j hj'
      by_cases e : i = j
      · subst e; exact rd_set_eq xs i _ (by omega)
      · rw [rd_set_ne xs i j _ e]; exact hj j (by omega))
    refine ⟨l', Ev.step (fun k => ?_) h, hl, hr⟩
    rw [laws_markIntS.l0, if_pos (by omega), if_pos (by omega)]
    simp only [Int.toNat_natCast]
    rw [e1, w_succ i n hlt (by omega)]
theorem ev_markIntS (l : List Int) (hn : l.length ≤ 1048576) : ∃ l', Ev (fun k => laws_markIntS.f k l 1) (1 + (l.length : Int), l') ∧ l'.length = l.length ∧ ∀ j : Nat, j < l.length → rd l' (j : Int) = 1 + j := by
  unfold laws_markIntS.f
  simpa using markIntS_loop l.length hn l.length 0 l rfl (by omega) (by omega) (fun j h => absurd h (by omega))
theorem heldIntS_loop (l : List Int) (hn : l.length ≤ 1048576) (hl : ∀ j : Nat, j < l.length → rd l (j : Int) = 1 + j) (d : Nat) : ∀ (i : Nat), l.length - i = d → i ≤ l.length → Ev (fun k => laws_heldIntS.l0 k l (1 + i) (i : Int)) (1 + (l.length : Int)) := by
  induction d with
  | zero =>
    intro i hd hi
    have e : i = l.length := by omega
    subst e
    exact Ev.step (f := fun _ => some (1 + (l.length : Int))) (fun k => by rw [laws_heldIntS.l0, if_neg (by omega)]) (Ev.now _)
  | succ d ih =>
    intro i hd hi
    have hlt : i < l.length := by omega
    have e1 : wrap64 (1 + (i : Int) + 1) = 1 + ((i + 1 : Nat) : Int) := by rw [w64 (by omega) (by omega)]; omega
    refine Ev.step (fun k => ?_) (ih (i + 1) (by omega) (by omega))
    rw [laws_heldIntS.l0, if_pos (by omega), if_pos (by omega), if_pos (hl i hlt), e1, w_succ i l.length hlt (by omega)]
theorem ev_heldIntS (l : List Int) (hn : l.length ≤ 1048576) (hl : ∀ j : Nat, j < l.length → rd l (j : Int) = 1 + j) : Ev (fun k => laws_heldIntS.f k l 1) (1 + (l.length : Int)) := by
  unfold laws_heldIntS.f
  simpa using heldIntS_loop l hn hl l.length 0 (by omega) (by omega)

/-! ### ages -/
def agesV (l : List D) (on : D) : List Int × Bool := if bornL l on = true then (l.map fun b => ageD b on, true) else ([], false)
theorem specAges_loop (l : List D) (on : D) (hl : l.all dateOk = true) (ho : dateOk on = true) (h8 : l.length ≤ 8) (d : Nat) : ∀ (i : Nat) (acc : List Int), l.length - i = d → i ≤ l.length → acc.length = i →
    Ev (fun k => spec_AgesOn.l0 k acc l (l.length : Int) (i : Int) on.f0 on.f1) (acc ++ (l.drop i).map (fun b => ageD b on), true) := by
  induction d with
  | zero =>
    intro i acc hd hi ha
    rw [List.drop_of_length_le (by omega)]
    exact Ev.step (f := fun _ => some (acc ++ [], true)) (fun k => by rw [spec_AgesOn.l0, if_neg (by omega), List.append_nil]) (Ev.now _)
  | succ d ih =>
    intro i acc hd hi ha
    have hlt : i < l.length := by omega
    have hs := ih (i + 1) (acc ++ [ageD (rd_T33 l (i : Int)) on]) (by omega) (by omega) (by simp [ha])
    rw [drop_at l i hlt, List.map_cons]
    rw [List.append_assoc, List.singleton_append] at hs
    refine Ev.step (fun k => ?_) hs
    rw [spec_AgesOn.l0, if_pos (by omega), if_pos (by omega), if_pos (by omega), biAge_ok (all_at l i hlt hl) ho]
    simp only [Option.bind_some]
    rw [if_pos (by omega), w_succ i l.length hlt (by omega)]
theorem ev_specAges (l : List D) (on : D) (hn : l.length ≤ 1048576) : Ev (fun k => spec_AgesOn.f k l on.f0 on.f1) (agesV l on) := by
  unfold spec_AgesOn.f
  refine Ev.bind (ev_biAll l on (by omega)) ?_
  unfold agesV
  cases hb : bornL l on with
  | false => simp only [Bool.false_eq_true, if_false]; exact Ev.now _
  | true =>
    simp only [if_true]
    obtain ⟨h1, h8, hl, ho, hd⟩ := born_parts hb
    simpa using specAges_loop l on hl ho h8 l.length 0 [] (by omega) (by omega) rfl
theorem agesOn_loop (l : List D) (n : Int) (hl : l.all dateOk = true) (hd : ∀ b ∈ l, dy b ≤ n) (h1 : n ≤ 1095365) (h8 : l.length ≤ 8) (d : Nat) : ∀ (i : Nat) (acc : List Int), l.length - i = d → i ≤ l.length → acc.length = i →
    Ev (fun k => impl_agesOn.l0 k n acc l (l.length : Int) (i : Int)) (acc ++ (l.drop i).map (fun b => (n - dy b) / 365)) := by
  induction d with
  | zero =>
    intro i acc hd hi ha
    rw [List.drop_of_length_le (by omega)]
    exact Ev.step (f := fun _ => some (acc ++ [])) (fun k => by rw [impl_agesOn.l0, if_neg (by omega), List.append_nil]) (Ev.now _)
  | succ d ih =>
    intro i acc hdd hi ha
    have hlt : i < l.length := by omega
    have hs := ih (i + 1) (acc ++ [(n - dy (rd_T33 l (i : Int))) / 365]) (by omega) (by omega) (by simp [ha])
    have hm : rd_T33 l (i : Int) ∈ l := by rw [rdT_at l i hlt]; exact List.getElem_mem _
    rw [drop_at l i hlt, List.map_cons]
    rw [List.append_assoc, List.singleton_append] at hs
    refine Ev.step (fun k => ?_) hs
    rw [impl_agesOn.l0, if_pos (by omega), if_pos (by omega), if_pos (by omega), age_ok (all_at l i hlt hl) (hd _ hm) h1]
    simp only [Option.bind_some]
    rw [if_pos (by omega), w_succ i l.length hlt (by omega)]
theorem ev_agesOn (l : List D) (n : Int) (hl : l.all dateOk = true) (hd : ∀ b ∈ l, dy b ≤ n) (h1 : n ≤ 1095365) (h8 : l.length ≤ 8) : Ev (fun k => impl_agesOn.f k l n) (l.map fun b => (n - dy b) / 365) := by
  unfold impl_agesOn.f
  simpa using agesOn_loop l n hl hd h1 h8 l.length 0 [] (by omega) (by omega) rfl
theorem ages_eq {l : List D} {on : D} (hl : l.all dateOk = true) (ho : dateOk on = true) (hd : ∀ b ∈ l, dy b ≤ dy on) : (l.map fun b => (dy on - dy b) / 365) = l.map fun b => ageD b on :=
  List.map_congr_left fun b hb => age_days ((List.all_eq_true.1 hl) b hb) ho (hd b hb)
theorem ev_implAges (l : List D) (on : D) (hn : l.length ≤ 1048576) : Ev (fun k => impl_AgesOn.f k l on.f0 on.f1) (agesV l on) := by
  unfold impl_AgesOn.f
  refine Ev.bind (ev_areBorn l on (by omega)) ?_
  unfold agesV
  cases hb : bornL l on with
  | false => simp only [Bool.false_eq_true, if_false]; exact Ev.now _
  | true =>
    simp only [if_true]
    obtain ⟨h1, h8, hl, ho, hd⟩ := born_parts hb
    rw [index_ok ho]
    simp only [Option.bind_some]
    refine Ev.bind (ev_agesOn l (dy on) hl hd (by have := dy_range ho; omega) h8) ?_
    rw [ages_eq hl ho hd]
    exact Ev.now _
/-! ### sums -/
theorem total_loop (xs : List Int) (h8 : xs.length ≤ 8) (hx : ∀ x ∈ xs, 0 ≤ x ∧ x ≤ 10000) (d : Nat) : ∀ (i : Nat) (s : Int), xs.length - i = d → i ≤ xs.length → 0 ≤ s → s ≤ 10000 * i →
    Ev (fun k => impl_total.l0 k s xs (xs.length : Int) (i : Int)) (s + (xs.drop i).sum) := by
  induction d with
  | zero =>
    intro i s hd hi h0 h1
    rw [List.drop_of_length_le (by omega)]
    exact Ev.step (f := fun _ => some (s + 0)) (fun k => by rw [impl_total.l0, if_neg (by omega), Int.add_zero]) (Ev.now _)
  | succ d ih =>
    intro i s hd hi h0 h1
    have hlt : i < xs.length := by omega
    have e : rd xs (i : Int) = xs[i] := by simp [rd, List.getD_eq_getElem?_getD, List.getElem?_eq_getElem hlt]
    have hb := hx _ (List.getElem_mem hlt)
    have hs := ih (i + 1) (s + xs[i]) (by omega) (by omega) (by omega) (by omega)
    rw [List.drop_eq_getElem_cons hlt, List.sum_cons, ← Int.add_assoc]
    refine Ev.step (fun k => ?_) hs
    rw [impl_total.l0, if_pos (by omega), if_pos (by omega), if_pos (by omega), e, w64 (x := s + xs[i]) (by omega) (by omega), w_succ i xs.length hlt (by omega)]
theorem ev_total (xs : List Int) (h8 : xs.length ≤ 8) (hx : ∀ x ∈ xs, 0 ≤ x ∧ x ≤ 10000) : Ev (fun k => impl_total.f k xs) xs.sum := by
  unfold impl_total.f
  simpa using total_loop xs h8 hx xs.length 0 0 (by omega) (by omega) (by omega) (by omega)
theorem biSum_loop (l : List D) (on : D) (hl : l.all dateOk = true) (ho : dateOk on = true) (hd : ∀ b ∈ l, dy b ≤ dy on) (h8 : l.length ≤ 8) (d : Nat) : ∀ (i : Nat) (s : Int), l.length - i = d → i ≤ l.length → 0 ≤ s → s ≤ 10000 * i →
    Ev (fun k => spec_biSum.l0 k s l (l.length : Int) (i : Int) on.f0 on.f1) (s + ((l.drop i).map (fun b => ageD b on)).sum) := by
  induction d with
  | zero =>
    intro i s hd hi h0 h1
    rw [List.drop_of_length_le (by omega)]
    exact Ev.step (f := fun _ => some (s + 0)) (fun k => by rw [spec_biSum.l0, if_neg (by omega), Int.add_zero]) (Ev.now _)
  | succ d ih =>
    intro i s hdd hi h0 h1
    have hlt : i < l.length := by omega
    have hok := all_at l i hlt hl
    have hm : rd_T33 l (i : Int) ∈ l := by rw [rdT_at l i hlt]; exact List.getElem_mem _
    have hb := ageD_range hok ho (hd _ hm)
    have hs := ih (i + 1) (s + ageD (rd_T33 l (i : Int)) on) (by omega) (by omega) (by omega) (by omega)
    rw [drop_at l i hlt, List.map_cons, List.sum_cons, ← Int.add_assoc]
    refine Ev.step (fun k => ?_) hs
    rw [spec_biSum.l0, if_pos (by omega), if_pos (by omega), if_pos (by omega), biAge_ok hok ho]
    simp only [Option.bind_some]
    rw [w64 (x := s + ageD (rd_T33 l (i : Int)) on) (by omega) (by omega), w_succ i l.length hlt (by omega)]
theorem ev_biSum (l : List D) (on : D) (hl : l.all dateOk = true) (ho : dateOk on = true) (hd : ∀ b ∈ l, dy b ≤ dy on) (h8 : l.length ≤ 8) : Ev (fun k => spec_biSum.f k l on.f0 on.f1) (l.map fun b => ageD b on).sum := by
  unfold spec_biSum.f
  simpa using biSum_loop l on hl ho hd h8 l.length 0 0 (by omega) (by omega) (by omega) (by omega)
theorem ages_bound {l : List D} {on : D} (hl : l.all dateOk = true) (ho : dateOk on = true) (hd : ∀ b ∈ l, dy b ≤ dy on) : ∀ x ∈ l.map (fun b => ageD b on), 0 ≤ x ∧ x ≤ 10000 := by
  intro x hx
  obtain ⟨b, hb, rfl⟩ := List.mem_map.1 hx
  have := ageD_range ((List.all_eq_true.1 hl) b hb) ho (hd b hb)
  omega
def sumV (l : List D) (on : D) : Int × Bool := if bornL l on = true then ((l.map fun b => ageD b on).sum, true) else (0, false)
theorem ev_specSum (l : List D) (on : D) (hn : l.length ≤ 1048576) : Ev (fun k => spec_SumOfAgesOn.f k l on.f0 on.f1) (sumV l on) := by
  unfold spec_SumOfAgesOn.f
  refine Ev.bind (ev_biAll l on (by omega)) ?_
  unfold sumV
  cases hb : bornL l on with
  | false => simp only [Bool.false_eq_true, if_false]; exact Ev.now _
  | true =>
    simp only [if_true]
    obtain ⟨h1, h8, hl, ho, hd⟩ := born_parts hb
    exact Ev.bind (ev_biSum l on hl ho hd h8) (Ev.now _)
theorem ev_implSum (l : List D) (on : D) (hn : l.length ≤ 1048576) : Ev (fun k => impl_SumOfAgesOn.f k l on.f0 on.f1) (sumV l on) := by
  unfold impl_SumOfAgesOn.f
  refine Ev.bind (ev_implAges l on hn) ?_
  unfold sumV agesV
  cases hb : bornL l on with
  | false =>
    simp only [Bool.false_eq_true, if_false]
    exact Ev.bind (ev_total [] (by simp) (by simp)) (Ev.now _)
  | true =>
    simp only [if_true]
    obtain ⟨h1, h8, hl, ho, hd⟩ := born_parts hb
    exact Ev.bind (ev_total _ (by simpa using h8) (ages_bound hl ho hd)) (Ev.now _)

end Go.Proofs.Ytcebaiopkeaoaaa.Pure
