-- WRITTEN by xprint.py, a program of this session that drives the kit's printer: out of the translation. Lean checks it.
import Derived.Test.YtlbnhjeblknepaaGreatE0
import Derived.Test.YtlbnhjeblknepaaGreatEa
import Derived.Test.YtlbnhjeblknepaaGreatWm
namespace Go.Proofs.YtlbnhjeblknepaaGreat.E
open Go.RowKit Go.Proofs.YtlbnhjeblknepaaGreatW.PrintWords Go.Proofs.YtlbnhjeblknepaaGreatW.PrintLast
set_option linter.unusedVariables false
set_option linter.unusedSimpArgs false

-- OURS, BY HAND
/-! ### impl_areBetween: function 95 -/
-- func impl.areBetween
-- ext rounds=0 making=1
-- needs impl.between
theorem impl_between.val (n a b : Int) : impl_between.f n a b = some (decide (a ≤ n ∧ n ≤ b)) := by
  unfold impl_between.f
  by_cases h1 : a ≤ n <;> by_cases h2 : n ≤ b <;> simp [h1, h2]
/-- the two captured bounds lie in two cells. -/
def Bnds (w : World) (p q : Nat) (lo hi : Int) : Prop := p < w.heap.size ∧ q < w.heap.size ∧ w.cell? ⟨p, 0, none⟩ = some (.int .i64 lo) ∧ w.cell? ⟨q, 0, none⟩ = some (.int .i64 hi)
theorem Bnds.below {w W : World} {p q : Nat} {lo hi : Int} (h : Bnds w p q lo hi) (hb : Below w.heap.size w W) : Bnds W p q lo hi :=
  ⟨Nat.lt_of_lt_of_le h.1 hb.size, Nat.lt_of_lt_of_le h.2.1 hb.size, pw_cell_below hb h.2.2.1, pw_cell_below hb h.2.2.2⟩
theorem between_closure (x lo hi : Int) (b : Bool) (hb : decide (lo ≤ x ∧ x ≤ hi) = b) (p q : Nat) (w : World) (hB : Bnds w p q lo hi) :
    Calls Tryz.prog 112 #[.int .i64 x, .pointer (some ⟨p, 0, none⟩), .pointer (some ⟨q, 0, none⟩)] w fun e w' => e = .returned (.bool (!b)) ∧ Below w.heap.size w w' := by
  have hc := fun w => impl_between.calls x lo hi b w ((impl_between.val _ _ _).trans (congrArg some hb))
  clear hb
  obtain ⟨h1, h2, h3, h4⟩ := hB
  go_enter Tryz.func112, Tryz.ntmps112
  go_wp2_with (go_at_call 84; (with_reducible refine (hc _).mono ?_); rintro e w' ⟨rfl, ⟨nd, rfl⟩⟩)
  go_ret
  exact ⟨rfl, by repeat (first | exact Below.refl _ _ | apply pw_below_drewN | apply below_drew)⟩
def firstOut (lo hi : Int) : List Int → Nat → Int
  | [], _ => -1
  | x :: l, i => if lo ≤ x ∧ x ≤ hi then firstOut lo hi l (i + 1) else i
theorem firstOut_drop (lo hi : Int) (l : List Int) (k : Nat) (h : k < l.length) : firstOut lo hi (l.drop k) k = if lo ≤ rd l k ∧ rd l k ≤ hi then firstOut lo hi (l.drop (k + 1)) (k + 1) else k := by
  rw [List.drop_eq_getElem_cons h]
  simp only [firstOut]
  have : rd l k = l[k] := by simp [rd, List.getD, List.getElem?_eq_getElem h]
  rw [this]
set_option maxHeartbeats 800000 in
theorem between_index (lo hi : Int) (p q : Nat) (A0 : Option Addr) (c0 : Nat) (l0 : List Int) (w : World) (hr0 : Kd.C (Kd.int .i64) w A0 l0.length l0) (hB : Bnds w p q lo hi) :
    Calls Tryz.prog 110 #[.slice A0 l0.length c0, .func (.func 112) #[] #[.pointer (some ⟨p, 0, none⟩), .pointer (some ⟨q, 0, none⟩)]] w fun e w' => e = .returned (.int .i64 (firstOut lo hi l0 0)) ∧ Below w.heap.size w w' := by
  have hm := Kd.C_max hr0
  have HP := Aside0.mk hB
  clear hB
  go_enter Tryz.func110, Tryz.ntmps110
  go_wp2
  go_loopw [8] (fun v8 wr => ∃ k : Nat, k ≤ l0.length ∧ v8 = .int .i64 k ∧ Aside0 (firstOut lo hi l0 0 = firstOut lo hi (l0.drop k) k) ∧ Aside0 (Below w.heap.size w wr)) (fun v8 _ => l0.length - (intOf v8).toNat)
  case atStart => exact ⟨0, Nat.zero_le _, rfl, ⟨by simp⟩, ⟨Below.refl _ _⟩⟩
  case round =>
    obtain ⟨k, hk, rfl, HE, HB⟩ := hrel
    by_cases hlt : k < l0.length
    · obtain ⟨ad, rfl, hx0⟩ := Kd.at_int (Kd.C_below hr0 HB.out) (k : Int) (by omega) (by omega)
      rw [Int.toNat_natCast] at hx0
      by_cases hok : lo ≤ rd l0 k ∧ rd l0 k ≤ hi
      · have HO := Aside0.mk hok
        have hcl := fun w hB => between_closure (rd l0 k) lo hi true (decide_eq_true hok) p q w hB
        clear hok
        go_wp2_with (go_at_call 112; (with_reducible refine (hcl _ (by repeat (first | exact Bnds.below HP.out HB.out | refine Bnds.below ?_ (pw_below_drewN (Below.refl _ _) _) | refine Bnds.below ?_ (below_drew (Below.refl _ _))))).mono ?_); rintro e w' ⟨rfl, hb⟩)
        go_roundw
        case rel => exact ⟨k + 1, by omega, by go_num, ⟨by rw [HE.out, firstOut_drop lo hi l0 k hlt, if_pos HO.out]⟩, ⟨below_then HB.out HB.out.size hb⟩⟩
        case measure => simp [intOf]; omega
      · have HO := Aside0.mk hok
        have hcl := fun w hB => between_closure (rd l0 k) lo hi false (decide_eq_false hok) p q w hB
        clear hok
        go_wp2_with (go_at_call 112; (with_reducible refine (hcl _ (by repeat (first | exact Bnds.below HP.out HB.out | refine Bnds.below ?_ (pw_below_drewN (Below.refl _ _) _) | refine Bnds.below ?_ (below_drew (Below.refl _ _))))).mono ?_); rintro e w' ⟨rfl, hb⟩)
        go_ret
        exact ⟨by rw [HE.out, firstOut_drop lo hi l0 k hlt, if_neg HO.out]; rfl, below_then HB.out HB.out.size hb⟩
    · go_wp2
      go_ret
      exact ⟨by rw [HE.out, List.drop_of_length_le (by omega)]; rfl, HB.out⟩
theorem firstOut_all (lo hi : Int) (l : List Int) : ∀ i : Nat, (i : Int) ≤ firstOut lo hi l i ∧ (l.all fun x => decide (lo ≤ x ∧ x ≤ hi)) = false ∨ firstOut lo hi l i = -1 ∧ (l.all fun x => decide (lo ≤ x ∧ x ≤ hi)) = true := by
  induction l with
  | nil => intro i; exact .inr ⟨rfl, rfl⟩
  | cons d l ih =>
    intro i
    simp only [firstOut, List.all_cons]
    by_cases hd : lo ≤ d ∧ d ≤ hi
    · rw [if_pos hd, decide_eq_true hd, Bool.true_and]
      rcases ih (i + 1) with ⟨h1, h2⟩ | ⟨h1, h2⟩
      · exact .inl ⟨by omega, h2⟩
      · exact .inr ⟨h1, h2⟩
    · rw [if_neg hd, decide_eq_false hd, Bool.false_and]
      exact .inl ⟨Int.le_refl _, rfl⟩
theorem between_contains (lo hi : Int) (p q : Nat) (A0 : Option Addr) (c0 : Nat) (l0 : List Int) (w : World) (hr0 : Kd.C (Kd.int .i64) w A0 l0.length l0) (hB : Bnds w p q lo hi) :
    Calls Tryz.prog 111 #[.slice A0 l0.length c0, .func (.func 112) #[] #[.pointer (some ⟨p, 0, none⟩), .pointer (some ⟨q, 0, none⟩)]] w fun e w' => e = .returned (.bool (!l0.all fun x => decide (lo ≤ x ∧ x ≤ hi))) ∧ Below w.heap.size w w' := by
  have HI := Aside0.mk (between_index lo hi p q A0 c0 l0 w hr0 hB)
  rcases firstOut_all lo hi l0 0 with ⟨h1, h2⟩ | ⟨h1, h2⟩
  · have c1 : decide (0 ≤ firstOut lo hi l0 0) = true := decide_eq_true (by simpa using h1)
    rw [h2]
    clear h1 h2 hB
    go_enter Tryz.func111, Tryz.ntmps111
    go_wp2_with (go_at_call 110; (with_reducible refine HI.out.mono ?_); rintro e w' ⟨rfl, hb⟩)
    go_ret
    exact ⟨rfl, hb⟩
  · rw [h1] at HI
    rw [h2]
    clear h1 h2 hB
    go_enter Tryz.func111, Tryz.ntmps111
    go_wp2_with (go_at_call 110; (with_reducible refine HI.out.mono ?_); rintro e w' ⟨rfl, hb⟩)
    go_ret
    exact ⟨rfl, hb⟩
def impl_areBetween.f (l : List Int) (lo hi : Int) : Option Bool := some (l.all fun x => decide (lo ≤ x ∧ x ≤ hi))
theorem impl_areBetween.calls (A0 : Option Addr) (c0 : Nat) (l0 : List Int) (a1 a2 : Int) (r : Bool) (w : World) (hr0 : Kd.C (Kd.int .i64) w A0 l0.length l0) (hc0 : l0.length ≤ c0) (h : impl_areBetween.f l0 a1 a2 = some r) :
    Calls Tryz.prog 95 #[.slice A0 l0.length c0, .int .i64 a1, .int .i64 a2] w fun e w' => e = .returned (.bool r) ∧ Below w.heap.size w w' := by
  obtain rfl := Option.some.inj h
  clear h
  have HR := Aside0.mk hr0
  have hC := fun p q w hr hB => between_contains a1 a2 p q A0 c0 l0 w hr hB
  obtain ⟨b, hb⟩ : ∃ b, (l0.all fun x => decide (a1 ≤ x ∧ x ≤ a2)) = b := ⟨_, rfl⟩
  rw [hb] at hC ⊢
  clear hr0 hc0 hb
  have hBn : Bnds ((w.alloc (.cells #[.int .i64 a1] 3)).alloc (.cells #[.int .i64 a2] 3)) w.heap.size (w.heap.size + 1) a1 a2 := ⟨by simp; omega, by simp, by simp, by simp⟩
  have HC := Aside0.mk (hC _ _ _ (Kd.C_alloc (Kd.C_alloc HR.out _) _) hBn)
  clear hC hBn
  cases b
  all_goals
    go_enter Tryz.func95, Tryz.ntmps95
    go_wp2_with (go_at_call 111; (with_reducible refine HC.out.mono ?_); rintro e w' ⟨rfl, hb⟩)
    go_ret
    exact ⟨rfl, below_then (below_alloc (below_alloc (Below.refl _ _) _) _) (by simp; omega) hb⟩

end Go.Proofs.YtlbnhjeblknepaaGreat.E
