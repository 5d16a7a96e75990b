/- Chapter 3, plain: the reference's list of those who are older is the list in order, equal ones as they came. No condition beyond those typed at each lemma. -/
import Derived.Test.YtfkdkikodoingaaDBase
import Derived.Test.YtfkdkikodoingaaE0
import Derived.Test.YtfkdkikodoingaaE1
import Derived.Test.YtfkdkikodoingaaE2
import Derived.Test.YtfkdkikodoingaaE6
namespace Go.Proofs.Ytfkdkikodoingaa.Pure
open Go.RowKit Go.Proofs.Ytfkdkikodoingaa.E Go.Proofs.YtfkdkikodoingaaW.PrintWords Go.Proofs.YtfkdkikodoingaaW.PrintLast
set_option linter.unusedVariables false
set_option linter.unusedSimpArgs false

theorem insV_end {α : Type} (lt : α → α → Bool) (x : α) : ∀ (q : List α), (∀ y ∈ q, lt x y = false) → insV lt x q = q ++ [x] := fun q h => by
  have := insV_split lt x q [] h (fun y hy => absurd hy List.not_mem_nil)
  rwa [List.append_nil] at this
theorem insV_here {α : Type} (lt : α → α → Bool) (x z : α) (r : List α) : ∀ (q : List α), (∀ y ∈ q, lt x y = false) → lt x z = true → insV lt x (q ++ z :: r) = q ++ x :: z :: r
  | [], _, h => by
    show (if lt x z = true then x :: z :: r else z :: insV lt x r) = x :: z :: r
    rw [if_pos h]
  | w :: q, h, h2 => by
    show (if lt x w = true then x :: w :: (q ++ z :: r) else w :: insV lt x (q ++ z :: r)) = w :: (q ++ x :: z :: r)
    rw [if_neg (by rw [h w (List.mem_cons_self ..)]; simp), insV_here lt x z r q (fun y hy => h y (List.mem_cons_of_mem _ hy)) h2]
theorem biDays_val (x : D) (h : DOk x) : spec_biDays.f x.f0 x.f1 = some (dkey x) := by
  obtain ⟨h0, h1, h2, h3⟩ := h
  unfold spec_biDays.f dkey
  rw [w64 (x := x.f0 * 365) (by omega) (by omega), w64 (x := x.f0 * 365 + x.f1) (by omega) (by omega), w64 (by omega) (by omega)]
theorem rdT_mem (l : List D) (i : Int) (h0 : 0 ≤ i) (h1 : i < (l.length : Int)) : rd_T36 l i ∈ l := by
  obtain ⟨n, rfl⟩ : ∃ n : Nat, i = (n : Int) := ⟨i.toNat, by omega⟩
  rw [rdT_at l n (by omega)]
  exact List.getElem_mem _
theorem rd_nat (p : List Int) (j : Nat) (h : j < p.length) : rd p (j : Int) = p[j] := by simp [rd, List.getD, List.getElem?_eq_getElem h]
theorem own_val (x : List Int) (h : x.length ≤ 100) : spec_l1Own.f x = some x := by
  unfold spec_l1Own.f
  simp only [Option.bind_some, List.length_nil, List.nil_append]
  rw [if_pos (by omega)]
theorem older_inner (l : List D) (hok : ∀ x ∈ l, DOk x) (hl : l.length ≤ 8) (i : Nat) (hi : i < l.length) (p : List Int) (hp : ∀ y ∈ p, 0 ≤ y ∧ y < (l.length : Int)) (hpl : p.length ≤ 8) (r : List Int × Bool)
    (hr : Ev (fun k => spec_OlderOf.l0 k l (insV (olderI l) (i : Int) p) l (l.length : Int) ((i + 1 : Nat) : Int)) r) (d : Nat) :
    ∀ j : Nat, p.length - j = d → j ≤ p.length → (∀ y ∈ p.take j, olderI l (i : Int) y = false) → Ev (fun k => spec_OlderOf.l1 k l p (i : Int) (j : Int) l (l.length : Int) (i : Int) (rd_T36 l (i : Int)).f0 (rd_T36 l (i : Int)).f1) r := by
  have hoi := hok _ (rdT_mem l (i : Int) (by omega) (by omega))
  induction d with
  | zero =>
    intro j hd hj hq
    obtain rfl : j = p.length := by omega
    have e := insV_end (olderI l) (i : Int) p (by rw [List.take_length] at hq; exact hq)
    rw [e] at hr
    refine Ev.step (fun k => ?_) hr
    rw [spec_OlderOf.l1, if_neg (by omega), if_pos (by omega), if_pos (by omega), Int.toNat_natCast, List.take_length, List.drop_length, own_val p (by omega)]
    simp only [Option.bind_some, List.append_nil, List.length_append, List.length_cons, List.length_nil]
    rw [if_pos (by omega), if_pos (by omega), w_succ i l.length hi (by omega)]
  | succ d ih =>
    intro j hd hj hq
    have hlt : j < p.length := by omega
    have hpj := hp p[j] (List.getElem_mem hlt)
    have hoj := hok _ (rdT_mem l p[j] hpj.1 hpj.2)
    by_cases hc : dkey (rd_T36 l p[j]) ≤ dkey (rd_T36 l (i : Int))
    · have hs := ih (j + 1) (by omega) (by omega) (fun y hy => by
        rw [List.take_succ_eq_append_getElem hlt] at hy
        rcases List.mem_append.1 hy with hy | hy
        · exact hq y hy
        · obtain rfl : y = p[j] := by simpa using hy
          exact decide_eq_false (by omega))
      refine Ev.step (fun k => ?_) hs
      rw [spec_OlderOf.l1, if_pos (by omega), if_pos (by omega), rd_nat p j hlt, if_pos hpj.1, if_pos hpj.2, biDays_val _ hoj]
      simp only [Option.bind_some]
      rw [biDays_val _ hoi]
      simp only [Option.bind_some]
      rw [if_pos hc, w_succ j p.length hlt (by omega)]
    · have e := insV_here (olderI l) (i : Int) p[j] (p.drop (j + 1)) (p.take j) hq (decide_eq_true (by omega))
      rw [← List.drop_eq_getElem_cons hlt, List.take_append_drop] at e
      rw [e] at hr
      refine Ev.step (fun k => ?_) hr
      rw [spec_OlderOf.l1, if_pos (by omega), if_pos (by omega), rd_nat p j hlt, if_pos hpj.1, if_pos hpj.2, biDays_val _ hoj]
      simp only [Option.bind_some]
      rw [biDays_val _ hoi]
      simp only [Option.bind_some]
      rw [if_neg hc, if_pos (by omega), Int.toNat_natCast, own_val (p.take j) (by rw [List.length_take]; omega)]
      simp only [Option.bind_some]
      rw [if_pos (by rw [List.length_take]; omega), if_pos (by simp only [List.length_append, List.length_take, List.length_drop, List.length_cons, List.length_nil]; omega), w_succ i l.length hi (by omega), List.append_assoc]
      rfl
theorem older_outer (l : List D) (hok : ∀ x ∈ l, DOk x) (hl : l.length ≤ 8) (d : Nat) : ∀ i : Nat, l.length - i = d → i ≤ l.length → Ev (fun k => spec_OlderOf.l0 k l (isortV (olderI l) (idxL i)) l (l.length : Int) (i : Int)) (olderL l, true) := by
  induction d with
  | zero =>
    intro i hd hi
    obtain rfl : i = l.length := by omega
    exact Ev.step (f := fun _ => some (olderL l, true)) (fun k => by rw [spec_OlderOf.l0, if_neg (by omega)]; rfl) (Ev.now _)
  | succ d ih =>
    intro i hd hi
    have hlt : i < l.length := by omega
    have hs := ih (i + 1) (by omega) (by omega)
    rw [idxL_succ, isortV_snoc] at hs
    have hin := older_inner l hok hl i hlt (isortV (olderI l) (idxL i)) (fun y hy => by
      rw [isortV_mem] at hy
      unfold idxL at hy
      obtain ⟨n, hn, rfl⟩ := List.mem_map.1 hy
      have := List.mem_range.1 hn
      omega) (by rw [isortV_len, idxL_len]; omega) _ hs _ 0 rfl (Nat.zero_le _) (fun y hy => absurd hy List.not_mem_nil)
    refine Ev.step (fun k => ?_) hin
    rw [spec_OlderOf.l0, if_pos (by omega), if_pos (by omega), if_pos (by omega)]
    rfl
/-- Both answers. -/
def olderR (l : List D) : List Int × Bool := if goodL l = true then (olderL l, true) else ([], false)
theorem olderR_len (l : List D) : (olderR l).1.length ≤ 8 := by
  unfold olderR
  by_cases h : goodL l = true
  · rw [if_pos h]
    unfold goodL at h
    have := of_decide_eq_true (Bool.and_eq_true_iff.1 h).1
    show (olderL l).length ≤ 8
    unfold olderL
    rw [isortV_len, idxL_len]
    omega
  · rw [if_neg h]
    exact Nat.zero_le _
theorem implOlder (l : List D) : impl_OlderOf.f l = some (olderR l) := by
  unfold impl_OlderOf.f olderR
  show (if goodL l = true then some (olderL l, true) else some ([], false)) = _
  split <;> rfl
theorem ev_specOlder (l : List D) (hl : l.length ≤ 1048576) : Ev (fun k => spec_OlderOf.f k l) (olderR l) := by
  unfold spec_OlderOf.f olderR
  refine Ev.bind (ev_biGood l (by omega)) ?_
  by_cases h : goodL l = true
  · rw [if_pos h, h]
    simp only [if_true]
    have h' := h
    unfold goodL at h'
    obtain ⟨h1, h2⟩ := Bool.and_eq_true_iff.1 h'
    have h1 := of_decide_eq_true h1
    exact older_outer l (fun x hx => (ok_iff x).1 (List.all_eq_true.1 h2 x hx)) (by omega) l.length 0 (by omega) (Nat.zero_le _)
  · rw [if_neg h, Bool.not_eq_true _ |>.mp h]
    exact Ev.now _
end Go.Proofs.Ytfkdkikodoingaa.Pure
