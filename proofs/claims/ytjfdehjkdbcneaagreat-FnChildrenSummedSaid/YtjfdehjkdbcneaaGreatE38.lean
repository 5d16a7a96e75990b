-- WRITTEN by xprint.py, a program of this session that drives the kit's printer: out of the translation. Lean checks it.
import Derived.Test.YtjfdehjkdbcneaaGreatE0
import Derived.Test.YtjfdehjkdbcneaaGreatE7
import Derived.Test.YtjfdehjkdbcneaaGreatE9
import Derived.Test.YtjfdehjkdbcneaaGreatE16
import Derived.Test.YtjfdehjkdbcneaaGreatE36
import Derived.Test.YtjfdehjkdbcneaaGreatWm
namespace Go.Proofs.YtjfdehjkdbcneaaGreat.E
open Go.RowKit Go.Proofs.YtjfdehjkdbcneaaGreatW.PrintWords Go.Proofs.YtjfdehjkdbcneaaGreatW.PrintLast
set_option linter.unusedVariables false
set_option linter.unusedSimpArgs false

-- OURS, BY HAND
/-! ### impl_MostSets: function 29 -/
-- func impl.MostSets
-- ext rounds=0 making=1
-- needs impl.products
-- needs spec.siSets
-- import Derived.WalkKit
-- import Derived.Deep.RegionWith
-- import Derived.Deep.RegionLaw
-- import Derived.IntWalk
-- import Derived.WalkSpells
-- import Derived.Maps.AppendAt
/-- How many sets have the product at place k. -/
def lotCount (c : Nat) (fr : Int) (k : Nat) : Nat := ((allSets c []).filter (hasProd (fr + (k : Int)))).length
/-- The first place of the most, among the first i. -/
def mostAt (f : Nat → Nat) : Nat → Nat
  | 0 => 0
  | i + 1 => if f (mostAt f i) < f i then i else mostAt f i
theorem mostAt_lt (f : Nat → Nat) (N : Nat) (hN : 0 < N) : ∀ i, i ≤ N → mostAt f i < N
  | 0, _ => hN
  | i + 1, h => by
    have ih := mostAt_lt f N hN i (by omega)
    unfold mostAt
    split
    · exact h
    · exact ih
theorem lotCount_le (c : Nat) (hc : c ≤ 4) (fr : Int) (k : Nat) : lotCount c fr k ≤ 160000 := by
  have h1 := allSets_len c [] (fun x hx => by simp at hx)
  have h2 : 20 ^ c ≤ 20 ^ 4 := Nat.pow_le_pow_right (by omega) hc
  have h3 : lotCount c fr k ≤ (allSets c []).length := List.length_filter_le _ _
  have h4 : (20 : Nat) ^ 4 = 160000 := by decide
  omega
theorem Lots.head {base pb qb ob rb : Nat} {fr tt : Int} {N cap c : Nat} {W : World} (h : Lots base pb qb ob rb fr tt N cap (allSets c []) W) (k : Nat) (hk : k < N) : ∃ A m, W.cell? ⟨rb, k, none⟩ = some (.slice A (lotCount c fr k) m) := by
  obtain ⟨_, _, _, cur, vs, h4, _, _, h7, h8, _⟩ := h
  have hc := (blk_cell h4 k).trans (h7 k hk)
  obtain ⟨hdrs, hown, _⟩ := h8 k hk
  rcases hown.2 with ⟨e, en⟩ | ⟨g, cap', cur', e, _⟩
  · exact ⟨none, 0, by rw [hc, e]; unfold lotCount; rw [en]⟩
  · exact ⟨_, _, by rw [hc, e]; rfl⟩
def impl_MostSets.f (c fr tt : Int) : Option (Int × Int × Bool) := if lotsOk c fr tt = true then some (fr + ((mostAt (lotCount c.toNat fr) (tt - fr + 1).toNat : Nat) : Int), (lotCount c.toNat fr (mostAt (lotCount c.toNat fr) (tt - fr + 1).toNat) : Int), true) else some (0, 0, false)
set_option maxHeartbeats 8000000 in
theorem impl_MostSets.calls (c fr tt : Int) (r1 r2 : Int) (r3 : Bool) (W : World) (h : impl_MostSets.f c fr tt = some (r1, r2, r3)) :
    Calls Tryz.prog 29 #[.int .i64 c, .int .i64 fr, .int .i64 tt] W fun e w' => e = .returned (.tuple #[.int .i64 r1, .int .i64 r2, .bool r3]) ∧ Below W.heap.size W w' := by
  unfold impl_MostSets.f at h
  cases hp : lotsOk c fr tt with
  | false =>
    have HP := Aside0.mk (products_no c fr tt hp)
    rw [hp, if_neg (by simp)] at h
    simp only [Option.some.injEq, Prod.mk.injEq] at h
    obtain ⟨rfl, rfl, rfl⟩ := h
    clear hp
    go_enter Tryz.func29, Tryz.ntmps29
    go_wp2_with (go_at_call 56; (with_reducible refine (HP.out _).mono ?_); rintro e w' ⟨rfl, hb⟩; have HB := Aside0.mk hb; clear hb)
    go_ret3
    exact ⟨rfl, HB.out⟩
  | true =>
    have HP := Aside0.mk (products_yes c fr tt hp)
    rw [hp, if_pos rfl] at h
    simp only [Option.some.injEq, Prod.mk.injEq] at h
    obtain ⟨h1, h2, rfl⟩ := h
    have hk : 1 ≤ c ∧ c ≤ 4 ∧ 1 ≤ fr ∧ fr ≤ 160000 ∧ fr ≤ tt ∧ tt ≤ 160000 := by
      unfold lotsOk at hp
      simp only [Bool.and_eq_true, decide_eq_true_eq] at hp
      omega
    obtain ⟨N, hN⟩ : ∃ N, N = (tt - fr + 1).toNat := ⟨_, rfl⟩
    have hN0 : 0 < N := by omega
    have hN1 : N ≤ 160000 := by omega
    have HCL := Aside0.mk (lotCount_le c.toNat (by omega) fr)
    rw [← hN] at h1 h2
    have HP := Aside0.mk (fun W => by have h := HP.out W; rw [← hN] at h; exact h)
    obtain ⟨f, hf⟩ : ∃ f, f = lotCount c.toNat fr := ⟨_, rfl⟩
    have HF := Aside0.mk hf
    rw [← hf] at h1 h2 HCL
    have HR1 := Aside0.mk h1
    have HR2 := Aside0.mk h2
    clear hp hN hf h1 h2
    go_enter Tryz.func29, Tryz.ntmps29
    go_wp2_with (go_at_call 56; (with_reducible refine (HP.out _).mono ?_); rintro e w1 ⟨rb, cap, rfl, ⟨pb, qb, ob, hL⟩, hb⟩; have HB := Aside0.mk hb; have HHD := Aside0.mk (fun k hk => hL.head k hk); clear hb hL)
    obtain ⟨adr, hadr⟩ : ∃ adr : Addr, adr = ⟨rb, 0, none⟩ := ⟨_, rfl⟩
    have HC1 := Aside0.mk (show ∀ k, k < N → ∃ A m, w1.cell? (adr.add k) = some (.slice A (f k) m) from fun k hk => by
      first | rw [hadr, add_at, Nat.zero_add, HF.out] | rw [hadr, add_at, HF.out]
      exact HHD.out k hk)
    rw [← hadr]
    clear hadr
    go_loopw [11, 25] (fun v11 v25 wr => ∃ i : Nat, i ≤ N ∧ v25 = .int .i64 (i : Int) ∧ v11 = .int .i64 ((mostAt f i : Nat) : Int) ∧ Aside0 (∀ k, k < N → ∃ A m, wr.cell? (adr.add k) = some (.slice A (f k) m)) ∧ Aside0 (Below W.heap.size W wr)) (fun _ v25 _ => N - (intOf v25).toNat)
    case atStart => exact ⟨0, Nat.zero_le _, rfl, rfl, HC1, HB⟩
    case round =>
      obtain ⟨i, hi, rfl, rfl, HC2, HB2⟩ := hrel
      have hj := mostAt_lt f N hN0 i hi
      have HE := Aside0.mk (show mostAt f (i + 1) = if f (mostAt f i) < f i then i else mostAt f i from rfl)
      obtain ⟨j, hjj⟩ : ∃ j, j = mostAt f i := ⟨_, rfl⟩
      have HJ := Aside0.mk hjj
      rw [← hjj] at hj HE ⊢
      clear hjj
      obtain ⟨Aj, mj, hcj⟩ := HC2.out j hj
      have hlj := HCL.out j
      by_cases hlt : i < N
      · have hlt1 : decide ((i : Int) < (N : Int)) = true := decide_eq_true (by omega)
        obtain ⟨Ai, mi, hci⟩ := HC2.out i hlt
        have hli := HCL.out i
        have p1 : (i : Int) < (N : Int) := by omega
        have p2 : (j : Int) < (N : Int) := by omega
        obtain ⟨x, hx⟩ : ∃ x, x = f i := ⟨_, rfl⟩
        obtain ⟨y, hy⟩ : ∃ y, y = f j := ⟨_, rfl⟩
        rw [← hx] at hci hli HE
        rw [← hy] at hcj hlj HE
        clear hx hy
        by_cases hz : y < x
        · have hz2 : decide (y < x) = true := decide_eq_true hz
          rw [if_pos hz] at HE
          clear hz
          go_wp2
          go_roundw
          case rel => exact ⟨i + 1, by omega, by go_num, by rw [HE.out], HC2, HB2⟩
          case measure => simp [intOf]; omega
        · have hz2 : decide (y < x) = false := decide_eq_false hz
          rw [if_neg hz] at HE
          clear hz
          go_wp2
          go_roundw
          case rel => exact ⟨i + 1, by omega, by go_num, by rw [HE.out], HC2, HB2⟩
          case measure => simp [intOf]; omega
      · obtain rfl : i = N := by omega
        have hlt1 : decide ((i : Int) < (i : Int)) = false := decide_eq_false (by omega)
        have hr1 := HR1.out
        have hr2 := HR2.out
        rw [← HJ.out] at hr1 hr2
        obtain ⟨y, hy⟩ : ∃ y, y = f j := ⟨_, rfl⟩
        rw [← hy] at hcj hlj hr2
        obtain rfl : fr + (j : Int) = r1 := hr1
        obtain rfl : (y : Int) = r2 := hr2
        have p2 : (j : Int) < (i : Int) := by omega
        have hcm : ∀ mm, (wr.drewN mm).cell? (adr.add j) = some (.slice Aj y mj) := fun mm => hcj
        clear hy
        go_wp2
        go_quiet (fail)
        go_wp2
        go_ret3
        exact ⟨rfl, pw_below_drewN HB2.out _⟩

end Go.Proofs.YtjfdehjkdbcneaaGreat.E
