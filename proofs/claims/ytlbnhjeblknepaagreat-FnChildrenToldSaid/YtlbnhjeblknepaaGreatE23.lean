-- WRITTEN by xprint.py, a program of this session that drives the kit's printer: out of the translation. Lean checks it.
import Derived.Test.YtlbnhjeblknepaaGreatE0
import Derived.Test.YtlbnhjeblknepaaGreatEa
import Derived.Test.YtlbnhjeblknepaaGreatEb
import Derived.Test.YtlbnhjeblknepaaGreatE22
import Derived.Test.YtlbnhjeblknepaaGreatWm
namespace Go.Proofs.YtlbnhjeblknepaaGreat.E
open Go.RowKit Go.Proofs.YtlbnhjeblknepaaGreatW.PrintWords Go.Proofs.YtlbnhjeblknepaaGreatW.PrintLast
set_option linter.unusedVariables false
set_option linter.unusedSimpArgs false

-- OURS, BY HAND
/-! ### impl_ToldByOldest: function 6 -/
-- func impl.ToldByOldest
-- ext raw=1
-- needs impl.told
-- needs impl.SetsOfProduct
-- import Derived.WalkKit
-- import Derived.Deep.RegionWith
-- import Derived.Deep.RegionLaw
-- import Derived.IntWalk
-- import Derived.WalkSpells
-- import Derived.Lib.SliceRun
set_option maxHeartbeats 1600000 in
theorem impl_ToldByOldest.calls (c p : Int) (r1 : List (List Int)) (r2 : Bool) (W : World) (h : ToldF true c p r1 r2) :
    Calls Tryz.prog 6 #[.int .i64 c, .int .i64 p] W fun e w' => ∃ v us, e = .returned (.tuple #[v, .bool r2]) ∧ Sep w' W.heap.size v us r1 ∧ Below W.heap.size W w' := by
  unfold ToldF at h
  by_cases hv : 1 ≤ c ∧ c ≤ 4 ∧ 1 ≤ p ∧ p ≤ 160000
  · have HL := Aside0.mk (fun w => impl_SetsOfProduct.calls c p ((allSets c.toNat []).filter (hasProd p)) true w (by unfold impl_SetsOfProduct.f; rw [if_pos hv]))
    rw [if_pos hv] at h
    obtain ⟨rfl, hT⟩ := h
    obtain ⟨xs, hxs⟩ : ∃ xs, xs = (allSets c.toNat []).filter (hasProd p) := ⟨_, rfl⟩
    rw [← hxs] at HL hT
    have hal : ∀ x ∈ xs, Ages x ∧ x.length = c.toNat := by
      intro x hx
      rw [hxs] at hx
      have := allSets_ages c.toNat [] x (fun y hy => by simp at hy) (List.mem_filter.1 hx).1
      exact ⟨this.1, by have := this.2; simp at this; omega⟩
    have hln : xs.length ≤ 200000 := by
      have h1 := List.length_filter_le (hasProd p) (allSets c.toNat [])
      have h2 := allSets_len c.toNat [] (fun x hx => by simp at hx)
      have h3 : 20 ^ c.toNat ≤ 20 ^ 4 := Nat.pow_le_pow_right (by omega) (by omega)
      rw [hxs]; omega
    have HTO := Aside0.mk (fun v W1 hS hle => told_S 1 true (by decide) xs r1 hT W.heap.size v W1 hS hle (fun x hx => ⟨(hal x hx).1, by rw [(hal x hx).2]; omega⟩) (fun x hx => by rw [(hal x hx).2]; omega) hln)
    have HTO := Aside0.mk (show ∀ v W1, Kd.S (Kd.slice 3 (Kd.int .i64)) 31 W1 W.heap.size (fun _ => True) v xs → W.heap.size ≤ W1.heap.size → Calls Tryz.prog 43 #[v, .func (.func 44) #[] #[]] W1 fun e w' => ∃ v2 us2, e = .returned v2 ∧ Sep w' W.heap.size v2 us2 r1 ∧ Below W1.heap.size W1 w' from HTO.out)
    clear hxs hv hal hln hT
    go_enter Tryz.func6, Tryz.ntmps6
    go_wp2_with (first | (go_at_call 10; (with_reducible refine (HL.out _).mono ?_); rintro e w1 ⟨v1, rfl, hS, hb⟩; have HS := Aside0.mk hS; have HB1 := Aside0.mk hb; clear hS hb) | (go_at_call 43; (with_reducible refine (HTO.out _ _ HS.out HB1.out.size).mono ?_); rintro e w3 ⟨v3, us3, rfl, hS3, hB3⟩; have HS3 := Aside0.mk hS3; have HB3 := Aside0.mk hB3; clear hS3 hB3))
    go_ret2
    exact ⟨_, us3, rfl, HS3.out, below_then HB1.out HB1.out.size HB3.out⟩
  · have HL := Aside0.mk (fun w => impl_SetsOfProduct.calls c p [] false w (by unfold impl_SetsOfProduct.f; rw [if_neg hv]))
    rw [if_neg hv] at h
    obtain ⟨rfl, rfl⟩ := h
    clear hv
    go_enter Tryz.func6, Tryz.ntmps6
    go_wp2_with (first | (go_at_call 10; (with_reducible refine (HL.out _).mono ?_); rintro e w1 ⟨v1, rfl, hS, hb⟩; have HB1 := Aside0.mk hb; clear hS hb))
    go_ret2
    obtain ⟨us, hs⟩ := Sep.of_S (Kd.S_nil (Kd.slice 3 (Kd.int .i64)) 31 w1 W.heap.size (fun _ => True))
    exact ⟨_, us, rfl, hs, HB1.out⟩
theorem impl_ToldByOldestS.calls (c p : Int) (r1 : List (List Int)) (r2 : Bool) (W : World) (h : ToldF true c p r1 r2) :
    Calls Tryz.prog 6 #[.int .i64 c, .int .i64 p] W fun e w' => ∃ v, e = .returned (.tuple #[v, .bool r2]) ∧ Kd.S (Kd.slice 3 (Kd.int .i64)) 31 w' W.heap.size (fun _ => True) v r1 ∧ Below W.heap.size W w' := by
  refine (impl_ToldByOldest.calls c p r1 r2 W h).mono ?_
  rintro e w' ⟨v, us, rfl, hS, hb⟩
  exact ⟨v, rfl, hS.to_S, hb⟩

end Go.Proofs.YtlbnhjeblknepaaGreat.E
