-- WRITTEN by xprint.py, a program of this session that drives the kit's printer: out of the translation. Lean checks it.
import Derived.Test.YtlbnhjeblknepaaGreatE0
import Derived.Test.YtlbnhjeblknepaaGreatEa
import Derived.Test.YtlbnhjeblknepaaGreatEb
import Derived.Test.YtlbnhjeblknepaaGreatE19
import Derived.Test.YtlbnhjeblknepaaGreatE22
import Derived.Test.YtlbnhjeblknepaaGreatE45
import Derived.Test.YtlbnhjeblknepaaGreatWm
namespace Go.Proofs.YtlbnhjeblknepaaGreat.E
open Go.RowKit Go.Proofs.YtlbnhjeblknepaaGreatW.PrintWords Go.Proofs.YtlbnhjeblknepaaGreatW.PrintLast Go.Proofs.YtlbnhjeblknepaaGreatW.PrintMore
attribute [local go_sem] max2_int min2_int max_two min_two max_three min_three max_four min_four   -- for this text's walks alone
set_option linter.unusedVariables false
set_option linter.unusedSimpArgs false

-- OURS, BY HAND
/-! ### impl_OneByOldest: function 34 -/
-- func impl.OneByOldest
-- ext rounds=1 making=1
-- needs impl.products
-- needs impl.told
-- needs impl.openSums
-- import Derived.WalkKit
-- import Derived.Deep.RegionWith
-- import Derived.Deep.RegionLaw
-- import Derived.IntWalk
-- import Derived.WalkSpells
-- import Derived.Lib.SliceRun
theorem LotAt.reads {base : Nat} {W : World} {v : Value} {xs : List (List Int)} (h : LotAt base W v xs) : ∃ (us : List Value) (A : Option Addr) (c : Nat), v = .slice A xs.length c ∧ xs.length ≤ c ∧ us.length = xs.length ∧ Kd.C (Kd.slice 3 (Kd.int .i64)) W A xs.length xs ∧ Kd.C rawKd W A us.length us ∧ (∀ (j : Nat) (x : List Int), xs[j]? = some x → ∃ u, us[j]? = some u ∧ Rd W u x) := by
  obtain ⟨us, hown, hin⟩ := h
  have hlen : us.length = xs.length := by have := hown.1; rw [Nat.mul_one] at this; exact this
  have hR : Reps ((Kd.slice 3 (Kd.int .i64)).K W) 1 xs us := by
    refine ⟨by rw [hlen, Nat.mul_one], fun j p hp => ?_⟩
    have hjl : j < us.length := by rw [hlen]; exact (List.getElem?_eq_some_iff.1 hp).1
    have hu := List.getElem?_eq_getElem hjl
    rw [take_drop_one us j hu]
    obtain ⟨A, c, e, hl, hC⟩ := Kd.R_reads (hin j _ p hu hp)
    exact ⟨A, c, by rw [e], hl, hC⟩
  have hR2 : Reps (rawKd.K W) 1 us us := by
    refine ⟨by rw [Nat.mul_one], fun j p hp => ?_⟩
    rw [take_drop_one us j hp]
    have hj : j < xs.length := by rw [← hlen]; exact (List.getElem?_eq_some_iff.1 hp).1
    obtain ⟨A, c, e⟩ := Kd.R_slice (hin j p _ hp (List.getElem?_eq_getElem hj))
    exact ⟨rfl, by rw [e]; rfl⟩
  have hrows : ∀ (j : Nat) (x : List Int), xs[j]? = some x → ∃ u, us[j]? = some u ∧ Rd W u x := by
    intro j x hx
    have hj : j < us.length := by rw [hlen]; exact (List.getElem?_eq_some_iff.1 hx).1
    refine ⟨us[j], List.getElem?_eq_getElem hj, ?_⟩
    have hRR := hin j us[j] x (List.getElem?_eq_getElem hj) hx
    obtain ⟨A1, c1, e1⟩ := Kd.R_slice hRR
    rw [e1] at hRR ⊢
    obtain ⟨_, hcc, hC1⟩ := Kd.R_reads' hRR
    exact ⟨A1, c1, rfl, hcc, hC1⟩
  obtain ⟨A, c, hv, hread⟩ := own_reads_row hown hR rfl
  obtain ⟨A', c', hv', hread'⟩ := own_reads_row hown hR2 hlen
  have hA : A' = A := by rw [hv] at hv'; injection hv' with q1 _ _; exact q1.symm
  rw [hA, ← hlen] at hread'
  refine ⟨us, A, c, hv, ?_, hlen, hread, hread', hrows⟩
  rcases hown.2 with ⟨h1, h2⟩ | ⟨g, cap, cur, h1, _, _, h2, _⟩
  · omega
  · rw [h1] at hv
    injection hv with _ h3 h4
    omega
/-- The sets with the product at place i. -/
def lotX (c : Nat) (fr : Int) (i : Nat) : List (List Int) := (allSets c []).filter (hasProd (fr + (i : Int)))
/-- The products among the first n for which one set is told. -/
def oneI (k c : Nat) (fr : Int) : Nat → Option (List Int)
  | 0 => some []
  | n + 1 => (oneI k c fr n).bind fun l => (impl_openSums.f k (lotX c fr n)).bind fun os => if os.length ≤ 200000 then some (l ++ if (toldIdx true (lotX c fr n) os).length = 1 then [fr + (n : Int)] else []) else none
theorem oneI_step {k c : Nat} {fr : Int} {n : Nat} {r : List Int} (h : oneI k c fr (n + 1) = some r) : ∃ l os, oneI k c fr n = some l ∧ impl_openSums.f k (lotX c fr n) = some os ∧ os.length ≤ 200000 ∧ r = l ++ if (toldIdx true (lotX c fr n) os).length = 1 then [fr + (n : Int)] else [] := by
  unfold oneI at h
  obtain ⟨l, h1, h⟩ := Option.bind_eq_some_iff.1 h
  obtain ⟨os, h2, h⟩ := Option.bind_eq_some_iff.1 h
  by_cases h3 : os.length ≤ 200000
  · rw [if_pos h3] at h
    exact ⟨l, os, h1, h2, h3, (Option.some.inj h).symm⟩
  · rw [if_neg h3] at h
    cases h
theorem oneI_down {k c : Nat} {fr : Int} {i : Nat} : ∀ (d : Nat) {r : List Int}, oneI k c fr (i + d) = some r → ∃ l, oneI k c fr i = some l
  | 0, r, h => ⟨r, h⟩
  | d + 1, r, h => by
    obtain ⟨l, _, h1, _⟩ := oneI_step (n := i + d) h
    exact oneI_down d h1
theorem oneI_len {k c : Nat} {fr : Int} : ∀ {n : Nat} {r : List Int}, oneI k c fr n = some r → r.length ≤ n
  | 0, r, h => by
    obtain rfl : [] = r := Option.some.inj h
    exact Nat.le_refl _
  | n + 1, r, h => by
    obtain ⟨l, os, h1, _, _, rfl⟩ := oneI_step h
    have ih := oneI_len h1
    rw [List.length_append]
    split <;> simp <;> omega
def impl_OneByOldest.f (k : Nat) (c fr tt : Int) : Option (List Int × Bool) := if lotsOk c fr tt = true then (oneI k c.toNat fr (tt - fr + 1).toNat).bind fun l => some (l, true) else some ([], false)
theorem lotX_ok (c : Nat) (h1 : 1 ≤ c) (h4 : c ≤ 4) (fr : Int) (i : Nat) : (∀ x ∈ lotX c fr i, Ages x ∧ x.length ≤ 4) ∧ (∀ x ∈ lotX c fr i, 1 ≤ x.length) ∧ (lotX c fr i).length ≤ 200000 := by
  have hal : ∀ x ∈ lotX c fr i, Ages x ∧ x.length = c := by
    intro x hx
    have := allSets_ages c [] x (fun y hy => by simp at hy) (List.mem_filter.1 hx).1
    exact ⟨this.1, by have := this.2; simp at this; omega⟩
  refine ⟨fun x hx => ⟨(hal x hx).1, by rw [(hal x hx).2]; omega⟩, fun x hx => by rw [(hal x hx).2]; omega, ?_⟩
  have h1 := List.length_filter_le (hasProd (fr + (i : Int))) (allSets c [])
  have h2 := allSets_len c [] (fun x hx => by simp at hx)
  have h3 : 20 ^ c ≤ 20 ^ 4 := Nat.pow_le_pow_right (by omega) (by omega)
  unfold lotX
  omega
/-- The list at a place, as it is told. -/
theorem Lots.told {base pb qb ob rb : Nat} {fr tt : Int} {N cap c : Nat} {W1 : World} (h : Lots base pb qb ob rb fr tt N cap (allSets c []) W1) (h1 : 1 ≤ c) (h4 : c ≤ 4) (i : Nat) (hi : i < N) : ∃ A m, W1.cell? ⟨rb, i, none⟩ = some (.slice A (lotX c fr i).length m) ∧
    ∀ (k : Nat) (os : List Int) (wr : World), Below W1.heap.size W1 wr → impl_openSums.f k (lotX c fr i) = some os → os.length ≤ 200000 →
      Calls Tryz.prog 43 #[.slice A (lotX c fr i).length m, .func (.func 44) #[] #[]] wr fun e w' => ∃ A2 m2, e = .returned (.slice A2 (toldIdx true (lotX c fr i) os).length m2) ∧ Below wr.heap.size wr w' := by
  obtain ⟨_, _, _, cur, vs, g4, _, _, g7, g8, _⟩ := h
  obtain ⟨us, A, m, hv, hm, hlu, hC, hCr, hrows⟩ := (g8 i hi).reads
  obtain ⟨k1, k2, k3⟩ := lotX_ok c h1 h4 fr i
  refine ⟨A, m, (blk_cell g4 i).trans (by rw [g7 i hi, hv]; rfl), fun k os wr hb hos hol => ?_⟩
  refine (told_calls 1 true (by decide) k A m (lotX c fr i) us os wr (Kd.C_below hC hb) hm hlu (Kd.C_below hCr hb) (fun j x hx => by obtain ⟨u, hu, hR⟩ := hrows j x hx; exact ⟨u, hu, hR.below hb⟩) k1 k2 k3 hos hol).mono ?_
  rintro e w' ⟨v, st, rfl, hR, hp, _, hb2⟩
  obtain ⟨A2, m2, rfl⟩ := Kd.R_slice hR
  refine ⟨A2, m2, ?_, hb2⟩
  rw [pickV_len, hp.length_eq]
theorem oneI_mono (k c : Nat) (fr : Int) : ∀ n, LeO (oneI k c fr n) (oneI (k + 1) c fr n)
  | 0 => LeO.refl _
  | n + 1 => by
    unfold oneI
    exact LeO.bind (oneI_mono k c fr n) (fun _ => LeO.bind (impl_openSums.mono _ _) (fun _ => LeO.refl _))
theorem impl_OneByOldest.mono : ∀ a0 a1 a2 k, LeO (impl_OneByOldest.f k a0 a1 a2) (impl_OneByOldest.f (k + 1) a0 a1 a2) := by
  intro a0 a1 a2 k
  unfold impl_OneByOldest.f
  by_cases h : lotsOk a0 a1 a2 = true
  · rw [if_pos h, if_pos h]
    exact LeO.bind (oneI_mono k _ _ _) (fun _ => LeO.refl _)
  · rw [if_neg h, if_neg h]
    exact LeO.refl _
set_option maxHeartbeats 8000000 in
theorem impl_OneByOldest.calls (k : Nat) (c fr tt : Int) (r1 : List Int) (r2 : Bool) (W : World) (h : impl_OneByOldest.f k c fr tt = some (r1, r2)) :
    Calls Tryz.prog 34 #[.int .i64 c, .int .i64 fr, .int .i64 tt] W fun e w' => ∃ v0_ : Value, e = .returned (.tuple #[v0_, .bool r2]) ∧ Kd.R (Kd.int .i64) 3 w' W.heap.size (fun _ => True) v0_ r1 ∧ Below W.heap.size W w' := by
  unfold impl_OneByOldest.f at h
  cases hp : lotsOk c fr tt with
  | false =>
    have HP := Aside0.mk (products_no c fr tt hp)
    rw [hp, if_neg (by simp)] at h
    simp only [Option.some.injEq, Prod.mk.injEq] at h
    obtain ⟨rfl, rfl⟩ := h
    clear hp
    go_enter Tryz.func34, Tryz.ntmps34
    go_wp2_with (go_at_call 72; (with_reducible refine (HP.out _).mono ?_); rintro e w' ⟨rfl, hb⟩; have HB := Aside0.mk hb; clear hb)
    go_ret2
    exact ⟨_, rfl, Kd.R_nil _ _ _ _ _, HB.out⟩
  | true =>
    have HP := Aside0.mk (products_yes c fr tt hp)
    rw [hp, if_pos rfl] at h
    obtain ⟨l0, hl0, h⟩ := Option.bind_eq_some_iff.1 h
    simp only [Option.some.injEq, Prod.mk.injEq] at h
    obtain ⟨rfl, rfl⟩ := h
    have hk : 1 ≤ c ∧ c ≤ 4 ∧ 1 ≤ fr ∧ fr ≤ 160000 ∧ fr ≤ tt ∧ tt ≤ 160000 := by
      unfold lotsOk at hp
      simp only [Bool.and_eq_true, decide_eq_true_eq] at hp
      omega
    obtain ⟨N, hN⟩ : ∃ N, N = (tt - fr + 1).toNat := ⟨_, rfl⟩
    have hN1 : N ≤ 160000 := by omega
    rw [← hN] at hl0
    have HP := Aside0.mk (fun W => by have h := HP.out W; rw [← hN] at h; exact h)
    have HI := Aside0.mk (show ∀ i, i ≤ N → ∃ l, oneI k c.toNat fr i = some l from fun i hi => oneI_down (i := i) (N - i) (by rw [show i + (N - i) = N by omega]; exact hl0))
    have HL0 := Aside0.mk hl0
    have HST := Aside0.mk (fun (i : Nat) (l : List Int) (h : oneI k c.toNat fr (i + 1) = some l) => oneI_step h)
    have HLE := Aside0.mk (fun (i : Nat) (l : List Int) (h : oneI k c.toNat fr i = some l) => oneI_len h)
    clear hp hN hl0
    go_enter Tryz.func34, Tryz.ntmps34
    go_wp2_with (first | (go_at_call 72; (with_reducible refine (HP.out _).mono ?_); rintro e w1 ⟨rb, cap, rfl, ⟨pb, qb, ob, hL⟩, hb⟩; have HB := Aside0.mk hb; have HTO := Aside0.mk (fun i hi => hL.told (by omega) (by omega) i hi); clear hb hL) | ((with_reducible refine gate_dst (N := 22) rfl ?_); refine Kd.R_lit (Kd.int .i64) _ 3 ?hg (N := 22) ?hd (xs := ([] : List Int)) (inner := []) (ok := fun _ => True) (okp := fun _ => True) ?hr ?hp (fun _ hk => hk) trivial (Below.refl _ _) (Nat.le_refl _) (by simp) ?_; (case hd => rfl); (case hg => rfl); (case hr => first | (go_simp; done) | (go_simp; rfl)); (case hp => exact (Reps.none _ _)); intro v3 w3 ho4 hb hg_ hnew_; clear hg_ hnew_; have HO := Aside0.mk ho4; have HB1 := Aside0.mk hb; clear ho4 hb))
    obtain ⟨adr, hadr⟩ : ∃ adr : Addr, adr = ⟨rb, 0, none⟩ := ⟨_, rfl⟩
    have HADD := Aside0.mk (show ∀ k, adr.add k = ⟨rb, k, none⟩ from fun k => by first | rw [hadr, add_at, Nat.zero_add] | rw [hadr, add_at])
    rw [← hadr]
    clear hadr
    go_loopw [10, 25] (fun v10 v25 wr => ∃ (i : Nat) (l : List Int), i ≤ N ∧ v25 = .int .i64 (i : Int) ∧ oneI k c.toNat fr i = some l ∧ Aside0 ((Kd.int .i64).R 3 wr w1.heap.size (fun _ => True) v10 l) ∧ Aside0 (Below w1.heap.size w1 wr)) (fun _ v25 _ => N - (intOf v25).toNat)
    case atStart => exact ⟨0, [], Nat.zero_le _, rfl, rfl, HO, HB1⟩
    case round =>
      obtain ⟨i, l, hi, rfl, hl, HO2, HB2⟩ := hrel
      by_cases hlt : i < N
      · have hlt1 : decide ((i : Int) < (N : Int)) = true := decide_eq_true (by omega)
        obtain ⟨l', hl'⟩ := HI.out (i + 1) hlt
        obtain ⟨l2, os, g1, g2, g3, g4⟩ := HST.out i l' hl'
        obtain rfl : l2 = l := Option.some.inj (g1.symm.trans hl)
        obtain ⟨A, m, hcell, htold⟩ := HTO.out i hlt
        have HT := Aside0.mk (fun (w : World) (hb : Below w1.heap.size w1 w) => htold k os w hb g2 g3)
        have hci : wr.cell? (adr.add i) = some (.slice A (lotX c.toNat fr i).length m) := by rw [HADD.out]; exact pw_cell_below HB2.out hcell
        have hll := HLE.out i l2 g1
        have HL' := Aside0.mk hl'
        have p1 : (i : Int) < (N : Int) := by omega
        obtain ⟨Ao, co, rfl⟩ := Kd.R_slice HO2.out
        obtain ⟨n, hn⟩ : ∃ n, n = (lotX c.toNat fr i).length := ⟨_, rfl⟩
        obtain ⟨tn, htn⟩ : ∃ tn, tn = (toldIdx true (lotX c.toNat fr i) os).length := ⟨_, rfl⟩
        rw [← hn] at HT hci
        rw [← htn] at HT g4
        clear g1 g2 g3 hl hl' hcell htold hn htn
        by_cases h1 : tn = 1
        · rw [if_pos h1] at g4
          subst h1
          have HG4 := Aside0.mk g4
          clear g4
          go_wp2_with (first | (go_at_call 43; (with_reducible refine (HT.out _ HB2.out).mono ?_); rintro e w4 ⟨A2, m2, rfl, hb4⟩; have HB4 := Aside0.mk hb4; clear hb4) | ((with_reducible refine gate_builtin (b := .append) (xs := #[.tmp 34, .tmp 38]) rfl ?_); at_builtin; refine Kd.R_append (Kd.int .i64) (w0 := w1) w1.heap.size rfl (.tmp 34) (.tmp 38) 31 3 (.int .i64 0) 8 rfl Tryz.underlying31 info3 rfl (by decide) (by omega) _ l2 (fr + (i : Int)) [.int .i64 (fr + (i : Int))] (fun _ => True) (fun _ => False) rfl rfl ?aP (fun _ hk => hk.elim) ?aF ?aO ?aB ?aS ?aL ?_; (case aP => exact rfl); (case aB => exact below_step HB2.out HB4.out); (case aF => exact fun _ _ => trivial); (case aO => exact Kd.R_below HO2.out HB4.out); (case aS => exact (below_step HB2.out HB4.out).size); (case aL => omega); intro v5 w5 ho hb hg hat; have HO5 := Aside0.mk ho; have HB5 := Aside0.mk hb; clear ho hb hg hat))
          go_roundw
          case rel => exact ⟨i + 1, _, by omega, by go_num, HL'.out, ⟨by rw [HG4.out]; exact HO5.out⟩, HB5⟩
          case measure => simp [intOf]; omega
        · rw [if_neg h1, List.append_nil] at g4
          have hq : ((tn : Int) == 1) = false := by simp; omega
          have hq' : (tn == 1) = false := by simp; omega
          have HG4 := Aside0.mk g4
          clear g4 h1
          go_wp2_with (go_at_call 43; (with_reducible refine (HT.out _ HB2.out).mono ?_); rintro e w4 ⟨A2, m2, rfl, hb4⟩; have HB4 := Aside0.mk hb4; clear hb4)
          go_roundw
          case rel => exact ⟨i + 1, _, by omega, by go_num, HL'.out, ⟨by rw [HG4.out]; exact Kd.R_below HO2.out HB4.out⟩, ⟨below_step HB2.out HB4.out⟩⟩
          case measure => simp [intOf]; omega
      · obtain rfl : i = N := by omega
        have hlt1 : decide ((i : Int) < (i : Int)) = false := decide_eq_false (by omega)
        obtain rfl : l = l0 := Option.some.inj (hl.symm.trans HL0.out)
        clear hl
        go_wp2
        go_ret2
        exact ⟨_, rfl, Kd.R_lower HO2.out HB.out.size, below_then HB.out HB.out.size HB2.out⟩

end Go.Proofs.YtlbnhjeblknepaaGreat.E
