-- WRITTEN by xprint.py, a program of this session that drives the kit's printer: out of the translation. Lean checks it.
import Derived.Test.YtdolhnamodchmaaE0
import Derived.Test.YtdolhnamodchmaaE1
import Derived.Test.YtdolhnamodchmaaE2
import Derived.Test.YtdolhnamodchmaaE3
import Derived.Test.YtdolhnamodchmaaE5
import Derived.Test.YtdolhnamodchmaaE6
import Derived.Test.YtdolhnamodchmaaE8
import Derived.Test.YtdolhnamodchmaaE9
import Derived.Test.YtdolhnamodchmaaE10
import Derived.Test.YtdolhnamodchmaaE11
import Derived.Test.YtdolhnamodchmaaWKept
namespace Go.Proofs.Ytdolhnamodchmaa.E
open Go.RowKit Go.Proofs.YtdolhnamodchmaaW.PrintWords Go.Proofs.YtdolhnamodchmaaW.PrintLast
set_option linter.unusedVariables false
set_option linter.unusedSimpArgs false

-- OURS, BY HAND
/-! ### laws_FnExactBirthdaysOf: function 3 -/
-- func laws.FnExactBirthdaysOf
-- ext rounds=1 making=1
-- seat Ytdolhnamodchmaa
-- needs laws.szDateS
-- needs laws.toDateS
-- needs laws.eqDateS
-- needs laws.markDateS
-- needs spec.BirthdaysOf
-- needs impl.BirthdaysOf
-- needs laws.eqIntSS
-- needs laws.markIntSS
-- needs laws.heldIntSS
theorem Sep.kept {w W : World} {base : Nat} {v : Value} {us : List Value} {xs : List (List Int)} {S : Nat → Prop} (h : Sep w base v us xs) (hk : Kept w W S) (hS : ∀ k, base ≤ k → ¬ S k) : Sep W base v us xs := by
  refine ⟨own_move h.row (fun k hk' => ?_), h.len, fun j u x hu hx => Kd.R_mono (Kd.R_kept (Kd.R_mono (Kd.R_bound (h.inn j u x hu hx)) (ok' := fun k => base ≤ k) (fun k hk => hk.2.1)) hk hS) (fun _ _ => trivial), h.dis⟩
  rcases h.row.2 with ⟨e, _⟩ | ⟨g, cap, cur, e, hb, hc, _⟩
  · rw [e] at hk'; cases hk'
  · rw [e] at hk'
    obtain rfl : g = k := Option.some.inj hk'
    exact hk.2 g (blk_lt hc) (hS g hb)
theorem Sep.lower {w : World} {b b' : Nat} {v : Value} {us : List Value} {xs : List (List Int)} (h : Sep w b v us xs) (hb : b' ≤ b) : Sep w b' v us xs := by
  refine ⟨⟨h.row.1, ?_⟩, h.len, fun j u x hu hx => Kd.R_lower (h.inn j u x hu hx) hb, h.dis⟩
  rcases h.row.2 with h1 | ⟨g, cap, cur, e, h2, h3⟩
  · exact .inl h1
  · exact .inr ⟨g, cap, cur, e, Nat.le_trans hb h2, h3⟩
set_option maxHeartbeats 8000000 in
set_option maxRecDepth 100000 in
theorem laws_FnExactBirthdaysOf.rows_walk (A0 : Option Addr) (c0 : Nat) (l0 : List S39) (w : World) (k : Nat) (sz : Int) (t t' : List S37) (r1 x : List (List Int)) (r2 : Bool) (m rm : Int) (hr0 : Kd.C k39 w A0 l0.length l0) (hc0 : l0.length ≤ c0)
    (hz : laws_szDateS.f l0 1048576 = some sz) (hz0 : 0 ≤ sz) (ht : laws_toDateS.f k l0 = some t) (hs : spec_BirthdaysOf.f k t = some (r1, r2)) (hi : impl_BirthdaysOf.f k t = some (r1, r2)) (heD : laws_eqDateS.f k t t = some true) (hmD : laws_markDateS.f k t 1 = some (rm, t')) (hrm : 0 ≤ rm)
    (heq : laws_eqIntSS.f k r1 r1 = some true) (hm : markSS k r1 1 = some (m, x)) (hh : laws_heldIntSS.f k x 1 = some m) (hm0 : 0 ≤ m) :
    Calls Try.prog 3 #[.slice A0 l0.length c0] w fun e w' => e = .returned (.bool true) ∧ Below w.heap.size w w' := by
  have HR0 := Aside0.mk hr0
  have HZ := Aside0.mk (laws_szDateS.calls A0 c0 l0 1048576 sz w hr0 hc0 hz)
  have HT := Aside0.mk (fun W (h : Kd.C k39 W A0 l0.length l0) => laws_toDateS.calls k A0 c0 l0 t W h hc0 ht)
  have HS := Aside0.mk (fun A c W (h : Kd.C k37 W A t.length t) (hc : t.length ≤ c) => spec_BirthdaysOf.calls k A c t r1 r2 W h hc hs)
  have HI := Aside0.mk (fun A c W (h : Kd.C k37 W A t.length t) (hc : t.length ≤ c) => impl_BirthdaysOf.calls k A c t r1 r2 W h hc hi)
  have HED := Aside0.mk heD
  have HMD := Aside0.mk hmD
  have HEQ := Aside0.mk heq
  have HM := Aside0.mk hm
  have HH := Aside0.mk hh
  have z1 : decide (sz < 0) = false := decide_eq_false (by omega)
  have z2 : decide (rm < 0) = false := decide_eq_false (by omega)
  clear hs hi heq hm hh hr0 hz ht heD hmD
  go_enter Try.func3, Try.ntmps3
  go_wp2_with (go_at_call 4; (with_reducible refine HZ.out.mono ?_); rintro e w' ⟨rfl, ⟨n0, rfl⟩⟩)
  refine (HT.out _ (Kd.C_drewN HR0.out n0)).mono ?_
  rintro e w1 ⟨v1, rfl, hR1, hb1⟩
  obtain ⟨A1, c1, rfl, hc1, hC1⟩ := Kd.R_reads hR1
  have HB1 := Aside0.mk (show Below w.heap.size w w1 from below_then (pw_below_drewN (Below.refl _ _) n0) (Nat.le_refl _) hb1)
  have HC1 := Aside0.mk hC1
  clear hb1 hC1 hR1
  go_wp2_with fail
  refine (HS.out A1 c1 _ HC1.out hc1).mono ?_
  rintro e w2 ⟨v2, rfl, hS2, hb2⟩
  obtain ⟨us2, hs2⟩ := Sep.of_S hS2
  obtain ⟨A, c, rfl, hc, hC⟩ := hs2.reads
  have HB2 := Aside0.mk (show Below w.heap.size w w2 from below_step HB1.out hb2)
  have HC2 := Aside0.mk hC
  clear hb2 hC hS2 hs2 us2
  go_wp2_with fail
  refine (HT.out _ (Kd.C_below HR0.out HB2.out)).mono ?_
  rintro e w3 ⟨v3, rfl, hR3, hb3⟩
  obtain ⟨A3, c3, rfl, hc3, hC3⟩ := Kd.R_reads hR3
  have HB3 := Aside0.mk hb3
  have HC3 := Aside0.mk hC3
  have HR3 := Aside0.mk hR3
  clear hb3 hC3 hR3
  go_wp2_with fail
  refine (HI.out A3 c3 _ HC3.out hc3).mono ?_
  rintro e w4 ⟨v4, rfl, hS4, hb4⟩
  obtain ⟨us4, hs4⟩ := Sep.of_S hS4
  obtain ⟨A4, c4, rfl, hc4, hC4⟩ := hs4.reads
  have HB4 := Aside0.mk (show Below w2.heap.size w2 w4 from below_step HB3.out hb4)
  have HB34 := Aside0.mk hb4
  have HS4 := Aside0.mk hs4
  have HE4 := Aside0.mk (laws_eqIntSS.calls k A4 c4 r1 A c r1 true w4 hC4 hc4 (Kd.C_below HC2.out HB4.out) hc HEQ.out)
  clear hS4 hb4 hC4 hs4
  go_wp2_with (go_at_call 8; (with_reducible refine HE4.out.mono ?_); rintro e w' ⟨rfl, ⟨n4, rfl⟩⟩)
  have hb4' := pw_below_drewN (Below.refl w4.heap.size w4) n4
  refine (HT.out _ (Kd.C_below (Kd.C_below HR0.out HB2.out) (below_then HB4.out HB4.out.size hb4'))).mono ?_
  rintro e w5 ⟨v5, rfl, hR5, hb5⟩
  obtain ⟨A5, c5, rfl, hc5, hC5⟩ := Kd.R_reads hR5
  have HB45 := Aside0.mk (show Below w4.heap.size w4 w5 from below_then hb4' (Nat.le_refl _) hb5)
  have HC5 := Aside0.mk hC5
  clear hR5 hb5 hC5 hb4'
  go_wp2_with fail
  refine (laws_eqDateS.calls k A3 c3 t A5 c5 t true w5 (Kd.C_below HC3.out (below_step HB34.out HB45.out)) hc3 HC5.out hc5 HED.out).mono ?_
  rintro e w6 ⟨rfl, hb6⟩
  have HB46 := Aside0.mk (show Below w4.heap.size w4 w6 from below_step HB45.out hb6)
  clear hb6
  go_wp2_with fail
  refine (laws_markDateS.calls k (fun k => k < w3.heap.size) _ t 1 rm t' w2 w6 (below_then HB4.out HB4.out.size HB46.out) (Kd.R_lower (Kd.R_below (Kd.R_mono (Kd.R_bound HR3.out) (fun k hk => hk.2.2.1)) (below_step HB34.out HB46.out)) (Nat.le_refl _)) HMD.out).mono ?_
  rintro e w7 ⟨rfl, hR7, hb7, hk7⟩
  have hS7 : Sep w7 w3.heap.size (.slice A4 r1.length c4) us4 r1 := (HS4.out.below HB46.out).kept hk7 (fun k hk hlt => by omega)
  obtain ⟨A7, c7, e7, hc7, hC7⟩ := hS7.reads
  obtain ⟨rfl, rfl⟩ : A7 = A4 ∧ c7 = c4 := by injection e7 with e5 _ e6; exact ⟨e5.symm, e6.symm⟩
  have HE7 := Aside0.mk (laws_eqIntSS.calls k A7 c7 r1 A c r1 true w7 hC7 hc7 (Kd.C_below HC2.out hb7) hc HEQ.out)
  have HS7 := Aside0.mk (hS7.lower HB3.out.size)
  have HB7 := Aside0.mk hb7
  clear e7 hS7 hC7 hR7 hb7 hk7
  go_wp2_with (go_at_call 8; (with_reducible refine HE7.out.mono ?_); rintro e w' ⟨rfl, ⟨n7, rfl⟩⟩)
  refine (markIntSS_calls k _ us4 r1 x 1 m w2 _ (pw_below_drewN HB7.out n7) (HS7.out.below (pw_below_drewN (Below.refl _ _) n7)) HM.out).mono ?_
  rintro e w8 ⟨rfl, hS8, hB8⟩
  have HS8 := Aside0.mk hS8
  have HB8 := Aside0.mk hB8
  obtain ⟨A8, c8, e8, hc8, hC8⟩ := hS8.reads
  have hxl : x.length = r1.length := by have := hS8.len; have := HS7.out.len; omega
  obtain ⟨rfl, rfl⟩ : A8 = A7 ∧ c8 = c7 := by injection e8 with e5 _ e6; exact ⟨e5.symm, e6.symm⟩
  clear e8
  have hH8 := laws_heldIntSS.calls k A8 c8 x 1 m w8 hC8 hc8 HH.out
  rw [hxl] at hH8
  have HH8 := Aside0.mk hH8
  have hmm : (m == m) = true := by simp
  have hmn : decide (m < 0) = false := decide_eq_false (by omega)
  clear hS8 hB8 hH8 hC8
  go_wp2_with (go_at_call 12; (with_reducible refine HH8.out.mono ?_); rintro e w' ⟨rfl, ⟨n9, rfl⟩⟩)
  have hb9 := pw_below_drewN (Below.refl w8.heap.size w8) n9
  refine (HT.out _ (Kd.C_below (Kd.C_below HR0.out HB2.out) (below_then HB8.out HB8.out.size hb9))).mono ?_
  rintro e w10 ⟨v10, rfl, hR10, hb10⟩
  obtain ⟨A10, c10, rfl, hc10, hC10⟩ := Kd.R_reads hR10
  have HB810 := Aside0.mk (show Below w8.heap.size w8 w10 from below_then hb9 (Nat.le_refl _) hb10)
  have HC10 := Aside0.mk hC10
  clear hR10 hb10 hC10 hb9
  go_wp2_with fail
  refine (HI.out A10 c10 _ HC10.out hc10).mono ?_
  rintro e w11 ⟨v11, rfl, hS11, hb11⟩
  obtain ⟨us11, hs11⟩ := Sep.of_S hS11
  obtain ⟨A11, c11, rfl, hc11, hC11⟩ := hs11.reads
  have HB811 := Aside0.mk (show Below w8.heap.size w8 w11 from below_step HB810.out hb11)
  have HE11 := Aside0.mk (laws_eqIntSS.calls k A11 c11 r1 A c r1 true w11 hC11 hc11 (Kd.C_below HC2.out (below_then HB8.out HB8.out.size HB811.out)) hc HEQ.out)
  clear hS11 hb11 hC11 hs11
  go_wp2_with (go_at_call 8; (with_reducible refine HE11.out.mono ?_); rintro e w' ⟨rfl, ⟨n11, rfl⟩⟩)
  have hS12 := HS8.out.below (pw_below_drewN HB811.out n11)
  obtain ⟨A12, c12, e12, hc12, hC12⟩ := hS12.reads
  obtain ⟨rfl, rfl⟩ : A12 = A8 ∧ c12 = c8 := by injection e12 with e5 _ e6; exact ⟨e5.symm, e6.symm⟩
  clear e12
  have hH12 := laws_heldIntSS.calls k A12 c12 x 1 m _ hC12 hc12 HH.out
  rw [hxl] at hH12
  have HH12 := Aside0.mk hH12
  clear hS12 hC12 hH12
  go_wp2_with (go_at_call 12; (with_reducible refine HH12.out.mono ?_); rintro e w' ⟨rfl, ⟨n12, rfl⟩⟩)
  go_ret
  exact ⟨rfl, below_then HB2.out HB2.out.size (by repeat (first | exact below_then HB8.out HB8.out.size HB811.out | apply pw_below_drewN))⟩
def laws_FnExactBirthdaysOf.Pure : Prop := ∀ (l0 : List (S39)), l0.length ≤ maxLen → l0.length * 16 ≤ 140737488351232 → (∀ x ∈ l0, (Lit.int .i64 x.f0).wf = true ∧ (Lit.int .i64 x.f1).wf = true) →
  ∃ k sz, laws_szDateS.f l0 1048576 = some sz ∧ (0 ≤ sz → ∃ t t' r1 x r2 m rm, laws_toDateS.f k l0 = some t ∧ spec_BirthdaysOf.f k t = some (r1, r2) ∧ impl_BirthdaysOf.f k t = some (r1, r2) ∧ laws_eqDateS.f k t t = some true ∧ laws_markDateS.f k t 1 = some (rm, t') ∧ 0 ≤ rm ∧
    laws_eqIntSS.f k r1 r1 = some true ∧ markSS k r1 1 = some (m, x) ∧ laws_heldIntSS.f k x 1 = some m ∧ 0 ≤ m)
set_option maxHeartbeats 8000000 in
set_option maxRecDepth 100000 in
theorem laws_FnExactBirthdaysOf.walk (P : laws_FnExactBirthdaysOf.Pure) (a0 : Option Addr) (cap0 : Nat) (l0 : List S39) (w : World) (hr0 : Kd.C k39 w a0 l0.length l0) (hc0 : l0.length ≤ cap0) (hm0 : l0.length ≤ maxLen) (y0 : l0.length * 16 ≤ 140737488351232) (hw0 : (∀ x ∈ l0, (Lit.int .i64 x.f0).wf = true ∧ (Lit.int .i64 x.f1).wf = true)) :
    Calls Try.prog 3 #[.slice a0 l0.length cap0] w fun e w' => e = .returned (.bool true) ∧ Below w.heap.size w w' := by
  obtain ⟨k, sz, hz, hgo⟩ := P l0 hm0 y0 hw0
  by_cases h0 : 0 ≤ sz
  · obtain ⟨t, t', r1, x, r2, m, rm, h1, h2, h3, h4, h5, h6, h7, h8, h9, h10⟩ := hgo h0
    exact laws_FnExactBirthdaysOf.rows_walk a0 cap0 l0 w k sz t t' r1 x r2 m rm hr0 hc0 hz h0 h1 h2 h3 h4 h5 h6 h7 h8 h9 h10
  · have HZ := Aside0.mk (laws_szDateS.calls a0 cap0 l0 1048576 sz w hr0 hc0 hz)
    have z1 : decide (sz < 0) = true := decide_eq_true (by omega)
    clear hr0 hz hgo
    go_enter Try.func3, Try.ntmps3
    go_wp2_with (go_at_call 4; (with_reducible refine HZ.out.mono ?_); rintro e w' ⟨rfl, ⟨n0, rfl⟩⟩)
    go_ret
    exact ⟨rfl, pw_below_drewN (Below.refl _ _) n0⟩

end Go.Proofs.Ytdolhnamodchmaa.E
