-- WRITTEN by xprint.py, a program of this session that drives the kit's printer: out of the translation. Lean checks it.
import Derived.Test.YtjfdehjkdbcneaaGreatE0
import Derived.Test.YtjfdehjkdbcneaaGreatE4
import Derived.Test.YtjfdehjkdbcneaaGreatE6
import Derived.Test.YtjfdehjkdbcneaaGreatE7
import Derived.Test.YtjfdehjkdbcneaaGreatWm
namespace Go.Proofs.YtjfdehjkdbcneaaGreat.E
open Go.RowKit Go.Proofs.YtjfdehjkdbcneaaGreatW.PrintWords Go.Proofs.YtjfdehjkdbcneaaGreatW.PrintLast Go.Proofs.YtjfdehjkdbcneaaGreatW.PrintMore
attribute [local go_sem] max2_int min2_int max_two min_two max_three min_three max_four min_four   -- for this text's walks alone
set_option linter.unusedVariables false
set_option linter.unusedSimpArgs false

-- OURS, BY HAND
/-! ### impl_setsOfSum: function 35 -/
-- func impl.setsOfSum
-- ext rounds=0 making=1
-- needs impl.sets
-- needs impl.total
-- needs impl.isSum
def sumL (l : List Int) : Int := l.foldl (· + ·) 0
/-- what is kept while sets are gathered: the two captured boxes, the number that is looked for, the list of those found. -/
def GotS (base p q r : Nat) (t : Int) (Q : Int → List Int → Bool) (done : List (List Int)) (W : World) : Prop :=
  W.heap[p]? = some (.cells #[.func (.func 63) #[] #[.pointer (some ⟨r, 0, none⟩)]] 36 (0, 0)) ∧ W.heap[r]? = some (.cells #[.int .i64 t] 3 (0, 0)) ∧
    ∃ v, W.heap[q]? = some (.cells #[v] 26 (0, 0)) ∧ Kd.S (Kd.slice 3 (Kd.int .i64)) 29 W base (fun _ => True) v (done.filter (Q t))
theorem GotS.below {base p q r : Nat} {t : Int} {Q : Int → List Int → Bool} : ∀ (done : List (List Int)) (W W' : World), GotS base p q r t Q done W → Below W.heap.size W W' → GotS base p q r t Q done W' := by
  intro done W W' h hb
  obtain ⟨h1, h2, v, h3, h4⟩ := h
  exact ⟨(hb.block p (blk_lt h1)).trans h1, (hb.block r (blk_lt h2)).trans h2, v, (hb.block q (blk_lt h3)).trans h3, Kd.S_below h4 hb⟩
def AsksS (Q : Int → List Int → Bool) : Prop := ∀ (t : Int) (s : List Int) (v : Value) (r b : Nat) (W : World), Ages s → s.length ≤ 4 → (Kd.int .i64).R 3 W b (fun _ => True) v s → W.heap[r]? = some (.cells #[.int .i64 t] 3 (0, 0)) →
  Calls Tryz.prog 63 #[v, .pointer (some ⟨r, 0, none⟩)] W fun e w' => e = .returned (.bool (Q t s)) ∧ Drawn0 W w'
set_option maxHeartbeats 8000000 in
set_option maxRecDepth 100000 in
theorem gotS_step (base p q r : Nat) (t : Int) (Q : Int → List Int → Bool) (hQ : AsksS Q) (hp : base ≤ p) (hq : base ≤ q) : SetStep base p q (GotS base p q r t Q) := by
  intro done s W0 W v hI hb hbase h4 ha hd hR
  obtain ⟨k1, k2, vo, k3, k4⟩ := hI
  have g1 := (hb.block p (blk_lt k1)).trans k1
  have g2 := (hb.block r (blk_lt k2)).trans k2
  have g3 := (hb.block q (blk_lt k3)).trans k3
  have gS := Kd.S_elder' k4 (Kd.R_base hR) hb
  have hbW : base ≤ W.heap.size := Nat.le_trans hbase hb.size
  have hc1 : W.cell? ⟨p, 0, none⟩ = some (.func (.func 63) #[] #[.pointer (some ⟨r, 0, none⟩)]) := (blk_cell g1 0).trans rfl
  have hcall := hQ t s v r _ W ha h4 hR g2
  obtain ⟨A, c, rfl⟩ := Kd.R_slice hR
  have HS := Aside0.mk gS
  have HR := Aside0.mk hR
  have HB := Aside0.mk hb
  have G1 := Aside0.mk g1
  have G2 := Aside0.mk g2
  have G3 := Aside0.mk g3
  have HBW := Aside0.mk hbW
  cases hqs : Q t s with
  | false =>
    rw [hqs] at hcall
    have HC := Aside0.mk hcall
    have HF := Aside0.mk hqs
    clear k1 k2 k3 k4 g1 g2 g3 gS hbW hcall hR hb hqs
    go_enter Tryz.func81, Tryz.ntmps81
    go_wp2_with (go_at_call 63; (with_reducible refine HC.out.mono ?_); rintro e w' ⟨rfl, ⟨nd, rfl⟩⟩)
    (first | go_end0 | ((try simp only [Exit.inBlock, Exit.then]); refine bodyPost_ret (results_none rfl _ _ _) rfl ?_))
    refine ⟨rfl, ⟨G1.out, G2.out, vo, G3.out, ?_⟩, Eff.of_below (pw_below_drewN (Below.refl _ _) nd) HBW.out⟩
    rw [List.filter_append]
    have : [s].filter (Q t) = [] := by simp [HF.out]
    rw [this, List.append_nil]
    exact Kd.S_drewN (Kd.S_drop HS.out) nd
  | true =>
    rw [hqs] at hcall
    have HC := Aside0.mk hcall
    have HF := Aside0.mk hqs
    obtain ⟨Ao, co, rfl⟩ := Kd.S_slice gS
    have hc3 : W.cell? ⟨q, 0, none⟩ = some (.slice Ao (done.filter (Q t)).length co) := (blk_cell g3 0).trans rfl
    have hty := Kd.S_typed gS
    have HTY := Aside0.mk hty
    have HD := Aside0.mk (Nat.lt_of_le_of_lt (List.length_filter_le (Q t) done) hd)
    have HRT := Aside0.mk (Kd.R_mono (Kd.R_tight rfl (Kd.R_apart' (Kd.R_lower hR hbase) hty (by decide))) (fun _ h => h))
    have HRA := Aside0.mk (Kd.R_apart' (Kd.R_lower hR hbase) hty (by decide)).1
    clear k1 k2 k3 k4 g1 g2 g3 gS hbW hcall hR hb hqs hty
    go_enter Tryz.func81, Tryz.ntmps81
    go_wp2_with (first | (go_at_call 63; (with_reducible refine HC.out.mono ?_); rintro e w' ⟨rfl, ⟨nd, rfl⟩⟩) | ((with_reducible refine gate_builtin (b := .append) (xs := #[.tmp 7, .tmp 9]) rfl ?_); at_builtin; refine Kd.S_append (Kd.slice 3 (Kd.int .i64)) (w0 := W) base rfl (.tmp 7) (.tmp 9) 26 29 (.slice none 0 0) 24 rfl Tryz.underlying26 infoRows rfl (by decide) (by omega) (.slice Ao (done.filter (Q t)).length co) (done.filter (Q t)) s [.slice A s.length c] (fun _ => True) (fun k_ => some k_ = (.slice A s.length c : Value).ownBlock) rfl rfl ?aP (fun k_ hk_ => ⟨trivial, (HRA.out k_ hk_.symm).2⟩) (fun _ _ => trivial) ?aO ?aB ?aS ?aL ?_; (case aP => exact Kd.M_row (by (with_reducible repeat (first | apply Kd.R_alloc | apply Kd.R_drewN)); exact HRT.out)); (case aO => exact Kd.S_drewN (Kd.S_mono HS.out (fun _ hk => ⟨trivial, fun e_ => hk.2 e_⟩)) _); (case aB => exact pw_below_drewN (Below.refl _ _) _); (case aS => exact HBW.out); (case aL => have := HD.out; omega); intro v1 w1 ho hb hg hat; have gq1 := blk_grown (blk_drewN G3.out nd) hg (fun he => by obtain ⟨_, hx⟩ := HTY.out q he.symm; rw [G3.out] at hx; cases hx); have hc4 := blk_cell gq1 0; have hfz4 := blk_frozen gq1 0; obtain ⟨A1, c1, rfl⟩ := Kd.S_slice ho; have HO := Aside0.mk ho; have HB1 := Aside0.mk hb; have HG := Aside0.mk hg; have GQ1 := Aside0.mk gq1; clear ho hb hg hat gq1; simp only [List.getElem?_toArray, List.getElem?_cons_zero] at hc4))
    (first | go_end0 | ((try simp only [Exit.inBlock, Exit.then]); refine bodyPost_ret (results_none rfl _ _ _) rfl ?_))
    have gp1 := blk_grown (blk_drewN G1.out nd) HG.out (fun he => by obtain ⟨_, hx⟩ := HTY.out p he.symm; rw [G1.out] at hx; cases hx)
    have gr1 := blk_grown (blk_drewN G2.out nd) HG.out (fun he => by obtain ⟨_, hx⟩ := HTY.out r he.symm; rw [G2.out] at hx; cases hx)
    refine ⟨rfl, ⟨blk_far gp1 (blk_ne gp1 GQ1.out (by decide)) _, blk_far gr1 (blk_ne gr1 GQ1.out (by decide)) _, _, one_setCell GQ1.out, ?_⟩, ?_, ?_, ?_⟩
    · rw [List.filter_append]
      have : [s].filter (Q t) = [s] := by simp [HF.out]
      rw [this]
      have hz := Kd.S_set HO.out GQ1.out (by decide) 0 (.slice A1 ((done.filter (Q t)).length + 1) c1)
      rw [List.length_append] at hz
      exact hz
    · exact HB1.out.setCell hq _
    · have h1 := HG.out.size
      simpa using h1
    · intro k cells hk
      have h1 := blk_grown (blk_drewN hk nd) HG.out (fun he => by obtain ⟨_, hx⟩ := HTY.out k he.symm; rw [hk] at hx; cases hx)
      exact (blk_far h1 (blk_ne h1 GQ1.out (by decide)) _).trans hk.symm
set_option maxHeartbeats 8000000 in
set_option maxRecDepth 100000 in
theorem setsThatS_calls (r : Nat) (t : Int) (Q : Int → List Int → Bool) (hQ : AsksS Q) (c : Nat) (h4 : c ≤ 4) (W : World) (hr : W.heap[r]? = some (.cells #[.int .i64 t] 3 (0, 0))) :
    Calls Tryz.prog 62 #[.int .i64 c, .func (.func 63) #[] #[.pointer (some ⟨r, 0, none⟩)]] W fun e w' => ∃ v, e = .returned v ∧ Kd.S (Kd.slice 3 (Kd.int .i64)) 29 w' W.heap.size (fun _ => True) v ((allSets c []).filter (Q t)) ∧ Below W.heap.size W w' := by
  have HS := Aside0.mk (fun (q : Nat) (W' : World) (hq : W.heap.size ≤ q) (hG : GotS W.heap.size W.heap.size q r t Q [] W') (hs : W.heap.size ≤ W'.heap.size) =>
    sets_calls W.heap.size W.heap.size q _ (gotS_step W.heap.size W.heap.size q r t Q hQ (Nat.le_refl _) hq) GotS.below c c [] (.slice none 0 0) [] W' W' (by simp) h4 (fun x hx => by simp at hx) hG (Below.refl _ _) hs (by have h1 : 20 ^ c ≤ 20 ^ 4 := Nat.pow_le_pow_right (by omega) h4; simp; omega) (Kd.R_nil _ _ _ _ _))
  have HR := Aside0.mk hr
  clear hr
  go_enter Tryz.func62, Tryz.ntmps62
  go_wp2_with (first | ((with_reducible refine gate_dst (N := 6) rfl ?_); refine Kd.S_lit (Kd.slice 3 (Kd.int .i64)) (w0 := W) W.heap.size 29 ?hg (N := 6) ?hd (xs := ([] : List (List Int))) (inner := []) (ok := fun _ => True) (okp := fun _ => True) ?hr ?hp (fun _ hk => hk) trivial ?hB ?hS (by simp) ?_; (case hd => rfl); (case hg => rfl); (case hr => first | (go_simp; done) | (go_simp; rfl)); (case hp => exact (Reps.none _ _)); (case hB => exact below_alloc (Below.refl _ _) _); (case hS => simp); intro v1 w1 ho hb hg hnew; obtain ⟨A1, c1, rfl⟩ := Kd.S_slice ho; have HO := Aside0.mk ho; have HB1 := Aside0.mk hb; have HG := Aside0.mk hg; have GP := Aside0.mk (blk_grown (blk_new W _) hg (by simp)); have GR := Aside0.mk (blk_grown (blk_alloc HR.out _) hg (by simp)); clear ho hb hg hnew) | (go_at_call 76; (with_reducible refine (HS.out _ _ ?h1 ?h2 ?h3).mono ?_); (case h1 => exact HB1.out.size); (case h2 => exact ⟨blk_alloc GP.out _, blk_alloc GR.out _, _, blk_new _ _, Kd.S_alloc HO.out _⟩); (case h3 => first | (have := HB1.out.size; simp; omega) | exact HB1.out.size); rintro e w' ⟨rfl, hI', hE⟩; obtain ⟨_, _, vo, gq, hSo⟩ := hI'; have hc5 := blk_cell gq 0; have HSO := Aside0.mk hSo; have HE := Aside0.mk hE; clear gq hSo hE; simp only [List.getElem?_toArray, List.getElem?_cons_zero] at hc5))
  go_ret
  exact ⟨vo, rfl, HSO.out, (below_alloc HB1.out _).trans HE.out.low⟩
theorem sumOn (l : List Int) (hl : l.length ≤ 4) (ha : Ages l) : ∀ (n i : Nat) (acc : Int), i + n = l.length → 0 ≤ acc → acc ≤ 20 * i → impl_total.l0 (n + 1) acc l (l.length : Int) (i : Int) = some ((l.drop i).foldl (· + ·) acc) := by
  intro n
  induction n with
  | zero =>
    intro i acc hi h0 h1
    have : ¬ ((i : Int) < (l.length : Int)) := by omega
    rw [impl_total.l0, if_neg this, List.drop_of_length_le (by omega)]
    rfl
  | succ n ih =>
    intro i acc hi h0 h1
    have hlt : i < l.length := by omega
    have hr : rd l (i : Int) = l[i] := by simp [rd, List.getD, List.getElem?_eq_getElem hlt]
    have hx := ha l[i] (List.getElem_mem hlt)
    rw [impl_total.l0, if_pos (by omega), if_pos (by omega), if_pos (by omega), hr, wrap_small (acc + l[i]) (by omega) (by omega), wrap_small ((i : Int) + 1) (by omega) (by omega)]
    have := ih (i + 1) (acc + l[i]) (by omega) (by omega) (by omega)
    rw [List.drop_eq_getElem_cons hlt, List.foldl_cons]
    exact_mod_cast this
theorem total_is (l : List Int) (hl : l.length ≤ 4) (ha : Ages l) : impl_total.f (l.length + 1) l = some (sumL l) := by
  unfold impl_total.f
  exact sumOn l hl ha l.length 0 0 (by omega) (by omega) (by simp)
def hasSum (t : Int) (s : List Int) : Bool := decide (sumL s = t)
set_option maxHeartbeats 8000000 in
set_option maxRecDepth 100000 in
theorem asks_sum : AsksS hasSum := by
  intro t s v r b W ha h4 hR hr
  obtain ⟨A, c, rfl⟩ := Kd.R_slice hR
  obtain ⟨_, hcc, hC⟩ := Kd.R_reads' hR
  have HP := Aside0.mk (fun n => impl_total.calls _ A c s _ (W.drewN n) (Kd.C_drewN hC n) hcc (total_is s h4 ha))
  have hc1 := fun m => blk_cell (blk_drewN hr m) 0
  simp only [List.getElem?_toArray, List.getElem?_cons_zero] at hc1
  have e1 : (sumL s == t) = hasSum t s := rfl
  clear hR hC
  go_enter Tryz.func63, Tryz.ntmps63
  go_wp2
  go_quiet ((go_at_call 64; (with_reducible refine (HP.out _).mono ?_); rintro e w' ⟨rfl, ⟨nd, rfl⟩⟩; exact ⟨rfl, _, World.drewN_drewN _ _ _⟩))
  go_wp2
  go_ret
  exact ⟨by rw [← e1]; rfl, ⟨_, rfl⟩⟩
def impl_setsOfSum.f (c p : Int) : Option (List (List Int) × Bool) := if 1 ≤ c ∧ c ≤ 4 ∧ 1 ≤ p ∧ p ≤ 80 then some ((allSets c.toNat []).filter (hasSum p), true) else some ([], false)
theorem impl_isSum.is_ (c : Int) : impl_isSum.f c = some (decide (1 ≤ c ∧ c ≤ 80)) := by unfold impl_isSum.f; rw [between_is]; rfl
set_option maxHeartbeats 8000000 in
set_option maxRecDepth 100000 in
theorem impl_setsOfSum.calls (c p : Int) (r1 : List (List Int)) (r2 : Bool) (W : World) (h : impl_setsOfSum.f c p = some (r1, r2)) :
    Calls Tryz.prog 35 #[.int .i64 c, .int .i64 p] W fun e w' => ∃ v, e = .returned (.tuple #[v, .bool r2]) ∧ Kd.S (Kd.slice 3 (Kd.int .i64)) 29 w' W.heap.size (fun _ => True) v r1 ∧ Below W.heap.size W w' := by
  unfold impl_setsOfSum.f at h
  have HA := Aside0.mk (fun w => impl_areChildren.calls c _ w (impl_areChildren.is_ c))
  have HB := Aside0.mk (fun w => impl_isSum.calls p _ w (impl_isSum.is_ p))
  by_cases c1 : 1 ≤ c ∧ c ≤ 4
  · rw [decide_eq_true c1] at HA
    by_cases p1 : 1 ≤ p ∧ p ≤ 80
    · rw [decide_eq_true p1] at HB
      rw [if_pos ⟨c1.1, c1.2, p1.1, p1.2⟩] at h
      obtain ⟨n, rfl⟩ : ∃ n : Nat, c = n := ⟨c.toNat, by omega⟩
      simp only [Option.some.injEq, Prod.mk.injEq] at h
      obtain ⟨rfl, rfl⟩ := h
      have HT := Aside0.mk (fun (W' : World) hr => setsThatS_calls W.heap.size p hasSum asks_sum n (by omega) W' hr)
      clear c1 p1
      go_enter Tryz.func35, Tryz.ntmps35
      go_wp2_with (first | (go_at_call 60; (with_reducible refine (HA.out _).mono ?_); rintro e w' ⟨rfl, ⟨nd, rfl⟩⟩) | (go_at_call 61; (with_reducible refine (HB.out _).mono ?_); rintro e w' ⟨rfl, ⟨nd2, rfl⟩⟩) | (go_at_call 62; (with_reducible refine (HT.out _ (by first | exact blk_new _ _ | exact blk_drewN (blk_new _ _) _ | exact blk_drewN (blk_drewN (blk_new _ _) _) _)).mono ?_); rintro e w' ⟨v, rfl, hS, hb⟩; have HS := Aside0.mk hS; have HBW := Aside0.mk hb; clear hS hb; obtain ⟨A1, c1, rfl⟩ := Kd.S_slice HS.out))
      go_ret2
      refine ⟨_, rfl, Kd.S_lower HS.out ?_, ?_⟩
      · simp
      · exact below_then (by repeat (first | exact Below.refl _ _ | apply below_alloc | apply pw_below_drewN)) (by simp) HBW.out
    · rw [decide_eq_false p1] at HB
      rw [if_neg (fun hx => p1 ⟨hx.2.2.1, hx.2.2.2⟩)] at h
      simp only [Option.some.injEq, Prod.mk.injEq] at h
      obtain ⟨rfl, rfl⟩ := h
      clear c1 p1
      go_enter Tryz.func35, Tryz.ntmps35
      go_wp2_with (first | (go_at_call 60; (with_reducible refine (HA.out _).mono ?_); rintro e w' ⟨rfl, ⟨nd, rfl⟩⟩) | (go_at_call 61; (with_reducible refine (HB.out _).mono ?_); rintro e w' ⟨rfl, ⟨nd2, rfl⟩⟩))
      go_ret2
      exact ⟨_, rfl, Kd.S_nil _ _ _ _ _, by repeat (first | exact Below.refl _ _ | apply below_alloc | apply pw_below_drewN)⟩
  · rw [decide_eq_false c1] at HA
    rw [if_neg (fun hx => c1 ⟨hx.1, hx.2.1⟩)] at h
    simp only [Option.some.injEq, Prod.mk.injEq] at h
    obtain ⟨rfl, rfl⟩ := h
    clear c1
    go_enter Tryz.func35, Tryz.ntmps35
    go_wp2_with (first | (go_at_call 60; (with_reducible refine (HA.out _).mono ?_); rintro e w' ⟨rfl, ⟨nd, rfl⟩⟩) | (go_at_call 61; (with_reducible refine (HB.out _).mono ?_); rintro e w' ⟨rfl, ⟨nd2, rfl⟩⟩))
    go_ret2
    exact ⟨_, rfl, Kd.S_nil _ _ _ _ _, by repeat (first | exact Below.refl _ _ | apply below_alloc | apply pw_below_drewN)⟩

end Go.Proofs.YtjfdehjkdbcneaaGreat.E
