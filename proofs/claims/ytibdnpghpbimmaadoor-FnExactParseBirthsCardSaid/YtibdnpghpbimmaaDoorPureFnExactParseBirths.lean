/- Plain: the program's ParseBirths and the reference's return the same births, and the marks hold. No condition beyond those typed at each lemma. -/
import Derived.Test.YtibdnpghpbimmaaDoorPs
namespace Go.Proofs.YtibdnpghpbimmaaDoor.Pure
open Go.RowKit Go.Proofs.YtibdnpghpbimmaaDoor.E Go.Proofs.YtibdnpghpbimmaaDoorW.PrintWords Go.Proofs.YtibdnpghpbimmaaDoorW.PrintLast
set_option linter.unusedVariables false
set_option linter.unusedSimpArgs false

abbrev D := S31
def dok (d : D) : Bool := decide (0 ≤ d.f0 ∧ d.f0 ≤ 3000 ∧ 1 ≤ d.f1 ∧ d.f1 ≤ 365)
theorem dok_iff (d : D) : dok d = true ↔ 0 ≤ d.f0 ∧ d.f0 ≤ 3000 ∧ 1 ≤ d.f1 ∧ d.f1 ≤ 365 := by unfold dok; exact decide_eq_true_iff
theorem biDate_val (a b : Int) : spec_biDate.f a b = some (dok ⟨a, b⟩) := by
  unfold spec_biDate.f dok
  rw [l1In_val, l1In_val]
  by_cases h1 : 0 ≤ a ∧ a ≤ 3000 <;> by_cases h2 : 1 ≤ b ∧ b ≤ 365 <;> simp [h1, h2]
  all_goals omega
theorem isDate_val (a b : Int) : impl_IsDate.f a b = some (dok ⟨a, b⟩) := biDate_val a b
def goodL (l : List D) : Bool := decide (1 ≤ l.length ∧ l.length ≤ 8) && l.all dok
theorem rdT_at (l : List D) (i : Nat) (h : i < l.length) : rd_T31 l (i : Int) = l[i] := by
  simp [rd_T31, List.getD, List.getElem?_eq_getElem h]
theorem drop_at (l : List D) (i : Nat) (h : i < l.length) : l.drop i = rd_T31 l (i : Int) :: l.drop (i + 1) := by
  rw [rdT_at l i h]
  exact List.drop_eq_getElem_cons h
theorem biGood_loop (l : List D) (hn : l.length ≤ 9223372036854775807) (d : Nat) : ∀ i : Nat, l.length - i = d → i ≤ l.length → Ev (fun k => spec_biGood.l0 k l (l.length : Int) (i : Int)) ((l.drop i).all dok) := by
  induction d with
  | zero =>
    intro i hd hi
    rw [List.drop_of_length_le (by omega)]
    exact Ev.step (f := fun _ => some true) (fun k => by rw [spec_biGood.l0, if_neg (by omega)]) (Ev.now _)
  | succ d ih =>
    intro i hd hi
    have hlt : i < l.length := by omega
    have hs := ih (i + 1) (by omega) (by omega)
    rw [drop_at l i hlt, List.all_cons]
    cases hb : dok (rd_T31 l (i : Int)) with
    | true =>
      rw [Bool.true_and]
      refine Ev.step (fun k => ?_) hs
      rw [spec_biGood.l0, if_pos (by omega), if_pos (by omega), if_pos (by omega), biDate_val]
      simp only [Option.bind_some]
      have hb' : dok ⟨(rd_T31 l (i : Int)).f0, (rd_T31 l (i : Int)).f1⟩ = true := hb
      rw [hb', if_pos rfl, w_succ i l.length hlt hn]
    | false =>
      rw [Bool.false_and]
      refine Ev.step (f := fun _ => some false) (fun k => ?_) (Ev.now _)
      rw [spec_biGood.l0, if_pos (by omega), if_pos (by omega), if_pos (by omega), biDate_val]
      simp only [Option.bind_some]
      have hb' : dok ⟨(rd_T31 l (i : Int)).f0, (rd_T31 l (i : Int)).f1⟩ = false := hb
      rw [hb', if_neg (by simp)]
theorem ev_biGood (l : List D) (hn : l.length ≤ 9223372036854775807) : Ev (fun k => spec_biGood.f k l) (goodL l) := by
  unfold spec_biGood.f goodL
  rw [l1In_val]
  simp only [Option.bind_some]
  by_cases h : 1 ≤ l.length ∧ l.length ≤ 8
  · rw [decide_eq_true (by omega), decide_eq_true h, Bool.true_and]
    simp only [if_true]
    simpa using biGood_loop l hn l.length 0 (by omega) (by omega)
  · rw [decide_eq_false (by omega), decide_eq_false h, Bool.false_and]
    simp only [Bool.false_eq_true, if_false]
    exact Ev.now _
/-! ### one date -/
def rdY (p : List UInt8) : Int := rnV (cutA (mkB p))
def rdE (p : List UInt8) : Int := rnV (cutB (mkB p))
def rdO (p : List UInt8) : Bool := rnB (cutA (mkB p)) && (rnB (cutB (mkB p)) && dok ⟨rdY p, rdE p⟩)
theorem readDate_val (p : List UInt8) (hp : p.length ≤ 1048576) : impl_readDate.f (mkB p) = some (rdY p, rdE p, rdO p) := by
  have hA := cutA_le (mkB p)
  have hB := cutB_le (mkB p)
  rw [mkB_size] at hA hB
  unfold impl_readDate.f strings_Cut.f
  rw [if_pos ⟨by rw [mkB_size]; omega, rfl⟩]
  simp only [Option.bind_some]
  unfold impl_readNumber.f
  rw [if_pos (by omega), if_pos (by omega)]
  simp only [Option.bind_some]
  rw [isDate_val]
  unfold rdO rdY rdE
  cases h1 : rnB (cutA (mkB p)) with
  | false => simp
  | true =>
    cases h2 : rnB (cutB (mkB p)) with
    | false => simp
    | true => simp
theorem cutA_eq (p a : List UInt8) (h : (Lib.cut p [46]).1 = a) : cutA (mkB p) = mkB a := by
  unfold cutA
  rw [mkB_list, h]
  rfl
theorem cutB_eq (p b : List UInt8) (h : (Lib.cut p [46]).2.1 = b) : cutB (mkB p) = mkB b := by
  unfold cutB
  rw [mkB_list, h]
  rfl
theorem rn_ok (l : List UInt8) (h : rnB (mkB l) = true) : Lib.itoa (rnV (mkB l)) = l := by
  unfold rnB at h
  unfold rnV
  rw [mkB_list] at h ⊢
  cases ha : Lib.atoiAll l with
  | ok v =>
    rw [ha] at h
    simp only at h ⊢
    have := eq_of_beq h
    rw [ByteArray.toList_eq, mkB_list] at this
    exact this
  | range => rw [ha] at h; cases h
  | _ => rw [ha] at h; cases h
theorem rn_of (l : List UInt8) (h : 0 ≤ l1R l) : rnB (mkB l) = true ∧ rnV (mkB l) = l1R l := by
  obtain ⟨h1, h2⟩ := num_of_ref l h
  unfold rnB rnV
  rw [mkB_list, h1]
  simp only
  refine ⟨?_, trivial⟩
  rw [ByteArray.toList_eq, mkB_list, h2]
  exact beq_self_eq_true l
theorem rd_ok (p : List UInt8) (h : rdO p = true) : ∃ a b, sp 46 [] p = [a, b] ∧ l1R a = rdY p ∧ l1R b = rdE p ∧ p.length ≤ 8 ∧ dok ⟨rdY p, rdE p⟩ = true := by
  unfold rdO at h
  rw [Bool.and_eq_true, Bool.and_eq_true] at h
  obtain ⟨h1, h2, h3⟩ := h
  have h4 := (dok_iff _).1 h3
  simp only at h4
  rcases ix 46 p with ⟨hi, hn⟩ | ⟨a, b, rfl, ha, hi⟩
  · rw [cutB_eq p [] (by rw [cut_miss 46 p hn])] at h2
    exact absurd h2 (by simp [rnB, mkB, Lib.atoiAll])
  · have eA := cutA_eq (a ++ 46 :: b) a (by rw [cut_hit 46 a b ha])
    have eB := cutB_eq (a ++ 46 :: b) b (by rw [cut_hit 46 a b ha])
    have iA := rn_ok a (by rw [← eA]; exact h1)
    have iB := rn_ok b (by rw [← eB]; exact h2)
    have yA : rdY (a ++ 46 :: b) = rnV (mkB a) := by unfold rdY; rw [eA]
    have yB : rdE (a ++ 46 :: b) = rnV (mkB b) := by unfold rdE; rw [eB]
    rw [yA, yB] at h4 ⊢
    rw [yA, yB] at h3
    have hb : (46 : UInt8) ∉ b := fun e => by
      have := num_digs b _ iB (by omega) 46 e
      unfold isDig at this
      have e46 : (46 : UInt8).toNat = 46 := rfl
      omega
    have lA := num_len a _ 4 (by omega) iA (by omega) (by omega)
    have lB := num_len b _ 3 (by omega) iB (by omega) (by omega)
    refine ⟨a, b, ?_, ref_of_num a _ iA (by omega) (by omega), ref_of_num b _ iB (by omega) (by omega), ?_, h3⟩
    · rw [sp_hit 46 a b [] ha, sp_none 46 b [] hb]; simp
    · simp only [List.length_append, List.length_cons]; omega
theorem rd_no (p : List UInt8) (h : rdO p = false) (a b : List UInt8) (hs : sp 46 [] p = [a, b]) : dok ⟨l1R a, l1R b⟩ = false := by
  cases hd : dok ⟨l1R a, l1R b⟩ with
  | false => rfl
  | true =>
    exfalso
    have h4 := (dok_iff _).1 hd
    simp only at h4
    rcases ix 46 p with ⟨hi, hn⟩ | ⟨a', b', rfl, ha, hi⟩
    · rw [sp_none 46 p [] hn] at hs
      simp at hs
    · rw [sp_hit 46 a' b' [] ha] at hs
      have e1 : a' = a := by simpa using (List.cons.inj hs).1
      have e2 := (List.cons.inj hs).2
      subst e1
      have e3 : b' = b := by
        rcases ix 46 b' with ⟨hi', hn'⟩ | ⟨x, y, rfl, hx, hi'⟩
        · rw [sp_none 46 b' [] hn'] at e2
          simpa using e2
        · rw [sp_hit 46 x y [] hx] at e2
          exact absurd (List.cons.inj e2).2 (sp_ne 46 y [])
      subst e3
      obtain ⟨r1, v1⟩ := rn_of a' (by omega)
      obtain ⟨r2, v2⟩ := rn_of b' (by omega)
      have eA := cutA_eq (a' ++ 46 :: b') a' (by rw [cut_hit 46 a' b' ha])
      have eB := cutB_eq (a' ++ 46 :: b') b' (by rw [cut_hit 46 a' b' ha])
      unfold rdO rdY rdE at h
      rw [eA, eB, r1, r2, v1, v2, hd] at h
      simp at h
/-! ### all dates -/
def implR : List D → List (List UInt8) → List D × Bool
  | out, [] => (out, true)
  | out, p :: ps => if rdO p = true then (if out.length = 8 then ([], false) else implR (out ++ [⟨rdY p, rdE p⟩]) ps) else ([], false)
def specR : List D → List (List UInt8) → List D × Bool
  | out, [] => if goodL out = true then (out, true) else ([], false)
  | out, p :: ps => match sp 46 [] p with
    | [a, b] => specR (out ++ [⟨l1R a, l1R b⟩]) ps
    | _ => ([], false)
theorem spec_two {out : List D} {p : List UInt8} {ps : List (List UInt8)} {a b : List UInt8} (h : sp 46 [] p = [a, b]) : specR out (p :: ps) = specR (out ++ [⟨l1R a, l1R b⟩]) ps := by rw [specR, h]
theorem spec_other {out : List D} {p : List UInt8} {ps : List (List UInt8)} (h : (sp 46 [] p).length ≠ 2) : specR out (p :: ps) = ([], false) := by
  rw [specR]
  match hs : sp 46 [] p with
  | [] => rfl
  | [x] => rfl
  | [x, y] => rw [hs] at h; exact absurd rfl h
  | x :: y :: z :: r => rfl
theorem two_of {l : List (List UInt8)} (h : l.length = 2) : ∃ a b, l = [a, b] := by
  match l, h with
  | [a, b], _ => exact ⟨a, b, rfl⟩
theorem spec_bad : ∀ (ps : List (List UInt8)) (out : List D), (8 < out.length ∨ ∃ d ∈ out, dok d = false) → specR out ps = ([], false)
  | [], out, h => by
    rw [specR, if_neg]
    unfold goodL
    rcases h with h | ⟨d, hd, hf⟩
    · rw [decide_eq_false (by omega)]; simp
    · intro e
      rw [Bool.and_eq_true] at e
      have := List.all_eq_true.1 e.2 d hd
      rw [hf] at this
      cases this
  | p :: ps, out, h => by
    by_cases h2 : (sp 46 [] p).length = 2
    · obtain ⟨a, b, hs⟩ := two_of h2
      rw [spec_two hs]
      refine spec_bad ps _ ?_
      rcases h with h | ⟨d, hd, hf⟩
      · left; simp; omega
      · right; exact ⟨d, by simp [hd], hf⟩
    · exact spec_other h2
theorem same : ∀ (ps : List (List UInt8)) (out : List D), out.length ≤ 8 → (∀ d ∈ out, dok d = true) → (out ≠ [] ∨ ps ≠ []) → implR out ps = specR out ps
  | [], out, h1, h2, h3 => by
    have hne : out ≠ [] := by rcases h3 with h | h; exact h; exact absurd rfl h
    have hpos : 0 < out.length := List.length_pos_iff.2 hne
    rw [implR, specR, if_pos]
    unfold goodL
    rw [decide_eq_true (by omega), Bool.true_and]
    exact List.all_eq_true.2 h2
  | p :: ps, out, h1, h2, h3 => by
    rw [implR]
    by_cases ho : rdO p = true
    · obtain ⟨a, b, hs, ya, yb, _, hd⟩ := rd_ok p ho
      rw [if_pos ho, spec_two hs, ya, yb]
      by_cases h8 : out.length = 8
      · rw [if_pos h8]
        exact (spec_bad ps _ (.inl (by simp; omega))).symm
      · rw [if_neg h8]
        refine same ps _ (by simp; omega) (fun d hd' => ?_) (.inl (by simp))
        rcases List.mem_append.1 hd' with hd' | hd'
        · exact h2 d hd'
        · rw [List.mem_singleton.1 hd']; exact hd
    · rw [if_neg ho]
      by_cases h2' : (sp 46 [] p).length = 2
      · obtain ⟨a, b, hs⟩ := two_of h2'
        rw [spec_two hs]
        exact (spec_bad ps _ (.inr ⟨⟨l1R a, l1R b⟩, by simp, rd_no p (by simpa using ho) a b hs⟩)).symm
      · exact (spec_other h2').symm
theorem impl_true : ∀ (ps : List (List UInt8)) (out : List D), out.length ≤ 8 → (implR out ps).2 = true → ps.length + out.length ≤ 8 ∧ ∀ p ∈ ps, p.length ≤ 8
  | [], out, h, _ => ⟨by simpa using h, fun p hp => by cases hp⟩
  | p :: ps, out, h, ht => by
    rw [implR] at ht
    by_cases ho : rdO p = true
    · rw [if_pos ho] at ht
      by_cases h8 : out.length = 8
      · rw [if_pos h8] at ht; cases ht
      · rw [if_neg h8] at ht
        obtain ⟨_, _, _, _, _, hl, _⟩ := rd_ok p ho
        obtain ⟨a1, a2⟩ := impl_true ps _ (by simp; omega) ht
        simp only [List.length_append, List.length_cons, List.length_nil] at a1 ⊢
        refine ⟨by omega, fun q hq => ?_⟩
        rcases List.mem_cons.1 hq with rfl | hq
        · exact hl
        · exact a2 q hq
    · rw [if_neg ho] at ht; cases ht
theorem impl_false : ∀ (ps : List (List UInt8)) (out : List D), (implR out ps).2 = false → implR out ps = ([], false)
  | [], out, h => by cases h
  | p :: ps, out, h => by
    rw [implR] at h ⊢
    by_cases ho : rdO p = true
    · rw [if_pos ho] at h ⊢
      by_cases h8 : out.length = 8
      · rw [if_pos h8]
      · rw [if_neg h8] at h ⊢
        exact impl_false ps _ h
    · rw [if_neg ho]
theorem sum_le : ∀ (ps : List (List UInt8)), (∀ p ∈ ps, p.length ≤ 8) → (ps.map (fun p => p.length + 1)).sum ≤ 9 * ps.length
  | [], _ => by simp
  | p :: ps, h => by
    have h1 := h p (by simp)
    have h2 := sum_le ps (fun q hq => h q (by simp [hq]))
    simp only [List.map_cons, List.sum_cons, List.length_cons]
    omega
/-- A text that is read has at most 71 bytes. -/
theorem long (l : List UInt8) (h : 71 < l.length) : implR [] (sp 44 [] l) = ([], false) := by
  apply impl_false
  cases ht : (implR [] (sp 44 [] l)).2 with
  | false => rfl
  | true =>
    obtain ⟨h1, h2⟩ := impl_true _ _ (by simp) ht
    have h3 := sum_le _ h2
    rw [sp_sum 44 l []] at h3
    simp only [List.length_nil] at h1 h3
    omega
/-! ### the loops -/
theorem pc_at (ps : List (List UInt8)) (i : Nat) (h : i < ps.length) : rdOf ByteArray.empty (ps.map mkB) (i : Int) = mkB ps[i] := by
  simp [rdOf, List.getD, List.getElem?_eq_getElem h]
theorem impl_loop (ps : List (List UInt8)) (hn : ps.length ≤ 1048577) (hp : ∀ p ∈ ps, p.length ≤ 1048576) (d : Nat) : ∀ (i : Nat) (out : List D), ps.length - i = d → i ≤ ps.length → out.length ≤ i →
    Ev (fun k => impl_ParseBirths.l0 k out (ps.map mkB) (ps.length : Int) (i : Int)) (implR out (ps.drop i)) := by
  induction d with
  | zero =>
    intro i out hd hi ho
    rw [List.drop_of_length_le (by omega), implR]
    exact Ev.step (f := fun _ => some (out, true)) (fun k => by rw [impl_ParseBirths.l0, if_neg (by omega)]) (Ev.now _)
  | succ d ih =>
    intro i out hd hi ho
    have hlt : i < ps.length := by omega
    rw [List.drop_eq_getElem_cons hlt, implR]
    have hv := readDate_val ps[i] (hp _ (List.getElem_mem hlt))
    have hst : ∀ k, impl_ParseBirths.l0 (k + 1) out (ps.map mkB) (ps.length : Int) (i : Int) = (if rdO ps[i] = true then (if (out.length : Int) = 8 then some (([] : List D), false) else impl_ParseBirths.l0 k (out ++ [(⟨rdY ps[i], rdE ps[i]⟩ : D)]) (ps.map mkB) (ps.length : Int) ((i + 1 : Nat) : Int)) else some (([] : List D), false)) := fun k => by
      rw [impl_ParseBirths.l0, if_pos (by omega), if_pos (by omega), if_pos (by rw [List.length_map]; omega), pc_at ps i hlt, hv]
      simp only [Option.bind_some]
      rw [if_pos (show out.length < 8796093022208 by omega), w_succ i ps.length hlt (by omega)]
    by_cases h1 : rdO ps[i] = true
    · rw [if_pos h1]
      by_cases h8 : out.length = 8
      · rw [if_pos h8]
        exact Ev.step (f := fun _ => some ([], false)) (fun k => by rw [hst k, if_pos h1, if_pos (by omega)]) (Ev.now _)
      · rw [if_neg h8]
        exact Ev.step (fun k => by rw [hst k, if_pos h1, if_neg (by omega)]) (ih (i + 1) _ (by omega) (by omega) (by simp; omega))
    · rw [if_neg h1]
      exact Ev.step (f := fun _ => some ([], false)) (fun k => by rw [hst k, if_neg h1]) (Ev.now _)
theorem spec_loop (ps : List (List UInt8)) (hn : ps.length ≤ 1048577) (hp : ∀ p ∈ ps, p.length ≤ 1048576) (d : Nat) : ∀ (i : Nat) (out : List D), ps.length - i = d → i ≤ ps.length → out.length ≤ i →
    Ev (fun k => spec_biParse.l0 k out (ps.map mkB) (ps.length : Int) (i : Int)) (specR out (ps.drop i)) := by
  induction d with
  | zero =>
    intro i out hd hi ho
    rw [List.drop_of_length_le (by omega), specR]
    refine Ev.step (f := fun k => (spec_biGood.f k out).bind fun t => if t = true then some (out, true) else some (([] : List D), false)) (fun k => by rw [spec_biParse.l0, if_neg (by omega)]) ?_
    refine Ev.bind (ev_biGood out (by omega)) ?_
    cases goodL out with
    | true => exact Ev.now _
    | false => exact Ev.now _
  | succ d ih =>
    intro i out hd hi ho
    have hlt : i < ps.length := by omega
    have hpl := hp _ (List.getElem_mem hlt)
    rw [List.drop_eq_getElem_cons hlt]
    refine Ev.step (f := fun k => (spec_l1Split.f k (mkB ps[i]) 46).bind fun t120 => (if (t120.length : Int) = 2 then (if 0 < (t120.length : Int) then ((spec_l1Read.f k (rdOf ByteArray.empty t120 0)).bind fun t124 => (if 1 < (t120.length : Int) then ((spec_l1Read.f k (rdOf ByteArray.empty t120 1)).bind fun t126 => (if out.length < 8796093022208 then (spec_biParse.l0 k (out ++ [(⟨t124, t126⟩ : D)]) (ps.map mkB) (ps.length : Int) (wrap64 ((i : Int) + 1))) else (none))) else (none))) else (none)) else (some (([] : List D), false)))) (fun k => by
      rw [spec_biParse.l0, if_pos (by omega), if_pos (by omega), if_pos (by rw [List.length_map]; omega), pc_at ps i hlt]) ?_
    refine Ev.bind (ev_l1Split 46 ps[i] hpl) ?_
    by_cases h2 : (sp 46 [] ps[i]).length = 2
    · obtain ⟨a, b, hs⟩ := two_of h2
      have hma := sp_mem 46 ps[i] [] a (by rw [hs]; simp)
      have hmb := sp_mem 46 ps[i] [] b (by rw [hs]; simp)
      simp only [List.length_nil] at hma hmb
      rw [spec_two hs, hs]
      have e0 : rdOf ByteArray.empty ([a, b].map mkB) 0 = mkB a := rfl
      have e1 : rdOf ByteArray.empty ([a, b].map mkB) 1 = mkB b := rfl
      simp only [List.length_map, List.length_cons, List.length_nil, e0, e1]
      simp only [show ((0 + 1 + 1 : Nat) : Int) = 2 by rfl, if_true, show (0 : Int) < 2 by decide, show (1 : Int) < 2 by decide, show out.length < 8796093022208 by omega, w_succ i ps.length hlt (by omega)]
      exact Ev.bind (ev_l1Read a (by omega)) (Ev.bind (ev_l1Read b (by omega)) (ih (i + 1) _ (by omega) (by omega) (by simp; omega)))
    · rw [spec_other h2]
      have e : ¬ (((sp 46 [] ps[i]).map mkB).length : Int) = 2 := by rw [List.length_map]; omega
      simp only [e, if_false]
      exact Ev.now _
/-! ### both functions -/
theorem sp_count (c : UInt8) : ∀ (l pre : List UInt8), (sp c pre l).length ≤ l.length + 1
  | [], pre => by simp [sp]
  | x :: l, pre => by
    rw [sp]
    split
    · have := sp_count c l []; simp only [List.length_cons]; omega
    · have := sp_count c l (pre ++ [x]); simp only [List.length_cons]; omega
theorem ev_impl (l : List UInt8) (hl : l.length ≤ 1048576) : Ev (fun k => impl_ParseBirths.f k (mkB l)) (implR [] (sp 44 [] l)) := by
  unfold impl_ParseBirths.f strings_Split.f
  rw [if_pos ⟨by rw [mkB_size]; omega, rfl⟩, splitB_sp 44 l]
  simp only [Option.bind_some, List.length_map]
  have hc := sp_count 44 l []
  simpa using impl_loop (sp 44 [] l) (by omega) (fun p hp => by have := sp_mem 44 l [] p hp; simp at this; omega) (sp 44 [] l).length 0 [] (by omega) (by omega) (by simp)
theorem ev_spec (l : List UInt8) (hl : l.length ≤ 1048576) : Ev (fun k => spec_ParseBirths.f k (mkB l)) (implR [] (sp 44 [] l)) := by
  unfold spec_ParseBirths.f
  have hb : Ev (fun k => spec_biParse.f k (mkB l)) (implR [] (sp 44 [] l)) := by
    unfold spec_biParse.f
    by_cases h71 : 71 < l.length
    · rw [long l h71]
      simp only [mkB_size, show ((l.length : Int) > 71) by omega, if_true]
      exact Ev.now _
    · simp only [mkB_size, show ¬ ((l.length : Int) > 71) by omega, if_false]
      rw [same (sp 44 [] l) [] (by simp) (fun d hd => by cases hd) (.inr (sp_ne 44 l []))]
      refine Ev.bind (ev_l1Split 44 l hl) ?_
      have hc := sp_count 44 l []
      simp only [List.length_map]
      simpa using spec_loop (sp 44 [] l) (by omega) (fun p hp => by have := sp_mem 44 l [] p hp; simp at this; omega) (sp 44 [] l).length 0 [] (by omega) (by omega) (by simp)
  refine Ev.congr (f := fun k => (spec_biParse.f k (mkB l)).bind some) (fun k => rfl) ?_
  exact Ev.bind hb (Ev.now _)
/-! ### held equal, marked -/
theorem eqDateS_loop (l : List D) (hn : l.length ≤ 9223372036854775807) (d : Nat) : ∀ (i : Nat), l.length - i = d → i ≤ l.length → Ev (fun k => laws_eqDateS.l0 k l l (i : Int)) true := by
  induction d with
  | zero =>
    intro i hd hi
    exact Ev.step (f := fun _ => some true) (fun k => by rw [laws_eqDateS.l0, if_neg (by omega)]) (Ev.now _)
  | succ d ih =>
    intro i hd hi
    refine Ev.step (fun k => ?_) (ih (i + 1) (by omega) (by omega))
    rw [laws_eqDateS.l0, if_pos (by omega), if_pos (by omega), if_pos (by omega)]
    simp only [laws_eqDate.f, if_true, Option.bind_some]
    rw [w_succ i l.length (by omega) hn]
theorem ev_eqDateS (l : List D) (hn : l.length ≤ 9223372036854775807) : Ev (fun k => laws_eqDateS.f k l l) true := by
  unfold laws_eqDateS.f
  simp only [if_true]
  simpa using eqDateS_loop l hn l.length 0 (by omega) (by omega)
theorem rd_set_eq (xs : List D) (i : Nat) (v : D) (h : i < xs.length) : rd_T31 (xs.set i v) (i : Int) = v := by
  simp [rd_T31, List.getD_eq_getElem?_getD, List.getElem?_set, h]
theorem rd_set_ne (xs : List D) (i j : Nat) (v : D) (h : i ≠ j) : rd_T31 (xs.set i v) (j : Int) = rd_T31 xs (j : Int) := by
  simp only [rd_T31, Int.toNat_natCast, List.getD_eq_getElem?_getD, List.getElem?_set]
  rw [if_neg h]
theorem mark_loop (n : Nat) (hn : n ≤ 1048576) (d : Nat) : ∀ (i : Nat) (xs : List D), xs.length = n → n - i = d → i ≤ n → (∀ j : Nat, j < i → rd_T31 xs (j : Int) = ⟨1 + 2 * j, 2 + 2 * j⟩) →
    ∃ l', Ev (fun k => laws_markDateS.l0 k xs (1 + 2 * i) (i : Int)) (1 + 2 * (n : Int), l') ∧ l'.length = n ∧ ∀ j : Nat, j < n → rd_T31 l' (j : Int) = ⟨1 + 2 * j, 2 + 2 * j⟩ := by
  induction d with
  | zero =>
    intro i xs hx hd hi hj
    have e : i = n := by omega
    subst e
    exact ⟨xs, Ev.step (f := fun _ => some (1 + 2 * (i : Int), xs)) (fun k => by rw [laws_markDateS.l0, if_neg (by omega)]) (Ev.now _), hx, hj⟩
  | succ d ih =>
    intro i xs hx hd hi hj
    have hlt : i < n := by omega
    have e1 : wrap64 (1 + 2 * (i : Int) + 1) = 2 + 2 * (i : Int) := by rw [w64 (by omega) (by omega)]; omega
    have e2 : wrap64 (2 + 2 * (i : Int) + 1) = 1 + 2 * ((i + 1 : Nat) : Int) := by rw [w64 (by omega) (by omega)]; omega
    have ey : (xs.set i ⟨1 + 2 * (i : Int), (rd_T31 xs (i : Int)).f1⟩).set i (⟨(rd_T31 (xs.set i ⟨1 + 2 * (i : Int), (rd_T31 xs (i : Int)).f1⟩) (i : Int)).f0, 2 + 2 * (i : Int)⟩ : D) = xs.set i ⟨1 + 2 * (i : Int), 2 + 2 * (i : Int)⟩ := by
      rw [rd_set_eq _ _ _ (by omega), List.set_set]
    obtain ⟨l', h, hl, hr⟩ := ih (i + 1) (xs.set i ⟨1 + 2 * (i : Int), 2 + 2 * (i : Int)⟩) (by simpa using hx) (by omega) (by omega) (by
      intro j hj'
      by_cases e : i = j
      · subst e; exact rd_set_eq xs i _ (by omega)
      · rw [rd_set_ne xs i j _ e]; exact hj j (by omega))
    refine ⟨l', Ev.step (fun k => ?_) h, hl, hr⟩
    rw [laws_markDateS.l0, if_pos (by omega), if_pos (by omega)]
    simp only [Option.bind_some, Int.toNat_natCast]
    rw [e1, e2, ey, w_succ i n hlt (by omega)]
theorem ev_mark (l : List D) (hn : l.length ≤ 1048576) : ∃ l', Ev (fun k => laws_markDateS.f k l 1) (1 + 2 * (l.length : Int), l') ∧ l'.length = l.length ∧ ∀ j : Nat, j < l.length → rd_T31 l' (j : Int) = ⟨1 + 2 * j, 2 + 2 * j⟩ := by
  unfold laws_markDateS.f
  simpa using mark_loop l.length hn l.length 0 l rfl (by omega) (by omega) (fun j h => absurd h (by omega))
theorem held_loop (l : List D) (hn : l.length ≤ 1048576) (hl : ∀ j : Nat, j < l.length → rd_T31 l (j : Int) = ⟨1 + 2 * j, 2 + 2 * j⟩) (d : Nat) : ∀ (i : Nat), l.length - i = d → i ≤ l.length → Ev (fun k => laws_heldDateS.l0 k l (1 + 2 * i) (i : Int)) (1 + 2 * (l.length : Int)) := by
  induction d with
  | zero =>
    intro i hd hi
    have e : i = l.length := by omega
    subst e
    exact Ev.step (f := fun _ => some (1 + 2 * (l.length : Int))) (fun k => by rw [laws_heldDateS.l0, if_neg (by omega)]) (Ev.now _)
  | succ d ih =>
    intro i hd hi
    have hlt : i < l.length := by omega
    have e1 : wrap64 (1 + 2 * (i : Int) + 1) = 2 + 2 * (i : Int) := by rw [w64 (by omega) (by omega)]; omega
    have e2 : wrap64 (2 + 2 * (i : Int) + 1) = 1 + 2 * ((i + 1 : Nat) : Int) := by rw [w64 (by omega) (by omega)]; omega
    refine Ev.step (fun k => ?_) (ih (i + 1) (by omega) (by omega))
    rw [laws_heldDateS.l0, if_pos (by omega), if_pos (by omega), hl i hlt]
    simp only [if_true]
    rw [e1, if_pos rfl, e2, w_succ i l.length hlt (by omega)]
theorem ev_held (l : List D) (hn : l.length ≤ 1048576) (hl : ∀ j : Nat, j < l.length → rd_T31 l (j : Int) = ⟨1 + 2 * j, 2 + 2 * j⟩) : Ev (fun k => laws_heldDateS.f k l 1) (1 + 2 * (l.length : Int)) := by
  unfold laws_heldDateS.f
  simpa using held_loop l hn hl l.length 0 (by omega) (by omega)
/-! ### the law -/
theorem implR_len : ∀ (ps : List (List UInt8)) (out : List D), out.length ≤ 8 → (implR out ps).1.length ≤ 8
  | [], out, h => h
  | p :: ps, out, h => by
    rw [implR]
    split
    · split
      · simp
      · exact implR_len ps _ (by simp; omega)
    · simp
theorem FnExactParseBirths : laws_FnExactParseBirths.Pure := by
  intro a0 _
  obtain ⟨l, rfl⟩ : ∃ l, a0 = mkB l := ⟨a0.data.toList, (mkB_of a0).symm⟩
  by_cases hs : 1048576 < l.length
  · exact ⟨0, by unfold laws_FnExactParseBirths.f; rw [if_pos (by rw [mkB_size]; omega)]⟩
  · have h : Ev (fun k => laws_FnExactParseBirths.f k (mkB l)) true := by
      have h8 := implR_len (sp 44 [] l) [] (by simp)
      obtain ⟨x, hm, hxl, hx⟩ := ev_mark (implR [] (sp 44 [] l)).1 (by omega)
      have hh := ev_held x (by omega) (by rw [hxl]; exact hx)
      rw [hxl] at hh
      have he := ev_eqDateS (implR [] (sp 44 [] l)).1 (by omega)
      have hi := ev_impl l (by omega)
      have hj1 : Ev (fun k => laws_FnExactParseBirths.j1 k x (1 + 2 * ((implR [] (sp 44 [] l)).1.length : Int)) false) true := by
        refine Ev.step (f := fun k => (laws_heldDateS.f k x 1).bind fun t => if t < 0 then some false else if t = 1 + 2 * ((implR [] (sp 44 [] l)).1.length : Int) then some true else some false) (fun k => by rw [laws_FnExactParseBirths.j1, if_neg (by simp)]) ?_
        refine Ev.bind hh ?_
        simp only [show ¬ (1 + 2 * ((implR [] (sp 44 [] l)).1.length : Int)) < 0 by omega, if_false, if_true]
        exact Ev.now _
      have hj0 : Ev (fun k => laws_FnExactParseBirths.j0 k (mkB l) (implR [] (sp 44 [] l)).1 (implR [] (sp 44 [] l)).2 (implR [] (sp 44 [] l)).1 false) true := by
        refine Ev.step (f := fun k => (laws_markDateS.f k (implR [] (sp 44 [] l)).1 1).bind fun bt179 => ((laws_heldDateS.f k bt179.2 1).bind fun t181 => (if t181 < 0 then (some false) else (if t181 = bt179.1 then ((impl_ParseBirths.f k (mkB l)).bind fun bt182 => ((laws_eqDateS.f k bt182.1 (implR [] (sp 44 [] l)).1).bind fun t186 => (if t186 = true then (laws_FnExactParseBirths.j1 k bt179.2 bt179.1 (bt182.2 != (implR [] (sp 44 [] l)).2)) else (some false)))) else (some false))))) (fun k => by rw [laws_FnExactParseBirths.j0, if_neg (by simp)]) ?_
        refine Ev.bind hm ?_
        refine Ev.bind hh ?_
        simp only [show ¬ (1 + 2 * ((implR [] (sp 44 [] l)).1.length : Int)) < 0 by omega, if_false, if_true]
        refine Ev.bind hi ?_
        refine Ev.bind he ?_
        simp only [if_true, bne_self_eq_false]
        exact hj1
      unfold laws_FnExactParseBirths.f
      simp only [mkB_size, show ¬ ((l.length : Int) > 1048576) by omega, if_false]
      refine Ev.bind (ev_spec l (by omega)) ?_
      refine Ev.bind hi ?_
      refine Ev.bind he ?_
      simp only [if_true, bne_self_eq_false]
      exact hj0
    obtain ⟨K, hK⟩ := h
    exact ⟨K, hK K (Nat.le_refl K)⟩
end Go.Proofs.YtibdnpghpbimmaaDoor.Pure
