-- WRITTEN by xprint.py, a program of this session that drives the kit's printer: out of the translation. Lean checks it.
import Derived.Test.YtjfdehjkdbcneaaGreatE0
import Derived.Test.YtjfdehjkdbcneaaGreatE4
import Derived.Test.YtjfdehjkdbcneaaGreatE5
import Derived.Test.YtjfdehjkdbcneaaGreatE6
import Derived.Test.YtjfdehjkdbcneaaGreatWm
namespace Go.Proofs.YtjfdehjkdbcneaaGreat.E
open Go.RowKit Go.Proofs.YtjfdehjkdbcneaaGreatW.PrintWords Go.Proofs.YtjfdehjkdbcneaaGreatW.PrintLast Go.Proofs.YtjfdehjkdbcneaaGreatW.PrintMore
attribute [local go_sem] max2_int min2_int max_two min_two max_three min_three max_four min_four   -- for this text's walks alone
set_option linter.unusedVariables false
set_option linter.unusedSimpArgs false

-- OURS, BY HAND
/-! ### impl_sets: function 76 -/
-- func impl.sets
-- ext raw=1
-- needs slices.Clone[[]int,int]
-- needs impl.areChildren
structure Sep (w : World) (base : Nat) (v : Value) (us : List Value) (xs : List (List Int)) : Prop where
  row : w.ownsRow base 29 1 v us.length us
  len : us.length = xs.length
  inn : ∀ (j : Nat) (u : Value) (x : List Int), us[j]? = some u → xs[j]? = some x → (Kd.int .i64).R 3 w base (fun _ => True) u x
  dis : ∀ (i j : Nat) (u u' : Value) (k : Nat), us[i]? = some u → us[j]? = some u' → u.ownBlock = some k → u'.ownBlock = some k → i = j
theorem drop_take_one {α : Type} (l : List α) (j : Nat) {u : α} (h : (l.drop (j * 1)).take 1 = [u]) : l[j]? = some u := by
  have h0 : ((l.drop (j * 1)).take 1)[0]? = some u := by rw [h]; rfl
  rw [List.getElem?_take, if_pos (by omega), List.getElem?_drop] at h0
  simpa using h0
theorem take_drop_one {α : Type} (l : List α) (j : Nat) {u : α} (h : l[j]? = some u) : (l.drop (j * 1)).take 1 = [u] := by
  obtain ⟨hl, rfl⟩ := List.getElem?_eq_some_iff.1 h
  rw [Nat.mul_one, List.drop_eq_getElem_cons hl]
  rfl
theorem Sep.of_S {w : World} {base : Nat} {ok : Nat → Prop} {v : Value} {xs : List (List Int)} (h : Kd.S (Kd.slice 3 (Kd.int .i64)) 29 w base ok v xs) : ∃ us, Sep w base v us xs := by
  obtain ⟨f, h0, inner, ho, hr⟩ := h
  rw [List.length_zipIdx] at ho
  have hlen : inner.length = xs.length := by have := hr.1; rw [List.length_zipIdx] at this; exact this.trans (Nat.mul_one _)
  have key : ∀ (j : Nat) (u : Value) (x : List Int), inner[j]? = some u → xs[j]? = some x → (Kd.int .i64).R 3 w base (fun k => f k = j) u x := by
    intro j u x hu hx
    have hz : xs.zipIdx[j]? = some (x, j) := Kd.zip_at hx
    obtain ⟨u', hc, hR⟩ := hr.2 j (x, j) hz
    have := drop_take_one inner j hc
    rw [hu] at this
    obtain rfl := Option.some.inj this
    exact Kd.R_mono hR (fun k hk => hk.2)
  refine ⟨inner, ⟨by rw [hlen]; exact ho, hlen, fun j u x hu hx => Kd.R_mono (key j u x hu hx) (fun _ _ => trivial), fun i j u u' k hu hu' hk hk' => ?_⟩⟩
  have hil : i < xs.length := by rw [← hlen]; exact (List.getElem?_eq_some_iff.1 hu).1
  have hjl : j < xs.length := by rw [← hlen]; exact (List.getElem?_eq_some_iff.1 hu').1
  have h1 := (key i u _ hu (List.getElem?_eq_getElem hil)).1 k hk
  have h2 := (key j u' _ hu' (List.getElem?_eq_getElem hjl)).1 k hk'
  omega
theorem Sep.reads {w : World} {base : Nat} {v : Value} {us : List Value} {xs : List (List Int)} (h : Sep w base v us xs) : ∃ A c, v = .slice A xs.length c ∧ xs.length ≤ c ∧ Kd.C (Kd.slice 3 (Kd.int .i64)) w A xs.length xs := by
  have hR : Reps ((Kd.slice 3 (Kd.int .i64)).K w) 1 xs us := by
    refine ⟨by rw [h.len, Nat.mul_one], fun j p hp => ?_⟩
    have hjl : j < us.length := by rw [h.len]; exact (List.getElem?_eq_some_iff.1 hp).1
    have hu := List.getElem?_eq_getElem hjl
    rw [take_drop_one us j hu]
    obtain ⟨A, c, e, hl, hC⟩ := Kd.R_reads (h.inn j _ p hu hp)
    exact ⟨A, c, by rw [e], hl, hC⟩
  obtain ⟨A, c, hv, hread⟩ := own_reads_row h.row hR h.len.symm
  rw [h.len] at hv hread
  refine ⟨A, c, hv, ?_, hread⟩
  rcases h.row.2 with ⟨h1, h2⟩ | ⟨g, cap, cur, h1, _, _, h2, _⟩
  · have := h.len; omega
  · rw [h1] at hv
    injection hv with _ h3 h4
    omega
theorem Sep.below {w W : World} {base : Nat} {v : Value} {us : List Value} {xs : List (List Int)} (h : Sep w base v us xs) (hb : Below w.heap.size w W) : Sep W base v us xs :=
  ⟨pw_own_below h.row hb, h.len, fun j u x hu hx => Kd.R_below (h.inn j u x hu hx) hb, h.dis⟩
/-- What a step does: nothing below base; the rows of numbers stay. -/
structure Eff (base : Nat) (W W' : World) : Prop where
  low : Below base W W'
  size : W.heap.size ≤ W'.heap.size
  rows : ∀ (k : Nat) (cells : Array Value), W.heap[k]? = some (.cells cells 3 (0, 0)) → W'.heap[k]? = W.heap[k]?
theorem Eff.refl (base : Nat) (W : World) : Eff base W W := ⟨Below.refl _ _, Nat.le_refl _, fun _ _ _ => rfl⟩
theorem Eff.of_below {base : Nat} {W W' : World} (h : Below W.heap.size W W') (hb : base ≤ W.heap.size) : Eff base W W' :=
  ⟨⟨h.os, h.tape, h.output, h.size, fun k hk => h.block k (Nat.lt_of_lt_of_le hk hb)⟩, h.size, fun k cells hc => h.block k (blk_lt hc)⟩
theorem Eff.trans {base : Nat} {W W1 W2 : World} (h : Eff base W W1) (g : Eff base W1 W2) : Eff base W W2 :=
  ⟨h.low.trans g.low, Nat.le_trans h.size g.size, fun k cells hc => (g.rows k cells ((h.rows k cells hc).trans hc)).trans (h.rows k cells hc)⟩
theorem Eff.R {base b : Nat} {W W' : World} {ok : Nat → Prop} {v : Value} {xs : List Int} (h : (Kd.int .i64).R 3 W b ok v xs) (g : Eff base W W') : (Kd.int .i64).R 3 W' b ok v xs := by
  refine Kd.R_mono (Kd.R_move (Kd.R_bound h) (fun k hk => ?_)) (fun _ hk => hk.1)
  obtain ⟨_, _, _, q, hq, cells, hc⟩ := hk
  have : q = 3 := by
    have h1 : q ∈ [3] := hq
    simpa using h1
  subst this
  exact g.rows k cells hc
def fromOf (l : List Int) : Int := l.getLast?.getD 1
/-- all sets that go on with a list by n children more, in order. -/
def allSets : Nat → List Int → List (List Int)
  | 0, l => [l]
  | n + 1, l => ((List.range (21 - fromOf l).toNat).map fun i : Nat => allSets n (l ++ [fromOf l + (i : Int)])).flatten
def Ages (l : List Int) : Prop := ∀ x ∈ l, 1 ≤ x ∧ x ≤ 20
theorem Ages.from_ {l : List Int} (h : Ages l) : 1 ≤ fromOf l ∧ fromOf l ≤ 20 := by
  unfold fromOf
  cases hl : l.getLast? with
  | none => simp
  | some x => exact h x (List.mem_of_getLast? hl)
theorem fromOf_snoc (l : List Int) (a : Int) : fromOf (l ++ [a]) = a := by simp [fromOf]
theorem Ages.snoc {l : List Int} (h : Ages l) {a : Int} (h1 : 1 ≤ a) (h2 : a ≤ 20) : Ages (l ++ [a]) := by
  intro x hx
  rcases List.mem_append.1 hx with hx | hx
  · exact h x hx
  · simp at hx; subst hx; exact ⟨h1, h2⟩
/-- the first i ages' sets. -/
def setsUpTo (n : Nat) (l : List Int) (i : Nat) : List (List Int) := ((List.range i).map fun j : Nat => allSets n (l ++ [fromOf l + (j : Int)])).flatten
theorem setsUpTo_succ (n : Nat) (l : List Int) (i : Nat) : setsUpTo n l (i + 1) = setsUpTo n l i ++ allSets n (l ++ [fromOf l + (i : Int)]) := by
  unfold setsUpTo
  rw [List.range_succ, List.map_append, List.flatten_append]
  simp
theorem allSets_len (n : Nat) : ∀ l, Ages l → (allSets n l).length ≤ 20 ^ n := by
  induction n with
  | zero => intro l _; simp [allSets]
  | succ n ih =>
    intro l hl
    have hf := hl.from_
    have key : ∀ i : Nat, (i : Int) ≤ 21 - fromOf l → (setsUpTo n l i).length ≤ i * 20 ^ n := by
      intro i
      induction i with
      | zero => intro _; simp [setsUpTo]
      | succ i ih2 =>
        intro hi
        rw [setsUpTo_succ, List.length_append, Nat.succ_mul]
        exact Nat.add_le_add (ih2 (by omega)) (ih _ (hl.snoc (by omega) (by omega)))
    have h1 := key (21 - fromOf l).toNat (by omega)
    have h2 : (21 - fromOf l).toNat * 20 ^ n ≤ 20 * 20 ^ n := Nat.mul_le_mul_right _ (by omega)
    rw [Nat.pow_succ, Nat.mul_comm (20 ^ n) 20]
    exact Nat.le_trans h1 h2
theorem setsUpTo_len (n : Nat) (l : List Int) (i : Nat) (h : Ages l) (hi : (i : Int) ≤ 21 - fromOf l) : (setsUpTo n l i).length ≤ i * 20 ^ n := by
  have hf := h.from_
  induction i with
  | zero => simp [setsUpTo]
  | succ i ih2 =>
    rw [setsUpTo_succ, List.length_append, Nat.succ_mul]
    exact Nat.add_le_add (ih2 (by omega)) (allSets_len n _ (h.snoc (by omega) (by omega)))
theorem getLast_rd (l : List Int) (h : 0 < l.length) : fromOf l = rd l ((l.length - 1 : Nat) : Int) := by
  unfold fromOf rd
  rw [List.getLast?_eq_getElem?, Int.toNat_natCast, List.getD_eq_getElem?_getD, List.getElem?_eq_getElem (by omega)]
  rfl
/-- What is asked of the function that is called for each set: it takes what is known of the sets before it, I done, to I (done ++ [s]). -/
def SetStep (base : Nat) (p q : Nat) (I : List (List Int) → World → Prop) : Prop :=
  ∀ (done : List (List Int)) (s : List Int) (W0 W : World) (v : Value), I done W0 → Below W0.heap.size W0 W → base ≤ W0.heap.size → s.length ≤ 4 → Ages s → done.length < 200000 →
    (Kd.int .i64).R 3 W W0.heap.size (fun _ => True) v s →
    Calls Tryz.prog 81 #[v, .pointer (some ⟨p, 0, none⟩), .pointer (some ⟨q, 0, none⟩)] W fun e w' => e = .returned (.tuple #[]) ∧ I (done ++ [s]) w' ∧ Eff base W w'
set_option maxHeartbeats 8000000 in
set_option maxRecDepth 100000 in
theorem sets_calls (base p q : Nat) (I : List (List Int) → World → Prop) (hst : SetStep base p q I) (hmv : ∀ done W W', I done W → Below W.heap.size W W' → I done W') (n : Nat) :
    ∀ (c : Nat) (l : List Int) (v : Value) (done : List (List Int)) (W0 W : World), l.length + n = c → c ≤ 4 → Ages l → I done W0 → Below W0.heap.size W0 W → base ≤ W0.heap.size → done.length + 20 ^ n ≤ 200000 →
      (Kd.int .i64).R 3 W W0.heap.size (fun _ => True) v l →
      Calls Tryz.prog 76 #[.int .i64 c, v, .func (.func 81) #[] #[.pointer (some ⟨p, 0, none⟩), .pointer (some ⟨q, 0, none⟩)]] W fun e w' => e = .returned (.tuple #[]) ∧ I (done ++ allSets n l) w' ∧ Eff base W w' := by
  induction n with
  | zero =>
    intro c l v done W0 W hc h4 ha hI hb hbase hd hR
    obtain ⟨A, cc, rfl⟩ := Kd.R_slice hR
    have HC := Aside0.mk (hst done l W0 W _ hI hb hbase (by omega) ha (by simp at hd; omega) hR)
    have e1 : ((l.length : Int) == (c : Int)) = true := by simp; omega
    clear hR hI hb
    go_enter Tryz.func76, Tryz.ntmps76
    go_wp2_with (go_at_call 81; (with_reducible refine HC.out.mono ?_); rintro e w' ⟨rfl, hI', hE⟩)
    (first | go_end0 | ((try simp only [Exit.inBlock, Exit.then]); refine bodyPost_ret (results_none rfl _ _ _) rfl ?_))
    exact ⟨rfl, by rw [show allSets 0 l = [l] from rfl]; exact hI', hE⟩
  | succ n ih =>
    intro c l v done W0 W hc h4 ha hI hb hbase hd hR
    obtain ⟨A, cc, rfl⟩ := Kd.R_slice hR
    obtain ⟨hn_, hcc, hC⟩ := Kd.R_reads' hR
    have e1 : ((l.length : Int) == (c : Int)) = false := by simp; omega
    have hfr := ha.from_
    have hl4 : l.length ≤ 4 := by omega
    have HA := Aside0.mk ha
    have HR0 := Aside0.mk hR
    have HI0 := Aside0.mk hI
    have HB0 := Aside0.mk hb
    have HD := Aside0.mk hd
    have HC := Aside0.mk hC
    have HN := Aside0.mk hc
    clear hR hI hb hd hC hn_ ha hc
    by_cases hz : l.length = 0
    · have hnil : l = [] := List.eq_nil_of_length_eq_zero hz
      have hf1 : fromOf l = 1 := by subst hnil; rfl
      have HF := Aside0.mk hf1
      have HZ := Aside0.mk hz
      have e2 : decide (0 < l.length) = false := decide_eq_false (by omega)
      clear hz hnil hf1
      go_enter Tryz.func76, Tryz.ntmps76
      go_wp2
      go_loopw [7] (fun v7 wr => ∃ (i : Nat) (W1 : World), (i : Int) ≤ 21 - fromOf l ∧ v7 = .int .i64 (fromOf l + (i : Int)) ∧ Aside0 (I (done ++ setsUpTo n l i) W1) ∧ Aside0 (Below W1.heap.size W1 wr) ∧ Aside0 (base ≤ W1.heap.size) ∧ Aside0 (Eff base W wr) ∧ Aside0 ((Kd.int .i64).R 3 wr W0.heap.size (fun _ => True) (.slice A l.length cc) l)) (fun v7 _ => (21 - intOf v7).toNat)
      case atStart => exact ⟨0, W0, by omega, by first | (rw [HF.out]; rfl) | simp, ⟨by have := HI0.out; simpa [setsUpTo] using this⟩, HB0, ⟨hbase⟩, ⟨Eff.refl _ _⟩, HR0⟩
      case round =>
        obtain ⟨i, W1, hi, rfl, HI, HBW, HBA, HE, HRl⟩ := hrel
        by_cases hlt : fromOf l + (i : Int) ≤ 20
        · have hd1 : decide (fromOf l + (i : Int) ≤ 20) = true := decide_eq_true hlt
          have HLT := Aside0.mk hlt
          have hcl := fun w hr => slices_Clone_int_int.calls A cc l l w hr hcc (by unfold slices_Clone_int_int.f; rw [if_pos (by omega)])
          go_wp2_with (first | (go_at_call 47; (with_reducible refine (hcl _ (Kd.R_reads' HRl.out).2.2).mono ?_); rintro e w2 ⟨v2, rfl, hR2, hb2⟩; have HR2 := Aside0.mk hR2; have HB2 := Aside0.mk hb2; clear hR2 hb2; obtain ⟨A2, c2, rfl⟩ := Kd.R_slice HR2.out) | ((with_reducible refine gate_builtin (b := .append) (xs := #[.tmp 31, .tmp 33]) rfl ?_); at_builtin; refine Kd.R_append (Kd.int .i64) (w0 := wr) wr.heap.size rfl (.tmp 31) (.tmp 33) 29 3 (.int .i64 0) 8 rfl Tryz.underlying29 info3 rfl (by decide) (by omega) _ l (fromOf l + (i : Int)) [.int .i64 (fromOf l + (i : Int))] (fun _ => True) (fun _ => False) rfl rfl ?aP (fun _ hk => hk.elim) ?aF ?aO ?aB ?aS ?aL ?_; (case aP => exact rfl); (case aB => exact HB2.out); (case aF => exact fun _ _ => trivial); (case aO => exact HR2.out); (case aS => exact HB2.out.size); (case aL => omega); intro v3 w3 ho hb hg hat; have HR3 := Aside0.mk ho; have HB3 := Aside0.mk hb; clear ho hb hg hat))
          have hup : (setsUpTo n l i).length ≤ i * 20 ^ n := setsUpTo_len n l i HA.out (by have := HLT.out; omega)
          have hpow : (i + 1) * 20 ^ n ≤ 20 * 20 ^ n := Nat.mul_le_mul_right _ (by have := HLT.out; omega)
          have hdn : (done ++ setsUpTo n l i).length + 20 ^ n ≤ 200000 := by
            have h1 := HD.out
            rw [Nat.pow_succ, Nat.mul_comm] at h1
            rw [Nat.succ_mul] at hpow
            rw [List.length_append]
            omega
          refine (ih c (l ++ [fromOf l + (i : Int)]) v3 (done ++ setsUpTo n l i) W1 w3 (by have := HN.out; simp; omega) h4 (HA.out.snoc (by omega) HLT.out) HI.out (below_then HBW.out HBW.out.size HB3.out) HBA.out hdn (Kd.R_lower HR3.out HBW.out.size)).mono ?_
          rintro e w4 ⟨rfl, hI4, hE4⟩
          have hE3 : Eff base wr w4 := (Eff.of_below HB3.out (Nat.le_trans HBA.out HBW.out.size)).trans hE4
          have HI4 := Aside0.mk hI4
          have HE4 := Aside0.mk hE3
          clear hI4 hE4 hE3 hup hpow hdn
          go_wp2
          go_roundw
          case rel => exact ⟨i + 1, w4, by have := HLT.out; omega, by first | go_num | (congr 1; omega), ⟨by rw [setsUpTo_succ, ← List.append_assoc]; exact HI4.out⟩, ⟨Below.refl _ _⟩, ⟨Nat.le_trans HBA.out (Nat.le_trans HBW.out.size HE4.out.size)⟩, ⟨HE.out.trans HE4.out⟩, ⟨Eff.R HRl.out HE4.out⟩⟩
          case measure => simp [intOf]; have := HLT.out; omega
        · go_wp2
          (first | go_end0 | ((try simp only [Exit.inBlock, Exit.then]); refine bodyPost_ret (results_none rfl _ _ _) rfl ?_))
          have hi2 : i = (21 - fromOf l).toNat := by omega
          refine ⟨rfl, ?_, HE.out⟩
          rw [show allSets (n + 1) l = setsUpTo n l (21 - fromOf l).toNat from rfl, ← hi2]
          exact hmv _ _ _ HI.out HBW.out
    · have e2 : decide (0 < l.length) = true := decide_eq_true (by omega)
      obtain ⟨ad, rfl, hx0⟩ := Kd.at_int HC.out ((l.length - 1 : Nat) : Int) (by omega) (by omega)
      rw [Int.toNat_natCast, ← getLast_rd l (by omega)] at hx0
      have p1 : (0 ≤ (l.length : Int) - 1) = True := eq_true (by omega)
      have q1 : ((l.length : Int) - 1 < (l.length : Int)) = True := eq_true (by omega)
      go_enter Tryz.func76, Tryz.ntmps76
      go_wp2
      go_loopw [7] (fun v7 wr => ∃ (i : Nat) (W1 : World), (i : Int) ≤ 21 - fromOf l ∧ v7 = .int .i64 (fromOf l + (i : Int)) ∧ Aside0 (I (done ++ setsUpTo n l i) W1) ∧ Aside0 (Below W1.heap.size W1 wr) ∧ Aside0 (base ≤ W1.heap.size) ∧ Aside0 (Eff base W wr) ∧ Aside0 ((Kd.int .i64).R 3 wr W0.heap.size (fun _ => True) (.slice (some ad) l.length cc) l)) (fun v7 _ => (21 - intOf v7).toNat)
      case atStart => exact ⟨0, W0, by omega, by first | (rw [HF.out]; rfl) | simp, ⟨by have := HI0.out; simpa [setsUpTo] using this⟩, HB0, ⟨hbase⟩, ⟨Eff.refl _ _⟩, HR0⟩
      case round =>
        obtain ⟨i, W1, hi, rfl, HI, HBW, HBA, HE, HRl⟩ := hrel
        by_cases hlt : fromOf l + (i : Int) ≤ 20
        · have hd1 : decide (fromOf l + (i : Int) ≤ 20) = true := decide_eq_true hlt
          have HLT := Aside0.mk hlt
          have hcl := fun w hr => slices_Clone_int_int.calls (some ad) cc l l w hr hcc (by unfold slices_Clone_int_int.f; rw [if_pos (by omega)])
          go_wp2_with (first | (go_at_call 47; (with_reducible refine (hcl _ (Kd.R_reads' HRl.out).2.2).mono ?_); rintro e w2 ⟨v2, rfl, hR2, hb2⟩; have HR2 := Aside0.mk hR2; have HB2 := Aside0.mk hb2; clear hR2 hb2; obtain ⟨A2, c2, rfl⟩ := Kd.R_slice HR2.out) | ((with_reducible refine gate_builtin (b := .append) (xs := #[.tmp 31, .tmp 33]) rfl ?_); at_builtin; refine Kd.R_append (Kd.int .i64) (w0 := wr) wr.heap.size rfl (.tmp 31) (.tmp 33) 29 3 (.int .i64 0) 8 rfl Tryz.underlying29 info3 rfl (by decide) (by omega) _ l (fromOf l + (i : Int)) [.int .i64 (fromOf l + (i : Int))] (fun _ => True) (fun _ => False) rfl rfl ?aP (fun _ hk => hk.elim) ?aF ?aO ?aB ?aS ?aL ?_; (case aP => exact rfl); (case aB => exact HB2.out); (case aF => exact fun _ _ => trivial); (case aO => exact HR2.out); (case aS => exact HB2.out.size); (case aL => omega); intro v3 w3 ho hb hg hat; have HR3 := Aside0.mk ho; have HB3 := Aside0.mk hb; clear ho hb hg hat))
          have hup : (setsUpTo n l i).length ≤ i * 20 ^ n := setsUpTo_len n l i HA.out (by have := HLT.out; omega)
          have hpow : (i + 1) * 20 ^ n ≤ 20 * 20 ^ n := Nat.mul_le_mul_right _ (by have := HLT.out; omega)
          have hdn : (done ++ setsUpTo n l i).length + 20 ^ n ≤ 200000 := by
            have h1 := HD.out
            rw [Nat.pow_succ, Nat.mul_comm] at h1
            rw [Nat.succ_mul] at hpow
            rw [List.length_append]
            omega
          refine (ih c (l ++ [fromOf l + (i : Int)]) v3 (done ++ setsUpTo n l i) W1 w3 (by have := HN.out; simp; omega) h4 (HA.out.snoc (by omega) HLT.out) HI.out (below_then HBW.out HBW.out.size HB3.out) HBA.out hdn (Kd.R_lower HR3.out HBW.out.size)).mono ?_
          rintro e w4 ⟨rfl, hI4, hE4⟩
          have hE3 : Eff base wr w4 := (Eff.of_below HB3.out (Nat.le_trans HBA.out HBW.out.size)).trans hE4
          have HI4 := Aside0.mk hI4
          have HE4 := Aside0.mk hE3
          clear hI4 hE4 hE3 hup hpow hdn
          go_wp2
          go_roundw
          case rel => exact ⟨i + 1, w4, by have := HLT.out; omega, by first | go_num | (congr 1; omega), ⟨by rw [setsUpTo_succ, ← List.append_assoc]; exact HI4.out⟩, ⟨Below.refl _ _⟩, ⟨Nat.le_trans HBA.out (Nat.le_trans HBW.out.size HE4.out.size)⟩, ⟨HE.out.trans HE4.out⟩, ⟨Eff.R HRl.out HE4.out⟩⟩
          case measure => simp [intOf]; have := HLT.out; omega
        · go_wp2
          (first | go_end0 | ((try simp only [Exit.inBlock, Exit.then]); refine bodyPost_ret (results_none rfl _ _ _) rfl ?_))
          have hi2 : i = (21 - fromOf l).toNat := by omega
          refine ⟨rfl, ?_, HE.out⟩
          rw [show allSets (n + 1) l = setsUpTo n l (21 - fromOf l).toNat from rfl, ← hi2]
          exact hmv _ _ _ HI.out HBW.out
theorem wrap_small (x : Int) (h : -1000000000 ≤ x) (h2 : x ≤ 1000000000) : wrap64 x = x := by
  unfold wrap64; omega
theorem between_is (a lo hi : Int) : impl_between.f a lo hi = some (decide (lo ≤ a ∧ a ≤ hi)) := by
  unfold impl_between.f
  by_cases h : a ≥ lo
  · rw [if_pos h]; simp [h]
  · rw [if_neg h]; simp; omega
theorem impl_areChildren.is_ (c : Int) : impl_areChildren.f c = some (decide (1 ≤ c ∧ c ≤ 4)) := by unfold impl_areChildren.f; rw [between_is]; rfl
theorem infoRows : (Tryz.prog.info? 29).map (fun i => (i.zero, i.size, i.bytes)) = some (some (.slice none 0 0), 1, 24) := by kernel_rfl
/-- The list that is written through a pointer: the box q, the sets in it. -/
def Outs (base q : Nat) (done : List (List Int)) (W : World) : Prop :=
  ∃ v, W.heap[q]? = some (.cells #[v] 26 (0, 0)) ∧ Kd.S (Kd.slice 3 (Kd.int .i64)) 29 W base (fun _ => True) v done
theorem Outs.below {base q : Nat} : ∀ (done : List (List Int)) (W W' : World), Outs base q done W → Below W.heap.size W W' → Outs base q done W' := by
  intro done W W' h hb
  obtain ⟨v, h3, h4⟩ := h
  exact ⟨v, (hb.block q (blk_lt h3)).trans h3, Kd.S_below h4 hb⟩

end Go.Proofs.YtjfdehjkdbcneaaGreat.E
