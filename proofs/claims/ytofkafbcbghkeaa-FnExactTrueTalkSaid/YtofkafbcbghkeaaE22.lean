-- WRITTEN by xprint.py, a program of this session that drives the kit's printer: out of the translation. Lean checks it.
import Derived.Test.YtofkafbcbghkeaaE0
import Derived.Test.YtofkafbcbghkeaaE8
import Derived.Test.YtofkafbcbghkeaaE9
import Derived.Test.YtofkafbcbghkeaaE10
import Derived.Test.YtofkafbcbghkeaaE14
import Derived.Test.YtofkafbcbghkeaaWLast
import Derived.Test.YtofkafbcbghkeaaWWords
namespace Go.Proofs.Ytofkafbcbghkeaa.E
open Go.RowKit Go.Proofs.YtofkafbcbghkeaaW.PrintWords Go.Proofs.YtofkafbcbghkeaaW.PrintLast
set_option linter.unusedVariables false
set_option linter.unusedSimpArgs false

-- OURS, BY HAND
/-! ### impl_knowing: function 59 -/
-- func impl.knowing
-- ext raw=1
-- needs impl.allPairs
-- needs impl.behind
-- import Derived.Maps.Own
-- import Derived.Maps.OwnOps
-- import Derived.Maps.OwnSet
-- import Derived.Maps.Views
-- import Derived.WideKeyArr
-- import Derived.WalkKit
-- import Derived.WalkSpells
-- import Derived.Deep.RegionWith
-- import Derived.Deep.RegionLaw
-- import Derived.IntWalk
-- seat Ytofkafbcbghkeaa
theorem kwArr : WideMaps.ArrKey Try.prog 59 3 2 := ⟨Try.underlying59, by kernel_rfl, by kernel_rfl, by kernel_rfl⟩
theorem law59 : Maps.Keyed Try.prog 59 := Maps.Keyed.of_law kwArr.law
def kwVal (a b : Int) : Value := .agg #[.int .i64 a, .int .i64 b]
theorem kwVal_lits (m : Nat) (a b : Int) (ha : (Lit.int .i64 a).wf = true) (hb : (Lit.int .i64 b).wf = true) : Try.prog.keyLits (m + 2) 59 [.int .i64 a, .int .i64 b] = some [.int .i64 a, .int .i64 b] := by
  have h1 : Try.prog.cellsOf 3 = 1 := by kernel_rfl
  have h2 : Try.prog.cellsOf 59 = 2 := by kernel_rfl
  have hi : ∀ x, (Lit.int .i64 x).wf = true → Try.prog.keyLits (m + 1) 3 [.int .i64 x] = some [.int .i64 x] := by
    intro x hx
    unfold Program.keyLits
    rw [Try.underlying3]
    simp [hx]
  unfold Program.keyLits
  rw [Try.underlying59]
  simp only [List.length_cons, List.length_nil, h2, if_true, h1]
  rw [show List.range 2 = [0, 1] from rfl]
  simp [hi a ha, hi b hb]
theorem kwKey_ex (a b : Int) (ha : (Lit.int .i64 a).wf = true) (hb : (Lit.int .i64 b).wf = true) : ∃ kwLit, keyOf Try.prog 59 (kwVal a b) = some kwLit := by
  obtain ⟨m, hm⟩ : ∃ m, Try.prog.types.size = m + 1 := ⟨Try.prog.types.size - 1, by kernel_rfl⟩
  have h1 : Try.prog.keyType 59 = true := by kernel_rfl
  have h2 : (kwVal a b).formed Try.prog 59 = true := by
    unfold kwVal Value.formed
    rw [Try.underlying59]
    show ((2 : Nat) == Try.prog.cellsOf 59) = true
    rw [show Try.prog.cellsOf 59 = 2 by kernel_rfl]
    rfl
  have h3 : Try.prog.keyLits (Try.prog.types.size + 1) 59 (kwVal a b).cells.toList = some [.int .i64 a, .int .i64 b] := by
    rw [hm]
    exact kwVal_lits m a b ha hb
  unfold keyOf
  rw [Try.underlying59]
  simp only [h1, h2, h3, Bool.and_self, if_true]
  exact ⟨_, rfl⟩
noncomputable def kwLit (a b : Int) : Lit := (keyOf Try.prog 59 (kwVal a b)).getD (.bool false)
theorem kwKey_is {a b : Int} (ha : (Lit.int .i64 a).wf = true) (hb : (Lit.int .i64 b).wf = true) : keyOf Try.prog 59 (kwVal a b) = some (kwLit a b) := by
  obtain ⟨k, h⟩ := kwKey_ex a b ha hb
  unfold kwLit
  rw [h]
  rfl
theorem kwLit_inj {a b a' b' : Int} (ha : (Lit.int .i64 a).wf = true) (hb : (Lit.int .i64 b).wf = true) (ha' : (Lit.int .i64 a').wf = true) (hb' : (Lit.int .i64 b').wf = true) (h : kwLit a b = kwLit a' b') : a = a' ∧ b = b' := by
  have h1 := kwKey_is ha hb
  rw [h] at h1
  have e := law59.inj h1 (kwKey_is ha' hb')
  unfold kwVal at e
  injection e with e
  simp at e
  exact e
/-! ### the rounds of a talk in which both say in turn that they don't know -/
def kwMinus (b : Bool) (xs : List (List Int)) : List (List Int) := xs.filter (keepsW b 45 xs)
def kwPlusOf (b : Bool) (xs : List (List Int)) : List (List Int) := xs.filter (keepsW b 43 xs)
theorem keep_minus (b : Bool) (xs : List (List Int)) (x : List Int) : keepsW b 45 xs x = !(cnt b xs (valW b x) == 1) := by
  unfold keepsW
  rw [if_neg (by decide)]
  cases (cnt b xs (valW b x) == 1) <;> rfl
theorem keep_plus (b : Bool) (xs : List (List Int)) (x : List Int) : keepsW b 43 xs x = (cnt b xs (valW b x) == 1) := by
  unfold keepsW
  rw [if_neg (by decide)]
  cases (cnt b xs (valW b x) == 1) <;> rfl
/-- The pairs, who speaks, and how many statements have left all pairs, behind so many statements. -/
def kwState (m : Nat) (b0 : Bool) : Nat → List (List Int) × Bool × Nat
  | 0 => (prs m m, b0, 0)
  | n + 1 => (kwMinus (kwState m b0 n).2.1 (kwState m b0 n).1, !(kwState m b0 n).2.1, if (kwMinus (kwState m b0 n).2.1 (kwState m b0 n).1).length < (kwState m b0 n).1.length then 0 else (kwState m b0 n).2.2 + 1)
def kwPlus (m : Nat) (b0 : Bool) (n : Nat) : List (List Int) := kwPlusOf (kwState m b0 n).2.1 (kwState m b0 n).1
/-- Behind how many statements a pair is known, of so many; 0 if it isn't. -/
def kwTime (m : Nat) (b0 : Bool) : Nat → Int → Int → Int
  | 0, _, _ => 0
  | n + 1, a, b => if (kwPlus m b0 n).contains [a, b] = true then ((n + 1 : Nat) : Int) else kwTime m b0 n a b
def kwHas (m : Nat) (b0 : Bool) : Nat → Int → Int → Bool
  | 0, _, _ => false
  | n + 1, a, b => (kwPlus m b0 n).contains [a, b] || kwHas m b0 n a b
theorem kst_sub (m : Nat) (b0 : Bool) : ∀ n x, x ∈ (kwState m b0 n).1 → x ∈ prs m m
  | 0, x, h => h
  | n + 1, x, h => kst_sub m b0 n x (List.mem_filter.1 h).1
theorem kst_down (m : Nat) (b0 : Bool) (n x) (h : x ∈ (kwState m b0 (n + 1)).1) : x ∈ (kwState m b0 n).1 := (List.mem_filter.1 h).1
theorem plus_in (m : Nat) (b0 : Bool) (n x) (h : x ∈ kwPlus m b0 n) : x ∈ (kwState m b0 n).1 := (List.mem_filter.1 h).1
theorem plus_out (m : Nat) (b0 : Bool) (n x) (h : x ∈ (kwState m b0 n).1) : x ∈ kwPlus m b0 n ↔ x ∉ (kwState m b0 (n + 1)).1 := by
  show x ∈ List.filter _ _ ↔ x ∉ List.filter _ _
  rw [List.mem_filter, List.mem_filter, keep_minus, keep_plus]
  cases (cnt (kwState m b0 n).2.1 (kwState m b0 n).1 (valW (kwState m b0 n).2.1 x) == 1) <;> simp [h]
theorem kwHas_iff (m : Nat) (b0 : Bool) (a b : Int) (hp : [a, b] ∈ prs m m) : ∀ n, kwHas m b0 n a b = true ↔ [a, b] ∉ (kwState m b0 n).1
  | 0 => by simp [kwHas, kwState, hp]
  | n + 1 => by
    have ih := kwHas_iff m b0 a b hp n
    unfold kwHas
    rw [Bool.or_eq_true, ih, List.contains_iff_mem]
    by_cases h : [a, b] ∈ (kwState m b0 n).1
    · rw [plus_out m b0 n _ h]
      constructor
      · rintro (h1 | h1)
        · exact h1
        · exact absurd h h1
      · exact fun h1 => .inl h1
    · constructor
      · exact fun _ h1 => h (kst_down m b0 n _ h1)
      · exact fun _ => .inr h
theorem tm_zero (m : Nat) (b0 : Bool) (a b : Int) : ∀ n, kwHas m b0 n a b = false → kwTime m b0 n a b = 0
  | 0, _ => rfl
  | n + 1, h => by
    unfold kwHas at h
    obtain ⟨h1, h2⟩ := Bool.or_eq_false_iff.1 h
    unfold kwTime
    rw [h1, if_neg (by simp)]
    exact tm_zero m b0 a b n h2
theorem tm_pos (m : Nat) (b0 : Bool) (a b : Int) : ∀ n, kwHas m b0 n a b = true → 0 < kwTime m b0 n a b
  | 0, h => by simp [kwHas] at h
  | n + 1, h => by
    unfold kwHas at h
    unfold kwTime
    cases h1 : (kwPlus m b0 n).contains [a, b] with
    | true => rw [if_pos rfl]; omega
    | false =>
      rw [h1, Bool.false_or] at h
      rw [if_neg (by simp)]
      exact tm_pos m b0 a b n h
theorem tm_le (m : Nat) (b0 : Bool) (a b : Int) : ∀ n, 0 ≤ kwTime m b0 n a b ∧ kwTime m b0 n a b ≤ n
  | 0 => by simp [kwTime]
  | n + 1 => by
    have := tm_le m b0 a b n
    unfold kwTime
    split <;> omega
theorem tm_still (m : Nat) (b0 : Bool) (a b : Int) (n : Nat) (h : [a, b] ∉ (kwState m b0 n).1) : ∀ d, [a, b] ∉ (kwState m b0 (n + d)).1 ∧ kwTime m b0 (n + d) a b = kwTime m b0 n a b
  | 0 => ⟨h, rfl⟩
  | d + 1 => by
    obtain ⟨h1, h2⟩ := tm_still m b0 a b n h d
    refine ⟨fun hx => h1 (kst_down m b0 (n + d) _ hx), ?_⟩
    have hn : (kwPlus m b0 (n + d)).contains [a, b] = false := by
      cases hc : (kwPlus m b0 (n + d)).contains [a, b] with
      | false => rfl
      | true => exact absurd (plus_in m b0 (n + d) _ (List.contains_iff_mem.1 hc)) h1
    show (if (kwPlus m b0 (n + d)).contains [a, b] = true then ((n + d + 1 : Nat) : Int) else kwTime m b0 (n + d) a b) = _
    rw [hn, if_neg (by simp)]
    exact h2
theorem len_split (b : Bool) (xs : List (List Int)) : (kwPlusOf b xs).length + (kwMinus b xs).length = xs.length := by
  unfold kwPlusOf kwMinus
  have e1 : xs.filter (keepsW b 43 xs) = xs.filter fun x => (cnt b xs (valW b x) == 1) := by congr 1; funext x; exact keep_plus b xs x
  have e2 : xs.filter (keepsW b 45 xs) = xs.filter fun x => !(cnt b xs (valW b x) == 1) := by congr 1; funext x; exact keep_minus b xs x
  rw [e1, e2]
  have key : ∀ (q : List Int → Bool) (l : List (List Int)), (l.filter q).length + (l.filter fun x => !q x).length = l.length := by
    intro q l
    induction l with
    | nil => rfl
    | cons x l ih => cases h : q x <;> simp [h] <;> omega
  exact key _ xs
theorem rows_nodup (m a : Nat) : (rowsOf m a).Nodup := by
  unfold rowsOf
  refine List.Pairwise.map _ (fun i j (h : i ≠ j) => ?_) List.nodup_range
  intro e
  simp at e
  omega
theorem rows_head (m a : Nat) (x : List Int) (h : x ∈ rowsOf m a) : rd x 0 = a := by
  simp [rowsOf] at h
  obtain ⟨j, _, rfl⟩ := h
  rfl
theorem prs_head (m : Nat) : ∀ k x, x ∈ prs m k → rd x 0 ≤ k
  | 0, x, h => by simp [prs] at h
  | k + 1, x, h => by
    unfold prs at h
    rcases List.mem_append.1 h with h | h
    · have := prs_head m k x h; omega
    · have := rows_head m (k + 1) x h; omega
theorem prs_nodup (m : Nat) : ∀ k, (prs m k).Nodup
  | 0 => List.Pairwise.nil
  | k + 1 => by
    unfold prs
    refine List.nodup_append.2 ⟨prs_nodup m k, rows_nodup m (k + 1), fun x hx y hy e => ?_⟩
    subst e
    have h1 := prs_head m k x hx
    have h2 := rows_head m (k + 1) x hy
    omega
theorem kst_nodup (m : Nat) (b0 : Bool) : ∀ n, (kwState m b0 n).1.Nodup
  | 0 => prs_nodup m m
  | n + 1 => List.Pairwise.filter _ (kst_nodup m b0 n)
theorem plus_nodup (m : Nat) (b0 : Bool) (n : Nat) : (kwPlus m b0 n).Nodup := List.Pairwise.filter _ (kst_nodup m b0 n)
theorem kst_len (m : Nat) (b0 : Bool) : ∀ n, (kwState m b0 n).1.length ≤ (prs m m).length
  | 0 => Nat.le_refl _
  | n + 1 => Nat.le_trans (List.length_filter_le _ _) (kst_len m b0 n)
theorem plus_len (m : Nat) (b0 : Bool) (n : Nat) : (kwPlus m b0 n).length + (kwState m b0 (n + 1)).1.length = (kwState m b0 n).1.length := len_split _ _
theorem prs_small (m : Nat) (hm : m ≤ 40) : (prs m m).length ≤ 1640 := by
  have h1 := prs_len m m
  have h2 : m * (m + 1) ≤ 40 * 41 := Nat.mul_le_mul hm (by omega)
  omega
/-- The talk ends here. -/
def KwEnds (m : Nat) (b0 : Bool) (n : Nat) : Prop := 2 ≤ (kwState m b0 n).2.2 ∧ ∀ j, j < n → (kwState m b0 j).2.2 < 2
theorem KwEnds.one {m : Nat} {b0 : Bool} {n n' : Nat} (h : KwEnds m b0 n) (h' : KwEnds m b0 n') : n = n' := by
  rcases Nat.lt_trichotomy n n' with h1 | h1 | h1
  · have := h'.2 n h1; have := h.1; omega
  · exact h1
  · have := h.2 n' h1; have := h'.1; omega
/-- What gets less with each statement. -/
def kwGoes (m : Nat) (b0 : Bool) (n : Nat) : Nat := 3 * (kwState m b0 n).1.length + 2 - (kwState m b0 n).2.2
theorem kwGoes_down (m : Nat) (b0 : Bool) (n : Nat) (h : (kwState m b0 n).2.2 < 2) : kwGoes m b0 (n + 1) < kwGoes m b0 n ∧ (kwState m b0 (n + 1)).2.2 ≤ 2 := by
  have hl : (kwState m b0 (n + 1)).1.length ≤ (kwState m b0 n).1.length := List.length_filter_le _ _
  have e : (kwState m b0 (n + 1)).2.2 = if (kwState m b0 (n + 1)).1.length < (kwState m b0 n).1.length then 0 else (kwState m b0 n).2.2 + 1 := rfl
  unfold kwGoes
  rw [e]
  split <;> omega
theorem kwGoes_up (m : Nat) (b0 : Bool) (hm : m ≤ 40) : ∀ n, (∀ j, j < n → (kwState m b0 j).2.2 < 2) → kwGoes m b0 n + n ≤ 5000
  | 0, _ => by
    have h := prs_small m hm
    have e : kwGoes m b0 0 = 3 * (prs m m).length + 2 - 0 := rfl
    omega
  | n + 1, h => by
    have h1 := kwGoes_up m b0 hm n (fun j hj => h j (by omega))
    have h2 := (kwGoes_down m b0 n (h n (by omega))).1
    omega
def kwStop (m : Nat) (b0 : Bool) : Nat → Nat → Nat
  | 0, n => n
  | d + 1, n => if 2 ≤ (kwState m b0 n).2.2 then n else kwStop m b0 d (n + 1)
theorem kwStop_is (m : Nat) (b0 : Bool) : ∀ (d n : Nat), kwGoes m b0 n < d → (kwState m b0 n).2.2 ≤ 2 → (∀ j, j < n → (kwState m b0 j).2.2 < 2) → KwEnds m b0 (kwStop m b0 d n)
  | 0, n, hd, h2, hj => absurd hd (Nat.not_lt_zero _)
  | d + 1, n, hd, h2, hj => by
    unfold kwStop
    by_cases h : 2 ≤ (kwState m b0 n).2.2
    · rw [if_pos h]
      exact ⟨h, hj⟩
    · rw [if_neg h]
      obtain ⟨h3, h4⟩ := kwGoes_down m b0 n (by omega)
      refine kwStop_is m b0 d (n + 1) (by omega) h4 (fun j h5 => ?_)
      by_cases e : j = n
      · rw [e]; omega
      · exact hj j (by omega)
/-- So many statements. -/
def kwEnd (m : Nat) (b0 : Bool) : Nat := kwStop m b0 (kwGoes m b0 0 + 1) 0
theorem endN_is (m : Nat) (b0 : Bool) : KwEnds m b0 (kwEnd m b0) := kwStop_is m b0 _ 0 (Nat.lt_succ_self _) (by simp [kwState]) (fun j hj => absurd hj (Nat.not_lt_zero _))
/-! ### the map by pairs -/
def MapP (W : World) (B n : Nat) (f : Int → Int → Int) (g : Int → Int → Bool) : Prop :=
  ∃ D : DataW Unit, W.ownsMap Try.prog 59 (plainElem Try.prog 3) B n D ∧ (∀ a b, (Lit.int .i64 a).wf = true → (Lit.int .i64 b).wf = true → D.atKey (kwLit a b) (.lit (.int .i64 0)) = .lit (.int .i64 (f a b)) ∧ Maps.has D (kwLit a b) = g a b) ∧ Maps.size D = n
theorem MapP.of_block {W W' : World} {B n : Nat} {f : Int → Int → Int} {g : Int → Int → Bool} (h : MapP W B n f g) (e : W'.heap[B]? = W.heap[B]?) : MapP W' B n f g := by
  obtain ⟨D, ⟨es, clock, h1, h2⟩, h3⟩ := h
  exact ⟨D, ⟨es, clock, e.trans h1, h2⟩, h3⟩
theorem MapP.lt {W : World} {B n : Nat} {f : Int → Int → Int} {g : Int → Int → Bool} (h : MapP W B n f g) : B < W.heap.size := by
  obtain ⟨D, ⟨es, clock, h1, h2⟩, h3⟩ := h
  exact blk_lt h1
theorem MapP.congr {W : World} {B n n' : Nat} {f f' : Int → Int → Int} {g g' : Int → Int → Bool} (h : MapP W B n f g) (hn : n = n') (e : ∀ a b, f a b = f' a b ∧ g a b = g' a b) : MapP W B n' f' g' := by
  subst hn
  obtain ⟨D, h1, h2, h3⟩ := h
  exact ⟨D, h1, fun a b ha hb => by rw [← (e a b).1, ← (e a b).2]; exact h2 a b ha hb, h3⟩
theorem ownsP_drewN {W : World} {B n : Nat} {R : Value → Option (DataW Unit × List MemPlace)} {D : DataW Unit} (h : W.ownsMap Try.prog 59 R B n D) (m : Nat) : (W.drewN m).ownsMap Try.prog 59 R B n D := by
  obtain ⟨es, clock, h1, h2⟩ := h
  exact ⟨es, clock, blk_drewN h1 m, h2⟩
theorem MapP.put {W W1 : World} {B n : Nat} {f : Int → Int → Int} {g : Int → Int → Bool} {D : DataW Unit} {a0 b0 c : Int} (hD : W.ownsMap Try.prog 59 (plainElem Try.prog 3) B n D)
    (h : ∀ a b, (Lit.int .i64 a).wf = true → (Lit.int .i64 b).wf = true → D.atKey (kwLit a b) (.lit (.int .i64 0)) = .lit (.int .i64 (f a b)) ∧ Maps.has D (kwLit a b) = g a b) (hsize0 : Maps.size D = n) (ha0 : (Lit.int .i64 a0).wf = true) (hb0 : (Lit.int .i64 b0).wf = true) (hg : g a0 b0 = false)
    (h1 : W1.ownsMap Try.prog 59 (plainElem Try.prog 3) B (n + 1) (D.put (kwLit a0 b0) (.lit (.int .i64 c)))) : MapP W1 B (n + 1) (fun a b => if a = a0 ∧ b = b0 then c else f a b) (fun a b => decide (a = a0 ∧ b = b0) || g a b) := by
  have hk : WideAt.IsKeyLit (kwLit a0 b0) := law59.key (kwKey_is ha0 hb0)
  refine ⟨_, h1, fun a b hwa hwb => ?_, ?_⟩
  · show _ = DataW.lit (.int .i64 (if a = a0 ∧ b = b0 then c else f a b)) ∧ _ = (decide (a = a0 ∧ b = b0) || g a b)
    by_cases e : a = a0 ∧ b = b0
    · obtain ⟨rfl, rfl⟩ := e
      rw [if_pos ⟨rfl, rfl⟩, decide_eq_true ⟨rfl, rfl⟩, Bool.true_or]
      exact ⟨Maps.atKey_put_same hD.isMap hk _ _, Maps.has_put_same hD.isMap hk _⟩
    · have hne : kwLit a b ≠ kwLit a0 b0 := fun e' => e (kwLit_inj hwa hwb ha0 hb0 e')
      rw [if_neg e, decide_eq_false e, Bool.false_or, Maps.atKey_put_other hne, Maps.has_put_other hne]
      exact h a b hwa hwb
  · rw [Maps.size_put (hD.tidy law59), (h a0 b0 ha0 hb0).2, hg, hsize0]
    simp
theorem rows_load {w : World} {ad : Addr} {a b : Int} (hC : (Kd.int .i64).C w (some ad) 2 [a, b]) : w.cell? (ad.add 0) = some (.int .i64 a) ∧ w.cell? (ad.add 1) = some (.int .i64 b) := by
  obtain ⟨ad', e, hh⟩ := hC.2.2 (by omega)
  obtain rfl := Option.some.inj e
  obtain ⟨cs0, q1, q2, q3⟩ := hh 0 a rfl
  obtain ⟨cs1, r1, r2, r3⟩ := hh 1 b rfl
  obtain rfl : cs0 = [.int .i64 a] := q2
  obtain rfl : cs1 = [.int .i64 b] := r2
  exact ⟨q3 0 _ rfl, r3 0 _ rfl⟩
theorem other_calls (b : Bool) (W : World) : Calls Try.prog 65 #[.string (whoB b)] W fun e w' => e = .returned (.string (whoB (!b))) ∧ w' = W := by
  cases b with
  | true =>
    have h1 : ((whoB true).toList == [115]) = true := by decide +kernel
    go_enter Try.func65, Try.ntmps65
    go_wp2
    go_ret
    exact ⟨rfl, rfl⟩
  | false =>
    have h1 : ((whoB false).toList == [115]) = false := by decide +kernel
    go_enter Try.func65, Try.ntmps65
    go_wp2
    go_ret
    exact ⟨rfl, rfl⟩
theorem cell_turned {W W1 : World} {B : Nat} {es : Array MapEntry} {clock : Nat} (hB : W.heap[B]? = some (.map es clock)) (hg : W.grownBy W1 (some B)) (a : Addr) (u : Value) (h : W.cell? a = some u) : W1.cell? a = some u := by
  have hlt := World.block_lt_of_cell? W a h
  have hne : some a.block ≠ some B := by
    intro e
    injection e with e
    unfold World.cell? at h
    rw [e, hB] at h
    simp at h
  rw [World.cell?_of_block (hg.block a.block hlt hne)]
  exact h
theorem Cint_turned {W W1 : World} {A : Option Addr} {n : Nat} {x : List Int} (H : ∀ a u, W.cell? a = some u → W1.cell? a = some u) (h : (Kd.int .i64).C W A n x) : (Kd.int .i64).C W1 A n x :=
  ⟨h.1, h.2.1, fun hn => by
    obtain ⟨ad, e, hc⟩ := h.2.2 hn
    refine ⟨ad, e, fun j p hp => ?_⟩
    obtain ⟨c, q1, q2, q3⟩ := hc j p hp
    exact ⟨c, q1, q2, fun i u hu => H _ _ (q3 i u hu)⟩⟩
theorem Crows_turned {W W1 : World} {A : Option Addr} {n : Nat} {xs : List (List Int)} (H : ∀ a u, W.cell? a = some u → W1.cell? a = some u) (h : Kd.C (Kd.slice 3 (Kd.int .i64)) W A n xs) : Kd.C (Kd.slice 3 (Kd.int .i64)) W1 A n xs :=
  ⟨h.1, h.2.1, fun hn => by
    obtain ⟨ad, e, hc⟩ := h.2.2 hn
    refine ⟨ad, e, fun j p hp => ?_⟩
    obtain ⟨c, q1, ⟨A1, c1, q2, q4, q5⟩, q3⟩ := hc j p hp
    exact ⟨c, q1, ⟨A1, c1, q2, q4, Cint_turned H q5⟩, fun i u hu => H _ _ (q3 i u hu)⟩⟩
theorem age_wf {a : Nat} (h : a ≤ 100000) : (Lit.int .i64 (a : Int)).wf = true := WalkArith.wf_i64 (by omega)
theorem run_arrayAt (a : Option Addr) (c : Nat) (w : World) : (Instr.arrayAt 59 (.slice a 2 c)).run Try.prog w = .ok (.pointer a) w := by
  unfold Instr.arrayAt
  simp [run_underlying Try.underlying59]
  try rfl
def sliceLen (v : Value) : Nat := match v with | .slice _ n _ => n | _ => 0
set_option maxHeartbeats 8000000 in
set_option maxRecDepth 100000 in
theorem knowing_calls (m : Nat) (hm : m ≤ 40) (b0 : Bool) (W : World) :
    Calls Try.prog 59 #[.int .i64 m, .string (whoB b0)] W fun e w' => e = .returned (.map (some W.heap.size)) ∧ MapP w' W.heap.size ((prs m m).length - (kwState m b0 (kwEnd m b0)).1.length) (kwTime m b0 (kwEnd m b0)) (kwHas m b0 (kwEnd m b0)) ∧ Below W.heap.size W w' := by
  have hmm := @run_makeMap Try.prog
  have HP := Aside0.mk (fun W => allPairs_calls m hm W)
  have HBh := Aside0.mk (fun (b : Bool) (w : Int) A c xs W hC hc ha hn => behind_calls b w A c xs W hC hc ha hn)
  have HO := Aside0.mk other_calls
  have hsm := prs_small m hm
  have HAG := Aside0.mk (fun n x (h : x ∈ (kwState m b0 n).1) => prs_ages m m hm (Nat.le_refl _) x (kst_sub m b0 n x h))
  obtain ⟨who, hwho⟩ : ∃ who, who = whoB b0 := ⟨_, rfl⟩
  rw [← hwho]
  have HWHO := Aside0.mk hwho
  clear hwho
  go_enter Try.func59, Try.ntmps59
  go_wp2_with (go_at_call 58; (with_reducible refine (HP.out _).mono ?_); rintro e w1 ⟨A1, c1, rfl, q1, hC, hb⟩; have HC1 := Aside0.mk hC; have HB1 := Aside0.mk hb; clear hC hb)
  go_loopw [1, 6, 7, 8] (fun v1 v6 v7 v8 wr => ∃ (n : Nat) (A : Option Addr) (c : Nat), v1 = .string (whoB (kwState m b0 n).2.1) ∧ v6 = .slice A (kwState m b0 n).1.length c ∧ (kwState m b0 n).1.length ≤ c ∧ v7 = .int .i64 ((kwState m b0 n).2.2 : Int) ∧ v8 = .int .i64 ((n + 1 : Nat) : Int) ∧ (∀ j, j < n → (kwState m b0 j).2.2 < 2) ∧ (kwState m b0 n).2.2 ≤ 2 ∧ Aside0 (Kd.C (Kd.slice 3 (Kd.int .i64)) wr A (kwState m b0 n).1.length (kwState m b0 n).1) ∧ Aside0 (MapP wr W.heap.size ((prs m m).length - (kwState m b0 n).1.length) (kwTime m b0 n) (kwHas m b0 n)) ∧ Aside0 (Below W.heap.size W wr)) (fun _ v6 v7 _ _ => 3 * sliceLen v6 + 2 - (intOf v7).toNat)
  case atStart =>
    refine ⟨0, A1, c1, by rw [HWHO.out]; rfl, rfl, q1, rfl, by go_num, fun j hj => absurd hj (Nat.not_lt_zero _), by simp [kwState], HC1, ⟨?_⟩, ⟨?_⟩⟩
    · refine (MapP.of_block (W := W.alloc (.map #[] 0)) ⟨_, World.ownsMap_made _ _ _ _, fun a b _ _ => ⟨rfl, rfl⟩, rfl⟩ (HB1.out.block _ (by simp))).congr (by simp [kwState]) (fun a b => ⟨rfl, rfl⟩)
    · exact below_then ((Below.refl _ _).alloc (Nat.le_refl _) _) (by simp) HB1.out
  case round =>
    obtain ⟨n, A, c, rfl, rfl, hcc, rfl, rfl, hj, h2, HC, HM, HB⟩ := hrel
    have hl := kst_len m b0 n
    have hpl := plus_len m b0 n
    by_cases hst : (kwState m b0 n).2.2 < 2
    · have hs1 : decide (((kwState m b0 n).2.2 : Int) < 2) = true := decide_eq_true (by omega)
      have HBP := Aside0.mk (fun W1 h => HBh.out (kwState m b0 n).2.1 43 A c (kwState m b0 n).1 W1 h hcc (HAG.out n) (by omega))
      have HBM := Aside0.mk (fun W1 h => HBh.out (kwState m b0 n).2.1 45 A c (kwState m b0 n).1 W1 h hcc (HAG.out n) (by omega))
      have HOT := Aside0.mk (HO.out (kwState m b0 n).2.1)
      have HHJ := Aside0.mk hj
      have hnb : n ≤ 5000 := by have := kwGoes_up m b0 hm n hj; omega
      have HNW := Aside0.mk (show (Lit.int .i64 ((n : Int) + 1)).wf = true from WalkArith.wf_i64 (by have := kwGoes_up m b0 hm n hj; omega))
      clear hj
      obtain ⟨xs, hxs⟩ : ∃ xs, xs = (kwState m b0 n).1 := ⟨_, rfl⟩
      obtain ⟨wb, hwb⟩ : ∃ wb, wb = whoB (kwState m b0 n).2.1 := ⟨_, rfl⟩
      obtain ⟨sn, hsn⟩ : ∃ sn, sn = (kwState m b0 n).2.2 := ⟨_, rfl⟩
      have e1 : xs.filter (keepsW (kwState m b0 n).2.1 43 xs) = kwPlus m b0 n := by rw [hxs]; rfl
      have e2 : xs.filter (keepsW (kwState m b0 n).2.1 45 xs) = (kwState m b0 (n + 1)).1 := by rw [hxs]; rfl
      rw [← hxs] at HBP HBM
      rw [e1] at HBP
      rw [e2] at HBM
      rw [← hwb] at HBP HBM HOT
      have HXS := Aside0.mk hxs
      have HWB := Aside0.mk hwb
      have HSN := Aside0.mk hsn
      rw [← hxs] at HC
      rw [← hxs, ← hwb, ← hsn]
      rw [← hsn] at hs1
      clear e1 e2 hxs hwb hsn
      go_wp2_with (go_at_call 72; (with_reducible refine (HBP.out _ HC.out).mono ?_); rintro e w2 ⟨A2, c2, rfl, q2, hC2, hb2⟩; have HC2 := Aside0.mk hC2; have HB2 := Aside0.mk hb2; clear hC2 hb2)
      obtain ⟨ps, hps⟩ : ∃ ps, ps = kwPlus m b0 n := ⟨_, rfl⟩
      have HPS := Aside0.mk hps
      have hpl2 : ps.length ≤ 1640 := by rw [hps]; omega
      have HPA := Aside0.mk (fun x (h : x ∈ ps) => HAG.out n x (plus_in m b0 n x (by rw [← hps]; exact h)))
      rw [← hps] at q2 HC2 ⊢
      clear hps
      obtain ⟨sz, hsz⟩ : ∃ sz, sz = (prs m m).length - (kwState m b0 n).1.length := ⟨_, rfl⟩
      have hszl : sz ≤ 1640 := by omega
      rw [← hsz] at HM
      have HSZ := Aside0.mk hsz
      clear hsz
      go_loopw [23] (fun v23 wr => ∃ i : Nat, i ≤ ps.length ∧ v23 = .int .i64 (i : Int) ∧ Aside0 (MapP wr W.heap.size (sz + i) (fun a b => if (ps.take i).contains [a, b] = true then ((n + 1 : Nat) : Int) else kwTime m b0 n a b) (fun a b => (ps.take i).contains [a, b] || kwHas m b0 n a b)) ∧ Aside0 (Kd.C (Kd.slice 3 (Kd.int .i64)) wr A2 ps.length ps) ∧ Aside0 (Kd.C (Kd.slice 3 (Kd.int .i64)) wr A xs.length xs) ∧ Aside0 (Below W.heap.size W wr)) (fun v23 _ => ps.length - (intOf v23).toNat)
      case atStart => exact ⟨0, Nat.zero_le _, rfl, ⟨(HM.out.of_block (HB2.out.block _ HM.out.lt)).congr rfl (fun a b => ⟨by simp, by simp⟩)⟩, HC2, ⟨Kd.C_below HC.out HB2.out⟩, ⟨below_step HB.out HB2.out⟩⟩
      case round =>
        obtain ⟨i, hi, rfl, HM2, HC4, HC5, HB3⟩ := hrel
        by_cases hlt : i < ps.length
        · have hlt1 : decide ((i : Int) < (ps.length : Int)) = true := decide_eq_true (by omega)
          have HX := HPA.out ps[i] (List.getElem_mem hlt)
          have HTS := Aside0.mk (show ps.take (i + 1) = ps.take i ++ [ps[i]] from List.take_succ_eq_append_getElem hlt)
          have hnin : ps[i] ∉ ps.take i := by
            intro hx
            obtain ⟨j, hj, e⟩ := List.mem_iff_getElem.1 hx
            rw [List.length_take] at hj
            rw [List.getElem_take] at e
            have hnd := plus_nodup m b0 n
            rw [← HPS.out] at hnd
            have := (List.getElem_inj hnd).1 e
            omega
          have hhs : ∀ a b : Int, ps[i] = [a, b] → kwHas m b0 n a b = false := by
            intro a b e
            have h1 : [a, b] ∈ (kwState m b0 n).1 := plus_in m b0 n _ (by rw [← HPS.out, ← e]; exact List.getElem_mem hlt)
            cases hh : kwHas m b0 n a b with
            | false => rfl
            | true => exact absurd h1 ((kwHas_iff m b0 a b (kst_sub m b0 n _ h1) n).1 hh)
          obtain ⟨ad, Ax, cx, rfl, hx0, hx1, hCx, _⟩ := row_at HC4.out (Below.refl _ _) hlt
          obtain ⟨a, b, ha1, hab, hb40, hxe⟩ := HX
          rw [hxe] at hx0 hx1 hCx hnin
          have hhs2 := hhs a b hxe
          obtain ⟨adx, rfl, _⟩ := hCx.2.2 (by simp)
          obtain ⟨hcell0, hcell1⟩ := rows_load hCx
          obtain ⟨D, hown, hat, hsize⟩ := HM2.out
          have HAT := Aside0.mk hat
          have HOWN := Aside0.mk hown
          have HSI := Aside0.mk hsize
          have HWA := Aside0.mk (age_wf (a := a) (by omega))
          have HWB2 := Aside0.mk (age_wf (a := b) (by omega))
          have HNI := Aside0.mk hnin
          have HH2 := Aside0.mk hhs2
          have HXE := Aside0.mk hxe
          clear hCx hat hown hsize hnin hhs hhs2 hxe
          have hsa := run_arrayAt (some adx) cx
          have hcA : wr.cell? adx = some (.int .i64 (a : Int)) := hcell0
          have hcB : wr.cell? { block := adx.block, off := adx.off + 1 } = some (.int .i64 (b : Int)) := hcell1
          have hnw : (Lit.int .i64 ((n : Int) + 1)).wf = true := HNW.out
          have HNW2 := Aside0.mk hnw
          clear hnw
          go_wp2_with (at_mapUpdate; refine wpList_mapUpdate_own _ rfl _ _ _ 55 rfl 59 3 law59 Try.underlying55 _ W.heap.size (sz + i) D rfl HOWN.out (by unfold maxLen; omega) _ _ _ rfl rfl (kwKey_is HWA.out HWB2.out) _ [] (plainElem_int Try.underlying3 HNW2.out) ?_; intro w3 hown1 hgrow1; have HO1 := Aside0.mk hown1; have HG1 := Aside0.mk hgrow1; clear hown1 hgrow1)
          go_roundw
          case rel =>
            have H := cell_turned (B := W.heap.size) HOWN.out.choose_spec.choose_spec.1 HG1.out
            have hni : (ps.take i).contains [(a : Int), (b : Int)] = false := by
              cases h : (ps.take i).contains [(a : Int), (b : Int)] with
              | false => rfl
              | true => exact absurd (List.contains_iff_mem.1 h) HNI.out
            have key : ∀ x y : Int, (ps.take (i + 1)).contains [x, y] = (decide (x = (a : Int) ∧ y = (b : Int)) || (ps.take i).contains [x, y]) := by
              intro x y
              rw [HTS.out, HXE.out, Bool.eq_iff_iff]
              simp [or_comm]
            have hput := MapP.put HOWN.out HAT.out HSI.out HWA.out HWB2.out (by rw [hni, HH2.out]; rfl) HO1.out
            refine ⟨i + 1, by omega, by go_num, ⟨hput.congr (by omega) (fun x y => ?_)⟩, ⟨Crows_turned H HC4.out⟩, ⟨Crows_turned H HC5.out⟩, ⟨HB3.out.grown HG1.out HB3.out.size (fun k hk => by cases hk; exact Nat.le_refl _)⟩⟩
            rw [key x y]
            by_cases e : x = (a : Int) ∧ y = (b : Int)
            · rw [if_pos e, decide_eq_true e, Bool.true_or, if_pos rfl]
              exact ⟨rfl, rfl⟩
            · rw [if_neg e, decide_eq_false e, Bool.false_or, Bool.false_or]
              exact ⟨rfl, rfl⟩
          case measure => simp [intOf]; omega
        · obtain rfl : i = ps.length := by omega
          rw [List.take_length] at HM2
          obtain ⟨ys, hys⟩ : ∃ ys, ys = (kwState m b0 (n + 1)).1 := ⟨_, rfl⟩
          rw [← hys] at HBM
          have HYS := Aside0.mk hys
          have hly : ys.length ≤ xs.length := by rw [hys, HXS.out]; exact List.length_filter_le _ _
          have hyl2 : ps.length + ys.length = xs.length := by rw [hys, HXS.out, HPS.out]; exact plus_len m b0 n
          clear hys
          have e7 : (kwState m b0 (n + 1)).2.2 = if ys.length < xs.length then 0 else sn + 1 := by rw [HYS.out, HXS.out, HSN.out]; rfl
          have e8 : (kwState m b0 (n + 1)).2.1 = !(kwState m b0 n).2.1 := rfl
          have hend : ∀ (A3 : Option Addr) (c3 : Nat) (w4 : World), ys.length ≤ c3 → Kd.C (Kd.slice 3 (Kd.int .i64)) w4 A3 ys.length ys → Below wr.heap.size wr w4 →
              (∀ j, j < n + 1 → (kwState m b0 j).2.2 < 2) ∧ (kwState m b0 (n + 1)).2.2 ≤ 2 ∧ MapP w4 W.heap.size ((prs m m).length - ys.length) (kwTime m b0 (n + 1)) (kwHas m b0 (n + 1)) ∧ Below W.heap.size W w4 := by
            intro A3 c3 w4 _ _ hb4
            refine ⟨fun j hj => ?_, (kwGoes_down m b0 n hst).2, ?_, below_step HB3.out hb4⟩
            · by_cases e : j = n
              · rw [e]; exact hst
              · exact HHJ.out j (by omega)
            · refine (HM2.out.of_block (hb4.block _ HM2.out.lt)).congr ?_ (fun a b => ?_)
              · have h1 := HSZ.out
                have h2 : xs.length ≤ (prs m m).length := by rw [HXS.out]; exact hl
                rw [← HXS.out] at h1
                omega
              · show _ = (if (kwPlus m b0 n).contains [a, b] = true then ((n + 1 : Nat) : Int) else kwTime m b0 n a b) ∧ _ = ((kwPlus m b0 n).contains [a, b] || kwHas m b0 n a b)
                rw [HPS.out]
                exact ⟨rfl, rfl⟩
          have HEND := Aside0.mk hend
          have hsn2 : sn < 2 := by rw [HSN.out]; exact hst
          clear hend hl hpl
          by_cases hsh : ys.length < xs.length
          · have hd1 : decide ((ys.length : Int) < (xs.length : Int)) = true := decide_eq_true (by omega)
            rw [if_pos hsh] at e7
            have HE7 := Aside0.mk e7
            clear e7
            go_wp2_with (first | (go_at_call 72; (with_reducible refine (HBM.out _ HC5.out).mono ?_); rintro e w4 ⟨A3, c3, rfl, q3, hC3, hb3⟩; have HC3 := Aside0.mk hC3; have HB4 := Aside0.mk hb3; clear hC3 hb3) | (go_at_call 65; (with_reducible refine (HOT.out _).mono ?_); rintro e w5 ⟨rfl, rfl⟩))
            go_roundw
            case rel =>
              obtain ⟨g1, g2, g3, g4⟩ := HEND.out A3 c3 _ q3 HC3.out HB4.out
              refine ⟨n + 1, A3, c3, by rw [e8], by rw [← HYS.out], by rw [← HYS.out]; exact q3, by rw [HE7.out]; rfl, by go_num, g1, g2, ⟨by rw [← HYS.out]; exact HC3.out⟩, ⟨by rw [← HYS.out]; exact g3⟩, ⟨g4⟩⟩
            case measure => simp [intOf, sliceLen]; omega
          · have hd1 : decide ((ys.length : Int) < (xs.length : Int)) = false := decide_eq_false (by omega)
            rw [if_neg hsh] at e7
            have HE7 := Aside0.mk e7
            clear e7
            go_wp2_with (first | (go_at_call 72; (with_reducible refine (HBM.out _ HC5.out).mono ?_); rintro e w4 ⟨A3, c3, rfl, q3, hC3, hb3⟩; have HC3 := Aside0.mk hC3; have HB4 := Aside0.mk hb3; clear hC3 hb3) | (go_at_call 65; (with_reducible refine (HOT.out _).mono ?_); rintro e w5 ⟨rfl, rfl⟩))
            go_roundw
            case rel =>
              obtain ⟨g1, g2, g3, g4⟩ := HEND.out A3 c3 _ q3 HC3.out HB4.out
              refine ⟨n + 1, A3, c3, by rw [e8], by rw [← HYS.out], by rw [← HYS.out]; exact q3, by rw [HE7.out]; go_num, by go_num, g1, g2, ⟨by rw [← HYS.out]; exact HC3.out⟩, ⟨by rw [← HYS.out]; exact g3⟩, ⟨g4⟩⟩
            case measure => simp [intOf, sliceLen]; omega
    · have hs1 : decide (((kwState m b0 n).2.2 : Int) < 2) = false := decide_eq_false (by omega)
      go_wp2
      go_ret
      have he : n = kwEnd m b0 := KwEnds.one ⟨by omega, hj⟩ (endN_is m b0)
      subst he
      exact ⟨rfl, HM.out, HB.out⟩

end Go.Proofs.Ytofkafbcbghkeaa.E
