-- WRITTEN by xprint.py, a program of this session that drives the kit's printer: out of the translation. Lean checks it.
import Derived.Test.YtofkafbcbghkeaaE0
import Derived.Test.YtofkafbcbghkeaaE5
import Derived.Test.YtofkafbcbghkeaaE7
import Derived.Test.YtofkafbcbghkeaaE10
import Derived.Test.YtofkafbcbghkeaaE11
import Derived.Test.YtofkafbcbghkeaaE12
import Derived.Test.YtofkafbcbghkeaaE13
import Derived.Test.YtofkafbcbghkeaaWLast
import Derived.Test.YtofkafbcbghkeaaWWords
namespace Go.Proofs.Ytofkafbcbghkeaa.E
open Go.RowKit Go.Proofs.YtofkafbcbghkeaaW.PrintWords Go.Proofs.YtofkafbcbghkeaaW.PrintLast
set_option linter.unusedVariables false
set_option linter.unusedSimpArgs false

-- OURS, BY HAND
/-! ### impl_behind: function 72 -/
-- func impl.behind
-- ext raw=1
-- needs impl.behind$1
-- needs impl.behind$2
-- needs impl.counted
-- needs impl.value
-- import Derived.Deep.RegionWith
-- import Derived.Deep.RegionLaw
-- import Derived.IntWalk
theorem MapI.drewN {W : World} {B n : Nat} {f : Int → Int} (h : MapI W B n f) (m : Nat) : MapI (W.drewN m) B n f := by
  obtain ⟨D, h1, h2⟩ := h
  exact ⟨D, owns_drewN h1 m, h2⟩
/-- Block B is a map of truths that gives g of each key. -/
def MapB (W : World) (B n : Nat) (g : Int → Bool) : Prop := ∃ D : DataW Unit, W.ownsMap Try.prog 3 (plainElem Try.prog 4) B n D ∧ ∀ v, (Lit.int .i64 v).wf = true → D.atKey (.int .i64 v) (.lit (.bool false)) = .lit (.bool (g v))
theorem MapB.of_block {W W' : World} {B n : Nat} {f : Int → Bool} (h : MapB W B n f) (e : W'.heap[B]? = W.heap[B]?) : MapB W' B n f := by
  obtain ⟨D, ⟨es, clock, h1, h2⟩, h3⟩ := h
  exact ⟨D, ⟨es, clock, e.trans h1, h2⟩, h3⟩
theorem MapB.lt {W : World} {B n : Nat} {f : Int → Bool} (h : MapB W B n f) : B < W.heap.size := by
  obtain ⟨D, ⟨es, clock, h1, h2⟩, h3⟩ := h
  exact blk_lt h1
theorem MapB.drewN {W : World} {B n : Nat} {f : Int → Bool} (h : MapB W B n f) (m : Nat) : MapB (W.drewN m) B n f := by
  obtain ⟨D, h1, h2⟩ := h
  exact ⟨D, owns_drewN h1 m, h2⟩
theorem MapB.congr {W : World} {B n : Nat} {f g : Int → Bool} (h : MapB W B n f) (e : ∀ v, (Lit.int .i64 v).wf = true → f v = g v) : MapB W B n g := by
  obtain ⟨D, h1, h2⟩ := h
  exact ⟨D, h1, fun v hv => by rw [← e v hv]; exact h2 v hv⟩
theorem MapB.run {W : World} {B n : Nat} {f : Int → Bool} (h : MapB W B n f) (v : Int) (hv : (Lit.int .i64 v).wf = true) : (Instr.lookup 71 (.map (some B)) (.int .i64 v) false).run Try.prog W = .ok (.bool (f v)) W := by
  obtain ⟨D, h1, h2⟩ := h
  obtain ⟨u, ps, hr, hu⟩ := h1.lookup law3 Try.underlying71 (zero4 W) (plainElem_bool Try.underlying4 false) (Maps.keyOf_int_mk Try.underlying3 hv)
  rw [h2 v hv] at hu
  unfold plainElem at hu
  rw [Try.underlying4] at hu
  cases u <;> simp at hu
  obtain ⟨e, _⟩ := hu
  rw [hr, e]
theorem MapB.put {W W1 : World} {B n : Nat} {f : Int → Bool} {D : DataW Unit} {v0 : Int} {c : Bool} (hD : W.ownsMap Try.prog 3 (plainElem Try.prog 4) B n D) (h : ∀ v, (Lit.int .i64 v).wf = true → D.atKey (.int .i64 v) (.lit (.bool false)) = .lit (.bool (f v)))
    (h1 : W1.ownsMap Try.prog 3 (plainElem Try.prog 4) B (n + 1) (D.put (.int .i64 v0) (.lit (.bool c)))) : MapB W1 B (n + 1) (fun v => if v = v0 then c else f v) := by
  refine ⟨_, h1, fun v hw => ?_⟩
  show _ = DataW.lit (.bool (if v = v0 then c else f v))
  by_cases e : v = v0
  · subst e
    rw [if_pos rfl]
    exact Maps.atKey_put_same (k := .int .i64 v) hD.isMap (by trivial) _ _
  · rw [if_neg e, Maps.atKey_put_other (fun e' => e (by injection e')) _ _]
    exact h v hw
/-- What behind's first closure finds in its boxes. -/
def Own1 (r1 r2 r3 B n : Nat) (b : Bool) (w : Int) (f : Int → Int) (W : World) : Prop :=
  W.heap[r1]? = some (.cells #[.map (some B)] 67 (0, 0)) ∧ W.heap[r2]? = some (.cells #[.string (whoB b)] 9 (0, 0)) ∧ W.heap[r3]? = some (.cells #[.int .u8 w] 5 (0, 0)) ∧ MapI W B n f
set_option maxHeartbeats 8000000 in
set_option maxRecDepth 100000 in
theorem asks1 (r1 r2 r3 B n : Nat) (b : Bool) (w : Int) (f : Int → Int) : DelAsks1 (Own1 r1 r2 r3 B n b w f) (.pointer (some ⟨r1, 0, none⟩)) (.pointer (some ⟨r2, 0, none⟩)) (.pointer (some ⟨r3, 0, none⟩)) (fun s => (f (valW b s) == 1) != (w == 43)) := by
  intro s A c W ha h4 hcc hC hP0
  obtain ⟨p1, p2, p3, p4⟩ := hP0
  have HP := Aside0.mk (fun n => impl_value.calls A c s (whoB b) _ (W.drewN n) (Kd.C_drewN hC n) hcc (value_W b ha))
  have hc1 := fun m => blk_cell (blk_drewN p1 m) 0
  have hc2 := fun m => blk_cell (blk_drewN p2 m) 0
  have hc3 := fun m => blk_cell (blk_drewN p3 m) 0
  simp only [List.getElem?_toArray, List.getElem?_cons_zero] at hc1 hc2 hc3
  have hl := fun m => (p4.drewN m).run (valW b s) (valW_wf b ha)
  obtain ⟨who, hwho⟩ : ∃ who, who = whoB b := ⟨_, rfl⟩
  obtain ⟨v0, hv0⟩ : ∃ v0, v0 = valW b s := ⟨_, rfl⟩
  rw [← hwho] at HP hc2
  rw [← hv0] at HP hl
  show Calls _ _ _ _ fun e w' => e = .returned (.bool ((f (valW b s) == 1) != (w == 43))) ∧ Drawn0 W w'
  rw [← hv0]
  obtain ⟨c0, hc0⟩ : ∃ c0, c0 = f v0 := ⟨_, rfl⟩
  rw [← hc0] at hl ⊢
  clear hC p1 p2 p3 p4 ha hwho hv0 hc0
  go_enter Try.func80, Try.ntmps80
  go_wp2
  go_quiet ((go_at_call 47; (with_reducible refine (HP.out _).mono ?_); rintro e w' ⟨rfl, ⟨nd, rfl⟩⟩; exact ⟨rfl, _, World.drewN_drewN _ _ _⟩))
  go_wp2
  go_ret
  exact ⟨rfl, ⟨_, rfl⟩⟩
/-- What behind's second closure finds in its boxes. -/
def Own2 (r1 r2 B n : Nat) (b : Bool) (f : Int → Bool) (W : World) : Prop :=
  W.heap[r1]? = some (.cells #[.map (some B)] 71 (0, 0)) ∧ W.heap[r2]? = some (.cells #[.string (whoB b)] 9 (0, 0)) ∧ MapB W B n f
set_option maxHeartbeats 8000000 in
set_option maxRecDepth 100000 in
theorem asks2 (r1 r2 B n : Nat) (b : Bool) (f : Int → Bool) : DelAsks2 (Own2 r1 r2 B n b f) (.pointer (some ⟨r1, 0, none⟩)) (.pointer (some ⟨r2, 0, none⟩)) (fun s => f (valW b s)) := by
  intro s A c W ha h4 hcc hC hP0
  obtain ⟨p1, p2, p4⟩ := hP0
  have HP := Aside0.mk (fun n => impl_value.calls A c s (whoB b) _ (W.drewN n) (Kd.C_drewN hC n) hcc (value_W b ha))
  have hc1 := fun m => blk_cell (blk_drewN p1 m) 0
  have hc2 := fun m => blk_cell (blk_drewN p2 m) 0
  simp only [List.getElem?_toArray, List.getElem?_cons_zero] at hc1 hc2
  have hl := fun m => (p4.drewN m).run (valW b s) (valW_wf b ha)
  obtain ⟨who, hwho⟩ : ∃ who, who = whoB b := ⟨_, rfl⟩
  obtain ⟨v0, hv0⟩ : ∃ v0, v0 = valW b s := ⟨_, rfl⟩
  rw [← hwho] at HP hc2
  rw [← hv0] at HP hl
  show Calls _ _ _ _ fun e w' => e = .returned (.bool (f (valW b s))) ∧ Drawn0 W w'
  rw [← hv0]
  obtain ⟨c0, hc0⟩ : ∃ c0, c0 = f v0 := ⟨_, rfl⟩
  rw [← hc0] at hl ⊢
  clear hC p1 p2 p4 ha hwho hv0 hc0
  go_enter Try.func81, Try.ntmps81
  go_wp2
  go_quiet ((go_at_call 47; (with_reducible refine (HP.out _).mono ?_); rintro e w' ⟨rfl, ⟨nd, rfl⟩⟩; exact ⟨rfl, _, World.drewN_drewN _ _ _⟩))
  go_wp2
  go_ret
  exact ⟨rfl, ⟨_, rfl⟩⟩
/-- The headers of a list that is read in W0. -/
def HeadsOf (W0 : World) (us : List Value) (xs : List (List Int)) : Prop := us.length = xs.length ∧ ∀ (j : Nat) (u : Value) (x : List Int), us[j]? = some u → xs[j]? = some x → (Kd.slice 3 (Kd.int .i64)).K W0 x [u]
theorem heads_of {W : World} {A : Option Addr} {xs : List (List Int)} (hC : Kd.C (Kd.slice 3 (Kd.int .i64)) W A xs.length xs) : ∃ us, Kd.C rawKd W A us.length us ∧ HeadsOf W us xs := by
  by_cases h0 : xs.length = 0
  · obtain rfl : xs = [] := List.eq_nil_of_length_eq_zero h0
    exact ⟨[], ⟨rfl, by simp, fun h => absurd h (by simp)⟩, rfl, fun j u x hu => by simp at hu⟩
  · obtain ⟨ad, e, _⟩ := hC.2.2 (by omega)
    subst e
    obtain ⟨us, hr, hcell⟩ := ReadsRow.inner_ hC
    have hl : us.length = xs.length := hr.1.trans (Nat.mul_one _)
    have hK : ∀ (j : Nat) (u : Value) (x : List Int), us[j]? = some u → xs[j]? = some x → (Kd.slice 3 (Kd.int .i64)).K W x [u] := by
      intro j u x hu hx
      have : (Kd.slice 3 (Kd.int .i64)).K W x ((us.drop (j * 1)).take 1) := hr.2 j x hx
      rwa [take_drop_one us j hu] at this
    refine ⟨us, ⟨rfl, ?_, fun _ => ⟨ad, rfl, fun j p hp => ⟨[p], rfl, ⟨rfl, ?_⟩, fun i u hu => ?_⟩⟩⟩, hl, hK⟩
    · have := hC.2.1
      omega
    · have hj : j < xs.length := by rw [← hl]; exact (List.getElem?_eq_some_iff.1 hp).1
      obtain ⟨A1, c1, e, _, _⟩ := hK j p _ hp (List.getElem?_eq_getElem hj)
      injection e with e _
      rw [e]
      rfl
    · match i, hu with
      | 0, hu =>
        simp only [List.getElem?_cons_zero, Option.some.injEq] at hu
        subst hu
        have : ad.add (j * rawKd.sz + 0) = ad.add j := by show ad.add (j * 1 + 0) = ad.add j; rw [Nat.mul_one, Nat.add_zero]
        rw [this]
        exact hcell j p hp
theorem Own1.keep {r1 r2 r3 B n : Nat} {b : Bool} {w : Int} {f : Int → Int} {W W1 : World} (h : Own1 r1 r2 r3 B n b w f W) (hk : ∀ k, k < W.heap.size → W1.heap[k]? = W.heap[k]?) : Own1 r1 r2 r3 B n b w f W1 :=
  ⟨(hk _ (blk_lt h.1)).trans h.1, (hk _ (blk_lt h.2.1)).trans h.2.1, (hk _ (blk_lt h.2.2.1)).trans h.2.2.1, h.2.2.2.of_block (hk _ h.2.2.2.lt)⟩
theorem Own2.keep {r1 r2 B n : Nat} {b : Bool} {f : Int → Bool} {W W1 : World} (h : Own2 r1 r2 B n b f W) (hk : ∀ k, k < W.heap.size → W1.heap[k]? = W.heap[k]?) : Own2 r1 r2 B n b f W1 :=
  ⟨(hk _ (blk_lt h.1)).trans h.1, (hk _ (blk_lt h.2.1)).trans h.2.1, h.2.2.of_block (hk _ h.2.2.lt)⟩
theorem del1_calls (P : World → Prop) (k1 k2 k3 : Value) (D : List Int → Bool) (hD : DelAsks1 P k1 k2 k3 D) (W0 W5 : World) (v2 : Value) (us : List Value) (xs : List (List Int)) (ok : Nat → Prop) (b0 : Nat) (hR : Kd.R rawKd 45 W5 b0 ok v2 us) (h0 : W0.heap.size ≤ b0) (hH : HeadsOf W0 us xs) (hB : Below W0.heap.size W0 W5)
    (ha : ∀ x ∈ xs, Ages x) (hn : xs.length ≤ 4000) (hP : ∀ g w1, b0 ≤ g → W5.grownBy w1 (some g) → P w1) :
    Calls Try.prog 78 #[v2, .func (.func 80) #[] #[k1, k2, k3]] W5 fun e w' => ∃ A c, e = .returned (.slice A (xs.filter fun x => !D x).length c) ∧ (xs.filter fun x => !D x).length ≤ c ∧ Kd.C (Kd.slice 3 (Kd.int .i64)) w' A (xs.filter fun x => !D x).length (xs.filter fun x => !D x) ∧ W5.grownBy w' v2.ownBlock ∧ ∀ k, v2.ownBlock = some k → b0 ≤ k := by
  have hbase := Kd.R_base hR
  obtain ⟨hok, inner, ho, hr⟩ := hR
  obtain rfl := reps_raw hr
  obtain ⟨hl, hK⟩ := hH
  rcases ho.2 with ⟨rfl, e⟩ | ⟨g, cap, cur, rfl, hb, hg, hnc, hcm, hsz, htk⟩
  · have hx : xs = [] := List.eq_nil_of_length_eq_zero (by rw [← hl]; exact e)
    subst hx
    refine (deleteFunc_nil1 k1 k2 k3 W5).mono ?_
    rintro e w' ⟨rfl, rfl⟩
    exact ⟨none, 0, rfl, Nat.le_refl _, Kd.C_nil _ _, ⟨rfl, rfl, rfl, Nat.le_refl _, fun _ _ _ => rfl⟩, hbase⟩
  · rw [show (rawKd.sz) = 1 from rfl, Nat.mul_one] at hsz
    have htk2 : cur.toList.take inner.length = inner := by simpa [show rawKd.sz = 1 from rfl] using htk
    have hcu : ∀ j, j < inner.length → cur[j]? = inner[j]? := by
      intro j hj
      have := congrArg (fun l => l[j]?) htk2
      simp only [List.getElem?_take, if_pos hj, Array.getElem?_toList] at this
      exact this
    have hbl : ∀ w1, W5.grownBy w1 (some g) → Below W0.heap.size W0 w1 := fun w1 h => hB.grown h hB.size (fun k e => by obtain rfl := Option.some.inj e; omega)
    have hh : ∀ w1, W5.grownBy w1 (some g) → Heads w1 cur xs := by
      intro w1 h j x hx
      have hj : j < inner.length := by rw [hl]; exact (List.getElem?_eq_some_iff.1 hx).1
      obtain ⟨A1, c1, e, q1, q2⟩ := hK j _ x (List.getElem?_eq_getElem hj) hx
      injection e with e _
      have hA := ha x (List.mem_of_getElem? hx)
      exact ⟨hA, by rw [hA.len]; omega, A1, c1, by rw [hcu j hj, List.getElem?_eq_getElem hj, e], q1, Kd.C_below q2 (hbl w1 h)⟩
    have key := deleteFunc_calls1 P k1 k2 k3 D hD g cap xs cur W5 (fun w1 h => hP g w1 hb h) hg hh (by omega) (by omega) hsz hcm
    rw [hl]
    refine key.mono ?_
    rintro e w' ⟨rfl, hk, c1, h1, h2, h3⟩
    have hlen : (xs.filter fun x => !D x).length = (stayAt D xs xs.length).length := by rw [← stay_filter]; simp
    have hst := stayAt_len D xs xs.length
    rw [← hlen] at h3 hst ⊢
    refine ⟨some ⟨g, 0, none⟩, cap, rfl, by omega, ⟨rfl, by unfold maxLen at hcm; omega, fun _ => ⟨⟨g, 0, none⟩, rfl, fun j p hp => ?_⟩⟩, hk, hbase⟩
    have hj := (List.getElem?_eq_some_iff.1 hp).1
    obtain ⟨q, q1, q2⟩ := h3 j hj
    have hq := stayAt_lt D xs _ q (List.mem_of_getElem? q1)
    rw [← stay_filter, List.getElem?_map, q1] at hp
    have hx2 : xs[q]? = some p := by
      simp only [Option.map_some, Option.some.injEq] at hp
      rw [List.getElem?_eq_getElem hq, ← hp]
      simp [List.getD, List.getElem?_eq_getElem hq]
    have hqi : q < inner.length := by omega
    have hKq := hK q _ p (List.getElem?_eq_getElem hqi) hx2
    refine ⟨[inner[q]], rfl, (Kd.slice 3 (Kd.int .i64)).K_below (hbl w' hk) hKq, fun i u hu => ?_⟩
    match i, hu with
    | 0, hu =>
      simp only [List.getElem?_cons_zero, Option.some.injEq] at hu
      subst hu
      show w'.cell? ((⟨g, 0, none⟩ : Addr).add (j * 1 + 0)) = _
      rw [Nat.mul_one, Nat.add_zero, add_at]
      refine (blk_cell h1 j).trans ?_
      rw [q2, hcu q hqi, List.getElem?_eq_getElem hqi]
theorem del2_calls (P : World → Prop) (k1 k2 : Value) (D : List Int → Bool) (hD : DelAsks2 P k1 k2 D) (W0 W5 : World) (v2 : Value) (us : List Value) (xs : List (List Int)) (ok : Nat → Prop) (b0 : Nat) (hR : Kd.R rawKd 45 W5 b0 ok v2 us) (h0 : W0.heap.size ≤ b0) (hH : HeadsOf W0 us xs) (hB : Below W0.heap.size W0 W5)
    (ha : ∀ x ∈ xs, Ages x) (hn : xs.length ≤ 4000) (hP : ∀ g w1, b0 ≤ g → W5.grownBy w1 (some g) → P w1) :
    Calls Try.prog 78 #[v2, .func (.func 81) #[] #[k1, k2]] W5 fun e w' => ∃ A c, e = .returned (.slice A (xs.filter fun x => !D x).length c) ∧ (xs.filter fun x => !D x).length ≤ c ∧ Kd.C (Kd.slice 3 (Kd.int .i64)) w' A (xs.filter fun x => !D x).length (xs.filter fun x => !D x) ∧ W5.grownBy w' v2.ownBlock ∧ ∀ k, v2.ownBlock = some k → b0 ≤ k := by
  have hbase := Kd.R_base hR
  obtain ⟨hok, inner, ho, hr⟩ := hR
  obtain rfl := reps_raw hr
  obtain ⟨hl, hK⟩ := hH
  rcases ho.2 with ⟨rfl, e⟩ | ⟨g, cap, cur, rfl, hb, hg, hnc, hcm, hsz, htk⟩
  · have hx : xs = [] := List.eq_nil_of_length_eq_zero (by rw [← hl]; exact e)
    subst hx
    refine (deleteFunc_nil2 k1 k2 W5).mono ?_
    rintro e w' ⟨rfl, rfl⟩
    exact ⟨none, 0, rfl, Nat.le_refl _, Kd.C_nil _ _, ⟨rfl, rfl, rfl, Nat.le_refl _, fun _ _ _ => rfl⟩, hbase⟩
  · rw [show (rawKd.sz) = 1 from rfl, Nat.mul_one] at hsz
    have htk2 : cur.toList.take inner.length = inner := by simpa [show rawKd.sz = 1 from rfl] using htk
    have hcu : ∀ j, j < inner.length → cur[j]? = inner[j]? := by
      intro j hj
      have := congrArg (fun l => l[j]?) htk2
      simp only [List.getElem?_take, if_pos hj, Array.getElem?_toList] at this
      exact this
    have hbl : ∀ w1, W5.grownBy w1 (some g) → Below W0.heap.size W0 w1 := fun w1 h => hB.grown h hB.size (fun k e => by obtain rfl := Option.some.inj e; omega)
    have hh : ∀ w1, W5.grownBy w1 (some g) → Heads w1 cur xs := by
      intro w1 h j x hx
      have hj : j < inner.length := by rw [hl]; exact (List.getElem?_eq_some_iff.1 hx).1
      obtain ⟨A1, c1, e, q1, q2⟩ := hK j _ x (List.getElem?_eq_getElem hj) hx
      injection e with e _
      have hA := ha x (List.mem_of_getElem? hx)
      exact ⟨hA, by rw [hA.len]; omega, A1, c1, by rw [hcu j hj, List.getElem?_eq_getElem hj, e], q1, Kd.C_below q2 (hbl w1 h)⟩
    have key := deleteFunc_calls2 P k1 k2 D hD g cap xs cur W5 (fun w1 h => hP g w1 hb h) hg hh (by omega) (by omega) hsz hcm
    rw [hl]
    refine key.mono ?_
    rintro e w' ⟨rfl, hk, c1, h1, h2, h3⟩
    have hlen : (xs.filter fun x => !D x).length = (stayAt D xs xs.length).length := by rw [← stay_filter]; simp
    have hst := stayAt_len D xs xs.length
    rw [← hlen] at h3 hst ⊢
    refine ⟨some ⟨g, 0, none⟩, cap, rfl, by omega, ⟨rfl, by unfold maxLen at hcm; omega, fun _ => ⟨⟨g, 0, none⟩, rfl, fun j p hp => ?_⟩⟩, hk, hbase⟩
    have hj := (List.getElem?_eq_some_iff.1 hp).1
    obtain ⟨q, q1, q2⟩ := h3 j hj
    have hq := stayAt_lt D xs _ q (List.mem_of_getElem? q1)
    rw [← stay_filter, List.getElem?_map, q1] at hp
    have hx2 : xs[q]? = some p := by
      simp only [Option.map_some, Option.some.injEq] at hp
      rw [List.getElem?_eq_getElem hq, ← hp]
      simp [List.getD, List.getElem?_eq_getElem hq]
    have hqi : q < inner.length := by omega
    have hKq := hK q _ p (List.getElem?_eq_getElem hqi) hx2
    refine ⟨[inner[q]], rfl, (Kd.slice 3 (Kd.int .i64)).K_below (hbl w' hk) hKq, fun i u hu => ?_⟩
    match i, hu with
    | 0, hu =>
      simp only [List.getElem?_cons_zero, Option.some.injEq] at hu
      subst hu
      show w'.cell? ((⟨g, 0, none⟩ : Addr).add (j * 1 + 0)) = _
      rw [Nat.mul_one, Nat.add_zero, add_at]
      refine (blk_cell h1 j).trans ?_
      rw [q2, hcu q hqi, List.getElem?_eq_getElem hqi]
def known (b : Bool) (xs : List (List Int)) (v : Int) : Bool := xs.any fun y => (cnt (!b) xs (valW (!b) y) == 1) && (v == valW b y)
def keepsW (b : Bool) (w : Int) (xs : List (List Int)) (x : List Int) : Bool := if w = 33 then !known b xs (valW b x) else !((cnt b xs (valW b x) == 1) != (w == 43))
set_option maxHeartbeats 8000000 in
set_option maxRecDepth 100000 in
theorem behind1_calls (b : Bool) (w : Int) (hw : ¬ w = 33) (A : Option Addr) (c : Nat) (xs : List (List Int)) (W : World) (hC : Kd.C (Kd.slice 3 (Kd.int .i64)) W A xs.length xs) (hc : xs.length ≤ c) (ha : ∀ x ∈ xs, Ages x) (hn : xs.length ≤ 4000) :
    Calls Try.prog 72 #[.slice A xs.length c, .string (whoB b), .int .u8 w] W fun e w' => ∃ A' c', e = .returned (.slice A' (xs.filter (keepsW b w xs)).length c') ∧ (xs.filter (keepsW b w xs)).length ≤ c' ∧ Kd.C (Kd.slice 3 (Kd.int .i64)) w' A' (xs.filter (keepsW b w xs)).length (xs.filter (keepsW b w xs)) ∧ Below W.heap.size W w' := by
  obtain ⟨us, hCr, hH⟩ := heads_of hC
  have hS : keepsW b w xs = fun x => !((cnt b xs (valW b x) == 1) != (w == 43)) := by funext x; unfold keepsW; rw [if_neg hw]
  rw [hS]
  have hw1 : (w != 33) = true := by simpa using hw
  have HC := Aside0.mk hC
  have HCR := Aside0.mk hCr
  have HH := Aside0.mk hH
  have HL := Aside0.mk (fun W1 (h : Kd.C rawKd W1 A us.length us) => show Calls Try.prog 79 #[.slice A xs.length c] W1 _ from by rw [← hH.1]; exact cloneRows.calls A c us us W1 h (by rw [hH.1]; exact hc) (by have := hH.1; omega) rfl)
  have HCo := Aside0.mk (fun W1 h => counted_calls b A c xs W1 h ha hn)
  have HD := Aside0.mk (fun r1 r2 r3 B n W4 W5 v2 (hO : Own1 r1 r2 r3 B n b w (cnt b xs) W4) (h45 : Below W4.heap.size W4 W5) (hR : Kd.R rawKd 45 W5 W4.heap.size (fun _ => True) v2 us) (h0 : W.heap.size ≤ W4.heap.size) (h04 : Below W.heap.size W W4) =>
    del1_calls (Own1 r1 r2 r3 B n b w (cnt b xs)) _ _ _ _ (asks1 r1 r2 r3 B n b w (cnt b xs)) W W5 v2 us xs _ W4.heap.size hR h0 hH (below_then h04 h0 h45) ha hn (fun g w1 hg hgr => hO.keep (fun k hk => (hgr.block k (Nat.lt_of_lt_of_le hk h45.size) (fun e => by have := Option.some.inj e; omega)).trans (h45.block k hk))))
  obtain ⟨who, hwho⟩ : ∃ who, who = whoB b := ⟨_, rfl⟩
  have HW := Aside0.mk hwho
  rw [← hwho] at HCo ⊢
  clear hC hCr hH ha hS hw hwho
  have hmm := @run_makeMap Try.prog
  go_enter Try.func72, Try.ntmps72
  go_wp2_with (first | (go_at_call 77; (with_reducible refine (HCo.out _ ?hC).mono ?_); (case hC => exact Kd.C_below HC.out (below_alloc (below_alloc (Below.refl _ _) _) _)); rintro e w3 ⟨rfl, hM, hb⟩; have GA := Aside0.mk (blk_below (blk_alloc (blk_new W _) _) hb); have GB := Aside0.mk (show w3.heap[W.heap.size + 1]? = some (.cells #[.int .u8 w] 5) by have h := blk_below (blk_new (W.alloc (.cells #[.string who] 9)) (.cells #[.int .u8 w] 5)) hb; simpa using h); have HM := Aside0.mk (show MapI w3 (W.heap.size + 1 + 1) xs.length (cnt b xs) by simpa using hM); have HB3 := Aside0.mk (show Below W.heap.size W w3 from below_then (below_alloc (below_alloc (Below.refl _ _) _) _) (by simp; omega) hb); have hcb : (w3.alloc (.cells #[.map (some (W.heap.size + 1 + 1))] 67)).cell? ⟨W.heap.size + 1, 0, none⟩ = some (.int .u8 w) := (blk_cell (blk_alloc GB.out _) 0).trans rfl; clear hM hb) | (go_at_call 79; (with_reducible refine (HL.out _ ?hC).mono ?_); (case hC => exact Kd.C_below HCR.out (below_alloc HB3.out _)); rintro e w5 ⟨v5, rfl, hR, hb⟩; have HR5 := Aside0.mk hR; have HB5 := Aside0.mk hb; clear hR hb) | (go_at_call 78; (with_reducible refine (HD.out _ _ _ (W.heap.size + 1 + 1) xs.length _ _ _ ?hO HB5.out HR5.out ?h1 ?h2).mono ?_); (case hO => exact ⟨blk_new _ _, blk_alloc (by rw [← HW.out]; exact GA.out) _, blk_alloc GB.out _, HM.out.of_block (Below.heap_alloc _ _ _ HM.out.lt)⟩); (case h1 => exact (below_alloc HB3.out _).size); (case h2 => exact below_alloc HB3.out _); rintro e w6 ⟨A6, c6, rfl, hc6, hC6, hg6, hk6⟩; have HC6 := Aside0.mk hC6; have HG6 := Aside0.mk hg6; have HK6 := Aside0.mk hk6; clear hC6 hg6 hk6))
  go_ret
  have h5 : Below W.heap.size W w5 := below_then (below_alloc HB3.out _) (below_alloc HB3.out _).size HB5.out
  exact ⟨A6, c6, rfl, hc6, HC6.out, h5.grown HG6.out h5.size (fun k hk => Nat.le_trans (below_alloc HB3.out _).size (HK6.out k hk))⟩
theorem MapB.update {W : World} {B n : Nat} {g : Int → Bool} (h : MapB W B n g) (hn : n < 100000) (v0 : Int) (hv : (Lit.int .i64 v0).wf = true) :
    ∃ U, (Instr.mapUpdate 71 (.map (some B)) (.int .i64 v0) (.bool true)).run Try.prog W = .ok () U ∧ MapB U B (n + 1) (fun v => if v = v0 then true else g v) ∧ W.grownBy U (some B) := by
  obtain ⟨D, h1, h2⟩ := h
  obtain ⟨U, q1, q2, q3⟩ := h1.update law3 Try.underlying71 (by unfold maxLen; omega) (Maps.keyOf_int_mk Try.underlying3 hv) (plainElem_bool Try.underlying4 true)
  exact ⟨U, q1, MapB.put h1 h2 q2, q3⟩
theorem MapB.mono {W : World} {B n m : Nat} {g : Int → Bool} (h : MapB W B n g) (hn : n ≤ m) : MapB W B m g := by
  obtain ⟨D, h1, h2⟩ := h
  exact ⟨D, h1.mono hn, h2⟩
/-- known, of the first pairs alone. -/
def knownP (b : Bool) (xs ys : List (List Int)) (v : Int) : Bool := ys.any fun y => (cnt (!b) xs (valW (!b) y) == 1) && (v == valW b y)
theorem knownP_snoc (b : Bool) (xs ys : List (List Int)) (x : List Int) (v : Int) : knownP b xs (ys ++ [x]) v = (knownP b xs ys v || ((cnt (!b) xs (valW (!b) x) == 1) && (v == valW b x))) := by
  simp [knownP, List.any_append]
theorem grown_trans {w w1 w2 : World} {g : Option Nat} (h : w.grownBy w1 g) (h2 : w1.grownBy w2 g) : w.grownBy w2 g :=
  ⟨h2.os.trans h.os, h2.tape.trans h.tape, h2.output.trans h.output, Nat.le_trans h.size h2.size, fun k hk hne => (h2.block k (Nat.lt_of_lt_of_le hk h.size) hne).trans (h.block k hk hne)⟩
theorem choice_of {α : Type} {p : Nat → α → Prop} (h : ∀ m, ∃ u, p m u) : ∃ f : Nat → α, ∀ m, p m (f m) := ⟨fun m => (h m).choose, fun m => (h m).choose_spec⟩
set_option maxHeartbeats 8000000 in
set_option maxRecDepth 100000 in
theorem behind2true_calls (A : Option Addr) (c : Nat) (xs : List (List Int)) (W : World) (hC : Kd.C (Kd.slice 3 (Kd.int .i64)) W A xs.length xs) (hc : xs.length ≤ c) (ha : ∀ x ∈ xs, Ages x) (hn : xs.length ≤ 4000) :
    Calls Try.prog 72 #[.slice A xs.length c, .string (whoB true), .int .u8 33] W fun e w' => ∃ A' c', e = .returned (.slice A' (xs.filter (keepsW true 33 xs)).length c') ∧ (xs.filter (keepsW true 33 xs)).length ≤ c' ∧ Kd.C (Kd.slice 3 (Kd.int .i64)) w' A' (xs.filter (keepsW true 33 xs)).length (xs.filter (keepsW true 33 xs)) ∧ Below W.heap.size W w' := by
  obtain ⟨us, hCr, hH⟩ := heads_of hC
  have hS : keepsW true 33 xs = fun x => !known true xs (valW true x) := by funext x; unfold keepsW; rw [if_pos rfl]
  rw [hS]
  have hw1 : ((33 : Int) != 33) = false := rfl
  have HC := Aside0.mk hC
  have HCR := Aside0.mk hCr
  have HA := Aside0.mk ha
  have HL := Aside0.mk (fun W1 (h : Kd.C rawKd W1 A us.length us) => show Calls Try.prog 79 #[.slice A xs.length c] W1 _ from by rw [← hH.1]; exact cloneRows.calls A c us us W1 h (by rw [hH.1]; exact hc) (by have := hH.1; omega) rfl)
  have HCo := Aside0.mk (fun W1 h => counted_calls true A c xs W1 h ha hn)
  have HCo2 := Aside0.mk (fun W1 h => show Calls Try.prog 77 #[.slice A xs.length c, .string ⟨#[112]⟩] W1 _ from counted_calls (!true) A c xs W1 h ha hn)
  have HV := Aside0.mk (fun (x : List Int) (hx : x ∈ xs) (A1 : Option Addr) (c1 : Nat) (w : World) (h : (Kd.int .i64).C w A1 x.length x) (h1 : x.length ≤ c1) => impl_value.calls A1 c1 x (whoB true) (valW true x) w h h1 (value_W true (ha x hx)))
  have HV2 := Aside0.mk (fun (x : List Int) (hx : x ∈ xs) (A1 : Option Addr) (c1 : Nat) (w : World) (h : (Kd.int .i64).C w A1 x.length x) (h1 : x.length ≤ c1) => show Calls Try.prog 47 #[.slice A1 x.length c1, .string ⟨#[112]⟩] w _ from impl_value.calls A1 c1 x (whoB (!true)) (valW (!true) x) w h h1 (value_W (!true) (ha x hx)))
  have HD := Aside0.mk (fun r1 r2 B n W4 W5 v2 (hO : Own2 r1 r2 B n true (known true xs) W4) (h45 : Below W4.heap.size W4 W5) (hR : Kd.R rawKd 45 W5 W4.heap.size (fun _ => True) v2 us) (h0 : W.heap.size ≤ W4.heap.size) (h04 : Below W.heap.size W W4) =>
    del2_calls (Own2 r1 r2 B n true (known true xs)) _ _ _ (asks2 r1 r2 B n true (known true xs)) W W5 v2 us xs _ W4.heap.size hR h0 hH (below_then h04 h0 h45) ha hn (fun g w1 hg hgr => hO.keep (fun k hk => (hgr.block k (Nat.lt_of_lt_of_le hk h45.size) (fun e => by have := Option.some.inj e; omega)).trans (h45.block k hk))))
  obtain ⟨who, hwho⟩ : ∃ who, who = whoB true := ⟨_, rfl⟩
  have HW := Aside0.mk hwho
  have hwl : (who.toList == ([115] : List UInt8)) = true := by rw [hwho]; kernel_rfl
  rw [← hwho] at HCo HV ⊢
  clear hC hCr hH ha hS hwho
  have hmm := @run_makeMap Try.prog
  go_enter Try.func72, Try.ntmps72
  go_wp2_with (first | (go_at_call 77; (with_reducible refine (HCo.out _ ?hC).mono ?_); (case hC => exact Kd.C_below HC.out (below_alloc (below_alloc (Below.refl _ _) _) _)); rintro e w3 ⟨rfl, hM, hb⟩; have GA := Aside0.mk (blk_below (blk_alloc (blk_new W _) _) hb); have GB := Aside0.mk (show w3.heap[W.heap.size + 1]? = some (.cells #[.int .u8 33] 5) by have h := blk_below (blk_new (W.alloc (.cells #[.string who] 9)) (.cells #[.int .u8 33] 5)) hb; simpa using h); have HB3 := Aside0.mk (show Below W.heap.size W w3 from below_then (below_alloc (below_alloc (Below.refl _ _) _) _) (by simp; omega) hb); have hcb : (w3.alloc (.cells #[.map (some (W.heap.size + 1 + 1))] 67)).cell? ⟨W.heap.size + 1, 0, none⟩ = some (.int .u8 33) := (blk_cell (blk_alloc GB.out _) 0).trans rfl; have hcw : (w3.alloc (.cells #[.map (some (W.heap.size + 1 + 1))] 67)).cell? ⟨W.heap.size, 0, none⟩ = some (.string who) := (blk_cell (blk_alloc GA.out _) 0).trans rfl; clear hM hb) | (go_at_call 77; (with_reducible refine (HCo2.out _ ?hC).mono ?_); (case hC => exact Kd.C_below HC.out (below_alloc (below_alloc HB3.out _) _)); rintro e w6 ⟨rfl, hM, hb⟩; have GK := Aside0.mk (show MapB w6 (w3.heap.size + 1) 0 (fun _ => false) by (have h0 : MapB ((w3.alloc (.cells #[.map (some (W.heap.size + 1 + 1))] 67)).alloc (.map #[] 0)) (w3.heap.size + 1) 0 (fun _ => false) := ⟨.map [], (by have := World.ownsMap_made (w3.alloc (.cells #[.map (some (W.heap.size + 1 + 1))] 67)) Try.prog 3 (plainElem (H := Unit) Try.prog 4); simpa using this), fun v _ => rfl⟩); exact h0.of_block (hb.block _ h0.lt)); have GA6 := Aside0.mk (blk_below (blk_alloc (blk_alloc GA.out _) _) hb); have HM6 := Aside0.mk (show MapI w6 (w3.heap.size + 1 + 1) xs.length (cnt (!true) xs) by simpa using hM); have HB6 := Aside0.mk (show Below W.heap.size W w6 from below_then (below_alloc (below_alloc HB3.out _) _) (below_alloc (below_alloc HB3.out _) _).size hb); clear hM hb))
  obtain ⟨w7, hw7⟩ : ∃ w7, w7 = w6.alloc (.cells #[.map (some (w3.heap.size + 1))] 71) := ⟨_, rfl⟩
  have GR := Aside0.mk (show w7.heap[w6.heap.size]? = some (.cells #[.map (some (w3.heap.size + 1))] 71 (0, 0)) by rw [hw7]; exact blk_new _ _)
  have GA7 := Aside0.mk (show w7.heap[W.heap.size]? = some (.cells #[.string who] 9 (0, 0)) by rw [hw7]; exact blk_alloc GA6.out _)
  have GK7 := Aside0.mk (show MapB w7 (w3.heap.size + 1) 0 (fun _ => false) by rw [hw7]; exact GK.out.of_block (Below.heap_alloc _ _ _ GK.out.lt))
  have GM7 := Aside0.mk (show MapI w7 (w3.heap.size + 1 + 1) xs.length (cnt (!true) xs) by rw [hw7]; exact HM6.out.of_block (Below.heap_alloc _ _ _ HM6.out.lt))
  have GB7 := Aside0.mk (show Below W.heap.size W w7 by rw [hw7]; exact below_alloc HB6.out _)
  have n1 : W.heap.size < w3.heap.size := blk_lt GA.out
  have n2 : w3.heap.size + 1 < w6.heap.size := GK.out.lt
  rw [← hw7]
  clear hw7 hcb hcw
  obtain ⟨rb, hrb⟩ : ∃ rb, rb = w6.heap.size := ⟨_, rfl⟩
  obtain ⟨kb, hkb⟩ : ∃ kb, kb = w3.heap.size + 1 := ⟨_, rfl⟩
  obtain ⟨ob, hob⟩ : ∃ ob, ob = kb + 1 := ⟨_, rfl⟩
  obtain ⟨wb, hwb⟩ : ∃ wb, wb = W.heap.size := ⟨_, rfl⟩
  rw [← hkb] at GR GK7 GM7 n2 ⊢
  rw [← hob] at GM7 ⊢
  rw [← hrb] at GR n2 ⊢
  rw [← hwb] at GA7 n1 ⊢
  have n3 : wb < kb := by omega
  have n4 : kb < ob := by omega
  have HKB := Aside0.mk hkb
  have HWB := Aside0.mk hwb
  clear hrb hkb hob hwb
  go_loopw [30] (fun v30 wr => ∃ k : Nat, k ≤ xs.length ∧ v30 = .int .i64 (k : Int) ∧ Aside0 (MapB wr kb k (knownP true xs (xs.take k))) ∧ Aside0 (w7.grownBy wr (some kb))) (fun v30 _ => xs.length - (intOf v30).toNat)
  case atStart => exact ⟨0, Nat.zero_le _, rfl, GK7, ⟨⟨rfl, rfl, rfl, Nat.le_refl _, fun _ _ _ => rfl⟩⟩⟩
  case round =>
    obtain ⟨k, hk, rfl, HK, HG⟩ := hrel
    have gA := blk_grown GA7.out HG.out (fun e => by have := Option.some.inj e; omega)
    have gR := blk_grown GR.out HG.out (fun e => by have := Option.some.inj e; omega)
    have gM : MapI wr ob xs.length (cnt (!true) xs) := GM7.out.of_block (HG.out.block ob GM7.out.lt (fun e => by have := Option.some.inj e; omega))
    have gB : Below W.heap.size W wr := GB7.out.grown HG.out GB7.out.size (fun j hj => by cases hj; have := HWB.out; omega)
    have HGA := Aside0.mk gA
    have HGR := Aside0.mk gR
    have HGB := Aside0.mk gB
    by_cases hlt : k < xs.length
    · have hlt1 : decide ((k : Int) < (xs.length : Int)) = true := decide_eq_true (by omega)
      obtain ⟨ad, A1, c1, rfl, hx0, h1, hC1, _⟩ := row_at HC.out gB hlt
      have hag := HA.out xs[k] (List.getElem_mem hlt)
      have HCa2 := Aside0.mk (HV2.out xs[k] (List.getElem_mem hlt) A1 c1 wr hC1 h1)
      have HCa := Aside0.mk (fun (wx : World) (h : (Kd.int .i64).C wx A1 xs[k].length xs[k]) => HV.out xs[k] (List.getElem_mem hlt) A1 c1 wx h h1)
      have HC1 := Aside0.mk hC1
      have HTS := Aside0.mk (show xs.take (k + 1) = xs.take k ++ [xs[k]] from List.take_succ_eq_append_getElem hlt)
      have hl := fun m => (gM.drewN m).run (valW (!true) xs[k]) (valW_wf (!true) hag)
      have HWF := Aside0.mk (valW_wf true hag)
      have HKS := Aside0.mk (knownP_snoc true xs (xs.take k) xs[k])
      obtain ⟨vo, hvo⟩ : ∃ vo, vo = valW (!true) xs[k] := ⟨_, rfl⟩
      obtain ⟨v0, hv0⟩ : ∃ v0, v0 = valW true xs[k] := ⟨_, rfl⟩
      rw [← hvo] at HCa2 hl HKS
      rw [← hv0] at HCa HWF HKS
      obtain ⟨co, hco⟩ : ∃ co, co = cnt (!true) xs vo := ⟨_, rfl⟩
      rw [← hco] at hl HKS
      clear gA gR gM gB hag hC1 hvo hv0 hco
      cases hq : (co == 1) with
      | false =>
        rw [hq] at HKS
        go_wp2_with (go_at_call 47; (with_reducible refine HCa2.out.mono ?_); rintro e w' ⟨rfl, ⟨nd, rfl⟩⟩)
        go_roundw
        case rel =>
          refine ⟨k + 1, by omega, by go_num, ⟨?_⟩, ⟨?_⟩⟩
          · refine ((HK.out.drewN nd).mono (Nat.le_succ k)).congr fun v hv => ?_
            rw [HTS.out, HKS.out, Bool.false_and, Bool.or_false]
          · exact grown_trans HG.out ⟨rfl, rfl, rfl, Nat.le_refl _, fun _ _ _ => rfl⟩
        case measure => simp [intOf]; omega
      | true =>
        rw [hq] at HKS
        go_wp2_with (go_at_call 47; (with_reducible refine HCa2.out.mono ?_); rintro e w' ⟨rfl, ⟨nd, rfl⟩⟩)
        obtain ⟨wq, hwq⟩ : ∃ wq, wq = wr.drewN nd := ⟨_, rfl⟩
        have HGq := Aside0.mk (show w7.grownBy wq (some kb) by rw [hwq]; exact grown_trans HG.out ⟨rfl, rfl, rfl, Nat.le_refl _, fun _ _ _ => rfl⟩)
        have HKq := show MapB wq kb k (knownP true xs (xs.take k)) by rw [hwq]; exact HK.out.drewN nd
        have HCq := Aside0.mk (show (Kd.int .i64).C wq A1 xs[k].length xs[k] by rw [hwq]; exact Kd.C_drewN HC1.out nd)
        have gAq := show wq.heap[wb]? = some (.cells #[.string who] 9 (0, 0)) by rw [hwq]; exact blk_drewN HGA.out nd
        have gRq := show wq.heap[rb]? = some (.cells #[.map (some kb)] 71 (0, 0)) by rw [hwq]; exact blk_drewN HGR.out nd
        have f1 := fun m => blk_cell (blk_drewN gAq m) 0
        have f2 := fun m => blk_cell (blk_drewN gRq m) 0
        have f3 : wq.drew.cell? ⟨wb, 0, none⟩ = some (.string who) := (blk_cell gAq 0).trans rfl
        have f4 : wq.drew.cell? ⟨rb, 0, none⟩ = some (.map (some kb)) := (blk_cell gRq 0).trans rfl
        have f5 : ∀ m, (wq.drew.drewN m).cell? ⟨wb, 0, none⟩ = some (.string who) := fun m => (blk_cell (blk_drewN (w := wq.drew) gAq m) 0).trans rfl
        have f6 : ∀ m, (wq.drew.drewN m).cell? ⟨rb, 0, none⟩ = some (.map (some kb)) := fun m => (blk_cell (blk_drewN (w := wq.drew) gRq m) 0).trans rfl
        simp only [List.getElem?_toArray, List.getElem?_cons_zero] at f1 f2
        obtain ⟨U, hU⟩ := choice_of (fun m => (HKq.drewN m).update (by omega) v0 HWF.out)
        obtain ⟨U2, hU2⟩ := choice_of (fun m => ((show MapB wq.drew kb k (knownP true xs (xs.take k)) from HKq).drewN m).update (by omega) v0 HWF.out)
        have u1 := fun m => (hU m).1
        have u2 := fun m => (hU2 m).1
        have HU := Aside0.mk hU
        have HU2 := Aside0.mk hU2
        rw [← hwq]
        clear hwq hU hU2 gAq gRq HKq HK HG
        go_region_law (refine goes_ Try.func47 (by kernel_rfl) rfl #[.slice A1 xs[k].length c1, .string who] (by rfl) rfl rfl (by first | kernel_rfl | (simp [Act.eval, Act.put]; done)) ?_; (with_reducible refine (HCa.out _ ?hC).mono ?_); (case hC => first | exact Kd.C_drew HCq.out | exact HCq.out); rintro e w' ⟨rfl, ⟨nd2, rfl⟩⟩; refine ⟨_, rfl, ?_⟩)
        all_goals
          go_wp2
          go_roundw
          case rel =>
            refine ⟨k + 1, by omega, by go_num, ⟨?_⟩, ⟨?_⟩⟩
            · refine (HU.out _).2.1.congr fun v hv => ?_
              rw [HTS.out, HKS.out, Bool.true_and]
              by_cases e : v = v0
              · rw [if_pos e, e]; simp
              · rw [if_neg e, beq_eq_false_iff_ne.2 e, Bool.or_false]
            · exact grown_trans HGq.out (grown_trans (w1 := wq.drewN (1 + nd2)) ⟨rfl, rfl, rfl, Nat.le_refl _, fun _ _ _ => rfl⟩ (HU.out _).2.2)
          case measure => simp [intOf]; omega
    · obtain rfl : k = xs.length := by omega
      have hlt1 : decide ((xs.length : Int) < (xs.length : Int)) = false := decide_eq_false (by omega)
      rw [List.take_length] at HK
      clear gA gR gM gB
      go_wp2_with (first | (go_at_call 79; (with_reducible refine (HL.out _ ?hC).mono ?_); (case hC => exact Kd.C_below HCR.out HGB.out); rintro e w5 ⟨v5, rfl, hR, hb⟩; have HR5 := Aside0.mk hR; have HB5 := Aside0.mk hb; clear hR hb) | (go_at_call 78; (with_reducible refine (HD.out _ _ kb xs.length _ _ _ ?hO HB5.out HR5.out ?h1 ?h2).mono ?_); (case hO => exact ⟨HGR.out, (by rw [← HW.out]; exact HGA.out), HK.out⟩); (case h1 => exact HGB.out.size); (case h2 => exact HGB.out); rintro e w6 ⟨A6, c6, rfl, hc6, hC6, hg6, hk6⟩; have HC6 := Aside0.mk hC6; have HG6 := Aside0.mk hg6; have HK6 := Aside0.mk hk6; clear hC6 hg6 hk6))
      go_ret
      have h5 : Below W.heap.size W w5 := below_then HGB.out HGB.out.size HB5.out
      rw [HWB.out]
      exact ⟨A6, c6, rfl, hc6, HC6.out, h5.grown HG6.out h5.size (fun k hk => Nat.le_trans HGB.out.size (HK6.out k hk))⟩
set_option maxHeartbeats 8000000 in
set_option maxRecDepth 100000 in
theorem behind2false_calls (A : Option Addr) (c : Nat) (xs : List (List Int)) (W : World) (hC : Kd.C (Kd.slice 3 (Kd.int .i64)) W A xs.length xs) (hc : xs.length ≤ c) (ha : ∀ x ∈ xs, Ages x) (hn : xs.length ≤ 4000) :
    Calls Try.prog 72 #[.slice A xs.length c, .string (whoB false), .int .u8 33] W fun e w' => ∃ A' c', e = .returned (.slice A' (xs.filter (keepsW false 33 xs)).length c') ∧ (xs.filter (keepsW false 33 xs)).length ≤ c' ∧ Kd.C (Kd.slice 3 (Kd.int .i64)) w' A' (xs.filter (keepsW false 33 xs)).length (xs.filter (keepsW false 33 xs)) ∧ Below W.heap.size W w' := by
  obtain ⟨us, hCr, hH⟩ := heads_of hC
  have hS : keepsW false 33 xs = fun x => !known false xs (valW false x) := by funext x; unfold keepsW; rw [if_pos rfl]
  rw [hS]
  have hw1 : ((33 : Int) != 33) = false := rfl
  have HC := Aside0.mk hC
  have HCR := Aside0.mk hCr
  have HA := Aside0.mk ha
  have HL := Aside0.mk (fun W1 (h : Kd.C rawKd W1 A us.length us) => show Calls Try.prog 79 #[.slice A xs.length c] W1 _ from by rw [← hH.1]; exact cloneRows.calls A c us us W1 h (by rw [hH.1]; exact hc) (by have := hH.1; omega) rfl)
  have HCo := Aside0.mk (fun W1 h => counted_calls false A c xs W1 h ha hn)
  have HCo2 := Aside0.mk (fun W1 h => show Calls Try.prog 77 #[.slice A xs.length c, .string ⟨#[115]⟩] W1 _ from counted_calls (!false) A c xs W1 h ha hn)
  have HV := Aside0.mk (fun (x : List Int) (hx : x ∈ xs) (A1 : Option Addr) (c1 : Nat) (w : World) (h : (Kd.int .i64).C w A1 x.length x) (h1 : x.length ≤ c1) => impl_value.calls A1 c1 x (whoB false) (valW false x) w h h1 (value_W false (ha x hx)))
  have HV2 := Aside0.mk (fun (x : List Int) (hx : x ∈ xs) (A1 : Option Addr) (c1 : Nat) (w : World) (h : (Kd.int .i64).C w A1 x.length x) (h1 : x.length ≤ c1) => show Calls Try.prog 47 #[.slice A1 x.length c1, .string ⟨#[115]⟩] w _ from impl_value.calls A1 c1 x (whoB (!false)) (valW (!false) x) w h h1 (value_W (!false) (ha x hx)))
  have HD := Aside0.mk (fun r1 r2 B n W4 W5 v2 (hO : Own2 r1 r2 B n false (known false xs) W4) (h45 : Below W4.heap.size W4 W5) (hR : Kd.R rawKd 45 W5 W4.heap.size (fun _ => True) v2 us) (h0 : W.heap.size ≤ W4.heap.size) (h04 : Below W.heap.size W W4) =>
    del2_calls (Own2 r1 r2 B n false (known false xs)) _ _ _ (asks2 r1 r2 B n false (known false xs)) W W5 v2 us xs _ W4.heap.size hR h0 hH (below_then h04 h0 h45) ha hn (fun g w1 hg hgr => hO.keep (fun k hk => (hgr.block k (Nat.lt_of_lt_of_le hk h45.size) (fun e => by have := Option.some.inj e; omega)).trans (h45.block k hk))))
  obtain ⟨who, hwho⟩ : ∃ who, who = whoB false := ⟨_, rfl⟩
  have HW := Aside0.mk hwho
  have hwl : (who.toList == ([115] : List UInt8)) = false := by rw [hwho]; kernel_rfl
  rw [← hwho] at HCo HV ⊢
  clear hC hCr hH ha hS hwho
  have hmm := @run_makeMap Try.prog
  go_enter Try.func72, Try.ntmps72
  go_wp2_with (first | (go_at_call 77; (with_reducible refine (HCo.out _ ?hC).mono ?_); (case hC => exact Kd.C_below HC.out (below_alloc (below_alloc (Below.refl _ _) _) _)); rintro e w3 ⟨rfl, hM, hb⟩; have GA := Aside0.mk (blk_below (blk_alloc (blk_new W _) _) hb); have GB := Aside0.mk (show w3.heap[W.heap.size + 1]? = some (.cells #[.int .u8 33] 5) by have h := blk_below (blk_new (W.alloc (.cells #[.string who] 9)) (.cells #[.int .u8 33] 5)) hb; simpa using h); have HB3 := Aside0.mk (show Below W.heap.size W w3 from below_then (below_alloc (below_alloc (Below.refl _ _) _) _) (by simp; omega) hb); have hcb : (w3.alloc (.cells #[.map (some (W.heap.size + 1 + 1))] 67)).cell? ⟨W.heap.size + 1, 0, none⟩ = some (.int .u8 33) := (blk_cell (blk_alloc GB.out _) 0).trans rfl; have hcw : (w3.alloc (.cells #[.map (some (W.heap.size + 1 + 1))] 67)).cell? ⟨W.heap.size, 0, none⟩ = some (.string who) := (blk_cell (blk_alloc GA.out _) 0).trans rfl; clear hM hb) | (go_at_call 77; (with_reducible refine (HCo2.out _ ?hC).mono ?_); (case hC => exact Kd.C_below HC.out (below_alloc (below_alloc HB3.out _) _)); rintro e w6 ⟨rfl, hM, hb⟩; have GK := Aside0.mk (show MapB w6 (w3.heap.size + 1) 0 (fun _ => false) by (have h0 : MapB ((w3.alloc (.cells #[.map (some (W.heap.size + 1 + 1))] 67)).alloc (.map #[] 0)) (w3.heap.size + 1) 0 (fun _ => false) := ⟨.map [], (by have := World.ownsMap_made (w3.alloc (.cells #[.map (some (W.heap.size + 1 + 1))] 67)) Try.prog 3 (plainElem (H := Unit) Try.prog 4); simpa using this), fun v _ => rfl⟩); exact h0.of_block (hb.block _ h0.lt)); have GA6 := Aside0.mk (blk_below (blk_alloc (blk_alloc GA.out _) _) hb); have HM6 := Aside0.mk (show MapI w6 (w3.heap.size + 1 + 1) xs.length (cnt (!false) xs) by simpa using hM); have HB6 := Aside0.mk (show Below W.heap.size W w6 from below_then (below_alloc (below_alloc HB3.out _) _) (below_alloc (below_alloc HB3.out _) _).size hb); clear hM hb))
  obtain ⟨w7, hw7⟩ : ∃ w7, w7 = w6.alloc (.cells #[.map (some (w3.heap.size + 1))] 71) := ⟨_, rfl⟩
  have GR := Aside0.mk (show w7.heap[w6.heap.size]? = some (.cells #[.map (some (w3.heap.size + 1))] 71 (0, 0)) by rw [hw7]; exact blk_new _ _)
  have GA7 := Aside0.mk (show w7.heap[W.heap.size]? = some (.cells #[.string who] 9 (0, 0)) by rw [hw7]; exact blk_alloc GA6.out _)
  have GK7 := Aside0.mk (show MapB w7 (w3.heap.size + 1) 0 (fun _ => false) by rw [hw7]; exact GK.out.of_block (Below.heap_alloc _ _ _ GK.out.lt))
  have GM7 := Aside0.mk (show MapI w7 (w3.heap.size + 1 + 1) xs.length (cnt (!false) xs) by rw [hw7]; exact HM6.out.of_block (Below.heap_alloc _ _ _ HM6.out.lt))
  have GB7 := Aside0.mk (show Below W.heap.size W w7 by rw [hw7]; exact below_alloc HB6.out _)
  have n1 : W.heap.size < w3.heap.size := blk_lt GA.out
  have n2 : w3.heap.size + 1 < w6.heap.size := GK.out.lt
  rw [← hw7]
  clear hw7 hcb hcw
  obtain ⟨rb, hrb⟩ : ∃ rb, rb = w6.heap.size := ⟨_, rfl⟩
  obtain ⟨kb, hkb⟩ : ∃ kb, kb = w3.heap.size + 1 := ⟨_, rfl⟩
  obtain ⟨ob, hob⟩ : ∃ ob, ob = kb + 1 := ⟨_, rfl⟩
  obtain ⟨wb, hwb⟩ : ∃ wb, wb = W.heap.size := ⟨_, rfl⟩
  rw [← hkb] at GR GK7 GM7 n2 ⊢
  rw [← hob] at GM7 ⊢
  rw [← hrb] at GR n2 ⊢
  rw [← hwb] at GA7 n1 ⊢
  have n3 : wb < kb := by omega
  have n4 : kb < ob := by omega
  have HKB := Aside0.mk hkb
  have HWB := Aside0.mk hwb
  clear hrb hkb hob hwb
  go_loopw [30] (fun v30 wr => ∃ k : Nat, k ≤ xs.length ∧ v30 = .int .i64 (k : Int) ∧ Aside0 (MapB wr kb k (knownP false xs (xs.take k))) ∧ Aside0 (w7.grownBy wr (some kb))) (fun v30 _ => xs.length - (intOf v30).toNat)
  case atStart => exact ⟨0, Nat.zero_le _, rfl, GK7, ⟨⟨rfl, rfl, rfl, Nat.le_refl _, fun _ _ _ => rfl⟩⟩⟩
  case round =>
    obtain ⟨k, hk, rfl, HK, HG⟩ := hrel
    have gA := blk_grown GA7.out HG.out (fun e => by have := Option.some.inj e; omega)
    have gR := blk_grown GR.out HG.out (fun e => by have := Option.some.inj e; omega)
    have gM : MapI wr ob xs.length (cnt (!false) xs) := GM7.out.of_block (HG.out.block ob GM7.out.lt (fun e => by have := Option.some.inj e; omega))
    have gB : Below W.heap.size W wr := GB7.out.grown HG.out GB7.out.size (fun j hj => by cases hj; have := HWB.out; omega)
    have HGA := Aside0.mk gA
    have HGR := Aside0.mk gR
    have HGB := Aside0.mk gB
    by_cases hlt : k < xs.length
    · have hlt1 : decide ((k : Int) < (xs.length : Int)) = true := decide_eq_true (by omega)
      obtain ⟨ad, A1, c1, rfl, hx0, h1, hC1, _⟩ := row_at HC.out gB hlt
      have hag := HA.out xs[k] (List.getElem_mem hlt)
      have HCa2 := Aside0.mk (HV2.out xs[k] (List.getElem_mem hlt) A1 c1 wr hC1 h1)
      have HCa := Aside0.mk (fun (wx : World) (h : (Kd.int .i64).C wx A1 xs[k].length xs[k]) => HV.out xs[k] (List.getElem_mem hlt) A1 c1 wx h h1)
      have HC1 := Aside0.mk hC1
      have HTS := Aside0.mk (show xs.take (k + 1) = xs.take k ++ [xs[k]] from List.take_succ_eq_append_getElem hlt)
      have hl := fun m => (gM.drewN m).run (valW (!false) xs[k]) (valW_wf (!false) hag)
      have HWF := Aside0.mk (valW_wf false hag)
      have HKS := Aside0.mk (knownP_snoc false xs (xs.take k) xs[k])
      obtain ⟨vo, hvo⟩ : ∃ vo, vo = valW (!false) xs[k] := ⟨_, rfl⟩
      obtain ⟨v0, hv0⟩ : ∃ v0, v0 = valW false xs[k] := ⟨_, rfl⟩
      rw [← hvo] at HCa2 hl HKS
      rw [← hv0] at HCa HWF HKS
      obtain ⟨co, hco⟩ : ∃ co, co = cnt (!false) xs vo := ⟨_, rfl⟩
      rw [← hco] at hl HKS
      clear gA gR gM gB hag hC1 hvo hv0 hco
      cases hq : (co == 1) with
      | false =>
        rw [hq] at HKS
        go_wp2_with (go_at_call 47; (with_reducible refine HCa2.out.mono ?_); rintro e w' ⟨rfl, ⟨nd, rfl⟩⟩)
        go_roundw
        case rel =>
          refine ⟨k + 1, by omega, by go_num, ⟨?_⟩, ⟨?_⟩⟩
          · refine ((HK.out.drewN nd).mono (Nat.le_succ k)).congr fun v hv => ?_
            rw [HTS.out, HKS.out, Bool.false_and, Bool.or_false]
          · exact grown_trans HG.out ⟨rfl, rfl, rfl, Nat.le_refl _, fun _ _ _ => rfl⟩
        case measure => simp [intOf]; omega
      | true =>
        rw [hq] at HKS
        go_wp2_with (go_at_call 47; (with_reducible refine HCa2.out.mono ?_); rintro e w' ⟨rfl, ⟨nd, rfl⟩⟩)
        obtain ⟨wq, hwq⟩ : ∃ wq, wq = wr.drewN nd := ⟨_, rfl⟩
        have HGq := Aside0.mk (show w7.grownBy wq (some kb) by rw [hwq]; exact grown_trans HG.out ⟨rfl, rfl, rfl, Nat.le_refl _, fun _ _ _ => rfl⟩)
        have HKq := show MapB wq kb k (knownP false xs (xs.take k)) by rw [hwq]; exact HK.out.drewN nd
        have HCq := Aside0.mk (show (Kd.int .i64).C wq A1 xs[k].length xs[k] by rw [hwq]; exact Kd.C_drewN HC1.out nd)
        have gAq := show wq.heap[wb]? = some (.cells #[.string who] 9 (0, 0)) by rw [hwq]; exact blk_drewN HGA.out nd
        have gRq := show wq.heap[rb]? = some (.cells #[.map (some kb)] 71 (0, 0)) by rw [hwq]; exact blk_drewN HGR.out nd
        have f1 := fun m => blk_cell (blk_drewN gAq m) 0
        have f2 := fun m => blk_cell (blk_drewN gRq m) 0
        have f3 : wq.drew.cell? ⟨wb, 0, none⟩ = some (.string who) := (blk_cell gAq 0).trans rfl
        have f4 : wq.drew.cell? ⟨rb, 0, none⟩ = some (.map (some kb)) := (blk_cell gRq 0).trans rfl
        have f5 : ∀ m, (wq.drew.drewN m).cell? ⟨wb, 0, none⟩ = some (.string who) := fun m => (blk_cell (blk_drewN (w := wq.drew) gAq m) 0).trans rfl
        have f6 : ∀ m, (wq.drew.drewN m).cell? ⟨rb, 0, none⟩ = some (.map (some kb)) := fun m => (blk_cell (blk_drewN (w := wq.drew) gRq m) 0).trans rfl
        simp only [List.getElem?_toArray, List.getElem?_cons_zero] at f1 f2
        obtain ⟨U, hU⟩ := choice_of (fun m => (HKq.drewN m).update (by omega) v0 HWF.out)
        obtain ⟨U2, hU2⟩ := choice_of (fun m => ((show MapB wq.drew kb k (knownP false xs (xs.take k)) from HKq).drewN m).update (by omega) v0 HWF.out)
        have u1 := fun m => (hU m).1
        have u2 := fun m => (hU2 m).1
        have HU := Aside0.mk hU
        have HU2 := Aside0.mk hU2
        rw [← hwq]
        clear hwq hU hU2 gAq gRq HKq HK HG
        go_region_law (refine goes_ Try.func47 (by kernel_rfl) rfl #[.slice A1 xs[k].length c1, .string who] (by rfl) rfl rfl (by first | kernel_rfl | (simp [Act.eval, Act.put]; done)) ?_; (with_reducible refine (HCa.out _ ?hC).mono ?_); (case hC => first | exact Kd.C_drew HCq.out | exact HCq.out); rintro e w' ⟨rfl, ⟨nd2, rfl⟩⟩; refine ⟨_, rfl, ?_⟩)
        all_goals
          go_wp2
          go_roundw
          case rel =>
            refine ⟨k + 1, by omega, by go_num, ⟨?_⟩, ⟨?_⟩⟩
            · refine (HU.out _).2.1.congr fun v hv => ?_
              rw [HTS.out, HKS.out, Bool.true_and]
              by_cases e : v = v0
              · rw [if_pos e, e]; simp
              · rw [if_neg e, beq_eq_false_iff_ne.2 e, Bool.or_false]
            · exact grown_trans HGq.out (grown_trans (w1 := wq.drewN (1 + nd2)) ⟨rfl, rfl, rfl, Nat.le_refl _, fun _ _ _ => rfl⟩ (HU.out _).2.2)
          case measure => simp [intOf]; omega
    · obtain rfl : k = xs.length := by omega
      have hlt1 : decide ((xs.length : Int) < (xs.length : Int)) = false := decide_eq_false (by omega)
      rw [List.take_length] at HK
      clear gA gR gM gB
      go_wp2_with (first | (go_at_call 79; (with_reducible refine (HL.out _ ?hC).mono ?_); (case hC => exact Kd.C_below HCR.out HGB.out); rintro e w5 ⟨v5, rfl, hR, hb⟩; have HR5 := Aside0.mk hR; have HB5 := Aside0.mk hb; clear hR hb) | (go_at_call 78; (with_reducible refine (HD.out _ _ kb xs.length _ _ _ ?hO HB5.out HR5.out ?h1 ?h2).mono ?_); (case hO => exact ⟨HGR.out, (by rw [← HW.out]; exact HGA.out), HK.out⟩); (case h1 => exact HGB.out.size); (case h2 => exact HGB.out); rintro e w6 ⟨A6, c6, rfl, hc6, hC6, hg6, hk6⟩; have HC6 := Aside0.mk hC6; have HG6 := Aside0.mk hg6; have HK6 := Aside0.mk hk6; clear hC6 hg6 hk6))
      go_ret
      have h5 : Below W.heap.size W w5 := below_then HGB.out HGB.out.size HB5.out
      rw [HWB.out]
      exact ⟨A6, c6, rfl, hc6, HC6.out, h5.grown HG6.out h5.size (fun k hk => Nat.le_trans HGB.out.size (HK6.out k hk))⟩
theorem behind_calls (b : Bool) (w : Int) (A : Option Addr) (c : Nat) (xs : List (List Int)) (W : World) (hC : Kd.C (Kd.slice 3 (Kd.int .i64)) W A xs.length xs) (hc : xs.length ≤ c) (ha : ∀ x ∈ xs, Ages x) (hn : xs.length ≤ 4000) :
    Calls Try.prog 72 #[.slice A xs.length c, .string (whoB b), .int .u8 w] W fun e w' => ∃ A' c', e = .returned (.slice A' (xs.filter (keepsW b w xs)).length c') ∧ (xs.filter (keepsW b w xs)).length ≤ c' ∧ Kd.C (Kd.slice 3 (Kd.int .i64)) w' A' (xs.filter (keepsW b w xs)).length (xs.filter (keepsW b w xs)) ∧ Below W.heap.size W w' := by
  by_cases hw : w = 33
  · subst hw
    cases b with
    | true => exact behind2true_calls A c xs W hC hc ha hn
    | false => exact behind2false_calls A c xs W hC hc ha hn
  · exact behind1_calls b w hw A c xs W hC hc ha hn

end Go.Proofs.Ytofkafbcbghkeaa.E
