-- WRITTEN by xprint.py, a program of this session that drives the kit's printer: out of the translation. Lean checks it.
import Derived.Test.YtofkafbcbghkeaaE0
import Derived.Test.YtofkafbcbghkeaaE6
import Derived.Test.YtofkafbcbghkeaaE7
import Derived.Test.YtofkafbcbghkeaaE8
import Derived.Test.YtofkafbcbghkeaaWLast
import Derived.Test.YtofkafbcbghkeaaWWords
namespace Go.Proofs.Ytofkafbcbghkeaa.E
open Go.RowKit Go.Proofs.YtofkafbcbghkeaaW.PrintWords Go.Proofs.YtofkafbcbghkeaaW.PrintLast
set_option linter.unusedVariables false
set_option linter.unusedSimpArgs false

-- OURS, BY HAND
/-! ### impl_counted: function 77 -/
-- func impl.counted
-- ext raw=1
-- needs impl.pairsThat
-- needs impl.value
-- import Derived.Maps.Own
-- import Derived.Maps.OwnOps
-- import Derived.Maps.OwnSet
-- import Derived.Maps.Views
-- import Derived.WalkKit
/-- A pair of ages. -/
def Ages (x : List Int) : Prop := ∃ a b : Nat, 1 ≤ a ∧ a ≤ b ∧ b ≤ 40 ∧ x = [(a : Int), (b : Int)]
theorem Ages.len {x : List Int} (h : Ages x) : x.length = 2 := by obtain ⟨a, b, _, _, _, rfl⟩ := h; rfl
theorem prs_ages (m k : Nat) (hm : m ≤ 40) (hk : k ≤ m) : ∀ x ∈ prs m k, Ages x := by
  intro x hx
  obtain ⟨a, b, h1, h2, h3, e⟩ := prs_mem m k x hk hx
  exact ⟨a, b, h1, h2, by omega, e⟩
def whoB (b : Bool) : ByteArray := if b = true then ⟨#[115]⟩ else ⟨#[112]⟩
def valW (b : Bool) (x : List Int) : Int := if b = true then valS x else valP x
theorem value_W (b : Bool) {x : List Int} (h : Ages x) : impl_value.f x (whoB b) = some (valW b x) := by
  obtain ⟨a, c, h1, h2, h3, rfl⟩ := h
  cases b with
  | true => exact value_S a c (by omega) (by omega)
  | false => exact value_P a c (by omega) (by omega)
theorem told_W (b : Bool) {x : List Int} (h : Ages x) : spec_taTold.f (whoB b) x = some (valW b x) := by
  obtain ⟨a, c, h1, h2, h3, rfl⟩ := h
  cases b with
  | true => exact told_S a c (by omega) (by omega)
  | false => exact told_P a c (by omega) (by omega)
theorem valW_in (b : Bool) {x : List Int} (h : Ages x) : 1 ≤ valW b x ∧ valW b x ≤ 1600 := by
  obtain ⟨a, c, h1, h2, h3, rfl⟩ := h
  cases b with
  | true => show 1 ≤ (a : Int) + (c : Int) ∧ (a : Int) + (c : Int) ≤ 1600; omega
  | false =>
    show 1 ≤ (a : Int) * (c : Int) ∧ (a : Int) * (c : Int) ≤ 1600
    obtain ⟨e, h⟩ := mul_small (a := a) (b := c) (by omega) (by omega)
    have : 1 * 1 ≤ a * c := Nat.mul_le_mul h1 (by omega)
    rw [e]
    omega
theorem valW_wf (b : Bool) {x : List Int} (h : Ages x) : (Lit.int .i64 (valW b x)).wf = true := by
  have := valW_in b h
  exact WalkArith.wf_i64 (by omega)
/-- How many of some pairs have a value. -/
def cnt (b : Bool) (xs : List (List Int)) (v : Int) : Int := ((xs.filter fun x => valW b x == v).length : Int)
theorem cnt_nil (b : Bool) (v : Int) : cnt b [] v = 0 := rfl
theorem cnt_le (b : Bool) (xs : List (List Int)) (v : Int) : 0 ≤ cnt b xs v ∧ cnt b xs v ≤ xs.length := by
  unfold cnt
  have := List.length_filter_le (fun x => valW b x == v) xs
  omega
theorem cnt_snoc (b : Bool) (xs : List (List Int)) (x : List Int) (v : Int) : cnt b (xs ++ [x]) v = cnt b xs v + if v = valW b x then 1 else 0 := by
  unfold cnt
  rw [List.filter_append, List.length_append]
  by_cases h : v = valW b x
  · rw [if_pos h]; simp [h]
  · rw [if_neg h, List.filter_cons, if_neg (by simp; omega)]; simp
theorem law3 : Maps.Keyed Try.prog 3 := Maps.int_keyed Try.underlying3
theorem zero3 (w : World) : (zeroValue 3).run Try.prog w = .ok (.int .i64 0) w := by kernel_rfl
theorem zero4 (w : World) : (zeroValue 4).run Try.prog w = .ok (.bool false) w := by kernel_rfl
theorem owns_drewN {W : World} {B n : Nat} {R : Value → Option (DataW Unit × List MemPlace)} {D : DataW Unit} (h : W.ownsMap Try.prog 3 R B n D) (m : Nat) : (W.drewN m).ownsMap Try.prog 3 R B n D := by
  obtain ⟨es, clock, h1, h2⟩ := h
  exact ⟨es, clock, blk_drewN h1 m, h2⟩
/-- Block B is a map of numbers that gives f of each key. -/
def MapI (W : World) (B n : Nat) (f : Int → Int) : Prop := ∃ D : DataW Unit, W.ownsMap Try.prog 3 (plainElem Try.prog 3) B n D ∧ ∀ v, (Lit.int .i64 v).wf = true → D.atKey (.int .i64 v) (.lit (.int .i64 0)) = .lit (.int .i64 (f v))
theorem MapI.of_block {W W' : World} {B n : Nat} {f : Int → Int} (h : MapI W B n f) (e : W'.heap[B]? = W.heap[B]?) : MapI W' B n f := by
  obtain ⟨D, ⟨es, clock, h1, h2⟩, h3⟩ := h
  exact ⟨D, ⟨es, clock, e.trans h1, h2⟩, h3⟩
theorem MapI.lt {W : World} {B n : Nat} {f : Int → Int} (h : MapI W B n f) : B < W.heap.size := by
  obtain ⟨D, ⟨es, clock, h1, h2⟩, h3⟩ := h
  exact blk_lt h1
theorem MapI.run {W : World} {B n : Nat} {f : Int → Int} (h : MapI W B n f) (v : Int) (hv : (Lit.int .i64 v).wf = true) : (Instr.lookup 67 (.map (some B)) (.int .i64 v) false).run Try.prog W = .ok (.int .i64 (f v)) W := by
  obtain ⟨D, h1, h2⟩ := h
  obtain ⟨c, hr, hat, _⟩ := h1.lookup_int law3 Try.underlying67 Try.underlying3 (zero3 W) (Maps.keyOf_int_mk Try.underlying3 hv)
  have e := (h2 v hv).symm.trans hat
  injection e with e1
  injection e1 with _ e2
  rw [hr, e2]
theorem MapI.put {W W1 : World} {B n : Nat} {f : Int → Int} {D : DataW Unit} {v0 c : Int} (hD : W.ownsMap Try.prog 3 (plainElem Try.prog 3) B n D) (h : ∀ v, (Lit.int .i64 v).wf = true → D.atKey (.int .i64 v) (.lit (.int .i64 0)) = .lit (.int .i64 (f v))) (hv : (Lit.int .i64 v0).wf = true)
    (h1 : W1.ownsMap Try.prog 3 (plainElem Try.prog 3) B (n + 1) (D.put (.int .i64 v0) (.lit (.int .i64 c)))) : MapI W1 B (n + 1) (fun v => if v = v0 then c else f v) := by
  refine ⟨_, h1, fun v hw => ?_⟩
  show _ = DataW.lit (.int .i64 (if v = v0 then c else f v))
  by_cases e : v = v0
  · subst e
    rw [if_pos rfl]
    exact Maps.atKey_put_same (k := .int .i64 v) hD.isMap (by trivial) _ _
  · rw [if_neg e, Maps.atKey_put_other (fun e' => e (by injection e')) _ _]
    exact h v hw
theorem MapI.congr {W : World} {B n : Nat} {f g : Int → Int} (h : MapI W B n f) (e : ∀ v, (Lit.int .i64 v).wf = true → f v = g v) : MapI W B n g := by
  obtain ⟨D, h1, h2⟩ := h
  exact ⟨D, h1, fun v hv => by rw [← e v hv]; exact h2 v hv⟩
/-- A row of a list that is read. -/
theorem row_at {W wr : World} {A : Option Addr} {xs : List (List Int)} (hC : Kd.C (Kd.slice 3 (Kd.int .i64)) W A xs.length xs) (hb : Below W.heap.size W wr) {k : Nat} (h : k < xs.length) :
    ∃ ad A1 c1, A = some ad ∧ wr.cell? (ad.add k) = some (.slice A1 xs[k].length c1) ∧ xs[k].length ≤ c1 ∧ (Kd.int .i64).C wr A1 xs[k].length xs[k] ∧ (Kd.slice 3 (Kd.int .i64)).K W xs[k] [.slice A1 xs[k].length c1] := by
  obtain ⟨ad, e, hh⟩ := hC.2.2 (by omega)
  obtain ⟨cs, q1, ⟨A1, c1, rfl, h1, h2⟩, q3⟩ := hh k xs[k] (List.getElem?_eq_getElem h)
  refine ⟨ad, A1, c1, e, ?_, h1, Kd.C_below h2 hb, A1, c1, rfl, h1, h2⟩
  have : W.cell? (ad.add (k * 1 + 0)) = some (.slice A1 xs[k].length c1) := q3 0 _ rfl
  rw [Nat.mul_one, Nat.add_zero] at this
  exact pw_cell_below hb this
set_option maxHeartbeats 8000000 in
set_option maxRecDepth 100000 in
theorem counted_calls (b : Bool) (A : Option Addr) (c : Nat) (xs : List (List Int)) (W : World) (hC : Kd.C (Kd.slice 3 (Kd.int .i64)) W A xs.length xs) (ha : ∀ x ∈ xs, Ages x) (hn : xs.length ≤ 4000) :
    Calls Try.prog 77 #[.slice A xs.length c, .string (whoB b)] W fun e w' => e = .returned (.map (some W.heap.size)) ∧ MapI w' W.heap.size xs.length (cnt b xs) ∧ Below W.heap.size W w' := by
  have hmm := @run_makeMap Try.prog
  have HC := Aside0.mk hC
  have HV := Aside0.mk (fun (x : List Int) (hx : x ∈ xs) (A1 : Option Addr) (c1 : Nat) (w : World) (h : (Kd.int .i64).C w A1 x.length x) (h1 : x.length ≤ c1) => impl_value.calls A1 c1 x (whoB b) (valW b x) w h h1 (value_W b (ha x hx)))
  have HA := Aside0.mk ha
  obtain ⟨who, hwho⟩ : ∃ who, who = whoB b := ⟨_, rfl⟩
  rw [← hwho] at HV ⊢
  clear hC ha hwho
  go_enter Try.func77, Try.ntmps77
  go_wp2
  go_loopw [11] (fun v11 wr => ∃ k : Nat, k ≤ xs.length ∧ v11 = .int .i64 (k : Int) ∧ Aside0 (MapI wr W.heap.size k (cnt b (xs.take k))) ∧ Aside0 (Below W.heap.size W wr)) (fun v11 _ => xs.length - (intOf v11).toNat)
  case atStart => exact ⟨0, Nat.zero_le _, rfl, ⟨_, World.ownsMap_made _ _ _ _, fun v _ => rfl⟩, ⟨(Below.refl _ _).alloc (Nat.le_refl _) _⟩⟩
  case round =>
    obtain ⟨k, hk, rfl, HM, HB⟩ := hrel
    by_cases hlt : k < xs.length
    · have hlt1 : decide ((k : Int) < (xs.length : Int)) = true := decide_eq_true (by omega)
      obtain ⟨ad, A1, c1, rfl, hx0, h1, hC1, _⟩ := row_at HC.out HB.out hlt
      have HX := HA.out xs[k] (List.getElem_mem hlt)
      have HCa := Aside0.mk (HV.out xs[k] (List.getElem_mem hlt) A1 c1 wr hC1 h1)
      have hwf := valW_wf b HX
      have hin := cnt_le b (xs.take k) (valW b xs[k])
      have HTS := Aside0.mk (show xs.take (k + 1) = xs.take k ++ [xs[k]] from List.take_succ_eq_append_getElem hlt)
      obtain ⟨D, hown, hat⟩ := HM.out
      have HAT := Aside0.mk hat
      have HATK := Aside0.mk (hat _ hwf)
      have HOWN := Aside0.mk hown
      have hl : (xs.take k).length ≤ 4000 := by rw [List.length_take]; omega
      obtain ⟨v0, hv0⟩ : ∃ v0, v0 = valW b xs[k] := ⟨_, rfl⟩
      rw [← hv0] at hwf hin HCa HATK
      have HV0 := Aside0.mk hv0
      have HWF := Aside0.mk hwf
      have HIN := Aside0.mk hin
      clear hC1 hat hown HX hv0 hwf hin
      go_wp2_with (first | (go_at_call 47; (with_reducible refine HCa.out.mono ?_); rintro e w' ⟨rfl, ⟨nd, rfl⟩⟩) | (at_lookup; refine wpList_lookup_own_int _ rfl _ _ 67 rfl 3 3 .i64 law3 Try.underlying67 Try.underlying3 (zero3 _) W.heap.size k D rfl (owns_drewN HOWN.out nd) _ _ rfl (Maps.keyOf_int_mk Try.underlying3 HWF.out) ?_; intro c hat hwc; have HAT2 := Aside0.mk hat; have HWC := Aside0.mk hwc; clear hat hwc) | (at_mapUpdate; refine wpList_mapUpdate_own _ rfl _ _ _ 67 rfl 3 3 law3 Try.underlying67 _ W.heap.size k D rfl (owns_drewN HOWN.out nd) (by unfold maxLen; omega) _ _ _ rfl rfl (Maps.keyOf_int_mk Try.underlying3 HWF.out) _ [] (plainElem_int Try.underlying3 (wrap64_wf _)) ?_; intro w1 hown1 hgrow1; have HO1 := Aside0.mk hown1; have HG1 := Aside0.mk hgrow1; clear hown1 hgrow1))
      go_roundw
      case rel =>
        refine ⟨k + 1, by omega, by go_num, ⟨?_⟩, ⟨?_⟩⟩
        · have e1 := HATK.out.symm.trans HAT2.out
          injection e1 with e1
          injection e1 with _ e1
          refine (MapI.put HOWN.out HAT.out HWF.out HO1.out).congr fun v hv => ?_
          have hin := HIN.out
          rw [HTS.out, cnt_snoc, ← HV0.out]
          by_cases e : v = v0
          · rw [if_pos e, if_pos e, e, ← e1]
            unfold wrap64
            omega
          · rw [if_neg e, if_neg e]; omega
        · exact (pw_below_drewN HB.out nd).grown HG1.out (pw_below_drewN HB.out nd).size (fun j hj => by cases hj; exact Nat.le_refl _)
      case measure => simp [intOf]; omega
    · obtain rfl : k = xs.length := by omega
      rw [List.take_length] at HM
      go_wp2
      go_ret
      exact ⟨rfl, HM.out, HB.out⟩

end Go.Proofs.Ytofkafbcbghkeaa.E
