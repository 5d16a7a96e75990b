-- WRITTEN by xprint.py, a program of this session that drives the kit's printer: out of the translation. Lean checks it.
import Derived.Test.YtebidfogkjidaaaE0
import Derived.Test.YtebidfogkjidaaaE6
import Derived.Test.YtebidfogkjidaaaWKept
namespace Go.Proofs.Ytebidfogkjidaaa.E
open Go.RowKit Go.Proofs.YtebidfogkjidaaaW.PrintWords Go.Proofs.YtebidfogkjidaaaW.PrintLast
set_option linter.unusedVariables false
set_option linter.unusedSimpArgs false

-- OURS, BY HAND
/-! ### laws_markIntSS: function 12 -/
-- func laws.markIntSS
-- ext rounds=1 making=1
-- needs laws.markIntS
/-- A list of lists of numbers of the call's own: the outer row's cells us; each inner row of its own; no two in one block. -/
structure Sep (w : World) (base : Nat) (v : Value) (us : List Value) (xs : List (List Int)) : Prop where
  row : w.ownsRow base 31 1 v us.length us
  len : us.length = xs.length
  inn : ∀ (j : Nat) (u : Value) (x : List Int), us[j]? = some u → xs[j]? = some x → (Kd.int .i64).R 3 w base (fun _ => True) u x
  dis : ∀ (i j : Nat) (u u' : Value) (k : Nat), us[i]? = some u → us[j]? = some u' → u.ownBlock = some k → u'.ownBlock = some k → i = j
theorem drop_take_one {α : Type} (l : List α) (j : Nat) {u : α} (h : (l.drop (j * 1)).take 1 = [u]) : l[j]? = some u := by
  have h0 : ((l.drop (j * 1)).take 1)[0]? = some u := by rw [h]; rfl
  rw [List.getElem?_take, if_pos (by omega), List.getElem?_drop] at h0
  simpa using h0
theorem take_drop_one {α : Type} (l : List α) (j : Nat) {u : α} (h : l[j]? = some u) : (l.drop (j * 1)).take 1 = [u] := by
  obtain ⟨hl, rfl⟩ := List.getElem?_eq_some_iff.1 h
  rw [Nat.mul_one, List.drop_eq_getElem_cons hl]
  rfl
theorem Sep.of_S {w : World} {base : Nat} {ok : Nat → Prop} {v : Value} {xs : List (List Int)} (h : Kd.S (Kd.slice 3 (Kd.int .i64)) 31 w base ok v xs) : ∃ us, Sep w base v us xs := by
  obtain ⟨f, h0, inner, ho, hr⟩ := h
  rw [List.length_zipIdx] at ho
  have hlen : inner.length = xs.length := by have := hr.1; rw [List.length_zipIdx] at this; exact this.trans (Nat.mul_one _)
  have key : ∀ (j : Nat) (u : Value) (x : List Int), inner[j]? = some u → xs[j]? = some x → (Kd.int .i64).R 3 w base (fun k => f k = j) u x := by
    intro j u x hu hx
    have hz : xs.zipIdx[j]? = some (x, j) := Kd.zip_at hx
    obtain ⟨u', hc, hR⟩ := hr.2 j (x, j) hz
    have := drop_take_one inner j hc
    rw [hu] at this
    obtain rfl := Option.some.inj this
    exact Kd.R_mono hR (fun k hk => hk.2)
  refine ⟨inner, ⟨by rw [hlen]; exact ho, hlen, fun j u x hu hx => Kd.R_mono (key j u x hu hx) (fun _ _ => trivial), fun i j u u' k hu hu' hk hk' => ?_⟩⟩
  have hil : i < xs.length := by rw [← hlen]; exact (List.getElem?_eq_some_iff.1 hu).1
  have hjl : j < xs.length := by rw [← hlen]; exact (List.getElem?_eq_some_iff.1 hu').1
  have h1 := (key i u _ hu (List.getElem?_eq_getElem hil)).1 k hk
  have h2 := (key j u' _ hu' (List.getElem?_eq_getElem hjl)).1 k hk'
  omega
theorem Sep.reads {w : World} {base : Nat} {v : Value} {us : List Value} {xs : List (List Int)} (h : Sep w base v us xs) : ∃ A c, v = .slice A xs.length c ∧ xs.length ≤ c ∧ Kd.C (Kd.slice 3 (Kd.int .i64)) w A xs.length xs := by
  have hR : Reps ((Kd.slice 3 (Kd.int .i64)).K w) 1 xs us := by
    refine ⟨by rw [h.len, Nat.mul_one], fun j p hp => ?_⟩
    have hjl : j < us.length := by rw [h.len]; exact (List.getElem?_eq_some_iff.1 hp).1
    have hu := List.getElem?_eq_getElem hjl
    rw [take_drop_one us j hu]
    obtain ⟨A, c, e, hl, hC⟩ := Kd.R_reads (h.inn j _ p hu hp)
    exact ⟨A, c, by rw [e], hl, hC⟩
  obtain ⟨A, c, hv, hread⟩ := own_reads_row h.row hR h.len.symm
  rw [h.len] at hv hread
  refine ⟨A, c, hv, ?_, hread⟩
  rcases h.row.2 with ⟨h1, h2⟩ | ⟨g, cap, cur, h1, _, _, h2, _⟩
  · have := h.len; omega
  · rw [h1] at hv
    injection hv with _ h3 h4
    omega
theorem Sep.below {w W : World} {base : Nat} {v : Value} {us : List Value} {xs : List (List Int)} (h : Sep w base v us xs) (hb : Below w.heap.size w W) : Sep W base v us xs :=
  ⟨pw_own_below h.row hb, h.len, fun j u x hu hx => Kd.R_below (h.inn j u x hu hx) hb, h.dis⟩
def markSS (k : Nat) : List (List Int) → Int → Option (Int × List (List Int))
  | [], m => some (m, [])
  | x :: xs, m => (laws_markIntS.f k x m).bind fun p => (markSS k xs p.1).bind fun q => some (q.1, p.2 :: q.2)
theorem markSS_cons {k : Nat} {x : List Int} {xs : List (List Int)} {m m' : Int} {ys : List (List Int)} (h : markSS k (x :: xs) m = some (m', ys)) :
    ∃ m1 y ys', laws_markIntS.f k x m = some (m1, y) ∧ markSS k xs m1 = some (m', ys') ∧ ys = y :: ys' := by
  unfold markSS at h
  obtain ⟨p, hp, h⟩ := Option.bind_eq_some_iff.1 h
  obtain ⟨q, hq, h⟩ := Option.bind_eq_some_iff.1 h
  simp only [Option.some.injEq, Prod.mk.injEq] at h
  obtain ⟨rfl, rfl⟩ := h
  exact ⟨p.1, p.2, q.2, hp, hq, rfl⟩
/-- the blocks of the inner rows. -/
def InB (us : List Value) (k : Nat) : Prop := ∃ u, u ∈ us ∧ u.ownBlock = some k
/-- one inner row is written. -/
theorem Sep.set {w0 w W : World} {v : Value} {us : List Value} {xs : List (List Int)} {i : Nat} {u : Value} {y : List Int} (h : Sep w w0.heap.size v us xs) (hu : us[i]? = some u)
    (hR : (Kd.int .i64).R 3 W w0.heap.size (fun _ => True) u y) (hk : Kept w W (fun k => some k = u.ownBlock)) : Sep W w0.heap.size v us (xs.set i y) := by
  have hil : i < us.length := (List.getElem?_eq_some_iff.1 hu).1
  refine ⟨own_move h.row (fun k hkv => ?_), by rw [List.length_set]; exact h.len, fun j u' x hu' hx => ?_, h.dis⟩
  · obtain ⟨cells, hc⟩ := own_typed h.row k hkv
    refine hk.2 k (blk_lt hc) (fun e => ?_)
    obtain ⟨cells', hc'⟩ := Kd.R_typed (h.inn i u _ hu (List.getElem?_eq_getElem (by rw [← h.len]; exact hil))) k e.symm
    rw [hc] at hc'
    injection hc' with hc'
    injection hc' with _ h3
    exact absurd h3 (by decide)
  · by_cases e : j = i
    · subst e
      rw [hu] at hu'
      obtain rfl := Option.some.inj hu'
      rw [List.getElem?_set, if_pos rfl, if_pos (by rw [← h.len]; exact hil)] at hx
      obtain rfl := Option.some.inj hx
      exact hR
    · rw [List.getElem?_set, if_neg (fun h => e h.symm)] at hx
      exact Kd.R_mono (Kd.R_kept (Kd.R_tight rfl (h.inn j u' x hu' hx)) hk (fun k hk1 hk2 => e (h.dis j i u' u k hu' hu hk1.symm hk2.symm))) (fun _ _ => trivial)
set_option maxHeartbeats 8000000 in
set_option maxRecDepth 100000 in
theorem markIntSS_calls (k : Nat) (v : Value) (us : List Value) (xs ys : List (List Int)) (m m' : Int) (w0 w : World) (hB : Below w0.heap.size w0 w) (hS : Sep w w0.heap.size v us xs) (h : markSS k xs m = some (m', ys)) :
    Calls Try.prog 12 #[v, .int .i64 m] w fun e w' => e = .returned (.int .i64 m') ∧ Sep w' w0.heap.size v us ys ∧ Below w0.heap.size w0 w' := by
  obtain ⟨A, c, rfl, hc, hC⟩ := hS.reads
  have hlen := hS.len
  have hmax := Kd.C_max hC
  have HS := Aside0.mk hS
  have H := Aside0.mk h
  have HB := Aside0.mk hB
  have HL := Aside0.mk hlen
  clear hS h hB hC hlen
  go_enter Try.func12, Try.ntmps12
  go_wp2
  go_loopw [1, 5] (fun v1 v5 wr => ∃ (i : Nat) (mi : Int) (zs : List (List Int)), i ≤ xs.length ∧ v5 = .int .i64 i ∧ v1 = .int .i64 mi ∧ Aside0 (zs.length = xs.length ∧ markSS k (zs.drop i) mi = some (m', ys.drop i) ∧ zs.take i = ys.take i ∧ zs.drop i = xs.drop i) ∧ Aside0 (Sep wr w0.heap.size (.slice A xs.length c) us zs) ∧ Aside0 (Below w0.heap.size w0 wr)) (fun _ v5 _ => xs.length - (intOf v5).toNat)
  case atStart => exact ⟨0, m, xs, Nat.zero_le _, rfl, rfl, ⟨rfl, by simpa using H.out, by simp, rfl⟩, HS, HB⟩
  case round =>
    clear HS HB
    obtain ⟨i, mi, zs, hi, rfl, rfl, HZ, HS, HB⟩ := hrel
    by_cases hlt : i < xs.length
    · obtain ⟨hz1, hz2, hz3, hz4⟩ := HZ.out
      have hzl : i < zs.length := by omega
      have hul : i < us.length := by have := HL.out; omega
      obtain ⟨u, hu⟩ : ∃ u, us[i]? = some u := ⟨_, List.getElem?_eq_getElem hul⟩
      obtain ⟨x, hx⟩ : ∃ x, zs[i]? = some x := ⟨_, List.getElem?_eq_getElem hzl⟩
      have hdz : zs.drop i = x :: zs.drop (i + 1) := by
        obtain ⟨_, rfl⟩ := List.getElem?_eq_some_iff.1 hx
        exact List.drop_eq_getElem_cons hzl
      rw [hdz] at hz2
      obtain ⟨m1, y, ys', g1, g2, g3⟩ := markSS_cons hz2
      have hR0 := HS.out.inn i u x hu hx
      have hcell : ∃ ad, A = some ad ∧ wr.cell? (ad.add i) = some u := by
        rcases HS.out.row.2 with ⟨h1, h2⟩ | ⟨g, cap, cur, h1, _, _, _⟩
        · omega
        · obtain rfl : A = some ⟨g, 0, none⟩ := by injection h1
          refine ⟨_, rfl, ?_⟩
          exact HS.out.row.cells (g := g) rfl i _ hu
      obtain ⟨ad, rfl, hcell⟩ := hcell
      obtain ⟨A', c', rfl⟩ := Kd.R_slice hR0
      have HC := Aside0.mk (laws_markIntS.calls k (fun k => some k = (Value.slice A' x.length c').ownBlock) (.slice A' x.length c') x mi m1 y w0 wr HB.out (Kd.R_tight rfl hR0) g1)
      have HG := Aside0.mk (And.intro g2 g3)
      have HU := Aside0.mk hu
      have HX := Aside0.mk (And.intro hx hdz)
      clear g1 g2 g3 hu hx hR0 hdz hz1 hz2 hz3 hz4 hzl
      go_wp2_with (go_at_call 19; (with_reducible refine HC.out.mono ?_); rintro e w' ⟨rfl, hR', hB', hK'⟩)
      obtain ⟨hx, hdz⟩ := HX.out
      obtain ⟨g2, g3⟩ := HG.out
      obtain ⟨hz1, hz2, hz3, hz4⟩ := HZ.out
      have hnew := HS.out.set HU.out (Kd.R_mono hR' (fun _ _ => trivial)) hK'
      have hzl : i < zs.length := by omega
      have e1 : (zs.set i y).drop (i + 1) = zs.drop (i + 1) := by
        rw [List.drop_set, if_pos (by omega)]
      have hyl : i < ys.length := by
        have := congrArg List.length g3
        simp at this
        omega
      have e2 : ys.drop (i + 1) = ys' ∧ ys[i]? = some y := by
        have h5 := List.drop_eq_getElem_cons hyl
        rw [g3] at h5
        injection h5 with h6 h7
        exact ⟨h7.symm, by rw [List.getElem?_eq_getElem hyl, ← h6]⟩
      go_roundw
      case rel =>
        refine ⟨i + 1, m1, zs.set i y, by omega, by go_num, rfl, ⟨by rw [List.length_set]; exact hz1, by rw [e1, e2.1]; exact g2, ?_, ?_⟩, ⟨hnew⟩, ⟨hB'⟩⟩
        · apply List.ext_getElem?
          intro j
          rw [List.getElem?_take, List.getElem?_take]
          by_cases hj : j < i + 1
          · rw [if_pos hj, if_pos hj, List.getElem?_set]
            by_cases e : i = j
            · subst e; rw [if_pos rfl, if_pos hzl, e2.2]
            · rw [if_neg e]
              have h8 := congrArg (fun l => l[j]?) hz3
              simp only [List.getElem?_take] at h8
              rw [if_pos (by omega), if_pos (by omega)] at h8
              exact h8
          · rw [if_neg hj, if_neg hj]
        · rw [e1]
          have h9 := congrArg (List.drop 1) hz4
          rw [List.drop_drop, List.drop_drop] at h9
          exact h9
      case measure => simp [intOf]; omega
    · obtain ⟨hz1, hz2, hz3, hz4⟩ := HZ.out
      have e1 : zs.drop i = [] := List.drop_of_length_le (by omega)
      rw [e1] at hz2
      unfold markSS at hz2
      simp only [Option.some.injEq, Prod.mk.injEq] at hz2
      have e2 : zs = ys := by
        rw [← List.take_append_drop i zs, ← List.take_append_drop i ys, hz3, e1, ← hz2.2]
      have e3 := hz2.1
      have HE := Aside0.mk (And.intro e2 e3)
      clear e1 e2 e3 hz1 hz2 hz3 hz4
      go_wp2
      go_ret
      obtain ⟨rfl, rfl⟩ := HE.out
      exact ⟨rfl, HS.out, HB.out⟩

end Go.Proofs.Ytebidfogkjidaaa.E
