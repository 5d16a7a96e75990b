-- WRITTEN by xprint.py, a program of this session. Lean checks it.
import Derived.Test.YtfkdkikodoingaaE0
import Derived.Deep.Slices
import Derived.Deep.Fields
import Derived.ChangeSame
import Derived.Lib.SmallJoins
import Derived.Test.YtfkdkikodoingaaWSized
namespace Go.Proofs.Ytfkdkikodoingaa.E
open Go.RowKit Go.ChangeShapes Go.WideShapes Go.Deep Go.Proofs.YtfkdkikodoingaaW.PrintWords Go.Proofs.YtfkdkikodoingaaW.PrintLast
set_option linter.unusedVariables false
theorem pair_rows {H : Type} {enc : TypeId × Value → H} {P : Program} {W : World} {base : Nat} {spare : Nat → Bool} {held : Bool} {t e : TypeId} {F0 F1 : Field} {n0 n1 : IntKind} {a : Option Addr} {len cap : Nat} {d : DataW H} {ps : List MemPlace} {ts : List TypeId} {ds : List (DataW H)}
    (ht : P.underlying t = some (.slice e)) (he : P.underlying e = some (.struct #[F0, F1])) (hone : oneCellFields P #[F0, F1] = true) (hC : P.cellsOf e = 2) {B : Nat} (hB : P.bytesOf e = B) (u0 : P.underlying F0.type = some (.int n0)) (u1 : P.underlying F1.type = some (.int n1))
    (hsz : (DataW.weightsEach P ts ds).all (· ≤ reachBytes) = true) {j : Nat} (hts : ts[j]? = some t) (hds : ds[j]? = some d) (h : DataW.Trod enc P W base spare held t (.slice a len cap) d ps) :
    (a = none ∧ len = 0 ∧ cap = 0) ∨ ∃ (x : Addr) (f : Nat → Int × Int), a = some x ∧ len ≤ cap ∧ cap ≤ maxLen ∧ len * B ≤ 140737488351232 ∧
      ∀ i, i < len → W.cell? (x.add (i * 2)) = some (.int n0 (f i).1) ∧ W.cell? (x.add (i * 2 + 1)) = some (.int n1 (f i).2) ∧ (Lit.int n0 (f i).1).wf = true ∧ (Lit.int n1 (f i).2).wf = true := by
  obtain ⟨fuel, hf⟩ := h
  rcases open_slice ht hf with ⟨hcs, _⟩ | ⟨x, l, c, m, n, D, Pl, hcs, hb, hl, hm, hmm, hx, hi⟩
  · simp [Value.cells] at hcs
    exact .inl hcs
  · simp [Value.cells] at hcs
    obtain ⟨rfl, rfl, rfl⟩ := hcs
    have hlm : len ≤ m := by rw [hmm]; split <;> omega
    have key : ∀ i, ∃ p : Int × Int, i < len → (W.cell? (x.add (i * 2)) = some (.int n0 p.1) ∧ W.cell? (x.add (i * 2 + 1)) = some (.int n1 p.2) ∧ (Lit.int n0 p.1).wf = true ∧ (Lit.int n1 p.2).wf = true) := by
      intro i
      by_cases hil : i < len
      · obtain ⟨cs', hc, ht'⟩ := hi i (by omega)
        obtain ⟨_, hcl, hat⟩ := World.cells?_some hc
        rw [hC] at hcl hat
        match cs', hcl with
        | [c0, c1], _ =>
          obtain ⟨y0, y1, n', _, _, h0, h1⟩ := trod_struct2 he ht'
          obtain ⟨o0, k0⟩ := hone_of hone 0 F0 rfl
          obtain ⟨o1, k1⟩ := hone_of hone 1 F1 rfl
          have h0' : DataW.trod enc P W base spare held n' F0.type [c0] = some y0 := by simpa [o0, k0] using h0
          have h1' : DataW.trod enc P W base spare held n' F1.type [c1] = some y1 := by simpa [o1, k1] using h1
          obtain ⟨a0, e0, _, w0⟩ := DataW.trod_int u0 h0'
          obtain ⟨a1, e1, _, w1⟩ := DataW.trod_int u1 h1'
          have e0' : c0 = .int n0 a0 := by simpa using e0
          have e1' : c1 = .int n1 a1 := by simpa using e1
          subst e0' e1'
          refine ⟨(a0, a1), fun _ => ⟨?_, ?_, w0, w1⟩⟩
          · have := hat 0 (by omega)
            simpa [Go.Deep.add_add] using this
          · have := hat 1 (by omega)
            simpa [Go.Deep.add_add] using this
      · exact ⟨(0, 0), fun h => absurd h hil⟩
    obtain ⟨f, hf'⟩ := Classical.axiomOfChoice key
    refine .inr ⟨x, f, rfl, hl, hm, ?_, hf'⟩
    obtain ⟨hx1, _⟩ := Prod.mk.inj hx
    subst hx1
    have z := sized_slice hsz hts hds ht
    rw [hB] at z
    simp only [List.length_map, List.length_range] at z
    exact Nat.le_trans (Nat.mul_le_mul_right _ (by omega)) z
theorem row_S40 {H : Type} {enc : TypeId × Value → H} {W : World} {base : Nat} {spare : Nat → Bool} {held : Bool} {t : TypeId} {a : Option Addr} {len cap : Nat} {d : DataW H} {ps : List MemPlace} {ts : List TypeId} {ds : List (DataW H)}
    (ht : Try.prog.underlying t = some (.slice 40)) (hsz : (DataW.weightsEach Try.prog ts ds).all (· ≤ reachBytes) = true) {j : Nat} (hts : ts[j]? = some t) (hds : ds[j]? = some d) (h : DataW.Trod enc Try.prog W base spare held t (.slice a len cap) d ps) :
    ∃ l : List S40, len = l.length ∧ Kd.C k40 W a l.length l ∧ l.length ≤ cap ∧ l.length ≤ maxLen ∧ (∀ x ∈ l, (Lit.int .i64 x.f0).wf = true ∧ (Lit.int .i64 x.f1).wf = true) ∧ l.length * 16 ≤ 140737488351232 := by
  rcases pair_rows ht Try.underlying40 (by kernel_rfl) (by kernel_rfl) (B := 16) (by kernel_rfl) Try.underlying3 Try.underlying3 hsz hts hds h with ⟨rfl, rfl, rfl⟩ | ⟨x, f, rfl, hl, hm, hb, hf'⟩
  · exact ⟨[], rfl, ⟨rfl, by simp, fun h => absurd h (by simp)⟩, by simp, by simp, by simp, by simp⟩
  · have hlen : ((List.range len).map fun i => (⟨(f i).1, (f i).2⟩ : S40)).length = len := by simp
    refine ⟨(List.range len).map fun i => (⟨(f i).1, (f i).2⟩ : S40), hlen.symm, ?_, by rw [hlen]; exact hl, by rw [hlen]; omega, ?_, by rw [hlen]; exact hb⟩
    · rw [hlen]
      refine ⟨hlen, by unfold maxLen at hm; omega, fun _ => ⟨x, rfl, fun j p hj => ?_⟩⟩
      have hjl : j < len := by have := (List.getElem?_eq_some_iff.1 hj).1; simpa using this
      have hp : p = ⟨(f j).1, (f j).2⟩ := by simpa [List.getElem?_map, List.getElem?_range hjl] using hj.symm
      subst hp
      obtain ⟨q0, q1, _, _⟩ := hf' j hjl
      refine ⟨[.int .i64 (f j).1, .int .i64 (f j).2], rfl, k40_mk W ⟨(f j).1, (f j).2⟩, fun i u hu => ?_⟩
      match i, hu with
      | 0, hu => simp only [List.getElem?_cons_zero, Option.some.injEq] at hu; subst hu; exact q0
      | 1, hu => simp only [List.getElem?_cons_succ, List.getElem?_cons_zero, Option.some.injEq] at hu; subst hu; exact q1
    · intro p hp
      obtain ⟨i, hi', rfl⟩ := List.mem_map.1 hp
      have hq := hf' i (List.mem_range.1 hi')
      exact ⟨hq.2.2.1, hq.2.2.2⟩
end Go.Proofs.Ytfkdkikodoingaa.E
