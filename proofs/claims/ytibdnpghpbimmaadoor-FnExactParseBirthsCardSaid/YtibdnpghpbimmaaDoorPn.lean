/- Plain: numerals of at most six digits: what the reference reads is what the library reads and writes back. No condition beyond those typed at each lemma. -/
import Derived.Test.YtibdnpghpbimmaaDoorE6
import Derived.Lib.AtoiTie
namespace Go.Proofs.YtibdnpghpbimmaaDoor.Pure
open Go.RowKit Go.Proofs.YtibdnpghpbimmaaDoor.E Go.Proofs.YtibdnpghpbimmaaDoorW.PrintWords Go.Proofs.YtibdnpghpbimmaaDoorW.PrintLast
set_option linter.unusedVariables false
set_option linter.unusedSimpArgs false

theorem w64 {x : Int} (h0 : -9223372036854775808 ≤ x) (h1 : x ≤ 9223372036854775807) : wrap64 x = x := by unfold wrap64; omega
theorem w_succ (i n : Nat) (h : i < n) (hn : n ≤ 9223372036854775807) : wrap64 ((i : Int) + 1) = ((i + 1 : Nat) : Int) := by
  rw [w64 (by omega) (by omega)]; omega
def mkB (l : List UInt8) : ByteArray := ⟨l.toArray⟩
theorem mkB_list (l : List UInt8) : (mkB l).data.toList = l := by simp [mkB]
theorem mkB_size (l : List UInt8) : (mkB l).size = l.length := by simp [mkB, ByteArray.size]
theorem mkB_of (s : ByteArray) : mkB s.data.toList = s := by cases s; simp [mkB]
theorem ba_ext {s t : ByteArray} (h : s.data.toList = t.data.toList) : s = t := by rw [← mkB_of s, ← mkB_of t, h]
theorem bt_at (l : List UInt8) (i : Nat) (h : i < l.length) : bt (mkB l) (i : Int) = ((l[i]).toNat : Int) := by
  unfold bt
  rw [dif_pos (by rw [Int.toNat_natCast, mkB_size]; exact h)]
  simp [mkB, ByteArray.getElem_eq_getElem_data]
theorem l1In_val (n a b : Int) : spec_l1In.f n a b = some (decide (a ≤ n ∧ n ≤ b)) := by
  unfold spec_l1In.f
  by_cases h1 : a ≤ n <;> by_cases h2 : n ≤ b <;> simp [h1, h2]
def isDig (c : UInt8) : Prop := 48 ≤ c.toNat ∧ c.toNat ≤ 57
/-- A decimal numeral's value behind acc; -1 at another sign. -/
def rdD : Int → List UInt8 → Int
  | acc, [] => acc
  | acc, c :: r => if c.toNat < 48 then -1 else if c.toNat > 57 then -1 else rdD (10 * acc + ((c.toNat : Int) - 48)) r
def l1R (l : List UInt8) : Int := if 1 ≤ l.length ∧ l.length ≤ 6 then (if l.head? = some 48 ∧ 1 < l.length then -1 else rdD 0 l) else -1
theorem rdD_dig (acc : Int) (c : UInt8) (r : List UInt8) (h : isDig c) : rdD acc (c :: r) = rdD (10 * acc + ((c.toNat : Int) - 48)) r := by
  unfold isDig at h
  rw [rdD, if_neg (by omega), if_neg (by omega)]
theorem rdD_not (acc : Int) (c : UInt8) (r : List UInt8) (h : ¬ isDig c) : rdD acc (c :: r) = -1 := by
  unfold isDig at h
  rw [rdD]
  by_cases h1 : c.toNat < 48
  · rw [if_pos h1]
  · rw [if_neg h1, if_pos (by omega)]
theorem read_loop (l : List UInt8) (hl : l.length ≤ 6) (d : Nat) : ∀ (i : Nat) (acc : Int), l.length - i = d → i ≤ l.length → 0 ≤ acc → acc < 10 ^ i → Ev (fun k => spec_l1Read.l0 k (mkB l) acc (i : Int)) (rdD acc (l.drop i)) := by
  induction d with
  | zero =>
    intro i acc hd hi h0 h1
    rw [List.drop_of_length_le (by omega)]
    exact Ev.step (f := fun _ => some acc) (fun k => by rw [spec_l1Read.l0, if_neg (by rw [mkB_size]; omega)]) (Ev.now _)
  | succ d ih =>
    intro i acc hd hi h0 h1
    have hlt : i < l.length := by omega
    rw [List.drop_eq_getElem_cons hlt]
    by_cases hc : isDig (l[i])
    · rw [rdD_dig _ _ _ hc]
      have hp : (10 : Int) ^ i ≤ 10 ^ 5 := by
        have : (10 : Nat) ^ i ≤ 10 ^ 5 := Nat.pow_le_pow_right (by decide) (by omega)
        exact_mod_cast this
      have e5 : (10 : Int) ^ 5 = 100000 := by decide
      have e6 : (10 : Int) ^ (i + 1) = 10 ^ i * 10 := Int.pow_succ ..
      have hc' := hc
      unfold isDig at hc'
      refine Ev.step (fun k => ?_) (ih (i + 1) (10 * acc + (((l[i]).toNat : Int) - 48)) (by omega) (by omega) (by omega) (by omega))
      rw [spec_l1Read.l0, if_pos (by rw [mkB_size]; omega), if_pos (by omega), bt_at l i hlt, if_neg (by omega), if_neg (by omega), w_succ i l.length hlt (by omega)]
      rw [w64 (x := 10 * acc) (by omega) (by omega), Int.emod_eq_of_lt (by omega) (by omega), w64 (by omega) (by omega)]
    · rw [rdD_not _ _ _ hc]
      unfold isDig at hc
      by_cases h48 : (l[i]).toNat < 48
      · exact Ev.step (f := fun _ => some (-1)) (fun k => by rw [spec_l1Read.l0, if_pos (by rw [mkB_size]; omega), if_pos (by omega), bt_at l i hlt, if_pos (by omega)]) (Ev.now _)
      · exact Ev.step (f := fun _ => some (-1)) (fun k => by rw [spec_l1Read.l0, if_pos (by rw [mkB_size]; omega), if_pos (by omega), bt_at l i hlt, if_neg (by omega), if_pos (by omega)]) (Ev.now _)
theorem ev_l1Read (l : List UInt8) (hl : l.length ≤ 9223372036854775807) : Ev (fun k => spec_l1Read.f k (mkB l)) (l1R l) := by
  unfold spec_l1Read.f l1R
  rw [l1In_val]
  simp only [Option.bind_some, mkB_size]
  by_cases h : 1 ≤ l.length ∧ l.length ≤ 6
  · have ed : decide (1 ≤ (l.length : Int) ∧ (l.length : Int) ≤ 6) = true := decide_eq_true (by omega)
    have e0 : (0 : Int) < (l.length : Int) := by omega
    have h0 : 0 < l.length := by omega
    have hb : bt (mkB l) 0 = ((l[0]).toNat : Int) := bt_at l 0 h0
    have hh : l.head? = some (l[0]) := by rw [List.head?_eq_getElem?, List.getElem?_eq_getElem h0]
    have hr := read_loop l h.2 l.length 0 0 (by omega) (by omega) (by omega) (by decide)
    rw [List.drop_zero] at hr
    rw [if_pos h]
    simp only [ed, e0, if_true]
    by_cases h48 : l[0] = 48
    · have eb : bt (mkB l) 0 = 48 := by rw [hb, h48]; rfl
      simp only [eb, if_true]
      by_cases h1 : 1 < l.length
      · have e1 : decide ((l.length : Int) > 1) = true := decide_eq_true (by omega)
        rw [if_pos ⟨by rw [hh, h48], h1⟩]
        simp only [e1]
        exact Ev.step (f := fun _ => some (-1)) (fun k => by rw [spec_l1Read.j0, if_pos rfl]) (Ev.now _)
      · have e1 : decide ((l.length : Int) > 1) = false := decide_eq_false (by omega)
        rw [if_neg (fun e => h1 e.2)]
        simp only [e1]
        exact Ev.step (fun k => by rw [spec_l1Read.j0, if_neg (by simp)]; rfl) hr
    · have eb : ¬ bt (mkB l) 0 = 48 := fun e => h48 (UInt8.toNat_inj.1 (by rw [hb] at e; have e48 : (48 : UInt8).toNat = 48 := rfl; omega))
      rw [hh, if_neg (fun e => h48 (Option.some.inj e.1))]
      simp only [eb, if_false]
      exact Ev.step (fun k => by rw [spec_l1Read.j0, if_neg (by simp)]; rfl) hr
  · have ed : decide (1 ≤ (l.length : Int) ∧ (l.length : Int) ≤ 6) = false := decide_eq_false (by omega)
    rw [if_neg h]
    simp only [ed, Bool.false_eq_true, if_false]
    exact Ev.step (f := fun _ => some (-1)) (fun k => by rw [spec_l1Read.j0, if_pos rfl]) (Ev.now _)
theorem head_app {a b : List UInt8} (h : a ≠ []) : (a ++ b).head? = a.head? := by
  cases a with
  | nil => exact absurd rfl h
  | cons x r => rfl
/-! ### digits -/
theorem rdD_nonneg : ∀ (l : List UInt8) (acc : Int), 0 ≤ acc → (∀ c ∈ l, isDig c) → 0 ≤ rdD acc l
  | [], acc, h, _ => h
  | c :: r, acc, h, hd => by
    have hc := hd c (by simp)
    rw [rdD_dig _ _ _ hc]
    unfold isDig at hc
    exact rdD_nonneg r _ (by omega) (fun x hx => hd x (by simp [hx]))
theorem digs_of : ∀ (l : List UInt8) (acc : Int), 0 ≤ rdD acc l → l = [] ∨ (∀ c ∈ l, isDig c)
  | [], acc, h => .inl rfl
  | c :: r, acc, h => by
    right
    by_cases hc : isDig c
    · rw [rdD_dig _ _ _ hc] at h
      rcases digs_of r _ h with rfl | hr
      · simpa using hc
      · intro x hx
        rcases List.mem_cons.1 hx with rfl | hx
        · exact hc
        · exact hr x hx
    · rw [rdD_not _ _ _ hc] at h
      omega
theorem rdD_app : ∀ (l r : List UInt8) (acc : Int), (∀ c ∈ l, isDig c) → rdD acc (l ++ r) = rdD (rdD acc l) r
  | [], r, acc, _ => rfl
  | c :: l, r, acc, hd => by
    have hc := hd c (by simp)
    rw [List.cons_append, rdD_dig _ _ _ hc, rdD_dig _ _ _ hc]
    exact rdD_app l r _ (fun x hx => hd x (by simp [hx]))
theorem dig_of (n : Nat) (h : n < 10) : isDig (UInt8.ofNat (48 + n)) ∧ (UInt8.ofNat (48 + n)).toNat = 48 + n := by
  have e : (UInt8.ofNat (48 + n)).toNat = 48 + n := by rw [UInt8.toNat_ofNat']; omega
  exact ⟨by unfold isDig; omega, e⟩
theorem dec_spec (n : Nat) : (∀ c ∈ Lib.decDigits n, isDig c) ∧ rdD 0 (Lib.decDigits n) = n ∧ Lib.decDigits n ≠ [] ∧ ((Lib.decDigits n).head? = some 48 → n = 0) := by
  induction n using Nat.strongRecOn with
  | ind n ih =>
    rw [Lib.decDigits]
    by_cases h : n < 10
    · rw [dif_pos h]
      obtain ⟨h1, h2⟩ := dig_of n h
      refine ⟨by simpa using h1, ?_, by simp, fun e => ?_⟩
      · rw [rdD_dig _ _ _ h1, rdD]; omega
      · have e' : UInt8.ofNat (48 + n) = 48 := by simpa using e
        have := congrArg UInt8.toNat e'
        rw [h2] at this
        have e48 : (48 : UInt8).toNat = 48 := rfl
        omega
    · rw [dif_neg h]
      obtain ⟨a1, a2, a3, a4⟩ := ih (n / 10) (by omega)
      obtain ⟨h1, h2⟩ := dig_of (n % 10) (by omega)
      refine ⟨fun c hc => ?_, ?_, by simp, fun e => ?_⟩
      · rcases List.mem_append.1 hc with hc | hc
        · exact a1 c hc
        · rw [List.mem_singleton.1 hc]; exact h1
      · rw [rdD_app _ _ _ a1, a2, rdD_dig _ _ _ h1, rdD]; omega
      · rw [head_app a3] at e
        have := a4 e
        omega
theorem dec_len : ∀ (m n : Nat), 1 ≤ m → n < 10 ^ m → (Lib.decDigits n).length ≤ m
  | 0, n, h, _ => by omega
  | 1, n, _, h => by rw [Lib.decDigits, dif_pos (by simpa using h)]; simp
  | m + 2, n, _, h => by
    rw [Lib.decDigits]
    by_cases h1 : n < 10
    · rw [dif_pos h1]; simp
    · rw [dif_neg h1]
      have := dec_len (m + 1) (n / 10) (by omega) (by rw [Nat.pow_succ] at h; omega)
      simp only [List.length_append, List.length_singleton]
      omega
theorem dec_of : ∀ (N : Nat) (l : List UInt8), l.length ≤ N → l ≠ [] → (∀ c ∈ l, isDig c) → (l.head? = some 48 → l.length = 1) → Lib.decDigits (rdD 0 l).toNat = l
  | 0, l, hN, hne, _, _ => absurd (List.eq_nil_of_length_eq_zero (by omega)) hne
  | N + 1, l, hN, hne, hd, hh => by
    obtain ⟨a, c, rfl⟩ : ∃ a c, l = a ++ [c] := ⟨l.dropLast, l.getLast hne, (List.dropLast_concat_getLast hne).symm⟩
    have hc : isDig c := hd c (by simp)
    have ha : ∀ x ∈ a, isDig x := fun x hx => hd x (by simp [hx])
    have hc' := hc
    unfold isDig at hc'
    have ec : UInt8.ofNat (48 + (c.toNat - 48)) = c := by
      apply UInt8.toNat_inj.1
      rw [UInt8.toNat_ofNat']
      omega
    rw [rdD_app _ _ _ ha, rdD_dig _ _ _ hc, rdD]
    by_cases hn : a = []
    · subst hn
      rw [rdD, Lib.decDigits, dif_pos (by omega)]
      have e1 : (10 * (0 : Int) + ((c.toNat : Int) - 48)).toNat = c.toNat - 48 := by omega
      rw [e1, ec]
      rfl
    · have hlen : (a ++ [c]).length = a.length + 1 := by simp
      have hh0 : a.head? ≠ some 48 := fun e => by
        have h1 := hh (by rw [head_app hn]; exact e)
        have h2 : 0 < a.length := List.length_pos_iff.2 hn
        omega
      have ih := dec_of N a (by omega) hn ha (fun e => absurd e hh0)
      have h0 := rdD_nonneg a 0 (by omega) ha
      have hpos : 1 ≤ (rdD 0 a).toNat := by
        rcases Nat.eq_zero_or_pos (rdD 0 a).toNat with e | e
        · rw [e] at ih
          rw [Lib.decDigits, dif_pos (by omega)] at ih
          exact absurd (by rw [← ih]; rfl) hh0
        · exact e
      have e1 : (10 * rdD 0 a + ((c.toNat : Int) - 48)).toNat = 10 * (rdD 0 a).toNat + (c.toNat - 48) := by omega
      rw [e1, Lib.decDigits, dif_neg (by omega), show (10 * (rdD 0 a).toNat + (c.toNat - 48)) / 10 = (rdD 0 a).toNat by omega, show (10 * (rdD 0 a).toNat + (c.toNat - 48)) % 10 = c.toNat - 48 by omega, ih, ec]
theorem decFrom_of : ∀ (l : List UInt8) (acc : Nat), (∀ c ∈ l, isDig c) → Lib.decFrom acc l = some (rdD acc l).toNat
  | [], acc, _ => by simp [Lib.decFrom, rdD]
  | c :: r, acc, hd => by
    have hc := hd c (by simp)
    have hc' := hc
    unfold isDig at hc'
    rw [rdD_dig _ _ _ hc]
    have e : (10 * (acc : Int) + ((c.toNat : Int) - 48)) = ((10 * acc + (c.toNat - 48) : Nat) : Int) := by omega
    rw [e, ← decFrom_of r _ (fun x hx => hd x (by simp [hx]))]
    simp [Lib.decFrom, Lib.digitVal, hc', Nat.mul_comm]
/-- What the reference reads, the library reads, and writes back as it stood. -/
theorem num_of_ref (l : List UInt8) (h : 0 ≤ l1R l) : Lib.atoiAll l = .ok (l1R l) ∧ Lib.itoa (l1R l) = l := by
  unfold l1R at h ⊢
  by_cases h1 : 1 ≤ l.length ∧ l.length ≤ 6
  · rw [if_pos h1] at h ⊢
    by_cases h2 : l.head? = some 48 ∧ 1 < l.length
    · rw [if_pos h2] at h; omega
    · rw [if_neg h2] at h ⊢
      have hne : l ≠ [] := fun e => by rw [e] at h1; simp at h1
      have hd : ∀ c ∈ l, isDig c := (digs_of l 0 h).resolve_left hne
      have hback := dec_of l.length l (Nat.le_refl _) hne hd (fun e => by
        have : ¬ 1 < l.length := fun h3 => h2 ⟨e, h3⟩
        omega)
      have hdn : Lib.decNat l = some (rdD 0 l).toNat := by
        unfold Lib.decNat
        rw [if_neg (by simpa using hne)]
        exact decFrom_of l 0 hd
      have hsm := Lib.decNat_small (by omega) hdn
      constructor
      · obtain ⟨c, r, rfl⟩ := List.exists_cons_of_ne_nil hne
        have hc := hd c (by simp)
        unfold isDig at hc
        unfold Lib.atoiAll
        simp only [if_neg (show ¬ (c.toNat = 43 ∨ c.toNat = 45) by omega)]
        rw [Lib.parseMag_short _ (by omega), hdn]
        simp only [Lib.NumEnd.ofOption]
        rw [if_neg (by omega), if_neg (by omega), if_neg (by omega)]
        congr 1
        omega
      · unfold Lib.itoa
        rw [if_neg (by omega)]
        exact hback
  · rw [if_neg h1] at h; omega
/-- What the library reads and writes back, the reference reads. -/
theorem ref_of_num (l : List UInt8) (v : Int) (hi : Lib.itoa v = l) (h0 : 0 ≤ v) (h1 : v ≤ 999999) : l1R l = v := by
  unfold Lib.itoa at hi
  rw [if_neg (by omega)] at hi
  obtain ⟨a1, a2, a3, a4⟩ := dec_spec v.toNat
  have hl := dec_len 6 v.toNat (by omega) (by omega)
  rw [hi] at a1 a2 a3 a4 hl
  unfold l1R
  have hpos : 0 < l.length := List.length_pos_iff.2 a3
  rw [if_pos ⟨by omega, hl⟩, if_neg (fun e => by
    have h := a4 e.1
    rw [h, Lib.decDigits, dif_pos (by omega)] at hi
    rw [← hi] at e
    simp at e), a2]
  omega
theorem num_digs (l : List UInt8) (v : Int) (hi : Lib.itoa v = l) (h0 : 0 ≤ v) : ∀ c ∈ l, isDig c := by
  unfold Lib.itoa at hi
  rw [if_neg (by omega)] at hi
  rw [← hi]
  exact (dec_spec v.toNat).1
theorem num_len (l : List UInt8) (v : Int) (m : Nat) (hm : 1 ≤ m) (hi : Lib.itoa v = l) (h0 : 0 ≤ v) (h1 : v.toNat < 10 ^ m) : l.length ≤ m := by
  unfold Lib.itoa at hi
  rw [if_neg (by omega)] at hi
  rw [← hi]
  exact dec_len m _ hm h1
end Go.Proofs.YtibdnpghpbimmaaDoor.Pure
