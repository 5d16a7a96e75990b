/- Plain: a text taken apart at each occurrence of a byte, by the reference and by the library. No condition beyond those typed at each lemma. -/
import Derived.Test.YtibdnpghpbimmaaDoorPn
namespace Go.Proofs.YtibdnpghpbimmaaDoor.Pure
open Go.RowKit Go.Proofs.YtibdnpghpbimmaaDoor.E Go.Proofs.YtibdnpghpbimmaaDoorW.PrintWords Go.Proofs.YtibdnpghpbimmaaDoorW.PrintLast
set_option linter.unusedVariables false
set_option linter.unusedSimpArgs false

/-- The pieces of l between the bytes c; pre stands ahead of the first. -/
def sp (c : UInt8) : List UInt8 → List UInt8 → List (List UInt8)
  | pre, [] => [pre]
  | pre, x :: l => if x = c then pre :: sp c [] l else sp c (pre ++ [x]) l
theorem sp_none (c : UInt8) : ∀ (l pre : List UInt8), c ∉ l → sp c pre l = [pre ++ l]
  | [], pre, _ => by simp [sp]
  | x :: l, pre, h => by
    have hx : ¬ x = c := fun e => h (by simp [e])
    rw [sp, if_neg hx, sp_none c l _ (fun e => h (by simp [e]))]
    simp
theorem sp_hit (c : UInt8) : ∀ (a b pre : List UInt8), c ∉ a → sp c pre (a ++ c :: b) = (pre ++ a) :: sp c [] b
  | [], b, pre, _ => by simp [sp]
  | x :: a, b, pre, h => by
    have hx : ¬ x = c := fun e => h (by simp [e])
    rw [List.cons_append, sp, if_neg hx, sp_hit c a b _ (fun e => h (by simp [e]))]
    simp
theorem sp_ne (c : UInt8) : ∀ (l pre : List UInt8), sp c pre l ≠ []
  | [], pre => by simp [sp]
  | x :: l, pre => by
    rw [sp]
    split
    · simp
    · exact sp_ne c l _
/-- All pieces and the bytes between them make up the text. -/
theorem sp_sum (c : UInt8) : ∀ (l pre : List UInt8), ((sp c pre l).map (fun p => p.length + 1)).sum = pre.length + l.length + 1
  | [], pre => by simp [sp]
  | x :: l, pre => by
    rw [sp]
    split
    · rw [List.map_cons, List.sum_cons, sp_sum c l []]
      simp only [List.length_nil, List.length_cons]
      omega
    · rw [sp_sum c l _]
      simp only [List.length_append, List.length_cons, List.length_nil]
      omega
theorem sp_mem (c : UInt8) : ∀ (l pre : List UInt8), ∀ p ∈ sp c pre l, p.length ≤ pre.length + l.length
  | [], pre, p, hp => by
    rw [sp, List.mem_singleton] at hp
    subst hp
    omega
  | x :: l, pre, p, hp => by
    rw [sp] at hp
    split at hp
    · rcases List.mem_cons.1 hp with rfl | hp
      · omega
      · have := sp_mem c l [] p hp
        simp only [List.length_nil, List.length_cons] at this ⊢
        omega
    · have := sp_mem c l _ p hp
      simp only [List.length_append, List.length_cons, List.length_nil] at this ⊢
      omega
/-! ### the library's -/
theorem ix (c : UInt8) : ∀ l : List UInt8, (Lib.index l [c] = -1 ∧ c ∉ l) ∨ ∃ a b, l = a ++ c :: b ∧ c ∉ a ∧ Lib.index l [c] = (a.length : Int)
  | [] => by left; simp [Lib.index]
  | x :: l => by
    unfold Lib.index
    by_cases hx : x = c
    · subst hx
      right
      exact ⟨[], l, rfl, by simp, by simp [List.isPrefixOf]⟩
    · have hp : ([c] : List UInt8).isPrefixOf (x :: l) = false := by simp [List.isPrefixOf]; exact fun e => hx e.symm
      rw [if_neg (by rw [hp]; simp)]
      rcases ix c l with ⟨h1, h2⟩ | ⟨a, b, rfl, h2, h3⟩
      · left
        refine ⟨by rw [h1]; rfl, fun e => ?_⟩
        rcases List.mem_cons.1 e with e | e
        · exact hx e.symm
        · exact h2 e
      · right
        refine ⟨x :: a, b, rfl, fun e => ?_, ?_⟩
        · rcases List.mem_cons.1 e with e | e
          · exact hx e.symm
          · exact h2 e
        · rw [h3, if_neg (by simp)]
          simp
theorem splitK_sp (c : UInt8) : ∀ (fuel : Nat) (l : List UInt8), l.length < fuel → Lib.splitK [c] 0 (Lib.countFrom [c] fuel l) l = sp c [] l
  | 0, l, h => by omega
  | fuel + 1, l, h => by
    unfold Lib.countFrom
    rcases ix c l with ⟨h1, h2⟩ | ⟨a, b, rfl, h2, h3⟩
    · rw [h1, if_pos (by rfl), sp_none c l [] h2]
      rfl
    · rw [h3, if_neg (by simp), sp_hit c a b [] h2]
      have e : (a ++ c :: b).drop ((a.length : Int).toNat + [c].length) = b := by
        simp [← List.drop_drop]
      rw [e, Nat.add_comm, Lib.splitK, h3, if_neg (by simp), e, splitK_sp c fuel b (by simp only [List.length_append, List.length_cons] at h; omega)]
      simp
theorem splitB_sp (c : UInt8) (l : List UInt8) : Lib.splitB ⟨#[c]⟩ 0 (Lib.countB (mkB l) ⟨#[c]⟩) (mkB l) = (sp c [] l).map mkB := by
  have h := Lib.splitB_data ⟨#[c]⟩ 0 (Lib.countB (mkB l) ⟨#[c]⟩) (mkB l)
  have e : Lib.countB (mkB l) ⟨#[c]⟩ = Lib.countFrom [c] (l.length + 1) l := by
    unfold Lib.countB Lib.count
    rw [mkB_list]
  have e2 : ((⟨#[c]⟩ : ByteArray)).data.toList = [c] := rfl
  rw [mkB_list, e2, e, splitK_sp c _ l (by omega), ← e] at h
  rw [← h, List.map_map]
  have : (mkB ∘ fun s : ByteArray => s.data.toList) = id := funext mkB_of
  rw [this, List.map_id]
theorem cut_hit (c : UInt8) (a b : List UInt8) (h : c ∉ a) : Lib.cut (a ++ c :: b) [c] = (a, b, true) := by
  unfold Lib.cut
  rcases ix c (a ++ c :: b) with ⟨h1, h2⟩ | ⟨a', b', e, h2, h3⟩
  · exact absurd (by simp) h2
  · have ea : a' = a ∧ b' = b := by
      have s1 := sp_hit c a b [] h
      rw [e, sp_hit c a' b' [] h2] at s1
      have e1 : a' = a := by simpa using (List.cons.inj s1).1
      subst e1
      have e2 := List.append_cancel_left e
      exact ⟨rfl, (List.cons.inj e2).2.symm⟩
    obtain ⟨rfl, rfl⟩ := ea
    rw [h3, if_pos (by omega)]
    simp [← List.drop_drop]
theorem cut_miss (c : UInt8) (l : List UInt8) (h : c ∉ l) : Lib.cut l [c] = (l, [], false) := by
  unfold Lib.cut
  rcases ix c l with ⟨h1, h2⟩ | ⟨a', b', e, h2, h3⟩
  · rw [h1, if_neg (by omega)]
  · exact absurd (by rw [e]; simp) h
/-! ### the reference's -/
theorem ext_list (l : List UInt8) (a b : Nat) : (mkB l).extract a b = mkB ((l.take b).drop a) := by
  apply ba_ext
  rw [mkB_list]
  simp [mkB, ByteArray.data_extract, List.extract_eq_take_drop, List.drop_take]
theorem l1Split_loop (c : UInt8) (l : List UInt8) (hl : l.length ≤ 1048576) (d : Nat) : ∀ (i f : Nat) (out : List ByteArray), l.length - i = d → i ≤ l.length → f ≤ i → out.length ≤ i →
    Ev (fun k => spec_l1Split.l0 k (mkB l) (c.toNat : Int) out (f : Int) (i : Int)) (out ++ (sp c ((l.take i).drop f) (l.drop i)).map mkB) := by
  induction d with
  | zero =>
    intro i f out hd hi hf ho
    have e : i = l.length := by omega
    subst e
    rw [List.drop_of_length_le (Nat.le_refl _), sp]
    refine Ev.step (f := fun _ => some (out ++ [mkB ((l.take l.length).drop f)])) (fun k => ?_) (Ev.now _)
    rw [spec_l1Split.l0, if_neg (by rw [mkB_size]; omega), if_pos (by omega), if_pos (by rw [mkB_size]; omega), if_pos (by omega), mkB_size, ext_list, Int.toNat_natCast]
  | succ d ih =>
    intro i f out hd hi hf ho
    have hlt : i < l.length := by omega
    have et : l.take (i + 1) = l.take i ++ [l[i]] := by rw [List.take_add_one, List.getElem?_eq_getElem hlt]; rfl
    rw [List.drop_eq_getElem_cons hlt, sp]
    by_cases hc : l[i] = c
    · rw [if_pos hc]
      have h := ih (i + 1) (i + 1) (out ++ [mkB ((l.take i).drop f)]) (by omega) (by omega) (by omega) (by simp; omega)
      rw [show (l.take (i + 1)).drop (i + 1) = [] from List.drop_of_length_le (by simp; omega)] at h
      rw [List.append_assoc] at h
      refine Ev.step (fun k => ?_) h
      rw [spec_l1Split.l0, if_pos (by rw [mkB_size]; omega), if_pos (by omega), bt_at l i hlt, if_pos (by rw [hc]), if_pos (by omega), if_pos (by omega), if_pos (by rw [mkB_size]; omega), if_pos (by omega), ext_list, Int.toNat_natCast, Int.toNat_natCast, w_succ i l.length hlt (by omega)]
    · rw [if_neg hc]
      have h := ih (i + 1) f out (by omega) (by omega) (by omega) (by omega)
      rw [et, List.drop_append_of_le_length (by simp; omega)] at h
      refine Ev.step (fun k => ?_) h
      rw [spec_l1Split.l0, if_pos (by rw [mkB_size]; omega), if_pos (by omega), bt_at l i hlt, if_neg (fun e => hc (UInt8.toNat_inj.1 (by omega))), w_succ i l.length hlt (by omega)]
theorem ev_l1Split (c : UInt8) (l : List UInt8) (hl : l.length ≤ 1048576) : Ev (fun k => spec_l1Split.f k (mkB l) (c.toNat : Int)) ((sp c [] l).map mkB) := by
  unfold spec_l1Split.f
  simpa using l1Split_loop c l hl l.length 0 0 [] (by omega) (by omega) (by omega) (by simp)
end Go.Proofs.YtibdnpghpbimmaaDoor.Pure
