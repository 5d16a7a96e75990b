-- WRITTEN by xprint.py, a program of this session that drives the kit's printer: out of the translation. Lean checks it.
import Derived.Test.YtofkafbcbghkeaaE0
import Derived.Test.YtofkafbcbghkeaaE8
import Derived.Test.YtofkafbcbghkeaaE10
import Derived.Test.YtofkafbcbghkeaaE11
import Derived.Test.YtofkafbcbghkeaaE14
import Derived.Test.YtofkafbcbghkeaaE18
import Derived.Test.YtofkafbcbghkeaaE19
import Derived.Test.YtofkafbcbghkeaaE20
import Derived.Test.YtofkafbcbghkeaaE21
import Derived.Test.YtofkafbcbghkeaaE22
import Derived.Test.YtofkafbcbghkeaaE23
import Derived.Test.YtofkafbcbghkeaaE24
import Derived.Test.YtofkafbcbghkeaaWLast
import Derived.Test.YtofkafbcbghkeaaWWords
namespace Go.Proofs.Ytofkafbcbghkeaa.E
open Go.RowKit Go.Proofs.YtofkafbcbghkeaaW.PrintWords Go.Proofs.YtofkafbcbghkeaaW.PrintLast
set_option linter.unusedVariables false
set_option linter.unusedSimpArgs false

-- OURS, BY HAND
/-! ### spec_taTimes: function 56 -/
-- func spec.taTimes
-- ext raw=1
-- needs spec.KnownAfter
-- needs spec.taKnown
-- needs impl.knowing
-- needs spec.taSay
-- needs spec.taLeft
-- needs spec.taHas
-- needs spec.IsTrueTalk
-- import Derived.Maps.Own
-- import Derived.Maps.OwnOps
-- import Derived.Maps.OwnSet
-- import Derived.Maps.Views
-- import Derived.WideKeyArr
-- import Derived.WalkKit
-- import Derived.WalkSpells
-- import Derived.Deep.RegionWith
-- import Derived.Deep.RegionLaw
-- import Derived.IntWalk
-- seat Ytofkafbcbghkeaa
theorem cell_put {W : World} {g i : Nat} {cur : Array Value} {z x : Value} (hg : W.heap[g]? = some (.cells cur 3 (0, 0))) (hz : cur[i]? = some z) (a : Addr) (u : Value) (hu : u ≠ z) (h : W.cell? a = some u) : (W.setCell ⟨g, i, none⟩ x).cell? a = some u := by
  by_cases e : a.block = g
  · have h1 := blk_set hg i x
    unfold World.cell? at h ⊢
    rw [e, hg] at h
    rw [e, h1]
    simp only at h ⊢
    cases kwHas : a.spot.isSome with
    | true => rw [kwHas] at h; simp at h
    | false =>
      rw [kwHas] at h
      simp only [Bool.false_eq_true, if_false] at h ⊢
      rw [Array.getElem?_setIfInBounds]
      by_cases eo : i = a.off
      · rw [← eo, hz] at h
        exact absurd (Option.some.inj h).symm hu
      · rw [if_neg eo]; exact h
  · rw [cell_far (show a.block ≠ (⟨g, i, none⟩ : Addr).block from e)]
    exact h
theorem Crows_put {W W1 : World} {A : Option Addr} {n : Nat} {xs : List (List Int)} (H : ∀ a u, u ≠ .int .i64 0 → W.cell? a = some u → W1.cell? a = some u) (ha : ∀ x ∈ xs, Ages x) (h : Kd.C (Kd.slice 3 (Kd.int .i64)) W A n xs) : Kd.C (Kd.slice 3 (Kd.int .i64)) W1 A n xs :=
  ⟨h.1, h.2.1, fun hn => by
    obtain ⟨ad, e, hc⟩ := h.2.2 hn
    refine ⟨ad, e, fun j p hp => ?_⟩
    obtain ⟨c, q1, ⟨A1, c1, q2, q4, q5⟩, q3⟩ := hc j p hp
    have hage := ha p (List.mem_of_getElem? hp)
    refine ⟨c, q1, ⟨A1, c1, q2, q4, q5.1, q5.2.1, fun hn2 => ?_⟩, fun i u hu => H _ _ ?_ (q3 i u hu)⟩
    · obtain ⟨ad2, e2, hc2⟩ := q5.2.2 hn2
      refine ⟨ad2, e2, fun j2 p2 hp2 => ?_⟩
      obtain ⟨cs, r1, r2, r3⟩ := hc2 j2 p2 hp2
      refine ⟨cs, r1, r2, fun i u hu => H _ _ ?_ (r3 i u hu)⟩
      obtain rfl : cs = [.int .i64 p2] := r2
      have : u = .int .i64 p2 := by
        cases i with
        | zero => simpa using hu.symm
        | succ i => simp at hu
      rw [this]
      intro e0
      injection e0 with _ e0
      obtain ⟨x, y, hx1, hxy, hy, e3⟩ := hage
      rw [e3] at hp2
      have hm := List.mem_of_getElem? hp2
      simp at hm
      omega
    · rw [q2] at hu
      have : u = .slice A1 p.length c1 := by
        cases i with
        | zero => simpa using hu.symm
        | succ i => simp at hu
      rw [this]
      intro e0
      cases e0⟩
/-- A row of numbers of the call's own. -/
def IntRow (W : World) (g cap : Nat) (l : List Int) : Prop := ∃ cur : Array Value, W.heap[g]? = some (.cells cur 3 (0, 0)) ∧ cur.size = cap ∧ cap ≤ maxLen ∧ l.length ≤ cap ∧ cur.toList.take l.length = l.map (Value.int .i64)
theorem IntRow.of_block {W W' : World} {g cap : Nat} {l : List Int} (h : IntRow W g cap l) (e : W'.heap[g]? = W.heap[g]?) : IntRow W' g cap l := by
  obtain ⟨cur, h1, h2⟩ := h
  exact ⟨cur, e.trans h1, h2⟩
theorem IntRow.lt {W : World} {g cap : Nat} {l : List Int} (h : IntRow W g cap l) : g < W.heap.size := by
  obtain ⟨cur, h1, h2⟩ := h
  exact blk_lt h1
theorem IntRow.at {W : World} {g cap : Nat} {l : List Int} (h : IntRow W g cap l) (i : Nat) (hi : i < l.length) : ∃ cur : Array Value, W.heap[g]? = some (.cells cur 3 (0, 0)) ∧ cur[i]? = some (.int .i64 l[i]) := by
  obtain ⟨cur, h1, h2, h3, h4, h5⟩ := h
  refine ⟨cur, h1, ?_⟩
  have := congrArg (fun l => l[i]?) h5
  simp only [List.getElem?_take, if_pos hi, Array.getElem?_toList, List.getElem?_map, List.getElem?_eq_getElem hi, Option.map_some] at this
  exact this
theorem IntRow.set {W : World} {g cap : Nat} {l : List Int} (h : IntRow W g cap l) (i : Nat) (x : Int) : IntRow (W.setCell ⟨g, i, none⟩ (.int .i64 x)) g cap (l.set i x) := by
  obtain ⟨cur, h1, h2, h3, h4, h5⟩ := h
  refine ⟨_, blk_set h1 i _, by rw [Array.size_setIfInBounds]; exact h2, h3, by rw [List.length_set]; exact h4, ?_⟩
  rw [Array.toList_setIfInBounds, List.length_set, List.take_set, h5, List.map_set]
theorem IntRow.to_R {W : World} {g cap base : Nat} {l : List Int} (h : IntRow W g cap l) (hb : base ≤ g) : (Kd.int .i64).R 3 W base (fun _ => True) (.slice (some ⟨g, 0, none⟩) l.length cap) l := by
  obtain ⟨cur, h1, h2, h3, h4, h5⟩ := h
  exact Kd.R_of_own ⟨by simp [encs], .inr ⟨g, cap, cur, rfl, hb, h1, h4, h3, by rw [h2, Nat.mul_one], by rw [Nat.mul_one]; exact h5⟩⟩ (fun _ _ => trivial)
theorem made_ints {w : World} {base n : Nat} {ok : Nat → Prop} {v : Value} (hn : 0 < n) (h : (Kd.int .i64).R 3 w base ok v (List.replicate n 0)) : ∃ g cap, v = .slice (some ⟨g, 0, none⟩) n cap ∧ base ≤ g ∧ n ≤ cap ∧ IntRow w g cap (List.replicate n 0) := by
  have ho := Kd.own_of_R h
  rcases ho.2 with ⟨rfl, e⟩ | ⟨g, cap, cur, e, hb, hg, hnc, hcm, hsz, htk⟩
  · rw [List.length_replicate] at e
    omega
  · rw [List.length_replicate] at e hnc htk
    exact ⟨g, cap, e, hb, hnc, cur, hg, by rw [hsz, Nat.mul_one], hcm, by rw [List.length_replicate]; exact hnc, by rw [List.length_replicate]; rw [Nat.mul_one] at htk; exact htk⟩
theorem info3i : (Try.prog.info? 3).map (fun i => (i.zero, i.size, i.bytes)) = some (some (.int .i64 0), 1, 8) := by kernel_rfl
/-- The times of all pairs, behind so many statements. -/
def timesL (m : Nat) (b0 : Bool) (n : Nat) : List Int := (prs m m).map fun x => kwTime m b0 n (rd x 0) (rd x 1)
theorem tm_next (m : Nat) (b0 : Bool) (n : Nat) (a b : Int) (hp : [a, b] ∈ prs m m) : (kwTime m b0 n a b ≠ 0 → kwTime m b0 (n + 1) a b = kwTime m b0 n a b) ∧ (kwTime m b0 n a b = 0 → [a, b] ∈ (kwState m b0 n).1 ∧ ([a, b] ∈ (kwState m b0 (n + 1)).1 → kwTime m b0 (n + 1) a b = 0) ∧ ([a, b] ∉ (kwState m b0 (n + 1)).1 → kwTime m b0 (n + 1) a b = ((n + 1 : Nat) : Int))) := by
  have e : kwTime m b0 (n + 1) a b = if (kwPlus m b0 n).contains [a, b] = true then ((n + 1 : Nat) : Int) else kwTime m b0 n a b := rfl
  have hi := kwHas_iff m b0 a b hp n
  constructor
  · intro h
    have hh : kwHas m b0 n a b = true := by
      cases hh : kwHas m b0 n a b with
      | true => rfl
      | false => exact absurd (tm_zero m b0 a b n hh) h
    have hout := hi.1 hh
    rw [e, if_neg]
    intro hc
    exact hout (plus_in m b0 n _ (List.contains_iff_mem.1 hc))
  · intro h
    have hin : [a, b] ∈ (kwState m b0 n).1 := by
      apply Classical.byContradiction
      intro hn
      have := tm_pos m b0 a b n (hi.2 hn)
      omega
    refine ⟨hin, fun h2 => ?_, fun h2 => ?_⟩
    · rw [e, if_neg]
      · exact h
      · intro hc
        exact (plus_out m b0 n _ hin).1 (List.contains_iff_mem.1 hc) h2
    · rw [e, if_pos (List.contains_iff_mem.2 ((plus_out m b0 n _ hin).2 h2))]
theorem row_step (T T' : List Int) (i : Nat) (h : i < T.length) (h' : T'.length = T.length) : (T'.take i ++ T.drop i)[i]? = some T[i] ∧ (T'.take i ++ T.drop i).set i (T'[i]'(by omega)) = T'.take (i + 1) ++ T.drop (i + 1) ∧ (T'.take i ++ T.drop i).length = T.length := by
  have hl : (T'.take i).length = i := by rw [List.length_take]; omega
  refine ⟨?_, ?_, by rw [List.length_append, List.length_drop, hl]; omega⟩
  · rw [List.getElem?_append_right (by omega), hl, Nat.sub_self, List.getElem?_drop, Nat.add_zero, List.getElem?_eq_getElem h]
  · rw [List.set_append_right _ _ (by omega), hl, Nat.sub_self, List.drop_eq_getElem_cons h, List.set_cons_zero, List.take_succ_eq_append_getElem (by omega), List.append_assoc]
    rfl
set_option maxHeartbeats 8000000 in
set_option maxRecDepth 100000 in
theorem taTimes_calls (m : Nat) (hm : m ≤ 40) (hm1 : 1 ≤ m) (b0 : Bool) (W : World) :
    Calls Try.prog 56 #[.int .i64 m, .string (whoB b0)] W fun e w' => ∃ v, e = .returned v ∧ (Kd.int .i64).R 3 w' W.heap.size (fun _ => True) v (timesL m b0 (kwEnd m b0)) ∧ Below W.heap.size W w' := by
  have HP := Aside0.mk (fun W => taPairs_calls m hm W)
  have HSA := Aside0.mk (fun (b : Bool) A c xs W hC hc ha hn => taSay_calls b 45 (.inl rfl) A c xs W hC hc ha hn)
  have hsm := prs_small m hm
  have hpos : 0 < (prs m m).length := List.length_pos_of_mem (prs_has m 1 1 (Nat.le_refl _) (Nat.le_refl _) hm1 m hm1)
  have HAG := Aside0.mk (fun n x (h : x ∈ (kwState m b0 n).1) => prs_ages m m hm (Nat.le_refl _) x (kst_sub m b0 n x h))
  obtain ⟨who, hwho⟩ : ∃ who, who = whoB b0 := ⟨_, rfl⟩
  rw [← hwho]
  have HWHO := Aside0.mk hwho
  obtain ⟨lp, hlp⟩ : ∃ lp, lp = (prs m m).length := ⟨_, rfl⟩
  have HLP := Aside0.mk hlp
  rw [← hlp] at hsm hpos
  clear hwho hlp
  go_enter Try.func56, Try.ntmps56
  go_wp2_with (first | (go_at_call 42; (with_reducible refine (HP.out _).mono ?_); rintro e w1 ⟨A1, c1, rfl, q1, hC, hb⟩; rw [← HLP.out] at q1 ⊢; have HC1 := Aside0.mk hC; have HB1 := Aside0.mk hb; clear hC hb) | ((with_reducible refine gate_dst (N := 17) rfl ?_); refine Kd.R_make (Kd.int .i64) (w0 := w1) w1.heap.size 3 rfl (N := 17) rfl 45 _ _ rfl lp rfl rfl Try.underlying45 (.int .i64 0) 8 info3i rfl (by decide) (by omega) 0 (ok := fun _ => True) (okp := fun _ => True) rfl (fun _ hk => hk) trivial (by omega) (by omega) (Below.refl _ _) (Nat.le_refl _) ?_; intro v3 w3 ho3 hb hg_ hnew_; obtain ⟨g, cap, rfl, hgb, hcap, hrow⟩ := made_ints hpos ho3; have HROW := Aside0.mk hrow; have HGB := Aside0.mk hgb; have HB3 := Aside0.mk hb; clear ho3 hb hg_ hnew_ hrow hgb))
  have BW3 := Aside0.mk (show Below W.heap.size W w3 from below_step HB1.out HB3.out)
  have HC3 := Aside0.mk (Kd.C_below HC1.out HB3.out)
  have HGW := Aside0.mk (Nat.le_trans HB1.out.size HGB.out)
  have HAP := Aside0.mk (fun x (h : x ∈ prs m m) => prs_ages m m hm (Nat.le_refl _) x h)
  obtain ⟨adg, hadg⟩ : ∃ ad : Addr, ad = ⟨g, 0, none⟩ := ⟨_, rfl⟩
  have HADG := Aside0.mk hadg
  rw [← hadg]
  clear hadg
  go_loopw [1, 7, 8, 9] (fun v1 v7 v8 v9 wr => ∃ (n : Nat) (A : Option Addr) (c : Nat), v1 = .string (whoB (kwState m b0 n).2.1) ∧ v7 = .slice A (kwState m b0 n).1.length c ∧ (kwState m b0 n).1.length ≤ c ∧ v8 = .int .i64 ((kwState m b0 n).2.2 : Int) ∧ v9 = .int .i64 ((n + 1 : Nat) : Int) ∧ (∀ j, j < n → (kwState m b0 j).2.2 < 2) ∧ (kwState m b0 n).2.2 ≤ 2 ∧ Aside0 (Kd.C (Kd.slice 3 (Kd.int .i64)) wr A (kwState m b0 n).1.length (kwState m b0 n).1) ∧ Aside0 (Kd.C (Kd.slice 3 (Kd.int .i64)) wr A1 lp (prs m m)) ∧ Aside0 (IntRow wr g cap (timesL m b0 n)) ∧ Aside0 (Below W.heap.size W wr)) (fun _ v7 v8 _ _ => 3 * sliceLen v7 + 2 - (intOf v8).toNat)
  case atStart =>
    refine ⟨0, A1, c1, by rw [HWHO.out]; rfl, by rw [HLP.out]; rfl, by rw [HLP.out] at q1; exact q1, rfl, by go_num, fun j hj => absurd hj (Nat.not_lt_zero _), by simp [kwState], HC3, ⟨by rw [HLP.out]; exact HC3.out⟩, ⟨?_⟩, BW3⟩
    have e : timesL m b0 0 = List.replicate lp 0 := by
      unfold timesL
      rw [HLP.out]
      exact List.map_const'
    rw [e]
    exact HROW.out
  case round =>
    obtain ⟨n, A, c, rfl, rfl, hcc, rfl, rfl, hj, h2, HC, HCA, HRW, HB⟩ := hrel
    have hl := kst_len m b0 n
    by_cases hst : (kwState m b0 n).2.2 < 2
    · have hs1 : decide (((kwState m b0 n).2.2 : Int) < 2) = true := decide_eq_true (by omega)
      have HBM := Aside0.mk (fun W1 h => HSA.out (kwState m b0 n).2.1 A c (kwState m b0 n).1 W1 h hcc (HAG.out n) (by rw [HLP.out] at hsm; omega))
      have hnb : n ≤ 5000 := by have := kwGoes_up m b0 hm n hj; omega
      have HHJ := Aside0.mk hj
      have hws := who_s (kwState m b0 n).2.1
      have hK1 := fun a b => has_is (kwState m b0 n).1 (HAG.out n) (by rw [HLP.out] at hsm; omega) a b
      have hK2 := fun a b => has_is (kwState m b0 (n + 1)).1 (HAG.out (n + 1)) (by rw [HLP.out] at hsm; have := kst_len m b0 (n + 1); omega) a b
      obtain ⟨xs, hxs⟩ : ∃ xs, xs = (kwState m b0 n).1 := ⟨_, rfl⟩
      obtain ⟨wb, hwb⟩ : ∃ wb, wb = whoB (kwState m b0 n).2.1 := ⟨_, rfl⟩
      obtain ⟨sn, hsn⟩ : ∃ sn, sn = (kwState m b0 n).2.2 := ⟨_, rfl⟩
      obtain ⟨sb, hsb⟩ : ∃ sb, sb = (kwState m b0 n).2.1 := ⟨_, rfl⟩
      obtain ⟨ys, hys⟩ : ∃ ys, ys = (kwState m b0 (n + 1)).1 := ⟨_, rfl⟩
      have e2 : xs.filter (keepsW (kwState m b0 n).2.1 45 xs) = ys := by rw [hxs, hys]; rfl
      have hly : ys.length ≤ xs.length := by rw [hys, hxs]; exact List.length_filter_le _ _
      have e7 : (kwState m b0 (n + 1)).2.2 = if ys.length < xs.length then 0 else sn + 1 := by rw [hys, hxs, hsn]; rfl
      rw [← hxs] at HBM hK1
      rw [e2] at HBM
      rw [← hwb] at HBM hws
      rw [← hsb] at hws
      rw [← hys] at hK2
      have HXS := Aside0.mk hxs
      have HWB := Aside0.mk hwb
      have HSN := Aside0.mk hsn
      have HSB := Aside0.mk hsb
      have HYS := Aside0.mk hys
      have HE7 := Aside0.mk e7
      have HT1 := Aside0.mk (fun a b A c w (h : Kd.C (Kd.slice 3 (Kd.int .i64)) w A xs.length xs) h1 => spec_taHas.calls (hK1 a b).choose A c xs a b (hasPair xs a b) w h h1 (hK1 a b).choose_spec)
      have HT2 := Aside0.mk (fun a b A c w (h : Kd.C (Kd.slice 3 (Kd.int .i64)) w A ys.length ys) h1 => spec_taHas.calls (hK2 a b).choose A c ys a b (hasPair ys a b) w h h1 (hK2 a b).choose_spec)
      have HM1 := Aside0.mk (fun a b => has_mem xs (by rw [hxs]; exact HAG.out n) a b)
      have HM2 := Aside0.mk (fun a b => has_mem ys (by rw [hys]; exact HAG.out (n + 1)) a b)
      have HPX := Aside0.mk (show ∀ x ∈ xs, Ages x by rw [hxs]; exact HAG.out n)
      have HPY := Aside0.mk (show ∀ x ∈ ys, Ages x by rw [hys]; exact HAG.out (n + 1))
      rw [← hxs] at HC hcc
      rw [← hxs, ← hwb, ← hsn]
      rw [← hsn] at hs1
      have hst2 : sn < 2 := by rw [hsn]; exact hst
      have hst' := hst
      clear e2 hxs hwb hsn hsb hys hK1 hK2 hj hl hst e7
      go_wp2_with (go_at_call 69; (with_reducible refine (HBM.out _ HC.out).mono ?_); rintro e w4 ⟨A3, c4, rfl, q3, hC3, hb3⟩; have HC4 := Aside0.mk hC3; have HB4 := Aside0.mk hb3; clear hC3 hb3)
      go_loopw [28] (fun v28 wr => ∃ i : Nat, i ≤ lp ∧ v28 = .int .i64 (i : Int) ∧ Aside0 (Kd.C (Kd.slice 3 (Kd.int .i64)) wr A xs.length xs) ∧ Aside0 (Kd.C (Kd.slice 3 (Kd.int .i64)) wr A3 ys.length ys) ∧ Aside0 (Kd.C (Kd.slice 3 (Kd.int .i64)) wr A1 lp (prs m m)) ∧ Aside0 (IntRow wr g cap ((timesL m b0 (n + 1)).take i ++ (timesL m b0 n).drop i)) ∧ Aside0 (Below W.heap.size W wr)) (fun v28 _ => lp - (intOf v28).toNat)
      case atStart => exact ⟨0, Nat.zero_le _, rfl, ⟨Kd.C_below HC.out HB4.out⟩, HC4, ⟨Kd.C_below HCA.out HB4.out⟩, ⟨by simpa using HRW.out.of_block (HB4.out.block _ HRW.out.lt)⟩, ⟨below_step HB.out HB4.out⟩⟩
      case round =>
        obtain ⟨i, hi, rfl, HCX, HCY, HCP, HRI, HBI⟩ := hrel
        by_cases hlt : i < lp
        · have hlt1 : decide ((i : Int) < (lp : Int)) = true := decide_eq_true (by omega)
          have hlt2 : i < (prs m m).length := by rw [← HLP.out]; exact hlt
          have hcp : Kd.C (Kd.slice 3 (Kd.int .i64)) wr A1 (prs m m).length (prs m m) := by rw [← HLP.out]; exact HCP.out
          obtain ⟨ad, Ax, cx, rfl, hx0, hx1, hCx, _⟩ := row_at hcp (Below.refl _ _) hlt2
          obtain ⟨a, b, ha1, hab, hb40, hxe⟩ := HAP.out (prs m m)[i] (List.getElem_mem hlt2)
          have hpab : [(a : Int), (b : Int)] ∈ prs m m := by rw [← hxe]; exact List.getElem_mem hlt2
          have htn := tm_next m b0 n (a : Int) (b : Int) hpab
          have hTl : (timesL m b0 n).length = lp := by unfold timesL; rw [List.length_map, HLP.out]
          have hTl2 : (timesL m b0 (n + 1)).length = lp := by unfold timesL; rw [List.length_map, HLP.out]
          have hTi : (timesL m b0 n)[i]'(by omega) = kwTime m b0 n (a : Int) (b : Int) := by
            unfold timesL
            rw [List.getElem_map, hxe]
            rfl
          have hTi2 : (timesL m b0 (n + 1))[i]'(by omega) = kwTime m b0 (n + 1) (a : Int) (b : Int) := by
            unfold timesL
            rw [List.getElem_map, hxe]
            rfl
          obtain ⟨s1, s2, s3⟩ := row_step (timesL m b0 n) (timesL m b0 (n + 1)) i (by omega) (by omega)
          rw [hTi] at s1
          rw [hTi2] at s2
          rw [hTl] at s3
          obtain ⟨v, hv⟩ : ∃ v, v = kwTime m b0 n (a : Int) (b : Int) := ⟨_, rfl⟩
          obtain ⟨L, hL⟩ : ∃ L, L = (timesL m b0 (n + 1)).take i ++ (timesL m b0 n).drop i := ⟨_, rfl⟩
          rw [← hL] at s1 s2 s3 HRI
          rw [← hv] at s1 htn
          obtain ⟨cur, hgc, hci⟩ := HRI.out.at i (by omega)
          have hLi : L[i]'(by omega) = v := by
            rw [List.getElem?_eq_getElem (by omega)] at s1
            exact Option.some.inj s1
          rw [hLi] at hci
          have HCU := Aside0.mk hgc
          have HCI := Aside0.mk hci
          have ho1 : ∀ mm, (wr.drewN mm).cell? (adg.add i) = some (.int .i64 v) := fun mm => by rw [HADG.out, add_at]; exact (blk_cell (blk_drewN HCU.out mm) i).trans HCI.out
          have ho2 : ∀ mm, (wr.drewN mm).frozen? (adg.add i) = false := fun mm => by rw [HADG.out, add_at]; exact blk_frozen (blk_drewN HCU.out mm) i
          rw [hxe] at hx0 hx1 hCx
          obtain ⟨adx, rfl, _⟩ := hCx.2.2 (by simp)
          have hp0 : ∀ mm, (wr.drewN mm).cell? (adx.add 0) = some (.int .i64 (a : Int)) := fun mm => (rows_load (Kd.C_drewN hCx mm)).1
          have hp1 : ∀ mm, (wr.drewN mm).cell? (adx.add 1) = some (.int .i64 (b : Int)) := fun mm => (rows_load (Kd.C_drewN hCx mm)).2
          have hp2 : ∀ mm, (wr.drewN mm).cell? adx = some (.int .i64 (a : Int)) := hp0
          have hp3 : ∀ mm, (wr.drewN mm).cell? { block := adx.block, off := adx.off + 1 } = some (.int .i64 (b : Int)) := hp1
          have HS2 := Aside0.mk s2
          have HSL := Aside0.mk (show L.set i v = L by rw [← hLi]; exact List.set_getElem_self _)
          have HLE := Aside0.mk hL
          have HTN := Aside0.mk htn
          have HQ1 := Aside0.mk (fun mm => HT1.out (a : Int) (b : Int) A c (wr.drewN mm) (Kd.C_drewN HCX.out mm) hcc)
          have HQ2 := Aside0.mk (fun mm => HT2.out (a : Int) (b : Int) A3 c4 (wr.drewN mm) (Kd.C_drewN HCY.out mm) q3)
          clear hcp hCx hxe hpab htn hTl hTl2 hTi hTi2 s1 s2 s3 hgc hci hLi hL hv
          by_cases hv0 : v = 0
          · subst hv0
            obtain ⟨hin, g1, g2⟩ := HTN.out.2 rfl
            have hh1 : hasPair xs (a : Int) (b : Int) = true := (HM1.out _ _).2 (by rw [HXS.out]; exact hin)
            rw [hh1] at HQ1
            have hq0 : ((0 : Int) == 0) = true := rfl
            cases hh2 : hasPair ys (a : Int) (b : Int) with
            | true =>
              rw [hh2] at HQ2
              have HG1 := Aside0.mk (g1 (by rw [← HYS.out]; exact (HM2.out _ _).1 hh2))
              clear hin g1 g2 hh1 hh2
              go_wp2
              go_quiet (first | (go_at_call 63; (with_reducible refine (HQ1.out _).mono ?_); rintro e w' ⟨rfl, ⟨nd, rfl⟩⟩; exact ⟨rfl, _, World.drewN_drewN _ _ _⟩) | (go_at_call 63; (with_reducible refine (HQ2.out _).mono ?_); rintro e w' ⟨rfl, ⟨nd, rfl⟩⟩; exact ⟨rfl, _, World.drewN_drewN _ _ _⟩))
              go_wp2
              go_roundw
              case rel => exact ⟨i + 1, by omega, by go_num, ⟨Kd.C_drewN HCX.out _⟩, ⟨Kd.C_drewN HCY.out _⟩, ⟨Kd.C_drewN HCP.out _⟩, ⟨by rw [← HS2.out, HG1.out, HSL.out]; exact HRI.out.of_block rfl⟩, ⟨pw_below_drewN HBI.out _⟩⟩
              case measure => simp [intOf]; omega
            | false =>
              rw [hh2] at HQ2
              have HG1 := Aside0.mk (g2 (by rw [← HYS.out]; intro h; have := (HM2.out _ _).2 h; rw [hh2] at this; cases this))
              clear hin g1 g2 hh1 hh2
              go_wp2
              go_quiet (first | (go_at_call 63; (with_reducible refine (HQ1.out _).mono ?_); rintro e w' ⟨rfl, ⟨nd, rfl⟩⟩; exact ⟨rfl, _, World.drewN_drewN _ _ _⟩) | (go_at_call 63; (with_reducible refine (HQ2.out _).mono ?_); rintro e w' ⟨rfl, ⟨nd, rfl⟩⟩; exact ⟨rfl, _, World.drewN_drewN _ _ _⟩))
              go_wp2
              go_roundw
              case rel =>
                refine ⟨i + 1, by omega, by go_num, ⟨?_⟩, ⟨?_⟩, ⟨?_⟩, ⟨?_⟩, ⟨?_⟩⟩
                · rw [HADG.out, add_at]
                  exact Crows_put (fun a u hu h => cell_put (blk_drewN HCU.out _) HCI.out a u hu h) HPX.out (Kd.C_drewN HCX.out _)
                · rw [HADG.out, add_at]
                  exact Crows_put (fun a u hu h => cell_put (blk_drewN HCU.out _) HCI.out a u hu h) HPY.out (Kd.C_drewN HCY.out _)
                · rw [HADG.out, add_at]
                  exact Crows_put (fun a u hu h => cell_put (blk_drewN HCU.out _) HCI.out a u hu h) HAP.out (Kd.C_drewN HCP.out _)
                · rw [HADG.out, add_at, ← HS2.out, HG1.out]
                  exact IntRow.set (HRI.out.of_block rfl) i _
                · rw [HADG.out, add_at]
                  exact (pw_below_drewN HBI.out _).setCell HGW.out _
              case measure => simp [intOf]; omega
          · have hq0 : (v == 0) = false := by simpa using hv0
            go_wp2
            go_quiet (first | (go_at_call 63; (with_reducible refine (HQ1.out _).mono ?_); rintro e w' ⟨rfl, ⟨nd, rfl⟩⟩; exact ⟨rfl, _, World.drewN_drewN _ _ _⟩) | (go_at_call 63; (with_reducible refine (HQ2.out _).mono ?_); rintro e w' ⟨rfl, ⟨nd, rfl⟩⟩; exact ⟨rfl, _, World.drewN_drewN _ _ _⟩))
            go_wp2
            go_roundw
            case rel => exact ⟨i + 1, by omega, by go_num, ⟨Kd.C_drewN HCX.out _⟩, ⟨Kd.C_drewN HCY.out _⟩, ⟨Kd.C_drewN HCP.out _⟩, ⟨by rw [← HS2.out, HTN.out.1 hv0, HSL.out]; exact HRI.out.of_block rfl⟩, ⟨pw_below_drewN HBI.out _⟩⟩
            case measure => simp [intOf]; omega
        · obtain rfl : i = lp := by omega
          have hTl : (timesL m b0 n).length = i := by unfold timesL; rw [List.length_map, HLP.out]
          have hTl2 : (timesL m b0 (n + 1)).length = i := by unfold timesL; rw [List.length_map, HLP.out]
          rw [List.drop_of_length_le (by omega), List.append_nil, List.take_of_length_le (by omega)] at HRI
          clear hTl hTl2
          have hlt1 : decide ((i : Int) < (i : Int)) = false := decide_eq_false (by omega)
          have HE8 := Aside0.mk (show (kwState m b0 (n + 1)).2.1 = !sb by rw [HSB.out]; rfl)
          have HJ2 := Aside0.mk (show ∀ j, j < n + 1 → (kwState m b0 j).2.2 < 2 from fun j hj => by
            by_cases e : j = n
            · rw [e]; exact hst'
            · exact HHJ.out j (by omega))
          have HS3 := Aside0.mk (kwGoes_down m b0 n hst').2
          by_cases hsh : ys.length < xs.length
          · have hd1 : ((ys.length : Int) != (xs.length : Int)) = true := by simp; omega
            have HE9 := Aside0.mk (show (kwState m b0 (n + 1)).2.2 = 0 by rw [HE7.out, if_pos hsh])
            cases sb with
            | true =>
              go_wp2
              go_roundw
              case rel => exact ⟨n + 1, A3, c4, by rw [HE8.out]; rfl, by rw [← HYS.out], by rw [← HYS.out]; exact q3, by rw [HE9.out]; rfl, by go_num, HJ2.out, HS3.out, ⟨by rw [← HYS.out]; exact id HCY.out⟩, ⟨id HCP.out⟩, ⟨HRI.out.of_block rfl⟩, ⟨HBI.out⟩⟩
              case measure => simp [intOf, sliceLen]; omega
            | false =>
              go_wp2
              go_roundw
              case rel => exact ⟨n + 1, A3, c4, by rw [HE8.out]; rfl, by rw [← HYS.out], by rw [← HYS.out]; exact q3, by rw [HE9.out]; rfl, by go_num, HJ2.out, HS3.out, ⟨by rw [← HYS.out]; exact id HCY.out⟩, ⟨id HCP.out⟩, ⟨HRI.out.of_block rfl⟩, ⟨HBI.out⟩⟩
              case measure => simp [intOf, sliceLen]; omega
          · have hd1 : ((ys.length : Int) != (xs.length : Int)) = false := by simp; omega
            have HE9 := Aside0.mk (show (kwState m b0 (n + 1)).2.2 = sn + 1 by rw [HE7.out, if_neg hsh])
            cases sb with
            | true =>
              go_wp2
              go_roundw
              case rel => exact ⟨n + 1, A3, c4, by rw [HE8.out]; rfl, by rw [← HYS.out], by rw [← HYS.out]; exact q3, by rw [HE9.out]; go_num, by go_num, HJ2.out, HS3.out, ⟨by rw [← HYS.out]; exact id HCY.out⟩, ⟨id HCP.out⟩, ⟨HRI.out.of_block rfl⟩, ⟨HBI.out⟩⟩
              case measure => simp [intOf, sliceLen]; omega
            | false =>
              go_wp2
              go_roundw
              case rel => exact ⟨n + 1, A3, c4, by rw [HE8.out]; rfl, by rw [← HYS.out], by rw [← HYS.out]; exact q3, by rw [HE9.out]; go_num, by go_num, HJ2.out, HS3.out, ⟨by rw [← HYS.out]; exact id HCY.out⟩, ⟨id HCP.out⟩, ⟨HRI.out.of_block rfl⟩, ⟨HBI.out⟩⟩
              case measure => simp [intOf, sliceLen]; omega
    · have hs1 : decide (((kwState m b0 n).2.2 : Int) < 2) = false := decide_eq_false (by omega)
      have he : n = kwEnd m b0 := KwEnds.one ⟨by omega, hj⟩ (endN_is m b0)
      subst he
      have hll : (timesL m b0 (kwEnd m b0)).length = lp := by unfold timesL; rw [List.length_map, HLP.out]
      go_wp2
      go_ret
      have hR := HRW.out.to_R HGW.out
      rw [hll, ← HADG.out] at hR
      exact ⟨_, rfl, hR, HB.out⟩

end Go.Proofs.Ytofkafbcbghkeaa.E
