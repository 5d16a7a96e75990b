/- What impl.readNumber, strings.Split at one byte and strings.Cut at a point hand back, for a text of at most 2^20 bytes, in a world in which the library's variables hold what the program's text lays (Vars). -/
import Derived.Test.YtibdnpghpbimmaaDoorShelf
import Derived.Test.YtibdnpghpbimmaaDoorWLast
import Derived.Test.YtibdnpghpbimmaaDoorWWords
import Derived.Lib.AppendIntMem
import Derived.Lib.SmallJoins
import Derived.Lib.AtoiErrMem
import Derived.Lib.AtoiAllCases
import Derived.Lib.ItoaLen
import Derived.WalkKit
import Derived.BigCall
import Derived.WalkSpells
namespace Go.Proofs.YtibdnpghpbimmaaDoor.E
open Go.RowKit Go.Proofs.YtibdnpghpbimmaaDoorW.PrintWords Go.Proofs.YtibdnpghpbimmaaDoorW.PrintLast
set_option linter.unusedVariables false
set_option linter.unusedSimpArgs false

/-- What the variables that the library reads hold. -/
structure Vars (w : World) : Prop where
  max : ∃ m, w.cell? ⟨0, 0, none⟩ = some (.int .i64 m)
  syn : ∃ ev, w.cell? ⟨3, 0, none⟩ = some ev ∧ (ev = .nilIface ∨ ∃ te pe, ev = .iface te pe)
  rng : ∃ ev, w.cell? ⟨4, 0, none⟩ = some ev ∧ (ev = .nilIface ∨ ∃ te pe, ev = .iface te pe)
  tab : Lib.TabIs Tryd.prog w "internal/strconv.uint64pow10" .u64 Lib.pow10Tab
theorem gPow : Tryd.prog.globalNamed "internal/strconv.uint64pow10" = some 5 := by kernel_rfl
theorem Vars.below {w w' : World} (h : Vars w) (hb : Below w.heap.size w w') : Vars w' := by
  obtain ⟨⟨m, h1⟩, ⟨e1, h2, h3⟩, ⟨e2, h4, h5⟩, h6⟩ := h
  exact ⟨⟨m, pw_cell_below hb h1⟩, ⟨e1, pw_cell_below hb h2, h3⟩, ⟨e2, pw_cell_below hb h4, h5⟩, Go.Joins.tab_stays gPow h6 hb (Nat.le_refl _)⟩
theorem Vars.at {w w1 w2 : World} (h : Vars w) (z : Below w.heap.size w w1) (k : Below w.heap.size w w1 → Below w.heap.size w w2 := by intro z; repeat (first | (with_reducible first | exact z | apply below_alloc | apply pw_below_drewN | apply below_drew1 | refine below_set ?_ (Aside0.out (by assumption))) | exact z)) : Vars w2 := h.below (k z)
def rnV (s : ByteArray) : Int := match Lib.atoiAll s.data.toList with | .ok v => v | .range => Lib.atoiSat s.data.toList | _ => 0
def rnB (s : ByteArray) : Bool := match Lib.atoiAll s.data.toList with | .ok v => Lib.itoa v == s.toList | _ => false
theorem atoi_none (s : ByteArray) (hlim : s.size ≤ 281474976710656) (h1 : ∀ v, Lib.atoiAll s.data.toList ≠ .ok v) (h2 : Lib.atoiAll s.data.toList ≠ .range) (ev : Value) (w : World) (hv : w.cell? ⟨3, 0, none⟩ = some ev) (hev : ev = .nilIface ∨ ∃ te pe, ev = .iface te pe) :
    Calls Tryd.prog 26 #[.string s] w fun e w' => ∃ N, e = .returned (.tuple #[.int .i64 (0), .iface 62 (.pointer (some ⟨N, 0, none⟩))]) ∧ w.heap.size ≤ N ∧ w'.heap[N]? = some (.cells #[.string ⟨#[65, 116, 111, 105]⟩, .string s, ev] 78 (0, 0)) ∧ Below w.heap.size w w' := by
  refine Any.strconv_Atoi_syntax Tryd.laysC172 s hlim ?_ ev w hv hev
  cases h : Lib.atoiAll s.data.toList with
  | ok v => exact absurd h (h1 v)
  | range => exact absurd h h2
  | _ => rfl
set_option maxRecDepth 100000 in
theorem readNumber_calls (s : ByteArray) (hs : s.size ≤ 1048576) (w : World) (hv : Vars w) :
    Calls Tryd.prog 18 #[.string s] w fun e w' => e = .returned (.tuple #[.int .i64 (rnV s), .bool (rnB s)]) ∧ Below w.heap.size w w' := by
  cases h : Lib.atoiAll s.data.toList with
  | ok v =>
    have hr : rnV s = v := by simp only [rnV, h]
    have hb : rnB s = (Lib.itoa v == s.toList) := by simp only [rnB, h]
    obtain ⟨b0, b1⟩ := Lib.atoiAll_bounds h
    rw [hr, hb]
    clear hr hb
    have HV := Aside0.mk hv
    clear hv
    go_enter Tryd.func18, Tryd.ntmps18
    go_wp2_with (go_at_call 26; refine (Tryd.strconv_Atoi_ok s (by omega) v h _).mono ?_)
    rintro e w1 ⟨rfl, hw⟩
    have hB : Below w.heap.size w w1 := by
      rcases hw with rfl | ⟨t, rfl⟩
      · exact Below.refl _ _
      · exact Lib.bytesWorld_below _ _ _
    have HB := Aside0.mk hB
    have hT := (HV.out.below hB).tab
    clear hw hB
    go_wp2_with (go_at_call 27; refine (Tryd.strconv_Itoa v b0 b1 _ hT).mono ?_)
    rintro e w2 ⟨rfl, k, os, rfl⟩
    go_wp2
    go_ret2
    exact ⟨rfl, below_step HB.out (Lib.below_grow _ _ (Nat.le_refl _) k os)⟩
  | range =>
    have hr : rnV s = Lib.atoiSat s.data.toList := by simp only [rnV, h]
    have hb : rnB s = false := by simp only [rnB, h]
    rw [hr, hb]
    obtain ⟨ev, h2, h3⟩ := hv.rng
    go_enter Tryd.func18, Tryd.ntmps18
    go_wp2_with (go_at_call 26; refine (Tryd.strconv_Atoi_range s (by omega) h ev _ h2 h3).mono ?_)
    rintro e w1 ⟨N, rfl, -, -, hb⟩
    go_wp2
    go_ret2
    exact ⟨rfl, hb⟩
  | _ =>
    have hr : rnV s = 0 := by simp only [rnV, h]
    have hb : rnB s = false := by simp only [rnB, h]
    rw [hr, hb]
    obtain ⟨ev, h2, h3⟩ := hv.syn
    have h4 : ∀ v, Lib.atoiAll s.data.toList ≠ .ok v := fun v e => by rw [h] at e; cases e
    have h5 : Lib.atoiAll s.data.toList ≠ .range := fun e => by rw [h] at e; cases e
    go_enter Tryd.func18, Tryd.ntmps18
    go_wp2_with (go_at_call 26; refine (atoi_none s (by omega) h4 h5 ev _ h2 h3).mono ?_)
    rintro e w1 ⟨N, rfl, -, -, hb⟩
    go_wp2
    go_ret2
    exact ⟨rfl, hb⟩
def cutA (s : ByteArray) : ByteArray := ⟨(Lib.cut s.data.toList [46]).1.toArray⟩
def cutB (s : ByteArray) : ByteArray := ⟨(Lib.cut s.data.toList [46]).2.1.toArray⟩
theorem cut_le (l m : List UInt8) : (Lib.cut l m).1.length ≤ l.length ∧ (Lib.cut l m).2.1.length ≤ l.length := by
  unfold Lib.cut
  split <;> simp <;> omega
theorem cutA_le (s : ByteArray) : (cutA s).size ≤ s.size := by
  have h := (cut_le s.data.toList [46]).1
  show (Lib.cut s.data.toList [46]).1.toArray.size ≤ s.data.size
  rw [List.size_toArray]
  exact Nat.le_trans h (Nat.le_of_eq Array.length_toList)
theorem cutB_le (s : ByteArray) : (cutB s).size ≤ s.size := by
  have h := (cut_le s.data.toList [46]).2
  show (Lib.cut s.data.toList [46]).2.1.toArray.size ≤ s.data.size
  rw [List.size_toArray]
  exact Nat.le_trans h (Nat.le_of_eq Array.length_toList)
theorem split_calls (s : ByteArray) (sep : UInt8) (hs : s.size < 4294967281) (w : World) (hv : Vars w) :
    Calls Tryd.prog 10 #[.string s, .string ⟨#[sep]⟩] w fun e w' => ∃ v0_ : Value, e = .returned v0_ ∧ Kd.R Kd.string 9 w' w.heap.size (fun _ => True) v0_ (Lib.splitB ⟨#[sep]⟩ 0 (Lib.countB s ⟨#[sep]⟩) s) ∧ Below w.heap.size w w' := by
  obtain ⟨m, hm⟩ := hv.max
  refine (Tryd.strings_Split s ⟨#[sep]⟩ m w hs hm (Nat.le_refl 1)).mono ?_
  rintro e w' ⟨rfl, rfl⟩
  have hl := Lib.splitB_all ⟨#[sep]⟩ (Nat.le_refl 1) 0 _ s rfl
  refine ⟨_, rfl, Kd.R_of_own ?_ (fun _ _ => trivial), below_alloc (Below.refl _ _) _⟩
  have hc := Lib.countB_le ⟨#[sep]⟩ (Nat.le_refl 1) _ s (Nat.le_refl _)
  have h2 := World.ownsRow_lit (base := w.heap.size) (e := 9) (size := 1) w ((Lib.splitB ⟨#[sep]⟩ 0 (Lib.countB s ⟨#[sep]⟩) s).map Value.string).toArray (Lib.countB s ⟨#[sep]⟩ + 1) (Nat.le_refl _) (by unfold maxLen; omega) (by simp [hl])
  rw [hl]
  have he : encs Value.string (Lib.splitB ⟨#[sep]⟩ 0 (Lib.countB s ⟨#[sep]⟩) s) = (Lib.splitB ⟨#[sep]⟩ 0 (Lib.countB s ⟨#[sep]⟩) s).map Value.string := rfl
  rw [he]
  simpa using h2
theorem cut_calls (s : ByteArray) (hs : s.size < 4294967281) (w : World) (hv : Vars w) :
    Calls Tryd.prog 17 #[.string s, .string ⟨#[46]⟩] w fun e w' => e = .returned (.tuple #[.string (cutA s), .string (cutB s), .bool (Lib.cut s.data.toList [46]).2.2]) ∧ Drawn0 w w' := by
  obtain ⟨m, hm⟩ := hv.max
  refine (Tryd.strings_Cut s ⟨#[46]⟩ m w hs hm).mono ?_
  rintro e w' ⟨rfl, n, rfl⟩
  exact ⟨rfl, n, rfl⟩
end Go.Proofs.YtibdnpghpbimmaaDoor.E
