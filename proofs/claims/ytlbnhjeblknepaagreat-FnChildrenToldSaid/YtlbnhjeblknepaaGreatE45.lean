-- WRITTEN by xprint.py, a program of this session that drives the kit's printer: out of the translation. Lean checks it.
import Derived.Test.YtlbnhjeblknepaaGreatE0
import Derived.Test.YtlbnhjeblknepaaGreatEa
import Derived.Test.YtlbnhjeblknepaaGreatEb
import Derived.Test.YtlbnhjeblknepaaGreatWm
namespace Go.Proofs.YtlbnhjeblknepaaGreat.E
open Go.RowKit Go.Proofs.YtlbnhjeblknepaaGreatW.PrintWords Go.Proofs.YtlbnhjeblknepaaGreatW.PrintLast Go.Proofs.YtlbnhjeblknepaaGreatW.PrintMore
attribute [local go_sem] max2_int min2_int max_two min_two max_three min_three max_four min_four   -- for this text's walks alone
set_option linter.unusedVariables false
set_option linter.unusedSimpArgs false

-- OURS, BY HAND
/-! ### impl_products: function 72 -/
-- func impl.products
-- ext raw=1
-- needs impl.sets
-- needs impl.SetsOfProduct
-- needs impl.productOf
-- needs impl.areChildren
-- needs impl.isProduct
-- needs impl.between
-- import Derived.WalkKit
-- import Derived.Deep.RegionWith
-- import Derived.Deep.RegionLaw
-- import Derived.IntWalk
-- import Derived.WalkSpells
-- import Derived.Maps.AppendAt
/-- What is asked of the function that is called for each set: it takes what is known of the sets before it, I done, to I (done ++ [s]). -/
def StepP (base : Nat) (cb : Array Value) (I : List (List Int) → World → Prop) : Prop :=
  ∀ (done : List (List Int)) (s : List Int) (W0 W : World) (v : Value), I done W0 → Below W0.heap.size W0 W → base ≤ W0.heap.size → s.length ≤ 4 → Ages s → done.length < 200000 →
    (Kd.int .i64).R 3 W W0.heap.size (fun _ => True) v s →
    Calls Tryz.prog 101 (#[v] ++ cb) W fun e w' => e = .returned (.tuple #[]) ∧ I (done ++ [s]) w' ∧ Eff base W w'
set_option maxHeartbeats 8000000 in
set_option maxRecDepth 100000 in
theorem setsP_calls (base : Nat) (cb : Array Value) (I : List (List Int) → World → Prop) (hst : StepP base cb I) (hmv : ∀ done W W', I done W → Below W.heap.size W W' → I done W') (n : Nat) :
    ∀ (c : Nat) (l : List Int) (v : Value) (done : List (List Int)) (W0 W : World), l.length + n = c → c ≤ 4 → Ages l → I done W0 → Below W0.heap.size W0 W → base ≤ W0.heap.size → done.length + 20 ^ n ≤ 200000 →
      (Kd.int .i64).R 3 W W0.heap.size (fun _ => True) v l →
      Calls Tryz.prog 85 #[.int .i64 c, v, .func (.func 101) #[] cb] W fun e w' => e = .returned (.tuple #[]) ∧ I (done ++ allSets n l) w' ∧ Eff base W w' := by
  induction n with
  | zero =>
    intro c l v done W0 W hc h4 ha hI hb hbase hd hR
    obtain ⟨A, cc, rfl⟩ := Kd.R_slice hR
    have HC := Aside0.mk (hst done l W0 W _ hI hb hbase (by omega) ha (by simp at hd; omega) hR)
    have e1 : ((l.length : Int) == (c : Int)) = true := by simp; omega
    clear hR hI hb
    go_enter Tryz.func85, Tryz.ntmps85
    go_wp2_with (go_at_call 101; (with_reducible refine HC.out.mono ?_); rintro e w' ⟨rfl, hI', hE⟩)
    (first | go_end0 | ((try simp only [Exit.inBlock, Exit.then]); refine bodyPost_ret (results_none rfl _ _ _) rfl ?_))
    exact ⟨rfl, by rw [show allSets 0 l = [l] from rfl]; exact hI', hE⟩
  | succ n ih =>
    intro c l v done W0 W hc h4 ha hI hb hbase hd hR
    obtain ⟨A, cc, rfl⟩ := Kd.R_slice hR
    obtain ⟨hn_, hcc, hC⟩ := Kd.R_reads' hR
    have e1 : ((l.length : Int) == (c : Int)) = false := by simp; omega
    have hfr := ha.from_
    have hl4 : l.length ≤ 4 := by omega
    have HA := Aside0.mk ha
    have HR0 := Aside0.mk hR
    have HI0 := Aside0.mk hI
    have HB0 := Aside0.mk hb
    have HD := Aside0.mk hd
    have HC := Aside0.mk hC
    have HN := Aside0.mk hc
    clear hR hI hb hd hC hn_ ha hc
    by_cases hz : l.length = 0
    · have hnil : l = [] := List.eq_nil_of_length_eq_zero hz
      have hf1 : fromOf l = 1 := by subst hnil; rfl
      have HF := Aside0.mk hf1
      have HZ := Aside0.mk hz
      have e2 : decide (0 < l.length) = false := decide_eq_false (by omega)
      clear hz hnil hf1
      go_enter Tryz.func85, Tryz.ntmps85
      go_wp2
      go_loopw [7] (fun v7 wr => ∃ (i : Nat) (W1 : World), (i : Int) ≤ 21 - fromOf l ∧ v7 = .int .i64 (fromOf l + (i : Int)) ∧ Aside0 (I (done ++ setsUpTo n l i) W1) ∧ Aside0 (Below W1.heap.size W1 wr) ∧ Aside0 (base ≤ W1.heap.size) ∧ Aside0 (Eff base W wr) ∧ Aside0 ((Kd.int .i64).R 3 wr W0.heap.size (fun _ => True) (.slice A l.length cc) l)) (fun v7 _ => (21 - intOf v7).toNat)
      case atStart => exact ⟨0, W0, by omega, by first | (rw [HF.out]; rfl) | simp, ⟨by have := HI0.out; simpa [setsUpTo] using this⟩, HB0, ⟨hbase⟩, ⟨Eff.refl _ _⟩, HR0⟩
      case round =>
        obtain ⟨i, W1, hi, rfl, HI, HBW, HBA, HE, HRl⟩ := hrel
        by_cases hlt : fromOf l + (i : Int) ≤ 20
        · have hd1 : decide (fromOf l + (i : Int) ≤ 20) = true := decide_eq_true hlt
          have HLT := Aside0.mk hlt
          have hcl := fun w hr => slices_Clone_int_int.calls A cc l l w hr hcc (by unfold slices_Clone_int_int.f; rw [if_pos (by omega)])
          go_wp2_with (first | (go_at_call 88; (with_reducible refine (hcl _ (Kd.R_reads' HRl.out).2.2).mono ?_); rintro e w2 ⟨v2, rfl, hR2, hb2⟩; have HR2 := Aside0.mk hR2; have HB2 := Aside0.mk hb2; clear hR2 hb2; obtain ⟨A2, c2, rfl⟩ := Kd.R_slice HR2.out) | ((with_reducible refine gate_builtin (b := .append) (xs := #[.tmp 31, .tmp 33]) rfl ?_); at_builtin; refine Kd.R_append (Kd.int .i64) (w0 := wr) wr.heap.size rfl (.tmp 31) (.tmp 33) 31 3 (.int .i64 0) 8 rfl Tryz.underlying31 info3 rfl (by decide) (by omega) _ l (fromOf l + (i : Int)) [.int .i64 (fromOf l + (i : Int))] (fun _ => True) (fun _ => False) rfl rfl ?aP (fun _ hk => hk.elim) ?aF ?aO ?aB ?aS ?aL ?_; (case aP => exact rfl); (case aB => exact HB2.out); (case aF => exact fun _ _ => trivial); (case aO => exact HR2.out); (case aS => exact HB2.out.size); (case aL => omega); intro v3 w3 ho hb hg hat; have HR3 := Aside0.mk ho; have HB3 := Aside0.mk hb; clear ho hb hg hat))
          have hup : (setsUpTo n l i).length ≤ i * 20 ^ n := setsUpTo_len n l i HA.out (by have := HLT.out; omega)
          have hpow : (i + 1) * 20 ^ n ≤ 20 * 20 ^ n := Nat.mul_le_mul_right _ (by have := HLT.out; omega)
          have hdn : (done ++ setsUpTo n l i).length + 20 ^ n ≤ 200000 := by
            have h1 := HD.out
            rw [Nat.pow_succ, Nat.mul_comm] at h1
            rw [Nat.succ_mul] at hpow
            rw [List.length_append]
            omega
          refine (ih c (l ++ [fromOf l + (i : Int)]) v3 (done ++ setsUpTo n l i) W1 w3 (by have := HN.out; simp; omega) h4 (HA.out.snoc (by omega) HLT.out) HI.out (below_then HBW.out HBW.out.size HB3.out) HBA.out hdn (Kd.R_lower HR3.out HBW.out.size)).mono ?_
          rintro e w4 ⟨rfl, hI4, hE4⟩
          have hE3 : Eff base wr w4 := (Eff.of_below HB3.out (Nat.le_trans HBA.out HBW.out.size)).trans hE4
          have HI4 := Aside0.mk hI4
          have HE4 := Aside0.mk hE3
          clear hI4 hE4 hE3 hup hpow hdn
          go_wp2
          go_roundw
          case rel => exact ⟨i + 1, w4, by have := HLT.out; omega, by first | go_num | (congr 1; omega), ⟨by rw [setsUpTo_succ, ← List.append_assoc]; exact HI4.out⟩, ⟨Below.refl _ _⟩, ⟨Nat.le_trans HBA.out (Nat.le_trans HBW.out.size HE4.out.size)⟩, ⟨HE.out.trans HE4.out⟩, ⟨Eff.R HRl.out HE4.out⟩⟩
          case measure => simp [intOf]; have := HLT.out; omega
        · go_wp2
          (first | go_end0 | ((try simp only [Exit.inBlock, Exit.then]); refine bodyPost_ret (results_none rfl _ _ _) rfl ?_))
          have hi2 : i = (21 - fromOf l).toNat := by omega
          refine ⟨rfl, ?_, HE.out⟩
          rw [show allSets (n + 1) l = setsUpTo n l (21 - fromOf l).toNat from rfl, ← hi2]
          exact hmv _ _ _ HI.out HBW.out
    · have e2 : decide (0 < l.length) = true := decide_eq_true (by omega)
      obtain ⟨ad, rfl, hx0⟩ := Kd.at_int HC.out ((l.length - 1 : Nat) : Int) (by omega) (by omega)
      rw [Int.toNat_natCast, ← getLast_rd l (by omega)] at hx0
      have p1 : (0 ≤ (l.length : Int) - 1) = True := eq_true (by omega)
      have q1 : ((l.length : Int) - 1 < (l.length : Int)) = True := eq_true (by omega)
      go_enter Tryz.func85, Tryz.ntmps85
      go_wp2
      go_loopw [7] (fun v7 wr => ∃ (i : Nat) (W1 : World), (i : Int) ≤ 21 - fromOf l ∧ v7 = .int .i64 (fromOf l + (i : Int)) ∧ Aside0 (I (done ++ setsUpTo n l i) W1) ∧ Aside0 (Below W1.heap.size W1 wr) ∧ Aside0 (base ≤ W1.heap.size) ∧ Aside0 (Eff base W wr) ∧ Aside0 ((Kd.int .i64).R 3 wr W0.heap.size (fun _ => True) (.slice (some ad) l.length cc) l)) (fun v7 _ => (21 - intOf v7).toNat)
      case atStart => exact ⟨0, W0, by omega, by first | (rw [HF.out]; rfl) | simp, ⟨by have := HI0.out; simpa [setsUpTo] using this⟩, HB0, ⟨hbase⟩, ⟨Eff.refl _ _⟩, HR0⟩
      case round =>
        obtain ⟨i, W1, hi, rfl, HI, HBW, HBA, HE, HRl⟩ := hrel
        by_cases hlt : fromOf l + (i : Int) ≤ 20
        · have hd1 : decide (fromOf l + (i : Int) ≤ 20) = true := decide_eq_true hlt
          have HLT := Aside0.mk hlt
          have hcl := fun w hr => slices_Clone_int_int.calls (some ad) cc l l w hr hcc (by unfold slices_Clone_int_int.f; rw [if_pos (by omega)])
          go_wp2_with (first | (go_at_call 88; (with_reducible refine (hcl _ (Kd.R_reads' HRl.out).2.2).mono ?_); rintro e w2 ⟨v2, rfl, hR2, hb2⟩; have HR2 := Aside0.mk hR2; have HB2 := Aside0.mk hb2; clear hR2 hb2; obtain ⟨A2, c2, rfl⟩ := Kd.R_slice HR2.out) | ((with_reducible refine gate_builtin (b := .append) (xs := #[.tmp 31, .tmp 33]) rfl ?_); at_builtin; refine Kd.R_append (Kd.int .i64) (w0 := wr) wr.heap.size rfl (.tmp 31) (.tmp 33) 31 3 (.int .i64 0) 8 rfl Tryz.underlying31 info3 rfl (by decide) (by omega) _ l (fromOf l + (i : Int)) [.int .i64 (fromOf l + (i : Int))] (fun _ => True) (fun _ => False) rfl rfl ?aP (fun _ hk => hk.elim) ?aF ?aO ?aB ?aS ?aL ?_; (case aP => exact rfl); (case aB => exact HB2.out); (case aF => exact fun _ _ => trivial); (case aO => exact HR2.out); (case aS => exact HB2.out.size); (case aL => omega); intro v3 w3 ho hb hg hat; have HR3 := Aside0.mk ho; have HB3 := Aside0.mk hb; clear ho hb hg hat))
          have hup : (setsUpTo n l i).length ≤ i * 20 ^ n := setsUpTo_len n l i HA.out (by have := HLT.out; omega)
          have hpow : (i + 1) * 20 ^ n ≤ 20 * 20 ^ n := Nat.mul_le_mul_right _ (by have := HLT.out; omega)
          have hdn : (done ++ setsUpTo n l i).length + 20 ^ n ≤ 200000 := by
            have h1 := HD.out
            rw [Nat.pow_succ, Nat.mul_comm] at h1
            rw [Nat.succ_mul] at hpow
            rw [List.length_append]
            omega
          refine (ih c (l ++ [fromOf l + (i : Int)]) v3 (done ++ setsUpTo n l i) W1 w3 (by have := HN.out; simp; omega) h4 (HA.out.snoc (by omega) HLT.out) HI.out (below_then HBW.out HBW.out.size HB3.out) HBA.out hdn (Kd.R_lower HR3.out HBW.out.size)).mono ?_
          rintro e w4 ⟨rfl, hI4, hE4⟩
          have hE3 : Eff base wr w4 := (Eff.of_below HB3.out (Nat.le_trans HBA.out HBW.out.size)).trans hE4
          have HI4 := Aside0.mk hI4
          have HE4 := Aside0.mk hE3
          clear hI4 hE4 hE3 hup hpow hdn
          go_wp2
          go_roundw
          case rel => exact ⟨i + 1, w4, by have := HLT.out; omega, by first | go_num | (congr 1; omega), ⟨by rw [setsUpTo_succ, ← List.append_assoc]; exact HI4.out⟩, ⟨Below.refl _ _⟩, ⟨Nat.le_trans HBA.out (Nat.le_trans HBW.out.size HE4.out.size)⟩, ⟨HE.out.trans HE4.out⟩, ⟨Eff.R HRl.out HE4.out⟩⟩
          case measure => simp [intOf]; have := HLT.out; omega
        · go_wp2
          (first | go_end0 | ((try simp only [Exit.inBlock, Exit.then]); refine bodyPost_ret (results_none rfl _ _ _) rfl ?_))
          have hi2 : i = (21 - fromOf l).toNat := by omega
          refine ⟨rfl, ?_, HE.out⟩
          rw [show allSets (n + 1) l = setsUpTo n l (21 - fromOf l).toNat from rfl, ← hi2]
          exact hmv _ _ _ HI.out HBW.out
/-- A value in a region that draws its order. -/
theorem valHere_ {P : Program} {ops : Array Oper} {oi : Oper} {a : Act} {w : World} {K : Act → World → Prop} {Q : Exit → Act → World → Prop} {N : Option Tmp} (hw : Region.wanted oi (yielded ops a.tmps) = true) (hN : oi.dst = N) {v : Value} {w1 : World} (hrun : (execOp a.eval oi).run P w = .ok (.value v) w1) (h : K (a.put N v) w1) : if Region.wanted oi (yielded ops a.tmps) = true then Oper.wp P oi a w K Q else K (a.put N undef) w := by
  subst hN
  rw [if_pos hw]
  unfold Oper.wp
  rw [hrun]
  exact h
theorem storHere_ {P : Program} {ops : Array Oper} {oi : Oper} {a : Act} {w : World} {K : Act → World → Prop} {Q : Exit → Act → World → Prop} {N : Option Tmp} (hw : Region.wanted oi (yielded ops a.tmps) = true) (hN : oi.dst = N) {w1 : World} (hrun : (execOp a.eval oi).run P w = .ok .skip w1) (h : K (a.put N undef) w1) : if Region.wanted oi (yielded ops a.tmps) = true then Oper.wp P oi a w K Q else K (a.put N undef) w := by
  subst hN
  rw [if_pos hw]
  unfold Oper.wp
  rw [hrun]
  exact h
/-- An append in a region that draws its order. -/
theorem appHere_ {P : Program} {ops : Array Oper} {oi : Oper} {a : Act} {w : World} {K : Act → World → Prop} {Q : Exit → Act → World → Prop} {N : Option Tmp} (hw : Region.wanted oi (yielded ops a.tmps) = true) (hN : oi.dst = N) (s x : Operand) (t ty : TypeId) (hop : oi.op = .call { callee := .builtin .append, args := #[s, x], argTypes := #[t, t] }) (hty : oi.type = ty) {v1 v2 v' : Value} {w1 : World} (hs : a.eval s = v1) (hx : a.eval x = v2)
    (hr : (Builtin.append_ #[t, t] ty #[v1, v2]).run P w = .ok v' w1) (h : K (a.put N v') w1) : if Region.wanted oi (yielded ops a.tmps) = true then Oper.wp P oi a w K Q else K (a.put N undef) w := by
  subst hN
  subst hty
  rw [if_pos hw]
  unfold Oper.wp execOp
  simp only [hop, resolve, invoke, builtin, Sem.run_bind, Sem.run_pure, Result.andThen_ok, List.map_toArray, List.map_cons, List.map_nil, hs, hx, hr]
  exact h
/-- A list of sets: the headers lie in a block of the call's own, each leads to its numbers. -/
def LotAt (base : Nat) (W : World) (v : Value) (xs : List (List Int)) : Prop :=
  ∃ hdrs : List Value, W.ownsRow base 31 1 v xs.length hdrs ∧ ∀ (j : Nat) (h : Value) (s : List Int), hdrs[j]? = some h → xs[j]? = some s → (Kd.int .i64).R 3 W base (fun _ => True) h s
theorem ownsRow_of_block {W W' : World} {base e size n : Nat} {v : Value} {xs : List Value} (h : W.ownsRow base e size v n xs) (hb : ∀ g, v.ownBlock = some g → W'.heap[g]? = W.heap[g]?) : W'.ownsRow base e size v n xs := by
  obtain ⟨h1, h2⟩ := h
  refine ⟨h1, ?_⟩
  rcases h2 with h2 | ⟨g, cap, cur, rfl, h3, h4, h5⟩
  · exact .inl h2
  · exact .inr ⟨g, cap, cur, rfl, h3, (hb g rfl).trans h4, h5⟩
theorem ownsRow_block {W : World} {base e size n : Nat} {v : Value} {xs : List Value} (h : W.ownsRow base e size v n xs) {g : Nat} (hg : v.ownBlock = some g) : base ≤ g ∧ ∃ cur, W.heap[g]? = some (.cells cur e (0, 0)) := by
  rcases h.2 with ⟨rfl, _⟩ | ⟨g', cap, cur, rfl, h3, h4, h5⟩
  · simp [Value.ownBlock] at hg
  · have : g' = g := by simpa [Value.ownBlock] using hg
    subst this
    exact ⟨h3, cur, h4⟩
theorem LotAt.move {base : Nat} {W W' : World} {v : Value} {xs : List (List Int)} (h : LotAt base W v xs) (hb : ∀ g, v.ownBlock = some g → W'.heap[g]? = W.heap[g]?) (he : Eff base W W') : LotAt base W' v xs := by
  obtain ⟨hdrs, h1, h2⟩ := h
  exact ⟨hdrs, ownsRow_of_block h1 hb, fun j h s hj hs => Eff.R (h2 j h s hj hs) he⟩
/-- What is kept while sets are gathered by their products. -/
structure Lots (base pb qb ob rb : Nat) (fr tt : Int) (N cap : Nat) (done : List (List Int)) (W : World) : Prop where
  hp : W.heap[pb]? = some (.cells #[.int .i64 fr] 3 (0, 0))
  hq : W.heap[qb]? = some (.cells #[.int .i64 tt] 3 (0, 0))
  ho : W.heap[ob]? = some (.cells #[.slice (some ⟨rb, 0, none⟩) N cap] 67 (0, 0))
  hr : ∃ (cur : Array Value) (vs : Nat → Value), W.heap[rb]? = some (.cells cur 26 (0, 0)) ∧ cur.size = cap ∧ N ≤ cap ∧ (∀ k, k < N → cur[k]? = some (vs k)) ∧ (∀ k, k < N → LotAt base W (vs k) (done.filter (hasProd (fr + (k : Int))))) ∧
    (∀ j k, j < N → k < N → j ≠ k → ∀ g, (vs j).ownBlock = some g → (vs k).ownBlock ≠ some g)
/-- A step that leaves the blocks that are kept. -/
theorem Lots.keep {base pb qb ob rb : Nat} {fr tt : Int} {N cap : Nat} {done : List (List Int)} {W W' : World} (h : Lots base pb qb ob rb fr tt N cap done W) (hb : ∀ g, g < W.heap.size → W'.heap[g]? = W.heap[g]?) (he : Eff base W W') : Lots base pb qb ob rb fr tt N cap done W' := by
  obtain ⟨h1, h2, h3, cur, vs, h4, h5, h6, h7, h8, h9⟩ := h
  refine ⟨(hb _ (blk_lt h1)).trans h1, (hb _ (blk_lt h2)).trans h2, (hb _ (blk_lt h3)).trans h3, cur, vs, (hb _ (blk_lt h4)).trans h4, h5, h6, h7, fun k hk => (h8 k hk).move (fun g hg => ?_) he, h9⟩
  obtain ⟨hdrs, r1, _⟩ := h8 k hk
  obtain ⟨_, cur', r2⟩ := ownsRow_block r1 hg
  exact hb g (blk_lt r2)
theorem Lots.below {base pb qb ob rb : Nat} {fr tt : Int} {N cap : Nat} (hb0 : ∀ W : World, ∀ done, Lots base pb qb ob rb fr tt N cap done W → base ≤ W.heap.size) : ∀ (done : List (List Int)) (W W' : World), Lots base pb qb ob rb fr tt N cap done W → Below W.heap.size W W' → Lots base pb qb ob rb fr tt N cap done W' :=
  fun done W W' h hb => h.keep (fun g hg => hb.block g hg) (Eff.of_below hb (hb0 W done h))
theorem Lots.skip {base pb qb ob rb : Nat} {fr tt : Int} {N cap : Nat} {done : List (List Int)} {W : World} (h : Lots base pb qb ob rb fr tt N cap done W) (s : List Int) (hs : ∀ k : Nat, k < N → hasProd (fr + (k : Int)) s = false) : Lots base pb qb ob rb fr tt N cap (done ++ [s]) W := by
  obtain ⟨h1, h2, h3, cur, vs, h4, h5, h6, h7, h8, h9⟩ := h
  refine ⟨h1, h2, h3, cur, vs, h4, h5, h6, h7, fun k hk => ?_, h9⟩
  have e : (done ++ [s]).filter (hasProd (fr + (k : Int))) = done.filter (hasProd (fr + (k : Int))) := by
    rw [List.filter_append]
    have : [s].filter (hasProd (fr + (k : Int))) = [] := by simp [hs k hk]
    rw [this, List.append_nil]
  rw [e]
  exact h8 k hk
theorem infoLots : (Tryz.prog.info? 31).map (fun i => (i.zero, i.size, i.bytes)) = some (some (.slice none 0 0), 1, 24) := by kernel_rfl
theorem ne_typed {W : World} {g k : Nat} {c1 c2 : Array Value} {t1 t2 : TypeId} (h1 : W.heap[g]? = some (.cells c1 t1 (0, 0))) (h2 : W.heap[k]? = some (.cells c2 t2 (0, 0))) (h : t1 ≠ t2) : g ≠ k := by
  rintro rfl
  rw [h1] at h2
  injection h2 with e
  injection e with _ e _
  exact h e
set_option maxHeartbeats 1000000 in
theorem Lots.append {base pb qb ob rb : Nat} {fr tt : Int} {N cap : Nat} {done : List (List Int)} {W : World} (h : Lots base pb qb ob rb fr tt N cap done W) (hbr : base ≤ rb) (hd : done.length < 200000) (i : Nat) (hi : i < N) (vi : Value) (hvi : W.cell? ⟨rb, i, none⟩ = some vi)
    (s : List Int) (hdr : Value) (h1c : hdr.oneCell' = true) (hR : (Kd.int .i64).R 3 W base (fun _ => True) hdr s) (ad : Addr) (hnews : ∀ j u, [hdr][j]? = some u → W.cell? (ad.add j) = some u)
    (hs1 : hasProd (fr + (i : Int)) s = true) (hs2 : ∀ k : Nat, k < N → k ≠ i → hasProd (fr + (k : Int)) s = false) :
    ∃ v' W', (Builtin.append_ #[26, 26] 26 #[vi, .slice (some ad) 1 1]).run Tryz.prog W = .ok v' W' ∧ (∃ A' n' c', v' = .slice A' n' c') ∧
      (W'.cell? ⟨ob, 0, none⟩ = some (.slice (some ⟨rb, 0, none⟩) N cap) ∧ W'.cell? ⟨pb, 0, none⟩ = some (.int .i64 fr) ∧ W'.cell? ⟨rb, i, none⟩ = some vi) ∧ W'.frozen? ⟨rb, i, none⟩ = false ∧
      Lots base pb qb ob rb fr tt N cap (done ++ [s]) (W'.setCell ⟨rb, i, none⟩ v') ∧ Eff base W (W'.setCell ⟨rb, i, none⟩ v') := by
  obtain ⟨h1, h2, h3, cur, vs, h4, h5, h6, h7, h8, h9⟩ := h
  have hvs : vs i = vi := by
    have := blk_cell h4 i
    rw [h7 i hi] at this
    exact Option.some.inj (this.symm.trans hvi)
  obtain ⟨hdrs, hown, hrows⟩ := h8 i hi
  rw [hvs] at hown
  obtain ⟨ti, hti, hz⟩ := Option.map_eq_some_iff.1 infoLots
  simp only [Prod.mk.injEq] at hz
  have hfl : (done.filter (hasProd (fr + (i : Int)))).length ≤ done.length := List.length_filter_le _ _
  have hbW : base ≤ W.heap.size := Nat.le_trans hbr (Nat.le_of_lt (blk_lt h4))
  obtain ⟨v', W', hrun, hown', hgr, _, hat⟩ := run_append_own_at (P := Tryz.prog) W base 26 26 31 ti (.slice none 0 0) 1 24 Tryz.underlying26 hti hz.1 hz.2.1 hz.2.2 rfl (by decide) vi _ hdrs hown ad 1 1 [hdr] rfl hnews (by intro u hu; rw [List.mem_singleton.1 hu]; exact h1c) (by unfold maxLen; omega) (by omega) hbW
  have hne : ∀ (k : Nat) (c : Array Value) (t : TypeId), W.heap[k]? = some (.cells c t (0, 0)) → t ≠ 31 → some k ≠ vi.ownBlock := by
    intro k c t hk ht e
    obtain ⟨_, c2, h2⟩ := ownsRow_block hown e.symm
    exact ne_typed hk h2 ht rfl
  have b1 : W'.heap[pb]? = some (.cells #[.int .i64 fr] 3 (0, 0)) := (hgr.block pb (blk_lt h1) (hne _ _ _ h1 (by decide))).trans h1
  have b2 : W'.heap[qb]? = some (.cells #[.int .i64 tt] 3 (0, 0)) := (hgr.block qb (blk_lt h2) (hne _ _ _ h2 (by decide))).trans h2
  have b3 : W'.heap[ob]? = some (.cells #[.slice (some ⟨rb, 0, none⟩) N cap] 67 (0, 0)) := (hgr.block ob (blk_lt h3) (hne _ _ _ h3 (by decide))).trans h3
  have b4 : W'.heap[rb]? = some (.cells cur 26 (0, 0)) := (hgr.block rb (blk_lt h4) (hne _ _ _ h4 (by decide))).trans h4
  have hv1 : ∃ A' n' c', v' = .slice A' n' c' := by
    rcases hown'.2 with ⟨rfl, _⟩ | ⟨g, cap', cur', rfl, _⟩ <;> exact ⟨_, _, _, rfl⟩
  have hE1 : Eff base W W' := ⟨⟨hgr.os, hgr.tape, hgr.output, hgr.size, fun k hk => hgr.block k (Nat.lt_of_lt_of_le hk hbW) (fun e => by obtain ⟨hb, _⟩ := ownsRow_block hown e.symm; omega)⟩, hgr.size, fun k c hc => hgr.block k (blk_lt hc) (hne _ _ _ hc (by decide))⟩
  have far : ∀ k, k ≠ rb → (W'.setCell ⟨rb, i, none⟩ v').heap[k]? = W'.heap[k]? := fun k hk => Below.heap_setCell W' ⟨rb, i, none⟩ v' k hk
  have hE2 : Eff base W' (W'.setCell ⟨rb, i, none⟩ v') := ⟨(Below.refl _ _).setCell hbr _, by simp, fun k c hc => far k (ne_typed hc b4 (by decide))⟩
  refine ⟨v', W', hrun, hv1, ⟨(blk_cell b3 0).trans rfl, (blk_cell b1 0).trans rfl, (blk_cell b4 i).trans (by rw [h7 i hi, hvs])⟩, blk_frozen b4 i, ?_, hE1.trans hE2⟩
  refine ⟨(far _ (ne_typed b1 b4 (by decide))).trans b1, (far _ (ne_typed b2 b4 (by decide))).trans b2, (far _ (ne_typed b3 b4 (by decide))).trans b3, cur.setIfInBounds i v', fun k => if k = i then v' else vs k, blk_set b4 i v', by rw [Array.size_setIfInBounds]; exact h5, h6, fun k hk => ?_, fun k hk => ?_, fun j k hj hk hjk g hg => ?_⟩
  · show (cur.setIfInBounds i v')[k]? = some (if k = i then v' else vs k)
    by_cases e : k = i
    · subst e
      rw [if_pos rfl, Array.getElem?_setIfInBounds_self_of_lt (by omega)]
    · rw [if_neg e, Array.getElem?_setIfInBounds_ne (fun h => e h.symm)]
      exact h7 k hk
  · show LotAt base _ (if k = i then v' else vs k) _
    by_cases e : k = i
    · subst e
      have e2 : (done ++ [s]).filter (hasProd (fr + (k : Int))) = done.filter (hasProd (fr + (k : Int))) ++ [s] := by
        rw [List.filter_append]
        have : [s].filter (hasProd (fr + (k : Int))) = [s] := by simp [hs1]
        rw [this]
      rw [if_pos rfl, e2]
      refine ⟨hdrs ++ [hdr], ?_, fun j hh ss hj hss => ?_⟩
      · rw [List.length_append, List.length_singleton]
        refine ownsRow_of_block hown' (fun g hg => far g ?_)
        obtain ⟨_, c2, hc2⟩ := ownsRow_block hown' hg
        exact ne_typed hc2 b4 (by decide)
      · have hlen := hown.1
        rw [Nat.mul_one] at hlen
        have hEE := hE1.trans hE2
        by_cases hjl : j < hdrs.length
        · rw [List.getElem?_append_left hjl] at hj
          rw [List.getElem?_append_left (by omega)] at hss
          exact Eff.R (hrows j hh ss hj hss) hEE
        · rw [List.getElem?_append_right (by omega)] at hj hss
          have hj0 : j - hdrs.length = 0 := by
            have := (List.getElem?_eq_some_iff.1 hj).1
            simp at this
            omega
          rw [hj0] at hj
          rw [← hlen, hj0] at hss
          obtain rfl : hdr = hh := by simpa using hj
          obtain rfl : s = ss := by simpa using hss
          exact Eff.R hR hEE
    · have e2 : (done ++ [s]).filter (hasProd (fr + (k : Int))) = done.filter (hasProd (fr + (k : Int))) := by
        rw [List.filter_append]
        have : [s].filter (hasProd (fr + (k : Int))) = [] := by simp [hs2 k hk e]
        rw [this, List.append_nil]
      rw [if_neg e, e2]
      refine (h8 k hk).move (fun g hg => ?_) (hE1.trans hE2)
      obtain ⟨hdrsk, r1, _⟩ := h8 k hk
      obtain ⟨_, c2, hc2⟩ := ownsRow_block r1 hg
      rw [far g (ne_typed hc2 h4 (by decide))]
      refine hgr.block g (blk_lt hc2) (fun e3 => ?_)
      exact h9 k i hk hi e g hg (by rw [hvs]; exact e3.symm)
  · have hg : (if j = i then v' else vs j).ownBlock = some g := hg
    show (if k = i then v' else vs k).ownBlock ≠ some g
    have key : ∀ k, k < N → k ≠ i → (∀ g, (vs k).ownBlock = some g → v'.ownBlock ≠ some g) := by
      intro k hk hki g hg hv
      rcases hat with e | e
      · exact h9 k i hk hi hki g hg (by rw [hvs, ← e]; exact hv)
      · rw [hv] at e
        obtain ⟨hdrsk, r1, _⟩ := h8 k hk
        obtain ⟨_, c2, hc2⟩ := ownsRow_block r1 hg
        have := blk_lt hc2
        have := Option.some.inj e
        omega
    by_cases ej : j = i
    · rw [if_pos ej] at hg
      rw [if_neg (fun e => hjk (ej.trans e.symm))]
      intro hg2
      exact key k hk (fun e => hjk (ej.trans e.symm)) g hg2 hg
    · rw [if_neg ej] at hg
      by_cases ek : k = i
      · rw [if_pos ek]
        exact key j hj ej g hg
      · rw [if_neg ek]
        exact h9 j k hj hk hjk g hg
theorem one_cells {v : Value} (h : v.oneCell' = true) : v.cells = #[v] := by
  cases v <;> first | rfl | (simp [Value.oneCell'] at h)
set_option maxHeartbeats 8000000 in
set_option maxRecDepth 100000 in
theorem step_lots (base pb qb ob rb : Nat) (fr tt : Int) (N cap : Nat) (hN : (N : Int) = tt - fr + 1) (hbr : base ≤ rb) (h1 : 1 ≤ fr) (h2 : tt ≤ 160000) : StepP base #[.pointer (some ⟨pb, 0, none⟩), .pointer (some ⟨qb, 0, none⟩), .pointer (some ⟨ob, 0, none⟩)] (Lots base pb qb ob rb fr tt N cap) := by
  intro done s W0 W v hI hb hbase h4 ha hd hR
  have hI2 := hI.keep (W' := W) (fun g hg => hb.block g hg) (Eff.of_below hb hbase)
  obtain ⟨A, c, rfl⟩ := Kd.R_slice hR
  obtain ⟨_, hcc, hC⟩ := Kd.R_reads' hR
  have HP0 := Aside0.mk (impl_productOf.calls _ A c s _ W hC hcc (product_is s h4 ha))
  have HBT := Aside0.mk (fun x w => impl_between.calls x fr tt _ w (between_is x fr tt))
  have HD := Aside0.mk hd
  have hZ0 : base ≤ W.heap.size := Nat.le_trans hbase hb.size
  have HR0 := Aside0.mk (Kd.R_lower hR hbase)
  have HL0 := Aside0.mk hI2
  have co0 : ∀ m, (W.drewN m).cell? ⟨ob, 0, none⟩ = some (.slice (some ⟨rb, 0, none⟩) N cap) := fun m => (blk_cell (blk_drewN hI2.ho m) 0).trans rfl
  have cp0 : ∀ m, (W.drewN m).cell? ⟨pb, 0, none⟩ = some (.int .i64 fr) := fun m => (blk_cell (blk_drewN hI2.hp m) 0).trans rfl
  have cq0 : ∀ m, (W.drewN m).cell? ⟨qb, 0, none⟩ = some (.int .i64 tt) := fun m => (blk_cell (blk_drewN hI2.hq m) 0).trans rfl
  obtain ⟨pp, hpp⟩ : ∃ pp, pp = prodL s := ⟨_, rfl⟩
  have HPP := Aside0.mk hpp
  rw [← hpp] at HP0
  clear hI hb hR hI2 hC hpp
  cases hin : decide (fr ≤ pp ∧ pp ≤ tt) with
  | false =>
    have hnin := of_decide_eq_false hin
    have HSK := Aside0.mk (show ∀ k : Nat, k < N → hasProd (fr + (k : Int)) s = false from fun k hk => by
      unfold hasProd
      rw [← HPP.out]
      exact decide_eq_false (by omega))
    have HB1 := Aside0.mk (fun w => (by have h := HBT.out pp w; rw [hin] at h; exact h : Calls Tryz.prog 84 #[.int .i64 pp, .int .i64 fr, .int .i64 tt] w fun e w' => e = .returned (.bool false) ∧ Drawn0 w w'))
    clear hin hnin HBT
    go_enter Tryz.func101, Tryz.ntmps101
    go_wp2_with (first | (go_at_call 53; (with_reducible refine (HP0.out).mono ?_); rintro e w' ⟨rfl, ⟨nd, rfl⟩⟩) | (go_at_call 84; (with_reducible refine (HB1.out _).mono ?_); rintro e w' ⟨rfl, ⟨nd2, rfl⟩⟩))
    (first | go_end0 | ((try simp only [Exit.inBlock, Exit.then]); refine bodyPost_ret (results_none rfl _ _ _) rfl ?_))
    exact ⟨rfl, (HL0.out.skip s HSK.out).keep (fun g hg => rfl) (Eff.of_below (pw_below_drewN (Below.refl _ _) _) hZ0), Eff.of_below (pw_below_drewN (Below.refl _ _) _) hZ0⟩
  | true =>
    have hyes := of_decide_eq_true hin
    have HB1 := Aside0.mk (fun w => (by have h := HBT.out pp w; rw [hin] at h; exact h : Calls Tryz.prog 84 #[.int .i64 pp, .int .i64 fr, .int .i64 tt] w fun e w' => e = .returned (.bool true) ∧ Drawn0 w w'))
    obtain ⟨i, hii⟩ : ∃ i : Nat, pp = fr + (i : Int) := ⟨(pp - fr).toNat, by omega⟩
    have hi : i < N := by omega
    have HS1 := Aside0.mk (show hasProd (fr + (i : Int)) s = true by unfold hasProd; rw [← HPP.out]; exact decide_eq_true hii)
    have HS2 := Aside0.mk (show ∀ k : Nat, k < N → k ≠ i → hasProd (fr + (k : Int)) s = false from fun k hk hki => by
      unfold hasProd
      rw [← HPP.out]
      exact decide_eq_false (by omega))
    obtain ⟨vi, hvi⟩ : ∃ vi, W.cell? ⟨rb, i, none⟩ = some vi := by
      obtain ⟨_, _, _, cur, vs, g4, _, _, g7, _⟩ := HL0.out
      exact ⟨vs i, (blk_cell g4 i).trans (g7 i hi)⟩
    obtain ⟨adr, hadr⟩ : ∃ adr : Addr, adr = ⟨rb, 0, none⟩ := ⟨_, rfl⟩
    have HADR := Aside0.mk hadr
    have HADD := Aside0.mk (show ∀ k, adr.add k = ⟨rb, k, none⟩ from fun k => by first | rw [hadr, add_at, Nat.zero_add] | rw [hadr, add_at])
    rw [← hadr] at co0
    rw [← HADD.out] at hvi
    have hwp : IntKind.i64.wrap (i : Int) = (i : Int) := by rw [IntKind.wrap_i64]; omega
    have p0 : (0 ≤ (i : Int)) = True := eq_true (by omega)
    have q0 : ((i : Int) < (N : Int)) = True := eq_true (by omega)
    have e0 : fr + (i : Int) - fr = (i : Int) := by omega
    rw [hii] at HP0 HB1
    have HNN := Aside0.mk hN
    clear hN
    clear hin hyes HBT hadr hii
    go_enter Tryz.func101, Tryz.ntmps101
    go_wp2_with (first | (go_at_call 53; (with_reducible refine (HP0.out).mono ?_); rintro e w' ⟨rfl, ⟨nd, rfl⟩⟩) | (go_at_call 84; (with_reducible refine (HB1.out _).mono ?_); rintro e w' ⟨rfl, ⟨nd2, rfl⟩⟩))
    have HL := Aside0.mk (HL0.out.keep (W' := (W.drewN (nd + nd2)).drew) (fun g hg => rfl) (Eff.of_below (below_drew1 (pw_below_drewN (Below.refl _ _) _)) hZ0))
    have HZ := Aside0.mk (show base ≤ (W.drewN (nd + nd2)).drew.heap.size from hZ0)
    have HE := Aside0.mk (show Eff base W (W.drewN (nd + nd2)).drew from Eff.of_below (below_drew1 (pw_below_drewN (Below.refl _ _) _)) hZ0)
    have HR := Aside0.mk (Kd.R_drew (Kd.R_drewN HR0.out (nd + nd2)))
    have co3 : (W.drewN (nd + nd2)).drew.cell? ⟨ob, 0, none⟩ = some (.slice (some adr) N cap) := co0 (nd + nd2)
    have cp3 : (W.drewN (nd + nd2)).drew.cell? ⟨pb, 0, none⟩ = some (.int .i64 fr) := cp0 (nd + nd2)
    have cv3 : (W.drewN (nd + nd2)).drew.cell? (adr.add i) = some vi := hvi
    clear co0 cp0 cq0 hvi
    refine start_ (n := 15) (S := fun w' => w'.cell? ⟨ob, 0, none⟩ = some (.slice (some adr) N cap) ∧ w'.cell? ⟨pb, 0, none⟩ = some (.int .i64 fr) ∧ w'.cell? (adr.add i) = some vi) (ds := [14]) #[false, false, false, false, false, false, false, false, false, false, false, false, false, false, false] (by kernel_rfl) rfl rfl ⟨co3, cp3, cv3⟩ (fun hHeld => ?_)
    generalize (W.drewN (nd + nd2)).drew = w17 at HL HZ HE HR co3 cp3 cv3 hHeld ⊢
    refine take_ (i := 0) (N := some 12) (v := ?_) (a' := ?_) #[true, false, false, false, false, false, false, false, false, false, false, false, false, false, false] rfl rfl (by kernel_rfl) (fun _ _ _ h => h) (Or.inl ⟨by rfl, ?_⟩) hHeld ?_ ?_
    rotate_left
    · rintro w' ⟨s0, s1, s2⟩
      go_simp
      with_reducible rfl
    rotate_left
    · simp only [Act.put, List.setIfInBounds_toArray, List.set_cons_zero, List.set_cons_succ, i64_w, i32_w]
      rfl
    refine pure_ (i := 1) (N := some 13) (v := ?_) (a' := ?_) #[true, true, false, false, false, false, false, false, false, false, false, false, false, false, false] rfl rfl (by kernel_rfl) (fun _ _ _ h => h) (Or.inl ⟨by rfl, ?_⟩) ?_ ?_
    rotate_left
    · intro w'
      go_simp
      with_reducible rfl
    rotate_left
    · simp only [Act.put, List.setIfInBounds_toArray, List.set_cons_zero, List.set_cons_succ, i64_w, i32_w]
      rfl
    refine take_ (i := 2) (N := some 14) (v := ?_) (a' := ?_) #[true, true, true, false, false, false, false, false, false, false, false, false, false, false, false] rfl rfl (by kernel_rfl) (fun _ _ _ h => h) (Or.inl ⟨by rfl, ?_⟩) hHeld ?_ ?_
    rotate_left
    · rintro w' ⟨s0, s1, s2⟩
      go_simp
      with_reducible rfl
    rotate_left
    · simp only [Act.put, List.setIfInBounds_toArray, List.set_cons_zero, List.set_cons_succ, i64_w, i32_w]
      rfl
    refine pure_ (i := 3) (N := some 15) (v := ?_) (a' := ?_) #[true, true, true, true, false, false, false, false, false, false, false, false, false, false, false] rfl rfl (by kernel_rfl) (fun _ _ _ h => h) (Or.inl ⟨by rfl, ?_⟩) ?_ ?_
    rotate_left
    · intro w'
      go_simp
      with_reducible rfl
    rotate_left
    · simp only [Act.put, List.setIfInBounds_toArray, List.set_cons_zero, List.set_cons_succ, i64_w, i32_w]
      rfl
    refine take_ (i := 4) (N := some 16) (v := ?_) (a' := ?_) #[true, true, true, true, true, false, false, false, false, false, false, false, false, false, false] rfl rfl (by kernel_rfl) (fun _ _ _ h => h) (Or.inl ⟨by rfl, ?_⟩) hHeld ?_ ?_
    rotate_left
    · rintro w' ⟨s0, s1, s2⟩
      go_simp
      with_reducible rfl
    rotate_left
    · simp only [Act.put, List.setIfInBounds_toArray, List.set_cons_zero, List.set_cons_succ, i64_w, i32_w]
      rfl
    refine pure_ (i := 5) (N := some 17) (v := ?_) (a' := ?_) #[true, true, true, true, true, true, false, false, false, false, false, false, false, false, false] rfl rfl (by kernel_rfl) (fun _ _ _ h => h) (Or.inl ⟨by rfl, ?_⟩) ?_ ?_
    rotate_left
    · intro w'
      go_simp
      with_reducible rfl
    rotate_left
    · simp only [Act.put, List.setIfInBounds_toArray, List.set_cons_zero, List.set_cons_succ, i64_w, i32_w]
      rfl
    refine take_ (i := 6) (N := some 18) (v := ?_) (a' := ?_) #[true, true, true, true, true, true, true, false, false, false, false, false, false, false, false] rfl rfl (by kernel_rfl) (fun _ _ _ h => h) (Or.inl ⟨by rfl, ?_⟩) hHeld ?_ ?_
    rotate_left
    · rintro w' ⟨s0, s1, s2⟩
      go_simp
      with_reducible rfl
    rotate_left
    · simp only [Act.put, List.setIfInBounds_toArray, List.set_cons_zero, List.set_cons_succ, i64_w, i32_w]
      rfl
    refine pure_ (i := 7) (N := some 19) (v := ?_) (a' := ?_) #[true, true, true, true, true, true, true, true, false, false, false, false, false, false, false] rfl rfl (by kernel_rfl) (fun _ _ _ h => h) (Or.inl ⟨by rfl, ?_⟩) ?_ ?_
    rotate_left
    · intro w'
      go_simp
      with_reducible rfl
    rotate_left
    · simp only [Act.put, List.setIfInBounds_toArray, List.set_cons_zero, List.set_cons_succ, i64_w, i32_w]
      rfl
    refine pure_ (i := 8) (N := some 20) (v := ?_) (a' := ?_) #[true, true, true, true, true, true, true, true, true, false, false, false, false, false, false] rfl rfl (by kernel_rfl) (fun _ _ _ h => h) (Or.inl ⟨by rfl, ?_⟩) ?_ ?_
    rotate_left
    · intro w'
      go_simp
      with_reducible rfl
    rotate_left
    · simp only [Act.put, List.setIfInBounds_toArray, List.set_cons_zero, List.set_cons_succ, i64_w, i32_w]
      rfl
    refine take_ (i := 9) (N := some 21) (v := ?_) (a' := ?_) #[true, true, true, true, true, true, true, true, true, true, false, false, false, false, false] rfl rfl (by kernel_rfl) (fun _ _ _ h => h) (Or.inl ⟨by rfl, ?_⟩) hHeld ?_ ?_
    rotate_left
    · rintro w' ⟨s0, s1, s2⟩
      go_simp
      with_reducible rfl
    rotate_left
    · simp only [Act.put, List.setIfInBounds_toArray, List.set_cons_zero, List.set_cons_succ, i64_w, i32_w]
      rfl
    refine pure_ (i := 10) (N := some 22) (v := ?_) (a' := ?_) #[true, true, true, true, true, true, true, true, true, true, true, false, false, false, false] rfl rfl (by kernel_rfl) (fun _ _ _ h => h) (Or.inl ⟨by rfl, ?_⟩) ?_ ?_
    rotate_left
    · intro w'
      go_simp
      with_reducible rfl
    rotate_left
    · simp only [Act.put, List.setIfInBounds_toArray, List.set_cons_zero, List.set_cons_succ, i64_w, i32_w]
      rfl
    refine one_ (i := 11) (N := some 23) #[true, true, true, true, true, true, true, true, true, true, true, true, false, false, false] rfl rfl (by kernel_rfl) (by decide) (fun K hK => ?_)
    refine valHere_ (by rfl) rfl (v := .slice (some ⟨w17.heap.size, 0, none⟩) 1 1) (w1 := w17.alloc (.cells #[.slice A s.length c] 31)) ?_ ?_
    · first | (go_simp; done) | (go_simp; rfl)
    have h18 := (below_alloc (Below.refl w17.heap.size w17) (.cells #[.slice A s.length c] 31))
    have HL18 := Aside0.mk (HL.out.keep (W' := w17.alloc (.cells #[.slice A s.length c] 31)) (fun g hg => h18.block g hg) (Eff.of_below (below_alloc (Below.refl _ _) _) HZ.out))
    refine hK.out _ _ ⟨(h18.cell (World.block_lt_of_cell? _ _ hHeld.1)).trans hHeld.1, (h18.cell (World.block_lt_of_cell? _ _ hHeld.2.1)).trans hHeld.2.1, (h18.cell (World.block_lt_of_cell? _ _ hHeld.2.2)).trans hHeld.2.2⟩ (fun hHeld => ?_)
    clear hK K
    refine norm_ (a' := ?_) ?_ ?_
    rotate_left
    · show Act.put _ (some 23) _ = _
      simp only [Act.put, List.setIfInBounds_toArray, List.set_cons_zero, List.set_cons_succ, i64_w, i32_w]
      rfl
    obtain ⟨v', w19, hrun, ⟨A', n', c', rfl⟩, hS19, hfz, hL19, hE19⟩ := HL18.out.append hbr HD.out i hi vi (by have h := hHeld.2.2; rw [HADD.out] at h; exact h) s (.slice A s.length c) rfl (Kd.R_alloc HR.out _) ⟨w17.heap.size, 0, none⟩ (cell_one_new _ _ _) HS1.out HS2.out
    rw [← HADR.out] at hS19
    rw [← HADD.out i] at hS19 hfz hL19 hE19
    have HL19 := Aside0.mk hL19
    have HE19 := Aside0.mk hE19
    clear hL19 hE19
    refine one_ (i := 12) (N := some 24) #[true, true, true, true, true, true, true, true, true, true, true, true, true, false, false] rfl rfl (by kernel_rfl) (by decide) (fun K hK => ?_)
    refine appHere_ (by rfl) rfl (.tmp 21) (.tmp 23) 26 26 rfl rfl (by rfl) (by rfl) hrun ?_
    refine hK.out _ _ hS19 (fun hHeld => ?_)
    clear hK K
    refine norm_ (a' := ?_) ?_ ?_
    rotate_left
    · show Act.put _ (some 24) _ = _
      simp only [Act.put, List.setIfInBounds_toArray, List.set_cons_zero, List.set_cons_succ, i64_w, i32_w]
      rfl
    refine pure_ (i := 13) (N := some 25) (v := ?_) (a' := ?_) #[true, true, true, true, true, true, true, true, true, true, true, true, true, true, false] rfl rfl (by kernel_rfl) (fun _ _ _ h => h) (Or.inl ⟨by rfl, ?_⟩) ?_ ?_
    rotate_left
    · intro w'
      go_simp
      with_reducible rfl
    rotate_left
    · simp only [Act.put, List.setIfInBounds_toArray, List.set_cons_zero, List.set_cons_succ, i64_w, i32_w]
      rfl
    have hc20 := hHeld.2.2
    refine last_ (i := 14) (N := none) #[true, true, true, true, true, true, true, true, true, true, true, true, true, true, true] rfl rfl (by kernel_rfl) (by decide) (fun K hK => ?_)
    refine storHere_ (by rfl) rfl (w1 := ?_) ?_ ?_
    rotate_left
    · go_simp
      rfl
    refine hK.out _ _ ?_
    clear hK K
    refine norm_ (a' := ?_) ?_ ?_
    rotate_left
    · show Act.put _ none _ = _
      simp only [Act.put]
      rfl
    refine done_ (by kernel_rfl) ?_
    clear co3 cp3 cv3 hHeld
    (first | go_end0 | ((try simp only [Exit.inBlock, Exit.then]); refine bodyPost_ret (results_none rfl _ _ _) rfl ?_))
    exact ⟨rfl, HL19.out, (HE.out.trans (Eff.of_below (below_alloc (Below.refl _ _) _) HZ.out)).trans HE19.out⟩
def nilEnc : Unit → Value := fun _ => .slice none 0 0
theorem infoOut : (Tryz.prog.info? 26).map (fun i => (i.zero, i.size, i.bytes)) = some (some (.slice none 0 0), 1, 24) := by kernel_rfl
theorem made_nils {w : World} {base n : Nat} {ok : Nat → Prop} {v : Value} (hn : 0 < n) (h : (Kd.scalar nilEnc (fun _ => rfl)).R 26 w base ok v (List.replicate n ())) : ∃ g cap cur, v = .slice (some ⟨g, 0, none⟩) n cap ∧ base ≤ g ∧ n ≤ cap ∧ w.heap[g]? = some (.cells cur 26 (0, 0)) ∧ cur.size = cap ∧ ∀ k, k < n → cur[k]? = some (.slice none 0 0) := by
  have ho := Kd.own_of_R h
  rcases ho.2 with ⟨rfl, e⟩ | ⟨g, cap, cur, e, hb, hg, hnc, hcm, hsz, htk⟩
  · rw [List.length_replicate] at e
    omega
  · rw [List.length_replicate] at e hnc htk
    rw [Nat.mul_one] at htk hsz
    refine ⟨g, cap, cur, e, hb, hnc, hg, hsz, fun k hk => ?_⟩
    have := congrArg (fun l => l[k]?) htk
    simp only [List.getElem?_take, if_pos hk, Array.getElem?_toList] at this
    rw [this]
    simp [encs, List.getElem?_map, List.getElem?_replicate, hk, nilEnc]
def lotsOk (c fr tt : Int) : Bool := decide (1 ≤ c ∧ c ≤ 4) && (decide (1 ≤ fr ∧ fr ≤ 160000) && (decide (fr ≤ tt ∧ tt ≤ 160000) && decide (tt - fr ≤ 1000)))
theorem isProduct_is (c : Int) : impl_isProduct.f c = some (decide (1 ≤ c ∧ c ≤ 160000)) := by unfold impl_isProduct.f; rw [between_is]; rfl
set_option maxHeartbeats 8000000 in
theorem products_no (c fr tt : Int) (hno : lotsOk c fr tt = false) (W : World) : Calls Tryz.prog 72 #[.int .i64 c, .int .i64 fr, .int .i64 tt] W fun e w' => e = .returned (.tuple #[.slice none 0 0, .bool false]) ∧ Below W.heap.size W w' := by
  have HA := Aside0.mk (fun w => impl_areChildren.calls c _ w (impl_areChildren.is_ c))
  have HP := Aside0.mk (fun w => impl_isProduct.calls fr _ w (isProduct_is fr))
  have HBT := Aside0.mk (fun w => impl_between.calls tt fr 160000 _ w (between_is tt fr 160000))
  unfold lotsOk at hno
  have hfin : ∀ n, Below W.heap.size W (((W.alloc (.cells #[.int .i64 fr] 3)).alloc (.cells #[.int .i64 tt] 3)).drewN n) := fun n => pw_below_drewN (((Below.refl _ _).alloc (Nat.le_refl _) _).alloc (by simp) _) _
  cases h1 : decide (1 ≤ c ∧ c ≤ 4) with
  | false =>
    rw [h1] at HA
    clear hno h1
    go_enter Tryz.func72, Tryz.ntmps72
    go_wp2_with (go_at_call 49; (with_reducible refine (HA.out _).mono ?_); rintro e w' ⟨rfl, ⟨nd, rfl⟩⟩)
    go_ret2
    exact ⟨rfl, hfin _⟩
  | true =>
    cases h2 : decide (1 ≤ fr ∧ fr ≤ 160000) with
    | false =>
      rw [h1] at HA
      rw [h2] at HP
      clear hno h1 h2
      go_enter Tryz.func72, Tryz.ntmps72
      go_wp2_with (first | (go_at_call 49; (with_reducible refine (HA.out _).mono ?_); rintro e w' ⟨rfl, ⟨nd, rfl⟩⟩) | (go_at_call 50; (with_reducible refine (HP.out _).mono ?_); rintro e w' ⟨rfl, ⟨nd2, rfl⟩⟩))
      go_ret2
      exact ⟨rfl, hfin _⟩
    | true =>
      cases h3 : decide (fr ≤ tt ∧ tt ≤ 160000) with
      | false =>
        rw [h1] at HA
        rw [h2] at HP
        rw [h3] at HBT
        clear hno h1 h2 h3
        go_enter Tryz.func72, Tryz.ntmps72
        go_wp2_with (first | (go_at_call 49; (with_reducible refine (HA.out _).mono ?_); rintro e w' ⟨rfl, ⟨nd, rfl⟩⟩) | (go_at_call 50; (with_reducible refine (HP.out _).mono ?_); rintro e w' ⟨rfl, ⟨nd2, rfl⟩⟩) | (go_at_call 84; (with_reducible refine (HBT.out _).mono ?_); rintro e w' ⟨rfl, ⟨nd3, rfl⟩⟩))
        go_ret2
        exact ⟨rfl, hfin _⟩
      | true =>
        rw [h1, h2, h3] at hno
        simp only [Bool.true_and] at hno
        have k2 := of_decide_eq_true h2
        have k3 := of_decide_eq_true h3
        have hd : decide (tt - fr > 1000) = true := decide_eq_true (by have := of_decide_eq_false hno; omega)
        rw [h1] at HA
        rw [h2] at HP
        rw [h3] at HBT
        clear hno h1 h2 h3
        go_enter Tryz.func72, Tryz.ntmps72
        go_wp2_with (first | (go_at_call 49; (with_reducible refine (HA.out _).mono ?_); rintro e w' ⟨rfl, ⟨nd, rfl⟩⟩) | (go_at_call 50; (with_reducible refine (HP.out _).mono ?_); rintro e w' ⟨rfl, ⟨nd2, rfl⟩⟩) | (go_at_call 84; (with_reducible refine (HBT.out _).mono ?_); rintro e w' ⟨rfl, ⟨nd3, rfl⟩⟩))
        go_ret2
        exact ⟨rfl, hfin _⟩
set_option maxHeartbeats 8000000 in
theorem products_yes (c fr tt : Int) (hyes : lotsOk c fr tt = true) (W : World) : Calls Tryz.prog 72 #[.int .i64 c, .int .i64 fr, .int .i64 tt] W fun e w' => ∃ rb cap, e = .returned (.tuple #[.slice (some ⟨rb, 0, none⟩) (tt - fr + 1).toNat cap, .bool true]) ∧ (∃ pb qb ob, Lots W.heap.size pb qb ob rb fr tt (tt - fr + 1).toNat cap (allSets c.toNat []) w') ∧ Below W.heap.size W w' := by
  have HA := Aside0.mk (fun w => impl_areChildren.calls c _ w (impl_areChildren.is_ c))
  have HP := Aside0.mk (fun w => impl_isProduct.calls fr _ w (isProduct_is fr))
  have HBT := Aside0.mk (fun w => impl_between.calls tt fr 160000 _ w (between_is tt fr 160000))
  unfold lotsOk at hyes
  obtain ⟨h1, hyes⟩ := Bool.and_eq_true_iff.1 hyes
  obtain ⟨h2, hyes⟩ := Bool.and_eq_true_iff.1 hyes
  obtain ⟨h3, h4⟩ := Bool.and_eq_true_iff.1 hyes
  rw [h1] at HA
  rw [h2] at HP
  rw [h3] at HBT
  have k1 := of_decide_eq_true h1
  have k2 := of_decide_eq_true h2
  have k3 := of_decide_eq_true h3
  have k4 := of_decide_eq_true h4
  have hd : decide (tt - fr > 1000) = false := decide_eq_false (by omega)
  obtain ⟨N, hN⟩ : ∃ N : Nat, N = (tt - fr + 1).toNat := ⟨_, rfl⟩
  rw [← hN]
  have hNI : (N : Int) = tt - fr + 1 := by omega
  have hmk : tt - fr + 1 = (N : Int) := hNI.symm
  have HNI := Aside0.mk hNI
  have HK := Aside0.mk (show 1 ≤ c ∧ c ≤ 4 from k1)
  have HSETS := Aside0.mk (fun (pb qb ob rb cap : Nat) (hbr : W.heap.size ≤ rb) (W' : World) (hL : Lots W.heap.size pb qb ob rb fr tt N cap [] W') =>
    setsP_calls W.heap.size #[.pointer (some ⟨pb, 0, none⟩), .pointer (some ⟨qb, 0, none⟩), .pointer (some ⟨ob, 0, none⟩)] (Lots W.heap.size pb qb ob rb fr tt N cap) (step_lots W.heap.size pb qb ob rb fr tt N cap hNI hbr k2.1 k3.2)
      (Lots.below (fun w done h => by obtain ⟨_, _, _, cur, vs, g4, _⟩ := h; exact Nat.le_trans hbr (Nat.le_of_lt (blk_lt g4)))) c.toNat c.toNat [] (.slice none 0 0) [] W' W' (by simp) (by omega) (fun x hx => by simp at hx) hL (Below.refl _ _)
      (by obtain ⟨_, _, _, cur, vs, g4, _⟩ := hL; exact Nat.le_trans hbr (Nat.le_of_lt (blk_lt g4))) (by have h1 : 20 ^ c.toNat ≤ 20 ^ 4 := Nat.pow_le_pow_right (by omega) (by omega); simp; omega) (Kd.R_nil _ _ _ _ _))
  rw [Int.toNat_of_nonneg (by omega)] at HSETS
  clear hN h1 h2 h3 h4 hyes hNI k1
  go_enter Tryz.func72, Tryz.ntmps72
  go_wp2_with (first | (go_at_call 49; (with_reducible refine (HA.out _).mono ?_); rintro e w' ⟨rfl, ⟨nd, rfl⟩⟩) | (go_at_call 50; (with_reducible refine (HP.out _).mono ?_); rintro e w' ⟨rfl, ⟨nd2, rfl⟩⟩) | (go_at_call 84; (with_reducible refine (HBT.out _).mono ?_); rintro e w' ⟨rfl, ⟨nd3, rfl⟩⟩) | ((with_reducible refine gate_dst (N := 33) rfl ?_); refine Kd.R_make (Kd.scalar nilEnc (fun _ => rfl)) (w0 := ((W.alloc (.cells #[.int .i64 fr] 3)).alloc (.cells #[.int .i64 tt] 3)).drewN (nd + nd2 + nd3)) (((W.alloc (.cells #[.int .i64 fr] 3)).alloc (.cells #[.int .i64 tt] 3)).drewN (nd + nd2 + nd3)).heap.size 26 rfl (N := 33) rfl 67 _ _ rfl N rfl rfl Tryz.underlying67 (.slice none 0 0) 24 infoOut rfl (by decide) (by decide) () (ok := fun _ => True) (okp := fun _ => True) ?hz (fun _ hk => hk) trivial (by omega) (by omega) (Below.refl _ _) (Nat.le_refl _) ?_; (case hz => exact rfl); intro v3 w3 ho3 hb hg_ hnew_; obtain ⟨g, cap, cur, rfl, hgb, hNc, hgc, hcs, hnil⟩ := made_nils (by omega) ho3; have HP3 := Aside0.mk (show w3.heap[W.heap.size]? = some (.cells #[.int .i64 fr] 3 (0, 0)) from blk_below (blk_drewN (blk_alloc (blk_new W _) _) _) hb); have HQ3 := Aside0.mk (show w3.heap[W.heap.size + 1]? = some (.cells #[.int .i64 tt] 3 (0, 0)) by have h := blk_below (blk_drewN (blk_new (W.alloc (.cells #[.int .i64 fr] 3)) (.cells #[.int .i64 tt] 3)) _) hb; simpa using h); have HGB := Aside0.mk (show W.heap.size ≤ g by have h := hgb; simp at h; omega); have HB3 := Aside0.mk (show Below W.heap.size W w3 from below_then (pw_below_drewN (((Below.refl _ _).alloc (Nat.le_refl _) _).alloc (by simp) _) _) (by simp; omega) hb); have HNC := Aside0.mk hNc; have HGC := Aside0.mk hgc; have HCS := Aside0.mk hcs; have HNIL := Aside0.mk hnil; clear ho3 hb hg_ hnew_ hgb hNc hgc hcs hnil) | (go_at_call 85; (with_reducible refine (HSETS.out W.heap.size (W.heap.size + 1) w3.heap.size g cap HGB.out _ ?hL).mono ?_); (case hL => exact ⟨blk_alloc HP3.out _, blk_alloc HQ3.out _, blk_new w3 _, cur, fun _ => .slice none 0 0, blk_alloc HGC.out _, HCS.out, HNC.out, HNIL.out, fun k hk => ⟨[], World.ownsRow_nil _ _ _ _, fun j h s hj => by simp at hj⟩, fun j k _ _ _ g hg => by simp [Value.ownBlock] at hg⟩); rintro e w5 ⟨rfl, hL, hE⟩; have HL5 := Aside0.mk hL; have HE5 := Aside0.mk hE; have hc5 : w5.cell? ⟨w3.heap.size, 0, none⟩ = some (.slice (some ⟨g, 0, none⟩) N cap) := (blk_cell HL5.out.ho 0).trans rfl; clear hL hE))
  go_ret2
  exact ⟨g, cap, rfl, ⟨_, _, _, HL5.out⟩, (HB3.out.alloc HB3.out.size _).trans HE5.out.low⟩

end Go.Proofs.YtlbnhjeblknepaaGreat.E
