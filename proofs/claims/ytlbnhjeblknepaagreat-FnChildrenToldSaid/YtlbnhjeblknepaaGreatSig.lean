
import Derived.WalkKit
import Derived.Laws.Tables
import Derived.Laws.Rows
import Derived.Laws.CopyOwn
import Derived.Deep.LoopGhost
import Derived.Test.YtlbnhjeblknepaaGreatWm
namespace Go.Proofs.YtlbnhjeblknepaaGreat.Sg
open Go.RowKit Go.Proofs.YtlbnhjeblknepaaGreatW.PrintWords Go.Proofs.YtlbnhjeblknepaaGreatW.PrintLast
set_option linter.unusedVariables false
set_option linter.unusedSimpArgs false
abbrev Fr := Nat → Value
def upd (σ : Fr) (d : Nat) (v : Value) : Fr := fun i => if i = d then v else σ i
def mix (m : Nat) (σ τ : Fr) : Fr := fun i => if i < m then σ i else τ i
def fr (n : Nat) (σ : Fr) : Act := ⟨Array.ofFn (n := n) fun i => σ i.val, []⟩
theorem fr_at {n i : Nat} {σ : Fr} (h : i < n) : (fr n σ).tmps[i]? = some (σ i) := by simp [fr, h]
theorem fr_getD {n i : Nat} {σ : Fr} (h : i < n) : (fr n σ).tmps.getD i undef = σ i := by simp [fr, h]
theorem fr_put {n d : Nat} {σ : Fr} {v : Value} : (fr n σ).put (some d) v = fr n (upd σ d v) := by
  simp only [fr, Act.put, Act.mk.injEq, and_true]
  apply Array.ext_getElem?
  intro i
  simp only [Array.getElem?_setIfInBounds, Array.getElem?_ofFn, upd, Array.size_ofFn]
  by_cases h : d = i
  · subst h
    by_cases h2 : d < n <;> simp [h2]
  · have h' : ¬ i = d := fun e => h e.symm
    by_cases h2 : i < n <;> simp [h, h', h2]
theorem enter {as : Array Value} {k n : Nat} (h : as.size + k = n) : ({ tmps := as ++ Array.replicate k undef, defers := [] } : Act) = fr n (fun i => as.getD i undef) := by
  subst h
  simp only [fr, Act.mk.injEq, and_true]
  apply Array.ext_getElem?
  intro i
  simp only [Array.getElem?_append, Array.getElem?_replicate, Array.getElem?_ofFn]
  by_cases h : i < as.size
  · simp [h, show i < as.size + k by omega]
  · by_cases h2 : i < as.size + k
    · simp [h, h2, show i - as.size < k by omega]
    · simp [h, h2, show ¬ i - as.size < k by omega]
theorem to_mix {n m : Nat} {σ : Fr} : fr n σ = fr n (mix m σ σ) := by
  have : mix m σ σ = σ := by funext i; simp [mix]
  rw [this]
def Put (n : Nat) (σ : Fr) (d : Option Nat) (v : Value) (σ' : Fr) : Prop := (fr n σ).put d v = fr n σ'
theorem ps {n m d : Nat} {σ τ : Fr} {v : Value} (h : Nat.ble m d = true) : Put n (mix m σ τ) (some d) v (mix m σ (upd τ d v)) := by
  have h' := Nat.le_of_ble_eq_true h
  unfold Put
  rw [fr_put]
  congr 1
  funext i
  simp only [upd, mix]
  by_cases h1 : i = d
  · subst h1; rw [if_pos rfl, if_neg (by omega), if_pos rfl]
  · rw [if_neg h1, if_neg h1]
theorem pn {n m d : Nat} {σ τ : Fr} {v : Value} (h : Nat.blt d m = true) : Put n (mix m σ τ) (some d) v (mix m (upd σ d v) τ) := by
  have h' : d < m := Nat.le_of_ble_eq_true h
  unfold Put
  rw [fr_put]
  congr 1
  funext i
  simp only [upd, mix]
  by_cases h1 : i = d
  · subst h1; rw [if_pos rfl, if_pos h', if_pos rfl]
  · rw [if_neg h1, if_neg h1]
def Rd (n : Nat) (σ : Fr) (x : Operand) (v : Value) : Prop := (fr n σ).eval x = v
theorem rs {n s : Nat} {σ : Fr} {v : Value} (h : Nat.blt s n = true) (hs : σ s = v) : Rd n σ (.tmp s) v := by
  have h' : s < n := Nat.le_of_ble_eq_true h
  show (fr n σ).tmps.getD s undef = v
  rw [fr_getD h', hs]
theorem rc {n : Nat} {σ : Fr} {v : Value} : Rd n σ (.const v) v := rfl
def On (n : Nat) (σ : Fr) (ops : Array Oper) (g : Option (Nat × Bool)) : Prop := match g with | none => True | some (j, b) => yielded ops (fr n σ).tmps j = some b
def dstAt : List Oper → Nat → Option Nat
  | [], _ => none
  | o :: _, 0 => o.dst
  | _ :: l, j + 1 => dstAt l j
theorem dstAt_eq (l : List Oper) : ∀ j, (l.toArray[j]?).bind (·.dst) = dstAt l j := by
  induction l with
  | nil => intro j; simp [dstAt]
  | cons o l ih =>
    intro j
    cases j with
    | zero => simp [dstAt]
    | succ j => have := ih j; simpa [dstAt] using this
theorem yl {n d : Nat} {σ : Fr} {l : List Oper} {j : Nat} {b : Bool} (hj : dstAt l j = some d) (h : Nat.blt d n = true) (hs : σ d = .bool b) : yielded l.toArray (fr n σ).tmps j = some b := by
  have h' : d < n := Nat.le_of_ble_eq_true h
  have hj : (l.toArray[j]?).bind (·.dst) = some d := (dstAt_eq l j).trans hj
  unfold yielded
  rw [hj]
  show (match (fr n σ).tmps[d]? with | some (.bool b) => some b | _ => none) = some b
  rw [fr_at h', hs]
theorem w0 {n : Nat} {σ : Fr} {ops : Array Oper} : On n σ ops none := trivial
theorem wy {n d : Nat} {σ : Fr} {l : List Oper} {j : Nat} {b : Bool} (hj : dstAt l j = some d) (h : Nat.blt d n = true) (hs : σ d = .bool b) : On n σ l.toArray (some (j, b)) := yl hj h hs
theorem On.wanted {n : Nat} {σ : Fr} {ops : Array Oper} {o : Oper} (h : On n σ ops o.guard) : Region.wanted o (yielded ops (fr n σ).tmps) = true := by
  unfold Region.wanted
  cases hg : o.guard with
  | none => rfl
  | some p =>
    obtain ⟨j, b⟩ := p
    rw [hg] at h
    show (yielded ops (fr n σ).tmps j == some b) = true
    rw [show yielded ops (fr n σ).tmps j = some b from h]
    simp
structure WL (P : Program) (ops : Array Oper) (Q : Exit → Act → World → Prop) (l : List Oper) (a : Act) (w : World) : Prop where mk :: (out : wpList P ops Q l a w)
section
variable {P : Program} {ops : Array Oper} {Q : Exit → Act → World → Prop} {K : Act → World → Prop} {rest : List Oper} {w w' : World} {n m : Nat} {σ σ' τ : Fr} {x y z : Operand} {v v1 v2 v3 : Value} {vs : Array Value} {t : TypeId} {p : String} {af : Array Edge} {g : Option (Nat × Bool)} {d : Option Nat}
theorem val {o : Oper} (hw : On n σ ops o.guard := by exact True.intro) (hx : (execOp (fr n σ).eval o).run P w = .ok (.value v) w') (hp : Put n σ o.dst v σ' := by first | exact Go.Proofs.YtlbnhjeblknepaaGreat.Sg.ps rfl | exact Go.Proofs.YtlbnhjeblknepaaGreat.Sg.pn rfl) (h : WL P ops Q rest (fr n σ') w') : WL P ops Q (o :: rest) (fr n σ) w :=
  ⟨wpList_step fun K hK => by
    rw [if_pos hw.wanted]
    unfold Oper.wp
    rw [hx, Oper.upon_value, hp]
    exact hK _ _ h.out⟩
theorem off {op : Op} {d : Nat} {j : Nat} {b b' : Bool} (hw : yielded ops (fr n σ).tmps j = some b') (hb : (b' == b) = false) (hp : Put n σ (some d) undef σ' := by first | exact Go.Proofs.YtlbnhjeblknepaaGreat.Sg.ps rfl | exact Go.Proofs.YtlbnhjeblknepaaGreat.Sg.pn rfl) (h : WL P ops Q rest (fr n σ') w) :
    WL P ops Q ({ dst := some d, op := op, type := t, pos := p, after := af, guard := some (j, b) } :: rest) (fr n σ) w :=
  ⟨wpList_step fun K hK => by
    rw [if_neg (by unfold Region.wanted; show ¬ (yielded ops (fr n σ).tmps j == some b) = true; rw [hw]; revert hb; cases b <;> cases b' <;> decide)]
    show K ((fr n σ).put (some d) undef) w
    rw [hp]
    exact hK _ _ h.out⟩
theorem mv (hw : On n σ ops g := by exact True.intro) (hs : Rd n σ x v := by first | exact Go.Proofs.YtlbnhjeblknepaaGreat.Sg.rs rfl rfl | exact Go.Proofs.YtlbnhjeblknepaaGreat.Sg.rc) (hp : Put n σ d v σ' := by first | exact Go.Proofs.YtlbnhjeblknepaaGreat.Sg.ps rfl | exact Go.Proofs.YtlbnhjeblknepaaGreat.Sg.pn rfl) (h : WL P ops Q rest (fr n σ') w) : WL P ops Q ({ dst := d, op := .move x, type := t, pos := p, after := af, guard := g } :: rest) (fr n σ) w :=
  val (v := v) hw (by show Result.ok (Next.value ((fr n σ).eval x)) w = _; rw [hs]) hp h
theorem asg (hw : On n σ ops g := by exact True.intro) (hs : Rd n σ x v := by first | exact Go.Proofs.YtlbnhjeblknepaaGreat.Sg.rs rfl rfl | exact Go.Proofs.YtlbnhjeblknepaaGreat.Sg.rc) (hp : Put n σ d v σ' := by first | exact Go.Proofs.YtlbnhjeblknepaaGreat.Sg.ps rfl | exact Go.Proofs.YtlbnhjeblknepaaGreat.Sg.pn rfl) (h : WL P ops Q rest (fr n σ') w) : WL P ops Q ({ dst := d, op := .assign x, type := t, pos := p, after := af, guard := g } :: rest) (fr n σ) w :=
  val (v := v) hw (by show Result.ok (Next.value ((fr n σ).eval x)) w = _; rw [hs]) hp h
theorem ext {k : Nat} (hw : On n σ ops g := by exact True.intro) (hs : Rd n σ x (.tuple vs) := by first | exact Go.Proofs.YtlbnhjeblknepaaGreat.Sg.rs rfl rfl | exact Go.Proofs.YtlbnhjeblknepaaGreat.Sg.rc) (hv : vs[k]? = some v := by rfl) (hp : Put n σ d v σ' := by first | exact Go.Proofs.YtlbnhjeblknepaaGreat.Sg.ps rfl | exact Go.Proofs.YtlbnhjeblknepaaGreat.Sg.pn rfl) (h : WL P ops Q rest (fr n σ') w) : WL P ops Q ({ dst := d, op := .extract x k, type := t, pos := p, after := af, guard := g } :: rest) (fr n σ) w :=
  val (v := v) hw (by unfold execOp; simp only [show (fr n σ).eval x = .tuple vs from hs]; simp [go_sem, Instr.extract, hv]) hp h
theorem pk {b : Bool} (hw : On n σ ops g := by exact True.intro) (hs : Rd n σ x (.bool b) := by first | exact Go.Proofs.YtlbnhjeblknepaaGreat.Sg.rs rfl rfl | exact Go.Proofs.YtlbnhjeblknepaaGreat.Sg.rc) (hv : Rd n σ (if b then y else z) v := by first | exact Go.Proofs.YtlbnhjeblknepaaGreat.Sg.rs rfl rfl | exact Go.Proofs.YtlbnhjeblknepaaGreat.Sg.rc) (hp : Put n σ d v σ' := by first | exact Go.Proofs.YtlbnhjeblknepaaGreat.Sg.ps rfl | exact Go.Proofs.YtlbnhjeblknepaaGreat.Sg.pn rfl) (h : WL P ops Q rest (fr n σ') w) : WL P ops Q ({ dst := d, op := .pick x y z, type := t, pos := p, after := af, guard := g } :: rest) (fr n σ) w :=
  val (v := v) hw (by
    unfold execOp; simp only [show (fr n σ).eval x = .bool b from hs]
    have hv' : (fr n σ).eval (if b then y else z) = v := hv
    cases b <;> simp [go_sem, asBool] at hv' ⊢ <;> exact hv') hp h
theorem nt {b : Bool} {t1 : TypeId} (hw : On n σ ops g := by exact True.intro) (hs : Rd n σ x (.bool b) := by first | exact Go.Proofs.YtlbnhjeblknepaaGreat.Sg.rs rfl rfl | exact Go.Proofs.YtlbnhjeblknepaaGreat.Sg.rc) (hp : Put n σ d (.bool (!b)) σ' := by first | exact Go.Proofs.YtlbnhjeblknepaaGreat.Sg.ps rfl | exact Go.Proofs.YtlbnhjeblknepaaGreat.Sg.pn rfl) (h : WL P ops Q rest (fr n σ') w) : WL P ops Q ({ dst := d, op := .unOp .not t1 x, type := t, pos := p, after := af, guard := g } :: rest) (fr n σ) w :=
  val (v := .bool (!b)) hw (by unfold execOp; simp only [show (fr n σ).eval x = .bool b from hs]; simp [go_sem]) hp h
theorem len {A : Option Addr} {l c : Nat} {t1 e : TypeId} (hu : P.underlying t1 = some (.slice e)) (hw : On n σ ops g := by exact True.intro) (hs : Rd n σ x (.slice A l c) := by first | exact Go.Proofs.YtlbnhjeblknepaaGreat.Sg.rs rfl rfl | exact Go.Proofs.YtlbnhjeblknepaaGreat.Sg.rc) (hp : Put n σ d (.int .i64 (l : Int)) σ' := by first | exact Go.Proofs.YtlbnhjeblknepaaGreat.Sg.ps rfl | exact Go.Proofs.YtlbnhjeblknepaaGreat.Sg.pn rfl) (h : WL P ops Q rest (fr n σ') w) :
    WL P ops Q ({ dst := d, op := .call { callee := .builtin .len, args := #[x], argTypes := #[t1] }, type := t, pos := p, after := af, guard := g } :: rest) (fr n σ) w :=
  val (v := .int .i64 (l : Int)) hw (by
    have hs' : (fr n σ).eval x = .slice A l c := hs
    unfold execOp
    simp only [resolve, List.map_toArray, List.map_cons, List.map_nil, hs']
    simp [go_sem, invoke, Builtin.len_, run_underlying hu]) hp h
theorem bin {op : BinOp} {t1 t2 : TypeId} (hw : On n σ ops g := by exact True.intro) (hx : Rd n σ x v1 := by first | exact Go.Proofs.YtlbnhjeblknepaaGreat.Sg.rs rfl rfl | exact Go.Proofs.YtlbnhjeblknepaaGreat.Sg.rc) (hy : Rd n σ y v2 := by first | exact Go.Proofs.YtlbnhjeblknepaaGreat.Sg.rs rfl rfl | exact Go.Proofs.YtlbnhjeblknepaaGreat.Sg.rc) (hv : ∀ w x' y' , ((eqGuard op t1 x' y' v1 v2 >>= fun _ => binOp op t1 v1 v2) : Sem Value).run P w = .ok v3 w) (hp : Put n σ d v3 σ' := by first | exact Go.Proofs.YtlbnhjeblknepaaGreat.Sg.ps rfl | exact Go.Proofs.YtlbnhjeblknepaaGreat.Sg.pn rfl) (h : WL P ops Q rest (fr n σ') w) :
    WL P ops Q ({ dst := d, op := .binOp op t1 x y t2, type := t, pos := p, after := af, guard := g } :: rest) (fr n σ) w :=
  val (v := v3) hw (by
    unfold execOp
    simp only [show (fr n σ).eval x = v1 from hx, show (fr n σ).eval y = v2 from hy]
    have := hv w x y
    simp only [Sem.run_bind] at this ⊢
    revert this
    cases h1 : (eqGuard op t1 x y v1 v2).run P w with
    | ok _ w1 => simp only [Result.andThen_ok]; intro this; rw [this]; rfl
    | halt => intro this; cases this) hp h
theorem bneq {a b c : Bool} {t1 t2 : TypeId} (hu : P.underlying t1 = some .bool) (hw : On n σ ops g := by exact True.intro) (hx : Rd n σ x (.bool a) := by first | exact Go.Proofs.YtlbnhjeblknepaaGreat.Sg.rs rfl rfl | exact Go.Proofs.YtlbnhjeblknepaaGreat.Sg.rc) (hy : Rd n σ y (.bool b) := by first | exact Go.Proofs.YtlbnhjeblknepaaGreat.Sg.rs rfl rfl | exact Go.Proofs.YtlbnhjeblknepaaGreat.Sg.rc) (hc : (a != b) = c := by first | rfl | simp) (hp : Put n σ d (.bool c) σ' := by first | exact Go.Proofs.YtlbnhjeblknepaaGreat.Sg.ps rfl | exact Go.Proofs.YtlbnhjeblknepaaGreat.Sg.pn rfl) (h : WL P ops Q rest (fr n σ') w) :
    WL P ops Q ({ dst := d, op := .binOp .neq t1 x y t2, type := t, pos := p, after := af, guard := g } :: rest) (fr n σ) w :=
  bin hw hx hy (fun w x' y' => by subst hc; simp [go_sem, eqGuard, binOp, Op.equal, Op.maxDepth, run_equalIn_bool _ _ _ _ _ hu, bne]) hp h
theorem ineq {a b : Int} {c : Bool} {t1 t2 : TypeId} (hw : On n σ ops g := by exact True.intro) (hx : Rd n σ x (.int .i64 a) := by first | exact Go.Proofs.YtlbnhjeblknepaaGreat.Sg.rs rfl rfl | exact Go.Proofs.YtlbnhjeblknepaaGreat.Sg.rc) (hy : Rd n σ y (.int .i64 b) := by first | exact Go.Proofs.YtlbnhjeblknepaaGreat.Sg.rs rfl rfl | exact Go.Proofs.YtlbnhjeblknepaaGreat.Sg.rc) (hc : (a ≠ b) ↔ c = true := by simp) (hp : Put n σ d (.bool c) σ' := by first | exact Go.Proofs.YtlbnhjeblknepaaGreat.Sg.ps rfl | exact Go.Proofs.YtlbnhjeblknepaaGreat.Sg.pn rfl) (h : WL P ops Q rest (fr n σ') w) :
    WL P ops Q ({ dst := d, op := .binOp .neq t1 x y t2, type := t, pos := p, after := af, guard := g } :: rest) (fr n σ) w :=
  bin hw hx hy (fun w x' y' => by cases c <;> simp_all [go_sem, eqGuard, binOp]) hp h
theorem ieql {a b : Int} {c : Bool} {t1 t2 : TypeId} (hw : On n σ ops g := by exact True.intro) (hx : Rd n σ x (.int .i64 a) := by first | exact Go.Proofs.YtlbnhjeblknepaaGreat.Sg.rs rfl rfl | exact Go.Proofs.YtlbnhjeblknepaaGreat.Sg.rc) (hy : Rd n σ y (.int .i64 b) := by first | exact Go.Proofs.YtlbnhjeblknepaaGreat.Sg.rs rfl rfl | exact Go.Proofs.YtlbnhjeblknepaaGreat.Sg.rc) (hc : a = b ↔ c = true := by simp) (hp : Put n σ d (.bool c) σ' := by first | exact Go.Proofs.YtlbnhjeblknepaaGreat.Sg.ps rfl | exact Go.Proofs.YtlbnhjeblknepaaGreat.Sg.pn rfl) (h : WL P ops Q rest (fr n σ') w) :
    WL P ops Q ({ dst := d, op := .binOp .eql t1 x y t2, type := t, pos := p, after := af, guard := g } :: rest) (fr n σ) w :=
  bin hw hx hy (fun w x' y' => by cases c <;> simp_all [go_sem, eqGuard, binOp]) hp h
theorem ilss {a b : Int} {c : Bool} {t1 t2 : TypeId} (hw : On n σ ops g := by exact True.intro) (hx : Rd n σ x (.int .i64 a) := by first | exact Go.Proofs.YtlbnhjeblknepaaGreat.Sg.rs rfl rfl | exact Go.Proofs.YtlbnhjeblknepaaGreat.Sg.rc) (hy : Rd n σ y (.int .i64 b) := by first | exact Go.Proofs.YtlbnhjeblknepaaGreat.Sg.rs rfl rfl | exact Go.Proofs.YtlbnhjeblknepaaGreat.Sg.rc) (hc : a < b ↔ c = true := by simp) (hp : Put n σ d (.bool c) σ' := by first | exact Go.Proofs.YtlbnhjeblknepaaGreat.Sg.ps rfl | exact Go.Proofs.YtlbnhjeblknepaaGreat.Sg.pn rfl) (h : WL P ops Q rest (fr n σ') w) :
    WL P ops Q ({ dst := d, op := .binOp .lss t1 x y t2, type := t, pos := p, after := af, guard := g } :: rest) (fr n σ) w :=
  bin hw hx hy (fun w x' y' => by cases c <;> simp_all [go_sem, eqGuard, binOp]) hp h
theorem igtr {a b : Int} {c : Bool} {t1 t2 : TypeId} (hw : On n σ ops g := by exact True.intro) (hx : Rd n σ x (.int .i64 a) := by first | exact Go.Proofs.YtlbnhjeblknepaaGreat.Sg.rs rfl rfl | exact Go.Proofs.YtlbnhjeblknepaaGreat.Sg.rc) (hy : Rd n σ y (.int .i64 b) := by first | exact Go.Proofs.YtlbnhjeblknepaaGreat.Sg.rs rfl rfl | exact Go.Proofs.YtlbnhjeblknepaaGreat.Sg.rc) (hc : b < a ↔ c = true := by simp) (hp : Put n σ d (.bool c) σ' := by first | exact Go.Proofs.YtlbnhjeblknepaaGreat.Sg.ps rfl | exact Go.Proofs.YtlbnhjeblknepaaGreat.Sg.pn rfl) (h : WL P ops Q rest (fr n σ') w) :
    WL P ops Q ({ dst := d, op := .binOp .gtr t1 x y t2, type := t, pos := p, after := af, guard := g } :: rest) (fr n σ) w :=
  bin hw hx hy (fun w x' y' => by cases c <;> simp_all [go_sem, eqGuard, binOp]) hp h
theorem igeq {a b : Int} {c : Bool} {t1 t2 : TypeId} (hw : On n σ ops g := by exact True.intro) (hx : Rd n σ x (.int .i64 a) := by first | exact Go.Proofs.YtlbnhjeblknepaaGreat.Sg.rs rfl rfl | exact Go.Proofs.YtlbnhjeblknepaaGreat.Sg.rc) (hy : Rd n σ y (.int .i64 b) := by first | exact Go.Proofs.YtlbnhjeblknepaaGreat.Sg.rs rfl rfl | exact Go.Proofs.YtlbnhjeblknepaaGreat.Sg.rc) (hc : b ≤ a ↔ c = true := by simp) (hp : Put n σ d (.bool c) σ' := by first | exact Go.Proofs.YtlbnhjeblknepaaGreat.Sg.ps rfl | exact Go.Proofs.YtlbnhjeblknepaaGreat.Sg.pn rfl) (h : WL P ops Q rest (fr n σ') w) :
    WL P ops Q ({ dst := d, op := .binOp .geq t1 x y t2, type := t, pos := p, after := af, guard := g } :: rest) (fr n σ) w :=
  bin hw hx hy (fun w x' y' => by cases c <;> simp_all [go_sem, eqGuard, binOp]) hp h
theorem ileq {a b : Int} {c : Bool} {t1 t2 : TypeId} (hw : On n σ ops g := by exact True.intro) (hx : Rd n σ x (.int .i64 a) := by first | exact Go.Proofs.YtlbnhjeblknepaaGreat.Sg.rs rfl rfl | exact Go.Proofs.YtlbnhjeblknepaaGreat.Sg.rc) (hy : Rd n σ y (.int .i64 b) := by first | exact Go.Proofs.YtlbnhjeblknepaaGreat.Sg.rs rfl rfl | exact Go.Proofs.YtlbnhjeblknepaaGreat.Sg.rc) (hc : a ≤ b ↔ c = true := by simp) (hp : Put n σ d (.bool c) σ' := by first | exact Go.Proofs.YtlbnhjeblknepaaGreat.Sg.ps rfl | exact Go.Proofs.YtlbnhjeblknepaaGreat.Sg.pn rfl) (h : WL P ops Q rest (fr n σ') w) :
    WL P ops Q ({ dst := d, op := .binOp .leq t1 x y t2, type := t, pos := p, after := af, guard := g } :: rest) (fr n σ) w :=
  bin hw hx hy (fun w x' y' => by cases c <;> simp_all [go_sem, eqGuard, binOp]) hp h
theorem iadd {a b c : Int} {t1 t2 : TypeId} (hw : On n σ ops g := by exact True.intro) (hx : Rd n σ x (.int .i64 a) := by first | exact Go.Proofs.YtlbnhjeblknepaaGreat.Sg.rs rfl rfl | exact Go.Proofs.YtlbnhjeblknepaaGreat.Sg.rc) (hy : Rd n σ y (.int .i64 b) := by first | exact Go.Proofs.YtlbnhjeblknepaaGreat.Sg.rs rfl rfl | exact Go.Proofs.YtlbnhjeblknepaaGreat.Sg.rc) (hc : wrap64 (a + b) = c) (hp : Put n σ d (.int .i64 c) σ' := by first | exact Go.Proofs.YtlbnhjeblknepaaGreat.Sg.ps rfl | exact Go.Proofs.YtlbnhjeblknepaaGreat.Sg.pn rfl) (h : WL P ops Q rest (fr n σ') w) :
    WL P ops Q ({ dst := d, op := .binOp .add t1 x y t2, type := t, pos := p, after := af, guard := g } :: rest) (fr n σ) w :=
  bin hw hx hy (fun w x' y' => by subst hc; simp [go_sem, eqGuard, binOp, i64_w]) hp h
theorem imul {a b c : Int} {t1 t2 : TypeId} (hw : On n σ ops g := by exact True.intro) (hx : Rd n σ x (.int .i64 a) := by first | exact Go.Proofs.YtlbnhjeblknepaaGreat.Sg.rs rfl rfl | exact Go.Proofs.YtlbnhjeblknepaaGreat.Sg.rc) (hy : Rd n σ y (.int .i64 b) := by first | exact Go.Proofs.YtlbnhjeblknepaaGreat.Sg.rs rfl rfl | exact Go.Proofs.YtlbnhjeblknepaaGreat.Sg.rc) (hc : wrap64 (a * b) = c) (hp : Put n σ d (.int .i64 c) σ' := by first | exact Go.Proofs.YtlbnhjeblknepaaGreat.Sg.ps rfl | exact Go.Proofs.YtlbnhjeblknepaaGreat.Sg.pn rfl) (h : WL P ops Q rest (fr n σ') w) :
    WL P ops Q ({ dst := d, op := .binOp .mul t1 x y t2, type := t, pos := p, after := af, guard := g } :: rest) (fr n σ) w :=
  bin hw hx hy (fun w x' y' => by subst hc; simp [go_sem, eqGuard, binOp, i64_w]) hp h
theorem a1 (h : Rd n σ x v) : #[x].map (fr n σ).eval = #[v] := by simp only [List.map_toArray, List.map_cons, List.map_nil, show (fr n σ).eval x = v from h]
theorem a2 (h : Rd n σ x v) (h1 : Rd n σ y v1) : #[x, y].map (fr n σ).eval = #[v, v1] := by simp only [List.map_toArray, List.map_cons, List.map_nil, show (fr n σ).eval x = v from h, show (fr n σ).eval y = v1 from h1]
theorem a3 (h : Rd n σ x v) (h1 : Rd n σ y v1) (h2 : Rd n σ z v2) : #[x, y, z].map (fr n σ).eval = #[v, v1, v2] := by simp only [List.map_toArray, List.map_cons, List.map_nil, show (fr n σ).eval x = v from h, show (fr n σ).eval y = v1 from h1, show (fr n σ).eval z = v2 from h2]
theorem cl {f : FuncId} {fn : Func} {as : Array Operand} {ts : Array TypeId} (args : Array Value) (hf : P.funcs[f]? = some fn) (hname : (fn.name == "runtime.NumGoroutine") = false := by kernel_rfl) (hb : fn.body.isSome = true := by rfl) (hw : On n σ ops g := by exact True.intro) (hargs : as.map (fr n σ).eval = args)
    (h : Calls P f args w fun e w' => ∃ v σ', e = .returned v ∧ Put n σ d v σ' ∧ WL P ops Q rest (fr n σ') w') :
    WL P ops Q ({ dst := d, op := .call { callee := .value (.func f), args := as, argTypes := ts }, type := t, pos := p, after := af, guard := g } :: rest) (fr n σ) w :=
  ⟨wpList_step fun K hK => by
    have hW : Region.wanted { dst := d, op := .call { callee := .value (.func f), args := as, argTypes := ts }, type := t, pos := p, after := af, guard := g } (yielded ops (fr n σ).tmps) = true := On.wanted (o := { dst := d, op := .call { callee := .value (.func f), args := as, argTypes := ts }, type := t, pos := p, after := af, guard := g }) hw
    refine goes_ hf hname hb args hW rfl rfl hargs ?_
    refine h.mono ?_
    rintro e w'' ⟨v, σ', rfl, hp, hr⟩
    exact ⟨v, rfl, hK _ _ (by rw [hp]; exact hr.out)⟩⟩
theorem rg {id : Nat} {l : List Oper} (h : WL P l.toArray Q l (fr n σ) w) : (Code.region id l.toArray false).wp P Q (fr n σ) w := wp_region_lit h.out
theorem nl {a : Act} (h : K a w) : WL P ops (Exit.then K Q) [] a w := ⟨h⟩
theorem sq {c1 c2 : Code} {a : Act} (h : c1.wp P (Exit.then (c2.wp P Q) Q) a w) : (Code.seq c1 c2).wp P Q a w := wp_seq h
theorem sk {a : Act} (h : K a w) : Code.skip.wp P (Exit.then K Q) a w := wp_skip h
theorem cf {c : Nat} {c1 c2 : Code} (hc : Nat.blt c n = true) (hs : σ c = .bool false) (h : c2.wp P Q (fr n σ) w) : (Code.cond (.tmp c) c1 c2).wp P Q (fr n σ) w := wp_cond_false (rs hc hs) h
theorem ct {c : Nat} {c1 c2 : Code} (hc : Nat.blt c n = true) (hs : σ c = .bool true) (h : c1.wp P Q (fr n σ) w) : (Code.cond (.tmp c) c1 c2).wp P Q (fr n σ) w := wp_cond_true (rs hc hs) h
theorem rt {a : Act} (h : Q .ret a w) : Code.ret.wp P (Exit.then K Q) a w := wp_ret h
theorem rt0 {a : Act} (h : Q .ret a w) : Code.ret.wp P Q a w := wp_ret h
theorem gn {c : Code} (h : ∀ τ, c.wp P Q (fr n (mix m σ τ)) w) : c.wp P Q (fr n (mix m σ τ)) w := h τ
def Yd (P : Program) (ρ : Operand → Value) (o : Oper) (w : World) (v : Value) : Prop := (execOp ρ o).run P w = .ok (.value v) w
theorem Xldi {o : Oper} {ty : TypeId} {ad : Addr} {k : IntKind} {a : Int} (hu : P.underlying ty = some (.int k)) (ho : o.op = .load ty x := by rfl) (hx : Rd n σ x (.pointer (some ad)) := by first | exact Go.Proofs.YtlbnhjeblknepaaGreat.Sg.rs rfl rfl | exact Go.Proofs.YtlbnhjeblknepaaGreat.Sg.rc) (hc : w.cell? ad = some (.int k a)) : Yd P (fr n σ).eval o w (.int k a) := by
  unfold Yd execOp
  simp only [ho, show (fr n σ).eval x = _ from hx]
  simp [go_sem, Instr.loadAt, Instr.sureAddr, loadVar, isAgg, run_underlying hu, hc]
theorem Xixa {o : Oper} {ty : TypeId} {A : Addr} {l c : Nat} {k : IntKind} {i : Int} {sz : Nat} {ad : Addr} (hu : P.underlying ty = some (.slice (P.elem ty))) (hsz : (P.info? (P.elem ty)).map (·.size) = some sz) (h0 : 0 ≤ i) (h1 : i < l) (had : A.add (i.toNat * sz) = ad) (ho : o.op = .indexAddr ty x y := by rfl)
    (hx : Rd n σ x (.slice (some A) l c) := by first | exact Go.Proofs.YtlbnhjeblknepaaGreat.Sg.rs rfl rfl | exact Go.Proofs.YtlbnhjeblknepaaGreat.Sg.rc) (hy : Rd n σ y (.int k i) := by first | exact Go.Proofs.YtlbnhjeblknepaaGreat.Sg.rs rfl rfl | exact Go.Proofs.YtlbnhjeblknepaaGreat.Sg.rc) : Yd P (fr n σ).eval o w (.pointer (some ad)) := by
  subst had
  have hs : (sizeOf (P.elem ty)).run P w = .ok sz w := by
    cases hq : P.info? (P.elem ty) with
    | none => simp [hq] at hsz
    | some i => simp [hq] at hsz; simp [sizeOf, typeInfo, hq, hsz]
  unfold Yd execOp
  simp only [ho, show (fr n σ).eval x = _ from hx, show (fr n σ).eval y = _ from hy]
  simp [Instr.indexAt, asIntOf, run_underlying hu, h0, h1, hs]
theorem yy {o : Oper} (hy : Yd P (fr n σ).eval o w v) (hw : On n σ ops o.guard := by exact True.intro) (hp : Put n σ o.dst v σ' := by first | exact Go.Proofs.YtlbnhjeblknepaaGreat.Sg.ps rfl | exact Go.Proofs.YtlbnhjeblknepaaGreat.Sg.pn rfl) (h : WL P ops Q rest (fr n σ') w) : WL P ops Q (o :: rest) (fr n σ) w := val hw hy hp h
structure WA (P : Program) (ops : Array Oper) (Q : Exit → Act → World → Prop) (u : World) (k : Nat) (bs : Array Bool) (a : Act) (w : World) : Prop where mk :: (out : wpAnyLast P .any ops Q (fun x => Below u.heap.size u x) [] k bs a w)
variable {l : List Oper} {u : World} {k i : Nat} {bs : Array Bool} {oi : Oper}
theorem lp {c : Code} (N : Nat) (J : Nat → Fr → Fr → World → Prop) (i0 : Nat) (hi : i0 ≤ N) (h0 : J i0 σ τ w)
    (round : ∀ i σ τ w, i ≤ N → J i σ τ w → ∀ K : Act → World → Prop, (∀ σ' τ' w', i < N → J (i + 1) σ' τ' w' → K (fr n (mix m σ' τ')) w') → c.wp P (Exit.then K Q) (fr n (mix m σ τ)) w) : (Code.loop c).wp P Q (fr n (mix m σ τ)) w := by
  refine wp_loop_ghost (fun k a w => ∃ i σ τ, i ≤ N ∧ k = N - i ∧ a = fr n (mix m σ τ) ∧ J i σ τ w) (N - i0) ⟨i0, σ, τ, hi, rfl, rfl, h0⟩ ?_
  rintro k a w ⟨i, σ, τ, hi, rfl, rfl, hJ⟩
  refine round i σ τ w hi hJ _ ?_
  intro σ' τ' w' hlt hJ'
  exact ⟨N - (i + 1), by omega, i + 1, σ', τ', hlt, rfl, rfl, hJ'⟩
theorem bl {c : Code} {id : Nat} {a : Act} (h : c.wp P (Exit.inBlock id Q) a w) : (Code.block id c).wp P Q a w := wp_block h
theorem ex {id : Nat} {a : Act} (h : Q (.exit id) a w) : (Code.exit id).wp P Q a w := wp_exit h
theorem gs {c : Code} (h : ∀ s, s = σ → c.wp P Q (fr n (mix m s τ)) w) : c.wp P Q (fr n (mix m σ τ)) w := h σ rfl
theorem ex0 {id : Nat} {a : Act} {K1 K2 : Act → World → Prop} (h : K a w) : (Code.exit id).wp P (Exit.then K1 (Exit.then K2 (Exit.inBlock id (Exit.then K Q)))) a w := wp_exit (by show (if id = id then K a w else _); rw [if_pos rfl]; exact h)
theorem sk1 {id : Nat} {a : Act} (h : K a w) : Code.skip.wp P (Exit.inBlock id (Exit.then K Q)) a w := wp_skip h
theorem nl1 {id : Nat} {a : Act} (h : K a w) : WL P ops (Exit.inBlock id (Exit.then K Q)) [] a w := ⟨h⟩
end
section
variable {P : Program} {ops : Array Oper} {Q : Exit → Act → World → Prop} {K : Act → World → Prop} {rest : List Oper} {w w' : World} {n m : Nat} {σ σ' τ : Fr} {x y z : Operand} {v v1 v2 v3 : Value} {vs : Array Value} {t : TypeId} {p : String} {af : Array Edge} {g : Option (Nat × Bool)} {d : Option Nat}
theorem un {σ : Fr} {d j : Nat} {v : Value} (h : j ≠ d) : upd σ d v j = σ j := by unfold upd; rw [if_neg h]
theorem yu {n d : Nat} {σ : Fr} {l : List Oper} {j : Nat} (hj : dstAt l j = some d) (h : Nat.blt d n = true) (hs : σ d = undef) : yielded l.toArray (fr n σ).tmps j = none := by
  have h' : d < n := Nat.le_of_ble_eq_true h
  have hj : (l.toArray[j]?).bind (·.dst) = some d := (dstAt_eq l j).trans hj
  unfold yielded
  rw [hj]
  show (match (fr n σ).tmps[d]? with | some (.bool b) => some b | _ => none) = none
  rw [fr_at h', hs]
  rfl
theorem offu {op : Op} {d : Nat} {j : Nat} {b : Bool} (hw : yielded ops (fr n σ).tmps j = none) (hp : Put n σ (some d) undef σ') (h : WL P ops Q rest (fr n σ') w) :
    WL P ops Q ({ dst := some d, op := op, type := t, pos := p, after := af, guard := some (j, b) } :: rest) (fr n σ) w :=
  ⟨wpList_step fun K hK => by
    rw [if_neg (by unfold Region.wanted; show ¬ (yielded ops (fr n σ).tmps j == some b) = true; rw [hw]; cases b <;> decide)]
    show K ((fr n σ).put (some d) undef) w
    rw [hp]
    exact hK _ _ h.out⟩
theorem ex1 {id id2 : Nat} {a : Act} {K1 K2 : Act → World → Prop} (h : K a w) : (Code.exit id).wp P (Exit.then K1 (Exit.then K2 (Exit.inBlock id (Exit.inBlock id2 (Exit.then K Q))))) a w := wp_exit (by show (if id = id then K a w else _); rw [if_pos rfl]; exact h)
theorem Xlds {o : Oper} {ty e : TypeId} {ad : Addr} {A : Option Addr} {l c : Nat} (hu : P.underlying ty = some (.slice e)) (ho : o.op = .load ty x := by rfl) (hx : Rd n σ x (.pointer (some ad)) := by first | exact Go.Proofs.YtlbnhjeblknepaaGreat.Sg.rs rfl rfl | exact Go.Proofs.YtlbnhjeblknepaaGreat.Sg.rc) (hc : w.cell? ad = some (.slice A l c)) : Yd P (fr n σ).eval o w (.slice A l c) := by
  unfold Yd execOp
  simp only [ho, show (fr n σ).eval x = _ from hx]
  simp [go_sem, Instr.loadAt, Instr.sureAddr, loadVar, isAgg, run_underlying hu, hc]
end
end Go.Proofs.YtlbnhjeblknepaaGreat.Sg
