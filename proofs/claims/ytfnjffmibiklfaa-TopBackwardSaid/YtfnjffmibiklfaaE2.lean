/- Rules to walk the functions of the seat: partial heaps, contracts, one rule an operation. No conditions. -/
import Derived.Test.YtfnjffmibiklfaaE1
namespace Go.Eng
open Go.RowKit

/-- Does the operation run? -/
def wantE (ops : List Oper) (ρ : Env) : Option (Nat × Bool) → Option Bool
  | none => some true
  | some (j, want) => match (ops[j]?).bind (·.dst) with
    | some d => match ρ.get d with
      | some (.bool b) => some (b == want)
      | some (.tuple _) => some false
      | _ => none
    | none => none

/-- The operation yields 'v', the world stays as it is. -/
def Val (P : Program) (k : World) (h0 : Hp) (σ : List HP) (ρ : Env) (o : Oper) (v : Value) : Prop :=
  ∀ a w, ρ.Ok a → St k h0 σ w → (execOp a.eval o).run P w = .ok (.value v) w

/-- The operation makes memory. -/
def Mem (P : Program) (k : World) (h0 : Hp) (σ : List HP) (ρ : Env) (o : Oper) {X : Type} (V : X → Value) (S : X → List HP) : Prop :=
  ∀ a w, ρ.Ok a → St k h0 σ w → ∃ x w', (execOp a.eval o).run P w = .ok (.value (V x)) w' ∧ St k h0 (S x) w'

/-- The operation writes. -/
def Eff (P : Program) (k : World) (h0 : Hp) (σ : List HP) (ρ : Env) (o : Oper) (τ : List HP) : Prop :=
  ∀ a w, ρ.Ok a → St k h0 σ w → ∃ w', (execOp a.eval o).run P w = .ok .skip w' ∧ St k h0 τ w'

section
variable {P : Program} {k : World} {h0 : Hp} {Q : Post} {σ : List HP} {K : Env → List HP → Prop} {ops rest : List Oper}
  {n : Nat} {ds : List Deferred} {l : List (Nat × Value)}

theorem wanted_of {ρ : Env} {a : Act} (ha : ρ.Ok a) {o : Oper} {b : Bool} (h : wantE ops ρ o.guard = some b) : Region.wanted o (yielded ops.toArray a.tmps) = b := by
  unfold Region.wanted
  cases hg : o.guard with
  | none => rw [hg] at h; exact (Option.some.inj h)
  | some jw =>
    obtain ⟨j, want⟩ := jw
    rw [hg] at h
    simp only [wantE] at h
    simp only [yielded, List.getElem?_toArray]
    cases hd : (ops[j]?).bind (·.dst) with
    | none => rw [hd] at h; simp at h
    | some d =>
      rw [hd] at h
      simp only at h
      cases hv : ρ.get d with
      | none => rw [hv] at h; simp at h
      | some v =>
        rw [hv] at h
        have := ha.get d v hv
        cases v <;> simp [this] at h ⊢
        · exact h
        · exact h

theorem WL.skip {d : Nat} {op : Op} {ty : TypeId} {pos : String} {aft : Array Edge} {g : Option (Nat × Bool)} (hw : wantE ops ⟨n, ds, l⟩ g = some false) (hd : Nat.blt d n = true)
    (h : WL P k h0 ops K Q rest ⟨n, ds, (d, undef) :: l⟩ σ) : WL P k h0 ops K Q (⟨some d, op, ty, pos, aft, g⟩ :: rest) ⟨n, ds, l⟩ σ := fun a w ha hs => by
  have hw' := wanted_of (o := ⟨some d, op, ty, pos, aft, g⟩) ha hw
  unfold wpList
  rw [if_neg (by rw [hw']; simp)]
  exact h _ w (ha.put hd undef) hs

theorem WL.skip0 {op : Op} {ty : TypeId} {pos : String} {aft : Array Edge} {g : Option (Nat × Bool)} (hw : wantE ops ⟨n, ds, l⟩ g = some false)
    (h : WL P k h0 ops K Q rest ⟨n, ds, l⟩ σ) : WL P k h0 ops K Q (⟨none, op, ty, pos, aft, g⟩ :: rest) ⟨n, ds, l⟩ σ := fun a w ha hs => by
  have hw' := wanted_of (o := ⟨none, op, ty, pos, aft, g⟩) ha hw
  unfold wpList
  rw [if_neg (by rw [hw']; simp)]
  exact h _ w ha hs

theorem WL.val {d : Nat} {op : Op} {ty : TypeId} {pos : String} {aft : Array Edge} {g : Option (Nat × Bool)} {v : Value} (hw : wantE ops ⟨n, ds, l⟩ g = some true) (hd : Nat.blt d n = true)
    (hv : Val P k h0 σ ⟨n, ds, l⟩ ⟨some d, op, ty, pos, aft, g⟩ v)
    (h : WL P k h0 ops K Q rest ⟨n, ds, (d, v) :: l⟩ σ) : WL P k h0 ops K Q (⟨some d, op, ty, pos, aft, g⟩ :: rest) ⟨n, ds, l⟩ σ := fun a w ha hs => by
  have hw' := wanted_of (o := ⟨some d, op, ty, pos, aft, g⟩) ha hw
  unfold wpList
  rw [if_pos hw']
  refine .inl ?_
  unfold Oper.wp
  rw [hv a w ha hs]
  exact h _ w (ha.put hd v) hs

theorem WL.valB {d : Nat} {op : Op} {ty : TypeId} {pos : String} {aft : Array Edge} {g : Option (Nat × Bool)} {b : Bool} (hw : wantE ops ⟨n, ds, l⟩ g = some true) (hd : Nat.blt d n = true)
    (hv : Val P k h0 σ ⟨n, ds, l⟩ ⟨some d, op, ty, pos, aft, g⟩ (.bool b))
    (ht : b = true → WL P k h0 ops K Q rest ⟨n, ds, (d, .bool true) :: l⟩ σ) (hf : b = false → WL P k h0 ops K Q rest ⟨n, ds, (d, .bool false) :: l⟩ σ) : WL P k h0 ops K Q (⟨some d, op, ty, pos, aft, g⟩ :: rest) ⟨n, ds, l⟩ σ := by
  cases b with
  | true => exact WL.val hw hd hv (ht rfl)
  | false => exact WL.val hw hd hv (hf rfl)
theorem WL.valD {p : Prop} [Decidable p] {d : Nat} {op : Op} {ty : TypeId} {pos : String} {aft : Array Edge} {g : Option (Nat × Bool)} (hw : wantE ops ⟨n, ds, l⟩ g = some true) (hd : Nat.blt d n = true)
    (hv : Val P k h0 σ ⟨n, ds, l⟩ ⟨some d, op, ty, pos, aft, g⟩ (.bool (decide p)))
    (ht : p → WL P k h0 ops K Q rest ⟨n, ds, (d, .bool true) :: l⟩ σ) (hf : ¬ p → WL P k h0 ops K Q rest ⟨n, ds, (d, .bool false) :: l⟩ σ) : WL P k h0 ops K Q (⟨some d, op, ty, pos, aft, g⟩ :: rest) ⟨n, ds, l⟩ σ :=
  WL.valB hw hd hv (fun e => ht (of_decide_eq_true e)) (fun e => hf (of_decide_eq_false e))

theorem WL.mem {X : Type} {V : X → Value} {S : X → List HP} {d : Nat} {op : Op} {ty : TypeId} {pos : String} {aft : Array Edge} {g : Option (Nat × Bool)} (hw : wantE ops ⟨n, ds, l⟩ g = some true) (hd : Nat.blt d n = true)
    (hv : Mem P k h0 σ ⟨n, ds, l⟩ ⟨some d, op, ty, pos, aft, g⟩ V S)
    (h : ∀ x, WL P k h0 ops K Q rest ⟨n, ds, (d, V x) :: l⟩ (S x)) : WL P k h0 ops K Q (⟨some d, op, ty, pos, aft, g⟩ :: rest) ⟨n, ds, l⟩ σ := fun a w ha hs => by
  have hw' := wanted_of (o := ⟨some d, op, ty, pos, aft, g⟩) ha hw
  unfold wpList
  rw [if_pos hw']
  refine .inl ?_
  unfold Oper.wp
  obtain ⟨x, w', e, hs'⟩ := hv a w ha hs
  rw [e]
  exact h x _ w' (ha.put hd _) hs'

theorem WL.eff {op : Op} {ty : TypeId} {pos : String} {aft : Array Edge} {g : Option (Nat × Bool)} {τ : List HP} (hw : wantE ops ⟨n, ds, l⟩ g = some true)
    (hv : Eff P k h0 σ ⟨n, ds, l⟩ ⟨none, op, ty, pos, aft, g⟩ τ)
    (h : WL P k h0 ops K Q rest ⟨n, ds, l⟩ τ) : WL P k h0 ops K Q (⟨none, op, ty, pos, aft, g⟩ :: rest) ⟨n, ds, l⟩ σ := fun a w ha hs => by
  have hw' := wanted_of (o := ⟨none, op, ty, pos, aft, g⟩) ha hw
  unfold wpList
  rw [if_pos hw']
  refine .inl ?_
  unfold Oper.wp
  obtain ⟨w', e, hs'⟩ := hv a w ha hs
  rw [e]
  exact h _ w' ha hs'

theorem WL.nil {ρ : Env} (h : K ρ σ) : WL P k h0 ops K Q [] ρ σ := fun _ _ ha hs => wpList_nil ⟨ρ, σ, ha, hs, h⟩

theorem WL.ent {τ : List HP} {ρ : Env} {l' : List Oper} (he : Ent σ τ) (h : WL P k h0 ops K Q l' ρ τ) : WL P k h0 ops K Q l' ρ σ := fun a w ha hs => h a w ha (he _ _ _ hs)
theorem WL.sub {ρ ρ' : Env} {l' : List Oper} (he : ρ'.Sub ρ) (h : WL P k h0 ops K Q l' ρ' σ) : WL P k h0 ops K Q l' ρ σ := fun a w ha hs => h a w (ha.sub he) hs

/-! ### regions -/
theorem WP.region {ρ : Env} {id : Nat} {l' : List Oper} (h : WL P k h0 l' (Q .normal) Q l' ρ σ) : WP P k h0 (.region id l'.toArray false) Q ρ σ := fun a w ha hs =>
  wp_region_lit (by
    have := h a w ha hs
    refine cast ?_ this
    congr 1
    funext e a w
    simp only [lift, eq_iff_iff]
    cases e <;> exact Iff.rfl)

/-- A region, and what stands behind it. -/
theorem WP.regs {ρ : Env} {id : Nat} {l' : List Oper} {c : Code} (h : WL P k h0 l' (WP P k h0 c Q) Q l' ρ σ) : WP P k h0 (.seq (.region id l'.toArray false) c) Q ρ σ :=
  WP.seq (WP.region (by
    intro a w ha hs
    refine cast ?_ (h a w ha hs)
    congr 1
    funext e a w
    simp only [lift, eq_iff_iff]
    cases e <;> exact Iff.rfl))
end

/-! ### What operations yield -/
section
variable {P : Program} {k : World} {h0 : Hp} {σ : List HP} {ρ : Env} {d : Option Tmp} {ty : TypeId} {pos : String} {aft : Array Edge} {g : Option (Nat × Bool)}

theorem V.move {x : Operand} {v : Value} (h : ρ.ev x = some v) : Val P k h0 σ ρ ⟨d, .move x, ty, pos, aft, g⟩ v := fun a w ha _ => by
  simp [execOp, ha.ev h]
theorem V.assign {x : Operand} {v : Value} (h : ρ.ev x = some v) : Val P k h0 σ ρ ⟨d, .assign x, ty, pos, aft, g⟩ v := fun a w ha _ => by
  simp [execOp, ha.ev h]
theorem V.pick {c x y : Operand} {b : Bool} {v u : Value} (hc : ρ.ev c = some (.bool b)) (hx : ρ.ev x = some v) (hy : ρ.ev y = some u) : Val P k h0 σ ρ ⟨d, .pick c x y, ty, pos, aft, g⟩ (bif b then v else u) := fun a w ha _ => by
  simp only [execOp, ha.ev hc, ha.ev hx, ha.ev hy]
  cases b <;> simp [asBool]
theorem V.pickT {c x y : Operand} {v : Value} (hc : ρ.ev c = some (.bool true)) (hx : ρ.ev x = some v) : Val P k h0 σ ρ ⟨d, .pick c x y, ty, pos, aft, g⟩ v := fun a w ha _ => by
  simp [execOp, ha.ev hc, ha.ev hx, asBool]
theorem V.pickF {c x y : Operand} {v : Value} (hc : ρ.ev c = some (.bool false)) (hy : ρ.ev y = some v) : Val P k h0 σ ρ ⟨d, .pick c x y, ty, pos, aft, g⟩ v := fun a w ha _ => by
  simp [execOp, ha.ev hc, ha.ev hy, asBool]
theorem V.extract {x : Operand} {i : Nat} {vs : Array Value} {v : Value} (h : ρ.ev x = some (.tuple vs)) (hi : vs[i]? = some v) : Val P k h0 σ ρ ⟨d, .extract x i, ty, pos, aft, g⟩ v := fun a w ha _ => by
  simp [execOp, ha.ev h, Instr.extract, hi]

/-! whole numbers -/
theorem run_eqGuard_int {op : BinOp} {t : TypeId} {x y : Operand} {j : IntKind} {a b : Int} {w : World} : (eqGuard op t x y (.int j a) (.int j b)).run P w = .ok () w := by
  unfold eqGuard
  by_cases h : (!(op matches .eql | .neq)) = true
  · simp [h]
  · simp [h]
theorem run_eqGuard_shift {op : BinOp} {t : TypeId} {x y : Operand} {j j' : IntKind} {a b : Int} {w : World} : (eqGuard op t x y (.int j a) (.int j' b)).run P w = .ok () w := by
  unfold eqGuard
  by_cases h : (!(op matches .eql | .neq)) = true
  · simp [h]
  · simp [h]

theorem V.add {T U : TypeId} {x y : Operand} {j : IntKind} {a b : Int} (hx : ρ.ev x = some (.int j a)) (hy : ρ.ev y = some (.int j b)) : Val P k h0 σ ρ ⟨d, .binOp .add T x y U, ty, pos, aft, g⟩ (.int j (j.wrap (a + b))) := fun A w ha _ => by
  simp [execOp, ha.ev hx, ha.ev hy, run_eqGuard_int, binOp, Op.intArith]
theorem V.sub {T U : TypeId} {x y : Operand} {j : IntKind} {a b : Int} (hx : ρ.ev x = some (.int j a)) (hy : ρ.ev y = some (.int j b)) : Val P k h0 σ ρ ⟨d, .binOp .sub T x y U, ty, pos, aft, g⟩ (.int j (j.wrap (a - b))) := fun A w ha _ => by
  simp [execOp, ha.ev hx, ha.ev hy, run_eqGuard_int, binOp, Op.intArith]
theorem V.mul {T U : TypeId} {x y : Operand} {j : IntKind} {a b : Int} (hx : ρ.ev x = some (.int j a)) (hy : ρ.ev y = some (.int j b)) : Val P k h0 σ ρ ⟨d, .binOp .mul T x y U, ty, pos, aft, g⟩ (.int j (j.wrap (a * b))) := fun A w ha _ => by
  simp [execOp, ha.ev hx, ha.ev hy, run_eqGuard_int, binOp, Op.intArith]

theorem wrap_i64 {a : Int} (h : -9223372036854775808 ≤ a ∧ a ≤ 9223372036854775807) : IntKind.i64.wrap a = a := IntWalk.i64_in _ (by omega)

theorem V.add' {T U : TypeId} {x y : Operand} {a b : Int} (hx : ρ.ev x = some (.int .i64 a)) (hy : ρ.ev y = some (.int .i64 b)) (h : -9223372036854775808 ≤ a + b ∧ a + b ≤ 9223372036854775807) : Val P k h0 σ ρ ⟨d, .binOp .add T x y U, ty, pos, aft, g⟩ (.int .i64 (a + b)) := by
  have := V.add (P := P) (k := k) (h0 := h0) (σ := σ) (d := d) (ty := ty) (pos := pos) (aft := aft) (g := g) (T := T) (U := U) hx hy
  rwa [wrap_i64 h] at this
theorem V.sub' {T U : TypeId} {x y : Operand} {a b : Int} (hx : ρ.ev x = some (.int .i64 a)) (hy : ρ.ev y = some (.int .i64 b)) (h : -9223372036854775808 ≤ a - b ∧ a - b ≤ 9223372036854775807) : Val P k h0 σ ρ ⟨d, .binOp .sub T x y U, ty, pos, aft, g⟩ (.int .i64 (a - b)) := by
  have := V.sub (P := P) (k := k) (h0 := h0) (σ := σ) (d := d) (ty := ty) (pos := pos) (aft := aft) (g := g) (T := T) (U := U) hx hy
  rwa [wrap_i64 h] at this
theorem V.mul' {T U : TypeId} {x y : Operand} {a b : Int} (hx : ρ.ev x = some (.int .i64 a)) (hy : ρ.ev y = some (.int .i64 b)) (h : -9223372036854775808 ≤ a * b ∧ a * b ≤ 9223372036854775807) : Val P k h0 σ ρ ⟨d, .binOp .mul T x y U, ty, pos, aft, g⟩ (.int .i64 (a * b)) := by
  have := V.mul (P := P) (k := k) (h0 := h0) (σ := σ) (d := d) (ty := ty) (pos := pos) (aft := aft) (g := g) (T := T) (U := U) hx hy
  rwa [wrap_i64 h] at this

theorem V.lss {T U : TypeId} {x y : Operand} {j : IntKind} {a b : Int} (hx : ρ.ev x = some (.int j a)) (hy : ρ.ev y = some (.int j b)) : Val P k h0 σ ρ ⟨d, .binOp .lss T x y U, ty, pos, aft, g⟩ (.bool (decide (a < b))) := fun A w ha _ => by
  simp [execOp, ha.ev hx, ha.ev hy, run_eqGuard_int, binOp, Op.intCmp]
theorem V.leq {T U : TypeId} {x y : Operand} {j : IntKind} {a b : Int} (hx : ρ.ev x = some (.int j a)) (hy : ρ.ev y = some (.int j b)) : Val P k h0 σ ρ ⟨d, .binOp .leq T x y U, ty, pos, aft, g⟩ (.bool (decide (a ≤ b))) := fun A w ha _ => by
  simp [execOp, ha.ev hx, ha.ev hy, run_eqGuard_int, binOp, Op.intCmp]
theorem V.gtr {T U : TypeId} {x y : Operand} {j : IntKind} {a b : Int} (hx : ρ.ev x = some (.int j a)) (hy : ρ.ev y = some (.int j b)) : Val P k h0 σ ρ ⟨d, .binOp .gtr T x y U, ty, pos, aft, g⟩ (.bool (decide (b < a))) := fun A w ha _ => by
  simp [execOp, ha.ev hx, ha.ev hy, run_eqGuard_int, binOp, Op.intCmp]
theorem V.geq {T U : TypeId} {x y : Operand} {j : IntKind} {a b : Int} (hx : ρ.ev x = some (.int j a)) (hy : ρ.ev y = some (.int j b)) : Val P k h0 σ ρ ⟨d, .binOp .geq T x y U, ty, pos, aft, g⟩ (.bool (decide (b ≤ a))) := fun A w ha _ => by
  simp [execOp, ha.ev hx, ha.ev hy, run_eqGuard_int, binOp, Op.intCmp]
theorem V.eql {T U : TypeId} {x y : Operand} {j : IntKind} {a b : Int} (hx : ρ.ev x = some (.int j a)) (hy : ρ.ev y = some (.int j b)) : Val P k h0 σ ρ ⟨d, .binOp .eql T x y U, ty, pos, aft, g⟩ (.bool (decide (a = b))) := fun A w ha _ => by
  simp [execOp, ha.ev hx, ha.ev hy, run_eqGuard_int, binOp, Op.intCmp]
  rfl
theorem V.neq {T U : TypeId} {x y : Operand} {j : IntKind} {a b : Int} (hx : ρ.ev x = some (.int j a)) (hy : ρ.ev y = some (.int j b)) : Val P k h0 σ ρ ⟨d, .binOp .neq T x y U, ty, pos, aft, g⟩ (.bool (decide (a ≠ b))) := fun A w ha _ => by
  simp [execOp, ha.ev hx, ha.ev hy, run_eqGuard_int, binOp, Op.intCmp]
  by_cases h : a = b <;> simp [h]
theorem V.not {T : TypeId} {x : Operand} {b : Bool} (hx : ρ.ev x = some (.bool b)) : Val P k h0 σ ρ ⟨d, .unOp .not T x, ty, pos, aft, g⟩ (.bool (!b)) := fun A w ha _ => by
  simp [execOp, ha.ev hx, Op.unary]
theorem V.neg {T : TypeId} {x : Operand} {j : IntKind} {a : Int} (hx : ρ.ev x = some (.int j a)) : Val P k h0 σ ρ ⟨d, .unOp .neg T x, ty, pos, aft, g⟩ (.int j (j.wrap (-a))) := fun A w ha _ => by
  simp [execOp, ha.ev hx, Op.unary, Op.intArith]
theorem V.neg' {T : TypeId} {x : Operand} {a : Int} (hx : ρ.ev x = some (.int .i64 a)) (h : -9223372036854775808 ≤ -a ∧ -a ≤ 9223372036854775807) : Val P k h0 σ ρ ⟨d, .unOp .neg T x, ty, pos, aft, g⟩ (.int .i64 (-a)) := by
  have := V.neg (P := P) (k := k) (h0 := h0) (σ := σ) (d := d) (ty := ty) (pos := pos) (aft := aft) (g := g) (T := T) hx
  rwa [wrap_i64 h] at this

theorem V.rem {T U : TypeId} {x y : Operand} {j : IntKind} {a b : Int} (hx : ρ.ev x = some (.int j a)) (hy : ρ.ev y = some (.int j b)) (h : b ≠ 0) : Val P k h0 σ ρ ⟨d, .binOp .rem T x y U, ty, pos, aft, g⟩ (.int j (a.tmod b)) := fun A w ha _ => by
  simp [execOp, ha.ev hx, ha.ev hy, run_eqGuard_int, binOp, Op.intDiv, h]
theorem V.rem' {T U : TypeId} {x y : Operand} {j : IntKind} {a b : Int} (hx : ρ.ev x = some (.int j a)) (hy : ρ.ev y = some (.int j b)) (h : 0 ≤ a ∧ 0 < b) : Val P k h0 σ ρ ⟨d, .binOp .rem T x y U, ty, pos, aft, g⟩ (.int j (a % b)) := fun A w ha _ => by
  have h' : b ≠ 0 := by omega
  simp [execOp, ha.ev hx, ha.ev hy, run_eqGuard_int, binOp, Op.intDiv, h', Int.tmod_eq_emod_of_nonneg h.1]
theorem V.quo {T U : TypeId} {x y : Operand} {j : IntKind} {a b : Int} (hx : ρ.ev x = some (.int j a)) (hy : ρ.ev y = some (.int j b)) (h : b ≠ 0) : Val P k h0 σ ρ ⟨d, .binOp .quo T x y U, ty, pos, aft, g⟩ (.int j (j.wrap (a.tdiv b))) := fun A w ha _ => by
  simp [execOp, ha.ev hx, ha.ev hy, run_eqGuard_int, binOp, Op.intDiv, h]
theorem V.quo' {T U : TypeId} {x y : Operand} {a b : Int} (hx : ρ.ev x = some (.int .i64 a)) (hy : ρ.ev y = some (.int .i64 b)) (h : 0 ≤ a ∧ a ≤ 9223372036854775807 ∧ 0 < b) : Val P k h0 σ ρ ⟨d, .binOp .quo T x y U, ty, pos, aft, g⟩ (.int .i64 (a / b)) := fun A w ha _ => by
  have h' : b ≠ 0 := by omega
  have h1 : 0 ≤ a / b := Int.ediv_nonneg h.1 (by omega)
  have h2 : a / b ≤ a := Int.ediv_le_self b h.1
  simp [execOp, ha.ev hx, ha.ev hy, run_eqGuard_int, binOp, Op.intDiv, h', Int.tdiv_eq_ediv_of_nonneg h.1, wrap_i64 (a := a / b) (by omega)]
end
end Go.Eng
