/- Rules to walk the functions of the seat: partial heaps, contracts, one rule an operation. No conditions. -/
import Derived.Test.YtfnjffmibiklfaaE9
namespace Go.Eng
open Go.RowKit

section
variable {P : Program} {k : World} {h0 : Hp} {σ : List HP} {ρ : Env} {d : Option Tmp} {ty : TypeId} {pos : String} {aft : Array Edge} {g : Option (Nat × Bool)}

theorem run_loadN {T b o n : Nat} {vs : List Value} {w : World} (hT : agg P T = some n) (hn : vs.length = n) (hr : Rds h0 σ b o vs) (hs : St k h0 σ w) : (loadVar T ⟨b, o, none⟩).run P w = .ok (.agg vs.toArray) w := by
  obtain ⟨e1, e2⟩ := agg_spec (w := w) hT
  have c := run_loadCellsFrom (P := P) (w := w) (b := b) (o := o) vs 0 #[] (fun j v hj => by simpa using hr j v hj k w hs)
  simp [loadVar, e1, e2, loadCells, ← hn, c]

theorem ResCell1 {fn : Func} {a T b o n : Nat} {vs : List Value} (h : fn.results = #[.cell a T]) (ha : ρ.get a = some (.pointer (some ⟨b, o, none⟩))) (hT : agg P T = some n) (hn : vs.length = n) (hr : Rds h0 σ b o vs) : Res P fn k h0 ρ σ (.agg vs.toArray) := fun A w hA hs => by
  have e1 := hA.get a _ ha
  have e2 := run_loadN (P := P) (k := k) hT hn hr hs
  simp [results, h, e1, asAddr, e2]

theorem ResCellTmp {fn : Func} {a t T b o n : Nat} {vs : List Value} {v : Value} (h : fn.results = #[.cell a T, .tmp t]) (ha : ρ.get a = some (.pointer (some ⟨b, o, none⟩))) (hT : agg P T = some n) (hn : vs.length = n) (hr : Rds h0 σ b o vs) (hv : ρ.get t = some v) : Res P fn k h0 ρ σ (.tuple #[.agg vs.toArray, v]) := fun A w hA hs => by
  have e1 := hA.get a _ ha
  have e3 := hA.get t _ hv
  have e2 := run_loadN (P := P) (k := k) hT hn hr hs
  simp [results, h, e1, e3, asAddr, e2]

theorem V.max2 {x y : Operand} {j j' : IntKind} {a b : Int} {tt : Array TypeId} (hx : ρ.ev x = some (.int j a)) (hy : ρ.ev y = some (.int j' b)) : Val P k h0 σ ρ ⟨d, .call ⟨.builtin .max, #[x, y], tt⟩, ty, pos, aft, g⟩ (.int j (max a b)) := fun A w ha hs => by
  have e : (if b > a then b else a) = max a b := by split <;> omega
  simp [execOp, resolve, invoke, builtin, ha.ev hx, ha.ev hy, Builtin.max_, Builtin.max2, ← e]
theorem V.min2 {x y : Operand} {j j' : IntKind} {a b : Int} {tt : Array TypeId} (hx : ρ.ev x = some (.int j a)) (hy : ρ.ev y = some (.int j' b)) : Val P k h0 σ ρ ⟨d, .call ⟨.builtin .min, #[x, y], tt⟩, ty, pos, aft, g⟩ (.int j (min a b)) := fun A w ha hs => by
  have e : (if b < a then b else a) = min a b := by split <;> omega
  simp [execOp, resolve, invoke, builtin, ha.ev hx, ha.ev hy, Builtin.min_, Builtin.min2, ← e]

/-- Cells out of what stays. -/
theorem Rds.ro2 {b o : Nat} {cs : Array Value} {T : TypeId} {fr : Nat × Nat} {vs : List Value} (hb : h0 b = some (.cells cs T fr)) (h : ∀ i v, vs[i]? = some v → cs[o + i]? = some v) : Rds h0 σ b o vs := fun i v hv =>
  Rd.ro (by rw [hb]; exact h i v hv)
theorem Wr.at {b off : Nat} {cs : List Value} {T : TypeId} {v : Value} (i : Nat) (hi : σ[i]? = some (cl b cs T)) (h : Nat.blt off cs.length = true) :
    Wr σ ⟨b, off, none⟩ v (σ.set i (cl b (cs.set off v) T)) := Wr.own i hi (by simpa [Nat.blt_eq] using h)
theorem Rds.all {b T : Nat} {cs : List Value} (i : Nat) (hi : σ[i]? = some (cl b cs T)) : Rds h0 σ b 0 cs := Rds.own i hi (by simp)

theorem WP.mono' {Q Q' : Post} {c : Code} (h : WP P k h0 c Q ρ σ) (hq : ∀ e ρ σ, Q e ρ σ → ∃ ρ' σ', ρ'.Sub ρ ∧ Ent σ σ' ∧ Q' e ρ' σ') : WP P k h0 c Q' ρ σ :=
  fun a w ha hs => Code.wp_mono (fun _ _ _ ⟨ρ, σ, x, y, z⟩ => by
    obtain ⟨ρ', σ', h1, h2, h3⟩ := hq _ _ _ z
    exact ⟨ρ', σ', x.sub h1, h2 _ _ _ y, h3⟩) (h a w ha hs)

/-- Two pieces of code, what is known between them given. -/
theorem WP.cut {Q : Post} {c d' : Code} {X : Type} (E : X → Env) (S : X → List HP) (I : X → Prop) (h1 : WP P k h0 c (thenQ (fun ρ' σ' => ∃ x, I x ∧ (E x).Sub ρ' ∧ Ent σ' (S x)) Q) ρ σ) (h2 : ∀ x, I x → WP P k h0 d' Q (E x) (S x)) : WP P k h0 (.seq c d') Q ρ σ :=
  WP.seq (WP.mono' h1 (fun e ρ' σ' q => by
    cases e with
    | normal =>
      obtain ⟨x, hx, he, hσ⟩ := q
      exact ⟨_, _, he, hσ, h2 x hx⟩
    | exit id => exact ⟨ρ', σ', Env.Sub.refl _, Ent.refl _, q⟩
    | goto l => exact ⟨ρ', σ', Env.Sub.refl _, Ent.refl _, q⟩
    | ret => exact ⟨ρ', σ', Env.Sub.refl _, Ent.refl _, q⟩
    | panic ch => exact ⟨ρ', σ', Env.Sub.refl _, Ent.refl _, q⟩
    | outgrown => exact ⟨ρ', σ', Env.Sub.refl _, Ent.refl _, q⟩))

/-- A region whose ways meet again in one Bool. -/
theorem WP.regsB {Q : Post} {c : Code} {id n : Nat} {ds : List Deferred} {l' : List Oper} (φ : Prop) [Decidable φ] (t : Nat) (E : List (Nat × Value)) {l0 : List (Nat × Value)}
    (h1 : WL P k h0 l' (fun ρ' σ' => ∃ b : Bool, (b = true ↔ φ) ∧ (Env.mk n ds ((t, .bool b) :: E)).Sub ρ' ∧ Ent σ' σ) Q l' ⟨n, ds, l0⟩ σ)
    (h2 : WP P k h0 c Q ⟨n, ds, (t, .bool (decide φ)) :: E⟩ σ) : WP P k h0 (.seq (.region id l'.toArray false) c) Q ⟨n, ds, l0⟩ σ := WP.seq (WP.mono' (Q := thenQ (fun ρ' σ' => ∃ b : Bool, (b = true ↔ φ) ∧ (Env.mk n ds ((t, .bool b) :: E)).Sub ρ' ∧ Ent σ' σ) Q) (WP.region (by
    intro a w ha hs
    refine cast ?_ (h1 a w ha hs)
    congr 1
    funext e a w
    simp only [lift, eq_iff_iff]
    cases e <;> exact Iff.rfl)) (fun e ρ' σ' q => by
  cases e with
  | normal =>
    obtain ⟨b, hb, he, hσ⟩ := q
    refine ⟨_, σ, he, hσ, ?_⟩
    have : b = decide φ := by
      cases b with
      | true => exact (decide_eq_true (hb.1 rfl)).symm
      | false => exact (decide_eq_false fun h => by have := hb.2 h; cases this).symm
    subst this
    exact h2
  | exit id => exact ⟨ρ', σ', Env.Sub.refl _, Ent.refl _, q⟩
  | goto l => exact ⟨ρ', σ', Env.Sub.refl _, Ent.refl _, q⟩
  | ret => exact ⟨ρ', σ', Env.Sub.refl _, Ent.refl _, q⟩
  | panic ch => exact ⟨ρ', σ', Env.Sub.refl _, Ent.refl _, q⟩
  | outgrown => exact ⟨ρ', σ', Env.Sub.refl _, Ent.refl _, q⟩))

theorem tdiv_neg_eq {a b : Int} (ha : a < 0) : a.tdiv b = -((-a) / b) := by
  have h : a = -(-a) := by omega
  conv => lhs; rw [h]
  rw [Int.neg_tdiv, Int.tdiv_eq_ediv_of_nonneg (by omega)]
theorem tdiv_bd {a b : Int} (hb : 0 < b) : (0 ≤ a → 0 ≤ a.tdiv b ∧ a.tdiv b ≤ a) ∧ (a < 0 → a ≤ a.tdiv b ∧ a.tdiv b ≤ 0) := by
  constructor
  · intro ha
    rw [Int.tdiv_eq_ediv_of_nonneg ha]
    exact ⟨Int.ediv_nonneg ha (by omega), Int.ediv_le_self b ha⟩
  · intro ha
    rw [tdiv_neg_eq ha]
    have h1 : 0 ≤ (-a) / b := Int.ediv_nonneg (by omega) (by omega)
    have h2 : (-a) / b ≤ -a := Int.ediv_le_self b (by omega)
    omega
theorem V.quoZ {T U : TypeId} {x y : Operand} {a b : Int} (hx : ρ.ev x = some (.int .i64 a)) (hy : ρ.ev y = some (.int .i64 b)) (h : -9223372036854775808 ≤ a ∧ a ≤ 9223372036854775807 ∧ 0 < b) : Val P k h0 σ ρ ⟨d, .binOp .quo T x y U, ty, pos, aft, g⟩ (.int .i64 (a.tdiv b)) := fun A w ha hs => by
  have h' : b ≠ 0 := by omega
  have h1 := tdiv_bd (a := a) h.2.2
  have h2 : -9223372036854775808 ≤ a.tdiv b ∧ a.tdiv b ≤ 9223372036854775807 := by
    by_cases e : 0 ≤ a
    · have := h1.1 e; omega
    · have := h1.2 (by omega); omega
  simp [execOp, ha.ev hx, ha.ev hy, run_eqGuard_int, binOp, Op.intDiv, h', wrap_i64 h2]
/-- Rounded down. -/
theorem ediv_of_tdiv {a b : Int} (hb : 0 < b) : a / b = if a.tmod b < 0 then a.tdiv b - 1 else a.tdiv b := by
  have h1 := Int.tmod_add_mul_tdiv a b
  by_cases ha : 0 ≤ a
  · rw [Int.tdiv_eq_ediv_of_nonneg ha, Int.tmod_eq_emod_of_nonneg ha, if_neg (by have := Int.emod_nonneg a (show b ≠ 0 by omega); omega)]
  · have ht := tdiv_neg_eq (a := a) (b := b) (by omega)
    have hr : a.tmod b = -((-a) % b) := by
      have e : a = -(-a) := by omega
      conv => lhs; rw [e]
      rw [Int.neg_tmod, Int.tmod_eq_emod_of_nonneg (by omega)]
    have h3 := Int.emod_nonneg (-a) (show b ≠ 0 by omega)
    have h4 := Int.emod_lt_of_pos (-a) hb
    rw [ht, hr]
    have h5 := Int.emod_add_mul_ediv (-a) b
    split
    · have : a = (b - (-a) % b) + b * (-((-a) / b) - 1) := by rw [Int.mul_sub, Int.mul_neg]; omega
      conv => lhs; rw [this]
      rw [Int.add_mul_ediv_left _ _ (by omega), Int.ediv_eq_zero_of_lt (by omega) (by omega)]; omega
    · have : a = b * (-((-a) / b)) := by rw [Int.mul_neg]; omega
      conv => lhs; rw [this]
      rw [Int.mul_ediv_cancel_left _ (by omega)]
theorem emod_of_tmod {a b : Int} (hb : 0 < b) : a % b = if a.tmod b < 0 then a.tmod b + b else a.tmod b := by
  have h1 := Int.tmod_add_mul_tdiv a b
  have h2 := Int.emod_add_mul_ediv a b
  have h3 := ediv_of_tdiv (a := a) hb
  split <;> rename_i h <;> (first | rw [if_pos h] at h3 | rw [if_neg h] at h3)
  · rw [h3, Int.mul_sub] at h2; omega
  · rw [h3] at h2; omega
end
end Go.Eng
