/- Rules to walk the functions of the seat: partial heaps, contracts, one rule an operation. No conditions. -/
import Derived.Test.YtfnjffmibiklfaaE3
namespace Go.Eng
open Go.RowKit

/-- Function 'f' has a body. -/
def IsFn (P : Program) (f : FuncId) : Prop := ∃ fn, P.funcs[f]? = some fn ∧ (fn.name == "runtime.NumGoroutine") = false ∧ fn.body.isNone = false

theorem IsFn.mk {P : Program} {f : FuncId} {fn : Func} (h : P.funcs[f]? = some fn) (h2 : ((fn.name == "runtime.NumGoroutine") || fn.body.isNone) = false) : IsFn P f := by
  simp only [Bool.or_eq_false_iff] at h2
  exact ⟨fn, h, h2.1, h2.2⟩

theorem run_callFunc {P : Program} {f : FuncId} (h : IsFn P f) (args : Array Value) (w : World) : (callFunc f args).run P w = .ok (.enter f args) w := by
  obtain ⟨fn, h1, h2, h3⟩ := h
  unfold callFunc
  simp only [Sem.run_bind, run_program, Result.andThen_ok, h1, h2, h3]
  rfl

def evs (ρ : Env) : List Operand → Option (List Value)
  | [] => some []
  | x :: r => match ρ.ev x, evs ρ r with
    | some v, some vs => some (v :: vs)
    | _, _ => none

theorem evs_map {ρ : Env} {a : Act} (ha : ρ.Ok a) : ∀ (l : List Operand) (vs : List Value), evs ρ l = some vs → l.toArray.map a.eval = vs.toArray := by
  intro l
  induction l with
  | nil => intro vs h; simp only [evs, Option.some.injEq] at h; subst h; simp
  | cons x l ih =>
    intro vs h
    simp only [evs] at h
    cases hx : ρ.ev x with
    | none => rw [hx] at h; simp at h
    | some v =>
      cases hl : evs ρ l with
      | none => rw [hx, hl] at h; simp at h
      | some us =>
        rw [hx, hl] at h
        simp only [Option.some.injEq] at h
        subst h
        have := ih us hl
        have e := congrArg Array.toList this
        simp only [Array.toList_map] at e
        apply Array.ext'
        simp only [Array.toList_map, List.map_cons, ha.ev hx]
        rw [e]

section
variable {P : Program} {k : World} {h0 : Hp} {Q : Post} {σ : List HP} {K : Env → List HP → Prop} {ops rest : List Oper}
  {n : Nat} {ds : List Deferred} {l : List (Nat × Value)}

/-- What a call must leave, so that the rest goes on. -/
def Aft (Q : Post) (ρ : Env) (next : Value → List HP → Prop) : Ending → List HP → Prop
  | .returned v, τ => next v τ
  | .panicked ch, τ => Q (.panic ch) ρ τ
  | .outgrown, _ => False

theorem WL.enter {d : Nat} {op : Op} {ty : TypeId} {pos : String} {aft : Array Edge} {g : Option (Nat × Bool)} {f : FuncId} {vs : List Value} {ρ : Env}
    (hw : wantE ops ρ g = some true) (hd : Nat.blt d ρ.n = true)
    (hrun : ∀ a w, ρ.Ok a → St k h0 σ w → (execOp a.eval ⟨some d, op, ty, pos, aft, g⟩).run P w = .ok (.enter f vs.toArray) w)
    (hc : FT P f vs k h0 σ (Aft Q ρ fun v τ => WL P k h0 ops K Q rest (ρ.put d v) τ)) : WL P k h0 ops K Q (⟨some d, op, ty, pos, aft, g⟩ :: rest) ρ σ := fun a w ha hs => by
  have hw' := wanted_of (o := ⟨some d, op, ty, pos, aft, g⟩) ha hw
  unfold wpList
  rw [if_pos hw']
  refine .inl ?_
  unfold Oper.wp
  rw [hrun a w ha hs]
  refine (hc w hs).mono fun e w' ⟨τ, hs', hr⟩ => ?_
  cases e with
  | returned v => exact hr _ w' (ha.put hd v) hs'
  | panicked ch => exact ⟨ρ, τ, ha, hs', hr⟩
  | outgrown => exact hr.elim

theorem run_call_func {ρ : Env} {a : Act} {w : World} {d : Option Tmp} {ty : TypeId} {pos : String} {aft : Array Edge} {g : Option (Nat × Bool)} {f : FuncId} {args : List Operand} {tt : Array TypeId} {vs : List Value} (hf : IsFn P f) (hv : evs ρ args = some vs) (ha : ρ.Ok a) :
    (execOp a.eval ⟨d, .call ⟨.value (.func f), args.toArray, tt⟩, ty, pos, aft, g⟩).run P w = .ok (.enter f vs.toArray) w := by
  have e := evs_map ha args vs hv
  have e0 : a.eval (.func f) = .func (.func f) #[] #[] := rfl
  simp only [execOp, resolve, e0, e, Deferred.ofValue, Sem.run_bind, Sem.run_pure, Result.andThen_ok, invoke]
  have : (#[] : Array Value) ++ vs.toArray ++ #[] = vs.toArray := by simp
  rw [this]
  exact run_callFunc hf _ w

/-- A call of a function by name, the contract as it stands. -/
theorem WL.call {d : Nat} {ty : TypeId} {pos : String} {aft : Array Edge} {g : Option (Nat × Bool)} {f : FuncId} {args : List Operand} {tt : Array TypeId} {vs : List Value}
    (hw : wantE ops ⟨n, ds, l⟩ g = some true) (hd : Nat.blt d n = true) (hf : IsFn P f) (hv : evs ⟨n, ds, l⟩ args = some vs)
    {R : Value → List HP → Prop} (hc : FT P f vs k h0 σ (Ret R)) (h : ∀ v τ, R v τ → WL P k h0 ops K Q rest ⟨n, ds, (d, v) :: l⟩ τ) :
    WL P k h0 ops K Q (⟨some d, .call ⟨.value (.func f), args.toArray, tt⟩, ty, pos, aft, g⟩ :: rest) ⟨n, ds, l⟩ σ :=
  WL.enter hw hd (fun a w ha _ => run_call_func hf hv ha) (hc.mono fun e τ ⟨v, he, hr⟩ => by subst he; exact h v τ hr)

/-- ... one that may panic. -/
theorem WL.callP {d : Nat} {ty : TypeId} {pos : String} {aft : Array Edge} {g : Option (Nat × Bool)} {f : FuncId} {args : List Operand} {tt : Array TypeId} {vs : List Value}
    (hw : wantE ops ⟨n, ds, l⟩ g = some true) (hd : Nat.blt d n = true) (hf : IsFn P f) (hv : evs ⟨n, ds, l⟩ args = some vs)
    {R : Ending → List HP → Prop} (hc : FT P f vs k h0 σ R) (ho : ∀ τ, ¬ R .outgrown τ) (h : ∀ v τ, R (.returned v) τ → WL P k h0 ops K Q rest ⟨n, ds, (d, v) :: l⟩ τ)
    (hp : ∀ ch τ, R (.panicked ch) τ → Q (.panic ch) ⟨n, ds, l⟩ τ) :
    WL P k h0 ops K Q (⟨some d, .call ⟨.value (.func f), args.toArray, tt⟩, ty, pos, aft, g⟩ :: rest) ⟨n, ds, l⟩ σ :=
  WL.enter hw hd (fun a w ha _ => run_call_func hf hv ha) (hc.mono fun e τ hr => by
    cases e with
    | returned v => exact h v τ hr
    | panicked ch => exact hp ch τ hr
    | outgrown => exact ho τ hr)

/-- The call returns just 'v'. -/
def Is (v : Value) : Ending → List HP → Prop := fun e _ => e = .returned v

theorem Ent.left (σ τ : List HP) : Ent (σ ++ τ) τ := fun k h0 w h => by
  induction σ with
  | nil => exact h
  | cons p σ ih => exact ih h.tail

/-- A call that owns nothing and hands back 'v'. -/
theorem WL.callV {d : Nat} {ty : TypeId} {pos : String} {aft : Array Edge} {g : Option (Nat × Bool)} {f : FuncId} {args : List Operand} {tt : Array TypeId} {vs : List Value} {v : Value}
    (hw : wantE ops ⟨n, ds, l⟩ g = some true) (hd : Nat.blt d n = true) (hf : IsFn P f) (hv : evs ⟨n, ds, l⟩ args = some vs)
    (hc : ∀ g, Stars σ g → h0.Dj g → FT P f vs k (h0.un g) [] (Is v)) (h : WL P k h0 ops K Q rest ⟨n, ds, (d, v) :: l⟩ σ) :
    WL P k h0 ops K Q (⟨some d, .call ⟨.value (.func f), args.toArray, tt⟩, ty, pos, aft, g⟩ :: rest) ⟨n, ds, l⟩ σ :=
  WL.enter hw hd (fun a w ha _ => run_call_func hf hv ha) ((FT.frame (σ := []) hc).mono fun e τ ⟨σ'', hτ, he⟩ => by
    subst hτ
    have he : e = .returned v := he
    subst he
    exact WL.ent (Ent.left _ _) h)
end
end Go.Eng
