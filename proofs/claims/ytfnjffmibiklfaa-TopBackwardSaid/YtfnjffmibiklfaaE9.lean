/- Rules to walk the functions of the seat: partial heaps, contracts, one rule an operation. No conditions. -/
import Derived.Test.YtfnjffmibiklfaaE8
namespace Go.Eng
open Go.RowKit

section
variable {P : Program} {k : World} {h0 : Hp} {σ : List HP} {ρ : Env} {d : Option Tmp} {ty : TypeId} {pos : String} {aft : Array Edge} {g : Option (Nat × Bool)}

theorem run_part1 {E : Nat} {cs : Array Value} {i : Nat} {v : Value} {w : World} (hE : scal P E = true) (hv : cs[i]? = some v) : (part E cs i).run P w = .ok v w := by
  have := (scal_spec (w := w) hE).1
  simp [part, this, hv]

/-- Two arrays of whole numbers, held against each other. -/
theorem run_equal_ints {T len E : Nat} {kd : IntKind} (hT : P.underlying T = some (.array len E)) (hE : P.underlying E = some (.int kd)) (hs : scal P E = true) (xs ys : List Int) (hx : xs.length = len) (hy : ys.length = len) (w : World) :
    (Op.equal T (.agg (xs.map (Value.int kd)).toArray) (.agg (ys.map (Value.int kd)).toArray)).run P w = .ok (decide (xs = ys)) w := by
  unfold Op.equal
  rw [show Op.maxDepth = 9998 + 1 + 1 from rfl]
  unfold Op.equalIn
  simp only [Sem.run_bind, run_underlying' hT, Result.andThen_ok, (scal_spec (w := w) hs).2]
  rw [Std.Legacy.Range.forIn_eq_forIn_range']
  simp only [Std.Legacy.Range.size, Nat.sub_zero, Nat.add_sub_cancel, Nat.div_one]
  have key : ∀ (m s : Nat), s + m = len → xs.take s = ys.take s →
      ((forIn (m := Sem) (List.range' s m) ((none, ()) : Option Bool × Unit) fun i _ => do
        let a ← part E (xs.map (Value.int kd)).toArray (i * 1)
        let b ← part E (ys.map (Value.int kd)).toArray (i * 1)
        let e ← Op.equalIn 9999 E a b
        if (!e) = true then pure (ForInStep.done (some false, ())) else pure (ForInStep.yield (none, ()))).run P w) =
      .ok (if xs = ys then (none, ()) else (some false, ())) w := by
    intro m
    induction m with
    | zero =>
      intro s hsm htk
      have : xs = ys := by
        rw [List.take_of_length_le (by omega), List.take_of_length_le (by omega)] at htk
        exact htk
      simp [this]
    | succ m ih =>
      intro s hsm htk
      have hsx : s < xs.length := by omega
      have hsy : s < ys.length := by omega
      have p1 := run_part1 (P := P) (E := E) (cs := (xs.map (Value.int kd)).toArray) (i := s * 1) (v := .int kd xs[s]) (w := w) hs (by simp [hsx])
      have p2 := run_part1 (P := P) (E := E) (cs := (ys.map (Value.int kd)).toArray) (i := s * 1) (v := .int kd ys[s]) (w := w) hs (by simp [hsy])
      simp only [List.range'_succ, List.forIn_cons, Sem.run_bind, p1, p2, Result.andThen_ok, run_equalIn_int w 9998 E kd kd xs[s] ys[s] hE]
      by_cases he : xs[s] = ys[s]
      · have := ih (s + 1) (by omega) (by rw [List.take_succ_eq_append_getElem hsx, List.take_succ_eq_append_getElem hsy, htk, he])
        simp only [he, beq_self_eq_true, Bool.not_true, Bool.false_eq_true, if_false, Sem.run_bind, Sem.run_pure, Result.andThen_ok]
        exact this
      · have hne : xs ≠ ys := fun e => he (by simp [e])
        have : (xs[s] == ys[s]) = false := by simpa using he
        simp [this, hne]
  have := key len 0 (by omega) (by simp)
  refine (congrArg (fun r => Result.andThen r _) this).trans ?_
  by_cases h : xs = ys
  · simp [h]
  · simp [h]

theorem V.eqlInts {T U len E : Nat} {kd : IntKind} {x y : Operand} {xs ys : List Int} (hT : P.underlying T = some (.array len E)) (hE : P.underlying E = some (.int kd)) (hs : scal P E = true) (hg : P.eqGuardType P.depth T = false)
    (hx : ρ.ev x = some (.agg (xs.map (Value.int kd)).toArray)) (hy : ρ.ev y = some (.agg (ys.map (Value.int kd)).toArray)) (hlx : xs.length = len) (hly : ys.length = len) : Val P k h0 σ ρ ⟨d, .binOp .eql T x y U, ty, pos, aft, g⟩ (.bool (decide (xs = ys))) := fun A w ha hst => by
  have := run_equal_ints (P := P) hT hE hs xs ys hlx hly w
  simp only [execOp, ha.ev hx, ha.ev hy, Sem.run_bind, run_eqGuard_agg w .eql T x y _ _ hg, Result.andThen_ok, binOp, this, Sem.run_pure]
end

section
variable {P : Program} {k : World} {h0 : Hp} {Q : Post} {σ : List HP} {K : Env → List HP → Prop} {ops rest : List Oper}
  {n : Nat} {ds : List Deferred} {l : List (Nat × Value)}

/-- A call through an interface value. -/
theorem run_invoke {ρ : Env} {a : Act} {w : World} {d : Option Tmp} {ty : TypeId} {pos : String} {aft : Array Edge} {g : Option (Nat × Bool)} {f : FuncId} {t : TypeId} {v rv : Value} {name : String} {recv : Operand} {args : List Operand} {tt : Array TypeId} {vs : List Value}
    (hr : ρ.ev recv = some (.iface t v)) (hm : (method (P.types.size + Made.depth) t v name).run P w = .ok (f, rv) w) (hf : IsFn P f) (hv : evs ρ args = some vs) (ha : ρ.Ok a) :
    (execOp a.eval ⟨d, .call ⟨.invoke recv name, args.toArray, tt⟩, ty, pos, aft, g⟩).run P w = .ok (.enter f (rv :: vs).toArray) w := by
  have e := evs_map ha args vs hv
  have e2 : (#[Value.iface t v] ++ vs.toArray)[0]? = some (Value.iface t v) := by simp
  have e3 : (#[Value.iface t v] ++ vs.toArray).extract 1 (#[Value.iface t v] ++ vs.toArray).size = vs.toArray := by
    apply Array.ext'
    simp
  simp only [execOp, resolve, ha.ev hr, e, Sem.run_bind, Sem.run_pure, Result.andThen_ok, invoke]
  simp only [e2, callMethod, Sem.run_bind, run_program, Result.andThen_ok, hm, e3]
  have : #[rv] ++ vs.toArray = (rv :: vs).toArray := by simp
  rw [this]
  exact run_callFunc hf _ w

theorem WL.inv {d : Nat} {ty : TypeId} {pos : String} {aft : Array Edge} {g : Option (Nat × Bool)} {f : FuncId} {t : TypeId} {v rv : Value} {name : String} {recv : Operand} {args : List Operand} {tt : Array TypeId} {vs : List Value}
    (hw : wantE ops ⟨n, ds, l⟩ g = some true) (hd : Nat.blt d n = true) (hr : (Env.mk n ds l).ev recv = some (.iface t v)) (hm : ∀ w, (method (P.types.size + Made.depth) t v name).run P w = .ok (f, rv) w) (hf : IsFn P f) (hv : evs ⟨n, ds, l⟩ args = some vs)
    {R : Value → List HP → Prop} (hc : FT P f (rv :: vs) k h0 σ (Ret R)) (h : ∀ v τ, R v τ → WL P k h0 ops K Q rest ⟨n, ds, (d, v) :: l⟩ τ) :
    WL P k h0 ops K Q (⟨some d, .call ⟨.invoke recv name, args.toArray, tt⟩, ty, pos, aft, g⟩ :: rest) ⟨n, ds, l⟩ σ :=
  WL.enter hw hd (fun a w ha _ => run_invoke hr (hm w) hf hv ha) (hc.mono fun e τ ⟨v, he, hr⟩ => by subst he; exact h v τ hr)

/-- ... without a result's slot. -/
theorem WL.enter0 {op : Op} {ty : TypeId} {pos : String} {aft : Array Edge} {g : Option (Nat × Bool)} {f : FuncId} {vs : List Value} {ρ : Env}
    (hw : wantE ops ρ g = some true)
    (hrun : ∀ a w, ρ.Ok a → St k h0 σ w → (execOp a.eval ⟨none, op, ty, pos, aft, g⟩).run P w = .ok (.enter f vs.toArray) w)
    (hc : FT P f vs k h0 σ (Aft Q ρ fun _ τ => WL P k h0 ops K Q rest ρ τ)) : WL P k h0 ops K Q (⟨none, op, ty, pos, aft, g⟩ :: rest) ρ σ := fun a w ha hs => by
  have hw' := wanted_of (o := ⟨none, op, ty, pos, aft, g⟩) ha hw
  unfold wpList
  rw [if_pos hw']
  refine .inl ?_
  unfold Oper.wp
  rw [hrun a w ha hs]
  refine (hc w hs).mono fun e w' ⟨τ, hs', hr⟩ => ?_
  cases e with
  | returned v => exact hr _ w' ha hs'
  | panicked ch => exact ⟨ρ, τ, ha, hs', hr⟩
  | outgrown => exact hr.elim

/-- A function value is called. -/
theorem run_callValue {ρ : Env} {a : Act} {w : World} {d : Option Tmp} {ty : TypeId} {pos : String} {aft : Array Edge} {g : Option (Nat × Bool)} {fv : Operand} {f : FuncId} {first cap : List Value} {args : List Operand} {tt : Array TypeId} {vs : List Value}
    (hfv : ρ.ev fv = some (.func (.func f) first.toArray cap.toArray)) (hf : IsFn P f) (hv : evs ρ args = some vs) (ha : ρ.Ok a) :
    (execOp a.eval ⟨d, .call ⟨.value fv, args.toArray, tt⟩, ty, pos, aft, g⟩).run P w = .ok (.enter f (first ++ vs ++ cap).toArray) w := by
  have e := evs_map ha args vs hv
  simp only [execOp, resolve, ha.ev hfv, e, Deferred.ofValue, Sem.run_bind, Sem.run_pure, Result.andThen_ok, invoke]
  have : first.toArray ++ vs.toArray ++ cap.toArray = (first ++ vs ++ cap).toArray := by simp
  rw [this]
  exact run_callFunc hf _ w

theorem WL.callF {d : Nat} {ty : TypeId} {pos : String} {aft : Array Edge} {g : Option (Nat × Bool)} {fv : Operand} {f : FuncId} {first cap : List Value} {args : List Operand} {tt : Array TypeId} {vs : List Value}
    (hw : wantE ops ⟨n, ds, l⟩ g = some true) (hd : Nat.blt d n = true) (hfv : (Env.mk n ds l).ev fv = some (.func (.func f) first.toArray cap.toArray)) (hf : IsFn P f) (hv : evs ⟨n, ds, l⟩ args = some vs)
    {R : Value → List HP → Prop} (hc : FT P f (first ++ vs ++ cap) k h0 σ (Ret R)) (h : ∀ v τ, R v τ → WL P k h0 ops K Q rest ⟨n, ds, (d, v) :: l⟩ τ) :
    WL P k h0 ops K Q (⟨some d, .call ⟨.value fv, args.toArray, tt⟩, ty, pos, aft, g⟩ :: rest) ⟨n, ds, l⟩ σ :=
  WL.enter hw hd (fun a w ha _ => run_callValue hfv hf hv ha) (hc.mono fun e τ ⟨v, he, hr⟩ => by subst he; exact h v τ hr)

/-- ... of which something is known. -/
theorem FT.pureR {f : FuncId} {vs : List Value} {R : Value → Prop} (hc : ∀ g, Stars σ g → h0.Dj g → FT P f vs k (h0.un g) [] (Ret fun u _ => R u)) : FT P f vs k h0 σ (Ret fun u τ => R u ∧ τ = σ) := fun w hs => by
  refine (FT.frame (σ := []) hc w hs).mono fun e w' ⟨τ, hs', σ'', hτ, v, he, hr⟩ => ?_
  subst hτ
  exact ⟨σ, Ent.left _ _ _ _ _ hs', v, he, hr, rfl⟩
/-- ... and makes memory. -/
theorem FT.make {f : FuncId} {vs : List Value} {R : Value → List HP → Prop} (hc : ∀ g, Stars σ g → h0.Dj g → FT P f vs k (h0.un g) [] (Ret R)) : FT P f vs k h0 σ (Ret fun u τ => ∃ τ', R u τ' ∧ τ = τ' ++ σ) := fun w hs => by
  refine (FT.frame (σ := []) hc w hs).mono fun e w' ⟨τ, hs', σ'', hτ, v, he, hr⟩ => ?_
  exact ⟨τ, hs', v, he, σ'', hr, hτ⟩
theorem Stars.at {b : Nat} {o : Obj} {g : Hp} (i : Nat) (hi : σ[i]? = some (ob b o)) (hg : Stars σ g) : g b = some o := by
  obtain ⟨a, c, ha, hc, d, e⟩ := hg.perm (perm_pull i hi)
  rw [e]
  exact Hp.le_un_left _ _ _ _ (by rw [show a = Hp.one b o from ha]; exact Hp.one_self b o)
theorem Stars.at' {b : Nat} {o : Obj} {g : Hp} (i : Nat) (hi : σ[i]? = some (ob b o)) (hg : Stars σ g) (dj : h0.Dj g) : (h0.un g) b = some o := Hp.le_un_right dj _ _ (hg.at i hi)

/-- What a call that owns nothing hands back, whoever calls: for use where several rules call it. -/
theorem FT.pure {f : FuncId} {vs : List Value} {v : Value} (hc : ∀ g, Stars σ g → h0.Dj g → FT P f vs k (h0.un g) [] (Is v)) : FT P f vs k h0 σ (Ret fun u τ => u = v ∧ τ = σ) := fun w hs => by
  refine (FT.frame (σ := []) hc w hs).mono fun e w' ⟨τ, hs', σ'', hτ, he⟩ => ?_
  subst hτ
  exact ⟨σ, Ent.left _ _ _ _ _ hs', v, he, rfl, rfl⟩
end
end Go.Eng
