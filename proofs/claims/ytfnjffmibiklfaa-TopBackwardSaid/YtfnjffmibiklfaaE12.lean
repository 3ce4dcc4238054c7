/- Rules to walk the functions of the seat: partial heaps, contracts, one rule an operation. No conditions. -/
import Derived.Test.YtfnjffmibiklfaaE11
namespace Go.Eng
open Go.RowKit

section
variable {P : Program} {k : World} {h0 : Hp} {σ : List HP} {ρ : Env} {d : Option Tmp} {ty : TypeId} {pos : String} {aft : Array Edge} {g : Option (Nat × Bool)}

/-- 's[i]', of a string. -/
theorem V.indexStr {T : TypeId} {x y : Operand} {s : ByteArray} {j : IntKind} {i : Int} {b : UInt8} (hT : P.underlying T = some .string) (hx : ρ.ev x = some (.string s)) (hy : ρ.ev y = some (.int j i)) (hb : 0 ≤ i) (hv : s[i.toNat]? = some b) :
    Val P k h0 σ ρ ⟨d, .index T x y, ty, pos, aft, g⟩ (.int .u8 (b.toNat : Int)) := fun A w ha hs => by
  simp [execOp, ha.ev hx, ha.ev hy, Instr.index, asIntOf, run_underlying' hT, hb, hv]

def ifcB (P : Program) (T : TypeId) : Bool := match P.underlying T with | some (.interface _) => true | _ => false
theorem ifcB_spec {T : TypeId} (h : ifcB P T = true) : ∃ ms, P.underlying T = some (.interface ms) := by
  unfold ifcB at h
  split at h
  · exact ⟨_, by assumption⟩
  · cases h
theorem run_equal_iface_nil {T : TypeId} {t : TypeId} {v : Value} {w : World} (hT : ifcB P T = true) : (Op.equal T (.iface t v) .nilIface).run P w = .ok false w := by
  obtain ⟨ms, hT⟩ := ifcB_spec hT
  unfold Op.equal
  rw [show Op.maxDepth = 9999 + 1 from rfl]
  unfold Op.equalIn
  simp [run_underlying' hT]
theorem V.eqlIfaceNil {T U : TypeId} {x : Operand} {t : TypeId} {v : Value} (hT : ifcB P T = true) (hx : ρ.ev x = some (.iface t v)) : Val P k h0 σ ρ ⟨d, .binOp .eql T x (.const .nilIface) U, ty, pos, aft, g⟩ (.bool false) := fun A w ha hs => by
  have e : A.eval (.const .nilIface) = .nilIface := rfl
  simp [execOp, ha.ev hx, e, eqGuard, binOp, run_equal_iface_nil hT]
theorem V.neqIfaceNil {T U : TypeId} {x : Operand} {t : TypeId} {v : Value} (hT : ifcB P T = true) (hx : ρ.ev x = some (.iface t v)) : Val P k h0 σ ρ ⟨d, .binOp .neq T x (.const .nilIface) U, ty, pos, aft, g⟩ (.bool true) := fun A w ha hs => by
  have e : A.eval (.const .nilIface) = .nilIface := rfl
  simp [execOp, ha.ev hx, e, eqGuard, binOp, run_equal_iface_nil hT]

/-- Two structs of whole numbers, held against each other. -/
def intsS (P : Program) (T : TypeId) (n : Nat) (kd : IntKind) : Bool :=
  match P.underlying T with
  | some (.struct fs) => !P.stoodInHeld T && !P.eqGuardType P.depth T && (fs.toList.length == n) && (fs.toList.zipIdx).all fun (f, i) => f.name != "_" && f.offset == i && scal P f.type && (match P.underlying f.type with | some (.int k') => k' == kd | _ => false)
  | _ => false

theorem run_equal_struct {T n : Nat} {kd : IntKind} (hT : intsS P T n kd = true) (xs ys : List Int) (hx : xs.length = n) (hy : ys.length = n) (w : World) :
    (Op.equal T (.agg (xs.map (Value.int kd)).toArray) (.agg (ys.map (Value.int kd)).toArray)).run P w = .ok (decide (xs = ys)) w := by
  unfold intsS at hT
  cases hu : P.underlying T with
  | none => rw [hu] at hT; cases hT
  | some D =>
    rw [hu] at hT
    cases D with
    | struct fs =>
      simp only [Bool.and_eq_true, Bool.not_eq_true', List.all_eq_true, beq_iff_eq, bne_iff_ne, ne_eq] at hT
      obtain ⟨⟨⟨hst, _⟩, hlen⟩, hall⟩ := hT
      unfold Op.equal
      rw [show Op.maxDepth = 9998 + 1 + 1 from rfl]
      unfold Op.equalIn
      simp only [Sem.run_bind, run_underlying' hu, Result.andThen_ok, run_program, hst, Bool.false_eq_true, if_false, Sem.run_pure]
      rw [← Array.forIn_toList]
      have key : ∀ (m s : Nat), s + m = n → xs.take s = ys.take s →
          ((forIn (m := Sem) (fs.toList.drop s) ((none, ()) : Option Bool × Unit) fun f _ => do
            if f.name ≠ "_" then do
              let a ← part f.type (xs.map (Value.int kd)).toArray f.offset
              let b ← part f.type (ys.map (Value.int kd)).toArray f.offset
              let e ← Op.equalIn 9999 f.type a b
              if (!e) = true then pure (ForInStep.done (some false, ())) else pure (ForInStep.yield (none, ()))
            else pure (ForInStep.yield (none, ()))).run P w) =
          .ok (if xs = ys then (none, ()) else (some false, ())) w := by
        intro m
        induction m with
        | zero =>
          intro s hsm htk
          have : xs = ys := by
            rw [List.take_of_length_le (by omega), List.take_of_length_le (by omega)] at htk
            exact htk
          rw [List.drop_eq_nil_of_le (by omega)]
          simp [this]
        | succ m ih =>
          intro s hsm htk
          have hsx : s < xs.length := by omega
          have hsy : s < ys.length := by omega
          have hsf : s < fs.toList.length := by omega
          obtain ⟨⟨⟨hname, hoff⟩, hsc⟩, hE'⟩ := hall (fs.toList[s], s) (by rw [List.mem_iff_getElem]; exact ⟨s, by simpa using hsf, by simp⟩)
          have hE : P.underlying fs.toList[s].type = some (.int kd) := by
            cases hd : P.underlying fs.toList[s].type with
            | none => rw [hd] at hE'; cases hE'
            | some D =>
              rw [hd] at hE'
              cases D <;> first | (simp at hE'; subst hE'; rfl) | cases hE'
          have p1 := run_part1 (P := P) (E := fs.toList[s].type) (cs := (xs.map (Value.int kd)).toArray) (i := fs.toList[s].offset) (v := .int kd xs[s]) (w := w) hsc (by rw [hoff]; simp [hsx])
          have p2 := run_part1 (P := P) (E := fs.toList[s].type) (cs := (ys.map (Value.int kd)).toArray) (i := fs.toList[s].offset) (v := .int kd ys[s]) (w := w) hsc (by rw [hoff]; simp [hsy])
          rw [List.drop_eq_getElem_cons hsf, List.forIn_cons, if_pos hname]
          simp only [Sem.run_bind, p1, p2, Result.andThen_ok, run_equalIn_int w 9998 _ kd kd xs[s] ys[s] hE]
          by_cases he : xs[s] = ys[s]
          · have := ih (s + 1) (by omega) (by rw [List.take_succ_eq_append_getElem hsx, List.take_succ_eq_append_getElem hsy, htk, he])
            simp only [he, beq_self_eq_true, Bool.not_true, Bool.false_eq_true, if_false, Sem.run_bind, Sem.run_pure, Result.andThen_ok]
            exact this
          · have hne : xs ≠ ys := fun e => he (by simp [e])
            have : (xs[s] == ys[s]) = false := by simpa using he
            simp [this, hne]
      have := key n 0 (by omega) (by simp)
      rw [List.drop_zero] at this
      refine (congrArg (fun r => Result.andThen r _) this).trans ?_
      by_cases h : xs = ys
      · simp [h]
      · simp [h]
    | _ => cases hT

theorem intsS_guard {T n : Nat} {kd : IntKind} (hT : intsS P T n kd = true) : P.eqGuardType P.depth T = false := by
  unfold intsS at hT
  split at hT
  · simp only [Bool.and_eq_true, Bool.not_eq_true'] at hT; exact hT.1.1.2
  · cases hT
theorem V.eqlIntsS {T U n : Nat} {kd : IntKind} {x y : Operand} {xs ys : List Int} (hT : intsS P T n kd = true)
    (hx : ρ.ev x = some (.agg (xs.map (Value.int kd)).toArray)) (hy : ρ.ev y = some (.agg (ys.map (Value.int kd)).toArray)) (hlx : xs.length = n) (hly : ys.length = n) : Val P k h0 σ ρ ⟨d, .binOp .eql T x y U, ty, pos, aft, g⟩ (.bool (decide (xs = ys))) := fun A w ha hst => by
  have := run_equal_struct (P := P) hT xs ys hlx hly w
  simp only [execOp, ha.ev hx, ha.ev hy, Sem.run_bind, run_eqGuard_agg w .eql T x y _ _ (intsS_guard hT), Result.andThen_ok, binOp, this, Sem.run_pure]
theorem V.neqIntsS {T U n : Nat} {kd : IntKind} {x y : Operand} {xs ys : List Int} (hT : intsS P T n kd = true)
    (hx : ρ.ev x = some (.agg (xs.map (Value.int kd)).toArray)) (hy : ρ.ev y = some (.agg (ys.map (Value.int kd)).toArray)) (hlx : xs.length = n) (hly : ys.length = n) : Val P k h0 σ ρ ⟨d, .binOp .neq T x y U, ty, pos, aft, g⟩ (.bool (!decide (xs = ys))) := fun A w ha hst => by
  have := run_equal_struct (P := P) hT xs ys hlx hly w
  simp only [execOp, ha.ev hx, ha.ev hy, Sem.run_bind, run_eqGuard_agg w .neq T x y _ _ (intsS_guard hT), Result.andThen_ok, binOp, this, Sem.run_pure]

theorem Rds.of {b o T : Nat} {cs vs : List Value} (hb : h0 b = some (.cells cs.toArray T)) (h : (cs.drop o).take vs.length = vs) : Rds h0 σ b o vs := fun j v hj => by
  refine Rd.of hb ?_
  have : ((cs.drop o).take vs.length)[j]? = some v := by rw [h]; exact hj
  rw [List.getElem?_take] at this
  split at this
  · rw [List.getElem?_toArray]; simpa using this
  · cases this
end

section
variable {P : Program} {k : World} {h0 : Hp} {Q : Post} {σ : List HP} {K : Env → List HP → Prop} {ops rest : List Oper}
  {n : Nat} {ds : List Deferred} {l : List (Nat × Value)}
/-- A call through an interface value that owns nothing and hands back 'u'. -/
theorem WL.invV {d : Nat} {ty : TypeId} {pos : String} {aft : Array Edge} {g : Option (Nat × Bool)} {f : FuncId} {t : TypeId} {v rv u : Value} {name : String} {recv : Operand} {args : List Operand} {tt : Array TypeId} {vs : List Value}
    (hw : wantE ops ⟨n, ds, l⟩ g = some true) (hd : Nat.blt d n = true) (hr : (Env.mk n ds l).ev recv = some (.iface t v)) (hm : ∀ w, (method (P.types.size + Made.depth) t v name).run P w = .ok (f, rv) w) (hf : IsFn P f) (hv : evs ⟨n, ds, l⟩ args = some vs)
    (hc : ∀ g, Stars σ g → h0.Dj g → FT P f (rv :: vs) k (h0.un g) [] (Is u)) (h : WL P k h0 ops K Q rest ⟨n, ds, (d, u) :: l⟩ σ) :
    WL P k h0 ops K Q (⟨some d, .call ⟨.invoke recv name, args.toArray, tt⟩, ty, pos, aft, g⟩ :: rest) ⟨n, ds, l⟩ σ :=
  WL.inv hw hd hr hm hf hv (FT.pure hc) (fun _ _ ⟨e, e'⟩ => by subst e e'; exact h)
end
end Go.Eng
