/- Rules to walk the functions of the seat: partial heaps, contracts, one rule an operation. No conditions. -/
import Derived.Test.YtfnjffmibiklfaaE2
namespace Go.Eng
open Go.RowKit

/-! ### Facts on types, each a closed equation -/
def aggB : TypeDesc → Bool
  | .struct _ | .array _ _ => true
  | _ => false
def scal (P : Program) (T : TypeId) : Bool := match P.underlying T, P.info? T with
  | some d, some i => !aggB d && i.size == 1
  | _, _ => false
def agg (P : Program) (T : TypeId) : Option Nat := match P.underlying T, P.info? T with
  | some d, some i => if aggB d then some i.size else none
  | _, _ => none
def fldOff (P : Program) (S f : Nat) : Option Nat := match P.underlying S with
  | some (.struct fs) => match fs[f]? with
    | some x => match P.info? x.type with
      | some i => if i.size = 0 then none else some x.offset
      | none => none
    | none => none
  | _ => none
def arrE (P : Program) (T : TypeId) : Option (Nat × Nat × Bool) := match P.underlying T with
  | some (.array len e) => match P.info? e, P.underlying e with
    | some i, some d => some (len, i.size, aggB d)
    | _, _ => none
  | _ => none
def slcE (P : Program) (T : TypeId) : Option (TypeId × Nat × Nat) := match P.underlying T with
  | some (.slice e) => match P.info? e with
    | some i => some (e, i.size, i.bytes)
    | none => none
  | _ => none
def zer (P : Program) (T : TypeId) : Option (List Value) := match P.info? T with
  | some i => i.zero.map fun v => v.cells.toList
  | none => none

section
variable {P : Program} {w : World}

theorem run_underlying' {T : TypeId} {d : TypeDesc} (h : P.underlying T = some d) : (underlying T).run P w = .ok d w := by
  simp [underlying, h]
theorem run_typeInfo' {T : TypeId} {i : TypeInfo} (h : P.info? T = some i) : (typeInfo T).run P w = .ok i w := by
  simp [typeInfo, h]
theorem run_sizeOf' {T : TypeId} {i : TypeInfo} (h : P.info? T = some i) : (sizeOf T).run P w = .ok i.size w := by
  simp [sizeOf, run_typeInfo' h]
theorem run_zeroValue' {T : TypeId} {i : TypeInfo} {v : Value} (h : P.info? T = some i) (hz : i.zero = some v) : (zeroValue T).run P w = .ok v w := by
  simp [zeroValue, run_typeInfo' h, hz]

theorem scal_spec {T : TypeId} (h : scal P T = true) : (isAgg T).run P w = .ok false w ∧ (sizeOf T).run P w = .ok 1 w := by
  unfold scal at h
  cases hd : P.underlying T with
  | none => rw [hd] at h; cases h
  | some d =>
    cases hi : P.info? T with
    | none => rw [hd, hi] at h; cases h
    | some i =>
      rw [hd, hi] at h
      simp only [Bool.and_eq_true, Bool.not_eq_true', beq_iff_eq] at h
      refine ⟨?_, by rw [run_sizeOf' hi, h.2]⟩
      unfold isAgg
      rw [Sem.run_bind, run_underlying' hd]
      cases d <;> first | rfl | (simp [aggB] at h)
theorem agg_spec {T : TypeId} {n : Nat} (h : agg P T = some n) : (isAgg T).run P w = .ok true w ∧ (sizeOf T).run P w = .ok n w := by
  unfold agg at h
  cases hd : P.underlying T with
  | none => rw [hd] at h; cases h
  | some d =>
    cases hi : P.info? T with
    | none => rw [hd, hi] at h; cases h
    | some i =>
      rw [hd, hi] at h
      simp only at h
      split at h
      · rename_i ha
        obtain rfl := Option.some.inj h
        refine ⟨?_, run_sizeOf' hi⟩
        unfold isAgg
        rw [Sem.run_bind, run_underlying' hd]
        cases d <;> first | rfl | (simp [aggB] at ha)
      · cases h
end

section
variable {P : Program} {k : World} {h0 : Hp} {σ : List HP} {ρ : Env} {d : Option Tmp} {ty : TypeId} {pos : String} {aft : Array Edge} {g : Option (Nat × Bool)}

/-! ### loads -/
theorem Addr.add_zero (a : Addr) : a.add 0 = a := rfl
theorem Addr.add_at (b o n : Nat) : (Addr.mk b o none).add n = ⟨b, o + n, none⟩ := by
  unfold Addr.add
  split
  · rename_i h; subst h; rfl
  · rfl

theorem V.load {T : TypeId} {x : Operand} {a : Addr} {v : Value} (hT : scal P T = true) (hx : ρ.ev x = some (.pointer (some a))) (hr : Rd h0 σ a v) : Val P k h0 σ ρ ⟨d, .load T x, ty, pos, aft, g⟩ v := fun A w ha hs => by
  have e := (scal_spec (w := w) hT).1
  have c := hr k w hs
  simp [execOp, ha.ev hx, Instr.loadAt, Instr.sureAddr, loadVar, e, c]

/-- Many cells in a row. -/
def Rds (h0 : Hp) (σ : List HP) (b o : Nat) (vs : List Value) : Prop := ∀ i v, vs[i]? = some v → Rd h0 σ ⟨b, o + i, none⟩ v

theorem run_loadCellsFrom {w : World} {b o : Nat} : ∀ (vs : List Value) (i : Nat) (acc : Array Value), (∀ j v, vs[j]? = some v → w.cell? ⟨b, o + (i + j), none⟩ = some v) →
    (loadCellsFrom ⟨b, o, none⟩ i vs.length acc).run P w = .ok (acc ++ vs.toArray) w
  | [], i, acc, _ => by simp [loadCellsFrom]
  | v :: vs, i, acc, h => by
    have h0 := h 0 v rfl
    simp only [Nat.add_zero] at h0
    simp only [List.length_cons, loadCellsFrom, Addr.add_at, Sem.run_bind, run_load, h0, Result.andThen_ok]
    rw [run_loadCellsFrom vs (i + 1) (acc.push v) (fun j u hj => by
      have := h (j + 1) u (by simpa using hj)
      rwa [show o + (i + 1 + j) = o + (i + (j + 1)) by omega])]
    simp

theorem V.loadN {T : TypeId} {x : Operand} {b o n : Nat} {vs : List Value} (hT : agg P T = some n) (hx : ρ.ev x = some (.pointer (some ⟨b, o, none⟩))) (hn : vs.length = n) (hr : Rds h0 σ b o vs) :
    Val P k h0 σ ρ ⟨d, .load T x, ty, pos, aft, g⟩ (.agg vs.toArray) := fun A w ha hs => by
  obtain ⟨e1, e2⟩ := agg_spec (w := w) hT
  have c := run_loadCellsFrom (P := P) (w := w) (b := b) (o := o) vs 0 #[] (fun j v hj => by simpa using hr j v hj k w hs)
  simp [execOp, ha.ev hx, Instr.loadAt, Instr.sureAddr, loadVar, e1, e2, loadCells, ← hn, c]

theorem Rds.own {b o : Nat} {cs vs : List Value} {T : TypeId} (i : Nat) (hi : σ[i]? = some (cl b cs T)) (h : (cs.drop o).take vs.length = vs) : Rds h0 σ b o vs := fun j v hj =>
  Rd.own i hi (by
    have hlt : j < vs.length := by
      rcases Nat.lt_or_ge j vs.length with g | g
      · exact g
      · rw [List.getElem?_eq_none g] at hj; cases hj
    have : ((cs.drop o).take vs.length)[j]? = some v := by rw [h]; exact hj
    rw [List.getElem?_take, if_pos hlt, List.getElem?_drop] at this
    exact this)

/-! ### stores -/
theorem cells_scalar {v : Value} (h1 : v.oneCell' = true) : v.cells = #[v] := by cases v <;> first | rfl | (simp [Value.oneCell'] at h1)

theorem E.store {T : TypeId} {x y : Operand} {a : Addr} {v : Value} {τ : List HP} (hT : scal P T = true) (hx : ρ.ev x = some (.pointer (some a))) (hy : ρ.ev y = some v) (h1 : v.oneCell' = true) (hw : Wr σ a v τ) :
    Eff P k h0 σ ρ ⟨d, .store T x y, ty, pos, aft, g⟩ τ := fun A w ha hs => by
  obtain ⟨⟨u, hu⟩, hf, hs'⟩ := hw k h0 w hs
  refine ⟨w.setCell a v, ?_, hs'⟩
  have e := (scal_spec (w := w) hT).2
  have e2 : (Go.store a v).run P w = .ok () (w.setCell a v) := by rw [run_store _ _ _ _ _ h1, hu]; simp [hf]
  simp [execOp, ha.ev hx, ha.ev hy, Instr.storeAt, Instr.sureAddr, storeVar, e, cells_scalar h1, storeCells, Addr.add_zero, e2]

/-- Writing several cells. -/
def Wrs (P : Program) (σ : List HP) (b o : Nat) (vs : List Value) (τ : List HP) : Prop := ∀ k h0 w, St k h0 σ w → ∃ w', (storeCells ⟨b, o, none⟩ vs).run P w = .ok () w' ∧ St k h0 τ w'

theorem E.storeN {T : TypeId} {x y : Operand} {b o n : Nat} {vs : List Value} {τ : List HP} (hT : agg P T = some n) (hx : ρ.ev x = some (.pointer (some ⟨b, o, none⟩))) (hy : ρ.ev y = some (.agg vs.toArray)) (hn : vs.length = n) (hw : Wrs P σ b o vs τ) :
    Eff P k h0 σ ρ ⟨d, .store T x y, ty, pos, aft, g⟩ τ := fun A w ha hs => by
  obtain ⟨w', hr, hs'⟩ := hw k h0 w hs
  refine ⟨w', ?_, hs'⟩
  have e := (agg_spec (w := w) hT).2
  simp [execOp, ha.ev hx, ha.ev hy, Instr.storeAt, Instr.sureAddr, storeVar, e, Value.cells, hn, hr]

def over (cs : List Value) (o : Nat) : List Value → List Value
  | [] => cs
  | v :: vs => over (cs.set o v) (o + 1) vs

theorem Wrs.aux {b T : Nat} : ∀ (vs : List Value) (o j : Nat) (σ : List HP) (i : Nat) (cs : List Value) (w : World), σ[i]? = some (cl b cs T) → o + j + vs.length ≤ cs.length → (∀ v ∈ vs, v.oneCell' = true) → St k h0 σ w →
    ∃ w', (storeCells ⟨b, o, none⟩ vs j).run P w = .ok () w' ∧ St k h0 (σ.set i (cl b (over cs (o + j) vs) T)) w'
  | [], o, j, σ, i, cs, w, hi, _, _, hs => ⟨w, rfl, by
      have : σ.set i (cl b cs T) = σ := by
        apply List.ext_getElem?
        intro m
        rw [List.getElem?_set]
        split
        · rename_i h; subst h; split
          · exact hi.symm
          · rename_i h; rw [List.getElem?_eq_none (by omega)]
        · rfl
      rw [over, this]; exact hs⟩
  | v :: vs, o, j, σ, i, cs, w, hi, hlen, h1, hs => by
    simp only [List.length_cons] at hlen
    obtain ⟨⟨u, hu⟩, hf, hs'⟩ := Wr.own (v := v) (off := o + j) i hi (by omega) k h0 w hs
    have hil : i < σ.length := by
      rcases Nat.lt_or_ge i σ.length with g | g
      · exact g
      · rw [List.getElem?_eq_none g] at hi; cases hi
    obtain ⟨w', hr, hs''⟩ := Wrs.aux (b := b) (T := T) vs o (j + 1) (σ.set i (cl b (cs.set (o + j) v) T)) i (cs.set (o + j) v) _ (by rw [List.getElem?_set]; simp [hil]) (by simp; omega) (fun x hx => h1 x (List.mem_cons_of_mem _ hx)) hs'
    refine ⟨w', ?_, ?_⟩
    · have e2 : (Go.store ⟨b, o + j, none⟩ v).run P w = .ok () (w.setCell ⟨b, o + j, none⟩ v) := by rw [run_store _ _ _ _ _ (h1 v List.mem_cons_self), hu]; simp [hf]
      simp only [storeCells, Addr.add_at, Sem.run_bind, e2, Result.andThen_ok]
      exact hr
    · rw [List.set_set] at hs''
      simpa [over, Nat.add_assoc] using hs''

theorem Wrs.own {b o T : Nat} {cs vs : List Value} (i : Nat) (hi : σ[i]? = some (cl b cs T)) (hlen : o + vs.length ≤ cs.length) (h1 : ∀ v ∈ vs, v.oneCell' = true) : Wrs P σ b o vs (σ.set i (cl b (over cs o vs) T)) :=
  fun _ _ w hs => by simpa using Wrs.aux vs o 0 σ i cs w hi (by simpa using hlen) h1 hs

/-- The whole of a block. -/
theorem over_all : ∀ (vs pre cs : List Value), cs.length = vs.length → over (pre ++ cs) pre.length vs = pre ++ vs
  | [], pre, cs, h => by simp at h; simp [over, h]
  | v :: vs, pre, [], h => by simp at h
  | v :: vs, pre, c :: cs, h => by
    simp only [over]
    have : (pre ++ c :: cs).set pre.length v = (pre ++ [v]) ++ cs := by simp
    rw [this]
    have := over_all vs (pre ++ [v]) cs (by simpa using h)
    simp only [List.length_append, List.length_cons, List.length_nil] at this
    simpa using this

theorem Wrs.all {b T : Nat} {cs vs : List Value} (i : Nat) (hi : σ[i]? = some (cl b cs T)) (hlen : cs.length = vs.length) (h1 : ∀ v ∈ vs, v.oneCell' = true) : Wrs P σ b 0 vs (σ.set i (cl b vs T)) := by
  have := Wrs.own (P := P) (o := 0) i hi (by omega) h1
  have e := over_all vs [] cs hlen
  simp only [List.nil_append, List.length_nil] at e
  rwa [e] at this

/-! ### new memory -/
theorem M.box {T : TypeId} {x : Operand} {v : Value} {cs : List Value} (hx : ρ.ev x = some v) (hc : v.cells = cs.toArray) :
    Mem P k h0 σ ρ ⟨d, .box T x, ty, pos, aft, g⟩ (fun b : Nat => .pointer (some ⟨b, 0, none⟩)) (fun b => cl b cs T :: σ) := fun A w ha hs =>
  ⟨w.heap.size, _, by simp only [execOp, ha.ev hx, Instr.box, newVar, newRow, hc]; rfl, hs.new _⟩

theorem M.alloc {T : TypeId} {cs : List Value} (hz : zer P T = some cs) :
    Mem P k h0 σ ρ ⟨d, .alloc T, ty, pos, aft, g⟩ (fun b : Nat => .pointer (some ⟨b, 0, none⟩)) (fun b => cl b cs T :: σ) := fun A w ha hs => by
  unfold zer at hz
  cases hi : P.info? T with
  | none => rw [hi] at hz; cases hz
  | some i =>
    rw [hi] at hz
    cases hz0 : i.zero with
    | none => simp [hz0] at hz
    | some z =>
      simp [hz0] at hz
      refine ⟨w.heap.size, _, ?_, hs.new _⟩
      simp only [execOp, Instr.alloc, Sem.run_bind, run_zeroValue' hi hz0, Result.andThen_ok, newVar, newRow]
      subst hz
      rfl

/-! ### addresses -/
theorem fieldPlace_at {w : World} {b o off : Nat} {S f : Nat} {fs : Array Field} {x : Field} (hS : P.underlying S = some (.struct fs)) (hf : fs[f]? = some x) (h : fldOff P S f = some off) :
    (fieldPlace ⟨b, o, none⟩ x).run P w = .ok ⟨b, o + off, none⟩ w := by
  unfold fldOff at h
  rw [hS] at h
  simp only [hf] at h
  cases hi : P.info? x.type with
  | none => rw [hi] at h; cases h
  | some i =>
    rw [hi] at h
    simp only at h
    split at h
    · cases h
    · rename_i hn
      obtain rfl := Option.some.inj h
      simp [fieldPlace, run_sizeOf' hi, hn, Addr.add_at]

theorem V.fieldAddr {S f : Nat} {x : Operand} {b o off o' : Nat} (hf : fldOff P S f = some off) (hx : ρ.ev x = some (.pointer (some ⟨b, o, none⟩))) (ho : o + off = o') :
    Val P k h0 σ ρ ⟨d, .fieldAddr S x f, ty, pos, aft, g⟩ (.pointer (some ⟨b, o', none⟩)) := fun A w ha hs => by
  have hf0 := hf
  unfold fldOff at hf0
  cases hS : P.underlying S with
  | none => rw [hS] at hf0; cases hf0
  | some D =>
    rw [hS] at hf0
    cases D <;> try (cases hf0; done)
    rename_i fs
    simp only at hf0
    cases hx' : fs[f]? with
    | none => rw [hx'] at hf0; cases hf0
    | some y =>
      have := fieldPlace_at (P := P) (w := w) (b := b) (o := o) hS hx' hf
      subst ho
      simp [execOp, ha.ev hx, Instr.fieldAt, run_underlying' hS, hx', Instr.sureAddr, this]

theorem slcE_spec {T E sz by_ : Nat} (h : slcE P T = some (E, sz, by_)) : P.underlying T = some (.slice E) ∧ ∃ i, P.info? E = some i ∧ i.size = sz ∧ i.bytes = by_ := by
  unfold slcE at h
  cases hS : P.underlying T with
  | none => rw [hS] at h; cases h
  | some D =>
    rw [hS] at h
    cases D <;> try (cases h; done)
    rename_i e
    simp only at h
    cases hi : P.info? e with
    | none => rw [hi] at h; cases h
    | some i =>
      rw [hi] at h
      simp only [Option.some.injEq, Prod.mk.injEq] at h
      obtain ⟨rfl, rfl, rfl⟩ := h
      exact ⟨rfl, i, hi, rfl, rfl⟩

theorem arrE_spec {T len sz : Nat} {ag : Bool} (h : arrE P T = some (len, sz, ag)) : ∃ E, P.underlying T = some (.array len E) ∧ (∃ i, P.info? E = some i ∧ i.size = sz) ∧ ∃ D, P.underlying E = some D ∧ aggB D = ag := by
  unfold arrE at h
  cases hS : P.underlying T with
  | none => rw [hS] at h; cases h
  | some D =>
    rw [hS] at h
    cases D <;> try (cases h; done)
    rename_i n e
    simp only at h
    cases hi : P.info? e with
    | none => rw [hi] at h; cases h
    | some i =>
      cases hd : P.underlying e with
      | none => rw [hi, hd] at h; cases h
      | some D =>
        rw [hi, hd] at h
        simp only [Option.some.injEq, Prod.mk.injEq] at h
        obtain ⟨rfl, rfl, rfl⟩ := h
        exact ⟨e, rfl, ⟨i, hi, rfl⟩, D, hd, rfl⟩

/-- 'xs[i]', of a slice. -/
theorem V.indexS {T E sz by_ : Nat} {x y : Operand} {b o len cap : Nat} {j : IntKind} {i : Int} (hT : slcE P T = some (E, sz, by_)) (hx : ρ.ev x = some (.slice (some ⟨b, o, none⟩) len cap)) (hy : ρ.ev y = some (.int j i)) (hb : 0 ≤ i ∧ i < len) :
    Val P k h0 σ ρ ⟨d, .indexAddr T x y, ty, pos, aft, g⟩ (.pointer (some ⟨b, o + i.toNat * sz, none⟩)) := fun A w ha hs => by
  obtain ⟨hu, ii, hi, h1, h2⟩ := slcE_spec hT
  simp [execOp, ha.ev hx, ha.ev hy, Instr.indexAt, asIntOf, run_underlying' hu, hb, run_sizeOf' hi, h1, Addr.add_at]

/-- '(*a)[i]', of an array in memory. -/
theorem V.indexA {T len sz : Nat} {ag : Bool} {x y : Operand} {b o : Nat} {j : IntKind} {i : Int} (hT : arrE P T = some (len, sz, ag)) (hx : ρ.ev x = some (.pointer (some ⟨b, o, none⟩))) (hy : ρ.ev y = some (.int j i)) (hb : 0 ≤ i ∧ i < len) :
    Val P k h0 σ ρ ⟨d, .indexAddr T x y, ty, pos, aft, g⟩ (.pointer (some ⟨b, o + i.toNat * sz, none⟩)) := fun A w ha hs => by
  obtain ⟨E, hu, ⟨ii, hi, h1⟩, _⟩ := arrE_spec hT
  simp [execOp, ha.ev hx, ha.ev hy, Instr.indexAt, asIntOf, run_underlying' hu, hb, run_sizeOf' hi, h1, Addr.add_at, Instr.sureAddr]

/-- 'a[i]', of an array that is a value, its elements of one cell. -/
theorem V.index {T len : Nat} {x y : Operand} {cs : Array Value} {j : IntKind} {i : Int} {v : Value} (hT : arrE P T = some (len, 1, false)) (hx : ρ.ev x = some (.agg cs)) (hy : ρ.ev y = some (.int j i)) (hb : 0 ≤ i ∧ i < len) (hv : cs[i.toNat]? = some v) :
    Val P k h0 σ ρ ⟨d, .index T x y, ty, pos, aft, g⟩ v := fun A w ha hs => by
  obtain ⟨E, hu, ⟨ii, hi, h1⟩, D, hD, hag⟩ := arrE_spec hT
  have : (isAgg E).run P w = .ok false w := by
    unfold isAgg
    rw [Sem.run_bind, run_underlying' hD]
    cases D <;> first | rfl | (simp [aggB] at hag)
  simp [execOp, ha.ev hx, ha.ev hy, Instr.index, asIntOf, run_underlying' hu, hb, run_sizeOf' hi, h1, part, this, hv]

/-- ... of several cells. -/
theorem V.indexN {T len sz : Nat} {x y : Operand} {cs : Array Value} {j : IntKind} {i : Int} {vs : List Value} (hT : arrE P T = some (len, sz, true)) (hx : ρ.ev x = some (.agg cs)) (hy : ρ.ev y = some (.int j i)) (hb : 0 ≤ i ∧ i < len) (hv : cs.extract (i.toNat * sz) (i.toNat * sz + sz) = vs.toArray) :
    Val P k h0 σ ρ ⟨d, .index T x y, ty, pos, aft, g⟩ (.agg vs.toArray) := fun A w ha hs => by
  obtain ⟨E, hu, ⟨ii, hi, h1⟩, D, hD, hag⟩ := arrE_spec hT
  have : (isAgg E).run P w = .ok true w := by
    unfold isAgg
    rw [Sem.run_bind, run_underlying' hD]
    cases D <;> first | rfl | (simp [aggB] at hag)
  simp [execOp, ha.ev hx, ha.ev hy, Instr.index, asIntOf, run_underlying' hu, hb, run_sizeOf' hi, h1, part, this, hv]

theorem V.nilCheck {x : Operand} {a : Addr} (hx : ρ.ev x = some (.pointer (some a))) : Val P k h0 σ ρ ⟨d, .nilCheck x, ty, pos, aft, g⟩ (.pointer (some a)) := fun A w ha hs => by
  simp [execOp, ha.ev hx]

theorem V.convInt {T U : TypeId} {x : Operand} {j j' D : _} {n : Int} (hT : P.underlying T = some D) (hU : P.underlying U = some (.int j')) (hx : ρ.ev x = some (.int j n)) : Val P k h0 σ ρ ⟨d, .convert T U x, ty, pos, aft, g⟩ (.int j' (j'.wrap n)) := fun A w ha hs => by
  simp [execOp, ha.ev hx, convert, run_underlying' hT, run_underlying' hU, Conv.intToInt]

theorem V.lenS {T : TypeId} {x : Operand} {E sz by_ : Nat} {a : Option Addr} {len cap : Nat} {tt : Array TypeId} (hT : slcE P T = some (E, sz, by_)) (htt : tt[0]? = some T) (hx : ρ.ev x = some (.slice a len cap)) :
    Val P k h0 σ ρ ⟨d, .call ⟨.builtin .len, #[x], tt⟩, ty, pos, aft, g⟩ (.int .i64 len) := fun A w ha hs => by
  obtain ⟨hu, _⟩ := slcE_spec hT
  simp [execOp, resolve, invoke, builtin, Builtin.len_, ha.ev hx, htt, run_underlying' hu, goInt]

theorem run_equal_ptr_nil {T E : TypeId} {p : Option Addr} {w : World} (hT : P.underlying T = some (.pointer E)) : (Op.equal T (.pointer p) (.pointer none)).run P w = .ok p.isNone w := by
  unfold Op.equal
  rw [show Op.maxDepth = 9999 + 1 from rfl]
  unfold Op.equalIn
  rw [Sem.run_bind, run_underlying' hT]
  cases p <;> rfl
theorem V.eqlPtrNil {T U E : TypeId} {x : Operand} {p : Option Addr} (hT : P.underlying T = some (.pointer E)) (hx : ρ.ev x = some (.pointer p)) : Val P k h0 σ ρ ⟨d, .binOp .eql T x (.const (.pointer none)) U, ty, pos, aft, g⟩ (.bool p.isNone) := fun A w ha hs => by
  have := run_equal_ptr_nil (P := P) (p := p) (w := w) hT
  have e0 : ∀ v, A.eval (.const v) = v := fun _ => rfl
  simp only [execOp, ha.ev hx, e0]
  simp [eqGuard, binOp, this]
theorem V.neqPtrNil {T U E : TypeId} {x : Operand} {p : Option Addr} (hT : P.underlying T = some (.pointer E)) (hx : ρ.ev x = some (.pointer p)) : Val P k h0 σ ρ ⟨d, .binOp .neq T x (.const (.pointer none)) U, ty, pos, aft, g⟩ (.bool (!p.isNone)) := fun A w ha hs => by
  have := run_equal_ptr_nil (P := P) (p := p) (w := w) hT
  have e0 : ∀ v, A.eval (.const v) = v := fun _ => rfl
  simp only [execOp, ha.ev hx, e0]
  simp [eqGuard, binOp, this]
theorem V.mkIface {T : TypeId} {x : Operand} {v : Value} {D : TypeDesc} (hT : P.underlying T = some D) (hD : (match D with | .interface _ => false | _ => true) = true) (hx : ρ.ev x = some v) : Val P k h0 σ ρ ⟨d, .makeInterface T x, ty, pos, aft, g⟩ (.iface T v) := fun A w ha hs => by
  cases D <;> simp [execOp, ha.ev hx, Instr.makeInterface, run_underlying' hT] at hD ⊢
theorem V.mkFunc {fn : Fn} {cap : Array Operand} {vs : List Value} (hc : cap.toList.map ρ.ev = vs.map some) : Val P k h0 σ ρ ⟨d, .makeFunc fn #[] cap, ty, pos, aft, g⟩ (.func fn #[] vs.toArray) := fun A w ha hs => by
  have : cap.map A.eval = vs.toArray := by
    apply Array.ext'
    simp only [Array.toList_map]
    revert hc
    generalize cap.toList = l
    intro hc
    induction l generalizing vs with
    | nil => cases vs <;> simp at hc ⊢
    | cons x l ih =>
      cases vs with
      | nil => simp at hc
      | cons v vs =>
        simp only [List.map_cons, List.cons.injEq] at hc ⊢
        exact ⟨ha.ev hc.1, ih hc.2⟩
  simp [execOp, Instr.makeFunc, this]
end
end Go.Eng
