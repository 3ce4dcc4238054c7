/- Rules to walk the functions of the seat: partial heaps, contracts, one rule an operation. No conditions. -/
import Derived.Test.YtfnjffmibiklfaaE7
namespace Go.Eng
open Go.RowKit

section
variable {P : Program} {k : World} {h0 : Hp} {σ : List HP} {ρ : Env} {d : Option Tmp} {ty : TypeId} {pos : String} {aft : Array Edge} {g : Option (Nat × Bool)}

theorem zer_spec {T : Nat} {zs : List Value} (h : zer P T = some zs) : ∃ i z, P.info? T = some i ∧ i.zero = some z ∧ z.cells = zs.toArray := by
  unfold zer at h
  cases hi : P.info? T with
  | none => rw [hi] at h; cases h
  | some i =>
    rw [hi] at h
    cases hz : i.zero with
    | none => simp [hz] at h
    | some z =>
      simp [hz] at h
      exact ⟨i, z, rfl, hz, by rw [← h]⟩

theorem madeCells_one (z : Value) (n : Nat) : madeCells #[z] n = (List.replicate n z).toArray := by
  apply Array.ext'
  simp [madeCells]
  apply List.ext_getElem
  · simp
  · intro i h1 h2
    simp [Nat.mod_one]

/-- 'make([]T, n)', the elements of one cell. -/
theorem M.make {T E by_ : Nat} {z : Value} {x y : Operand} {j j' : IntKind} {n : Int} (hT : slcE P T = some (E, 1, by_)) (hz : zer P E = some [z]) (hx : ρ.ev x = some (.int j n)) (hy : ρ.ev y = some (.int j' n)) (hn : 0 ≤ n ∧ n ≤ 9223372036854775807 ∧ (by_ : Int) * n ≤ 281474976710656) :
    Mem P k h0 σ ρ ⟨d, .makeSlice T x y, ty, pos, aft, g⟩ (fun b : Nat => .slice (some ⟨b, 0, none⟩) n.toNat n.toNat) (fun b => cl b (List.replicate n.toNat z) E :: σ) := fun A w ha hs => by
  obtain ⟨hu, i, hi, hsz, hby⟩ := slcE_spec hT
  obtain ⟨i', z', hi', hz0, hzc⟩ := zer_spec hz
  rw [hi] at hi'
  obtain rfl := Option.some.inj hi'
  have := run_make (P := P) w T E i z' hu hi hz0 j j' n n hn.1 (Int.le_refl _) (by rw [hby]; exact hn.2.2) hn.2.1
  refine ⟨w.heap.size, _, ?_, hs.new _⟩
  simp only [execOp, ha.ev hx, ha.ev hy, Sem.run_bind, this, Result.andThen_ok]
  rw [hzc, hsz, Nat.mul_one, madeCells_one]
  rfl


def evp (ρ : Env) : List (Nat × Operand) → Option (List (Nat × Value))
  | [] => some []
  | x :: r => match ρ.ev x.2, evp ρ r with
    | some v, some vs => some ((x.1, v) :: vs)
    | _, _ => none

theorem evp_map {ρ : Env} {a : Act} (ha : ρ.Ok a) : ∀ (l : List (Nat × Operand)) (vs : List (Nat × Value)), evp ρ l = some vs → l.map (fun x => (x.1, a.eval x.2)) = vs := by
  intro l
  induction l with
  | nil => intro vs h; simp only [evp, Option.some.injEq] at h; subst h; rfl
  | cons x l ih =>
    intro vs h
    simp only [evp] at h
    cases hx : ρ.ev x.2 with
    | none => rw [hx] at h; simp at h
    | some v =>
      cases hl : evp ρ l with
      | none => rw [hx, hl] at h; simp at h
      | some us =>
        rw [hx, hl] at h
        simp only [Option.some.injEq] at h
        subst h
        simp only [List.map_cons, ha.ev hx, ih us hl]

def fillL (place : Nat → Option (Nat × Nat)) : List Value → List (Nat × Value) → Option (List Value)
  | cs, [] => some cs
  | cs, (i, v) :: r => match place i with
    | none => none
    | some (off, size) => if v.cells.toList.length ≠ size || off + v.cells.toList.length > cs.length then none else fillL place (over cs off v.cells.toList) r

theorem length_over : ∀ (vs cs : List Value) (o : Nat), (over cs o vs).length = cs.length
  | [], _, _ => rfl
  | v :: vs, cs, o => by simp only [over]; rw [length_over vs]; simp

theorem foldl_over : ∀ (vs : List Value) (cs : List Value) (off j : Nat), (vs.zipIdx j).foldl (fun (c : Array Value) (x : Value × Nat) => c.setIfInBounds (off + x.2) x.1) cs.toArray = (over cs (off + j) vs).toArray
  | [], _, _, _ => rfl
  | v :: vs, cs, off, j => by
    simp only [List.zipIdx_cons, List.foldl_cons, over]
    have : cs.toArray.setIfInBounds (off + j) v = (cs.set (off + j) v).toArray := by simp
    rw [this, foldl_over vs _ off (j + 1), Nat.add_assoc]

theorem fill_eq (place : Nat → Option (Nat × Nat)) : ∀ (vs : List (Nat × Value)) (cs r : List Value), fillL place cs vs = some r → Instr.fill place cs.toArray vs = some r.toArray
  | [], cs, r, h => by simp only [fillL, Option.some.injEq] at h; subst h; rfl
  | (i, v) :: vs, cs, r, h => by
    simp only [fillL] at h
    unfold Instr.fill
    cases hp : place i with
    | none => rw [hp] at h; cases h
    | some os =>
      obtain ⟨off, size⟩ := os
      rw [hp] at h
      simp only at h ⊢
      split at h
      · cases h
      · rename_i hn
        rw [if_neg (by simpa using hn)]
        have e : (v.cells.zipIdx.foldl (fun (cs : Array Value) (x : Value × Nat) => cs.setIfInBounds (off + x.2) x.1) cs.toArray) = (over cs off v.cells.toList).toArray := by
          rw [← Array.foldl_toList, Array.toList_zipIdx]
          exact foldl_over v.cells.toList cs off 0
        rw [show (v.cells.zipIdx.foldl (fun cs x => match x with | (c, j) => cs.setIfInBounds (off + j) c) cs.toArray) = (over cs off v.cells.toList).toArray from e]
        exact fill_eq place vs _ r h

def bldS (P : Program) (T : TypeId) : Option (List (Nat × Nat)) := match P.underlying T with
  | some (.struct fs) => fs.toList.mapM fun f => (P.info? f.type).map fun i => (f.offset, i.size)
  | _ => none

theorem V.buildA {T len sz : Nat} {ag : Bool} {parts : Array (Nat × Operand)} {vs : List (Nat × Value)} {zs cs : List Value} (hT : arrE P T = some (len, sz, ag)) (hz : zer P T = some zs) (hp : evp ρ parts.toList = some vs) (hf : fillL (fun i => some (i * sz, sz)) zs vs = some cs) :
    Val P k h0 σ ρ ⟨d, .build T parts, ty, pos, aft, g⟩ (.agg cs.toArray) := fun A w ha hs => by
  obtain ⟨E, hu, ⟨ii, hi, h1⟩, _⟩ := arrE_spec hT
  obtain ⟨i', z', hi', hz0, hzc⟩ := zer_spec hz
  have hparts := evp_map ha _ _ hp
  subst h1
  simp only [execOp, Instr.build, Sem.run_bind, run_zeroValue' hi' hz0, Result.andThen_ok, run_underlying' hu, run_sizeOf' hi, Array.toList_map, hparts, hzc, fill_eq _ _ _ _ hf]
  rfl

theorem run_places {fs : List Field} {w : World} : ∀ (pl : List (Nat × Nat)), fs.mapM (fun f => (P.info? f.type).map fun i => (f.offset, i.size)) = some pl →
    (fs.mapM (m := Sem) fun f => do pure (f.offset, ← sizeOf f.type)).run P w = .ok pl w := by
  induction fs with
  | nil => intro pl h; simp at h; subst h; simp
  | cons f fs ih =>
    intro pl h
    simp only [List.mapM_cons, Option.bind_eq_bind] at h
    cases hi : P.info? f.type with
    | none => rw [hi] at h; simp at h
    | some i =>
      rw [hi] at h
      simp only [Option.map_some, Option.bind_some] at h
      cases hr : fs.mapM (fun f => (P.info? f.type).map fun i => (f.offset, i.size)) with
      | none => rw [hr] at h; simp at h
      | some pl' =>
        rw [hr] at h
        simp at h
        subst h
        simp only [List.mapM_cons, Sem.run_bind, run_sizeOf' hi, Result.andThen_ok, Sem.run_pure, ih pl' hr]

theorem V.build {T : Nat} {parts : Array (Nat × Operand)} {vs : List (Nat × Value)} {pl : List (Nat × Nat)} {zs cs : List Value} (hT : bldS P T = some pl) (hz : zer P T = some zs) (hp : evp ρ parts.toList = some vs) (hf : fillL (fun i => pl[i]?) zs vs = some cs) :
    Val P k h0 σ ρ ⟨d, .build T parts, ty, pos, aft, g⟩ (.agg cs.toArray) := fun A w ha hs => by
  unfold bldS at hT
  cases hu : P.underlying T with
  | none => rw [hu] at hT; cases hT
  | some D =>
    rw [hu] at hT
    cases D <;> try (cases hT; done)
    rename_i fs
    obtain ⟨i', z', hi', hz0, hzc⟩ := zer_spec hz
    have hparts := evp_map ha _ _ hp
    have hpl := run_places (P := P) (w := w) pl hT
    have hpl' : (fs.mapM (m := Sem) fun f => do pure (f.offset, ← sizeOf f.type)).run P w = .ok pl.toArray w := by
      rw [Array.mapM_eq_mapM_toList, Sem.run_map, hpl]; rfl
    simp only [execOp, Instr.build, Sem.run_bind, run_zeroValue' hi' hz0, Result.andThen_ok, run_underlying' hu, hpl', Array.toList_map, hparts, hzc, List.getElem?_toArray, fill_eq _ _ _ _ hf]
    rfl

theorem M.slice1 {T E sz by_ : Nat} {x : Operand} {v : Value} {zs cs : List Value} (hT : slcE P T = some (E, sz, by_)) (hz : zer P E = some zs) (hx : ρ.ev x = some v) (hc : v.cells = cs.toArray) (hl : zs.length = sz) (hcl : cs.length = sz) (h0' : Nat.blt 0 sz = true) (hsm : Nat.ble sz 16777216 = true) :
    Mem P k h0 σ ρ ⟨d, .buildSlice T 1 #[(0, x)], ty, pos, aft, g⟩ (fun b : Nat => .slice (some ⟨b, 0, none⟩) 1 1) (fun b => cl b cs E :: σ) := fun A w ha hs => by
  obtain ⟨hu, i, hi, hsz, hby⟩ := slcE_spec hT
  obtain ⟨i', z', hi', hz0, hzc⟩ := zer_spec hz
  rw [hi] at hi'
  obtain rfl := Option.some.inj hi'
  subst hsz
  have h0'' : 0 < i.size := of_decide_eq_true (by simpa [Nat.blt_eq] using h0')
  have hsm' : i.size ≤ 16777216 := Nat.le_of_ble_eq_true hsm
  have harr : (Array.range (1 * i.size)).map (zs.toArray[· % zs.toArray.size]!) = zs.toArray := by
    apply Array.ext
    · simp [hl]
    · intro j h1 h2
      simp at h1
      have hj : j < zs.length := by rw [hl]; exact h1
      simp [Nat.mod_eq_of_lt hj, hj]
  have hf : fillL (fun j => some (j * i.size, i.size)) zs [(0, v)] = some cs := by
    simp only [fillL, hc]
    rw [if_neg (by simp [hcl, hl])]
    have := over_all cs [] zs (by rw [hl, hcl])
    simpa using this
  refine ⟨w.heap.size, _, ?_, hs.new _⟩
  have hp : (#[(0, x)].map fun (p : Nat × Operand) => (p.1, A.eval p.2)).toList = [(0, v)] := by simp [ha.ev hx]
  simp only [execOp, Instr.buildSlice, Sem.run_bind, run_underlying' hu, Result.andThen_ok, run_sizeOf' hi, Sem.run_ite]
  rw [if_neg (by omega), if_neg (by omega)]
  simp only [run_zeroValue' hi hz0, Result.andThen_ok]
  rw [hzc]
  simp only [Sem.run_pure, Result.andThen_ok]
  rw [harr, hp, fill_eq _ _ _ _ hf]
  rfl

/-! ### bits -/
theorem V.shl {T U : TypeId} {x y : Operand} {j j' : IntKind} {a b : Int} (hx : ρ.ev x = some (.int j a)) (hy : ρ.ev y = some (.int j' b)) (hb : 0 ≤ b) : Val P k h0 σ ρ ⟨d, .binOp .shl T x y U, ty, pos, aft, g⟩ (.int j (j.wrap (a * 2 ^ min b.toNat j.bits))) := fun A w ha hs => by
  have hb' : ¬ b < 0 := by omega
  simp [execOp, ha.ev hx, ha.ev hy, run_eqGuard_shift, binOp, Op.shift, hb']
theorem V.shr {T U : TypeId} {x y : Operand} {j j' : IntKind} {a b : Int} (hx : ρ.ev x = some (.int j a)) (hy : ρ.ev y = some (.int j' b)) (hb : 0 ≤ b) : Val P k h0 σ ρ ⟨d, .binOp .shr T x y U, ty, pos, aft, g⟩ (.int j (a / 2 ^ min b.toNat j.bits)) := fun A w ha hs => by
  have hb' : ¬ b < 0 := by omega
  have : a.fdiv (2 ^ min b.toNat j.bits) = a / 2 ^ min b.toNat j.bits := Int.fdiv_eq_ediv_of_nonneg _ (by apply Int.le_of_lt; exact Int.pow_pos (by omega))
  simp [execOp, ha.ev hx, ha.ev hy, run_eqGuard_shift, binOp, Op.shift, hb', this]
theorem V.and {T U : TypeId} {x y : Operand} {j : IntKind} {a b : Int} (hx : ρ.ev x = some (.int j a)) (hy : ρ.ev y = some (.int j b)) : Val P k h0 σ ρ ⟨d, .binOp .and T x y U, ty, pos, aft, g⟩ (.int j (bits .and j a b)) := fun A w ha hs => by
  simp [execOp, ha.ev hx, ha.ev hy, run_eqGuard_int, binOp, Op.intBits, bits]
theorem V.or {T U : TypeId} {x y : Operand} {j : IntKind} {a b : Int} (hx : ρ.ev x = some (.int j a)) (hy : ρ.ev y = some (.int j b)) : Val P k h0 σ ρ ⟨d, .binOp .or T x y U, ty, pos, aft, g⟩ (.int j (bits .or j a b)) := fun A w ha hs => by
  simp [execOp, ha.ev hx, ha.ev hy, run_eqGuard_int, binOp, Op.intBits, bits]
theorem V.xor {T U : TypeId} {x y : Operand} {j : IntKind} {a b : Int} (hx : ρ.ev x = some (.int j a)) (hy : ρ.ev y = some (.int j b)) : Val P k h0 σ ρ ⟨d, .binOp .xor T x y U, ty, pos, aft, g⟩ (.int j (bits .xor j a b)) := fun A w ha hs => by
  simp [execOp, ha.ev hx, ha.ev hy, run_eqGuard_int, binOp, Op.intBits, bits]
theorem V.andNot {T U : TypeId} {x y : Operand} {j : IntKind} {a b : Int} (hx : ρ.ev x = some (.int j a)) (hy : ρ.ev y = some (.int j b)) : Val P k h0 σ ρ ⟨d, .binOp .andNot T x y U, ty, pos, aft, g⟩ (.int j (bits .andNot j a b)) := fun A w ha hs => by
  simp [execOp, ha.ev hx, ha.ev hy, run_eqGuard_int, binOp, Op.intBits, bits]
end
end Go.Eng
