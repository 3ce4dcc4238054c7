/- Rules to walk the functions of the seat: partial heaps, contracts, one rule an operation. No conditions. -/
import Derived.Test.YtfnjffmibiklfaaE12
namespace Go.Eng
open Go.RowKit

section
variable {P : Program} {k : World} {h0 : Hp} {σ τ : List HP} {ρ : Env} {d : Option Tmp} {ty : TypeId} {pos : String} {aft : Array Edge} {g : Option (Nat × Bool)}

/-- 'make([]T, n)', the elements of several cells. -/
theorem M.makeN {T E sz by_ : Nat} {zs : List Value} {x y : Operand} {j j' : IntKind} {n : Int} (hT : slcE P T = some (E, sz, by_)) (hz : zer P E = some zs) (hx : ρ.ev x = some (.int j n)) (hy : ρ.ev y = some (.int j' n)) (hn : 0 ≤ n ∧ n ≤ 9223372036854775807 ∧ (by_ : Int) * n ≤ 281474976710656) :
    Mem P k h0 σ ρ ⟨d, .makeSlice T x y, ty, pos, aft, g⟩ (fun b : Nat => .slice (some ⟨b, 0, none⟩) n.toNat n.toNat) (fun b => cl b ((List.range (n.toNat * sz)).map fun i => zs.toArray[i % zs.length]!) E :: σ) := fun A w ha hs => by
  obtain ⟨hu, i, hi, hsz, hby⟩ := slcE_spec hT
  obtain ⟨i', z', hi', hz0, hzc⟩ := zer_spec hz
  rw [hi] at hi'
  obtain rfl := Option.some.inj hi'
  have := run_make (P := P) w T E i z' hu hi hz0 j j' n n hn.1 (Int.le_refl _) (by rw [hby]; exact hn.2.2) hn.2.1
  refine ⟨w.heap.size, _, ?_, hs.new _⟩
  simp only [execOp, ha.ev hx, ha.ev hy, Sem.run_bind, this, Result.andThen_ok]
  have e : madeCells zs.toArray (n.toNat * sz) = ((List.range (n.toNat * sz)).map fun i => zs.toArray[i % zs.length]!).toArray := by
    apply Array.ext'
    simp [madeCells, Array.toList_range]
  rw [hzc, hsz, e]
  rfl

theorem FT.tight {f : FuncId} {vs : List Value} {R : Value → List HP → Prop} (h : FT P f vs k h0 σ (Ret fun v τ => ∃ τ', R v τ' ∧ Ent τ τ')) : FT P f vs k h0 σ (Ret R) := fun w hs =>
  (h w hs).mono fun _ _ ⟨_, hst, v, e, τ', hr, he⟩ => ⟨τ', he _ _ _ hst, v, e, hr⟩
theorem St.vec_one {w : World} {E sz n : Nat} {v : Value} {cs : List Value} (i : Nat) (hi : σ[i]? = some (vec E sz v n cs)) (h : St k h0 σ w) : v.oneCell' = true := by
  obtain ⟨_, a, cap, e, _⟩ := h.vec_shape i hi
  rw [e]; rfl
theorem Ent.vec_madeN {E n sz b : Nat} {cs : List Value} (hl : cs.length = n * sz) : Ent (cl b cs E :: σ) (vec E sz (.slice (some ⟨b, 0, none⟩) n n) n cs :: σ) := fun k1 g1 w1 h => by
  have h' : St k1 g1 (cl b (cs ++ []) E :: σ) w1 := by rw [List.append_nil]; exact h
  exact h'.vec_of_cl (Nat.le_refl _) (by omega) (by simp; omega)
theorem Ent.right (σ τ : List HP) : Ent (σ ++ τ) σ := (Ent.perm List.perm_append_comm).trans (Ent.left τ σ)
theorem Ent.snoc {p : HP} : Ent (p :: starsP τ :: σ) (starsP (τ ++ [p]) :: σ) := by
  have h1 : Ent (p :: starsP τ :: σ) (starsP τ :: p :: σ) := Ent.perm (List.Perm.swap _ _ _)
  have h2 : Ent (starsP τ :: p :: σ) (τ ++ p :: σ) := Ent.stars
  refine (h1.trans h2).trans ?_
  have h3 : Ent ((τ ++ [p]) ++ σ) (starsP (τ ++ [p]) :: σ) := Ent.shut
  simpa using h3
theorem Ent.mem (i : Nat) {p : HP} (hi : σ[i]? = some p) (h : Ent (p :: σ.eraseIdx i) τ) : Ent σ τ := (Ent.pull i hi).trans h
end

theorem List.getElem?_append_some {α : Type} {l l' : List α} {j : Nat} {v : α} (h : l[j]? = some v) : (l ++ l')[0 + j]? = some v := by
  obtain ⟨h1, _⟩ := List.getElem?_eq_some_iff.1 h
  rw [Nat.zero_add, List.getElem?_append_left h1]; exact h
theorem Rds.of2 {h0 : Hp} {σ : List HP} {b o T : Nat} {cs vs : List Value} (hb : h0 b = some (.cells cs.toArray T)) (h : ∀ j v, vs[j]? = some v → cs[o + j]? = some v) : Rds h0 σ b o vs := fun j v hj =>
  Rd.of hb (by rw [List.getElem?_toArray]; exact h j v hj)
theorem map_range_set {α : Type} {f g : Nat → α} {n y : Nat} {v : α} (hv : v = g y) (h : ∀ i, i < n → i ≠ y → f i = g i) : ((List.range n).map f).set y v = (List.range n).map g := by
  apply List.ext_getElem
  · simp
  · intro i h1 h2
    simp only [List.length_set, List.length_map, List.length_range] at h1
    rw [List.getElem_set]
    split
    · rename_i e; subst e; simp [hv]
    · rename_i e; simp [h i h1 (fun e' => e e'.symm)]
theorem map_range_at {α : Type} (f : Nat → α) {n y : Nat} (h : y < n) : ((List.range n).map f)[y]? = some (f y) := by simp [h]
theorem map_range_app {α : Type} (f : Nat → α) (junk : List α) {n y : Nat} (h : y < n) : ((List.range n).map f ++ junk)[y]? = some (f y) := by
  rw [List.getElem?_append_left (by simpa using h)]; exact map_range_at f h
theorem map_range_congr {α : Type} {f g : Nat → α} {n : Nat} (h : ∀ i, i < n → f i = g i) : (List.range n).map f = (List.range n).map g := by
  apply List.map_congr_left
  intro i hi
  exact h i (List.mem_range.1 hi)
theorem map_range_succ {α : Type} (f : Nat → α) (n : Nat) : (List.range (n + 1)).map f = (List.range n).map f ++ [f n] := by simp [List.range_succ]
theorem map_range_const {α : Type} (x : α) (n : Nat) : (List.range n).map (fun _ => x) = List.replicate n x := by
  apply List.ext_getElem <;> simp

/-! ### words of bits -/
def wordOf (f : Nat → Nat) : Nat → Nat
  | 0 => 0
  | n + 1 => 2 ^ n * (f n % 2) + wordOf f n
theorem wordOf_lt (f : Nat → Nat) : ∀ n, wordOf f n < 2 ^ n
  | 0 => by simp [wordOf]
  | n + 1 => by
    have := wordOf_lt f n
    have h2 : f n % 2 ≤ 1 := by omega
    have h3 : 2 ^ n * (f n % 2) ≤ 2 ^ n * 1 := Nat.mul_le_mul_left _ h2
    rw [wordOf, Nat.pow_succ]
    omega
theorem testBit_wordOf (f : Nat → Nat) : ∀ n j, (wordOf f n).testBit j = (decide (j < n) && decide (f j % 2 = 1))
  | 0, j => by simp [wordOf]
  | n + 1, j => by
    rw [wordOf, Nat.testBit_two_pow_mul_add _ (wordOf_lt f n), testBit_wordOf f n j]
    by_cases h : j < n
    · simp [h, show j < n + 1 by omega]
    · rw [if_neg h]
      by_cases h' : j = n
      · subst h'
        simp only [Nat.sub_self, show j < j + 1 by omega, decide_true, Bool.true_and]
        rcases (show f j % 2 = 0 ∨ f j % 2 = 1 by omega) with e | e <;> simp [e]
      · have : j - n = (j - n - 1) + 1 := by omega
        rw [this, Nat.testBit_succ, show f n % 2 / 2 = 0 by omega]
        simp [show ¬ j < n + 1 by omega]
theorem wordOf_eq {f : Nat → Nat} {n w : Nat} (hw : w < 2 ^ n) (h : ∀ j, j < n → w.testBit j = decide (f j % 2 = 1)) : w = wordOf f n := by
  apply Nat.eq_of_testBit_eq
  intro j
  rw [testBit_wordOf]
  by_cases hj : j < n
  · simp [hj, h j hj]
  · simp [hj, Nat.testBit_lt_two_pow (Nat.lt_of_lt_of_le hw (Nat.pow_le_pow_right (by omega) (Nat.le_of_not_lt hj)))]
theorem wordOf_congr {f g : Nat → Nat} {n : Nat} (h : ∀ j, j < n → f j % 2 = g j % 2) : wordOf f n = wordOf g n := by
  apply Nat.eq_of_testBit_eq
  intro j
  rw [testBit_wordOf, testBit_wordOf]
  by_cases hj : j < n
  · rw [h j hj]
  · simp [hj]

theorem bv_nat {x n : Nat} : BitVec.ofInt n (x : Int) = BitVec.ofNat n x := by simp
theorem u64_nat {x : Nat} (h : x < 2 ^ 64) : IntKind.u64.wrap (x : Int) = (x : Int) := IntWalk.u64_in _ (by omega)
theorem bits_and_nat {a b : Nat} (ha : a < 2 ^ 64) (hb : b < 2 ^ 64) : bits .and .u64 (a : Int) (b : Int) = ((a &&& b : Nat) : Int) := by
  unfold bits
  simp only [bv_nat]
  have e : (BitVec.ofNat IntKind.u64.bits a &&& BitVec.ofNat IntKind.u64.bits b).toNat = a &&& b := by
    show (BitVec.ofNat 64 a &&& BitVec.ofNat 64 b).toNat = a &&& b
    rw [BitVec.toNat_and, BitVec.toNat_ofNat, BitVec.toNat_ofNat, Nat.mod_eq_of_lt ha, Nat.mod_eq_of_lt hb]
  rw [e]
  exact u64_nat (Nat.and_lt_two_pow _ hb)
theorem bits_or_nat {a b : Nat} (ha : a < 2 ^ 64) (hb : b < 2 ^ 64) : bits .or .u64 (a : Int) (b : Int) = ((a ||| b : Nat) : Int) := by
  unfold bits
  simp only [bv_nat]
  have e : (BitVec.ofNat IntKind.u64.bits a ||| BitVec.ofNat IntKind.u64.bits b).toNat = a ||| b := by
    show (BitVec.ofNat 64 a ||| BitVec.ofNat 64 b).toNat = a ||| b
    rw [BitVec.toNat_or, BitVec.toNat_ofNat, BitVec.toNat_ofNat, Nat.mod_eq_of_lt ha, Nat.mod_eq_of_lt hb]
  rw [e]
  exact u64_nat (Nat.or_lt_two_pow ha hb)
theorem bits_andNot_nat {a b : Nat} (ha : a < 2 ^ 64) (hb : b < 2 ^ 64) : ∃ r : Nat, r < 2 ^ 64 ∧ bits .andNot .u64 (a : Int) (b : Int) = (r : Int) ∧ ∀ j, j < 64 → r.testBit j = (a.testBit j && !b.testBit j) := by
  refine ⟨(BitVec.ofNat 64 a &&& ~~~(BitVec.ofNat 64 b)).toNat, (BitVec.ofNat 64 a &&& ~~~(BitVec.ofNat 64 b)).isLt, ?_, ?_⟩
  · unfold bits
    simp only [bv_nat]
    exact u64_nat (BitVec.ofNat 64 a &&& ~~~(BitVec.ofNat 64 b)).isLt
  · intro j hj
    rw [BitVec.testBit_toNat, BitVec.getLsbD_and, BitVec.getLsbD_not, BitVec.getLsbD_ofNat, BitVec.getLsbD_ofNat]
    simp [hj]
theorem pow_cast (i : Nat) : (2 : Int) ^ i = ((2 ^ i : Nat) : Int) := (Int.natCast_pow 2 i).symm
theorem shl_one {i : Nat} (hi : i < 64) : IntKind.u64.wrap (1 * 2 ^ min i 64) = ((2 ^ i : Nat) : Int) := by
  have hp : 2 ^ i < 2 ^ 64 := Nat.pow_lt_pow_right (by omega) hi
  rw [Nat.min_eq_left (by omega), Int.one_mul, pow_cast]
  exact u64_nat hp
theorem shl_bit {i s : Nat} (hi : i < 64) (hs : s ≤ 1) : IntKind.u64.wrap ((s : Int) * 2 ^ min i 64) = ((s * 2 ^ i : Nat) : Int) := by
  rcases (show s = 0 ∨ s = 1 by omega) with rfl | rfl
  · rw [Int.natCast_zero, Int.zero_mul, Nat.zero_mul]; exact u64_nat (x := 0) (by omega)
  · rw [Nat.one_mul]; exact shl_one hi
theorem bit_lt {i s : Nat} (hi : i < 64) (hs : s ≤ 1) : s * 2 ^ i < 2 ^ 64 := by
  have hp : 2 ^ i < 2 ^ 64 := Nat.pow_lt_pow_right (by omega) hi
  rcases (show s = 0 ∨ s = 1 by omega) with rfl | rfl
  · rw [Nat.zero_mul]; exact Nat.pos_of_ne_zero (by simp)
  · rw [Nat.one_mul]; exact hp
theorem testBit_bit {i s j : Nat} (hs : s ≤ 1) : (s * 2 ^ i).testBit j = (decide (s = 1) && decide (i = j)) := by
  rcases (show s = 0 ∨ s = 1 by omega) with rfl | rfl
  · rw [Nat.zero_mul]; simp
  · rw [Nat.one_mul, Nat.testBit_two_pow]; simp
/-- A bit set anew. -/
theorem word_set {f : Nat → Nat} {i s : Nat} (hi : i < 64) (hs : s ≤ 1) :
    bits .or .u64 (bits .andNot .u64 (wordOf f 64 : Nat) (IntKind.u64.wrap (1 * 2 ^ min i 64))) (IntKind.u64.wrap ((s : Int) * 2 ^ min i 64)) = ((wordOf (fun j => if j = i then s else f j) 64 : Nat) : Int) := by
  have hp : 1 * 2 ^ i < 2 ^ 64 := bit_lt hi (by omega)
  rw [Nat.one_mul] at hp
  obtain ⟨r, hr, er, hb⟩ := bits_andNot_nat (wordOf_lt f 64) hp
  rw [shl_one hi, shl_bit hi hs, er, bits_or_nat hr (bit_lt hi hs)]
  refine congrArg Int.ofNat ?_
  refine wordOf_eq (Nat.or_lt_two_pow hr (bit_lt hi hs)) fun j hj => ?_
  rw [Nat.testBit_or, hb j hj, testBit_wordOf, Nat.testBit_two_pow, testBit_bit hs]
  by_cases e : j = i
  · subst e
    rcases (show s = 0 ∨ s = 1 by omega) with rfl | rfl <;> simp
  · have e' : ¬ i = j := fun h => e h.symm
    simp [e, e', hj]
/-- A bit. -/
theorem word_get {f : Nat → Nat} {i : Nat} (hi : i < 64) : bits .and .u64 ((wordOf f 64 : Nat) / 2 ^ min i 64) 1 = ((f i % 2 : Nat) : Int) := by
  have e : ((wordOf f 64 : Nat) : Int) / 2 ^ min i 64 = ((wordOf f 64 / 2 ^ i : Nat) : Int) := by
    rw [Nat.min_eq_left (by omega)]; push_cast; rfl
  rw [e]
  have hlt : wordOf f 64 / 2 ^ i < 2 ^ 64 := Nat.lt_of_le_of_lt (Nat.div_le_self _ _) (wordOf_lt f 64)
  refine (bits_and_nat hlt (b := 1) (by omega)).trans ?_
  congr 1
  rw [Nat.and_one_is_mod]
  have h := testBit_wordOf f 64 i
  rw [Nat.testBit_eq_decide_div_mod_eq] at h
  simp only [hi, decide_true, Bool.true_and, decide_eq_decide] at h
  omega
attribute [irreducible] wordOf
end Go.Eng
