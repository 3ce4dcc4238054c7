/- Walks of the seat's functions over those rules, and plain laws of what they compute. No conditions beyond those in each theorem. -/
import Derived.Test.YtfnjffmibiklfaaTB16
namespace Go.Eng
open Go.RowKit Go.Proofs
set_option linter.unusedSimpArgs false
set_option linter.unusedVariables false

abbrev ppB (bl : List (Nat × Nat)) (i : Nat) : Nat × Nat := bl.getD i (0, 0)
/-- The number of what stands in a block's first 'i' places. -/
def fromN (F : Nat → Nat → Nat) (bl : List (Nat × Nat)) : Nat → Nat
  | 0 => 0
  | i + 1 => fromN F bl i + F (ppB bl i).1 (ppB bl i).2 * 2 ^ i
def newBit (bs : List Int) (v i : Nat) : Nat := (bs.getD v 0).toNat / 2 ^ i % 2
def setTo (bs : List Int) (v : Nat) (bl : List (Nat × Nat)) (F : Nat → Nat → Nat) : Nat → Nat → Nat → Nat
  | 0 => F
  | i + 1 => updF (setTo bs v bl F i) (ppB bl i).1 (ppB bl i).2 (newBit bs v i)
/-- What a rule makes of a block. -/
def applyB (bs : List Int) (F : Nat → Nat → Nat) (bl : List (Nat × Nat)) : Nat → Nat → Nat := setTo bs (fromN F bl 4) bl F 4
def stepF (bs : List Int) (t : Topo) (o : Nat) (F : Nat → Nat → Nat) : Nat → Nat → Nat := (blocksL t o).foldl (applyB bs) F
/-- Generations, one after another. -/
def seqF (bs : List Int) (t : Topo) (g : Nat → Int) (F : Nat → Nat → Nat) : Nat → Nat → Nat → Nat
  | 0 => F
  | i + 1 => stepF bs t (g i % 2).toNat (seqF bs t g F i)
theorem fromN_lt {F : Nat → Nat → Nat} {bl : List (Nat × Nat)} (hF : ∀ x y, F x y < 2) : ∀ i, fromN F bl i < 2 ^ i
  | 0 => by simp [fromN]
  | i + 1 => by
    have h1 := fromN_lt (bl := bl) hF i
    have h2 := hF (ppB bl i).1 (ppB bl i).2
    have h3 : F (ppB bl i).1 (ppB bl i).2 * 2 ^ i ≤ 1 * 2 ^ i := Nat.mul_le_mul_right _ (by omega)
    rw [fromN, Nat.pow_succ]; omega
theorem or_step : ∀ i, i < 4 → ∀ a, a < 2 ^ i → ∀ s, s < 2 → bits .or .i64 ((a : Nat) : Int) (IntKind.i64.wrap (IntKind.i64.wrap ((s : Nat) : Int) * 2 ^ min i IntKind.i64.bits)) = ((a + s * 2 ^ i : Nat) : Int) := by decide +kernel
theorem and_step : ∀ i, i < 4 → ∀ a, a < 16 → bits .and .u8 (((a : Nat) : Int) / 2 ^ min i IntKind.u8.bits) 1 = ((a / 2 ^ i % 2 : Nat) : Int) := by decide +kernel
theorem and_one (a : Nat) : bits .and .i64 (a : Int) 1 = ((a % 2 : Nat) : Int) := by
  unfold bits
  have e : (BitVec.ofInt IntKind.i64.bits (a : Int) &&& BitVec.ofInt IntKind.i64.bits 1).toNat = a % 2 := by
    show (BitVec.ofInt 64 (a : Int) &&& BitVec.ofInt 64 ((1 : Nat) : Int)).toNat = a % 2
    rw [bv_nat, bv_nat, BitVec.toNat_and, BitVec.toNat_ofNat, BitVec.toNat_ofNat, show 1 % 2 ^ 64 = 1 from rfl, Nat.and_one_is_mod]
    omega
  show IntKind.i64.wrap ((BitVec.ofInt IntKind.i64.bits (a : Int) &&& BitVec.ofInt IntKind.i64.bits 1).toNat : Int) = _
  rw [e]
  exact wrap_i64 (by omega)
theorem backTo_bd (bs : List Int) : ∀ i, i ≤ 16 → ∀ j, 0 ≤ (backTo bs i).getD j 0 ∧ (backTo bs i).getD j 0 ≤ 15
  | 0, _, j => by
    simp only [backTo, List.range_zero, List.foldl_nil, List.getD_eq_getElem?_getD, List.getElem?_replicate]
    split <;> simp
  | i + 1, h, j => by
    have ih := backTo_bd bs i (by omega) j
    simp only [List.getD_eq_getElem?_getD] at ih
    rw [backTo_succ]
    simp only [List.getD_eq_getElem?_getD, List.getElem?_set]
    split
    · split
      · simp; omega
      · simp
    · exact ih
theorem back_blk (bs : List Int) : Blk (backTo bs 16) := ⟨length_backTo bs 16, backTo_bd bs 16 (by omega)⟩
/-- What a block is. -/
def BlkIn (W H : Nat) (bl : List (Nat × Nat)) : Prop := bl.length = 4 ∧ ∀ i, (ppB bl i).1 < W ∧ (ppB bl i).2 < H
theorem blkN_in (t : Topo) (hg : t.Good) {W H : Nat} (hW : (W : Int) = t.w) (hH : (H : Int) = t.h) (u v : Int) (h : blkOk t u v = true) : BlkIn W H (blkN t u v) := by
  have hw0 := hg.w0
  have hh0 := hg.h0
  simp only [blkOk, Bool.and_eq_true] at h
  obtain ⟨⟨⟨h0, h1⟩, h2⟩, h3⟩ := h
  have b0 := pl_bd t hg _ _ h0
  have b1 := pl_bd t hg _ _ h1
  have b2 := pl_bd t hg _ _ h2
  have b3 := pl_bd t hg _ _ h3
  refine ⟨rfl, fun i => ?_⟩
  match i with
  | 0 => exact ⟨by show (plX t u v).1.toNat < W; omega, by show (plX t u v).2.toNat < H; omega⟩
  | 1 => exact ⟨by show (plX t (u + 1) v).1.toNat < W; omega, by show (plX t (u + 1) v).2.toNat < H; omega⟩
  | 2 => exact ⟨by show (plX t u (v + 1)).1.toNat < W; omega, by show (plX t u (v + 1)).2.toNat < H; omega⟩
  | 3 => exact ⟨by show (plX t (u + 1) (v + 1)).1.toNat < W; omega, by show (plX t (u + 1) (v + 1)).2.toNat < H; omega⟩
  | n + 4 => exact ⟨by show 0 < W; omega, by show 0 < H; omega⟩
theorem mem_rowB {t : Topo} {o : Nat} {v : Int} {b : List (Nat × Nat)} : ∀ {j : Nat}, b ∈ rowB t o v j → ∃ i, i < j ∧ blkOk t ((o + 2 * i : Nat) : Int) v = true ∧ b = blkN t ((o + 2 * i : Nat) : Int) v
  | j + 1, h => by
    rw [rowB, List.mem_append] at h
    rcases h with h | h
    · obtain ⟨i, hi, hh⟩ := mem_rowB h
      exact ⟨i, by omega, hh⟩
    · split at h
      · rename_i hk
        exact ⟨j, by omega, hk, by simpa using h⟩
      · cases h
theorem mem_allB {t : Topo} {o n : Nat} {b : List (Nat × Nat)} : ∀ {i : Nat}, b ∈ allB t o n i → ∃ j m, j < n ∧ m < i ∧ blkOk t ((o + 2 * j : Nat) : Int) ((o + 2 * m : Nat) : Int) = true ∧ b = blkN t ((o + 2 * j : Nat) : Int) ((o + 2 * m : Nat) : Int)
  | i + 1, h => by
    rw [allB, List.mem_append] at h
    rcases h with h | h
    · obtain ⟨j, m, h1, h2, hh⟩ := mem_allB h
      exact ⟨j, m, h1, by omega, hh⟩
    · obtain ⟨j, h1, hh⟩ := mem_rowB h
      exact ⟨j, i, h1, by omega, hh⟩
theorem blocksL_in (t : Topo) (hg : t.Good) {W H : Nat} (hW : (W : Int) = t.w) (hH : (H : Int) = t.h) (o : Nat) {b : List (Nat × Nat)} (h : b ∈ blocksL t o) : BlkIn W H b := by
  obtain ⟨j, m, _, _, hk, rfl⟩ := mem_allB h
  exact blkN_in t hg hW hH _ _ hk
theorem flatB_len : ∀ (L : List (List (Nat × Nat))), (∀ b ∈ L, b.length = 4) → (flatB L).length = L.length * 8
  | [], _ => rfl
  | b :: L, h => by
    have h1 := flatB_len L (fun x hx => h x (List.mem_cons_of_mem _ hx))
    have h2 : ∀ (b : List (Nat × Nat)), (b.flatMap fun p => [Value.int .i64 (p.1 : Int), .int .i64 (p.2 : Int)]).length = b.length * 2 := fun b => by
      induction b with
      | nil => rfl
      | cons x b ih => simp only [List.flatMap_cons, List.length_append, ih, List.length_cons, List.length_nil]; omega
    have h3 := h2 b
    have h4 := h b List.mem_cons_self
    simp only [flatB, List.flatMap_cons, List.length_append, List.length_cons] at h1 ⊢
    omega
theorem flatB_at {L : List (List (Nat × Nat))} (hL : ∀ b ∈ L, b.length = 4) {m : Nat} {bl : List (Nat × Nat)} (hm : L[m]? = some bl) (j : Nat) (v : Value) (hj : (flatB [bl])[j]? = some v) : (flatB L)[m * 8 + j]? = some v := by
  obtain ⟨hlt, hb⟩ := List.getElem?_eq_some_iff.1 hm
  have e : L = L.take m ++ ([bl] ++ L.drop (m + 1)) := by
    rw [← hb]; simp
  have hlen := flatB_len (L.take m) (fun b hb => hL b (List.mem_of_mem_take hb))
  rw [List.length_take, Nat.min_eq_left (by omega)] at hlen
  rw [e, flatB_app, flatB_app, List.getElem?_append_right (by omega), hlen, show m * 8 + j - m * 8 = j by omega]
  obtain ⟨h1, _⟩ := List.getElem?_eq_some_iff.1 hj
  rw [List.getElem?_append_left h1]; exact hj
theorem blk_four {bl : List (Nat × Nat)} (h : bl.length = 4) : ∃ p0 p1 p2 p3, bl = [p0, p1, p2, p3] := by
  match bl, h with
  | [p0, p1, p2, p3], _ => exact ⟨p0, p1, p2, p3, rfl⟩
section
variable {k : World} {h0 : Hp}

end

end Go.Eng
