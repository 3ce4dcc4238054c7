/- Walks of the seat's functions over those rules, and plain laws of what they compute. No conditions beyond those in each theorem. -/
import Derived.Test.YtfnjffmibiklfaaTB18
namespace Go.Eng
open Go.RowKit Go.Proofs
set_option linter.unusedSimpArgs false
set_option linter.unusedVariables false
/-- The cells of a list, those that are odd alive. -/
def loadF (ls : List Int) (W : Nat) : Nat → Nat → Nat → Nat
  | 0 => fun _ _ => 0
  | i + 1 => if ls.getD i 0 % 2 = 1 then updF (loadF ls W i) (i % W) (i / W) 1 else loadF ls W i
def popL (ls : List Int) : Nat → Nat
  | 0 => 0
  | i + 1 => if ls.getD i 0 % 2 = 1 then popL ls i + 1 else popL ls i
theorem popL_le (ls : List Int) : ∀ i, popL ls i ≤ i
  | 0 => Nat.le_refl _
  | i + 1 => by have := popL_le ls i; rw [popL]; split <;> omega
theorem loadF_lt (ls : List Int) (W : Nat) : ∀ i x y, loadF ls W i x y < 2
  | 0, _, _ => by simp [loadF]
  | i + 1, x, y => by
    have := loadF_lt ls W i x y
    rw [loadF]; split
    · unfold updF; split <;> omega
    · exact this

/-! ### counting -/
def one0 (n : Nat) : Nat := if n = 0 then 0 else 1
theorem updF_same {F : Nat → Nat → Nat} {x y s : Nat} : updF F x y s x y = s := by simp [updF]
theorem updF_ne {F : Nat → Nat → Nat} {x y s u v : Nat} (h : (u, v) ≠ (x, y)) : updF F x y s u v = F u v := by
  unfold updF; rw [if_neg (fun e => h (by rw [e.1, e.2]))]
theorem updF_ne' {F : Nat → Nat → Nat} {p : Nat × Nat} {s u v : Nat} (h : (u, v) ≠ p) : updF F p.1 p.2 s u v = F u v := updF_ne h
theorem rowPop_ne {F : Nat → Nat → Nat} {x y s v : Nat} (h : v ≠ y) : ∀ n, rowPop (updF F x y s) v n = rowPop F v n
  | 0 => rfl
  | n + 1 => by rw [rowPop, rowPop, rowPop_ne h n, updF_ne (fun e => h (by simpa using congrArg Prod.snd e))]
theorem rowPop_at {F : Nat → Nat → Nat} {x y s : Nat} : ∀ n, rowPop (updF F x y s) y n + (if x < n then one0 (F x y) else 0) = rowPop F y n + (if x < n then one0 s else 0)
  | 0 => by simp [rowPop]
  | n + 1 => by
    have ih := rowPop_at (F := F) (x := x) (y := y) (s := s) n
    rw [rowPop, rowPop]
    by_cases e : n = x
    · subst e
      rw [updF_same]
      simp only [Nat.lt_irrefl, if_false, show n < n + 1 by omega, if_true] at ih ⊢
      have h1 : (if s = 0 then 0 else 1) = one0 s := rfl
      have h2 : (if F n y = 0 then 0 else 1) = one0 (F n y) := rfl
      rw [h1, h2]; omega
    · rw [updF_ne (fun h => e (by simpa using congrArg Prod.fst h))]
      by_cases h : x < n
      · simp only [h, show x < n + 1 by omega, if_true] at ih ⊢; omega
      · simp only [h, show ¬ x < n + 1 by omega, if_false] at ih ⊢; omega
theorem popF_at {F : Nat → Nat → Nat} {x y s W : Nat} (hx : x < W) : ∀ H, popF (updF F x y s) W H + (if y < H then one0 (F x y) else 0) = popF F W H + (if y < H then one0 s else 0)
  | 0 => by simp [popF]
  | H + 1 => by
    have ih := popF_at (F := F) (y := y) (s := s) hx H
    rw [popF, popF]
    by_cases e : H = y
    · subst e
      have h := rowPop_at (F := F) (x := x) (y := H) (s := s) W
      simp only [hx, if_true, Nat.lt_irrefl, if_false, show H < H + 1 by omega] at ih h ⊢
      omega
    · rw [rowPop_ne e]
      by_cases h : y < H
      · simp only [h, show y < H + 1 by omega, if_true] at ih ⊢; omega
      · simp only [h, show ¬ y < H + 1 by omega, if_false] at ih ⊢; omega
theorem popF_upd {F : Nat → Nat → Nat} {x y s W H : Nat} (hx : x < W) (hy : y < H) : popF (updF F x y s) W H + one0 (F x y) = popF F W H + one0 s := by
  have := popF_at (F := F) (y := y) (s := s) hx H
  simpa [hy] using this

theorem loadF_zero (ls : List Int) {W : Nat} (hW : 0 < W) : ∀ i u v, u < W → i ≤ v * W + u → loadF ls W i u v = 0
  | 0, _, _, _, _ => rfl
  | i + 1, u, v, hu, h => by
    rw [loadF]
    have ih := loadF_zero ls hW i u v hu (by omega)
    split
    · rw [updF_ne, ih]
      intro e
      have e1 : u = i % W := by simpa using congrArg Prod.fst e
      have e2 : v = i / W := by simpa using congrArg Prod.snd e
      have := Nat.div_add_mod i W
      rw [← e1, ← e2, Nat.mul_comm] at this
      omega
    · exact ih
theorem popF_zero {W : Nat} : ∀ H, popF (fun _ _ => 0) W H = 0
  | 0 => rfl
  | H + 1 => by
    have h : ∀ n, rowPop (fun _ _ => 0) H n = 0 := fun n => by
      induction n with
      | zero => rfl
      | succ n ih => rw [rowPop, ih]; rfl
    rw [popF, popF_zero H, h]
theorem loadF_pop (ls : List Int) {W H : Nat} (hW : 0 < W) (hlen : ls.length = W * H) : popF (loadF ls W ls.length) W H = popL ls ls.length := by
  have key : ∀ i, i ≤ W * H → popF (loadF ls W i) W H = popL ls i := fun i => by
    induction i with
    | zero => exact fun _ => popF_zero H
    | succ i ih =>
      intro hi
      have ih := ih (by omega)
      rw [loadF, popL]
      split
      · have h1 := popF_upd (F := loadF ls W i) (s := 1) (Nat.mod_lt i hW) (show i / W < H from Nat.div_lt_of_lt_mul (by omega))
        rw [loadF_zero ls hW i _ _ (Nat.mod_lt i hW) (by have := Nat.div_add_mod i W; rw [Nat.mul_comm] at this; omega)] at h1
        have e0 : one0 0 = 0 := rfl
        have e1 : one0 1 = 1 := rfl
        omega
      · exact ih
  exact key _ (by omega)

/-! ### one block -/
/-- Four places apart. -/
def Four (bl : List (Nat × Nat)) : Prop := bl.length = 4 ∧ bl.Nodup
theorem Four.inj {bl : List (Nat × Nat)} (h : Four bl) {i j : Nat} (hi : i < 4) (hj : j < 4) (e : ppB bl i = ppB bl j) : i = j := by
  obtain ⟨h1, h2⟩ := h
  obtain ⟨p0, p1, p2, p3, rfl⟩ := blk_four h1
  simp only [List.nodup_cons, List.mem_cons, List.not_mem_nil, or_false, not_or, List.nodup_nil, and_true, not_false_eq_true] at h2
  obtain ⟨⟨a, b, c⟩, ⟨d, e'⟩, f⟩ := h2
  rcases (show i = 0 ∨ i = 1 ∨ i = 2 ∨ i = 3 by omega) with rfl | rfl | rfl | rfl <;> rcases (show j = 0 ∨ j = 1 ∨ j = 2 ∨ j = 3 by omega) with rfl | rfl | rfl | rfl <;> first | rfl | (exfalso; simp [ppB] at e; first | exact a e | exact b e | exact c e | exact d e | exact e' e | exact f e | exact a e.symm | exact b e.symm | exact c e.symm | exact d e.symm | exact e' e.symm | exact f e.symm)
theorem Four.mem {bl : List (Nat × Nat)} (h : bl.length = 4) {i : Nat} (hi : i < 4) : ppB bl i ∈ bl := by
  obtain ⟨p0, p1, p2, p3, rfl⟩ := blk_four h
  rcases (show i = 0 ∨ i = 1 ∨ i = 2 ∨ i = 3 by omega) with rfl | rfl | rfl | rfl <;> simp [ppB]
theorem Four.ix {bl : List (Nat × Nat)} (h : bl.length = 4) {p : Nat × Nat} (hp : p ∈ bl) : ∃ i, i < 4 ∧ ppB bl i = p := by
  obtain ⟨p0, p1, p2, p3, rfl⟩ := blk_four h
  simp only [List.mem_cons, List.not_mem_nil, or_false] at hp
  rcases hp with rfl | rfl | rfl | rfl
  · exact ⟨0, by omega, rfl⟩
  · exact ⟨1, by omega, rfl⟩
  · exact ⟨2, by omega, rfl⟩
  · exact ⟨3, by omega, rfl⟩
theorem setTo_off {bs : List Int} {v : Nat} {bl : List (Nat × Nat)} {F : Nat → Nat → Nat} {x y : Nat} : ∀ n, (∀ i, i < n → ppB bl i ≠ (x, y)) → setTo bs v bl F n x y = F x y
  | 0, _ => rfl
  | n + 1, h => by
    rw [setTo, updF_ne' (p := ppB bl n) (fun e => h n (by omega) e.symm), setTo_off n (fun i hi => h i (by omega))]
theorem setTo_at {bs : List Int} {v : Nat} {bl : List (Nat × Nat)} {F : Nat → Nat → Nat} (hb : Four bl) : ∀ n, n ≤ 4 → ∀ i, i < n → setTo bs v bl F n (ppB bl i).1 (ppB bl i).2 = newBit bs v i
  | n + 1, hn, i, hi => by
    rw [setTo]
    by_cases e : i = n
    · subst e; rw [updF_same]
    · rw [updF_ne' (p := ppB bl n) (u := (ppB bl i).1) (v := (ppB bl i).2) (fun h => e (hb.inj (by omega) (by omega) h)), setTo_at hb n (by omega) i (by omega)]
theorem applyB_at {bs : List Int} {bl : List (Nat × Nat)} {F : Nat → Nat → Nat} (hb : Four bl) {i : Nat} (hi : i < 4) : applyB bs F bl (ppB bl i).1 (ppB bl i).2 = newBit bs (fromN F bl 4) i := setTo_at hb 4 (by omega) i hi
theorem applyB_off {bs : List Int} {bl : List (Nat × Nat)} {F : Nat → Nat → Nat} (hb : Four bl) {x y : Nat} (h : (x, y) ∉ bl) : applyB bs F bl x y = F x y :=
  setTo_off 4 (fun i hi e => h (e ▸ Four.mem hb.1 hi))
theorem setTo_lt {bs : List Int} {v : Nat} {bl : List (Nat × Nat)} {F : Nat → Nat → Nat} (hF : ∀ x y, F x y < 2) : ∀ n x y, setTo bs v bl F n x y < 2
  | 0, x, y => hF x y
  | n + 1, x, y => by
    have := setTo_lt (bs := bs) (v := v) (bl := bl) hF n x y
    rw [setTo]; unfold updF; split
    · exact Nat.mod_lt _ (by omega)
    · exact this
theorem applyB_lt {bs : List Int} {bl : List (Nat × Nat)} {F : Nat → Nat → Nat} (hF : ∀ x y, F x y < 2) : ∀ x y, applyB bs F bl x y < 2 := setTo_lt hF 4
theorem fromN_congr {F G : Nat → Nat → Nat} {bl : List (Nat × Nat)} : ∀ n, (∀ i, i < n → F (ppB bl i).1 (ppB bl i).2 = G (ppB bl i).1 (ppB bl i).2) → fromN F bl n = fromN G bl n
  | 0, _ => rfl
  | n + 1, h => by rw [fromN, fromN, fromN_congr n (fun i hi => h i (by omega)), h n (by omega)]
theorem fromN_digit {F : Nat → Nat → Nat} {bl : List (Nat × Nat)} (hF : ∀ x y, F x y < 2) {i : Nat} (hi : i < 4) : fromN F bl 4 / 2 ^ i % 2 = F (ppB bl i).1 (ppB bl i).2 := by
  have h0 := hF (ppB bl 0).1 (ppB bl 0).2
  have h1 := hF (ppB bl 1).1 (ppB bl 1).2
  have h2 := hF (ppB bl 2).1 (ppB bl 2).2
  have h3 := hF (ppB bl 3).1 (ppB bl 3).2
  simp only [fromN]
  rcases (show i = 0 ∨ i = 1 ∨ i = 2 ∨ i = 3 by omega) with rfl | rfl | rfl | rfl <;> simp only [Nat.reducePow] <;> omega
/-- What a rule made of a block is read as. -/
theorem fromN_apply {bs : List Int} (hbs : Blk bs) {bl : List (Nat × Nat)} (hb : Four bl) {F : Nat → Nat → Nat} : fromN (applyB bs F bl) bl 4 = (bs.getD (fromN F bl 4) 0).toNat := by
  have hB : (bs.getD (fromN F bl 4) 0).toNat < 16 := by have := hbs.bd (fromN F bl 4); omega
  have e : ∀ i, i < 4 → applyB bs F bl (ppB bl i).1 (ppB bl i).2 = (bs.getD (fromN F bl 4) 0).toNat / 2 ^ i % 2 := fun i hi => applyB_at hb hi
  generalize (bs.getD (fromN F bl 4) 0).toNat = B at e hB
  generalize applyB bs F bl = G at e
  simp only [fromN]
  rw [e 0 (by omega), e 1 (by omega), e 2 (by omega), e 3 (by omega)]
  simp only [Nat.reducePow]
  omega

theorem popF_setTo {bs : List Int} {v : Nat} {bl : List (Nat × Nat)} {F : Nat → Nat → Nat} {W H : Nat} (hb : Four bl) (hin : BlkIn W H bl) : popF (setTo bs v bl F 4) W H + (one0 (F (ppB bl 0).1 (ppB bl 0).2) + one0 (F (ppB bl 1).1 (ppB bl 1).2) + one0 (F (ppB bl 2).1 (ppB bl 2).2) + one0 (F (ppB bl 3).1 (ppB bl 3).2)) =
    popF F W H + (one0 (newBit bs v 0) + one0 (newBit bs v 1) + one0 (newBit bs v 2) + one0 (newBit bs v 3)) := by
  have st : ∀ i, i < 4 → popF (setTo bs v bl F (i + 1)) W H + one0 (F (ppB bl i).1 (ppB bl i).2) = popF (setTo bs v bl F i) W H + one0 (newBit bs v i) := fun i hi => by
    have h := popF_upd (F := setTo bs v bl F i) (s := newBit bs v i) (hin.2 i).1 (hin.2 i).2
    rw [setTo_off i (fun j hj e => by have := hb.inj (by omega) hi e; omega)] at h
    exact h
  have h0 : popF (setTo bs v bl F 1) W H + _ = popF F W H + _ := st 0 (by omega)
  have h1 : popF (setTo bs v bl F 2) W H + _ = popF (setTo bs v bl F 1) W H + _ := st 1 (by omega)
  have h2 : popF (setTo bs v bl F 3) W H + _ = popF (setTo bs v bl F 2) W H + _ := st 2 (by omega)
  have h3 : popF (setTo bs v bl F 4) W H + _ = popF (setTo bs v bl F 3) W H + _ := st 3 (by omega)
  omega
theorem applyB_pop {bs : List Int} (hbs : Blk bs) (hc : countsB bs = true) {bl : List (Nat × Nat)} {F : Nat → Nat → Nat} {W H : Nat} (hF : ∀ x y, F x y < 2) (hb : Four bl) (hin : BlkIn W H bl) : popF (applyB bs F bl) W H = popF F W H := by
  have h := popF_setTo (bs := bs) (v := fromN F bl 4) (F := F) hb hin
  have hv : fromN F bl 4 < 16 := fromN_lt hF 4
  have hcc := (countsB_iff bs).1 hc _ hv
  have hB := hbs.bd (fromN F bl 4)
  have d := fun i (hi : i < 4) => fromN_digit (bl := bl) hF hi
  have o : ∀ a, a < 2 → one0 a = a := fun a ha => by rcases (show a = 0 ∨ a = 1 by omega) with rfl | rfl <;> rfl
  have d0 := d 0 (by omega)
  have d1 := d 1 (by omega)
  have d2 := d 2 (by omega)
  have d3 := d 3 (by omega)
  unfold newBit at h
  rw [o _ (hF _ _), o _ (hF _ _), o _ (hF _ _), o _ (hF _ _), ← d0, ← d1, ← d2, ← d3, o _ (Nat.mod_lt _ (by omega)), o _ (Nat.mod_lt _ (by omega)), o _ (Nat.mod_lt _ (by omega)), o _ (Nat.mod_lt _ (by omega))] at h
  unfold applyB
  have h' : popF (setTo bs (fromN F bl 4) bl F 4) W H + popc (fromN F bl 4) = popF F W H + popc (bs.getD (fromN F bl 4) 0).toNat := by
    simpa only [popc, Nat.reducePow, Nat.div_one] using h
  rw [hcc] at h'
  exact Nat.add_right_cancel h'
theorem applyB_comm {b1 b2 : List Int} {x y : List (Nat × Nat)} {F : Nat → Nat → Nat} (hx : Four x) (hy : Four y) (hd : ∀ p ∈ x, p ∉ y) : applyB b1 (applyB b2 F y) x = applyB b2 (applyB b1 F x) y := by
  have e1 : fromN (applyB b2 F y) x 4 = fromN F x 4 := fromN_congr 4 (fun i hi => applyB_off hy (hd _ (Four.mem hx.1 hi)))
  have e2 : fromN (applyB b1 F x) y 4 = fromN F y 4 := fromN_congr 4 (fun i hi => applyB_off hx (fun h => hd _ h (Four.mem hy.1 hi)))
  funext u v
  by_cases h1 : (u, v) ∈ x
  · obtain ⟨i, hi, e⟩ := Four.ix hx.1 h1
    have h2 := hd _ h1
    have eu : u = (ppB x i).1 := by rw [e]
    have ev : v = (ppB x i).2 := by rw [e]
    rw [applyB_off hy h2, eu, ev, applyB_at hx hi, applyB_at hx hi, e1]
  · rw [applyB_off hx h1]
    by_cases h2 : (u, v) ∈ y
    · obtain ⟨i, hi, e⟩ := Four.ix hy.1 h2
      have eu : u = (ppB y i).1 := by rw [e]
      have ev : v = (ppB y i).2 := by rw [e]
      rw [eu, ev, applyB_at hy hi, applyB_at hy hi, e2]
    · rw [applyB_off hy h2, applyB_off hy h2, applyB_off hx h1]
/-- 'c' takes back what 'bs' does. -/
def Inv (bs c : List Int) : Prop := ∀ v, v < 16 → (c.getD (bs.getD v 0).toNat 0).toNat = v
theorem applyB_inv {bs c : List Int} (hbs : Blk bs) (hi : Inv bs c) {bl : List (Nat × Nat)} {F : Nat → Nat → Nat} (hF : ∀ x y, F x y < 2) (hb : Four bl) : applyB c (applyB bs F bl) bl = F := by
  funext u v
  by_cases h1 : (u, v) ∈ bl
  · obtain ⟨i, hi4, e⟩ := Four.ix hb.1 h1
    have eu : u = (ppB bl i).1 := by rw [e]
    have ev : v = (ppB bl i).2 := by rw [e]
    rw [eu, ev, applyB_at hb hi4, fromN_apply hbs hb]
    unfold newBit
    rw [hi _ (fromN_lt hF 4), fromN_digit hF hi4]
  · rw [applyB_off hb h1, applyB_off hb h1]

/-! ### all blocks -/
def Apart (x y : List (Nat × Nat)) : Prop := ∀ p ∈ x, p ∉ y
theorem foldB_lt {bs : List Int} : ∀ (L : List (List (Nat × Nat))) {F : Nat → Nat → Nat}, (∀ x y, F x y < 2) → ∀ x y, L.foldl (applyB bs) F x y < 2
  | [], _, hF => hF
  | b :: L, _, hF => foldB_lt L (applyB_lt hF)
theorem foldB_comm {b1 b2 : List Int} {x : List (Nat × Nat)} (hx : Four x) : ∀ (L : List (List (Nat × Nat))) {F : Nat → Nat → Nat}, (∀ y ∈ L, Four y ∧ Apart x y) → applyB b1 (L.foldl (applyB b2) F) x = L.foldl (applyB b2) (applyB b1 F x)
  | [], _, _ => rfl
  | y :: L, F, h => by
    have h1 := h y List.mem_cons_self
    simp only [List.foldl_cons]
    rw [foldB_comm hx L (fun z hz => h z (List.mem_cons_of_mem _ hz)), applyB_comm hx h1.1 h1.2]
theorem foldB_inv {bs c : List Int} (hbs : Blk bs) (hi : Inv bs c) : ∀ (L : List (List (Nat × Nat))) {F : Nat → Nat → Nat}, (∀ x y, F x y < 2) → (∀ y ∈ L, Four y) → L.Pairwise Apart → L.foldl (applyB c) (L.foldl (applyB bs) F) = F
  | [], _, _, _, _ => rfl
  | b :: L, F, hF, h4, hp => by
    have hb := h4 b List.mem_cons_self
    have hp := List.pairwise_cons.1 hp
    simp only [List.foldl_cons]
    rw [foldB_comm hb L (fun y hy => ⟨h4 y (List.mem_cons_of_mem _ hy), hp.1 y hy⟩), applyB_inv hbs hi hF hb]
    exact foldB_inv hbs hi L hF (fun y hy => h4 y (List.mem_cons_of_mem _ hy)) hp.2
theorem foldB_pop {bs : List Int} (hbs : Blk bs) (hc : countsB bs = true) {W H : Nat} : ∀ (L : List (List (Nat × Nat))) {F : Nat → Nat → Nat}, (∀ x y, F x y < 2) → (∀ y ∈ L, Four y ∧ BlkIn W H y) → popF (L.foldl (applyB bs) F) W H = popF F W H
  | [], _, _, _ => rfl
  | b :: L, F, hF, h => by
    have h1 := h b List.mem_cons_self
    rw [List.foldl_cons, foldB_pop hbs hc L (applyB_lt hF) (fun y hy => h y (List.mem_cons_of_mem _ hy)), applyB_pop hbs hc hF h1.1 h1.2]

/-! ### where the blocks lie -/
theorem win_inj {a b m o : Int} (ha : o ≤ a ∧ a < o + m) (hb : o ≤ b ∧ b < o + m) (h : a % m = b % m) : a = b := by
  have h1 := Int.mul_ediv_add_emod a m
  have h2 := Int.mul_ediv_add_emod b m
  have h3 : m * (a / m - b / m) = a - b := by rw [Int.mul_sub]; omega
  rcases Int.lt_trichotomy (a / m - b / m) 0 with e | e | e
  · have := Int.mul_le_mul_of_nonneg_left (show a / m - b / m ≤ -1 by omega) (show 0 ≤ m by omega)
    omega
  · rw [e] at h3; omega
  · have := Int.mul_le_mul_of_nonneg_left (show 1 ≤ a / m - b / m by omega) (show 0 ≤ m by omega)
    omega
theorem plX_cell (t : Topo) (u v : Int) (h : plOk t u v = true) : plX t u v = t.cell u v := by
  have h := of_decide_eq_true h
  unfold plX
  have e0 : u - t.w / 2 - -(t.w / 2) = u := by omega
  have e1 : v - t.h / 2 - -(t.h / 2) = v := by omega
  by_cases e : t.has (u - t.w / 2 - -(t.w / 2)) (v - t.h / 2 - -(t.h / 2)) = true
  · have e2 : t.at (u - t.w / 2) (v - t.h / 2) = _ := if_pos e
    rw [e2, e0, e1]
    dsimp only
    apply Prod.ext <;> dsimp only <;> omega
  · have e2 : t.at (u - t.w / 2) (v - t.h / 2) = _ := if_neg e
    rw [e2] at h
    cases h
theorem cell_inj (t : Topo) (hg : t.Good) {o u v u' v' : Int} (hu : o ≤ u ∧ u < o + t.w) (hv : o ≤ v ∧ v < o + t.h) (hu' : o ≤ u' ∧ u' < o + t.w) (hv' : o ≤ v' ∧ v' < o + t.h) (e : t.cell u v = t.cell u' v') : u = u' ∧ v = v' := by
  unfold Topo.cell at e
  by_cases k1 : t.kind = 1
  · rw [if_pos k1, if_pos k1] at e
    exact ⟨congrArg Prod.fst e, congrArg Prod.snd e⟩
  rw [if_neg k1, if_neg k1] at e
  by_cases k2 : t.turn = 1
  · rw [if_pos k2, if_pos k2] at e
    have ev := win_inj hv hv' (congrArg Prod.snd e)
    subst ev
    have eu : (u - v / t.h * t.shift) % t.w = (u' - v / t.h * t.shift) % t.w := congrArg Prod.fst e
    have := win_inj (o := o - v / t.h * t.shift) (m := t.w) (by omega) (by omega) eu
    exact ⟨by omega, rfl⟩
  rw [if_neg k2, if_neg k2] at e
  by_cases k3 : t.turn = 2
  · rw [if_pos k3, if_pos k3] at e
    have eu := win_inj hu hu' (congrArg Prod.fst e)
    subst eu
    have ev : (v - u / t.w * t.shift) % t.h = (v' - u / t.w * t.shift) % t.h := congrArg Prod.snd e
    have := win_inj (o := o - u / t.w * t.shift) (m := t.h) (by omega) (by omega) ev
    exact ⟨rfl, by omega⟩
  rw [if_neg k3, if_neg k3] at e
  exact ⟨win_inj hu hu' (congrArg Prod.fst e), win_inj hv hv' (congrArg Prod.snd e)⟩
theorem plN_inj (t : Topo) (hg : t.Good) {o u v u' v' : Int} (hu : o ≤ u ∧ u < o + t.w) (hv : o ≤ v ∧ v < o + t.h) (hu' : o ≤ u' ∧ u' < o + t.w) (hv' : o ≤ v' ∧ v' < o + t.h) (k : plOk t u v = true) (k' : plOk t u' v' = true) (e : plN t u v = plN t u' v') : u = u' ∧ v = v' := by
  have b := pl_bd t hg u v k
  have b' := pl_bd t hg u' v' k'
  have e1 : (plX t u v).1.toNat = (plX t u' v').1.toNat := congrArg Prod.fst e
  have e2 : (plX t u v).2.toNat = (plX t u' v').2.toNat := congrArg Prod.snd e
  refine cell_inj t hg hu hv hu' hv' ?_
  rw [← plX_cell t u v k, ← plX_cell t u' v' k']
  apply Prod.ext <;> omega
theorem mem_blkN {t : Topo} {u v : Int} (hk : blkOk t u v = true) {p : Nat × Nat} (hp : p ∈ blkN t u v) : ∃ a b : Int, (a = 0 ∨ a = 1) ∧ (b = 0 ∨ b = 1) ∧ plOk t (u + a) (v + b) = true ∧ p = plN t (u + a) (v + b) := by
  simp only [blkOk, Bool.and_eq_true] at hk
  obtain ⟨⟨⟨h0, h1⟩, h2⟩, h3⟩ := hk
  simp only [blkN, List.mem_cons, List.not_mem_nil, or_false] at hp
  rcases hp with rfl | rfl | rfl | rfl
  · exact ⟨0, 0, by omega, by omega, by simpa using h0, by simp⟩
  · exact ⟨1, 0, by omega, by omega, by simpa using h1, by simp⟩
  · exact ⟨0, 1, by omega, by omega, by simpa using h2, by simp⟩
  · exact ⟨1, 1, by omega, by omega, h3, rfl⟩
theorem blk_apart (t : Topo) (hg : t.Even) (o : Nat) {j m j' m' : Nat} (hj : (j : Int) < t.w / 2) (hm : (m : Int) < t.h / 2) (hj' : (j' : Int) < t.w / 2) (hm' : (m' : Int) < t.h / 2) (hne : ¬ (j = j' ∧ m = m'))
    (k : blkOk t ((o + 2 * j : Nat) : Int) ((o + 2 * m : Nat) : Int) = true) (k' : blkOk t ((o + 2 * j' : Nat) : Int) ((o + 2 * m' : Nat) : Int) = true) : Apart (blkN t ((o + 2 * j : Nat) : Int) ((o + 2 * m : Nat) : Int)) (blkN t ((o + 2 * j' : Nat) : Int) ((o + 2 * m' : Nat) : Int)) := fun p hp hp' => by
  have hwe := hg.we
  have hhe := hg.he
  obtain ⟨a, b, ha, hb, hok, e⟩ := mem_blkN k hp
  obtain ⟨a', b', ha', hb', hok', e'⟩ := mem_blkN k' hp'
  have := plN_inj t hg.toGood (o := (o : Int)) (by omega) (by omega) (by omega) (by omega) hok hok' (e.symm.trans e')
  omega
theorem blk_nodup (t : Topo) (hg : t.Even) (o : Nat) {j m : Nat} (hj : (j : Int) < t.w / 2) (hm : (m : Int) < t.h / 2) (k : blkOk t ((o + 2 * j : Nat) : Int) ((o + 2 * m : Nat) : Int) = true) : Four (blkN t ((o + 2 * j : Nat) : Int) ((o + 2 * m : Nat) : Int)) := by
  have hwe := hg.we
  have hhe := hg.he
  simp only [blkOk, Bool.and_eq_true] at k
  obtain ⟨⟨⟨h0, h1⟩, h2⟩, h3⟩ := k
  have key : ∀ {u v u' v' : Int}, ((o : Int) ≤ u ∧ u < o + t.w) → ((o : Int) ≤ v ∧ v < o + t.h) → ((o : Int) ≤ u' ∧ u' < o + t.w) → ((o : Int) ≤ v' ∧ v' < o + t.h) → plOk t u v = true → plOk t u' v' = true → ¬ (u = u' ∧ v = v') → plN t u v ≠ plN t u' v' :=
    fun a b c d k k' hne e => hne (plN_inj t hg.toGood a b c d k k' e)
  refine ⟨rfl, ?_⟩
  simp only [blkN, List.nodup_cons, List.mem_cons, List.not_mem_nil, or_false, not_or, List.nodup_nil, and_true, not_false_eq_true]
  refine ⟨⟨key ?_ ?_ ?_ ?_ h0 h1 ?_, key ?_ ?_ ?_ ?_ h0 h2 ?_, key ?_ ?_ ?_ ?_ h0 h3 ?_⟩, ⟨key ?_ ?_ ?_ ?_ h1 h2 ?_, key ?_ ?_ ?_ ?_ h1 h3 ?_⟩, key ?_ ?_ ?_ ?_ h2 h3 ?_⟩ <;> omega
theorem blocksL_four (t : Topo) (hg : t.Even) (o : Nat) {b : List (Nat × Nat)} (h : b ∈ blocksL t o) : Four b := by
  obtain ⟨j, m, h1, h2, k, rfl⟩ := mem_allB h
  exact blk_nodup t hg o (by omega) (by omega) k
theorem rowB_apart (t : Topo) (hg : t.Even) (o m : Nat) (hm : (m : Int) < t.h / 2) : ∀ j : Nat, (j : Int) ≤ t.w / 2 → (rowB t o ((o + 2 * m : Nat) : Int) j).Pairwise Apart
  | 0, _ => List.Pairwise.nil
  | j + 1, hj => by
    rw [rowB, List.pairwise_append]
    refine ⟨rowB_apart t hg o m hm j (by omega), ?_, ?_⟩
    · split
      · exact List.pairwise_singleton _ _
      · exact List.Pairwise.nil
    · intro x hx y hy
      obtain ⟨i, hi, k, rfl⟩ := mem_rowB hx
      split at hy
      · rename_i k'
        rw [List.mem_singleton.1 hy]
        exact blk_apart t hg o (by omega) hm (by omega) hm (by omega) k k'
      · cases hy
theorem allB_apart (t : Topo) (hg : t.Even) (o n : Nat) (hn : (n : Int) ≤ t.w / 2) : ∀ i : Nat, (i : Int) ≤ t.h / 2 → (allB t o n i).Pairwise Apart
  | 0, _ => List.Pairwise.nil
  | i + 1, hi => by
    rw [allB, List.pairwise_append]
    refine ⟨allB_apart t hg o n hn i (by omega), rowB_apart t hg o i (by omega) n hn, ?_⟩
    intro x hx y hy
    obtain ⟨j, m, h1, h2, k, rfl⟩ := mem_allB hx
    obtain ⟨j', h3, k', rfl⟩ := mem_rowB hy
    exact blk_apart t hg o (by omega) (by omega) (by omega) (by omega) (by omega) k k'
theorem blocksL_apart (t : Topo) (hg : t.Even) (o : Nat) : (blocksL t o).Pairwise Apart :=
  allB_apart t hg o _ (by have := hg.w0; omega) _ (by have := hg.h0; omega)

/-! ### a rule that takes back -/
theorem seenTo_at (bs : List Int) (hbs : Blk bs) (m : Nat) (hm : m < 16) : ∀ i, i ≤ 16 → 0 ≤ (seenTo bs i).getD m 0 ∧ (seenTo bs i).getD m 0 ≤ i ∧ ∀ j, j < i → (bs.getD j 0).toNat = m → 1 ≤ (seenTo bs i).getD m 0 ∧ ∀ l, l < j → (bs.getD l 0).toNat = m → 2 ≤ (seenTo bs i).getD m 0
  | 0, _ => by
    have e : (seenTo bs 0).getD m 0 = 0 := by
      show (List.replicate 16 (0 : Int)).getD m 0 = 0
      rw [List.getD_eq_getElem?_getD, List.getElem?_replicate, if_pos hm]; rfl
    rw [e]
    exact ⟨by omega, by omega, fun j hj => by omega⟩
  | i + 1, hi => by
    obtain ⟨ih1, ih2, ih3⟩ := seenTo_at bs hbs m hm i (by omega)
    have hl := length_seenTo bs i
    have e : (seenTo bs (i + 1)).getD m 0 = if (bs.getD i 0).toNat = m then (seenTo bs i).getD m 0 + 1 else (seenTo bs i).getD m 0 := by
      rw [seenTo_succ, bump]
      rw [List.getD_eq_getElem?_getD, List.getElem?_set]
      split
      · rename_i h
        subst h
        rw [if_pos (by omega)]
        simp only [Option.getD_some]
        exact IntWalk.u8_in _ (by omega)
      · rw [← List.getD_eq_getElem?_getD]
    rw [e]
    refine ⟨by split <;> omega, by split <;> omega, fun j hj hjm => ?_⟩
    by_cases ej : j = i
    · subst ej
      rw [if_pos hjm]
      exact ⟨by omega, fun l hl hlm => by have := (ih3 l hl hlm).1; omega⟩
    · have h := ih3 j (by omega) hjm
      exact ⟨by split <;> omega, fun l hl hlm => by have := h.2 l hl hlm; split <;> omega⟩
theorem turn_inj (bs : List Int) (hbs : Blk bs) (hturn : seenTo bs 16 = onceTo 16) {i j : Nat} (hi : i < 16) (hj : j < 16) (e : (bs.getD i 0).toNat = (bs.getD j 0).toNat) : i = j := by
  have once : ∀ m, m < 16 → (seenTo bs 16).getD m 0 = 1 := fun m hm => by
    have e16 : onceTo 16 = List.replicate 16 1 := by decide +kernel
    rw [hturn, e16, List.getD_eq_getElem?_getD, List.getElem?_replicate, if_pos hm]; rfl
  have key : ∀ {a b : Nat}, a < b → b < 16 → (bs.getD a 0).toNat = (bs.getD b 0).toNat → False := fun {a b} hab hb e => by
    have hm : (bs.getD b 0).toNat < 16 := by have := hbs.bd b; omega
    have h := ((seenTo_at bs hbs _ hm 16 (by omega)).2.2 b hb rfl).2 a hab e
    have := once _ hm
    omega
  rcases Nat.lt_trichotomy i j with h | h | h
  · exact (key h hj e).elim
  · exact h
  · exact (key h hi e.symm).elim
theorem back_inv (bs : List Int) (hbs : Blk bs) (hturn : seenTo bs 16 = onceTo 16) : Inv bs (backTo bs 16) := fun v hv => by
  have key : ∀ i, i ≤ 16 → v < i → (backTo bs i).getD (bs.getD v 0).toNat 0 = (v : Int) := fun i => by
    induction i with
    | zero => intro _ h; omega
    | succ i ih =>
      intro hi hvi
      have hl := length_backTo bs i
      have hm : (bs.getD v 0).toNat < 16 := by have := hbs.bd v; omega
      rw [backTo_succ, List.getD_eq_getElem?_getD, List.getElem?_set]
      split
      · rename_i h
        have := turn_inj bs hbs hturn (by omega) hv h
        subst this
        rw [if_pos (by omega)]; rfl
      · rename_i h
        rw [← List.getD_eq_getElem?_getD]
        exact ih (by omega) (by rcases Nat.lt_or_ge v i with g | g; exact g; obtain rfl : v = i := (by omega); exact (h rfl).elim)
  rw [key 16 (by omega) hv]; rfl

/-! ### generations -/
theorem stepF_lt {bs : List Int} {t : Topo} {o : Nat} {F : Nat → Nat → Nat} (hF : ∀ x y, F x y < 2) : ∀ x y, stepF bs t o F x y < 2 := foldB_lt _ hF
theorem seqF_lt {bs : List Int} {t : Topo} {g : Nat → Int} {F : Nat → Nat → Nat} (hF : ∀ x y, F x y < 2) : ∀ n x y, seqF bs t g F n x y < 2
  | 0 => hF
  | n + 1 => stepF_lt (seqF_lt hF n)
theorem seqF_zero {bs : List Int} {t : Topo} {g : Nat → Int} {F : Nat → Nat → Nat} : seqF bs t g F 0 = F := rfl
theorem law_pop (t : Topo) (hg : t.Even) {W H : Nat} (hWw : (W : Int) = t.w) (hHh : (H : Int) = t.h) (bs : List Int) (hbs : Blk bs) (hc : countsB bs = true) (g : Nat → Int) (n : Nat) {F : Nat → Nat → Nat} (hF : ∀ x y, F x y < 2) :
    popF (seqF bs t g F n) W H = popF F W H := by
  induction n with
  | zero => rfl
  | succ n ih =>
    rw [seqF, stepF, foldB_pop hbs hc _ (seqF_lt hF n) (fun y hy => ⟨blocksL_four t hg _ hy, blocksL_in t hg.toGood hWw hHh _ hy⟩)]
    exact ih
theorem law_back (t : Topo) (hg : t.Even) {W H : Nat} (hWw : (W : Int) = t.w) (hHh : (H : Int) = t.h) (bs : List Int) (hbs : Blk bs) (hturn : seenTo bs 16 = onceTo 16) (gen n : Int) (F : Nat → Nat → Nat) (hF : ∀ x y, F x y < 2) :
    sameB W H (seqF (backTo bs 16) t (fun i => gen + n - (i : Int) - 1) (seqF bs t (fun i => gen + (i : Int)) F n.toNat) n.toNat) F = true := by
  have key : ∀ m, m ≤ n.toNat → seqF (backTo bs 16) t (fun i => gen + n - (i : Int) - 1) (seqF bs t (fun i => gen + (i : Int)) F n.toNat) m = seqF bs t (fun i => gen + (i : Int)) F (n.toNat - m) := fun m => by
    induction m with
    | zero => intro _; rw [Nat.sub_zero, seqF_zero]
    | succ m ih =>
      intro hm
      obtain ⟨q, hq⟩ : ∃ q, n.toNat - m = q + 1 := ⟨n.toNat - m - 1, by omega⟩
      rw [seqF, ih (by omega), hq, show n.toNat - (m + 1) = q by omega, seqF]
      have e : gen + n - (m : Int) - 1 = gen + (q : Int) := by omega
      rw [e]
      exact foldB_inv hbs (back_inv bs hbs hturn) _ (seqF_lt hF q) (fun y hy => blocksL_four t hg _ hy) (blocksL_apart t hg _)
  rw [key _ (Nat.le_refl _), Nat.sub_self]
  exact sameB_iff.2 fun _ _ _ _ => rfl
end Go.Eng
