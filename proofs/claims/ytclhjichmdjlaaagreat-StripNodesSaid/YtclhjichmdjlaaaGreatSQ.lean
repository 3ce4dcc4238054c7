/- Walks of the functions of the seat over those rules, and plain laws of what they compute. No conditions beyond those in each theorem. -/
import Derived.Test.YtclhjichmdjlaaaGreatSP
set_option linter.unusedSimpArgs false
set_option linter.unusedVariables false
namespace Go.Eng
open Go.RowKit Go.Proofs
/-! The law of nodes put together of rows: what the loops keep. -/
/-- The row that is made of a given one. -/
def rowAt (R : List ByteArray) (W i : Nat) : List Int := (List.range W).map fun q => ((intsB (R.getD i ByteArray.empty)).getD q 0).tmod 2
def rowG (R : List ByteArray) (W i : Nat) : ByteArray := textOf (rowAt R W i)
theorem rowAt_len (R : List ByteArray) (W i : Nat) : (rowAt R W i).length = W := by simp [rowAt]
theorem intsB_u8 (x : ByteArray) (q : Nat) : 0 ≤ (intsB x).getD q 0 ∧ (intsB x).getD q 0 < 256 := by
  rcases Nat.lt_or_ge q (intsB x).length with h | h
  · have hm := getD_mem (d := (0 : Int)) h
    generalize (intsB x).getD q 0 = z at hm ⊢
    unfold intsB at hm
    obtain ⟨b, _, rfl⟩ := List.mem_map.1 hm
    have := b.toNat_lt
    omega
  · rw [List.getD_eq_getElem?_getD, List.getElem?_eq_none h]; simp
theorem tmod2 {z : Int} (h : 0 ≤ z) : 0 ≤ z.tmod 2 ∧ z.tmod 2 < 2 := by
  rw [Int.tmod_eq_emod_of_nonneg h]; omega
theorem rowAt_get (R : List ByteArray) (W i q : Nat) (h : q < W) : (rowAt R W i).getD q 0 = ((intsB (R.getD i ByteArray.empty)).getD q 0).tmod 2 := by
  unfold rowAt
  rw [List.getD_eq_getElem?_getD, List.getElem?_map, List.getElem?_range h]; rfl
theorem rowAt_bd (R : List ByteArray) (W i : Nat) : ∀ x ∈ rowAt R W i, 0 ≤ x ∧ x < 2 := fun x hx => by
  unfold rowAt at hx
  obtain ⟨q, _, rfl⟩ := List.mem_map.1 hx
  exact tmod2 (intsB_u8 _ _).1
theorem intsB_rowG (R : List ByteArray) (W i : Nat) : intsB (rowG R W i) = rowAt R W i := intsB_textOf _ fun x hx => by have := rowAt_bd R W i x hx; omega
theorem rowG_size (R : List ByteArray) (W i : Nat) : (rowG R W i).size = W := by rw [← intsB_len, intsB_rowG, rowAt_len]
theorem rowG_ok {S : SeaD} (K : SeaK S) (R : List ByteArray) (i : Nat) : RowOkB S (rowG R S.t.w.toNat i) := by
  have hf := K.ok.1.facts
  have hto := K.ok.2.1; unfold TopoD.Ok at hto
  refine ⟨by rw [rowG_size]; omega, fun q hq => ?_⟩
  rw [rowG_size] at hq
  rw [intsB_rowG, rowAt_get _ _ _ _ hq]
  have := tmod2 (intsB_u8 (R.getD i ByteArray.empty) q).1
  omega
/-- A row's cells, all done. -/
theorem upto_fin (W k : Nat) (f : Nat → Int) (h : ∀ q, k ≤ q → q < W → f q = 0) : upto W k f (fun _ => 0) = u8sC ((List.range W).map f) := by
  unfold upto u8sC
  rw [List.map_map]
  refine List.map_congr_left fun i hi => ?_
  have hi := List.mem_range.1 hi
  by_cases hk : i < k
  · rw [if_pos hk]; rfl
  · rw [if_neg hk]; show Value.int .u8 0 = Value.int .u8 (f i); rw [h i (by omega) hi]
theorem rowAt_fin (R : List ByteArray) (W i k : Nat) (h : W ≤ k ∨ (intsB (R.getD i ByteArray.empty)).length ≤ k) : upto W k (fun q => ((intsB (R.getD i ByteArray.empty)).getD q 0).tmod 2) (fun _ => 0) = u8sC (intsB (rowG R W i)) := by
  rw [intsB_rowG]
  exact upto_fin W k _ fun q h1 h2 => by
    rw [List.getD_eq_getElem?_getD, List.getElem?_eq_none (by omega)]; rfl
theorem rowAt_none (R : List ByteArray) (W i : Nat) (h : R.length ≤ i) : List.replicate W (Value.int .u8 0) = u8sC (intsB (rowG R W i)) := by
  rw [← rowAt_fin R W i 0 (.inr ?_), upto_zero]
  rw [List.getD_eq_getElem?_getD, List.getElem?_eq_none h]; exact Nat.le_refl _
def rowsG (G : Nat → ByteArray) (i : Nat) : List ByteArray := (List.range i).map G
theorem rowsG_succ (G : Nat → ByteArray) (i : Nat) : rowsG G (i + 1) = rowsG G i ++ [G i] := by unfold rowsG; rw [List.range_succ, List.map_append]; rfl
theorem rowsG_len (G : Nat → ByteArray) (i : Nat) : (rowsG G i).length = i := by simp [rowsG]
theorem rowsG_get (G : Nat → ByteArray) (n i : Nat) (h : i < n) : (rowsG G n).getD i ByteArray.empty = G i := by
  unfold rowsG
  rw [List.getD_eq_getElem?_getD, List.getElem?_map, List.getElem?_range h]; rfl
theorem idsC_snoc (l : List Nat) (n : Nat) : idsC l ++ [encI n] = idsC (l ++ [n]) := by simp [idsC]
/-- A sea of a rule and a topology. -/
structure SeaN (r : RuleD) (t : TopoD) (S : SeaD) (n k d : Nat) : Prop where
  inv : NInv S
  r : S.r = r
  t : S.t = t
  most : S.most = 1048576
  nodes : S.nodes.length ≤ n
  kept : S.kept.length ≤ k
  told : S.told.length ≤ d
theorem SeaN.step {r : RuleD} {t : TopoD} {S T : SeaD} {n k d n' k' d' : Nat} (h : SeaN r t S n k d) (i : NInv T) (x : Nx S T) (h1 : T.nodes.length ≤ S.nodes.length + n') (h2 : T.kept.length ≤ S.kept.length + k') (h3 : T.told.length ≤ S.told.length + d') : SeaN r t T (n + n') (k + k') (d + d') :=
  ⟨i, x.r.trans h.r, x.t.trans h.t, x.most.trans h.most, by have := h.nodes; omega, by have := h.kept; omega, by have := h.told; omega⟩
theorem SeaN.mono {r : RuleD} {t : TopoD} {S : SeaD} {n k d n' k' d' : Nat} (h : SeaN r t S n k d) (h1 : n ≤ n') (h2 : k ≤ k') (h3 : d ≤ d') : SeaN r t S n' k' d' := ⟨h.inv, h.r, h.t, h.most, by have := h.nodes; omega, by have := h.kept; omega, by have := h.told; omega⟩
structure St1 (r : RuleD) (t : TopoD) (G : Nat → ByteArray) (S : SeaD) (ids : List Nat) (i : Nat) : Prop where
  s : SeaN r t S i (2 * i) i
  len : ids.length = i
  is : ∀ q, q < i → Tld S (ids.getD q 0) 0 [G q]
theorem St1.zero {r : RuleD} {t : TopoD} {G : Nat → ByteArray} (hr : r.Wd) (ht : t.Wd) (ho : WOk r t) : St1 r t G (SeaD.new r t 1048576) [] 0 :=
  ⟨⟨NInv.new hr ht ho (by omega), rfl, rfl, rfl, Nat.le_refl _, Nat.le_refl _, Nat.le_refl _⟩, rfl, fun q h => absurd h (by omega)⟩
theorem St1.step {r : RuleD} {t : TopoD} {G : Nat → ByteArray} {S : SeaD} {ids : List Nat} {i : Nat} (h : St1 r t G S ids i) (hi : i ≤ 64) (hx : RowOkB S (G i)) :
    St1 r t G (S.Row (G i)).1 (ids ++ [(S.Row (G i)).2.1]) (i + 1) ∧ (S.Row (G i)).1.Row (G i) = ((S.Row (G i)).1, (S.Row (G i)).2.1, 0) := by
  have hk := h.s.kept
  have hc : S.kept.length + 2 ≤ S.most := by rw [h.s.most]; omega
  have m := row_made h.s.inv hx hc
  refine ⟨⟨(h.s.step m.t.inv m.nx m.nodes m.keptL m.toldL).mono (by omega) (by omega) (by omega), by rw [List.length_append, h.len]; rfl, fun q hq => ?_⟩, ?_⟩
  · rw [getD_snoc, h.len]
    rcases Nat.lt_or_ge q i with h1 | h1
    · rw [if_pos h1]; exact (h.is q h1).up m.nx h.s.inv.i.nw
    · obtain rfl : q = i := by omega
      rw [if_neg (by omega), if_pos rfl]; exact m.is
  · obtain ⟨h1, h2⟩ := row_again h.s.inv hx hc
    have e1 : (S.Row (G i)).1.row (G i) = ((S.Row (G i)).1, (S.row (G i)).2) := h1
    have e2 : (S.Row (G i)).1.tell (S.row (G i)).2 = ((S.Row (G i)).1, (S.Row (G i)).2.1, 0) := h2
    generalize S.Row (G i) = T at e1 e2 ⊢
    unfold SeaD.Row
    rw [e1]; exact e2
def chunk (G : Nat → ByteArray) (l q : Nat) : List ByteArray := (List.range (2 ^ l)).map fun p => G (q * 2 ^ l + p)
theorem chunk_succ (G : Nat → ByteArray) (l q : Nat) : chunk G l (2 * q) ++ chunk G l (2 * q + 1) = chunk G (l + 1) q := by
  unfold chunk
  rw [show 2 ^ (l + 1) = 2 ^ l + 2 ^ l by rw [Nat.pow_succ]; omega, List.range_add, List.map_append, List.map_map]
  have h1 : 2 * q * 2 ^ l = q * (2 ^ l + 2 ^ l) := by rw [Nat.mul_comm 2 q, Nat.mul_assoc, Nat.two_mul]
  have h2 : (2 * q + 1) * 2 ^ l = q * (2 ^ l + 2 ^ l) + 2 ^ l := by rw [Nat.add_mul, h1, Nat.one_mul]
  rw [h1, h2]
  congr 1
  refine List.map_congr_left fun p _ => ?_
  show G _ = G _
  rw [Nat.add_assoc]
theorem chunk_zero (G : Nat → ByteArray) (l : Nat) : chunk G l 0 = rowsG G (2 ^ l) := by
  unfold chunk rowsG
  refine List.map_congr_left fun p _ => ?_
  rw [Nat.zero_mul, Nat.zero_add]
structure St2 (r : RuleD) (t : TopoD) (G : Nat → ByteArray) (lv : Nat) (S : SeaD) (ids : List Nat) (l : Nat) : Prop where
  s : SeaN r t S (64 + 64 * l) (128 + 128 * l) (64 + 64 * l)
  hl : l ≤ lv
  len : ids.length = 2 ^ (lv - l)
  is : ∀ q, q < ids.length → Tld S (ids.getD q 0) l (chunk G l q)
theorem pow6 {lv : Nat} (h : lv ≤ 6) : 0 < 2 ^ lv ∧ 2 ^ lv ≤ 64 := ⟨Nat.two_pow_pos _, show 2 ^ lv ≤ 2 ^ 6 from Nat.pow_le_pow_right (by omega) h⟩
theorem St1.st2 {r : RuleD} {t : TopoD} {G : Nat → ByteArray} {lv : Nat} {S : SeaD} {ids : List Nat} (h : St1 r t G S ids (2 ^ lv)) (hv : lv ≤ 6) : St2 r t G lv S ids 0 := by
  have hp := pow6 hv
  refine ⟨h.s.mono (by omega) (by omega) (by omega), Nat.zero_le _, h.len, fun q hq => ?_⟩
  have e : chunk G 0 q = [G q] := by unfold chunk; simp
  rw [e]
  exact h.is q (by have := h.len; omega)
structure St3 (r : RuleD) (t : TopoD) (G : Nat → ByteArray) (lv : Nat) (ids : List Nat) (l : Nat) (S : SeaD) (nx : List Nat) (m : Nat) : Prop where
  s : SeaN r t S (64 + 64 * l + m) (128 + 128 * l + m * 2 ^ (l + 2)) (64 + 64 * l + m)
  hl : l < lv
  half : ids.length = 2 * 2 ^ (lv - (l + 1))
  is : ∀ q, q < ids.length → Tld S (ids.getD q 0) l (chunk G l q)
  len : nx.length = m
  hm : 2 * m ≤ ids.length
  nis : ∀ q, q < m → Tld S (nx.getD q 0) (l + 1) (chunk G (l + 1) q)
theorem St2.st3 {r : RuleD} {t : TopoD} {G : Nat → ByteArray} {lv : Nat} {S : SeaD} {ids : List Nat} {l : Nat} (h : St2 r t G lv S ids l) (hi : 1 < ids.length) : St3 r t G lv ids l S [] 0 := by
  have hl : l < lv := by
    rcases Nat.lt_or_ge l lv with e | e
    · exact e
    · have := h.len; rw [show lv - l = 0 by omega] at this; simp at this; omega
  exact ⟨h.s.mono (by omega) (by omega) (by omega), hl, by rw [h.len, show lv - l = (lv - (l + 1)) + 1 by omega, Nat.pow_succ]; omega, h.is, rfl, by omega, fun q hq => absurd hq (by omega)⟩
theorem St3.bd {r : RuleD} {t : TopoD} {G : Nat → ByteArray} {lv : Nat} {S : SeaD} {ids nx : List Nat} {l m : Nat} (h : St3 r t G lv ids l S nx m) (hv : lv ≤ 6) : m ≤ 64 ∧ m * 2 ^ (l + 2) ≤ 128 := by
  have hp := pow6 hv
  have h1 : m ≤ 2 ^ (lv - (l + 1)) := by have := h.hm; have := h.half; omega
  have h2 : m * 2 ^ (l + 2) ≤ 2 ^ (lv - (l + 1)) * 2 ^ (l + 2) := Nat.mul_le_mul_right _ h1
  have h3 : 2 ^ (lv - (l + 1)) * 2 ^ (l + 2) = 2 * 2 ^ lv := by
    rw [← Nat.pow_add, show lv - (l + 1) + (l + 2) = lv + 1 by have := h.hl; omega, Nat.pow_succ]; omega
  have h4 : 2 ^ (lv - (l + 1)) ≤ 2 ^ lv := Nat.pow_le_pow_right (by omega) (by omega)
  omega
theorem St3.step {r : RuleD} {t : TopoD} {G : Nat → ByteArray} {lv : Nat} {S : SeaD} {ids nx : List Nat} {l m : Nat} (h : St3 r t G lv ids l S nx m) (hv : lv ≤ 6) (hm : 2 * m + 1 < ids.length) :
    Tld S (ids.getD (2 * m) 0) l (chunk G l (2 * m)) ∧ Tld S (ids.getD (2 * m + 1) 0) l (chunk G l (2 * m + 1)) ∧ S.kept.length + 2 ^ (l + 2) ≤ S.most ∧
    St3 r t G lv ids l (S.Pair (ids.getD (2 * m) 0) (ids.getD (2 * m + 1) 0)).1 (nx ++ [(S.Pair (ids.getD (2 * m) 0) (ids.getD (2 * m + 1) 0)).2.1]) (m + 1) := by
  have hb := h.bd hv
  have hl := h.hl
  have hp2 : 2 ^ (l + 2) ≤ 256 := show 2 ^ (l + 2) ≤ 2 ^ 8 from Nat.pow_le_pow_right (by omega) (by omega)
  have hk := h.s.kept
  have t1 := h.is (2 * m) (by omega)
  have t2 := h.is (2 * m + 1) hm
  have hc : S.kept.length + 2 ^ (l + 2) ≤ S.most := by rw [h.s.most]; omega
  have M := pair_made h.s.inv t1 t2 (by omega) hc
  refine ⟨t1, t2, hc, ⟨(h.s.step (k' := 2 ^ (l + 2)) M.t.inv M.nx M.nodes M.keptL M.toldL).mono (by omega) (by rw [Nat.succ_mul m]; omega) (by omega), hl, h.half, fun q hq => (h.is q hq).up M.nx h.s.inv.i.nw, by rw [List.length_append, h.len]; rfl, by omega, fun q hq => ?_⟩⟩
  rw [getD_snoc, h.len]
  rcases Nat.lt_or_ge q m with h1 | h1
  · rw [if_pos h1]; exact (h.nis q h1).up M.nx h.s.inv.i.nw
  · obtain rfl : q = m := by omega
    rw [if_neg (by omega), if_pos rfl, ← chunk_succ]; exact M.is
theorem St3.done {r : RuleD} {t : TopoD} {G : Nat → ByteArray} {lv : Nat} {S : SeaD} {ids nx : List Nat} {l m : Nat} (h : St3 r t G lv ids l S nx m) (hv : lv ≤ 6) (hm : ids.length ≤ 2 * m) : St2 r t G lv S nx (l + 1) := by
  have hb := h.bd hv
  have e : m = 2 ^ (lv - (l + 1)) := by have := h.half; have := h.hm; omega
  exact ⟨h.s.mono (by omega) (by omega) (by omega), h.hl, by rw [h.len, ← e], fun q hq => h.nis q (by rw [h.len] at hq; exact hq)⟩
theorem St2.done {r : RuleD} {t : TopoD} {G : Nat → ByteArray} {lv : Nat} {S : SeaD} {ids : List Nat} {l : Nat} (h : St2 r t G lv S ids l) (hi : ids.length ≤ 1) : l = lv ∧ ids.length = 1 ∧ Tld S (ids.getD 0 0) lv (rowsG G (2 ^ lv)) := by
  have hl := h.hl
  have e : l = lv := by
    rcases Nat.lt_or_ge l lv with e | e
    · have := h.len
      rw [show lv - l = (lv - l - 1) + 1 by omega, Nat.pow_succ] at this
      have := Nat.two_pow_pos (lv - l - 1)
      omega
    · omega
  subst e
  have hlen : ids.length = 1 := by rw [h.len, Nat.sub_self]
  refine ⟨rfl, hlen, ?_⟩
  rw [← chunk_zero]
  exact h.is 0 (by omega)
/-! ### generations -/
abbrev genR (L : ByteArray → ByteArray → ByteArray → ByteArray) (R : List ByteArray) (k : Nat) : List ByteArray := win L R k k (R.length - 2 * k)
theorem cell_ok {S : SeaD} (K : SeaK S) {R : List ByteArray} (hR : ∀ i, i < R.length → RowOkB S (R.getD i ByteArray.empty)) : ∀ (k q : Nat), k ≤ q → q + k < R.length → RowOkB S (cellAt (lineR S.r S.t) R k q)
  | 0, q, _, h => hR q (by omega)
  | k + 1, q, h1, h2 => lineR_ok K (cell_ok K hR k (q - 1) (by omega) (by omega)) (cell_ok K hR k q (by omega) (by omega)) (cell_ok K hR k (q + 1) (by omega) (by omega))
theorem genR_get {L : ByteArray → ByteArray → ByteArray → ByteArray} {R : List ByteArray} {k i : Nat} (h : i < R.length - 2 * k) : (genR L R k).getD i ByteArray.empty = cellAt L R k (k + i) := win_get R k k _ i h
theorem genR_len (L : ByteArray → ByteArray → ByteArray → ByteArray) (R : List ByteArray) (k : Nat) : (genR L R k).length = R.length - 2 * k := win_len R k k _
theorem win_succ (L : ByteArray → ByteArray → ByteArray → ByteArray) (R : List ByteArray) (k p m : Nat) : win L R k p (m + 1) = win L R k p m ++ [cellAt L R k (p + m)] := by
  unfold win; rw [List.range_succ, List.map_append]; rfl
theorem win_next (L : ByteArray → ByteArray → ByteArray → ByteArray) (R : List ByteArray) (k m : Nat) (hm : m + 2 < R.length - 2 * k) : win L R (k + 1) (k + 1) m ++ [L ((genR L R k).getD m ByteArray.empty) ((genR L R k).getD (m + 1) ByteArray.empty) ((genR L R k).getD (m + 2) ByteArray.empty)] = win L R (k + 1) (k + 1) (m + 1) := by
  rw [win_succ, genR_get (by omega), genR_get (by omega), genR_get (by omega)]
  have e : cellAt L R (k + 1) (k + 1 + m) = L (cellAt L R k (k + 1 + m - 1)) (cellAt L R k (k + 1 + m)) (cellAt L R k (k + 1 + m + 1)) := rfl
  rw [e, show k + 1 + m - 1 = k + m by omega, show k + (m + 1) = k + 1 + m by omega, show k + (m + 2) = k + 1 + m + 1 by omega]
theorem genR_zero (L : ByteArray → ByteArray → ByteArray → ByteArray) (R : List ByteArray) : genR L R 0 = R := by
  show win L R 0 0 (R.length - 2 * 0) = R
  rw [Nat.mul_zero, Nat.sub_zero, win_zero]
theorem mid_get {L : ByteArray → ByteArray → ByteArray → ByteArray} {R : List ByteArray} {j i : Nat} (h : i < R.length / 2) (h2 : 2 ^ j ≤ R.length / 4) : (midD L R j).getD i ByteArray.empty = (genR L R (2 ^ j)).getD (R.length / 4 - 2 ^ j + i) ByteArray.empty := by
  unfold midD
  rw [win_get _ _ _ _ _ h, genR_get (by omega)]
  congr 1
  omega
theorem mid_len (L : ByteArray → ByteArray → ByteArray → ByteArray) (R : List ByteArray) (j : Nat) : (midD L R j).length = R.length / 2 := by unfold midD; exact win_len _ _ _ _
end Go.Eng
namespace Go.Eng
open Go.RowKit Go.Proofs
section
variable {h0 : Hp} {σ : List HP}
theorem Rd.rowsV' {b o o' cap : Nat} {v : Value} {vs : List Value} {ls : List ByteArray} (i : Nat) (hi : σ[i]? = some (Go.Eng.rowsV v vs ls)) (e : v = .slice (some ⟨b, o, none⟩) ls.length cap) (j : Nat) (hj : j < ls.length) (ho : o' = o + j) : Rd h0 σ ⟨b, o', none⟩ (vs.getD j undef) := by
  subst ho; exact Rd.rowsV i hi e j hj
theorem St.rowsV_rows {k w : World} {v : Value} {vs : List Value} {ls : List ByteArray} (i : Nat) (hi : σ[i]? = some (Go.Eng.rowsV v vs ls)) (s : St k h0 σ w) : ∀ j, j < ls.length → 0 < (intsB (ls.getD j ByteArray.empty)).length → ∃ b o cap, vs.getD j undef = .slice (some ⟨b, o, none⟩) (intsB (ls.getD j ByteArray.empty)).length cap :=
  fun j hj hp => s.rowsV_row i hi j hj hp
theorem In.rowsVB {h : Hp} {v u : Value} {vs : List Value} {ls : List ByteArray} (i : In (Go.Eng.rowsV v vs ls) h) (j : Nat) (hj : j < ls.length) (e : vs.getD j undef = u) : BytesAt h u (intsB (ls.getD j ByteArray.empty)) := by
  obtain ⟨a, x, l⟩ := i
  rw [← e]; exact (x.2 j hj).mono l
end
theorem lineR_ints {r : RuleD} {t : TopoD} (hw : r.Wd) (hwo : WOk r t) {x y z : ByteArray} (rx : RowOk2 r t x) (ry : RowOk2 r t y) (rz : RowOk2 r t z) : intsB (lineR r t x y z) = lineD r t (intsB x) (intsB y) (intsB z) := by
  have hok := hwo.1
  have hf := hok.facts
  have hto := hwo.2.1
  unfold TopoD.Ok at hto
  have hx3 : Rows3 r t.w.toNat (intsB x) (intsB y) (intsB z) := ⟨by rw [intsB_len]; have := rx.1; omega, by rw [intsB_len]; have := ry.1; omega, by rw [intsB_len]; have := rz.1; omega, fun i hi => rx.2 i (by have := rx.1; omega), fun i hi => ry.2 i (by have := ry.1; omega), fun i hi => rz.2 i (by have := rz.1; omega)⟩
  have hle : ∀ v ∈ lineD r t (intsB x) (intsB y) (intsB z), 0 ≤ v ∧ v < r.nSt := by
    intro v hv
    unfold lineD at hv
    obtain ⟨i, hi, rfl⟩ := List.mem_map.1 hv
    exact nx_ok hw hok (hx3.h i (List.mem_range.1 hi)) (aroundD_bd hok hx3 i)
  exact intsB_textOf _ fun v hv => by have := hle v hv; omega
theorem RowOk2.rows3 {r : RuleD} {t : TopoD} {x y z : ByteArray} (h0 : 0 ≤ t.w) (rx : RowOk2 r t x) (ry : RowOk2 r t y) (rz : RowOk2 r t z) : Rows3 r t.w.toNat (intsB x) (intsB y) (intsB z) :=
  ⟨by rw [intsB_len]; have := rx.1; omega, by rw [intsB_len]; have := ry.1; omega, by rw [intsB_len]; have := rz.1; omega, fun i hi => rx.2 i (by have := rx.1; omega), fun i hi => ry.2 i (by have := ry.1; omega), fun i hi => rz.2 i (by have := rz.1; omega)⟩
theorem RowOk2.len {r : RuleD} {t : TopoD} {x : ByteArray} (h : RowOk2 r t x) : (intsB x).length = t.w.toNat := by rw [intsB_len]; have := h.1; omega
theorem gen_ok {S : SeaD} {r : RuleD} {t : TopoD} (K : SeaK S) (hr : S.r = r) (ht : S.t = t) (R : List ByteArray) (n k q : Nat) (hq : q < n - 2 * k) : RowOk2 r t ((genR (lineR r t) (rowsG (rowG R t.w.toNat) n) k).getD q ByteArray.empty) := by
  subst hr ht
  have hl := rowsG_len (rowG R S.t.w.toNat) n
  rw [genR_get (by rw [hl]; exact hq)]
  have h : RowOkB S (cellAt (lineR S.r S.t) (rowsG (rowG R S.t.w.toNat) n) k (k + q)) := cell_ok K (fun i hi => by rw [hl] at hi; rw [rowsG_get _ _ _ hi]; exact rowG_ok K R i) k (k + q) (by omega) (by rw [hl]; omega)
  exact h
theorem row_ok2 {S : SeaD} {r : RuleD} {t : TopoD} (K : SeaK S) (hr : S.r = r) (ht : S.t = t) (R : List ByteArray) (n q : Nat) (hq : q < n) : RowOk2 r t ((rowsG (rowG R t.w.toNat) n).getD q ByteArray.empty) := by
  subst hr ht
  rw [rowsG_get _ _ _ hq]
  exact rowG_ok K R q
theorem win_gen {L : ByteArray → ByteArray → ByteArray → ByteArray} {R : List ByteArray} {k m : Nat} (h : m = R.length - 2 * (k + 1)) : win L R (k + 1) (k + 1) m = genR L R (k + 1) := by subst h; rfl
end Go.Eng
namespace Go.Eng
open Go.RowKit Go.Proofs
section
variable {k : World} {h0 : Hp}
theorem sea_RowB (b : Nat) (A : SeaA) (S : SeaD) (v : Value) (x : ByteArray) (h : NInv S) (hv : BytesAt h0 v (intsB x)) (hx : RowOkB S x) (hk : S.kept.length + 2 ≤ S.most) (hn : S.nodes.length < S.most) (ht : S.told.length ≤ 1048576) :
  FT Pg 16 [.pointer (some ⟨b, 0, none⟩), v] k h0 (seaS b A S) (Ret fun y τ => ∃ nv ov, y = .tuple #[encI (S.Row x).2.1, .int .i64 0] ∧ τ = seaS b { A with nv := nv, ov := ov } (S.Row x).1) := by
 have c := sea_RowN (k := k) b A S v (intsB x) h hv ⟨by rw [intsB_len]; exact hx.1, fun i hi => hx.2 i (by rwa [intsB_len] at hi)⟩ hk hn ht
 rw [textOf_intsB] at c
 exact c
theorem sea_MidC (b : Nat) (A : SeaA) (S : SeaD) (u lv : Nat) (j : Int) (R : List ByteArray) (h : NInv S) (hu : Tld S u lv R) (hv : lv ≤ 6) (hk : S.kept.length + 64 ≤ S.most) (hc : S.nodes.length + 2655 ≤ S.most) (ht : S.told.length ≤ 1048576) :
  FT Pg 20 [.pointer (some ⟨b, 0, none⟩), encI u, .int .i64 j] k h0 (seaS b A S) (Ret fun y τ => (∃ jn l : Nat, j = (jn : Int) ∧ lv = l + 2 ∧ jn ≤ l ∧ ∃ nv ov, y = .tuple #[encI (SeaD.Mid 5 S u jn).2.1, .int .i64 0] ∧ τ = seaS b { A with nv := nv, ov := ov } (SeaD.Mid 5 S u jn).1) ∨ ((j < 0 ∨ (lv : Int) < j + 2) ∧ y = .tuple #[.int .i64 0, .int .i64 2] ∧ τ = seaS b A S)) := by
 by_cases hj : j < 0 ∨ (lv : Int) < j + 2
 · have hl : (S.nodes.getD (S.told.getD u 0) .no).level = lv := hu.2.1.2
   exact (sea_MiddleE (k := k) (h0 := h0) b A S h.i u hu.1 hu.2.1.1 j (by rw [hl]; exact hj) (by omega)).mono fun e τ ⟨y, he, hr⟩ => ⟨y, he, .inr ⟨hj, hr⟩⟩
 · obtain ⟨jn, rfl⟩ : ∃ n : Nat, j = (n : Int) := ⟨j.toNat, by omega⟩
   obtain ⟨l, rfl⟩ : ∃ l, lv = l + 2 := ⟨lv - 2, by omega⟩
   have hp : 2 ^ (l + 2) ≤ 64 := (pow6 hv).2
   have hcm : costM l ≤ 2655 := by
    have h4 : l ≤ 4 := by omega
    rcases l with _ | _ | _ | _ | _ | l
    · decide
    · decide
    · decide
    · decide
    · decide
    · omega
   exact (sea_MidN (k := k) (h0 := h0) b A S u l 5 jn R h hu (by omega) (by omega) (by omega) (by omega) ht).mono fun e τ ⟨y, he, hr⟩ => ⟨y, he, .inl ⟨jn, l, rfl, rfl, by omega, hr⟩⟩
set_option maxRecDepth 10000 in
set_option maxHeartbeats 16000000 in
theorem law_StripNodes (r : RuleD) (hw : r.Wd) (v w : Value) (hta : TabAt h0 r.table v w) (t : TopoD) (hwt : t.Wd) (R : List ByteArray) (rv : Value) (hbt : BtsAt h0 rv R) (lev j : Int) (hlI : I64 lev) (hjI : I64 j) : FT Pg 4 [.agg (ruleC r v w).toArray, .agg (topoC t).toArray, rv, .int .i64 lev, .int .i64 j] k h0 [] (Is (.bool true)) := by
 obtain ⟨vs, ⟨ra, rcap, rfl, hrcap, hrn, hrs⟩, hall⟩ := hbt
 unfold I64 at hlI hjI
 refine FT.of_wp (n := 332) Tryz.func4 rfl rfl rfl ?_;refine WP.regs ?_;refine L.box rfl rfl ?_; intro b5;refine L.box rfl rfl ?_; intro b6;refine L.assign rfl ?_;refine WL.nil ?_;refine WP.regs ?_;refine WL.callV rfl rfl F8.fn rfl (fun g gS dj => law_awake) ?_;refine L.assign rfl ?_;refine WL.nil ?_;refine WP.seq ?_;refine WP.regs ?_;refine L.loadN T32.ag rfl rfl (Rds.all 1 rfl) ?_;refine L.loadN T34.ag rfl rfl (Rds.all 0 rfl) ?_;refine WL.call rfl rfl F15.fn rfl (FT.pureR fun g gS dj => window_Check r hw v w (hta.mono (Hp.le_un_left _ _)) t hwt) ?_; rintro _ _ ⟨⟨e, rfl, he⟩, rfl⟩;refine L.neqD rfl rfl (fun h45 => ?_) (fun h45 => ?_)
 ·
  refine L.move rfl ?_
  iterate 3 refine L.skip ?_
  refine L.pickT rfl rfl ?_;refine L.move rfl ?_
  iterate 2 refine L.skip ?_
  refine L.pickT rfl rfl ?_;refine L.move rfl ?_
  iterate 2 refine L.skip ?_
  refine L.pickT rfl rfl ?_;refine WL.nil ?_;refine WP.condT rfl ?_;refine WP.regs ?_;refine L.move rfl ?_;refine L.assign rfl ?_;refine WL.nil ?_;refine WP.ret ?_;refine X.thenR ?_;refine X.ret rfl (Res.one rfl rfl) ?_
  first
   | exact rfl
   | (show _ = _
      rw [decide_eq_true (by decide)])
 ·
  refine L.move rfl ?_;refine L.fieldAddr (o' := 1) T34.f1 rfl rfl ?_;refine L.load T3.sc rfl (Rd.own 0 rfl rfl) ?_;refine L.gtrD rfl rfl (fun h49 => ?_) (fun h49 => ?_)
  ·
   refine L.pickF rfl rfl ?_;refine L.move rfl ?_
   iterate 2 refine L.skip ?_
   refine L.pickT rfl rfl ?_;refine L.move rfl ?_
   iterate 2 refine L.skip ?_
   refine L.pickT rfl rfl ?_;refine WL.nil ?_;refine WP.condT rfl ?_;refine WP.regs ?_;refine L.move rfl ?_;refine L.assign rfl ?_;refine WL.nil ?_;refine WP.ret ?_;refine X.thenR ?_;refine X.ret rfl (Res.one rfl rfl) ?_
   first
    | exact rfl
    | (show _ = _
       rw [decide_eq_true (by decide)])
  ·
   refine L.pickF rfl rfl ?_;(iterate 2 refine L.move rfl ?_);refine L.lssD rfl rfl (fun h53 => ?_) (fun h53 => ?_)
   ·
    refine L.pickF rfl rfl ?_;refine L.move rfl ?_
    iterate 2 refine L.skip ?_
    refine L.pickT rfl rfl ?_;refine WL.nil ?_;refine WP.condT rfl ?_;refine WP.regs ?_;refine L.move rfl ?_;refine L.assign rfl ?_;refine WL.nil ?_;refine WP.ret ?_;refine X.thenR ?_;refine X.ret rfl (Res.one rfl rfl) ?_
    first
     | exact rfl
     | (show _ = _
        rw [decide_eq_true (by decide)])
   ·
    refine L.pickF rfl rfl ?_;(iterate 2 refine L.move rfl ?_);refine L.gtr rfl rfl ?_;refine L.pickF rfl rfl ?_;refine WL.nil ?_;refine WP.condD rfl (fun h58 => ?_) (fun h58 => ?_)
    ·
     refine WP.regs ?_;refine L.move rfl ?_;refine L.assign rfl ?_;refine WL.nil ?_;refine WP.ret ?_;refine X.thenR ?_;refine X.ret rfl (Res.one rfl rfl) ?_
     first
      | exact rfl
      | (show _ = _
         rw [decide_eq_true (by decide)])
    ·
     refine WP.skip ?_;refine X.thenN ?_;refine WP.regs ?_
     have hwo : WOk r t := he.1 (by omega)
     have hto := hwo.2.1
     unfold TopoD.Ok at hto
     obtain ⟨lv, rfl⟩ : ∃ n : Nat, lev = (n : Int) := ⟨lev.toNat, by omega⟩
     have hp6 := pow6 (lv := lv) (by omega)
     refine L.loadN T32.ag rfl rfl (Rds.all 1 rfl) ?_;refine L.loadN T34.ag rfl rfl (Rds.all 0 rfl) ?_;refine WL.call rfl rfl F10.fn rfl (FT.make fun g gS dj => strip_New r hw v w (hta.mono (Hp.le_un_left _ _)) t hwt hwo 1048576 ⟨by omega, by omega⟩) ?_; rintro _ _ ⟨_, ⟨b, A0, rfl, rfl⟩, rfl⟩;refine L.move rfl ?_;(iterate 2 refine L.extract rfl rfl ?_);(iterate 2 refine L.assign rfl ?_);refine WL.nil ?_;refine WP.seq ?_;refine WP.regs ?_;refine L.move rfl ?_;refine L.eqlPtrNil T38.u rfl ?_;(iterate 2 refine L.move rfl ?_);refine L.neq rfl rfl ?_;refine L.pick rfl rfl rfl ?_;refine WL.nil ?_;refine WP.cond rfl (fun hT => absurd hT (by decide)) (fun h71 => ?_)
     refine WP.skip ?_;refine X.thenN ?_;refine WP.regs ?_;refine L.move rfl ?_;refine L.shl rfl rfl (by omega) ?_
     rw [shlI (l := lv) (by omega)]
     refine L.assign rfl ?_;refine WL.nil ?_;refine WP.regs ?_;refine L.assign rfl ?_;refine WL.nil ?_;refine WP.regs ?_;refine L.assign rfl ?_;refine WL.nil ?_;refine WP.seq ?_;refine WP.regs ?_;refine L.assign rfl ?_;refine WL.nil ?_;refine WP.block ?_;refine WP.loop (X := (Value × List Value) × Value × SeaA × SeaD × List Nat × Nat) (fun x => ⟨332, [], [(2, .slice ra R.length rcap), (3, .int .i64 (lv : Int)), (4, .int .i64 j), (5, .pointer (some ⟨b5, 0, none⟩)), (6, .pointer (some ⟨b6, 0, none⟩)), (11, .bool true), (12, .pointer (some ⟨b, 0, none⟩)), (14, .int .i64 ((2 ^ lv : Nat) : Int)), (15, x.1.1), (16, x.2.1), (17, .int .i64 (x.2.2.2.2.2 : Int))]⟩) (fun x => [vec 60 1 x.1.1 x.2.2.2.2.2 x.1.2, rowsO x.1.2 (rowsG (rowG R t.w.toNat) x.2.2.2.2.2), vec 3 1 x.2.1 x.2.2.2.2.2 (idsC x.2.2.2.2.1)] ++ seaS b x.2.2.1 x.2.2.2.1 ++ [cl b6 (topoC t) 34, cl b5 (ruleC r v w) 32]) (fun x => St1 r t (rowG R t.w.toNat) x.2.2.2.1 x.2.2.2.2.1 x.2.2.2.2.2 ∧ x.1.2.length = x.2.2.2.2.2 ∧ x.2.2.2.2.2 ≤ 2 ^ lv) (fun x => 2 ^ lv - x.2.2.2.2.2) ((.slice none 0 0, []), .slice none 0 0, A0, SeaD.new r t 1048576, [], 0) (⟨St1.zero hw hwt hwo, rfl, Nat.zero_le _⟩) (Env.Sub.cons rfl rfl (Env.Sub.cons rfl rfl (Env.Sub.cons rfl rfl (Env.Sub.cons rfl rfl (Env.Sub.cons rfl rfl (Env.Sub.cons rfl rfl (Env.Sub.cons rfl rfl (Env.Sub.cons rfl rfl (Env.Sub.cons rfl rfl (Env.Sub.cons rfl rfl (Env.Sub.cons rfl rfl Env.Sub.nil))))))))))) (((Ent.refl _)).trans ((Ent.nilvec (E := 3) (sz := 1)).trans (Ent.nilrows.trans (Ent.nilvec (E := 60) (sz := 1))))) ?_
     rintro ⟨⟨v1, vs1⟩, u1, A1, S1, ids1, i⟩ ⟨hst, hvl, hi⟩
     dsimp only at hst hvl hi ⊢
     refine WP.seq ?_;refine WP.regs ?_;(iterate 2 refine L.move rfl ?_);refine L.lss rfl rfl ?_;refine WL.nil ?_;refine WP.condD rfl (fun h76 => ?_) (fun h76 => ?_)
     ·
      refine WP.skip ?_;refine X.thenN ?_;refine WP.seq ?_;refine WP.block ?_;refine WP.regs ?_;refine L.fieldAddr (o' := 1) T34.f1 rfl rfl ?_;refine L.load T3.sc rfl (Rd.own 13 rfl rfl) ?_;refine L.make T60.sl T5.z rfl rfl (by omega) ?_; intro b18;refine L.assign rfl ?_;refine WL.nil ?_;refine WP.cut (X := Unit) (fun x => ⟨332, [], [(2, .slice ra R.length rcap), (3, .int .i64 (lv : Int)), (4, .int .i64 j), (5, .pointer (some ⟨b5, 0, none⟩)), (6, .pointer (some ⟨b6, 0, none⟩)), (11, .bool true), (12, .pointer (some ⟨b, 0, none⟩)), (14, .int .i64 ((2 ^ lv : Nat) : Int)), (15, v1), (16, u1), (17, .int .i64 (i : Int)), (18, .slice (some ⟨b18, 0, none⟩) t.w.toNat t.w.toNat)]⟩) (fun x => [vec 5 1 (.slice (some ⟨b18, 0, none⟩) t.w.toNat t.w.toNat) t.w.toNat (u8sC (intsB (rowG R t.w.toNat i)))] ++ ([vec 60 1 v1 i vs1, rowsO vs1 (rowsG (rowG R t.w.toNat) i), vec 3 1 u1 i (idsC ids1)] ++ seaS b A1 S1 ++ [cl b6 (topoC t) 34, cl b5 (ruleC r v w) 32])) (fun x => True) ?_ ?_
      ·
       refine WP.regs ?_;(iterate 2 refine L.move rfl ?_);refine L.lenS T61.sl rfl rfl ?_;refine L.lss rfl rfl ?_;refine WL.nil ?_;refine WP.condD rfl (fun h85 => ?_) (fun h85 => ?_)
       ·
        refine WP.regs ?_;refine L.assign rfl ?_;refine WL.nil ?_;refine WP.block ?_;refine WP.loop (X := Nat) (fun q => ⟨332, [], [(2, .slice ra R.length rcap), (3, .int .i64 (lv : Int)), (4, .int .i64 j), (5, .pointer (some ⟨b5, 0, none⟩)), (6, .pointer (some ⟨b6, 0, none⟩)), (11, .bool true), (12, .pointer (some ⟨b, 0, none⟩)), (14, .int .i64 ((2 ^ lv : Nat) : Int)), (15, v1), (16, u1), (17, .int .i64 (i : Int)), (18, .slice (some ⟨b18, 0, none⟩) t.w.toNat t.w.toNat), (19, .int .i64 (q : Int))]⟩) (fun q => [cl b18 (upto t.w.toNat q (fun q => ((intsB (R.getD i ByteArray.empty)).getD q 0).tmod 2) (fun _ => 0)) 5] ++ ([vec 60 1 v1 i vs1, rowsO vs1 (rowsG (rowG R t.w.toNat) i), vec 3 1 u1 i (idsC ids1)] ++ seaS b A1 S1 ++ [cl b6 (topoC t) 34, cl b5 (ruleC r v w) 32])) (fun q => q ≤ t.w.toNat ∧ q ≤ (intsB (R.getD i ByteArray.empty)).length) (fun q => t.w.toNat - q) 0 (⟨Nat.zero_le _, Nat.zero_le _⟩) (Env.Sub.cons rfl rfl (Env.Sub.cons rfl rfl (Env.Sub.cons rfl rfl (Env.Sub.cons rfl rfl (Env.Sub.cons rfl rfl (Env.Sub.cons rfl rfl (Env.Sub.cons rfl rfl (Env.Sub.cons rfl rfl (Env.Sub.cons rfl rfl (Env.Sub.cons rfl rfl (Env.Sub.cons rfl rfl (Env.Sub.cons rfl rfl (Env.Sub.cons rfl rfl Env.Sub.nil))))))))))))) (((Ent.refl _)).trans (Ent.of_eq (by rw [upto_zero]; rfl))) ?_
        rintro q ⟨hq1, hq2⟩
        refine WP.seq ?_;refine WP.regs ?_;refine L.move rfl ?_;refine L.fieldAddr (o' := 1) T34.f1 rfl rfl ?_;refine L.load T3.sc rfl (Rd.own 14 rfl rfl) ?_;refine L.lssD rfl rfl (fun h89 => ?_) (fun h89 => ?_)
        ·
         (iterate 4 refine L.move rfl ?_)
         obtain ⟨rb, ro, rfl, hrc⟩ := hrs (by omega)
         refine L.indexS T61.sl rfl rfl (by omega) ?_
         obtain ⟨va, vcap, hveq, hvcap, hvn, hvs⟩ := hall (i) (by omega)
         refine L.load T60.sc rfl (v := vs.getD (i) undef) (Rd.ro (by have := hrc (i) (by omega); refine Eq.trans (congrArg _ ?_) this; omega)) ?_
         rw [hveq]
         refine L.lenS T60.sl rfl rfl ?_;refine L.lss rfl rfl ?_;refine L.pickT rfl rfl ?_;refine WL.nil ?_;refine WP.condD rfl (fun h98 => ?_) (fun h98 => ?_)
         ·
          refine WP.skip ?_;refine X.thenN ?_;refine WP.seq ?_;refine WP.block ?_;refine WP.region ?_;(iterate 4 refine L.move rfl ?_);refine L.indexS T61.sl rfl rfl (by omega) ?_
          obtain ⟨va, vcap, hveq, hvcap, hvn, hvs⟩ := hall (i) (by omega)
          refine L.load T60.sc rfl (v := vs.getD (i) undef) (Rd.ro (by have := hrc (i) (by omega); refine Eq.trans (congrArg _ ?_) this; omega)) ?_
          rw [hveq]
          refine L.move rfl ?_
          obtain ⟨xb, xo, rfl, hxc⟩ := hvs (by omega)
          refine L.indexS T60.sl rfl rfl (by omega) ?_;refine L.load T5.sc rfl (Rd.u8 hxc q (by omega)) ?_;refine L.rem rfl rfl (by omega) ?_;refine L.indexS T60.sl rfl rfl (by omega) ?_;refine L.store T5.sc rfl rfl rfl (Wr.own 0 rfl (by rw [upto_len]; omega)) ?_;refine WL.nil ?_;refine X.blockN ?_;refine X.thenN ?_;refine WP.region ?_;refine L.move rfl ?_;refine L.add' rfl rfl (by omega) ?_;refine L.assign rfl ?_;refine WL.nil ?_;refine X.thenN ⟨q + 1, ⟨by omega, by omega⟩, by omega, (Env.Sub.cons rfl rfl (Env.Sub.cons rfl rfl (Env.Sub.cons rfl rfl (Env.Sub.cons rfl rfl (Env.Sub.cons rfl rfl (Env.Sub.cons rfl rfl (Env.Sub.cons rfl rfl (Env.Sub.cons rfl rfl (Env.Sub.cons rfl rfl (Env.Sub.cons rfl rfl (Env.Sub.cons rfl rfl (Env.Sub.cons rfl rfl (Env.Sub.cons rfl rfl Env.Sub.nil))))))))))))), ((Ent.refl _)).trans (Ent.of_eq (by rw [upto_set _ _ _ _ _ rfl]; rfl))⟩
         ·
          refine WP.exit ?_;refine X.thenE (X.thenE (X.blockE ?_));refine X.thenN ⟨(), trivial, (Env.Sub.cons rfl rfl (Env.Sub.cons rfl rfl (Env.Sub.cons rfl rfl (Env.Sub.cons rfl rfl (Env.Sub.cons rfl rfl (Env.Sub.cons rfl rfl (Env.Sub.cons rfl rfl (Env.Sub.cons rfl rfl (Env.Sub.cons rfl rfl (Env.Sub.cons rfl rfl (Env.Sub.cons rfl rfl (Env.Sub.cons rfl rfl Env.Sub.nil)))))))))))), ((Ent.refl _)).trans ((Ent.of_eq (by rw [rowAt_fin R t.w.toNat i q (.inr (by omega))]; rfl)).trans (Ent.vec_madeN (n := t.w.toNat) (sz := 1) (b := b18) (by rw [u8sC, List.length_map, intsB_rowG, rowAt_len]; omega)))⟩
        ·
         refine L.move rfl ?_
         iterate 7 refine L.skip ?_
         refine L.pickF rfl rfl ?_;refine WL.nil ?_;refine WP.condF rfl ?_;refine WP.exit ?_;refine X.thenE (X.thenE (X.blockE ?_));refine X.thenN ⟨(), trivial, (Env.Sub.cons rfl rfl (Env.Sub.cons rfl rfl (Env.Sub.cons rfl rfl (Env.Sub.cons rfl rfl (Env.Sub.cons rfl rfl (Env.Sub.cons rfl rfl (Env.Sub.cons rfl rfl (Env.Sub.cons rfl rfl (Env.Sub.cons rfl rfl (Env.Sub.cons rfl rfl (Env.Sub.cons rfl rfl (Env.Sub.cons rfl rfl Env.Sub.nil)))))))))))), ((Ent.refl _)).trans ((Ent.of_eq (by rw [rowAt_fin R t.w.toNat i q (.inl (by omega))]; rfl)).trans (Ent.vec_madeN (n := t.w.toNat) (sz := 1) (b := b18) (by rw [u8sC, List.length_map, intsB_rowG, rowAt_len]; omega)))⟩
       ·
        refine WP.skip ?_;refine X.thenN ⟨(), trivial, (Env.Sub.cons rfl rfl (Env.Sub.cons rfl rfl (Env.Sub.cons rfl rfl (Env.Sub.cons rfl rfl (Env.Sub.cons rfl rfl (Env.Sub.cons rfl rfl (Env.Sub.cons rfl rfl (Env.Sub.cons rfl rfl (Env.Sub.cons rfl rfl (Env.Sub.cons rfl rfl (Env.Sub.cons rfl rfl (Env.Sub.cons rfl rfl Env.Sub.nil)))))))))))), ((Ent.refl _)).trans ((Ent.of_eq (by rw [rowAt_none R t.w.toNat i (by omega)]; rfl)).trans (Ent.vec_madeN (n := t.w.toNat) (sz := 1) (b := b18) (by rw [u8sC, List.length_map, intsB_rowG, rowAt_len]; omega)))⟩
      ·
       rintro ⟨⟩ _
       refine WP.regs ?_;(iterate 2 refine L.move rfl ?_);refine L.slice1 T61.sl T60.z rfl rfl rfl rfl rfl rfl ?_; intro c114;refine L.append (i := 2) (news := [.slice (some ⟨b18, 0, none⟩) t.w.toNat t.w.toNat]) T61.sl T60.z rfl rfl rfl rfl rfl rfl (fun _ _ _ e => by cases e; exact ⟨rfl, Rds.all 0 rfl⟩) (fun e => by cases e) (by simp [Value.oneCell']) (by omega) ?_; intro u2;refine L.assign rfl ?_;refine WL.nil ?_;refine WP.regs ?_
       have hok : RowOkB S1 (rowG R t.w.toNat i) := by have h := rowG_ok hst.s.inv.K R i; rw [hst.s.t] at h; exact h
       obtain ⟨hst2, hag⟩ := St1.step hst (by omega) hok
       (iterate 2 refine L.move rfl ?_);refine WL.call rfl rfl F16.fn rfl (FT.part (seaS b _ S1) _ ((Ent.pk [5, 5, 5, 5, 5, 5, 5, 5, 5, 5, 2, 0, 1, 1, 1, 1] rfl)) fun g gS dj => sea_RowB b A1 S1 _ (rowG R t.w.toNat i) hst.s.inv (vec_u8s (by rw [intsB_rowG, rowAt_len]) (In.of_stars' 0 rfl gS dj)) hok (by rw [hst.s.most]; have := hst.s.kept; omega) (by rw [hst.s.most]; have := hst.s.nodes; omega) (by have := hst.s.told; omega)) ?_; rintro _ _ ⟨_, ⟨nv1, ov1, rfl, rfl⟩, rfl⟩
       generalize S1.Row (rowG R t.w.toNat i) = T at hst2 hag ⊢
       refine L.move rfl ?_;(iterate 2 refine L.extract rfl rfl ?_);(iterate 2 refine L.assign rfl ?_);refine WL.nil ?_;refine WP.regs ?_;(iterate 2 refine L.move rfl ?_);refine WL.call rfl rfl F16.fn rfl (FT.part (seaS b _ T.1) _ ((Ent.refl _)) fun g gS dj => sea_RowB b _ T.1 _ (rowG R t.w.toNat i) hst2.s.inv (vec_u8s (by rw [intsB_rowG, rowAt_len]) (In.of_stars' 0 rfl gS dj)) (by have h := rowG_ok hst2.s.inv.K R i; rw [hst2.s.t] at h; exact h) (by rw [hst2.s.most]; have := hst2.s.kept; omega) (by rw [hst2.s.most]; have := hst2.s.nodes; omega) (by have := hst2.s.told; omega)) ?_; rintro _ _ ⟨_, ⟨nv2, ov2, rfl, rfl⟩, rfl⟩
       rw [hag]
       dsimp only
       refine L.move rfl ?_;(iterate 2 refine L.extract rfl rfl ?_);(iterate 2 refine L.assign rfl ?_);refine WL.nil ?_;refine WP.seq ?_;refine WP.regs ?_;refine L.move rfl ?_;refine L.neqD rfl rfl (fun hT => absurd hT (by decide)) (fun h129 => ?_);(iterate 2 refine L.move rfl ?_);refine L.neqD rfl rfl (fun hT => absurd hT (by decide)) (fun h132 => ?_);refine L.pickF rfl rfl ?_;(iterate 3 refine L.move rfl ?_);refine L.neq rfl rfl ?_;refine L.pickF rfl rfl ?_;refine WL.nil ?_;refine WP.condD rfl (fun hT => absurd hT (by simp)) (fun h138 => ?_);refine WP.skip ?_;refine X.thenN ?_;refine WP.region ?_;(iterate 2 refine L.move rfl ?_)
       refine L.slice1 T56.sl T3.z rfl rfl rfl rfl rfl rfl ?_; intro c141;refine L.append (i := 14) (news := [encI T.2.1]) T56.sl T3.z rfl rfl rfl rfl rfl rfl (fun _ _ _ e => by cases e; exact ⟨rfl, Rds.all 0 rfl⟩) (fun e => by cases e) (by simp [Value.oneCell', encI]) (by omega) ?_; intro u3;refine L.assign rfl ?_;refine WL.nil ?_;refine X.blockN ?_;refine X.thenN ?_;refine WP.region ?_;refine L.move rfl ?_;refine L.add' rfl rfl (by omega) ?_;refine L.assign rfl ?_;refine WL.nil ?_;refine X.thenN ⟨((u2, vs1 ++ [.slice (some ⟨b18, 0, none⟩) t.w.toNat t.w.toNat]), u3, { ({ (A1 : SeaA) with nv := nv1, ov := ov1 } : SeaA) with nv := nv2, ov := ov2 }, T.1, ids1 ++ [T.2.1], i + 1), ⟨hst2, by simp [hvl], by dsimp only; omega⟩, by dsimp only; omega, (Env.Sub.cons rfl rfl (Env.Sub.cons rfl rfl (Env.Sub.cons rfl rfl (Env.Sub.cons rfl rfl (Env.Sub.cons rfl rfl (Env.Sub.cons rfl rfl (Env.Sub.cons rfl rfl (Env.Sub.cons rfl rfl (Env.Sub.cons rfl rfl (Env.Sub.cons rfl rfl (Env.Sub.cons rfl rfl Env.Sub.nil))))))))))), ((Ent.pk [12, 13, 12, 0, 1, 1, 1, 1, 1, 1, 1, 1, 1, 1, 1, 1] rfl)).trans ((Ent.rowsO (by rw [intsB_rowG, rowAt_len])).trans ((Ent.pk [1, 0, 0, 0, 0, 0, 0, 0, 0, 0, 0, 0, 0, 0, 0] rfl).trans (Ent.of_eq (by dsimp only; rw [rowsG_succ, ← idsC_snoc]; rfl))))⟩
     ·
      obtain rfl : i = 2 ^ lv := by omega
      refine WP.exit ?_;refine X.thenE (X.thenE (X.blockE ?_));refine X.thenN ?_;refine WP.seq ?_;refine WP.block ?_;refine WP.loop (X := Value × SeaA × SeaD × List Nat × Nat) (fun x => ⟨332, [], [(3, .int .i64 (lv : Int)), (4, .int .i64 j), (5, .pointer (some ⟨b5, 0, none⟩)), (6, .pointer (some ⟨b6, 0, none⟩)), (11, .bool true), (12, .pointer (some ⟨b, 0, none⟩)), (14, .int .i64 ((2 ^ lv : Nat) : Int)), (15, v1), (16, x.1)]⟩) (fun x => [vec 3 1 x.1 x.2.2.2.1.length (idsC x.2.2.2.1)] ++ seaS b x.2.1 x.2.2.1 ++ [rowsP v1 (rowsG (rowG R t.w.toNat) (2 ^ lv)), cl b6 (topoC t) 34, cl b5 (ruleC r v w) 32]) (fun x => St2 r t (rowG R t.w.toNat) lv x.2.2.1 x.2.2.2.1 x.2.2.2.2) (fun x => lv - x.2.2.2.2) (u1, A1, S1, ids1, 0) (hst.st2 (by omega)) (Env.Sub.cons rfl rfl (Env.Sub.cons rfl rfl (Env.Sub.cons rfl rfl (Env.Sub.cons rfl rfl (Env.Sub.cons rfl rfl (Env.Sub.cons rfl rfl (Env.Sub.cons rfl rfl (Env.Sub.cons rfl rfl (Env.Sub.cons rfl rfl Env.Sub.nil))))))))) (((Ent.refl _)).trans ((Ent.rowsP hvl).trans ((Ent.pk [1, 1, 1, 1, 1, 1, 1, 1, 1, 1, 1, 0, 0, 0] rfl).trans (Ent.of_eq (by dsimp only; rw [hst.len]; rfl))))) ?_
      rintro ⟨u2, A2, S2, ids2, l⟩ hst2
      dsimp only at hst2 ⊢
      refine WP.seq ?_;refine WP.regs ?_;refine WL.fact (fun _ _ _ s => s.vec_shape 0 rfl) ?_; rintro ⟨_, ua, ucap, rfl, hucap, hua⟩;refine L.move rfl ?_;refine L.lenS T56.sl rfl rfl ?_;refine L.gtr rfl rfl ?_;refine WL.nil ?_;refine WP.condD rfl (fun h145 => ?_) (fun h145 => ?_)
      ·
       obtain ⟨ub, rfl⟩ := hua (by omega)
       have hs3 := hst2.st3 (by omega)
       refine WP.skip ?_;refine X.thenN ?_;refine WP.block ?_;refine WP.regs ?_;refine L.assign rfl ?_;refine WL.nil ?_;refine WP.seq ?_;refine WP.regs ?_;refine L.assign rfl ?_;refine WL.nil ?_;refine WP.block ?_;refine WP.loop (X := Value × SeaA × SeaD × List Nat × Nat) (fun x => ⟨332, [], [(3, .int .i64 (lv : Int)), (4, .int .i64 j), (5, .pointer (some ⟨b5, 0, none⟩)), (6, .pointer (some ⟨b6, 0, none⟩)), (11, .bool true), (12, .pointer (some ⟨b, 0, none⟩)), (14, .int .i64 ((2 ^ lv : Nat) : Int)), (15, v1), (16, .slice (some ⟨ub, 0, none⟩) ids2.length ucap), (24, x.1), (25, .int .i64 ((2 * x.2.2.2.2 : Nat) : Int))]⟩) (fun x => [vec 3 1 x.1 x.2.2.2.2 (idsC x.2.2.2.1), vec 3 1 (.slice (some ⟨ub, 0, none⟩) ids2.length ucap) ids2.length (idsC ids2)] ++ seaS b x.2.1 x.2.2.1 ++ [rowsP v1 (rowsG (rowG R t.w.toNat) (2 ^ lv)), cl b6 (topoC t) 34, cl b5 (ruleC r v w) 32]) (fun x => St3 r t (rowG R t.w.toNat) lv ids2 l x.2.2.1 x.2.2.2.1 x.2.2.2.2) (fun x => ids2.length - x.2.2.2.2) (.slice none 0 0, A2, S2, [], 0) (hs3) (Env.Sub.cons rfl rfl (Env.Sub.cons rfl rfl (Env.Sub.cons rfl rfl (Env.Sub.cons rfl rfl (Env.Sub.cons rfl rfl (Env.Sub.cons rfl rfl (Env.Sub.cons rfl rfl (Env.Sub.cons rfl rfl (Env.Sub.cons rfl rfl (Env.Sub.cons rfl rfl (Env.Sub.cons rfl rfl Env.Sub.nil))))))))))) (((Ent.refl _)).trans (Ent.nilvec (E := 3) (sz := 1))) ?_
       rintro ⟨u3, A3, S3, nx, m⟩ hs
       dsimp only at hs ⊢
       obtain ⟨hmb, hmb2⟩ := hs.bd (by omega)
       refine WP.seq ?_;refine WP.regs ?_;(iterate 2 refine L.move rfl ?_);refine L.lenS T56.sl rfl rfl ?_;refine L.lss rfl rfl ?_;refine WL.nil ?_;refine WP.condD rfl (fun h149 => ?_) (fun h149 => ?_)
       ·
        refine WP.skip ?_;refine X.thenN ?_;refine WP.seq ?_;refine WP.block ?_;refine WP.seq ?_;refine WP.regfq _ (Ent.refl _) [(0, true), (1, true), (2, true), (3, true), (4, true), (5, true), (6, true), (7, true), (8, true), (9, true)] 10 6 #[true, true, true, true, true, true, true, true, true, true, false, false, false, false, false, false] rfl (by kernel_rfl) (PInv.then (PInv.block (PInv.then (PInv.then (PInv.block (PInv.then (PInv.block (PInv.then (PInv.block (PInv.then PInv.ret)))))))))) rfl ?_
        obtain ⟨ht1, ht2, hkk, hs2⟩ := hs.step (by omega) (by have := hs.half; omega)
        (iterate 3 refine WE.take rfl (V.move rfl) ?_);refine WE.take rfl (V.indexS T56.sl rfl rfl (by omega)) ?_;refine WE.take rfl (V.load T3.sc rfl (Rd.vec 1 rfl (idsC_rd ids2 (2 * m) (by omega)))) ?_;(iterate 2 refine WE.take rfl (V.move rfl) ?_);refine WE.take rfl (V.add' rfl rfl (by omega)) ?_
        rw [show (((2 * m : Nat) : Int) + 1) = ((2 * m + 1 : Nat) : Int) by omega]
        refine WE.take rfl (V.indexS T56.sl rfl rfl (by have := hs.half; omega)) ?_;refine WE.take rfl (V.load T3.sc rfl (Rd.vec 1 rfl (idsC_rd ids2 (2 * m + 1) (by have := hs.half; omega)))) ?_;refine WE.free #[true, true, true, true, true, true, true, true, true, true, false, false, false, false, false, false] ?_;refine WT.one 10 (by kernel_rfl) rfl ?_;refine WL.call rfl rfl F17.fn rfl (FT.part (seaS b _ S3) _ ((Ent.pk [2, 2, 2, 2, 2, 2, 2, 2, 2, 2, 0, 0, 0, 0, 0] rfl)) fun g gS dj => sea_PairN b A3 S3 (ids2.getD (2 * m) 0) (ids2.getD (2 * m + 1) 0) l _ _ hs.s.inv ht1 ht2 (by have := hs.hl; omega) hkk (by rw [hs.s.most]; have := hs.s.nodes; have := hs.hl; omega) (by have := hs.s.told; have := hs.hl; omega)) ?_; rintro _ _ ⟨_, ⟨nv1, ov1, rfl, rfl⟩, rfl⟩
        generalize S3.Pair (ids2.getD (2 * m) 0) (ids2.getD (2 * m + 1) 0) = T at hs2 ⊢
        refine WL.nil ⟨fun h => absurd h (by decide), ?_⟩;refine WT.again [] 16 (by kernel_rfl) ?_;refine WT.read (m := 0) (fin := fun l => l == #[true, true, true, true, true, true, true, true, true, true, true, true, true, true, true, true]) [(11, true), (12, true), (13, true), (14, true), (15, true)] (by kernel_rfl) (PInv.then (PInv.block (PInv.then (PInv.then (PInv.block (PInv.then (PInv.block (PInv.then (PInv.block (PInv.then PInv.ret)))))))))) ((Ent.pk [] rfl)) ?_;refine WE.take rfl (V.move rfl) ?_;(iterate 2 refine WE.take rfl (V.extract rfl rfl) ?_);(iterate 2 refine WE.take rfl (V.assign rfl) ?_)
        refine WE.free #[true, true, true, true, true, true, true, true, true, true, true, true, true, true, true, true] ?_;refine WT.nil (by kernel_rfl) ?_;refine X.thenN ?_;refine WP.seq ?_;refine WP.regs ?_;refine L.move rfl ?_;refine L.neq rfl rfl ?_;refine WL.nil ?_;refine WP.condD rfl (fun hT => absurd hT (by decide)) (fun h167 => ?_);refine WP.skip ?_;refine X.thenN ?_;refine WP.region ?_;(iterate 2 refine L.move rfl ?_);refine L.slice1 T56.sl T3.z rfl rfl rfl rfl rfl rfl ?_; intro c170;refine L.append (i := 11) (news := [encI T.2.1]) T56.sl T3.z rfl rfl rfl rfl rfl rfl (fun _ _ _ e => by cases e; exact ⟨rfl, Rds.all 0 rfl⟩) (fun e => by cases e) (by simp [Value.oneCell', encI]) (by omega) ?_; intro u4
        refine L.assign rfl ?_;refine WL.nil ?_;refine X.blockN ?_;refine X.thenN ?_;refine WP.region ?_;refine L.move rfl ?_;refine L.add' rfl rfl (by omega) ?_;refine L.assign rfl ?_;refine WL.nil ?_;refine X.thenN ⟨(u4, { (A3 : SeaA) with nv := nv1, ov := ov1 }, T.1, nx ++ [T.2.1], m + 1), hs2, by dsimp only; omega, (Env.Sub.cons rfl rfl (Env.Sub.cons rfl rfl (Env.Sub.cons rfl rfl (Env.Sub.cons rfl rfl (Env.Sub.cons rfl rfl (Env.Sub.cons rfl rfl (Env.Sub.cons rfl rfl (Env.Sub.cons rfl rfl (Env.Sub.cons rfl rfl (Env.Sub.cons rfl rfl (Env.Sub.cons rfl (by congr 1) Env.Sub.nil))))))))))), ((Ent.pk [0, 11, 1, 1, 1, 1, 1, 1, 1, 1, 1, 1, 1, 1, 1] rfl)).trans (Ent.of_eq (by dsimp only; rw [← idsC_snoc]; rfl))⟩
       ·
        have hs4 := hs.done (by omega) (by omega)
        refine WP.exit ?_;refine X.thenE (X.thenE (X.blockE ?_));refine X.thenN ?_;refine WP.region ?_;refine L.move rfl ?_;refine L.assign rfl ?_;refine WL.nil ?_;refine X.blockN ?_;refine X.thenN ⟨(u3, A3, S3, nx, l + 1), hs4, by have := hs.hl; dsimp only; omega, (Env.Sub.cons rfl rfl (Env.Sub.cons rfl rfl (Env.Sub.cons rfl rfl (Env.Sub.cons rfl rfl (Env.Sub.cons rfl rfl (Env.Sub.cons rfl rfl (Env.Sub.cons rfl rfl (Env.Sub.cons rfl rfl (Env.Sub.cons rfl rfl Env.Sub.nil))))))))), ((Ent.pk [0, 1, 1, 1, 1, 1, 1, 1, 1, 1, 1, 1, 1, 1] rfl)).trans (Ent.of_eq (by dsimp only; rw [hs.len]; rfl))⟩
      ·
       obtain ⟨hll0, hl1, htl⟩ := hst2.done (by omega)
       obtain ⟨ub, rfl⟩ := hua (by omega)
       have hRL : (rowsG (rowG R t.w.toNat) (2 ^ lv)).length = 2 ^ lv := rowsG_len _ _
       have hRO : ∀ q, q < 2 ^ lv → RowOk2 r t ((rowsG (rowG R t.w.toNat) (2 ^ lv)).getD q ByteArray.empty) := fun q hq => row_ok2 hst2.s.inv.K hst2.s.r hst2.s.t R (2 ^ lv) q hq
       have hbb : ((2 ^ lv : Nat) : Int) ≤ 1048576 / t.w := by rw [Int.le_ediv_iff_mul_le (by omega)]; have h64 : ((2 ^ lv : Nat) : Int) ≤ 64 := (by omega); have hm1 : ((2 ^ lv : Nat) : Int) * t.w ≤ 64 * 30 := Int.mul_le_mul h64 (by omega) (by omega) (by omega); omega
       refine WP.exit ?_;refine X.thenE (X.thenE (X.blockE ?_));refine X.thenN ?_;refine WP.regs ?_;(iterate 2 refine L.move rfl ?_);refine L.indexS T56.sl rfl rfl (by omega) ?_;refine L.load T3.sc rfl (Rd.vec 0 rfl (idsC_rd ids2 0 (by omega))) ?_;refine WL.call rfl rfl F18.fn rfl (FT.part (seaS b _ S2) _ ((Ent.pk [1, 1, 1, 1, 1, 1, 1, 1, 1, 1, 0, 0, 0, 0] rfl)) fun g gS dj => sea_LevelN b A2 S2 (ids2.getD 0 0) lv _ (by rw [hst2.s.most]; omega) htl) ?_; rintro _ _ ⟨_, ⟨rfl, rfl⟩, rfl⟩;refine L.move rfl ?_;(iterate 2 refine L.extract rfl rfl ?_);(iterate 2 refine L.assign rfl ?_);refine WL.nil ?_;refine WP.regs ?_
       (iterate 2 refine L.move rfl ?_);refine L.indexS T56.sl rfl rfl (by omega) ?_;refine L.load T3.sc rfl (Rd.vec 10 rfl (idsC_rd ids2 0 (by omega))) ?_;refine WL.call rfl rfl F19.fn rfl (FT.part (seaS b _ S2) _ ((Ent.refl _)) fun g gS dj => sea_RowsN b A2 S2 (ids2.getD 0 0) lv _ hst2.s.inv (by rw [hst2.s.most]; omega) htl (by rw [hst2.s.t]; omega) (by rw [hst2.s.t]; exact hbb)) ?_; rintro _ _ ⟨_, ⟨gv, rfl, rfl⟩, rfl⟩;refine WL.ent Ent.rowsV ?_;refine WL.ex ?_
       rintro gvs
       refine WL.fact (fun _ _ _ s => s.rowsV_shape 0 rfl (by rw [rowsG_len]; omega)) ?_; rintro ⟨gb, go, gcap, rfl⟩;refine WL.fact (fun _ _ _ s => s.rowsV_rows 0 rfl) fun hgr => ?_;refine WL.ent (Ent.pk [12, 0, 0, 0, 0, 0, 0, 0, 0, 0, 0, 0, 0, 0, 0] rfl) ?_;refine WL.ent Ent.rowsV ?_;refine WL.ex ?_
       rintro avs
       refine WL.fact (fun _ _ _ s => s.rowsV_shape 0 rfl (by rw [rowsG_len]; omega)) ?_; rintro ⟨ab, ao, acap, rfl⟩;refine WL.fact (fun _ _ _ s => s.rowsV_rows 0 rfl) fun har => ?_;refine L.move rfl ?_;(iterate 2 refine L.extract rfl rfl ?_);(iterate 2 refine L.assign rfl ?_);refine WL.nil ?_;refine WP.seq ?_;refine WP.regs ?_;refine L.move rfl ?_;refine L.neqD rfl rfl (fun hT => absurd hT (by decide)) (fun h190 => ?_);(iterate 2 refine L.move rfl ?_);refine L.neqD rfl rfl (fun hT => absurd hT (by decide)) (fun h193 => ?_);refine L.pickF rfl rfl ?_;(iterate 3 refine L.move rfl ?_);refine L.neqD rfl rfl (fun hT => absurd hT (by simp)) (fun h198 => ?_)
       refine L.pickF rfl rfl ?_;(iterate 2 refine L.move rfl ?_);refine L.lenS T61.sl rfl rfl ?_;refine L.move rfl ?_;refine L.neq rfl rfl ?_;refine L.pickF rfl rfl ?_;refine WL.nil ?_;refine WP.condD rfl (fun hT => absurd hT (by omega)) (fun h205 => ?_);refine WP.skip ?_;refine X.thenN ?_;refine WP.seq ?_;refine WP.regs ?_;refine L.assign rfl ?_;refine WL.nil ?_;refine WP.block ?_;refine WP.loop (X := Nat) (fun q => ⟨332, [], [(3, .int .i64 (lv : Int)), (4, .int .i64 j), (5, .pointer (some ⟨b5, 0, none⟩)), (6, .pointer (some ⟨b6, 0, none⟩)), (11, .bool true), (12, .pointer (some ⟨b, 0, none⟩)), (14, .int .i64 ((2 ^ lv : Nat) : Int)), (15, .slice (some ⟨ab, ao, none⟩) (rowsG (rowG R t.w.toNat) (2 ^ lv)).length acap), (16, .slice (some ⟨ub, 0, none⟩) ids2.length ucap), (29, .slice (some ⟨gb, go, none⟩) (rowsG (rowG R t.w.toNat) (2 ^ lv)).length gcap), (31, .int .i64 (q : Int))]⟩) (fun q => [rowsV (.slice (some ⟨ab, ao, none⟩) (rowsG (rowG R t.w.toNat) (2 ^ lv)).length acap) avs (rowsG (rowG R t.w.toNat) (2 ^ lv)), rowsV (.slice (some ⟨gb, go, none⟩) (rowsG (rowG R t.w.toNat) (2 ^ lv)).length gcap) gvs (rowsG (rowG R t.w.toNat) (2 ^ lv))] ++ seaS b A2 S2 ++ [vec 3 1 (.slice (some ⟨ub, 0, none⟩) ids2.length ucap) ids2.length (idsC ids2), cl b6 (topoC t) 34, cl b5 (ruleC r v w) 32]) (fun q => q ≤ 2 ^ lv) (fun q => 2 ^ lv - q) 0 (Nat.zero_le _) (Env.Sub.cons rfl rfl (Env.Sub.cons rfl rfl (Env.Sub.cons rfl rfl (Env.Sub.cons rfl rfl (Env.Sub.cons rfl rfl (Env.Sub.cons rfl rfl (Env.Sub.cons rfl rfl (Env.Sub.cons rfl rfl (Env.Sub.cons rfl rfl (Env.Sub.cons rfl rfl (Env.Sub.cons rfl rfl Env.Sub.nil))))))))))) ((Ent.refl _)) ?_
       intro q hq
       refine WP.seq ?_;refine WP.regs ?_;(iterate 2 refine L.move rfl ?_);refine L.lss rfl rfl ?_;refine WL.nil ?_;refine WP.condD rfl (fun h208 => ?_) (fun h208 => ?_)
       ·
        refine WP.skip ?_;refine X.thenN ?_;refine WP.seq ?_;refine WP.block ?_;refine WP.seq ?_;refine WP.rege [(0, true), (1, true), (2, true), (3, true), (4, true), (5, true), (6, true), (7, true), (8, true), (9, true), (10, true)] 11 rfl (by kernel_rfl) (PInv.then (PInv.block (PInv.then (PInv.then (PInv.block (PInv.then PInv.ret)))))) rfl ?_;(iterate 2 refine WE.take rfl (V.move rfl) ?_);refine WE.take rfl (V.indexS T61.sl rfl rfl (by omega)) ?_
        obtain ⟨xb0, xo0, xc0, hx0⟩ := hgr (q) (by omega) (by rw [(hRO q (by omega)).len]; omega)
        refine WE.take rfl (V.load T60.sc rfl (Rd.rowsV' 1 rfl rfl (q) (by omega) (by omega))) ?_
        rw [hx0]
        refine WE.take rfl (V.bytesToStr T60.sl T5.u T9.u rfl (ns := intsB ((rowsG (rowG R t.w.toNat) (2 ^ lv)).getD (q) ByteArray.empty)) rfl (fun _ _ _ e => by cases e; exact ⟨rfl, Rds.rowsVB 1 rfl (q) (by omega) hx0⟩) (fun e => by cases e)) ?_;(iterate 2 refine WE.take rfl (V.move rfl) ?_);refine WE.take rfl (V.indexS T61.sl rfl rfl (by omega)) ?_
        obtain ⟨xb1, xo1, xc1, hx1⟩ := har (q) (by omega) (by rw [(hRO q (by omega)).len]; omega)
        refine WE.take rfl (V.load T60.sc rfl (Rd.rowsV' 0 rfl rfl (q) (by omega) (by omega))) ?_
        rw [hx1]
        refine WE.take rfl (V.bytesToStr T60.sl T5.u T9.u rfl (ns := intsB ((rowsG (rowG R t.w.toNat) (2 ^ lv)).getD (q) ByteArray.empty)) rfl (fun _ _ _ e => by cases e; exact ⟨rfl, Rds.rowsVB 0 rfl (q) (by omega) hx1⟩) (fun e => by cases e)) ?_;refine WE.take rfl (V.neqStr rfl rfl) ?_;refine WE.nil ?_;refine X.thenN ?_;refine WP.condD rfl (fun hT => absurd hT (by simp)) (fun h221 => ?_);refine WP.skip ?_;refine X.blockN ?_;refine X.thenN ?_;refine WP.region ?_;refine L.move rfl ?_;refine L.add' rfl rfl (by omega) ?_;refine L.assign rfl ?_;refine WL.nil ?_;refine X.thenN ⟨q + 1, by omega, by omega, (Env.Sub.cons rfl rfl (Env.Sub.cons rfl rfl (Env.Sub.cons rfl rfl (Env.Sub.cons rfl rfl (Env.Sub.cons rfl rfl (Env.Sub.cons rfl rfl (Env.Sub.cons rfl rfl (Env.Sub.cons rfl rfl (Env.Sub.cons rfl rfl (Env.Sub.cons rfl rfl (Env.Sub.cons rfl rfl Env.Sub.nil))))))))))), (Ent.refl _)⟩
       ·
        refine WP.exit ?_;refine X.thenE (X.thenE (X.blockE ?_));refine X.thenN ?_;refine WP.regs ?_;(iterate 2 refine L.move rfl ?_);refine L.indexS T56.sl rfl rfl (by omega) ?_;refine L.load T3.sc rfl (Rd.vec 12 rfl (idsC_rd ids2 0 (by omega))) ?_;refine L.move rfl ?_;refine WL.call rfl rfl F20.fn rfl (FT.part (seaS b _ S2) _ ((Ent.pk [2, 2, 2, 2, 2, 2, 2, 2, 2, 2, 0, 0, 0, 0, 0] rfl)) fun g gS dj => sea_MidC b A2 S2 (ids2.getD 0 0) lv j _ hst2.s.inv htl (by omega) (by rw [hst2.s.most]; have := hst2.s.kept; have := hst2.hl; omega) (by rw [hst2.s.most]; have := hst2.s.nodes; have := hst2.hl; omega) (by have := hst2.s.told; have := hst2.hl; omega)) ?_; rintro _ _ ⟨_, ⟨jn, l2, rfl, hlv2, hjl, nv1, ov1, rfl, rfl⟩ | ⟨hjE, rfl, rfl⟩, rfl⟩
        ·
         refine L.move rfl ?_
         obtain ⟨hmi, hmx, hmt⟩ := NInv.mid (f := 5) (j := jn) (l := l2) hst2.s.inv (by rw [← hlv2]; exact htl) (by omega) hjl (by rw [hst2.s.most, ← hlv2]; have := hst2.s.kept; have := hst2.hl; omega)
         rw [hst2.s.r, hst2.s.t] at hmt
         generalize SeaD.Mid 5 S2 (ids2.getD 0 0) jn = M at hmi hmx hmt ⊢
         have hp4 : 2 ^ lv = 4 * 2 ^ l2 := by rw [hlv2, Nat.pow_add]; omega
         have hpj : 2 ^ jn ≤ 2 ^ l2 := Nat.pow_le_pow_right (by omega) hjl
         have hpj0 : 0 < 2 ^ jn := Nat.two_pow_pos _
         (iterate 2 refine L.extract rfl rfl ?_);(iterate 2 refine L.assign rfl ?_);refine WL.nil ?_;refine WP.seq ?_;refine WP.regs ?_;refine L.move rfl ?_;refine L.lssD rfl rfl (fun hT => absurd hT (by omega)) (fun h232 => ?_);(iterate 3 refine L.move rfl ?_);refine L.sub' rfl rfl (by omega) ?_;refine L.gtr rfl rfl ?_;refine L.pickF rfl rfl ?_;refine WL.nil ?_;refine WP.condD rfl (fun hT => absurd hT (by omega)) (fun h238 => ?_);refine WP.skip ?_;refine X.thenN ?_;refine WP.seq ?_;refine WP.regs ?_;refine L.assign rfl ?_;refine WL.nil ?_;refine WP.block ?_;refine WP.loop (X := Value × Nat) (fun x => ⟨332, [], [(4, .int .i64 (jn : Int)), (5, .pointer (some ⟨b5, 0, none⟩)), (6, .pointer (some ⟨b6, 0, none⟩)), (11, .bool true), (12, .pointer (some ⟨b, 0, none⟩)), (13, .int .i64 0), (14, .int .i64 ((2 ^ lv : Nat) : Int)), (32, encI M.2.1), (15, x.1), (33, .int .i64 (x.2 : Int))]⟩) (fun x => [rowsP x.1 (genR (lineR r t) (rowsG (rowG R t.w.toNat) (2 ^ lv)) x.2)] ++ seaS b { (A2 : SeaA) with nv := nv1, ov := ov1 } M.1 ++ [cl b6 (topoC t) 34, cl b5 (ruleC r v w) 32]) (fun x => x.2 ≤ 2 ^ jn) (fun x => 2 ^ jn - x.2) (.slice (some ⟨ab, ao, none⟩) (rowsG (rowG R t.w.toNat) (2 ^ lv)).length acap, 0) (Nat.zero_le _) (Env.Sub.cons rfl rfl (Env.Sub.cons rfl rfl (Env.Sub.cons rfl rfl (Env.Sub.cons rfl rfl (Env.Sub.cons rfl rfl (Env.Sub.cons rfl rfl (Env.Sub.cons rfl rfl (Env.Sub.cons rfl rfl (Env.Sub.cons rfl rfl (Env.Sub.cons rfl rfl Env.Sub.nil)))))))))) (((Ent.pk [10, 0, 0, 0, 0, 0, 0, 0, 0, 0, 0, 2, 2] rfl)).trans (Ent.rowsPV.trans (Ent.of_eq (by dsimp only; rw [genR_zero]; rfl)))) ?_
         rintro ⟨v2, kk⟩ hkk
         dsimp only at hkk ⊢
         refine WP.seq ?_;refine WP.regs ?_;(iterate 2 refine L.move rfl ?_);refine L.shl rfl rfl (by omega) ?_
         rw [shlI (l := jn) (by omega)]
         refine L.lss rfl rfl ?_;refine WL.nil ?_;refine WP.condD rfl (fun h251 => ?_) (fun h251 => ?_)
         ·
          refine WP.skip ?_;refine X.thenN ?_;refine WP.seq ?_;refine WP.block ?_;refine WP.regs ?_;refine WL.ent Ent.rowsV ?_;refine WL.ex ?_
          rintro gvs
          refine WL.fact (fun _ _ _ s => s.rowsV_shape 0 rfl (by rw [genR_len]; omega)) ?_; rintro ⟨gb, go, gcap, rfl⟩;refine WL.fact (fun _ _ _ s => s.rowsV_rows 0 rfl) fun hgr => ?_
          have hgo : ∀ q, q < 2 ^ lv - 2 * kk → RowOk2 r t ((genR (lineR r t) (rowsG (rowG R t.w.toNat) (2 ^ lv)) kk).getD q ByteArray.empty) := fun q hq => gen_ok hst2.s.inv.K hst2.s.r hst2.s.t R (2 ^ lv) kk q hq
          refine L.assign rfl ?_;refine WL.nil ?_;refine WP.seq ?_;refine WP.regs ?_;refine L.assign rfl ?_;refine WL.nil ?_;refine WP.block ?_;refine WP.loop (X := (Value × List Value) × Nat) (fun x => ⟨332, [], [(4, .int .i64 (jn : Int)), (5, .pointer (some ⟨b5, 0, none⟩)), (6, .pointer (some ⟨b6, 0, none⟩)), (11, .bool true), (12, .pointer (some ⟨b, 0, none⟩)), (13, .int .i64 0), (14, .int .i64 ((2 ^ lv : Nat) : Int)), (32, encI M.2.1), (15, .slice (some ⟨gb, go, none⟩) (genR (lineR r t) (rowsG (rowG R t.w.toNat) (2 ^ lv)) kk).length gcap), (33, .int .i64 (kk : Int)), (34, x.1.1), (35, .int .i64 ((x.2 + 1 : Nat) : Int))]⟩) (fun x => [vec 60 1 x.1.1 x.2 x.1.2, rowsO x.1.2 (win (lineR r t) (rowsG (rowG R t.w.toNat) (2 ^ lv)) (kk + 1) (kk + 1) x.2), rowsV (.slice (some ⟨gb, go, none⟩) (genR (lineR r t) (rowsG (rowG R t.w.toNat) (2 ^ lv)) kk).length gcap) gvs (genR (lineR r t) (rowsG (rowG R t.w.toNat) (2 ^ lv)) kk)] ++ seaS b { (A2 : SeaA) with nv := nv1, ov := ov1 } M.1 ++ [cl b6 (topoC t) 34, cl b5 (ruleC r v w) 32]) (fun x => x.1.2.length = x.2 ∧ x.2 + 2 ≤ 2 ^ lv - 2 * kk) (fun x => 2 ^ lv - x.2) ((.slice none 0 0, []), 0) (⟨rfl, by dsimp only; omega⟩) (Env.Sub.cons rfl rfl (Env.Sub.cons rfl rfl (Env.Sub.cons rfl rfl (Env.Sub.cons rfl rfl (Env.Sub.cons rfl rfl (Env.Sub.cons rfl rfl (Env.Sub.cons rfl rfl (Env.Sub.cons rfl rfl (Env.Sub.cons rfl rfl (Env.Sub.cons rfl rfl (Env.Sub.cons rfl rfl (Env.Sub.cons rfl rfl Env.Sub.nil)))))))))))) (((Ent.refl _)).trans (Ent.nilrows.trans ((Ent.nilvec (E := 60) (sz := 1)).trans (Ent.of_eq rfl)))) ?_
          rintro ⟨⟨v5, vs5⟩, m⟩ ⟨hvl2, hm⟩
          dsimp only at hvl2 hm ⊢
          have hgl := genR_len (lineR r t) (rowsG (rowG R t.w.toNat) (2 ^ lv)) kk
          rw [hRL] at hgl
          refine WP.seq ?_;refine WP.regs ?_;(iterate 2 refine L.move rfl ?_);refine L.lenS T61.sl rfl rfl ?_;refine L.sub' rfl rfl (by omega) ?_;refine L.lss rfl rfl ?_;refine WL.nil ?_;refine WP.condD rfl (fun h258 => ?_) (fun h258 => ?_)
          ·
           refine WP.skip ?_;refine X.thenN ?_;refine WP.seq ?_;refine WP.block ?_;refine WP.seq ?_;refine WP.regfq _ (Ent.refl _) [(0, true), (1, true), (2, true), (3, true), (4, true), (5, true), (6, true), (7, true), (8, true), (9, true), (10, true), (11, true), (12, true), (13, true), (14, true), (15, true)] 16 6 #[true, true, true, true, true, true, true, true, true, true, true, true, true, true, true, true, false, false, false, false, false, false] rfl (by kernel_rfl) (PInv.then (PInv.block (PInv.then (PInv.then (PInv.block (PInv.then (PInv.block (PInv.then (PInv.then (PInv.block (PInv.then PInv.ret))))))))))) rfl ?_
           refine WE.take rfl (V.loadN T32.ag rfl rfl (Rds.all 14 rfl)) ?_;refine WE.take rfl (V.loadN T34.ag rfl rfl (Rds.all 13 rfl)) ?_;(iterate 2 refine WE.take rfl (V.move rfl) ?_);refine WE.take rfl (V.sub' rfl rfl (by omega)) ?_;refine WE.take rfl (V.indexS T61.sl rfl rfl (by omega)) ?_
           obtain ⟨xb0, xo0, xc0, hx0⟩ := hgr (m) (by omega) (by rw [(hgo _ (by omega)).len]; omega)
           refine WE.take rfl (V.load T60.sc rfl (Rd.rowsV' 2 rfl rfl (m) (by omega) (by omega))) ?_
           rw [hx0]
           (iterate 2 refine WE.take rfl (V.move rfl) ?_);refine WE.take rfl (V.indexS T61.sl rfl rfl (by omega)) ?_
           obtain ⟨xb1, xo1, xc1, hx1⟩ := hgr (m + 1) (by omega) (by rw [(hgo _ (by omega)).len]; omega)
           refine WE.take rfl (V.load T60.sc rfl (Rd.rowsV' 2 rfl rfl (m + 1) (by omega) (by omega))) ?_
           rw [hx1]
           (iterate 2 refine WE.take rfl (V.move rfl) ?_);refine WE.take rfl (V.add' rfl rfl (by omega)) ?_;refine WE.take rfl (V.indexS T61.sl rfl rfl (by omega)) ?_
           obtain ⟨xb2, xo2, xc2, hx2⟩ := hgr (m + 2) (by omega) (by rw [(hgo _ (by omega)).len]; omega)
           refine WE.take rfl (V.load T60.sc rfl (Rd.rowsV' 2 rfl rfl (m + 2) (by omega) (by omega))) ?_
           rw [hx2]
           refine WE.free #[true, true, true, true, true, true, true, true, true, true, true, true, true, true, true, true, false, false, false, false, false, false] ?_;refine WT.one 16 (by kernel_rfl) rfl ?_;refine WL.call rfl rfl F21.fn rfl (FT.make fun g gS dj => window_Line r hw v w (hta.mono (Hp.le_un_left _ _)) t hwt t.w.toNat (by omega) hwo _ _ _ (intsB ((genR (lineR r t) (rowsG (rowG R t.w.toNat) (2 ^ lv)) kk).getD (m) ByteArray.empty)) (intsB ((genR (lineR r t) (rowsG (rowG R t.w.toNat) (2 ^ lv)) kk).getD (m + 1) ByteArray.empty)) (intsB ((genR (lineR r t) (rowsG (rowG R t.w.toNat) (2 ^ lv)) kk).getD (m + 2) ByteArray.empty)) (In.rowsVB (In.of_stars' 2 rfl gS dj) (m) (by rw [genR_len]; omega) hx0) (In.rowsVB (In.of_stars' 2 rfl gS dj) (m + 1) (by rw [genR_len]; omega) hx1) (In.rowsVB (In.of_stars' 2 rfl gS dj) (m + 2) (by rw [genR_len]; omega) hx2) (RowOk2.rows3 (by omega) (hgo (m) (by omega)) (hgo (m + 1) (by omega)) (hgo (m + 2) (by omega)))) ?_; rintro _ _ ⟨_, ⟨lu, rfl, rfl⟩, rfl⟩
           refine WL.fact (fun _ _ _ s => s.vec_shape 0 rfl) ?_; rintro ⟨_, la, lcap, rfl, hlcap, hla⟩;refine WL.nil ⟨fun h => absurd h (by decide), ?_⟩;refine WT.again [] 22 (by kernel_rfl) ?_;refine WT.read (m := 0) (fin := fun l => l == #[true, true, true, true, true, true, true, true, true, true, true, true, true, true, true, true, true, true, true, true, true, true]) [(17, true), (18, true), (19, true), (20, true), (21, true)] (by kernel_rfl) (PInv.then (PInv.block (PInv.then (PInv.then (PInv.block (PInv.then (PInv.block (PInv.then (PInv.then (PInv.block (PInv.then PInv.ret))))))))))) ((Ent.pk [] rfl)) ?_
           refine WE.take rfl (V.move rfl) ?_;(iterate 2 refine WE.take rfl (V.extract rfl rfl) ?_);(iterate 2 refine WE.take rfl (V.assign rfl) ?_);refine WE.free #[true, true, true, true, true, true, true, true, true, true, true, true, true, true, true, true, true, true, true, true, true, true] ?_;refine WT.nil (by kernel_rfl) ?_;refine X.thenN ?_;refine WP.seq ?_;refine WP.regs ?_;refine L.move rfl ?_;refine L.neq rfl rfl ?_;refine WL.nil ?_;refine WP.condD rfl (fun hT => absurd hT (by decide)) (fun h282 => ?_);refine WP.skip ?_;refine X.thenN ?_;refine WP.region ?_;(iterate 2 refine L.move rfl ?_);refine L.slice1 T61.sl T60.z rfl rfl rfl rfl rfl rfl ?_; intro c285
           refine L.append (i := 2) (news := [.slice la t.w.toNat lcap]) T61.sl T60.z rfl rfl rfl rfl rfl rfl (fun _ _ _ e => by cases e; exact ⟨rfl, Rds.all 0 rfl⟩) (fun e => by cases e) (by simp [Value.oneCell']) (by omega) ?_; intro u5;refine L.assign rfl ?_;refine WL.nil ?_;refine X.blockN ?_;refine X.thenN ?_;refine WP.region ?_;refine L.move rfl ?_;refine L.add' rfl rfl (by omega) ?_;refine L.assign rfl ?_;refine WL.nil ?_;refine X.thenN ⟨((u5, vs5 ++ [.slice la t.w.toNat lcap]), m + 1), ⟨by simp [hvl2], by dsimp only; omega⟩, by dsimp only; omega, (Env.Sub.cons rfl rfl (Env.Sub.cons rfl rfl (Env.Sub.cons rfl rfl (Env.Sub.cons rfl rfl (Env.Sub.cons rfl rfl (Env.Sub.cons rfl rfl (Env.Sub.cons rfl rfl (Env.Sub.cons rfl rfl (Env.Sub.cons rfl rfl (Env.Sub.cons rfl rfl (Env.Sub.cons rfl rfl (Env.Sub.cons rfl (by congr 1) Env.Sub.nil)))))))))))), ((Ent.pk [2, 2, 0, 1, 1, 1, 1, 1, 1, 1, 1, 1, 1, 1, 1, 1] rfl)).trans ((Ent.of_eq (by rw [← lineR_ints hw hwo (hgo (m) (by omega)) (hgo (m + 1) (by omega)) (hgo (m + 2) (by omega))])).trans ((Ent.rowsO (by rw [lineR_ints hw hwo (hgo (m) (by omega)) (hgo (m + 1) (by omega)) (hgo (m + 2) (by omega))]; unfold lineD; rw [List.length_map, List.length_range])).trans ((Ent.pk [1, 0, 0, 0, 0, 0, 0, 0, 0, 0, 0, 0, 0, 0, 0] rfl).trans (Ent.of_eq (by dsimp only; rw [win_next _ _ _ _ (by rw [hRL]; omega)]; rfl)))))⟩
          ·
           obtain rfl : m = 2 ^ lv - 2 * (kk + 1) := by omega
           refine WP.exit ?_;refine X.thenE (X.thenE (X.blockE ?_));refine X.thenN ?_;refine WP.region ?_;refine L.move rfl ?_;refine L.assign rfl ?_;refine WL.nil ?_;refine X.blockN ?_;refine X.thenN ?_;refine WP.region ?_;refine L.move rfl ?_;refine L.add' rfl rfl (by omega) ?_;refine L.assign rfl ?_;refine WL.nil ?_;refine X.thenN ⟨(v5, kk + 1), by dsimp only; omega, by dsimp only; omega, (Env.Sub.cons rfl rfl (Env.Sub.cons rfl rfl (Env.Sub.cons rfl rfl (Env.Sub.cons rfl rfl (Env.Sub.cons rfl rfl (Env.Sub.cons rfl rfl (Env.Sub.cons rfl rfl (Env.Sub.cons rfl rfl (Env.Sub.cons rfl rfl (Env.Sub.cons rfl rfl Env.Sub.nil)))))))))), ((Ent.pk [0, 0, 1, 1, 1, 1, 1, 1, 1, 1, 1, 1, 1, 1] rfl)).trans ((Ent.rowsP hvl2).trans (Ent.of_eq (by dsimp only; rw [win_gen (by rw [hRL])]; rfl)))⟩
         ·
          obtain rfl : kk = 2 ^ jn := by omega
          have hGL : (genR (lineR r t) (rowsG (rowG R t.w.toNat) (2 ^ lv)) (2 ^ jn)).length = 2 ^ lv - 2 * 2 ^ jn := by rw [genR_len, hRL]
          have hML : (midD (lineR r t) (rowsG (rowG R t.w.toNat) (2 ^ lv)) jn).length = 2 ^ lv / 2 := by rw [mid_len, hRL]
          refine WP.exit ?_;refine X.thenE (X.thenE (X.blockE ?_));refine X.thenN ?_;refine WP.regs ?_;(iterate 2 refine L.move rfl ?_);refine WL.call rfl rfl F19.fn rfl (FT.part (seaS b _ M.1) _ ((Ent.pk [1, 1, 1, 1, 1, 1, 1, 1, 1, 1, 0, 0, 0] rfl)) fun g gS dj => sea_RowsN b _ M.1 M.2.1 (l2 + 1) _ hmi (by rw [hmx.most, hst2.s.most]; omega) hmt (by rw [hmx.t, hst2.s.t]; omega) (by rw [hmx.t, hst2.s.t]; have h9 : 2 ^ (l2 + 1) ≤ 2 ^ lv := Nat.pow_le_pow_right (by omega) (by omega); omega)) ?_; rintro _ _ ⟨_, ⟨gv, rfl, rfl⟩, rfl⟩;refine WL.ent Ent.rowsV ?_;refine WL.ex ?_
          rintro gvs
          refine WL.fact (fun _ _ _ s => s.rowsV_shape 0 rfl (by rw [mid_len]; omega)) ?_; rintro ⟨gb, go, gcap, rfl⟩;refine WL.fact (fun _ _ _ s => s.rowsV_rows 0 rfl) fun hgr => ?_;refine WL.ent (Ent.pk [11, 0, 0, 0, 0, 0, 0, 0, 0, 0, 0, 0, 0, 0] rfl) ?_;refine WL.ent Ent.rowsV ?_;refine WL.ex ?_
          rintro avs
          refine WL.fact (fun _ _ _ s => s.rowsV_shape 0 rfl (by rw [genR_len]; omega)) ?_; rintro ⟨ab, ao, acap, rfl⟩;refine WL.fact (fun _ _ _ s => s.rowsV_rows 0 rfl) fun har => ?_;refine L.move rfl ?_;(iterate 2 refine L.extract rfl rfl ?_);(iterate 2 refine L.assign rfl ?_);refine WL.nil ?_;refine WP.seq ?_;refine WP.regs ?_;refine L.move rfl ?_;refine L.neqD rfl rfl (fun hT => absurd hT (by decide)) (fun h295 => ?_);(iterate 2 refine L.move rfl ?_);refine L.neqD rfl rfl (fun hT => absurd hT (by decide)) (fun h298 => ?_);refine L.pickF rfl rfl ?_;(iterate 2 refine L.move rfl ?_);refine L.lenS T61.sl rfl rfl ?_
          refine L.move rfl ?_;refine L.quo' rfl rfl (by omega) ?_;refine L.neq rfl rfl ?_;refine L.pickF rfl rfl ?_;refine WL.nil ?_;refine WP.condD rfl (fun hT => absurd hT (by rw [mid_len, hRL]; omega)) (fun h306 => ?_);refine WP.skip ?_;refine X.thenN ?_;refine WP.regs ?_;refine L.move rfl ?_;refine L.quo' rfl rfl (by omega) ?_;refine L.move rfl ?_;refine L.shl rfl rfl (by omega) ?_
          rw [shlI (l := jn) (by omega)]
          refine L.sub' rfl rfl (by omega) ?_;refine L.assign rfl ?_;refine WL.nil ?_;refine WP.seq ?_;refine WP.regs ?_;refine L.assign rfl ?_;refine WL.nil ?_;refine WP.block ?_;refine WP.loop (X := Nat) (fun q => ⟨332, [], [(11, .bool true), (15, .slice (some ⟨ab, ao, none⟩) (genR (lineR r t) (rowsG (rowG R t.w.toNat) (2 ^ lv)) (2 ^ jn)).length acap), (38, .slice (some ⟨gb, go, none⟩) (midD (lineR r t) (rowsG (rowG R t.w.toNat) (2 ^ lv)) jn).length gcap), (39, .int .i64 (((2 ^ lv : Nat) : Int) / 4 - ((2 ^ jn : Nat) : Int))), (40, .int .i64 (q : Int))]⟩) (fun q => [rowsV (.slice (some ⟨ab, ao, none⟩) (genR (lineR r t) (rowsG (rowG R t.w.toNat) (2 ^ lv)) (2 ^ jn)).length acap) avs (genR (lineR r t) (rowsG (rowG R t.w.toNat) (2 ^ lv)) (2 ^ jn)), rowsV (.slice (some ⟨gb, go, none⟩) (midD (lineR r t) (rowsG (rowG R t.w.toNat) (2 ^ lv)) jn).length gcap) gvs (midD (lineR r t) (rowsG (rowG R t.w.toNat) (2 ^ lv)) jn)] ++ seaS b { (A2 : SeaA) with nv := nv1, ov := ov1 } M.1 ++ [cl b6 (topoC t) 34, cl b5 (ruleC r v w) 32]) (fun q => q ≤ 2 ^ lv / 2) (fun q => 2 ^ lv / 2 - q) 0 (Nat.zero_le _) (Env.Sub.cons rfl rfl (Env.Sub.cons rfl rfl (Env.Sub.cons rfl rfl (Env.Sub.cons rfl rfl (Env.Sub.cons rfl rfl Env.Sub.nil))))) ((Ent.refl _)) ?_
          intro q hq
          refine WP.seq ?_;refine WP.regs ?_;(iterate 2 refine L.move rfl ?_);refine L.lenS T61.sl rfl rfl ?_;refine L.lss rfl rfl ?_;refine WL.nil ?_;refine WP.condD rfl (fun h315 => ?_) (fun h315 => ?_)
          ·
           refine WP.skip ?_;refine X.thenN ?_;refine WP.seq ?_;refine WP.block ?_;refine WP.seq ?_;refine WP.rege [(0, true), (1, true), (2, true), (3, true), (4, true), (5, true), (6, true), (7, true), (8, true), (9, true), (10, true), (11, true), (12, true)] 13 rfl (by kernel_rfl) (PInv.then (PInv.block (PInv.then (PInv.then (PInv.block (PInv.then PInv.ret)))))) rfl ?_;(iterate 2 refine WE.take rfl (V.move rfl) ?_);refine WE.take rfl (V.indexS T61.sl rfl rfl (by omega)) ?_
           obtain ⟨xb0, xo0, xc0, hx0⟩ := hgr (q) (by rw [mid_len, hRL]; omega) (by rw [mid_get (by rw [hRL]; omega) (by rw [hRL]; omega), (gen_ok hst2.s.inv.K hst2.s.r hst2.s.t R (2 ^ lv) (2 ^ jn) _ (by rw [hRL]; omega)).len]; omega)
           refine WE.take rfl (V.load T60.sc rfl (Rd.rowsV' 1 rfl rfl (q) (by rw [mid_len, hRL]; omega) (by omega))) ?_
           rw [hx0]
           refine WE.take rfl (V.bytesToStr T60.sl T5.u T9.u rfl (ns := intsB ((midD (lineR r t) (rowsG (rowG R t.w.toNat) (2 ^ lv)) jn).getD (q) ByteArray.empty)) rfl (fun _ _ _ e => by cases e; exact ⟨rfl, Rds.rowsVB 1 rfl (q) (by rw [mid_len, hRL]; omega) hx0⟩) (fun e => by cases e)) ?_;(iterate 3 refine WE.take rfl (V.move rfl) ?_);refine WE.take rfl (V.add' rfl rfl (by omega)) ?_;refine WE.take rfl (V.indexS T61.sl rfl rfl (by omega)) ?_
           obtain ⟨xb1, xo1, xc1, hx1⟩ := har (2 ^ lv / 4 - 2 ^ jn + q) (by rw [genR_len, hRL]; omega) (by rw [(gen_ok hst2.s.inv.K hst2.s.r hst2.s.t R (2 ^ lv) (2 ^ jn) _ (by omega)).len]; omega)
           refine WE.take rfl (V.load T60.sc rfl (Rd.rowsV' 0 rfl rfl (2 ^ lv / 4 - 2 ^ jn + q) (by rw [genR_len, hRL]; omega) (by omega))) ?_
           rw [hx1]
           refine WE.take rfl (V.bytesToStr T60.sl T5.u T9.u rfl (ns := intsB ((genR (lineR r t) (rowsG (rowG R t.w.toNat) (2 ^ lv)) (2 ^ jn)).getD (2 ^ lv / 4 - 2 ^ jn + q) ByteArray.empty)) rfl (fun _ _ _ e => by cases e; exact ⟨rfl, Rds.rowsVB 0 rfl (2 ^ lv / 4 - 2 ^ jn + q) (by rw [genR_len, hRL]; omega) hx1⟩) (fun e => by cases e)) ?_;refine WE.take rfl (V.neqStr rfl rfl) ?_;refine WE.nil ?_;refine X.thenN ?_;refine WP.condD rfl (fun hT => absurd hT (by rw [mid_get (by rw [hRL]; omega) (by rw [hRL]; omega), hRL]; simp)) (fun h330 => ?_);refine WP.skip ?_;refine X.blockN ?_;refine X.thenN ?_;refine WP.region ?_
           refine L.move rfl ?_;refine L.add' rfl rfl (by omega) ?_;refine L.assign rfl ?_;refine WL.nil ?_;refine X.thenN ⟨q + 1, by omega, by omega, (Env.Sub.cons rfl rfl (Env.Sub.cons rfl rfl (Env.Sub.cons rfl rfl (Env.Sub.cons rfl rfl (Env.Sub.cons rfl rfl Env.Sub.nil))))), (Ent.refl _)⟩
          ·
           refine WP.exit ?_;refine X.thenE (X.thenE (X.blockE ?_));refine X.thenN ?_;refine WP.regs ?_;refine L.move rfl ?_;refine L.assign rfl ?_;refine WL.nil ?_;refine WP.ret ?_;refine X.ret rfl (Res.one rfl rfl) ?_
           first
            | exact rfl
            | (show _ = _
               rw [decide_eq_true (by decide)])
        ·
         refine L.move rfl ?_;(iterate 2 refine L.extract rfl rfl ?_);(iterate 2 refine L.assign rfl ?_);refine WL.nil ?_;refine WP.seq ?_;refine WP.regs ?_;refine L.move rfl ?_;refine L.lssD rfl rfl (fun h232 => ?_) (fun h232 => ?_)
         ·
          refine L.move rfl ?_
          iterate 4 refine L.skip ?_
          refine L.pickT rfl rfl ?_;refine WL.nil ?_;refine WP.condT rfl ?_;refine WP.regs ?_;(iterate 3 refine L.move rfl ?_);refine L.eqlD rfl rfl (fun h242 => ?_) (fun hF => absurd hF (by decide));refine L.pickT rfl rfl ?_;(iterate 2 refine L.move rfl ?_);refine L.eql rfl rfl ?_;refine L.pickT rfl rfl ?_;refine L.assign rfl ?_;refine WL.nil ?_;refine WP.ret ?_;refine X.thenR ?_;refine X.ret rfl (Res.one rfl rfl) ?_
          first
           | exact rfl
           | (show _ = _
              rw [decide_eq_true (by decide)])
         ·
          (iterate 3 refine L.move rfl ?_);refine L.sub' rfl rfl (by omega) ?_;refine L.gtr rfl rfl ?_;refine L.pickF rfl rfl ?_;refine WL.nil ?_;refine WP.condD rfl (fun h238 => ?_) (fun hF => absurd hF (by omega));refine WP.regs ?_;(iterate 3 refine L.move rfl ?_);refine L.eqlD rfl rfl (fun h242 => ?_) (fun hF => absurd hF (by decide));refine L.pickT rfl rfl ?_;(iterate 2 refine L.move rfl ?_);refine L.eql rfl rfl ?_;refine L.pickT rfl rfl ?_;refine L.assign rfl ?_;refine WL.nil ?_;refine WP.ret ?_;refine X.thenR ?_;refine X.ret rfl (Res.one rfl rfl) ?_
          first
           | exact rfl
           | (show _ = _
              rw [decide_eq_true (by decide)])
end
end Go.Eng
