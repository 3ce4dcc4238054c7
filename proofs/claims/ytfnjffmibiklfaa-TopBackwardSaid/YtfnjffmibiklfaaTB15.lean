/- Walks of the seat's functions over those rules, and plain laws of what they compute. No conditions beyond those in each theorem. -/
import Derived.Test.YtfnjffmibiklfaaTB14
namespace Go.Eng
open Go.RowKit Go.Proofs
set_option linter.unusedSimpArgs false
set_option linter.unusedVariables false

def two (a b : Nat → Value) (za zb : Value) (i c : Nat) : Value := if c / 2 < i then (if c % 2 = 0 then a (c / 2) else b (c / 2)) else (if c % 2 = 0 then za else zb)
theorem two_set {a b : Nat → Value} {za zb : Value} {H i : Nat} : over ((List.range (H * 2)).map (two a b za zb i)) (i * 2) [a i, b i] = (List.range (H * 2)).map (two a b za zb (i + 1)) := by
  simp only [over]
  rw [map_range_set (g := fun c => if c = i * 2 then a i else two a b za zb i c) (by simp) (fun y _ hy => by simp only [if_neg hy])]
  refine map_range_set (by simp only [two]; rw [if_pos (by omega), if_neg (by omega), show (i * 2 + 1) / 2 = i by omega]) (fun y _ hy => ?_)
  by_cases e : y = i * 2
  · subst e
    simp only [if_true, two]
    rw [if_pos (by omega), if_pos (by omega), show i * 2 / 2 = i by omega]
  · simp only [if_neg e, two]
    by_cases e2 : y / 2 < i
    · simp only [e2, show y / 2 < i + 1 by omega, if_true]
    · simp only [e2, show ¬ y / 2 < i + 1 by omega, if_false]
def plX (t : Topo) (u v : Int) : Int × Int := ((t.at (u - t.w / 2) (v - t.h / 2)).1 + t.w / 2, (t.at (u - t.w / 2) (v - t.h / 2)).2.1 + t.h / 2)
def plOk (t : Topo) (u v : Int) : Bool := decide ((t.at (u - t.w / 2) (v - t.h / 2)).2.2 = 0)
theorem pl_bd (t : Topo) (hg : t.Good) (u v : Int) (h : plOk t u v = true) : 0 ≤ (plX t u v).1 ∧ (plX t u v).1 < t.w ∧ 0 ≤ (plX t u v).2 ∧ (plX t u v).2 < t.h := by
  have h := of_decide_eq_true h
  unfold plX
  by_cases e : t.has (u - t.w / 2 - -(t.w / 2)) (v - t.h / 2 - -(t.h / 2)) = true
  · have e1 : t.at (u - t.w / 2) (v - t.h / 2) = _ := if_pos e
    have := t.cell_bd hg _ _ e
    rw [e1]
    dsimp only
    omega
  · have e1 : t.at (u - t.w / 2) (v - t.h / 2) = _ := if_neg e
    rw [e1] at h
    cases h
/-- A place's cell. -/
def plN (t : Topo) (u v : Int) : Nat × Nat := ((plX t u v).1.toNat, (plX t u v).2.toNat)
def blkN (t : Topo) (u v : Int) : List (Nat × Nat) := [plN t u v, plN t (u + 1) v, plN t u (v + 1), plN t (u + 1) (v + 1)]
def blkOk (t : Topo) (u v : Int) : Bool := plOk t u v && plOk t (u + 1) v && plOk t u (v + 1) && plOk t (u + 1) (v + 1)
/-- The blocks of a row, of the first 'j' columns of blocks. -/
def rowB (t : Topo) (o : Nat) (v : Int) : Nat → List (List (Nat × Nat))
  | 0 => []
  | j + 1 => rowB t o v j ++ if blkOk t ((o + 2 * j : Nat) : Int) v then [blkN t ((o + 2 * j : Nat) : Int) v] else []
def allB (t : Topo) (o n : Nat) : Nat → List (List (Nat × Nat))
  | 0 => []
  | i + 1 => allB t o n i ++ rowB t o ((o + 2 * i : Nat) : Int) n
/-- The blocks of a generation. -/
def blocksL (t : Topo) (o : Nat) : List (List (Nat × Nat)) := allB t o (t.w / 2).toNat (t.h / 2).toNat
abbrev flatB (l : List (List (Nat × Nat))) : List Value := l.flatMap fun b => b.flatMap fun p => [Value.int .i64 (p.1 : Int), .int .i64 (p.2 : Int)]
theorem rowB_len (t : Topo) (o : Nat) (v : Int) : ∀ j, (rowB t o v j).length ≤ j
  | 0 => by simp [rowB]
  | j + 1 => by
    have := rowB_len t o v j
    rw [rowB, List.length_append]
    split <;> simp <;> omega
theorem allB_len (t : Topo) (o n : Nat) : ∀ i, (allB t o n i).length ≤ i * n
  | 0 => by simp [allB]
  | i + 1 => by
    have h1 := allB_len t o n i
    have h2 := rowB_len t o ((o + 2 * i : Nat) : Int) n
    have h3 : (i + 1) * n = i * n + n := Nat.succ_mul i n
    rw [allB, List.length_append]
    omega
/-- The first 'i' places of a block, whether they are all in. -/
def okTo (t : Topo) (u v : Int) : Nat → Bool
  | 0 => true
  | i + 1 => okTo t u v i && plOk t (u + (i : Int) % 2) (v + (i : Int) / 2)
theorem okTo_four (t : Topo) (u v : Int) : okTo t u v 4 = blkOk t u v := by
  simp [okTo, blkOk]
abbrev aQ (t : Topo) (u v : Int) (i : Nat) : Value := .int .i64 (plX t (u + (i : Int) % 2) (v + (i : Int) / 2)).1
abbrev bQ (t : Topo) (u v : Int) (i : Nat) : Value := .int .i64 (plX t (u + (i : Int) % 2) (v + (i : Int) / 2)).2
abbrev partC (t : Topo) (u v : Int) (i : Nat) : List Value := (List.range (4 * 2)).map (two (aQ t u v) (bQ t u v) (.int .i64 0) (.int .i64 0) i)
theorem partC_four (t : Topo) (hg : t.Good) (u v : Int) (h : blkOk t u v = true) : partC t u v 4 = flatB [blkN t u v] := by
  simp only [blkOk, Bool.and_eq_true] at h
  obtain ⟨⟨⟨h0, h1⟩, h2⟩, h3⟩ := h
  have b0 := pl_bd t hg _ _ h0
  have b1 := pl_bd t hg _ _ h1
  have b2 := pl_bd t hg _ _ h2
  have b3 := pl_bd t hg _ _ h3
  have e : partC t u v 4 = [aQ t u v 0, bQ t u v 0, aQ t u v 1, bQ t u v 1, aQ t u v 2, bQ t u v 2, aQ t u v 3, bQ t u v 3] := rfl
  rw [e]
  simp only [flatB, blkN, plN, List.flatMap_cons, List.flatMap_nil, List.append_nil, List.cons_append, List.nil_append, Int.toNat_of_nonneg b0.1, Int.toNat_of_nonneg b0.2.2.1, Int.toNat_of_nonneg b1.1, Int.toNat_of_nonneg b1.2.2.1,
    Int.toNat_of_nonneg b2.1, Int.toNat_of_nonneg b2.2.2.1, Int.toNat_of_nonneg b3.1, Int.toNat_of_nonneg b3.2.2.1, aQ, bQ]
  simp
theorem flatB_app (l l' : List (List (Nat × Nat))) : flatB (l ++ l') = flatB l ++ flatB l' := by simp [flatB]
theorem vec_snoc {L : List (List (Nat × Nat))} {b : List (Nat × Nat)} {v : Value} : vec 59 8 v (L.length + 1) (flatB L ++ flatB [b]) = vec 59 8 v (L ++ [b]).length (flatB (L ++ [b])) := by
  rw [List.length_append, flatB_app]; rfl
section
variable {k : World} {h0 : Hp}

set_option maxRecDepth 10000 in
theorem block_blocks (t : Topo) (hg : t.Even) (o : Nat) (ho : o ≤ 1) : FT Pg 20 [.agg (topoC t).toArray, .int .i64 (o : Int)] k h0 [] (Ret fun v τ => τ = [vec 59 8 v (blocksL t o).length (flatB (blocksL t o))]) := by
  have hk := hg.kind; have hk2 := hg.kind2; have hw := hg.w; have hh := hg.h; have hw0 := hg.w0; have hh0 := hg.h0; have hwe := hg.we; have hhe := hg.he; have hse := hg.se; have hwi := hg.wide; have hhi := hg.high; have hno := hg.none; have htn := hg.turn; have hfl := hg.flat
  refine FT.tight ?_
  obtain ⟨n, hn⟩ : ∃ n, n = (t.w / 2).toNat := ⟨_, rfl⟩
  refine FT.of_wp (n := 57) Try.func20 rfl rfl rfl ?_
  refine WP.regs ?_
  refine L.box rfl rfl ?_; intro b1
  refine L.assign rfl ?_
  refine WL.nil ?_
  refine WP.regs ?_
  refine L.assign rfl ?_
  refine WL.nil ?_
  refine WP.seq ?_
  refine WP.regs ?_
  refine L.move rfl ?_
  refine L.assign rfl ?_
  refine WL.nil ?_
  refine WP.block ?_
  refine WP.loop (X := Nat × Value) (fun x => ⟨57, [], [(1, .int .i64 (o : Int)), (2, .pointer (some ⟨b1, 0, none⟩)), (5, x.2), (6, .int .i64 ((o + 2 * x.1 : Nat) : Int))]⟩) (fun x => [vec 59 8 x.2 (allB t o n x.1).length (flatB (allB t o n x.1)), cl b1 (topoC t) 24]) (fun x => x.1 ≤ (t.h / 2).toNat) (fun x => (t.h / 2).toNat - x.1) (0, nilS) (Nat.zero_le _) (Env.Sub.cons rfl rfl (Env.Sub.cons rfl rfl (Env.Sub.cons rfl rfl (Env.Sub.cons rfl rfl Env.Sub.nil)))) (Ent.nilvec) ?_
  rintro ⟨i, sl⟩ hi
  dsimp only at hi ⊢
  refine WP.seq ?_
  refine WP.regs ?_
  refine L.move rfl ?_
  refine L.fieldAddr (o' := 2) T24.f2 rfl rfl ?_
  refine L.load T3.sc rfl (Rd.own 1 rfl rfl) ?_
  refine L.lss rfl rfl ?_
  refine WL.nil ?_
  refine WP.condD rfl (fun h17 => ?_) (fun h17 => ?_)
  · -- then
    refine WP.skip ?_
    refine X.thenN ?_
    refine WP.seq ?_
    refine WP.block ?_
    refine WP.regs ?_
    refine L.move rfl ?_
    refine L.assign rfl ?_
    refine WL.nil ?_
    refine WP.block ?_
    refine WP.loop (X := Nat × Value) (fun x => ⟨57, [], [(1, .int .i64 (o : Int)), (2, .pointer (some ⟨b1, 0, none⟩)), (5, x.2), (6, .int .i64 ((o + 2 * i : Nat) : Int)), (7, .int .i64 ((o + 2 * x.1 : Nat) : Int))]⟩) (fun x => [vec 59 8 x.2 (allB t o n i ++ rowB t o ((o + 2 * i : Nat) : Int) x.1).length (flatB (allB t o n i ++ rowB t o ((o + 2 * i : Nat) : Int) x.1)), cl b1 (topoC t) 24]) (fun x => x.1 ≤ n) (fun x => n - x.1) (0, sl) (Nat.zero_le _) (Env.Sub.cons rfl rfl (Env.Sub.cons rfl rfl (Env.Sub.cons rfl rfl (Env.Sub.cons rfl rfl (Env.Sub.cons rfl rfl Env.Sub.nil))))) (Ent.of_eq (by rw [rowB, List.append_nil])) ?_
    rintro ⟨j, sl1⟩ hj
    dsimp only at hj ⊢
    refine WP.seq ?_
    refine WP.regs ?_
    refine L.move rfl ?_
    refine L.fieldAddr (o' := 1) T24.f1 rfl rfl ?_
    refine L.load T3.sc rfl (Rd.own 1 rfl rfl) ?_
    refine L.lss rfl rfl ?_
    refine WL.nil ?_
    refine WP.condD rfl (fun h24 => ?_) (fun h24 => ?_)
    · -- then
      refine WP.skip ?_
      refine X.thenN ?_
      refine WP.seq ?_
      refine WP.block ?_
      refine WP.regs ?_
      refine L.alloc T59.z ?_; intro b2
      refine WL.nil ?_
      refine WP.regs ?_
      refine L.assign rfl ?_
      refine WL.nil ?_
      refine WP.seq ?_
      refine WP.regs ?_
      refine L.move rfl ?_
      refine WL.nil ?_
      refine WP.block ?_
      refine WP.loop (X := Nat) (fun x => ⟨57, [], [(1, .int .i64 (o : Int)), (2, .pointer (some ⟨b1, 0, none⟩)), (5, sl1), (6, .int .i64 ((o + 2 * i : Nat) : Int)), (7, .int .i64 ((o + 2 * j : Nat) : Int)), (8, .pointer (some ⟨b2, 0, none⟩)), (9, .bool (okTo t ((o + 2 * j : Nat) : Int) ((o + 2 * i : Nat) : Int) x)), (27, .int .i64 (x : Int))]⟩) (fun x => [cl b2 (partC t ((o + 2 * j : Nat) : Int) ((o + 2 * i : Nat) : Int) x) 59, vec 59 8 sl1 (allB t o n i ++ rowB t o ((o + 2 * i : Nat) : Int) j).length (flatB (allB t o n i ++ rowB t o ((o + 2 * i : Nat) : Int) j)), cl b1 (topoC t) 24]) (fun x => x ≤ 4) (fun x => 4 - x) 0 (by omega) (Env.Sub.cons rfl rfl (Env.Sub.cons rfl rfl (Env.Sub.cons rfl rfl (Env.Sub.cons rfl rfl (Env.Sub.cons rfl rfl (Env.Sub.cons rfl rfl (Env.Sub.cons rfl rfl (Env.Sub.cons rfl rfl Env.Sub.nil)))))))) (Ent.refl _) ?_
      intro m hm
      refine WP.regs ?_
      refine L.lss rfl rfl ?_
      refine WL.nil ?_
      refine WP.seq ?_
      refine WP.condD rfl (fun h28 => ?_) (fun h28 => ?_)
      · -- then
        refine WP.skip ?_
        refine X.thenN ?_
        refine WP.seq ?_
        refine WP.block ?_
        refine WP.regs ?_
        refine L.move rfl ?_
        refine L.assign rfl ?_
        refine WL.nil ?_
        refine WP.regs ?_
        refine L.loadN T24.ag rfl rfl (Rds.all 2 rfl) ?_
        refine L.move rfl ?_
        refine L.move rfl ?_
        refine L.rem' rfl rfl (by omega) ?_
        refine L.add' rfl rfl (by omega) ?_
        refine L.move rfl ?_
        refine L.move rfl ?_
        refine L.quo' rfl rfl (by omega) ?_
        refine L.add' rfl rfl (by omega) ?_
        refine WL.callV rfl rfl F33.fn rfl (fun g gS dj => block_cell t hg.toGood _ _ (by omega) (by omega)) ?_   -- vivarium/block.cell slot 40
        refine L.move rfl ?_
        refine L.extract rfl rfl ?_
        refine L.extract rfl rfl ?_
        refine L.alloc T58.z ?_; intro b3
        refine L.storeN T58.ag rfl rfl rfl (Wrs.all 0 rfl rfl (by simp [Value.oneCell'])) ?_
        refine L.assign rfl ?_
        refine WL.nil ?_
        refine WP.regs ?_
        refine L.move rfl ?_
        refine L.loadN T58.ag rfl rfl (Rds.all 0 rfl) ?_
        refine L.indexA T59.ar rfl rfl (by omega) ?_
        refine L.storeN T58.ag rfl rfl rfl (Wrs.own 1 rfl (by simp; omega) (by simp [Value.oneCell'])) ?_
        refine WL.nil ?_
        refine WP.region ?_
        refine L.move rfl ?_
        refine WL.valB rfl rfl (V.move rfl) (fun hb47 => ?_) (fun hb47 => ?_)
        · -- true
          refine L.move rfl ?_
          refine L.pickT rfl rfl ?_
          refine L.assign rfl ?_
          refine WL.nil ?_
          refine X.blockN ?_
          refine X.thenN ?_
          refine WP.region ?_
          refine L.add' rfl rfl (by omega) ?_
          refine L.move rfl ?_
          refine WL.nil ?_
          refine X.thenN ⟨m + 1, by omega, by omega, (Env.Sub.cons rfl rfl (Env.Sub.cons rfl rfl (Env.Sub.cons rfl rfl (Env.Sub.cons rfl rfl (Env.Sub.cons rfl rfl (Env.Sub.cons rfl rfl (Env.Sub.cons rfl (by simp only [okTo, hb47, Bool.true_and]; rfl) (Env.Sub.cons rfl rfl Env.Sub.nil)))))))), (Ent.drop 0).trans (Ent.of_eq (by simp only [Nat.zero_add, Int.toNat_natCast, List.eraseIdx_cons_zero, List.set_cons_succ, List.set_cons_zero]; exact congrArg (fun z => cl b2 z 59 :: _) (two_set (H := 4) (i := m) (a := aQ t ((o + 2 * j : Nat) : Int) ((o + 2 * i : Nat) : Int)) (b := bQ t ((o + 2 * j : Nat) : Int) ((o + 2 * i : Nat) : Int)))))⟩
        · -- false
          refine L.skip ?_
          refine L.pickF rfl rfl ?_
          refine L.assign rfl ?_
          refine WL.nil ?_
          refine X.blockN ?_
          refine X.thenN ?_
          refine WP.region ?_
          refine L.add' rfl rfl (by omega) ?_
          refine L.move rfl ?_
          refine WL.nil ?_
          refine X.thenN ⟨m + 1, by omega, by omega, (Env.Sub.cons rfl rfl (Env.Sub.cons rfl rfl (Env.Sub.cons rfl rfl (Env.Sub.cons rfl rfl (Env.Sub.cons rfl rfl (Env.Sub.cons rfl rfl (Env.Sub.cons rfl (by simp only [okTo, hb47, Bool.false_and]) (Env.Sub.cons rfl rfl Env.Sub.nil)))))))), (Ent.drop 0).trans (Ent.of_eq (by simp only [Nat.zero_add, Int.toNat_natCast, List.eraseIdx_cons_zero, List.set_cons_succ, List.set_cons_zero]; exact congrArg (fun z => cl b2 z 59 :: _) (two_set (H := 4) (i := m) (a := aQ t ((o + 2 * j : Nat) : Int) ((o + 2 * i : Nat) : Int)) (b := bQ t ((o + 2 * j : Nat) : Int) ((o + 2 * i : Nat) : Int)))))⟩
      · -- else
        refine WP.exit ?_
        refine X.thenE (X.thenE (X.blockE ?_))
        refine X.thenN ?_
        refine WP.regs ?_
        obtain rfl : m = 4 := by omega
        refine L.move rfl ?_
        refine WL.nil ?_
        refine WP.cond rfl (fun h51 => ?_) (fun h51 => ?_)
        · -- then
          have hbk := (okTo_four _ _ _).symm.trans h51
          refine WP.region ?_
          have hal := allB_len t o n i
          have hrl := rowB_len t o ((o + 2 * i : Nat) : Int) j
          have hmm : i * n ≤ 32768 * 32768 := Nat.mul_le_mul (by omega) (by omega)
          have hln : (allB t o n i ++ rowB t o ((o + 2 * i : Nat) : Int) j).length ≤ 1073774592 := by rw [List.length_append]; omega
          refine L.move rfl ?_
          refine L.loadN T59.ag rfl (by rfl) (Rds.all 0 rfl) ?_
          refine L.slice1 T53.sl T59.z rfl rfl rfl rfl rfl rfl ?_; intro b4
          refine L.append (i := 2) (news := partC t ((o + 2 * j : Nat) : Int) ((o + 2 * i : Nat) : Int) 4) T53.sl T59.z rfl rfl rfl rfl rfl rfl (fun _ _ _ e => by cases e; exact ⟨rfl, Rds.all 0 rfl⟩) (fun e => by cases e) (fun u hu => by obtain ⟨c, _, rfl⟩ := List.mem_map.1 hu; simp only [two]; split <;> split <;> rfl) (by omega) ?_; intro v1
          refine L.assign rfl ?_
          refine WL.nil ?_
          refine X.blockN ?_
          refine X.thenN ?_
          refine WP.region ?_
          refine L.move rfl ?_
          refine L.add' rfl rfl (by omega) ?_
          refine L.assign rfl ?_
          refine WL.nil ?_
          refine X.thenN ⟨(j + 1, v1), by dsimp only; omega, by dsimp only; omega, (Env.Sub.cons rfl rfl (Env.Sub.cons rfl rfl (Env.Sub.cons rfl rfl (Env.Sub.cons rfl rfl (Env.Sub.cons rfl (congrArg (Value.int .i64) (by dsimp only; omega)) Env.Sub.nil))))), (Ent.drop 1).trans ((Ent.drop 1).trans (Ent.of_eq (by rw [rowB, if_pos hbk, ← List.append_assoc, partC_four t hg.toGood _ _ hbk]; exact congrArg (fun z => z :: _) vec_snoc)))⟩
        · -- else
          have hbk := (okTo_four _ _ _).symm.trans h51
          refine WP.skip ?_
          refine X.blockN ?_
          refine X.thenN ?_
          refine WP.region ?_
          refine L.move rfl ?_
          refine L.add' rfl rfl (by omega) ?_
          refine L.assign rfl ?_
          refine WL.nil ?_
          refine X.thenN ⟨(j + 1, sl1), by dsimp only; omega, by dsimp only; omega, (Env.Sub.cons rfl rfl (Env.Sub.cons rfl rfl (Env.Sub.cons rfl rfl (Env.Sub.cons rfl rfl (Env.Sub.cons rfl (congrArg (Value.int .i64) (by dsimp only; omega)) Env.Sub.nil))))), (Ent.drop 0).trans (Ent.of_eq (by rw [rowB, if_neg (by rw [hbk]; simp), List.append_nil]; rfl))⟩
    · -- else
      refine WP.exit ?_
      refine X.thenE (X.thenE (X.blockE ?_))
      refine X.blockN ?_
      refine X.thenN ?_
      refine WP.region ?_
      refine L.move rfl ?_
      refine L.add' rfl rfl (by omega) ?_
      refine L.assign rfl ?_
      refine WL.nil ?_
      refine X.thenN ⟨(i + 1, sl1), by dsimp only; omega, by dsimp only; omega, (Env.Sub.cons rfl rfl (Env.Sub.cons rfl rfl (Env.Sub.cons rfl rfl (Env.Sub.cons rfl (congrArg (Value.int .i64) (by dsimp only; omega)) Env.Sub.nil)))), Ent.of_eq (by obtain rfl : j = n := (by omega); rfl)⟩
  · -- else
    refine WP.exit ?_
    refine X.thenE (X.thenE (X.blockE ?_))
    refine X.thenN ?_
    refine WP.regs ?_
    refine L.move rfl ?_
    refine L.assign rfl ?_
    refine WL.nil ?_
    refine WP.ret ?_
    refine X.ret rfl (Res.one rfl rfl) ?_
    obtain rfl : i = (t.h / 2).toNat := by omega
    subst hn
    exact ⟨_, rfl, _, rfl, Ent.right [_] _⟩

end

end Go.Eng
