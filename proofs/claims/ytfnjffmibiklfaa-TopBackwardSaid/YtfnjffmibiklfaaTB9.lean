/- Walks of the seat's functions over those rules, and plain laws of what they compute. No conditions beyond those in each theorem. -/
import Derived.Test.YtfnjffmibiklfaaTB8
namespace Go.Eng
open Go.RowKit Go.Proofs
set_option linter.unusedSimpArgs false
set_option linter.unusedVariables false

abbrev nilS : Value := .slice none 0 0
abbrev toRow (r : Nat → Value) (i y : Nat) : Value := if y < i then r y else nilS
abbrev setRow (r : Nat → Value) (i : Nat) (v : Value) : Nat → Value := fun y => if y = i then v else r y
theorem toRow_set {r : Nat → Value} {H i : Nat} {v : Value} : ((List.range H).map (toRow r i)).set i v = (List.range H).map (toRow (setRow r i v) (i + 1)) :=
  map_range_set (by simp [toRow, setRow]) (fun y _ hy => by
    by_cases e : y < i
    · simp [toRow, setRow, e, hy, show y < i + 1 by omega]
    · simp [toRow, e, show ¬ y < i + 1 by omega])
theorem toRow_all {r : Nat → Value} {H : Nat} : (List.range H).map (toRow r H) = (List.range H).map r := map_range_congr fun y hy => if_pos hy
theorem toRow_none {r : Nat → Value} {H : Nat} : (List.range H).map (toRow r 0) = List.replicate H nilS := by
  rw [← map_range_const]; exact map_range_congr fun y hy => rfl
theorem rows_succ {r : Nat → Value} {i : Nat} {v : Value} (G : Value → Nat → HP) : ((List.range i).map fun y => G (r y) y) ++ [G v i] = (List.range (i + 1)).map fun y => G (setRow r i v y) y := by
  rw [map_range_succ]
  congr 1
  · exact map_range_congr fun y hy => by simp [setRow, show y ≠ i by omega]
  · simp [setRow]
section
variable {k : World} {h0 : Hp}

set_option maxRecDepth 10000 in
theorem bytes_copied (W H : Nat) (F : Nat → Nat → Nat) (hW0 : 0 < W) (hH0 : 0 < H) (hW : W ≤ 65536) (hH : H ≤ 65536) (rv : Value) (hin : In (bytesHP W H F (.iface 80 rv)) h0) : FT Pg 81 [rv] k h0 [] (Ret fun v τ => τ = [bytesHP W H F v]) := by
  refine FT.tight ?_
  obtain ⟨b, cap, junk, r, hv, hb, hr⟩ := hin.bytes hW0 hH0
  cases hv
  refine FT.of_wp (n := 28) Try.func81 rfl rfl rfl ?_
  refine WP.regs ?_
  refine L.box rfl rfl ?_; intro b1
  refine L.assign rfl ?_
  refine WL.nil ?_
  refine WP.regs ?_
  refine L.fieldAddr (o' := 0) T80.f0 rfl rfl ?_
  refine L.load T78.sc rfl (Rd.own 0 rfl rfl) ?_
  refine L.lenS T78.sl rfl rfl ?_
  refine L.make T78.sl T25.z rfl rfl (by omega) ?_; intro b2
  refine L.build (cs := [_]) T80.b T80.z rfl rfl ?_
  refine L.alloc T80.z ?_; intro b3
  refine L.storeN T80.ag rfl rfl rfl (Wrs.all 0 rfl rfl (by simp [Value.oneCell'])) ?_
  refine WL.nil ?_
  refine WP.seq ?_
  refine WP.regs ?_
  refine L.fieldAddr (o' := 0) T80.f0 rfl rfl ?_
  refine L.load T78.sc rfl (Rd.own 2 rfl rfl) ?_
  refine L.lenS T78.sl rfl rfl ?_
  refine L.move rfl ?_
  refine WL.nil ?_
  refine WP.block ?_
  refine WP.loop (X := Nat × (Nat → Value)) (fun x => ⟨28, [], [(3, .pointer (some ⟨b3, 0, none⟩)), (12, .slice (some ⟨b, 0, none⟩) H cap), (13, .int .i64 (H : Int)), (14, .int .i64 (x.1 : Int))]⟩) (fun x => [starsP ((List.range x.1).map fun y => vec 5 1 (x.2 y) W (lineC F W y)), cl b3 [.slice (some ⟨b2, 0, none⟩) H H] 80, vec 25 1 (.slice (some ⟨b2, 0, none⟩) H H) H ((List.range H).map (toRow x.2 x.1)), cl b1 [.slice (some ⟨b, 0, none⟩) H cap] 80]) (fun x => x.1 ≤ H) (fun x => H - x.1) (0, fun _ => nilS) (Nat.zero_le _) (Env.Sub.cons rfl rfl (Env.Sub.cons rfl rfl (Env.Sub.cons rfl rfl (Env.Sub.cons rfl rfl Env.Sub.nil)))) ((Ent.at 1 rfl (Ent.vec_made (n := H) (by simp))).trans ((Ent.shut (τ := [])).trans (Ent.of_eq (by rw [toRow_none]; rfl)))) ?_
  rintro ⟨i, r1⟩ hi
  dsimp only at hi ⊢
  refine WP.regs ?_
  refine L.lss rfl rfl ?_
  refine WL.nil ?_
  refine WP.seq ?_
  refine WP.condD rfl (fun h15 => ?_) (fun h15 => ?_)
  · -- then
    obtain ⟨b', cap', junk', hri, hb'⟩ := hr i (by omega)
    refine WP.skip ?_
    refine X.thenN ?_
    refine WP.seq ?_
    refine WP.block ?_
    refine WP.regs ?_
    refine L.move rfl ?_
    refine L.indexS T78.sl rfl rfl (by omega) ?_
    refine L.load T25.sc rfl (v := .slice (some ⟨b', 0, none⟩) W cap') (Rd.of hb (by rw [List.getElem?_toArray, Nat.zero_add, Nat.mul_one, Int.toNat_natCast, ← hri]; exact map_range_app _ _ (by omega))) ?_
    refine L.assign rfl ?_
    refine L.assign rfl ?_
    refine WL.nil ?_
    refine WP.rege [(0, true), (1, true), (2, true), (3, true), (4, false), (5, true), (6, false)] 6 rfl (by kernel_rfl) (PInv.block (PInv.then (PInv.then (PInv.block (PInv.then PInv.ret))))) rfl ?_
    refine WE.take rfl (V.fieldAddr (o' := 0) T80.f0 rfl rfl) ?_
    refine WE.take rfl (V.load T78.sc rfl (Rd.own 1 rfl rfl)) ?_
    refine WE.take rfl (V.move rfl) ?_
    refine WE.take rfl (V.move rfl) ?_
    refine WE.one rfl ?_
    refine WL.ent (Ent.nilvec (E := 5) (sz := 1)) ?_
    refine L.append (i := 0) (news := lineC F W i) T25.sl T5.z rfl rfl rfl rfl rfl (by simp) (fun _ _ _ e => by cases e; exact ⟨rfl, Rds.of2 hb' (fun j v hj => List.getElem?_append_some hj)⟩) (fun e => by cases e) (fun u hu => by obtain ⟨_, _, rfl⟩ := List.mem_map.1 hu; rfl) (by omega) ?_; intro v1
    refine WL.fact (φ := v1.oneCell' = true) (fun _ _ _ s => s.vec_one 0 rfl) fun hv1 => ?_
    refine WL.nil ⟨Ent.left [_] _, ?_⟩
    refine WE.take rfl (V.indexS T78.sl rfl rfl (by omega)) ?_
    refine WE.last rfl ?_
    refine L.store T25.sc rfl rfl hv1 (Wr.vec 3 rfl (by simp; omega)) ?_
    refine WL.nil ?_
    refine WE.nil ?_
    refine X.blockN ?_
    refine X.thenN ?_
    refine WP.region ?_
    refine L.add' rfl rfl (by omega) ?_
    refine L.move rfl ?_
    refine WL.nil ?_
    refine X.thenN ⟨(i + 1, setRow r1 i v1), by dsimp only; omega, by dsimp only; omega, (Env.Sub.cons rfl rfl (Env.Sub.cons rfl rfl (Env.Sub.cons rfl rfl (Env.Sub.cons rfl rfl Env.Sub.nil)))), Ent.snoc.trans (Ent.of_eq (by simp only [Nat.zero_add, List.nil_append, Nat.mul_one, Int.toNat_natCast, rows_succ (fun v y => vec 5 1 v W (lineC F W y)), toRow_set, List.set_cons_succ, List.set_cons_zero]))⟩
  · -- else
    refine WP.exit ?_
    refine X.thenE (X.thenE (X.blockE ?_))
    refine X.thenN ?_
    refine WP.regs ?_
    obtain rfl : i = H := by omega
    refine L.loadN T80.ag rfl rfl (Rds.all 1 rfl) ?_
    refine L.mkIface T80.u rfl rfl ?_
    refine L.assign rfl ?_
    refine WL.nil ?_
    refine WP.ret ?_
    refine X.ret rfl (Res.one rfl rfl) ?_
    refine ⟨_, rfl, _, rfl, ((Ent.of_eq (by rw [toRow_all])).trans (Ent.pull (σ := [starsP ((List.range i).map fun y => vec 5 1 (r1 y) W (lineC F W y)), cl b3 [.slice (some ⟨b2, 0, none⟩) i i] 80, vec 25 1 (.slice (some ⟨b2, 0, none⟩) i i) i ((List.range i).map r1), cl b1 [.slice (some ⟨b, 0, none⟩) i cap] 80]) 2 rfl)).trans ((Ent.cons Ent.stars).trans (Ent.bytes.trans (Ent.right [_] _)))⟩

abbrev toRow2 (W : Nat) (r : Nat → Value) (i c : Nat) : Value := if c / 2 < i then (if c % 2 = 0 then .int .i64 (W : Int) else r (c / 2)) else (if c % 2 = 0 then .int .i64 0 else nilS)
theorem toRow2_set {W : Nat} {r : Nat → Value} {H i : Nat} {v : Value} : over ((List.range (H * 2)).map (toRow2 W r i)) (i * 2) [.int .i64 (W : Int), v] = (List.range (H * 2)).map (toRow2 W (setRow r i v) (i + 1)) := by
  simp only [over]
  rw [map_range_set (g := fun c => if c = i * 2 then Value.int .i64 (W : Int) else toRow2 W r i c) (by simp) (fun y _ hy => by simp only [if_neg hy])]
  refine map_range_set (by simp only [toRow2, setRow]; rw [if_pos (by omega), if_neg (by omega), if_pos (by omega)]) (fun y _ hy => ?_)
  by_cases e : y = i * 2
  · subst e
    simp only [if_true, toRow2]
    rw [if_pos (by omega), if_pos (by omega)]
  · simp only [if_neg e, toRow2, setRow]
    by_cases e2 : y / 2 < i
    · simp only [e2, show y / 2 < i + 1 by omega, show ¬ y / 2 = i by omega, if_true, if_false]
    · simp only [e2, show ¬ y / 2 < i + 1 by omega, if_false]
theorem toRow2_all {W : Nat} {r : Nat → Value} {H : Nat} : (List.range (H * 2)).map (toRow2 W r H) = rowC W r H := map_range_congr fun y hy => if_pos (by omega)
theorem toRow2_none {W : Nat} {r : Nat → Value} {H : Nat} : ((List.range (H * 2)).map fun i => [Value.int .i64 0, nilS].toArray[i % 2]!) = (List.range (H * 2)).map (toRow2 W r 0) := map_range_congr fun y hy => by
  simp only [toRow2, Nat.not_lt_zero, if_false]
  rcases (show y % 2 = 0 ∨ y % 2 = 1 by omega) with e | e <;> simp [e]
theorem rowC_two {W H i : Nat} {r : Nat → Value} {junk : List Value} {s : Value} (hri : r i = s) (hi : i < H) (j : Nat) (v : Value) (hj : [Value.int .i64 (W : Int), s][j]? = some v) : (rowC W r H ++ junk)[i * 2 + j]? = some v := by
  match j, hj with
  | 0, hj => rw [rowC_at (by omega), if_pos (by omega)]; exact hj
  | 1, hj => rw [rowC_at (by omega), if_neg (by omega), show (i * 2 + 1) / 2 = i by omega, hri]; exact hj
set_option maxRecDepth 10000 in
theorem bits_copied (W H : Nat) (F : Nat → Nat → Nat) (hW0 : 0 < W) (hH0 : 0 < H) (hW : W ≤ 65536) (hH : H ≤ 65536) (rv : Value) (hin : In (bitsHP W H F (.iface 72 rv)) h0) : FT Pg 77 [rv] k h0 [] (Ret fun v τ => τ = [bitsHP W H F v]) := by
  refine FT.tight ?_
  obtain ⟨hF, b, cap, junk, r, hv, hb, hr⟩ := hin.bits hW0 hH0
  cases hv
  refine FT.of_wp (n := 32) Try.func77 rfl rfl rfl ?_
  refine WP.regs ?_
  refine L.box rfl rfl ?_; intro b1
  refine L.assign rfl ?_
  refine WL.nil ?_
  refine WP.regs ?_
  refine L.fieldAddr (o' := 0) T72.f0 rfl rfl ?_
  refine L.load T70.sc rfl (Rd.own 0 rfl rfl) ?_
  refine L.lenS T70.sl rfl rfl ?_
  refine L.makeN T70.sl T75.z rfl rfl (by omega) ?_; intro b2
  refine L.build (cs := [_]) T72.b T72.z rfl rfl ?_
  refine L.alloc T72.z ?_; intro b3
  refine L.storeN T72.ag rfl rfl rfl (Wrs.all 0 rfl rfl (by simp [Value.oneCell'])) ?_
  refine WL.nil ?_
  refine WP.seq ?_
  refine WP.regs ?_
  refine L.fieldAddr (o' := 0) T72.f0 rfl rfl ?_
  refine L.load T70.sc rfl (Rd.own 2 rfl rfl) ?_
  refine L.lenS T70.sl rfl rfl ?_
  refine L.move rfl ?_
  refine WL.nil ?_
  refine WP.block ?_
  refine WP.loop (X := Nat × (Nat → Value)) (fun x => ⟨32, [], [(3, .pointer (some ⟨b3, 0, none⟩)), (12, .slice (some ⟨b, 0, none⟩) H cap), (13, .int .i64 (H : Int)), (14, .int .i64 (x.1 : Int))]⟩) (fun x => [starsP ((List.range x.1).map fun y => vec 88 1 (x.2 y) ((W + 63) / 64) (wordC F W y)), cl b3 [.slice (some ⟨b2, 0, none⟩) H H] 72, vec 75 2 (.slice (some ⟨b2, 0, none⟩) H H) H ((List.range (H * 2)).map (toRow2 W x.2 x.1)), cl b1 [.slice (some ⟨b, 0, none⟩) H cap] 72]) (fun x => x.1 ≤ H) (fun x => H - x.1) (0, fun _ => nilS) (Nat.zero_le _) (Env.Sub.cons rfl rfl (Env.Sub.cons rfl rfl (Env.Sub.cons rfl rfl (Env.Sub.cons rfl rfl Env.Sub.nil)))) ((Ent.at 1 rfl (Ent.vec_madeN (n := H) (sz := 2) (by simp))).trans ((Ent.shut (τ := [])).trans (Ent.of_eq (by rw [← toRow2_none]; rfl)))) ?_
  rintro ⟨i, r1⟩ hi
  dsimp only at hi ⊢
  refine WP.regs ?_
  refine L.lss rfl rfl ?_
  refine WL.nil ?_
  refine WP.seq ?_
  refine WP.condD rfl (fun h15 => ?_) (fun h15 => ?_)
  · -- then
    obtain ⟨b', cap', junk', hri, hb'⟩ := hr i (by omega)
    refine WP.skip ?_
    refine X.thenN ?_
    refine WP.seq ?_
    refine WP.block ?_
    refine WP.regs ?_
    refine L.move rfl ?_
    refine L.indexS T70.sl rfl rfl (by omega) ?_
    refine L.loadN T75.ag rfl rfl (vs := [.int .i64 (W : Int), .slice (some ⟨b', 0, none⟩) ((W + 63) / 64) cap']) (Rds.of2 hb (fun j v hj => by rw [Nat.zero_add, Int.toNat_natCast]; exact rowC_two hri (by omega) j v hj)) ?_
    refine L.alloc T75.z ?_; intro b4
    refine L.assign rfl ?_
    refine L.storeN T75.ag rfl rfl rfl (Wrs.all 0 rfl rfl (by simp [Value.oneCell'])) ?_
    refine WL.nil ?_
    refine WP.rege [(0, true), (1, true), (2, true), (3, true), (4, true), (5, true), (6, true), (7, false), (8, true), (9, true), (10, false)] 10 rfl (by kernel_rfl) (PInv.block (PInv.then (PInv.then (PInv.block (PInv.then PInv.ret))))) rfl ?_
    refine WE.take rfl (V.fieldAddr (o' := 0) T72.f0 rfl rfl) ?_
    refine WE.take rfl (V.load T70.sc rfl (Rd.own 2 rfl rfl)) ?_
    refine WE.take rfl (V.move rfl) ?_
    refine WE.take rfl (V.fieldAddr (o' := 0) T75.f0 rfl rfl) ?_
    refine WE.take rfl (V.load T3.sc rfl (Rd.own 0 rfl rfl)) ?_
    refine WE.take rfl (V.fieldAddr (o' := 1) T75.f1 rfl rfl) ?_
    refine WE.take rfl (V.load T73.sc rfl (Rd.own 0 rfl rfl)) ?_
    refine WE.one rfl ?_
    refine WL.ent (Ent.nilvec (E := 88) (sz := 1)) ?_
    refine L.append (i := 0) (news := wordC F W i) T73.sl T88.z rfl rfl rfl rfl rfl (by simp) (fun _ _ _ e => by cases e; exact ⟨rfl, Rds.of2 hb' (fun j v hj => List.getElem?_append_some hj)⟩) (fun e => by cases e) (fun u hu => by obtain ⟨_, _, rfl⟩ := List.mem_map.1 hu; rfl) (by omega) ?_; intro v1
    refine WL.fact (φ := ∃ a c, v1 = .slice a ((W + 63) / 64) c) (fun _ _ _ s => by obtain ⟨_, a, c, e, _⟩ := s.vec_shape 0 rfl; exact ⟨a, c, by rw [e, Nat.zero_add]⟩) fun ⟨a1, c1, e1⟩ => ?_
    subst e1
    refine WL.nil ⟨Ent.left [_] _, ?_⟩
    refine WE.take rfl (V.build (cs := [_, _]) T75.b T75.z rfl rfl) ?_
    refine WE.take rfl (V.indexS T70.sl rfl rfl (by omega)) ?_
    refine WE.last rfl ?_
    refine L.storeN T75.ag rfl rfl rfl (Wrs.vec 4 rfl (by simp; omega) (by simp [Value.oneCell'])) ?_
    refine WL.nil ?_
    refine WE.nil ?_
    refine X.blockN ?_
    refine X.thenN ?_
    refine WP.region ?_
    refine L.add' rfl rfl (by omega) ?_
    refine L.move rfl ?_
    refine WL.nil ?_
    refine X.thenN ⟨(i + 1, setRow r1 i (.slice a1 ((W + 63) / 64) c1)), by dsimp only; omega, by dsimp only; omega, (Env.Sub.cons rfl rfl (Env.Sub.cons rfl rfl (Env.Sub.cons rfl rfl (Env.Sub.cons rfl rfl Env.Sub.nil)))), (Ent.drop 1).trans (Ent.snoc.trans (Ent.of_eq (by simp only [Nat.zero_add, List.nil_append, Int.toNat_natCast, rows_succ (fun v y => vec 88 1 v ((W + 63) / 64) (wordC F W y)), toRow2_set, List.set_cons_succ, List.set_cons_zero])))⟩
  · -- else
    refine WP.exit ?_
    refine X.thenE (X.thenE (X.blockE ?_))
    refine X.thenN ?_
    refine WP.regs ?_
    obtain rfl : i = H := by omega
    refine L.loadN T72.ag rfl rfl (Rds.all 1 rfl) ?_
    refine L.mkIface T72.u rfl rfl ?_
    refine L.assign rfl ?_
    refine WL.nil ?_
    refine WP.ret ?_
    refine X.ret rfl (Res.one rfl rfl) ?_
    refine ⟨_, rfl, _, rfl, ((Ent.of_eq (by rw [toRow2_all])).trans (Ent.pull (σ := [starsP ((List.range i).map fun y => vec 88 1 (r1 y) ((W + 63) / 64) (wordC F W y)), cl b3 [.slice (some ⟨b2, 0, none⟩) i i] 72, vec 75 2 (.slice (some ⟨b2, 0, none⟩) i i) i (rowC W r1 i), cl b1 [.slice (some ⟨b, 0, none⟩) i cap] 72]) 2 rfl)).trans ((Ent.cons Ent.stars).trans ((Ent.bits hF).trans (Ent.right [_] _)))⟩

end

end Go.Eng
