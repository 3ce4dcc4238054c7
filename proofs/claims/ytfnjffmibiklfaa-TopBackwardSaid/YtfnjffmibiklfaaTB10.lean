/- Walks of the seat's functions over those rules, and plain laws of what they compute. No conditions beyond those in each theorem. -/
import Derived.Test.YtfnjffmibiklfaaTB9
namespace Go.Eng
open Go.RowKit Go.Proofs
set_option linter.unusedSimpArgs false
set_option linter.unusedVariables false

theorem lineC_zero {W y : Nat} : lineC (fun _ _ => 0) W y = List.replicate W (.int .u8 0) := map_range_const _ _
theorem wordOf_zero {n : Nat} : wordOf (fun _ => 0) n = 0 := (wordOf_eq (Nat.pos_of_ne_zero (by simp)) (fun j _ => by simp)).symm
theorem wordC_zero {W y : Nat} : wordC (fun _ _ => 0) W y = List.replicate ((W + 63) / 64) (.int .u64 0) := by
  refine Eq.trans (map_range_congr (g := fun _ => Value.int .u64 0) (fun i _ => ?_)) (map_range_const _ _)
  rw [wordOf_zero]; rfl
theorem rowC_succ {W i : Nat} {r : Nat → Value} {v : Value} : rowC W r i ++ [.int .i64 (W : Int), v] = rowC W (setRow r i v) (i + 1) := by
  unfold rowC
  rw [show (i + 1) * 2 = i * 2 + 1 + 1 by omega, map_range_succ, map_range_succ, List.append_assoc]
  congr 1
  · exact map_range_congr fun c hc => by
      by_cases e : c % 2 = 0
      · simp [e]
      · simp [e, setRow, show c / 2 ≠ i by omega]
  · simp [setRow, show (i * 2 + 1) % 2 ≠ 0 by omega, show (i * 2 + 1) / 2 = i by omega]
theorem map_succ {i : Nat} {r : Nat → Value} {v : Value} : (List.range i).map r ++ [v] = (List.range (i + 1)).map (setRow r i v) := by
  rw [map_range_succ]
  congr 1
  · exact map_range_congr fun c hc => by simp [setRow, show c ≠ i by omega]
  · simp [setRow]
section
variable {k : World} {h0 : Hp}

set_option maxRecDepth 10000 in
theorem words_blank (W : Nat) (hW : W ≤ 65536) : FT Pg 37 [.int .i64 (W : Int)] k h0 [] (Ret fun v τ => ∃ b : Nat, v = .agg [Value.int .i64 (W : Int), .slice (some ⟨b, 0, none⟩) ((W + 63) / 64) ((W + 63) / 64)].toArray ∧ τ = [vec 88 1 (.slice (some ⟨b, 0, none⟩) ((W + 63) / 64) ((W + 63) / 64)) ((W + 63) / 64) (List.replicate ((W + 63) / 64) (.int .u64 0))]) := by
  refine FT.tight ?_
  refine FT.of_wp (n := 9) Try.func37 rfl rfl rfl ?_
  refine WP.regs ?_
  refine L.alloc T75.z ?_; intro b1
  refine WL.nil ?_
  refine WP.regs ?_
  refine L.move rfl ?_
  refine L.move rfl ?_
  refine L.add' rfl rfl (by omega) ?_
  refine L.quo' rfl rfl (by omega) ?_
  rw [show ((W : Int) + 63) / 64 = ((((W + 63) / 64) : Nat) : Int) by omega]
  refine L.make T73.sl T88.z rfl rfl (by omega) ?_; intro b2
  refine L.build (cs := [_, _]) T75.b T75.z rfl rfl ?_
  refine L.storeN T75.ag rfl rfl rfl (Wrs.all 1 rfl rfl (by simp [Value.oneCell'])) ?_
  refine WL.nil ?_
  refine WP.ret ?_
  refine X.ret rfl (ResCell1 rfl rfl T75.ag rfl (Rds.all 1 rfl)) ?_
  refine ⟨_, rfl, _, ⟨b2, rfl, rfl⟩, (Ent.vec_made (by rw [List.length_replicate]; rfl)).trans (Ent.right [_] _)⟩

set_option maxRecDepth 10000 in
theorem words_New (W : Nat) (hW : W ≤ 65536) : FT Pg 27 [.int .i64 (W : Int)] k h0 [] (Ret fun v τ => ∃ b : Nat, v = .tuple #[.agg [Value.int .i64 (W : Int), .slice (some ⟨b, 0, none⟩) ((W + 63) / 64) ((W + 63) / 64)].toArray, .int .i64 0] ∧ τ = [vec 88 1 (.slice (some ⟨b, 0, none⟩) ((W + 63) / 64) ((W + 63) / 64)) ((W + 63) / 64) (List.replicate ((W + 63) / 64) (.int .u64 0))]) := by
  refine FT.tight ?_
  refine FT.of_wp (n := 13) Try.func27 rfl rfl rfl ?_
  refine WP.regs ?_
  refine L.alloc T75.z ?_; intro b1
  refine L.assign rfl ?_
  refine WL.nil ?_
  refine WP.seq ?_
  refine WP.regs ?_
  refine L.move rfl ?_
  refine L.lssD rfl rfl (fun hT => absurd hT (by omega)) (fun h5 => ?_)
  refine L.move rfl ?_
  refine L.move rfl ?_
  refine L.gtr rfl rfl ?_
  refine L.pickF rfl rfl ?_
  refine WL.nil ?_
  refine WP.condD rfl (fun hT => absurd hT (by omega)) (fun h9 => ?_)
  refine WP.skip ?_
  refine X.thenN ?_
  refine WP.regs ?_
  refine L.move rfl ?_
  refine WL.call rfl rfl F37.fn rfl (FT.make fun g gS dj => words_blank W hW) ?_; rintro _ _ ⟨_, ⟨b2, rfl, rfl⟩, rfl⟩
  refine L.storeN T75.ag rfl rfl rfl (Wrs.all 1 rfl rfl (by simp [Value.oneCell'])) ?_
  refine L.assign rfl ?_
  refine WL.nil ?_
  refine WP.ret ?_
  refine X.ret rfl (ResCellTmp rfl rfl T75.ag rfl (Rds.all 1 rfl) rfl) ?_
  refine ⟨_, rfl, _, ⟨b2, rfl, rfl⟩, Ent.right [_] _⟩

set_option maxRecDepth 10000 in
theorem fresh_bytes (W H S : Nat) (hW : W ≤ 65536) (hH : H ≤ 65536) : FT Pg 14 [.agg [Value.int .i64 (W : Int), .int .i64 (H : Int), .int .i64 (S : Int)].toArray, .bool false] k h0 [] (Ret fun v τ => τ = [bytesHP W H (fun _ _ => 0) v]) := by
  refine FT.tight ?_
  refine FT.of_wp (n := 46) Try.func14 rfl rfl rfl ?_
  refine WP.regs ?_
  refine L.box rfl rfl ?_; intro b1
  refine L.assign rfl ?_
  refine WL.nil ?_
  refine WP.seq ?_
  refine WP.regs ?_
  refine L.move rfl ?_
  refine WL.nil ?_
  refine WP.condF rfl ?_
  refine WP.skip ?_
  refine X.thenN ?_
  refine WP.regs ?_
  refine L.build (cs := [_]) T80.b T80.z rfl rfl ?_
  refine L.alloc T80.z ?_; intro b2
  refine L.storeN T80.ag rfl rfl rfl (Wrs.all 0 rfl rfl (by simp [Value.oneCell'])) ?_
  refine WL.nil ?_
  refine WP.seq ?_
  refine WP.regs ?_
  refine L.fieldAddr (o' := 1) T41.f1 rfl rfl ?_
  refine L.load T3.sc rfl (Rd.own 1 rfl rfl) ?_
  refine L.move rfl ?_
  refine WL.nil ?_
  refine WP.block ?_
  refine WP.loop (X := Nat × (Nat → Value) × Value) (fun x => ⟨46, [], [(2, .pointer (some ⟨b1, 0, none⟩)), (8, .pointer (some ⟨b2, 0, none⟩)), (32, .int .i64 (H : Int)), (33, .int .i64 (x.1 : Int))]⟩) (fun x => [starsP ((List.range x.1).map fun y => vec 5 1 (x.2.1 y) W (List.replicate W (.int .u8 0))), vec 25 1 x.2.2 x.1 ((List.range x.1).map x.2.1), cl b2 [x.2.2] 80, cl b1 [.int .i64 (W : Int), .int .i64 (H : Int), .int .i64 (S : Int)] 41]) (fun x => x.1 ≤ H) (fun x => H - x.1) (0, fun _ => nilS, nilS) (Nat.zero_le _) (Env.Sub.cons rfl rfl (Env.Sub.cons rfl rfl (Env.Sub.cons rfl rfl (Env.Sub.cons rfl rfl Env.Sub.nil)))) ((Ent.nilvec (E := 25) (sz := 1)).trans (Ent.shut (τ := []))) ?_
  rintro ⟨i, r1, sl⟩ hi
  dsimp only at hi ⊢
  refine WP.regs ?_
  refine L.lss rfl rfl ?_
  refine WL.nil ?_
  refine WP.seq ?_
  refine WP.condD rfl (fun h34 => ?_) (fun h34 => ?_)
  · -- then
    refine WP.skip ?_
    refine X.thenN ?_
    refine WP.seq ?_
    refine WP.block ?_
    refine WP.rege [(0, true), (1, true), (2, true), (3, true), (4, false), (5, false), (6, false), (7, false), (8, false)] 6 rfl (by kernel_rfl) (PInv.block (PInv.then (PInv.then (PInv.block (PInv.then PInv.ret))))) rfl ?_
    refine WE.take rfl (V.fieldAddr (o' := 0) T80.f0 rfl rfl) ?_
    refine WE.take rfl (V.load T78.sc rfl (Rd.own 2 rfl rfl)) ?_
    refine WE.take rfl (V.fieldAddr (o' := 0) T41.f0 rfl rfl) ?_
    refine WE.take rfl (V.load T3.sc rfl (Rd.own 3 rfl rfl)) ?_
    refine WE.one rfl ?_
    refine L.make T25.sl T5.z rfl rfl (by omega) ?_; intro b3
    refine WL.nil ⟨Ent.left [_] _, ?_⟩
    refine WE.one rfl ?_
    refine L.slice1 T78.sl T25.z rfl rfl rfl rfl rfl rfl ?_; intro b4
    refine WL.nil ⟨Ent.left [_, _] _, ?_⟩
    refine WE.last rfl ?_
    refine L.append (i := 3) (news := [.slice (some ⟨b3, 0, none⟩) W W]) T78.sl T25.z rfl rfl rfl rfl rfl rfl (fun _ _ _ e => by cases e; exact ⟨rfl, Rds.all 0 rfl⟩) (fun e => by cases e) (fun u hu => by rw [List.mem_singleton.1 hu]; rfl) (by omega) ?_; intro v1
    refine WL.fact (φ := v1.oneCell' = true) (fun _ _ _ s => s.vec_one 0 rfl) fun hv1 => ?_
    refine WL.nil ?_
    refine WE.more rfl ?_
    refine L.fieldAddr (o' := 0) T80.f0 rfl rfl ?_
    refine WL.nil ?_
    refine WE.more rfl ?_
    refine L.store T78.sc rfl rfl hv1 (Wr.at 4 rfl rfl) ?_
    refine WL.nil ?_
    refine WE.nil ?_
    refine X.blockN ?_
    refine X.thenN ?_
    refine WP.region ?_
    refine L.add' rfl rfl (by omega) ?_
    refine L.move rfl ?_
    refine WL.nil ?_
    refine X.thenN ⟨(i + 1, setRow r1 i (.slice (some ⟨b3, 0, none⟩) W W), v1), by dsimp only; omega, by dsimp only; omega, (Env.Sub.cons rfl rfl (Env.Sub.cons rfl rfl (Env.Sub.cons rfl rfl (Env.Sub.cons rfl rfl Env.Sub.nil)))), (Ent.drop 1).trans ((Ent.at 1 rfl (Ent.vec_made (n := W) (by simp))).trans ((Ent.cons Ent.snoc).trans ((Ent.perm (List.Perm.swap _ _ _)).trans (Ent.of_eq (by simp only [Int.toNat_natCast, rows_succ (fun v y => vec 5 1 v W (List.replicate W (.int .u8 0))), map_succ, List.set_cons_succ, List.set_cons_zero]; rfl)))))⟩
  · -- else
    refine WP.exit ?_
    refine X.thenE (X.thenE (X.blockE ?_))
    refine X.thenN ?_
    refine WP.regs ?_
    obtain rfl : i = H := by omega
    refine L.loadN T80.ag rfl rfl (Rds.all 2 rfl) ?_
    refine L.mkIface T80.u rfl rfl ?_
    refine L.assign rfl ?_
    refine WL.nil ?_
    refine WP.ret ?_
    refine X.ret rfl (Res.one rfl rfl) ?_
    refine ⟨_, rfl, _, rfl, ((Ent.of_eq (by simp only [lineC_zero])).trans (Ent.pull (σ := [starsP ((List.range i).map fun y => vec 5 1 (r1 y) W (lineC (fun _ _ => 0) W y)), vec 25 1 sl i ((List.range i).map r1), cl b2 [sl] 80, cl b1 [.int .i64 (W : Int), .int .i64 (i : Int), .int .i64 (S : Int)] 41]) 1 rfl)).trans ((Ent.cons Ent.stars).trans (Ent.bytes.trans (Ent.right [_] _)))⟩

set_option maxRecDepth 10000 in
theorem fresh_bits (W H S : Nat) (hW : W ≤ 65536) (hH : H ≤ 65536) : FT Pg 14 [.agg [Value.int .i64 (W : Int), .int .i64 (H : Int), .int .i64 (S : Int)].toArray, .bool true] k h0 [] (Ret fun v τ => τ = [bitsHP W H (fun _ _ => 0) v]) := by
  refine FT.tight ?_
  refine FT.of_wp (n := 46) Try.func14 rfl rfl rfl ?_
  refine WP.regs ?_
  refine L.box rfl rfl ?_; intro b1
  refine L.assign rfl ?_
  refine WL.nil ?_
  refine WP.seq ?_
  refine WP.regs ?_
  refine L.move rfl ?_
  refine WL.nil ?_
  refine WP.condT rfl ?_
  refine WP.regs ?_
  refine L.build (cs := [_]) T72.b T72.z rfl rfl ?_
  refine L.alloc T72.z ?_; intro b2
  refine L.storeN T72.ag rfl rfl rfl (Wrs.all 0 rfl rfl (by simp [Value.oneCell'])) ?_
  refine WL.nil ?_
  refine WP.seq ?_
  refine WP.regs ?_
  refine L.fieldAddr (o' := 1) T41.f1 rfl rfl ?_
  refine L.load T3.sc rfl (Rd.own 1 rfl rfl) ?_
  refine L.move rfl ?_
  refine WL.nil ?_
  refine WP.block ?_
  refine WP.loop (X := Nat × (Nat → Value) × Value) (fun x => ⟨46, [], [(2, .pointer (some ⟨b1, 0, none⟩)), (5, .pointer (some ⟨b2, 0, none⟩)), (12, .int .i64 (H : Int)), (13, .int .i64 (x.1 : Int))]⟩) (fun x => [starsP ((List.range x.1).map fun y => vec 88 1 (x.2.1 y) ((W + 63) / 64) (List.replicate ((W + 63) / 64) (.int .u64 0))), vec 75 2 x.2.2 x.1 (rowC W x.2.1 x.1), cl b2 [x.2.2] 72, cl b1 [.int .i64 (W : Int), .int .i64 (H : Int), .int .i64 (S : Int)] 41]) (fun x => x.1 ≤ H) (fun x => H - x.1) (0, fun _ => nilS, nilS) (Nat.zero_le _) (Env.Sub.cons rfl rfl (Env.Sub.cons rfl rfl (Env.Sub.cons rfl rfl (Env.Sub.cons rfl rfl Env.Sub.nil)))) ((Ent.nilvec (E := 75) (sz := 2)).trans (Ent.shut (τ := []))) ?_
  rintro ⟨i, r1, sl⟩ hi
  dsimp only at hi ⊢
  refine WP.regs ?_
  refine L.lss rfl rfl ?_
  refine WL.nil ?_
  refine WP.seq ?_
  refine WP.condD rfl (fun h14 => ?_) (fun h14 => ?_)
  · -- then
    refine WP.skip ?_
    refine X.thenN ?_
    refine WP.seq ?_
    refine WP.block ?_
    refine WP.regs ?_
    refine L.fieldAddr (o' := 0) T41.f0 rfl rfl ?_
    refine L.load T3.sc rfl (Rd.own 3 rfl rfl) ?_
    refine WL.call rfl rfl F27.fn rfl (FT.make fun g gS dj => words_New W hW) ?_; rintro _ _ ⟨_, ⟨bw, rfl, rfl⟩, rfl⟩
    refine L.move rfl ?_
    refine L.extract rfl rfl ?_
    refine L.extract rfl rfl ?_
    refine L.alloc T75.z ?_; intro b3
    refine L.storeN T75.ag rfl rfl rfl (Wrs.all 0 rfl rfl (by simp [Value.oneCell'])) ?_
    refine L.assign rfl ?_
    refine WL.nil ?_
    refine WP.region ?_
    refine L.fieldAddr (o' := 0) T72.f0 rfl rfl ?_
    refine L.load T70.sc rfl (Rd.own 4 rfl rfl) ?_
    refine L.loadN T75.ag rfl rfl (Rds.all 0 rfl) ?_
    refine L.slice1 T70.sl T75.z rfl rfl rfl rfl rfl rfl ?_; intro b4
    refine L.append (i := 4) (news := [.int .i64 (W : Int), .slice (some ⟨bw, 0, none⟩) ((W + 63) / 64) ((W + 63) / 64)]) T70.sl T75.z rfl rfl rfl rfl rfl rfl (fun _ _ _ e => by cases e; exact ⟨rfl, Rds.all 0 rfl⟩) (fun e => by cases e) (by simp [Value.oneCell']) (by omega) ?_; intro v1
    refine WL.fact (φ := v1.oneCell' = true) (fun _ _ _ s => s.vec_one 0 rfl) fun hv1 => ?_
    refine L.fieldAddr (o' := 0) T72.f0 rfl rfl ?_
    refine L.store T70.sc rfl rfl hv1 (Wr.at 5 rfl rfl) ?_
    refine WL.nil ?_
    refine X.blockN ?_
    refine X.thenN ?_
    refine WP.region ?_
    refine L.add' rfl rfl (by omega) ?_
    refine L.move rfl ?_
    refine WL.nil ?_
    refine X.thenN ⟨(i + 1, setRow r1 i (.slice (some ⟨bw, 0, none⟩) ((W + 63) / 64) ((W + 63) / 64)), v1), by dsimp only; omega, by dsimp only; omega, (Env.Sub.cons rfl rfl (Env.Sub.cons rfl rfl (Env.Sub.cons rfl rfl (Env.Sub.cons rfl rfl Env.Sub.nil)))), (Ent.drop 1).trans ((Ent.drop 1).trans ((Ent.cons Ent.snoc).trans ((Ent.perm (List.Perm.swap _ _ _)).trans (Ent.of_eq (by simp only [rows_succ (fun v y => vec 88 1 v ((W + 63) / 64) (List.replicate ((W + 63) / 64) (.int .u64 0))), rowC_succ, List.set_cons_succ, List.set_cons_zero]; rfl)))))⟩
  · -- else
    refine WP.exit ?_
    refine X.thenE (X.thenE (X.blockE ?_))
    refine X.thenN ?_
    refine WP.regs ?_
    obtain rfl : i = H := by omega
    refine L.loadN T72.ag rfl rfl (Rds.all 2 rfl) ?_
    refine L.mkIface T72.u rfl rfl ?_
    refine L.assign rfl ?_
    refine WL.nil ?_
    refine WP.ret ?_
    refine X.thenR ?_
    refine X.ret rfl (Res.one rfl rfl) ?_
    refine ⟨_, rfl, _, rfl, ((Ent.of_eq (by simp only [wordC_zero])).trans (Ent.pull (σ := [starsP ((List.range i).map fun y => vec 88 1 (r1 y) ((W + 63) / 64) (wordC (fun _ _ => 0) W y)), vec 75 2 sl i (rowC W r1 i), cl b2 [sl] 72, cl b1 [.int .i64 (W : Int), .int .i64 (i : Int), .int .i64 (S : Int)] 41]) 1 rfl)).trans ((Ent.cons Ent.stars).trans ((Ent.bits (fun _ _ => Nat.zero_le _)).trans (Ent.right [_] _)))⟩

end

end Go.Eng
