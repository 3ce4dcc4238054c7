/- Walks of the seat's functions over those rules, and plain laws of what they compute. No conditions beyond those in each theorem. -/
import Derived.Test.YtfnjffmibiklfaaTB17
namespace Go.Eng
open Go.RowKit Go.Proofs
set_option linter.unusedSimpArgs false
set_option linter.unusedVariables false

theorem par (A : Int) (h : 0 ≤ A) : ∃ q : Nat, q < 2 ∧ bits .and .i64 A 1 = (q : Int) ∧ (A % 2).toNat = q := by
  obtain ⟨m, rfl⟩ := Int.eq_ofNat_of_zero_le h
  exact ⟨m % 2, by omega, and_one m, by omega⟩
theorem foldl_take_succ {α β : Type} {f : β → α → β} {z : β} {L : List α} {m : Nat} {b : α} (h : L[m]? = some b) : (L.take (m + 1)).foldl f z = f ((L.take m).foldl f z) b := by
  obtain ⟨h1, h2⟩ := List.getElem?_eq_some_iff.1 h
  rw [List.take_succ_eq_append_getElem h1, List.foldl_append, h2]; rfl
theorem blk_extract {bl : List (Nat × Nat)} (h : bl.length = 4) {r : Nat} (hr : r < 4) : (flatB [bl]).toArray.extract (r * 2) (r * 2 + 2) = [Value.int .i64 ((ppB bl r).1 : Int), .int .i64 ((ppB bl r).2 : Int)].toArray := by
  obtain ⟨p0, p1, p2, p3, rfl⟩ := blk_four h
  rcases (show r = 0 ∨ r = 1 ∨ r = 2 ∨ r = 3 by omega) with rfl | rfl | rfl | rfl <;> simp [flatB, ppB]
theorem flat_one {bl : List (Nat × Nat)} (h : bl.length = 4) : (flatB [bl]).length = 8 := flatB_len [bl] (by simp [h])
theorem flat_cell {bl : List (Nat × Nat)} : ∀ u ∈ flatB [bl], u.oneCell' = true := fun u hu => by
  simp only [flatB, List.flatMap_cons, List.flatMap_nil, List.append_nil, List.mem_flatMap] at hu
  obtain ⟨p, _, hp⟩ := hu
  simp only [List.mem_cons, List.not_mem_nil, or_false] at hp
  rcases hp with rfl | rfl <;> rfl
section
variable {k : World} {h0 : Hp}

set_option maxRecDepth 10000 in
theorem block_Run_fwd_bits (bs : List Int) (hbs : Blk bs) (t : Topo) (hg : t.Even) {b : Nat} {W H : Nat} {F : Nat → Nat → Nat} (hWw : (W : Int) = t.w) (hHh : (H : Int) = t.h) (gen n : Int) (hgen : 0 ≤ gen ∧ gen ≤ 1125899906842624) (hsp : 0 ≤ gen + n ∧ gen + n ≤ 1125899906842624) (hturn : n < 0 → seenTo bs 16 = onceTo 16) (hwork : n ≤ 67108864 / (t.w * t.h) ∧ -n ≤ 67108864 / (t.w * t.h)) (hn : 0 ≤ n) (hin : In (fieldHP b true W H 2 F) h0) : FT Pg 8 [.agg (u8C bs).toArray, .agg (topoC t).toArray, .pointer (some ⟨b, 0, none⟩), .int .i64 gen, .int .i64 n] k h0 [] (Ret fun v τ => ∃ c : Nat, v = .tuple #[.pointer (some ⟨c, 0, none⟩), .int .i64 0] ∧ τ = [fieldHP c true W H 2 (seqF bs t (fun i => gen + (i : Int)) F n.toNat)]) := by
  have hk := hg.kind; have hk2 := hg.kind2; have hw := hg.w; have hh := hg.h; have hw0 := hg.w0; have hh0 := hg.h0; have hwe := hg.we; have hhe := hg.he; have hse := hg.se; have hwi := hg.wide; have hhi := hg.high; have hno := hg.none; have htn := hg.turn; have hfl := hg.flat
  refine FT.tight ?_
  refine FT.of_wp (n := 109) Try.func8 rfl rfl rfl ?_
  refine WP.regs ?_
  refine L.box rfl rfl ?_; intro b1
  refine L.box rfl rfl ?_; intro b2
  refine L.assign rfl ?_
  refine L.assign rfl ?_
  refine WL.nil ?_
  refine WP.seq ?_
  refine WP.regs ?_
  refine L.loadN T22.ag rfl (by simp [hbs.len]) (Rds.all 1 rfl) ?_
  refine L.loadN T24.ag rfl rfl (Rds.all 0 rfl) ?_
  refine L.move rfl ?_
  refine L.move rfl ?_
  refine L.move rfl ?_
  refine WL.callV rfl rfl F18.fn rfl (fun g gS dj => block_asked_bits bs hbs t hg hWw hHh gen n hgen hsp hturn hwork (hin.mono (Hp.le_un_left _ _))) ?_   -- vivarium/block.asked slot 30
  refine L.assign rfl ?_
  refine WL.nil ?_
  refine WP.regs ?_
  refine L.move rfl ?_
  refine L.neq rfl rfl ?_
  refine WL.nil ?_
  refine WP.condD rfl (fun hT => absurd hT (by omega)) (fun h32 => ?_)
  refine WP.skip ?_
  refine X.thenN ?_
  refine WP.regs ?_
  refine L.move rfl ?_
  refine WL.call rfl rfl F19.fn rfl (FT.make fun g gS dj => field_Clone_bits (hin.mono (Hp.le_un_left _ _))) ?_; rintro _ _ ⟨_, ⟨c, rfl, rfl⟩, rfl⟩
  refine L.assign rfl ?_
  refine WL.nil ?_
  refine WP.cut (X := (Nat → Option Addr) × (Nat → Nat) × Nat) (fun x => ⟨109, [], [(3, .int .i64 gen), (4, .int .i64 n), (5, .pointer (some ⟨b1, 0, none⟩)), (13, .pointer (some ⟨c, 0, none⟩)), (14, .pointer (some ⟨x.2.2, 0, none⟩))]⟩) (fun x => [fieldHP c true W H 2 (F), cl x.2.2 [.slice (x.1 0) (blocksL t 0).length (x.2.1 0), .slice (x.1 1) (blocksL t 1).length (x.2.1 1)] 55, vec 59 8 (.slice (x.1 1) (blocksL t 1).length (x.2.1 1)) (blocksL t 1).length (flatB (blocksL t 1)), vec 59 8 (.slice (x.1 0) (blocksL t 0).length (x.2.1 0)) (blocksL t 0).length (flatB (blocksL t 0)), cl b2 (topoC t) 24, cl b1 (u8C bs) 22]) (fun x => ∀ q, q < 2 → 0 < (blocksL t q).length → ∃ b, x.1 q = some ⟨b, 0, none⟩) ?_ ?_
  · -- the region
    refine WP.regf [(0, true), (2, true)] 6 5 #[true, false, true, false, false, false, false] rfl (by kernel_rfl) (PInv.then PInv.ret) rfl ?_
    refine WE.take rfl (V.loadN T24.ag rfl rfl (Rds.all 1 rfl)) ?_
    refine WE.take rfl (V.loadN T24.ag rfl rfl (Rds.all 1 rfl)) ?_
    refine WE.free _ ?_
    refine WT.both 1 5 (by kernel_rfl) rfl rfl ?_ ?_
    · -- 1
      refine WL.call rfl rfl F20.fn rfl (FT.make fun g gS dj => block_blocks t hg 0 (by omega)) ?_; rintro v0 _ ⟨_, rfl, rfl⟩
      refine WL.nil ⟨fun _ => Ent.left [_] _, ?_⟩
      refine WT.both 3 5 (by kernel_rfl) rfl rfl ?_ ?_
      · -- 3
        refine WL.call rfl rfl F20.fn rfl (FT.make fun g gS dj => block_blocks t hg 1 (by omega)) ?_; rintro v1 _ ⟨_, rfl, rfl⟩
        refine WL.nil ⟨fun _ => Ent.left [_, _] _, ?_⟩
        refine WT.both 4 5 (by kernel_rfl) rfl rfl ?_ ?_
        · -- 4
          refine WL.fact (φ := ∃ a c, v0 = .slice a (blocksL t 0).length c ∧ (0 < (blocksL t 0).length → ∃ b, a = some ⟨b, 0, none⟩)) (fun _ _ _ s => by obtain ⟨_, a, c, e, _, hb⟩ := s.vec_shape 1 rfl; exact ⟨a, c, e, hb⟩) fun ⟨a0, c0, e0, hb0⟩ => ?_
          subst e0
          refine WL.fact (φ := ∃ a c, v1 = .slice a (blocksL t 1).length c ∧ (0 < (blocksL t 1).length → ∃ b, a = some ⟨b, 0, none⟩)) (fun _ _ _ s => by obtain ⟨_, a, c, e, _, hb⟩ := s.vec_shape 0 rfl; exact ⟨a, c, e, hb⟩) fun ⟨a1, c1, e1, hb1⟩ => ?_
          subst e1
          refine L.buildA (cs := [_, _]) T55.ar T55.z rfl rfl ?_
          refine WL.nil ⟨fun _ => Ent.left [_, _] _, ?_⟩
          refine WT.one 5 (by kernel_rfl) rfl ?_
          refine L.alloc T55.z ?_; intro b3
          refine WL.nil ⟨fun _ => Ent.left [_, _, _] _, ?_⟩
          refine WT.one 6 (by kernel_rfl) rfl ?_
          refine L.storeN T55.ag rfl rfl rfl (Wrs.all 0 rfl rfl (by simp [Value.oneCell'])) ?_
          refine WL.nil ⟨fun e => absurd e (by decide), ?_⟩
          refine WT.nil (by kernel_rfl) ?_
          refine ⟨(fun q => if q = 0 then a0 else a1, fun q => if q = 0 then c0 else c1, b3), fun q hq => ?_, Env.Sub.cons rfl rfl (Env.Sub.cons rfl rfl (Env.Sub.cons rfl rfl (Env.Sub.cons rfl rfl (Env.Sub.cons rfl rfl Env.Sub.nil)))), ((Ent.pull 2 rfl).trans ((Ent.pull 2 rfl).trans ((Ent.pull 2 rfl).trans (Ent.pull 3 rfl))))⟩
          rcases (show q = 0 ∨ q = 1 by omega) with rfl | rfl
          · exact hb0
          · exact hb1
        · -- 5
          refine L.alloc T55.z ?_; intro b3
          refine WL.nil ⟨fun _ => Ent.left [_, _, _] _, ?_⟩
          refine WT.one 4 (by kernel_rfl) rfl ?_
          refine WL.fact (φ := ∃ a c, v0 = .slice a (blocksL t 0).length c ∧ (0 < (blocksL t 0).length → ∃ b, a = some ⟨b, 0, none⟩)) (fun _ _ _ s => by obtain ⟨_, a, c, e, _, hb⟩ := s.vec_shape 2 rfl; exact ⟨a, c, e, hb⟩) fun ⟨a0, c0, e0, hb0⟩ => ?_
          subst e0
          refine WL.fact (φ := ∃ a c, v1 = .slice a (blocksL t 1).length c ∧ (0 < (blocksL t 1).length → ∃ b, a = some ⟨b, 0, none⟩)) (fun _ _ _ s => by obtain ⟨_, a, c, e, _, hb⟩ := s.vec_shape 1 rfl; exact ⟨a, c, e, hb⟩) fun ⟨a1, c1, e1, hb1⟩ => ?_
          subst e1
          refine L.buildA (cs := [_, _]) T55.ar T55.z rfl rfl ?_
          refine WL.nil ⟨fun _ => Ent.left [_, _, _] _, ?_⟩
          refine WT.one 6 (by kernel_rfl) rfl ?_
          refine L.storeN T55.ag rfl rfl rfl (Wrs.all 0 rfl rfl (by simp [Value.oneCell'])) ?_
          refine WL.nil ⟨fun e => absurd e (by decide), ?_⟩
          refine WT.nil (by kernel_rfl) ?_
          refine ⟨(fun q => if q = 0 then a0 else a1, fun q => if q = 0 then c0 else c1, b3), fun q hq => ?_, Env.Sub.cons rfl rfl (Env.Sub.cons rfl rfl (Env.Sub.cons rfl rfl (Env.Sub.cons rfl rfl (Env.Sub.cons rfl rfl Env.Sub.nil)))), ((Ent.pull 2 rfl).trans ((Ent.pull 2 rfl).trans ((Ent.pull 2 rfl).trans (Ent.pull 3 rfl))))⟩
          rcases (show q = 0 ∨ q = 1 by omega) with rfl | rfl
          · exact hb0
          · exact hb1
      · -- 5
        refine L.alloc T55.z ?_; intro b3
        refine WL.nil ⟨fun _ => Ent.left [_, _] _, ?_⟩
        refine WT.one 3 (by kernel_rfl) rfl ?_
        refine WL.call rfl rfl F20.fn rfl (FT.make fun g gS dj => block_blocks t hg 1 (by omega)) ?_; rintro v1 _ ⟨_, rfl, rfl⟩
        refine WL.nil ⟨fun _ => Ent.left [_, _, _] _, ?_⟩
        refine WT.one 4 (by kernel_rfl) rfl ?_
        refine WL.fact (φ := ∃ a c, v0 = .slice a (blocksL t 0).length c ∧ (0 < (blocksL t 0).length → ∃ b, a = some ⟨b, 0, none⟩)) (fun _ _ _ s => by obtain ⟨_, a, c, e, _, hb⟩ := s.vec_shape 2 rfl; exact ⟨a, c, e, hb⟩) fun ⟨a0, c0, e0, hb0⟩ => ?_
        subst e0
        refine WL.fact (φ := ∃ a c, v1 = .slice a (blocksL t 1).length c ∧ (0 < (blocksL t 1).length → ∃ b, a = some ⟨b, 0, none⟩)) (fun _ _ _ s => by obtain ⟨_, a, c, e, _, hb⟩ := s.vec_shape 0 rfl; exact ⟨a, c, e, hb⟩) fun ⟨a1, c1, e1, hb1⟩ => ?_
        subst e1
        refine L.buildA (cs := [_, _]) T55.ar T55.z rfl rfl ?_
        refine WL.nil ⟨fun _ => Ent.left [_, _, _] _, ?_⟩
        refine WT.one 6 (by kernel_rfl) rfl ?_
        refine L.storeN T55.ag rfl rfl rfl (Wrs.all 1 rfl rfl (by simp [Value.oneCell'])) ?_
        refine WL.nil ⟨fun e => absurd e (by decide), ?_⟩
        refine WT.nil (by kernel_rfl) ?_
        refine ⟨(fun q => if q = 0 then a0 else a1, fun q => if q = 0 then c0 else c1, b3), fun q hq => ?_, Env.Sub.cons rfl rfl (Env.Sub.cons rfl rfl (Env.Sub.cons rfl rfl (Env.Sub.cons rfl rfl (Env.Sub.cons rfl rfl Env.Sub.nil)))), ((Ent.pull 2 rfl).trans ((Ent.pull 1 rfl).trans ((Ent.pull 2 rfl).trans (Ent.pull 3 rfl))))⟩
        rcases (show q = 0 ∨ q = 1 by omega) with rfl | rfl
        · exact hb0
        · exact hb1
    · -- 5
      refine L.alloc T55.z ?_; intro b3
      refine WL.nil ⟨fun _ => Ent.left [_] _, ?_⟩
      refine WT.one 1 (by kernel_rfl) rfl ?_
      refine WL.call rfl rfl F20.fn rfl (FT.make fun g gS dj => block_blocks t hg 0 (by omega)) ?_; rintro v0 _ ⟨_, rfl, rfl⟩
      refine WL.nil ⟨fun _ => Ent.left [_, _] _, ?_⟩
      refine WT.one 3 (by kernel_rfl) rfl ?_
      refine WL.call rfl rfl F20.fn rfl (FT.make fun g gS dj => block_blocks t hg 1 (by omega)) ?_; rintro v1 _ ⟨_, rfl, rfl⟩
      refine WL.nil ⟨fun _ => Ent.left [_, _, _] _, ?_⟩
      refine WT.one 4 (by kernel_rfl) rfl ?_
      refine WL.fact (φ := ∃ a c, v0 = .slice a (blocksL t 0).length c ∧ (0 < (blocksL t 0).length → ∃ b, a = some ⟨b, 0, none⟩)) (fun _ _ _ s => by obtain ⟨_, a, c, e, _, hb⟩ := s.vec_shape 1 rfl; exact ⟨a, c, e, hb⟩) fun ⟨a0, c0, e0, hb0⟩ => ?_
      subst e0
      refine WL.fact (φ := ∃ a c, v1 = .slice a (blocksL t 1).length c ∧ (0 < (blocksL t 1).length → ∃ b, a = some ⟨b, 0, none⟩)) (fun _ _ _ s => by obtain ⟨_, a, c, e, _, hb⟩ := s.vec_shape 0 rfl; exact ⟨a, c, e, hb⟩) fun ⟨a1, c1, e1, hb1⟩ => ?_
      subst e1
      refine L.buildA (cs := [_, _]) T55.ar T55.z rfl rfl ?_
      refine WL.nil ⟨fun _ => Ent.left [_, _, _] _, ?_⟩
      refine WT.one 6 (by kernel_rfl) rfl ?_
      refine L.storeN T55.ag rfl rfl rfl (Wrs.all 2 rfl rfl (by simp [Value.oneCell'])) ?_
      refine WL.nil ⟨fun e => absurd e (by decide), ?_⟩
      refine WT.nil (by kernel_rfl) ?_
      refine ⟨(fun q => if q = 0 then a0 else a1, fun q => if q = 0 then c0 else c1, b3), fun q hq => ?_, Env.Sub.cons rfl rfl (Env.Sub.cons rfl rfl (Env.Sub.cons rfl rfl (Env.Sub.cons rfl rfl (Env.Sub.cons rfl rfl Env.Sub.nil)))), ((Ent.pull 1 rfl).trans ((Ent.pull 1 rfl).trans ((Ent.pull 2 rfl).trans (Ent.pull 3 rfl))))⟩
      rcases (show q = 0 ∨ q = 1 by omega) with rfl | rfl
      · exact hb0
      · exact hb1
  · -- behind it
    rintro ⟨a, cc, b3⟩ hnn
    dsimp only at hnn ⊢
    refine WP.seq ?_
    refine WP.regs ?_
    refine L.move rfl ?_
    refine L.lss rfl rfl ?_
    refine WL.nil ?_
    refine WP.condD rfl (fun hT => absurd hT (by omega)) (fun h42 => ?_)
    refine WP.skip ?_
    refine X.thenN ?_
    refine WP.seq ?_
    refine WP.block ?_
    refine WP.loop (X := Nat) (fun i => ⟨109, [], [(3, .int .i64 (gen + (i : Int))), (4, .int .i64 (n - (i : Int))), (5, .pointer (some ⟨b1, 0, none⟩)), (13, .pointer (some ⟨c, 0, none⟩)), (14, .pointer (some ⟨b3, 0, none⟩))]⟩) (fun i => [fieldHP c true W H 2 (seqF bs t (fun i => gen + (i : Int)) F i), cl b3 [.slice (a 0) (blocksL t 0).length (cc 0), .slice (a 1) (blocksL t 1).length (cc 1)] 55, vec 59 8 (.slice (a 1) (blocksL t 1).length (cc 1)) (blocksL t 1).length (flatB (blocksL t 1)), vec 59 8 (.slice (a 0) (blocksL t 0).length (cc 0)) (blocksL t 0).length (flatB (blocksL t 0)), cl b2 (topoC t) 24, cl b1 (u8C bs) 22]) (fun i => (i : Int) ≤ n) (fun i => n.toNat - i) 0 (by omega) (Env.Sub.cons rfl (congrArg (Value.int .i64) (by omega)) (Env.Sub.cons rfl (congrArg (Value.int .i64) (by omega)) (Env.Sub.cons rfl rfl (Env.Sub.cons rfl rfl (Env.Sub.cons rfl rfl Env.Sub.nil))))) (Ent.refl _) ?_
    intro i hi
    refine WP.seq ?_
    refine WP.regs ?_
    refine L.move rfl ?_
    refine L.neq rfl rfl ?_
    refine WL.nil ?_
    refine WP.condD rfl (fun h46 => ?_) (fun h46 => ?_)
    · -- then
      refine WP.skip ?_
      refine X.thenN ?_
      refine WP.block ?_
      refine WP.regs ?_
      refine L.move rfl ?_
      refine L.assign rfl ?_
      refine WL.nil ?_
      refine WP.seq ?_
      refine WP.regs ?_
      refine L.move rfl ?_
      refine L.gtr rfl rfl ?_
      refine WL.nil ?_
      refine WP.condD rfl (fun h49 => ?_) (fun hF => absurd hF (by omega))
      refine WP.region ?_
      refine L.move rfl ?_
      refine L.add' rfl rfl (by omega) ?_
      refine L.move rfl ?_
      refine L.sub' rfl rfl (by omega) ?_
      refine L.assign rfl ?_
      refine L.assign rfl ?_
      refine WL.nil ?_
      refine X.thenN ?_
      refine WP.regs ?_
      refine L.move rfl ?_
      refine L.and rfl rfl ?_
      obtain ⟨q, hq, hqa, hqb⟩ := par (gen + (i : Int)) (by omega)
      rw [hqa]
      refine L.indexA T55.ar rfl rfl (by omega) ?_
      refine L.load T53.sc rfl (v := .slice (a q) (blocksL t q).length (cc q)) (Rd.own 1 rfl (by rw [Nat.zero_add, Nat.mul_one, Int.toNat_natCast]; rcases (show q = 0 ∨ q = 1 by omega) with rfl | rfl <;> rfl)) ?_
      refine L.lenS T53.sl rfl rfl ?_
      refine L.move rfl ?_
      refine WL.nil ?_
      refine WP.block ?_
      refine WP.loop (X := Nat) (fun m => ⟨109, [], [(3, .int .i64 (gen + ((i + 1 : Nat) : Int))), (4, .int .i64 (n - ((i + 1 : Nat) : Int))), (5, .pointer (some ⟨b1, 0, none⟩)), (13, .pointer (some ⟨c, 0, none⟩)), (14, .pointer (some ⟨b3, 0, none⟩)), (62, .slice (a q) (blocksL t q).length (cc q)), (63, .int .i64 ((blocksL t q).length : Int)), (64, .int .i64 (m : Int))]⟩) (fun m => [fieldHP c true W H 2 (((blocksL t q).take m).foldl (applyB bs) (seqF bs t (fun i => gen + (i : Int)) F i)), cl b3 [.slice (a 0) (blocksL t 0).length (cc 0), .slice (a 1) (blocksL t 1).length (cc 1)] 55, vec 59 8 (.slice (a 1) (blocksL t 1).length (cc 1)) (blocksL t 1).length (flatB (blocksL t 1)), vec 59 8 (.slice (a 0) (blocksL t 0).length (cc 0)) (blocksL t 0).length (flatB (blocksL t 0)), cl b2 (topoC t) 24, cl b1 (u8C bs) 22]) (fun m => m ≤ (blocksL t q).length) (fun m => (blocksL t q).length - m) 0 (Nat.zero_le _) (Env.Sub.cons rfl (congrArg (Value.int .i64) (by omega)) (Env.Sub.cons rfl (congrArg (Value.int .i64) (by omega)) (Env.Sub.cons rfl rfl (Env.Sub.cons rfl rfl (Env.Sub.cons rfl rfl (Env.Sub.cons rfl rfl (Env.Sub.cons rfl rfl (Env.Sub.cons rfl rfl Env.Sub.nil)))))))) (Ent.refl _) ?_
      intro m hm
      refine WP.regs ?_
      refine L.lss rfl rfl ?_
      refine WL.nil ?_
      refine WP.seq ?_
      refine WP.condD rfl (fun h65 => ?_) (fun h65 => ?_)
      · -- then
        obtain ⟨bl, hbl⟩ : ∃ bl, (blocksL t q)[m]? = some bl := ⟨_, List.getElem?_eq_getElem (by omega)⟩
        have hin4 := blocksL_in t hg.toGood hWw hHh q (List.mem_of_getElem? hbl)
        have hall := fun b hb => (blocksL_in t hg.toGood hWw hHh q (b := b) hb).1
        obtain ⟨bq, hbq⟩ := hnn q hq (by omega)
        generalize hFm : ((blocksL t q).take m).foldl (applyB bs) (seqF bs t (fun i => gen + (i : Int)) F i) = Fm
        refine WP.fact (φ := FOk true W H 2 Fm) (fun _ _ _ s => by obtain ⟨g, i⟩ := s.inn 0 rfl; exact (In.field i).1) fun hFo => ?_
        have hv16 : fromN Fm bl 4 < 16 := fromN_lt hFo.F 4
        refine WP.skip ?_
        refine X.thenN ?_
        refine WP.seq ?_
        refine WP.block ?_
        refine WP.regs ?_
        refine L.indexS T53.sl (by show some (Value.slice (a q) _ _) = _; rw [hbq]) rfl (by omega) ?_
        refine L.loadN T59.ag rfl (flat_one hin4.1) (vs := flatB [bl]) (Rds.vec (E := 59) (sz := 8) (n := (blocksL t q).length) (cap := cc q) (cs := flatB (blocksL t q)) (3 - q) (by rw [← hbq]; rcases (show q = 0 ∨ q = 1 by omega) with rfl | rfl <;> rfl) (fun j v hj => by rw [Nat.zero_add, Int.toNat_natCast]; exact flatB_at hall hbl j v hj)) ?_
        refine L.alloc T59.z ?_; intro b4
        refine L.storeN T59.ag rfl rfl (flat_one hin4.1) (Wrs.all 0 rfl (by rw [flat_one hin4.1]; rfl) flat_cell) ?_
        refine WL.nil ?_
        refine WP.regs ?_
        refine L.assign rfl ?_
        refine WL.nil ?_
        refine WP.seq ?_
        refine WP.regs ?_
        refine L.loadN T59.ag rfl (flat_one hin4.1) (Rds.all 0 rfl) ?_
        refine L.move rfl ?_
        refine WL.nil ?_
        refine WP.block ?_
        refine WP.loop (X := Nat) (fun r => ⟨109, [], [(3, .int .i64 (gen + ((i + 1 : Nat) : Int))), (4, .int .i64 (n - ((i + 1 : Nat) : Int))), (5, .pointer (some ⟨b1, 0, none⟩)), (13, .pointer (some ⟨c, 0, none⟩)), (14, .pointer (some ⟨b3, 0, none⟩)), (62, .slice (a q) (blocksL t q).length (cc q)), (63, .int .i64 ((blocksL t q).length : Int)), (64, .int .i64 (m : Int)), (17, .pointer (some ⟨b4, 0, none⟩)), (18, .int .i64 ((fromN Fm bl r : Nat) : Int)), (68, .agg (flatB [bl]).toArray), (69, .int .i64 (r : Int))]⟩) (fun r => [cl b4 (flatB [bl]) 59, fieldHP c true W H 2 (Fm), cl b3 [.slice (a 0) (blocksL t 0).length (cc 0), .slice (a 1) (blocksL t 1).length (cc 1)] 55, vec 59 8 (.slice (a 1) (blocksL t 1).length (cc 1)) (blocksL t 1).length (flatB (blocksL t 1)), vec 59 8 (.slice (a 0) (blocksL t 0).length (cc 0)) (blocksL t 0).length (flatB (blocksL t 0)), cl b2 (topoC t) 24, cl b1 (u8C bs) 22]) (fun r => r ≤ 4) (fun r => 4 - r) 0 (by omega) (Env.Sub.cons rfl rfl (Env.Sub.cons rfl rfl (Env.Sub.cons rfl rfl (Env.Sub.cons rfl rfl (Env.Sub.cons rfl rfl (Env.Sub.cons rfl rfl (Env.Sub.cons rfl rfl (Env.Sub.cons rfl rfl (Env.Sub.cons rfl rfl (Env.Sub.cons rfl rfl (Env.Sub.cons rfl rfl (Env.Sub.cons rfl rfl Env.Sub.nil)))))))))))) (Ent.refl _) ?_
        intro r hr
        refine WP.regs ?_
        refine L.lss rfl rfl ?_
        refine WL.nil ?_
        refine WP.seq ?_
        refine WP.condD rfl (fun h70 => ?_) (fun h70 => ?_)
        · -- then
          refine WP.skip ?_
          refine X.thenN ?_
          refine WP.seq ?_
          refine WP.block ?_
          refine WP.regs ?_
          refine L.move rfl ?_
          refine L.indexN (vs := [.int .i64 ((ppB bl r).1 : Int), .int .i64 ((ppB bl r).2 : Int)]) T59.ar rfl rfl (by omega) (by rw [Int.toNat_natCast]; exact blk_extract hin4.1 (by omega)) ?_
          refine L.alloc T58.z ?_; intro b5
          refine L.assign rfl ?_
          refine L.storeN T58.ag rfl rfl rfl (Wrs.all 0 rfl rfl (by simp [Value.oneCell'])) ?_
          refine WL.nil ?_
          refine WP.regs ?_
          refine L.move rfl ?_
          refine L.fieldAddr (o' := 0) T58.f0 rfl rfl ?_
          refine L.load T3.sc rfl (Rd.own 0 rfl rfl) ?_
          refine L.fieldAddr (o' := 1) T58.f1 rfl rfl ?_
          refine L.load T3.sc rfl (Rd.own 0 rfl rfl) ?_
          refine WL.callV rfl rfl F22.fn rfl (fun g gS dj => field_Get_bits (ppB bl r).1 (ppB bl r).2 (hin4.2 r).1 (hin4.2 r).2 (In.of_stars' 2 rfl gS dj)) ?_   -- (*vivarium/field.Field).Get slot 79
          refine L.move rfl ?_
          refine L.extract rfl rfl ?_
          refine L.extract rfl rfl ?_
          refine L.assign rfl ?_
          refine L.assign rfl ?_
          refine WL.nil ?_
          refine WP.region ?_
          refine L.move rfl ?_
          refine L.move rfl ?_
          refine L.convInt T5.u T3.u rfl ?_
          refine L.move rfl ?_
          refine L.shl rfl rfl (by omega) ?_
          refine L.or rfl rfl ?_
          refine L.assign rfl ?_
          refine WL.nil ?_
          refine X.blockN ?_
          refine X.thenN ?_
          refine WP.region ?_
          refine L.add' rfl rfl (by omega) ?_
          refine L.move rfl ?_
          refine WL.nil ?_
          refine X.thenN ⟨r + 1, by omega, by omega, (Env.Sub.cons rfl rfl (Env.Sub.cons rfl rfl (Env.Sub.cons rfl rfl (Env.Sub.cons rfl rfl (Env.Sub.cons rfl rfl (Env.Sub.cons rfl rfl (Env.Sub.cons rfl rfl (Env.Sub.cons rfl rfl (Env.Sub.cons rfl rfl (Env.Sub.cons rfl (congrArg (Value.int .i64) (or_step r (by omega) _ (fromN_lt hFo.F r) _ (hFo.F _ _)).symm) (Env.Sub.cons rfl rfl (Env.Sub.cons rfl rfl Env.Sub.nil)))))))))))), Ent.drop 0⟩
        · -- else
          refine WP.exit ?_
          refine X.thenE (X.thenE (X.blockE ?_))
          refine X.thenN ?_
          refine WP.regs ?_
          refine L.loadN T59.ag rfl (flat_one hin4.1) (Rds.all 0 rfl) ?_
          refine L.move rfl ?_
          refine WL.nil ?_
          refine WP.block ?_
          refine WP.loop (X := Nat) (fun r => ⟨109, [], [(3, .int .i64 (gen + ((i + 1 : Nat) : Int))), (4, .int .i64 (n - ((i + 1 : Nat) : Int))), (5, .pointer (some ⟨b1, 0, none⟩)), (13, .pointer (some ⟨c, 0, none⟩)), (14, .pointer (some ⟨b3, 0, none⟩)), (62, .slice (a q) (blocksL t q).length (cc q)), (63, .int .i64 ((blocksL t q).length : Int)), (64, .int .i64 (m : Int)), (17, .pointer (some ⟨b4, 0, none⟩)), (18, .int .i64 ((fromN Fm bl 4 : Nat) : Int)), (89, .agg (flatB [bl]).toArray), (90, .int .i64 (r : Int))]⟩) (fun r => [cl b4 (flatB [bl]) 59, fieldHP c true W H 2 (setTo bs (fromN Fm bl 4) bl Fm r), cl b3 [.slice (a 0) (blocksL t 0).length (cc 0), .slice (a 1) (blocksL t 1).length (cc 1)] 55, vec 59 8 (.slice (a 1) (blocksL t 1).length (cc 1)) (blocksL t 1).length (flatB (blocksL t 1)), vec 59 8 (.slice (a 0) (blocksL t 0).length (cc 0)) (blocksL t 0).length (flatB (blocksL t 0)), cl b2 (topoC t) 24, cl b1 (u8C bs) 22]) (fun r => r ≤ 4) (fun r => 4 - r) 0 (by omega) (Env.Sub.cons rfl rfl (Env.Sub.cons rfl rfl (Env.Sub.cons rfl rfl (Env.Sub.cons rfl rfl (Env.Sub.cons rfl rfl (Env.Sub.cons rfl rfl (Env.Sub.cons rfl rfl (Env.Sub.cons rfl rfl (Env.Sub.cons rfl rfl (Env.Sub.cons rfl (by obtain rfl : r = 4 := (by omega); rfl) (Env.Sub.cons rfl rfl (Env.Sub.cons rfl rfl Env.Sub.nil)))))))))))) (Ent.refl _) ?_
          intro r hr
          refine WP.regs ?_
          refine L.lss rfl rfl ?_
          refine WL.nil ?_
          refine WP.seq ?_
          refine WP.condD rfl (fun h91 => ?_) (fun h91 => ?_)
          · -- then
            refine WP.skip ?_
            refine X.thenN ?_
            refine WP.seq ?_
            refine WP.block ?_
            refine WP.regs ?_
            refine L.move rfl ?_
            refine L.indexN (vs := [.int .i64 ((ppB bl r).1 : Int), .int .i64 ((ppB bl r).2 : Int)]) T59.ar rfl rfl (by omega) (by rw [Int.toNat_natCast]; exact blk_extract hin4.1 (by omega)) ?_
            refine L.alloc T58.z ?_; intro b6
            refine L.assign rfl ?_
            refine L.storeN T58.ag rfl rfl rfl (Wrs.all 0 rfl rfl (by simp [Value.oneCell'])) ?_
            refine WL.nil ?_
            refine WP.rege [(0, true), (1, true), (2, true), (3, true), (4, true), (5, true), (6, true), (7, true), (8, true), (9, true), (10, true), (11, false)] 11 rfl (by kernel_rfl) (PInv.block (PInv.then (PInv.then (PInv.block (PInv.block (PInv.then (PInv.then (PInv.block (PInv.block (PInv.then (PInv.block (PInv.then PInv.ret)))))))))))) rfl ?_
            refine WE.take rfl (V.move rfl) ?_
            refine WE.take rfl (V.fieldAddr (o' := 0) T58.f0 rfl rfl) ?_
            refine WE.take rfl (V.load T3.sc rfl (Rd.own 0 rfl rfl)) ?_
            refine WE.take rfl (V.fieldAddr (o' := 1) T58.f1 rfl rfl) ?_
            refine WE.take rfl (V.load T3.sc rfl (Rd.own 0 rfl rfl)) ?_
            refine WE.take rfl (V.move rfl) ?_
            refine WE.take rfl (V.indexA T22.ar rfl rfl (by omega)) ?_
            refine WE.take rfl (V.load T5.sc rfl (v := .int .u8 ((bs.getD (fromN Fm bl 4) 0).toNat : Nat)) (Rd.own 7 rfl (by rw [Nat.zero_add, Nat.mul_one, Int.toNat_natCast, Int.toNat_of_nonneg (hbs.bd _).1]; exact u8_at (by rw [hbs.len]; omega)))) ?_
            refine WE.take rfl (V.move rfl) ?_
            refine WE.take rfl (V.shr rfl rfl (by omega)) ?_
            refine WE.take rfl (V.and rfl rfl) ?_
            refine WE.last rfl ?_
            rw [show bits .and .u8 ((((bs.getD (fromN Fm bl 4) 0).toNat : Nat) : Int) / 2 ^ min (r : Int).toNat IntKind.u8.bits) 1 = ((newBit bs (fromN Fm bl 4) r : Nat) : Int) from and_step r (by omega) _ (by have := hbs.bd (fromN Fm bl 4); omega)]
            refine WL.call rfl rfl F7.fn rfl (FT.part [fieldHP c true W H 2 (setTo bs (fromN Fm bl 4) bl Fm r)] _ (Ent.pull 2 rfl) fun g gS dj => field_Set_bits (ppB bl r).1 (ppB bl r).2 (newBit bs (fromN Fm bl 4) r) (hin4.2 r).1 (hin4.2 r).2 (Nat.mod_lt _ (by omega))) ?_; rintro _ _ ⟨_, ⟨rfl, rfl⟩, rfl⟩
            refine WL.nil ?_
            refine WE.nil ?_
            refine X.blockN ?_
            refine X.thenN ?_
            refine WP.region ?_
            refine L.add' rfl rfl (by omega) ?_
            refine L.move rfl ?_
            refine WL.nil ?_
            refine X.thenN ⟨r + 1, by omega, by omega, (Env.Sub.cons rfl rfl (Env.Sub.cons rfl rfl (Env.Sub.cons rfl rfl (Env.Sub.cons rfl rfl (Env.Sub.cons rfl rfl (Env.Sub.cons rfl rfl (Env.Sub.cons rfl rfl (Env.Sub.cons rfl rfl (Env.Sub.cons rfl rfl (Env.Sub.cons rfl rfl (Env.Sub.cons rfl rfl (Env.Sub.cons rfl rfl Env.Sub.nil)))))))))))), (Ent.drop 1).trans (Ent.perm (List.Perm.swap _ _ _))⟩
          · -- else
            refine WP.exit ?_
            refine X.thenE (X.thenE (X.blockE ?_))
            refine X.blockN ?_
            refine X.thenN ?_
            refine WP.region ?_
            have hlq : (blocksL t q).length ≤ 32768 * 32768 := Nat.le_trans (allB_len t q _ _) (Nat.mul_le_mul (by omega) (by omega))
            refine L.add' rfl rfl (by omega) ?_
            refine L.move rfl ?_
            refine WL.nil ?_
            refine X.thenN ⟨m + 1, by omega, by omega, (Env.Sub.cons rfl rfl (Env.Sub.cons rfl rfl (Env.Sub.cons rfl rfl (Env.Sub.cons rfl rfl (Env.Sub.cons rfl rfl (Env.Sub.cons rfl rfl (Env.Sub.cons rfl rfl (Env.Sub.cons rfl rfl Env.Sub.nil)))))))), (Ent.drop 0).trans (Ent.of_eq (by rw [foldl_take_succ hbl, hFm]; obtain rfl : r = 4 := (by omega); rfl))⟩
      · -- else
        refine WP.exit ?_
        refine X.thenE (X.thenE (X.blockE ?_))
        refine X.blockN ?_
        refine X.thenN ⟨i + 1, by omega, by omega, (Env.Sub.cons rfl rfl (Env.Sub.cons rfl rfl (Env.Sub.cons rfl rfl (Env.Sub.cons rfl rfl (Env.Sub.cons rfl rfl Env.Sub.nil))))), Ent.of_eq (by have e : m = (blocksL t q).length := (by omega); rw [e, List.take_length, ← hqb]; rfl)⟩
    · -- else
      refine WP.exit ?_
      refine X.thenE (X.thenE (X.blockE ?_))
      refine X.thenN ?_
      refine WP.regs ?_
      refine L.move rfl ?_
      refine L.assign rfl ?_
      refine L.assign rfl ?_
      refine WL.nil ?_
      refine WP.ret ?_
      refine X.ret rfl (Res.two rfl rfl rfl) ?_
      obtain rfl : i = n.toNat := by omega
      exact ⟨_, rfl, _, ⟨c, rfl, rfl⟩, Ent.right [_] _⟩

set_option maxRecDepth 10000 in
theorem block_Run_bwd_bits (bs : List Int) (hbs : Blk bs) (t : Topo) (hg : t.Even) {b : Nat} {W H : Nat} {F : Nat → Nat → Nat} (hWw : (W : Int) = t.w) (hHh : (H : Int) = t.h) (gen n : Int) (hgen : 0 ≤ gen ∧ gen ≤ 1125899906842624) (hsp : 0 ≤ gen + n ∧ gen + n ≤ 1125899906842624) (hturn : n < 0 → seenTo bs 16 = onceTo 16) (hwork : n ≤ 67108864 / (t.w * t.h) ∧ -n ≤ 67108864 / (t.w * t.h)) (hn : n < 0) (hin : In (fieldHP b true W H 2 F) h0) : FT Pg 8 [.agg (u8C bs).toArray, .agg (topoC t).toArray, .pointer (some ⟨b, 0, none⟩), .int .i64 gen, .int .i64 n] k h0 [] (Ret fun v τ => ∃ c : Nat, v = .tuple #[.pointer (some ⟨c, 0, none⟩), .int .i64 0] ∧ τ = [fieldHP c true W H 2 (seqF (backTo bs 16) t (fun i => gen - (i : Int) - 1) F (-n).toNat)]) := by
  have hk := hg.kind; have hk2 := hg.kind2; have hw := hg.w; have hh := hg.h; have hw0 := hg.w0; have hh0 := hg.h0; have hwe := hg.we; have hhe := hg.he; have hse := hg.se; have hwi := hg.wide; have hhi := hg.high; have hno := hg.none; have htn := hg.turn; have hfl := hg.flat
  refine FT.tight ?_
  refine FT.of_wp (n := 109) Try.func8 rfl rfl rfl ?_
  refine WP.regs ?_
  refine L.box rfl rfl ?_; intro b1
  refine L.box rfl rfl ?_; intro b2
  refine L.assign rfl ?_
  refine L.assign rfl ?_
  refine WL.nil ?_
  refine WP.seq ?_
  refine WP.regs ?_
  refine L.loadN T22.ag rfl (by simp [hbs.len]) (Rds.all 1 rfl) ?_
  refine L.loadN T24.ag rfl rfl (Rds.all 0 rfl) ?_
  refine L.move rfl ?_
  refine L.move rfl ?_
  refine L.move rfl ?_
  refine WL.callV rfl rfl F18.fn rfl (fun g gS dj => block_asked_bits bs hbs t hg hWw hHh gen n hgen hsp hturn hwork (hin.mono (Hp.le_un_left _ _))) ?_   -- vivarium/block.asked slot 30
  refine L.assign rfl ?_
  refine WL.nil ?_
  refine WP.regs ?_
  refine L.move rfl ?_
  refine L.neq rfl rfl ?_
  refine WL.nil ?_
  refine WP.condD rfl (fun hT => absurd hT (by omega)) (fun h32 => ?_)
  refine WP.skip ?_
  refine X.thenN ?_
  refine WP.regs ?_
  refine L.move rfl ?_
  refine WL.call rfl rfl F19.fn rfl (FT.make fun g gS dj => field_Clone_bits (hin.mono (Hp.le_un_left _ _))) ?_; rintro _ _ ⟨_, ⟨c, rfl, rfl⟩, rfl⟩
  refine L.assign rfl ?_
  refine WL.nil ?_
  refine WP.cut (X := (Nat → Option Addr) × (Nat → Nat) × Nat) (fun x => ⟨109, [], [(3, .int .i64 gen), (4, .int .i64 n), (5, .pointer (some ⟨b1, 0, none⟩)), (13, .pointer (some ⟨c, 0, none⟩)), (14, .pointer (some ⟨x.2.2, 0, none⟩))]⟩) (fun x => [fieldHP c true W H 2 (F), cl x.2.2 [.slice (x.1 0) (blocksL t 0).length (x.2.1 0), .slice (x.1 1) (blocksL t 1).length (x.2.1 1)] 55, vec 59 8 (.slice (x.1 1) (blocksL t 1).length (x.2.1 1)) (blocksL t 1).length (flatB (blocksL t 1)), vec 59 8 (.slice (x.1 0) (blocksL t 0).length (x.2.1 0)) (blocksL t 0).length (flatB (blocksL t 0)), cl b2 (topoC t) 24, cl b1 (u8C bs) 22]) (fun x => ∀ q, q < 2 → 0 < (blocksL t q).length → ∃ b, x.1 q = some ⟨b, 0, none⟩) ?_ ?_
  · -- the region
    refine WP.regf [(0, true), (2, true)] 6 5 #[true, false, true, false, false, false, false] rfl (by kernel_rfl) (PInv.then PInv.ret) rfl ?_
    refine WE.take rfl (V.loadN T24.ag rfl rfl (Rds.all 1 rfl)) ?_
    refine WE.take rfl (V.loadN T24.ag rfl rfl (Rds.all 1 rfl)) ?_
    refine WE.free _ ?_
    refine WT.both 1 5 (by kernel_rfl) rfl rfl ?_ ?_
    · -- 1
      refine WL.call rfl rfl F20.fn rfl (FT.make fun g gS dj => block_blocks t hg 0 (by omega)) ?_; rintro v0 _ ⟨_, rfl, rfl⟩
      refine WL.nil ⟨fun _ => Ent.left [_] _, ?_⟩
      refine WT.both 3 5 (by kernel_rfl) rfl rfl ?_ ?_
      · -- 3
        refine WL.call rfl rfl F20.fn rfl (FT.make fun g gS dj => block_blocks t hg 1 (by omega)) ?_; rintro v1 _ ⟨_, rfl, rfl⟩
        refine WL.nil ⟨fun _ => Ent.left [_, _] _, ?_⟩
        refine WT.both 4 5 (by kernel_rfl) rfl rfl ?_ ?_
        · -- 4
          refine WL.fact (φ := ∃ a c, v0 = .slice a (blocksL t 0).length c ∧ (0 < (blocksL t 0).length → ∃ b, a = some ⟨b, 0, none⟩)) (fun _ _ _ s => by obtain ⟨_, a, c, e, _, hb⟩ := s.vec_shape 1 rfl; exact ⟨a, c, e, hb⟩) fun ⟨a0, c0, e0, hb0⟩ => ?_
          subst e0
          refine WL.fact (φ := ∃ a c, v1 = .slice a (blocksL t 1).length c ∧ (0 < (blocksL t 1).length → ∃ b, a = some ⟨b, 0, none⟩)) (fun _ _ _ s => by obtain ⟨_, a, c, e, _, hb⟩ := s.vec_shape 0 rfl; exact ⟨a, c, e, hb⟩) fun ⟨a1, c1, e1, hb1⟩ => ?_
          subst e1
          refine L.buildA (cs := [_, _]) T55.ar T55.z rfl rfl ?_
          refine WL.nil ⟨fun _ => Ent.left [_, _] _, ?_⟩
          refine WT.one 5 (by kernel_rfl) rfl ?_
          refine L.alloc T55.z ?_; intro b3
          refine WL.nil ⟨fun _ => Ent.left [_, _, _] _, ?_⟩
          refine WT.one 6 (by kernel_rfl) rfl ?_
          refine L.storeN T55.ag rfl rfl rfl (Wrs.all 0 rfl rfl (by simp [Value.oneCell'])) ?_
          refine WL.nil ⟨fun e => absurd e (by decide), ?_⟩
          refine WT.nil (by kernel_rfl) ?_
          refine ⟨(fun q => if q = 0 then a0 else a1, fun q => if q = 0 then c0 else c1, b3), fun q hq => ?_, Env.Sub.cons rfl rfl (Env.Sub.cons rfl rfl (Env.Sub.cons rfl rfl (Env.Sub.cons rfl rfl (Env.Sub.cons rfl rfl Env.Sub.nil)))), ((Ent.pull 2 rfl).trans ((Ent.pull 2 rfl).trans ((Ent.pull 2 rfl).trans (Ent.pull 3 rfl))))⟩
          rcases (show q = 0 ∨ q = 1 by omega) with rfl | rfl
          · exact hb0
          · exact hb1
        · -- 5
          refine L.alloc T55.z ?_; intro b3
          refine WL.nil ⟨fun _ => Ent.left [_, _, _] _, ?_⟩
          refine WT.one 4 (by kernel_rfl) rfl ?_
          refine WL.fact (φ := ∃ a c, v0 = .slice a (blocksL t 0).length c ∧ (0 < (blocksL t 0).length → ∃ b, a = some ⟨b, 0, none⟩)) (fun _ _ _ s => by obtain ⟨_, a, c, e, _, hb⟩ := s.vec_shape 2 rfl; exact ⟨a, c, e, hb⟩) fun ⟨a0, c0, e0, hb0⟩ => ?_
          subst e0
          refine WL.fact (φ := ∃ a c, v1 = .slice a (blocksL t 1).length c ∧ (0 < (blocksL t 1).length → ∃ b, a = some ⟨b, 0, none⟩)) (fun _ _ _ s => by obtain ⟨_, a, c, e, _, hb⟩ := s.vec_shape 1 rfl; exact ⟨a, c, e, hb⟩) fun ⟨a1, c1, e1, hb1⟩ => ?_
          subst e1
          refine L.buildA (cs := [_, _]) T55.ar T55.z rfl rfl ?_
          refine WL.nil ⟨fun _ => Ent.left [_, _, _] _, ?_⟩
          refine WT.one 6 (by kernel_rfl) rfl ?_
          refine L.storeN T55.ag rfl rfl rfl (Wrs.all 0 rfl rfl (by simp [Value.oneCell'])) ?_
          refine WL.nil ⟨fun e => absurd e (by decide), ?_⟩
          refine WT.nil (by kernel_rfl) ?_
          refine ⟨(fun q => if q = 0 then a0 else a1, fun q => if q = 0 then c0 else c1, b3), fun q hq => ?_, Env.Sub.cons rfl rfl (Env.Sub.cons rfl rfl (Env.Sub.cons rfl rfl (Env.Sub.cons rfl rfl (Env.Sub.cons rfl rfl Env.Sub.nil)))), ((Ent.pull 2 rfl).trans ((Ent.pull 2 rfl).trans ((Ent.pull 2 rfl).trans (Ent.pull 3 rfl))))⟩
          rcases (show q = 0 ∨ q = 1 by omega) with rfl | rfl
          · exact hb0
          · exact hb1
      · -- 5
        refine L.alloc T55.z ?_; intro b3
        refine WL.nil ⟨fun _ => Ent.left [_, _] _, ?_⟩
        refine WT.one 3 (by kernel_rfl) rfl ?_
        refine WL.call rfl rfl F20.fn rfl (FT.make fun g gS dj => block_blocks t hg 1 (by omega)) ?_; rintro v1 _ ⟨_, rfl, rfl⟩
        refine WL.nil ⟨fun _ => Ent.left [_, _, _] _, ?_⟩
        refine WT.one 4 (by kernel_rfl) rfl ?_
        refine WL.fact (φ := ∃ a c, v0 = .slice a (blocksL t 0).length c ∧ (0 < (blocksL t 0).length → ∃ b, a = some ⟨b, 0, none⟩)) (fun _ _ _ s => by obtain ⟨_, a, c, e, _, hb⟩ := s.vec_shape 2 rfl; exact ⟨a, c, e, hb⟩) fun ⟨a0, c0, e0, hb0⟩ => ?_
        subst e0
        refine WL.fact (φ := ∃ a c, v1 = .slice a (blocksL t 1).length c ∧ (0 < (blocksL t 1).length → ∃ b, a = some ⟨b, 0, none⟩)) (fun _ _ _ s => by obtain ⟨_, a, c, e, _, hb⟩ := s.vec_shape 0 rfl; exact ⟨a, c, e, hb⟩) fun ⟨a1, c1, e1, hb1⟩ => ?_
        subst e1
        refine L.buildA (cs := [_, _]) T55.ar T55.z rfl rfl ?_
        refine WL.nil ⟨fun _ => Ent.left [_, _, _] _, ?_⟩
        refine WT.one 6 (by kernel_rfl) rfl ?_
        refine L.storeN T55.ag rfl rfl rfl (Wrs.all 1 rfl rfl (by simp [Value.oneCell'])) ?_
        refine WL.nil ⟨fun e => absurd e (by decide), ?_⟩
        refine WT.nil (by kernel_rfl) ?_
        refine ⟨(fun q => if q = 0 then a0 else a1, fun q => if q = 0 then c0 else c1, b3), fun q hq => ?_, Env.Sub.cons rfl rfl (Env.Sub.cons rfl rfl (Env.Sub.cons rfl rfl (Env.Sub.cons rfl rfl (Env.Sub.cons rfl rfl Env.Sub.nil)))), ((Ent.pull 2 rfl).trans ((Ent.pull 1 rfl).trans ((Ent.pull 2 rfl).trans (Ent.pull 3 rfl))))⟩
        rcases (show q = 0 ∨ q = 1 by omega) with rfl | rfl
        · exact hb0
        · exact hb1
    · -- 5
      refine L.alloc T55.z ?_; intro b3
      refine WL.nil ⟨fun _ => Ent.left [_] _, ?_⟩
      refine WT.one 1 (by kernel_rfl) rfl ?_
      refine WL.call rfl rfl F20.fn rfl (FT.make fun g gS dj => block_blocks t hg 0 (by omega)) ?_; rintro v0 _ ⟨_, rfl, rfl⟩
      refine WL.nil ⟨fun _ => Ent.left [_, _] _, ?_⟩
      refine WT.one 3 (by kernel_rfl) rfl ?_
      refine WL.call rfl rfl F20.fn rfl (FT.make fun g gS dj => block_blocks t hg 1 (by omega)) ?_; rintro v1 _ ⟨_, rfl, rfl⟩
      refine WL.nil ⟨fun _ => Ent.left [_, _, _] _, ?_⟩
      refine WT.one 4 (by kernel_rfl) rfl ?_
      refine WL.fact (φ := ∃ a c, v0 = .slice a (blocksL t 0).length c ∧ (0 < (blocksL t 0).length → ∃ b, a = some ⟨b, 0, none⟩)) (fun _ _ _ s => by obtain ⟨_, a, c, e, _, hb⟩ := s.vec_shape 1 rfl; exact ⟨a, c, e, hb⟩) fun ⟨a0, c0, e0, hb0⟩ => ?_
      subst e0
      refine WL.fact (φ := ∃ a c, v1 = .slice a (blocksL t 1).length c ∧ (0 < (blocksL t 1).length → ∃ b, a = some ⟨b, 0, none⟩)) (fun _ _ _ s => by obtain ⟨_, a, c, e, _, hb⟩ := s.vec_shape 0 rfl; exact ⟨a, c, e, hb⟩) fun ⟨a1, c1, e1, hb1⟩ => ?_
      subst e1
      refine L.buildA (cs := [_, _]) T55.ar T55.z rfl rfl ?_
      refine WL.nil ⟨fun _ => Ent.left [_, _, _] _, ?_⟩
      refine WT.one 6 (by kernel_rfl) rfl ?_
      refine L.storeN T55.ag rfl rfl rfl (Wrs.all 2 rfl rfl (by simp [Value.oneCell'])) ?_
      refine WL.nil ⟨fun e => absurd e (by decide), ?_⟩
      refine WT.nil (by kernel_rfl) ?_
      refine ⟨(fun q => if q = 0 then a0 else a1, fun q => if q = 0 then c0 else c1, b3), fun q hq => ?_, Env.Sub.cons rfl rfl (Env.Sub.cons rfl rfl (Env.Sub.cons rfl rfl (Env.Sub.cons rfl rfl (Env.Sub.cons rfl rfl Env.Sub.nil)))), ((Ent.pull 1 rfl).trans ((Ent.pull 1 rfl).trans ((Ent.pull 2 rfl).trans (Ent.pull 3 rfl))))⟩
      rcases (show q = 0 ∨ q = 1 by omega) with rfl | rfl
      · exact hb0
      · exact hb1
  · -- behind it
    rintro ⟨a, cc, b3⟩ hnn
    dsimp only at hnn ⊢
    refine WP.seq ?_
    refine WP.regs ?_
    refine L.move rfl ?_
    refine L.lss rfl rfl ?_
    refine WL.nil ?_
    refine WP.condD rfl (fun h42 => ?_) (fun hF => absurd hF (by omega))
    refine WP.region ?_
    refine L.loadN T22.ag rfl (by simp [hbs.len]) (Rds.all 5 rfl) ?_
    refine WL.callV rfl rfl F21.fn rfl (fun g gS dj => block_back bs hbs) ?_   -- vivarium/block.back slot 44
    refine L.storeN T22.ag rfl rfl (by simp [length_backTo]) (Wrs.all 5 rfl (by simp [hbs.len, length_backTo]) (by simp [u8C, Value.oneCell'])) ?_
    refine WL.nil ?_
    refine X.thenN ?_
    refine WP.seq ?_
    refine WP.block ?_
    refine WP.loop (X := Nat) (fun i => ⟨109, [], [(3, .int .i64 (gen - (i : Int))), (4, .int .i64 (n + (i : Int))), (5, .pointer (some ⟨b1, 0, none⟩)), (13, .pointer (some ⟨c, 0, none⟩)), (14, .pointer (some ⟨b3, 0, none⟩))]⟩) (fun i => [fieldHP c true W H 2 (seqF (backTo bs 16) t (fun i => gen - (i : Int) - 1) F i), cl b3 [.slice (a 0) (blocksL t 0).length (cc 0), .slice (a 1) (blocksL t 1).length (cc 1)] 55, vec 59 8 (.slice (a 1) (blocksL t 1).length (cc 1)) (blocksL t 1).length (flatB (blocksL t 1)), vec 59 8 (.slice (a 0) (blocksL t 0).length (cc 0)) (blocksL t 0).length (flatB (blocksL t 0)), cl b2 (topoC t) 24, cl b1 (u8C (backTo bs 16)) 22]) (fun i => (i : Int) ≤ -n) (fun i => (-n).toNat - i) 0 (by omega) (Env.Sub.cons rfl (congrArg (Value.int .i64) (by omega)) (Env.Sub.cons rfl (congrArg (Value.int .i64) (by omega)) (Env.Sub.cons rfl rfl (Env.Sub.cons rfl rfl (Env.Sub.cons rfl rfl Env.Sub.nil))))) (Ent.refl _) ?_
    intro i hi
    refine WP.seq ?_
    refine WP.regs ?_
    refine L.move rfl ?_
    refine L.neq rfl rfl ?_
    refine WL.nil ?_
    refine WP.condD rfl (fun h46 => ?_) (fun h46 => ?_)
    · -- then
      refine WP.skip ?_
      refine X.thenN ?_
      refine WP.block ?_
      refine WP.regs ?_
      refine L.move rfl ?_
      refine L.assign rfl ?_
      refine WL.nil ?_
      refine WP.seq ?_
      refine WP.regs ?_
      refine L.move rfl ?_
      refine L.gtr rfl rfl ?_
      refine WL.nil ?_
      refine WP.condD rfl (fun hT => absurd hT (by omega)) (fun h49 => ?_)
      refine WP.regs ?_
      refine L.move rfl ?_
      refine L.sub' rfl rfl (by omega) ?_
      refine L.move rfl ?_
      refine L.add' rfl rfl (by omega) ?_
      refine L.assign rfl ?_
      refine L.assign rfl ?_
      refine WL.nil ?_
      refine WP.region ?_
      refine L.move rfl ?_
      refine L.assign rfl ?_
      refine WL.nil ?_
      refine X.thenN ?_
      refine WP.regs ?_
      refine L.move rfl ?_
      refine L.and rfl rfl ?_
      obtain ⟨q, hq, hqa, hqb⟩ := par (gen - (i : Int) - 1) (by omega)
      rw [hqa]
      refine L.indexA T55.ar rfl rfl (by omega) ?_
      refine L.load T53.sc rfl (v := .slice (a q) (blocksL t q).length (cc q)) (Rd.own 1 rfl (by rw [Nat.zero_add, Nat.mul_one, Int.toNat_natCast]; rcases (show q = 0 ∨ q = 1 by omega) with rfl | rfl <;> rfl)) ?_
      refine L.lenS T53.sl rfl rfl ?_
      refine L.move rfl ?_
      refine WL.nil ?_
      refine WP.block ?_
      refine WP.loop (X := Nat) (fun m => ⟨109, [], [(3, .int .i64 (gen - ((i + 1 : Nat) : Int))), (4, .int .i64 (n + ((i + 1 : Nat) : Int))), (5, .pointer (some ⟨b1, 0, none⟩)), (13, .pointer (some ⟨c, 0, none⟩)), (14, .pointer (some ⟨b3, 0, none⟩)), (62, .slice (a q) (blocksL t q).length (cc q)), (63, .int .i64 ((blocksL t q).length : Int)), (64, .int .i64 (m : Int))]⟩) (fun m => [fieldHP c true W H 2 (((blocksL t q).take m).foldl (applyB (backTo bs 16)) (seqF (backTo bs 16) t (fun i => gen - (i : Int) - 1) F i)), cl b3 [.slice (a 0) (blocksL t 0).length (cc 0), .slice (a 1) (blocksL t 1).length (cc 1)] 55, vec 59 8 (.slice (a 1) (blocksL t 1).length (cc 1)) (blocksL t 1).length (flatB (blocksL t 1)), vec 59 8 (.slice (a 0) (blocksL t 0).length (cc 0)) (blocksL t 0).length (flatB (blocksL t 0)), cl b2 (topoC t) 24, cl b1 (u8C (backTo bs 16)) 22]) (fun m => m ≤ (blocksL t q).length) (fun m => (blocksL t q).length - m) 0 (Nat.zero_le _) (Env.Sub.cons rfl (congrArg (Value.int .i64) (by omega)) (Env.Sub.cons rfl (congrArg (Value.int .i64) (by omega)) (Env.Sub.cons rfl rfl (Env.Sub.cons rfl rfl (Env.Sub.cons rfl rfl (Env.Sub.cons rfl rfl (Env.Sub.cons rfl rfl (Env.Sub.cons rfl rfl Env.Sub.nil)))))))) (Ent.refl _) ?_
      intro m hm
      refine WP.regs ?_
      refine L.lss rfl rfl ?_
      refine WL.nil ?_
      refine WP.seq ?_
      refine WP.condD rfl (fun h65 => ?_) (fun h65 => ?_)
      · -- then
        obtain ⟨bl, hbl⟩ : ∃ bl, (blocksL t q)[m]? = some bl := ⟨_, List.getElem?_eq_getElem (by omega)⟩
        have hin4 := blocksL_in t hg.toGood hWw hHh q (List.mem_of_getElem? hbl)
        have hall := fun b hb => (blocksL_in t hg.toGood hWw hHh q (b := b) hb).1
        obtain ⟨bq, hbq⟩ := hnn q hq (by omega)
        generalize hFm : ((blocksL t q).take m).foldl (applyB (backTo bs 16)) (seqF (backTo bs 16) t (fun i => gen - (i : Int) - 1) F i) = Fm
        refine WP.fact (φ := FOk true W H 2 Fm) (fun _ _ _ s => by obtain ⟨g, i⟩ := s.inn 0 rfl; exact (In.field i).1) fun hFo => ?_
        have hv16 : fromN Fm bl 4 < 16 := fromN_lt hFo.F 4
        refine WP.skip ?_
        refine X.thenN ?_
        refine WP.seq ?_
        refine WP.block ?_
        refine WP.regs ?_
        refine L.indexS T53.sl (by show some (Value.slice (a q) _ _) = _; rw [hbq]) rfl (by omega) ?_
        refine L.loadN T59.ag rfl (flat_one hin4.1) (vs := flatB [bl]) (Rds.vec (E := 59) (sz := 8) (n := (blocksL t q).length) (cap := cc q) (cs := flatB (blocksL t q)) (3 - q) (by rw [← hbq]; rcases (show q = 0 ∨ q = 1 by omega) with rfl | rfl <;> rfl) (fun j v hj => by rw [Nat.zero_add, Int.toNat_natCast]; exact flatB_at hall hbl j v hj)) ?_
        refine L.alloc T59.z ?_; intro b4
        refine L.storeN T59.ag rfl rfl (flat_one hin4.1) (Wrs.all 0 rfl (by rw [flat_one hin4.1]; rfl) flat_cell) ?_
        refine WL.nil ?_
        refine WP.regs ?_
        refine L.assign rfl ?_
        refine WL.nil ?_
        refine WP.seq ?_
        refine WP.regs ?_
        refine L.loadN T59.ag rfl (flat_one hin4.1) (Rds.all 0 rfl) ?_
        refine L.move rfl ?_
        refine WL.nil ?_
        refine WP.block ?_
        refine WP.loop (X := Nat) (fun r => ⟨109, [], [(3, .int .i64 (gen - ((i + 1 : Nat) : Int))), (4, .int .i64 (n + ((i + 1 : Nat) : Int))), (5, .pointer (some ⟨b1, 0, none⟩)), (13, .pointer (some ⟨c, 0, none⟩)), (14, .pointer (some ⟨b3, 0, none⟩)), (62, .slice (a q) (blocksL t q).length (cc q)), (63, .int .i64 ((blocksL t q).length : Int)), (64, .int .i64 (m : Int)), (17, .pointer (some ⟨b4, 0, none⟩)), (18, .int .i64 ((fromN Fm bl r : Nat) : Int)), (68, .agg (flatB [bl]).toArray), (69, .int .i64 (r : Int))]⟩) (fun r => [cl b4 (flatB [bl]) 59, fieldHP c true W H 2 (Fm), cl b3 [.slice (a 0) (blocksL t 0).length (cc 0), .slice (a 1) (blocksL t 1).length (cc 1)] 55, vec 59 8 (.slice (a 1) (blocksL t 1).length (cc 1)) (blocksL t 1).length (flatB (blocksL t 1)), vec 59 8 (.slice (a 0) (blocksL t 0).length (cc 0)) (blocksL t 0).length (flatB (blocksL t 0)), cl b2 (topoC t) 24, cl b1 (u8C (backTo bs 16)) 22]) (fun r => r ≤ 4) (fun r => 4 - r) 0 (by omega) (Env.Sub.cons rfl rfl (Env.Sub.cons rfl rfl (Env.Sub.cons rfl rfl (Env.Sub.cons rfl rfl (Env.Sub.cons rfl rfl (Env.Sub.cons rfl rfl (Env.Sub.cons rfl rfl (Env.Sub.cons rfl rfl (Env.Sub.cons rfl rfl (Env.Sub.cons rfl rfl (Env.Sub.cons rfl rfl (Env.Sub.cons rfl rfl Env.Sub.nil)))))))))))) (Ent.refl _) ?_
        intro r hr
        refine WP.regs ?_
        refine L.lss rfl rfl ?_
        refine WL.nil ?_
        refine WP.seq ?_
        refine WP.condD rfl (fun h70 => ?_) (fun h70 => ?_)
        · -- then
          refine WP.skip ?_
          refine X.thenN ?_
          refine WP.seq ?_
          refine WP.block ?_
          refine WP.regs ?_
          refine L.move rfl ?_
          refine L.indexN (vs := [.int .i64 ((ppB bl r).1 : Int), .int .i64 ((ppB bl r).2 : Int)]) T59.ar rfl rfl (by omega) (by rw [Int.toNat_natCast]; exact blk_extract hin4.1 (by omega)) ?_
          refine L.alloc T58.z ?_; intro b5
          refine L.assign rfl ?_
          refine L.storeN T58.ag rfl rfl rfl (Wrs.all 0 rfl rfl (by simp [Value.oneCell'])) ?_
          refine WL.nil ?_
          refine WP.regs ?_
          refine L.move rfl ?_
          refine L.fieldAddr (o' := 0) T58.f0 rfl rfl ?_
          refine L.load T3.sc rfl (Rd.own 0 rfl rfl) ?_
          refine L.fieldAddr (o' := 1) T58.f1 rfl rfl ?_
          refine L.load T3.sc rfl (Rd.own 0 rfl rfl) ?_
          refine WL.callV rfl rfl F22.fn rfl (fun g gS dj => field_Get_bits (ppB bl r).1 (ppB bl r).2 (hin4.2 r).1 (hin4.2 r).2 (In.of_stars' 2 rfl gS dj)) ?_   -- (*vivarium/field.Field).Get slot 79
          refine L.move rfl ?_
          refine L.extract rfl rfl ?_
          refine L.extract rfl rfl ?_
          refine L.assign rfl ?_
          refine L.assign rfl ?_
          refine WL.nil ?_
          refine WP.region ?_
          refine L.move rfl ?_
          refine L.move rfl ?_
          refine L.convInt T5.u T3.u rfl ?_
          refine L.move rfl ?_
          refine L.shl rfl rfl (by omega) ?_
          refine L.or rfl rfl ?_
          refine L.assign rfl ?_
          refine WL.nil ?_
          refine X.blockN ?_
          refine X.thenN ?_
          refine WP.region ?_
          refine L.add' rfl rfl (by omega) ?_
          refine L.move rfl ?_
          refine WL.nil ?_
          refine X.thenN ⟨r + 1, by omega, by omega, (Env.Sub.cons rfl rfl (Env.Sub.cons rfl rfl (Env.Sub.cons rfl rfl (Env.Sub.cons rfl rfl (Env.Sub.cons rfl rfl (Env.Sub.cons rfl rfl (Env.Sub.cons rfl rfl (Env.Sub.cons rfl rfl (Env.Sub.cons rfl rfl (Env.Sub.cons rfl (congrArg (Value.int .i64) (or_step r (by omega) _ (fromN_lt hFo.F r) _ (hFo.F _ _)).symm) (Env.Sub.cons rfl rfl (Env.Sub.cons rfl rfl Env.Sub.nil)))))))))))), Ent.drop 0⟩
        · -- else
          refine WP.exit ?_
          refine X.thenE (X.thenE (X.blockE ?_))
          refine X.thenN ?_
          refine WP.regs ?_
          refine L.loadN T59.ag rfl (flat_one hin4.1) (Rds.all 0 rfl) ?_
          refine L.move rfl ?_
          refine WL.nil ?_
          refine WP.block ?_
          refine WP.loop (X := Nat) (fun r => ⟨109, [], [(3, .int .i64 (gen - ((i + 1 : Nat) : Int))), (4, .int .i64 (n + ((i + 1 : Nat) : Int))), (5, .pointer (some ⟨b1, 0, none⟩)), (13, .pointer (some ⟨c, 0, none⟩)), (14, .pointer (some ⟨b3, 0, none⟩)), (62, .slice (a q) (blocksL t q).length (cc q)), (63, .int .i64 ((blocksL t q).length : Int)), (64, .int .i64 (m : Int)), (17, .pointer (some ⟨b4, 0, none⟩)), (18, .int .i64 ((fromN Fm bl 4 : Nat) : Int)), (89, .agg (flatB [bl]).toArray), (90, .int .i64 (r : Int))]⟩) (fun r => [cl b4 (flatB [bl]) 59, fieldHP c true W H 2 (setTo (backTo bs 16) (fromN Fm bl 4) bl Fm r), cl b3 [.slice (a 0) (blocksL t 0).length (cc 0), .slice (a 1) (blocksL t 1).length (cc 1)] 55, vec 59 8 (.slice (a 1) (blocksL t 1).length (cc 1)) (blocksL t 1).length (flatB (blocksL t 1)), vec 59 8 (.slice (a 0) (blocksL t 0).length (cc 0)) (blocksL t 0).length (flatB (blocksL t 0)), cl b2 (topoC t) 24, cl b1 (u8C (backTo bs 16)) 22]) (fun r => r ≤ 4) (fun r => 4 - r) 0 (by omega) (Env.Sub.cons rfl rfl (Env.Sub.cons rfl rfl (Env.Sub.cons rfl rfl (Env.Sub.cons rfl rfl (Env.Sub.cons rfl rfl (Env.Sub.cons rfl rfl (Env.Sub.cons rfl rfl (Env.Sub.cons rfl rfl (Env.Sub.cons rfl rfl (Env.Sub.cons rfl (by obtain rfl : r = 4 := (by omega); rfl) (Env.Sub.cons rfl rfl (Env.Sub.cons rfl rfl Env.Sub.nil)))))))))))) (Ent.refl _) ?_
          intro r hr
          refine WP.regs ?_
          refine L.lss rfl rfl ?_
          refine WL.nil ?_
          refine WP.seq ?_
          refine WP.condD rfl (fun h91 => ?_) (fun h91 => ?_)
          · -- then
            refine WP.skip ?_
            refine X.thenN ?_
            refine WP.seq ?_
            refine WP.block ?_
            refine WP.regs ?_
            refine L.move rfl ?_
            refine L.indexN (vs := [.int .i64 ((ppB bl r).1 : Int), .int .i64 ((ppB bl r).2 : Int)]) T59.ar rfl rfl (by omega) (by rw [Int.toNat_natCast]; exact blk_extract hin4.1 (by omega)) ?_
            refine L.alloc T58.z ?_; intro b6
            refine L.assign rfl ?_
            refine L.storeN T58.ag rfl rfl rfl (Wrs.all 0 rfl rfl (by simp [Value.oneCell'])) ?_
            refine WL.nil ?_
            refine WP.rege [(0, true), (1, true), (2, true), (3, true), (4, true), (5, true), (6, true), (7, true), (8, true), (9, true), (10, true), (11, false)] 11 rfl (by kernel_rfl) (PInv.block (PInv.then (PInv.then (PInv.block (PInv.block (PInv.then (PInv.then (PInv.block (PInv.block (PInv.then (PInv.block (PInv.then PInv.ret)))))))))))) rfl ?_
            refine WE.take rfl (V.move rfl) ?_
            refine WE.take rfl (V.fieldAddr (o' := 0) T58.f0 rfl rfl) ?_
            refine WE.take rfl (V.load T3.sc rfl (Rd.own 0 rfl rfl)) ?_
            refine WE.take rfl (V.fieldAddr (o' := 1) T58.f1 rfl rfl) ?_
            refine WE.take rfl (V.load T3.sc rfl (Rd.own 0 rfl rfl)) ?_
            refine WE.take rfl (V.move rfl) ?_
            refine WE.take rfl (V.indexA T22.ar rfl rfl (by omega)) ?_
            refine WE.take rfl (V.load T5.sc rfl (v := .int .u8 (((backTo bs 16).getD (fromN Fm bl 4) 0).toNat : Nat)) (Rd.own 7 rfl (by rw [Nat.zero_add, Nat.mul_one, Int.toNat_natCast, Int.toNat_of_nonneg ((back_blk bs).bd _).1]; exact u8_at (by rw [(back_blk bs).len]; omega)))) ?_
            refine WE.take rfl (V.move rfl) ?_
            refine WE.take rfl (V.shr rfl rfl (by omega)) ?_
            refine WE.take rfl (V.and rfl rfl) ?_
            refine WE.last rfl ?_
            rw [show bits .and .u8 (((((backTo bs 16).getD (fromN Fm bl 4) 0).toNat : Nat) : Int) / 2 ^ min (r : Int).toNat IntKind.u8.bits) 1 = ((newBit (backTo bs 16) (fromN Fm bl 4) r : Nat) : Int) from and_step r (by omega) _ (by have := (back_blk bs).bd (fromN Fm bl 4); omega)]
            refine WL.call rfl rfl F7.fn rfl (FT.part [fieldHP c true W H 2 (setTo (backTo bs 16) (fromN Fm bl 4) bl Fm r)] _ (Ent.pull 2 rfl) fun g gS dj => field_Set_bits (ppB bl r).1 (ppB bl r).2 (newBit (backTo bs 16) (fromN Fm bl 4) r) (hin4.2 r).1 (hin4.2 r).2 (Nat.mod_lt _ (by omega))) ?_; rintro _ _ ⟨_, ⟨rfl, rfl⟩, rfl⟩
            refine WL.nil ?_
            refine WE.nil ?_
            refine X.blockN ?_
            refine X.thenN ?_
            refine WP.region ?_
            refine L.add' rfl rfl (by omega) ?_
            refine L.move rfl ?_
            refine WL.nil ?_
            refine X.thenN ⟨r + 1, by omega, by omega, (Env.Sub.cons rfl rfl (Env.Sub.cons rfl rfl (Env.Sub.cons rfl rfl (Env.Sub.cons rfl rfl (Env.Sub.cons rfl rfl (Env.Sub.cons rfl rfl (Env.Sub.cons rfl rfl (Env.Sub.cons rfl rfl (Env.Sub.cons rfl rfl (Env.Sub.cons rfl rfl (Env.Sub.cons rfl rfl (Env.Sub.cons rfl rfl Env.Sub.nil)))))))))))), (Ent.drop 1).trans (Ent.perm (List.Perm.swap _ _ _))⟩
          · -- else
            refine WP.exit ?_
            refine X.thenE (X.thenE (X.blockE ?_))
            refine X.blockN ?_
            refine X.thenN ?_
            refine WP.region ?_
            have hlq : (blocksL t q).length ≤ 32768 * 32768 := Nat.le_trans (allB_len t q _ _) (Nat.mul_le_mul (by omega) (by omega))
            refine L.add' rfl rfl (by omega) ?_
            refine L.move rfl ?_
            refine WL.nil ?_
            refine X.thenN ⟨m + 1, by omega, by omega, (Env.Sub.cons rfl rfl (Env.Sub.cons rfl rfl (Env.Sub.cons rfl rfl (Env.Sub.cons rfl rfl (Env.Sub.cons rfl rfl (Env.Sub.cons rfl rfl (Env.Sub.cons rfl rfl (Env.Sub.cons rfl rfl Env.Sub.nil)))))))), (Ent.drop 0).trans (Ent.of_eq (by rw [foldl_take_succ hbl, hFm]; obtain rfl : r = 4 := (by omega); rfl))⟩
      · -- else
        refine WP.exit ?_
        refine X.thenE (X.thenE (X.blockE ?_))
        refine X.blockN ?_
        refine X.thenN ⟨i + 1, by omega, by omega, (Env.Sub.cons rfl rfl (Env.Sub.cons rfl rfl (Env.Sub.cons rfl rfl (Env.Sub.cons rfl rfl (Env.Sub.cons rfl rfl Env.Sub.nil))))), Ent.of_eq (by have e : m = (blocksL t q).length := (by omega); rw [e, List.take_length, ← hqb]; rfl)⟩
    · -- else
      refine WP.exit ?_
      refine X.thenE (X.thenE (X.blockE ?_))
      refine X.thenN ?_
      refine WP.regs ?_
      refine L.move rfl ?_
      refine L.assign rfl ?_
      refine L.assign rfl ?_
      refine WL.nil ?_
      refine WP.ret ?_
      refine X.ret rfl (Res.two rfl rfl rfl) ?_
      obtain rfl : i = (-n).toNat := by omega
      exact ⟨_, rfl, _, ⟨c, rfl, rfl⟩, Ent.right [_] _⟩

set_option maxRecDepth 10000 in
theorem block_Run_fwd_bytes (bs : List Int) (hbs : Blk bs) (t : Topo) (hg : t.Even) {b : Nat} {W H : Nat} {F : Nat → Nat → Nat} (hWw : (W : Int) = t.w) (hHh : (H : Int) = t.h) (gen n : Int) (hgen : 0 ≤ gen ∧ gen ≤ 1125899906842624) (hsp : 0 ≤ gen + n ∧ gen + n ≤ 1125899906842624) (hturn : n < 0 → seenTo bs 16 = onceTo 16) (hwork : n ≤ 67108864 / (t.w * t.h) ∧ -n ≤ 67108864 / (t.w * t.h)) (hn : 0 ≤ n) (hin : In (fieldHP b false W H 2 F) h0) : FT Pg 8 [.agg (u8C bs).toArray, .agg (topoC t).toArray, .pointer (some ⟨b, 0, none⟩), .int .i64 gen, .int .i64 n] k h0 [] (Ret fun v τ => ∃ c : Nat, v = .tuple #[.pointer (some ⟨c, 0, none⟩), .int .i64 0] ∧ τ = [fieldHP c false W H 2 (seqF bs t (fun i => gen + (i : Int)) F n.toNat)]) := by
  have hk := hg.kind; have hk2 := hg.kind2; have hw := hg.w; have hh := hg.h; have hw0 := hg.w0; have hh0 := hg.h0; have hwe := hg.we; have hhe := hg.he; have hse := hg.se; have hwi := hg.wide; have hhi := hg.high; have hno := hg.none; have htn := hg.turn; have hfl := hg.flat
  refine FT.tight ?_
  refine FT.of_wp (n := 109) Try.func8 rfl rfl rfl ?_
  refine WP.regs ?_
  refine L.box rfl rfl ?_; intro b1
  refine L.box rfl rfl ?_; intro b2
  refine L.assign rfl ?_
  refine L.assign rfl ?_
  refine WL.nil ?_
  refine WP.seq ?_
  refine WP.regs ?_
  refine L.loadN T22.ag rfl (by simp [hbs.len]) (Rds.all 1 rfl) ?_
  refine L.loadN T24.ag rfl rfl (Rds.all 0 rfl) ?_
  refine L.move rfl ?_
  refine L.move rfl ?_
  refine L.move rfl ?_
  refine WL.callV rfl rfl F18.fn rfl (fun g gS dj => block_asked_bytes bs hbs t hg hWw hHh gen n hgen hsp hturn hwork (hin.mono (Hp.le_un_left _ _))) ?_   -- vivarium/block.asked slot 30
  refine L.assign rfl ?_
  refine WL.nil ?_
  refine WP.regs ?_
  refine L.move rfl ?_
  refine L.neq rfl rfl ?_
  refine WL.nil ?_
  refine WP.condD rfl (fun hT => absurd hT (by omega)) (fun h32 => ?_)
  refine WP.skip ?_
  refine X.thenN ?_
  refine WP.regs ?_
  refine L.move rfl ?_
  refine WL.call rfl rfl F19.fn rfl (FT.make fun g gS dj => field_Clone_bytes (hin.mono (Hp.le_un_left _ _))) ?_; rintro _ _ ⟨_, ⟨c, rfl, rfl⟩, rfl⟩
  refine L.assign rfl ?_
  refine WL.nil ?_
  refine WP.cut (X := (Nat → Option Addr) × (Nat → Nat) × Nat) (fun x => ⟨109, [], [(3, .int .i64 gen), (4, .int .i64 n), (5, .pointer (some ⟨b1, 0, none⟩)), (13, .pointer (some ⟨c, 0, none⟩)), (14, .pointer (some ⟨x.2.2, 0, none⟩))]⟩) (fun x => [fieldHP c false W H 2 (F), cl x.2.2 [.slice (x.1 0) (blocksL t 0).length (x.2.1 0), .slice (x.1 1) (blocksL t 1).length (x.2.1 1)] 55, vec 59 8 (.slice (x.1 1) (blocksL t 1).length (x.2.1 1)) (blocksL t 1).length (flatB (blocksL t 1)), vec 59 8 (.slice (x.1 0) (blocksL t 0).length (x.2.1 0)) (blocksL t 0).length (flatB (blocksL t 0)), cl b2 (topoC t) 24, cl b1 (u8C bs) 22]) (fun x => ∀ q, q < 2 → 0 < (blocksL t q).length → ∃ b, x.1 q = some ⟨b, 0, none⟩) ?_ ?_
  · -- the region
    refine WP.regf [(0, true), (2, true)] 6 5 #[true, false, true, false, false, false, false] rfl (by kernel_rfl) (PInv.then PInv.ret) rfl ?_
    refine WE.take rfl (V.loadN T24.ag rfl rfl (Rds.all 1 rfl)) ?_
    refine WE.take rfl (V.loadN T24.ag rfl rfl (Rds.all 1 rfl)) ?_
    refine WE.free _ ?_
    refine WT.both 1 5 (by kernel_rfl) rfl rfl ?_ ?_
    · -- 1
      refine WL.call rfl rfl F20.fn rfl (FT.make fun g gS dj => block_blocks t hg 0 (by omega)) ?_; rintro v0 _ ⟨_, rfl, rfl⟩
      refine WL.nil ⟨fun _ => Ent.left [_] _, ?_⟩
      refine WT.both 3 5 (by kernel_rfl) rfl rfl ?_ ?_
      · -- 3
        refine WL.call rfl rfl F20.fn rfl (FT.make fun g gS dj => block_blocks t hg 1 (by omega)) ?_; rintro v1 _ ⟨_, rfl, rfl⟩
        refine WL.nil ⟨fun _ => Ent.left [_, _] _, ?_⟩
        refine WT.both 4 5 (by kernel_rfl) rfl rfl ?_ ?_
        · -- 4
          refine WL.fact (φ := ∃ a c, v0 = .slice a (blocksL t 0).length c ∧ (0 < (blocksL t 0).length → ∃ b, a = some ⟨b, 0, none⟩)) (fun _ _ _ s => by obtain ⟨_, a, c, e, _, hb⟩ := s.vec_shape 1 rfl; exact ⟨a, c, e, hb⟩) fun ⟨a0, c0, e0, hb0⟩ => ?_
          subst e0
          refine WL.fact (φ := ∃ a c, v1 = .slice a (blocksL t 1).length c ∧ (0 < (blocksL t 1).length → ∃ b, a = some ⟨b, 0, none⟩)) (fun _ _ _ s => by obtain ⟨_, a, c, e, _, hb⟩ := s.vec_shape 0 rfl; exact ⟨a, c, e, hb⟩) fun ⟨a1, c1, e1, hb1⟩ => ?_
          subst e1
          refine L.buildA (cs := [_, _]) T55.ar T55.z rfl rfl ?_
          refine WL.nil ⟨fun _ => Ent.left [_, _] _, ?_⟩
          refine WT.one 5 (by kernel_rfl) rfl ?_
          refine L.alloc T55.z ?_; intro b3
          refine WL.nil ⟨fun _ => Ent.left [_, _, _] _, ?_⟩
          refine WT.one 6 (by kernel_rfl) rfl ?_
          refine L.storeN T55.ag rfl rfl rfl (Wrs.all 0 rfl rfl (by simp [Value.oneCell'])) ?_
          refine WL.nil ⟨fun e => absurd e (by decide), ?_⟩
          refine WT.nil (by kernel_rfl) ?_
          refine ⟨(fun q => if q = 0 then a0 else a1, fun q => if q = 0 then c0 else c1, b3), fun q hq => ?_, Env.Sub.cons rfl rfl (Env.Sub.cons rfl rfl (Env.Sub.cons rfl rfl (Env.Sub.cons rfl rfl (Env.Sub.cons rfl rfl Env.Sub.nil)))), ((Ent.pull 2 rfl).trans ((Ent.pull 2 rfl).trans ((Ent.pull 2 rfl).trans (Ent.pull 3 rfl))))⟩
          rcases (show q = 0 ∨ q = 1 by omega) with rfl | rfl
          · exact hb0
          · exact hb1
        · -- 5
          refine L.alloc T55.z ?_; intro b3
          refine WL.nil ⟨fun _ => Ent.left [_, _, _] _, ?_⟩
          refine WT.one 4 (by kernel_rfl) rfl ?_
          refine WL.fact (φ := ∃ a c, v0 = .slice a (blocksL t 0).length c ∧ (0 < (blocksL t 0).length → ∃ b, a = some ⟨b, 0, none⟩)) (fun _ _ _ s => by obtain ⟨_, a, c, e, _, hb⟩ := s.vec_shape 2 rfl; exact ⟨a, c, e, hb⟩) fun ⟨a0, c0, e0, hb0⟩ => ?_
          subst e0
          refine WL.fact (φ := ∃ a c, v1 = .slice a (blocksL t 1).length c ∧ (0 < (blocksL t 1).length → ∃ b, a = some ⟨b, 0, none⟩)) (fun _ _ _ s => by obtain ⟨_, a, c, e, _, hb⟩ := s.vec_shape 1 rfl; exact ⟨a, c, e, hb⟩) fun ⟨a1, c1, e1, hb1⟩ => ?_
          subst e1
          refine L.buildA (cs := [_, _]) T55.ar T55.z rfl rfl ?_
          refine WL.nil ⟨fun _ => Ent.left [_, _, _] _, ?_⟩
          refine WT.one 6 (by kernel_rfl) rfl ?_
          refine L.storeN T55.ag rfl rfl rfl (Wrs.all 0 rfl rfl (by simp [Value.oneCell'])) ?_
          refine WL.nil ⟨fun e => absurd e (by decide), ?_⟩
          refine WT.nil (by kernel_rfl) ?_
          refine ⟨(fun q => if q = 0 then a0 else a1, fun q => if q = 0 then c0 else c1, b3), fun q hq => ?_, Env.Sub.cons rfl rfl (Env.Sub.cons rfl rfl (Env.Sub.cons rfl rfl (Env.Sub.cons rfl rfl (Env.Sub.cons rfl rfl Env.Sub.nil)))), ((Ent.pull 2 rfl).trans ((Ent.pull 2 rfl).trans ((Ent.pull 2 rfl).trans (Ent.pull 3 rfl))))⟩
          rcases (show q = 0 ∨ q = 1 by omega) with rfl | rfl
          · exact hb0
          · exact hb1
      · -- 5
        refine L.alloc T55.z ?_; intro b3
        refine WL.nil ⟨fun _ => Ent.left [_, _] _, ?_⟩
        refine WT.one 3 (by kernel_rfl) rfl ?_
        refine WL.call rfl rfl F20.fn rfl (FT.make fun g gS dj => block_blocks t hg 1 (by omega)) ?_; rintro v1 _ ⟨_, rfl, rfl⟩
        refine WL.nil ⟨fun _ => Ent.left [_, _, _] _, ?_⟩
        refine WT.one 4 (by kernel_rfl) rfl ?_
        refine WL.fact (φ := ∃ a c, v0 = .slice a (blocksL t 0).length c ∧ (0 < (blocksL t 0).length → ∃ b, a = some ⟨b, 0, none⟩)) (fun _ _ _ s => by obtain ⟨_, a, c, e, _, hb⟩ := s.vec_shape 2 rfl; exact ⟨a, c, e, hb⟩) fun ⟨a0, c0, e0, hb0⟩ => ?_
        subst e0
        refine WL.fact (φ := ∃ a c, v1 = .slice a (blocksL t 1).length c ∧ (0 < (blocksL t 1).length → ∃ b, a = some ⟨b, 0, none⟩)) (fun _ _ _ s => by obtain ⟨_, a, c, e, _, hb⟩ := s.vec_shape 0 rfl; exact ⟨a, c, e, hb⟩) fun ⟨a1, c1, e1, hb1⟩ => ?_
        subst e1
        refine L.buildA (cs := [_, _]) T55.ar T55.z rfl rfl ?_
        refine WL.nil ⟨fun _ => Ent.left [_, _, _] _, ?_⟩
        refine WT.one 6 (by kernel_rfl) rfl ?_
        refine L.storeN T55.ag rfl rfl rfl (Wrs.all 1 rfl rfl (by simp [Value.oneCell'])) ?_
        refine WL.nil ⟨fun e => absurd e (by decide), ?_⟩
        refine WT.nil (by kernel_rfl) ?_
        refine ⟨(fun q => if q = 0 then a0 else a1, fun q => if q = 0 then c0 else c1, b3), fun q hq => ?_, Env.Sub.cons rfl rfl (Env.Sub.cons rfl rfl (Env.Sub.cons rfl rfl (Env.Sub.cons rfl rfl (Env.Sub.cons rfl rfl Env.Sub.nil)))), ((Ent.pull 2 rfl).trans ((Ent.pull 1 rfl).trans ((Ent.pull 2 rfl).trans (Ent.pull 3 rfl))))⟩
        rcases (show q = 0 ∨ q = 1 by omega) with rfl | rfl
        · exact hb0
        · exact hb1
    · -- 5
      refine L.alloc T55.z ?_; intro b3
      refine WL.nil ⟨fun _ => Ent.left [_] _, ?_⟩
      refine WT.one 1 (by kernel_rfl) rfl ?_
      refine WL.call rfl rfl F20.fn rfl (FT.make fun g gS dj => block_blocks t hg 0 (by omega)) ?_; rintro v0 _ ⟨_, rfl, rfl⟩
      refine WL.nil ⟨fun _ => Ent.left [_, _] _, ?_⟩
      refine WT.one 3 (by kernel_rfl) rfl ?_
      refine WL.call rfl rfl F20.fn rfl (FT.make fun g gS dj => block_blocks t hg 1 (by omega)) ?_; rintro v1 _ ⟨_, rfl, rfl⟩
      refine WL.nil ⟨fun _ => Ent.left [_, _, _] _, ?_⟩
      refine WT.one 4 (by kernel_rfl) rfl ?_
      refine WL.fact (φ := ∃ a c, v0 = .slice a (blocksL t 0).length c ∧ (0 < (blocksL t 0).length → ∃ b, a = some ⟨b, 0, none⟩)) (fun _ _ _ s => by obtain ⟨_, a, c, e, _, hb⟩ := s.vec_shape 1 rfl; exact ⟨a, c, e, hb⟩) fun ⟨a0, c0, e0, hb0⟩ => ?_
      subst e0
      refine WL.fact (φ := ∃ a c, v1 = .slice a (blocksL t 1).length c ∧ (0 < (blocksL t 1).length → ∃ b, a = some ⟨b, 0, none⟩)) (fun _ _ _ s => by obtain ⟨_, a, c, e, _, hb⟩ := s.vec_shape 0 rfl; exact ⟨a, c, e, hb⟩) fun ⟨a1, c1, e1, hb1⟩ => ?_
      subst e1
      refine L.buildA (cs := [_, _]) T55.ar T55.z rfl rfl ?_
      refine WL.nil ⟨fun _ => Ent.left [_, _, _] _, ?_⟩
      refine WT.one 6 (by kernel_rfl) rfl ?_
      refine L.storeN T55.ag rfl rfl rfl (Wrs.all 2 rfl rfl (by simp [Value.oneCell'])) ?_
      refine WL.nil ⟨fun e => absurd e (by decide), ?_⟩
      refine WT.nil (by kernel_rfl) ?_
      refine ⟨(fun q => if q = 0 then a0 else a1, fun q => if q = 0 then c0 else c1, b3), fun q hq => ?_, Env.Sub.cons rfl rfl (Env.Sub.cons rfl rfl (Env.Sub.cons rfl rfl (Env.Sub.cons rfl rfl (Env.Sub.cons rfl rfl Env.Sub.nil)))), ((Ent.pull 1 rfl).trans ((Ent.pull 1 rfl).trans ((Ent.pull 2 rfl).trans (Ent.pull 3 rfl))))⟩
      rcases (show q = 0 ∨ q = 1 by omega) with rfl | rfl
      · exact hb0
      · exact hb1
  · -- behind it
    rintro ⟨a, cc, b3⟩ hnn
    dsimp only at hnn ⊢
    refine WP.seq ?_
    refine WP.regs ?_
    refine L.move rfl ?_
    refine L.lss rfl rfl ?_
    refine WL.nil ?_
    refine WP.condD rfl (fun hT => absurd hT (by omega)) (fun h42 => ?_)
    refine WP.skip ?_
    refine X.thenN ?_
    refine WP.seq ?_
    refine WP.block ?_
    refine WP.loop (X := Nat) (fun i => ⟨109, [], [(3, .int .i64 (gen + (i : Int))), (4, .int .i64 (n - (i : Int))), (5, .pointer (some ⟨b1, 0, none⟩)), (13, .pointer (some ⟨c, 0, none⟩)), (14, .pointer (some ⟨b3, 0, none⟩))]⟩) (fun i => [fieldHP c false W H 2 (seqF bs t (fun i => gen + (i : Int)) F i), cl b3 [.slice (a 0) (blocksL t 0).length (cc 0), .slice (a 1) (blocksL t 1).length (cc 1)] 55, vec 59 8 (.slice (a 1) (blocksL t 1).length (cc 1)) (blocksL t 1).length (flatB (blocksL t 1)), vec 59 8 (.slice (a 0) (blocksL t 0).length (cc 0)) (blocksL t 0).length (flatB (blocksL t 0)), cl b2 (topoC t) 24, cl b1 (u8C bs) 22]) (fun i => (i : Int) ≤ n) (fun i => n.toNat - i) 0 (by omega) (Env.Sub.cons rfl (congrArg (Value.int .i64) (by omega)) (Env.Sub.cons rfl (congrArg (Value.int .i64) (by omega)) (Env.Sub.cons rfl rfl (Env.Sub.cons rfl rfl (Env.Sub.cons rfl rfl Env.Sub.nil))))) (Ent.refl _) ?_
    intro i hi
    refine WP.seq ?_
    refine WP.regs ?_
    refine L.move rfl ?_
    refine L.neq rfl rfl ?_
    refine WL.nil ?_
    refine WP.condD rfl (fun h46 => ?_) (fun h46 => ?_)
    · -- then
      refine WP.skip ?_
      refine X.thenN ?_
      refine WP.block ?_
      refine WP.regs ?_
      refine L.move rfl ?_
      refine L.assign rfl ?_
      refine WL.nil ?_
      refine WP.seq ?_
      refine WP.regs ?_
      refine L.move rfl ?_
      refine L.gtr rfl rfl ?_
      refine WL.nil ?_
      refine WP.condD rfl (fun h49 => ?_) (fun hF => absurd hF (by omega))
      refine WP.region ?_
      refine L.move rfl ?_
      refine L.add' rfl rfl (by omega) ?_
      refine L.move rfl ?_
      refine L.sub' rfl rfl (by omega) ?_
      refine L.assign rfl ?_
      refine L.assign rfl ?_
      refine WL.nil ?_
      refine X.thenN ?_
      refine WP.regs ?_
      refine L.move rfl ?_
      refine L.and rfl rfl ?_
      obtain ⟨q, hq, hqa, hqb⟩ := par (gen + (i : Int)) (by omega)
      rw [hqa]
      refine L.indexA T55.ar rfl rfl (by omega) ?_
      refine L.load T53.sc rfl (v := .slice (a q) (blocksL t q).length (cc q)) (Rd.own 1 rfl (by rw [Nat.zero_add, Nat.mul_one, Int.toNat_natCast]; rcases (show q = 0 ∨ q = 1 by omega) with rfl | rfl <;> rfl)) ?_
      refine L.lenS T53.sl rfl rfl ?_
      refine L.move rfl ?_
      refine WL.nil ?_
      refine WP.block ?_
      refine WP.loop (X := Nat) (fun m => ⟨109, [], [(3, .int .i64 (gen + ((i + 1 : Nat) : Int))), (4, .int .i64 (n - ((i + 1 : Nat) : Int))), (5, .pointer (some ⟨b1, 0, none⟩)), (13, .pointer (some ⟨c, 0, none⟩)), (14, .pointer (some ⟨b3, 0, none⟩)), (62, .slice (a q) (blocksL t q).length (cc q)), (63, .int .i64 ((blocksL t q).length : Int)), (64, .int .i64 (m : Int))]⟩) (fun m => [fieldHP c false W H 2 (((blocksL t q).take m).foldl (applyB bs) (seqF bs t (fun i => gen + (i : Int)) F i)), cl b3 [.slice (a 0) (blocksL t 0).length (cc 0), .slice (a 1) (blocksL t 1).length (cc 1)] 55, vec 59 8 (.slice (a 1) (blocksL t 1).length (cc 1)) (blocksL t 1).length (flatB (blocksL t 1)), vec 59 8 (.slice (a 0) (blocksL t 0).length (cc 0)) (blocksL t 0).length (flatB (blocksL t 0)), cl b2 (topoC t) 24, cl b1 (u8C bs) 22]) (fun m => m ≤ (blocksL t q).length) (fun m => (blocksL t q).length - m) 0 (Nat.zero_le _) (Env.Sub.cons rfl (congrArg (Value.int .i64) (by omega)) (Env.Sub.cons rfl (congrArg (Value.int .i64) (by omega)) (Env.Sub.cons rfl rfl (Env.Sub.cons rfl rfl (Env.Sub.cons rfl rfl (Env.Sub.cons rfl rfl (Env.Sub.cons rfl rfl (Env.Sub.cons rfl rfl Env.Sub.nil)))))))) (Ent.refl _) ?_
      intro m hm
      refine WP.regs ?_
      refine L.lss rfl rfl ?_
      refine WL.nil ?_
      refine WP.seq ?_
      refine WP.condD rfl (fun h65 => ?_) (fun h65 => ?_)
      · -- then
        obtain ⟨bl, hbl⟩ : ∃ bl, (blocksL t q)[m]? = some bl := ⟨_, List.getElem?_eq_getElem (by omega)⟩
        have hin4 := blocksL_in t hg.toGood hWw hHh q (List.mem_of_getElem? hbl)
        have hall := fun b hb => (blocksL_in t hg.toGood hWw hHh q (b := b) hb).1
        obtain ⟨bq, hbq⟩ := hnn q hq (by omega)
        generalize hFm : ((blocksL t q).take m).foldl (applyB bs) (seqF bs t (fun i => gen + (i : Int)) F i) = Fm
        refine WP.fact (φ := FOk false W H 2 Fm) (fun _ _ _ s => by obtain ⟨g, i⟩ := s.inn 0 rfl; exact (In.field i).1) fun hFo => ?_
        have hv16 : fromN Fm bl 4 < 16 := fromN_lt hFo.F 4
        refine WP.skip ?_
        refine X.thenN ?_
        refine WP.seq ?_
        refine WP.block ?_
        refine WP.regs ?_
        refine L.indexS T53.sl (by show some (Value.slice (a q) _ _) = _; rw [hbq]) rfl (by omega) ?_
        refine L.loadN T59.ag rfl (flat_one hin4.1) (vs := flatB [bl]) (Rds.vec (E := 59) (sz := 8) (n := (blocksL t q).length) (cap := cc q) (cs := flatB (blocksL t q)) (3 - q) (by rw [← hbq]; rcases (show q = 0 ∨ q = 1 by omega) with rfl | rfl <;> rfl) (fun j v hj => by rw [Nat.zero_add, Int.toNat_natCast]; exact flatB_at hall hbl j v hj)) ?_
        refine L.alloc T59.z ?_; intro b4
        refine L.storeN T59.ag rfl rfl (flat_one hin4.1) (Wrs.all 0 rfl (by rw [flat_one hin4.1]; rfl) flat_cell) ?_
        refine WL.nil ?_
        refine WP.regs ?_
        refine L.assign rfl ?_
        refine WL.nil ?_
        refine WP.seq ?_
        refine WP.regs ?_
        refine L.loadN T59.ag rfl (flat_one hin4.1) (Rds.all 0 rfl) ?_
        refine L.move rfl ?_
        refine WL.nil ?_
        refine WP.block ?_
        refine WP.loop (X := Nat) (fun r => ⟨109, [], [(3, .int .i64 (gen + ((i + 1 : Nat) : Int))), (4, .int .i64 (n - ((i + 1 : Nat) : Int))), (5, .pointer (some ⟨b1, 0, none⟩)), (13, .pointer (some ⟨c, 0, none⟩)), (14, .pointer (some ⟨b3, 0, none⟩)), (62, .slice (a q) (blocksL t q).length (cc q)), (63, .int .i64 ((blocksL t q).length : Int)), (64, .int .i64 (m : Int)), (17, .pointer (some ⟨b4, 0, none⟩)), (18, .int .i64 ((fromN Fm bl r : Nat) : Int)), (68, .agg (flatB [bl]).toArray), (69, .int .i64 (r : Int))]⟩) (fun r => [cl b4 (flatB [bl]) 59, fieldHP c false W H 2 (Fm), cl b3 [.slice (a 0) (blocksL t 0).length (cc 0), .slice (a 1) (blocksL t 1).length (cc 1)] 55, vec 59 8 (.slice (a 1) (blocksL t 1).length (cc 1)) (blocksL t 1).length (flatB (blocksL t 1)), vec 59 8 (.slice (a 0) (blocksL t 0).length (cc 0)) (blocksL t 0).length (flatB (blocksL t 0)), cl b2 (topoC t) 24, cl b1 (u8C bs) 22]) (fun r => r ≤ 4) (fun r => 4 - r) 0 (by omega) (Env.Sub.cons rfl rfl (Env.Sub.cons rfl rfl (Env.Sub.cons rfl rfl (Env.Sub.cons rfl rfl (Env.Sub.cons rfl rfl (Env.Sub.cons rfl rfl (Env.Sub.cons rfl rfl (Env.Sub.cons rfl rfl (Env.Sub.cons rfl rfl (Env.Sub.cons rfl rfl (Env.Sub.cons rfl rfl (Env.Sub.cons rfl rfl Env.Sub.nil)))))))))))) (Ent.refl _) ?_
        intro r hr
        refine WP.regs ?_
        refine L.lss rfl rfl ?_
        refine WL.nil ?_
        refine WP.seq ?_
        refine WP.condD rfl (fun h70 => ?_) (fun h70 => ?_)
        · -- then
          refine WP.skip ?_
          refine X.thenN ?_
          refine WP.seq ?_
          refine WP.block ?_
          refine WP.regs ?_
          refine L.move rfl ?_
          refine L.indexN (vs := [.int .i64 ((ppB bl r).1 : Int), .int .i64 ((ppB bl r).2 : Int)]) T59.ar rfl rfl (by omega) (by rw [Int.toNat_natCast]; exact blk_extract hin4.1 (by omega)) ?_
          refine L.alloc T58.z ?_; intro b5
          refine L.assign rfl ?_
          refine L.storeN T58.ag rfl rfl rfl (Wrs.all 0 rfl rfl (by simp [Value.oneCell'])) ?_
          refine WL.nil ?_
          refine WP.regs ?_
          refine L.move rfl ?_
          refine L.fieldAddr (o' := 0) T58.f0 rfl rfl ?_
          refine L.load T3.sc rfl (Rd.own 0 rfl rfl) ?_
          refine L.fieldAddr (o' := 1) T58.f1 rfl rfl ?_
          refine L.load T3.sc rfl (Rd.own 0 rfl rfl) ?_
          refine WL.callV rfl rfl F22.fn rfl (fun g gS dj => field_Get_bytes (ppB bl r).1 (ppB bl r).2 (hin4.2 r).1 (hin4.2 r).2 (In.of_stars' 2 rfl gS dj)) ?_   -- (*vivarium/field.Field).Get slot 79
          refine L.move rfl ?_
          refine L.extract rfl rfl ?_
          refine L.extract rfl rfl ?_
          refine L.assign rfl ?_
          refine L.assign rfl ?_
          refine WL.nil ?_
          refine WP.region ?_
          refine L.move rfl ?_
          refine L.move rfl ?_
          refine L.convInt T5.u T3.u rfl ?_
          refine L.move rfl ?_
          refine L.shl rfl rfl (by omega) ?_
          refine L.or rfl rfl ?_
          refine L.assign rfl ?_
          refine WL.nil ?_
          refine X.blockN ?_
          refine X.thenN ?_
          refine WP.region ?_
          refine L.add' rfl rfl (by omega) ?_
          refine L.move rfl ?_
          refine WL.nil ?_
          refine X.thenN ⟨r + 1, by omega, by omega, (Env.Sub.cons rfl rfl (Env.Sub.cons rfl rfl (Env.Sub.cons rfl rfl (Env.Sub.cons rfl rfl (Env.Sub.cons rfl rfl (Env.Sub.cons rfl rfl (Env.Sub.cons rfl rfl (Env.Sub.cons rfl rfl (Env.Sub.cons rfl rfl (Env.Sub.cons rfl (congrArg (Value.int .i64) (or_step r (by omega) _ (fromN_lt hFo.F r) _ (hFo.F _ _)).symm) (Env.Sub.cons rfl rfl (Env.Sub.cons rfl rfl Env.Sub.nil)))))))))))), Ent.drop 0⟩
        · -- else
          refine WP.exit ?_
          refine X.thenE (X.thenE (X.blockE ?_))
          refine X.thenN ?_
          refine WP.regs ?_
          refine L.loadN T59.ag rfl (flat_one hin4.1) (Rds.all 0 rfl) ?_
          refine L.move rfl ?_
          refine WL.nil ?_
          refine WP.block ?_
          refine WP.loop (X := Nat) (fun r => ⟨109, [], [(3, .int .i64 (gen + ((i + 1 : Nat) : Int))), (4, .int .i64 (n - ((i + 1 : Nat) : Int))), (5, .pointer (some ⟨b1, 0, none⟩)), (13, .pointer (some ⟨c, 0, none⟩)), (14, .pointer (some ⟨b3, 0, none⟩)), (62, .slice (a q) (blocksL t q).length (cc q)), (63, .int .i64 ((blocksL t q).length : Int)), (64, .int .i64 (m : Int)), (17, .pointer (some ⟨b4, 0, none⟩)), (18, .int .i64 ((fromN Fm bl 4 : Nat) : Int)), (89, .agg (flatB [bl]).toArray), (90, .int .i64 (r : Int))]⟩) (fun r => [cl b4 (flatB [bl]) 59, fieldHP c false W H 2 (setTo bs (fromN Fm bl 4) bl Fm r), cl b3 [.slice (a 0) (blocksL t 0).length (cc 0), .slice (a 1) (blocksL t 1).length (cc 1)] 55, vec 59 8 (.slice (a 1) (blocksL t 1).length (cc 1)) (blocksL t 1).length (flatB (blocksL t 1)), vec 59 8 (.slice (a 0) (blocksL t 0).length (cc 0)) (blocksL t 0).length (flatB (blocksL t 0)), cl b2 (topoC t) 24, cl b1 (u8C bs) 22]) (fun r => r ≤ 4) (fun r => 4 - r) 0 (by omega) (Env.Sub.cons rfl rfl (Env.Sub.cons rfl rfl (Env.Sub.cons rfl rfl (Env.Sub.cons rfl rfl (Env.Sub.cons rfl rfl (Env.Sub.cons rfl rfl (Env.Sub.cons rfl rfl (Env.Sub.cons rfl rfl (Env.Sub.cons rfl rfl (Env.Sub.cons rfl (by obtain rfl : r = 4 := (by omega); rfl) (Env.Sub.cons rfl rfl (Env.Sub.cons rfl rfl Env.Sub.nil)))))))))))) (Ent.refl _) ?_
          intro r hr
          refine WP.regs ?_
          refine L.lss rfl rfl ?_
          refine WL.nil ?_
          refine WP.seq ?_
          refine WP.condD rfl (fun h91 => ?_) (fun h91 => ?_)
          · -- then
            refine WP.skip ?_
            refine X.thenN ?_
            refine WP.seq ?_
            refine WP.block ?_
            refine WP.regs ?_
            refine L.move rfl ?_
            refine L.indexN (vs := [.int .i64 ((ppB bl r).1 : Int), .int .i64 ((ppB bl r).2 : Int)]) T59.ar rfl rfl (by omega) (by rw [Int.toNat_natCast]; exact blk_extract hin4.1 (by omega)) ?_
            refine L.alloc T58.z ?_; intro b6
            refine L.assign rfl ?_
            refine L.storeN T58.ag rfl rfl rfl (Wrs.all 0 rfl rfl (by simp [Value.oneCell'])) ?_
            refine WL.nil ?_
            refine WP.rege [(0, true), (1, true), (2, true), (3, true), (4, true), (5, true), (6, true), (7, true), (8, true), (9, true), (10, true), (11, false)] 11 rfl (by kernel_rfl) (PInv.block (PInv.then (PInv.then (PInv.block (PInv.block (PInv.then (PInv.then (PInv.block (PInv.block (PInv.then (PInv.block (PInv.then PInv.ret)))))))))))) rfl ?_
            refine WE.take rfl (V.move rfl) ?_
            refine WE.take rfl (V.fieldAddr (o' := 0) T58.f0 rfl rfl) ?_
            refine WE.take rfl (V.load T3.sc rfl (Rd.own 0 rfl rfl)) ?_
            refine WE.take rfl (V.fieldAddr (o' := 1) T58.f1 rfl rfl) ?_
            refine WE.take rfl (V.load T3.sc rfl (Rd.own 0 rfl rfl)) ?_
            refine WE.take rfl (V.move rfl) ?_
            refine WE.take rfl (V.indexA T22.ar rfl rfl (by omega)) ?_
            refine WE.take rfl (V.load T5.sc rfl (v := .int .u8 ((bs.getD (fromN Fm bl 4) 0).toNat : Nat)) (Rd.own 7 rfl (by rw [Nat.zero_add, Nat.mul_one, Int.toNat_natCast, Int.toNat_of_nonneg (hbs.bd _).1]; exact u8_at (by rw [hbs.len]; omega)))) ?_
            refine WE.take rfl (V.move rfl) ?_
            refine WE.take rfl (V.shr rfl rfl (by omega)) ?_
            refine WE.take rfl (V.and rfl rfl) ?_
            refine WE.last rfl ?_
            rw [show bits .and .u8 ((((bs.getD (fromN Fm bl 4) 0).toNat : Nat) : Int) / 2 ^ min (r : Int).toNat IntKind.u8.bits) 1 = ((newBit bs (fromN Fm bl 4) r : Nat) : Int) from and_step r (by omega) _ (by have := hbs.bd (fromN Fm bl 4); omega)]
            refine WL.call rfl rfl F7.fn rfl (FT.part [fieldHP c false W H 2 (setTo bs (fromN Fm bl 4) bl Fm r)] _ (Ent.pull 2 rfl) fun g gS dj => field_Set_bytes (ppB bl r).1 (ppB bl r).2 (newBit bs (fromN Fm bl 4) r) (hin4.2 r).1 (hin4.2 r).2 (Nat.mod_lt _ (by omega))) ?_; rintro _ _ ⟨_, ⟨rfl, rfl⟩, rfl⟩
            refine WL.nil ?_
            refine WE.nil ?_
            refine X.blockN ?_
            refine X.thenN ?_
            refine WP.region ?_
            refine L.add' rfl rfl (by omega) ?_
            refine L.move rfl ?_
            refine WL.nil ?_
            refine X.thenN ⟨r + 1, by omega, by omega, (Env.Sub.cons rfl rfl (Env.Sub.cons rfl rfl (Env.Sub.cons rfl rfl (Env.Sub.cons rfl rfl (Env.Sub.cons rfl rfl (Env.Sub.cons rfl rfl (Env.Sub.cons rfl rfl (Env.Sub.cons rfl rfl (Env.Sub.cons rfl rfl (Env.Sub.cons rfl rfl (Env.Sub.cons rfl rfl (Env.Sub.cons rfl rfl Env.Sub.nil)))))))))))), (Ent.drop 1).trans (Ent.perm (List.Perm.swap _ _ _))⟩
          · -- else
            refine WP.exit ?_
            refine X.thenE (X.thenE (X.blockE ?_))
            refine X.blockN ?_
            refine X.thenN ?_
            refine WP.region ?_
            have hlq : (blocksL t q).length ≤ 32768 * 32768 := Nat.le_trans (allB_len t q _ _) (Nat.mul_le_mul (by omega) (by omega))
            refine L.add' rfl rfl (by omega) ?_
            refine L.move rfl ?_
            refine WL.nil ?_
            refine X.thenN ⟨m + 1, by omega, by omega, (Env.Sub.cons rfl rfl (Env.Sub.cons rfl rfl (Env.Sub.cons rfl rfl (Env.Sub.cons rfl rfl (Env.Sub.cons rfl rfl (Env.Sub.cons rfl rfl (Env.Sub.cons rfl rfl (Env.Sub.cons rfl rfl Env.Sub.nil)))))))), (Ent.drop 0).trans (Ent.of_eq (by rw [foldl_take_succ hbl, hFm]; obtain rfl : r = 4 := (by omega); rfl))⟩
      · -- else
        refine WP.exit ?_
        refine X.thenE (X.thenE (X.blockE ?_))
        refine X.blockN ?_
        refine X.thenN ⟨i + 1, by omega, by omega, (Env.Sub.cons rfl rfl (Env.Sub.cons rfl rfl (Env.Sub.cons rfl rfl (Env.Sub.cons rfl rfl (Env.Sub.cons rfl rfl Env.Sub.nil))))), Ent.of_eq (by have e : m = (blocksL t q).length := (by omega); rw [e, List.take_length, ← hqb]; rfl)⟩
    · -- else
      refine WP.exit ?_
      refine X.thenE (X.thenE (X.blockE ?_))
      refine X.thenN ?_
      refine WP.regs ?_
      refine L.move rfl ?_
      refine L.assign rfl ?_
      refine L.assign rfl ?_
      refine WL.nil ?_
      refine WP.ret ?_
      refine X.ret rfl (Res.two rfl rfl rfl) ?_
      obtain rfl : i = n.toNat := by omega
      exact ⟨_, rfl, _, ⟨c, rfl, rfl⟩, Ent.right [_] _⟩

set_option maxRecDepth 10000 in
theorem block_Run_bwd_bytes (bs : List Int) (hbs : Blk bs) (t : Topo) (hg : t.Even) {b : Nat} {W H : Nat} {F : Nat → Nat → Nat} (hWw : (W : Int) = t.w) (hHh : (H : Int) = t.h) (gen n : Int) (hgen : 0 ≤ gen ∧ gen ≤ 1125899906842624) (hsp : 0 ≤ gen + n ∧ gen + n ≤ 1125899906842624) (hturn : n < 0 → seenTo bs 16 = onceTo 16) (hwork : n ≤ 67108864 / (t.w * t.h) ∧ -n ≤ 67108864 / (t.w * t.h)) (hn : n < 0) (hin : In (fieldHP b false W H 2 F) h0) : FT Pg 8 [.agg (u8C bs).toArray, .agg (topoC t).toArray, .pointer (some ⟨b, 0, none⟩), .int .i64 gen, .int .i64 n] k h0 [] (Ret fun v τ => ∃ c : Nat, v = .tuple #[.pointer (some ⟨c, 0, none⟩), .int .i64 0] ∧ τ = [fieldHP c false W H 2 (seqF (backTo bs 16) t (fun i => gen - (i : Int) - 1) F (-n).toNat)]) := by
  have hk := hg.kind; have hk2 := hg.kind2; have hw := hg.w; have hh := hg.h; have hw0 := hg.w0; have hh0 := hg.h0; have hwe := hg.we; have hhe := hg.he; have hse := hg.se; have hwi := hg.wide; have hhi := hg.high; have hno := hg.none; have htn := hg.turn; have hfl := hg.flat
  refine FT.tight ?_
  refine FT.of_wp (n := 109) Try.func8 rfl rfl rfl ?_
  refine WP.regs ?_
  refine L.box rfl rfl ?_; intro b1
  refine L.box rfl rfl ?_; intro b2
  refine L.assign rfl ?_
  refine L.assign rfl ?_
  refine WL.nil ?_
  refine WP.seq ?_
  refine WP.regs ?_
  refine L.loadN T22.ag rfl (by simp [hbs.len]) (Rds.all 1 rfl) ?_
  refine L.loadN T24.ag rfl rfl (Rds.all 0 rfl) ?_
  refine L.move rfl ?_
  refine L.move rfl ?_
  refine L.move rfl ?_
  refine WL.callV rfl rfl F18.fn rfl (fun g gS dj => block_asked_bytes bs hbs t hg hWw hHh gen n hgen hsp hturn hwork (hin.mono (Hp.le_un_left _ _))) ?_   -- vivarium/block.asked slot 30
  refine L.assign rfl ?_
  refine WL.nil ?_
  refine WP.regs ?_
  refine L.move rfl ?_
  refine L.neq rfl rfl ?_
  refine WL.nil ?_
  refine WP.condD rfl (fun hT => absurd hT (by omega)) (fun h32 => ?_)
  refine WP.skip ?_
  refine X.thenN ?_
  refine WP.regs ?_
  refine L.move rfl ?_
  refine WL.call rfl rfl F19.fn rfl (FT.make fun g gS dj => field_Clone_bytes (hin.mono (Hp.le_un_left _ _))) ?_; rintro _ _ ⟨_, ⟨c, rfl, rfl⟩, rfl⟩
  refine L.assign rfl ?_
  refine WL.nil ?_
  refine WP.cut (X := (Nat → Option Addr) × (Nat → Nat) × Nat) (fun x => ⟨109, [], [(3, .int .i64 gen), (4, .int .i64 n), (5, .pointer (some ⟨b1, 0, none⟩)), (13, .pointer (some ⟨c, 0, none⟩)), (14, .pointer (some ⟨x.2.2, 0, none⟩))]⟩) (fun x => [fieldHP c false W H 2 (F), cl x.2.2 [.slice (x.1 0) (blocksL t 0).length (x.2.1 0), .slice (x.1 1) (blocksL t 1).length (x.2.1 1)] 55, vec 59 8 (.slice (x.1 1) (blocksL t 1).length (x.2.1 1)) (blocksL t 1).length (flatB (blocksL t 1)), vec 59 8 (.slice (x.1 0) (blocksL t 0).length (x.2.1 0)) (blocksL t 0).length (flatB (blocksL t 0)), cl b2 (topoC t) 24, cl b1 (u8C bs) 22]) (fun x => ∀ q, q < 2 → 0 < (blocksL t q).length → ∃ b, x.1 q = some ⟨b, 0, none⟩) ?_ ?_
  · -- the region
    refine WP.regf [(0, true), (2, true)] 6 5 #[true, false, true, false, false, false, false] rfl (by kernel_rfl) (PInv.then PInv.ret) rfl ?_
    refine WE.take rfl (V.loadN T24.ag rfl rfl (Rds.all 1 rfl)) ?_
    refine WE.take rfl (V.loadN T24.ag rfl rfl (Rds.all 1 rfl)) ?_
    refine WE.free _ ?_
    refine WT.both 1 5 (by kernel_rfl) rfl rfl ?_ ?_
    · -- 1
      refine WL.call rfl rfl F20.fn rfl (FT.make fun g gS dj => block_blocks t hg 0 (by omega)) ?_; rintro v0 _ ⟨_, rfl, rfl⟩
      refine WL.nil ⟨fun _ => Ent.left [_] _, ?_⟩
      refine WT.both 3 5 (by kernel_rfl) rfl rfl ?_ ?_
      · -- 3
        refine WL.call rfl rfl F20.fn rfl (FT.make fun g gS dj => block_blocks t hg 1 (by omega)) ?_; rintro v1 _ ⟨_, rfl, rfl⟩
        refine WL.nil ⟨fun _ => Ent.left [_, _] _, ?_⟩
        refine WT.both 4 5 (by kernel_rfl) rfl rfl ?_ ?_
        · -- 4
          refine WL.fact (φ := ∃ a c, v0 = .slice a (blocksL t 0).length c ∧ (0 < (blocksL t 0).length → ∃ b, a = some ⟨b, 0, none⟩)) (fun _ _ _ s => by obtain ⟨_, a, c, e, _, hb⟩ := s.vec_shape 1 rfl; exact ⟨a, c, e, hb⟩) fun ⟨a0, c0, e0, hb0⟩ => ?_
          subst e0
          refine WL.fact (φ := ∃ a c, v1 = .slice a (blocksL t 1).length c ∧ (0 < (blocksL t 1).length → ∃ b, a = some ⟨b, 0, none⟩)) (fun _ _ _ s => by obtain ⟨_, a, c, e, _, hb⟩ := s.vec_shape 0 rfl; exact ⟨a, c, e, hb⟩) fun ⟨a1, c1, e1, hb1⟩ => ?_
          subst e1
          refine L.buildA (cs := [_, _]) T55.ar T55.z rfl rfl ?_
          refine WL.nil ⟨fun _ => Ent.left [_, _] _, ?_⟩
          refine WT.one 5 (by kernel_rfl) rfl ?_
          refine L.alloc T55.z ?_; intro b3
          refine WL.nil ⟨fun _ => Ent.left [_, _, _] _, ?_⟩
          refine WT.one 6 (by kernel_rfl) rfl ?_
          refine L.storeN T55.ag rfl rfl rfl (Wrs.all 0 rfl rfl (by simp [Value.oneCell'])) ?_
          refine WL.nil ⟨fun e => absurd e (by decide), ?_⟩
          refine WT.nil (by kernel_rfl) ?_
          refine ⟨(fun q => if q = 0 then a0 else a1, fun q => if q = 0 then c0 else c1, b3), fun q hq => ?_, Env.Sub.cons rfl rfl (Env.Sub.cons rfl rfl (Env.Sub.cons rfl rfl (Env.Sub.cons rfl rfl (Env.Sub.cons rfl rfl Env.Sub.nil)))), ((Ent.pull 2 rfl).trans ((Ent.pull 2 rfl).trans ((Ent.pull 2 rfl).trans (Ent.pull 3 rfl))))⟩
          rcases (show q = 0 ∨ q = 1 by omega) with rfl | rfl
          · exact hb0
          · exact hb1
        · -- 5
          refine L.alloc T55.z ?_; intro b3
          refine WL.nil ⟨fun _ => Ent.left [_, _, _] _, ?_⟩
          refine WT.one 4 (by kernel_rfl) rfl ?_
          refine WL.fact (φ := ∃ a c, v0 = .slice a (blocksL t 0).length c ∧ (0 < (blocksL t 0).length → ∃ b, a = some ⟨b, 0, none⟩)) (fun _ _ _ s => by obtain ⟨_, a, c, e, _, hb⟩ := s.vec_shape 2 rfl; exact ⟨a, c, e, hb⟩) fun ⟨a0, c0, e0, hb0⟩ => ?_
          subst e0
          refine WL.fact (φ := ∃ a c, v1 = .slice a (blocksL t 1).length c ∧ (0 < (blocksL t 1).length → ∃ b, a = some ⟨b, 0, none⟩)) (fun _ _ _ s => by obtain ⟨_, a, c, e, _, hb⟩ := s.vec_shape 1 rfl; exact ⟨a, c, e, hb⟩) fun ⟨a1, c1, e1, hb1⟩ => ?_
          subst e1
          refine L.buildA (cs := [_, _]) T55.ar T55.z rfl rfl ?_
          refine WL.nil ⟨fun _ => Ent.left [_, _, _] _, ?_⟩
          refine WT.one 6 (by kernel_rfl) rfl ?_
          refine L.storeN T55.ag rfl rfl rfl (Wrs.all 0 rfl rfl (by simp [Value.oneCell'])) ?_
          refine WL.nil ⟨fun e => absurd e (by decide), ?_⟩
          refine WT.nil (by kernel_rfl) ?_
          refine ⟨(fun q => if q = 0 then a0 else a1, fun q => if q = 0 then c0 else c1, b3), fun q hq => ?_, Env.Sub.cons rfl rfl (Env.Sub.cons rfl rfl (Env.Sub.cons rfl rfl (Env.Sub.cons rfl rfl (Env.Sub.cons rfl rfl Env.Sub.nil)))), ((Ent.pull 2 rfl).trans ((Ent.pull 2 rfl).trans ((Ent.pull 2 rfl).trans (Ent.pull 3 rfl))))⟩
          rcases (show q = 0 ∨ q = 1 by omega) with rfl | rfl
          · exact hb0
          · exact hb1
      · -- 5
        refine L.alloc T55.z ?_; intro b3
        refine WL.nil ⟨fun _ => Ent.left [_, _] _, ?_⟩
        refine WT.one 3 (by kernel_rfl) rfl ?_
        refine WL.call rfl rfl F20.fn rfl (FT.make fun g gS dj => block_blocks t hg 1 (by omega)) ?_; rintro v1 _ ⟨_, rfl, rfl⟩
        refine WL.nil ⟨fun _ => Ent.left [_, _, _] _, ?_⟩
        refine WT.one 4 (by kernel_rfl) rfl ?_
        refine WL.fact (φ := ∃ a c, v0 = .slice a (blocksL t 0).length c ∧ (0 < (blocksL t 0).length → ∃ b, a = some ⟨b, 0, none⟩)) (fun _ _ _ s => by obtain ⟨_, a, c, e, _, hb⟩ := s.vec_shape 2 rfl; exact ⟨a, c, e, hb⟩) fun ⟨a0, c0, e0, hb0⟩ => ?_
        subst e0
        refine WL.fact (φ := ∃ a c, v1 = .slice a (blocksL t 1).length c ∧ (0 < (blocksL t 1).length → ∃ b, a = some ⟨b, 0, none⟩)) (fun _ _ _ s => by obtain ⟨_, a, c, e, _, hb⟩ := s.vec_shape 0 rfl; exact ⟨a, c, e, hb⟩) fun ⟨a1, c1, e1, hb1⟩ => ?_
        subst e1
        refine L.buildA (cs := [_, _]) T55.ar T55.z rfl rfl ?_
        refine WL.nil ⟨fun _ => Ent.left [_, _, _] _, ?_⟩
        refine WT.one 6 (by kernel_rfl) rfl ?_
        refine L.storeN T55.ag rfl rfl rfl (Wrs.all 1 rfl rfl (by simp [Value.oneCell'])) ?_
        refine WL.nil ⟨fun e => absurd e (by decide), ?_⟩
        refine WT.nil (by kernel_rfl) ?_
        refine ⟨(fun q => if q = 0 then a0 else a1, fun q => if q = 0 then c0 else c1, b3), fun q hq => ?_, Env.Sub.cons rfl rfl (Env.Sub.cons rfl rfl (Env.Sub.cons rfl rfl (Env.Sub.cons rfl rfl (Env.Sub.cons rfl rfl Env.Sub.nil)))), ((Ent.pull 2 rfl).trans ((Ent.pull 1 rfl).trans ((Ent.pull 2 rfl).trans (Ent.pull 3 rfl))))⟩
        rcases (show q = 0 ∨ q = 1 by omega) with rfl | rfl
        · exact hb0
        · exact hb1
    · -- 5
      refine L.alloc T55.z ?_; intro b3
      refine WL.nil ⟨fun _ => Ent.left [_] _, ?_⟩
      refine WT.one 1 (by kernel_rfl) rfl ?_
      refine WL.call rfl rfl F20.fn rfl (FT.make fun g gS dj => block_blocks t hg 0 (by omega)) ?_; rintro v0 _ ⟨_, rfl, rfl⟩
      refine WL.nil ⟨fun _ => Ent.left [_, _] _, ?_⟩
      refine WT.one 3 (by kernel_rfl) rfl ?_
      refine WL.call rfl rfl F20.fn rfl (FT.make fun g gS dj => block_blocks t hg 1 (by omega)) ?_; rintro v1 _ ⟨_, rfl, rfl⟩
      refine WL.nil ⟨fun _ => Ent.left [_, _, _] _, ?_⟩
      refine WT.one 4 (by kernel_rfl) rfl ?_
      refine WL.fact (φ := ∃ a c, v0 = .slice a (blocksL t 0).length c ∧ (0 < (blocksL t 0).length → ∃ b, a = some ⟨b, 0, none⟩)) (fun _ _ _ s => by obtain ⟨_, a, c, e, _, hb⟩ := s.vec_shape 1 rfl; exact ⟨a, c, e, hb⟩) fun ⟨a0, c0, e0, hb0⟩ => ?_
      subst e0
      refine WL.fact (φ := ∃ a c, v1 = .slice a (blocksL t 1).length c ∧ (0 < (blocksL t 1).length → ∃ b, a = some ⟨b, 0, none⟩)) (fun _ _ _ s => by obtain ⟨_, a, c, e, _, hb⟩ := s.vec_shape 0 rfl; exact ⟨a, c, e, hb⟩) fun ⟨a1, c1, e1, hb1⟩ => ?_
      subst e1
      refine L.buildA (cs := [_, _]) T55.ar T55.z rfl rfl ?_
      refine WL.nil ⟨fun _ => Ent.left [_, _, _] _, ?_⟩
      refine WT.one 6 (by kernel_rfl) rfl ?_
      refine L.storeN T55.ag rfl rfl rfl (Wrs.all 2 rfl rfl (by simp [Value.oneCell'])) ?_
      refine WL.nil ⟨fun e => absurd e (by decide), ?_⟩
      refine WT.nil (by kernel_rfl) ?_
      refine ⟨(fun q => if q = 0 then a0 else a1, fun q => if q = 0 then c0 else c1, b3), fun q hq => ?_, Env.Sub.cons rfl rfl (Env.Sub.cons rfl rfl (Env.Sub.cons rfl rfl (Env.Sub.cons rfl rfl (Env.Sub.cons rfl rfl Env.Sub.nil)))), ((Ent.pull 1 rfl).trans ((Ent.pull 1 rfl).trans ((Ent.pull 2 rfl).trans (Ent.pull 3 rfl))))⟩
      rcases (show q = 0 ∨ q = 1 by omega) with rfl | rfl
      · exact hb0
      · exact hb1
  · -- behind it
    rintro ⟨a, cc, b3⟩ hnn
    dsimp only at hnn ⊢
    refine WP.seq ?_
    refine WP.regs ?_
    refine L.move rfl ?_
    refine L.lss rfl rfl ?_
    refine WL.nil ?_
    refine WP.condD rfl (fun h42 => ?_) (fun hF => absurd hF (by omega))
    refine WP.region ?_
    refine L.loadN T22.ag rfl (by simp [hbs.len]) (Rds.all 5 rfl) ?_
    refine WL.callV rfl rfl F21.fn rfl (fun g gS dj => block_back bs hbs) ?_   -- vivarium/block.back slot 44
    refine L.storeN T22.ag rfl rfl (by simp [length_backTo]) (Wrs.all 5 rfl (by simp [hbs.len, length_backTo]) (by simp [u8C, Value.oneCell'])) ?_
    refine WL.nil ?_
    refine X.thenN ?_
    refine WP.seq ?_
    refine WP.block ?_
    refine WP.loop (X := Nat) (fun i => ⟨109, [], [(3, .int .i64 (gen - (i : Int))), (4, .int .i64 (n + (i : Int))), (5, .pointer (some ⟨b1, 0, none⟩)), (13, .pointer (some ⟨c, 0, none⟩)), (14, .pointer (some ⟨b3, 0, none⟩))]⟩) (fun i => [fieldHP c false W H 2 (seqF (backTo bs 16) t (fun i => gen - (i : Int) - 1) F i), cl b3 [.slice (a 0) (blocksL t 0).length (cc 0), .slice (a 1) (blocksL t 1).length (cc 1)] 55, vec 59 8 (.slice (a 1) (blocksL t 1).length (cc 1)) (blocksL t 1).length (flatB (blocksL t 1)), vec 59 8 (.slice (a 0) (blocksL t 0).length (cc 0)) (blocksL t 0).length (flatB (blocksL t 0)), cl b2 (topoC t) 24, cl b1 (u8C (backTo bs 16)) 22]) (fun i => (i : Int) ≤ -n) (fun i => (-n).toNat - i) 0 (by omega) (Env.Sub.cons rfl (congrArg (Value.int .i64) (by omega)) (Env.Sub.cons rfl (congrArg (Value.int .i64) (by omega)) (Env.Sub.cons rfl rfl (Env.Sub.cons rfl rfl (Env.Sub.cons rfl rfl Env.Sub.nil))))) (Ent.refl _) ?_
    intro i hi
    refine WP.seq ?_
    refine WP.regs ?_
    refine L.move rfl ?_
    refine L.neq rfl rfl ?_
    refine WL.nil ?_
    refine WP.condD rfl (fun h46 => ?_) (fun h46 => ?_)
    · -- then
      refine WP.skip ?_
      refine X.thenN ?_
      refine WP.block ?_
      refine WP.regs ?_
      refine L.move rfl ?_
      refine L.assign rfl ?_
      refine WL.nil ?_
      refine WP.seq ?_
      refine WP.regs ?_
      refine L.move rfl ?_
      refine L.gtr rfl rfl ?_
      refine WL.nil ?_
      refine WP.condD rfl (fun hT => absurd hT (by omega)) (fun h49 => ?_)
      refine WP.regs ?_
      refine L.move rfl ?_
      refine L.sub' rfl rfl (by omega) ?_
      refine L.move rfl ?_
      refine L.add' rfl rfl (by omega) ?_
      refine L.assign rfl ?_
      refine L.assign rfl ?_
      refine WL.nil ?_
      refine WP.region ?_
      refine L.move rfl ?_
      refine L.assign rfl ?_
      refine WL.nil ?_
      refine X.thenN ?_
      refine WP.regs ?_
      refine L.move rfl ?_
      refine L.and rfl rfl ?_
      obtain ⟨q, hq, hqa, hqb⟩ := par (gen - (i : Int) - 1) (by omega)
      rw [hqa]
      refine L.indexA T55.ar rfl rfl (by omega) ?_
      refine L.load T53.sc rfl (v := .slice (a q) (blocksL t q).length (cc q)) (Rd.own 1 rfl (by rw [Nat.zero_add, Nat.mul_one, Int.toNat_natCast]; rcases (show q = 0 ∨ q = 1 by omega) with rfl | rfl <;> rfl)) ?_
      refine L.lenS T53.sl rfl rfl ?_
      refine L.move rfl ?_
      refine WL.nil ?_
      refine WP.block ?_
      refine WP.loop (X := Nat) (fun m => ⟨109, [], [(3, .int .i64 (gen - ((i + 1 : Nat) : Int))), (4, .int .i64 (n + ((i + 1 : Nat) : Int))), (5, .pointer (some ⟨b1, 0, none⟩)), (13, .pointer (some ⟨c, 0, none⟩)), (14, .pointer (some ⟨b3, 0, none⟩)), (62, .slice (a q) (blocksL t q).length (cc q)), (63, .int .i64 ((blocksL t q).length : Int)), (64, .int .i64 (m : Int))]⟩) (fun m => [fieldHP c false W H 2 (((blocksL t q).take m).foldl (applyB (backTo bs 16)) (seqF (backTo bs 16) t (fun i => gen - (i : Int) - 1) F i)), cl b3 [.slice (a 0) (blocksL t 0).length (cc 0), .slice (a 1) (blocksL t 1).length (cc 1)] 55, vec 59 8 (.slice (a 1) (blocksL t 1).length (cc 1)) (blocksL t 1).length (flatB (blocksL t 1)), vec 59 8 (.slice (a 0) (blocksL t 0).length (cc 0)) (blocksL t 0).length (flatB (blocksL t 0)), cl b2 (topoC t) 24, cl b1 (u8C (backTo bs 16)) 22]) (fun m => m ≤ (blocksL t q).length) (fun m => (blocksL t q).length - m) 0 (Nat.zero_le _) (Env.Sub.cons rfl (congrArg (Value.int .i64) (by omega)) (Env.Sub.cons rfl (congrArg (Value.int .i64) (by omega)) (Env.Sub.cons rfl rfl (Env.Sub.cons rfl rfl (Env.Sub.cons rfl rfl (Env.Sub.cons rfl rfl (Env.Sub.cons rfl rfl (Env.Sub.cons rfl rfl Env.Sub.nil)))))))) (Ent.refl _) ?_
      intro m hm
      refine WP.regs ?_
      refine L.lss rfl rfl ?_
      refine WL.nil ?_
      refine WP.seq ?_
      refine WP.condD rfl (fun h65 => ?_) (fun h65 => ?_)
      · -- then
        obtain ⟨bl, hbl⟩ : ∃ bl, (blocksL t q)[m]? = some bl := ⟨_, List.getElem?_eq_getElem (by omega)⟩
        have hin4 := blocksL_in t hg.toGood hWw hHh q (List.mem_of_getElem? hbl)
        have hall := fun b hb => (blocksL_in t hg.toGood hWw hHh q (b := b) hb).1
        obtain ⟨bq, hbq⟩ := hnn q hq (by omega)
        generalize hFm : ((blocksL t q).take m).foldl (applyB (backTo bs 16)) (seqF (backTo bs 16) t (fun i => gen - (i : Int) - 1) F i) = Fm
        refine WP.fact (φ := FOk false W H 2 Fm) (fun _ _ _ s => by obtain ⟨g, i⟩ := s.inn 0 rfl; exact (In.field i).1) fun hFo => ?_
        have hv16 : fromN Fm bl 4 < 16 := fromN_lt hFo.F 4
        refine WP.skip ?_
        refine X.thenN ?_
        refine WP.seq ?_
        refine WP.block ?_
        refine WP.regs ?_
        refine L.indexS T53.sl (by show some (Value.slice (a q) _ _) = _; rw [hbq]) rfl (by omega) ?_
        refine L.loadN T59.ag rfl (flat_one hin4.1) (vs := flatB [bl]) (Rds.vec (E := 59) (sz := 8) (n := (blocksL t q).length) (cap := cc q) (cs := flatB (blocksL t q)) (3 - q) (by rw [← hbq]; rcases (show q = 0 ∨ q = 1 by omega) with rfl | rfl <;> rfl) (fun j v hj => by rw [Nat.zero_add, Int.toNat_natCast]; exact flatB_at hall hbl j v hj)) ?_
        refine L.alloc T59.z ?_; intro b4
        refine L.storeN T59.ag rfl rfl (flat_one hin4.1) (Wrs.all 0 rfl (by rw [flat_one hin4.1]; rfl) flat_cell) ?_
        refine WL.nil ?_
        refine WP.regs ?_
        refine L.assign rfl ?_
        refine WL.nil ?_
        refine WP.seq ?_
        refine WP.regs ?_
        refine L.loadN T59.ag rfl (flat_one hin4.1) (Rds.all 0 rfl) ?_
        refine L.move rfl ?_
        refine WL.nil ?_
        refine WP.block ?_
        refine WP.loop (X := Nat) (fun r => ⟨109, [], [(3, .int .i64 (gen - ((i + 1 : Nat) : Int))), (4, .int .i64 (n + ((i + 1 : Nat) : Int))), (5, .pointer (some ⟨b1, 0, none⟩)), (13, .pointer (some ⟨c, 0, none⟩)), (14, .pointer (some ⟨b3, 0, none⟩)), (62, .slice (a q) (blocksL t q).length (cc q)), (63, .int .i64 ((blocksL t q).length : Int)), (64, .int .i64 (m : Int)), (17, .pointer (some ⟨b4, 0, none⟩)), (18, .int .i64 ((fromN Fm bl r : Nat) : Int)), (68, .agg (flatB [bl]).toArray), (69, .int .i64 (r : Int))]⟩) (fun r => [cl b4 (flatB [bl]) 59, fieldHP c false W H 2 (Fm), cl b3 [.slice (a 0) (blocksL t 0).length (cc 0), .slice (a 1) (blocksL t 1).length (cc 1)] 55, vec 59 8 (.slice (a 1) (blocksL t 1).length (cc 1)) (blocksL t 1).length (flatB (blocksL t 1)), vec 59 8 (.slice (a 0) (blocksL t 0).length (cc 0)) (blocksL t 0).length (flatB (blocksL t 0)), cl b2 (topoC t) 24, cl b1 (u8C (backTo bs 16)) 22]) (fun r => r ≤ 4) (fun r => 4 - r) 0 (by omega) (Env.Sub.cons rfl rfl (Env.Sub.cons rfl rfl (Env.Sub.cons rfl rfl (Env.Sub.cons rfl rfl (Env.Sub.cons rfl rfl (Env.Sub.cons rfl rfl (Env.Sub.cons rfl rfl (Env.Sub.cons rfl rfl (Env.Sub.cons rfl rfl (Env.Sub.cons rfl rfl (Env.Sub.cons rfl rfl (Env.Sub.cons rfl rfl Env.Sub.nil)))))))))))) (Ent.refl _) ?_
        intro r hr
        refine WP.regs ?_
        refine L.lss rfl rfl ?_
        refine WL.nil ?_
        refine WP.seq ?_
        refine WP.condD rfl (fun h70 => ?_) (fun h70 => ?_)
        · -- then
          refine WP.skip ?_
          refine X.thenN ?_
          refine WP.seq ?_
          refine WP.block ?_
          refine WP.regs ?_
          refine L.move rfl ?_
          refine L.indexN (vs := [.int .i64 ((ppB bl r).1 : Int), .int .i64 ((ppB bl r).2 : Int)]) T59.ar rfl rfl (by omega) (by rw [Int.toNat_natCast]; exact blk_extract hin4.1 (by omega)) ?_
          refine L.alloc T58.z ?_; intro b5
          refine L.assign rfl ?_
          refine L.storeN T58.ag rfl rfl rfl (Wrs.all 0 rfl rfl (by simp [Value.oneCell'])) ?_
          refine WL.nil ?_
          refine WP.regs ?_
          refine L.move rfl ?_
          refine L.fieldAddr (o' := 0) T58.f0 rfl rfl ?_
          refine L.load T3.sc rfl (Rd.own 0 rfl rfl) ?_
          refine L.fieldAddr (o' := 1) T58.f1 rfl rfl ?_
          refine L.load T3.sc rfl (Rd.own 0 rfl rfl) ?_
          refine WL.callV rfl rfl F22.fn rfl (fun g gS dj => field_Get_bytes (ppB bl r).1 (ppB bl r).2 (hin4.2 r).1 (hin4.2 r).2 (In.of_stars' 2 rfl gS dj)) ?_   -- (*vivarium/field.Field).Get slot 79
          refine L.move rfl ?_
          refine L.extract rfl rfl ?_
          refine L.extract rfl rfl ?_
          refine L.assign rfl ?_
          refine L.assign rfl ?_
          refine WL.nil ?_
          refine WP.region ?_
          refine L.move rfl ?_
          refine L.move rfl ?_
          refine L.convInt T5.u T3.u rfl ?_
          refine L.move rfl ?_
          refine L.shl rfl rfl (by omega) ?_
          refine L.or rfl rfl ?_
          refine L.assign rfl ?_
          refine WL.nil ?_
          refine X.blockN ?_
          refine X.thenN ?_
          refine WP.region ?_
          refine L.add' rfl rfl (by omega) ?_
          refine L.move rfl ?_
          refine WL.nil ?_
          refine X.thenN ⟨r + 1, by omega, by omega, (Env.Sub.cons rfl rfl (Env.Sub.cons rfl rfl (Env.Sub.cons rfl rfl (Env.Sub.cons rfl rfl (Env.Sub.cons rfl rfl (Env.Sub.cons rfl rfl (Env.Sub.cons rfl rfl (Env.Sub.cons rfl rfl (Env.Sub.cons rfl rfl (Env.Sub.cons rfl (congrArg (Value.int .i64) (or_step r (by omega) _ (fromN_lt hFo.F r) _ (hFo.F _ _)).symm) (Env.Sub.cons rfl rfl (Env.Sub.cons rfl rfl Env.Sub.nil)))))))))))), Ent.drop 0⟩
        · -- else
          refine WP.exit ?_
          refine X.thenE (X.thenE (X.blockE ?_))
          refine X.thenN ?_
          refine WP.regs ?_
          refine L.loadN T59.ag rfl (flat_one hin4.1) (Rds.all 0 rfl) ?_
          refine L.move rfl ?_
          refine WL.nil ?_
          refine WP.block ?_
          refine WP.loop (X := Nat) (fun r => ⟨109, [], [(3, .int .i64 (gen - ((i + 1 : Nat) : Int))), (4, .int .i64 (n + ((i + 1 : Nat) : Int))), (5, .pointer (some ⟨b1, 0, none⟩)), (13, .pointer (some ⟨c, 0, none⟩)), (14, .pointer (some ⟨b3, 0, none⟩)), (62, .slice (a q) (blocksL t q).length (cc q)), (63, .int .i64 ((blocksL t q).length : Int)), (64, .int .i64 (m : Int)), (17, .pointer (some ⟨b4, 0, none⟩)), (18, .int .i64 ((fromN Fm bl 4 : Nat) : Int)), (89, .agg (flatB [bl]).toArray), (90, .int .i64 (r : Int))]⟩) (fun r => [cl b4 (flatB [bl]) 59, fieldHP c false W H 2 (setTo (backTo bs 16) (fromN Fm bl 4) bl Fm r), cl b3 [.slice (a 0) (blocksL t 0).length (cc 0), .slice (a 1) (blocksL t 1).length (cc 1)] 55, vec 59 8 (.slice (a 1) (blocksL t 1).length (cc 1)) (blocksL t 1).length (flatB (blocksL t 1)), vec 59 8 (.slice (a 0) (blocksL t 0).length (cc 0)) (blocksL t 0).length (flatB (blocksL t 0)), cl b2 (topoC t) 24, cl b1 (u8C (backTo bs 16)) 22]) (fun r => r ≤ 4) (fun r => 4 - r) 0 (by omega) (Env.Sub.cons rfl rfl (Env.Sub.cons rfl rfl (Env.Sub.cons rfl rfl (Env.Sub.cons rfl rfl (Env.Sub.cons rfl rfl (Env.Sub.cons rfl rfl (Env.Sub.cons rfl rfl (Env.Sub.cons rfl rfl (Env.Sub.cons rfl rfl (Env.Sub.cons rfl (by obtain rfl : r = 4 := (by omega); rfl) (Env.Sub.cons rfl rfl (Env.Sub.cons rfl rfl Env.Sub.nil)))))))))))) (Ent.refl _) ?_
          intro r hr
          refine WP.regs ?_
          refine L.lss rfl rfl ?_
          refine WL.nil ?_
          refine WP.seq ?_
          refine WP.condD rfl (fun h91 => ?_) (fun h91 => ?_)
          · -- then
            refine WP.skip ?_
            refine X.thenN ?_
            refine WP.seq ?_
            refine WP.block ?_
            refine WP.regs ?_
            refine L.move rfl ?_
            refine L.indexN (vs := [.int .i64 ((ppB bl r).1 : Int), .int .i64 ((ppB bl r).2 : Int)]) T59.ar rfl rfl (by omega) (by rw [Int.toNat_natCast]; exact blk_extract hin4.1 (by omega)) ?_
            refine L.alloc T58.z ?_; intro b6
            refine L.assign rfl ?_
            refine L.storeN T58.ag rfl rfl rfl (Wrs.all 0 rfl rfl (by simp [Value.oneCell'])) ?_
            refine WL.nil ?_
            refine WP.rege [(0, true), (1, true), (2, true), (3, true), (4, true), (5, true), (6, true), (7, true), (8, true), (9, true), (10, true), (11, false)] 11 rfl (by kernel_rfl) (PInv.block (PInv.then (PInv.then (PInv.block (PInv.block (PInv.then (PInv.then (PInv.block (PInv.block (PInv.then (PInv.block (PInv.then PInv.ret)))))))))))) rfl ?_
            refine WE.take rfl (V.move rfl) ?_
            refine WE.take rfl (V.fieldAddr (o' := 0) T58.f0 rfl rfl) ?_
            refine WE.take rfl (V.load T3.sc rfl (Rd.own 0 rfl rfl)) ?_
            refine WE.take rfl (V.fieldAddr (o' := 1) T58.f1 rfl rfl) ?_
            refine WE.take rfl (V.load T3.sc rfl (Rd.own 0 rfl rfl)) ?_
            refine WE.take rfl (V.move rfl) ?_
            refine WE.take rfl (V.indexA T22.ar rfl rfl (by omega)) ?_
            refine WE.take rfl (V.load T5.sc rfl (v := .int .u8 (((backTo bs 16).getD (fromN Fm bl 4) 0).toNat : Nat)) (Rd.own 7 rfl (by rw [Nat.zero_add, Nat.mul_one, Int.toNat_natCast, Int.toNat_of_nonneg ((back_blk bs).bd _).1]; exact u8_at (by rw [(back_blk bs).len]; omega)))) ?_
            refine WE.take rfl (V.move rfl) ?_
            refine WE.take rfl (V.shr rfl rfl (by omega)) ?_
            refine WE.take rfl (V.and rfl rfl) ?_
            refine WE.last rfl ?_
            rw [show bits .and .u8 (((((backTo bs 16).getD (fromN Fm bl 4) 0).toNat : Nat) : Int) / 2 ^ min (r : Int).toNat IntKind.u8.bits) 1 = ((newBit (backTo bs 16) (fromN Fm bl 4) r : Nat) : Int) from and_step r (by omega) _ (by have := (back_blk bs).bd (fromN Fm bl 4); omega)]
            refine WL.call rfl rfl F7.fn rfl (FT.part [fieldHP c false W H 2 (setTo (backTo bs 16) (fromN Fm bl 4) bl Fm r)] _ (Ent.pull 2 rfl) fun g gS dj => field_Set_bytes (ppB bl r).1 (ppB bl r).2 (newBit (backTo bs 16) (fromN Fm bl 4) r) (hin4.2 r).1 (hin4.2 r).2 (Nat.mod_lt _ (by omega))) ?_; rintro _ _ ⟨_, ⟨rfl, rfl⟩, rfl⟩
            refine WL.nil ?_
            refine WE.nil ?_
            refine X.blockN ?_
            refine X.thenN ?_
            refine WP.region ?_
            refine L.add' rfl rfl (by omega) ?_
            refine L.move rfl ?_
            refine WL.nil ?_
            refine X.thenN ⟨r + 1, by omega, by omega, (Env.Sub.cons rfl rfl (Env.Sub.cons rfl rfl (Env.Sub.cons rfl rfl (Env.Sub.cons rfl rfl (Env.Sub.cons rfl rfl (Env.Sub.cons rfl rfl (Env.Sub.cons rfl rfl (Env.Sub.cons rfl rfl (Env.Sub.cons rfl rfl (Env.Sub.cons rfl rfl (Env.Sub.cons rfl rfl (Env.Sub.cons rfl rfl Env.Sub.nil)))))))))))), (Ent.drop 1).trans (Ent.perm (List.Perm.swap _ _ _))⟩
          · -- else
            refine WP.exit ?_
            refine X.thenE (X.thenE (X.blockE ?_))
            refine X.blockN ?_
            refine X.thenN ?_
            refine WP.region ?_
            have hlq : (blocksL t q).length ≤ 32768 * 32768 := Nat.le_trans (allB_len t q _ _) (Nat.mul_le_mul (by omega) (by omega))
            refine L.add' rfl rfl (by omega) ?_
            refine L.move rfl ?_
            refine WL.nil ?_
            refine X.thenN ⟨m + 1, by omega, by omega, (Env.Sub.cons rfl rfl (Env.Sub.cons rfl rfl (Env.Sub.cons rfl rfl (Env.Sub.cons rfl rfl (Env.Sub.cons rfl rfl (Env.Sub.cons rfl rfl (Env.Sub.cons rfl rfl (Env.Sub.cons rfl rfl Env.Sub.nil)))))))), (Ent.drop 0).trans (Ent.of_eq (by rw [foldl_take_succ hbl, hFm]; obtain rfl : r = 4 := (by omega); rfl))⟩
      · -- else
        refine WP.exit ?_
        refine X.thenE (X.thenE (X.blockE ?_))
        refine X.blockN ?_
        refine X.thenN ⟨i + 1, by omega, by omega, (Env.Sub.cons rfl rfl (Env.Sub.cons rfl rfl (Env.Sub.cons rfl rfl (Env.Sub.cons rfl rfl (Env.Sub.cons rfl rfl Env.Sub.nil))))), Ent.of_eq (by have e : m = (blocksL t q).length := (by omega); rw [e, List.take_length, ← hqb]; rfl)⟩
    · -- else
      refine WP.exit ?_
      refine X.thenE (X.thenE (X.blockE ?_))
      refine X.thenN ?_
      refine WP.regs ?_
      refine L.move rfl ?_
      refine L.assign rfl ?_
      refine L.assign rfl ?_
      refine WL.nil ?_
      refine WP.ret ?_
      refine X.ret rfl (Res.two rfl rfl rfl) ?_
      obtain rfl : i = (-n).toNat := by omega
      exact ⟨_, rfl, _, ⟨c, rfl, rfl⟩, Ent.right [_] _⟩

end

end Go.Eng
