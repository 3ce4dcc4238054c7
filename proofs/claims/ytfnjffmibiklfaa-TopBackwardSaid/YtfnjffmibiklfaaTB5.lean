/- Walks of the seat's functions over those rules, and plain laws of what they compute. No conditions beyond those in each theorem. -/
import Derived.Test.YtfnjffmibiklfaaTB4
namespace Go.Eng
open Go.RowKit Go.Proofs
set_option linter.unusedSimpArgs false
set_option linter.unusedVariables false

abbrev u8C (l : List Int) : List Value := l.map (Value.int .u8)
structure Blk (bs : List Int) : Prop where
  len : bs.length = 16
  bd : ∀ i, 0 ≤ bs.getD i 0 ∧ bs.getD i 0 ≤ 15
def bump (r : List Int) (n : Int) : List Int := r.set n.toNat (IntKind.u8.wrap (r.getD n.toNat 0 + 1))
def seenTo (bs : List Int) (i : Nat) : List Int := (List.range i).foldl (fun r j => bump r (bs.getD j 0)) (List.replicate 16 0)
def onceTo (i : Nat) : List Int := (List.range i).foldl (fun r j => r.set j 1) (List.replicate 16 0)
def backTo (bs : List Int) (i : Nat) : List Int := (List.range i).foldl (fun r j => r.set (bs.getD j 0).toNat (j : Int)) (List.replicate 16 0)
theorem seenTo_succ (bs : List Int) (i : Nat) : seenTo bs (i + 1) = bump (seenTo bs i) (bs.getD i 0) := by simp only [seenTo, List.range_succ, List.foldl_append, List.foldl_cons, List.foldl_nil]
theorem onceTo_succ (i : Nat) : onceTo (i + 1) = (onceTo i).set i 1 := by simp only [onceTo, List.range_succ, List.foldl_append, List.foldl_cons, List.foldl_nil]
theorem backTo_succ (bs : List Int) (i : Nat) : backTo bs (i + 1) = (backTo bs i).set (bs.getD i 0).toNat (i : Int) := by simp only [backTo, List.range_succ, List.foldl_append, List.foldl_cons, List.foldl_nil]
theorem length_seenTo (bs : List Int) : ∀ i, (seenTo bs i).length = 16
  | 0 => by simp [seenTo]
  | i + 1 => by rw [seenTo_succ, bump, List.length_set, length_seenTo bs i]
theorem length_onceTo : ∀ i, (onceTo i).length = 16
  | 0 => by simp [onceTo]
  | i + 1 => by rw [onceTo_succ, List.length_set, length_onceTo i]
theorem length_backTo (bs : List Int) : ∀ i, (backTo bs i).length = 16
  | 0 => by simp [backTo]
  | i + 1 => by rw [backTo_succ, List.length_set, length_backTo bs i]
theorem u8_at {l : List Int} {i : Nat} (h : i < l.length) : (u8C l)[i]? = some (.int .u8 (l.getD i 0)) := by
  simp [u8C, List.getD, List.getElem?_eq_getElem h]
theorem u8_ix {l : List Int} {i : Nat} (h : i < l.length) : (u8C l).toArray[((i : Nat) : Int).toNat]? = some (.int .u8 (l.getD i 0)) := by
  rw [List.getElem?_toArray]; exact u8_at h
theorem u8_set (l : List Int) (i : Nat) (x : Int) : (u8C l).set i (.int .u8 x) = u8C (l.set i x) := by simp [u8C]
section
variable {k : World} {h0 : Hp}

set_option maxRecDepth 10000 in
theorem block_Check (bs : List Int) (hb : Blk bs) : FT Pg 12 [.agg (u8C bs).toArray] k h0 [] (Is (.int .i64 0)) := by
  refine FT.of_wp (n := 12) Try.func12 rfl rfl rfl ?_
  refine WP.regs ?_
  refine L.box rfl rfl ?_; intro b1
  refine L.assign rfl ?_
  refine WL.nil ?_
  refine WP.seq ?_
  refine WP.regs ?_
  refine L.loadN T22.ag rfl (by simp [hb.len]) (Rds.all 0 rfl) ?_
  refine L.move rfl ?_
  refine WL.nil ?_
  refine WP.block ?_
  refine WP.loop (X := Nat) (fun i => ⟨12, [], [(5, .agg (u8C bs).toArray), (6, .int .i64 (i : Int))]⟩) (fun i => [cl b1 (u8C bs) 22]) (fun i => i ≤ 16) (fun i => 16 - i) 0 (by omega) (Env.Sub.cons rfl rfl (Env.Sub.cons rfl rfl Env.Sub.nil)) (Ent.refl _) ?_
  intro i hi
  have hbi := hb.bd i
  refine WP.regs ?_
  refine L.lss rfl rfl ?_
  refine WL.nil ?_
  refine WP.seq ?_
  refine WP.condD rfl (fun h7 => ?_) (fun h7 => ?_)
  · -- then
    refine WP.skip ?_
    refine X.thenN ?_
    refine WP.seq ?_
    refine WP.block ?_
    refine WP.regs ?_
    refine L.index (v := .int .u8 (bs.getD i 0)) T22.ar rfl rfl (by omega) (u8_ix (by rw [hb.len]; omega)) ?_
    refine L.assign rfl ?_
    refine WL.nil ?_
    refine WP.regs ?_
    refine L.move rfl ?_
    refine L.gtr rfl rfl ?_
    refine WL.nil ?_
    refine WP.condD rfl (fun hT => absurd hT (by omega)) (fun h10 => ?_)
    refine WP.skip ?_
    refine X.blockN ?_
    refine X.thenN ?_
    refine WP.region ?_
    refine L.add' rfl rfl (by omega) ?_
    refine L.move rfl ?_
    refine WL.nil ?_
    refine X.thenN ⟨i + 1, by omega, by omega, (Env.Sub.cons rfl rfl (Env.Sub.cons rfl rfl Env.Sub.nil)), Ent.refl _⟩
  · -- else
    refine WP.exit ?_
    refine X.thenE (X.thenE (X.blockE ?_))
    refine X.thenN ?_
    refine WP.regs ?_
    refine L.assign rfl ?_
    refine WL.nil ?_
    refine WP.ret ?_
    refine X.ret rfl (Res.one rfl rfl) ?_
    exact rfl

set_option maxRecDepth 10000 in
theorem block_Turns (bs : List Int) (hb : Blk bs) : FT Pg 4 [.agg (u8C bs).toArray] k h0 [] (Is (.tuple #[.bool (decide (seenTo bs 16 = onceTo 16)), .int .i64 0])) := by
  refine FT.of_wp (n := 30) Try.func4 rfl rfl rfl ?_
  refine WP.regs ?_
  refine L.box rfl rfl ?_; intro b1
  refine L.assign rfl ?_
  refine L.assign rfl ?_
  refine WL.nil ?_
  refine WP.seq ?_
  refine WP.regs ?_
  refine L.loadN T22.ag rfl (by simp [hb.len]) (Rds.all 0 rfl) ?_
  refine WL.callV rfl rfl F12.fn rfl (fun g gS dj => block_Check bs hb) ?_   -- vivarium/block.Check slot 10
  refine L.assign rfl ?_
  refine WL.nil ?_
  refine WP.regs ?_
  refine L.move rfl ?_
  refine L.neq rfl rfl ?_
  refine WL.nil ?_
  refine WP.condD rfl (fun hT => absurd hT (by omega)) (fun h12 => ?_)
  refine WP.skip ?_
  refine X.thenN ?_
  refine WP.regs ?_
  refine L.alloc T22.z ?_; intro b2
  refine L.alloc T22.z ?_; intro b3
  refine WL.nil ?_
  refine WP.seq ?_
  refine WP.regs ?_
  refine L.loadN T22.ag rfl (by simp [hb.len]) (Rds.all 2 rfl) ?_
  refine L.move rfl ?_
  refine WL.nil ?_
  refine WP.block ?_
  refine WP.loop (X := Nat) (fun i => ⟨30, [], [(1, .pointer (some ⟨b1, 0, none⟩)), (5, .pointer (some ⟨b2, 0, none⟩)), (6, .pointer (some ⟨b3, 0, none⟩)), (14, .agg (u8C bs).toArray), (15, .int .i64 (i : Int))]⟩) (fun i => [cl b3 (u8C (onceTo i)) 22, cl b2 (u8C (seenTo bs i)) 22, cl b1 (u8C bs) 22]) (fun i => i ≤ 16) (fun i => 16 - i) 0 (by omega) (Env.Sub.cons rfl rfl (Env.Sub.cons rfl rfl (Env.Sub.cons rfl rfl (Env.Sub.cons rfl rfl (Env.Sub.cons rfl rfl Env.Sub.nil))))) (Ent.refl _) ?_
  intro i hi
  have hbi := hb.bd i
  have hl1 := length_seenTo bs i
  have hl2 := length_onceTo i
  refine WP.regs ?_
  refine L.lss rfl rfl ?_
  refine WL.nil ?_
  refine WP.seq ?_
  refine WP.condD rfl (fun h16 => ?_) (fun h16 => ?_)
  · -- then
    refine WP.skip ?_
    refine X.thenN ?_
    refine WP.seq ?_
    refine WP.block ?_
    refine WP.regs ?_
    refine L.move rfl ?_
    refine L.index (v := .int .u8 (bs.getD i 0)) T22.ar rfl rfl (by omega) (u8_ix (by rw [hb.len]; omega)) ?_
    refine L.assign rfl ?_
    refine L.assign rfl ?_
    refine WL.nil ?_
    refine WP.regs ?_
    refine L.move rfl ?_
    refine L.indexA T22.ar rfl rfl (by omega) ?_
    refine L.load T5.sc rfl (Rd.own 1 rfl (by rw [Nat.zero_add, Nat.mul_one]; exact u8_at (by omega))) ?_
    refine L.add rfl rfl ?_
    refine L.indexA T22.ar rfl rfl (by omega) ?_
    refine L.store T5.sc rfl rfl rfl (Wr.own 1 rfl (by rw [List.length_map]; omega)) ?_
    refine WL.nil ?_
    refine WP.region ?_
    refine L.move rfl ?_
    refine L.indexA T22.ar rfl rfl (by omega) ?_
    refine L.store T5.sc rfl rfl rfl (Wr.own 0 rfl (by rw [List.length_map, Nat.zero_add, Nat.mul_one, Int.toNat_natCast]; omega)) ?_
    refine WL.nil ?_
    refine X.blockN ?_
    refine X.thenN ?_
    refine WP.region ?_
    refine L.add' rfl rfl (by omega) ?_
    refine L.move rfl ?_
    refine WL.nil ?_
    refine X.thenN ⟨i + 1, by omega, by omega, (Env.Sub.cons rfl rfl (Env.Sub.cons rfl rfl (Env.Sub.cons rfl rfl (Env.Sub.cons rfl rfl (Env.Sub.cons rfl rfl Env.Sub.nil))))), Ent.of_eq (by simp only [List.set_cons_zero, List.set_cons_succ, Nat.zero_add, Nat.mul_one, u8_set, seenTo_succ, onceTo_succ, bump, Int.toNat_natCast])⟩
  · -- else
    refine WP.exit ?_
    refine X.thenE (X.thenE (X.blockE ?_))
    refine X.thenN ?_
    refine WP.regs ?_
    obtain rfl : i = 16 := by omega
    refine L.loadN T22.ag rfl (by simp [length_seenTo]) (Rds.all 1 rfl) ?_
    refine L.loadN T22.ag rfl (by simp [length_onceTo]) (Rds.all 0 rfl) ?_
    refine L.eqlInts T22.u T5.u T5.sc T22.eg rfl rfl (length_seenTo bs 16) (length_onceTo 16) ?_
    refine L.assign rfl ?_
    refine L.assign rfl ?_
    refine WL.nil ?_
    refine WP.ret ?_
    refine X.ret rfl (Res.two rfl rfl rfl) ?_
    exact rfl

set_option maxRecDepth 10000 in
theorem block_back (bs : List Int) (hb : Blk bs) : FT Pg 21 [.agg (u8C bs).toArray] k h0 [] (Is (.agg (u8C (backTo bs 16)).toArray)) := by
  refine FT.of_wp (n := 17) Try.func21 rfl rfl rfl ?_
  refine WP.regs ?_
  refine L.box rfl rfl ?_; intro b1
  refine L.alloc T22.z ?_; intro b2
  refine WL.nil ?_
  refine WP.regs ?_
  refine L.alloc T22.z ?_; intro b3
  refine WL.nil ?_
  refine WP.seq ?_
  refine WP.regs ?_
  refine L.loadN T22.ag rfl (by simp [hb.len]) (Rds.all 2 rfl) ?_
  refine L.move rfl ?_
  refine WL.nil ?_
  refine WP.block ?_
  refine WP.loop (X := Nat) (fun i => ⟨17, [], [(2, .pointer (some ⟨b2, 0, none⟩)), (3, .pointer (some ⟨b3, 0, none⟩)), (6, .agg (u8C bs).toArray), (7, .int .i64 (i : Int))]⟩) (fun i => [cl b3 (u8C (backTo bs i)) 22, cl b2 (u8C (List.replicate 16 0)) 22, cl b1 (u8C bs) 22]) (fun i => i ≤ 16) (fun i => 16 - i) 0 (by omega) (Env.Sub.cons rfl rfl (Env.Sub.cons rfl rfl (Env.Sub.cons rfl rfl (Env.Sub.cons rfl rfl Env.Sub.nil)))) (Ent.refl _) ?_
  intro i hi
  have hbi := hb.bd i
  have hl2 := length_backTo bs i
  refine WP.regs ?_
  refine L.lss rfl rfl ?_
  refine WL.nil ?_
  refine WP.seq ?_
  refine WP.condD rfl (fun h8 => ?_) (fun h8 => ?_)
  · -- then
    refine WP.skip ?_
    refine X.thenN ?_
    refine WP.seq ?_
    refine WP.block ?_
    refine WP.regs ?_
    refine L.move rfl ?_
    refine L.index (v := .int .u8 (bs.getD i 0)) T22.ar rfl rfl (by omega) (u8_ix (by rw [hb.len]; omega)) ?_
    refine L.assign rfl ?_
    refine L.assign rfl ?_
    refine WL.nil ?_
    refine WP.region ?_
    refine L.move rfl ?_
    refine L.move rfl ?_
    refine L.convInt T3.u T5.u rfl ?_
    refine L.indexA T22.ar rfl rfl (by omega) ?_
    refine L.store T5.sc rfl rfl rfl (Wr.own 0 rfl (by rw [List.length_map]; omega)) ?_
    refine WL.nil ?_
    refine X.blockN ?_
    refine X.thenN ?_
    refine WP.region ?_
    refine L.add' rfl rfl (by omega) ?_
    refine L.move rfl ?_
    refine WL.nil ?_
    have hwr : IntKind.u8.wrap (i : Int) = (i : Int) := IntWalk.u8_in _ (by omega)
    rw [hwr]
    refine X.thenN ⟨i + 1, by omega, by omega, (Env.Sub.cons rfl rfl (Env.Sub.cons rfl rfl (Env.Sub.cons rfl rfl (Env.Sub.cons rfl rfl Env.Sub.nil)))), Ent.of_eq (by rw [backTo_succ, ← u8_set]; simp only [List.set_cons_zero, Nat.zero_add, Nat.mul_one])⟩
  · -- else
    refine WP.exit ?_
    refine X.thenE (X.thenE (X.blockE ?_))
    refine X.thenN ?_
    refine WP.regs ?_
    obtain rfl : i = 16 := by omega
    refine L.loadN T22.ag rfl (by simp [length_backTo]) (Rds.all 0 rfl) ?_
    refine L.storeN T22.ag rfl rfl (by simp [length_backTo]) (Wrs.all 1 rfl (by simp [length_backTo]) (by simp [u8C, Value.oneCell'])) ?_
    refine WL.nil ?_
    refine WP.ret ?_
    refine X.ret rfl (ResCell1 rfl rfl T22.ag (by simp [length_backTo]) (Rds.all 1 rfl)) ?_
    exact rfl

/-- ... with even sides. -/
structure Topo.Even (t : Topo) : Prop extends Topo.Good t where
  we : t.w % 2 = 0
  he : t.h % 2 = 0
  se : t.shift % 2 = 0

set_option maxRecDepth 10000 in
theorem block_grid (t : Topo) (hg : t.Even) : FT Pg 29 [.agg (topoC t).toArray] k h0 [] (Is (.int .i64 0)) := by
  have hk := hg.kind; have hk2 := hg.kind2; have hw := hg.w; have hh := hg.h; have hw0 := hg.w0; have hh0 := hg.h0; have hwe := hg.we; have hhe := hg.he; have hse := hg.se; have hwi := hg.wide; have hhi := hg.high; have hno := hg.none; have htn := hg.turn; have hfl := hg.flat
  have hs : -65536 ≤ t.shift ∧ t.shift ≤ 65536 := by
    by_cases e0 : t.turn = 0
    · have := hno e0; omega
    · by_cases e1 : t.turn = 1
      · have := hwi e1; omega
      · by_cases e2 : t.kind = 2
        · have := htn e2; have := hhi (by omega); omega
        · have := hfl (by omega); omega
  refine FT.of_wp (n := 42) Try.func29 rfl rfl rfl ?_
  refine WP.regs ?_
  refine L.box rfl rfl ?_; intro b1
  refine L.assign rfl ?_
  refine WL.nil ?_
  refine WP.seq ?_
  refine WP.block ?_
  refine WP.regs ?_
  refine L.loadN T24.ag rfl rfl (Rds.all 0 rfl) ?_
  refine WL.callV rfl rfl F38.fn rfl (fun g gS dj => topo_Check t hg.toGood) ?_   -- vivarium/topo.Check slot 5
  refine L.neq rfl rfl ?_
  refine L.assign rfl ?_
  refine WL.nil ?_
  refine WP.condD rfl (fun hT => absurd hT (by omega)) (fun h3 => ?_)
  refine WP.regs ?_
  refine L.fieldAddr (o' := 0) T24.f0 rfl rfl ?_
  refine L.load T5.sc rfl (Rd.own 0 rfl rfl) ?_
  refine L.neqD rfl rfl (fun h10 => ?_) (fun h10 => ?_)
  · -- true
    refine L.move rfl ?_
    refine L.fieldAddr (o' := 0) T24.f0 rfl rfl ?_
    refine L.load T5.sc rfl (Rd.own 0 rfl rfl) ?_
    refine L.neq rfl rfl ?_
    refine L.pickT rfl rfl ?_
    refine L.assign rfl ?_
    refine WL.nil ?_
    refine WP.condD rfl (fun hT => absurd hT (by omega)) (fun h7 => ?_)
    refine WP.regs ?_
    refine L.fieldAddr (o' := 1) T24.f1 rfl rfl ?_
    refine L.load T3.sc rfl (Rd.own 0 rfl rfl) ?_
    refine L.eqlD rfl rfl (fun hT => absurd hT (by omega)) (fun h19 => ?_)
    refine L.move rfl ?_
    refine L.fieldAddr (o' := 2) T24.f2 rfl rfl ?_
    refine L.load T3.sc rfl (Rd.own 0 rfl rfl) ?_
    refine L.eql rfl rfl ?_
    refine L.pickF rfl rfl ?_
    refine L.assign rfl ?_
    refine WL.nil ?_
    refine WP.condD rfl (fun hT => absurd hT (by omega)) (fun h16 => ?_)
    refine WP.regs ?_
    refine L.fieldAddr (o' := 1) T24.f1 rfl rfl ?_
    refine L.load T3.sc rfl (Rd.own 0 rfl rfl) ?_
    refine L.rem' rfl rfl (by omega) ?_
    refine L.neqD rfl rfl (fun hT => absurd hT (by omega)) (fun h29 => ?_)
    refine L.move rfl ?_
    refine L.fieldAddr (o' := 2) T24.f2 rfl rfl ?_
    refine L.load T3.sc rfl (Rd.own 0 rfl rfl) ?_
    refine L.rem' rfl rfl (by omega) ?_
    refine L.neqD rfl rfl (fun hT => absurd hT (by omega)) (fun h34 => ?_)
    refine L.pickF rfl rfl ?_
    refine L.move rfl ?_
    refine L.fieldAddr (o' := 4) T24.f4 rfl rfl ?_
    refine L.load T3.sc rfl (Rd.own 0 rfl rfl) ?_
    refine L.rem rfl rfl (by omega) ?_
    refine L.neq rfl rfl ?_
    refine L.pickF rfl rfl ?_
    refine L.assign rfl ?_
    refine WL.nil ?_
    refine WP.condD rfl (fun hT => absurd hT (by have := Int.tmod_eq_zero_of_dvd (Int.dvd_of_emod_eq_zero hg.se); omega)) (fun h25 => ?_)
    refine WP.skip ?_
    refine X.blockN ?_
    refine X.thenN ?_
    refine WP.regs ?_
    refine L.assign rfl ?_
    refine WL.nil ?_
    refine WP.ret ?_
    refine X.ret rfl (Res.one rfl rfl) ?_
    exact rfl
  · -- false
    refine L.move rfl ?_
    iterate 3 refine L.skip ?_
    refine L.pickF rfl rfl ?_
    refine L.assign rfl ?_
    refine WL.nil ?_
    refine WP.condF rfl ?_
    refine WP.regs ?_
    refine L.fieldAddr (o' := 1) T24.f1 rfl rfl ?_
    refine L.load T3.sc rfl (Rd.own 0 rfl rfl) ?_
    refine L.eqlD rfl rfl (fun hT => absurd hT (by omega)) (fun h19 => ?_)
    refine L.move rfl ?_
    refine L.fieldAddr (o' := 2) T24.f2 rfl rfl ?_
    refine L.load T3.sc rfl (Rd.own 0 rfl rfl) ?_
    refine L.eql rfl rfl ?_
    refine L.pickF rfl rfl ?_
    refine L.assign rfl ?_
    refine WL.nil ?_
    refine WP.condD rfl (fun hT => absurd hT (by omega)) (fun h16 => ?_)
    refine WP.regs ?_
    refine L.fieldAddr (o' := 1) T24.f1 rfl rfl ?_
    refine L.load T3.sc rfl (Rd.own 0 rfl rfl) ?_
    refine L.rem' rfl rfl (by omega) ?_
    refine L.neqD rfl rfl (fun hT => absurd hT (by omega)) (fun h29 => ?_)
    refine L.move rfl ?_
    refine L.fieldAddr (o' := 2) T24.f2 rfl rfl ?_
    refine L.load T3.sc rfl (Rd.own 0 rfl rfl) ?_
    refine L.rem' rfl rfl (by omega) ?_
    refine L.neqD rfl rfl (fun hT => absurd hT (by omega)) (fun h34 => ?_)
    refine L.pickF rfl rfl ?_
    refine L.move rfl ?_
    refine L.fieldAddr (o' := 4) T24.f4 rfl rfl ?_
    refine L.load T3.sc rfl (Rd.own 0 rfl rfl) ?_
    refine L.rem rfl rfl (by omega) ?_
    refine L.neq rfl rfl ?_
    refine L.pickF rfl rfl ?_
    refine L.assign rfl ?_
    refine WL.nil ?_
    refine WP.condD rfl (fun hT => absurd hT (by have := Int.tmod_eq_zero_of_dvd (Int.dvd_of_emod_eq_zero hg.se); omega)) (fun h25 => ?_)
    refine WP.skip ?_
    refine X.blockN ?_
    refine X.thenN ?_
    refine WP.regs ?_
    refine L.assign rfl ?_
    refine WL.nil ?_
    refine WP.ret ?_
    refine X.ret rfl (Res.one rfl rfl) ?_
    exact rfl

end

end Go.Eng
