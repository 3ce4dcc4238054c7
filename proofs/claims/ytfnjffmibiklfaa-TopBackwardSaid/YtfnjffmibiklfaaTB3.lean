/- Walks of the seat's functions over those rules, and plain laws of what they compute. No conditions beyond those in each theorem. -/
import Derived.Test.YtfnjffmibiklfaaTB2
namespace Go.Eng
open Go.RowKit Go.Proofs
set_option linter.unusedSimpArgs false
set_option linter.unusedVariables false

theorem Topo.cell_bd (t : Topo) (hg : t.Good) (u v : Int) (h : t.has u v = true) : 0 ≤ (t.cell u v).1 ∧ (t.cell u v).1 < t.w ∧ 0 ≤ (t.cell u v).2 ∧ (t.cell u v).2 < t.h := by
  have hw := hg.w0; have hh := hg.h0; have hk := hg.kind; have hk2 := hg.kind2
  have m1 := fun a => Int.emod_nonneg a (show t.w ≠ 0 by omega)
  have m2 := fun a => Int.emod_lt_of_pos a hw
  have m3 := fun a => Int.emod_nonneg a (show t.h ≠ 0 by omega)
  have m4 := fun a => Int.emod_lt_of_pos a hh
  have h := of_decide_eq_true h
  unfold Topo.cell
  by_cases e : t.kind = 1
  · rw [if_pos e]; rcases h with h | h
    · omega
    · exact h
  · rw [if_neg e]
    split
    · exact ⟨m1 _, m2 _, m3 _, m4 _⟩
    · split <;> exact ⟨m1 _, m2 _, m3 _, m4 _⟩
/-- What fold's Cell makes of a place. -/
def Topo.at (t : Topo) (x y : Int) : Int × Int × Int :=
  if t.has (x - -(t.w / 2)) (y - -(t.h / 2)) = true then ((t.cell (x - -(t.w / 2)) (y - -(t.h / 2))).1 + -(t.w / 2), (t.cell (x - -(t.w / 2)) (y - -(t.h / 2))).2 + -(t.h / 2), 0) else (0, 0, 60)
section
variable {k : World} {h0 : Hp}

set_option maxRecDepth 10000 in
theorem fold_way1 (kk : Int) (hk : kk = 1) : FT Pg 49 [.int .u8 kk] k h0 [] (Is (.func (.func 51) #[] #[])) := by
  subst hk
  refine FT.of_wp (n := 8) Try.func49 rfl rfl rfl ?_
  refine WP.regs ?_
  refine L.assign rfl ?_
  refine WL.nil ?_
  refine WP.regs ?_
  refine L.buildA (cs := [_, _, _, _, _, _]) T113.ar T113.z rfl rfl ?_
  refine L.alloc T113.z ?_; intro b1
  refine L.storeN T113.ag rfl rfl rfl (Wrs.all 0 rfl rfl (by simp [Value.oneCell'])) ?_
  refine WL.nil ?_
  refine WP.regs ?_
  refine L.move rfl ?_
  refine L.indexA T113.ar rfl rfl (by omega) ?_
  refine L.load T109.sc rfl (Rd.own 0 rfl rfl) ?_
  refine L.assign rfl ?_
  refine WL.nil ?_
  refine WP.ret ?_
  refine X.ret rfl (Res.one rfl rfl) ?_
  exact rfl

set_option maxRecDepth 10000 in
theorem fold_way2 (kk : Int) (hk : kk = 2) : FT Pg 49 [.int .u8 kk] k h0 [] (Is (.func (.func 52) #[] #[])) := by
  subst hk
  refine FT.of_wp (n := 8) Try.func49 rfl rfl rfl ?_
  refine WP.regs ?_
  refine L.assign rfl ?_
  refine WL.nil ?_
  refine WP.regs ?_
  refine L.buildA (cs := [_, _, _, _, _, _]) T113.ar T113.z rfl rfl ?_
  refine L.alloc T113.z ?_; intro b1
  refine L.storeN T113.ag rfl rfl rfl (Wrs.all 0 rfl rfl (by simp [Value.oneCell'])) ?_
  refine WL.nil ?_
  refine WP.regs ?_
  refine L.move rfl ?_
  refine L.indexA T113.ar rfl rfl (by omega) ?_
  refine L.load T109.sc rfl (Rd.own 0 rfl rfl) ?_
  refine L.assign rfl ?_
  refine WL.nil ?_
  refine WP.ret ?_
  refine X.ret rfl (Res.one rfl rfl) ?_
  exact rfl

set_option maxRecDepth 10000 in
theorem topo_Home (t : Topo) (hg : t.Good) : FT Pg 45 [.agg (topoC t).toArray] k h0 [] (Is (.tuple #[.agg [.int .i64 (-(t.w / 2)), .int .i64 (-(t.h / 2)), .int .i64 t.w, .int .i64 t.h].toArray, .int .i64 0])) := by
  have hk := hg.kind; have hk2 := hg.kind2; have hw := hg.w; have hh := hg.h; have hw0 := hg.w0; have hh0 := hg.h0; have hfl := hg.flat; have htn := hg.turn; have hno := hg.none; have hwi := hg.wide; have hhi := hg.high
  refine FT.of_wp (n := 24) Try.func45 rfl rfl rfl ?_
  refine WP.regs ?_
  refine L.box rfl rfl ?_; intro b1
  refine L.alloc T103.z ?_; intro b2
  refine L.assign rfl ?_
  refine WL.nil ?_
  refine WP.seq ?_
  refine WP.regs ?_
  refine L.loadN T24.ag rfl rfl (Rds.all 1 rfl) ?_
  refine WL.callV rfl rfl F38.fn rfl (fun g gS dj => topo_Check t hg) ?_   -- vivarium/topo.Check slot 6
  refine L.assign rfl ?_
  refine WL.nil ?_
  refine WP.regs ?_
  refine L.move rfl ?_
  refine L.neq rfl rfl ?_
  refine WL.nil ?_
  refine WP.condD rfl (fun hT => absurd hT (by omega)) (fun h8 => ?_)
  refine WP.skip ?_
  refine X.thenN ?_
  refine WP.regs ?_
  refine L.fieldAddr (o' := 1) T24.f1 rfl rfl ?_
  refine L.load T3.sc rfl (Rd.own 1 rfl rfl) ?_
  refine L.quo' rfl rfl (by omega) ?_
  refine L.neg' rfl (by omega) ?_
  refine L.fieldAddr (o' := 2) T24.f2 rfl rfl ?_
  refine L.load T3.sc rfl (Rd.own 1 rfl rfl) ?_
  refine L.quo' rfl rfl (by omega) ?_
  refine L.neg' rfl (by omega) ?_
  refine L.fieldAddr (o' := 1) T24.f1 rfl rfl ?_
  refine L.load T3.sc rfl (Rd.own 1 rfl rfl) ?_
  refine L.fieldAddr (o' := 2) T24.f2 rfl rfl ?_
  refine L.load T3.sc rfl (Rd.own 1 rfl rfl) ?_
  refine L.build (cs := [_, _, _, _]) T103.b T103.z rfl rfl ?_
  refine L.storeN T103.ag rfl rfl rfl (Wrs.all 0 rfl rfl (by simp [Value.oneCell'])) ?_
  refine L.assign rfl ?_
  refine WL.nil ?_
  refine WP.ret ?_
  refine X.ret rfl (ResCellTmp rfl rfl T103.ag rfl (Rds.all 0 rfl) rfl) ?_
  exact rfl

set_option maxRecDepth 10000 in
theorem fold_of (t : Topo) (hg : t.Good) (b : Nat) (x y : Int) (hx : -1099511627776 ≤ x ∧ x ≤ 1099511627776) (hy : -1099511627776 ≤ y ∧ y ≤ 1099511627776) (hp : h0 b = some (.cells (ptC x y).toArray 58)) : FT Pg 42 [.agg (topoC t).toArray, .slice (some ⟨b, 0, none⟩) 1 1] k h0 [] (Is (.tuple #[.agg (gridC t).toArray, .int .i64 0])) := by
  have hk := hg.kind; have hk2 := hg.kind2; have hw := hg.w; have hh := hg.h; have hw0 := hg.w0; have hh0 := hg.h0; have hfl := hg.flat; have htn := hg.turn; have hno := hg.none; have hwi := hg.wide; have hhi := hg.high
  refine FT.of_wp (n := 37) Try.func42 rfl rfl rfl ?_
  refine WP.regs ?_
  refine L.box rfl rfl ?_; intro b1
  refine L.alloc T96.z ?_; intro b2
  refine L.assign rfl ?_
  refine WL.nil ?_
  refine WP.seq ?_
  refine WP.regs ?_
  refine L.loadN T24.ag rfl rfl (Rds.all 1 rfl) ?_
  refine WL.callV rfl rfl F38.fn rfl (fun g gS dj => topo_Check t hg) ?_   -- vivarium/topo.Check slot 11
  refine L.neq rfl rfl ?_
  refine WL.nil ?_
  refine WP.condD rfl (fun hT => absurd hT (by omega)) (fun h12 => ?_)
  refine WP.skip ?_
  refine X.thenN ?_
  refine WP.seq ?_
  refine WP.regs ?_
  refine L.move rfl ?_
  refine L.lenS T100.sl rfl rfl ?_
  refine L.move rfl ?_
  refine WL.nil ?_
  refine WP.block ?_
  refine WP.loop (X := Nat) (fun i => ⟨37, [], [(2, .pointer (some ⟨b1, 0, none⟩)), (4, .pointer (some ⟨b2, 0, none⟩)), (14, .slice (some ⟨b, 0, none⟩) 1 1), (15, .int .i64 ((1 : Nat) : Int)), (16, .int .i64 (i : Int))]⟩) (fun i => [cl b2 [(Value.int IntKind.u8 0), (Value.int IntKind.i64 0), (Value.int IntKind.i64 0), (Value.int IntKind.u8 0), (Value.int IntKind.i64 0), (Value.int IntKind.i64 0), (Value.int IntKind.i64 0)] 96, cl b1 (topoC t) 24]) (fun i => i ≤ 1) (fun i => 1 - i) 0 (by omega) (Env.Sub.cons rfl rfl (Env.Sub.cons rfl rfl (Env.Sub.cons rfl rfl (Env.Sub.cons rfl rfl (Env.Sub.cons rfl rfl Env.Sub.nil))))) (Ent.refl _) ?_
  intro i hi
  refine WP.regs ?_
  refine L.lss rfl rfl ?_
  refine WL.nil ?_
  refine WP.seq ?_
  refine WP.condD rfl (fun h17 => ?_) (fun h17 => ?_)
  · -- then
    obtain rfl : i = 0 := by omega
    refine WP.skip ?_
    refine X.thenN ?_
    refine WP.seq ?_
    refine WP.block ?_
    refine WP.regs ?_
    refine L.indexS T100.sl rfl rfl (by omega) ?_
    refine L.loadN T58.ag rfl rfl (vs := [.int .i64 x, .int .i64 y]) (Rds.ro2 hp (by simp)) ?_
    refine L.alloc T58.z ?_; intro b3
    refine L.storeN T58.ag rfl rfl rfl (Wrs.all 0 rfl rfl (by simp [Value.oneCell'])) ?_
    refine WL.nil ?_
    refine WP.regs ?_
    refine L.loadN T58.ag rfl rfl (Rds.all 0 rfl) ?_
    refine WL.callV rfl rfl F44.fn rfl (fun g gS dj => fold_near x y hx hy) ?_   -- vivarium/fold.near slot 21
    refine L.not rfl ?_
    refine WL.nil ?_
    refine WP.condF rfl ?_
    refine WP.skip ?_
    refine X.blockN ?_
    refine X.thenN ?_
    refine WP.region ?_
    refine L.add' rfl rfl (by omega) ?_
    refine L.move rfl ?_
    refine WL.nil ?_
    refine X.thenN ⟨1, by omega, by omega, (Env.Sub.cons rfl rfl (Env.Sub.cons rfl rfl (Env.Sub.cons rfl rfl (Env.Sub.cons rfl rfl (Env.Sub.cons rfl rfl Env.Sub.nil))))), Ent.left [_] _⟩
  · -- else
    refine WP.exit ?_
    refine X.thenE (X.thenE (X.blockE ?_))
    refine X.thenN ?_
    refine WP.regs ?_
    refine L.loadN T24.ag rfl rfl (Rds.all 1 rfl) ?_
    refine WL.callV rfl rfl F45.fn rfl (fun g gS dj => topo_Home t hg) ?_   -- vivarium/topo.Home slot 27
    refine L.move rfl ?_
    refine L.extract rfl rfl ?_
    refine L.extract rfl rfl ?_
    refine L.alloc T103.z ?_; intro b4
    refine L.storeN T103.ag rfl rfl rfl (Wrs.all 0 rfl rfl (by simp [Value.oneCell'])) ?_
    refine L.assign rfl ?_
    refine WL.nil ?_
    refine WP.regs ?_
    refine L.loadN T24.ag rfl rfl (Rds.all 2 rfl) ?_
    refine L.fieldAddr (o' := 0) T103.f0 rfl rfl ?_
    refine L.load T3.sc rfl (Rd.own 0 rfl rfl) ?_
    refine L.fieldAddr (o' := 1) T103.f1 rfl rfl ?_
    refine L.load T3.sc rfl (Rd.own 0 rfl rfl) ?_
    refine L.build (cs := [_, _, _, _, _, _, _]) T96.b T96.z rfl rfl ?_
    refine L.move rfl ?_
    refine L.storeN T96.ag rfl rfl rfl (Wrs.all 1 rfl rfl (by simp [Value.oneCell'])) ?_
    refine L.assign rfl ?_
    refine WL.nil ?_
    refine WP.ret ?_
    refine X.ret rfl (ResCellTmp rfl rfl T96.ag rfl (Rds.all 1 rfl) rfl) ?_
    exact rfl

end

end Go.Eng
