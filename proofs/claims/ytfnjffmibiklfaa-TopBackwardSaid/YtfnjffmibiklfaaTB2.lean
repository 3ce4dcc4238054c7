/- Walks of the seat's functions over those rules, and plain laws of what they compute. No conditions beyond those in each theorem. -/
import Derived.Test.YtfnjffmibiklfaaTB1
namespace Go.Eng
open Go.RowKit Go.Proofs
set_option linter.unusedSimpArgs false
set_option linter.unusedVariables false

/-- The cell of home numbers, of a plane or a torus. -/
def Topo.cell (t : Topo) (u v : Int) : Int × Int :=
  if t.kind = 1 then (u, v)
  else if t.turn = 1 then ((u - v / t.h * t.shift) % t.w, v % t.h)
  else if t.turn = 2 then (u % t.w, (v - u / t.w * t.shift) % t.h)
  else (u % t.w, v % t.h)
def Topo.has (t : Topo) (u v : Int) : Bool := decide (t.kind = 2 ∨ (0 ≤ u ∧ u < t.w ∧ 0 ≤ v ∧ v < t.h))
theorem half {w : Int} (h : 0 < w ∧ w ≤ 65536) : 0 ≤ w / 2 ∧ w / 2 ≤ 32768 := by omega
section
variable {k : World} {h0 : Hp}

set_option maxRecDepth 10000 in
theorem fold_near (x y : Int) (hx : -1099511627776 ≤ x ∧ x ≤ 1099511627776) (hy : -1099511627776 ≤ y ∧ y ≤ 1099511627776) : FT Pg 44 [.agg (ptC x y).toArray] k h0 [] (Is (.bool true)) := by
  refine FT.of_wp (n := 17) Try.func44 rfl rfl rfl ?_
  refine WP.regs ?_
  refine L.box rfl rfl ?_; intro b1
  refine L.assign rfl ?_
  refine WL.nil ?_
  refine WP.regs ?_
  refine L.fieldAddr (o' := 0) T58.f0 rfl rfl ?_
  refine L.load T3.sc rfl (Rd.own 0 rfl rfl) ?_
  refine L.fieldAddr (o' := 1) T58.f1 rfl rfl ?_
  refine L.load T3.sc rfl (Rd.own 0 rfl rfl) ?_
  refine L.max2 rfl rfl ?_
  refine L.leqD rfl rfl (fun h8 => ?_) (fun hF => absurd hF (by omega))
  refine L.move rfl ?_
  refine L.fieldAddr (o' := 0) T58.f0 rfl rfl ?_
  refine L.load T3.sc rfl (Rd.own 0 rfl rfl) ?_
  refine L.fieldAddr (o' := 1) T58.f1 rfl rfl ?_
  refine L.load T3.sc rfl (Rd.own 0 rfl rfl) ?_
  refine L.min2 rfl rfl ?_
  refine L.geq rfl rfl ?_
  refine L.pickT rfl rfl ?_
  refine L.assign rfl ?_
  refine WL.nil ?_
  refine WP.ret ?_
  refine X.ret rfl (Res.one rfl rfl) ?_
  show _ = _
  rw [decide_eq_true (by omega)]

set_option maxRecDepth 10000 in
theorem fold_home (t : Topo) (hg : t.Good) (x y : Int) (hx : -1099511627776 ≤ x ∧ x ≤ 1099511627776) (hy : -1099511627776 ≤ y ∧ y ≤ 1099511627776) : FT Pg 46 [.agg (gridC t).toArray, .agg (ptC x y).toArray] k h0 [] (Is (.tuple #[.int .i64 (x - -(t.w / 2)), .int .i64 (y - -(t.h / 2))])) := by
  have hk := hg.kind; have hk2 := hg.kind2; have hw := hg.w; have hh := hg.h; have hw0 := hg.w0; have hh0 := hg.h0; have hfl := hg.flat; have htn := hg.turn; have hno := hg.none; have hwi := hg.wide; have hhi := hg.high
  refine FT.of_wp (n := 30) Try.func46 rfl rfl rfl ?_
  refine WP.regs ?_
  refine L.box rfl rfl ?_; intro b1
  refine L.box rfl rfl ?_; intro b2
  refine L.assign rfl ?_
  refine L.assign rfl ?_
  refine WL.nil ?_
  refine WP.seq ?_
  refine WP.regs ?_
  refine L.fieldAddr (o' := 0) T96.f0 rfl rfl ?_
  refine L.fieldAddr (o' := 1) T24.f1 rfl rfl ?_
  refine L.load T3.sc rfl (Rd.own 1 rfl rfl) ?_
  refine L.gtr rfl rfl ?_
  refine WL.nil ?_
  refine WP.condD rfl (fun h9 => ?_) (fun hF => absurd hF (by omega))
  refine WP.region ?_
  refine L.fieldAddr (o' := 0) T58.f0 rfl rfl ?_
  refine L.load T3.sc rfl (Rd.own 0 rfl rfl) ?_
  refine L.fieldAddr (o' := 5) T96.f1 rfl rfl ?_
  refine L.load T3.sc rfl (Rd.own 1 rfl rfl) ?_
  refine L.sub' rfl rfl (by omega) ?_
  refine L.fieldAddr (o' := 0) T58.f0 rfl rfl ?_
  refine L.store T3.sc rfl rfl rfl (Wr.at 0 rfl rfl) ?_
  refine WL.nil ?_
  refine X.thenN ?_
  refine WP.seq ?_
  refine WP.regs ?_
  refine L.fieldAddr (o' := 0) T96.f0 rfl rfl ?_
  refine L.fieldAddr (o' := 2) T24.f2 rfl rfl ?_
  refine L.load T3.sc rfl (Rd.own 1 rfl rfl) ?_
  refine L.gtr rfl rfl ?_
  refine WL.nil ?_
  refine WP.condD rfl (fun h19 => ?_) (fun hF => absurd hF (by omega))
  refine WP.region ?_
  refine L.fieldAddr (o' := 1) T58.f1 rfl rfl ?_
  refine L.load T3.sc rfl (Rd.own 0 rfl rfl) ?_
  refine L.fieldAddr (o' := 6) T96.f2 rfl rfl ?_
  refine L.load T3.sc rfl (Rd.own 1 rfl rfl) ?_
  refine L.sub' rfl rfl (by omega) ?_
  refine L.fieldAddr (o' := 1) T58.f1 rfl rfl ?_
  refine L.store T3.sc rfl rfl rfl (Wr.at 0 rfl rfl) ?_
  refine WL.nil ?_
  refine X.thenN ?_
  refine WP.seq ?_
  refine WP.rege [(0, true), (1, true), (2, true), (3, true), (4, true), (5, true)] 6 rfl (by kernel_rfl) (PInv.then PInv.ret) rfl ?_
  refine WE.take rfl (V.fieldAddr (o' := 0) T58.f0 rfl rfl) ?_
  refine WE.take rfl (V.load T3.sc rfl (Rd.own 0 rfl rfl)) ?_
  refine WE.take rfl (V.fieldAddr (o' := 1) T58.f1 rfl rfl) ?_
  refine WE.take rfl (V.load T3.sc rfl (Rd.own 0 rfl rfl)) ?_
  refine WE.take rfl (V.assign rfl) ?_
  refine WE.take rfl (V.assign rfl) ?_
  refine WE.nil ?_
  refine X.thenN ?_
  refine WP.ret ?_
  refine X.ret rfl (Res.two rfl rfl rfl) ?_
  exact rfl

set_option maxRecDepth 10000 in
theorem fold_glued (t : Topo) (hg : t.Good) : FT Pg 47 [.agg (gridC t).toArray] k h0 [] (Is (.bool (decide (t.kind = 2)))) := by
  have hk := hg.kind; have hk2 := hg.kind2; have hw := hg.w; have hh := hg.h; have hw0 := hg.w0; have hh0 := hg.h0; have hfl := hg.flat; have htn := hg.turn; have hno := hg.none; have hwi := hg.wide; have hhi := hg.high
  refine FT.of_wp (n := 13) Try.func47 rfl rfl rfl ?_
  refine WP.regs ?_
  refine L.box rfl rfl ?_; intro b1
  refine L.assign rfl ?_
  refine WL.nil ?_
  refine WP.regs ?_
  refine L.fieldAddr (o' := 0) T96.f0 rfl rfl ?_
  refine L.fieldAddr (o' := 0) T24.f0 rfl rfl ?_
  refine L.load T5.sc rfl (Rd.own 0 rfl rfl) ?_
  refine L.neqD rfl rfl (fun h6 => ?_) (fun h6 => ?_)
  · -- true
    refine L.move rfl ?_
    refine L.fieldAddr (o' := 0) T96.f0 rfl rfl ?_
    refine L.fieldAddr (o' := 0) T24.f0 rfl rfl ?_
    refine L.load T5.sc rfl (Rd.own 0 rfl rfl) ?_
    refine L.neq rfl rfl ?_
    refine L.pickT rfl rfl ?_
    refine L.assign rfl ?_
    refine WL.nil ?_
    refine WP.ret ?_
    refine X.ret rfl (Res.one rfl rfl) ?_
    show _ = _
    rw [decide_eq_true (by omega), decide_eq_true (by omega)]
  · -- false
    refine L.move rfl ?_
    iterate 4 refine L.skip ?_
    refine L.pickF rfl rfl ?_
    refine L.assign rfl ?_
    refine WL.nil ?_
    refine WP.ret ?_
    refine X.ret rfl (Res.one rfl rfl) ?_
    show _ = _
    rw [decide_eq_false (by omega)]

set_option maxRecDepth 10000 in
theorem fold_place (t : Topo) (hg : t.Good) (u v : Int) (hu : -1099511627776 ≤ u ∧ u ≤ 1099511627776) (hv : -1099511627776 ≤ v ∧ v ≤ 1099511627776) : FT Pg 50 [.agg (gridC t).toArray, .int .i64 u, .int .i64 v] k h0 [] (Is (.agg (ptC (u + -(t.w / 2)) (v + -(t.h / 2))).toArray)) := by
  have hk := hg.kind; have hk2 := hg.kind2; have hw := hg.w; have hh := hg.h; have hw0 := hg.w0; have hh0 := hg.h0; have hfl := hg.flat; have htn := hg.turn; have hno := hg.none; have hwi := hg.wide; have hhi := hg.high
  refine FT.of_wp (n := 26) Try.func50 rfl rfl rfl ?_
  refine WP.regs ?_
  refine L.box rfl rfl ?_; intro b1
  refine L.alloc T58.z ?_; intro b2
  refine WL.nil ?_
  refine WP.seq ?_
  refine WP.regs ?_
  refine L.fieldAddr (o' := 0) T96.f0 rfl rfl ?_
  refine L.fieldAddr (o' := 1) T24.f1 rfl rfl ?_
  refine L.load T3.sc rfl (Rd.own 1 rfl rfl) ?_
  refine L.gtr rfl rfl ?_
  refine WL.nil ?_
  refine WP.condD rfl (fun h10 => ?_) (fun hF => absurd hF (by omega))
  refine WP.region ?_
  refine L.move rfl ?_
  refine L.fieldAddr (o' := 5) T96.f1 rfl rfl ?_
  refine L.load T3.sc rfl (Rd.own 1 rfl rfl) ?_
  refine L.add' rfl rfl (by omega) ?_
  refine L.assign rfl ?_
  refine WL.nil ?_
  refine X.thenN ?_
  refine WP.seq ?_
  refine WP.regs ?_
  refine L.fieldAddr (o' := 0) T96.f0 rfl rfl ?_
  refine L.fieldAddr (o' := 2) T24.f2 rfl rfl ?_
  refine L.load T3.sc rfl (Rd.own 1 rfl rfl) ?_
  refine L.gtr rfl rfl ?_
  refine WL.nil ?_
  refine WP.condD rfl (fun h18 => ?_) (fun hF => absurd hF (by omega))
  refine WP.region ?_
  refine L.move rfl ?_
  refine L.fieldAddr (o' := 6) T96.f2 rfl rfl ?_
  refine L.load T3.sc rfl (Rd.own 1 rfl rfl) ?_
  refine L.add' rfl rfl (by omega) ?_
  refine L.assign rfl ?_
  refine WL.nil ?_
  refine X.thenN ?_
  refine WP.regs ?_
  refine L.move rfl ?_
  refine L.move rfl ?_
  refine L.build (cs := [_, _]) T58.b T58.z rfl rfl ?_
  refine L.storeN T58.ag rfl rfl rfl (Wrs.all 0 rfl rfl (by simp [Value.oneCell'])) ?_
  refine WL.nil ?_
  refine WP.ret ?_
  refine X.ret rfl (ResCell1 rfl rfl T58.ag rfl (Rds.all 0 rfl)) ?_
  exact rfl

set_option maxRecDepth 10000 in
theorem fold_flat (t : Topo) (hg : t.Good) (u v : Int) (hin : 0 ≤ u ∧ u < t.w ∧ 0 ≤ v ∧ v < t.h) : FT Pg 51 [.agg (gridC t).toArray, .int .i64 u, .int .i64 v] k h0 [] (Is (.tuple #[.int .i64 u, .int .i64 v, .bool true])) := by
  have hk := hg.kind; have hk2 := hg.kind2; have hw := hg.w; have hh := hg.h; have hw0 := hg.w0; have hh0 := hg.h0; have hfl := hg.flat; have htn := hg.turn; have hno := hg.none; have hwi := hg.wide; have hhi := hg.high
  have e1 := decide_eq_true (show 0 ≤ u ∧ u < t.w by omega); have e2 := decide_eq_true (show 0 ≤ v ∧ v < t.h by omega)
  refine FT.of_wp (n := 23) Try.func51 rfl rfl rfl ?_
  refine WP.regs ?_
  refine L.box rfl rfl ?_; intro b1
  refine L.assign rfl ?_
  refine L.assign rfl ?_
  refine L.assign rfl ?_
  refine WL.nil ?_
  refine WP.regs ?_
  refine L.move rfl ?_
  refine L.move rfl ?_
  refine L.move rfl ?_
  refine L.fieldAddr (o' := 0) T96.f0 rfl rfl ?_
  refine L.fieldAddr (o' := 1) T24.f1 rfl rfl ?_
  refine L.load T3.sc rfl (Rd.own 0 rfl rfl) ?_
  refine WL.callV rfl rfl F48.fn rfl (fun g gS dj => e1 ▸ fold_on u t.w hg.w0) ?_   -- vivarium/fold.on slot 15
  refine L.move rfl ?_
  refine L.move rfl ?_
  refine L.fieldAddr (o' := 0) T96.f0 rfl rfl ?_
  refine L.fieldAddr (o' := 2) T24.f2 rfl rfl ?_
  refine L.load T3.sc rfl (Rd.own 0 rfl rfl) ?_
  refine WL.callV rfl rfl F48.fn rfl (fun g gS dj => e2 ▸ fold_on v t.h hg.h0) ?_   -- vivarium/fold.on slot 21
  refine L.pickT rfl rfl ?_
  refine L.assign rfl ?_
  refine L.assign rfl ?_
  refine L.assign rfl ?_
  refine WL.nil ?_
  refine WP.ret ?_
  refine X.ret rfl (Res.three rfl rfl rfl rfl) ?_
  exact rfl

theorem abs_ediv (v h : Int) (hh : 0 < h) : (0 ≤ v → 0 ≤ v / h ∧ v / h ≤ v) ∧ (v < 0 → v ≤ v / h ∧ v / h < 0) := by
  refine ⟨fun h0 => ⟨Int.ediv_nonneg h0 (by omega), Int.ediv_le_self h h0⟩, fun h0 => ⟨?_, Int.ediv_neg_of_neg_of_pos h0 hh⟩⟩
  rw [Int.le_ediv_iff_mul_le hh]
  have := Int.mul_le_mul_of_nonpos_left (show v ≤ 0 by omega) (show (1 : Int) ≤ h by omega)
  omega
theorem mul_bd (a b A B : Int) (ha : -A ≤ a ∧ a ≤ A) (hb : -B ≤ b ∧ b ≤ B) : -(A * B) ≤ a * b ∧ a * b ≤ A * B := by
  have hA : 0 ≤ A := by omega
  have hB : 0 ≤ B := by omega
  have h1 : a.natAbs ≤ A.natAbs := by omega
  have h2 : b.natAbs ≤ B.natAbs := by omega
  have h3 : (a * b).natAbs ≤ (A * B).natAbs := by rw [Int.natAbs_mul, Int.natAbs_mul]; exact Nat.mul_le_mul h1 h2
  have h4 : 0 ≤ A * B := Int.mul_nonneg hA hB
  omega
set_option maxRecDepth 10000 in
theorem fold_torus (t : Topo) (hg : t.Good) (hkk : t.kind = 2) (u v : Int) (hu : -1000000 ≤ u ∧ u ≤ 1000000) (hv : -1000000 ≤ v ∧ v ≤ 1000000) : FT Pg 52 [.agg (gridC t).toArray, .int .i64 u, .int .i64 v] k h0 [] (Is (.tuple #[.int .i64 (t.cell u v).1, .int .i64 (t.cell u v).2, .bool true])) := by
  have hk := hg.kind; have hk2 := hg.kind2; have hw := hg.w; have hh := hg.h; have hw0 := hg.w0; have hh0 := hg.h0; have hfl := hg.flat; have htn := hg.turn; have hno := hg.none; have hwi := hg.wide; have hhi := hg.high
  have hj := abs_ediv v t.h hh0; have hi := abs_ediv u t.w hw0
  refine FT.of_wp (n := 60) Try.func52 rfl rfl rfl ?_
  refine WP.regs ?_
  refine L.box rfl rfl ?_; intro b1
  refine L.assign rfl ?_
  refine L.assign rfl ?_
  refine L.assign rfl ?_
  refine WL.nil ?_
  refine WP.regs ?_
  refine L.move rfl ?_
  refine L.fieldAddr (o' := 0) T96.f0 rfl rfl ?_
  refine L.fieldAddr (o' := 1) T24.f1 rfl rfl ?_
  refine L.load T3.sc rfl (Rd.own 0 rfl rfl) ?_
  refine WL.callV rfl rfl F56.fn rfl (fun g gS dj => fold_cut u t.w (by omega) (by omega)) ?_   -- vivarium/fold.cut slot 18
  refine L.move rfl ?_
  refine L.extract rfl rfl ?_
  refine L.extract rfl rfl ?_
  refine L.assign rfl ?_
  refine L.assign rfl ?_
  refine WL.nil ?_
  refine WP.regs ?_
  refine L.move rfl ?_
  refine L.fieldAddr (o' := 0) T96.f0 rfl rfl ?_
  refine L.fieldAddr (o' := 2) T24.f2 rfl rfl ?_
  refine L.load T3.sc rfl (Rd.own 0 rfl rfl) ?_
  refine WL.callV rfl rfl F56.fn rfl (fun g gS dj => fold_cut v t.h (by omega) (by omega)) ?_   -- vivarium/fold.cut slot 26
  refine L.move rfl ?_
  refine L.extract rfl rfl ?_
  refine L.extract rfl rfl ?_
  refine L.assign rfl ?_
  refine L.assign rfl ?_
  refine WL.nil ?_
  refine WP.seq ?_
  refine WP.regs ?_
  refine L.fieldAddr (o' := 0) T96.f0 rfl rfl ?_
  refine L.fieldAddr (o' := 3) T24.f3 rfl rfl ?_
  refine L.load T5.sc rfl (Rd.own 0 rfl rfl) ?_
  refine WL.nil ?_
  refine WP.block ?_
  refine WP.regs ?_
  refine L.eql rfl rfl ?_
  refine L.assign rfl ?_
  refine WL.nil ?_
  refine WP.condD rfl (fun h32 => ?_) (fun h32 => ?_)
  · -- then
    refine WP.region ?_
    refine L.move rfl ?_
    refine L.move rfl ?_
    refine L.fieldAddr (o' := 0) T96.f0 rfl rfl ?_
    refine L.fieldAddr (o' := 4) T24.f4 rfl rfl ?_
    refine L.load T3.sc rfl (Rd.own 0 rfl rfl) ?_
    have hb := mul_bd (v / t.h) t.shift 1000000 65536 (by omega) (by omega)
    refine L.mul' rfl rfl (by omega) ?_
    refine L.sub' rfl rfl (by omega) ?_
    refine L.fieldAddr (o' := 0) T96.f0 rfl rfl ?_
    refine L.fieldAddr (o' := 1) T24.f1 rfl rfl ?_
    refine L.load T3.sc rfl (Rd.own 0 rfl rfl) ?_
    refine WL.callV rfl rfl F57.fn rfl (fun g gS dj => fold_round _ t.w (by omega)) ?_   -- vivarium/fold.round slot 44
    refine L.assign rfl ?_
    refine WL.nil ?_
    refine X.blockN ?_
    refine X.thenN ?_
    refine WP.regs ?_
    refine L.move rfl ?_
    refine L.move rfl ?_
    refine L.assign rfl ?_
    refine L.assign rfl ?_
    refine L.assign rfl ?_
    refine WL.nil ?_
    refine WP.ret ?_
    refine X.ret rfl (Res.three rfl rfl rfl rfl) ?_
    show _ = _
    simp [Topo.cell, hkk, *]
  · -- else
    refine WP.regs ?_
    refine L.eql rfl rfl ?_
    refine L.assign rfl ?_
    refine WL.nil ?_
    refine WP.condD rfl (fun h45 => ?_) (fun h45 => ?_)
    · -- then
      refine WP.region ?_
      refine L.move rfl ?_
      refine L.move rfl ?_
      refine L.fieldAddr (o' := 0) T96.f0 rfl rfl ?_
      refine L.fieldAddr (o' := 4) T24.f4 rfl rfl ?_
      refine L.load T3.sc rfl (Rd.own 0 rfl rfl) ?_
      have hb := mul_bd (u / t.w) t.shift 1000000 65536 (by omega) (by omega)
      refine L.mul' rfl rfl (by omega) ?_
      refine L.sub' rfl rfl (by omega) ?_
      refine L.fieldAddr (o' := 0) T96.f0 rfl rfl ?_
      refine L.fieldAddr (o' := 2) T24.f2 rfl rfl ?_
      refine L.load T3.sc rfl (Rd.own 0 rfl rfl) ?_
      refine WL.callV rfl rfl F57.fn rfl (fun g gS dj => fold_round _ t.h (by omega)) ?_   -- vivarium/fold.round slot 57
      refine L.assign rfl ?_
      refine WL.nil ?_
      refine X.blockN ?_
      refine X.thenN ?_
      refine WP.regs ?_
      refine L.move rfl ?_
      refine L.move rfl ?_
      refine L.assign rfl ?_
      refine L.assign rfl ?_
      refine L.assign rfl ?_
      refine WL.nil ?_
      refine WP.ret ?_
      refine X.ret rfl (Res.three rfl rfl rfl rfl) ?_
      show _ = _
      simp [Topo.cell, hkk, *]
    · -- else
      refine WP.skip ?_
      refine X.blockN ?_
      refine X.thenN ?_
      refine WP.regs ?_
      refine L.move rfl ?_
      refine L.move rfl ?_
      refine L.assign rfl ?_
      refine L.assign rfl ?_
      refine L.assign rfl ?_
      refine WL.nil ?_
      refine WP.ret ?_
      refine X.ret rfl (Res.three rfl rfl rfl rfl) ?_
      show _ = _
      simp [Topo.cell, hkk, *]

end

end Go.Eng
