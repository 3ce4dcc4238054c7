/- Walks of the seat's functions over those rules, and plain laws of what they compute. No conditions beyond those in each theorem. -/
import Derived.Test.YtfnjffmibiklfaaTB15
namespace Go.Eng
open Go.RowKit Go.Proofs
set_option linter.unusedSimpArgs false
set_option linter.unusedVariables false
section
variable {k : World} {h0 : Hp}

set_option maxRecDepth 10000 in
theorem block_asked_bits (bs : List Int) (hbs : Blk bs) (t : Topo) (hg : t.Even) {b : Nat} {W H : Nat} {F : Nat → Nat → Nat} (hWw : (W : Int) = t.w) (hHh : (H : Int) = t.h) (gen n : Int) (hgen : 0 ≤ gen ∧ gen ≤ 1125899906842624) (hsp : 0 ≤ gen + n ∧ gen + n ≤ 1125899906842624) (hturn : n < 0 → seenTo bs 16 = onceTo 16) (hwork : n ≤ 67108864 / (t.w * t.h) ∧ -n ≤ 67108864 / (t.w * t.h)) (hin : In (fieldHP b true W H 2 F) h0) : FT Pg 18 [.agg (u8C bs).toArray, .agg (topoC t).toArray, .pointer (some ⟨b, 0, none⟩), .int .i64 gen, .int .i64 n] k h0 [] (Is (.int .i64 0)) := by
  have hk := hg.kind; have hk2 := hg.kind2; have hw := hg.w; have hh := hg.h; have hw0 := hg.w0; have hh0 := hg.h0; have hwe := hg.we; have hhe := hg.he; have hse := hg.se; have hwi := hg.wide; have hhi := hg.high; have hno := hg.none; have htn := hg.turn; have hfl := hg.flat
  obtain ⟨hk0, rv, hb, hs⟩ := hin.field
  change h0 b = some (.cells [.int .i64 (W : Int), .int .i64 (H : Int), .int .i64 ((2 : Nat) : Int), .bool true, .iface 72 rv].toArray 46) at hb
  have hwh : 0 < t.w * t.h := Int.mul_pos hw0 hh0
  have hwh2 : t.w * t.h ≤ 65536 * 65536 := Int.mul_le_mul hw.2 hh.2 hh.1 (by omega)
  have hq : 67108864 / (t.w * t.h) ≤ 67108864 := Int.ediv_le_self _ (by omega)
  refine FT.of_wp (n := 89) Try.func18 rfl rfl rfl ?_
  refine WP.regs ?_
  refine L.box rfl rfl ?_; intro b1
  refine L.box rfl rfl ?_; intro b2
  refine L.assign rfl ?_
  refine WL.nil ?_
  refine WP.seq ?_
  refine WP.regs ?_
  refine L.move rfl ?_
  refine L.eqlPtrNil T30.u rfl ?_
  refine L.move rfl ?_
  refine L.move rfl ?_
  refine WL.callV rfl rfl F28.fn rfl (fun g gS dj => field_W (Hp.le_un_left _ _ _ _ hb)) ?_   -- (*vivarium/field.Field).W slot 21
  refine L.eql rfl rfl ?_
  refine L.pickF rfl rfl ?_
  refine WL.nil ?_
  refine WP.condD rfl (fun hT => absurd hT (by omega)) (fun h23 => ?_)
  refine WP.skip ?_
  refine X.thenN ?_
  refine WP.seq ?_
  refine WP.regs ?_
  refine L.loadN T22.ag rfl (by simp [hbs.len]) (Rds.all 1 rfl) ?_
  refine WL.callV rfl rfl F12.fn rfl (fun g gS dj => block_Check bs hbs) ?_   -- vivarium/block.Check slot 25
  refine L.assign rfl ?_
  refine WL.nil ?_
  refine WP.regs ?_
  refine L.move rfl ?_
  refine L.neq rfl rfl ?_
  refine WL.nil ?_
  refine WP.condD rfl (fun hT => absurd hT (by omega)) (fun h27 => ?_)
  refine WP.skip ?_
  refine X.thenN ?_
  refine WP.seq ?_
  refine WP.regs ?_
  refine L.loadN T24.ag rfl rfl (Rds.all 0 rfl) ?_
  refine WL.callV rfl rfl F29.fn rfl (fun g gS dj => block_grid t hg) ?_   -- vivarium/block.grid slot 30
  refine L.assign rfl ?_
  refine WL.nil ?_
  refine WP.regs ?_
  refine L.move rfl ?_
  refine L.neq rfl rfl ?_
  refine WL.nil ?_
  refine WP.condD rfl (fun hT => absurd hT (by omega)) (fun h32 => ?_)
  refine WP.skip ?_
  refine X.thenN ?_
  refine WP.seq ?_
  refine WP.block ?_
  refine WP.regs ?_
  refine L.move rfl ?_
  refine L.lss rfl rfl ?_
  refine L.assign rfl ?_
  refine WL.nil ?_
  refine WP.condD rfl (fun hT => absurd hT (by omega)) (fun h34 => ?_)
  refine WP.regs ?_
  refine L.move rfl ?_
  refine L.gtr rfl rfl ?_
  refine L.assign rfl ?_
  refine WL.nil ?_
  refine WP.condD rfl (fun hT => absurd hT (by omega)) (fun h37 => ?_)
  refine WP.seq ?_
  refine WP.rege [(0, true), (1, true), (2, true), (3, false), (4, true), (5, true), (6, true), (7, true), (8, true), (9, false), (10, true), (11, true), (12, true)] 13 rfl (by kernel_rfl) (PInv.then (PInv.block (PInv.then PInv.ret))) rfl ?_
  refine WE.take rfl (V.fieldAddr (o' := 1) T24.f1 rfl rfl) ?_
  refine WE.take rfl (V.load T3.sc rfl (Rd.own 0 rfl rfl)) ?_
  refine WE.take rfl (V.move rfl) ?_
  refine WE.one rfl ?_
  refine WL.callV rfl rfl F28.fn rfl (fun g gS dj => field_W (Hp.le_un_left _ _ _ _ hb)) ?_   -- (*vivarium/field.Field).W slot 44
  refine WL.nil ⟨Ent.refl _, ?_⟩
  refine WE.takeD rfl (V.neq rfl rfl) (fun hT => absurd hT (by omega)) (fun h45 => ?_)
  refine WE.take rfl (V.move rfl) ?_
  refine WE.take rfl (V.fieldAddr (o' := 2) T24.f2 rfl rfl) ?_
  refine WE.take rfl (V.load T3.sc rfl (Rd.own 0 rfl rfl)) ?_
  refine WE.take rfl (V.move rfl) ?_
  refine WE.one rfl ?_
  refine WL.callV rfl rfl F30.fn rfl (fun g gS dj => field_H (Hp.le_un_left _ _ _ _ hb)) ?_   -- (*vivarium/field.Field).H slot 50
  refine WL.nil ⟨Ent.refl _, ?_⟩
  refine WE.take rfl (V.neq rfl rfl) ?_
  refine WE.take rfl (V.pickF rfl rfl) ?_
  refine WE.take rfl (V.assign rfl) ?_
  refine WE.nil ?_
  refine X.thenN ?_
  refine WP.condD rfl (fun hT => absurd hT (by omega)) (fun h40 => ?_)
  refine WP.regs ?_
  refine L.move rfl ?_
  refine WL.callV rfl rfl F31.fn rfl (fun g gS dj => field_States (Hp.le_un_left _ _ _ _ hb)) ?_   -- (*vivarium/field.Field).States slot 55
  refine L.gtr rfl rfl ?_
  refine L.assign rfl ?_
  refine WL.nil ?_
  refine WP.condD rfl (fun hT => absurd hT (by omega)) (fun h53 => ?_)
  refine WP.skip ?_
  refine X.blockN ?_
  refine X.thenN ?_
  refine WP.seq ?_
  refine WP.regs ?_
  refine L.move rfl ?_
  refine L.move rfl ?_
  refine WL.callV rfl rfl F32.fn rfl (fun g gS dj => block_span gen n (by omega) (by omega) (by omega)) ?_   -- vivarium/block.span slot 59
  refine L.assign rfl ?_
  refine WL.nil ?_
  refine WP.regs ?_
  refine L.move rfl ?_
  refine L.neq rfl rfl ?_
  refine WL.nil ?_
  refine WP.condD rfl (fun hT => absurd hT (by omega)) (fun h61 => ?_)
  refine WP.skip ?_
  refine X.thenN ?_
  refine WP.seq ?_
  refine WP.regs ?_
  refine L.loadN T22.ag rfl (by simp [hbs.len]) (Rds.all 1 rfl) ?_
  refine WL.callV rfl rfl F4.fn rfl (fun g gS dj => block_Turns bs hbs) ?_   -- vivarium/block.Turns slot 65
  refine L.move rfl ?_
  refine L.extract rfl rfl ?_
  refine L.extract rfl rfl ?_
  refine L.assign rfl ?_
  refine L.assign rfl ?_
  refine WL.nil ?_
  refine WP.regs ?_
  refine L.move rfl ?_
  refine L.lssD rfl rfl (fun h69 => ?_) (fun h69 => ?_)
  · -- true
    refine L.move rfl ?_
    refine L.move rfl ?_
    refine L.not rfl ?_
    refine L.pickT rfl rfl ?_
    refine WL.nil ?_
    refine WP.cond rfl (fun hT => absurd hT (by simp [hturn h69])) (fun h73 => ?_)
    refine WP.skip ?_
    refine X.thenN ?_
    refine WP.seq ?_
    refine WP.regs ?_
    refine L.fieldAddr (o' := 1) T24.f1 rfl rfl ?_
    refine L.load T3.sc rfl (Rd.own 0 rfl rfl) ?_
    refine L.fieldAddr (o' := 2) T24.f2 rfl rfl ?_
    refine L.load T3.sc rfl (Rd.own 0 rfl rfl) ?_
    refine L.mul' rfl rfl (by omega) ?_
    refine L.quo' rfl rfl (by omega) ?_
    refine L.assign rfl ?_
    refine WL.nil ?_
    refine WP.regs ?_
    refine L.move rfl ?_
    refine L.move rfl ?_
    refine L.gtrD rfl rfl (fun hT => absurd hT (by omega)) (fun h82 => ?_)
    refine L.move rfl ?_
    refine L.move rfl ?_
    refine L.neg' rfl (by omega) ?_
    refine L.move rfl ?_
    refine L.gtr rfl rfl ?_
    refine L.pickF rfl rfl ?_
    refine WL.nil ?_
    refine WP.condD rfl (fun hT => absurd hT (by omega)) (fun h88 => ?_)
    refine WP.skip ?_
    refine X.thenN ?_
    refine WP.regs ?_
    refine L.assign rfl ?_
    refine WL.nil ?_
    refine WP.ret ?_
    refine X.ret rfl (Res.one rfl rfl) ?_
    exact rfl
  · -- false
    refine L.move rfl ?_
    iterate 2 refine L.skip ?_
    refine L.pickF rfl rfl ?_
    refine WL.nil ?_
    refine WP.condF rfl ?_
    refine WP.skip ?_
    refine X.thenN ?_
    refine WP.seq ?_
    refine WP.regs ?_
    refine L.fieldAddr (o' := 1) T24.f1 rfl rfl ?_
    refine L.load T3.sc rfl (Rd.own 0 rfl rfl) ?_
    refine L.fieldAddr (o' := 2) T24.f2 rfl rfl ?_
    refine L.load T3.sc rfl (Rd.own 0 rfl rfl) ?_
    refine L.mul' rfl rfl (by omega) ?_
    refine L.quo' rfl rfl (by omega) ?_
    refine L.assign rfl ?_
    refine WL.nil ?_
    refine WP.regs ?_
    refine L.move rfl ?_
    refine L.move rfl ?_
    refine L.gtrD rfl rfl (fun hT => absurd hT (by omega)) (fun h82 => ?_)
    refine L.move rfl ?_
    refine L.move rfl ?_
    refine L.neg' rfl (by omega) ?_
    refine L.move rfl ?_
    refine L.gtr rfl rfl ?_
    refine L.pickF rfl rfl ?_
    refine WL.nil ?_
    refine WP.condD rfl (fun hT => absurd hT (by omega)) (fun h88 => ?_)
    refine WP.skip ?_
    refine X.thenN ?_
    refine WP.regs ?_
    refine L.assign rfl ?_
    refine WL.nil ?_
    refine WP.ret ?_
    refine X.ret rfl (Res.one rfl rfl) ?_
    exact rfl

set_option maxRecDepth 10000 in
theorem block_asked_bytes (bs : List Int) (hbs : Blk bs) (t : Topo) (hg : t.Even) {b : Nat} {W H : Nat} {F : Nat → Nat → Nat} (hWw : (W : Int) = t.w) (hHh : (H : Int) = t.h) (gen n : Int) (hgen : 0 ≤ gen ∧ gen ≤ 1125899906842624) (hsp : 0 ≤ gen + n ∧ gen + n ≤ 1125899906842624) (hturn : n < 0 → seenTo bs 16 = onceTo 16) (hwork : n ≤ 67108864 / (t.w * t.h) ∧ -n ≤ 67108864 / (t.w * t.h)) (hin : In (fieldHP b false W H 2 F) h0) : FT Pg 18 [.agg (u8C bs).toArray, .agg (topoC t).toArray, .pointer (some ⟨b, 0, none⟩), .int .i64 gen, .int .i64 n] k h0 [] (Is (.int .i64 0)) := by
  have hk := hg.kind; have hk2 := hg.kind2; have hw := hg.w; have hh := hg.h; have hw0 := hg.w0; have hh0 := hg.h0; have hwe := hg.we; have hhe := hg.he; have hse := hg.se; have hwi := hg.wide; have hhi := hg.high; have hno := hg.none; have htn := hg.turn; have hfl := hg.flat
  obtain ⟨hk0, rv, hb, hs⟩ := hin.field
  change h0 b = some (.cells [.int .i64 (W : Int), .int .i64 (H : Int), .int .i64 ((2 : Nat) : Int), .bool false, .iface 80 rv].toArray 46) at hb
  have hwh : 0 < t.w * t.h := Int.mul_pos hw0 hh0
  have hwh2 : t.w * t.h ≤ 65536 * 65536 := Int.mul_le_mul hw.2 hh.2 hh.1 (by omega)
  have hq : 67108864 / (t.w * t.h) ≤ 67108864 := Int.ediv_le_self _ (by omega)
  refine FT.of_wp (n := 89) Try.func18 rfl rfl rfl ?_
  refine WP.regs ?_
  refine L.box rfl rfl ?_; intro b1
  refine L.box rfl rfl ?_; intro b2
  refine L.assign rfl ?_
  refine WL.nil ?_
  refine WP.seq ?_
  refine WP.regs ?_
  refine L.move rfl ?_
  refine L.eqlPtrNil T30.u rfl ?_
  refine L.move rfl ?_
  refine L.move rfl ?_
  refine WL.callV rfl rfl F28.fn rfl (fun g gS dj => field_W (Hp.le_un_left _ _ _ _ hb)) ?_   -- (*vivarium/field.Field).W slot 21
  refine L.eql rfl rfl ?_
  refine L.pickF rfl rfl ?_
  refine WL.nil ?_
  refine WP.condD rfl (fun hT => absurd hT (by omega)) (fun h23 => ?_)
  refine WP.skip ?_
  refine X.thenN ?_
  refine WP.seq ?_
  refine WP.regs ?_
  refine L.loadN T22.ag rfl (by simp [hbs.len]) (Rds.all 1 rfl) ?_
  refine WL.callV rfl rfl F12.fn rfl (fun g gS dj => block_Check bs hbs) ?_   -- vivarium/block.Check slot 25
  refine L.assign rfl ?_
  refine WL.nil ?_
  refine WP.regs ?_
  refine L.move rfl ?_
  refine L.neq rfl rfl ?_
  refine WL.nil ?_
  refine WP.condD rfl (fun hT => absurd hT (by omega)) (fun h27 => ?_)
  refine WP.skip ?_
  refine X.thenN ?_
  refine WP.seq ?_
  refine WP.regs ?_
  refine L.loadN T24.ag rfl rfl (Rds.all 0 rfl) ?_
  refine WL.callV rfl rfl F29.fn rfl (fun g gS dj => block_grid t hg) ?_   -- vivarium/block.grid slot 30
  refine L.assign rfl ?_
  refine WL.nil ?_
  refine WP.regs ?_
  refine L.move rfl ?_
  refine L.neq rfl rfl ?_
  refine WL.nil ?_
  refine WP.condD rfl (fun hT => absurd hT (by omega)) (fun h32 => ?_)
  refine WP.skip ?_
  refine X.thenN ?_
  refine WP.seq ?_
  refine WP.block ?_
  refine WP.regs ?_
  refine L.move rfl ?_
  refine L.lss rfl rfl ?_
  refine L.assign rfl ?_
  refine WL.nil ?_
  refine WP.condD rfl (fun hT => absurd hT (by omega)) (fun h34 => ?_)
  refine WP.regs ?_
  refine L.move rfl ?_
  refine L.gtr rfl rfl ?_
  refine L.assign rfl ?_
  refine WL.nil ?_
  refine WP.condD rfl (fun hT => absurd hT (by omega)) (fun h37 => ?_)
  refine WP.seq ?_
  refine WP.rege [(0, true), (1, true), (2, true), (3, false), (4, true), (5, true), (6, true), (7, true), (8, true), (9, false), (10, true), (11, true), (12, true)] 13 rfl (by kernel_rfl) (PInv.then (PInv.block (PInv.then PInv.ret))) rfl ?_
  refine WE.take rfl (V.fieldAddr (o' := 1) T24.f1 rfl rfl) ?_
  refine WE.take rfl (V.load T3.sc rfl (Rd.own 0 rfl rfl)) ?_
  refine WE.take rfl (V.move rfl) ?_
  refine WE.one rfl ?_
  refine WL.callV rfl rfl F28.fn rfl (fun g gS dj => field_W (Hp.le_un_left _ _ _ _ hb)) ?_   -- (*vivarium/field.Field).W slot 44
  refine WL.nil ⟨Ent.refl _, ?_⟩
  refine WE.takeD rfl (V.neq rfl rfl) (fun hT => absurd hT (by omega)) (fun h45 => ?_)
  refine WE.take rfl (V.move rfl) ?_
  refine WE.take rfl (V.fieldAddr (o' := 2) T24.f2 rfl rfl) ?_
  refine WE.take rfl (V.load T3.sc rfl (Rd.own 0 rfl rfl)) ?_
  refine WE.take rfl (V.move rfl) ?_
  refine WE.one rfl ?_
  refine WL.callV rfl rfl F30.fn rfl (fun g gS dj => field_H (Hp.le_un_left _ _ _ _ hb)) ?_   -- (*vivarium/field.Field).H slot 50
  refine WL.nil ⟨Ent.refl _, ?_⟩
  refine WE.take rfl (V.neq rfl rfl) ?_
  refine WE.take rfl (V.pickF rfl rfl) ?_
  refine WE.take rfl (V.assign rfl) ?_
  refine WE.nil ?_
  refine X.thenN ?_
  refine WP.condD rfl (fun hT => absurd hT (by omega)) (fun h40 => ?_)
  refine WP.regs ?_
  refine L.move rfl ?_
  refine WL.callV rfl rfl F31.fn rfl (fun g gS dj => field_States (Hp.le_un_left _ _ _ _ hb)) ?_   -- (*vivarium/field.Field).States slot 55
  refine L.gtr rfl rfl ?_
  refine L.assign rfl ?_
  refine WL.nil ?_
  refine WP.condD rfl (fun hT => absurd hT (by omega)) (fun h53 => ?_)
  refine WP.skip ?_
  refine X.blockN ?_
  refine X.thenN ?_
  refine WP.seq ?_
  refine WP.regs ?_
  refine L.move rfl ?_
  refine L.move rfl ?_
  refine WL.callV rfl rfl F32.fn rfl (fun g gS dj => block_span gen n (by omega) (by omega) (by omega)) ?_   -- vivarium/block.span slot 59
  refine L.assign rfl ?_
  refine WL.nil ?_
  refine WP.regs ?_
  refine L.move rfl ?_
  refine L.neq rfl rfl ?_
  refine WL.nil ?_
  refine WP.condD rfl (fun hT => absurd hT (by omega)) (fun h61 => ?_)
  refine WP.skip ?_
  refine X.thenN ?_
  refine WP.seq ?_
  refine WP.regs ?_
  refine L.loadN T22.ag rfl (by simp [hbs.len]) (Rds.all 1 rfl) ?_
  refine WL.callV rfl rfl F4.fn rfl (fun g gS dj => block_Turns bs hbs) ?_   -- vivarium/block.Turns slot 65
  refine L.move rfl ?_
  refine L.extract rfl rfl ?_
  refine L.extract rfl rfl ?_
  refine L.assign rfl ?_
  refine L.assign rfl ?_
  refine WL.nil ?_
  refine WP.regs ?_
  refine L.move rfl ?_
  refine L.lssD rfl rfl (fun h69 => ?_) (fun h69 => ?_)
  · -- true
    refine L.move rfl ?_
    refine L.move rfl ?_
    refine L.not rfl ?_
    refine L.pickT rfl rfl ?_
    refine WL.nil ?_
    refine WP.cond rfl (fun hT => absurd hT (by simp [hturn h69])) (fun h73 => ?_)
    refine WP.skip ?_
    refine X.thenN ?_
    refine WP.seq ?_
    refine WP.regs ?_
    refine L.fieldAddr (o' := 1) T24.f1 rfl rfl ?_
    refine L.load T3.sc rfl (Rd.own 0 rfl rfl) ?_
    refine L.fieldAddr (o' := 2) T24.f2 rfl rfl ?_
    refine L.load T3.sc rfl (Rd.own 0 rfl rfl) ?_
    refine L.mul' rfl rfl (by omega) ?_
    refine L.quo' rfl rfl (by omega) ?_
    refine L.assign rfl ?_
    refine WL.nil ?_
    refine WP.regs ?_
    refine L.move rfl ?_
    refine L.move rfl ?_
    refine L.gtrD rfl rfl (fun hT => absurd hT (by omega)) (fun h82 => ?_)
    refine L.move rfl ?_
    refine L.move rfl ?_
    refine L.neg' rfl (by omega) ?_
    refine L.move rfl ?_
    refine L.gtr rfl rfl ?_
    refine L.pickF rfl rfl ?_
    refine WL.nil ?_
    refine WP.condD rfl (fun hT => absurd hT (by omega)) (fun h88 => ?_)
    refine WP.skip ?_
    refine X.thenN ?_
    refine WP.regs ?_
    refine L.assign rfl ?_
    refine WL.nil ?_
    refine WP.ret ?_
    refine X.ret rfl (Res.one rfl rfl) ?_
    exact rfl
  · -- false
    refine L.move rfl ?_
    iterate 2 refine L.skip ?_
    refine L.pickF rfl rfl ?_
    refine WL.nil ?_
    refine WP.condF rfl ?_
    refine WP.skip ?_
    refine X.thenN ?_
    refine WP.seq ?_
    refine WP.regs ?_
    refine L.fieldAddr (o' := 1) T24.f1 rfl rfl ?_
    refine L.load T3.sc rfl (Rd.own 0 rfl rfl) ?_
    refine L.fieldAddr (o' := 2) T24.f2 rfl rfl ?_
    refine L.load T3.sc rfl (Rd.own 0 rfl rfl) ?_
    refine L.mul' rfl rfl (by omega) ?_
    refine L.quo' rfl rfl (by omega) ?_
    refine L.assign rfl ?_
    refine WL.nil ?_
    refine WP.regs ?_
    refine L.move rfl ?_
    refine L.move rfl ?_
    refine L.gtrD rfl rfl (fun hT => absurd hT (by omega)) (fun h82 => ?_)
    refine L.move rfl ?_
    refine L.move rfl ?_
    refine L.neg' rfl (by omega) ?_
    refine L.move rfl ?_
    refine L.gtr rfl rfl ?_
    refine L.pickF rfl rfl ?_
    refine WL.nil ?_
    refine WP.condD rfl (fun hT => absurd hT (by omega)) (fun h88 => ?_)
    refine WP.skip ?_
    refine X.thenN ?_
    refine WP.regs ?_
    refine L.assign rfl ?_
    refine WL.nil ?_
    refine WP.ret ?_
    refine X.ret rfl (Res.one rfl rfl) ?_
    exact rfl

end

end Go.Eng
