/- Walks of the seat's functions over those rules, and plain laws of what they compute. No conditions beyond those in each theorem. -/
import Derived.Test.YtfnjffmibiklfaaTB3
namespace Go.Eng
open Go.RowKit Go.Proofs
set_option linter.unusedSimpArgs false
set_option linter.unusedVariables false
section
variable {k : World} {h0 : Hp}

set_option maxRecDepth 10000 in
theorem fold_gcell2 (t : Topo) (hg : t.Good) (x y : Int) (hx : -500000 ≤ x ∧ x ≤ 500000) (hy : -500000 ≤ y ∧ y ≤ 500000) (hkk : t.kind = 2) : FT Pg 43 [.agg (gridC t).toArray, .agg (ptC x y).toArray] k h0 [] (Is (.tuple #[.agg (ptC ((t.cell (x - -(t.w / 2)) (y - -(t.h / 2))).1 + -(t.w / 2)) ((t.cell (x - -(t.w / 2)) (y - -(t.h / 2))).2 + -(t.h / 2))).toArray, .int .i64 0])) := by
  have hk := hg.kind; have hk2 := hg.kind2; have hw := hg.w; have hh := hg.h; have hw0 := hg.w0; have hh0 := hg.h0; have hfl := hg.flat; have htn := hg.turn; have hno := hg.none; have hwi := hg.wide; have hhi := hg.high
  have hc := t.cell_bd hg (x - -(t.w / 2)) (y - -(t.h / 2))
  have e0 := decide_eq_true hkk
  have hc := hc (by simp [Topo.has, hkk])
  refine FT.of_wp (n := 52) Try.func43 rfl rfl rfl ?_
  refine WP.regs ?_
  refine L.box rfl rfl ?_; intro b1
  refine L.box rfl rfl ?_; intro b2
  refine L.alloc T58.z ?_; intro b3
  refine L.assign rfl ?_
  refine WL.nil ?_
  refine WP.regs ?_
  refine L.loadN T96.ag rfl rfl (Rds.all 2 rfl) ?_
  refine L.loadN T58.ag rfl rfl (Rds.all 1 rfl) ?_
  refine WL.callV rfl rfl F46.fn rfl (fun g gS dj => fold_home t hg x y (by omega) (by omega)) ?_   -- (vivarium/fold.grid).home slot 14
  refine L.move rfl ?_
  refine L.extract rfl rfl ?_
  refine L.extract rfl rfl ?_
  refine L.assign rfl ?_
  refine L.assign rfl ?_
  refine WL.nil ?_
  refine WP.seq ?_
  refine WP.regs ?_
  refine L.loadN T96.ag rfl rfl (Rds.all 2 rfl) ?_
  refine WL.callV rfl rfl F47.fn rfl (fun g gS dj => e0 ▸ fold_glued t hg) ?_   -- (vivarium/fold.grid).glued slot 18
  refine L.not rfl ?_
  refine L.move rfl ?_
  iterate 13 refine L.skip ?_
  refine L.pickF rfl rfl ?_
  refine WL.nil ?_
  refine WP.condF rfl ?_
  refine WP.skip ?_
  refine X.thenN ?_
  refine WP.seq ?_
  refine WP.rege [(0, true), (1, true), (2, true), (4, true), (5, true), (6, true), (3, false), (7, false), (8, true), (9, true), (10, true), (11, true), (12, true), (13, true), (14, true)] 15 rfl (by kernel_rfl) (PInv.then PInv.ret) rfl ?_
  refine WE.take rfl (V.fieldAddr (o' := 0) T96.f0 rfl rfl) ?_
  refine WE.take rfl (V.fieldAddr (o' := 0) T24.f0 rfl rfl) ?_
  refine WE.take rfl (V.load T5.sc rfl (Rd.own 2 rfl rfl)) ?_
  refine WE.take rfl (V.loadN T96.ag rfl rfl (Rds.all 2 rfl)) ?_
  refine WE.take rfl (V.move rfl) ?_
  refine WE.take rfl (V.move rfl) ?_
  refine WE.one rfl ?_
  refine WL.callV rfl rfl F49.fn rfl (fun g gS dj => fold_way2 _ hkk) ?_   -- vivarium/fold.way slot 40
  refine WL.nil ⟨Ent.refl _, ?_⟩
  refine WE.one rfl ?_
  refine WL.callF (first := []) (cap := []) rfl rfl rfl F52.fn rfl (FT.pure fun g gS dj => fold_torus t hg hkk _ _ (by omega) (by omega)) ?_; rintro _ _ ⟨rfl, rfl⟩
  refine WL.nil ⟨Ent.refl _, ?_⟩
  refine WE.take rfl (V.move rfl) ?_
  refine WE.take rfl (V.extract rfl rfl) ?_
  refine WE.take rfl (V.extract rfl rfl) ?_
  refine WE.take rfl (V.extract rfl rfl) ?_
  refine WE.take rfl (V.assign rfl) ?_
  refine WE.take rfl (V.assign rfl) ?_
  refine WE.take rfl (V.assign rfl) ?_
  refine WE.nil ?_
  refine X.thenN ?_
  refine WP.regs ?_
  refine L.loadN T96.ag rfl rfl (Rds.all 2 rfl) ?_
  refine L.move rfl ?_
  refine L.move rfl ?_
  refine WL.callV rfl rfl F50.fn rfl (fun g gS dj => fold_place t hg _ _ (by omega) (by omega)) ?_   -- (vivarium/fold.grid).place slot 51
  refine L.storeN T58.ag rfl rfl rfl (Wrs.all 0 rfl rfl (by simp [Value.oneCell'])) ?_
  refine L.assign rfl ?_
  refine WL.nil ?_
  refine WP.ret ?_
  refine X.ret rfl (ResCellTmp rfl rfl T58.ag rfl (Rds.all 0 rfl) rfl) ?_
  exact rfl

set_option maxRecDepth 10000 in
theorem fold_gcell1 (t : Topo) (hg : t.Good) (x y : Int) (hx : -500000 ≤ x ∧ x ≤ 500000) (hy : -500000 ≤ y ∧ y ≤ 500000) (hkk : t.kind = 1) (hin : 0 ≤ x - -(t.w / 2) ∧ x - -(t.w / 2) < t.w ∧ 0 ≤ y - -(t.h / 2) ∧ y - -(t.h / 2) < t.h) : FT Pg 43 [.agg (gridC t).toArray, .agg (ptC x y).toArray] k h0 [] (Is (.tuple #[.agg (ptC ((t.cell (x - -(t.w / 2)) (y - -(t.h / 2))).1 + -(t.w / 2)) ((t.cell (x - -(t.w / 2)) (y - -(t.h / 2))).2 + -(t.h / 2))).toArray, .int .i64 0])) := by
  have hk := hg.kind; have hk2 := hg.kind2; have hw := hg.w; have hh := hg.h; have hw0 := hg.w0; have hh0 := hg.h0; have hfl := hg.flat; have htn := hg.turn; have hno := hg.none; have hwi := hg.wide; have hhi := hg.high
  have hc := t.cell_bd hg (x - -(t.w / 2)) (y - -(t.h / 2))
  have e0 := decide_eq_false (show ¬ t.kind = 2 by omega)
  have e1 := decide_eq_true (show 0 ≤ x - -(t.w / 2) ∧ x - -(t.w / 2) < t.w by omega); have e2 := decide_eq_true (show 0 ≤ y - -(t.h / 2) ∧ y - -(t.h / 2) < t.h by omega)
  have hcc : t.cell (x - -(t.w / 2)) (y - -(t.h / 2)) = (x - -(t.w / 2), y - -(t.h / 2)) := by simp [Topo.cell, hkk]
  refine FT.of_wp (n := 52) Try.func43 rfl rfl rfl ?_
  refine WP.regs ?_
  refine L.box rfl rfl ?_; intro b1
  refine L.box rfl rfl ?_; intro b2
  refine L.alloc T58.z ?_; intro b3
  refine L.assign rfl ?_
  refine WL.nil ?_
  refine WP.regs ?_
  refine L.loadN T96.ag rfl rfl (Rds.all 2 rfl) ?_
  refine L.loadN T58.ag rfl rfl (Rds.all 1 rfl) ?_
  refine WL.callV rfl rfl F46.fn rfl (fun g gS dj => fold_home t hg x y (by omega) (by omega)) ?_   -- (vivarium/fold.grid).home slot 14
  refine L.move rfl ?_
  refine L.extract rfl rfl ?_
  refine L.extract rfl rfl ?_
  refine L.assign rfl ?_
  refine L.assign rfl ?_
  refine WL.nil ?_
  refine WP.seq ?_
  refine WP.regs ?_
  refine L.loadN T96.ag rfl rfl (Rds.all 2 rfl) ?_
  refine WL.callV rfl rfl F47.fn rfl (fun g gS dj => e0 ▸ fold_glued t hg) ?_   -- (vivarium/fold.grid).glued slot 18
  refine L.not rfl ?_
  refine L.move rfl ?_
  refine L.move rfl ?_
  refine L.fieldAddr (o' := 0) T96.f0 rfl rfl ?_
  refine L.fieldAddr (o' := 1) T24.f1 rfl rfl ?_
  refine L.load T3.sc rfl (Rd.own 2 rfl rfl) ?_
  refine WL.callV rfl rfl F48.fn rfl (fun g gS dj => e1 ▸ fold_on _ t.w hw0) ?_   -- vivarium/fold.on slot 25
  refine L.move rfl ?_
  refine L.move rfl ?_
  refine L.fieldAddr (o' := 0) T96.f0 rfl rfl ?_
  refine L.fieldAddr (o' := 2) T24.f2 rfl rfl ?_
  refine L.load T3.sc rfl (Rd.own 2 rfl rfl) ?_
  refine WL.callV rfl rfl F48.fn rfl (fun g gS dj => e2 ▸ fold_on _ t.h hh0) ?_   -- vivarium/fold.on slot 31
  refine L.pickT rfl rfl ?_
  refine L.not rfl ?_
  refine L.pickT rfl rfl ?_
  refine WL.nil ?_
  refine WP.condF rfl ?_
  refine WP.skip ?_
  refine X.thenN ?_
  refine WP.seq ?_
  refine WP.rege [(0, true), (1, true), (2, true), (4, true), (5, true), (6, true), (3, false), (7, false), (8, true), (9, true), (10, true), (11, true), (12, true), (13, true), (14, true)] 15 rfl (by kernel_rfl) (PInv.then PInv.ret) rfl ?_
  refine WE.take rfl (V.fieldAddr (o' := 0) T96.f0 rfl rfl) ?_
  refine WE.take rfl (V.fieldAddr (o' := 0) T24.f0 rfl rfl) ?_
  refine WE.take rfl (V.load T5.sc rfl (Rd.own 2 rfl rfl)) ?_
  refine WE.take rfl (V.loadN T96.ag rfl rfl (Rds.all 2 rfl)) ?_
  refine WE.take rfl (V.move rfl) ?_
  refine WE.take rfl (V.move rfl) ?_
  refine WE.one rfl ?_
  refine WL.callV rfl rfl F49.fn rfl (fun g gS dj => fold_way1 _ hkk) ?_   -- vivarium/fold.way slot 40
  refine WL.nil ⟨Ent.refl _, ?_⟩
  refine WE.one rfl ?_
  refine WL.callF (first := []) (cap := []) rfl rfl rfl F51.fn rfl (FT.pure fun g gS dj => fold_flat t hg _ _ hin) ?_; rintro _ _ ⟨rfl, rfl⟩
  refine WL.nil ⟨Ent.refl _, ?_⟩
  refine WE.take rfl (V.move rfl) ?_
  refine WE.take rfl (V.extract rfl rfl) ?_
  refine WE.take rfl (V.extract rfl rfl) ?_
  refine WE.take rfl (V.extract rfl rfl) ?_
  refine WE.take rfl (V.assign rfl) ?_
  refine WE.take rfl (V.assign rfl) ?_
  refine WE.take rfl (V.assign rfl) ?_
  refine WE.nil ?_
  refine X.thenN ?_
  refine WP.regs ?_
  refine L.loadN T96.ag rfl rfl (Rds.all 2 rfl) ?_
  refine L.move rfl ?_
  refine L.move rfl ?_
  refine WL.callV rfl rfl F50.fn rfl (fun g gS dj => fold_place t hg _ _ (by omega) (by omega)) ?_   -- (vivarium/fold.grid).place slot 51
  refine L.storeN T58.ag rfl rfl rfl (Wrs.all 0 rfl rfl (by simp [Value.oneCell'])) ?_
  refine L.assign rfl ?_
  refine WL.nil ?_
  refine WP.ret ?_
  refine X.ret rfl (ResCellTmp rfl rfl T58.ag rfl (Rds.all 0 rfl) rfl) ?_
  show _ = _
  rw [hcc]

set_option maxRecDepth 10000 in
theorem fold_gcellA (t : Topo) (hg : t.Good) (x y : Int) (hx : -500000 ≤ x ∧ x ≤ 500000) (hy : -500000 ≤ y ∧ y ≤ 500000) (hkk : t.kind = 1) (hin : ¬ (0 ≤ x - -(t.w / 2) ∧ x - -(t.w / 2) < t.w)) : FT Pg 43 [.agg (gridC t).toArray, .agg (ptC x y).toArray] k h0 [] (Is (.tuple #[.agg (ptC 0 0).toArray, .int .i64 60])) := by
  have hk := hg.kind; have hk2 := hg.kind2; have hw := hg.w; have hh := hg.h; have hw0 := hg.w0; have hh0 := hg.h0; have hfl := hg.flat; have htn := hg.turn; have hno := hg.none; have hwi := hg.wide; have hhi := hg.high
  have hc := t.cell_bd hg (x - -(t.w / 2)) (y - -(t.h / 2))
  have e0 := decide_eq_false (show ¬ t.kind = 2 by omega); have e1 := decide_eq_false hin
  refine FT.of_wp (n := 52) Try.func43 rfl rfl rfl ?_
  refine WP.regs ?_
  refine L.box rfl rfl ?_; intro b1
  refine L.box rfl rfl ?_; intro b2
  refine L.alloc T58.z ?_; intro b3
  refine L.assign rfl ?_
  refine WL.nil ?_
  refine WP.regs ?_
  refine L.loadN T96.ag rfl rfl (Rds.all 2 rfl) ?_
  refine L.loadN T58.ag rfl rfl (Rds.all 1 rfl) ?_
  refine WL.callV rfl rfl F46.fn rfl (fun g gS dj => fold_home t hg x y (by omega) (by omega)) ?_   -- (vivarium/fold.grid).home slot 14
  refine L.move rfl ?_
  refine L.extract rfl rfl ?_
  refine L.extract rfl rfl ?_
  refine L.assign rfl ?_
  refine L.assign rfl ?_
  refine WL.nil ?_
  refine WP.seq ?_
  refine WP.regs ?_
  refine L.loadN T96.ag rfl rfl (Rds.all 2 rfl) ?_
  refine WL.callV rfl rfl F47.fn rfl (fun g gS dj => e0 ▸ fold_glued t hg) ?_   -- (vivarium/fold.grid).glued slot 18
  refine L.not rfl ?_
  refine L.move rfl ?_
  refine L.move rfl ?_
  refine L.fieldAddr (o' := 0) T96.f0 rfl rfl ?_
  refine L.fieldAddr (o' := 1) T24.f1 rfl rfl ?_
  refine L.load T3.sc rfl (Rd.own 2 rfl rfl) ?_
  refine WL.callV rfl rfl F48.fn rfl (fun g gS dj => e1 ▸ fold_on _ t.w hw0) ?_   -- vivarium/fold.on slot 25
  refine L.move rfl ?_
  iterate 5 refine L.skip ?_
  refine L.pickF rfl rfl ?_
  refine L.not rfl ?_
  refine L.pickT rfl rfl ?_
  refine WL.nil ?_
  refine WP.condT rfl ?_
  refine WP.regs ?_
  refine L.build (cs := [_, _]) T58.b T58.z rfl rfl ?_
  refine L.storeN T58.ag rfl rfl rfl (Wrs.all 0 rfl rfl (by simp [Value.oneCell'])) ?_
  refine L.assign rfl ?_
  refine WL.nil ?_
  refine WP.ret ?_
  refine X.thenR ?_
  refine X.ret rfl (ResCellTmp rfl rfl T58.ag rfl (Rds.all 0 rfl) rfl) ?_
  exact rfl

set_option maxRecDepth 10000 in
theorem fold_gcellB (t : Topo) (hg : t.Good) (x y : Int) (hx : -500000 ≤ x ∧ x ≤ 500000) (hy : -500000 ≤ y ∧ y ≤ 500000) (hkk : t.kind = 1) (hin0 : 0 ≤ x - -(t.w / 2) ∧ x - -(t.w / 2) < t.w) (hin : ¬ (0 ≤ y - -(t.h / 2) ∧ y - -(t.h / 2) < t.h)) : FT Pg 43 [.agg (gridC t).toArray, .agg (ptC x y).toArray] k h0 [] (Is (.tuple #[.agg (ptC 0 0).toArray, .int .i64 60])) := by
  have hk := hg.kind; have hk2 := hg.kind2; have hw := hg.w; have hh := hg.h; have hw0 := hg.w0; have hh0 := hg.h0; have hfl := hg.flat; have htn := hg.turn; have hno := hg.none; have hwi := hg.wide; have hhi := hg.high
  have hc := t.cell_bd hg (x - -(t.w / 2)) (y - -(t.h / 2))
  have e0 := decide_eq_false (show ¬ t.kind = 2 by omega); have e1 := decide_eq_true hin0; have e2 := decide_eq_false hin
  refine FT.of_wp (n := 52) Try.func43 rfl rfl rfl ?_
  refine WP.regs ?_
  refine L.box rfl rfl ?_; intro b1
  refine L.box rfl rfl ?_; intro b2
  refine L.alloc T58.z ?_; intro b3
  refine L.assign rfl ?_
  refine WL.nil ?_
  refine WP.regs ?_
  refine L.loadN T96.ag rfl rfl (Rds.all 2 rfl) ?_
  refine L.loadN T58.ag rfl rfl (Rds.all 1 rfl) ?_
  refine WL.callV rfl rfl F46.fn rfl (fun g gS dj => fold_home t hg x y (by omega) (by omega)) ?_   -- (vivarium/fold.grid).home slot 14
  refine L.move rfl ?_
  refine L.extract rfl rfl ?_
  refine L.extract rfl rfl ?_
  refine L.assign rfl ?_
  refine L.assign rfl ?_
  refine WL.nil ?_
  refine WP.seq ?_
  refine WP.regs ?_
  refine L.loadN T96.ag rfl rfl (Rds.all 2 rfl) ?_
  refine WL.callV rfl rfl F47.fn rfl (fun g gS dj => e0 ▸ fold_glued t hg) ?_   -- (vivarium/fold.grid).glued slot 18
  refine L.not rfl ?_
  refine L.move rfl ?_
  refine L.move rfl ?_
  refine L.fieldAddr (o' := 0) T96.f0 rfl rfl ?_
  refine L.fieldAddr (o' := 1) T24.f1 rfl rfl ?_
  refine L.load T3.sc rfl (Rd.own 2 rfl rfl) ?_
  refine WL.callV rfl rfl F48.fn rfl (fun g gS dj => e1 ▸ fold_on _ t.w hw0) ?_   -- vivarium/fold.on slot 25
  refine L.move rfl ?_
  refine L.move rfl ?_
  refine L.fieldAddr (o' := 0) T96.f0 rfl rfl ?_
  refine L.fieldAddr (o' := 2) T24.f2 rfl rfl ?_
  refine L.load T3.sc rfl (Rd.own 2 rfl rfl) ?_
  refine WL.callV rfl rfl F48.fn rfl (fun g gS dj => e2 ▸ fold_on _ t.h hh0) ?_   -- vivarium/fold.on slot 31
  refine L.pickT rfl rfl ?_
  refine L.not rfl ?_
  refine L.pickT rfl rfl ?_
  refine WL.nil ?_
  refine WP.condT rfl ?_
  refine WP.regs ?_
  refine L.build (cs := [_, _]) T58.b T58.z rfl rfl ?_
  refine L.storeN T58.ag rfl rfl rfl (Wrs.all 0 rfl rfl (by simp [Value.oneCell'])) ?_
  refine L.assign rfl ?_
  refine WL.nil ?_
  refine WP.ret ?_
  refine X.thenR ?_
  refine X.ret rfl (ResCellTmp rfl rfl T58.ag rfl (Rds.all 0 rfl) rfl) ?_
  exact rfl

theorem fold_gcell (t : Topo) (hg : t.Good) (x y : Int) (hx : -500000 ≤ x ∧ x ≤ 500000) (hy : -500000 ≤ y ∧ y ≤ 500000) : FT Pg 43 [.agg (gridC t).toArray, .agg (ptC x y).toArray] k h0 [] (Is (.tuple #[.agg (ptC (t.at x y).1 (t.at x y).2.1).toArray, .int .i64 (t.at x y).2.2])) := by
  have hk := hg.kind; have hk2 := hg.kind2
  by_cases hkk : t.kind = 2
  · have h : t.has (x - -(t.w / 2)) (y - -(t.h / 2)) = true := by simp [Topo.has, hkk]
    have e : t.at x y = _ := if_pos h
    rw [e]
    exact fold_gcell2 t hg x y hx hy hkk
  · have hkk1 : t.kind = 1 := by omega
    by_cases h1 : 0 ≤ x - -(t.w / 2) ∧ x - -(t.w / 2) < t.w
    · by_cases h2 : 0 ≤ y - -(t.h / 2) ∧ y - -(t.h / 2) < t.h
      · have h : t.has (x - -(t.w / 2)) (y - -(t.h / 2)) = true := decide_eq_true (.inr ⟨h1.1, h1.2, h2.1, h2.2⟩)
        have e : t.at x y = _ := if_pos h
        rw [e]
        exact fold_gcell1 t hg x y hx hy hkk1 ⟨h1.1, h1.2, h2.1, h2.2⟩
      · have h : ¬ t.has (x - -(t.w / 2)) (y - -(t.h / 2)) = true := fun h => by have := of_decide_eq_true h; omega
        have e : t.at x y = _ := if_neg h
        rw [e]
        exact fold_gcellB t hg x y hx hy hkk1 h1 h2
    · have h : ¬ t.has (x - -(t.w / 2)) (y - -(t.h / 2)) = true := fun h => by have := of_decide_eq_true h; omega
      have e : t.at x y = _ := if_neg h
      rw [e]
      exact fold_gcellA t hg x y hx hy hkk1 h1

set_option maxRecDepth 10000 in
theorem fold_Cell (t : Topo) (hg : t.Good) (x y : Int) (hx : -500000 ≤ x ∧ x ≤ 500000) (hy : -500000 ≤ y ∧ y ≤ 500000) : FT Pg 40 [.agg (topoC t).toArray, .agg (ptC x y).toArray] k h0 [] (Is (.tuple #[.agg (ptC (t.at x y).1 (t.at x y).2.1).toArray, .int .i64 (t.at x y).2.2])) := by
  have hk := hg.kind; have hk2 := hg.kind2; have hw := hg.w; have hh := hg.h; have hw0 := hg.w0; have hh0 := hg.h0; have hfl := hg.flat; have htn := hg.turn; have hno := hg.none; have hwi := hg.wide; have hhi := hg.high
  refine FT.of_wp (n := 24) Try.func40 rfl rfl rfl ?_
  refine WP.regs ?_
  refine L.box rfl rfl ?_; intro b1
  refine L.box rfl rfl ?_; intro b2
  refine L.alloc T58.z ?_; intro b3
  refine L.assign rfl ?_
  refine WL.nil ?_
  refine WP.regs ?_
  refine L.loadN T24.ag rfl rfl (Rds.all 2 rfl) ?_
  refine L.loadN T58.ag rfl rfl (Rds.all 1 rfl) ?_
  refine L.slice1 T100.sl T58.z rfl rfl rfl rfl rfl rfl ?_; intro bs
  refine WL.callV rfl rfl F42.fn rfl (fun g gS dj => fold_of t hg bs x y (by omega) (by omega) (gS.at' 0 rfl dj)) ?_   -- vivarium/fold.of slot 12
  refine L.move rfl ?_
  refine L.extract rfl rfl ?_
  refine L.extract rfl rfl ?_
  refine L.alloc T96.z ?_; intro b4
  refine L.storeN T96.ag rfl rfl rfl (Wrs.all 0 rfl rfl (by simp [Value.oneCell'])) ?_
  refine L.assign rfl ?_
  refine WL.nil ?_
  refine WP.seq ?_
  refine WP.regs ?_
  refine L.move rfl ?_
  refine L.neq rfl rfl ?_
  refine WL.nil ?_
  refine WP.condD rfl (fun hT => absurd hT (by simp)) (fun h16 => ?_)
  refine WP.skip ?_
  refine X.thenN ?_
  refine WP.regs ?_
  refine L.loadN T96.ag rfl rfl (Rds.all 0 rfl) ?_
  refine L.loadN T58.ag rfl rfl (Rds.all 3 rfl) ?_
  refine WL.callV rfl rfl F43.fn rfl (fun g gS dj => fold_gcell t hg x y hx hy) ?_   -- (vivarium/fold.grid).cell slot 21
  refine L.extract rfl rfl ?_
  refine L.extract rfl rfl ?_
  refine L.storeN T58.ag rfl rfl rfl (Wrs.all 2 rfl rfl (by simp [Value.oneCell'])) ?_
  refine L.assign rfl ?_
  refine WL.nil ?_
  refine WP.ret ?_
  refine X.ret rfl (ResCellTmp rfl rfl T58.ag rfl (Rds.all 2 rfl) rfl) ?_
  exact rfl

theorem Topo.at_bd (t : Topo) (hg : t.Good) (x y : Int) : -65536 ≤ (t.at x y).1 ∧ (t.at x y).1 ≤ 65536 ∧ -65536 ≤ (t.at x y).2.1 ∧ (t.at x y).2.1 ≤ 65536 := by
  have hw := hg.w; have hh := hg.h
  by_cases h : t.has (x - -(t.w / 2)) (y - -(t.h / 2)) = true
  · have e : t.at x y = _ := if_pos h
    have := t.cell_bd hg _ _ h
    rw [e]
    dsimp only
    omega
  · have e : t.at x y = _ := if_neg h
    rw [e]
    dsimp only
    omega
set_option maxRecDepth 10000 in
theorem block_cell (t : Topo) (hg : t.Good) (u v : Int) (hu : -200000 ≤ u ∧ u ≤ 200000) (hv : -200000 ≤ v ∧ v ≤ 200000) : FT Pg 33 [.agg (topoC t).toArray, .int .i64 u, .int .i64 v] k h0 [] (Is (.tuple #[.agg (ptC ((t.at (u - t.w / 2) (v - t.h / 2)).1 + t.w / 2) ((t.at (u - t.w / 2) (v - t.h / 2)).2.1 + t.h / 2)).toArray, .bool (decide ((t.at (u - t.w / 2) (v - t.h / 2)).2.2 = 0))])) := by
  have hk := hg.kind; have hk2 := hg.kind2; have hw := hg.w; have hh := hg.h; have hw0 := hg.w0; have hh0 := hg.h0; have hfl := hg.flat; have htn := hg.turn; have hno := hg.none; have hwi := hg.wide; have hhi := hg.high
  have hb := t.at_bd hg (u - t.w / 2) (v - t.h / 2)
  refine FT.of_wp (n := 41) Try.func33 rfl rfl rfl ?_
  refine WP.regs ?_
  refine L.box rfl rfl ?_; intro b1
  refine L.alloc T58.z ?_; intro b2
  refine L.assign rfl ?_
  refine WL.nil ?_
  refine WP.regs ?_
  refine L.loadN T24.ag rfl rfl (Rds.all 1 rfl) ?_
  refine L.move rfl ?_
  refine L.fieldAddr (o' := 1) T24.f1 rfl rfl ?_
  refine L.load T3.sc rfl (Rd.own 1 rfl rfl) ?_
  refine L.quo' rfl rfl (by omega) ?_
  refine L.sub' rfl rfl (by omega) ?_
  refine L.move rfl ?_
  refine L.fieldAddr (o' := 2) T24.f2 rfl rfl ?_
  refine L.load T3.sc rfl (Rd.own 1 rfl rfl) ?_
  refine L.quo' rfl rfl (by omega) ?_
  refine L.sub' rfl rfl (by omega) ?_
  refine L.build (cs := [_, _]) T58.b T58.z rfl rfl ?_
  refine WL.callV rfl rfl F40.fn rfl (fun g gS dj => fold_Cell t hg _ _ (by omega) (by omega)) ?_   -- vivarium/fold.Cell slot 23
  refine L.move rfl ?_
  refine L.extract rfl rfl ?_
  refine L.extract rfl rfl ?_
  refine L.alloc T58.z ?_; intro b3
  refine L.storeN T58.ag rfl rfl rfl (Wrs.all 0 rfl rfl (by simp [Value.oneCell'])) ?_
  refine L.assign rfl ?_
  refine WL.nil ?_
  refine WP.regs ?_
  refine L.fieldAddr (o' := 0) T58.f0 rfl rfl ?_
  refine L.load T3.sc rfl (Rd.own 0 rfl rfl) ?_
  refine L.fieldAddr (o' := 1) T24.f1 rfl rfl ?_
  refine L.load T3.sc rfl (Rd.own 2 rfl rfl) ?_
  refine L.quo' rfl rfl (by omega) ?_
  refine L.add' rfl rfl (by omega) ?_
  refine L.fieldAddr (o' := 1) T58.f1 rfl rfl ?_
  refine L.load T3.sc rfl (Rd.own 0 rfl rfl) ?_
  refine L.fieldAddr (o' := 2) T24.f2 rfl rfl ?_
  refine L.load T3.sc rfl (Rd.own 2 rfl rfl) ?_
  refine L.quo' rfl rfl (by omega) ?_
  refine L.add' rfl rfl (by omega) ?_
  refine L.build (cs := [_, _]) T58.b T58.z rfl rfl ?_
  refine L.move rfl ?_
  refine L.eql rfl rfl ?_
  refine L.storeN T58.ag rfl rfl rfl (Wrs.all 1 rfl rfl (by simp [Value.oneCell'])) ?_
  refine L.assign rfl ?_
  refine WL.nil ?_
  refine WP.ret ?_
  refine X.ret rfl (ResCellTmp rfl rfl T58.ag rfl (Rds.all 1 rfl) rfl) ?_
  exact rfl

end

end Go.Eng
