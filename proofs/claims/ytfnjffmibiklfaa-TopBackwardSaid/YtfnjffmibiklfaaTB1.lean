/- Walks of the seat's functions over those rules, and plain laws of what they compute. No conditions beyond those in each theorem. -/
import Derived.Test.YtfnjffmibiklfaaTB0
namespace Go.Eng
open Go.RowKit Go.Proofs
set_option linter.unusedSimpArgs false
set_option linter.unusedVariables false

structure Topo where
  kind : Int
  w : Int
  h : Int
  turn : Int
  shift : Int
abbrev topoC (t : Topo) : List Value := [.int .u8 t.kind, .int .i64 t.w, .int .i64 t.h, .int .u8 t.turn, .int .i64 t.shift]
/-- What ref04's Check leaves of a plane or a torus. -/
structure Topo.Ok0 (t : Topo) : Prop where
  kind : 1 ≤ t.kind ∧ t.kind ≤ 5
  w : 0 ≤ t.w ∧ t.w ≤ 65536
  h : 0 ≤ t.h ∧ t.h ≤ 65536
  flat : t.kind = 1 → t.turn = 0 ∧ t.shift = 0
  turn : t.kind = 2 → 0 ≤ t.turn ∧ t.turn ≤ 2
  none : t.turn = 0 → t.shift = 0
  wide : t.turn = 1 → -t.w < t.shift ∧ t.shift < t.w ∧ (t.kind = 2 → t.shift ≠ 0)
  high : t.turn = 2 → -t.h < t.shift ∧ t.shift < t.h ∧ (t.kind = 2 → t.shift ≠ 0)
/-- A plane or a torus with two ends each way. -/
structure Topo.Good (t : Topo) : Prop extends Topo.Ok0 t where
  kind2 : t.kind ≤ 2
  w0 : 0 < t.w
  h0 : 0 < t.h
abbrev gridC (t : Topo) : List Value := [.int .u8 t.kind, .int .i64 t.w, .int .i64 t.h, .int .u8 t.turn, .int .i64 t.shift, .int .i64 (-(t.w / 2)), .int .i64 (-(t.h / 2))]
abbrev ptC (x y : Int) : List Value := [.int .i64 x, .int .i64 y]
section
variable {k : World} {h0 : Hp}

set_option maxRecDepth 10000 in
theorem ref04_side (t : Topo) (n : Int) (h1 : t.turn = 2 → n = t.h) (h2 : t.turn ≠ 2 → n = t.w) : FT Pg 26 [.agg (topoC t).toArray] k h0 [] (Is (.int .i64 n)) := by
  refine FT.of_wp (n := 10) Try.func26 rfl rfl rfl ?_
  refine WP.regs ?_
  refine L.box rfl rfl ?_; intro b1
  refine L.assign rfl ?_
  refine WL.nil ?_
  refine WP.seq ?_
  refine WP.regs ?_
  refine L.fieldAddr (o' := 3) T24.f3 rfl rfl ?_
  refine L.load T5.sc rfl (Rd.own 0 rfl rfl) ?_
  refine L.eql rfl rfl ?_
  refine WL.nil ?_
  refine WP.condD rfl (fun h5 => ?_) (fun h5 => ?_)
  · -- then
    refine WP.regs ?_
    refine L.fieldAddr (o' := 2) T24.f2 rfl rfl ?_
    refine L.load T3.sc rfl (Rd.own 0 rfl rfl) ?_
    refine L.assign rfl ?_
    refine WL.nil ?_
    refine WP.ret ?_
    refine X.thenR ?_
    refine X.ret rfl (Res.one rfl rfl) ?_
    show _ = _
    rw [h1 h5]
  · -- else
    refine WP.skip ?_
    refine X.thenN ?_
    refine WP.regs ?_
    refine L.fieldAddr (o' := 1) T24.f1 rfl rfl ?_
    refine L.load T3.sc rfl (Rd.own 0 rfl rfl) ?_
    refine L.assign rfl ?_
    refine WL.nil ?_
    refine WP.ret ?_
    refine X.ret rfl (Res.one rfl rfl) ?_
    show _ = _
    rw [h2 h5]

theorem ref04_side' (t : Topo) : ∃ n : Int, (t.turn = 2 → n = t.h) ∧ (t.turn ≠ 2 → n = t.w) ∧ ∀ k h0, FT Pg 26 [.agg (topoC t).toArray] k h0 [] (Is (.int .i64 n)) := by
  by_cases h : t.turn = 2
  · exact ⟨t.h, fun _ => rfl, fun e => absurd h e, fun k h0 => ref04_side t _ (fun _ => rfl) (fun e => absurd h e)⟩
  · exact ⟨t.w, fun e => absurd e h, fun _ => rfl, fun k h0 => ref04_side t _ (fun e => absurd e h) (fun _ => rfl)⟩

set_option maxRecDepth 10000 in
theorem topo_turned (t : Topo) (n : Int) (h1 : t.turn = 2 → n = t.h) (h2 : t.turn ≠ 2 → n = t.w) : FT Pg 41 [.agg (topoC t).toArray] k h0 [] (Is (.int .i64 n)) := by
  refine FT.of_wp (n := 10) Try.func41 rfl rfl rfl ?_
  refine WP.regs ?_
  refine L.box rfl rfl ?_; intro b1
  refine L.assign rfl ?_
  refine WL.nil ?_
  refine WP.seq ?_
  refine WP.regs ?_
  refine L.fieldAddr (o' := 3) T24.f3 rfl rfl ?_
  refine L.load T5.sc rfl (Rd.own 0 rfl rfl) ?_
  refine L.eql rfl rfl ?_
  refine WL.nil ?_
  refine WP.condD rfl (fun h5 => ?_) (fun h5 => ?_)
  · -- then
    refine WP.regs ?_
    refine L.fieldAddr (o' := 2) T24.f2 rfl rfl ?_
    refine L.load T3.sc rfl (Rd.own 0 rfl rfl) ?_
    refine L.assign rfl ?_
    refine WL.nil ?_
    refine WP.ret ?_
    refine X.thenR ?_
    refine X.ret rfl (Res.one rfl rfl) ?_
    show _ = _
    rw [h1 h5]
  · -- else
    refine WP.skip ?_
    refine X.thenN ?_
    refine WP.regs ?_
    refine L.fieldAddr (o' := 1) T24.f1 rfl rfl ?_
    refine L.load T3.sc rfl (Rd.own 0 rfl rfl) ?_
    refine L.assign rfl ?_
    refine WL.nil ?_
    refine WP.ret ?_
    refine X.ret rfl (Res.one rfl rfl) ?_
    show _ = _
    rw [h2 h5]

theorem topo_turned' (t : Topo) : ∃ n : Int, (t.turn = 2 → n = t.h) ∧ (t.turn ≠ 2 → n = t.w) ∧ ∀ k h0, FT Pg 41 [.agg (topoC t).toArray] k h0 [] (Is (.int .i64 n)) := by
  by_cases h : t.turn = 2
  · exact ⟨t.h, fun _ => rfl, fun e => absurd h e, fun k h0 => topo_turned t _ (fun _ => rfl) (fun e => absurd h e)⟩
  · exact ⟨t.w, fun e => absurd e h, fun _ => rfl, fun k h0 => topo_turned t _ (fun e => absurd e h) (fun _ => rfl)⟩

set_option maxRecDepth 10000 in
theorem ref04_Check (t : Topo) (hw : 0 ≤ t.turn ∧ -9223372036854775808 ≤ t.w ∧ t.w ≤ 9223372036854775807 ∧ -9223372036854775808 ≤ t.h ∧ t.h ≤ 9223372036854775807) : FT Pg 13 [.agg (topoC t).toArray] k h0 [] (Ret fun v _ => ∃ r : Int, v = .int .i64 r ∧ (r = 0 → t.Ok0)) := by
  refine FT.of_wp (n := 120) Try.func13 rfl rfl rfl ?_
  refine WP.regs ?_
  refine L.box rfl rfl ?_; intro b1
  refine L.assign rfl ?_
  refine WL.nil ?_
  refine WP.seq ?_
  refine WP.regsB (t.kind < 1 ∨ 5 < t.kind) 11 [(1, .pointer (some ⟨b1, 0, none⟩))] ?_ ?_
  · -- the region
    refine L.fieldAddr (o' := 0) T24.f0 rfl rfl ?_
    refine L.load T5.sc rfl (Rd.own 0 rfl rfl) ?_
    refine L.lssD rfl rfl (fun h6 => ?_) (fun h6 => ?_)
    · -- true
      refine L.move rfl ?_
      iterate 3 refine L.skip ?_
      refine L.pickT rfl rfl ?_
      refine WL.nil ⟨_, by simp only [true_iff, false_iff, Bool.false_eq_true, decide_eq_true_eq, ne_eq]; omega, (Env.Sub.cons rfl rfl (Env.Sub.cons rfl rfl Env.Sub.nil)), Ent.refl _⟩
    · -- false
      refine L.move rfl ?_
      refine L.fieldAddr (o' := 0) T24.f0 rfl rfl ?_
      refine L.load T5.sc rfl (Rd.own 0 rfl rfl) ?_
      refine L.gtr rfl rfl ?_
      refine L.pickF rfl rfl ?_
      refine WL.nil ⟨_, by simp only [true_iff, false_iff, Bool.false_eq_true, decide_eq_true_eq, ne_eq]; omega, (Env.Sub.cons rfl rfl (Env.Sub.cons rfl rfl Env.Sub.nil)), Ent.refl _⟩
  · -- behind it
    refine WP.condD rfl (fun h11 => ?_) (fun h11 => ?_)
    · -- then
      refine WP.regs ?_
      refine L.assign rfl ?_
      refine WL.nil ?_
      refine WP.ret ?_
      refine X.thenR ?_
      refine X.ret rfl (Res.one rfl rfl) ?_
      exact ⟨_, rfl, _, rfl, fun hr => by first | (exfalso; omega) | exact ⟨by omega, by omega, by omega, by omega, by omega, by omega, by omega, by omega⟩⟩
    · -- else
      refine WP.skip ?_
      refine X.thenN ?_
      refine WP.seq ?_
      refine WP.regsB (t.w < 0 ∨ 65536 < t.w ∨ t.h < 0 ∨ 65536 < t.h ∨ (t.kind = 5 ∧ t.w ≠ t.h)) 41 [(1, .pointer (some ⟨b1, 0, none⟩))] ?_ ?_
      · -- the region
        refine L.fieldAddr (o' := 1) T24.f1 rfl rfl ?_
        refine L.load T3.sc rfl (Rd.own 0 rfl rfl) ?_
        refine L.lssD rfl rfl (fun h14 => ?_) (fun h14 => ?_)
        · -- true
          refine L.move rfl ?_
          iterate 3 refine L.skip ?_
          refine L.pickT rfl rfl ?_
          refine L.move rfl ?_
          iterate 3 refine L.skip ?_
          refine L.pickT rfl rfl ?_
          refine L.move rfl ?_
          iterate 3 refine L.skip ?_
          refine L.pickT rfl rfl ?_
          refine L.move rfl ?_
          iterate 10 refine L.skip ?_
          refine L.pickT rfl rfl ?_
          refine WL.nil ⟨_, by simp only [true_iff, false_iff, Bool.false_eq_true, decide_eq_true_eq, ne_eq]; omega, (Env.Sub.cons rfl rfl (Env.Sub.cons rfl rfl Env.Sub.nil)), Ent.refl _⟩
        · -- false
          refine L.move rfl ?_
          refine L.fieldAddr (o' := 1) T24.f1 rfl rfl ?_
          refine L.load T3.sc rfl (Rd.own 0 rfl rfl) ?_
          refine L.gtrD rfl rfl (fun h18 => ?_) (fun h18 => ?_)
          · -- true
            refine L.pickF rfl rfl ?_
            refine L.move rfl ?_
            iterate 3 refine L.skip ?_
            refine L.pickT rfl rfl ?_
            refine L.move rfl ?_
            iterate 3 refine L.skip ?_
            refine L.pickT rfl rfl ?_
            refine L.move rfl ?_
            iterate 10 refine L.skip ?_
            refine L.pickT rfl rfl ?_
            refine WL.nil ⟨_, by simp only [true_iff, false_iff, Bool.false_eq_true, decide_eq_true_eq, ne_eq]; omega, (Env.Sub.cons rfl rfl (Env.Sub.cons rfl rfl Env.Sub.nil)), Ent.refl _⟩
          · -- false
            refine L.pickF rfl rfl ?_
            refine L.move rfl ?_
            refine L.fieldAddr (o' := 2) T24.f2 rfl rfl ?_
            refine L.load T3.sc rfl (Rd.own 0 rfl rfl) ?_
            refine L.lssD rfl rfl (fun h23 => ?_) (fun h23 => ?_)
            · -- true
              refine L.pickF rfl rfl ?_
              refine L.move rfl ?_
              iterate 3 refine L.skip ?_
              refine L.pickT rfl rfl ?_
              refine L.move rfl ?_
              iterate 10 refine L.skip ?_
              refine L.pickT rfl rfl ?_
              refine WL.nil ⟨_, by simp only [true_iff, false_iff, Bool.false_eq_true, decide_eq_true_eq, ne_eq]; omega, (Env.Sub.cons rfl rfl (Env.Sub.cons rfl rfl Env.Sub.nil)), Ent.refl _⟩
            · -- false
              refine L.pickF rfl rfl ?_
              refine L.move rfl ?_
              refine L.fieldAddr (o' := 2) T24.f2 rfl rfl ?_
              refine L.load T3.sc rfl (Rd.own 0 rfl rfl) ?_
              refine L.gtrD rfl rfl (fun h28 => ?_) (fun h28 => ?_)
              · -- true
                refine L.pickF rfl rfl ?_
                refine L.move rfl ?_
                iterate 10 refine L.skip ?_
                refine L.pickT rfl rfl ?_
                refine WL.nil ⟨_, by simp only [true_iff, false_iff, Bool.false_eq_true, decide_eq_true_eq, ne_eq]; omega, (Env.Sub.cons rfl rfl (Env.Sub.cons rfl rfl Env.Sub.nil)), Ent.refl _⟩
              · -- false
                refine L.pickF rfl rfl ?_
                refine L.move rfl ?_
                refine L.fieldAddr (o' := 0) T24.f0 rfl rfl ?_
                refine L.load T5.sc rfl (Rd.own 0 rfl rfl) ?_
                refine L.eqlD rfl rfl (fun h33 => ?_) (fun h33 => ?_)
                · -- true
                  refine L.move rfl ?_
                  refine L.fieldAddr (o' := 1) T24.f1 rfl rfl ?_
                  refine L.load T3.sc rfl (Rd.own 0 rfl rfl) ?_
                  refine L.fieldAddr (o' := 2) T24.f2 rfl rfl ?_
                  refine L.load T3.sc rfl (Rd.own 0 rfl rfl) ?_
                  refine L.neq rfl rfl ?_
                  refine L.pickT rfl rfl ?_
                  refine L.pickF rfl rfl ?_
                  refine WL.nil ⟨_, by simp only [true_iff, false_iff, Bool.false_eq_true, decide_eq_true_eq, ne_eq]; omega, (Env.Sub.cons rfl rfl (Env.Sub.cons rfl rfl Env.Sub.nil)), Ent.refl _⟩
                · -- false
                  refine L.move rfl ?_
                  iterate 5 refine L.skip ?_
                  refine L.pickF rfl rfl ?_
                  refine L.pickF rfl rfl ?_
                  refine WL.nil ⟨_, by simp only [true_iff, false_iff, Bool.false_eq_true, decide_eq_true_eq, ne_eq]; omega, (Env.Sub.cons rfl rfl (Env.Sub.cons rfl rfl Env.Sub.nil)), Ent.refl _⟩
      · -- behind it
        refine WP.condD rfl (fun h41 => ?_) (fun h41 => ?_)
        · -- then
          refine WP.regs ?_
          refine L.assign rfl ?_
          refine WL.nil ?_
          refine WP.ret ?_
          refine X.thenR ?_
          refine X.ret rfl (Res.one rfl rfl) ?_
          exact ⟨_, rfl, _, rfl, fun hr => by first | (exfalso; omega) | exact ⟨by omega, by omega, by omega, by omega, by omega, by omega, by omega, by omega⟩⟩
        · -- else
          refine WP.skip ?_
          refine X.thenN ?_
          refine WP.seq ?_
          refine WP.regsB (3 ≤ t.kind ∧ (t.w = 0 ∨ t.h = 0)) 54 [(1, .pointer (some ⟨b1, 0, none⟩))] ?_ ?_
          · -- the region
            refine L.fieldAddr (o' := 0) T24.f0 rfl rfl ?_
            refine L.load T5.sc rfl (Rd.own 0 rfl rfl) ?_
            refine L.geqD rfl rfl (fun h44 => ?_) (fun h44 => ?_)
            · -- true
              refine L.move rfl ?_
              refine L.fieldAddr (o' := 1) T24.f1 rfl rfl ?_
              refine L.load T3.sc rfl (Rd.own 0 rfl rfl) ?_
              refine L.eqlD rfl rfl (fun h48 => ?_) (fun h48 => ?_)
              · -- true
                refine L.move rfl ?_
                iterate 3 refine L.skip ?_
                refine L.pickT rfl rfl ?_
                refine L.pickT rfl rfl ?_
                refine WL.nil ⟨_, by simp only [true_iff, false_iff, Bool.false_eq_true, decide_eq_true_eq, ne_eq]; omega, (Env.Sub.cons rfl rfl (Env.Sub.cons rfl rfl Env.Sub.nil)), Ent.refl _⟩
              · -- false
                refine L.move rfl ?_
                refine L.fieldAddr (o' := 2) T24.f2 rfl rfl ?_
                refine L.load T3.sc rfl (Rd.own 0 rfl rfl) ?_
                refine L.eql rfl rfl ?_
                refine L.pickF rfl rfl ?_
                refine L.pickT rfl rfl ?_
                refine WL.nil ⟨_, by simp only [true_iff, false_iff, Bool.false_eq_true, decide_eq_true_eq, ne_eq]; omega, (Env.Sub.cons rfl rfl (Env.Sub.cons rfl rfl Env.Sub.nil)), Ent.refl _⟩
            · -- false
              refine L.move rfl ?_
              iterate 8 refine L.skip ?_
              refine L.pickF rfl rfl ?_
              refine WL.nil ⟨_, by simp only [true_iff, false_iff, Bool.false_eq_true, decide_eq_true_eq, ne_eq]; omega, (Env.Sub.cons rfl rfl (Env.Sub.cons rfl rfl Env.Sub.nil)), Ent.refl _⟩
          · -- behind it
            refine WP.condD rfl (fun h54 => ?_) (fun h54 => ?_)
            · -- then
              refine WP.regs ?_
              refine L.assign rfl ?_
              refine WL.nil ?_
              refine WP.ret ?_
              refine X.thenR ?_
              refine X.ret rfl (Res.one rfl rfl) ?_
              exact ⟨_, rfl, _, rfl, fun hr => by first | (exfalso; omega) | exact ⟨by omega, by omega, by omega, by omega, by omega, by omega, by omega, by omega⟩⟩
            · -- else
              refine WP.skip ?_
              refine X.thenN ?_
              refine WP.seq ?_
              refine WP.regsB (2 < t.turn ∨ (t.turn ≠ 0 ∧ t.kind ≠ 2 ∧ t.kind ≠ 3) ∨ (t.turn = 0 ∧ t.kind = 3)) 82 [(1, .pointer (some ⟨b1, 0, none⟩))] ?_ ?_
              · -- the region
                refine L.fieldAddr (o' := 3) T24.f3 rfl rfl ?_
                refine L.load T5.sc rfl (Rd.own 0 rfl rfl) ?_
                refine L.gtrD rfl rfl (fun h57 => ?_) (fun h57 => ?_)
                · -- true
                  refine L.move rfl ?_
                  iterate 13 refine L.skip ?_
                  refine L.pickT rfl rfl ?_
                  refine L.move rfl ?_
                  iterate 8 refine L.skip ?_
                  refine L.pickT rfl rfl ?_
                  refine WL.nil ⟨_, by simp only [true_iff, false_iff, Bool.false_eq_true, decide_eq_true_eq, ne_eq]; omega, (Env.Sub.cons rfl rfl (Env.Sub.cons rfl rfl Env.Sub.nil)), Ent.refl _⟩
                · -- false
                  refine L.move rfl ?_
                  refine L.fieldAddr (o' := 3) T24.f3 rfl rfl ?_
                  refine L.load T5.sc rfl (Rd.own 0 rfl rfl) ?_
                  refine L.neqD rfl rfl (fun h61 => ?_) (fun h61 => ?_)
                  · -- true
                    refine L.move rfl ?_
                    refine L.fieldAddr (o' := 0) T24.f0 rfl rfl ?_
                    refine L.load T5.sc rfl (Rd.own 0 rfl rfl) ?_
                    refine L.neqD rfl rfl (fun h65 => ?_) (fun h65 => ?_)
                    · -- true
                      refine L.pickT rfl rfl ?_
                      refine L.move rfl ?_
                      refine L.fieldAddr (o' := 0) T24.f0 rfl rfl ?_
                      refine L.load T5.sc rfl (Rd.own 0 rfl rfl) ?_
                      refine L.neqD rfl rfl (fun h70 => ?_) (fun h70 => ?_)
                      · -- true
                        refine L.pickT rfl rfl ?_
                        refine L.pickF rfl rfl ?_
                        refine L.move rfl ?_
                        iterate 8 refine L.skip ?_
                        refine L.pickT rfl rfl ?_
                        refine WL.nil ⟨_, by simp only [true_iff, false_iff, Bool.false_eq_true, decide_eq_true_eq, ne_eq]; omega, (Env.Sub.cons rfl rfl (Env.Sub.cons rfl rfl Env.Sub.nil)), Ent.refl _⟩
                      · -- false
                        refine L.pickT rfl rfl ?_
                        refine L.pickF rfl rfl ?_
                        refine L.move rfl ?_
                        refine L.fieldAddr (o' := 3) T24.f3 rfl rfl ?_
                        refine L.load T5.sc rfl (Rd.own 0 rfl rfl) ?_
                        refine L.eqlD rfl rfl (fun h76 => ?_) (fun h76 => ?_)
                        · -- true
                          refine L.move rfl ?_
                          refine L.fieldAddr (o' := 0) T24.f0 rfl rfl ?_
                          refine L.load T5.sc rfl (Rd.own 0 rfl rfl) ?_
                          refine L.eql rfl rfl ?_
                          refine L.pickT rfl rfl ?_
                          refine L.pickF rfl rfl ?_
                          refine WL.nil ⟨_, by simp only [true_iff, false_iff, Bool.false_eq_true, decide_eq_true_eq, ne_eq]; omega, (Env.Sub.cons rfl rfl (Env.Sub.cons rfl rfl Env.Sub.nil)), Ent.refl _⟩
                        · -- false
                          refine L.move rfl ?_
                          iterate 3 refine L.skip ?_
                          refine L.pickF rfl rfl ?_
                          refine L.pickF rfl rfl ?_
                          refine WL.nil ⟨_, by simp only [true_iff, false_iff, Bool.false_eq_true, decide_eq_true_eq, ne_eq]; omega, (Env.Sub.cons rfl rfl (Env.Sub.cons rfl rfl Env.Sub.nil)), Ent.refl _⟩
                    · -- false
                      refine L.pickT rfl rfl ?_
                      refine L.move rfl ?_
                      iterate 3 refine L.skip ?_
                      refine L.pickF rfl rfl ?_
                      refine L.pickF rfl rfl ?_
                      refine L.move rfl ?_
                      refine L.fieldAddr (o' := 3) T24.f3 rfl rfl ?_
                      refine L.load T5.sc rfl (Rd.own 0 rfl rfl) ?_
                      refine L.eqlD rfl rfl (fun h76 => ?_) (fun h76 => ?_)
                      · -- true
                        refine L.move rfl ?_
                        refine L.fieldAddr (o' := 0) T24.f0 rfl rfl ?_
                        refine L.load T5.sc rfl (Rd.own 0 rfl rfl) ?_
                        refine L.eql rfl rfl ?_
                        refine L.pickT rfl rfl ?_
                        refine L.pickF rfl rfl ?_
                        refine WL.nil ⟨_, by simp only [true_iff, false_iff, Bool.false_eq_true, decide_eq_true_eq, ne_eq]; omega, (Env.Sub.cons rfl rfl (Env.Sub.cons rfl rfl Env.Sub.nil)), Ent.refl _⟩
                      · -- false
                        refine L.move rfl ?_
                        iterate 3 refine L.skip ?_
                        refine L.pickF rfl rfl ?_
                        refine L.pickF rfl rfl ?_
                        refine WL.nil ⟨_, by simp only [true_iff, false_iff, Bool.false_eq_true, decide_eq_true_eq, ne_eq]; omega, (Env.Sub.cons rfl rfl (Env.Sub.cons rfl rfl Env.Sub.nil)), Ent.refl _⟩
                  · -- false
                    refine L.move rfl ?_
                    iterate 3 refine L.skip ?_
                    refine L.pickF rfl rfl ?_
                    refine L.move rfl ?_
                    iterate 3 refine L.skip ?_
                    refine L.pickF rfl rfl ?_
                    refine L.pickF rfl rfl ?_
                    refine L.move rfl ?_
                    refine L.fieldAddr (o' := 3) T24.f3 rfl rfl ?_
                    refine L.load T5.sc rfl (Rd.own 0 rfl rfl) ?_
                    refine L.eqlD rfl rfl (fun h76 => ?_) (fun h76 => ?_)
                    · -- true
                      refine L.move rfl ?_
                      refine L.fieldAddr (o' := 0) T24.f0 rfl rfl ?_
                      refine L.load T5.sc rfl (Rd.own 0 rfl rfl) ?_
                      refine L.eql rfl rfl ?_
                      refine L.pickT rfl rfl ?_
                      refine L.pickF rfl rfl ?_
                      refine WL.nil ⟨_, by simp only [true_iff, false_iff, Bool.false_eq_true, decide_eq_true_eq, ne_eq]; omega, (Env.Sub.cons rfl rfl (Env.Sub.cons rfl rfl Env.Sub.nil)), Ent.refl _⟩
                    · -- false
                      refine L.move rfl ?_
                      iterate 3 refine L.skip ?_
                      refine L.pickF rfl rfl ?_
                      refine L.pickF rfl rfl ?_
                      refine WL.nil ⟨_, by simp only [true_iff, false_iff, Bool.false_eq_true, decide_eq_true_eq, ne_eq]; omega, (Env.Sub.cons rfl rfl (Env.Sub.cons rfl rfl Env.Sub.nil)), Ent.refl _⟩
              · -- behind it
                refine WP.condD rfl (fun h82 => ?_) (fun h82 => ?_)
                · -- then
                  refine WP.regs ?_
                  refine L.assign rfl ?_
                  refine WL.nil ?_
                  refine WP.ret ?_
                  refine X.thenR ?_
                  refine X.ret rfl (Res.one rfl rfl) ?_
                  exact ⟨_, rfl, _, rfl, fun hr => by first | (exfalso; omega) | exact ⟨by omega, by omega, by omega, by omega, by omega, by omega, by omega, by omega⟩⟩
                · -- else
                  refine WP.skip ?_
                  refine X.thenN ?_
                  refine WP.seq ?_
                  refine WP.regs ?_
                  refine L.fieldAddr (o' := 3) T24.f3 rfl rfl ?_
                  refine L.load T5.sc rfl (Rd.own 0 rfl rfl) ?_
                  refine L.eql rfl rfl ?_
                  refine WL.nil ?_
                  refine WP.condD rfl (fun h85 => ?_) (fun h85 => ?_)
                  · -- then
                    refine WP.seq ?_
                    refine WP.regs ?_
                    refine L.fieldAddr (o' := 4) T24.f4 rfl rfl ?_
                    refine L.load T3.sc rfl (Rd.own 0 rfl rfl) ?_
                    refine L.neq rfl rfl ?_
                    refine WL.nil ?_
                    refine WP.condD rfl (fun h88 => ?_) (fun h88 => ?_)
                    · -- then
                      refine WP.regs ?_
                      refine L.assign rfl ?_
                      refine WL.nil ?_
                      refine WP.ret ?_
                      refine X.thenR (X.thenR ?_)
                      refine X.ret rfl (Res.one rfl rfl) ?_
                      exact ⟨_, rfl, _, rfl, fun hr => by first | (exfalso; omega) | exact ⟨by omega, by omega, by omega, by omega, by omega, by omega, by omega, by omega⟩⟩
                    · -- else
                      refine WP.skip ?_
                      refine X.thenN ?_
                      refine WP.regs ?_
                      refine L.assign rfl ?_
                      refine WL.nil ?_
                      refine WP.ret ?_
                      refine X.thenR ?_
                      refine X.ret rfl (Res.one rfl rfl) ?_
                      exact ⟨_, rfl, _, rfl, fun hr => by first | (exfalso; omega) | exact ⟨by omega, by omega, by omega, by omega, by omega, by omega, by omega, by omega⟩⟩
                  · -- else
                    refine WP.skip ?_
                    refine X.thenN ?_
                    refine WP.regs ?_
                    refine L.loadN T24.ag rfl rfl (Rds.all 0 rfl) ?_
                    obtain ⟨n, hn1, hn2, hns⟩ := ref04_side' t
                    refine WL.callV rfl rfl F26.fn rfl (fun g gS dj => hns _ _) ?_   -- vivarium/vivariumref04.side slot 90
                    refine L.assign rfl ?_
                    refine WL.nil ?_
                    refine WP.seq ?_
                    refine WP.regsB (n ≤ t.shift ∨ t.shift ≤ -n) 101 [(1, .pointer (some ⟨b1, 0, none⟩)), (3, .int .i64 n)] ?_ ?_
                    · -- the region
                      refine L.fieldAddr (o' := 4) T24.f4 rfl rfl ?_
                      refine L.load T3.sc rfl (Rd.own 0 rfl rfl) ?_
                      refine L.move rfl ?_
                      refine L.geqD rfl rfl (fun h94 => ?_) (fun h94 => ?_)
                      · -- true
                        refine L.move rfl ?_
                        iterate 5 refine L.skip ?_
                        refine L.pickT rfl rfl ?_
                        refine WL.nil ⟨_, by simp only [true_iff, false_iff, Bool.false_eq_true, decide_eq_true_eq, ne_eq]; omega, (Env.Sub.cons rfl rfl (Env.Sub.cons rfl rfl (Env.Sub.cons rfl rfl Env.Sub.nil))), Ent.refl _⟩
                      · -- false
                        refine L.move rfl ?_
                        refine L.fieldAddr (o' := 4) T24.f4 rfl rfl ?_
                        refine L.load T3.sc rfl (Rd.own 0 rfl rfl) ?_
                        refine L.move rfl ?_
                        refine L.neg' rfl (by omega) ?_
                        refine L.leq rfl rfl ?_
                        refine L.pickF rfl rfl ?_
                        refine WL.nil ⟨_, by simp only [true_iff, false_iff, Bool.false_eq_true, decide_eq_true_eq, ne_eq]; omega, (Env.Sub.cons rfl rfl (Env.Sub.cons rfl rfl (Env.Sub.cons rfl rfl Env.Sub.nil))), Ent.refl _⟩
                    · -- behind it
                      refine WP.condD rfl (fun h101 => ?_) (fun h101 => ?_)
                      · -- then
                        refine WP.regs ?_
                        refine L.assign rfl ?_
                        refine WL.nil ?_
                        refine WP.ret ?_
                        refine X.thenR ?_
                        refine X.ret rfl (Res.one rfl rfl) ?_
                        exact ⟨_, rfl, _, rfl, fun hr => by first | (exfalso; omega) | exact ⟨by omega, by omega, by omega, by omega, by omega, by omega, by omega, by omega⟩⟩
                      · -- else
                        refine WP.skip ?_
                        refine X.thenN ?_
                        refine WP.seq ?_
                        refine WP.regsB (t.kind = 2 ∧ (t.shift = 0 ∨ t.w = 0 ∨ t.h = 0)) 119 [(1, .pointer (some ⟨b1, 0, none⟩))] ?_ ?_
                        · -- the region
                          refine L.fieldAddr (o' := 0) T24.f0 rfl rfl ?_
                          refine L.load T5.sc rfl (Rd.own 0 rfl rfl) ?_
                          refine L.eqlD rfl rfl (fun h104 => ?_) (fun h104 => ?_)
                          · -- true
                            refine L.move rfl ?_
                            refine L.fieldAddr (o' := 4) T24.f4 rfl rfl ?_
                            refine L.load T3.sc rfl (Rd.own 0 rfl rfl) ?_
                            refine L.eqlD rfl rfl (fun h108 => ?_) (fun h108 => ?_)
                            · -- true
                              refine L.move rfl ?_
                              iterate 3 refine L.skip ?_
                              refine L.pickT rfl rfl ?_
                              refine L.move rfl ?_
                              iterate 3 refine L.skip ?_
                              refine L.pickT rfl rfl ?_
                              refine L.pickT rfl rfl ?_
                              refine WL.nil ⟨_, by simp only [true_iff, false_iff, Bool.false_eq_true, decide_eq_true_eq, ne_eq]; omega, (Env.Sub.cons rfl rfl (Env.Sub.cons rfl rfl Env.Sub.nil)), Ent.refl _⟩
                            · -- false
                              refine L.move rfl ?_
                              refine L.fieldAddr (o' := 1) T24.f1 rfl rfl ?_
                              refine L.load T3.sc rfl (Rd.own 0 rfl rfl) ?_
                              refine L.eqlD rfl rfl (fun h112 => ?_) (fun h112 => ?_)
                              · -- true
                                refine L.pickF rfl rfl ?_
                                refine L.move rfl ?_
                                iterate 3 refine L.skip ?_
                                refine L.pickT rfl rfl ?_
                                refine L.pickT rfl rfl ?_
                                refine WL.nil ⟨_, by simp only [true_iff, false_iff, Bool.false_eq_true, decide_eq_true_eq, ne_eq]; omega, (Env.Sub.cons rfl rfl (Env.Sub.cons rfl rfl Env.Sub.nil)), Ent.refl _⟩
                              · -- false
                                refine L.pickF rfl rfl ?_
                                refine L.move rfl ?_
                                refine L.fieldAddr (o' := 2) T24.f2 rfl rfl ?_
                                refine L.load T3.sc rfl (Rd.own 0 rfl rfl) ?_
                                refine L.eql rfl rfl ?_
                                refine L.pickF rfl rfl ?_
                                refine L.pickT rfl rfl ?_
                                refine WL.nil ⟨_, by simp only [true_iff, false_iff, Bool.false_eq_true, decide_eq_true_eq, ne_eq]; omega, (Env.Sub.cons rfl rfl (Env.Sub.cons rfl rfl Env.Sub.nil)), Ent.refl _⟩
                          · -- false
                            refine L.move rfl ?_
                            iterate 13 refine L.skip ?_
                            refine L.pickF rfl rfl ?_
                            refine WL.nil ⟨_, by simp only [true_iff, false_iff, Bool.false_eq_true, decide_eq_true_eq, ne_eq]; omega, (Env.Sub.cons rfl rfl (Env.Sub.cons rfl rfl Env.Sub.nil)), Ent.refl _⟩
                        · -- behind it
                          refine WP.condD rfl (fun h119 => ?_) (fun h119 => ?_)
                          · -- then
                            refine WP.regs ?_
                            refine L.assign rfl ?_
                            refine WL.nil ?_
                            refine WP.ret ?_
                            refine X.thenR ?_
                            refine X.ret rfl (Res.one rfl rfl) ?_
                            exact ⟨_, rfl, _, rfl, fun hr => by first | (exfalso; omega) | exact ⟨by omega, by omega, by omega, by omega, by omega, by omega, by omega, by omega⟩⟩
                          · -- else
                            refine WP.skip ?_
                            refine X.thenN ?_
                            refine WP.regs ?_
                            refine L.assign rfl ?_
                            refine WL.nil ?_
                            refine WP.ret ?_
                            refine X.ret rfl (Res.one rfl rfl) ?_
                            exact ⟨_, rfl, _, rfl, fun hr => by first | (exfalso; omega) | exact ⟨by omega, by omega, by omega, by omega, by omega, by omega, by omega, by omega⟩⟩

set_option maxRecDepth 10000 in
theorem top_ends (t : Topo) (m : Int) (hw : 0 ≤ t.turn ∧ -9223372036854775808 ≤ t.w ∧ t.w ≤ 9223372036854775807 ∧ -9223372036854775808 ≤ t.h ∧ t.h ≤ 9223372036854775807) : FT Pg 5 [.agg (topoC t).toArray, .int .i64 m] k h0 [] (Ret fun v _ => ∃ b : Bool, v = .bool b ∧ (b = true → t.Ok0 ∧ 0 < t.w ∧ 0 < t.h ∧ t.w * t.h ≤ m)) := by
  refine FT.of_wp (n := 27) Try.func5 rfl rfl rfl ?_
  refine WP.regs ?_
  refine L.box rfl rfl ?_; intro b1
  refine L.assign rfl ?_
  refine WL.nil ?_
  refine WP.regs ?_
  refine L.loadN T24.ag rfl rfl (Rds.all 0 rfl) ?_
  refine WL.call rfl rfl F13.fn rfl (FT.pureR fun g gS dj => ref04_Check t hw) ?_; rintro _ _ ⟨⟨r, rfl, hr⟩, rfl⟩
  refine L.eqlD rfl rfl (fun h7 => ?_) (fun h7 => ?_)
  · -- true
    refine L.move rfl ?_
    refine L.fieldAddr (o' := 1) T24.f1 rfl rfl ?_
    refine L.load T3.sc rfl (Rd.own 0 rfl rfl) ?_
    refine L.gtrD rfl rfl (fun h11 => ?_) (fun h11 => ?_)
    · -- true
      refine L.pickT rfl rfl ?_
      refine L.move rfl ?_
      refine L.fieldAddr (o' := 2) T24.f2 rfl rfl ?_
      refine L.load T3.sc rfl (Rd.own 0 rfl rfl) ?_
      refine L.gtrD rfl rfl (fun h16 => ?_) (fun h16 => ?_)
      · -- true
        refine L.pickT rfl rfl ?_
        refine L.move rfl ?_
        refine L.fieldAddr (o' := 1) T24.f1 rfl rfl ?_
        refine L.load T3.sc rfl (Rd.own 0 rfl rfl) ?_
        refine L.fieldAddr (o' := 2) T24.f2 rfl rfl ?_
        refine L.load T3.sc rfl (Rd.own 0 rfl rfl) ?_
        have hok := hr h7
        have hm : 0 ≤ t.w * t.h ∧ t.w * t.h ≤ 65536 * 65536 := ⟨Int.mul_nonneg hok.w.1 hok.h.1, Int.mul_le_mul hok.w.2 hok.h.2 hok.h.1 (by omega)⟩
        refine L.mul' rfl rfl (by omega) ?_
        refine L.move rfl ?_
        refine L.leq rfl rfl ?_
        refine L.pickT rfl rfl ?_
        refine L.assign rfl ?_
        refine WL.nil ?_
        refine WP.ret ?_
        refine X.ret rfl (Res.one rfl rfl) ?_
        exact ⟨_, rfl, _, rfl, fun hb => by first | cases hb | exact ⟨hr h7, h11, h16, of_decide_eq_true hb⟩⟩
      · -- false
        refine L.pickT rfl rfl ?_
        refine L.move rfl ?_
        iterate 7 refine L.skip ?_
        refine L.pickF rfl rfl ?_
        refine L.assign rfl ?_
        refine WL.nil ?_
        refine WP.ret ?_
        refine X.ret rfl (Res.one rfl rfl) ?_
        exact ⟨_, rfl, _, rfl, fun hb => by first | cases hb | exact ⟨hr h7, h11, h16, of_decide_eq_true hb⟩⟩
    · -- false
      refine L.pickT rfl rfl ?_
      refine L.move rfl ?_
      iterate 3 refine L.skip ?_
      refine L.pickF rfl rfl ?_
      refine L.move rfl ?_
      iterate 7 refine L.skip ?_
      refine L.pickF rfl rfl ?_
      refine L.assign rfl ?_
      refine WL.nil ?_
      refine WP.ret ?_
      refine X.ret rfl (Res.one rfl rfl) ?_
      exact ⟨_, rfl, _, rfl, fun hb => by first | cases hb | exact ⟨hr h7, h11, h16, of_decide_eq_true hb⟩⟩
  · -- false
    refine L.move rfl ?_
    iterate 3 refine L.skip ?_
    refine L.pickF rfl rfl ?_
    refine L.move rfl ?_
    iterate 3 refine L.skip ?_
    refine L.pickF rfl rfl ?_
    refine L.move rfl ?_
    iterate 7 refine L.skip ?_
    refine L.pickF rfl rfl ?_
    refine L.assign rfl ?_
    refine WL.nil ?_
    refine WP.ret ?_
    refine X.ret rfl (Res.one rfl rfl) ?_
    exact ⟨_, rfl, _, rfl, fun hb => by first | cases hb | exact ⟨hr h7, h11, h16, of_decide_eq_true hb⟩⟩

set_option maxRecDepth 10000 in
theorem topo_Check (t : Topo) (hg : t.Good) : FT Pg 38 [.agg (topoC t).toArray] k h0 [] (Is (.int .i64 0)) := by
  have hk := hg.kind; have hk2 := hg.kind2; have hw := hg.w; have hh := hg.h; have hw0 := hg.w0; have hh0 := hg.h0; have hfl := hg.flat; have htn := hg.turn; have hno := hg.none; have hwi := hg.wide; have hhi := hg.high
  refine FT.of_wp (n := 119) Try.func38 rfl rfl rfl ?_
  refine WP.regs ?_
  refine L.box rfl rfl ?_; intro b1
  refine L.assign rfl ?_
  refine WL.nil ?_
  refine WP.seq ?_
  refine WP.regs ?_
  refine L.fieldAddr (o' := 0) T24.f0 rfl rfl ?_
  refine L.load T5.sc rfl (Rd.own 0 rfl rfl) ?_
  refine L.lssD rfl rfl (fun hT => absurd hT (by omega)) (fun h7 => ?_)
  refine L.move rfl ?_
  refine L.fieldAddr (o' := 0) T24.f0 rfl rfl ?_
  refine L.load T5.sc rfl (Rd.own 0 rfl rfl) ?_
  refine L.gtr rfl rfl ?_
  refine L.pickF rfl rfl ?_
  refine WL.nil ?_
  refine WP.condD rfl (fun hT => absurd hT (by omega)) (fun h12 => ?_)
  refine WP.skip ?_
  refine X.thenN ?_
  refine WP.seq ?_
  refine WP.regs ?_
  refine L.fieldAddr (o' := 1) T24.f1 rfl rfl ?_
  refine L.load T3.sc rfl (Rd.own 0 rfl rfl) ?_
  refine L.lssD rfl rfl (fun hT => absurd hT (by omega)) (fun h15 => ?_)
  refine L.move rfl ?_
  refine L.fieldAddr (o' := 1) T24.f1 rfl rfl ?_
  refine L.load T3.sc rfl (Rd.own 0 rfl rfl) ?_
  refine L.gtrD rfl rfl (fun hT => absurd hT (by omega)) (fun h19 => ?_)
  refine L.pickF rfl rfl ?_
  refine L.move rfl ?_
  refine L.fieldAddr (o' := 2) T24.f2 rfl rfl ?_
  refine L.load T3.sc rfl (Rd.own 0 rfl rfl) ?_
  refine L.lssD rfl rfl (fun hT => absurd hT (by omega)) (fun h24 => ?_)
  refine L.pickF rfl rfl ?_
  refine L.move rfl ?_
  refine L.fieldAddr (o' := 2) T24.f2 rfl rfl ?_
  refine L.load T3.sc rfl (Rd.own 0 rfl rfl) ?_
  refine L.gtr rfl rfl ?_
  refine L.pickF rfl rfl ?_
  refine WL.nil ?_
  refine WP.condD rfl (fun hT => absurd hT (by omega)) (fun h30 => ?_)
  refine WP.skip ?_
  refine X.thenN ?_
  refine WP.regs ?_
  refine L.assign rfl ?_
  refine WL.nil ?_
  refine WP.seq ?_
  refine WP.regs ?_
  refine L.fieldAddr (o' := 0) T24.f0 rfl rfl ?_
  refine L.load T5.sc rfl (Rd.own 0 rfl rfl) ?_
  refine WL.nil ?_
  refine WP.block ?_
  refine WP.seq ?_
  refine WP.block ?_
  refine WP.seq ?_
  refine WP.block ?_
  refine WP.seq ?_
  refine WP.block ?_
  refine WP.seq ?_
  refine WP.block ?_
  refine WP.seq ?_
  refine WP.seq ?_
  refine WP.regs ?_
  refine L.eql rfl rfl ?_
  refine L.assign rfl ?_
  refine WL.nil ?_
  refine WP.condD rfl (fun hT => absurd hT (by omega)) (fun h33 => ?_)
  refine WP.skip ?_
  refine X.thenN ?_
  refine WP.seq ?_
  refine WP.regs ?_
  refine L.eql rfl rfl ?_
  refine L.assign rfl ?_
  refine WL.nil ?_
  refine WP.condD rfl (fun hT => absurd hT (by omega)) (fun h35 => ?_)
  refine WP.skip ?_
  refine X.thenN ?_
  refine WP.seq ?_
  refine WP.regs ?_
  refine L.eql rfl rfl ?_
  refine L.assign rfl ?_
  refine WL.nil ?_
  refine WP.condD rfl (fun hT => absurd hT (by omega)) (fun h37 => ?_)
  refine WP.skip ?_
  refine X.thenN ?_
  refine WP.regs ?_
  refine L.eql rfl rfl ?_
  refine L.assign rfl ?_
  refine WL.nil ?_
  refine WP.condD rfl (fun h39 => ?_) (fun h39 => ?_)
  · -- then
    refine WP.exit ?_
    refine X.thenE (X.blockF rfl (X.thenE (X.blockF rfl (X.thenE (X.blockF rfl (X.thenE (X.blockE ?_)))))))
    refine X.thenN ?_
    refine WP.regs ?_
    refine L.assign rfl ?_
    refine WL.nil ?_
    refine WP.exit ?_
    refine X.blockE ?_
    refine X.thenN ?_
    refine WP.seq ?_
    refine WP.block ?_
    refine WP.seq ?_
    refine WP.regs ?_
    refine L.fieldAddr (o' := 3) T24.f3 rfl rfl ?_
    refine L.load T5.sc rfl (Rd.own 0 rfl rfl) ?_
    refine L.gtr rfl rfl ?_
    refine L.assign rfl ?_
    refine WL.nil ?_
    refine WP.condD rfl (fun hT => absurd hT (by omega)) (fun h54 => ?_)
    refine WP.regs ?_
    refine L.move rfl ?_
    refine L.not rfl ?_
    refine L.move rfl ?_
    refine L.fieldAddr (o' := 3) T24.f3 rfl rfl ?_
    refine L.load T5.sc rfl (Rd.own 0 rfl rfl) ?_
    refine L.neq rfl rfl ?_
    refine L.pickT rfl rfl ?_
    refine L.assign rfl ?_
    refine WL.nil ?_
    refine WP.condD rfl (fun hT => absurd hT (by omega)) (fun h54 => ?_)
    refine WP.region ?_
    refine L.fieldAddr (o' := 0) T24.f0 rfl rfl ?_
    refine L.load T5.sc rfl (Rd.own 0 rfl rfl) ?_
    refine L.eqlD rfl rfl (fun hT => absurd hT (by omega)) (fun h67 => ?_)
    refine L.move rfl ?_
    iterate 3 refine L.skip ?_
    refine L.pickF rfl rfl ?_
    refine L.assign rfl ?_
    refine WL.nil ?_
    refine X.thenN ?_
    refine WP.condF rfl ?_
    refine WP.regs ?_
    refine L.fieldAddr (o' := 3) T24.f3 rfl rfl ?_
    refine L.load T5.sc rfl (Rd.own 0 rfl rfl) ?_
    refine L.eqlD rfl rfl (fun h76 => ?_) (fun hF => absurd hF (by omega))
    refine L.move rfl ?_
    refine L.fieldAddr (o' := 4) T24.f4 rfl rfl ?_
    refine L.load T3.sc rfl (Rd.own 0 rfl rfl) ?_
    refine L.neq rfl rfl ?_
    refine L.pickT rfl rfl ?_
    refine L.assign rfl ?_
    refine WL.nil ?_
    refine WP.condD rfl (fun hT => absurd hT (by omega)) (fun h73 => ?_)
    refine WP.regs ?_
    refine L.fieldAddr (o' := 3) T24.f3 rfl rfl ?_
    refine L.load T5.sc rfl (Rd.own 0 rfl rfl) ?_
    refine L.eql rfl rfl ?_
    refine L.assign rfl ?_
    refine WL.nil ?_
    refine WP.condD rfl (fun h82 => ?_) (fun hF => absurd hF (by omega))
    refine WP.regs ?_
    refine L.assign rfl ?_
    refine WL.nil ?_
    refine WP.ret ?_
    refine X.blockR (X.thenR ?_)
    refine X.ret rfl (Res.one rfl rfl) ?_
    exact rfl
  · -- else
    refine WP.skip ?_
    refine X.thenN ?_
    refine WP.exit ?_
    refine X.blockF rfl (X.thenE (X.blockF rfl (X.thenE (X.blockF rfl (X.thenE (X.blockF rfl (X.thenE (X.blockE ?_))))))))
    refine X.thenN ?_
    refine WP.seq ?_
    refine WP.block ?_
    refine WP.seq ?_
    refine WP.regs ?_
    refine L.fieldAddr (o' := 3) T24.f3 rfl rfl ?_
    refine L.load T5.sc rfl (Rd.own 0 rfl rfl) ?_
    refine L.gtr rfl rfl ?_
    refine L.assign rfl ?_
    refine WL.nil ?_
    refine WP.condD rfl (fun hT => absurd hT (by omega)) (fun h54 => ?_)
    refine WP.regs ?_
    refine L.move rfl ?_
    refine L.not rfl ?_
    refine L.move rfl ?_
    iterate 3 refine L.skip ?_
    refine L.pickF rfl rfl ?_
    refine L.assign rfl ?_
    refine WL.nil ?_
    refine WP.condF rfl ?_
    refine WP.region ?_
    refine L.fieldAddr (o' := 0) T24.f0 rfl rfl ?_
    refine L.load T5.sc rfl (Rd.own 0 rfl rfl) ?_
    refine L.eqlD rfl rfl (fun hT => absurd hT (by omega)) (fun h67 => ?_)
    refine L.move rfl ?_
    iterate 3 refine L.skip ?_
    refine L.pickF rfl rfl ?_
    refine L.assign rfl ?_
    refine WL.nil ?_
    refine X.thenN ?_
    refine WP.condF rfl ?_
    refine WP.regs ?_
    refine L.fieldAddr (o' := 3) T24.f3 rfl rfl ?_
    refine L.load T5.sc rfl (Rd.own 0 rfl rfl) ?_
    refine L.eqlD rfl rfl (fun h76 => ?_) (fun h76 => ?_)
    · -- true
      refine L.move rfl ?_
      refine L.fieldAddr (o' := 4) T24.f4 rfl rfl ?_
      refine L.load T3.sc rfl (Rd.own 0 rfl rfl) ?_
      refine L.neq rfl rfl ?_
      refine L.pickT rfl rfl ?_
      refine L.assign rfl ?_
      refine WL.nil ?_
      refine WP.condD rfl (fun hT => absurd hT (by omega)) (fun h73 => ?_)
      refine WP.regs ?_
      refine L.fieldAddr (o' := 3) T24.f3 rfl rfl ?_
      refine L.load T5.sc rfl (Rd.own 0 rfl rfl) ?_
      refine L.eql rfl rfl ?_
      refine L.assign rfl ?_
      refine WL.nil ?_
      refine WP.condD rfl (fun h82 => ?_) (fun hF => absurd hF (by omega))
      refine WP.regs ?_
      refine L.assign rfl ?_
      refine WL.nil ?_
      refine WP.ret ?_
      refine X.blockR (X.thenR ?_)
      refine X.ret rfl (Res.one rfl rfl) ?_
      exact rfl
    · -- false
      refine L.move rfl ?_
      iterate 3 refine L.skip ?_
      refine L.pickF rfl rfl ?_
      refine L.assign rfl ?_
      refine WL.nil ?_
      refine WP.condF rfl ?_
      refine WP.regs ?_
      refine L.fieldAddr (o' := 3) T24.f3 rfl rfl ?_
      refine L.load T5.sc rfl (Rd.own 0 rfl rfl) ?_
      refine L.eql rfl rfl ?_
      refine L.assign rfl ?_
      refine WL.nil ?_
      refine WP.condD rfl (fun hT => absurd hT (by omega)) (fun h82 => ?_)
      refine WP.skip ?_
      refine X.blockN ?_
      refine X.thenN ?_
      refine WP.regs ?_
      refine L.loadN T24.ag rfl rfl (Rds.all 0 rfl) ?_
      obtain ⟨n, hn1, hn2, hns⟩ := topo_turned' t
      refine WL.callV rfl rfl F41.fn rfl (fun g gS dj => hns _ _) ?_   -- vivarium/topo.turned slot 87
      refine L.assign rfl ?_
      refine WL.nil ?_
      refine WP.seq ?_
      refine WP.regs ?_
      refine L.fieldAddr (o' := 4) T24.f4 rfl rfl ?_
      refine L.load T3.sc rfl (Rd.own 0 rfl rfl) ?_
      refine L.move rfl ?_
      refine L.neg' rfl (by omega) ?_
      refine L.leqD rfl rfl (fun hT => absurd hT (by omega)) (fun h92 => ?_)
      refine L.move rfl ?_
      refine L.fieldAddr (o' := 4) T24.f4 rfl rfl ?_
      refine L.load T3.sc rfl (Rd.own 0 rfl rfl) ?_
      refine L.move rfl ?_
      refine L.geqD rfl rfl (fun hT => absurd hT (by omega)) (fun h97 => ?_)
      refine L.pickF rfl rfl ?_
      refine L.move rfl ?_
      refine L.fieldAddr (o' := 0) T24.f0 rfl rfl ?_
      refine L.load T5.sc rfl (Rd.own 0 rfl rfl) ?_
      refine L.eqlD rfl rfl (fun h102 => ?_) (fun hF => absurd hF (by omega))
      refine L.move rfl ?_
      refine L.fieldAddr (o' := 4) T24.f4 rfl rfl ?_
      refine L.load T3.sc rfl (Rd.own 0 rfl rfl) ?_
      refine L.eqlD rfl rfl (fun hT => absurd hT (by omega)) (fun h106 => ?_)
      refine L.move rfl ?_
      refine L.fieldAddr (o' := 1) T24.f1 rfl rfl ?_
      refine L.load T3.sc rfl (Rd.own 0 rfl rfl) ?_
      refine L.eqlD rfl rfl (fun hT => absurd hT (by omega)) (fun h110 => ?_)
      refine L.pickF rfl rfl ?_
      refine L.move rfl ?_
      refine L.fieldAddr (o' := 2) T24.f2 rfl rfl ?_
      refine L.load T3.sc rfl (Rd.own 0 rfl rfl) ?_
      refine L.eql rfl rfl ?_
      refine L.pickF rfl rfl ?_
      refine L.pickT rfl rfl ?_
      refine L.pickF rfl rfl ?_
      refine WL.nil ?_
      refine WP.condD rfl (fun hT => absurd hT (by omega)) (fun h118 => ?_)
      refine WP.skip ?_
      refine X.thenN ?_
      refine WP.regs ?_
      refine L.assign rfl ?_
      refine WL.nil ?_
      refine WP.ret ?_
      refine X.ret rfl (Res.one rfl rfl) ?_
      exact rfl

end

end Go.Eng
