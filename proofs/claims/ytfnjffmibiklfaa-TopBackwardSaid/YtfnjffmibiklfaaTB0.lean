/- Walks of the seat's functions over those rules, and plain laws of what they compute. No conditions beyond those in each theorem. -/
import Derived.Test.YtfnjffmibiklfaaTBF
namespace Go.Eng
open Go.RowKit Go.Proofs
set_option linter.unusedSimpArgs false
set_option linter.unusedVariables false
section
variable {k : World} {h0 : Hp}

set_option maxRecDepth 10000 in
theorem whole_Add (a b : Int) (ha : -4611686018427387903 ≤ a ∧ a ≤ 4611686018427387903) (hb : -4611686018427387903 ≤ b ∧ b ≤ 4611686018427387903) : FT Pg 39 [.int .i64 a, .int .i64 b] k h0 [] (Is (.tuple #[.int .i64 (a + b), .bool true])) := by
  refine FT.of_wp (n := 27) Try.func39 rfl rfl rfl ?_
  refine WP.regs ?_
  refine L.assign rfl ?_
  refine L.assign rfl ?_
  refine WL.nil ?_
  refine WP.regs ?_
  refine L.move rfl ?_
  refine L.move rfl ?_
  refine L.add' rfl rfl (by omega) ?_
  refine L.assign rfl ?_
  refine WL.nil ?_
  refine WP.seq ?_
  refine WP.regs ?_
  refine L.move rfl ?_
  refine L.geqD rfl rfl (fun h11 => ?_) (fun h11 => ?_)
  · -- true
    refine L.move rfl ?_
    refine L.move rfl ?_
    refine L.move rfl ?_
    refine L.lssD rfl rfl (fun hT => absurd hT (by omega)) (fun h15 => ?_)
    refine L.pickT rfl rfl ?_
    refine L.move rfl ?_
    refine L.move rfl ?_
    refine L.lssD rfl rfl (fun h19 => ?_) (fun h19 => ?_)
    · -- true
      refine L.move rfl ?_
      refine L.move rfl ?_
      refine L.move rfl ?_
      refine L.gtrD rfl rfl (fun hT => absurd hT (by omega)) (fun h23 => ?_)
      refine L.pickT rfl rfl ?_
      refine L.pickF rfl rfl ?_
      refine WL.nil ?_
      refine WP.condF rfl ?_
      refine WP.skip ?_
      refine X.thenN ?_
      refine WP.regs ?_
      refine L.move rfl ?_
      refine L.assign rfl ?_
      refine L.assign rfl ?_
      refine WL.nil ?_
      refine WP.ret ?_
      refine X.ret rfl (Res.two rfl rfl rfl) ?_
      exact rfl
    · -- false
      refine L.move rfl ?_
      iterate 3 refine L.skip ?_
      refine L.pickF rfl rfl ?_
      refine L.pickF rfl rfl ?_
      refine WL.nil ?_
      refine WP.condF rfl ?_
      refine WP.skip ?_
      refine X.thenN ?_
      refine WP.regs ?_
      refine L.move rfl ?_
      refine L.assign rfl ?_
      refine L.assign rfl ?_
      refine WL.nil ?_
      refine WP.ret ?_
      refine X.ret rfl (Res.two rfl rfl rfl) ?_
      exact rfl
  · -- false
    refine L.move rfl ?_
    iterate 3 refine L.skip ?_
    refine L.pickF rfl rfl ?_
    refine L.move rfl ?_
    refine L.move rfl ?_
    refine L.lssD rfl rfl (fun h19 => ?_) (fun h19 => ?_)
    · -- true
      refine L.move rfl ?_
      refine L.move rfl ?_
      refine L.move rfl ?_
      refine L.gtrD rfl rfl (fun hT => absurd hT (by omega)) (fun h23 => ?_)
      refine L.pickT rfl rfl ?_
      refine L.pickF rfl rfl ?_
      refine WL.nil ?_
      refine WP.condF rfl ?_
      refine WP.skip ?_
      refine X.thenN ?_
      refine WP.regs ?_
      refine L.move rfl ?_
      refine L.assign rfl ?_
      refine L.assign rfl ?_
      refine WL.nil ?_
      refine WP.ret ?_
      refine X.ret rfl (Res.two rfl rfl rfl) ?_
      exact rfl
    · -- false
      refine L.move rfl ?_
      iterate 3 refine L.skip ?_
      refine L.pickF rfl rfl ?_
      refine L.pickF rfl rfl ?_
      refine WL.nil ?_
      refine WP.condF rfl ?_
      refine WP.skip ?_
      refine X.thenN ?_
      refine WP.regs ?_
      refine L.move rfl ?_
      refine L.assign rfl ?_
      refine L.assign rfl ?_
      refine WL.nil ?_
      refine WP.ret ?_
      refine X.ret rfl (Res.two rfl rfl rfl) ?_
      exact rfl

set_option maxRecDepth 10000 in
theorem block_span (a b : Int) (ha : 0 ≤ a ∧ a ≤ 1125899906842624) (hb : -1125899906842624 ≤ b ∧ b ≤ 1125899906842624) (hs : 0 ≤ a + b ∧ a + b ≤ 1125899906842624) : FT Pg 32 [.int .i64 a, .int .i64 b] k h0 [] (Is (.int .i64 0)) := by
  refine FT.of_wp (n := 34) Try.func32 rfl rfl rfl ?_
  refine WP.regs ?_
  refine L.assign rfl ?_
  refine WL.nil ?_
  refine WP.regs ?_
  refine L.move rfl ?_
  refine L.move rfl ?_
  refine WL.callV rfl rfl F39.fn rfl (fun g gS dj => whole_Add a b (by omega) (by omega)) ?_   -- vivarium/whole.Add[int] slot 10
  refine L.move rfl ?_
  refine L.extract rfl rfl ?_
  refine L.extract rfl rfl ?_
  refine L.assign rfl ?_
  refine L.assign rfl ?_
  refine WL.nil ?_
  refine WP.seq ?_
  refine WP.block ?_
  refine WP.regs ?_
  refine L.move rfl ?_
  refine L.lssD rfl rfl (fun hT => absurd hT (by omega)) (fun h15 => ?_)
  refine L.move rfl ?_
  refine L.skip ?_
  refine L.pickF rfl rfl ?_
  refine L.move rfl ?_
  refine L.move rfl ?_
  refine L.not rfl ?_
  refine L.move rfl ?_
  iterate 2 refine L.skip ?_
  refine L.pickF rfl rfl ?_
  refine L.pickF rfl rfl ?_
  refine L.assign rfl ?_
  refine WL.nil ?_
  refine WP.condF rfl ?_
  refine WP.regs ?_
  refine L.move rfl ?_
  refine L.not rfl ?_
  refine L.move rfl ?_
  refine L.move rfl ?_
  refine L.gtr rfl rfl ?_
  refine L.pickF rfl rfl ?_
  refine L.assign rfl ?_
  refine WL.nil ?_
  refine WP.condD rfl (fun hT => absurd hT (by omega)) (fun h27 => ?_)
  refine WP.skip ?_
  refine X.blockN ?_
  refine X.thenN ?_
  refine WP.regs ?_
  refine L.assign rfl ?_
  refine WL.nil ?_
  refine WP.ret ?_
  refine X.ret rfl (Res.one rfl rfl) ?_
  exact rfl

set_option maxRecDepth 10000 in
theorem whole_Div (a n : Int) (ha : -4611686018427387904 ≤ a ∧ a ≤ 4611686018427387904) (hn : 0 < n) : FT Pg 58 [.int .i64 a, .int .i64 n] k h0 [] (Is (.tuple #[.int .i64 (a / n), .bool true])) := by
  refine FT.of_wp (n := 19) Try.func58 rfl rfl rfl ?_
  refine WP.regs ?_
  refine L.assign rfl ?_
  refine L.assign rfl ?_
  refine WL.nil ?_
  refine WP.seq ?_
  refine WP.regs ?_
  refine L.move rfl ?_
  refine L.lss rfl rfl ?_
  refine WL.nil ?_
  refine WP.condD rfl (fun hT => absurd hT (by omega)) (fun h8 => ?_)
  refine WP.skip ?_
  refine X.thenN ?_
  refine WP.regs ?_
  refine L.move rfl ?_
  refine L.move rfl ?_
  refine L.quoZ rfl rfl (by omega) ?_
  have hq := tdiv_bd (a := a) hn
  refine L.assign rfl ?_
  refine WL.nil ?_
  refine WP.seq ?_
  refine WP.regs ?_
  refine L.move rfl ?_
  refine L.move rfl ?_
  refine L.rem rfl rfl (by omega) ?_
  refine L.lss rfl rfl ?_
  refine WL.nil ?_
  refine WP.condD rfl (fun h15 => ?_) (fun h15 => ?_)
  · -- then
    refine WP.region ?_
    refine L.move rfl ?_
    refine L.sub' rfl rfl (by by_cases e : 0 ≤ a; (have := hq.1 e; omega); (have := hq.2 (by omega); omega)) ?_
    refine L.assign rfl ?_
    refine WL.nil ?_
    refine X.thenN ?_
    refine WP.regs ?_
    refine L.move rfl ?_
    refine L.assign rfl ?_
    refine L.assign rfl ?_
    refine WL.nil ?_
    refine WP.ret ?_
    refine X.ret rfl (Res.two rfl rfl rfl) ?_
    show _ = _
    rw [ediv_of_tdiv hn, if_pos h15]
  · -- else
    refine WP.skip ?_
    refine X.thenN ?_
    refine WP.regs ?_
    refine L.move rfl ?_
    refine L.assign rfl ?_
    refine L.assign rfl ?_
    refine WL.nil ?_
    refine WP.ret ?_
    refine X.ret rfl (Res.two rfl rfl rfl) ?_
    show _ = _
    rw [ediv_of_tdiv hn, if_neg h15]

set_option maxRecDepth 10000 in
theorem whole_Mod (a n : Int) (hn : 0 < n ∧ n ≤ 4611686018427387904) : FT Pg 59 [.int .i64 a, .int .i64 n] k h0 [] (Is (.tuple #[.int .i64 (a % n), .bool true])) := by
  refine FT.of_wp (n := 18) Try.func59 rfl rfl rfl ?_
  refine WP.regs ?_
  refine L.assign rfl ?_
  refine L.assign rfl ?_
  refine WL.nil ?_
  refine WP.seq ?_
  refine WP.regs ?_
  refine L.move rfl ?_
  refine L.lss rfl rfl ?_
  refine WL.nil ?_
  refine WP.condD rfl (fun hT => absurd hT (by omega)) (fun h8 => ?_)
  refine WP.skip ?_
  refine X.thenN ?_
  refine WP.regs ?_
  refine L.move rfl ?_
  refine L.move rfl ?_
  refine L.rem rfl rfl (by omega) ?_
  refine L.assign rfl ?_
  refine WL.nil ?_
  refine WP.seq ?_
  refine WP.regs ?_
  refine L.move rfl ?_
  refine L.lss rfl rfl ?_
  refine WL.nil ?_
  refine WP.condD rfl (fun h13 => ?_) (fun h13 => ?_)
  · -- then
    refine WP.region ?_
    refine L.move rfl ?_
    refine L.move rfl ?_
    refine L.add' rfl rfl (by have := Int.lt_tmod_of_pos a hn.1; omega) ?_
    refine L.assign rfl ?_
    refine WL.nil ?_
    refine X.thenN ?_
    refine WP.regs ?_
    refine L.move rfl ?_
    refine L.assign rfl ?_
    refine L.assign rfl ?_
    refine WL.nil ?_
    refine WP.ret ?_
    refine X.ret rfl (Res.two rfl rfl rfl) ?_
    show _ = _
    rw [emod_of_tmod hn.1, if_pos h13]
  · -- else
    refine WP.skip ?_
    refine X.thenN ?_
    refine WP.regs ?_
    refine L.move rfl ?_
    refine L.assign rfl ?_
    refine L.assign rfl ?_
    refine WL.nil ?_
    refine WP.ret ?_
    refine X.ret rfl (Res.two rfl rfl rfl) ?_
    show _ = _
    rw [emod_of_tmod hn.1, if_neg h13]

set_option maxRecDepth 10000 in
theorem fold_cut (a n : Int) (ha : -4611686018427387904 ≤ a ∧ a ≤ 4611686018427387904) (hn : 0 < n ∧ n ≤ 4611686018427387904) : FT Pg 56 [.int .i64 a, .int .i64 n] k h0 [] (Is (.tuple #[.int .i64 (a / n), .int .i64 (a % n)])) := by
  refine FT.of_wp (n := 23) Try.func56 rfl rfl rfl ?_
  refine WP.regs ?_
  refine L.assign rfl ?_
  refine L.assign rfl ?_
  refine WL.nil ?_
  refine WP.seq ?_
  refine WP.regs ?_
  refine L.move rfl ?_
  refine L.eql rfl rfl ?_
  refine WL.nil ?_
  refine WP.condD rfl (fun hT => absurd hT (by omega)) (fun h7 => ?_)
  refine WP.skip ?_
  refine X.thenN ?_
  refine WP.regs ?_
  refine L.move rfl ?_
  refine L.move rfl ?_
  refine WL.callV rfl rfl F58.fn rfl (fun g gS dj => whole_Div a n ha hn.1) ?_   -- vivarium/whole.Div[int] slot 12
  refine L.move rfl ?_
  refine L.extract rfl rfl ?_
  refine L.extract rfl rfl ?_
  refine L.assign rfl ?_
  refine WL.nil ?_
  refine WP.regs ?_
  refine L.move rfl ?_
  refine L.move rfl ?_
  refine WL.callV rfl rfl F59.fn rfl (fun g gS dj => whole_Mod a n hn) ?_   -- vivarium/whole.Mod[int] slot 18
  refine L.move rfl ?_
  refine L.extract rfl rfl ?_
  refine L.extract rfl rfl ?_
  refine L.assign rfl ?_
  refine WL.nil ?_
  refine WP.regs ?_
  refine L.move rfl ?_
  refine L.move rfl ?_
  refine L.assign rfl ?_
  refine L.assign rfl ?_
  refine WL.nil ?_
  refine WP.ret ?_
  refine X.ret rfl (Res.two rfl rfl rfl) ?_
  exact rfl

set_option maxRecDepth 10000 in
theorem fold_round (a n : Int) (hn : 0 < n ∧ n ≤ 4611686018427387904) : FT Pg 57 [.int .i64 a, .int .i64 n] k h0 [] (Is (.int .i64 (a % n))) := by
  refine FT.of_wp (n := 12) Try.func57 rfl rfl rfl ?_
  refine WP.regs ?_
  refine L.assign rfl ?_
  refine WL.nil ?_
  refine WP.regs ?_
  refine L.move rfl ?_
  refine L.move rfl ?_
  refine WL.callV rfl rfl F59.fn rfl (fun g gS dj => whole_Mod a n hn) ?_   -- vivarium/whole.Mod[int] slot 8
  refine L.move rfl ?_
  refine L.extract rfl rfl ?_
  refine L.extract rfl rfl ?_
  refine L.assign rfl ?_
  refine WL.nil ?_
  refine WP.regs ?_
  refine L.move rfl ?_
  refine L.assign rfl ?_
  refine WL.nil ?_
  refine WP.ret ?_
  refine X.ret rfl (Res.one rfl rfl) ?_
  exact rfl

set_option maxRecDepth 10000 in
theorem fold_on (a n : Int) (hn : 0 < n) : FT Pg 48 [.int .i64 a, .int .i64 n] k h0 [] (Is (.bool (decide (0 ≤ a ∧ a < n)))) := by
  refine FT.of_wp (n := 16) Try.func48 rfl rfl rfl ?_
  refine WP.regs ?_
  refine L.assign rfl ?_
  refine WL.nil ?_
  refine WP.regs ?_
  refine L.move rfl ?_
  refine L.eqlD rfl rfl (fun hT => absurd hT (by omega)) (fun h6 => ?_)
  refine L.move rfl ?_
  refine L.move rfl ?_
  refine L.geqD rfl rfl (fun h9 => ?_) (fun h9 => ?_)
  · -- true
    refine L.move rfl ?_
    refine L.move rfl ?_
    refine L.move rfl ?_
    refine L.lss rfl rfl ?_
    refine L.pickT rfl rfl ?_
    refine L.pickF rfl rfl ?_
    refine L.assign rfl ?_
    refine WL.nil ?_
    refine WP.ret ?_
    refine X.ret rfl (Res.one rfl rfl) ?_
    show _ = _
    simp [h9]
  · -- false
    refine L.move rfl ?_
    iterate 3 refine L.skip ?_
    refine L.pickF rfl rfl ?_
    refine L.pickF rfl rfl ?_
    refine L.assign rfl ?_
    refine WL.nil ?_
    refine WP.ret ?_
    refine X.ret rfl (Res.one rfl rfl) ?_
    show _ = _
    simp [h9]

end

end Go.Eng
