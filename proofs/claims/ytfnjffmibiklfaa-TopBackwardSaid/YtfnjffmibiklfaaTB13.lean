/- Walks of the seat's functions over those rules, and plain laws of what they compute. No conditions beyond those in each theorem. -/
import Derived.Test.YtfnjffmibiklfaaTB12
namespace Go.Eng
open Go.RowKit Go.Proofs
set_option linter.unusedSimpArgs false
set_option linter.unusedVariables false

/-- Two have the same cells. -/
def sameB (W H : Nat) (F G : Nat → Nat → Nat) : Bool := (List.range H).all fun y => (List.range W).all fun x => F x y == G x y
theorem sameB_iff {W H : Nat} {F G : Nat → Nat → Nat} : sameB W H F G = true ↔ ∀ y, y < H → ∀ x, x < W → F x y = G x y := by simp [sameB]
section
variable {k : World} {h0 : Hp}

set_option maxRecDepth 10000 in
theorem field_Same_bits {b c : Nat} {W H S : Nat} {F G : Nat → Nat → Nat} (hin : In (fieldHP b true W H S F) h0) (hin2 : In (fieldHP c true W H S G) h0) : FT Pg 11 [.pointer (some ⟨b, 0, none⟩), .pointer (some ⟨c, 0, none⟩)] k h0 [] (Is (.bool (sameB W H F G))) := by
  obtain ⟨hk, rv, hb, hs⟩ := hin.field
  have hs : In (bitsHP W H F (.iface 72 rv)) h0 := hs
  change h0 b = some (.cells [.int .i64 (W : Int), .int .i64 (H : Int), .int .i64 (S : Int), .bool true, .iface 72 rv].toArray 46) at hb
  obtain ⟨hk, rv2, hb2, hs2⟩ := hin2.field
  have hs2 : In (bitsHP W H G (.iface 72 rv2)) h0 := hs2
  change h0 c = some (.cells [.int .i64 (W : Int), .int .i64 (H : Int), .int .i64 (S : Int), .bool true, .iface 72 rv2].toArray 46) at hb2
  have hW := hk.w; have hH := hk.h; have hW0 := hk.w0; have hH0 := hk.h0
  refine FT.of_wp (n := 57) Try.func11 rfl rfl rfl ?_
  refine WP.regs ?_
  refine L.assign rfl ?_
  refine WL.nil ?_
  refine WP.seq ?_
  refine WP.seq ?_
  refine WP.rege [(0, true), (1, false), (2, true), (3, true), (4, false), (5, true), (6, true), (7, true), (8, true), (9, true), (10, true), (11, true), (12, true), (13, true), (14, true), (15, true), (16, true)] 17 rfl (by kernel_rfl) (PInv.then (PInv.then PInv.ret)) rfl ?_
  refine WE.take rfl (V.move rfl) ?_
  refine WE.one rfl ?_
  refine WL.callV rfl rfl F15.fn rfl (fun g gS dj => field_none (Hp.le_un_left _ _ _ _ hb)) ?_   -- (*vivarium/field.Field).none slot 8
  refine WL.nil ⟨Ent.refl _, ?_⟩
  refine WE.take rfl (V.move rfl) ?_
  refine WE.take rfl (V.move rfl) ?_
  refine WE.one rfl ?_
  refine WL.callV rfl rfl F15.fn rfl (fun g gS dj => field_none (Hp.le_un_left _ _ _ _ hb2)) ?_   -- (*vivarium/field.Field).none slot 11
  refine WL.nil ⟨Ent.refl _, ?_⟩
  refine WE.take rfl (V.pickF rfl rfl) ?_
  refine WE.take rfl (V.move rfl) ?_
  refine WE.take rfl (V.move rfl) ?_
  refine WE.take rfl (V.nilCheck rfl) ?_
  refine WE.take rfl (V.fieldAddr (o' := 0) T46.f0 rfl rfl) ?_
  refine WE.take rfl (V.loadN T41.ag rfl rfl (Rds.of (vs := [.int .i64 (W : Int), .int .i64 (H : Int), .int .i64 (S : Int)]) hb rfl)) ?_
  refine WE.take rfl (V.move rfl) ?_
  refine WE.take rfl (V.nilCheck rfl) ?_
  refine WE.take rfl (V.fieldAddr (o' := 0) T46.f0 rfl rfl) ?_
  refine WE.take rfl (V.loadN T41.ag rfl rfl (Rds.of (vs := [.int .i64 (W : Int), .int .i64 (H : Int), .int .i64 (S : Int)]) hb2 rfl)) ?_
  refine WE.take rfl (V.neqIntsS T41.ss (xs := [(W : Int), (H : Int), (S : Int)]) (ys := [(W : Int), (H : Int), (S : Int)]) rfl rfl rfl rfl) ?_
  refine WE.take rfl (V.pickF rfl rfl) ?_
  refine WE.nil ?_
  refine X.thenN ?_
  refine WP.cond rfl (fun hT => absurd hT (by simp)) (fun h23 => ?_)
  refine WP.skip ?_
  refine X.thenN ?_
  refine WP.seq ?_
  refine WP.regs ?_
  refine L.move rfl ?_
  refine L.nilCheck rfl ?_
  refine L.fieldAddr (o' := 0) T46.f0 rfl rfl ?_
  refine L.fieldAddr (o' := 1) T41.f1 rfl rfl ?_
  refine L.load T3.sc rfl (Rd.of hb rfl) ?_
  refine L.move rfl ?_
  refine WL.nil ?_
  refine WP.block ?_
  refine WP.loop (X := Nat) (fun y => ⟨57, [], [(0, .pointer (some ⟨b, 0, none⟩)), (1, .pointer (some ⟨c, 0, none⟩)), (28, .int .i64 (H : Int)), (29, .int .i64 (y : Int))]⟩) (fun y => []) (fun y => y ≤ H ∧ ∀ v, v < y → ∀ u, u < W → F u v = G u v) (fun y => H - y) 0 (⟨Nat.zero_le _, fun v hv => by omega⟩) (Env.Sub.cons rfl rfl (Env.Sub.cons rfl rfl (Env.Sub.cons rfl rfl (Env.Sub.cons rfl rfl Env.Sub.nil)))) (Ent.refl _) ?_
  rintro y ⟨hy, hyy⟩
  refine WP.regs ?_
  refine L.lss rfl rfl ?_
  refine WL.nil ?_
  refine WP.seq ?_
  refine WP.condD rfl (fun h30 => ?_) (fun h30 => ?_)
  · -- then
    refine WP.skip ?_
    refine X.thenN ?_
    refine WP.seq ?_
    refine WP.block ?_
    refine WP.regs ?_
    refine L.move rfl ?_
    refine L.assign rfl ?_
    refine WL.nil ?_
    refine WP.regs ?_
    refine L.move rfl ?_
    refine L.nilCheck rfl ?_
    refine L.fieldAddr (o' := 0) T46.f0 rfl rfl ?_
    refine L.fieldAddr (o' := 0) T41.f0 rfl rfl ?_
    refine L.load T3.sc rfl (Rd.of hb rfl) ?_
    refine L.move rfl ?_
    refine WL.nil ?_
    refine WP.block ?_
    refine WP.loop (X := Nat) (fun x => ⟨57, [], [(0, .pointer (some ⟨b, 0, none⟩)), (1, .pointer (some ⟨c, 0, none⟩)), (28, .int .i64 (H : Int)), (29, .int .i64 (y : Int)), (36, .int .i64 (W : Int)), (37, .int .i64 (x : Int)), (5, .int .i64 (y : Int))]⟩) (fun x => []) (fun x => x ≤ W ∧ ∀ u, u < x → F u y = G u y) (fun x => W - x) 0 (⟨Nat.zero_le _, fun v hv => by omega⟩) (Env.Sub.cons rfl rfl (Env.Sub.cons rfl rfl (Env.Sub.cons rfl rfl (Env.Sub.cons rfl rfl (Env.Sub.cons rfl rfl (Env.Sub.cons rfl rfl (Env.Sub.cons rfl rfl Env.Sub.nil))))))) (Ent.refl _) ?_
    rintro x ⟨hx, hxx⟩
    refine WP.regs ?_
    refine L.lss rfl rfl ?_
    refine WL.nil ?_
    refine WP.seq ?_
    refine WP.condD rfl (fun h38 => ?_) (fun h38 => ?_)
    · -- then
      refine WP.skip ?_
      refine X.thenN ?_
      refine WP.seq ?_
      refine WP.block ?_
      refine WP.regs ?_
      refine L.move rfl ?_
      refine L.assign rfl ?_
      refine WL.nil ?_
      refine WP.seq ?_
      refine WP.rege [(0, true), (1, true), (2, true), (3, true), (4, true), (5, true), (7, true), (8, true), (9, true), (10, true), (11, true), (12, true), (6, false), (13, false), (14, false)] 13 rfl (by kernel_rfl) (PInv.then (PInv.block (PInv.then (PInv.then (PInv.block (PInv.block (PInv.then (PInv.then (PInv.block (PInv.then PInv.ret)))))))))) rfl ?_
      refine WE.take rfl (V.move rfl) ?_
      refine WE.take rfl (V.nilCheck rfl) ?_
      refine WE.take rfl (V.fieldAddr (o' := 4) T46.f2 rfl rfl) ?_
      refine WE.take rfl (V.load T43.sc rfl (Rd.of hb rfl)) ?_
      refine WE.take rfl (V.move rfl) ?_
      refine WE.take rfl (V.move rfl) ?_
      refine WE.take rfl (V.move rfl) ?_
      refine WE.take rfl (V.nilCheck rfl) ?_
      refine WE.take rfl (V.fieldAddr (o' := 4) T46.f2 rfl rfl) ?_
      refine WE.take rfl (V.load T43.sc rfl (Rd.of hb2 rfl)) ?_
      refine WE.take rfl (V.move rfl) ?_
      refine WE.take rfl (V.move rfl) ?_
      refine WE.one rfl ?_
      refine WL.invV rfl rfl rfl (M78_get _) F78.fn rfl (fun g gS dj => bits_get W H F x y (by omega) (by omega) hW hH rv (hs.mono (Hp.le_un_left _ _))) ?_
      refine WL.nil ⟨Ent.refl _, ?_⟩
      refine WE.last rfl ?_
      refine WL.invV rfl rfl rfl (M78_get _) F78.fn rfl (fun g gS dj => bits_get W H G x y (by omega) (by omega) hW hH rv2 (hs2.mono (Hp.le_un_left _ _))) ?_
      refine WL.nil ?_
      refine WE.more rfl ?_
      refine L.neq rfl rfl ?_
      refine WL.nil ?_
      refine WE.nil ?_
      refine X.thenN ?_
      refine WP.condD rfl (fun h54 => ?_) (fun h54 => ?_)
      · -- then
        refine WP.regs ?_
        refine L.assign rfl ?_
        refine WL.nil ?_
        refine WP.ret ?_
        refine X.blockR (X.thenR (X.thenR (X.blockR (X.blockR (X.thenR (X.thenR (X.blockR (X.thenR ?_))))))))
        refine X.ret rfl (Res.one rfl rfl) ?_
        show _ = _
        rw [show sameB W H F G = false from Bool.eq_false_iff.2 fun h => h54 (by have := sameB_iff.1 h y (by omega) x (by omega); omega)]
      · -- else
        refine WP.skip ?_
        refine X.blockN ?_
        refine X.thenN ?_
        refine WP.region ?_
        refine L.add' rfl rfl (by omega) ?_
        refine L.move rfl ?_
        refine WL.nil ?_
        refine X.thenN ⟨x + 1, ⟨by omega, fun u hu => by rcases Nat.lt_or_ge u x with e | e; exact hxx u e; obtain rfl : u = x := (by omega); omega⟩, by omega, (Env.Sub.cons rfl rfl (Env.Sub.cons rfl rfl (Env.Sub.cons rfl rfl (Env.Sub.cons rfl rfl (Env.Sub.cons rfl rfl (Env.Sub.cons rfl rfl (Env.Sub.cons rfl rfl Env.Sub.nil))))))), Ent.refl _⟩
    · -- else
      refine WP.exit ?_
      refine X.thenE (X.thenE (X.blockE ?_))
      refine X.blockN ?_
      refine X.thenN ?_
      refine WP.region ?_
      refine L.add' rfl rfl (by omega) ?_
      refine L.move rfl ?_
      refine WL.nil ?_
      refine X.thenN ⟨y + 1, ⟨by omega, fun v hv => by rcases Nat.lt_or_ge v y with e | e; exact hyy v e; obtain rfl : v = y := (by omega); exact fun u hu => hxx u (by omega)⟩, by omega, (Env.Sub.cons rfl rfl (Env.Sub.cons rfl rfl (Env.Sub.cons rfl rfl (Env.Sub.cons rfl rfl Env.Sub.nil)))), Ent.refl _⟩
  · -- else
    refine WP.exit ?_
    refine X.thenE (X.thenE (X.blockE ?_))
    refine X.thenN ?_
    refine WP.regs ?_
    refine L.assign rfl ?_
    refine WL.nil ?_
    refine WP.ret ?_
    refine X.ret rfl (Res.one rfl rfl) ?_
    show _ = _
    rw [sameB_iff.2 fun v hv => hyy v (by omega)]

set_option maxRecDepth 10000 in
theorem field_Same_bytes {b c : Nat} {W H S : Nat} {F G : Nat → Nat → Nat} (hin : In (fieldHP b false W H S F) h0) (hin2 : In (fieldHP c false W H S G) h0) : FT Pg 11 [.pointer (some ⟨b, 0, none⟩), .pointer (some ⟨c, 0, none⟩)] k h0 [] (Is (.bool (sameB W H F G))) := by
  obtain ⟨hk, rv, hb, hs⟩ := hin.field
  have hs : In (bytesHP W H F (.iface 80 rv)) h0 := hs
  change h0 b = some (.cells [.int .i64 (W : Int), .int .i64 (H : Int), .int .i64 (S : Int), .bool false, .iface 80 rv].toArray 46) at hb
  obtain ⟨hk, rv2, hb2, hs2⟩ := hin2.field
  have hs2 : In (bytesHP W H G (.iface 80 rv2)) h0 := hs2
  change h0 c = some (.cells [.int .i64 (W : Int), .int .i64 (H : Int), .int .i64 (S : Int), .bool false, .iface 80 rv2].toArray 46) at hb2
  have hW := hk.w; have hH := hk.h; have hW0 := hk.w0; have hH0 := hk.h0
  refine FT.of_wp (n := 57) Try.func11 rfl rfl rfl ?_
  refine WP.regs ?_
  refine L.assign rfl ?_
  refine WL.nil ?_
  refine WP.seq ?_
  refine WP.seq ?_
  refine WP.rege [(0, true), (1, false), (2, true), (3, true), (4, false), (5, true), (6, true), (7, true), (8, true), (9, true), (10, true), (11, true), (12, true), (13, true), (14, true), (15, true), (16, true)] 17 rfl (by kernel_rfl) (PInv.then (PInv.then PInv.ret)) rfl ?_
  refine WE.take rfl (V.move rfl) ?_
  refine WE.one rfl ?_
  refine WL.callV rfl rfl F15.fn rfl (fun g gS dj => field_none (Hp.le_un_left _ _ _ _ hb)) ?_   -- (*vivarium/field.Field).none slot 8
  refine WL.nil ⟨Ent.refl _, ?_⟩
  refine WE.take rfl (V.move rfl) ?_
  refine WE.take rfl (V.move rfl) ?_
  refine WE.one rfl ?_
  refine WL.callV rfl rfl F15.fn rfl (fun g gS dj => field_none (Hp.le_un_left _ _ _ _ hb2)) ?_   -- (*vivarium/field.Field).none slot 11
  refine WL.nil ⟨Ent.refl _, ?_⟩
  refine WE.take rfl (V.pickF rfl rfl) ?_
  refine WE.take rfl (V.move rfl) ?_
  refine WE.take rfl (V.move rfl) ?_
  refine WE.take rfl (V.nilCheck rfl) ?_
  refine WE.take rfl (V.fieldAddr (o' := 0) T46.f0 rfl rfl) ?_
  refine WE.take rfl (V.loadN T41.ag rfl rfl (Rds.of (vs := [.int .i64 (W : Int), .int .i64 (H : Int), .int .i64 (S : Int)]) hb rfl)) ?_
  refine WE.take rfl (V.move rfl) ?_
  refine WE.take rfl (V.nilCheck rfl) ?_
  refine WE.take rfl (V.fieldAddr (o' := 0) T46.f0 rfl rfl) ?_
  refine WE.take rfl (V.loadN T41.ag rfl rfl (Rds.of (vs := [.int .i64 (W : Int), .int .i64 (H : Int), .int .i64 (S : Int)]) hb2 rfl)) ?_
  refine WE.take rfl (V.neqIntsS T41.ss (xs := [(W : Int), (H : Int), (S : Int)]) (ys := [(W : Int), (H : Int), (S : Int)]) rfl rfl rfl rfl) ?_
  refine WE.take rfl (V.pickF rfl rfl) ?_
  refine WE.nil ?_
  refine X.thenN ?_
  refine WP.cond rfl (fun hT => absurd hT (by simp)) (fun h23 => ?_)
  refine WP.skip ?_
  refine X.thenN ?_
  refine WP.seq ?_
  refine WP.regs ?_
  refine L.move rfl ?_
  refine L.nilCheck rfl ?_
  refine L.fieldAddr (o' := 0) T46.f0 rfl rfl ?_
  refine L.fieldAddr (o' := 1) T41.f1 rfl rfl ?_
  refine L.load T3.sc rfl (Rd.of hb rfl) ?_
  refine L.move rfl ?_
  refine WL.nil ?_
  refine WP.block ?_
  refine WP.loop (X := Nat) (fun y => ⟨57, [], [(0, .pointer (some ⟨b, 0, none⟩)), (1, .pointer (some ⟨c, 0, none⟩)), (28, .int .i64 (H : Int)), (29, .int .i64 (y : Int))]⟩) (fun y => []) (fun y => y ≤ H ∧ ∀ v, v < y → ∀ u, u < W → F u v = G u v) (fun y => H - y) 0 (⟨Nat.zero_le _, fun v hv => by omega⟩) (Env.Sub.cons rfl rfl (Env.Sub.cons rfl rfl (Env.Sub.cons rfl rfl (Env.Sub.cons rfl rfl Env.Sub.nil)))) (Ent.refl _) ?_
  rintro y ⟨hy, hyy⟩
  refine WP.regs ?_
  refine L.lss rfl rfl ?_
  refine WL.nil ?_
  refine WP.seq ?_
  refine WP.condD rfl (fun h30 => ?_) (fun h30 => ?_)
  · -- then
    refine WP.skip ?_
    refine X.thenN ?_
    refine WP.seq ?_
    refine WP.block ?_
    refine WP.regs ?_
    refine L.move rfl ?_
    refine L.assign rfl ?_
    refine WL.nil ?_
    refine WP.regs ?_
    refine L.move rfl ?_
    refine L.nilCheck rfl ?_
    refine L.fieldAddr (o' := 0) T46.f0 rfl rfl ?_
    refine L.fieldAddr (o' := 0) T41.f0 rfl rfl ?_
    refine L.load T3.sc rfl (Rd.of hb rfl) ?_
    refine L.move rfl ?_
    refine WL.nil ?_
    refine WP.block ?_
    refine WP.loop (X := Nat) (fun x => ⟨57, [], [(0, .pointer (some ⟨b, 0, none⟩)), (1, .pointer (some ⟨c, 0, none⟩)), (28, .int .i64 (H : Int)), (29, .int .i64 (y : Int)), (36, .int .i64 (W : Int)), (37, .int .i64 (x : Int)), (5, .int .i64 (y : Int))]⟩) (fun x => []) (fun x => x ≤ W ∧ ∀ u, u < x → F u y = G u y) (fun x => W - x) 0 (⟨Nat.zero_le _, fun v hv => by omega⟩) (Env.Sub.cons rfl rfl (Env.Sub.cons rfl rfl (Env.Sub.cons rfl rfl (Env.Sub.cons rfl rfl (Env.Sub.cons rfl rfl (Env.Sub.cons rfl rfl (Env.Sub.cons rfl rfl Env.Sub.nil))))))) (Ent.refl _) ?_
    rintro x ⟨hx, hxx⟩
    refine WP.regs ?_
    refine L.lss rfl rfl ?_
    refine WL.nil ?_
    refine WP.seq ?_
    refine WP.condD rfl (fun h38 => ?_) (fun h38 => ?_)
    · -- then
      refine WP.skip ?_
      refine X.thenN ?_
      refine WP.seq ?_
      refine WP.block ?_
      refine WP.regs ?_
      refine L.move rfl ?_
      refine L.assign rfl ?_
      refine WL.nil ?_
      refine WP.seq ?_
      refine WP.rege [(0, true), (1, true), (2, true), (3, true), (4, true), (5, true), (7, true), (8, true), (9, true), (10, true), (11, true), (12, true), (6, false), (13, false), (14, false)] 13 rfl (by kernel_rfl) (PInv.then (PInv.block (PInv.then (PInv.then (PInv.block (PInv.block (PInv.then (PInv.then (PInv.block (PInv.then PInv.ret)))))))))) rfl ?_
      refine WE.take rfl (V.move rfl) ?_
      refine WE.take rfl (V.nilCheck rfl) ?_
      refine WE.take rfl (V.fieldAddr (o' := 4) T46.f2 rfl rfl) ?_
      refine WE.take rfl (V.load T43.sc rfl (Rd.of hb rfl)) ?_
      refine WE.take rfl (V.move rfl) ?_
      refine WE.take rfl (V.move rfl) ?_
      refine WE.take rfl (V.move rfl) ?_
      refine WE.take rfl (V.nilCheck rfl) ?_
      refine WE.take rfl (V.fieldAddr (o' := 4) T46.f2 rfl rfl) ?_
      refine WE.take rfl (V.load T43.sc rfl (Rd.of hb2 rfl)) ?_
      refine WE.take rfl (V.move rfl) ?_
      refine WE.take rfl (V.move rfl) ?_
      refine WE.one rfl ?_
      refine WL.invV rfl rfl rfl (M82_get _) F82.fn rfl (fun g gS dj => bytes_get W H F x y (by omega) (by omega) hW hH rv (hs.mono (Hp.le_un_left _ _))) ?_
      refine WL.nil ⟨Ent.refl _, ?_⟩
      refine WE.last rfl ?_
      refine WL.invV rfl rfl rfl (M82_get _) F82.fn rfl (fun g gS dj => bytes_get W H G x y (by omega) (by omega) hW hH rv2 (hs2.mono (Hp.le_un_left _ _))) ?_
      refine WL.nil ?_
      refine WE.more rfl ?_
      refine L.neq rfl rfl ?_
      refine WL.nil ?_
      refine WE.nil ?_
      refine X.thenN ?_
      refine WP.condD rfl (fun h54 => ?_) (fun h54 => ?_)
      · -- then
        refine WP.regs ?_
        refine L.assign rfl ?_
        refine WL.nil ?_
        refine WP.ret ?_
        refine X.blockR (X.thenR (X.thenR (X.blockR (X.blockR (X.thenR (X.thenR (X.blockR (X.thenR ?_))))))))
        refine X.ret rfl (Res.one rfl rfl) ?_
        show _ = _
        rw [show sameB W H F G = false from Bool.eq_false_iff.2 fun h => h54 (by have := sameB_iff.1 h y (by omega) x (by omega); omega)]
      · -- else
        refine WP.skip ?_
        refine X.blockN ?_
        refine X.thenN ?_
        refine WP.region ?_
        refine L.add' rfl rfl (by omega) ?_
        refine L.move rfl ?_
        refine WL.nil ?_
        refine X.thenN ⟨x + 1, ⟨by omega, fun u hu => by rcases Nat.lt_or_ge u x with e | e; exact hxx u e; obtain rfl : u = x := (by omega); omega⟩, by omega, (Env.Sub.cons rfl rfl (Env.Sub.cons rfl rfl (Env.Sub.cons rfl rfl (Env.Sub.cons rfl rfl (Env.Sub.cons rfl rfl (Env.Sub.cons rfl rfl (Env.Sub.cons rfl rfl Env.Sub.nil))))))), Ent.refl _⟩
    · -- else
      refine WP.exit ?_
      refine X.thenE (X.thenE (X.blockE ?_))
      refine X.blockN ?_
      refine X.thenN ?_
      refine WP.region ?_
      refine L.add' rfl rfl (by omega) ?_
      refine L.move rfl ?_
      refine WL.nil ?_
      refine X.thenN ⟨y + 1, ⟨by omega, fun v hv => by rcases Nat.lt_or_ge v y with e | e; exact hyy v e; obtain rfl : v = y := (by omega); exact fun u hu => hxx u (by omega)⟩, by omega, (Env.Sub.cons rfl rfl (Env.Sub.cons rfl rfl (Env.Sub.cons rfl rfl (Env.Sub.cons rfl rfl Env.Sub.nil)))), Ent.refl _⟩
  · -- else
    refine WP.exit ?_
    refine X.thenE (X.thenE (X.blockE ?_))
    refine X.thenN ?_
    refine WP.regs ?_
    refine L.assign rfl ?_
    refine WL.nil ?_
    refine WP.ret ?_
    refine X.ret rfl (Res.one rfl rfl) ?_
    show _ = _
    rw [sameB_iff.2 fun v hv => hyy v (by omega)]

end

end Go.Eng
