/- Walks of the seat's functions over those rules, and plain laws of what they compute. No conditions beyond those in each theorem. -/
import Derived.Test.YtfnjffmibiklfaaTB11
namespace Go.Eng
open Go.RowKit Go.Proofs
set_option linter.unusedSimpArgs false
set_option linter.unusedVariables false
section
variable {k : World} {h0 : Hp}

set_option maxRecDepth 10000 in
theorem field_Get_bits {b : Nat} {W H S : Nat} {F : Nat → Nat → Nat} (x y : Nat) (hx : x < W) (hy : y < H) (hin : In (fieldHP b true W H S F) h0) : FT Pg 22 [.pointer (some ⟨b, 0, none⟩), .int .i64 (x : Int), .int .i64 (y : Int)] k h0 [] (Is (.tuple #[.int .u8 (F x y : Nat), .int .i64 0])) := by
  obtain ⟨hk, rv, hb, hs⟩ := hin.field
  have hW := hk.w; have hH := hk.h; have hW0 := hk.w0; have hH0 := hk.h0
  have hs : In (bitsHP W H F (.iface 72 rv)) h0 := hs
  change h0 b = some (.cells [.int .i64 (W : Int), .int .i64 (H : Int), .int .i64 (S : Int), .bool true, .iface 72 rv].toArray 46) at hb
  refine FT.of_wp (n := 25) Try.func22 rfl rfl rfl ?_
  refine WP.regs ?_
  refine L.assign rfl ?_
  refine L.assign rfl ?_
  refine WL.nil ?_
  refine WP.seq ?_
  refine WP.regs ?_
  refine L.move rfl ?_
  refine WL.callV rfl rfl F15.fn rfl (fun g gS dj => field_none (Hp.le_un_left _ _ _ _ hb)) ?_   -- (*vivarium/field.Field).none slot 9
  refine WL.nil ?_
  refine WP.condF rfl ?_
  refine WP.skip ?_
  refine X.thenN ?_
  refine WP.seq ?_
  refine WP.regs ?_
  refine L.move rfl ?_
  refine L.nilCheck rfl ?_
  refine L.fieldAddr (o' := 0) T46.f0 rfl rfl ?_
  refine L.loadN T41.ag rfl rfl (Rds.of (vs := [.int .i64 (W : Int), .int .i64 (H : Int), .int .i64 (S : Int)]) hb rfl) ?_
  refine L.move rfl ?_
  refine L.move rfl ?_
  refine WL.callV rfl rfl F16.fn rfl (fun g gS dj => shape_has W H S x y hx hy) ?_   -- (vivarium/field.shape).has slot 16
  refine L.not rfl ?_
  refine WL.nil ?_
  refine WP.condF rfl ?_
  refine WP.skip ?_
  refine X.thenN ?_
  refine WP.regs ?_
  refine L.move rfl ?_
  refine L.nilCheck rfl ?_
  refine L.fieldAddr (o' := 4) T46.f2 rfl rfl ?_
  refine L.load T43.sc rfl (Rd.of hb rfl) ?_
  refine L.move rfl ?_
  refine L.move rfl ?_
  refine WL.invV rfl rfl rfl (M78_get _) F78.fn rfl (fun g gS dj => bits_get W H F x y hx hy hW hH rv (hs.mono (Hp.le_un_left _ _))) ?_
  refine L.assign rfl ?_
  refine L.assign rfl ?_
  refine WL.nil ?_
  refine WP.ret ?_
  refine X.ret rfl (Res.two rfl rfl rfl) ?_
  exact rfl

set_option maxRecDepth 10000 in
theorem field_Set_bits {b : Nat} {W H S : Nat} {F : Nat → Nat → Nat} (x y s : Nat) (hx : x < W) (hy : y < H) (hsS : s < S) : FT Pg 7 [.pointer (some ⟨b, 0, none⟩), .int .i64 (x : Int), .int .i64 (y : Int), .int .u8 (s : Int)] k h0 [fieldHP b true W H S F] (Ret fun v τ => v = .int .i64 0 ∧ τ = [fieldHP b true W H S (updF F x y s)]) := by
  refine FT.tight ?_
  refine FT.field fun rv hk => ?_
  have hW := hk.w; have hH := hk.h; have hS := hk.s
  have hk' : FOk true W H S (updF F x y s) := ⟨hk.w0, hk.w, hk.h0, hk.h, hk.s0, hk.s, hk.p, fun u v => by have := hk.F u v; unfold updF; split <;> assumption⟩
  have hp := hk.p rfl
  have hsb : s ≤ 1 := by omega
  refine FT.of_wp (n := 37) Try.func7 rfl rfl rfl ?_
  refine WP.regs ?_
  refine L.assign rfl ?_
  refine WL.nil ?_
  refine WP.seq ?_
  refine WP.block ?_
  refine WP.regs ?_
  refine L.move rfl ?_
  refine WL.callV rfl rfl F15.fn rfl (fun g gS dj => field_none (tt := 72) (rv := rv) (gS.at' 0 rfl dj)) ?_   -- (*vivarium/field.Field).none slot 11
  refine L.assign rfl ?_
  refine WL.nil ?_
  refine WP.condF rfl ?_
  refine WP.regs ?_
  refine L.move rfl ?_
  refine L.nilCheck rfl ?_
  refine L.fieldAddr (o' := 0) T46.f0 rfl rfl ?_
  refine L.loadN T41.ag rfl rfl (vs := [.int .i64 (W : Int), .int .i64 (H : Int), .int .i64 (S : Int)]) (Rds.own 0 rfl rfl) ?_
  refine L.move rfl ?_
  refine L.move rfl ?_
  refine WL.callV rfl rfl F16.fn rfl (fun g gS dj => shape_has W H S x y hx hy) ?_   -- (vivarium/field.shape).has slot 19
  refine L.not rfl ?_
  refine L.assign rfl ?_
  refine WL.nil ?_
  refine WP.condF rfl ?_
  refine WP.regs ?_
  refine L.move rfl ?_
  refine L.nilCheck rfl ?_
  refine L.fieldAddr (o' := 0) T46.f0 rfl rfl ?_
  refine L.loadN T41.ag rfl rfl (vs := [.int .i64 (W : Int), .int .i64 (H : Int), .int .i64 (S : Int)]) (Rds.own 0 rfl rfl) ?_
  refine L.move rfl ?_
  refine WL.callV rfl rfl F17.fn rfl (fun g gS dj => shape_knows W H S s hsS hS) ?_   -- (vivarium/field.shape).knows slot 27
  refine L.not rfl ?_
  refine L.assign rfl ?_
  refine WL.nil ?_
  refine WP.condF rfl ?_
  refine WP.skip ?_
  refine X.blockN ?_
  refine X.thenN ?_
  refine WP.regs ?_
  refine L.move rfl ?_
  refine L.nilCheck rfl ?_
  refine L.fieldAddr (o' := 4) T46.f2 rfl rfl ?_
  refine L.load T43.sc rfl (v := .iface 72 rv) (Rd.own 0 rfl rfl) ?_
  refine L.move rfl ?_
  refine L.move rfl ?_
  refine L.move rfl ?_
  refine WL.inv rfl rfl rfl (M79_set _) F79.fn rfl (FT.part [bitsHP W H F (.iface 72 rv)] [cl b (fieldC true W H S (.iface 72 rv)) 46] (Ent.perm (List.Perm.swap _ _ _)) fun g gS dj => bits_set W H F x y hx hy hW hH s hsb rv) ?_; rintro _ _ ⟨_, rfl, rfl⟩
  refine WL.nil ?_
  refine WP.regs ?_
  refine L.assign rfl ?_
  refine WL.nil ?_
  refine WP.ret ?_
  refine X.ret rfl (Res.one rfl rfl) ?_
  refine ⟨_, rfl, _, ⟨rfl, rfl⟩, (Ent.perm (List.Perm.swap _ _ _)).trans (Ent.field (p := true) hk')⟩

set_option maxRecDepth 10000 in
theorem field_Clone_bits {b : Nat} {W H S : Nat} {F : Nat → Nat → Nat} (hin : In (fieldHP b true W H S F) h0) : FT Pg 19 [.pointer (some ⟨b, 0, none⟩)] k h0 [] (Ret fun v τ => ∃ c : Nat, v = .pointer (some ⟨c, 0, none⟩) ∧ τ = [fieldHP c true W H S F]) := by
  refine FT.tight ?_
  obtain ⟨hk, rv, hb, hs⟩ := hin.field
  have hW := hk.w; have hH := hk.h; have hW0 := hk.w0; have hH0 := hk.h0
  have hs : In (bitsHP W H F (.iface 72 rv)) h0 := hs
  change h0 b = some (.cells [.int .i64 (W : Int), .int .i64 (H : Int), .int .i64 (S : Int), .bool true, .iface 72 rv].toArray 46) at hb
  refine FT.of_wp (n := 20) Try.func19 rfl rfl rfl ?_
  refine WP.regs ?_
  refine L.assign rfl ?_
  refine WL.nil ?_
  refine WP.seq ?_
  refine WP.regs ?_
  refine L.move rfl ?_
  refine WL.callV rfl rfl F15.fn rfl (fun g gS dj => field_none (Hp.le_un_left _ _ _ _ hb)) ?_   -- (*vivarium/field.Field).none slot 4
  refine WL.nil ?_
  refine WP.condF rfl ?_
  refine WP.skip ?_
  refine X.thenN ?_
  refine WP.seq ?_
  refine WP.rege [(0, true), (1, true), (2, true), (3, true), (4, true), (5, true), (6, true), (7, true), (8, true), (9, true), (10, true), (11, true), (12, false), (13, true), (14, false), (15, false)] 14 rfl (by kernel_rfl) (PInv.then PInv.ret) rfl ?_
  refine WE.take rfl (V.move rfl) ?_
  refine WE.take rfl (V.nilCheck rfl) ?_
  refine WE.take rfl (V.fieldAddr (o' := 0) T46.f0 rfl rfl) ?_
  refine WE.take rfl (V.loadN T41.ag rfl rfl (Rds.of (vs := [.int .i64 (W : Int), .int .i64 (H : Int), .int .i64 (S : Int)]) hb rfl)) ?_
  refine WE.take rfl (V.move rfl) ?_
  refine WE.take rfl (V.nilCheck rfl) ?_
  refine WE.take rfl (V.fieldAddr (o' := 3) T46.f1 rfl rfl) ?_
  refine WE.take rfl (V.load T4.sc rfl (Rd.of hb rfl)) ?_
  refine WE.take rfl (V.move rfl) ?_
  refine WE.take rfl (V.nilCheck rfl) ?_
  refine WE.take rfl (V.fieldAddr (o' := 4) T46.f2 rfl rfl) ?_
  refine WE.take rfl (V.load T43.sc rfl (Rd.of hb rfl)) ?_
  refine WE.one rfl ?_
  refine WL.inv rfl rfl rfl (M77_copied _) F77.fn rfl (FT.make fun g gS dj => bits_copied W H F hW0 hH0 hW hH rv (hs.mono (Hp.le_un_left _ _))) ?_; rintro v2 _ ⟨_, rfl, rfl⟩
  refine WL.fact (φ := ∃ rv, v2 = .iface 72 rv) (fun _ _ _ s => by obtain ⟨g, i⟩ := s.inn 0 rfl; exact In.store (p := true) i) fun ⟨rv2, e⟩ => ?_
  subst e
  refine WL.nil ⟨Ent.left [_] _, ?_⟩
  refine WE.take rfl (V.build (cs := [_, _, _, _, _]) T46.b T46.z rfl rfl) ?_
  refine WE.last rfl ?_
  refine L.box rfl rfl ?_; intro b1
  refine WL.nil ?_
  refine WE.more rfl ?_
  refine L.assign rfl ?_
  refine WL.nil ?_
  refine WE.nil ?_
  refine X.thenN ?_
  refine WP.ret ?_
  refine X.ret rfl (Res.one rfl rfl) ?_
  refine ⟨_, rfl, _, ⟨b1, rfl, rfl⟩, Ent.field (p := true) hk⟩

set_option maxRecDepth 10000 in
theorem field_New_bits (W H : Nat) (hW0 : 0 < W) (hH0 : 0 < H) (hW : W ≤ 65536) (hH : H ≤ 65536) (hWH : (W : Int) * H ≤ 1048576) : FT Pg 6 [.int .i64 (W : Int), .int .i64 (H : Int), .int .i64 2, .bool true] k h0 [] (Ret fun v τ => ∃ c : Nat, v = .tuple #[.pointer (some ⟨c, 0, none⟩), .int .i64 0] ∧ τ = [fieldHP c true W H 2 (fun _ _ => 0)]) := by
  refine FT.tight ?_
  have hk : FOk true W H 2 (fun _ _ => 0) := ⟨hW0, hW, hH0, hH, by omega, by omega, fun _ => rfl, fun _ _ => by omega⟩
  have hm : 0 ≤ (W : Int) * H := Int.mul_nonneg (by omega) (by omega)
  refine FT.of_wp (n := 56) Try.func6 rfl rfl rfl ?_
  refine WP.regs ?_
  refine L.assign rfl ?_
  refine L.assign rfl ?_
  refine WL.nil ?_
  refine WP.seq ?_
  refine WP.block ?_
  refine WP.regs ?_
  refine L.move rfl ?_
  refine L.lssD rfl rfl (fun hT => absurd hT (by omega)) (fun h13 => ?_)
  refine L.move rfl ?_
  refine L.move rfl ?_
  refine L.gtrD rfl rfl (fun hT => absurd hT (by omega)) (fun h16 => ?_)
  refine L.pickF rfl rfl ?_
  refine L.move rfl ?_
  refine L.move rfl ?_
  refine L.lssD rfl rfl (fun hT => absurd hT (by omega)) (fun h20 => ?_)
  refine L.pickF rfl rfl ?_
  refine L.move rfl ?_
  refine L.move rfl ?_
  refine L.gtrD rfl rfl (fun hT => absurd hT (by omega)) (fun h24 => ?_)
  refine L.pickF rfl rfl ?_
  refine L.move rfl ?_
  refine L.move rfl ?_
  refine L.lssD rfl rfl (fun hT => absurd hT (by omega)) (fun h28 => ?_)
  refine L.pickF rfl rfl ?_
  refine L.move rfl ?_
  refine L.move rfl ?_
  refine L.gtr rfl rfl ?_
  refine L.pickF rfl rfl ?_
  refine L.assign rfl ?_
  refine WL.nil ?_
  refine WP.condD rfl (fun hT => absurd hT (by omega)) (fun h11 => ?_)
  refine WP.regs ?_
  refine L.move rfl ?_
  refine L.move rfl ?_
  refine L.move rfl ?_
  refine L.gtr rfl rfl ?_
  refine L.pickT rfl rfl ?_
  refine L.assign rfl ?_
  refine WL.nil ?_
  refine WP.condD rfl (fun hT => absurd hT (by omega)) (fun h34 => ?_)
  refine WP.regs ?_
  refine L.move rfl ?_
  refine L.move rfl ?_
  refine L.mul' rfl rfl (by omega) ?_
  refine L.gtr rfl rfl ?_
  refine L.assign rfl ?_
  refine WL.nil ?_
  refine WP.condD rfl (fun hT => absurd hT (by omega)) (fun h40 => ?_)
  refine WP.skip ?_
  refine X.blockN ?_
  refine X.thenN ?_
  refine WP.regs ?_
  refine L.move rfl ?_
  refine L.move rfl ?_
  refine L.move rfl ?_
  refine L.build (cs := [_, _, _]) T41.b T41.z rfl rfl ?_
  refine L.alloc T41.z ?_; intro b1
  refine L.storeN T41.ag rfl rfl rfl (Wrs.all 0 rfl rfl (by simp [Value.oneCell'])) ?_
  refine WL.nil ?_
  refine WP.seq ?_
  refine WP.rege [(0, true), (1, true), (2, true), (3, true), (4, false), (5, true), (6, false), (7, false), (8, false)] 6 rfl (by kernel_rfl) (PInv.then PInv.ret) rfl ?_
  refine WE.take rfl (V.loadN T41.ag rfl rfl (Rds.all 0 rfl)) ?_
  refine WE.take rfl (V.move rfl) ?_
  refine WE.take rfl (V.loadN T41.ag rfl rfl (Rds.all 0 rfl)) ?_
  refine WE.take rfl (V.move rfl) ?_
  refine WE.one rfl ?_
  refine WL.call rfl rfl F14.fn rfl (FT.make fun g gS dj => fresh_bits W H 2 hW hH) ?_; rintro v2 _ ⟨_, rfl, rfl⟩
  refine WL.fact (φ := ∃ rv, v2 = .iface 72 rv) (fun _ _ _ s => by obtain ⟨g, i⟩ := s.inn 0 rfl; exact In.store (p := true) i) fun ⟨rv2, e⟩ => ?_
  subst e
  refine WL.nil ⟨Ent.left [_] _, ?_⟩
  refine WE.take rfl (V.build (cs := [_, _, _, _, _]) T46.b T46.z rfl rfl) ?_
  refine WE.last rfl ?_
  refine L.box rfl rfl ?_; intro b2
  refine WL.nil ?_
  refine WE.more rfl ?_
  refine L.assign rfl ?_
  refine WL.nil ?_
  refine WE.more rfl ?_
  refine L.assign rfl ?_
  refine WL.nil ?_
  refine WE.nil ?_
  refine X.thenN ?_
  refine WP.ret ?_
  refine X.ret rfl (Res.two rfl rfl rfl) ?_
  refine ⟨_, rfl, _, ⟨b2, rfl, rfl⟩, (Ent.field (p := true) hk).trans (Ent.right [_] _)⟩

set_option maxRecDepth 10000 in
theorem field_Get_bytes {b : Nat} {W H S : Nat} {F : Nat → Nat → Nat} (x y : Nat) (hx : x < W) (hy : y < H) (hin : In (fieldHP b false W H S F) h0) : FT Pg 22 [.pointer (some ⟨b, 0, none⟩), .int .i64 (x : Int), .int .i64 (y : Int)] k h0 [] (Is (.tuple #[.int .u8 (F x y : Nat), .int .i64 0])) := by
  obtain ⟨hk, rv, hb, hs⟩ := hin.field
  have hW := hk.w; have hH := hk.h; have hW0 := hk.w0; have hH0 := hk.h0
  have hs : In (bytesHP W H F (.iface 80 rv)) h0 := hs
  change h0 b = some (.cells [.int .i64 (W : Int), .int .i64 (H : Int), .int .i64 (S : Int), .bool false, .iface 80 rv].toArray 46) at hb
  refine FT.of_wp (n := 25) Try.func22 rfl rfl rfl ?_
  refine WP.regs ?_
  refine L.assign rfl ?_
  refine L.assign rfl ?_
  refine WL.nil ?_
  refine WP.seq ?_
  refine WP.regs ?_
  refine L.move rfl ?_
  refine WL.callV rfl rfl F15.fn rfl (fun g gS dj => field_none (Hp.le_un_left _ _ _ _ hb)) ?_   -- (*vivarium/field.Field).none slot 9
  refine WL.nil ?_
  refine WP.condF rfl ?_
  refine WP.skip ?_
  refine X.thenN ?_
  refine WP.seq ?_
  refine WP.regs ?_
  refine L.move rfl ?_
  refine L.nilCheck rfl ?_
  refine L.fieldAddr (o' := 0) T46.f0 rfl rfl ?_
  refine L.loadN T41.ag rfl rfl (Rds.of (vs := [.int .i64 (W : Int), .int .i64 (H : Int), .int .i64 (S : Int)]) hb rfl) ?_
  refine L.move rfl ?_
  refine L.move rfl ?_
  refine WL.callV rfl rfl F16.fn rfl (fun g gS dj => shape_has W H S x y hx hy) ?_   -- (vivarium/field.shape).has slot 16
  refine L.not rfl ?_
  refine WL.nil ?_
  refine WP.condF rfl ?_
  refine WP.skip ?_
  refine X.thenN ?_
  refine WP.regs ?_
  refine L.move rfl ?_
  refine L.nilCheck rfl ?_
  refine L.fieldAddr (o' := 4) T46.f2 rfl rfl ?_
  refine L.load T43.sc rfl (Rd.of hb rfl) ?_
  refine L.move rfl ?_
  refine L.move rfl ?_
  refine WL.invV rfl rfl rfl (M82_get _) F82.fn rfl (fun g gS dj => bytes_get W H F x y hx hy hW hH rv (hs.mono (Hp.le_un_left _ _))) ?_
  refine L.assign rfl ?_
  refine L.assign rfl ?_
  refine WL.nil ?_
  refine WP.ret ?_
  refine X.ret rfl (Res.two rfl rfl rfl) ?_
  exact rfl

set_option maxRecDepth 10000 in
theorem field_Set_bytes {b : Nat} {W H S : Nat} {F : Nat → Nat → Nat} (x y s : Nat) (hx : x < W) (hy : y < H) (hsS : s < S) : FT Pg 7 [.pointer (some ⟨b, 0, none⟩), .int .i64 (x : Int), .int .i64 (y : Int), .int .u8 (s : Int)] k h0 [fieldHP b false W H S F] (Ret fun v τ => v = .int .i64 0 ∧ τ = [fieldHP b false W H S (updF F x y s)]) := by
  refine FT.tight ?_
  refine FT.field fun rv hk => ?_
  have hW := hk.w; have hH := hk.h; have hS := hk.s
  have hk' : FOk false W H S (updF F x y s) := ⟨hk.w0, hk.w, hk.h0, hk.h, hk.s0, hk.s, hk.p, fun u v => by have := hk.F u v; unfold updF; split <;> assumption⟩
  refine FT.of_wp (n := 37) Try.func7 rfl rfl rfl ?_
  refine WP.regs ?_
  refine L.assign rfl ?_
  refine WL.nil ?_
  refine WP.seq ?_
  refine WP.block ?_
  refine WP.regs ?_
  refine L.move rfl ?_
  refine WL.callV rfl rfl F15.fn rfl (fun g gS dj => field_none (tt := 80) (rv := rv) (gS.at' 0 rfl dj)) ?_   -- (*vivarium/field.Field).none slot 11
  refine L.assign rfl ?_
  refine WL.nil ?_
  refine WP.condF rfl ?_
  refine WP.regs ?_
  refine L.move rfl ?_
  refine L.nilCheck rfl ?_
  refine L.fieldAddr (o' := 0) T46.f0 rfl rfl ?_
  refine L.loadN T41.ag rfl rfl (vs := [.int .i64 (W : Int), .int .i64 (H : Int), .int .i64 (S : Int)]) (Rds.own 0 rfl rfl) ?_
  refine L.move rfl ?_
  refine L.move rfl ?_
  refine WL.callV rfl rfl F16.fn rfl (fun g gS dj => shape_has W H S x y hx hy) ?_   -- (vivarium/field.shape).has slot 19
  refine L.not rfl ?_
  refine L.assign rfl ?_
  refine WL.nil ?_
  refine WP.condF rfl ?_
  refine WP.regs ?_
  refine L.move rfl ?_
  refine L.nilCheck rfl ?_
  refine L.fieldAddr (o' := 0) T46.f0 rfl rfl ?_
  refine L.loadN T41.ag rfl rfl (vs := [.int .i64 (W : Int), .int .i64 (H : Int), .int .i64 (S : Int)]) (Rds.own 0 rfl rfl) ?_
  refine L.move rfl ?_
  refine WL.callV rfl rfl F17.fn rfl (fun g gS dj => shape_knows W H S s hsS hS) ?_   -- (vivarium/field.shape).knows slot 27
  refine L.not rfl ?_
  refine L.assign rfl ?_
  refine WL.nil ?_
  refine WP.condF rfl ?_
  refine WP.skip ?_
  refine X.blockN ?_
  refine X.thenN ?_
  refine WP.regs ?_
  refine L.move rfl ?_
  refine L.nilCheck rfl ?_
  refine L.fieldAddr (o' := 4) T46.f2 rfl rfl ?_
  refine L.load T43.sc rfl (v := .iface 80 rv) (Rd.own 0 rfl rfl) ?_
  refine L.move rfl ?_
  refine L.move rfl ?_
  refine L.move rfl ?_
  refine WL.inv rfl rfl rfl (M83_set _) F83.fn rfl (FT.part [bytesHP W H F (.iface 80 rv)] [cl b (fieldC false W H S (.iface 80 rv)) 46] (Ent.perm (List.Perm.swap _ _ _)) fun g gS dj => bytes_set W H F x y hx hy hW hH s rv) ?_; rintro _ _ ⟨_, rfl, rfl⟩
  refine WL.nil ?_
  refine WP.regs ?_
  refine L.assign rfl ?_
  refine WL.nil ?_
  refine WP.ret ?_
  refine X.ret rfl (Res.one rfl rfl) ?_
  refine ⟨_, rfl, _, ⟨rfl, rfl⟩, (Ent.perm (List.Perm.swap _ _ _)).trans (Ent.field (p := false) hk')⟩

set_option maxRecDepth 10000 in
theorem field_Clone_bytes {b : Nat} {W H S : Nat} {F : Nat → Nat → Nat} (hin : In (fieldHP b false W H S F) h0) : FT Pg 19 [.pointer (some ⟨b, 0, none⟩)] k h0 [] (Ret fun v τ => ∃ c : Nat, v = .pointer (some ⟨c, 0, none⟩) ∧ τ = [fieldHP c false W H S F]) := by
  refine FT.tight ?_
  obtain ⟨hk, rv, hb, hs⟩ := hin.field
  have hW := hk.w; have hH := hk.h; have hW0 := hk.w0; have hH0 := hk.h0
  have hs : In (bytesHP W H F (.iface 80 rv)) h0 := hs
  change h0 b = some (.cells [.int .i64 (W : Int), .int .i64 (H : Int), .int .i64 (S : Int), .bool false, .iface 80 rv].toArray 46) at hb
  refine FT.of_wp (n := 20) Try.func19 rfl rfl rfl ?_
  refine WP.regs ?_
  refine L.assign rfl ?_
  refine WL.nil ?_
  refine WP.seq ?_
  refine WP.regs ?_
  refine L.move rfl ?_
  refine WL.callV rfl rfl F15.fn rfl (fun g gS dj => field_none (Hp.le_un_left _ _ _ _ hb)) ?_   -- (*vivarium/field.Field).none slot 4
  refine WL.nil ?_
  refine WP.condF rfl ?_
  refine WP.skip ?_
  refine X.thenN ?_
  refine WP.seq ?_
  refine WP.rege [(0, true), (1, true), (2, true), (3, true), (4, true), (5, true), (6, true), (7, true), (8, true), (9, true), (10, true), (11, true), (12, false), (13, true), (14, false), (15, false)] 14 rfl (by kernel_rfl) (PInv.then PInv.ret) rfl ?_
  refine WE.take rfl (V.move rfl) ?_
  refine WE.take rfl (V.nilCheck rfl) ?_
  refine WE.take rfl (V.fieldAddr (o' := 0) T46.f0 rfl rfl) ?_
  refine WE.take rfl (V.loadN T41.ag rfl rfl (Rds.of (vs := [.int .i64 (W : Int), .int .i64 (H : Int), .int .i64 (S : Int)]) hb rfl)) ?_
  refine WE.take rfl (V.move rfl) ?_
  refine WE.take rfl (V.nilCheck rfl) ?_
  refine WE.take rfl (V.fieldAddr (o' := 3) T46.f1 rfl rfl) ?_
  refine WE.take rfl (V.load T4.sc rfl (Rd.of hb rfl)) ?_
  refine WE.take rfl (V.move rfl) ?_
  refine WE.take rfl (V.nilCheck rfl) ?_
  refine WE.take rfl (V.fieldAddr (o' := 4) T46.f2 rfl rfl) ?_
  refine WE.take rfl (V.load T43.sc rfl (Rd.of hb rfl)) ?_
  refine WE.one rfl ?_
  refine WL.inv rfl rfl rfl (M81_copied _) F81.fn rfl (FT.make fun g gS dj => bytes_copied W H F hW0 hH0 hW hH rv (hs.mono (Hp.le_un_left _ _))) ?_; rintro v2 _ ⟨_, rfl, rfl⟩
  refine WL.fact (φ := ∃ rv, v2 = .iface 80 rv) (fun _ _ _ s => by obtain ⟨g, i⟩ := s.inn 0 rfl; exact In.store (p := false) i) fun ⟨rv2, e⟩ => ?_
  subst e
  refine WL.nil ⟨Ent.left [_] _, ?_⟩
  refine WE.take rfl (V.build (cs := [_, _, _, _, _]) T46.b T46.z rfl rfl) ?_
  refine WE.last rfl ?_
  refine L.box rfl rfl ?_; intro b1
  refine WL.nil ?_
  refine WE.more rfl ?_
  refine L.assign rfl ?_
  refine WL.nil ?_
  refine WE.nil ?_
  refine X.thenN ?_
  refine WP.ret ?_
  refine X.ret rfl (Res.one rfl rfl) ?_
  refine ⟨_, rfl, _, ⟨b1, rfl, rfl⟩, Ent.field (p := false) hk⟩

set_option maxRecDepth 10000 in
theorem field_New_bytes (W H : Nat) (hW0 : 0 < W) (hH0 : 0 < H) (hW : W ≤ 65536) (hH : H ≤ 65536) (hWH : (W : Int) * H ≤ 1048576) : FT Pg 6 [.int .i64 (W : Int), .int .i64 (H : Int), .int .i64 2, .bool false] k h0 [] (Ret fun v τ => ∃ c : Nat, v = .tuple #[.pointer (some ⟨c, 0, none⟩), .int .i64 0] ∧ τ = [fieldHP c false W H 2 (fun _ _ => 0)]) := by
  refine FT.tight ?_
  have hk : FOk false W H 2 (fun _ _ => 0) := ⟨hW0, hW, hH0, hH, by omega, by omega, fun _ => rfl, fun _ _ => by omega⟩
  have hm : 0 ≤ (W : Int) * H := Int.mul_nonneg (by omega) (by omega)
  refine FT.of_wp (n := 56) Try.func6 rfl rfl rfl ?_
  refine WP.regs ?_
  refine L.assign rfl ?_
  refine L.assign rfl ?_
  refine WL.nil ?_
  refine WP.seq ?_
  refine WP.block ?_
  refine WP.regs ?_
  refine L.move rfl ?_
  refine L.lssD rfl rfl (fun hT => absurd hT (by omega)) (fun h13 => ?_)
  refine L.move rfl ?_
  refine L.move rfl ?_
  refine L.gtrD rfl rfl (fun hT => absurd hT (by omega)) (fun h16 => ?_)
  refine L.pickF rfl rfl ?_
  refine L.move rfl ?_
  refine L.move rfl ?_
  refine L.lssD rfl rfl (fun hT => absurd hT (by omega)) (fun h20 => ?_)
  refine L.pickF rfl rfl ?_
  refine L.move rfl ?_
  refine L.move rfl ?_
  refine L.gtrD rfl rfl (fun hT => absurd hT (by omega)) (fun h24 => ?_)
  refine L.pickF rfl rfl ?_
  refine L.move rfl ?_
  refine L.move rfl ?_
  refine L.lssD rfl rfl (fun hT => absurd hT (by omega)) (fun h28 => ?_)
  refine L.pickF rfl rfl ?_
  refine L.move rfl ?_
  refine L.move rfl ?_
  refine L.gtr rfl rfl ?_
  refine L.pickF rfl rfl ?_
  refine L.assign rfl ?_
  refine WL.nil ?_
  refine WP.condD rfl (fun hT => absurd hT (by omega)) (fun h11 => ?_)
  refine WP.regs ?_
  refine L.move rfl ?_
  refine L.move rfl ?_
  iterate 2 refine L.skip ?_
  refine L.pickF rfl rfl ?_
  refine L.assign rfl ?_
  refine WL.nil ?_
  refine WP.condF rfl ?_
  refine WP.regs ?_
  refine L.move rfl ?_
  refine L.move rfl ?_
  refine L.mul' rfl rfl (by omega) ?_
  refine L.gtr rfl rfl ?_
  refine L.assign rfl ?_
  refine WL.nil ?_
  refine WP.condD rfl (fun hT => absurd hT (by omega)) (fun h40 => ?_)
  refine WP.skip ?_
  refine X.blockN ?_
  refine X.thenN ?_
  refine WP.regs ?_
  refine L.move rfl ?_
  refine L.move rfl ?_
  refine L.move rfl ?_
  refine L.build (cs := [_, _, _]) T41.b T41.z rfl rfl ?_
  refine L.alloc T41.z ?_; intro b1
  refine L.storeN T41.ag rfl rfl rfl (Wrs.all 0 rfl rfl (by simp [Value.oneCell'])) ?_
  refine WL.nil ?_
  refine WP.seq ?_
  refine WP.rege [(0, true), (1, true), (2, true), (3, true), (4, false), (5, true), (6, false), (7, false), (8, false)] 6 rfl (by kernel_rfl) (PInv.then PInv.ret) rfl ?_
  refine WE.take rfl (V.loadN T41.ag rfl rfl (Rds.all 0 rfl)) ?_
  refine WE.take rfl (V.move rfl) ?_
  refine WE.take rfl (V.loadN T41.ag rfl rfl (Rds.all 0 rfl)) ?_
  refine WE.take rfl (V.move rfl) ?_
  refine WE.one rfl ?_
  refine WL.call rfl rfl F14.fn rfl (FT.make fun g gS dj => fresh_bytes W H 2 hW hH) ?_; rintro v2 _ ⟨_, rfl, rfl⟩
  refine WL.fact (φ := ∃ rv, v2 = .iface 80 rv) (fun _ _ _ s => by obtain ⟨g, i⟩ := s.inn 0 rfl; exact In.store (p := false) i) fun ⟨rv2, e⟩ => ?_
  subst e
  refine WL.nil ⟨Ent.left [_] _, ?_⟩
  refine WE.take rfl (V.build (cs := [_, _, _, _, _]) T46.b T46.z rfl rfl) ?_
  refine WE.last rfl ?_
  refine L.box rfl rfl ?_; intro b2
  refine WL.nil ?_
  refine WE.more rfl ?_
  refine L.assign rfl ?_
  refine WL.nil ?_
  refine WE.more rfl ?_
  refine L.assign rfl ?_
  refine WL.nil ?_
  refine WE.nil ?_
  refine X.thenN ?_
  refine WP.ret ?_
  refine X.ret rfl (Res.two rfl rfl rfl) ?_
  refine ⟨_, rfl, _, ⟨b2, rfl, rfl⟩, (Ent.field (p := false) hk).trans (Ent.right [_] _)⟩

end

end Go.Eng
