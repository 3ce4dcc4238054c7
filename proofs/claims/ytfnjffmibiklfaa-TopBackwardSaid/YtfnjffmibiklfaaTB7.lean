/- Walks of the seat's functions over those rules, and plain laws of what they compute. No conditions beyond those in each theorem. -/
import Derived.Test.YtfnjffmibiklfaaTB6
namespace Go.Eng
open Go.RowKit Go.Proofs
set_option linter.unusedSimpArgs false
set_option linter.unusedVariables false
theorem M82_get (v : Value) (w : World) : (method (Pg.types.size + Made.depth) 80 v "vivarium/field.get").run Pg w = .ok (82, v) w := by kernel_rfl
theorem M83_set (v : Value) (w : World) : (method (Pg.types.size + Made.depth) 80 v "vivarium/field.set").run Pg w = .ok (83, v) w := by kernel_rfl
theorem M81_copied (v : Value) (w : World) : (method (Pg.types.size + Made.depth) 80 v "vivarium/field.copied").run Pg w = .ok (81, v) w := by kernel_rfl
theorem M78_get (v : Value) (w : World) : (method (Pg.types.size + Made.depth) 72 v "vivarium/field.get").run Pg w = .ok (78, v) w := by kernel_rfl
theorem M79_set (v : Value) (w : World) : (method (Pg.types.size + Made.depth) 72 v "vivarium/field.set").run Pg w = .ok (79, v) w := by kernel_rfl
theorem M77_copied (v : Value) (w : World) : (method (Pg.types.size + Made.depth) 72 v "vivarium/field.copied").run Pg w = .ok (77, v) w := by kernel_rfl

/-- A line of bytes. -/
abbrev lineC (F : Nat → Nat → Nat) (W y : Nat) : List Value := (List.range W).map fun x => Value.int .u8 (F x y : Nat)
/-- Rows of bytes. -/
def bytesHP (W H : Nat) (F : Nat → Nat → Nat) (v : Value) : HP :=
  exP fun sl : Value => exP fun r : Nat → Value => andP (v = .iface 80 (.agg #[sl])) (starsP (vec 25 1 sl H ((List.range H).map r) :: (List.range H).map fun y => vec 5 1 (r y) W (lineC F W y)))
/-- A line of words. -/
abbrev wordC (F : Nat → Nat → Nat) (W y : Nat) : List Value := (List.range ((W + 63) / 64)).map fun i => Value.int .u64 (wordOf (fun j => F (64 * i + j) y) 64 : Nat)
abbrev rowC (W : Nat) (r : Nat → Value) (H : Nat) : List Value := (List.range (H * 2)).map fun c => if c % 2 = 0 then Value.int .i64 (W : Int) else r (c / 2)
/-- Rows of bits. -/
def bitsHP (W H : Nat) (F : Nat → Nat → Nat) (v : Value) : HP :=
  exP fun sl : Value => exP fun r : Nat → Value => andP (v = .iface 72 (.agg #[sl]) ∧ (∀ x y, F x y ≤ 1)) (starsP (vec 75 2 sl H (rowC W r H) :: (List.range H).map fun y => vec 88 1 (r y) ((W + 63) / 64) (wordC F W y)))
/-- Cells kept as bits, or as bytes. -/
def storeHP (p : Bool) (W H : Nat) (F : Nat → Nat → Nat) (v : Value) : HP := match p with | true => bitsHP W H F v | false => bytesHP W H F v
/-- A cell made another one. -/
def updF (F : Nat → Nat → Nat) (x y s : Nat) : Nat → Nat → Nat := fun u v => if u = x ∧ v = y then s else F u v

theorem In.bytes {W H : Nat} {F : Nat → Nat → Nat} {v : Value} {h : Hp} (i : In (bytesHP W H F v) h) (hW : 0 < W) (hH : 0 < H) :
    ∃ b cap junk r, v = .iface 80 (.agg #[.slice (some ⟨b, 0, none⟩) H cap]) ∧ h b = some (.cells ((List.range H).map r ++ junk).toArray 25) ∧
      ∀ y, y < H → ∃ b' cap' junk', r y = .slice (some ⟨b', 0, none⟩) W cap' ∧ h b' = some (.cells (lineC F W y ++ junk').toArray 5) := by
  obtain ⟨sl, i⟩ := i.ex; obtain ⟨r, i⟩ := i.ex; obtain ⟨hv, i⟩ := i.and
  obtain ⟨b, cap, junk, rfl, _, _, hb⟩ := (i.stars 0 rfl).vec hH
  refine ⟨b, cap, junk, r, hv, hb, fun y hy => ?_⟩
  obtain ⟨b', cap', junk', e, _, _, hb'⟩ := (i.stars (y + 1) (p := Go.Eng.vec 5 1 (r y) W (lineC F W y)) (by rw [List.getElem?_cons_succ]; exact map_range_at _ hy)).vec hW
  exact ⟨b', cap', junk', e, hb'⟩
theorem In.bits {W H : Nat} {F : Nat → Nat → Nat} {v : Value} {h : Hp} (i : In (bitsHP W H F v) h) (hW : 0 < W) (hH : 0 < H) :
    (∀ x y, F x y ≤ 1) ∧ ∃ b cap junk r, v = .iface 72 (.agg #[.slice (some ⟨b, 0, none⟩) H cap]) ∧ h b = some (.cells (rowC W r H ++ junk).toArray 75) ∧
      ∀ y, y < H → ∃ b' cap' junk', r y = .slice (some ⟨b', 0, none⟩) ((W + 63) / 64) cap' ∧ h b' = some (.cells (wordC F W y ++ junk').toArray 88) := by
  obtain ⟨sl, i⟩ := i.ex; obtain ⟨r, i⟩ := i.ex; obtain ⟨⟨hv, hF⟩, i⟩ := i.and
  obtain ⟨b, cap, junk, rfl, _, _, hb⟩ := (i.stars 0 rfl).vec hH
  refine ⟨hF, b, cap, junk, r, hv, hb, fun y hy => ?_⟩
  obtain ⟨b', cap', junk', e, _, _, hb'⟩ := (i.stars (y + 1) (p := Go.Eng.vec 88 1 (r y) ((W + 63) / 64) (wordC F W y)) (by rw [List.getElem?_cons_succ]; exact map_range_at _ hy)).vec (by omega)
  exact ⟨b', cap', junk', e, hb'⟩
theorem rowC_at {W H c : Nat} {r : Nat → Value} {junk : List Value} (h : c < H * 2) : (rowC W r H ++ junk)[c]? = some (if c % 2 = 0 then Value.int .i64 (W : Int) else r (c / 2)) := map_range_app _ _ h
section
variable {k : World} {h0 : Hp}

set_option maxRecDepth 10000 in
theorem bytes_get (W H : Nat) (F : Nat → Nat → Nat) (x y : Nat) (hx : x < W) (hy : y < H) (hW : W ≤ 65536) (hH : H ≤ 65536) (rv : Value) (hin : In (bytesHP W H F (.iface 80 rv)) h0) : FT Pg 82 [rv, .int .i64 (x : Int), .int .i64 (y : Int)] k h0 [] (Is (.int .u8 (F x y : Nat))) := by
  obtain ⟨b, cap, junk, r, hv, hb, hr⟩ := hin.bytes (by omega) (by omega)
  cases hv
  obtain ⟨b', cap', junk', hry, hb'⟩ := hr y hy
  refine FT.of_wp (n := 15) Try.func82 rfl rfl rfl ?_
  refine WP.regs ?_
  refine L.box rfl rfl ?_; intro b1
  refine L.assign rfl ?_
  refine WL.nil ?_
  refine WP.regs ?_
  refine L.fieldAddr (o' := 0) T80.f0 rfl rfl ?_
  refine L.load T78.sc rfl (Rd.own 0 rfl rfl) ?_
  refine L.move rfl ?_
  refine L.indexS T78.sl rfl rfl (by omega) ?_
  refine L.load T25.sc rfl (v := .slice (some ⟨b', 0, none⟩) W cap') (Rd.of hb (by rw [List.getElem?_toArray, Nat.zero_add, Nat.mul_one, Int.toNat_natCast, ← hry]; exact map_range_app _ _ hy)) ?_
  refine L.move rfl ?_
  refine L.indexS T25.sl rfl rfl (by omega) ?_
  refine L.load T5.sc rfl (v := .int .u8 (F x y : Nat)) (Rd.of hb' (by rw [List.getElem?_toArray, Nat.zero_add, Nat.mul_one, Int.toNat_natCast]; exact map_range_app _ _ hx)) ?_
  refine L.assign rfl ?_
  refine WL.nil ?_
  refine WP.ret ?_
  refine X.ret rfl (Res.one rfl rfl) ?_
  exact rfl

set_option maxRecDepth 10000 in
theorem bits_get (W H : Nat) (F : Nat → Nat → Nat) (x y : Nat) (hx : x < W) (hy : y < H) (hW : W ≤ 65536) (hH : H ≤ 65536) (rv : Value) (hin : In (bitsHP W H F (.iface 72 rv)) h0) : FT Pg 78 [rv, .int .i64 (x : Int), .int .i64 (y : Int)] k h0 [] (Is (.int .u8 (F x y : Nat))) := by
  obtain ⟨hF, b, cap, junk, r, hv, hb, hr⟩ := hin.bits (by omega) (by omega)
  cases hv
  obtain ⟨b', cap', junk', hry, hb'⟩ := hr y hy
  refine FT.of_wp (n := 22) Try.func78 rfl rfl rfl ?_
  refine WP.regs ?_
  refine L.box rfl rfl ?_; intro b1
  refine L.assign rfl ?_
  refine WL.nil ?_
  refine WP.regs ?_
  refine L.fieldAddr (o' := 0) T72.f0 rfl rfl ?_
  refine L.load T70.sc rfl (Rd.own 0 rfl rfl) ?_
  refine L.move rfl ?_
  refine L.indexS T70.sl rfl rfl (by omega) ?_
  refine L.fieldAddr T75.f1 rfl rfl ?_
  refine L.load T73.sc rfl (v := .slice (some ⟨b', 0, none⟩) ((W + 63) / 64) cap') (Rd.of hb (by rw [List.getElem?_toArray, Nat.zero_add, Int.toNat_natCast, rowC_at (by omega), if_neg (by omega), ← hry]; congr 2; omega)) ?_
  refine L.move rfl ?_
  refine L.quo' rfl rfl (by omega) ?_
  refine L.indexS T73.sl rfl rfl (by omega) ?_
  refine L.load T88.sc rfl (v := .int .u64 (wordOf (fun j => F (64 * (x / 64) + j) y) 64 : Nat)) (Rd.of hb' (by rw [List.getElem?_toArray, Nat.zero_add, Nat.mul_one]; exact map_range_app _ _ (by omega))) ?_
  refine L.move rfl ?_
  refine L.rem' rfl rfl (by omega) ?_
  refine L.shr rfl rfl (by omega) ?_
  refine L.and rfl rfl ?_
  refine L.convInt T88.u T5.u rfl ?_
  refine L.assign rfl ?_
  refine WL.nil ?_
  refine WP.ret ?_
  refine X.ret rfl (Res.one rfl rfl) ?_
  show _ = _
  have hFx := hF x y
  have e : ((x : Int) % 64).toNat = x % 64 := by omega
  rw [e, show IntKind.u64.bits = 64 from rfl, word_get (by omega), show 64 * (x / 64) + x % 64 = x by omega, IntWalk.u8_in _ (by omega), Nat.mod_eq_of_lt (by omega)]

end

end Go.Eng
