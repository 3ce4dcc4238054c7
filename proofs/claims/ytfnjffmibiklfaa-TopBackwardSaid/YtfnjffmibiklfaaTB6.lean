/- Walks of the seat's functions over those rules, and plain laws of what they compute. No conditions beyond those in each theorem. -/
import Derived.Test.YtfnjffmibiklfaaTB5
namespace Go.Eng
open Go.RowKit Go.Proofs
set_option linter.unusedSimpArgs false
set_option linter.unusedVariables false

def popc (n : Nat) : Nat := n % 2 + n / 2 % 2 + n / 4 % 2 + n / 8 % 2
def oc64 (x : Int) : Int :=
  let x := IntKind.u64.wrap (bits .and .u64 (x / 2 ^ min (1 : Int).toNat IntKind.u64.bits) 6148914691236517205 + bits .and .u64 x 6148914691236517205)
  let x := IntKind.u64.wrap (bits .and .u64 (x / 2 ^ min (2 : Int).toNat IntKind.u64.bits) 3689348814741910323 + bits .and .u64 x 3689348814741910323)
  let x := bits .and .u64 (IntKind.u64.wrap (x / 2 ^ min (4 : Int).toNat IntKind.u64.bits + x)) 1085102592571150095
  let x := IntKind.u64.wrap (x + x / 2 ^ min (8 : Int).toNat IntKind.u64.bits)
  let x := IntKind.u64.wrap (x + x / 2 ^ min (16 : Int).toNat IntKind.u64.bits)
  let x := IntKind.u64.wrap (x + x / 2 ^ min (32 : Int).toNat IntKind.u64.bits)
  bits .and .i64 (IntKind.i64.wrap x) 127
def countsB (bs : List Int) : Bool := (List.range 16).all fun j => popc j == popc (bs.getD j 0).toNat
theorem countsB_iff (bs : List Int) : countsB bs = true ↔ ∀ j, j < 16 → popc j = popc (bs.getD j 0).toNat := by simp [countsB]
theorem oc64_small : ∀ n : Nat, n < 16 → oc64 (n : Int) = (popc n : Nat) := by decide +kernel
section
variable {k : World} {h0 : Hp}

set_option maxRecDepth 10000 in
theorem bits_OnesCount64 (x : Int) : FT Pg 35 [.int .u64 x] k h0 [] (Is (.int .i64 (oc64 x))) := by
  refine FT.of_wp (n := 35) Try.func35 rfl rfl rfl ?_
  refine WP.regs ?_
  refine L.assign rfl ?_
  refine WL.nil ?_
  refine WP.regs ?_
  refine L.move rfl ?_
  refine L.shr rfl rfl (by decide) ?_
  refine L.and rfl rfl ?_
  refine L.move rfl ?_
  refine L.and rfl rfl ?_
  refine L.add rfl rfl ?_
  refine L.assign rfl ?_
  refine WL.nil ?_
  refine WP.regs ?_
  refine L.move rfl ?_
  refine L.shr rfl rfl (by decide) ?_
  refine L.and rfl rfl ?_
  refine L.move rfl ?_
  refine L.and rfl rfl ?_
  refine L.add rfl rfl ?_
  refine L.assign rfl ?_
  refine WL.nil ?_
  refine WP.regs ?_
  refine L.move rfl ?_
  refine L.shr rfl rfl (by decide) ?_
  refine L.move rfl ?_
  refine L.add rfl rfl ?_
  refine L.and rfl rfl ?_
  refine L.assign rfl ?_
  refine WL.nil ?_
  refine WP.regs ?_
  refine L.move rfl ?_
  refine L.move rfl ?_
  refine L.shr rfl rfl (by decide) ?_
  refine L.add rfl rfl ?_
  refine L.assign rfl ?_
  refine WL.nil ?_
  refine WP.regs ?_
  refine L.move rfl ?_
  refine L.move rfl ?_
  refine L.shr rfl rfl (by decide) ?_
  refine L.add rfl rfl ?_
  refine L.assign rfl ?_
  refine WL.nil ?_
  refine WP.regs ?_
  refine L.move rfl ?_
  refine L.move rfl ?_
  refine L.shr rfl rfl (by decide) ?_
  refine L.add rfl rfl ?_
  refine L.assign rfl ?_
  refine WL.nil ?_
  refine WP.regs ?_
  refine L.move rfl ?_
  refine L.convInt T88.u T3.u rfl ?_
  refine L.and rfl rfl ?_
  refine L.assign rfl ?_
  refine WL.nil ?_
  refine WP.ret ?_
  refine X.ret rfl (Res.one rfl rfl) ?_
  exact rfl

set_option maxRecDepth 10000 in
theorem bits_OnesCount (n : Nat) (hn : n < 16) : FT Pg 23 [.int .u64 (n : Int)] k h0 [] (Is (.int .i64 (popc n : Nat))) := by
  refine FT.of_wp (n := 8) Try.func23 rfl rfl rfl ?_
  refine WP.regs ?_
  refine L.assign rfl ?_
  refine WL.nil ?_
  refine WP.seq ?_
  refine WP.condF rfl ?_
  refine WP.skip ?_
  refine X.thenN ?_
  refine WP.regs ?_
  refine L.move rfl ?_
  refine WL.callV rfl rfl F35.fn rfl (fun g gS dj => bits_OnesCount64 _) ?_   -- math/bits.OnesCount64 slot 7
  refine L.assign rfl ?_
  refine WL.nil ?_
  refine WP.ret ?_
  refine X.ret rfl (Res.one rfl rfl) ?_
  show _ = _
  rw [oc64_small n hn]

set_option maxRecDepth 10000 in
theorem bits_OnesCount8 (n : Nat) (hn : n < 16) : FT Pg 24 [.int .u8 (n : Int)] k h0 [] (Is (.int .i64 (popc n : Nat))) := by
  have hp : popc n ≤ 4 := by unfold popc; omega
  refine FT.of_wp (n := 6) Try.func24 rfl rfl rfl ?_
  refine WP.regs ?_
  refine L.assign rfl ?_
  refine WL.nil ?_
  refine WP.regs ?_
  refine L.move rfl ?_
  refine L.indexStr (b := (popc n).toUInt8) T9.u rfl rfl (by omega) (by rw [Int.toNat_natCast]; clear hp; revert n; decide +kernel) ?_
  refine L.convInt T5.u T3.u rfl ?_
  refine L.assign rfl ?_
  refine WL.nil ?_
  refine WP.ret ?_
  refine X.ret rfl (Res.one rfl rfl) ?_
  show _ = _
  have : (popc n).toUInt8.toNat = popc n := by simp; omega
  rw [this, wrap_i64 (by omega)]

set_option maxRecDepth 10000 in
theorem block_Counts (bs : List Int) (hb : Blk bs) : FT Pg 9 [.agg (u8C bs).toArray] k h0 [] (Is (.tuple #[.bool (countsB bs), .int .i64 0])) := by
  refine FT.of_wp (n := 24) Try.func9 rfl rfl rfl ?_
  refine WP.regs ?_
  refine L.box rfl rfl ?_; intro b1
  refine L.assign rfl ?_
  refine L.assign rfl ?_
  refine WL.nil ?_
  refine WP.seq ?_
  refine WP.regs ?_
  refine L.loadN T22.ag rfl (by simp [hb.len]) (Rds.all 0 rfl) ?_
  refine WL.callV rfl rfl F12.fn rfl (fun g gS dj => block_Check bs hb) ?_   -- vivarium/block.Check slot 8
  refine L.assign rfl ?_
  refine WL.nil ?_
  refine WP.regs ?_
  refine L.move rfl ?_
  refine L.neq rfl rfl ?_
  refine WL.nil ?_
  refine WP.condD rfl (fun hT => absurd hT (by omega)) (fun h10 => ?_)
  refine WP.skip ?_
  refine X.thenN ?_
  refine WP.seq ?_
  refine WP.regs ?_
  refine L.loadN T22.ag rfl (by simp [hb.len]) (Rds.all 0 rfl) ?_
  refine L.move rfl ?_
  refine WL.nil ?_
  refine WP.block ?_
  refine WP.loop (X := Nat) (fun i => ⟨24, [], [(12, .agg (u8C bs).toArray), (13, .int .i64 (i : Int))]⟩) (fun i => [cl b1 (u8C bs) 22]) (fun i => i ≤ 16 ∧ ∀ j, j < i → popc j = popc (bs.getD j 0).toNat) (fun i => 16 - i) 0 (⟨by omega, by omega⟩) (Env.Sub.cons rfl rfl (Env.Sub.cons rfl rfl Env.Sub.nil)) (Ent.refl _) ?_
  rintro i ⟨hi, hall⟩
  have hbi := hb.bd i
  refine WP.regs ?_
  refine L.lss rfl rfl ?_
  refine WL.nil ?_
  refine WP.seq ?_
  refine WP.condD rfl (fun h14 => ?_) (fun h14 => ?_)
  · -- then
    refine WP.skip ?_
    refine X.thenN ?_
    refine WP.seq ?_
    refine WP.block ?_
    refine WP.regs ?_
    refine L.move rfl ?_
    refine L.index (v := .int .u8 ((bs.getD i 0).toNat : Int)) T22.ar rfl rfl (by omega) (by rw [Int.toNat_of_nonneg hbi.1]; exact u8_ix (by rw [hb.len]; omega)) ?_
    refine L.assign rfl ?_
    refine L.assign rfl ?_
    refine WL.nil ?_
    refine WP.regs ?_
    refine L.move rfl ?_
    refine L.convInt T3.u T63.u rfl ?_
    rw [IntWalk.u64_in _ (by omega)]
    refine WL.callV rfl rfl F23.fn rfl (fun g gS dj => bits_OnesCount i (by omega)) ?_   -- math/bits.OnesCount slot 19
    refine L.move rfl ?_
    refine WL.callV rfl rfl F24.fn rfl (fun g gS dj => bits_OnesCount8 (bs.getD i 0).toNat (by omega)) ?_   -- math/bits.OnesCount8 slot 21
    refine L.neq rfl rfl ?_
    refine WL.nil ?_
    refine WP.condD rfl (fun h22 => ?_) (fun h22 => ?_)
    · -- then
      refine WP.regs ?_
      refine L.assign rfl ?_
      refine L.assign rfl ?_
      refine WL.nil ?_
      refine WP.ret ?_
      refine X.blockR (X.thenR (X.thenR (X.blockR (X.thenR ?_))))
      refine X.ret rfl (Res.two rfl rfl rfl) ?_
      show _ = _
      rw [show countsB bs = false from Bool.eq_false_iff.2 fun h => h22 (by have := (countsB_iff bs).1 h i (by omega); omega)]
    · -- else
      refine WP.skip ?_
      refine X.blockN ?_
      refine X.thenN ?_
      refine WP.region ?_
      refine L.add' rfl rfl (by omega) ?_
      refine L.move rfl ?_
      refine WL.nil ?_
      refine X.thenN ⟨i + 1, ⟨by omega, fun j hj => by rcases Nat.lt_or_ge j i with e | e; exact hall j e; obtain rfl : j = i := (by omega); omega⟩, by omega, (Env.Sub.cons rfl rfl (Env.Sub.cons rfl rfl Env.Sub.nil)), Ent.refl _⟩
  · -- else
    refine WP.exit ?_
    refine X.thenE (X.thenE (X.blockE ?_))
    refine X.thenN ?_
    refine WP.regs ?_
    refine L.assign rfl ?_
    refine L.assign rfl ?_
    refine WL.nil ?_
    refine WP.ret ?_
    refine X.ret rfl (Res.two rfl rfl rfl) ?_
    show _ = _
    rw [(countsB_iff bs).2 fun j hj => hall j (by omega)]

end

end Go.Eng
