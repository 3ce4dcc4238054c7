/- Walks of the seat's functions over those rules, and plain laws of what they compute. No conditions beyond those in each theorem. -/
import Derived.Test.YtfnjffmibiklfaaTB13
namespace Go.Eng
open Go.RowKit Go.Proofs
set_option linter.unusedSimpArgs false
set_option linter.unusedVariables false

def rowPop (F : Nat → Nat → Nat) (y : Nat) : Nat → Nat
  | 0 => 0
  | x + 1 => rowPop F y x + if F x y = 0 then 0 else 1
/-- How many cells are not 0. -/
def popF (F : Nat → Nat → Nat) (W : Nat) : Nat → Nat
  | 0 => 0
  | y + 1 => popF F W y + rowPop F y W
theorem wrap_succ (a : Int) : IntKind.i64.wrap (IntKind.i64.wrap a + 1) = IntKind.i64.wrap (a + 1) := by
  rw [IntKind.wrap_i64, IntKind.wrap_i64, IntKind.wrap_i64]; omega
section
variable {k : World} {h0 : Hp}

set_option maxRecDepth 10000 in
theorem field_living {b : Nat} : FT Pg 25 [.pointer (some ⟨b, 0, none⟩)] k h0 [] (Ret fun v τ => ∃ c : Nat, v = .func (.func 36) [].toArray [.pointer (some ⟨c, 0, none⟩)].toArray ∧ τ = [cl c [.pointer (some ⟨b, 0, none⟩)] 30]) := by
  refine FT.of_wp (n := 4) Try.func25 rfl rfl rfl ?_
  refine WP.regs ?_
  refine L.box rfl rfl ?_; intro b1
  refine L.assign rfl ?_
  refine WL.nil ?_
  refine WP.regs ?_
  refine L.mkFunc (vs := [_]) rfl ?_
  refine L.assign rfl ?_
  refine WL.nil ?_
  refine WP.ret ?_
  refine X.ret rfl (Res.one rfl rfl) ?_
  exact ⟨_, rfl, _, rfl, rfl⟩

set_option maxRecDepth 10000 in
theorem field_living1_bits {b c l : Nat} {W H S : Nat} {F : Nat → Nat → Nat} {Z : Nat → List HP} (hin : In (fieldHP b true W H S F) h0) (hbx : h0 c = some (.cells [.pointer (some ⟨b, 0, none⟩)].toArray 30)) (hR : ∀ i vs, (∃ x y s : Int, vs = [Value.agg (ptC x y).toArray, .int .u8 s]) → RT Pg l vs k h0 (Z i) (Ret fun v τ => v = .bool true ∧ τ = Z (i + 1))) : FT Pg 36 [.func (.yield l) #[] #[], .pointer (some ⟨c, 0, none⟩)] k h0 (Z 0) (Ret fun _ τ => τ = Z (popF F W H)) := by
  obtain ⟨hk, rv, hb, hs⟩ := hin.field
  have hs : In (bitsHP W H F (.iface 72 rv)) h0 := hs
  change h0 b = some (.cells [.int .i64 (W : Int), .int .i64 (H : Int), .int .i64 (S : Int), .bool true, .iface 72 rv].toArray 46) at hb
  have hW := hk.w; have hH := hk.h; have hW0 := hk.w0; have hH0 := hk.h0
  refine FT.of_wp (n := 44) Try.func36 rfl rfl rfl ?_
  refine WP.seq ?_
  refine WP.regs ?_
  refine L.load T30.sc rfl (Rd.of hbx rfl) ?_
  refine WL.callV rfl rfl F15.fn rfl (fun g gS dj => field_none (Hp.le_un_left _ _ _ _ hb)) ?_   -- (*vivarium/field.Field).none slot 7
  refine WL.nil ?_
  refine WP.condF rfl ?_
  refine WP.skip ?_
  refine X.thenN ?_
  refine WP.regs ?_
  refine L.load T30.sc rfl (Rd.of hbx rfl) ?_
  refine L.nilCheck rfl ?_
  refine L.fieldAddr (o' := 0) T46.f0 rfl rfl ?_
  refine L.fieldAddr (o' := 1) T41.f1 rfl rfl ?_
  refine L.load T3.sc rfl (Rd.of hb rfl) ?_
  refine L.move rfl ?_
  refine WL.nil ?_
  refine WP.block ?_
  refine WP.loop (X := Nat) (fun y => ⟨44, [], [(0, .func (.yield l) #[] #[]), (1, .pointer (some ⟨c, 0, none⟩)), (12, .int .i64 (H : Int)), (13, .int .i64 (y : Int))]⟩) (fun y => Z (popF F W y)) (fun y => y ≤ H) (fun y => H - y) 0 (Nat.zero_le _) (Env.Sub.cons rfl rfl (Env.Sub.cons rfl rfl (Env.Sub.cons rfl rfl (Env.Sub.cons rfl rfl Env.Sub.nil)))) (Ent.refl _) ?_
  intro y hy
  refine WP.regs ?_
  refine L.lss rfl rfl ?_
  refine WL.nil ?_
  refine WP.seq ?_
  refine WP.condD rfl (fun h14 => ?_) (fun h14 => ?_)
  · -- then
    refine WP.skip ?_
    refine X.thenN ?_
    refine WP.seq ?_
    refine WP.block ?_
    refine WP.regs ?_
    refine L.move rfl ?_
    refine L.assign rfl ?_
    refine WL.nil ?_
    refine WP.regs ?_
    refine L.load T30.sc rfl (Rd.of hbx rfl) ?_
    refine L.nilCheck rfl ?_
    refine L.fieldAddr (o' := 0) T46.f0 rfl rfl ?_
    refine L.fieldAddr (o' := 0) T41.f0 rfl rfl ?_
    refine L.load T3.sc rfl (Rd.of hb rfl) ?_
    refine L.move rfl ?_
    refine WL.nil ?_
    refine WP.block ?_
    refine WP.loop (X := Nat) (fun x => ⟨44, [], [(0, .func (.yield l) #[] #[]), (1, .pointer (some ⟨c, 0, none⟩)), (12, .int .i64 (H : Int)), (13, .int .i64 (y : Int)), (3, .int .i64 (y : Int)), (20, .int .i64 (W : Int)), (21, .int .i64 (x : Int))]⟩) (fun x => Z (popF F W y + rowPop F y x)) (fun x => x ≤ W) (fun x => W - x) 0 (Nat.zero_le _) (Env.Sub.cons rfl rfl (Env.Sub.cons rfl rfl (Env.Sub.cons rfl rfl (Env.Sub.cons rfl rfl (Env.Sub.cons rfl rfl (Env.Sub.cons rfl rfl (Env.Sub.cons rfl rfl Env.Sub.nil))))))) (Ent.refl _) ?_
    intro x hx
    refine WP.regs ?_
    refine L.lss rfl rfl ?_
    refine WL.nil ?_
    refine WP.seq ?_
    refine WP.condD rfl (fun h22 => ?_) (fun h22 => ?_)
    · -- then
      refine WP.skip ?_
      refine X.thenN ?_
      refine WP.seq ?_
      refine WP.block ?_
      refine WP.regs ?_
      refine L.move rfl ?_
      refine L.assign rfl ?_
      refine WL.nil ?_
      refine WP.regs ?_
      refine L.load T30.sc rfl (Rd.of hbx rfl) ?_
      refine L.nilCheck rfl ?_
      refine L.fieldAddr (o' := 4) T46.f2 rfl rfl ?_
      refine L.load T43.sc rfl (Rd.of hb rfl) ?_
      refine L.move rfl ?_
      refine L.move rfl ?_
      refine WL.invV rfl rfl rfl (M78_get _) F78.fn rfl (fun g gS dj => bits_get W H F x y (by omega) (by omega) hW hH rv (hs.mono (Hp.le_un_left _ _))) ?_
      refine L.assign rfl ?_
      refine WL.nil ?_
      refine WP.regsI [0, 1, 2, 3, 4, 5, 6, 7, 8, 9, 10] rfl ?_
      refine WI.val rfl (V.move rfl) ?_
      refine WI.valD rfl (V.neq rfl rfl) (fun h32 => ?_) (fun h32 => ?_)
      · -- way
        iterate 4 refine WI.val rfl (V.move rfl) ?_
        refine WI.val rfl (V.build (cs := [_, _]) T58.b T58.z rfl rfl) ?_
        refine WI.val rfl (V.move rfl) ?_
        refine WI.round rfl rfl rfl (hR _ _ ⟨_, _, _, rfl⟩) ?_; rintro _ _ ⟨rfl, rfl⟩
        refine WI.val rfl (V.not rfl) ?_
        refine WI.val rfl (V.pickT rfl rfl) ?_
        refine WI.nil ?_
        refine WP.condF rfl ?_
        refine WP.skip ?_
        refine X.blockN ?_
        refine X.thenN ?_
        refine WP.region ?_
        refine L.add' rfl rfl (by omega) ?_
        refine L.move rfl ?_
        refine WL.nil ?_
        refine X.thenN ⟨x + 1, by omega, by omega, (Env.Sub.cons rfl rfl (Env.Sub.cons rfl rfl (Env.Sub.cons rfl rfl (Env.Sub.cons rfl rfl (Env.Sub.cons rfl rfl (Env.Sub.cons rfl rfl (Env.Sub.cons rfl rfl Env.Sub.nil))))))), Ent.of_eq (by show _ = Z (_ + rowPop F y (x + 1)); simp only [rowPop]; first | (rw [if_neg (by omega)]; rfl) | (rw [if_pos (by omega)]; rfl))⟩
      · -- way
        refine WI.val rfl (V.move rfl) ?_
        iterate 7 refine WI.skip rfl ?_
        refine WI.val rfl (V.pickF rfl rfl) ?_
        refine WI.nil ?_
        refine WP.condF rfl ?_
        refine WP.skip ?_
        refine X.blockN ?_
        refine X.thenN ?_
        refine WP.region ?_
        refine L.add' rfl rfl (by omega) ?_
        refine L.move rfl ?_
        refine WL.nil ?_
        refine X.thenN ⟨x + 1, by omega, by omega, (Env.Sub.cons rfl rfl (Env.Sub.cons rfl rfl (Env.Sub.cons rfl rfl (Env.Sub.cons rfl rfl (Env.Sub.cons rfl rfl (Env.Sub.cons rfl rfl (Env.Sub.cons rfl rfl Env.Sub.nil))))))), Ent.of_eq (by show _ = Z (_ + rowPop F y (x + 1)); simp only [rowPop]; first | (rw [if_neg (by omega)]; rfl) | (rw [if_pos (by omega)]; rfl))⟩
    · -- else
      refine WP.exit ?_
      refine X.thenE (X.thenE (X.blockE ?_))
      refine X.blockN ?_
      refine X.thenN ?_
      refine WP.region ?_
      refine L.add' rfl rfl (by omega) ?_
      refine L.move rfl ?_
      refine WL.nil ?_
      refine X.thenN ⟨y + 1, by omega, by omega, (Env.Sub.cons rfl rfl (Env.Sub.cons rfl rfl (Env.Sub.cons rfl rfl (Env.Sub.cons rfl rfl Env.Sub.nil)))), Ent.of_eq (by obtain rfl : x = W := (by omega); rfl)⟩
  · -- else
    refine WP.exit ?_
    refine X.thenE (X.thenE (X.blockE ?_))
    refine X.end rfl (Res.none rfl) ?_
    obtain rfl : y = H := by omega
    exact ⟨_, rfl, rfl⟩

set_option maxRecDepth 10000 in
theorem field_Pop_bits {b : Nat} {W H S : Nat} {F : Nat → Nat → Nat} (hin : In (fieldHP b true W H S F) h0) : FT Pg 10 [.pointer (some ⟨b, 0, none⟩)] k h0 [] (Is (.int .i64 (IntKind.i64.wrap (popF F W H : Nat)))) := by
  refine FT.of_wpM (n := 11) Try.func10 rfl rfl rfl ?_
  refine WP.regs ?_
  refine L.assign rfl ?_
  refine WL.nil ?_
  refine WP.regs ?_
  refine L.alloc T3.z ?_; intro b1
  refine L.store T3.sc rfl rfl rfl (Wr.at 0 rfl rfl) ?_
  refine WL.nil ?_
  refine WP.seq ?_
  refine WP.regs ?_
  refine L.move rfl ?_
  refine WL.call rfl rfl F25.fn rfl (FT.make fun g gS dj => field_living) ?_; rintro _ _ ⟨_, ⟨c, rfl, rfl⟩, rfl⟩
  refine WL.nil ?_
  refine WP.block ?_
  refine WP.rangeF (S := fun i => [cl b1 [.int .i64 (IntKind.i64.wrap (i : Nat))] 3]) (N := popF F W H) (A := fun vs => ∃ x y s : Int, vs = [Value.agg (ptC x y).toArray, .int .u8 s]) rfl F36.fn ?_ rfl [cl c [.pointer (some ⟨b, 0, none⟩)] 30] (Ent.perm (List.Perm.swap _ _ _)) ?_ ?_ ?_
  · rintro _ ⟨_, _, _, rfl⟩; rfl
  · intro l g Z gS dj hR
    exact field_living1_bits (hin.mono (Hp.le_un_left _ _)) (gS.at' 0 rfl dj) hR
  · rintro l h i _ ⟨x, y, s, rfl⟩
    refine WPI.block ?_
    refine WPI.region [0, 1, 2] rfl ?_
    refine WI.val rfl (V.load T3.sc rfl (Rd.own 0 rfl rfl)) ?_
    refine WI.val rfl (V.add rfl rfl) ?_
    rw [wrap_succ]
    refine WI.eff rfl (E.store T3.sc rfl rfl rfl (Wr.at 0 rfl rfl)) ?_
    refine WI.nil ?_
    exact ⟨rfl, Ent.refl _⟩
  intro D
  refine X.blockN ?_
  refine X.thenN ?_
  refine WP.regs ?_
  refine L.load T3.sc rfl (Rd.own 1 rfl rfl) ?_
  refine L.assign rfl ?_
  refine WL.nil ?_
  refine WP.ret ?_
  exact ⟨_, _, _, rfl, Ent.refl _, Res.one rfl rfl, rfl⟩
  -- done

set_option maxRecDepth 10000 in
theorem field_living1_bytes {b c l : Nat} {W H S : Nat} {F : Nat → Nat → Nat} {Z : Nat → List HP} (hin : In (fieldHP b false W H S F) h0) (hbx : h0 c = some (.cells [.pointer (some ⟨b, 0, none⟩)].toArray 30)) (hR : ∀ i vs, (∃ x y s : Int, vs = [Value.agg (ptC x y).toArray, .int .u8 s]) → RT Pg l vs k h0 (Z i) (Ret fun v τ => v = .bool true ∧ τ = Z (i + 1))) : FT Pg 36 [.func (.yield l) #[] #[], .pointer (some ⟨c, 0, none⟩)] k h0 (Z 0) (Ret fun _ τ => τ = Z (popF F W H)) := by
  obtain ⟨hk, rv, hb, hs⟩ := hin.field
  have hs : In (bytesHP W H F (.iface 80 rv)) h0 := hs
  change h0 b = some (.cells [.int .i64 (W : Int), .int .i64 (H : Int), .int .i64 (S : Int), .bool false, .iface 80 rv].toArray 46) at hb
  have hW := hk.w; have hH := hk.h; have hW0 := hk.w0; have hH0 := hk.h0
  refine FT.of_wp (n := 44) Try.func36 rfl rfl rfl ?_
  refine WP.seq ?_
  refine WP.regs ?_
  refine L.load T30.sc rfl (Rd.of hbx rfl) ?_
  refine WL.callV rfl rfl F15.fn rfl (fun g gS dj => field_none (Hp.le_un_left _ _ _ _ hb)) ?_   -- (*vivarium/field.Field).none slot 7
  refine WL.nil ?_
  refine WP.condF rfl ?_
  refine WP.skip ?_
  refine X.thenN ?_
  refine WP.regs ?_
  refine L.load T30.sc rfl (Rd.of hbx rfl) ?_
  refine L.nilCheck rfl ?_
  refine L.fieldAddr (o' := 0) T46.f0 rfl rfl ?_
  refine L.fieldAddr (o' := 1) T41.f1 rfl rfl ?_
  refine L.load T3.sc rfl (Rd.of hb rfl) ?_
  refine L.move rfl ?_
  refine WL.nil ?_
  refine WP.block ?_
  refine WP.loop (X := Nat) (fun y => ⟨44, [], [(0, .func (.yield l) #[] #[]), (1, .pointer (some ⟨c, 0, none⟩)), (12, .int .i64 (H : Int)), (13, .int .i64 (y : Int))]⟩) (fun y => Z (popF F W y)) (fun y => y ≤ H) (fun y => H - y) 0 (Nat.zero_le _) (Env.Sub.cons rfl rfl (Env.Sub.cons rfl rfl (Env.Sub.cons rfl rfl (Env.Sub.cons rfl rfl Env.Sub.nil)))) (Ent.refl _) ?_
  intro y hy
  refine WP.regs ?_
  refine L.lss rfl rfl ?_
  refine WL.nil ?_
  refine WP.seq ?_
  refine WP.condD rfl (fun h14 => ?_) (fun h14 => ?_)
  · -- then
    refine WP.skip ?_
    refine X.thenN ?_
    refine WP.seq ?_
    refine WP.block ?_
    refine WP.regs ?_
    refine L.move rfl ?_
    refine L.assign rfl ?_
    refine WL.nil ?_
    refine WP.regs ?_
    refine L.load T30.sc rfl (Rd.of hbx rfl) ?_
    refine L.nilCheck rfl ?_
    refine L.fieldAddr (o' := 0) T46.f0 rfl rfl ?_
    refine L.fieldAddr (o' := 0) T41.f0 rfl rfl ?_
    refine L.load T3.sc rfl (Rd.of hb rfl) ?_
    refine L.move rfl ?_
    refine WL.nil ?_
    refine WP.block ?_
    refine WP.loop (X := Nat) (fun x => ⟨44, [], [(0, .func (.yield l) #[] #[]), (1, .pointer (some ⟨c, 0, none⟩)), (12, .int .i64 (H : Int)), (13, .int .i64 (y : Int)), (3, .int .i64 (y : Int)), (20, .int .i64 (W : Int)), (21, .int .i64 (x : Int))]⟩) (fun x => Z (popF F W y + rowPop F y x)) (fun x => x ≤ W) (fun x => W - x) 0 (Nat.zero_le _) (Env.Sub.cons rfl rfl (Env.Sub.cons rfl rfl (Env.Sub.cons rfl rfl (Env.Sub.cons rfl rfl (Env.Sub.cons rfl rfl (Env.Sub.cons rfl rfl (Env.Sub.cons rfl rfl Env.Sub.nil))))))) (Ent.refl _) ?_
    intro x hx
    refine WP.regs ?_
    refine L.lss rfl rfl ?_
    refine WL.nil ?_
    refine WP.seq ?_
    refine WP.condD rfl (fun h22 => ?_) (fun h22 => ?_)
    · -- then
      refine WP.skip ?_
      refine X.thenN ?_
      refine WP.seq ?_
      refine WP.block ?_
      refine WP.regs ?_
      refine L.move rfl ?_
      refine L.assign rfl ?_
      refine WL.nil ?_
      refine WP.regs ?_
      refine L.load T30.sc rfl (Rd.of hbx rfl) ?_
      refine L.nilCheck rfl ?_
      refine L.fieldAddr (o' := 4) T46.f2 rfl rfl ?_
      refine L.load T43.sc rfl (Rd.of hb rfl) ?_
      refine L.move rfl ?_
      refine L.move rfl ?_
      refine WL.invV rfl rfl rfl (M82_get _) F82.fn rfl (fun g gS dj => bytes_get W H F x y (by omega) (by omega) hW hH rv (hs.mono (Hp.le_un_left _ _))) ?_
      refine L.assign rfl ?_
      refine WL.nil ?_
      refine WP.regsI [0, 1, 2, 3, 4, 5, 6, 7, 8, 9, 10] rfl ?_
      refine WI.val rfl (V.move rfl) ?_
      refine WI.valD rfl (V.neq rfl rfl) (fun h32 => ?_) (fun h32 => ?_)
      · -- way
        iterate 4 refine WI.val rfl (V.move rfl) ?_
        refine WI.val rfl (V.build (cs := [_, _]) T58.b T58.z rfl rfl) ?_
        refine WI.val rfl (V.move rfl) ?_
        refine WI.round rfl rfl rfl (hR _ _ ⟨_, _, _, rfl⟩) ?_; rintro _ _ ⟨rfl, rfl⟩
        refine WI.val rfl (V.not rfl) ?_
        refine WI.val rfl (V.pickT rfl rfl) ?_
        refine WI.nil ?_
        refine WP.condF rfl ?_
        refine WP.skip ?_
        refine X.blockN ?_
        refine X.thenN ?_
        refine WP.region ?_
        refine L.add' rfl rfl (by omega) ?_
        refine L.move rfl ?_
        refine WL.nil ?_
        refine X.thenN ⟨x + 1, by omega, by omega, (Env.Sub.cons rfl rfl (Env.Sub.cons rfl rfl (Env.Sub.cons rfl rfl (Env.Sub.cons rfl rfl (Env.Sub.cons rfl rfl (Env.Sub.cons rfl rfl (Env.Sub.cons rfl rfl Env.Sub.nil))))))), Ent.of_eq (by show _ = Z (_ + rowPop F y (x + 1)); simp only [rowPop]; first | (rw [if_neg (by omega)]; rfl) | (rw [if_pos (by omega)]; rfl))⟩
      · -- way
        refine WI.val rfl (V.move rfl) ?_
        iterate 7 refine WI.skip rfl ?_
        refine WI.val rfl (V.pickF rfl rfl) ?_
        refine WI.nil ?_
        refine WP.condF rfl ?_
        refine WP.skip ?_
        refine X.blockN ?_
        refine X.thenN ?_
        refine WP.region ?_
        refine L.add' rfl rfl (by omega) ?_
        refine L.move rfl ?_
        refine WL.nil ?_
        refine X.thenN ⟨x + 1, by omega, by omega, (Env.Sub.cons rfl rfl (Env.Sub.cons rfl rfl (Env.Sub.cons rfl rfl (Env.Sub.cons rfl rfl (Env.Sub.cons rfl rfl (Env.Sub.cons rfl rfl (Env.Sub.cons rfl rfl Env.Sub.nil))))))), Ent.of_eq (by show _ = Z (_ + rowPop F y (x + 1)); simp only [rowPop]; first | (rw [if_neg (by omega)]; rfl) | (rw [if_pos (by omega)]; rfl))⟩
    · -- else
      refine WP.exit ?_
      refine X.thenE (X.thenE (X.blockE ?_))
      refine X.blockN ?_
      refine X.thenN ?_
      refine WP.region ?_
      refine L.add' rfl rfl (by omega) ?_
      refine L.move rfl ?_
      refine WL.nil ?_
      refine X.thenN ⟨y + 1, by omega, by omega, (Env.Sub.cons rfl rfl (Env.Sub.cons rfl rfl (Env.Sub.cons rfl rfl (Env.Sub.cons rfl rfl Env.Sub.nil)))), Ent.of_eq (by obtain rfl : x = W := (by omega); rfl)⟩
  · -- else
    refine WP.exit ?_
    refine X.thenE (X.thenE (X.blockE ?_))
    refine X.end rfl (Res.none rfl) ?_
    obtain rfl : y = H := by omega
    exact ⟨_, rfl, rfl⟩

set_option maxRecDepth 10000 in
theorem field_Pop_bytes {b : Nat} {W H S : Nat} {F : Nat → Nat → Nat} (hin : In (fieldHP b false W H S F) h0) : FT Pg 10 [.pointer (some ⟨b, 0, none⟩)] k h0 [] (Is (.int .i64 (IntKind.i64.wrap (popF F W H : Nat)))) := by
  refine FT.of_wpM (n := 11) Try.func10 rfl rfl rfl ?_
  refine WP.regs ?_
  refine L.assign rfl ?_
  refine WL.nil ?_
  refine WP.regs ?_
  refine L.alloc T3.z ?_; intro b1
  refine L.store T3.sc rfl rfl rfl (Wr.at 0 rfl rfl) ?_
  refine WL.nil ?_
  refine WP.seq ?_
  refine WP.regs ?_
  refine L.move rfl ?_
  refine WL.call rfl rfl F25.fn rfl (FT.make fun g gS dj => field_living) ?_; rintro _ _ ⟨_, ⟨c, rfl, rfl⟩, rfl⟩
  refine WL.nil ?_
  refine WP.block ?_
  refine WP.rangeF (S := fun i => [cl b1 [.int .i64 (IntKind.i64.wrap (i : Nat))] 3]) (N := popF F W H) (A := fun vs => ∃ x y s : Int, vs = [Value.agg (ptC x y).toArray, .int .u8 s]) rfl F36.fn ?_ rfl [cl c [.pointer (some ⟨b, 0, none⟩)] 30] (Ent.perm (List.Perm.swap _ _ _)) ?_ ?_ ?_
  · rintro _ ⟨_, _, _, rfl⟩; rfl
  · intro l g Z gS dj hR
    exact field_living1_bytes (hin.mono (Hp.le_un_left _ _)) (gS.at' 0 rfl dj) hR
  · rintro l h i _ ⟨x, y, s, rfl⟩
    refine WPI.block ?_
    refine WPI.region [0, 1, 2] rfl ?_
    refine WI.val rfl (V.load T3.sc rfl (Rd.own 0 rfl rfl)) ?_
    refine WI.val rfl (V.add rfl rfl) ?_
    rw [wrap_succ]
    refine WI.eff rfl (E.store T3.sc rfl rfl rfl (Wr.at 0 rfl rfl)) ?_
    refine WI.nil ?_
    exact ⟨rfl, Ent.refl _⟩
  intro D
  refine X.blockN ?_
  refine X.thenN ?_
  refine WP.regs ?_
  refine L.load T3.sc rfl (Rd.own 1 rfl rfl) ?_
  refine L.assign rfl ?_
  refine WL.nil ?_
  refine WP.ret ?_
  exact ⟨_, _, _, rfl, Ent.refl _, Res.one rfl rfl, rfl⟩
  -- done

end

end Go.Eng
