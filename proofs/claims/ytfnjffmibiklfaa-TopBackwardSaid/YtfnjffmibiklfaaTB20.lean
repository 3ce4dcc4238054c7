/- Walks of the seat's functions over those rules, and plain laws of what they compute. No conditions beyond those in each theorem. -/
import Derived.Test.YtfnjffmibiklfaaTB19
namespace Go.Eng
open Go.RowKit Go.Proofs
set_option linter.unusedSimpArgs false
set_option linter.unusedVariables false

abbrev idL : List Int := [0, 1, 2, 3, 4, 5, 6, 7, 8, 9, 10, 11, 12, 13, 14, 15]
theorem getD_ge {l : List Int} {i : Nat} (h : l.length ≤ i) : l.getD i 0 = 0 := by rw [List.getD_eq_getElem?_getD, List.getElem?_eq_none h]; rfl
theorem id_blk : Blk idL := ⟨rfl, fun i => by
  rcases Nat.lt_or_ge i 16 with h | h
  · revert h; revert i; decide
  · rw [getD_ge h]; omega⟩
section
variable {k : World} {h0 : Hp}

theorem turns_id : FT Pg 4 [.agg (u8C idL).toArray] k h0 [] (Is (.tuple #[.bool true, .int .i64 0])) := by
  have h := block_Turns (k := k) (h0 := h0) idL id_blk
  rwa [decide_eq_true (by decide +kernel)] at h

theorem block_Again_bits (bs : List Int) (hbs : Blk bs) (t : Topo) (hg : t.Even) {b : Nat} {W H : Nat} {F : Nat → Nat → Nat} (hWw : (W : Int) = t.w) (hHh : (H : Int) = t.h) (gen n : Int) (hgen : 0 ≤ gen ∧ gen ≤ 1125899906842624) (hsp : 0 ≤ gen + n ∧ gen + n ≤ 1125899906842624) (hn : 0 ≤ n) (hturn : seenTo bs 16 = onceTo 16) (hwork : n ≤ 67108864 / (t.w * t.h)) (hin : In (fieldHP b true W H 2 F) h0) :
    FT Pg 8 [.agg (u8C bs).toArray, .agg (topoC t).toArray, .pointer (some ⟨b, 0, none⟩), .int .i64 (gen + n), .int .i64 (-n)] k h0 [] (Ret fun v τ => ∃ c : Nat, v = .tuple #[.pointer (some ⟨c, 0, none⟩), .int .i64 0] ∧ τ = [fieldHP c true W H 2 (seqF (backTo bs 16) t (fun i => gen + n - (i : Int) - 1) F n.toNat)]) := by
  by_cases h : n = 0
  · subst h
    refine FT.mono (block_Run_fwd_bits bs hbs t hg hWw hHh (gen + 0) (-0) (by omega) (by omega) (fun _ => hturn) ⟨by omega, by omega⟩ (by omega) hin) ?_
    rintro e τ ⟨v, he, c, hv, hτ⟩
    refine ⟨v, he, c, hv, ?_⟩
    rw [hτ, show (-(0 : Int)).toNat = 0 from rfl, show (0 : Int).toNat = 0 from rfl]
    simp only [seqF]
  · have := block_Run_bwd_bits (k := k) (h0 := h0) (b := b) (F := F) bs hbs t hg hWw hHh (gen + n) (-n) (by omega) (by omega) (fun _ => hturn) ⟨by omega, by omega⟩ (by omega) hin
    rw [show (- -n).toNat = n.toNat by omega] at this
    exact this

set_option maxRecDepth 10000 in
theorem top_Backward_bits (bs : List Int) (hl16 : bs.length = 16) (hb8 : ∀ i, 0 ≤ bs.getD i 0 ∧ bs.getD i 0 ≤ 255) (t : Topo) (ht : (0 ≤ t.kind ∧ t.kind ≤ 255) ∧ (-9223372036854775808 ≤ t.w ∧ t.w ≤ 9223372036854775807) ∧ (-9223372036854775808 ≤ t.h ∧ t.h ≤ 9223372036854775807) ∧ (0 ≤ t.turn ∧ t.turn ≤ 255) ∧ (-9223372036854775808 ≤ t.shift ∧ t.shift ≤ 9223372036854775807)) (ls : List Int) (hls : ∀ i, 0 ≤ ls.getD i 0 ∧ ls.getD i 0 ≤ 255) (a : Option Addr) (cap : Nat) (hrd : 0 < ls.length → ∃ b o, a = some ⟨b, o, none⟩ ∧ ∀ i, i < ls.length → cellOf (h0 b) (o + i) = some (.int .u8 (ls.getD i 0))) (gen n : Int) : FT Pg 3 [.agg (u8C bs).toArray, .agg (topoC t).toArray, .slice a ls.length cap, .int .i64 gen, .int .i64 n, .bool true] k h0 [] (Is (.bool true)) := by
  refine FT.of_wp (n := 210) Try.func3 rfl rfl rfl ?_
  refine WP.regs ?_
  refine L.box rfl rfl ?_; intro b1
  refine L.box rfl rfl ?_; intro b2
  refine L.assign rfl ?_
  refine WL.nil ?_
  refine WP.regs ?_
  refine L.buildA (cs := [_, _, _, _, _, _, _, _, _, _, _, _, _, _, _, _]) T22.ar T22.z rfl rfl ?_
  refine WL.callV rfl rfl F4.fn rfl (fun g gS dj => turns_id) ?_   -- vivarium/block.Turns slot 28
  refine L.move rfl ?_
  refine L.extract rfl rfl ?_
  refine L.extract rfl rfl ?_
  refine L.assign rfl ?_
  refine L.assign rfl ?_
  refine WL.nil ?_
  refine WP.regs ?_
  refine L.move rfl ?_
  refine L.move rfl ?_
  refine L.move rfl ?_
  refine L.eqlD rfl rfl (fun h34 => ?_) (fun hF => absurd hF (by omega))
  refine L.pickT rfl rfl ?_
  refine L.assign rfl ?_
  refine WL.nil ?_
  refine WP.seq ?_
  refine WP.cut (X := Bool) (fun x => ⟨210, [], [(92, .bool x), (2, .slice a ls.length cap), (3, .int .i64 gen), (4, .int .i64 n), (5, .bool true), (6, .pointer (some ⟨b1, 0, none⟩)), (7, .pointer (some ⟨b2, 0, none⟩)), (15, .bool true)]⟩) (fun _ => [cl b2 (topoC t) 24, cl b1 (u8C bs) 22]) (fun x => x = false → t.Even ∧ (ls.length : Int) = t.w * t.h ∧ t.w * t.h ≤ 262144 ∧ 0 ≤ gen ∧ gen ≤ 562949953421312 ∧ 0 ≤ n ∧ n ≤ 262144 / (ls.length : Int)) ?_ ?_
  · -- the region
    refine WP.region ?_
    refine L.move rfl ?_
    refine L.not rfl ?_
    refine L.move rfl ?_
    refine L.loadN T24.ag rfl rfl (Rds.all 0 rfl) ?_
    refine WL.call rfl rfl F5.fn rfl (FT.pureR fun g gS dj => top_ends t 262144 ⟨by omega, by omega, by omega, by omega, by omega⟩) ?_; rintro _ _ ⟨⟨bE, rfl, hE⟩, rfl⟩
    rcases Bool.eq_false_or_eq_true bE with rfl | rfl
    · -- true
      refine L.not rfl ?_
      refine L.pickF rfl rfl ?_
      refine L.move rfl ?_
      refine L.fieldAddr (o' := 0) T24.f0 rfl rfl ?_
      refine L.load T5.sc rfl (Rd.own 0 rfl rfl) ?_
      refine L.gtrD rfl rfl (fun h46 => ?_) (fun h46 => ?_)
      · -- true
        refine L.pickF rfl rfl ?_
        refine L.move rfl ?_
        iterate 8 refine L.skip ?_
        refine L.pickT rfl rfl ?_
        refine L.move rfl ?_
        iterate 4 refine L.skip ?_
        refine L.pickT rfl rfl ?_
        refine L.move rfl ?_
        iterate 8 refine L.skip ?_
        refine L.pickT rfl rfl ?_
        refine L.move rfl ?_
        iterate 2 refine L.skip ?_
        refine L.pickT rfl rfl ?_
        refine L.move rfl ?_
        iterate 2 refine L.skip ?_
        refine L.pickT rfl rfl ?_
        refine L.move rfl ?_
        iterate 2 refine L.skip ?_
        refine L.pickT rfl rfl ?_
        refine L.move rfl ?_
        iterate 5 refine L.skip ?_
        refine L.pickT rfl rfl ?_
        refine WL.nil (X.thenN ⟨_, ?_, (Env.Sub.cons rfl rfl (Env.Sub.cons rfl rfl (Env.Sub.cons rfl rfl (Env.Sub.cons rfl rfl (Env.Sub.cons rfl rfl (Env.Sub.cons rfl rfl (Env.Sub.cons rfl rfl (Env.Sub.cons rfl rfl Env.Sub.nil)))))))), Ent.refl _⟩)
        intro hx
        first
          | exact absurd hx (by decide)
          | exact ⟨⟨⟨hk0, by omega, hw0, hh0⟩, by omega, by omega, Int.emod_eq_zero_of_dvd (Int.dvd_of_tmod_eq_zero (by omega))⟩, by omega, by omega, by omega, by omega, by omega, by have := of_decide_eq_false hx; omega⟩
      · -- false
        refine L.pickF rfl rfl ?_
        refine L.move rfl ?_
        refine L.fieldAddr (o' := 1) T24.f1 rfl rfl ?_
        refine L.load T3.sc rfl (Rd.own 0 rfl rfl) ?_
        obtain ⟨hk0, hw0, hh0, hm⟩ := hE rfl
        have hw := hk0.w; have hh := hk0.h
        have hpos := Int.mul_pos hw0 hh0
        refine L.rem' rfl rfl (by omega) ?_
        refine L.fieldAddr (o' := 2) T24.f2 rfl rfl ?_
        refine L.load T3.sc rfl (Rd.own 0 rfl rfl) ?_
        refine L.rem' rfl rfl (by omega) ?_
        refine L.add' rfl rfl (by omega) ?_
        refine L.neqD rfl rfl (fun h56 => ?_) (fun h56 => ?_)
        · -- true
          refine L.pickF rfl rfl ?_
          refine L.move rfl ?_
          iterate 4 refine L.skip ?_
          refine L.pickT rfl rfl ?_
          refine L.move rfl ?_
          iterate 8 refine L.skip ?_
          refine L.pickT rfl rfl ?_
          refine L.move rfl ?_
          iterate 2 refine L.skip ?_
          refine L.pickT rfl rfl ?_
          refine L.move rfl ?_
          iterate 2 refine L.skip ?_
          refine L.pickT rfl rfl ?_
          refine L.move rfl ?_
          iterate 2 refine L.skip ?_
          refine L.pickT rfl rfl ?_
          refine L.move rfl ?_
          iterate 5 refine L.skip ?_
          refine L.pickT rfl rfl ?_
          refine WL.nil (X.thenN ⟨_, ?_, (Env.Sub.cons rfl rfl (Env.Sub.cons rfl rfl (Env.Sub.cons rfl rfl (Env.Sub.cons rfl rfl (Env.Sub.cons rfl rfl (Env.Sub.cons rfl rfl (Env.Sub.cons rfl rfl (Env.Sub.cons rfl rfl Env.Sub.nil)))))))), Ent.refl _⟩)
          intro hx
          first
            | exact absurd hx (by decide)
            | exact ⟨⟨⟨hk0, by omega, hw0, hh0⟩, by omega, by omega, Int.emod_eq_zero_of_dvd (Int.dvd_of_tmod_eq_zero (by omega))⟩, by omega, by omega, by omega, by omega, by omega, by have := of_decide_eq_false hx; omega⟩
        · -- false
          refine L.pickF rfl rfl ?_
          refine L.move rfl ?_
          refine L.fieldAddr (o' := 4) T24.f4 rfl rfl ?_
          refine L.load T3.sc rfl (Rd.own 0 rfl rfl) ?_
          refine L.rem rfl rfl (by omega) ?_
          refine L.neqD rfl rfl (fun h62 => ?_) (fun h62 => ?_)
          · -- true
            refine L.pickF rfl rfl ?_
            refine L.move rfl ?_
            iterate 8 refine L.skip ?_
            refine L.pickT rfl rfl ?_
            refine L.move rfl ?_
            iterate 2 refine L.skip ?_
            refine L.pickT rfl rfl ?_
            refine L.move rfl ?_
            iterate 2 refine L.skip ?_
            refine L.pickT rfl rfl ?_
            refine L.move rfl ?_
            iterate 2 refine L.skip ?_
            refine L.pickT rfl rfl ?_
            refine L.move rfl ?_
            iterate 5 refine L.skip ?_
            refine L.pickT rfl rfl ?_
            refine WL.nil (X.thenN ⟨_, ?_, (Env.Sub.cons rfl rfl (Env.Sub.cons rfl rfl (Env.Sub.cons rfl rfl (Env.Sub.cons rfl rfl (Env.Sub.cons rfl rfl (Env.Sub.cons rfl rfl (Env.Sub.cons rfl rfl (Env.Sub.cons rfl rfl Env.Sub.nil)))))))), Ent.refl _⟩)
            intro hx
            first
              | exact absurd hx (by decide)
              | exact ⟨⟨⟨hk0, by omega, hw0, hh0⟩, by omega, by omega, Int.emod_eq_zero_of_dvd (Int.dvd_of_tmod_eq_zero (by omega))⟩, by omega, by omega, by omega, by omega, by omega, by have := of_decide_eq_false hx; omega⟩
          · -- false
            refine L.pickF rfl rfl ?_
            refine L.move rfl ?_
            refine L.move rfl ?_
            refine L.lenS T25.sl rfl rfl ?_
            refine L.fieldAddr (o' := 1) T24.f1 rfl rfl ?_
            refine L.load T3.sc rfl (Rd.own 0 rfl rfl) ?_
            refine L.fieldAddr (o' := 2) T24.f2 rfl rfl ?_
            refine L.load T3.sc rfl (Rd.own 0 rfl rfl) ?_
            refine L.mul' rfl rfl (by omega) ?_
            refine L.neqD rfl rfl (fun h72 => ?_) (fun h72 => ?_)
            · -- true
              refine L.pickF rfl rfl ?_
              refine L.move rfl ?_
              iterate 2 refine L.skip ?_
              refine L.pickT rfl rfl ?_
              refine L.move rfl ?_
              iterate 2 refine L.skip ?_
              refine L.pickT rfl rfl ?_
              refine L.move rfl ?_
              iterate 2 refine L.skip ?_
              refine L.pickT rfl rfl ?_
              refine L.move rfl ?_
              iterate 5 refine L.skip ?_
              refine L.pickT rfl rfl ?_
              refine WL.nil (X.thenN ⟨_, ?_, (Env.Sub.cons rfl rfl (Env.Sub.cons rfl rfl (Env.Sub.cons rfl rfl (Env.Sub.cons rfl rfl (Env.Sub.cons rfl rfl (Env.Sub.cons rfl rfl (Env.Sub.cons rfl rfl (Env.Sub.cons rfl rfl Env.Sub.nil)))))))), Ent.refl _⟩)
              intro hx
              first
                | exact absurd hx (by decide)
                | exact ⟨⟨⟨hk0, by omega, hw0, hh0⟩, by omega, by omega, Int.emod_eq_zero_of_dvd (Int.dvd_of_tmod_eq_zero (by omega))⟩, by omega, by omega, by omega, by omega, by omega, by have := of_decide_eq_false hx; omega⟩
            · -- false
              refine L.pickF rfl rfl ?_
              refine L.move rfl ?_
              refine L.move rfl ?_
              refine L.lssD rfl rfl (fun h76 => ?_) (fun h76 => ?_)
              · -- true
                refine L.pickF rfl rfl ?_
                refine L.move rfl ?_
                iterate 2 refine L.skip ?_
                refine L.pickT rfl rfl ?_
                refine L.move rfl ?_
                iterate 2 refine L.skip ?_
                refine L.pickT rfl rfl ?_
                refine L.move rfl ?_
                iterate 5 refine L.skip ?_
                refine L.pickT rfl rfl ?_
                refine WL.nil (X.thenN ⟨_, ?_, (Env.Sub.cons rfl rfl (Env.Sub.cons rfl rfl (Env.Sub.cons rfl rfl (Env.Sub.cons rfl rfl (Env.Sub.cons rfl rfl (Env.Sub.cons rfl rfl (Env.Sub.cons rfl rfl (Env.Sub.cons rfl rfl Env.Sub.nil)))))))), Ent.refl _⟩)
                intro hx
                first
                  | exact absurd hx (by decide)
                  | exact ⟨⟨⟨hk0, by omega, hw0, hh0⟩, by omega, by omega, Int.emod_eq_zero_of_dvd (Int.dvd_of_tmod_eq_zero (by omega))⟩, by omega, by omega, by omega, by omega, by omega, by have := of_decide_eq_false hx; omega⟩
              · -- false
                refine L.pickF rfl rfl ?_
                refine L.move rfl ?_
                refine L.move rfl ?_
                refine L.gtrD rfl rfl (fun h80 => ?_) (fun h80 => ?_)
                · -- true
                  refine L.pickF rfl rfl ?_
                  refine L.move rfl ?_
                  iterate 2 refine L.skip ?_
                  refine L.pickT rfl rfl ?_
                  refine L.move rfl ?_
                  iterate 5 refine L.skip ?_
                  refine L.pickT rfl rfl ?_
                  refine WL.nil (X.thenN ⟨_, ?_, (Env.Sub.cons rfl rfl (Env.Sub.cons rfl rfl (Env.Sub.cons rfl rfl (Env.Sub.cons rfl rfl (Env.Sub.cons rfl rfl (Env.Sub.cons rfl rfl (Env.Sub.cons rfl rfl (Env.Sub.cons rfl rfl Env.Sub.nil)))))))), Ent.refl _⟩)
                  intro hx
                  first
                    | exact absurd hx (by decide)
                    | exact ⟨⟨⟨hk0, by omega, hw0, hh0⟩, by omega, by omega, Int.emod_eq_zero_of_dvd (Int.dvd_of_tmod_eq_zero (by omega))⟩, by omega, by omega, by omega, by omega, by omega, by have := of_decide_eq_false hx; omega⟩
                · -- false
                  refine L.pickF rfl rfl ?_
                  refine L.move rfl ?_
                  refine L.move rfl ?_
                  refine L.lssD rfl rfl (fun h84 => ?_) (fun h84 => ?_)
                  · -- true
                    refine L.pickF rfl rfl ?_
                    refine L.move rfl ?_
                    iterate 5 refine L.skip ?_
                    refine L.pickT rfl rfl ?_
                    refine WL.nil (X.thenN ⟨_, ?_, (Env.Sub.cons rfl rfl (Env.Sub.cons rfl rfl (Env.Sub.cons rfl rfl (Env.Sub.cons rfl rfl (Env.Sub.cons rfl rfl (Env.Sub.cons rfl rfl (Env.Sub.cons rfl rfl (Env.Sub.cons rfl rfl Env.Sub.nil)))))))), Ent.refl _⟩)
                    intro hx
                    first
                      | exact absurd hx (by decide)
                      | exact ⟨⟨⟨hk0, by omega, hw0, hh0⟩, by omega, by omega, Int.emod_eq_zero_of_dvd (Int.dvd_of_tmod_eq_zero (by omega))⟩, by omega, by omega, by omega, by omega, by omega, by have := of_decide_eq_false hx; omega⟩
                  · -- false
                    refine L.pickF rfl rfl ?_
                    refine L.move rfl ?_
                    refine L.move rfl ?_
                    refine L.move rfl ?_
                    refine L.lenS T25.sl rfl rfl ?_
                    refine L.quo' rfl rfl (by omega) ?_
                    refine L.gtr rfl rfl ?_
                    refine L.pickF rfl rfl ?_
                    refine WL.nil (X.thenN ⟨_, ?_, (Env.Sub.cons rfl rfl (Env.Sub.cons rfl rfl (Env.Sub.cons rfl rfl (Env.Sub.cons rfl rfl (Env.Sub.cons rfl rfl (Env.Sub.cons rfl rfl (Env.Sub.cons rfl rfl (Env.Sub.cons rfl rfl Env.Sub.nil)))))))), Ent.refl _⟩)
                    intro hx
                    first
                      | exact absurd hx (by decide)
                      | exact ⟨⟨⟨hk0, by omega, hw0, hh0⟩, by omega, by omega, Int.emod_eq_zero_of_dvd (Int.dvd_of_tmod_eq_zero (by omega))⟩, by omega, by omega, by omega, by omega, by omega, by have := of_decide_eq_false hx; omega⟩
    · -- false
      refine L.not rfl ?_
      refine L.pickF rfl rfl ?_
      refine L.move rfl ?_
      iterate 3 refine L.skip ?_
      refine L.pickT rfl rfl ?_
      refine L.move rfl ?_
      iterate 8 refine L.skip ?_
      refine L.pickT rfl rfl ?_
      refine L.move rfl ?_
      iterate 4 refine L.skip ?_
      refine L.pickT rfl rfl ?_
      refine L.move rfl ?_
      iterate 8 refine L.skip ?_
      refine L.pickT rfl rfl ?_
      refine L.move rfl ?_
      iterate 2 refine L.skip ?_
      refine L.pickT rfl rfl ?_
      refine L.move rfl ?_
      iterate 2 refine L.skip ?_
      refine L.pickT rfl rfl ?_
      refine L.move rfl ?_
      iterate 2 refine L.skip ?_
      refine L.pickT rfl rfl ?_
      refine L.move rfl ?_
      iterate 5 refine L.skip ?_
      refine L.pickT rfl rfl ?_
      refine WL.nil (X.thenN ⟨_, ?_, (Env.Sub.cons rfl rfl (Env.Sub.cons rfl rfl (Env.Sub.cons rfl rfl (Env.Sub.cons rfl rfl (Env.Sub.cons rfl rfl (Env.Sub.cons rfl rfl (Env.Sub.cons rfl rfl (Env.Sub.cons rfl rfl Env.Sub.nil)))))))), Ent.refl _⟩)
      intro hx
      first
        | exact absurd hx (by decide)
        | exact ⟨⟨⟨hk0, by omega, hw0, hh0⟩, by omega, by omega, Int.emod_eq_zero_of_dvd (Int.dvd_of_tmod_eq_zero (by omega))⟩, by omega, by omega, by omega, by omega, by omega, by have := of_decide_eq_false hx; omega⟩
  · -- behind it
    rintro x hx
    refine WP.cond rfl (fun h92 => ?_) (fun h92 => ?_)
    · -- then
      refine WP.regs ?_
      refine L.move rfl ?_
      refine L.assign rfl ?_
      refine WL.nil ?_
      refine WP.ret ?_
      refine X.thenR ?_
      refine X.ret rfl (Res.one rfl rfl) ?_
      first
        | exact rfl
        | (show _ = _; rw [law_back t hg hWw hHh bs hbs hturn gen n _ (loadF_lt ls W _)])
    · -- else
      obtain ⟨hg, hlen, hm, hg0, hg1, hn0, hn1⟩ := hx h92
      have hw0 := hg.w0; have hh0 := hg.h0; have hw := hg.w; have hh := hg.h
      have hpos := Int.mul_pos hw0 hh0
      obtain ⟨bl, ol, rfl, hrl⟩ := hrd (by omega)
      refine WP.skip ?_
      refine X.thenN ?_
      refine WP.seq ?_
      refine WP.regs ?_
      refine L.assign rfl ?_
      refine WL.nil ?_
      refine WP.block ?_
      refine WP.loop (X := Nat) (fun i => ⟨210, [], [(2, .slice (some ⟨bl, ol, none⟩) ls.length cap), (3, .int .i64 gen), (4, .int .i64 n), (5, .bool true), (6, .pointer (some ⟨b1, 0, none⟩)), (7, .pointer (some ⟨b2, 0, none⟩)), (15, .bool true), (16, .int .i64 (i : Int))]⟩) (fun i => [cl b2 (topoC t) 24, cl b1 (u8C bs) 22]) (fun i => i ≤ 16 ∧ ∀ j, j < i → bs.getD j 0 ≤ 15) (fun i => 16 - i) 0 (⟨by omega, fun j hj => by omega⟩) (Env.Sub.cons rfl rfl (Env.Sub.cons rfl rfl (Env.Sub.cons rfl rfl (Env.Sub.cons rfl rfl (Env.Sub.cons rfl rfl (Env.Sub.cons rfl rfl (Env.Sub.cons rfl rfl (Env.Sub.cons rfl rfl Env.Sub.nil)))))))) (Ent.refl _) ?_
      rintro i ⟨hi, hall⟩
      have hbi := hb8 i
      refine WP.seq ?_
      refine WP.regs ?_
      refine L.move rfl ?_
      refine L.lss rfl rfl ?_
      refine WL.nil ?_
      refine WP.condD rfl (fun h95 => ?_) (fun h95 => ?_)
      · -- then
        refine WP.skip ?_
        refine X.thenN ?_
        refine WP.seq ?_
        refine WP.block ?_
        refine WP.regs ?_
        refine L.move rfl ?_
        refine L.indexA T22.ar rfl rfl (by omega) ?_
        refine L.load T5.sc rfl (v := .int .u8 (bs.getD i 0)) (Rd.own 1 rfl (by rw [Nat.zero_add, Nat.mul_one, Int.toNat_natCast]; exact u8_at (by omega))) ?_
        refine L.gtr rfl rfl ?_
        refine WL.nil ?_
        refine WP.condD rfl (fun h101 => ?_) (fun h101 => ?_)
        · -- then
          refine WP.regs ?_
          refine L.move rfl ?_
          refine L.assign rfl ?_
          refine WL.nil ?_
          refine WP.ret ?_
          refine X.blockR (X.thenR (X.thenR (X.blockR (X.thenR ?_))))
          refine X.ret rfl (Res.one rfl rfl) ?_
          first
            | exact rfl
            | (show _ = _; rw [law_back t hg hWw hHh bs hbs hturn gen n _ (loadF_lt ls W _)])
        · -- else
          refine WP.skip ?_
          refine X.blockN ?_
          refine X.thenN ?_
          refine WP.region ?_
          refine L.move rfl ?_
          refine L.add' rfl rfl (by omega) ?_
          refine L.assign rfl ?_
          refine WL.nil ?_
          refine X.thenN ⟨i + 1, ⟨by omega, fun j hj => by rcases Nat.lt_or_ge j i with e | e; exact hall j e; obtain rfl : j = i := (by omega); omega⟩, by omega, (Env.Sub.cons rfl rfl (Env.Sub.cons rfl rfl (Env.Sub.cons rfl rfl (Env.Sub.cons rfl rfl (Env.Sub.cons rfl rfl (Env.Sub.cons rfl rfl (Env.Sub.cons rfl rfl (Env.Sub.cons rfl rfl Env.Sub.nil)))))))), Ent.refl _⟩
      · -- else
        refine WP.exit ?_
        refine X.thenE (X.thenE (X.blockE ?_))
        refine X.thenN ?_
        refine WP.regs ?_
        have hbs : Blk bs := ⟨hl16, fun j => by
          rcases Nat.lt_or_ge j 16 with e | e
          · exact ⟨(hb8 j).1, hall j (by omega)⟩
          · rw [getD_ge (by omega)]; omega⟩
        obtain ⟨W, hWw⟩ : ∃ W : Nat, (W : Int) = t.w := ⟨t.w.toNat, by omega⟩
        obtain ⟨H, hHh⟩ : ∃ H : Nat, (H : Int) = t.h := ⟨t.h.toNat, by omega⟩
        have hWH : ls.length = W * H := by have := hlen; rw [← hWw, ← hHh, ← Int.natCast_mul] at this; omega
        refine L.fieldAddr (o' := 1) T24.f1 rfl rfl ?_
        refine L.load T3.sc rfl (v := .int .i64 (W : Int)) (Rd.own 0 rfl (by rw [hWw]; rfl)) ?_
        refine L.fieldAddr (o' := 2) T24.f2 rfl rfl ?_
        refine L.load T3.sc rfl (v := .int .i64 (H : Int)) (Rd.own 0 rfl (by rw [hHh]; rfl)) ?_
        refine L.move rfl ?_
        refine WL.call rfl rfl F6.fn rfl (FT.make fun g gS dj => field_New_bits W H (by omega) (by omega) (by omega) (by omega) (by rw [hWw, hHh]; omega)) ?_; rintro _ _ ⟨_, ⟨c, rfl, rfl⟩, rfl⟩
        refine L.move rfl ?_
        refine L.extract rfl rfl ?_
        refine L.extract rfl rfl ?_
        refine L.assign rfl ?_
        refine L.assign rfl ?_
        refine WL.nil ?_
        refine WP.seq ?_
        refine WP.regs ?_
        refine L.move rfl ?_
        refine L.eqlPtrNil T30.u rfl ?_
        refine L.move rfl ?_
        refine L.move rfl ?_
        refine L.neq rfl rfl ?_
        refine L.pickF rfl rfl ?_
        refine WL.nil ?_
        refine WP.condD rfl (fun hT => absurd hT (by omega)) (fun h117 => ?_)
        refine WP.skip ?_
        refine X.thenN ?_
        refine WP.regs ?_
        refine L.assign rfl ?_
        refine WL.nil ?_
        refine WP.seq ?_
        refine WP.regs ?_
        refine L.assign rfl ?_
        refine WL.nil ?_
        refine WP.block ?_
        refine WP.loop (X := Nat) (fun i => ⟨210, [], [(2, .slice (some ⟨bl, ol, none⟩) ls.length cap), (3, .int .i64 gen), (4, .int .i64 n), (6, .pointer (some ⟨b1, 0, none⟩)), (7, .pointer (some ⟨b2, 0, none⟩)), (17, .pointer (some ⟨c, 0, none⟩)), (18, .int .i64 ((popL ls i : Nat) : Int)), (19, .int .i64 (i : Int))]⟩) (fun i => [fieldHP c true W H 2 (loadF ls W i), cl b2 (topoC t) 24, cl b1 (u8C bs) 22]) (fun i => i ≤ ls.length) (fun i => ls.length - i) 0 (Nat.zero_le _) (Env.Sub.cons rfl rfl (Env.Sub.cons rfl rfl (Env.Sub.cons rfl rfl (Env.Sub.cons rfl rfl (Env.Sub.cons rfl rfl (Env.Sub.cons rfl rfl (Env.Sub.cons rfl rfl (Env.Sub.cons rfl rfl Env.Sub.nil)))))))) (Ent.refl _) ?_
        intro i hi
        refine WP.seq ?_
        refine WP.regs ?_
        refine L.move rfl ?_
        refine L.move rfl ?_
        refine L.lenS T25.sl rfl rfl ?_
        refine L.lss rfl rfl ?_
        refine WL.nil ?_
        refine WP.condD rfl (fun h121 => ?_) (fun h121 => ?_)
        · -- then
          have hlsi := hls i
          have hpl := popL_le ls i
          refine WP.skip ?_
          refine X.thenN ?_
          refine WP.seq ?_
          refine WP.block ?_
          refine WP.regs ?_
          refine L.move rfl ?_
          refine L.move rfl ?_
          refine L.indexS T25.sl rfl rfl (by omega) ?_
          refine L.load T5.sc rfl (v := .int .u8 (ls.getD i 0)) (Rd.ro (by rw [Nat.mul_one, Int.toNat_natCast]; exact hrl i (by omega))) ?_
          refine L.rem' rfl rfl (by omega) ?_
          refine L.eql rfl rfl ?_
          refine WL.nil ?_
          refine WP.condD rfl (fun h129 => ?_) (fun h129 => ?_)
          · -- then
            refine WP.regs ?_
            refine L.move rfl ?_
            refine L.add' rfl rfl (by omega) ?_
            refine L.assign rfl ?_
            refine WL.nil ?_
            refine WP.seq ?_
            refine WP.rege [(0, true), (1, true), (2, true), (3, true), (4, true), (5, true), (6, true), (7, true), (8, true), (9, false), (10, false)] 9 rfl (by kernel_rfl) (PInv.then (PInv.block (PInv.then (PInv.then (PInv.block (PInv.then PInv.ret)))))) rfl ?_
            refine WE.take rfl (V.move rfl) ?_
            refine WE.take rfl (V.move rfl) ?_
            refine WE.take rfl (V.fieldAddr (o' := 1) T24.f1 rfl rfl) ?_
            refine WE.take rfl (V.load T3.sc rfl (v := .int .i64 (W : Int)) (Rd.own 1 rfl (by rw [hWw]; rfl))) ?_
            refine WE.take rfl (V.rem' rfl rfl (by omega)) ?_
            refine WE.take rfl (V.move rfl) ?_
            refine WE.take rfl (V.fieldAddr (o' := 1) T24.f1 rfl rfl) ?_
            refine WE.take rfl (V.load T3.sc rfl (v := .int .i64 (W : Int)) (Rd.own 1 rfl (by rw [hWw]; rfl))) ?_
            refine WE.take rfl (V.quo' rfl rfl (by omega)) ?_
            refine WE.last rfl ?_
            rw [show ((i : Int) % (W : Int)) = ((i % W : Nat) : Int) from (Int.natCast_emod i W).symm, show ((i : Int) / (W : Int)) = ((i / W : Nat) : Int) from (Int.natCast_ediv i W).symm]
            refine WL.call rfl rfl F7.fn rfl (FT.part [fieldHP c true W H 2 (loadF ls W i)] _ (Ent.refl _) fun g gS dj => field_Set_bits (i % W) (i / W) 1 (Nat.mod_lt _ (by omega)) (Nat.div_lt_of_lt_mul (by omega)) (by omega)) ?_; rintro _ _ ⟨_, ⟨rfl, rfl⟩, rfl⟩
            refine WL.nil ?_
            refine WE.more rfl ?_
            refine L.neq rfl rfl ?_
            refine WL.nil ?_
            refine WE.nil ?_
            refine X.thenN ?_
            refine WP.condD rfl (fun hT => absurd hT (by omega)) (fun h142 => ?_)
            refine WP.skip ?_
            refine X.blockN ?_
            refine X.thenN ?_
            refine WP.region ?_
            refine L.move rfl ?_
            refine L.add' rfl rfl (by omega) ?_
            refine L.assign rfl ?_
            refine WL.nil ?_
            refine X.thenN ⟨i + 1, by omega, by omega, (Env.Sub.cons rfl rfl (Env.Sub.cons rfl rfl (Env.Sub.cons rfl rfl (Env.Sub.cons rfl rfl (Env.Sub.cons rfl rfl (Env.Sub.cons rfl rfl (Env.Sub.cons rfl (congrArg (Value.int .i64) (by rw [popL, if_pos h129]; omega)) (Env.Sub.cons rfl rfl Env.Sub.nil)))))))), Ent.of_eq (by rw [loadF, if_pos h129]; rfl)⟩
          · -- else
            refine WP.skip ?_
            refine X.blockN ?_
            refine X.thenN ?_
            refine WP.region ?_
            refine L.move rfl ?_
            refine L.add' rfl rfl (by omega) ?_
            refine L.assign rfl ?_
            refine WL.nil ?_
            refine X.thenN ⟨i + 1, by omega, by omega, (Env.Sub.cons rfl rfl (Env.Sub.cons rfl rfl (Env.Sub.cons rfl rfl (Env.Sub.cons rfl rfl (Env.Sub.cons rfl rfl (Env.Sub.cons rfl rfl (Env.Sub.cons rfl (congrArg (Value.int .i64) (by rw [popL, if_neg h129])) (Env.Sub.cons rfl rfl Env.Sub.nil)))))))), Ent.of_eq (by rw [loadF, if_neg h129])⟩
        · -- else
          refine WP.exit ?_
          refine X.thenE (X.thenE (X.blockE ?_))
          refine X.thenN ?_
          refine WP.regs ?_
          obtain rfl : i = ls.length := by omega
          have hpl := popL_le ls ls.length
          have hwk : n ≤ 67108864 / (t.w * t.h) := by
            have h1 : (262144 : Int) / (ls.length : Int) ≤ 67108864 / (ls.length : Int) := Int.ediv_le_ediv (by omega) (by omega)
            rw [← hlen]; omega
          have hn2 : n ≤ 262144 := by have := Int.ediv_le_self (a := 262144) (ls.length : Int) (by omega); omega
          refine L.loadN T22.ag rfl (by simp [hl16]) (Rds.all 2 rfl) ?_
          refine L.loadN T24.ag rfl rfl (Rds.all 1 rfl) ?_
          refine L.move rfl ?_
          refine L.move rfl ?_
          refine L.move rfl ?_
          refine WL.call rfl rfl F8.fn rfl (FT.make fun g gS dj => block_Run_fwd_bits bs hbs t hg hWw hHh gen n ⟨by omega, by omega⟩ ⟨by omega, by omega⟩ (fun h => absurd h (by omega)) ⟨hwk, by omega⟩ (by omega) (In.of_stars' 0 rfl gS dj)) ?_; rintro _ _ ⟨_, ⟨c2, rfl, rfl⟩, rfl⟩
          refine L.move rfl ?_
          refine L.extract rfl rfl ?_
          refine L.extract rfl rfl ?_
          refine L.assign rfl ?_
          refine L.assign rfl ?_
          refine WL.nil ?_
          refine WP.regs ?_
          refine L.loadN T22.ag rfl (by simp [hl16]) (Rds.all 3 rfl) ?_
          refine WL.callV rfl rfl F4.fn rfl (fun g gS dj => block_Turns bs hbs) ?_   -- vivarium/block.Turns slot 154
          refine L.move rfl ?_
          refine L.extract rfl rfl ?_
          refine L.extract rfl rfl ?_
          refine L.assign rfl ?_
          refine L.assign rfl ?_
          refine WL.nil ?_
          refine WP.regs ?_
          refine L.loadN T22.ag rfl (by simp [hl16]) (Rds.all 3 rfl) ?_
          refine WL.callV rfl rfl F9.fn rfl (fun g gS dj => block_Counts bs hbs) ?_   -- vivarium/block.Counts slot 159
          refine L.move rfl ?_
          refine L.extract rfl rfl ?_
          refine L.extract rfl rfl ?_
          refine L.assign rfl ?_
          refine L.assign rfl ?_
          refine WL.nil ?_
          refine WP.seq ?_
          refine WP.regs ?_
          refine L.move rfl ?_
          refine L.eqlPtrNil T30.u rfl ?_
          refine L.move rfl ?_
          refine L.move rfl ?_
          refine L.neqD rfl rfl (fun hT => absurd hT (by omega)) (fun h166 => ?_)
          refine L.pickF rfl rfl ?_
          refine L.move rfl ?_
          refine L.move rfl ?_
          refine L.neqD rfl rfl (fun hT => absurd hT (by omega)) (fun h170 => ?_)
          refine L.pickF rfl rfl ?_
          refine L.move rfl ?_
          refine L.move rfl ?_
          refine L.neqD rfl rfl (fun hT => absurd hT (by omega)) (fun h174 => ?_)
          refine L.pickF rfl rfl ?_
          refine L.move rfl ?_
          refine L.move rfl ?_
          refine WL.valB rfl rfl (V.move rfl) (fun hc => ?_) (fun hc => ?_)
          · -- true
            refine L.move rfl ?_
            refine WL.callV rfl rfl F10.fn rfl (fun g gS dj => field_Pop_bits (In.of_stars' 0 rfl gS dj)) ?_   -- (*vivarium/field.Field).Pop slot 180
            refine L.move rfl ?_
            refine L.neq rfl rfl ?_
            refine L.pickT rfl rfl ?_
            refine L.pickF rfl rfl ?_
            refine WL.nil ?_
            refine WP.condD rfl (fun hT => absurd hT (fun hne => hne (by rw [law_pop t hg hWw hHh bs hbs hc _ _ (loadF_lt ls W _), loadF_pop ls (by omega) (by omega), wrap_i64 (by omega)]))) (fun h184 => ?_)
            refine WP.skip ?_
            refine X.thenN ?_
            refine WP.seq ?_
            refine WP.regs ?_
            refine L.move rfl ?_
            refine L.not rfl ?_
            refine WL.nil ?_
            refine WP.cond rfl (fun h186 => ?_) (fun h186 => ?_)
            · -- then
              refine WP.regs ?_
              refine L.assign rfl ?_
              refine WL.nil ?_
              refine WP.ret ?_
              refine X.thenR ?_
              refine X.ret rfl (Res.one rfl rfl) ?_
              first
                | exact rfl
                | (show _ = _; rw [law_back t hg hWw hHh bs hbs hturn gen n _ (loadF_lt ls W _)])
            · -- else
              have hturn : seenTo bs 16 = onceTo 16 := by simpa using h186
              refine WP.skip ?_
              refine X.thenN ?_
              refine WP.regs ?_
              refine L.loadN T22.ag rfl (by simp [hl16]) (Rds.all 3 rfl) ?_
              refine L.loadN T24.ag rfl rfl (Rds.all 2 rfl) ?_
              refine L.move rfl ?_
              refine L.move rfl ?_
              refine L.move rfl ?_
              refine L.add' rfl rfl (by omega) ?_
              refine L.move rfl ?_
              refine L.neg' rfl (by omega) ?_
              refine WL.call rfl rfl F8.fn rfl (FT.make fun g gS dj => block_Again_bits bs hbs t hg hWw hHh gen n ⟨by omega, by omega⟩ ⟨by omega, by omega⟩ (by omega) hturn hwk (In.of_stars' 0 rfl gS dj)) ?_; rintro _ _ ⟨_, ⟨c3, rfl, rfl⟩, rfl⟩
              refine L.move rfl ?_
              refine L.extract rfl rfl ?_
              refine L.extract rfl rfl ?_
              refine L.assign rfl ?_
              refine L.assign rfl ?_
              refine WL.nil ?_
              refine WP.regs ?_
              refine L.move rfl ?_
              refine L.neqPtrNil T30.u rfl ?_
              refine L.move rfl ?_
              refine L.move rfl ?_
              refine L.eqlD rfl rfl (fun h203 => ?_) (fun hF => absurd hF (by omega))
              refine L.pickT rfl rfl ?_
              refine L.move rfl ?_
              refine L.move rfl ?_
              refine L.move rfl ?_
              refine WL.callV rfl rfl F11.fn rfl (fun g gS dj => field_Same_bits (In.of_stars' 0 rfl gS dj) (In.of_stars' 2 rfl gS dj)) ?_   -- (*vivarium/field.Field).Same slot 208
              refine L.pickT rfl rfl ?_
              refine L.assign rfl ?_
              refine WL.nil ?_
              refine WP.ret ?_
              refine X.ret rfl (Res.one rfl rfl) ?_
              first
                | exact rfl
                | (show _ = _; rw [law_back t hg hWw hHh bs hbs hturn gen n _ (loadF_lt ls W _)])
          · -- false
            iterate 4 refine L.skip ?_
            refine L.pickF rfl rfl ?_
            refine L.pickF rfl rfl ?_
            refine WL.nil ?_
            refine WP.condF rfl ?_
            refine WP.skip ?_
            refine X.thenN ?_
            refine WP.seq ?_
            refine WP.regs ?_
            refine L.move rfl ?_
            refine L.not rfl ?_
            refine WL.nil ?_
            refine WP.cond rfl (fun h186 => ?_) (fun h186 => ?_)
            · -- then
              refine WP.regs ?_
              refine L.assign rfl ?_
              refine WL.nil ?_
              refine WP.ret ?_
              refine X.thenR ?_
              refine X.ret rfl (Res.one rfl rfl) ?_
              first
                | exact rfl
                | (show _ = _; rw [law_back t hg hWw hHh bs hbs hturn gen n _ (loadF_lt ls W _)])
            · -- else
              have hturn : seenTo bs 16 = onceTo 16 := by simpa using h186
              refine WP.skip ?_
              refine X.thenN ?_
              refine WP.regs ?_
              refine L.loadN T22.ag rfl (by simp [hl16]) (Rds.all 3 rfl) ?_
              refine L.loadN T24.ag rfl rfl (Rds.all 2 rfl) ?_
              refine L.move rfl ?_
              refine L.move rfl ?_
              refine L.move rfl ?_
              refine L.add' rfl rfl (by omega) ?_
              refine L.move rfl ?_
              refine L.neg' rfl (by omega) ?_
              refine WL.call rfl rfl F8.fn rfl (FT.make fun g gS dj => block_Again_bits bs hbs t hg hWw hHh gen n ⟨by omega, by omega⟩ ⟨by omega, by omega⟩ (by omega) hturn hwk (In.of_stars' 0 rfl gS dj)) ?_; rintro _ _ ⟨_, ⟨c3, rfl, rfl⟩, rfl⟩
              refine L.move rfl ?_
              refine L.extract rfl rfl ?_
              refine L.extract rfl rfl ?_
              refine L.assign rfl ?_
              refine L.assign rfl ?_
              refine WL.nil ?_
              refine WP.regs ?_
              refine L.move rfl ?_
              refine L.neqPtrNil T30.u rfl ?_
              refine L.move rfl ?_
              refine L.move rfl ?_
              refine L.eqlD rfl rfl (fun h203 => ?_) (fun hF => absurd hF (by omega))
              refine L.pickT rfl rfl ?_
              refine L.move rfl ?_
              refine L.move rfl ?_
              refine L.move rfl ?_
              refine WL.callV rfl rfl F11.fn rfl (fun g gS dj => field_Same_bits (In.of_stars' 0 rfl gS dj) (In.of_stars' 2 rfl gS dj)) ?_   -- (*vivarium/field.Field).Same slot 208
              refine L.pickT rfl rfl ?_
              refine L.assign rfl ?_
              refine WL.nil ?_
              refine WP.ret ?_
              refine X.ret rfl (Res.one rfl rfl) ?_
              first
                | exact rfl
                | (show _ = _; rw [law_back t hg hWw hHh bs hbs hturn gen n _ (loadF_lt ls W _)])


theorem block_Again_bytes (bs : List Int) (hbs : Blk bs) (t : Topo) (hg : t.Even) {b : Nat} {W H : Nat} {F : Nat → Nat → Nat} (hWw : (W : Int) = t.w) (hHh : (H : Int) = t.h) (gen n : Int) (hgen : 0 ≤ gen ∧ gen ≤ 1125899906842624) (hsp : 0 ≤ gen + n ∧ gen + n ≤ 1125899906842624) (hn : 0 ≤ n) (hturn : seenTo bs 16 = onceTo 16) (hwork : n ≤ 67108864 / (t.w * t.h)) (hin : In (fieldHP b false W H 2 F) h0) :
    FT Pg 8 [.agg (u8C bs).toArray, .agg (topoC t).toArray, .pointer (some ⟨b, 0, none⟩), .int .i64 (gen + n), .int .i64 (-n)] k h0 [] (Ret fun v τ => ∃ c : Nat, v = .tuple #[.pointer (some ⟨c, 0, none⟩), .int .i64 0] ∧ τ = [fieldHP c false W H 2 (seqF (backTo bs 16) t (fun i => gen + n - (i : Int) - 1) F n.toNat)]) := by
  by_cases h : n = 0
  · subst h
    refine FT.mono (block_Run_fwd_bytes bs hbs t hg hWw hHh (gen + 0) (-0) (by omega) (by omega) (fun _ => hturn) ⟨by omega, by omega⟩ (by omega) hin) ?_
    rintro e τ ⟨v, he, c, hv, hτ⟩
    refine ⟨v, he, c, hv, ?_⟩
    rw [hτ, show (-(0 : Int)).toNat = 0 from rfl, show (0 : Int).toNat = 0 from rfl]
    simp only [seqF]
  · have := block_Run_bwd_bytes (k := k) (h0 := h0) (b := b) (F := F) bs hbs t hg hWw hHh (gen + n) (-n) (by omega) (by omega) (fun _ => hturn) ⟨by omega, by omega⟩ (by omega) hin
    rw [show (- -n).toNat = n.toNat by omega] at this
    exact this

set_option maxRecDepth 10000 in
theorem top_Backward_bytes (bs : List Int) (hl16 : bs.length = 16) (hb8 : ∀ i, 0 ≤ bs.getD i 0 ∧ bs.getD i 0 ≤ 255) (t : Topo) (ht : (0 ≤ t.kind ∧ t.kind ≤ 255) ∧ (-9223372036854775808 ≤ t.w ∧ t.w ≤ 9223372036854775807) ∧ (-9223372036854775808 ≤ t.h ∧ t.h ≤ 9223372036854775807) ∧ (0 ≤ t.turn ∧ t.turn ≤ 255) ∧ (-9223372036854775808 ≤ t.shift ∧ t.shift ≤ 9223372036854775807)) (ls : List Int) (hls : ∀ i, 0 ≤ ls.getD i 0 ∧ ls.getD i 0 ≤ 255) (a : Option Addr) (cap : Nat) (hrd : 0 < ls.length → ∃ b o, a = some ⟨b, o, none⟩ ∧ ∀ i, i < ls.length → cellOf (h0 b) (o + i) = some (.int .u8 (ls.getD i 0))) (gen n : Int) : FT Pg 3 [.agg (u8C bs).toArray, .agg (topoC t).toArray, .slice a ls.length cap, .int .i64 gen, .int .i64 n, .bool false] k h0 [] (Is (.bool true)) := by
  refine FT.of_wp (n := 210) Try.func3 rfl rfl rfl ?_
  refine WP.regs ?_
  refine L.box rfl rfl ?_; intro b1
  refine L.box rfl rfl ?_; intro b2
  refine L.assign rfl ?_
  refine WL.nil ?_
  refine WP.regs ?_
  refine L.buildA (cs := [_, _, _, _, _, _, _, _, _, _, _, _, _, _, _, _]) T22.ar T22.z rfl rfl ?_
  refine WL.callV rfl rfl F4.fn rfl (fun g gS dj => turns_id) ?_   -- vivarium/block.Turns slot 28
  refine L.move rfl ?_
  refine L.extract rfl rfl ?_
  refine L.extract rfl rfl ?_
  refine L.assign rfl ?_
  refine L.assign rfl ?_
  refine WL.nil ?_
  refine WP.regs ?_
  refine L.move rfl ?_
  refine L.move rfl ?_
  refine L.move rfl ?_
  refine L.eqlD rfl rfl (fun h34 => ?_) (fun hF => absurd hF (by omega))
  refine L.pickT rfl rfl ?_
  refine L.assign rfl ?_
  refine WL.nil ?_
  refine WP.seq ?_
  refine WP.cut (X := Bool) (fun x => ⟨210, [], [(92, .bool x), (2, .slice a ls.length cap), (3, .int .i64 gen), (4, .int .i64 n), (5, .bool false), (6, .pointer (some ⟨b1, 0, none⟩)), (7, .pointer (some ⟨b2, 0, none⟩)), (15, .bool true)]⟩) (fun _ => [cl b2 (topoC t) 24, cl b1 (u8C bs) 22]) (fun x => x = false → t.Even ∧ (ls.length : Int) = t.w * t.h ∧ t.w * t.h ≤ 262144 ∧ 0 ≤ gen ∧ gen ≤ 562949953421312 ∧ 0 ≤ n ∧ n ≤ 262144 / (ls.length : Int)) ?_ ?_
  · -- the region
    refine WP.region ?_
    refine L.move rfl ?_
    refine L.not rfl ?_
    refine L.move rfl ?_
    refine L.loadN T24.ag rfl rfl (Rds.all 0 rfl) ?_
    refine WL.call rfl rfl F5.fn rfl (FT.pureR fun g gS dj => top_ends t 262144 ⟨by omega, by omega, by omega, by omega, by omega⟩) ?_; rintro _ _ ⟨⟨bE, rfl, hE⟩, rfl⟩
    rcases Bool.eq_false_or_eq_true bE with rfl | rfl
    · -- true
      refine L.not rfl ?_
      refine L.pickF rfl rfl ?_
      refine L.move rfl ?_
      refine L.fieldAddr (o' := 0) T24.f0 rfl rfl ?_
      refine L.load T5.sc rfl (Rd.own 0 rfl rfl) ?_
      refine L.gtrD rfl rfl (fun h46 => ?_) (fun h46 => ?_)
      · -- true
        refine L.pickF rfl rfl ?_
        refine L.move rfl ?_
        iterate 8 refine L.skip ?_
        refine L.pickT rfl rfl ?_
        refine L.move rfl ?_
        iterate 4 refine L.skip ?_
        refine L.pickT rfl rfl ?_
        refine L.move rfl ?_
        iterate 8 refine L.skip ?_
        refine L.pickT rfl rfl ?_
        refine L.move rfl ?_
        iterate 2 refine L.skip ?_
        refine L.pickT rfl rfl ?_
        refine L.move rfl ?_
        iterate 2 refine L.skip ?_
        refine L.pickT rfl rfl ?_
        refine L.move rfl ?_
        iterate 2 refine L.skip ?_
        refine L.pickT rfl rfl ?_
        refine L.move rfl ?_
        iterate 5 refine L.skip ?_
        refine L.pickT rfl rfl ?_
        refine WL.nil (X.thenN ⟨_, ?_, (Env.Sub.cons rfl rfl (Env.Sub.cons rfl rfl (Env.Sub.cons rfl rfl (Env.Sub.cons rfl rfl (Env.Sub.cons rfl rfl (Env.Sub.cons rfl rfl (Env.Sub.cons rfl rfl (Env.Sub.cons rfl rfl Env.Sub.nil)))))))), Ent.refl _⟩)
        intro hx
        first
          | exact absurd hx (by decide)
          | exact ⟨⟨⟨hk0, by omega, hw0, hh0⟩, by omega, by omega, Int.emod_eq_zero_of_dvd (Int.dvd_of_tmod_eq_zero (by omega))⟩, by omega, by omega, by omega, by omega, by omega, by have := of_decide_eq_false hx; omega⟩
      · -- false
        refine L.pickF rfl rfl ?_
        refine L.move rfl ?_
        refine L.fieldAddr (o' := 1) T24.f1 rfl rfl ?_
        refine L.load T3.sc rfl (Rd.own 0 rfl rfl) ?_
        obtain ⟨hk0, hw0, hh0, hm⟩ := hE rfl
        have hw := hk0.w; have hh := hk0.h
        have hpos := Int.mul_pos hw0 hh0
        refine L.rem' rfl rfl (by omega) ?_
        refine L.fieldAddr (o' := 2) T24.f2 rfl rfl ?_
        refine L.load T3.sc rfl (Rd.own 0 rfl rfl) ?_
        refine L.rem' rfl rfl (by omega) ?_
        refine L.add' rfl rfl (by omega) ?_
        refine L.neqD rfl rfl (fun h56 => ?_) (fun h56 => ?_)
        · -- true
          refine L.pickF rfl rfl ?_
          refine L.move rfl ?_
          iterate 4 refine L.skip ?_
          refine L.pickT rfl rfl ?_
          refine L.move rfl ?_
          iterate 8 refine L.skip ?_
          refine L.pickT rfl rfl ?_
          refine L.move rfl ?_
          iterate 2 refine L.skip ?_
          refine L.pickT rfl rfl ?_
          refine L.move rfl ?_
          iterate 2 refine L.skip ?_
          refine L.pickT rfl rfl ?_
          refine L.move rfl ?_
          iterate 2 refine L.skip ?_
          refine L.pickT rfl rfl ?_
          refine L.move rfl ?_
          iterate 5 refine L.skip ?_
          refine L.pickT rfl rfl ?_
          refine WL.nil (X.thenN ⟨_, ?_, (Env.Sub.cons rfl rfl (Env.Sub.cons rfl rfl (Env.Sub.cons rfl rfl (Env.Sub.cons rfl rfl (Env.Sub.cons rfl rfl (Env.Sub.cons rfl rfl (Env.Sub.cons rfl rfl (Env.Sub.cons rfl rfl Env.Sub.nil)))))))), Ent.refl _⟩)
          intro hx
          first
            | exact absurd hx (by decide)
            | exact ⟨⟨⟨hk0, by omega, hw0, hh0⟩, by omega, by omega, Int.emod_eq_zero_of_dvd (Int.dvd_of_tmod_eq_zero (by omega))⟩, by omega, by omega, by omega, by omega, by omega, by have := of_decide_eq_false hx; omega⟩
        · -- false
          refine L.pickF rfl rfl ?_
          refine L.move rfl ?_
          refine L.fieldAddr (o' := 4) T24.f4 rfl rfl ?_
          refine L.load T3.sc rfl (Rd.own 0 rfl rfl) ?_
          refine L.rem rfl rfl (by omega) ?_
          refine L.neqD rfl rfl (fun h62 => ?_) (fun h62 => ?_)
          · -- true
            refine L.pickF rfl rfl ?_
            refine L.move rfl ?_
            iterate 8 refine L.skip ?_
            refine L.pickT rfl rfl ?_
            refine L.move rfl ?_
            iterate 2 refine L.skip ?_
            refine L.pickT rfl rfl ?_
            refine L.move rfl ?_
            iterate 2 refine L.skip ?_
            refine L.pickT rfl rfl ?_
            refine L.move rfl ?_
            iterate 2 refine L.skip ?_
            refine L.pickT rfl rfl ?_
            refine L.move rfl ?_
            iterate 5 refine L.skip ?_
            refine L.pickT rfl rfl ?_
            refine WL.nil (X.thenN ⟨_, ?_, (Env.Sub.cons rfl rfl (Env.Sub.cons rfl rfl (Env.Sub.cons rfl rfl (Env.Sub.cons rfl rfl (Env.Sub.cons rfl rfl (Env.Sub.cons rfl rfl (Env.Sub.cons rfl rfl (Env.Sub.cons rfl rfl Env.Sub.nil)))))))), Ent.refl _⟩)
            intro hx
            first
              | exact absurd hx (by decide)
              | exact ⟨⟨⟨hk0, by omega, hw0, hh0⟩, by omega, by omega, Int.emod_eq_zero_of_dvd (Int.dvd_of_tmod_eq_zero (by omega))⟩, by omega, by omega, by omega, by omega, by omega, by have := of_decide_eq_false hx; omega⟩
          · -- false
            refine L.pickF rfl rfl ?_
            refine L.move rfl ?_
            refine L.move rfl ?_
            refine L.lenS T25.sl rfl rfl ?_
            refine L.fieldAddr (o' := 1) T24.f1 rfl rfl ?_
            refine L.load T3.sc rfl (Rd.own 0 rfl rfl) ?_
            refine L.fieldAddr (o' := 2) T24.f2 rfl rfl ?_
            refine L.load T3.sc rfl (Rd.own 0 rfl rfl) ?_
            refine L.mul' rfl rfl (by omega) ?_
            refine L.neqD rfl rfl (fun h72 => ?_) (fun h72 => ?_)
            · -- true
              refine L.pickF rfl rfl ?_
              refine L.move rfl ?_
              iterate 2 refine L.skip ?_
              refine L.pickT rfl rfl ?_
              refine L.move rfl ?_
              iterate 2 refine L.skip ?_
              refine L.pickT rfl rfl ?_
              refine L.move rfl ?_
              iterate 2 refine L.skip ?_
              refine L.pickT rfl rfl ?_
              refine L.move rfl ?_
              iterate 5 refine L.skip ?_
              refine L.pickT rfl rfl ?_
              refine WL.nil (X.thenN ⟨_, ?_, (Env.Sub.cons rfl rfl (Env.Sub.cons rfl rfl (Env.Sub.cons rfl rfl (Env.Sub.cons rfl rfl (Env.Sub.cons rfl rfl (Env.Sub.cons rfl rfl (Env.Sub.cons rfl rfl (Env.Sub.cons rfl rfl Env.Sub.nil)))))))), Ent.refl _⟩)
              intro hx
              first
                | exact absurd hx (by decide)
                | exact ⟨⟨⟨hk0, by omega, hw0, hh0⟩, by omega, by omega, Int.emod_eq_zero_of_dvd (Int.dvd_of_tmod_eq_zero (by omega))⟩, by omega, by omega, by omega, by omega, by omega, by have := of_decide_eq_false hx; omega⟩
            · -- false
              refine L.pickF rfl rfl ?_
              refine L.move rfl ?_
              refine L.move rfl ?_
              refine L.lssD rfl rfl (fun h76 => ?_) (fun h76 => ?_)
              · -- true
                refine L.pickF rfl rfl ?_
                refine L.move rfl ?_
                iterate 2 refine L.skip ?_
                refine L.pickT rfl rfl ?_
                refine L.move rfl ?_
                iterate 2 refine L.skip ?_
                refine L.pickT rfl rfl ?_
                refine L.move rfl ?_
                iterate 5 refine L.skip ?_
                refine L.pickT rfl rfl ?_
                refine WL.nil (X.thenN ⟨_, ?_, (Env.Sub.cons rfl rfl (Env.Sub.cons rfl rfl (Env.Sub.cons rfl rfl (Env.Sub.cons rfl rfl (Env.Sub.cons rfl rfl (Env.Sub.cons rfl rfl (Env.Sub.cons rfl rfl (Env.Sub.cons rfl rfl Env.Sub.nil)))))))), Ent.refl _⟩)
                intro hx
                first
                  | exact absurd hx (by decide)
                  | exact ⟨⟨⟨hk0, by omega, hw0, hh0⟩, by omega, by omega, Int.emod_eq_zero_of_dvd (Int.dvd_of_tmod_eq_zero (by omega))⟩, by omega, by omega, by omega, by omega, by omega, by have := of_decide_eq_false hx; omega⟩
              · -- false
                refine L.pickF rfl rfl ?_
                refine L.move rfl ?_
                refine L.move rfl ?_
                refine L.gtrD rfl rfl (fun h80 => ?_) (fun h80 => ?_)
                · -- true
                  refine L.pickF rfl rfl ?_
                  refine L.move rfl ?_
                  iterate 2 refine L.skip ?_
                  refine L.pickT rfl rfl ?_
                  refine L.move rfl ?_
                  iterate 5 refine L.skip ?_
                  refine L.pickT rfl rfl ?_
                  refine WL.nil (X.thenN ⟨_, ?_, (Env.Sub.cons rfl rfl (Env.Sub.cons rfl rfl (Env.Sub.cons rfl rfl (Env.Sub.cons rfl rfl (Env.Sub.cons rfl rfl (Env.Sub.cons rfl rfl (Env.Sub.cons rfl rfl (Env.Sub.cons rfl rfl Env.Sub.nil)))))))), Ent.refl _⟩)
                  intro hx
                  first
                    | exact absurd hx (by decide)
                    | exact ⟨⟨⟨hk0, by omega, hw0, hh0⟩, by omega, by omega, Int.emod_eq_zero_of_dvd (Int.dvd_of_tmod_eq_zero (by omega))⟩, by omega, by omega, by omega, by omega, by omega, by have := of_decide_eq_false hx; omega⟩
                · -- false
                  refine L.pickF rfl rfl ?_
                  refine L.move rfl ?_
                  refine L.move rfl ?_
                  refine L.lssD rfl rfl (fun h84 => ?_) (fun h84 => ?_)
                  · -- true
                    refine L.pickF rfl rfl ?_
                    refine L.move rfl ?_
                    iterate 5 refine L.skip ?_
                    refine L.pickT rfl rfl ?_
                    refine WL.nil (X.thenN ⟨_, ?_, (Env.Sub.cons rfl rfl (Env.Sub.cons rfl rfl (Env.Sub.cons rfl rfl (Env.Sub.cons rfl rfl (Env.Sub.cons rfl rfl (Env.Sub.cons rfl rfl (Env.Sub.cons rfl rfl (Env.Sub.cons rfl rfl Env.Sub.nil)))))))), Ent.refl _⟩)
                    intro hx
                    first
                      | exact absurd hx (by decide)
                      | exact ⟨⟨⟨hk0, by omega, hw0, hh0⟩, by omega, by omega, Int.emod_eq_zero_of_dvd (Int.dvd_of_tmod_eq_zero (by omega))⟩, by omega, by omega, by omega, by omega, by omega, by have := of_decide_eq_false hx; omega⟩
                  · -- false
                    refine L.pickF rfl rfl ?_
                    refine L.move rfl ?_
                    refine L.move rfl ?_
                    refine L.move rfl ?_
                    refine L.lenS T25.sl rfl rfl ?_
                    refine L.quo' rfl rfl (by omega) ?_
                    refine L.gtr rfl rfl ?_
                    refine L.pickF rfl rfl ?_
                    refine WL.nil (X.thenN ⟨_, ?_, (Env.Sub.cons rfl rfl (Env.Sub.cons rfl rfl (Env.Sub.cons rfl rfl (Env.Sub.cons rfl rfl (Env.Sub.cons rfl rfl (Env.Sub.cons rfl rfl (Env.Sub.cons rfl rfl (Env.Sub.cons rfl rfl Env.Sub.nil)))))))), Ent.refl _⟩)
                    intro hx
                    first
                      | exact absurd hx (by decide)
                      | exact ⟨⟨⟨hk0, by omega, hw0, hh0⟩, by omega, by omega, Int.emod_eq_zero_of_dvd (Int.dvd_of_tmod_eq_zero (by omega))⟩, by omega, by omega, by omega, by omega, by omega, by have := of_decide_eq_false hx; omega⟩
    · -- false
      refine L.not rfl ?_
      refine L.pickF rfl rfl ?_
      refine L.move rfl ?_
      iterate 3 refine L.skip ?_
      refine L.pickT rfl rfl ?_
      refine L.move rfl ?_
      iterate 8 refine L.skip ?_
      refine L.pickT rfl rfl ?_
      refine L.move rfl ?_
      iterate 4 refine L.skip ?_
      refine L.pickT rfl rfl ?_
      refine L.move rfl ?_
      iterate 8 refine L.skip ?_
      refine L.pickT rfl rfl ?_
      refine L.move rfl ?_
      iterate 2 refine L.skip ?_
      refine L.pickT rfl rfl ?_
      refine L.move rfl ?_
      iterate 2 refine L.skip ?_
      refine L.pickT rfl rfl ?_
      refine L.move rfl ?_
      iterate 2 refine L.skip ?_
      refine L.pickT rfl rfl ?_
      refine L.move rfl ?_
      iterate 5 refine L.skip ?_
      refine L.pickT rfl rfl ?_
      refine WL.nil (X.thenN ⟨_, ?_, (Env.Sub.cons rfl rfl (Env.Sub.cons rfl rfl (Env.Sub.cons rfl rfl (Env.Sub.cons rfl rfl (Env.Sub.cons rfl rfl (Env.Sub.cons rfl rfl (Env.Sub.cons rfl rfl (Env.Sub.cons rfl rfl Env.Sub.nil)))))))), Ent.refl _⟩)
      intro hx
      first
        | exact absurd hx (by decide)
        | exact ⟨⟨⟨hk0, by omega, hw0, hh0⟩, by omega, by omega, Int.emod_eq_zero_of_dvd (Int.dvd_of_tmod_eq_zero (by omega))⟩, by omega, by omega, by omega, by omega, by omega, by have := of_decide_eq_false hx; omega⟩
  · -- behind it
    rintro x hx
    refine WP.cond rfl (fun h92 => ?_) (fun h92 => ?_)
    · -- then
      refine WP.regs ?_
      refine L.move rfl ?_
      refine L.assign rfl ?_
      refine WL.nil ?_
      refine WP.ret ?_
      refine X.thenR ?_
      refine X.ret rfl (Res.one rfl rfl) ?_
      first
        | exact rfl
        | (show _ = _; rw [law_back t hg hWw hHh bs hbs hturn gen n _ (loadF_lt ls W _)])
    · -- else
      obtain ⟨hg, hlen, hm, hg0, hg1, hn0, hn1⟩ := hx h92
      have hw0 := hg.w0; have hh0 := hg.h0; have hw := hg.w; have hh := hg.h
      have hpos := Int.mul_pos hw0 hh0
      obtain ⟨bl, ol, rfl, hrl⟩ := hrd (by omega)
      refine WP.skip ?_
      refine X.thenN ?_
      refine WP.seq ?_
      refine WP.regs ?_
      refine L.assign rfl ?_
      refine WL.nil ?_
      refine WP.block ?_
      refine WP.loop (X := Nat) (fun i => ⟨210, [], [(2, .slice (some ⟨bl, ol, none⟩) ls.length cap), (3, .int .i64 gen), (4, .int .i64 n), (5, .bool false), (6, .pointer (some ⟨b1, 0, none⟩)), (7, .pointer (some ⟨b2, 0, none⟩)), (15, .bool true), (16, .int .i64 (i : Int))]⟩) (fun i => [cl b2 (topoC t) 24, cl b1 (u8C bs) 22]) (fun i => i ≤ 16 ∧ ∀ j, j < i → bs.getD j 0 ≤ 15) (fun i => 16 - i) 0 (⟨by omega, fun j hj => by omega⟩) (Env.Sub.cons rfl rfl (Env.Sub.cons rfl rfl (Env.Sub.cons rfl rfl (Env.Sub.cons rfl rfl (Env.Sub.cons rfl rfl (Env.Sub.cons rfl rfl (Env.Sub.cons rfl rfl (Env.Sub.cons rfl rfl Env.Sub.nil)))))))) (Ent.refl _) ?_
      rintro i ⟨hi, hall⟩
      have hbi := hb8 i
      refine WP.seq ?_
      refine WP.regs ?_
      refine L.move rfl ?_
      refine L.lss rfl rfl ?_
      refine WL.nil ?_
      refine WP.condD rfl (fun h95 => ?_) (fun h95 => ?_)
      · -- then
        refine WP.skip ?_
        refine X.thenN ?_
        refine WP.seq ?_
        refine WP.block ?_
        refine WP.regs ?_
        refine L.move rfl ?_
        refine L.indexA T22.ar rfl rfl (by omega) ?_
        refine L.load T5.sc rfl (v := .int .u8 (bs.getD i 0)) (Rd.own 1 rfl (by rw [Nat.zero_add, Nat.mul_one, Int.toNat_natCast]; exact u8_at (by omega))) ?_
        refine L.gtr rfl rfl ?_
        refine WL.nil ?_
        refine WP.condD rfl (fun h101 => ?_) (fun h101 => ?_)
        · -- then
          refine WP.regs ?_
          refine L.move rfl ?_
          refine L.assign rfl ?_
          refine WL.nil ?_
          refine WP.ret ?_
          refine X.blockR (X.thenR (X.thenR (X.blockR (X.thenR ?_))))
          refine X.ret rfl (Res.one rfl rfl) ?_
          first
            | exact rfl
            | (show _ = _; rw [law_back t hg hWw hHh bs hbs hturn gen n _ (loadF_lt ls W _)])
        · -- else
          refine WP.skip ?_
          refine X.blockN ?_
          refine X.thenN ?_
          refine WP.region ?_
          refine L.move rfl ?_
          refine L.add' rfl rfl (by omega) ?_
          refine L.assign rfl ?_
          refine WL.nil ?_
          refine X.thenN ⟨i + 1, ⟨by omega, fun j hj => by rcases Nat.lt_or_ge j i with e | e; exact hall j e; obtain rfl : j = i := (by omega); omega⟩, by omega, (Env.Sub.cons rfl rfl (Env.Sub.cons rfl rfl (Env.Sub.cons rfl rfl (Env.Sub.cons rfl rfl (Env.Sub.cons rfl rfl (Env.Sub.cons rfl rfl (Env.Sub.cons rfl rfl (Env.Sub.cons rfl rfl Env.Sub.nil)))))))), Ent.refl _⟩
      · -- else
        refine WP.exit ?_
        refine X.thenE (X.thenE (X.blockE ?_))
        refine X.thenN ?_
        refine WP.regs ?_
        have hbs : Blk bs := ⟨hl16, fun j => by
          rcases Nat.lt_or_ge j 16 with e | e
          · exact ⟨(hb8 j).1, hall j (by omega)⟩
          · rw [getD_ge (by omega)]; omega⟩
        obtain ⟨W, hWw⟩ : ∃ W : Nat, (W : Int) = t.w := ⟨t.w.toNat, by omega⟩
        obtain ⟨H, hHh⟩ : ∃ H : Nat, (H : Int) = t.h := ⟨t.h.toNat, by omega⟩
        have hWH : ls.length = W * H := by have := hlen; rw [← hWw, ← hHh, ← Int.natCast_mul] at this; omega
        refine L.fieldAddr (o' := 1) T24.f1 rfl rfl ?_
        refine L.load T3.sc rfl (v := .int .i64 (W : Int)) (Rd.own 0 rfl (by rw [hWw]; rfl)) ?_
        refine L.fieldAddr (o' := 2) T24.f2 rfl rfl ?_
        refine L.load T3.sc rfl (v := .int .i64 (H : Int)) (Rd.own 0 rfl (by rw [hHh]; rfl)) ?_
        refine L.move rfl ?_
        refine WL.call rfl rfl F6.fn rfl (FT.make fun g gS dj => field_New_bytes W H (by omega) (by omega) (by omega) (by omega) (by rw [hWw, hHh]; omega)) ?_; rintro _ _ ⟨_, ⟨c, rfl, rfl⟩, rfl⟩
        refine L.move rfl ?_
        refine L.extract rfl rfl ?_
        refine L.extract rfl rfl ?_
        refine L.assign rfl ?_
        refine L.assign rfl ?_
        refine WL.nil ?_
        refine WP.seq ?_
        refine WP.regs ?_
        refine L.move rfl ?_
        refine L.eqlPtrNil T30.u rfl ?_
        refine L.move rfl ?_
        refine L.move rfl ?_
        refine L.neq rfl rfl ?_
        refine L.pickF rfl rfl ?_
        refine WL.nil ?_
        refine WP.condD rfl (fun hT => absurd hT (by omega)) (fun h117 => ?_)
        refine WP.skip ?_
        refine X.thenN ?_
        refine WP.regs ?_
        refine L.assign rfl ?_
        refine WL.nil ?_
        refine WP.seq ?_
        refine WP.regs ?_
        refine L.assign rfl ?_
        refine WL.nil ?_
        refine WP.block ?_
        refine WP.loop (X := Nat) (fun i => ⟨210, [], [(2, .slice (some ⟨bl, ol, none⟩) ls.length cap), (3, .int .i64 gen), (4, .int .i64 n), (6, .pointer (some ⟨b1, 0, none⟩)), (7, .pointer (some ⟨b2, 0, none⟩)), (17, .pointer (some ⟨c, 0, none⟩)), (18, .int .i64 ((popL ls i : Nat) : Int)), (19, .int .i64 (i : Int))]⟩) (fun i => [fieldHP c false W H 2 (loadF ls W i), cl b2 (topoC t) 24, cl b1 (u8C bs) 22]) (fun i => i ≤ ls.length) (fun i => ls.length - i) 0 (Nat.zero_le _) (Env.Sub.cons rfl rfl (Env.Sub.cons rfl rfl (Env.Sub.cons rfl rfl (Env.Sub.cons rfl rfl (Env.Sub.cons rfl rfl (Env.Sub.cons rfl rfl (Env.Sub.cons rfl rfl (Env.Sub.cons rfl rfl Env.Sub.nil)))))))) (Ent.refl _) ?_
        intro i hi
        refine WP.seq ?_
        refine WP.regs ?_
        refine L.move rfl ?_
        refine L.move rfl ?_
        refine L.lenS T25.sl rfl rfl ?_
        refine L.lss rfl rfl ?_
        refine WL.nil ?_
        refine WP.condD rfl (fun h121 => ?_) (fun h121 => ?_)
        · -- then
          have hlsi := hls i
          have hpl := popL_le ls i
          refine WP.skip ?_
          refine X.thenN ?_
          refine WP.seq ?_
          refine WP.block ?_
          refine WP.regs ?_
          refine L.move rfl ?_
          refine L.move rfl ?_
          refine L.indexS T25.sl rfl rfl (by omega) ?_
          refine L.load T5.sc rfl (v := .int .u8 (ls.getD i 0)) (Rd.ro (by rw [Nat.mul_one, Int.toNat_natCast]; exact hrl i (by omega))) ?_
          refine L.rem' rfl rfl (by omega) ?_
          refine L.eql rfl rfl ?_
          refine WL.nil ?_
          refine WP.condD rfl (fun h129 => ?_) (fun h129 => ?_)
          · -- then
            refine WP.regs ?_
            refine L.move rfl ?_
            refine L.add' rfl rfl (by omega) ?_
            refine L.assign rfl ?_
            refine WL.nil ?_
            refine WP.seq ?_
            refine WP.rege [(0, true), (1, true), (2, true), (3, true), (4, true), (5, true), (6, true), (7, true), (8, true), (9, false), (10, false)] 9 rfl (by kernel_rfl) (PInv.then (PInv.block (PInv.then (PInv.then (PInv.block (PInv.then PInv.ret)))))) rfl ?_
            refine WE.take rfl (V.move rfl) ?_
            refine WE.take rfl (V.move rfl) ?_
            refine WE.take rfl (V.fieldAddr (o' := 1) T24.f1 rfl rfl) ?_
            refine WE.take rfl (V.load T3.sc rfl (v := .int .i64 (W : Int)) (Rd.own 1 rfl (by rw [hWw]; rfl))) ?_
            refine WE.take rfl (V.rem' rfl rfl (by omega)) ?_
            refine WE.take rfl (V.move rfl) ?_
            refine WE.take rfl (V.fieldAddr (o' := 1) T24.f1 rfl rfl) ?_
            refine WE.take rfl (V.load T3.sc rfl (v := .int .i64 (W : Int)) (Rd.own 1 rfl (by rw [hWw]; rfl))) ?_
            refine WE.take rfl (V.quo' rfl rfl (by omega)) ?_
            refine WE.last rfl ?_
            rw [show ((i : Int) % (W : Int)) = ((i % W : Nat) : Int) from (Int.natCast_emod i W).symm, show ((i : Int) / (W : Int)) = ((i / W : Nat) : Int) from (Int.natCast_ediv i W).symm]
            refine WL.call rfl rfl F7.fn rfl (FT.part [fieldHP c false W H 2 (loadF ls W i)] _ (Ent.refl _) fun g gS dj => field_Set_bytes (i % W) (i / W) 1 (Nat.mod_lt _ (by omega)) (Nat.div_lt_of_lt_mul (by omega)) (by omega)) ?_; rintro _ _ ⟨_, ⟨rfl, rfl⟩, rfl⟩
            refine WL.nil ?_
            refine WE.more rfl ?_
            refine L.neq rfl rfl ?_
            refine WL.nil ?_
            refine WE.nil ?_
            refine X.thenN ?_
            refine WP.condD rfl (fun hT => absurd hT (by omega)) (fun h142 => ?_)
            refine WP.skip ?_
            refine X.blockN ?_
            refine X.thenN ?_
            refine WP.region ?_
            refine L.move rfl ?_
            refine L.add' rfl rfl (by omega) ?_
            refine L.assign rfl ?_
            refine WL.nil ?_
            refine X.thenN ⟨i + 1, by omega, by omega, (Env.Sub.cons rfl rfl (Env.Sub.cons rfl rfl (Env.Sub.cons rfl rfl (Env.Sub.cons rfl rfl (Env.Sub.cons rfl rfl (Env.Sub.cons rfl rfl (Env.Sub.cons rfl (congrArg (Value.int .i64) (by rw [popL, if_pos h129]; omega)) (Env.Sub.cons rfl rfl Env.Sub.nil)))))))), Ent.of_eq (by rw [loadF, if_pos h129]; rfl)⟩
          · -- else
            refine WP.skip ?_
            refine X.blockN ?_
            refine X.thenN ?_
            refine WP.region ?_
            refine L.move rfl ?_
            refine L.add' rfl rfl (by omega) ?_
            refine L.assign rfl ?_
            refine WL.nil ?_
            refine X.thenN ⟨i + 1, by omega, by omega, (Env.Sub.cons rfl rfl (Env.Sub.cons rfl rfl (Env.Sub.cons rfl rfl (Env.Sub.cons rfl rfl (Env.Sub.cons rfl rfl (Env.Sub.cons rfl rfl (Env.Sub.cons rfl (congrArg (Value.int .i64) (by rw [popL, if_neg h129])) (Env.Sub.cons rfl rfl Env.Sub.nil)))))))), Ent.of_eq (by rw [loadF, if_neg h129])⟩
        · -- else
          refine WP.exit ?_
          refine X.thenE (X.thenE (X.blockE ?_))
          refine X.thenN ?_
          refine WP.regs ?_
          obtain rfl : i = ls.length := by omega
          have hpl := popL_le ls ls.length
          have hwk : n ≤ 67108864 / (t.w * t.h) := by
            have h1 : (262144 : Int) / (ls.length : Int) ≤ 67108864 / (ls.length : Int) := Int.ediv_le_ediv (by omega) (by omega)
            rw [← hlen]; omega
          have hn2 : n ≤ 262144 := by have := Int.ediv_le_self (a := 262144) (ls.length : Int) (by omega); omega
          refine L.loadN T22.ag rfl (by simp [hl16]) (Rds.all 2 rfl) ?_
          refine L.loadN T24.ag rfl rfl (Rds.all 1 rfl) ?_
          refine L.move rfl ?_
          refine L.move rfl ?_
          refine L.move rfl ?_
          refine WL.call rfl rfl F8.fn rfl (FT.make fun g gS dj => block_Run_fwd_bytes bs hbs t hg hWw hHh gen n ⟨by omega, by omega⟩ ⟨by omega, by omega⟩ (fun h => absurd h (by omega)) ⟨hwk, by omega⟩ (by omega) (In.of_stars' 0 rfl gS dj)) ?_; rintro _ _ ⟨_, ⟨c2, rfl, rfl⟩, rfl⟩
          refine L.move rfl ?_
          refine L.extract rfl rfl ?_
          refine L.extract rfl rfl ?_
          refine L.assign rfl ?_
          refine L.assign rfl ?_
          refine WL.nil ?_
          refine WP.regs ?_
          refine L.loadN T22.ag rfl (by simp [hl16]) (Rds.all 3 rfl) ?_
          refine WL.callV rfl rfl F4.fn rfl (fun g gS dj => block_Turns bs hbs) ?_   -- vivarium/block.Turns slot 154
          refine L.move rfl ?_
          refine L.extract rfl rfl ?_
          refine L.extract rfl rfl ?_
          refine L.assign rfl ?_
          refine L.assign rfl ?_
          refine WL.nil ?_
          refine WP.regs ?_
          refine L.loadN T22.ag rfl (by simp [hl16]) (Rds.all 3 rfl) ?_
          refine WL.callV rfl rfl F9.fn rfl (fun g gS dj => block_Counts bs hbs) ?_   -- vivarium/block.Counts slot 159
          refine L.move rfl ?_
          refine L.extract rfl rfl ?_
          refine L.extract rfl rfl ?_
          refine L.assign rfl ?_
          refine L.assign rfl ?_
          refine WL.nil ?_
          refine WP.seq ?_
          refine WP.regs ?_
          refine L.move rfl ?_
          refine L.eqlPtrNil T30.u rfl ?_
          refine L.move rfl ?_
          refine L.move rfl ?_
          refine L.neqD rfl rfl (fun hT => absurd hT (by omega)) (fun h166 => ?_)
          refine L.pickF rfl rfl ?_
          refine L.move rfl ?_
          refine L.move rfl ?_
          refine L.neqD rfl rfl (fun hT => absurd hT (by omega)) (fun h170 => ?_)
          refine L.pickF rfl rfl ?_
          refine L.move rfl ?_
          refine L.move rfl ?_
          refine L.neqD rfl rfl (fun hT => absurd hT (by omega)) (fun h174 => ?_)
          refine L.pickF rfl rfl ?_
          refine L.move rfl ?_
          refine L.move rfl ?_
          refine WL.valB rfl rfl (V.move rfl) (fun hc => ?_) (fun hc => ?_)
          · -- true
            refine L.move rfl ?_
            refine WL.callV rfl rfl F10.fn rfl (fun g gS dj => field_Pop_bytes (In.of_stars' 0 rfl gS dj)) ?_   -- (*vivarium/field.Field).Pop slot 180
            refine L.move rfl ?_
            refine L.neq rfl rfl ?_
            refine L.pickT rfl rfl ?_
            refine L.pickF rfl rfl ?_
            refine WL.nil ?_
            refine WP.condD rfl (fun hT => absurd hT (fun hne => hne (by rw [law_pop t hg hWw hHh bs hbs hc _ _ (loadF_lt ls W _), loadF_pop ls (by omega) (by omega), wrap_i64 (by omega)]))) (fun h184 => ?_)
            refine WP.skip ?_
            refine X.thenN ?_
            refine WP.seq ?_
            refine WP.regs ?_
            refine L.move rfl ?_
            refine L.not rfl ?_
            refine WL.nil ?_
            refine WP.cond rfl (fun h186 => ?_) (fun h186 => ?_)
            · -- then
              refine WP.regs ?_
              refine L.assign rfl ?_
              refine WL.nil ?_
              refine WP.ret ?_
              refine X.thenR ?_
              refine X.ret rfl (Res.one rfl rfl) ?_
              first
                | exact rfl
                | (show _ = _; rw [law_back t hg hWw hHh bs hbs hturn gen n _ (loadF_lt ls W _)])
            · -- else
              have hturn : seenTo bs 16 = onceTo 16 := by simpa using h186
              refine WP.skip ?_
              refine X.thenN ?_
              refine WP.regs ?_
              refine L.loadN T22.ag rfl (by simp [hl16]) (Rds.all 3 rfl) ?_
              refine L.loadN T24.ag rfl rfl (Rds.all 2 rfl) ?_
              refine L.move rfl ?_
              refine L.move rfl ?_
              refine L.move rfl ?_
              refine L.add' rfl rfl (by omega) ?_
              refine L.move rfl ?_
              refine L.neg' rfl (by omega) ?_
              refine WL.call rfl rfl F8.fn rfl (FT.make fun g gS dj => block_Again_bytes bs hbs t hg hWw hHh gen n ⟨by omega, by omega⟩ ⟨by omega, by omega⟩ (by omega) hturn hwk (In.of_stars' 0 rfl gS dj)) ?_; rintro _ _ ⟨_, ⟨c3, rfl, rfl⟩, rfl⟩
              refine L.move rfl ?_
              refine L.extract rfl rfl ?_
              refine L.extract rfl rfl ?_
              refine L.assign rfl ?_
              refine L.assign rfl ?_
              refine WL.nil ?_
              refine WP.regs ?_
              refine L.move rfl ?_
              refine L.neqPtrNil T30.u rfl ?_
              refine L.move rfl ?_
              refine L.move rfl ?_
              refine L.eqlD rfl rfl (fun h203 => ?_) (fun hF => absurd hF (by omega))
              refine L.pickT rfl rfl ?_
              refine L.move rfl ?_
              refine L.move rfl ?_
              refine L.move rfl ?_
              refine WL.callV rfl rfl F11.fn rfl (fun g gS dj => field_Same_bytes (In.of_stars' 0 rfl gS dj) (In.of_stars' 2 rfl gS dj)) ?_   -- (*vivarium/field.Field).Same slot 208
              refine L.pickT rfl rfl ?_
              refine L.assign rfl ?_
              refine WL.nil ?_
              refine WP.ret ?_
              refine X.ret rfl (Res.one rfl rfl) ?_
              first
                | exact rfl
                | (show _ = _; rw [law_back t hg hWw hHh bs hbs hturn gen n _ (loadF_lt ls W _)])
          · -- false
            iterate 4 refine L.skip ?_
            refine L.pickF rfl rfl ?_
            refine L.pickF rfl rfl ?_
            refine WL.nil ?_
            refine WP.condF rfl ?_
            refine WP.skip ?_
            refine X.thenN ?_
            refine WP.seq ?_
            refine WP.regs ?_
            refine L.move rfl ?_
            refine L.not rfl ?_
            refine WL.nil ?_
            refine WP.cond rfl (fun h186 => ?_) (fun h186 => ?_)
            · -- then
              refine WP.regs ?_
              refine L.assign rfl ?_
              refine WL.nil ?_
              refine WP.ret ?_
              refine X.thenR ?_
              refine X.ret rfl (Res.one rfl rfl) ?_
              first
                | exact rfl
                | (show _ = _; rw [law_back t hg hWw hHh bs hbs hturn gen n _ (loadF_lt ls W _)])
            · -- else
              have hturn : seenTo bs 16 = onceTo 16 := by simpa using h186
              refine WP.skip ?_
              refine X.thenN ?_
              refine WP.regs ?_
              refine L.loadN T22.ag rfl (by simp [hl16]) (Rds.all 3 rfl) ?_
              refine L.loadN T24.ag rfl rfl (Rds.all 2 rfl) ?_
              refine L.move rfl ?_
              refine L.move rfl ?_
              refine L.move rfl ?_
              refine L.add' rfl rfl (by omega) ?_
              refine L.move rfl ?_
              refine L.neg' rfl (by omega) ?_
              refine WL.call rfl rfl F8.fn rfl (FT.make fun g gS dj => block_Again_bytes bs hbs t hg hWw hHh gen n ⟨by omega, by omega⟩ ⟨by omega, by omega⟩ (by omega) hturn hwk (In.of_stars' 0 rfl gS dj)) ?_; rintro _ _ ⟨_, ⟨c3, rfl, rfl⟩, rfl⟩
              refine L.move rfl ?_
              refine L.extract rfl rfl ?_
              refine L.extract rfl rfl ?_
              refine L.assign rfl ?_
              refine L.assign rfl ?_
              refine WL.nil ?_
              refine WP.regs ?_
              refine L.move rfl ?_
              refine L.neqPtrNil T30.u rfl ?_
              refine L.move rfl ?_
              refine L.move rfl ?_
              refine L.eqlD rfl rfl (fun h203 => ?_) (fun hF => absurd hF (by omega))
              refine L.pickT rfl rfl ?_
              refine L.move rfl ?_
              refine L.move rfl ?_
              refine L.move rfl ?_
              refine WL.callV rfl rfl F11.fn rfl (fun g gS dj => field_Same_bytes (In.of_stars' 0 rfl gS dj) (In.of_stars' 2 rfl gS dj)) ?_   -- (*vivarium/field.Field).Same slot 208
              refine L.pickT rfl rfl ?_
              refine L.assign rfl ?_
              refine WL.nil ?_
              refine WP.ret ?_
              refine X.ret rfl (Res.one rfl rfl) ?_
              first
                | exact rfl
                | (show _ = _; rw [law_back t hg hWw hHh bs hbs hturn gen n _ (loadF_lt ls W _)])

end

end Go.Eng
