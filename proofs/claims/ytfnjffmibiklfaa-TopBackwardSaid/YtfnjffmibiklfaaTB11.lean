/- Walks of the seat's functions over those rules, and plain laws of what they compute. No conditions beyond those in each theorem. -/
import Derived.Test.YtfnjffmibiklfaaTB10
namespace Go.Eng
open Go.RowKit Go.Proofs
set_option linter.unusedSimpArgs false
set_option linter.unusedVariables false

/-- What a field's numbers must be. -/
structure FOk (p : Bool) (W H S : Nat) (F : Nat → Nat → Nat) : Prop where
  w0 : 0 < W
  w : W ≤ 65536
  h0 : 0 < H
  h : H ≤ 65536
  s0 : 2 ≤ S
  s : S ≤ 256
  p : p = true → S = 2
  F : ∀ x y, F x y < S
abbrev fieldC (p : Bool) (W H S : Nat) (v : Value) : List Value := [.int .i64 (W : Int), .int .i64 (H : Int), .int .i64 (S : Int), .bool p, v]
/-- A field of cells. -/
def fieldHP (f : Nat) (p : Bool) (W H S : Nat) (F : Nat → Nat → Nat) : HP :=
  exP fun v : Value => andP (FOk p W H S F) (starsP [cl f (fieldC p W H S v) 46, storeHP p W H F v])
abbrev stT (p : Bool) : Nat := if p then 72 else 80
theorem In.store {p : Bool} {W H : Nat} {F : Nat → Nat → Nat} {v : Value} {h : Hp} (i : In (storeHP p W H F v) h) : ∃ rv, v = .iface (stT p) rv := by
  cases p with
  | true => obtain ⟨sl, i⟩ := In.ex i; obtain ⟨r, i⟩ := i.ex; exact ⟨_, i.and.1.1⟩
  | false => obtain ⟨sl, i⟩ := In.ex i; obtain ⟨r, i⟩ := i.ex; exact ⟨_, i.and.1⟩
theorem In.field {f : Nat} {p : Bool} {W H S : Nat} {F : Nat → Nat → Nat} {h : Hp} (i : In (fieldHP f p W H S F) h) :
    FOk p W H S F ∧ ∃ rv, h f = some (.cells (fieldC p W H S (.iface (stT p) rv)).toArray 46) ∧ In (storeHP p W H F (.iface (stT p) rv)) h := by
  obtain ⟨v, i⟩ := i.ex; obtain ⟨hk, i⟩ := i.and
  have i2 := i.stars 1 rfl
  obtain ⟨rv, rfl⟩ := i2.store
  exact ⟨hk, rv, (i.stars 0 rfl).cl, i2⟩
theorem St.inn {k : World} {h0 : Hp} {σ : List HP} {w : World} {q : HP} (i : Nat) (hi : σ[i]? = some q) (h : St k h0 σ w) : ∃ g, In q g := by
  obtain ⟨h1, s, _, _⟩ := h.own
  exact ⟨h1, In.of_stars i hi s⟩
theorem FT.field {k : World} {h0 : Hp} {τ : List HP} {f : FuncId} {vs : List Value} {R : Ending → List HP → Prop} {b : Nat} {p : Bool} {W H S : Nat} {F : Nat → Nat → Nat}
    (h : ∀ rv, FOk p W H S F → FT Pg f vs k h0 (cl b (fieldC p W H S (.iface (stT p) rv)) 46 :: storeHP p W H F (.iface (stT p) rv) :: τ) R) : FT Pg f vs k h0 (fieldHP b p W H S F :: τ) R := by
  refine FT.ex fun v => FT.and fun hk => FT.ent Ent.stars ?_
  refine FT.fact (φ := ∃ rv, v = .iface (stT p) rv) (fun _ _ _ s => by obtain ⟨g, i⟩ := s.inn 1 rfl; exact i.store) fun ⟨rv, e⟩ => ?_
  subst e
  exact h rv hk
theorem Ent.field {τ : List HP} {b : Nat} {p : Bool} {W H S : Nat} {F : Nat → Nat → Nat} {v : Value} (hk : FOk p W H S F) :
    Ent (cl b (fieldC p W H S v) 46 :: storeHP p W H F v :: τ) (fieldHP b p W H S F :: τ) :=
  (Ent.shut (τ := [cl b (fieldC p W H S v) 46, storeHP p W H F v])).trans ((Ent.and (φ := FOk p W H S F) hk).trans (Ent.ex (p := fun v => andP (FOk p W H S F) (starsP [cl b (fieldC p W H S v) 46, storeHP p W H F v])) v))
section
variable {k : World} {h0 : Hp}

set_option maxRecDepth 10000 in
theorem field_none {b : Nat} {W H S : Nat} {p : Bool} {tt : Nat} {rv : Value} (hb : h0 b = some (.cells [.int .i64 (W : Int), .int .i64 (H : Int), .int .i64 (S : Int), .bool p, .iface tt rv].toArray 46)) : FT Pg 15 [.pointer (some ⟨b, 0, none⟩)] k h0 [] (Is (.bool false)) := by
  refine FT.of_wp (n := 12) Try.func15 rfl rfl rfl ?_
  refine WP.regs ?_
  refine L.assign rfl ?_
  refine WL.nil ?_
  refine WP.regs ?_
  refine L.move rfl ?_
  refine L.eqlPtrNil T30.u rfl ?_
  refine L.move rfl ?_
  refine L.move rfl ?_
  refine L.nilCheck rfl ?_
  refine L.fieldAddr (o' := 4) T46.f2 rfl rfl ?_
  refine L.load T43.sc rfl (Rd.of hb rfl) ?_
  refine L.eqlIfaceNil T43.i rfl ?_
  refine L.pickF rfl rfl ?_
  refine L.assign rfl ?_
  refine WL.nil ?_
  refine WP.ret ?_
  refine X.ret rfl (Res.one rfl rfl) ?_
  exact rfl

set_option maxRecDepth 10000 in
theorem shape_has (W H S x y : Nat) (hx : x < W) (hy : y < H) : FT Pg 16 [.agg [Value.int .i64 (W : Int), .int .i64 (H : Int), .int .i64 (S : Int)].toArray, .int .i64 (x : Int), .int .i64 (y : Int)] k h0 [] (Is (.bool true)) := by
  refine FT.of_wp (n := 25) Try.func16 rfl rfl rfl ?_
  refine WP.regs ?_
  refine L.box rfl rfl ?_; intro b1
  refine L.assign rfl ?_
  refine WL.nil ?_
  refine WP.regs ?_
  refine L.move rfl ?_
  refine L.geqD rfl rfl (fun h8 => ?_) (fun hF => absurd hF (by omega))
  refine L.move rfl ?_
  refine L.move rfl ?_
  refine L.fieldAddr (o' := 0) T41.f0 rfl rfl ?_
  refine L.load T3.sc rfl (Rd.own 0 rfl rfl) ?_
  refine L.lssD rfl rfl (fun h13 => ?_) (fun hF => absurd hF (by omega))
  refine L.pickT rfl rfl ?_
  refine L.move rfl ?_
  refine L.move rfl ?_
  refine L.geqD rfl rfl (fun h17 => ?_) (fun hF => absurd hF (by omega))
  refine L.pickT rfl rfl ?_
  refine L.move rfl ?_
  refine L.move rfl ?_
  refine L.fieldAddr (o' := 1) T41.f1 rfl rfl ?_
  refine L.load T3.sc rfl (Rd.own 0 rfl rfl) ?_
  refine L.lss rfl rfl ?_
  refine L.pickT rfl rfl ?_
  refine L.assign rfl ?_
  refine WL.nil ?_
  refine WP.ret ?_
  refine X.ret rfl (Res.one rfl rfl) ?_
  show _ = _
  rw [decide_eq_true (by omega)]

set_option maxRecDepth 10000 in
theorem shape_knows (W H S s : Nat) (hs : s < S) (hS : S ≤ 256) : FT Pg 17 [.agg [Value.int .i64 (W : Int), .int .i64 (H : Int), .int .i64 (S : Int)].toArray, .int .u8 (s : Int)] k h0 [] (Is (.bool true)) := by
  refine FT.of_wp (n := 10) Try.func17 rfl rfl rfl ?_
  refine WP.regs ?_
  refine L.box rfl rfl ?_; intro b1
  refine L.assign rfl ?_
  refine WL.nil ?_
  refine WP.regs ?_
  refine L.move rfl ?_
  refine L.convInt T5.u T3.u rfl ?_
  refine L.fieldAddr (o' := 2) T41.f2 rfl rfl ?_
  refine L.load T3.sc rfl (Rd.own 0 rfl rfl) ?_
  refine L.lss rfl rfl ?_
  refine L.assign rfl ?_
  refine WL.nil ?_
  refine WP.ret ?_
  refine X.ret rfl (Res.one rfl rfl) ?_
  show _ = _
  rw [wrap_i64 (by omega), decide_eq_true (by omega)]

set_option maxRecDepth 10000 in
theorem field_W {b : Nat} {W H S : Nat} {p : Bool} {tt : Nat} {rv : Value} (hb : h0 b = some (.cells [.int .i64 (W : Int), .int .i64 (H : Int), .int .i64 (S : Int), .bool p, .iface tt rv].toArray 46)) : FT Pg 28 [.pointer (some ⟨b, 0, none⟩)] k h0 [] (Is (.int .i64 (W : Int))) := by
  refine FT.of_wp (n := 10) Try.func28 rfl rfl rfl ?_
  refine WP.regs ?_
  refine L.assign rfl ?_
  refine WL.nil ?_
  refine WP.seq ?_
  refine WP.regs ?_
  refine L.move rfl ?_
  refine WL.callV rfl rfl F15.fn rfl (fun g gS dj => field_none (Hp.le_un_left _ _ _ _ hb)) ?_   -- (*vivarium/field.Field).none slot 4
  refine WL.nil ?_
  refine WP.condF rfl ?_
  refine WP.skip ?_
  refine X.thenN ?_
  refine WP.regs ?_
  refine L.move rfl ?_
  refine L.nilCheck rfl ?_
  refine L.fieldAddr (o' := 0) T46.f0 rfl rfl ?_
  refine L.fieldAddr (o' := 0) T41.f0 rfl rfl ?_
  refine L.load T3.sc rfl (Rd.of hb rfl) ?_
  refine L.assign rfl ?_
  refine WL.nil ?_
  refine WP.ret ?_
  refine X.ret rfl (Res.one rfl rfl) ?_
  exact rfl

set_option maxRecDepth 10000 in
theorem field_H {b : Nat} {W H S : Nat} {p : Bool} {tt : Nat} {rv : Value} (hb : h0 b = some (.cells [.int .i64 (W : Int), .int .i64 (H : Int), .int .i64 (S : Int), .bool p, .iface tt rv].toArray 46)) : FT Pg 30 [.pointer (some ⟨b, 0, none⟩)] k h0 [] (Is (.int .i64 (H : Int))) := by
  refine FT.of_wp (n := 10) Try.func30 rfl rfl rfl ?_
  refine WP.regs ?_
  refine L.assign rfl ?_
  refine WL.nil ?_
  refine WP.seq ?_
  refine WP.regs ?_
  refine L.move rfl ?_
  refine WL.callV rfl rfl F15.fn rfl (fun g gS dj => field_none (Hp.le_un_left _ _ _ _ hb)) ?_   -- (*vivarium/field.Field).none slot 4
  refine WL.nil ?_
  refine WP.condF rfl ?_
  refine WP.skip ?_
  refine X.thenN ?_
  refine WP.regs ?_
  refine L.move rfl ?_
  refine L.nilCheck rfl ?_
  refine L.fieldAddr (o' := 0) T46.f0 rfl rfl ?_
  refine L.fieldAddr (o' := 1) T41.f1 rfl rfl ?_
  refine L.load T3.sc rfl (Rd.of hb rfl) ?_
  refine L.assign rfl ?_
  refine WL.nil ?_
  refine WP.ret ?_
  refine X.ret rfl (Res.one rfl rfl) ?_
  exact rfl

set_option maxRecDepth 10000 in
theorem field_States {b : Nat} {W H S : Nat} {p : Bool} {tt : Nat} {rv : Value} (hb : h0 b = some (.cells [.int .i64 (W : Int), .int .i64 (H : Int), .int .i64 (S : Int), .bool p, .iface tt rv].toArray 46)) : FT Pg 31 [.pointer (some ⟨b, 0, none⟩)] k h0 [] (Is (.int .i64 (S : Int))) := by
  refine FT.of_wp (n := 10) Try.func31 rfl rfl rfl ?_
  refine WP.regs ?_
  refine L.assign rfl ?_
  refine WL.nil ?_
  refine WP.seq ?_
  refine WP.regs ?_
  refine L.move rfl ?_
  refine WL.callV rfl rfl F15.fn rfl (fun g gS dj => field_none (Hp.le_un_left _ _ _ _ hb)) ?_   -- (*vivarium/field.Field).none slot 4
  refine WL.nil ?_
  refine WP.condF rfl ?_
  refine WP.skip ?_
  refine X.thenN ?_
  refine WP.regs ?_
  refine L.move rfl ?_
  refine L.nilCheck rfl ?_
  refine L.fieldAddr (o' := 0) T46.f0 rfl rfl ?_
  refine L.fieldAddr (o' := 2) T41.f2 rfl rfl ?_
  refine L.load T3.sc rfl (Rd.of hb rfl) ?_
  refine L.assign rfl ?_
  refine WL.nil ?_
  refine WP.ret ?_
  refine X.ret rfl (Res.one rfl rfl) ?_
  exact rfl

end

end Go.Eng
