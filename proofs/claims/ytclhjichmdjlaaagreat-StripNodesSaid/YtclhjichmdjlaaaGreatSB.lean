/- Walks of the functions of the seat over those rules, and plain laws of what they compute. No conditions beyond those in each theorem. -/
import Derived.Test.YtclhjichmdjlaaaGreatSA
set_option linter.unusedSimpArgs false
set_option linter.unusedVariables false
namespace Go.Eng
open Go.RowKit Go.Proofs
def turnsD (sym near n : Int) : Int × Bool :=
 if sym = 0 ∨ sym = 6 then (n, false)
 else if sym = 3 then (if near = 3 then (0, false) else (n, true))
 else if sym = 1 ∨ sym = 4 then (if near = 3 then (0, false) else (n / 4, decide (sym = 4)))
 else if sym = 2 ∨ sym = 5 then (if near = 1 then (1, decide (sym = 5)) else (0, false))
 else if sym = 7 then (if near = 3 then (3, false) else (0, false))
 else if sym = 8 then (if near = 3 then (2, false) else (0, false))
 else if sym = 9 ∨ sym = 10 then (if near = 3 then (1, decide (sym = 10)) else (0, false))
 else (0, false)
def symOk (sym near : Int) : Prop := sym ≤ 10 ∧ hoodE near = 0 ∧ (turnsD sym near (hoodSize near)).1 ≠ 0
def TermD.Ok (t : TableD) (x : TermD) : Prop := if x.var = -1 then x.state < t.states else 0 ≤ x.var ∧ x.var < t.vars.length ∧ x.state = 0
instance (t : TableD) (x : TermD) : Decidable (x.Ok t) := by unfold TermD.Ok; infer_instance
def TransD.Bound (r : TransD) : Prop := r.out.var < 0 ∨ r.out.var = r.centre.var ∨ ∃ i, i < r.around.length ∧ (r.around.getD i .no).var = r.out.var
instance (r : TransD) : Decidable r.Bound := by unfold TransD.Bound; infer_instance
def varName : ByteArray := ByteArray.mk #[118, 97, 114]
section
variable {k : World} {h0 : Hp}
set_option maxRecDepth 10000 in
theorem scan_Name (s : ByteArray) (hs : s.size ≤ 4611686018427387904) (b : Nat) : FT Pg 220 [.pointer (some ⟨b, 0, none⟩)] k h0 [cl b [.string s, .int .i64 ((0 : Nat) : Int), .bool true] 277] (Ret fun v τ => ∃ (x : ByteArray) (e : Int) (n : Nat), v = .tuple #[.string x, .int .i64 e] ∧ τ = [cl b [.string s, .int .i64 (n : Int), .bool true] 277] ∧ (e = 0 ∧ n = s.size ↔ VName s)) := by
 refine FT.of_wp (n := 34) Tryz.func220 rfl rfl rfl ?_;refine WP.regs ?_;(iterate 2 refine L.assign rfl ?_);refine WL.nil ?_;refine WP.seq ?_;refine WP.regs ?_;refine L.move rfl ?_;refine WL.callV rfl rfl F229.fn rfl (fun g gS dj => scan_there s 0 b (Stars.cl' 0 rfl gS dj)) ?_;refine L.not rfl ?_;refine WL.nil ?_;refine WP.condF rfl ?_;refine WP.skip ?_;refine X.thenN ?_;refine WP.regs ?_;refine L.move rfl ?_;refine WL.callV rfl rfl F230.fn rfl (fun g gS dj => scan_rest s 0 b (Stars.cl' 0 rfl gS dj) (by omega)) ?_;refine L.assign rfl ?_;refine WL.nil ?_;refine WP.seq ?_;refine WP.regs ?_
 rw [extract_all]
 refine L.move rfl ?_;refine L.eqlStrD rfl rfl (fun h12 => ?_) (fun h12 => ?_)
 ·
  refine L.move rfl ?_
  iterate 4 refine L.skip ?_
  refine L.pickT rfl rfl ?_;refine WL.nil ?_;refine WP.condT rfl ?_;refine WP.regs ?_;(iterate 2 refine L.assign rfl ?_);refine WL.nil ?_;refine WP.ret ?_;refine X.thenR ?_;refine X.ret rfl (Res.two rfl rfl rfl) ?_
  exact ⟨_, rfl, _, _, 0, rfl, rfl, ⟨fun h => absurd h.1 (by decide), fun h => absurd h.1 (by rw [(bytes_nil s).1 h12]; omega)⟩⟩
 ·
  (iterate 2 refine L.move rfl ?_);refine L.indexStr  T9.u rfl rfl (by omega) (byteI_get s 0 (by have := mt (bytes_nil s).2 h12; omega)) ?_;refine WL.call rfl rfl F231.fn rfl (FT.pureR fun g gS dj => FT.rv (scan_isLetter (byteI s 0)) rfl) ?_; rintro _ _ ⟨rfl, rfl⟩
  rcases Bool.eq_false_or_eq_true (decide (letterI (byteI s 0))) with hb16 | hb16 <;> rw [hb16]
  ·
   refine L.not rfl ?_;refine L.pickF rfl rfl ?_;refine WL.nil ?_;refine WP.condF rfl ?_;refine WP.skip ?_;refine X.thenN ?_;refine WP.regs ?_;refine L.move rfl ?_;refine WL.call rfl rfl F232.fn rfl (FT.pureR fun g gS dj => scan_span s hs) ?_; rintro _ _ ⟨⟨n, rfl, hn, hall, hnot⟩, rfl⟩;refine L.assign rfl ?_;refine WL.nil ?_;refine WP.seq ?_;refine WP.regs ?_;refine L.move rfl ?_;refine L.gtr rfl rfl ?_;refine WL.nil ?_;refine WP.condD rfl (fun h22 => ?_) (fun h22 => ?_)
   ·
    refine WP.regs ?_;(iterate 2 refine L.assign rfl ?_);refine WL.nil ?_;refine WP.ret ?_;refine X.thenR ?_;refine X.ret rfl (Res.two rfl rfl rfl) ?_
    exact ⟨_, rfl, _, _, 0, rfl, rfl, ⟨fun h => absurd h.1 (by decide), fun h => absurd h.2.1 (by omega)⟩⟩
   ·
    refine WP.skip ?_;refine X.thenN ?_;refine WP.regs ?_;refine L.move rfl ?_;refine L.nilCheck rfl ?_;refine L.fieldAddr (o' := 1) T277.f1 rfl rfl ?_;refine L.load T3.sc rfl (Rd.own 0 rfl rfl) ?_;refine L.move rfl ?_;refine L.add' rfl rfl (by omega) ?_;refine L.nilCheck rfl ?_;refine L.fieldAddr (o' := 1) T277.f1 rfl rfl ?_;refine L.store T3.sc rfl rfl rfl (Wr.at 0 rfl rfl) ?_;refine WL.nil ?_;refine WP.regs ?_;(iterate 2 refine L.move rfl ?_);refine L.sliceStr T9.u rfl rfl ⟨_, rfl⟩ (by omega) ?_;(iterate 2 refine L.assign rfl ?_);refine WL.nil ?_;refine WP.ret ?_;refine X.ret rfl (Res.two rfl rfl rfl) ?_
    refine ⟨_, rfl, _, _, n, rfl, by simp, ⟨fun h => ⟨by have := mt (bytes_nil s).2 h12; omega, by omega, of_decide_eq_true hb16, fun i hi => hall i (by omega)⟩, fun h => ⟨rfl, ?_⟩⟩⟩
    rcases Nat.lt_or_ge n s.size with hlt | hge
    · exact absurd (h.2.2.2 n hlt) (hnot hlt)
    · omega
  ·
   refine L.not rfl ?_;refine L.pickF rfl rfl ?_;refine WL.nil ?_;refine WP.condT rfl ?_;refine WP.regs ?_;(iterate 2 refine L.assign rfl ?_);refine WL.nil ?_;refine WP.ret ?_;refine X.thenR ?_;refine X.ret rfl (Res.two rfl rfl rfl) ?_
   exact ⟨_, rfl, _, _, 0, rfl, rfl, ⟨fun h => absurd h.1 (by decide), fun h => absurd h.2.2.1 (of_decide_eq_false hb16)⟩⟩
set_option maxRecDepth 10000 in
theorem table_turns (sym near n : Int) (hn : 0 ≤ n ∧ n ≤ 8) : FT Pg 234 [.int .u8 sym, .int .u8 near, .int .i64 n] k h0 [] (Is (.tuple #[.int .i64 (turnsD sym near n).1, .bool (turnsD sym near n).2])) := by
 refine FT.of_wp (n := 49) Tryz.func234 rfl rfl rfl ?_;refine WP.regs ?_;(iterate 2 refine L.assign rfl ?_);refine WL.nil ?_;refine WP.regs ?_;refine L.move rfl ?_;refine L.eql rfl rfl ?_;refine L.assign rfl ?_;refine WL.nil ?_;refine WP.seq ?_;refine WP.regs ?_;refine L.move rfl ?_;refine WL.nil ?_;refine WP.block ?_;refine WP.seq ?_;refine WP.regs ?_;refine L.eql rfl rfl ?_;refine L.assign rfl ?_;refine WL.nil ?_;refine WP.condD rfl (fun h12 => ?_) (fun h12 => ?_)
 ·
  refine WP.skip ?_;refine X.thenN ?_;refine WP.condD rfl (fun h12 => ?_) (fun h12 => ?_)
  ·
   refine WP.regs ?_;refine L.move rfl ?_;(iterate 2 refine L.assign rfl ?_);refine WL.nil ?_;refine WP.ret ?_;refine X.blockR (X.thenR ?_);refine X.ret rfl (Res.two rfl rfl rfl) ?_
   first
    | (exfalso; omega)
    | (show _ = _; unfold turnsD; (try simp only [Bool.not_eq_true', Bool.not_eq_false', decide_eq_true_eq, decide_eq_false_iff_not] at *); simp [*])
  ·
   refine WP.regs ?_;refine L.eql rfl rfl ?_;refine L.assign rfl ?_;refine WL.nil ?_;refine WP.condD rfl (fun h16 => ?_) (fun h16 => ?_)
   ·
    refine WP.regs ?_;refine L.move rfl ?_;refine L.not rfl ?_;refine WL.nil ?_;refine WP.cond rfl (fun h19 => ?_) (fun h19 => ?_)
    ·
     refine WP.regs ?_;refine L.move rfl ?_;(iterate 2 refine L.assign rfl ?_);refine WL.nil ?_;refine WP.ret ?_;refine X.blockR (X.thenR ?_);refine X.ret rfl (Res.two rfl rfl rfl) ?_
     first
      | (exfalso; omega)
      | (show _ = _; unfold turnsD; (try simp only [Bool.not_eq_true', Bool.not_eq_false', decide_eq_true_eq, decide_eq_false_iff_not] at *); simp [*])
    ·
     refine WP.skip ?_;refine X.blockN ?_;refine X.thenN ?_;refine WP.regs ?_;(iterate 2 refine L.assign rfl ?_);refine WL.nil ?_;refine WP.ret ?_;refine X.ret rfl (Res.two rfl rfl rfl) ?_
     first
      | (exfalso; omega)
      | (show _ = _; unfold turnsD; (try simp only [Bool.not_eq_true', Bool.not_eq_false', decide_eq_true_eq, decide_eq_false_iff_not] at *); simp [*])
   ·
    refine WP.seq ?_;refine WP.regs ?_;refine L.eql rfl rfl ?_;refine L.assign rfl ?_;refine WL.nil ?_;refine WP.condD rfl (fun h21 => ?_) (fun h21 => ?_)
    ·
     refine WP.skip ?_;refine X.thenN ?_;refine WP.condD rfl (fun h21 => ?_) (fun h21 => ?_)
     ·
      refine WP.regs ?_;refine L.move rfl ?_;refine L.not rfl ?_;refine WL.nil ?_;refine WP.cond rfl (fun h25 => ?_) (fun h25 => ?_)
      ·
       refine WP.regs ?_;refine L.move rfl ?_;refine L.quo' rfl rfl (by omega) ?_;refine L.move rfl ?_;refine L.eql rfl rfl ?_;(iterate 2 refine L.assign rfl ?_);refine WL.nil ?_;refine WP.ret ?_;refine X.blockR (X.thenR ?_);refine X.ret rfl (Res.two rfl rfl rfl) ?_
       first
        | (exfalso; omega)
        | (show _ = _; unfold turnsD; (try simp only [Bool.not_eq_true', Bool.not_eq_false', decide_eq_true_eq, decide_eq_false_iff_not] at *); simp [*])
      ·
       refine WP.skip ?_;refine X.blockN ?_;refine X.thenN ?_;refine WP.regs ?_;(iterate 2 refine L.assign rfl ?_);refine WL.nil ?_;refine WP.ret ?_;refine X.ret rfl (Res.two rfl rfl rfl) ?_
       first
        | (exfalso; omega)
        | (show _ = _; unfold turnsD; (try simp only [Bool.not_eq_true', Bool.not_eq_false', decide_eq_true_eq, decide_eq_false_iff_not] at *); simp [*])
     ·
      refine WP.seq ?_;refine WP.regs ?_;refine L.eql rfl rfl ?_;refine L.assign rfl ?_;refine WL.nil ?_;refine WP.condD rfl (fun h30 => ?_) (fun h30 => ?_)
      ·
       refine WP.skip ?_;refine X.thenN ?_;refine WP.condD rfl (fun h30 => ?_) (fun h30 => ?_)
       ·
        refine WP.regs ?_;refine L.move rfl ?_;refine L.eql rfl rfl ?_;refine WL.nil ?_;refine WP.condD rfl (fun h34 => ?_) (fun h34 => ?_)
        ·
         refine WP.regs ?_;refine L.move rfl ?_;refine L.eql rfl rfl ?_;(iterate 2 refine L.assign rfl ?_);refine WL.nil ?_;refine WP.ret ?_;refine X.blockR (X.thenR ?_);refine X.ret rfl (Res.two rfl rfl rfl) ?_
         first
          | (exfalso; omega)
          | (show _ = _; unfold turnsD; (try simp only [Bool.not_eq_true', Bool.not_eq_false', decide_eq_true_eq, decide_eq_false_iff_not] at *); simp [*])
        ·
         refine WP.skip ?_;refine X.blockN ?_;refine X.thenN ?_;refine WP.regs ?_;(iterate 2 refine L.assign rfl ?_);refine WL.nil ?_;refine WP.ret ?_;refine X.ret rfl (Res.two rfl rfl rfl) ?_
         first
          | (exfalso; omega)
          | (show _ = _; unfold turnsD; (try simp only [Bool.not_eq_true', Bool.not_eq_false', decide_eq_true_eq, decide_eq_false_iff_not] at *); simp [*])
       ·
        refine WP.regs ?_;refine L.eql rfl rfl ?_;refine L.assign rfl ?_;refine WL.nil ?_;refine WP.condD rfl (fun h37 => ?_) (fun h37 => ?_)
        ·
         refine WP.regs ?_;refine L.move rfl ?_;refine WL.nil ?_;refine WP.condD rfl (fun h39 => ?_) (fun h39 => ?_)
         ·
          refine WP.regs ?_;(iterate 2 refine L.assign rfl ?_);refine WL.nil ?_;refine WP.ret ?_;refine X.blockR (X.thenR ?_);refine X.ret rfl (Res.two rfl rfl rfl) ?_
          first
           | (exfalso; omega)
           | (show _ = _; unfold turnsD; (try simp only [Bool.not_eq_true', Bool.not_eq_false', decide_eq_true_eq, decide_eq_false_iff_not] at *); simp [*])
         ·
          refine WP.skip ?_;refine X.blockN ?_;refine X.thenN ?_;refine WP.regs ?_;(iterate 2 refine L.assign rfl ?_);refine WL.nil ?_;refine WP.ret ?_;refine X.ret rfl (Res.two rfl rfl rfl) ?_
          first
           | (exfalso; omega)
           | (show _ = _; unfold turnsD; (try simp only [Bool.not_eq_true', Bool.not_eq_false', decide_eq_true_eq, decide_eq_false_iff_not] at *); simp [*])
        ·
         refine WP.regs ?_;refine L.eql rfl rfl ?_;refine L.assign rfl ?_;refine WL.nil ?_;refine WP.condD rfl (fun h40 => ?_) (fun h40 => ?_)
         ·
          refine WP.regs ?_;refine L.move rfl ?_;refine WL.nil ?_;refine WP.condD rfl (fun h42 => ?_) (fun h42 => ?_)
          ·
           refine WP.regs ?_;(iterate 2 refine L.assign rfl ?_);refine WL.nil ?_;refine WP.ret ?_;refine X.blockR (X.thenR ?_);refine X.ret rfl (Res.two rfl rfl rfl) ?_
           first
            | (exfalso; omega)
            | (show _ = _; unfold turnsD; (try simp only [Bool.not_eq_true', Bool.not_eq_false', decide_eq_true_eq, decide_eq_false_iff_not] at *); simp [*])
          ·
           refine WP.skip ?_;refine X.blockN ?_;refine X.thenN ?_;refine WP.regs ?_;(iterate 2 refine L.assign rfl ?_);refine WL.nil ?_;refine WP.ret ?_;refine X.ret rfl (Res.two rfl rfl rfl) ?_
           first
            | (exfalso; omega)
            | (show _ = _; unfold turnsD; (try simp only [Bool.not_eq_true', Bool.not_eq_false', decide_eq_true_eq, decide_eq_false_iff_not] at *); simp [*])
         ·
          refine WP.seq ?_;refine WP.regs ?_;refine L.eql rfl rfl ?_;refine L.assign rfl ?_;refine WL.nil ?_;refine WP.condD rfl (fun h43 => ?_) (fun h43 => ?_)
          ·
           refine WP.skip ?_;refine X.thenN ?_;refine WP.condD rfl (fun h43 => ?_) (fun h43 => ?_)
           ·
            refine WP.regs ?_;refine L.move rfl ?_;refine WL.nil ?_;refine WP.condD rfl (fun h46 => ?_) (fun h46 => ?_)
            ·
             refine WP.regs ?_;refine L.move rfl ?_;refine L.eql rfl rfl ?_;(iterate 2 refine L.assign rfl ?_);refine WL.nil ?_;refine WP.ret ?_;refine X.blockR (X.thenR ?_);refine X.ret rfl (Res.two rfl rfl rfl) ?_
             first
              | (exfalso; omega)
              | (show _ = _; unfold turnsD; (try simp only [Bool.not_eq_true', Bool.not_eq_false', decide_eq_true_eq, decide_eq_false_iff_not] at *); simp [*])
            ·
             refine WP.skip ?_;refine X.blockN ?_;refine X.thenN ?_;refine WP.regs ?_;(iterate 2 refine L.assign rfl ?_);refine WL.nil ?_;refine WP.ret ?_;refine X.ret rfl (Res.two rfl rfl rfl) ?_
             first
              | (exfalso; omega)
              | (show _ = _; unfold turnsD; (try simp only [Bool.not_eq_true', Bool.not_eq_false', decide_eq_true_eq, decide_eq_false_iff_not] at *); simp [*])
           ·
            refine WP.skip ?_;refine X.blockN ?_;refine X.thenN ?_;refine WP.regs ?_;(iterate 2 refine L.assign rfl ?_);refine WL.nil ?_;refine WP.ret ?_;refine X.ret rfl (Res.two rfl rfl rfl) ?_
            first
             | (exfalso; omega)
             | (show _ = _; unfold turnsD; (try simp only [Bool.not_eq_true', Bool.not_eq_false', decide_eq_true_eq, decide_eq_false_iff_not] at *); simp [*])
          ·
           refine WP.region ?_;refine L.eql rfl rfl ?_;refine L.assign rfl ?_;refine WL.nil ?_;refine X.thenN ?_;refine WP.condD rfl (fun h43 => ?_) (fun h43 => ?_)
           ·
            refine WP.regs ?_;refine L.move rfl ?_;refine WL.nil ?_;refine WP.condD rfl (fun h46 => ?_) (fun h46 => ?_)
            ·
             refine WP.regs ?_;refine L.move rfl ?_;refine L.eql rfl rfl ?_;(iterate 2 refine L.assign rfl ?_);refine WL.nil ?_;refine WP.ret ?_;refine X.blockR (X.thenR ?_);refine X.ret rfl (Res.two rfl rfl rfl) ?_
             first
              | (exfalso; omega)
              | (show _ = _; unfold turnsD; (try simp only [Bool.not_eq_true', Bool.not_eq_false', decide_eq_true_eq, decide_eq_false_iff_not] at *); simp [*])
            ·
             refine WP.skip ?_;refine X.blockN ?_;refine X.thenN ?_;refine WP.regs ?_;(iterate 2 refine L.assign rfl ?_);refine WL.nil ?_;refine WP.ret ?_;refine X.ret rfl (Res.two rfl rfl rfl) ?_
             first
              | (exfalso; omega)
              | (show _ = _; unfold turnsD; (try simp only [Bool.not_eq_true', Bool.not_eq_false', decide_eq_true_eq, decide_eq_false_iff_not] at *); simp [*])
           ·
            refine WP.skip ?_;refine X.blockN ?_;refine X.thenN ?_;refine WP.regs ?_;(iterate 2 refine L.assign rfl ?_);refine WL.nil ?_;refine WP.ret ?_;refine X.ret rfl (Res.two rfl rfl rfl) ?_
            first
             | (exfalso; omega)
             | (show _ = _; unfold turnsD; (try simp only [Bool.not_eq_true', Bool.not_eq_false', decide_eq_true_eq, decide_eq_false_iff_not] at *); simp [*])
      ·
       refine WP.region ?_;refine L.eql rfl rfl ?_;refine L.assign rfl ?_;refine WL.nil ?_;refine X.thenN ?_;refine WP.condD rfl (fun h30 => ?_) (fun h30 => ?_)
       ·
        refine WP.regs ?_;refine L.move rfl ?_;refine L.eql rfl rfl ?_;refine WL.nil ?_;refine WP.condD rfl (fun h34 => ?_) (fun h34 => ?_)
        ·
         refine WP.regs ?_;refine L.move rfl ?_;refine L.eql rfl rfl ?_;(iterate 2 refine L.assign rfl ?_);refine WL.nil ?_;refine WP.ret ?_;refine X.blockR (X.thenR ?_);refine X.ret rfl (Res.two rfl rfl rfl) ?_
         first
          | (exfalso; omega)
          | (show _ = _; unfold turnsD; (try simp only [Bool.not_eq_true', Bool.not_eq_false', decide_eq_true_eq, decide_eq_false_iff_not] at *); simp [*])
        ·
         refine WP.skip ?_;refine X.blockN ?_;refine X.thenN ?_;refine WP.regs ?_;(iterate 2 refine L.assign rfl ?_);refine WL.nil ?_;refine WP.ret ?_;refine X.ret rfl (Res.two rfl rfl rfl) ?_
         first
          | (exfalso; omega)
          | (show _ = _; unfold turnsD; (try simp only [Bool.not_eq_true', Bool.not_eq_false', decide_eq_true_eq, decide_eq_false_iff_not] at *); simp [*])
       ·
        refine WP.regs ?_;refine L.eql rfl rfl ?_;refine L.assign rfl ?_;refine WL.nil ?_;refine WP.condD rfl (fun h37 => ?_) (fun h37 => ?_)
        ·
         refine WP.regs ?_;refine L.move rfl ?_;refine WL.nil ?_;refine WP.condD rfl (fun h39 => ?_) (fun h39 => ?_)
         ·
          refine WP.regs ?_;(iterate 2 refine L.assign rfl ?_);refine WL.nil ?_;refine WP.ret ?_;refine X.blockR (X.thenR ?_);refine X.ret rfl (Res.two rfl rfl rfl) ?_
          first
           | (exfalso; omega)
           | (show _ = _; unfold turnsD; (try simp only [Bool.not_eq_true', Bool.not_eq_false', decide_eq_true_eq, decide_eq_false_iff_not] at *); simp [*])
         ·
          refine WP.skip ?_;refine X.blockN ?_;refine X.thenN ?_;refine WP.regs ?_;(iterate 2 refine L.assign rfl ?_);refine WL.nil ?_;refine WP.ret ?_;refine X.ret rfl (Res.two rfl rfl rfl) ?_
          first
           | (exfalso; omega)
           | (show _ = _; unfold turnsD; (try simp only [Bool.not_eq_true', Bool.not_eq_false', decide_eq_true_eq, decide_eq_false_iff_not] at *); simp [*])
        ·
         refine WP.regs ?_;refine L.eql rfl rfl ?_;refine L.assign rfl ?_;refine WL.nil ?_;refine WP.condD rfl (fun h40 => ?_) (fun h40 => ?_)
         ·
          refine WP.regs ?_;refine L.move rfl ?_;refine WL.nil ?_;refine WP.condD rfl (fun h42 => ?_) (fun h42 => ?_)
          ·
           refine WP.regs ?_;(iterate 2 refine L.assign rfl ?_);refine WL.nil ?_;refine WP.ret ?_;refine X.blockR (X.thenR ?_);refine X.ret rfl (Res.two rfl rfl rfl) ?_
           first
            | (exfalso; omega)
            | (show _ = _; unfold turnsD; (try simp only [Bool.not_eq_true', Bool.not_eq_false', decide_eq_true_eq, decide_eq_false_iff_not] at *); simp [*])
          ·
           refine WP.skip ?_;refine X.blockN ?_;refine X.thenN ?_;refine WP.regs ?_;(iterate 2 refine L.assign rfl ?_);refine WL.nil ?_;refine WP.ret ?_;refine X.ret rfl (Res.two rfl rfl rfl) ?_
           first
            | (exfalso; omega)
            | (show _ = _; unfold turnsD; (try simp only [Bool.not_eq_true', Bool.not_eq_false', decide_eq_true_eq, decide_eq_false_iff_not] at *); simp [*])
         ·
          refine WP.seq ?_;refine WP.regs ?_;refine L.eql rfl rfl ?_;refine L.assign rfl ?_;refine WL.nil ?_;refine WP.condD rfl (fun h43 => ?_) (fun h43 => ?_)
          ·
           refine WP.skip ?_;refine X.thenN ?_;refine WP.condD rfl (fun h43 => ?_) (fun h43 => ?_)
           ·
            refine WP.regs ?_;refine L.move rfl ?_;refine WL.nil ?_;refine WP.condD rfl (fun h46 => ?_) (fun h46 => ?_)
            ·
             refine WP.regs ?_;refine L.move rfl ?_;refine L.eql rfl rfl ?_;(iterate 2 refine L.assign rfl ?_);refine WL.nil ?_;refine WP.ret ?_;refine X.blockR (X.thenR ?_);refine X.ret rfl (Res.two rfl rfl rfl) ?_
             first
              | (exfalso; omega)
              | (show _ = _; unfold turnsD; (try simp only [Bool.not_eq_true', Bool.not_eq_false', decide_eq_true_eq, decide_eq_false_iff_not] at *); simp [*])
            ·
             refine WP.skip ?_;refine X.blockN ?_;refine X.thenN ?_;refine WP.regs ?_;(iterate 2 refine L.assign rfl ?_);refine WL.nil ?_;refine WP.ret ?_;refine X.ret rfl (Res.two rfl rfl rfl) ?_
             first
              | (exfalso; omega)
              | (show _ = _; unfold turnsD; (try simp only [Bool.not_eq_true', Bool.not_eq_false', decide_eq_true_eq, decide_eq_false_iff_not] at *); simp [*])
           ·
            refine WP.skip ?_;refine X.blockN ?_;refine X.thenN ?_;refine WP.regs ?_;(iterate 2 refine L.assign rfl ?_);refine WL.nil ?_;refine WP.ret ?_;refine X.ret rfl (Res.two rfl rfl rfl) ?_
            first
             | (exfalso; omega)
             | (show _ = _; unfold turnsD; (try simp only [Bool.not_eq_true', Bool.not_eq_false', decide_eq_true_eq, decide_eq_false_iff_not] at *); simp [*])
          ·
           refine WP.region ?_;refine L.eql rfl rfl ?_;refine L.assign rfl ?_;refine WL.nil ?_;refine X.thenN ?_;refine WP.condD rfl (fun h43 => ?_) (fun h43 => ?_)
           ·
            refine WP.regs ?_;refine L.move rfl ?_;refine WL.nil ?_;refine WP.condD rfl (fun h46 => ?_) (fun h46 => ?_)
            ·
             refine WP.regs ?_;refine L.move rfl ?_;refine L.eql rfl rfl ?_;(iterate 2 refine L.assign rfl ?_);refine WL.nil ?_;refine WP.ret ?_;refine X.blockR (X.thenR ?_);refine X.ret rfl (Res.two rfl rfl rfl) ?_
             first
              | (exfalso; omega)
              | (show _ = _; unfold turnsD; (try simp only [Bool.not_eq_true', Bool.not_eq_false', decide_eq_true_eq, decide_eq_false_iff_not] at *); simp [*])
            ·
             refine WP.skip ?_;refine X.blockN ?_;refine X.thenN ?_;refine WP.regs ?_;(iterate 2 refine L.assign rfl ?_);refine WL.nil ?_;refine WP.ret ?_;refine X.ret rfl (Res.two rfl rfl rfl) ?_
             first
              | (exfalso; omega)
              | (show _ = _; unfold turnsD; (try simp only [Bool.not_eq_true', Bool.not_eq_false', decide_eq_true_eq, decide_eq_false_iff_not] at *); simp [*])
           ·
            refine WP.skip ?_;refine X.blockN ?_;refine X.thenN ?_;refine WP.regs ?_;(iterate 2 refine L.assign rfl ?_);refine WL.nil ?_;refine WP.ret ?_;refine X.ret rfl (Res.two rfl rfl rfl) ?_
            first
             | (exfalso; omega)
             | (show _ = _; unfold turnsD; (try simp only [Bool.not_eq_true', Bool.not_eq_false', decide_eq_true_eq, decide_eq_false_iff_not] at *); simp [*])
    ·
     refine WP.region ?_;refine L.eql rfl rfl ?_;refine L.assign rfl ?_;refine WL.nil ?_;refine X.thenN ?_;refine WP.condD rfl (fun h21 => ?_) (fun h21 => ?_)
     ·
      refine WP.regs ?_;refine L.move rfl ?_;refine L.not rfl ?_;refine WL.nil ?_;refine WP.cond rfl (fun h25 => ?_) (fun h25 => ?_)
      ·
       refine WP.regs ?_;refine L.move rfl ?_;refine L.quo' rfl rfl (by omega) ?_;refine L.move rfl ?_;refine L.eql rfl rfl ?_;(iterate 2 refine L.assign rfl ?_);refine WL.nil ?_;refine WP.ret ?_;refine X.blockR (X.thenR ?_);refine X.ret rfl (Res.two rfl rfl rfl) ?_
       first
        | (exfalso; omega)
        | (show _ = _; unfold turnsD; (try simp only [Bool.not_eq_true', Bool.not_eq_false', decide_eq_true_eq, decide_eq_false_iff_not] at *); simp [*])
      ·
       refine WP.skip ?_;refine X.blockN ?_;refine X.thenN ?_;refine WP.regs ?_;(iterate 2 refine L.assign rfl ?_);refine WL.nil ?_;refine WP.ret ?_;refine X.ret rfl (Res.two rfl rfl rfl) ?_
       first
        | (exfalso; omega)
        | (show _ = _; unfold turnsD; (try simp only [Bool.not_eq_true', Bool.not_eq_false', decide_eq_true_eq, decide_eq_false_iff_not] at *); simp [*])
     ·
      refine WP.seq ?_;refine WP.regs ?_;refine L.eql rfl rfl ?_;refine L.assign rfl ?_;refine WL.nil ?_;refine WP.condD rfl (fun h30 => ?_) (fun h30 => ?_)
      ·
       refine WP.skip ?_;refine X.thenN ?_;refine WP.condD rfl (fun h30 => ?_) (fun h30 => ?_)
       ·
        refine WP.regs ?_;refine L.move rfl ?_;refine L.eql rfl rfl ?_;refine WL.nil ?_;refine WP.condD rfl (fun h34 => ?_) (fun h34 => ?_)
        ·
         refine WP.regs ?_;refine L.move rfl ?_;refine L.eql rfl rfl ?_;(iterate 2 refine L.assign rfl ?_);refine WL.nil ?_;refine WP.ret ?_;refine X.blockR (X.thenR ?_);refine X.ret rfl (Res.two rfl rfl rfl) ?_
         first
          | (exfalso; omega)
          | (show _ = _; unfold turnsD; (try simp only [Bool.not_eq_true', Bool.not_eq_false', decide_eq_true_eq, decide_eq_false_iff_not] at *); simp [*])
        ·
         refine WP.skip ?_;refine X.blockN ?_;refine X.thenN ?_;refine WP.regs ?_;(iterate 2 refine L.assign rfl ?_);refine WL.nil ?_;refine WP.ret ?_;refine X.ret rfl (Res.two rfl rfl rfl) ?_
         first
          | (exfalso; omega)
          | (show _ = _; unfold turnsD; (try simp only [Bool.not_eq_true', Bool.not_eq_false', decide_eq_true_eq, decide_eq_false_iff_not] at *); simp [*])
       ·
        refine WP.regs ?_;refine L.eql rfl rfl ?_;refine L.assign rfl ?_;refine WL.nil ?_;refine WP.condD rfl (fun h37 => ?_) (fun h37 => ?_)
        ·
         refine WP.regs ?_;refine L.move rfl ?_;refine WL.nil ?_;refine WP.condD rfl (fun h39 => ?_) (fun h39 => ?_)
         ·
          refine WP.regs ?_;(iterate 2 refine L.assign rfl ?_);refine WL.nil ?_;refine WP.ret ?_;refine X.blockR (X.thenR ?_);refine X.ret rfl (Res.two rfl rfl rfl) ?_
          first
           | (exfalso; omega)
           | (show _ = _; unfold turnsD; (try simp only [Bool.not_eq_true', Bool.not_eq_false', decide_eq_true_eq, decide_eq_false_iff_not] at *); simp [*])
         ·
          refine WP.skip ?_;refine X.blockN ?_;refine X.thenN ?_;refine WP.regs ?_;(iterate 2 refine L.assign rfl ?_);refine WL.nil ?_;refine WP.ret ?_;refine X.ret rfl (Res.two rfl rfl rfl) ?_
          first
           | (exfalso; omega)
           | (show _ = _; unfold turnsD; (try simp only [Bool.not_eq_true', Bool.not_eq_false', decide_eq_true_eq, decide_eq_false_iff_not] at *); simp [*])
        ·
         refine WP.regs ?_;refine L.eql rfl rfl ?_;refine L.assign rfl ?_;refine WL.nil ?_;refine WP.condD rfl (fun h40 => ?_) (fun h40 => ?_)
         ·
          refine WP.regs ?_;refine L.move rfl ?_;refine WL.nil ?_;refine WP.condD rfl (fun h42 => ?_) (fun h42 => ?_)
          ·
           refine WP.regs ?_;(iterate 2 refine L.assign rfl ?_);refine WL.nil ?_;refine WP.ret ?_;refine X.blockR (X.thenR ?_);refine X.ret rfl (Res.two rfl rfl rfl) ?_
           first
            | (exfalso; omega)
            | (show _ = _; unfold turnsD; (try simp only [Bool.not_eq_true', Bool.not_eq_false', decide_eq_true_eq, decide_eq_false_iff_not] at *); simp [*])
          ·
           refine WP.skip ?_;refine X.blockN ?_;refine X.thenN ?_;refine WP.regs ?_;(iterate 2 refine L.assign rfl ?_);refine WL.nil ?_;refine WP.ret ?_;refine X.ret rfl (Res.two rfl rfl rfl) ?_
           first
            | (exfalso; omega)
            | (show _ = _; unfold turnsD; (try simp only [Bool.not_eq_true', Bool.not_eq_false', decide_eq_true_eq, decide_eq_false_iff_not] at *); simp [*])
         ·
          refine WP.seq ?_;refine WP.regs ?_;refine L.eql rfl rfl ?_;refine L.assign rfl ?_;refine WL.nil ?_;refine WP.condD rfl (fun h43 => ?_) (fun h43 => ?_)
          ·
           refine WP.skip ?_;refine X.thenN ?_;refine WP.condD rfl (fun h43 => ?_) (fun h43 => ?_)
           ·
            refine WP.regs ?_;refine L.move rfl ?_;refine WL.nil ?_;refine WP.condD rfl (fun h46 => ?_) (fun h46 => ?_)
            ·
             refine WP.regs ?_;refine L.move rfl ?_;refine L.eql rfl rfl ?_;(iterate 2 refine L.assign rfl ?_);refine WL.nil ?_;refine WP.ret ?_;refine X.blockR (X.thenR ?_);refine X.ret rfl (Res.two rfl rfl rfl) ?_
             first
              | (exfalso; omega)
              | (show _ = _; unfold turnsD; (try simp only [Bool.not_eq_true', Bool.not_eq_false', decide_eq_true_eq, decide_eq_false_iff_not] at *); simp [*])
            ·
             refine WP.skip ?_;refine X.blockN ?_;refine X.thenN ?_;refine WP.regs ?_;(iterate 2 refine L.assign rfl ?_);refine WL.nil ?_;refine WP.ret ?_;refine X.ret rfl (Res.two rfl rfl rfl) ?_
             first
              | (exfalso; omega)
              | (show _ = _; unfold turnsD; (try simp only [Bool.not_eq_true', Bool.not_eq_false', decide_eq_true_eq, decide_eq_false_iff_not] at *); simp [*])
           ·
            refine WP.skip ?_;refine X.blockN ?_;refine X.thenN ?_;refine WP.regs ?_;(iterate 2 refine L.assign rfl ?_);refine WL.nil ?_;refine WP.ret ?_;refine X.ret rfl (Res.two rfl rfl rfl) ?_
            first
             | (exfalso; omega)
             | (show _ = _; unfold turnsD; (try simp only [Bool.not_eq_true', Bool.not_eq_false', decide_eq_true_eq, decide_eq_false_iff_not] at *); simp [*])
          ·
           refine WP.region ?_;refine L.eql rfl rfl ?_;refine L.assign rfl ?_;refine WL.nil ?_;refine X.thenN ?_;refine WP.condD rfl (fun h43 => ?_) (fun h43 => ?_)
           ·
            refine WP.regs ?_;refine L.move rfl ?_;refine WL.nil ?_;refine WP.condD rfl (fun h46 => ?_) (fun h46 => ?_)
            ·
             refine WP.regs ?_;refine L.move rfl ?_;refine L.eql rfl rfl ?_;(iterate 2 refine L.assign rfl ?_);refine WL.nil ?_;refine WP.ret ?_;refine X.blockR (X.thenR ?_);refine X.ret rfl (Res.two rfl rfl rfl) ?_
             first
              | (exfalso; omega)
              | (show _ = _; unfold turnsD; (try simp only [Bool.not_eq_true', Bool.not_eq_false', decide_eq_true_eq, decide_eq_false_iff_not] at *); simp [*])
            ·
             refine WP.skip ?_;refine X.blockN ?_;refine X.thenN ?_;refine WP.regs ?_;(iterate 2 refine L.assign rfl ?_);refine WL.nil ?_;refine WP.ret ?_;refine X.ret rfl (Res.two rfl rfl rfl) ?_
             first
              | (exfalso; omega)
              | (show _ = _; unfold turnsD; (try simp only [Bool.not_eq_true', Bool.not_eq_false', decide_eq_true_eq, decide_eq_false_iff_not] at *); simp [*])
           ·
            refine WP.skip ?_;refine X.blockN ?_;refine X.thenN ?_;refine WP.regs ?_;(iterate 2 refine L.assign rfl ?_);refine WL.nil ?_;refine WP.ret ?_;refine X.ret rfl (Res.two rfl rfl rfl) ?_
            first
             | (exfalso; omega)
             | (show _ = _; unfold turnsD; (try simp only [Bool.not_eq_true', Bool.not_eq_false', decide_eq_true_eq, decide_eq_false_iff_not] at *); simp [*])
      ·
       refine WP.region ?_;refine L.eql rfl rfl ?_;refine L.assign rfl ?_;refine WL.nil ?_;refine X.thenN ?_;refine WP.condD rfl (fun h30 => ?_) (fun h30 => ?_)
       ·
        refine WP.regs ?_;refine L.move rfl ?_;refine L.eql rfl rfl ?_;refine WL.nil ?_;refine WP.condD rfl (fun h34 => ?_) (fun h34 => ?_)
        ·
         refine WP.regs ?_;refine L.move rfl ?_;refine L.eql rfl rfl ?_;(iterate 2 refine L.assign rfl ?_);refine WL.nil ?_;refine WP.ret ?_;refine X.blockR (X.thenR ?_);refine X.ret rfl (Res.two rfl rfl rfl) ?_
         first
          | (exfalso; omega)
          | (show _ = _; unfold turnsD; (try simp only [Bool.not_eq_true', Bool.not_eq_false', decide_eq_true_eq, decide_eq_false_iff_not] at *); simp [*])
        ·
         refine WP.skip ?_;refine X.blockN ?_;refine X.thenN ?_;refine WP.regs ?_;(iterate 2 refine L.assign rfl ?_);refine WL.nil ?_;refine WP.ret ?_;refine X.ret rfl (Res.two rfl rfl rfl) ?_
         first
          | (exfalso; omega)
          | (show _ = _; unfold turnsD; (try simp only [Bool.not_eq_true', Bool.not_eq_false', decide_eq_true_eq, decide_eq_false_iff_not] at *); simp [*])
       ·
        refine WP.regs ?_;refine L.eql rfl rfl ?_;refine L.assign rfl ?_;refine WL.nil ?_;refine WP.condD rfl (fun h37 => ?_) (fun h37 => ?_)
        ·
         refine WP.regs ?_;refine L.move rfl ?_;refine WL.nil ?_;refine WP.condD rfl (fun h39 => ?_) (fun h39 => ?_)
         ·
          refine WP.regs ?_;(iterate 2 refine L.assign rfl ?_);refine WL.nil ?_;refine WP.ret ?_;refine X.blockR (X.thenR ?_);refine X.ret rfl (Res.two rfl rfl rfl) ?_
          first
           | (exfalso; omega)
           | (show _ = _; unfold turnsD; (try simp only [Bool.not_eq_true', Bool.not_eq_false', decide_eq_true_eq, decide_eq_false_iff_not] at *); simp [*])
         ·
          refine WP.skip ?_;refine X.blockN ?_;refine X.thenN ?_;refine WP.regs ?_;(iterate 2 refine L.assign rfl ?_);refine WL.nil ?_;refine WP.ret ?_;refine X.ret rfl (Res.two rfl rfl rfl) ?_
          first
           | (exfalso; omega)
           | (show _ = _; unfold turnsD; (try simp only [Bool.not_eq_true', Bool.not_eq_false', decide_eq_true_eq, decide_eq_false_iff_not] at *); simp [*])
        ·
         refine WP.regs ?_;refine L.eql rfl rfl ?_;refine L.assign rfl ?_;refine WL.nil ?_;refine WP.condD rfl (fun h40 => ?_) (fun h40 => ?_)
         ·
          refine WP.regs ?_;refine L.move rfl ?_;refine WL.nil ?_;refine WP.condD rfl (fun h42 => ?_) (fun h42 => ?_)
          ·
           refine WP.regs ?_;(iterate 2 refine L.assign rfl ?_);refine WL.nil ?_;refine WP.ret ?_;refine X.blockR (X.thenR ?_);refine X.ret rfl (Res.two rfl rfl rfl) ?_
           first
            | (exfalso; omega)
            | (show _ = _; unfold turnsD; (try simp only [Bool.not_eq_true', Bool.not_eq_false', decide_eq_true_eq, decide_eq_false_iff_not] at *); simp [*])
          ·
           refine WP.skip ?_;refine X.blockN ?_;refine X.thenN ?_;refine WP.regs ?_;(iterate 2 refine L.assign rfl ?_);refine WL.nil ?_;refine WP.ret ?_;refine X.ret rfl (Res.two rfl rfl rfl) ?_
           first
            | (exfalso; omega)
            | (show _ = _; unfold turnsD; (try simp only [Bool.not_eq_true', Bool.not_eq_false', decide_eq_true_eq, decide_eq_false_iff_not] at *); simp [*])
         ·
          refine WP.seq ?_;refine WP.regs ?_;refine L.eql rfl rfl ?_;refine L.assign rfl ?_;refine WL.nil ?_;refine WP.condD rfl (fun h43 => ?_) (fun h43 => ?_)
          ·
           refine WP.skip ?_;refine X.thenN ?_;refine WP.condD rfl (fun h43 => ?_) (fun h43 => ?_)
           ·
            refine WP.regs ?_;refine L.move rfl ?_;refine WL.nil ?_;refine WP.condD rfl (fun h46 => ?_) (fun h46 => ?_)
            ·
             refine WP.regs ?_;refine L.move rfl ?_;refine L.eql rfl rfl ?_;(iterate 2 refine L.assign rfl ?_);refine WL.nil ?_;refine WP.ret ?_;refine X.blockR (X.thenR ?_);refine X.ret rfl (Res.two rfl rfl rfl) ?_
             first
              | (exfalso; omega)
              | (show _ = _; unfold turnsD; (try simp only [Bool.not_eq_true', Bool.not_eq_false', decide_eq_true_eq, decide_eq_false_iff_not] at *); simp [*])
            ·
             refine WP.skip ?_;refine X.blockN ?_;refine X.thenN ?_;refine WP.regs ?_;(iterate 2 refine L.assign rfl ?_);refine WL.nil ?_;refine WP.ret ?_;refine X.ret rfl (Res.two rfl rfl rfl) ?_
             first
              | (exfalso; omega)
              | (show _ = _; unfold turnsD; (try simp only [Bool.not_eq_true', Bool.not_eq_false', decide_eq_true_eq, decide_eq_false_iff_not] at *); simp [*])
           ·
            refine WP.skip ?_;refine X.blockN ?_;refine X.thenN ?_;refine WP.regs ?_;(iterate 2 refine L.assign rfl ?_);refine WL.nil ?_;refine WP.ret ?_;refine X.ret rfl (Res.two rfl rfl rfl) ?_
            first
             | (exfalso; omega)
             | (show _ = _; unfold turnsD; (try simp only [Bool.not_eq_true', Bool.not_eq_false', decide_eq_true_eq, decide_eq_false_iff_not] at *); simp [*])
          ·
           refine WP.region ?_;refine L.eql rfl rfl ?_;refine L.assign rfl ?_;refine WL.nil ?_;refine X.thenN ?_;refine WP.condD rfl (fun h43 => ?_) (fun h43 => ?_)
           ·
            refine WP.regs ?_;refine L.move rfl ?_;refine WL.nil ?_;refine WP.condD rfl (fun h46 => ?_) (fun h46 => ?_)
            ·
             refine WP.regs ?_;refine L.move rfl ?_;refine L.eql rfl rfl ?_;(iterate 2 refine L.assign rfl ?_);refine WL.nil ?_;refine WP.ret ?_;refine X.blockR (X.thenR ?_);refine X.ret rfl (Res.two rfl rfl rfl) ?_
             first
              | (exfalso; omega)
              | (show _ = _; unfold turnsD; (try simp only [Bool.not_eq_true', Bool.not_eq_false', decide_eq_true_eq, decide_eq_false_iff_not] at *); simp [*])
            ·
             refine WP.skip ?_;refine X.blockN ?_;refine X.thenN ?_;refine WP.regs ?_;(iterate 2 refine L.assign rfl ?_);refine WL.nil ?_;refine WP.ret ?_;refine X.ret rfl (Res.two rfl rfl rfl) ?_
             first
              | (exfalso; omega)
              | (show _ = _; unfold turnsD; (try simp only [Bool.not_eq_true', Bool.not_eq_false', decide_eq_true_eq, decide_eq_false_iff_not] at *); simp [*])
           ·
            refine WP.skip ?_;refine X.blockN ?_;refine X.thenN ?_;refine WP.regs ?_;(iterate 2 refine L.assign rfl ?_);refine WL.nil ?_;refine WP.ret ?_;refine X.ret rfl (Res.two rfl rfl rfl) ?_
            first
             | (exfalso; omega)
             | (show _ = _; unfold turnsD; (try simp only [Bool.not_eq_true', Bool.not_eq_false', decide_eq_true_eq, decide_eq_false_iff_not] at *); simp [*])
 ·
  refine WP.region ?_;refine L.eql rfl rfl ?_;refine L.assign rfl ?_;refine WL.nil ?_;refine X.thenN ?_;refine WP.condD rfl (fun h12 => ?_) (fun h12 => ?_)
  ·
   refine WP.regs ?_;refine L.move rfl ?_;(iterate 2 refine L.assign rfl ?_);refine WL.nil ?_;refine WP.ret ?_;refine X.blockR (X.thenR ?_);refine X.ret rfl (Res.two rfl rfl rfl) ?_
   first
    | (exfalso; omega)
    | (show _ = _; unfold turnsD; (try simp only [Bool.not_eq_true', Bool.not_eq_false', decide_eq_true_eq, decide_eq_false_iff_not] at *); simp [*])
  ·
   refine WP.regs ?_;refine L.eql rfl rfl ?_;refine L.assign rfl ?_;refine WL.nil ?_;refine WP.condD rfl (fun h16 => ?_) (fun h16 => ?_)
   ·
    refine WP.regs ?_;refine L.move rfl ?_;refine L.not rfl ?_;refine WL.nil ?_;refine WP.cond rfl (fun h19 => ?_) (fun h19 => ?_)
    ·
     refine WP.regs ?_;refine L.move rfl ?_;(iterate 2 refine L.assign rfl ?_);refine WL.nil ?_;refine WP.ret ?_;refine X.blockR (X.thenR ?_);refine X.ret rfl (Res.two rfl rfl rfl) ?_
     first
      | (exfalso; omega)
      | (show _ = _; unfold turnsD; (try simp only [Bool.not_eq_true', Bool.not_eq_false', decide_eq_true_eq, decide_eq_false_iff_not] at *); simp [*])
    ·
     refine WP.skip ?_;refine X.blockN ?_;refine X.thenN ?_;refine WP.regs ?_;(iterate 2 refine L.assign rfl ?_);refine WL.nil ?_;refine WP.ret ?_;refine X.ret rfl (Res.two rfl rfl rfl) ?_
     first
      | (exfalso; omega)
      | (show _ = _; unfold turnsD; (try simp only [Bool.not_eq_true', Bool.not_eq_false', decide_eq_true_eq, decide_eq_false_iff_not] at *); simp [*])
   ·
    refine WP.seq ?_;refine WP.regs ?_;refine L.eql rfl rfl ?_;refine L.assign rfl ?_;refine WL.nil ?_;refine WP.condD rfl (fun h21 => ?_) (fun h21 => ?_)
    ·
     refine WP.skip ?_;refine X.thenN ?_;refine WP.condD rfl (fun h21 => ?_) (fun h21 => ?_)
     ·
      refine WP.regs ?_;refine L.move rfl ?_;refine L.not rfl ?_;refine WL.nil ?_;refine WP.cond rfl (fun h25 => ?_) (fun h25 => ?_)
      ·
       refine WP.regs ?_;refine L.move rfl ?_;refine L.quo' rfl rfl (by omega) ?_;refine L.move rfl ?_;refine L.eql rfl rfl ?_;(iterate 2 refine L.assign rfl ?_);refine WL.nil ?_;refine WP.ret ?_;refine X.blockR (X.thenR ?_);refine X.ret rfl (Res.two rfl rfl rfl) ?_
       first
        | (exfalso; omega)
        | (show _ = _; unfold turnsD; (try simp only [Bool.not_eq_true', Bool.not_eq_false', decide_eq_true_eq, decide_eq_false_iff_not] at *); simp [*])
      ·
       refine WP.skip ?_;refine X.blockN ?_;refine X.thenN ?_;refine WP.regs ?_;(iterate 2 refine L.assign rfl ?_);refine WL.nil ?_;refine WP.ret ?_;refine X.ret rfl (Res.two rfl rfl rfl) ?_
       first
        | (exfalso; omega)
        | (show _ = _; unfold turnsD; (try simp only [Bool.not_eq_true', Bool.not_eq_false', decide_eq_true_eq, decide_eq_false_iff_not] at *); simp [*])
     ·
      refine WP.seq ?_;refine WP.regs ?_;refine L.eql rfl rfl ?_;refine L.assign rfl ?_;refine WL.nil ?_;refine WP.condD rfl (fun h30 => ?_) (fun h30 => ?_)
      ·
       refine WP.skip ?_;refine X.thenN ?_;refine WP.condD rfl (fun h30 => ?_) (fun h30 => ?_)
       ·
        refine WP.regs ?_;refine L.move rfl ?_;refine L.eql rfl rfl ?_;refine WL.nil ?_;refine WP.condD rfl (fun h34 => ?_) (fun h34 => ?_)
        ·
         refine WP.regs ?_;refine L.move rfl ?_;refine L.eql rfl rfl ?_;(iterate 2 refine L.assign rfl ?_);refine WL.nil ?_;refine WP.ret ?_;refine X.blockR (X.thenR ?_);refine X.ret rfl (Res.two rfl rfl rfl) ?_
         first
          | (exfalso; omega)
          | (show _ = _; unfold turnsD; (try simp only [Bool.not_eq_true', Bool.not_eq_false', decide_eq_true_eq, decide_eq_false_iff_not] at *); simp [*])
        ·
         refine WP.skip ?_;refine X.blockN ?_;refine X.thenN ?_;refine WP.regs ?_;(iterate 2 refine L.assign rfl ?_);refine WL.nil ?_;refine WP.ret ?_;refine X.ret rfl (Res.two rfl rfl rfl) ?_
         first
          | (exfalso; omega)
          | (show _ = _; unfold turnsD; (try simp only [Bool.not_eq_true', Bool.not_eq_false', decide_eq_true_eq, decide_eq_false_iff_not] at *); simp [*])
       ·
        refine WP.regs ?_;refine L.eql rfl rfl ?_;refine L.assign rfl ?_;refine WL.nil ?_;refine WP.condD rfl (fun h37 => ?_) (fun h37 => ?_)
        ·
         refine WP.regs ?_;refine L.move rfl ?_;refine WL.nil ?_;refine WP.condD rfl (fun h39 => ?_) (fun h39 => ?_)
         ·
          refine WP.regs ?_;(iterate 2 refine L.assign rfl ?_);refine WL.nil ?_;refine WP.ret ?_;refine X.blockR (X.thenR ?_);refine X.ret rfl (Res.two rfl rfl rfl) ?_
          first
           | (exfalso; omega)
           | (show _ = _; unfold turnsD; (try simp only [Bool.not_eq_true', Bool.not_eq_false', decide_eq_true_eq, decide_eq_false_iff_not] at *); simp [*])
         ·
          refine WP.skip ?_;refine X.blockN ?_;refine X.thenN ?_;refine WP.regs ?_;(iterate 2 refine L.assign rfl ?_);refine WL.nil ?_;refine WP.ret ?_;refine X.ret rfl (Res.two rfl rfl rfl) ?_
          first
           | (exfalso; omega)
           | (show _ = _; unfold turnsD; (try simp only [Bool.not_eq_true', Bool.not_eq_false', decide_eq_true_eq, decide_eq_false_iff_not] at *); simp [*])
        ·
         refine WP.regs ?_;refine L.eql rfl rfl ?_;refine L.assign rfl ?_;refine WL.nil ?_;refine WP.condD rfl (fun h40 => ?_) (fun h40 => ?_)
         ·
          refine WP.regs ?_;refine L.move rfl ?_;refine WL.nil ?_;refine WP.condD rfl (fun h42 => ?_) (fun h42 => ?_)
          ·
           refine WP.regs ?_;(iterate 2 refine L.assign rfl ?_);refine WL.nil ?_;refine WP.ret ?_;refine X.blockR (X.thenR ?_);refine X.ret rfl (Res.two rfl rfl rfl) ?_
           first
            | (exfalso; omega)
            | (show _ = _; unfold turnsD; (try simp only [Bool.not_eq_true', Bool.not_eq_false', decide_eq_true_eq, decide_eq_false_iff_not] at *); simp [*])
          ·
           refine WP.skip ?_;refine X.blockN ?_;refine X.thenN ?_;refine WP.regs ?_;(iterate 2 refine L.assign rfl ?_);refine WL.nil ?_;refine WP.ret ?_;refine X.ret rfl (Res.two rfl rfl rfl) ?_
           first
            | (exfalso; omega)
            | (show _ = _; unfold turnsD; (try simp only [Bool.not_eq_true', Bool.not_eq_false', decide_eq_true_eq, decide_eq_false_iff_not] at *); simp [*])
         ·
          refine WP.seq ?_;refine WP.regs ?_;refine L.eql rfl rfl ?_;refine L.assign rfl ?_;refine WL.nil ?_;refine WP.condD rfl (fun h43 => ?_) (fun h43 => ?_)
          ·
           refine WP.skip ?_;refine X.thenN ?_;refine WP.condD rfl (fun h43 => ?_) (fun h43 => ?_)
           ·
            refine WP.regs ?_;refine L.move rfl ?_;refine WL.nil ?_;refine WP.condD rfl (fun h46 => ?_) (fun h46 => ?_)
            ·
             refine WP.regs ?_;refine L.move rfl ?_;refine L.eql rfl rfl ?_;(iterate 2 refine L.assign rfl ?_);refine WL.nil ?_;refine WP.ret ?_;refine X.blockR (X.thenR ?_);refine X.ret rfl (Res.two rfl rfl rfl) ?_
             first
              | (exfalso; omega)
              | (show _ = _; unfold turnsD; (try simp only [Bool.not_eq_true', Bool.not_eq_false', decide_eq_true_eq, decide_eq_false_iff_not] at *); simp [*])
            ·
             refine WP.skip ?_;refine X.blockN ?_;refine X.thenN ?_;refine WP.regs ?_;(iterate 2 refine L.assign rfl ?_);refine WL.nil ?_;refine WP.ret ?_;refine X.ret rfl (Res.two rfl rfl rfl) ?_
             first
              | (exfalso; omega)
              | (show _ = _; unfold turnsD; (try simp only [Bool.not_eq_true', Bool.not_eq_false', decide_eq_true_eq, decide_eq_false_iff_not] at *); simp [*])
           ·
            refine WP.skip ?_;refine X.blockN ?_;refine X.thenN ?_;refine WP.regs ?_;(iterate 2 refine L.assign rfl ?_);refine WL.nil ?_;refine WP.ret ?_;refine X.ret rfl (Res.two rfl rfl rfl) ?_
            first
             | (exfalso; omega)
             | (show _ = _; unfold turnsD; (try simp only [Bool.not_eq_true', Bool.not_eq_false', decide_eq_true_eq, decide_eq_false_iff_not] at *); simp [*])
          ·
           refine WP.region ?_;refine L.eql rfl rfl ?_;refine L.assign rfl ?_;refine WL.nil ?_;refine X.thenN ?_;refine WP.condD rfl (fun h43 => ?_) (fun h43 => ?_)
           ·
            refine WP.regs ?_;refine L.move rfl ?_;refine WL.nil ?_;refine WP.condD rfl (fun h46 => ?_) (fun h46 => ?_)
            ·
             refine WP.regs ?_;refine L.move rfl ?_;refine L.eql rfl rfl ?_;(iterate 2 refine L.assign rfl ?_);refine WL.nil ?_;refine WP.ret ?_;refine X.blockR (X.thenR ?_);refine X.ret rfl (Res.two rfl rfl rfl) ?_
             first
              | (exfalso; omega)
              | (show _ = _; unfold turnsD; (try simp only [Bool.not_eq_true', Bool.not_eq_false', decide_eq_true_eq, decide_eq_false_iff_not] at *); simp [*])
            ·
             refine WP.skip ?_;refine X.blockN ?_;refine X.thenN ?_;refine WP.regs ?_;(iterate 2 refine L.assign rfl ?_);refine WL.nil ?_;refine WP.ret ?_;refine X.ret rfl (Res.two rfl rfl rfl) ?_
             first
              | (exfalso; omega)
              | (show _ = _; unfold turnsD; (try simp only [Bool.not_eq_true', Bool.not_eq_false', decide_eq_true_eq, decide_eq_false_iff_not] at *); simp [*])
           ·
            refine WP.skip ?_;refine X.blockN ?_;refine X.thenN ?_;refine WP.regs ?_;(iterate 2 refine L.assign rfl ?_);refine WL.nil ?_;refine WP.ret ?_;refine X.ret rfl (Res.two rfl rfl rfl) ?_
            first
             | (exfalso; omega)
             | (show _ = _; unfold turnsD; (try simp only [Bool.not_eq_true', Bool.not_eq_false', decide_eq_true_eq, decide_eq_false_iff_not] at *); simp [*])
      ·
       refine WP.region ?_;refine L.eql rfl rfl ?_;refine L.assign rfl ?_;refine WL.nil ?_;refine X.thenN ?_;refine WP.condD rfl (fun h30 => ?_) (fun h30 => ?_)
       ·
        refine WP.regs ?_;refine L.move rfl ?_;refine L.eql rfl rfl ?_;refine WL.nil ?_;refine WP.condD rfl (fun h34 => ?_) (fun h34 => ?_)
        ·
         refine WP.regs ?_;refine L.move rfl ?_;refine L.eql rfl rfl ?_;(iterate 2 refine L.assign rfl ?_);refine WL.nil ?_;refine WP.ret ?_;refine X.blockR (X.thenR ?_);refine X.ret rfl (Res.two rfl rfl rfl) ?_
         first
          | (exfalso; omega)
          | (show _ = _; unfold turnsD; (try simp only [Bool.not_eq_true', Bool.not_eq_false', decide_eq_true_eq, decide_eq_false_iff_not] at *); simp [*])
        ·
         refine WP.skip ?_;refine X.blockN ?_;refine X.thenN ?_;refine WP.regs ?_;(iterate 2 refine L.assign rfl ?_);refine WL.nil ?_;refine WP.ret ?_;refine X.ret rfl (Res.two rfl rfl rfl) ?_
         first
          | (exfalso; omega)
          | (show _ = _; unfold turnsD; (try simp only [Bool.not_eq_true', Bool.not_eq_false', decide_eq_true_eq, decide_eq_false_iff_not] at *); simp [*])
       ·
        refine WP.regs ?_;refine L.eql rfl rfl ?_;refine L.assign rfl ?_;refine WL.nil ?_;refine WP.condD rfl (fun h37 => ?_) (fun h37 => ?_)
        ·
         refine WP.regs ?_;refine L.move rfl ?_;refine WL.nil ?_;refine WP.condD rfl (fun h39 => ?_) (fun h39 => ?_)
         ·
          refine WP.regs ?_;(iterate 2 refine L.assign rfl ?_);refine WL.nil ?_;refine WP.ret ?_;refine X.blockR (X.thenR ?_);refine X.ret rfl (Res.two rfl rfl rfl) ?_
          first
           | (exfalso; omega)
           | (show _ = _; unfold turnsD; (try simp only [Bool.not_eq_true', Bool.not_eq_false', decide_eq_true_eq, decide_eq_false_iff_not] at *); simp [*])
         ·
          refine WP.skip ?_;refine X.blockN ?_;refine X.thenN ?_;refine WP.regs ?_;(iterate 2 refine L.assign rfl ?_);refine WL.nil ?_;refine WP.ret ?_;refine X.ret rfl (Res.two rfl rfl rfl) ?_
          first
           | (exfalso; omega)
           | (show _ = _; unfold turnsD; (try simp only [Bool.not_eq_true', Bool.not_eq_false', decide_eq_true_eq, decide_eq_false_iff_not] at *); simp [*])
        ·
         refine WP.regs ?_;refine L.eql rfl rfl ?_;refine L.assign rfl ?_;refine WL.nil ?_;refine WP.condD rfl (fun h40 => ?_) (fun h40 => ?_)
         ·
          refine WP.regs ?_;refine L.move rfl ?_;refine WL.nil ?_;refine WP.condD rfl (fun h42 => ?_) (fun h42 => ?_)
          ·
           refine WP.regs ?_;(iterate 2 refine L.assign rfl ?_);refine WL.nil ?_;refine WP.ret ?_;refine X.blockR (X.thenR ?_);refine X.ret rfl (Res.two rfl rfl rfl) ?_
           first
            | (exfalso; omega)
            | (show _ = _; unfold turnsD; (try simp only [Bool.not_eq_true', Bool.not_eq_false', decide_eq_true_eq, decide_eq_false_iff_not] at *); simp [*])
          ·
           refine WP.skip ?_;refine X.blockN ?_;refine X.thenN ?_;refine WP.regs ?_;(iterate 2 refine L.assign rfl ?_);refine WL.nil ?_;refine WP.ret ?_;refine X.ret rfl (Res.two rfl rfl rfl) ?_
           first
            | (exfalso; omega)
            | (show _ = _; unfold turnsD; (try simp only [Bool.not_eq_true', Bool.not_eq_false', decide_eq_true_eq, decide_eq_false_iff_not] at *); simp [*])
         ·
          refine WP.seq ?_;refine WP.regs ?_;refine L.eql rfl rfl ?_;refine L.assign rfl ?_;refine WL.nil ?_;refine WP.condD rfl (fun h43 => ?_) (fun h43 => ?_)
          ·
           refine WP.skip ?_;refine X.thenN ?_;refine WP.condD rfl (fun h43 => ?_) (fun h43 => ?_)
           ·
            refine WP.regs ?_;refine L.move rfl ?_;refine WL.nil ?_;refine WP.condD rfl (fun h46 => ?_) (fun h46 => ?_)
            ·
             refine WP.regs ?_;refine L.move rfl ?_;refine L.eql rfl rfl ?_;(iterate 2 refine L.assign rfl ?_);refine WL.nil ?_;refine WP.ret ?_;refine X.blockR (X.thenR ?_);refine X.ret rfl (Res.two rfl rfl rfl) ?_
             first
              | (exfalso; omega)
              | (show _ = _; unfold turnsD; (try simp only [Bool.not_eq_true', Bool.not_eq_false', decide_eq_true_eq, decide_eq_false_iff_not] at *); simp [*])
            ·
             refine WP.skip ?_;refine X.blockN ?_;refine X.thenN ?_;refine WP.regs ?_;(iterate 2 refine L.assign rfl ?_);refine WL.nil ?_;refine WP.ret ?_;refine X.ret rfl (Res.two rfl rfl rfl) ?_
             first
              | (exfalso; omega)
              | (show _ = _; unfold turnsD; (try simp only [Bool.not_eq_true', Bool.not_eq_false', decide_eq_true_eq, decide_eq_false_iff_not] at *); simp [*])
           ·
            refine WP.skip ?_;refine X.blockN ?_;refine X.thenN ?_;refine WP.regs ?_;(iterate 2 refine L.assign rfl ?_);refine WL.nil ?_;refine WP.ret ?_;refine X.ret rfl (Res.two rfl rfl rfl) ?_
            first
             | (exfalso; omega)
             | (show _ = _; unfold turnsD; (try simp only [Bool.not_eq_true', Bool.not_eq_false', decide_eq_true_eq, decide_eq_false_iff_not] at *); simp [*])
          ·
           refine WP.region ?_;refine L.eql rfl rfl ?_;refine L.assign rfl ?_;refine WL.nil ?_;refine X.thenN ?_;refine WP.condD rfl (fun h43 => ?_) (fun h43 => ?_)
           ·
            refine WP.regs ?_;refine L.move rfl ?_;refine WL.nil ?_;refine WP.condD rfl (fun h46 => ?_) (fun h46 => ?_)
            ·
             refine WP.regs ?_;refine L.move rfl ?_;refine L.eql rfl rfl ?_;(iterate 2 refine L.assign rfl ?_);refine WL.nil ?_;refine WP.ret ?_;refine X.blockR (X.thenR ?_);refine X.ret rfl (Res.two rfl rfl rfl) ?_
             first
              | (exfalso; omega)
              | (show _ = _; unfold turnsD; (try simp only [Bool.not_eq_true', Bool.not_eq_false', decide_eq_true_eq, decide_eq_false_iff_not] at *); simp [*])
            ·
             refine WP.skip ?_;refine X.blockN ?_;refine X.thenN ?_;refine WP.regs ?_;(iterate 2 refine L.assign rfl ?_);refine WL.nil ?_;refine WP.ret ?_;refine X.ret rfl (Res.two rfl rfl rfl) ?_
             first
              | (exfalso; omega)
              | (show _ = _; unfold turnsD; (try simp only [Bool.not_eq_true', Bool.not_eq_false', decide_eq_true_eq, decide_eq_false_iff_not] at *); simp [*])
           ·
            refine WP.skip ?_;refine X.blockN ?_;refine X.thenN ?_;refine WP.regs ?_;(iterate 2 refine L.assign rfl ?_);refine WL.nil ?_;refine WP.ret ?_;refine X.ret rfl (Res.two rfl rfl rfl) ?_
            first
             | (exfalso; omega)
             | (show _ = _; unfold turnsD; (try simp only [Bool.not_eq_true', Bool.not_eq_false', decide_eq_true_eq, decide_eq_false_iff_not] at *); simp [*])
    ·
     refine WP.region ?_;refine L.eql rfl rfl ?_;refine L.assign rfl ?_;refine WL.nil ?_;refine X.thenN ?_;refine WP.condD rfl (fun h21 => ?_) (fun h21 => ?_)
     ·
      refine WP.regs ?_;refine L.move rfl ?_;refine L.not rfl ?_;refine WL.nil ?_;refine WP.cond rfl (fun h25 => ?_) (fun h25 => ?_)
      ·
       refine WP.regs ?_;refine L.move rfl ?_;refine L.quo' rfl rfl (by omega) ?_;refine L.move rfl ?_;refine L.eql rfl rfl ?_;(iterate 2 refine L.assign rfl ?_);refine WL.nil ?_;refine WP.ret ?_;refine X.blockR (X.thenR ?_);refine X.ret rfl (Res.two rfl rfl rfl) ?_
       first
        | (exfalso; omega)
        | (show _ = _; unfold turnsD; (try simp only [Bool.not_eq_true', Bool.not_eq_false', decide_eq_true_eq, decide_eq_false_iff_not] at *); simp [*])
      ·
       refine WP.skip ?_;refine X.blockN ?_;refine X.thenN ?_;refine WP.regs ?_;(iterate 2 refine L.assign rfl ?_);refine WL.nil ?_;refine WP.ret ?_;refine X.ret rfl (Res.two rfl rfl rfl) ?_
       first
        | (exfalso; omega)
        | (show _ = _; unfold turnsD; (try simp only [Bool.not_eq_true', Bool.not_eq_false', decide_eq_true_eq, decide_eq_false_iff_not] at *); simp [*])
     ·
      refine WP.seq ?_;refine WP.regs ?_;refine L.eql rfl rfl ?_;refine L.assign rfl ?_;refine WL.nil ?_;refine WP.condD rfl (fun h30 => ?_) (fun h30 => ?_)
      ·
       refine WP.skip ?_;refine X.thenN ?_;refine WP.condD rfl (fun h30 => ?_) (fun h30 => ?_)
       ·
        refine WP.regs ?_;refine L.move rfl ?_;refine L.eql rfl rfl ?_;refine WL.nil ?_;refine WP.condD rfl (fun h34 => ?_) (fun h34 => ?_)
        ·
         refine WP.regs ?_;refine L.move rfl ?_;refine L.eql rfl rfl ?_;(iterate 2 refine L.assign rfl ?_);refine WL.nil ?_;refine WP.ret ?_;refine X.blockR (X.thenR ?_);refine X.ret rfl (Res.two rfl rfl rfl) ?_
         first
          | (exfalso; omega)
          | (show _ = _; unfold turnsD; (try simp only [Bool.not_eq_true', Bool.not_eq_false', decide_eq_true_eq, decide_eq_false_iff_not] at *); simp [*])
        ·
         refine WP.skip ?_;refine X.blockN ?_;refine X.thenN ?_;refine WP.regs ?_;(iterate 2 refine L.assign rfl ?_);refine WL.nil ?_;refine WP.ret ?_;refine X.ret rfl (Res.two rfl rfl rfl) ?_
         first
          | (exfalso; omega)
          | (show _ = _; unfold turnsD; (try simp only [Bool.not_eq_true', Bool.not_eq_false', decide_eq_true_eq, decide_eq_false_iff_not] at *); simp [*])
       ·
        refine WP.regs ?_;refine L.eql rfl rfl ?_;refine L.assign rfl ?_;refine WL.nil ?_;refine WP.condD rfl (fun h37 => ?_) (fun h37 => ?_)
        ·
         refine WP.regs ?_;refine L.move rfl ?_;refine WL.nil ?_;refine WP.condD rfl (fun h39 => ?_) (fun h39 => ?_)
         ·
          refine WP.regs ?_;(iterate 2 refine L.assign rfl ?_);refine WL.nil ?_;refine WP.ret ?_;refine X.blockR (X.thenR ?_);refine X.ret rfl (Res.two rfl rfl rfl) ?_
          first
           | (exfalso; omega)
           | (show _ = _; unfold turnsD; (try simp only [Bool.not_eq_true', Bool.not_eq_false', decide_eq_true_eq, decide_eq_false_iff_not] at *); simp [*])
         ·
          refine WP.skip ?_;refine X.blockN ?_;refine X.thenN ?_;refine WP.regs ?_;(iterate 2 refine L.assign rfl ?_);refine WL.nil ?_;refine WP.ret ?_;refine X.ret rfl (Res.two rfl rfl rfl) ?_
          first
           | (exfalso; omega)
           | (show _ = _; unfold turnsD; (try simp only [Bool.not_eq_true', Bool.not_eq_false', decide_eq_true_eq, decide_eq_false_iff_not] at *); simp [*])
        ·
         refine WP.regs ?_;refine L.eql rfl rfl ?_;refine L.assign rfl ?_;refine WL.nil ?_;refine WP.condD rfl (fun h40 => ?_) (fun h40 => ?_)
         ·
          refine WP.regs ?_;refine L.move rfl ?_;refine WL.nil ?_;refine WP.condD rfl (fun h42 => ?_) (fun h42 => ?_)
          ·
           refine WP.regs ?_;(iterate 2 refine L.assign rfl ?_);refine WL.nil ?_;refine WP.ret ?_;refine X.blockR (X.thenR ?_);refine X.ret rfl (Res.two rfl rfl rfl) ?_
           first
            | (exfalso; omega)
            | (show _ = _; unfold turnsD; (try simp only [Bool.not_eq_true', Bool.not_eq_false', decide_eq_true_eq, decide_eq_false_iff_not] at *); simp [*])
          ·
           refine WP.skip ?_;refine X.blockN ?_;refine X.thenN ?_;refine WP.regs ?_;(iterate 2 refine L.assign rfl ?_);refine WL.nil ?_;refine WP.ret ?_;refine X.ret rfl (Res.two rfl rfl rfl) ?_
           first
            | (exfalso; omega)
            | (show _ = _; unfold turnsD; (try simp only [Bool.not_eq_true', Bool.not_eq_false', decide_eq_true_eq, decide_eq_false_iff_not] at *); simp [*])
         ·
          refine WP.seq ?_;refine WP.regs ?_;refine L.eql rfl rfl ?_;refine L.assign rfl ?_;refine WL.nil ?_;refine WP.condD rfl (fun h43 => ?_) (fun h43 => ?_)
          ·
           refine WP.skip ?_;refine X.thenN ?_;refine WP.condD rfl (fun h43 => ?_) (fun h43 => ?_)
           ·
            refine WP.regs ?_;refine L.move rfl ?_;refine WL.nil ?_;refine WP.condD rfl (fun h46 => ?_) (fun h46 => ?_)
            ·
             refine WP.regs ?_;refine L.move rfl ?_;refine L.eql rfl rfl ?_;(iterate 2 refine L.assign rfl ?_);refine WL.nil ?_;refine WP.ret ?_;refine X.blockR (X.thenR ?_);refine X.ret rfl (Res.two rfl rfl rfl) ?_
             first
              | (exfalso; omega)
              | (show _ = _; unfold turnsD; (try simp only [Bool.not_eq_true', Bool.not_eq_false', decide_eq_true_eq, decide_eq_false_iff_not] at *); simp [*])
            ·
             refine WP.skip ?_;refine X.blockN ?_;refine X.thenN ?_;refine WP.regs ?_;(iterate 2 refine L.assign rfl ?_);refine WL.nil ?_;refine WP.ret ?_;refine X.ret rfl (Res.two rfl rfl rfl) ?_
             first
              | (exfalso; omega)
              | (show _ = _; unfold turnsD; (try simp only [Bool.not_eq_true', Bool.not_eq_false', decide_eq_true_eq, decide_eq_false_iff_not] at *); simp [*])
           ·
            refine WP.skip ?_;refine X.blockN ?_;refine X.thenN ?_;refine WP.regs ?_;(iterate 2 refine L.assign rfl ?_);refine WL.nil ?_;refine WP.ret ?_;refine X.ret rfl (Res.two rfl rfl rfl) ?_
            first
             | (exfalso; omega)
             | (show _ = _; unfold turnsD; (try simp only [Bool.not_eq_true', Bool.not_eq_false', decide_eq_true_eq, decide_eq_false_iff_not] at *); simp [*])
          ·
           refine WP.region ?_;refine L.eql rfl rfl ?_;refine L.assign rfl ?_;refine WL.nil ?_;refine X.thenN ?_;refine WP.condD rfl (fun h43 => ?_) (fun h43 => ?_)
           ·
            refine WP.regs ?_;refine L.move rfl ?_;refine WL.nil ?_;refine WP.condD rfl (fun h46 => ?_) (fun h46 => ?_)
            ·
             refine WP.regs ?_;refine L.move rfl ?_;refine L.eql rfl rfl ?_;(iterate 2 refine L.assign rfl ?_);refine WL.nil ?_;refine WP.ret ?_;refine X.blockR (X.thenR ?_);refine X.ret rfl (Res.two rfl rfl rfl) ?_
             first
              | (exfalso; omega)
              | (show _ = _; unfold turnsD; (try simp only [Bool.not_eq_true', Bool.not_eq_false', decide_eq_true_eq, decide_eq_false_iff_not] at *); simp [*])
            ·
             refine WP.skip ?_;refine X.blockN ?_;refine X.thenN ?_;refine WP.regs ?_;(iterate 2 refine L.assign rfl ?_);refine WL.nil ?_;refine WP.ret ?_;refine X.ret rfl (Res.two rfl rfl rfl) ?_
             first
              | (exfalso; omega)
              | (show _ = _; unfold turnsD; (try simp only [Bool.not_eq_true', Bool.not_eq_false', decide_eq_true_eq, decide_eq_false_iff_not] at *); simp [*])
           ·
            refine WP.skip ?_;refine X.blockN ?_;refine X.thenN ?_;refine WP.regs ?_;(iterate 2 refine L.assign rfl ?_);refine WL.nil ?_;refine WP.ret ?_;refine X.ret rfl (Res.two rfl rfl rfl) ?_
            first
             | (exfalso; omega)
             | (show _ = _; unfold turnsD; (try simp only [Bool.not_eq_true', Bool.not_eq_false', decide_eq_true_eq, decide_eq_false_iff_not] at *); simp [*])
      ·
       refine WP.region ?_;refine L.eql rfl rfl ?_;refine L.assign rfl ?_;refine WL.nil ?_;refine X.thenN ?_;refine WP.condD rfl (fun h30 => ?_) (fun h30 => ?_)
       ·
        refine WP.regs ?_;refine L.move rfl ?_;refine L.eql rfl rfl ?_;refine WL.nil ?_;refine WP.condD rfl (fun h34 => ?_) (fun h34 => ?_)
        ·
         refine WP.regs ?_;refine L.move rfl ?_;refine L.eql rfl rfl ?_;(iterate 2 refine L.assign rfl ?_);refine WL.nil ?_;refine WP.ret ?_;refine X.blockR (X.thenR ?_);refine X.ret rfl (Res.two rfl rfl rfl) ?_
         first
          | (exfalso; omega)
          | (show _ = _; unfold turnsD; (try simp only [Bool.not_eq_true', Bool.not_eq_false', decide_eq_true_eq, decide_eq_false_iff_not] at *); simp [*])
        ·
         refine WP.skip ?_;refine X.blockN ?_;refine X.thenN ?_;refine WP.regs ?_;(iterate 2 refine L.assign rfl ?_);refine WL.nil ?_;refine WP.ret ?_;refine X.ret rfl (Res.two rfl rfl rfl) ?_
         first
          | (exfalso; omega)
          | (show _ = _; unfold turnsD; (try simp only [Bool.not_eq_true', Bool.not_eq_false', decide_eq_true_eq, decide_eq_false_iff_not] at *); simp [*])
       ·
        refine WP.regs ?_;refine L.eql rfl rfl ?_;refine L.assign rfl ?_;refine WL.nil ?_;refine WP.condD rfl (fun h37 => ?_) (fun h37 => ?_)
        ·
         refine WP.regs ?_;refine L.move rfl ?_;refine WL.nil ?_;refine WP.condD rfl (fun h39 => ?_) (fun h39 => ?_)
         ·
          refine WP.regs ?_;(iterate 2 refine L.assign rfl ?_);refine WL.nil ?_;refine WP.ret ?_;refine X.blockR (X.thenR ?_);refine X.ret rfl (Res.two rfl rfl rfl) ?_
          first
           | (exfalso; omega)
           | (show _ = _; unfold turnsD; (try simp only [Bool.not_eq_true', Bool.not_eq_false', decide_eq_true_eq, decide_eq_false_iff_not] at *); simp [*])
         ·
          refine WP.skip ?_;refine X.blockN ?_;refine X.thenN ?_;refine WP.regs ?_;(iterate 2 refine L.assign rfl ?_);refine WL.nil ?_;refine WP.ret ?_;refine X.ret rfl (Res.two rfl rfl rfl) ?_
          first
           | (exfalso; omega)
           | (show _ = _; unfold turnsD; (try simp only [Bool.not_eq_true', Bool.not_eq_false', decide_eq_true_eq, decide_eq_false_iff_not] at *); simp [*])
        ·
         refine WP.regs ?_;refine L.eql rfl rfl ?_;refine L.assign rfl ?_;refine WL.nil ?_;refine WP.condD rfl (fun h40 => ?_) (fun h40 => ?_)
         ·
          refine WP.regs ?_;refine L.move rfl ?_;refine WL.nil ?_;refine WP.condD rfl (fun h42 => ?_) (fun h42 => ?_)
          ·
           refine WP.regs ?_;(iterate 2 refine L.assign rfl ?_);refine WL.nil ?_;refine WP.ret ?_;refine X.blockR (X.thenR ?_);refine X.ret rfl (Res.two rfl rfl rfl) ?_
           first
            | (exfalso; omega)
            | (show _ = _; unfold turnsD; (try simp only [Bool.not_eq_true', Bool.not_eq_false', decide_eq_true_eq, decide_eq_false_iff_not] at *); simp [*])
          ·
           refine WP.skip ?_;refine X.blockN ?_;refine X.thenN ?_;refine WP.regs ?_;(iterate 2 refine L.assign rfl ?_);refine WL.nil ?_;refine WP.ret ?_;refine X.ret rfl (Res.two rfl rfl rfl) ?_
           first
            | (exfalso; omega)
            | (show _ = _; unfold turnsD; (try simp only [Bool.not_eq_true', Bool.not_eq_false', decide_eq_true_eq, decide_eq_false_iff_not] at *); simp [*])
         ·
          refine WP.seq ?_;refine WP.regs ?_;refine L.eql rfl rfl ?_;refine L.assign rfl ?_;refine WL.nil ?_;refine WP.condD rfl (fun h43 => ?_) (fun h43 => ?_)
          ·
           refine WP.skip ?_;refine X.thenN ?_;refine WP.condD rfl (fun h43 => ?_) (fun h43 => ?_)
           ·
            refine WP.regs ?_;refine L.move rfl ?_;refine WL.nil ?_;refine WP.condD rfl (fun h46 => ?_) (fun h46 => ?_)
            ·
             refine WP.regs ?_;refine L.move rfl ?_;refine L.eql rfl rfl ?_;(iterate 2 refine L.assign rfl ?_);refine WL.nil ?_;refine WP.ret ?_;refine X.blockR (X.thenR ?_);refine X.ret rfl (Res.two rfl rfl rfl) ?_
             first
              | (exfalso; omega)
              | (show _ = _; unfold turnsD; (try simp only [Bool.not_eq_true', Bool.not_eq_false', decide_eq_true_eq, decide_eq_false_iff_not] at *); simp [*])
            ·
             refine WP.skip ?_;refine X.blockN ?_;refine X.thenN ?_;refine WP.regs ?_;(iterate 2 refine L.assign rfl ?_);refine WL.nil ?_;refine WP.ret ?_;refine X.ret rfl (Res.two rfl rfl rfl) ?_
             first
              | (exfalso; omega)
              | (show _ = _; unfold turnsD; (try simp only [Bool.not_eq_true', Bool.not_eq_false', decide_eq_true_eq, decide_eq_false_iff_not] at *); simp [*])
           ·
            refine WP.skip ?_;refine X.blockN ?_;refine X.thenN ?_;refine WP.regs ?_;(iterate 2 refine L.assign rfl ?_);refine WL.nil ?_;refine WP.ret ?_;refine X.ret rfl (Res.two rfl rfl rfl) ?_
            first
             | (exfalso; omega)
             | (show _ = _; unfold turnsD; (try simp only [Bool.not_eq_true', Bool.not_eq_false', decide_eq_true_eq, decide_eq_false_iff_not] at *); simp [*])
          ·
           refine WP.region ?_;refine L.eql rfl rfl ?_;refine L.assign rfl ?_;refine WL.nil ?_;refine X.thenN ?_;refine WP.condD rfl (fun h43 => ?_) (fun h43 => ?_)
           ·
            refine WP.regs ?_;refine L.move rfl ?_;refine WL.nil ?_;refine WP.condD rfl (fun h46 => ?_) (fun h46 => ?_)
            ·
             refine WP.regs ?_;refine L.move rfl ?_;refine L.eql rfl rfl ?_;(iterate 2 refine L.assign rfl ?_);refine WL.nil ?_;refine WP.ret ?_;refine X.blockR (X.thenR ?_);refine X.ret rfl (Res.two rfl rfl rfl) ?_
             first
              | (exfalso; omega)
              | (show _ = _; unfold turnsD; (try simp only [Bool.not_eq_true', Bool.not_eq_false', decide_eq_true_eq, decide_eq_false_iff_not] at *); simp [*])
            ·
             refine WP.skip ?_;refine X.blockN ?_;refine X.thenN ?_;refine WP.regs ?_;(iterate 2 refine L.assign rfl ?_);refine WL.nil ?_;refine WP.ret ?_;refine X.ret rfl (Res.two rfl rfl rfl) ?_
             first
              | (exfalso; omega)
              | (show _ = _; unfold turnsD; (try simp only [Bool.not_eq_true', Bool.not_eq_false', decide_eq_true_eq, decide_eq_false_iff_not] at *); simp [*])
           ·
            refine WP.skip ?_;refine X.blockN ?_;refine X.thenN ?_;refine WP.regs ?_;(iterate 2 refine L.assign rfl ?_);refine WL.nil ?_;refine WP.ret ?_;refine X.ret rfl (Res.two rfl rfl rfl) ?_
            first
             | (exfalso; omega)
             | (show _ = _; unfold turnsD; (try simp only [Bool.not_eq_true', Bool.not_eq_false', decide_eq_true_eq, decide_eq_false_iff_not] at *); simp [*])
end
end Go.Eng
namespace Go.Eng
open Go.RowKit Go.Proofs
theorem VName_dec (s : ByteArray) : VName s ∨ ¬ VName s := Classical.em _
section
variable {k : World} {h0 : Hp}
set_option maxRecDepth 10000 in
theorem table_named (s : ByteArray) (hs : s.size ≤ 4611686018427387904) : FT Pg 223 [.string s] k h0 [] (RV fun v => ∃ b : Bool, v = .bool b ∧ (b = true ↔ VName s ∧ s ≠ varName)) := by
 refine FT.of_wp (n := 23) Tryz.func223 rfl rfl rfl ?_;refine WP.regs ?_;refine L.assign rfl ?_;refine WL.nil ?_;refine WP.regs ?_;refine L.move rfl ?_;refine WL.call rfl rfl F219.fn rfl (FT.make fun g gS dj => scan_New s) ?_; rintro _ _ ⟨_, ⟨b, rfl, rfl⟩, rfl⟩;refine L.assign rfl ?_;refine WL.nil ?_;refine WP.regs ?_;refine L.move rfl ?_;refine WL.call rfl rfl F220.fn rfl (scan_Name s hs b) ?_; rintro _ _ ⟨x, e, n, rfl, rfl, hx⟩;refine L.move rfl ?_;(iterate 2 refine L.extract rfl rfl ?_);(iterate 2 refine L.assign rfl ?_);refine WL.nil ?_;refine WP.regs ?_;refine L.move rfl ?_;refine L.eqlD rfl rfl (fun h14 => ?_) (fun h14 => ?_)
 ·
  (iterate 2 refine L.move rfl ?_);refine WL.call rfl rfl F221.fn rfl (FT.pureR fun g gS dj => FT.rv (scan_Done s n b (Stars.cl' 0 rfl gS dj)) rfl) ?_; rintro _ _ ⟨rfl, rfl⟩
  by_cases hd : n = s.size
  rw [decide_eq_true hd]
  rotate_left
  rw [decide_eq_false hd]
  rotate_left
  ·
   refine L.pickT rfl rfl ?_;(iterate 2 refine L.move rfl ?_);refine L.neqStr rfl rfl ?_;refine L.pickT rfl rfl ?_;refine L.assign rfl ?_;refine WL.nil ?_;refine WP.ret ?_;refine X.ret rfl (Res.one rfl rfl) ?_;refine ⟨_, rfl, _, rfl, ?_⟩
   rw [← hx]
   simp [*, varName]
  ·
   refine L.pickT rfl rfl ?_;refine L.move rfl ?_
   iterate 2 refine L.skip ?_
   refine L.pickF rfl rfl ?_;refine L.assign rfl ?_;refine WL.nil ?_;refine WP.ret ?_;refine X.ret rfl (Res.one rfl rfl) ?_;refine ⟨_, rfl, _, rfl, ?_⟩
   rw [← hx]
   simp [*, varName]
 ·
  refine L.move rfl ?_
  iterate 2 refine L.skip ?_
  refine L.pickF rfl rfl ?_;refine L.move rfl ?_
  iterate 2 refine L.skip ?_
  refine L.pickF rfl rfl ?_;refine L.assign rfl ?_;refine WL.nil ?_;refine WP.ret ?_;refine X.ret rfl (Res.one rfl rfl) ?_;refine ⟨_, rfl, _, rfl, ?_⟩
  rw [← hx]
  simp [*, varName]
set_option maxRecDepth 10000 in
theorem rule_named (s : ByteArray) (hs : s.size ≤ 4611686018427387904) : FT Pg 216 [.string s] k h0 [] (RV fun v => ∃ b : Bool, v = .bool b ∧ (b = true ↔ VName s)) := by
 refine FT.of_wp (n := 19) Tryz.func216 rfl rfl rfl ?_;refine WP.regs ?_;refine L.assign rfl ?_;refine WL.nil ?_;refine WP.regs ?_;refine L.move rfl ?_;refine WL.call rfl rfl F219.fn rfl (FT.make fun g gS dj => scan_New s) ?_; rintro _ _ ⟨_, ⟨b, rfl, rfl⟩, rfl⟩;refine L.assign rfl ?_;refine WL.nil ?_;refine WP.regs ?_;refine L.move rfl ?_;refine WL.call rfl rfl F220.fn rfl (scan_Name s hs b) ?_; rintro _ _ ⟨x, e, n, rfl, rfl, hx⟩;refine L.move rfl ?_;(iterate 2 refine L.extract rfl rfl ?_);(iterate 2 refine L.assign rfl ?_);refine WL.nil ?_;refine WP.regs ?_;refine L.move rfl ?_;refine L.eqlD rfl rfl (fun h14 => ?_) (fun h14 => ?_)
 ·
  (iterate 2 refine L.move rfl ?_);refine WL.call rfl rfl F221.fn rfl (FT.pureR fun g gS dj => FT.rv (scan_Done s n b (Stars.cl' 0 rfl gS dj)) rfl) ?_; rintro _ _ ⟨rfl, rfl⟩
  by_cases hd : n = s.size
  rw [decide_eq_true hd]
  rotate_left
  rw [decide_eq_false hd]
  rotate_left
  ·
   refine L.pickT rfl rfl ?_;refine L.assign rfl ?_;refine WL.nil ?_;refine WP.ret ?_;refine X.ret rfl (Res.one rfl rfl) ?_;refine ⟨_, rfl, _, rfl, ?_⟩
   rw [← hx]
   simp [*, varName]
  ·
   refine L.pickT rfl rfl ?_;refine L.assign rfl ?_;refine WL.nil ?_;refine WP.ret ?_;refine X.ret rfl (Res.one rfl rfl) ?_;refine ⟨_, rfl, _, rfl, ?_⟩
   rw [← hx]
   simp [*, varName]
 ·
  refine L.move rfl ?_
  iterate 2 refine L.skip ?_
  refine L.pickF rfl rfl ?_;refine L.assign rfl ?_;refine WL.nil ?_;refine WP.ret ?_;refine X.ret rfl (Res.one rfl rfl) ?_;refine ⟨_, rfl, _, rfl, ?_⟩
  rw [← hx]
  simp [*, varName]
end
end Go.Eng
namespace Go.Eng
open Go.RowKit Go.Proofs
abbrev VarOk (t : TableD) (i : Nat) : Prop := (VName (t.vars.getD i .no).name ∧ (t.vars.getD i .no).name ≠ varName) ∧ (∀ j, j < i → (t.vars.getD j .no).name ≠ (t.vars.getD i .no).name) ∧
 0 < (t.vars.getD i .no).states.length ∧ ∀ q, q < (t.vars.getD i .no).states.length → (t.vars.getD i .no).states.getD q 0 < t.states ∧ (0 < q → (t.vars.getD i .no).states.getD (q - 1) 0 < (t.vars.getD i .no).states.getD q 0)
abbrev RowOk (t : TableD) (x : TransD) : Prop := (x.around.length : Int) = hoodSize t.hood ∧ x.centre.Ok t ∧ x.out.Ok t ∧ x.Bound ∧ ∀ i, i < x.around.length → (x.around.getD i .no).Ok t
structure TableD.Ok (t : TableD) : Prop where
 st : 2 ≤ t.states ∧ t.states ≤ 256
 sym : symOk t.sym t.hood
 nv : t.vars.length ≤ 64
 nr : t.rows.length ≤ 4096
 vars : ∀ i, i < t.vars.length → VarOk t i
 rows : ∀ i, i < t.rows.length → RowOk t (t.rows.getD i .no)
def Names (t : TableD) (i : Nat) (m : List (ByteArray × Value)) : Prop := ∀ nm, mget m nm = if ∃ j, j < i ∧ (t.vars.getD j .no).name = nm then some (.int .i64 1) else none
theorem Names.nil (t : TableD) : Names t 0 [] := fun nm => by rw [if_neg (by rintro ⟨j, hj, _⟩; omega)]; rfl
theorem Names.step {t : TableD} {i : Nat} {m : List (ByteArray × Value)} (h : Names t i m) : Names t (i + 1) (mput m (t.vars.getD i .no).name (.int .i64 1)) := fun nm => by
 rw [mget_put]
 by_cases e : (t.vars.getD i .no).name = nm
 · rw [if_pos e, if_pos ⟨i, by omega, e⟩]
 · rw [if_neg e, h nm]
   by_cases hx : ∃ j, j < i ∧ (t.vars.getD j .no).name = nm
   · rw [if_pos hx, if_pos]; obtain ⟨j, hj, he⟩ := hx; exact ⟨j, by omega, he⟩
   · rw [if_neg hx, if_neg]
     rintro ⟨j, hj, he⟩
     rcases Nat.lt_or_ge j i with h1 | h1
     · exact hx ⟨j, h1, he⟩
     · obtain rfl : j = i := by omega
       exact e he
section
variable {k : World} {h0 : Hp}
set_option maxRecDepth 10000 in
theorem table_may (sym near : Int) : FT Pg 222 [.int .u8 sym, .int .u8 near] k h0 [] (RV fun v => ∃ e : Int, v = .int .i64 e ∧ (e = 0 ↔ symOk sym near)) := by
 refine FT.of_wp (n := 28) Tryz.func222 rfl rfl rfl ?_;refine WP.regs ?_;refine L.assign rfl ?_;refine WL.nil ?_;refine WP.seq ?_;refine WP.regs ?_;refine L.move rfl ?_;refine L.gtr rfl rfl ?_;refine WL.nil ?_;refine WP.condD rfl (fun h10 => ?_) (fun h10 => ?_)
 ·
  refine WP.regs ?_;refine L.assign rfl ?_;refine WL.nil ?_;refine WP.ret ?_;refine X.thenR ?_;refine X.ret rfl (Res.one rfl rfl) ?_
  exact ⟨_, rfl, _, rfl, by unfold symOk; constructor <;> intro h <;> first | exact ⟨by omega, by omega, by omega⟩ | omega⟩
 ·
  refine WP.skip ?_;refine X.thenN ?_;refine WP.regs ?_;refine L.move rfl ?_;refine WL.callV rfl rfl F143.fn rfl (fun g gS dj => hood_Size near) ?_;refine L.move rfl ?_;(iterate 2 refine L.extract rfl rfl ?_);(iterate 2 refine L.assign rfl ?_);refine WL.nil ?_;refine WP.seq ?_;refine WP.regs ?_;refine L.move rfl ?_;refine L.neq rfl rfl ?_;refine WL.nil ?_;refine WP.condD rfl (fun h17 => ?_) (fun h17 => ?_)
  ·
   refine WP.regs ?_;refine L.move rfl ?_;refine L.assign rfl ?_;refine WL.nil ?_;refine WP.ret ?_;refine X.thenR ?_;refine X.ret rfl (Res.one rfl rfl) ?_
   exact ⟨_, rfl, _, rfl, by unfold symOk; constructor <;> intro h <;> first | exact ⟨by omega, by omega, by omega⟩ | omega⟩
  ·
   refine WP.skip ?_;refine X.thenN ?_;refine WP.seq ?_;refine WP.regs ?_;(iterate 3 refine L.move rfl ?_);refine WL.callV rfl rfl F234.fn rfl (fun g gS dj => table_turns sym near (hoodSize near) (hoodSize_bd near)) ?_;refine L.move rfl ?_;(iterate 2 refine L.extract rfl rfl ?_);(iterate 2 refine L.assign rfl ?_);refine WL.nil ?_;refine WP.regs ?_;refine L.move rfl ?_;refine L.eql rfl rfl ?_;refine WL.nil ?_;refine WP.condD rfl (fun h27 => ?_) (fun h27 => ?_)
   ·
    refine WP.regs ?_;refine L.assign rfl ?_;refine WL.nil ?_;refine WP.ret ?_;refine X.thenR ?_;refine X.ret rfl (Res.one rfl rfl) ?_
    exact ⟨_, rfl, _, rfl, by unfold symOk; constructor <;> intro h <;> first | exact ⟨by omega, by omega, by omega⟩ | omega⟩
   ·
    refine WP.skip ?_;refine X.thenN ?_;refine WP.regs ?_;refine L.assign rfl ?_;refine WL.nil ?_;refine WP.ret ?_;refine X.ret rfl (Res.one rfl rfl) ?_
    exact ⟨_, rfl, _, rfl, by unfold symOk; constructor <;> intro h <;> first | exact ⟨by omega, by omega, by omega⟩ | omega⟩
set_option maxRecDepth 10000 in
theorem table_term (t : TableD) (v r : Value) (a : Option Addr) (cap : Nat) (hv : v = .slice a t.vars.length cap) (x : TermD) (hx : x.Wd) : FT Pg 224 [.agg (tableC t v r).toArray, .agg [.int .u8 x.state, .int .i64 x.var].toArray] k h0 [] (Is (.bool (decide (x.Ok t)))) := by
 subst hv
 have hs := hx.state; unfold U8 at hs
 refine FT.of_wp (n := 30) Tryz.func224 rfl rfl rfl ?_;refine WP.regs ?_;refine L.box rfl rfl ?_; intro b1;refine L.box rfl rfl ?_; intro b2;refine L.assign rfl ?_;refine WL.nil ?_;refine WP.seq ?_;refine WP.regs ?_;refine L.fieldAddr (o' := 1) T47.f1 rfl rfl ?_;refine L.load T3.sc rfl (Rd.own 0 rfl rfl) ?_;refine L.eql rfl rfl ?_;refine WL.nil ?_;refine WP.condD rfl (fun h7 => ?_) (fun h7 => ?_)
 ·
  refine WP.regs ?_;refine L.fieldAddr (o' := 0) T47.f0 rfl rfl ?_;refine L.load T5.sc rfl (Rd.own 0 rfl rfl) ?_;refine L.convInt T5.u T3.u rfl ?_;refine L.fieldAddr (o' := 0) T30.f0 rfl rfl ?_;refine L.load T3.sc rfl (Rd.own 1 rfl rfl) ?_
  rw [wrap_i64 (by omega)]
  refine L.lss rfl rfl ?_;refine L.assign rfl ?_;refine WL.nil ?_;refine WP.ret ?_;refine X.thenR ?_;refine X.ret rfl (Res.one rfl rfl) ?_
  show _ = _
  unfold TermD.Ok
  simp [*]
 ·
  refine WP.skip ?_;refine X.thenN ?_;refine WP.regs ?_;refine L.fieldAddr (o' := 1) T47.f1 rfl rfl ?_;refine L.load T3.sc rfl (Rd.own 0 rfl rfl) ?_;refine L.geqD rfl rfl (fun h16 => ?_) (fun h16 => ?_)
  ·
   refine L.move rfl ?_;refine L.fieldAddr (o' := 1) T47.f1 rfl rfl ?_;refine L.load T3.sc rfl (Rd.own 0 rfl rfl) ?_;refine L.fieldAddr (o' := 3) T30.f3 rfl rfl ?_;refine L.load T27.sc rfl (Rd.own 1 rfl rfl) ?_;refine L.lenS T27.sl rfl rfl ?_;refine L.lssD rfl rfl (fun h23 => ?_) (fun h23 => ?_)
   ·
    refine L.pickT rfl rfl ?_;refine L.move rfl ?_;refine L.fieldAddr (o' := 0) T47.f0 rfl rfl ?_;refine L.load T5.sc rfl (Rd.own 0 rfl rfl) ?_;refine L.eql rfl rfl ?_;refine L.pickT rfl rfl ?_;refine L.assign rfl ?_;refine WL.nil ?_;refine WP.ret ?_;refine X.ret rfl (Res.one rfl rfl) ?_
    show _ = _
    unfold TermD.Ok
    simp [*]
   ·
    refine L.pickT rfl rfl ?_;refine L.move rfl ?_
    iterate 3 refine L.skip ?_
    refine L.pickF rfl rfl ?_;refine L.assign rfl ?_;refine WL.nil ?_;refine WP.ret ?_;refine X.ret rfl (Res.one rfl rfl) ?_
    show _ = _
    unfold TermD.Ok
    simp [*]
  ·
   refine L.move rfl ?_
   iterate 6 refine L.skip ?_
   refine L.pickF rfl rfl ?_;refine L.move rfl ?_
   iterate 3 refine L.skip ?_
   refine L.pickF rfl rfl ?_;refine L.assign rfl ?_;refine WL.nil ?_;refine WP.ret ?_;refine X.ret rfl (Res.one rfl rfl) ?_
   show _ = _
   unfold TermD.Ok
   simp [*]
set_option maxRecDepth 10000 in
theorem table_bound (x : TransD) (hx : x.around.length ≤ 4611686018427387904) (w : Value) (hw : TermsAt h0 w x.around) : FT Pg 225 [.agg (rowC x w).toArray] k h0 [] (Is (.bool (decide x.Bound))) := by
 obtain ⟨a, cap, rfl, hcap, hnone, hsome⟩ := hw
 refine FT.of_wp (n := 32) Tryz.func225 rfl rfl rfl ?_;refine WP.regs ?_;refine L.box rfl rfl ?_; intro b1;refine L.assign rfl ?_;refine WL.nil ?_;refine WP.seq ?_;refine WP.regs ?_;refine L.fieldAddr (o' := 3) T50.f2 rfl rfl ?_;refine L.fieldAddr (o' := 4) T47.f1 rfl rfl ?_;refine L.load T3.sc rfl (Rd.own 0 rfl rfl) ?_;refine L.lssD rfl rfl (fun h8 => ?_) (fun h8 => ?_)
 ·
  refine L.move rfl ?_
  iterate 7 refine L.skip ?_
  refine L.pickT rfl rfl ?_;refine WL.nil ?_;refine WP.condT rfl ?_;refine WP.regs ?_;refine L.assign rfl ?_;refine WL.nil ?_;refine WP.ret ?_;refine X.thenR ?_;refine X.ret rfl (Res.one rfl rfl) ?_
  show _ = _
  first
   | rw [decide_eq_true (show x.Bound from .inl (by omega))]
   | rw [decide_eq_true (show x.Bound from .inr (.inl (by omega)))]
   | rw [decide_eq_true (show x.Bound from .inr (.inr ⟨i, by omega, h30⟩))]
   | rw [decide_eq_false (show ¬ x.Bound from fun h => by rcases h with h | h | ⟨j, hj, h⟩; omega; omega; exact hall j (by omega) h)]
 ·
  refine L.move rfl ?_;refine L.fieldAddr (o' := 3) T50.f2 rfl rfl ?_;refine L.fieldAddr (o' := 4) T47.f1 rfl rfl ?_;refine L.load T3.sc rfl (Rd.own 0 rfl rfl) ?_;refine L.fieldAddr (o' := 0) T50.f0 rfl rfl ?_;refine L.fieldAddr (o' := 1) T47.f1 rfl rfl ?_;refine L.load T3.sc rfl (Rd.own 0 rfl rfl) ?_;refine L.eqlD rfl rfl (fun h16 => ?_) (fun h16 => ?_)
  ·
   refine L.pickF rfl rfl ?_;refine WL.nil ?_;refine WP.condT rfl ?_;refine WP.regs ?_;refine L.assign rfl ?_;refine WL.nil ?_;refine WP.ret ?_;refine X.thenR ?_;refine X.ret rfl (Res.one rfl rfl) ?_
   show _ = _
   first
    | rw [decide_eq_true (show x.Bound from .inl (by omega))]
    | rw [decide_eq_true (show x.Bound from .inr (.inl (by omega)))]
    | rw [decide_eq_true (show x.Bound from .inr (.inr ⟨i, by omega, h30⟩))]
    | rw [decide_eq_false (show ¬ x.Bound from fun h => by rcases h with h | h | ⟨j, hj, h⟩; omega; omega; exact hall j (by omega) h)]
  ·
   refine L.pickF rfl rfl ?_;refine WL.nil ?_;refine WP.condF rfl ?_;refine WP.skip ?_;refine X.thenN ?_;refine WP.seq ?_;refine WP.regs ?_;refine L.fieldAddr (o' := 2) T50.f1 rfl rfl ?_;refine L.load T48.sc rfl (Rd.own 0 rfl rfl) ?_;refine L.lenS T48.sl rfl rfl ?_;refine L.move rfl ?_;refine WL.nil ?_;refine WP.block ?_;refine WP.loop (X := Nat) (fun i => ⟨32, [], [(1, .pointer (some ⟨b1, 0, none⟩)), (19, .slice a x.around.length cap), (20, .int .i64 (x.around.length : Int)), (21, .int .i64 (i : Int))]⟩) (fun i => [cl b1 (rowC x (.slice a x.around.length cap)) 50]) (fun i => i ≤ x.around.length ∧ ∀ j, j < i → (x.around.getD j .no).var ≠ x.out.var) (fun i => x.around.length - i) 0 (⟨by omega, fun j hj => absurd hj (by omega)⟩) (Env.Sub.cons rfl rfl (Env.Sub.cons rfl rfl (Env.Sub.cons rfl rfl (Env.Sub.cons rfl rfl Env.Sub.nil)))) (Ent.refl _) ?_
   rintro i ⟨hi, hall⟩
   refine WP.regs ?_;refine L.lss rfl rfl ?_;refine WL.nil ?_;refine WP.seq ?_;refine WP.condD rfl (fun h22 => ?_) (fun h22 => ?_)
   ·
    refine WP.skip ?_;refine X.thenN ?_;refine WP.seq ?_;refine WP.block ?_;refine WP.regs ?_
    obtain ⟨b, o, rfl, hc⟩ := hsome (by omega)
    refine L.indexS T48.sl rfl rfl (by omega) ?_;refine L.loadN T47.ag rfl rfl (Rds.term hc i (by omega)) ?_;refine L.alloc T47.z ?_; intro b2;refine L.storeN T47.ag rfl rfl rfl (Wrs.all 0 rfl rfl (by simp [Value.oneCell'])) ?_;refine WL.nil ?_;refine WP.regs ?_;refine L.fieldAddr (o' := 1) T47.f1 rfl rfl ?_;refine L.load T3.sc rfl (Rd.own 0 rfl rfl) ?_;refine L.fieldAddr (o' := 3) T50.f2 rfl rfl ?_;refine L.fieldAddr (o' := 4) T47.f1 rfl rfl ?_;refine L.load T3.sc rfl (Rd.own 1 rfl rfl) ?_;refine L.eql rfl rfl ?_;refine WL.nil ?_;refine WP.condD rfl (fun h30 => ?_) (fun h30 => ?_)
    ·
     refine WP.regs ?_;refine L.assign rfl ?_;refine WL.nil ?_;refine WP.ret ?_;refine X.blockR (X.thenR (X.thenR (X.blockR (X.thenR ?_))));refine X.ret rfl (Res.one rfl rfl) ?_
     show _ = _
     first
      | rw [decide_eq_true (show x.Bound from .inl (by omega))]
      | rw [decide_eq_true (show x.Bound from .inr (.inl (by omega)))]
      | rw [decide_eq_true (show x.Bound from .inr (.inr ⟨i, by omega, h30⟩))]
      | rw [decide_eq_false (show ¬ x.Bound from fun h => by rcases h with h | h | ⟨j, hj, h⟩; omega; omega; exact hall j (by omega) h)]
    ·
     refine WP.skip ?_;refine X.blockN ?_;refine X.thenN ?_;refine WP.region ?_;refine L.add' rfl rfl (by omega) ?_;refine L.move rfl ?_;refine WL.nil ?_;refine X.thenN ⟨i + 1, ⟨by omega, fun j hj => by rcases Nat.lt_or_ge j i with e | e; exact hall j e; obtain rfl : j = i := (by omega); exact h30⟩, by omega, (Env.Sub.cons rfl rfl (Env.Sub.cons rfl rfl (Env.Sub.cons rfl rfl (Env.Sub.cons rfl rfl Env.Sub.nil)))), (Ent.left [_] _)⟩
   ·
    refine WP.exit ?_;refine X.thenE (X.thenE (X.blockE ?_));refine X.thenN ?_;refine WP.regs ?_;refine L.assign rfl ?_;refine WL.nil ?_;refine WP.ret ?_;refine X.ret rfl (Res.one rfl rfl) ?_
    show _ = _
    first
     | rw [decide_eq_true (show x.Bound from .inl (by omega))]
     | rw [decide_eq_true (show x.Bound from .inr (.inl (by omega)))]
     | rw [decide_eq_true (show x.Bound from .inr (.inr ⟨i, by omega, h30⟩))]
     | rw [decide_eq_false (show ¬ x.Bound from fun h => by rcases h with h | h | ⟨j, hj, h⟩; omega; omega; exact hall j (by omega) h)]
end
end Go.Eng
