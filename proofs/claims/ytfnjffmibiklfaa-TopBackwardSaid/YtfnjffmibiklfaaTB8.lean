/- Walks of the seat's functions over those rules, and plain laws of what they compute. No conditions beyond those in each theorem. -/
import Derived.Test.YtfnjffmibiklfaaTB7
namespace Go.Eng
open Go.RowKit Go.Proofs
set_option linter.unusedSimpArgs false
set_option linter.unusedVariables false

section
variable {k : World} {h0 : Hp} {τ : List HP} {f : FuncId} {vs : List Value} {R : Ending → List HP → Prop}
theorem at_rows {n y : Nat} {p : HP} {g : Nat → HP} (h : y < n) : ((p :: (List.range n).map g) ++ τ)[y + 1]? = some (g y) := by
  rw [List.cons_append, List.getElem?_cons_succ]; exact map_range_app _ _ h
theorem FT.bytes {W H : Nat} {F : Nat → Nat → Nat} {v : Value} (hW : 0 < W) (hH : 0 < H)
    (h : ∀ b cap r, v = .iface 80 (.agg #[.slice (some ⟨b, 0, none⟩) H cap]) → (∀ y, y < H → ∃ b' cap', r y = .slice (some ⟨b', 0, none⟩) W cap') →
      FT Pg f vs k h0 ((vec 25 1 (.slice (some ⟨b, 0, none⟩) H cap) H ((List.range H).map r) :: (List.range H).map fun y => vec 5 1 (r y) W (lineC F W y)) ++ τ) R) :
    FT Pg f vs k h0 (bytesHP W H F v :: τ) R := by
  refine FT.ex fun sl => FT.ex fun r => FT.and fun hv => ?_
  refine FT.ent Ent.stars ?_
  refine FT.fact (φ := ∃ b cap, sl = .slice (some ⟨b, 0, none⟩) H cap) (fun _ _ _ s => by
    obtain ⟨_, a, cap, e, _, hb⟩ := s.vec_shape 0 rfl
    obtain ⟨b, rfl⟩ := hb hH
    exact ⟨b, cap, e⟩) fun ⟨b, cap, e⟩ => ?_
  subst e
  refine FT.fact (φ := ∀ y, y < H → ∃ b' cap', r y = .slice (some ⟨b', 0, none⟩) W cap') (fun _ _ _ s y hy => by
    obtain ⟨_, a, cap, e, _, hb⟩ := s.vec_shape (y + 1) (at_rows hy)
    obtain ⟨b, rfl⟩ := hb hW
    exact ⟨b, cap, e⟩) fun hr => h b cap r hv hr
theorem Ent.bytes {W H : Nat} {F : Nat → Nat → Nat} {sl : Value} {r : Nat → Value} :
    Ent ((vec 25 1 sl H ((List.range H).map r) :: (List.range H).map fun y => vec 5 1 (r y) W (lineC F W y)) ++ τ) (bytesHP W H F (.iface 80 (.agg #[sl])) :: τ) :=
  Ent.shut.trans ((Ent.and (φ := Value.iface 80 (.agg #[sl]) = .iface 80 (.agg #[sl])) rfl).trans ((Ent.ex (p := fun r => andP _ (starsP (vec 25 1 sl H ((List.range H).map r) :: (List.range H).map fun y => vec 5 1 (r y) W (lineC F W y)))) r).trans (Ent.ex (p := fun sl' => exP fun r => andP (Value.iface 80 (.agg #[sl]) = .iface 80 (.agg #[sl'])) (starsP (vec 25 1 sl' H ((List.range H).map r) :: (List.range H).map fun y => vec 5 1 (r y) W (lineC F W y)))) sl)))
theorem FT.bits {W H : Nat} {F : Nat → Nat → Nat} {v : Value} (hW : 0 < W) (hH : 0 < H)
    (h : ∀ b cap r, v = .iface 72 (.agg #[.slice (some ⟨b, 0, none⟩) H cap]) → (∀ x y, F x y ≤ 1) → (∀ y, y < H → ∃ b' cap', r y = .slice (some ⟨b', 0, none⟩) ((W + 63) / 64) cap') →
      FT Pg f vs k h0 ((vec 75 2 (.slice (some ⟨b, 0, none⟩) H cap) H (rowC W r H) :: (List.range H).map fun y => vec 88 1 (r y) ((W + 63) / 64) (wordC F W y)) ++ τ) R) :
    FT Pg f vs k h0 (bitsHP W H F v :: τ) R := by
  refine FT.ex fun sl => FT.ex fun r => FT.and fun hv => ?_
  refine FT.ent Ent.stars ?_
  refine FT.fact (φ := ∃ b cap, sl = .slice (some ⟨b, 0, none⟩) H cap) (fun _ _ _ s => by
    obtain ⟨_, a, cap, e, _, hb⟩ := s.vec_shape 0 rfl
    obtain ⟨b, rfl⟩ := hb hH
    exact ⟨b, cap, e⟩) fun ⟨b, cap, e⟩ => ?_
  subst e
  refine FT.fact (φ := ∀ y, y < H → ∃ b' cap', r y = .slice (some ⟨b', 0, none⟩) ((W + 63) / 64) cap') (fun _ _ _ s y hy => by
    obtain ⟨_, a, cap, e, _, hb⟩ := s.vec_shape (y + 1) (at_rows hy)
    obtain ⟨b, rfl⟩ := hb (by omega)
    exact ⟨b, cap, e⟩) fun hr => h b cap r hv.1 hv.2 hr
theorem Ent.bits {W H : Nat} {F : Nat → Nat → Nat} {sl : Value} {r : Nat → Value} (hF : ∀ x y, F x y ≤ 1) :
    Ent ((vec 75 2 sl H (rowC W r H) :: (List.range H).map fun y => vec 88 1 (r y) ((W + 63) / 64) (wordC F W y)) ++ τ) (bitsHP W H F (.iface 72 (.agg #[sl])) :: τ) :=
  Ent.shut.trans ((Ent.and (φ := Value.iface 72 (.agg #[sl]) = .iface 72 (.agg #[sl]) ∧ ∀ x y, F x y ≤ 1) ⟨rfl, hF⟩).trans ((Ent.ex (p := fun r => andP _ (starsP (vec 75 2 sl H (rowC W r H) :: (List.range H).map fun y => vec 88 1 (r y) ((W + 63) / 64) (wordC F W y)))) r).trans (Ent.ex (p := fun sl' => exP fun r => andP (Value.iface 72 (.agg #[sl]) = .iface 72 (.agg #[sl']) ∧ ∀ x y, F x y ≤ 1) (starsP (vec 75 2 sl' H (rowC W r H) :: (List.range H).map fun y => vec 88 1 (r y) ((W + 63) / 64) (wordC F W y)))) sl)))
end
theorem lineC_upd {F : Nat → Nat → Nat} {W x y s : Nat} (hx : x < W) : (lineC F W y).set x (.int .u8 (s : Int)) = lineC (updF F x y s) W y :=
  map_range_set (by simp [updF]) (fun i _ hi => by simp [updF, hi])
theorem lineC_ne {F : Nat → Nat → Nat} {W x y s v : Nat} (h : v ≠ y) : lineC (updF F x y s) W v = lineC F W v :=
  map_range_congr (fun i _ => by simp [updF, h])
theorem wordC_upd {F : Nat → Nat → Nat} {W x y s : Nat} (hx : x < W) : (wordC F W y).set (x / 64) (.int .u64 (wordOf (fun j => if j = x % 64 then s else F (64 * (x / 64) + j) y) 64 : Nat)) = wordC (updF F x y s) W y := by
  refine map_range_set ?_ (fun i hi hne => ?_)
  · congr 2
    refine wordOf_congr fun j hj => ?_
    unfold updF
    by_cases e : j = x % 64
    · rw [if_pos e, if_pos ⟨by omega, rfl⟩]
    · rw [if_neg e, if_neg (fun h => e (by omega))]
  · congr 2
    refine wordOf_congr fun j hj => ?_
    unfold updF
    rw [if_neg (fun h => hne (by omega))]
theorem wordC_ne {F : Nat → Nat → Nat} {W x y s v : Nat} (h : v ≠ y) : wordC (updF F x y s) W v = wordC F W v :=
  map_range_congr (fun i _ => by congr 2; exact wordOf_congr fun j _ => by unfold updF; rw [if_neg (fun e => h e.2)])
theorem updF_le {F : Nat → Nat → Nat} {x y s n : Nat} (hF : ∀ u v, F u v ≤ n) (hs : s ≤ n) (u v : Nat) : updF F x y s u v ≤ n := by
  unfold updF; split
  · exact hs
  · exact hF u v
section
variable {k : World} {h0 : Hp}

set_option maxRecDepth 10000 in
theorem bytes_set (W H : Nat) (F : Nat → Nat → Nat) (x y : Nat) (hx : x < W) (hy : y < H) (hW : W ≤ 65536) (hH : H ≤ 65536) (s : Nat) (rv : Value) : FT Pg 83 [rv, .int .i64 (x : Int), .int .i64 (y : Int), .int .u8 (s : Int)] k h0 [bytesHP W H F (.iface 80 rv)] (Ret fun _ τ => τ = [bytesHP W H (updF F x y s) (.iface 80 rv)]) := by
  refine FT.tight ?_
  refine FT.bytes (by omega) (by omega) fun b cap r hv hr => ?_
  cases hv
  obtain ⟨b', cap', hry⟩ := hr y hy
  refine FT.of_wp (n := 16) Try.func83 rfl rfl rfl ?_
  refine WP.regs ?_
  refine L.box rfl rfl ?_; intro b1
  refine WL.nil ?_
  refine WP.region ?_
  refine L.fieldAddr (o' := 0) T80.f0 rfl rfl ?_
  refine L.load T78.sc rfl (Rd.own 0 rfl rfl) ?_
  refine L.move rfl ?_
  refine L.indexS T78.sl rfl rfl (by omega) ?_
  refine L.load T25.sc rfl (v := .slice (some ⟨b', 0, none⟩) W cap') (Rd.vec 1 rfl (by rw [Nat.zero_add, Nat.mul_one, Int.toNat_natCast, ← hry]; exact map_range_at _ hy)) ?_
  refine L.move rfl ?_
  refine L.move rfl ?_
  refine L.indexS T25.sl rfl rfl (by omega) ?_
  refine L.store T5.sc rfl rfl rfl (Wr.vec (E := 5) (sz := 1) (n := W) (cap := cap') (cs := lineC F W y) (y + 2) (by rw [← hry, List.getElem?_cons_succ]; exact at_rows hy) (by rw [List.length_map, List.length_range]; omega)) ?_
  refine WL.nil ?_
  refine X.end rfl (Res.none rfl) ?_
  refine ⟨_, rfl, _, rfl, ((Ent.left [_] _).trans (Ent.of_eq ?_)).trans (Ent.bytes (W := W) (H := H) (F := updF F x y s) (sl := .slice (some ⟨b, 0, none⟩) H cap) (r := r))⟩
  · rw [Nat.zero_add, Nat.mul_one, Int.toNat_natCast, lineC_upd hx]
    show _ :: ((List.range H).map _ ++ []).set y _ = _
    rw [List.append_nil, List.append_nil, map_range_set (g := fun v => vec 5 1 (r v) W (lineC (updF F x y s) W v)) (by rw [hry]) (fun i _ hi => by simp only [lineC_ne hi])]

set_option maxRecDepth 10000 in
theorem bits_set (W H : Nat) (F : Nat → Nat → Nat) (x y : Nat) (hx : x < W) (hy : y < H) (hW : W ≤ 65536) (hH : H ≤ 65536) (s : Nat) (hs : s ≤ 1) (rv : Value) : FT Pg 79 [rv, .int .i64 (x : Int), .int .i64 (y : Int), .int .u8 (s : Int)] k h0 [bitsHP W H F (.iface 72 rv)] (Ret fun _ τ => τ = [bitsHP W H (updF F x y s) (.iface 72 rv)]) := by
  refine FT.tight ?_
  refine FT.bits (by omega) (by omega) fun b cap r hv hF hr => ?_
  cases hv
  obtain ⟨b', cap', hry⟩ := hr y hy
  have e1 : ((x : Int) / 64).toNat = x / 64 := by omega
  have e2 : ((x : Int) % 64).toNat = x % 64 := by omega
  refine FT.of_wp (n := 36) Try.func79 rfl rfl rfl ?_
  refine WP.regs ?_
  refine L.box rfl rfl ?_; intro b1
  refine WL.nil ?_
  refine WP.regs ?_
  refine L.fieldAddr (o' := 0) T72.f0 rfl rfl ?_
  refine L.load T70.sc rfl (Rd.own 0 rfl rfl) ?_
  refine L.move rfl ?_
  refine L.indexS T70.sl rfl rfl (by omega) ?_
  refine L.fieldAddr T75.f1 rfl rfl ?_
  refine L.load T73.sc rfl (v := .slice (some ⟨b', 0, none⟩) ((W + 63) / 64) cap') (Rd.vec 1 rfl (by rw [Nat.zero_add, Int.toNat_natCast, ← hry]; refine (map_range_at _ (by omega)).trans ?_; rw [if_neg (by omega)]; congr 2; omega)) ?_
  refine L.move rfl ?_
  refine L.quo' rfl rfl (by omega) ?_
  refine L.indexS T73.sl rfl rfl (by omega) ?_
  refine L.assign rfl ?_
  refine WL.nil ?_
  refine WP.seq ?_
  refine WP.rege [(0, true), (1, true), (2, true), (3, true), (4, true), (5, true), (6, true), (7, true), (8, false)] 8 rfl (by kernel_rfl) (PInv.then PInv.ret) rfl ?_
  refine WE.take rfl (V.move rfl) ?_
  refine WE.take rfl (V.nilCheck rfl) ?_
  refine WE.take rfl (V.load T88.sc rfl (v := .int .u64 (wordOf (fun j => F (64 * (x / 64) + j) y) 64 : Nat)) (Rd.vec (E := 88) (sz := 1) (n := (W + 63) / 64) (cap := cap') (cs := wordC F W y) (y + 2) (by rw [← hry, List.getElem?_cons_succ]; exact at_rows hy) (by rw [e1, Nat.zero_add, Nat.mul_one]; exact map_range_at _ (by omega)))) ?_
  refine WE.take rfl (V.move rfl) ?_
  refine WE.take rfl (V.rem' rfl rfl (by omega)) ?_
  refine WE.take rfl (V.shl rfl rfl (by omega)) ?_
  refine WE.take rfl (V.andNot rfl rfl) ?_
  refine WE.take rfl (V.nilCheck rfl) ?_
  refine WE.last rfl ?_
  refine L.store T88.sc rfl rfl rfl (Wr.vec (E := 88) (sz := 1) (n := (W + 63) / 64) (cap := cap') (cs := wordC F W y) (y + 2) (by rw [← hry, List.getElem?_cons_succ]; exact at_rows hy) (by rw [List.length_map, List.length_range]; omega)) ?_
  refine WL.nil ?_
  refine WE.nil ?_
  refine X.thenN ?_
  refine WP.rege [(0, true), (1, true), (2, true), (3, true), (4, true), (5, true), (6, true), (7, true), (8, true), (9, true), (10, false)] 10 rfl (by kernel_rfl) PInv.ret rfl ?_
  refine WE.take rfl (V.move rfl) ?_
  refine WE.take rfl (V.nilCheck rfl) ?_
  refine WE.take rfl (V.load T88.sc rfl (Rd.vec (E := 88) (sz := 1) (n := (W + 63) / 64) (cap := cap') (y + 2) (List.getElem?_set_self (by simp; omega)) (List.getElem?_set_self (by simp; omega)))) ?_
  refine WE.take rfl (V.move rfl) ?_
  refine WE.take rfl (V.convInt T5.u T88.u rfl) ?_
  refine WE.take rfl (V.move rfl) ?_
  refine WE.take rfl (V.rem' rfl rfl (by omega)) ?_
  refine WE.take rfl (V.shl rfl rfl (by omega)) ?_
  refine WE.take rfl (V.or rfl rfl) ?_
  refine WE.take rfl (V.nilCheck rfl) ?_
  refine WE.last rfl ?_
  refine L.store T88.sc rfl rfl rfl (Wr.vec (E := 88) (sz := 1) (n := (W + 63) / 64) (cap := cap') (y + 2) (List.getElem?_set_self (by simp; omega)) (by rw [List.length_set, List.length_map, List.length_range]; omega)) ?_
  refine WL.nil ?_
  refine WE.nil ?_
  refine X.end rfl (Res.none rfl) ?_
  refine ⟨_, rfl, _, rfl, ((Ent.left [_] _).trans (Ent.of_eq ?_)).trans (Ent.bits (W := W) (H := H) (F := updF F x y s) (sl := .slice (some ⟨b, 0, none⟩) H cap) (r := r) (updF_le hF hs))⟩
  rw [List.set_set, List.set_set, Nat.zero_add, Nat.mul_one, e1, e2, show IntKind.u64.bits = 64 from rfl, IntWalk.u64_in (s : Int) (by omega), word_set (by omega) hs, wordC_upd hx]
  show _ :: ((List.range H).map _ ++ []).set y _ = _
  rw [List.append_nil, List.append_nil, map_range_set (g := fun v => vec 88 1 (r v) ((W + 63) / 64) (wordC (updF F x y s) W v)) (by rw [hry]) (fun i _ hi => by simp only [wordC_ne hi])]

end

end Go.Eng
