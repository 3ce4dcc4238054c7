/- Rules to walk the functions of the seat: partial heaps, contracts, one rule an operation. No conditions. -/
import Derived.Test.YtfnjffmibiklfaaE10
namespace Go.Eng
open Go.RowKit

/-! ### opening and shutting what is owned -/
def starsP (τ : List HP) : HP := fun h => Stars τ h
def exP {X : Type} (p : X → HP) : HP := fun h => ∃ x, p x h
def andP (φ : Prop) (p : HP) : HP := fun h => φ ∧ p h

section
variable {P : Program} {k : World} {h0 : Hp} {σ τ : List HP} {ρ : Env} {Q : Post} {K : Env → List HP → Prop} {ops : List Oper}

theorem Ent.stars : Ent (starsP τ :: σ) (τ ++ σ) := fun _ _ _ h => by
  obtain ⟨h1, ⟨a, b, ha, hb, d, e⟩, dj, hh⟩ := h.own
  exact ⟨h.os, h.tape, h.output, h.base, h1, Stars.append.2 ⟨a, b, ha, hb, d, e⟩, dj, hh⟩
theorem Ent.shut : Ent (τ ++ σ) (starsP τ :: σ) := fun _ _ _ h => by
  obtain ⟨h1, s, dj, hh⟩ := h.own
  obtain ⟨a, b, ha, hb, d, e⟩ := Stars.append.1 s
  exact ⟨h.os, h.tape, h.output, h.base, h1, ⟨a, b, ha, hb, d, e⟩, dj, hh⟩
theorem Ent.ex {X : Type} {p : X → HP} (x : X) : Ent (p x :: σ) (exP p :: σ) := fun _ _ _ h => h.map_head fun _ e => ⟨x, e⟩
theorem Ent.and {φ : Prop} {p : HP} (hφ : φ) : Ent (p :: σ) (andP φ p :: σ) := fun _ _ _ h => h.map_head fun _ e => ⟨hφ, e⟩
theorem Ent.of_eq (h : σ = τ) : Ent σ τ := h ▸ Ent.refl _
theorem Ent.cons {p : HP} (h : Ent σ τ) : Ent (p :: σ) (p :: τ) := fun _ _ _ s => by
  obtain ⟨h1, ⟨a, b, ha, hb, d, e⟩, dj, hh⟩ := s.own
  subst e
  have s' : St _ (Hp.un _ a) σ _ := ⟨s.os, s.tape, s.output, s.base.un (hh.mono (Hp.le_un_left _ _)), b, hb, (dj.of_un_right').un_left d, hh.mono (Hp.le_un_right d)⟩
  obtain ⟨g, hg, dg, hhg⟩ := (h _ _ _ s').own
  exact ⟨s.os, s.tape, s.output, s.base, a.un g, ⟨a, g, ha, hg, dg.of_un_left', rfl⟩, (dj.of_un_right).un_right dg.of_un_left, (hh.mono (Hp.le_un_left _ _)).un hhg⟩
theorem Ent.app {τ' : List HP} (h : Ent σ τ) : Ent (τ' ++ σ) (τ' ++ τ) := by
  induction τ' with
  | nil => exact h
  | cons p r ih => exact Ent.cons ih
theorem Ent.appR {τ' : List HP} (h : Ent σ τ) : Ent (σ ++ τ') (τ ++ τ') :=
  (Ent.perm List.perm_append_comm).trans ((Ent.app h).trans (Ent.perm List.perm_append_comm))
theorem Ent.drop (i : Nat) : Ent σ (σ.eraseIdx i) := fun _ _ _ h => by
  cases hi : σ[i]? with
  | none =>
    have : σ.length ≤ i := by
      rcases Nat.lt_or_ge i σ.length with g | g
      · rw [List.getElem?_eq_getElem g] at hi; cases hi
      · exact g
    rw [List.eraseIdx_of_length_le this]; exact h
  | some p => exact (h.pull i hi).tail
theorem Ent.pull (i : Nat) {p : HP} (hi : σ[i]? = some p) : Ent σ (p :: σ.eraseIdx i) := fun _ _ _ h => h.pull i hi
/-- At a place within. -/
theorem Ent.at (i : Nat) {p q : HP} (hi : σ[i]? = some p) (h : Ent (p :: σ.eraseIdx i) (q :: σ.eraseIdx i)) : Ent σ (σ.set i q) := fun _ _ _ s => St.put i hi (h _ _ _ (s.pull i hi))

theorem WP.fact {c : Code} {φ : Prop} (hφ : ∀ k h0 w, St k h0 σ w → φ) (h : φ → WP P k h0 c Q ρ σ) : WP P k h0 c Q ρ σ := fun a w ha hs => h (hφ _ _ _ hs) a w ha hs
theorem WL.fact {l : List Oper} {φ : Prop} (hφ : ∀ k h0 w, St k h0 σ w → φ) (h : φ → WL P k h0 ops K Q l ρ σ) : WL P k h0 ops K Q l ρ σ := fun a w ha hs => h (hφ _ _ _ hs) a w ha hs
theorem WP.ex {c : Code} {X : Type} {p : X → HP} (h : ∀ x, WP P k h0 c Q ρ (p x :: σ)) : WP P k h0 c Q ρ (exP p :: σ) := fun a w ha hs => by
  obtain ⟨h1, ⟨x, b, ⟨y, hy⟩, hb, d, e⟩, dj, hh⟩ := hs.own
  exact h y a w ha ⟨hs.os, hs.tape, hs.output, hs.base, h1, ⟨x, b, hy, hb, d, e⟩, dj, hh⟩
theorem WL.ex {l : List Oper} {X : Type} {p : X → HP} (h : ∀ x, WL P k h0 ops K Q l ρ (p x :: σ)) : WL P k h0 ops K Q l ρ (exP p :: σ) := fun a w ha hs => by
  obtain ⟨h1, ⟨x, b, ⟨y, hy⟩, hb, d, e⟩, dj, hh⟩ := hs.own
  exact h y a w ha ⟨hs.os, hs.tape, hs.output, hs.base, h1, ⟨x, b, hy, hb, d, e⟩, dj, hh⟩
theorem WP.and {c : Code} {φ : Prop} {p : HP} (h : φ → WP P k h0 c Q ρ (p :: σ)) : WP P k h0 c Q ρ (andP φ p :: σ) := fun a w ha hs => by
  obtain ⟨h1, ⟨x, b, ⟨hφ, hy⟩, hb, d, e⟩, dj, hh⟩ := hs.own
  exact h hφ a w ha ⟨hs.os, hs.tape, hs.output, hs.base, h1, ⟨x, b, hy, hb, d, e⟩, dj, hh⟩
theorem WL.and {l : List Oper} {φ : Prop} {p : HP} (h : φ → WL P k h0 ops K Q l ρ (p :: σ)) : WL P k h0 ops K Q l ρ (andP φ p :: σ) := fun a w ha hs => by
  obtain ⟨h1, ⟨x, b, ⟨hφ, hy⟩, hb, d, e⟩, dj, hh⟩ := hs.own
  exact h hφ a w ha ⟨hs.os, hs.tape, hs.output, hs.base, h1, ⟨x, b, hy, hb, d, e⟩, dj, hh⟩
/-- The same of a whole call. -/
theorem FT.ex {f : FuncId} {vs : List Value} {R : Ending → List HP → Prop} {X : Type} {p : X → HP} (h : ∀ x, FT P f vs k h0 (p x :: σ) R) : FT P f vs k h0 (exP p :: σ) R := fun w hs => by
  obtain ⟨h1, ⟨x, b, ⟨y, hy⟩, hb, d, e⟩, dj, hh⟩ := hs.own
  exact h y w ⟨hs.os, hs.tape, hs.output, hs.base, h1, ⟨x, b, hy, hb, d, e⟩, dj, hh⟩
theorem FT.and {f : FuncId} {vs : List Value} {R : Ending → List HP → Prop} {φ : Prop} {p : HP} (h : φ → FT P f vs k h0 (p :: σ) R) : FT P f vs k h0 (andP φ p :: σ) R := fun w hs => by
  obtain ⟨h1, ⟨x, b, ⟨hφ, hy⟩, hb, d, e⟩, dj, hh⟩ := hs.own
  exact h hφ w ⟨hs.os, hs.tape, hs.output, hs.base, h1, ⟨x, b, hy, hb, d, e⟩, dj, hh⟩
theorem FT.fact {f : FuncId} {vs : List Value} {R : Ending → List HP → Prop} {φ : Prop} (hφ : ∀ k h0 w, St k h0 σ w → φ) (h : φ → FT P f vs k h0 σ R) : FT P f vs k h0 σ R := fun w hs => h (hφ _ _ _ hs) w hs
/-- A part of what is owned is handed on, the rest stays beside it. -/
theorem FT.part {f : FuncId} {vs : List Value} {R : Value → List HP → Prop} (σ1 σ2 : List HP) (hp : Ent σ (σ1 ++ σ2)) (h : ∀ g, Stars σ2 g → h0.Dj g → FT P f vs k (h0.un g) σ1 (Ret R)) :
    FT P f vs k h0 σ (Ret fun v τ => ∃ τ', R v τ' ∧ τ = τ' ++ σ2) :=
  FT.ent hp ((FT.frame h).mono fun _ _ ⟨σ'', hσ, v, he, hr⟩ => ⟨v, he, σ'', hr, hσ⟩)

/-! ### an owned slice: what it looks like, its cells -/
theorem St.vec_shape {w : World} {E sz n : Nat} {v : Value} {cs : List Value} (i : Nat) (hi : σ[i]? = some (vec E sz v n cs)) (h : St k h0 σ w) :
    cs.length = n * sz ∧ ∃ a cap, v = .slice a n cap ∧ n ≤ cap ∧ (0 < n → ∃ b, a = some ⟨b, 0, none⟩) := by
  obtain ⟨hl, hc⟩ := (h.pull i hi).vec_cases
  refine ⟨hl, ?_⟩
  rcases hc with ⟨hv, hn, _⟩ | ⟨b, cap, junk, hv, hn, _, _⟩
  · exact ⟨none, 0, by rw [hv, hn], by omega, fun h => by omega⟩
  · exact ⟨some ⟨b, 0, none⟩, cap, hv, hn, fun _ => ⟨b, rfl⟩⟩
theorem St.vec_cells {w : World} {E sz n b cap : Nat} {cs : List Value} (i : Nat) (hi : σ[i]? = some (vec E sz (.slice (some ⟨b, 0, none⟩) n cap) n cs)) (h : St k h0 σ w) :
    ∃ junk, St k h0 (cl b (cs ++ junk) E :: σ.eraseIdx i) w ∧ n ≤ cap ∧ cs.length = n * sz ∧ cs.length + junk.length = cap * sz := by
  obtain ⟨hl, hc⟩ := (h.pull i hi).vec_cases
  rcases hc with ⟨hv, _⟩ | ⟨b', cap', junk, hv, hn, hc, hs⟩
  · cases hv
  · cases hv
    exact ⟨junk, hs, hn, hl, hc⟩
theorem Rd.vec {E sz n b cap off : Nat} {cs : List Value} {v : Value} (i : Nat) (hi : σ[i]? = some (vec E sz (.slice (some ⟨b, 0, none⟩) n cap) n cs)) (h : cs[off]? = some v) : Rd h0 σ ⟨b, off, none⟩ v := fun k w s => by
  obtain ⟨junk, hs, _⟩ := s.vec_cells i hi
  have hlt : off < cs.length := by
    rcases Nat.lt_or_ge off cs.length with g | g
    · exact g
    · rw [List.getElem?_eq_none g] at h; cases h
  exact Rd.own (σ := cl b (cs ++ junk) E :: σ.eraseIdx i) 0 rfl (by rw [List.getElem?_append_left hlt]; exact h) k w hs
theorem Rds.vec {E sz n b cap o : Nat} {cs vs : List Value} (i : Nat) (hi : σ[i]? = some (vec E sz (.slice (some ⟨b, 0, none⟩) n cap) n cs)) (h : ∀ j v, vs[j]? = some v → cs[o + j]? = some v) : Rds h0 σ b o vs :=
  fun j v hj => Rd.vec i hi (h j v hj)
theorem Wr.vec {E sz n b cap off : Nat} {cs : List Value} {v : Value} (i : Nat) (hi : σ[i]? = some (vec E sz (.slice (some ⟨b, 0, none⟩) n cap) n cs)) (h : off < cs.length) :
    Wr σ ⟨b, off, none⟩ v (σ.set i (vec E sz (.slice (some ⟨b, 0, none⟩) n cap) n (cs.set off v))) := fun k h0 w s => by
  obtain ⟨junk, hs, hn, hl, hc⟩ := s.vec_cells i hi
  obtain ⟨h1, h2, h3⟩ := Wr.own (σ := cl b (cs ++ junk) E :: σ.eraseIdx i) (v := v) (off := off) 0 rfl (by rw [List.length_append]; omega) k h0 w hs
  refine ⟨h1, h2, St.put i hi ?_⟩
  have e : (cs ++ junk).set off v = cs.set off v ++ junk := by rw [List.set_append_left _ _ h]
  have h3' : St k h0 (cl b (cs.set off v ++ junk) E :: σ.eraseIdx i) (w.setCell ⟨b, off, none⟩ v) := by rw [← e]; exact h3
  exact h3'.vec_of_cl hn (by simpa using hl) (by simpa using hc)
theorem Wrs.vec {E sz n b cap o : Nat} {cs vs : List Value} (i : Nat) (hi : σ[i]? = some (vec E sz (.slice (some ⟨b, 0, none⟩) n cap) n cs)) (h : o + vs.length ≤ cs.length) (h1 : ∀ v ∈ vs, v.oneCell' = true) :
    Wrs P σ b o vs (σ.set i (vec E sz (.slice (some ⟨b, 0, none⟩) n cap) n (over cs o vs))) := fun k h0 w s => by
  obtain ⟨junk, hs, hn, hl, hc⟩ := s.vec_cells i hi
  obtain ⟨w', hr, hs'⟩ := Wrs.own (P := P) (σ := cl b (cs ++ junk) E :: σ.eraseIdx i) (o := o) (vs := vs) 0 rfl (by rw [List.length_append]; omega) h1 k h0 w hs
  refine ⟨w', hr, St.put i hi ?_⟩
  have key : ∀ (vs cs : List Value) (o : Nat), o + vs.length ≤ cs.length → over (cs ++ junk) o vs = over cs o vs ++ junk := by
    intro vs
    induction vs with
    | nil => intro cs o _; rfl
    | cons v vs ih =>
      intro cs o hle
      simp only [List.length_cons] at hle
      simp only [over]
      rw [List.set_append_left _ _ (by omega), ih _ _ (by simp; omega)]
  rw [key vs cs o h] at hs'
  have hs'' : St k h0 (cl b (over cs o vs ++ junk) E :: σ.eraseIdx i) w' := hs'
  exact hs''.vec_of_cl hn (by rw [length_over]; exact hl) (by rw [length_over]; exact hc)
/-- A block that was made whole is an owned slice. -/
theorem Ent.vec_made {E n b : Nat} {cs : List Value} (hl : cs.length = n) : Ent (cl b cs E :: σ) (vec E 1 (.slice (some ⟨b, 0, none⟩) n n) n cs :: σ) := fun k1 g1 w1 h => by
  have h' : St k1 g1 (cl b (cs ++ []) E :: σ) w1 := by rw [List.append_nil]; exact h
  exact h'.vec_of_cl (Nat.le_refl _) (by omega) (by simp; omega)

/-! ### what stays: pure facts of a partial heap -/
/-- 'p' holds of a part of 'h'. -/
def In (p : HP) (h : Hp) : Prop := ∃ a, p a ∧ a.le h
theorem In.mono {p : HP} {h g : Hp} (i : In p h) (l : h.le g) : In p g := let ⟨a, x, y⟩ := i; ⟨a, x, Hp.le_trans y l⟩
theorem In.of_stars {p : HP} {g : Hp} (i : Nat) (hi : σ[i]? = some p) (hg : Stars σ g) : In p g := by
  obtain ⟨a, c, ha, hc, d, e⟩ := hg.perm (perm_pull i hi)
  exact ⟨a, ha, by rw [e]; exact Hp.le_un_left _ _⟩
theorem In.of_stars' {p : HP} {g : Hp} (i : Nat) (hi : σ[i]? = some p) (hg : Stars σ g) (dj : h0.Dj g) : In p (h0.un g) := (In.of_stars i hi hg).mono (Hp.le_un_right dj)
theorem In.stars {h : Hp} (i : In (starsP τ) h) (j : Nat) {p : HP} (hj : τ[j]? = some p) : In p h := by
  obtain ⟨a, ha, l⟩ := i
  exact (In.of_stars j hj ha).mono l
theorem In.ex {X : Type} {p : X → HP} {h : Hp} (i : In (exP p) h) : ∃ x, In (p x) h := let ⟨a, ⟨x, hx⟩, l⟩ := i; ⟨x, a, hx, l⟩
theorem In.and {φ : Prop} {p : HP} {h : Hp} (i : In (andP φ p) h) : φ ∧ In p h := let ⟨a, ⟨hφ, hx⟩, l⟩ := i; ⟨hφ, a, hx, l⟩
theorem In.cl {b T : Nat} {cs : List Value} {h : Hp} (i : In (cl b cs T) h) : h b = some (.cells cs.toArray T) := by
  obtain ⟨a, ha, l⟩ := i
  exact l _ _ (by rw [show a = Hp.one b _ from ha]; exact Hp.one_self _ _)
theorem In.vec {E sz n : Nat} {v : Value} {cs : List Value} {h : Hp} (i : In (vec E sz v n cs) h) (hn : 0 < n) : ∃ b cap junk, v = .slice (some ⟨b, 0, none⟩) n cap ∧ n ≤ cap ∧ cs.length = n * sz ∧ h b = some (.cells (cs ++ junk).toArray E) := by
  obtain ⟨a, ⟨hl, ha⟩, l⟩ := i
  rcases ha with ⟨_, h0, _⟩ | ⟨b, cap, junk, hv, hc, _, ha⟩
  · omega
  · exact ⟨b, cap, junk, hv, hc, hl, l _ _ (by rw [ha]; exact Hp.one_self _ _)⟩
theorem Rd.of {b off T : Nat} {cs : Array Value} {fr : Nat × Nat} {v : Value} (hb : h0 b = some (.cells cs T fr)) (h : cs[off]? = some v) : Rd h0 σ ⟨b, off, none⟩ v := Rd.ro (by rw [hb]; exact h)
end
end Go.Eng
