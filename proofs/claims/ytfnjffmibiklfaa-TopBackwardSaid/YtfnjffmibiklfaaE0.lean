/- Rules to walk the functions of the seat: partial heaps, contracts, one rule an operation. No conditions. -/
import Derived.WalkKit
import Derived.Deep.Quiet
import Derived.StillTail
import Derived.KernelRfl
namespace Go.Eng
open Go.RowKit

/-! ### Partial heaps -/

abbrev Hp := Nat → Option Obj
def Hp.no : Hp := fun _ => none
def Hp.one (b : Nat) (o : Obj) : Hp := fun c => if c = b then some o else none
def Hp.un (h g : Hp) : Hp := fun c => match h c with | some o => some o | none => g c
def Hp.Dj (h g : Hp) : Prop := ∀ b o, h b = some o → g b = none
def Hp.le (h g : Hp) : Prop := ∀ b o, h b = some o → g b = some o
abbrev HP := Hp → Prop

theorem Hp.Dj.symm {h g : Hp} (d : h.Dj g) : g.Dj h := fun b o hb => by
  cases e : h b with
  | none => rfl
  | some p => have := d b p e; rw [this] at hb; cases hb

theorem Hp.le_refl (h : Hp) : h.le h := fun _ _ e => e
theorem Hp.le_trans {a b c : Hp} (h : a.le b) (g : b.le c) : a.le c := fun x o e => g x o (h x o e)
theorem Hp.le_un_left (h g : Hp) : h.le (h.un g) := fun b o e => by simp [Hp.un, e]
theorem Hp.le_un_right {h g : Hp} (d : h.Dj g) : g.le (h.un g) := fun b o e => by
  have := d.symm b o e
  simp [Hp.un, this, e]
theorem Hp.un_none {h g : Hp} {b : Nat} : (h.un g) b = none ↔ h b = none ∧ g b = none := by
  unfold Hp.un
  cases h b <;> simp
theorem Hp.un_some {h g : Hp} {b : Nat} {o : Obj} (e : (h.un g) b = some o) : h b = some o ∨ g b = some o := by
  unfold Hp.un at e
  cases hb : h b with
  | none => rw [hb] at e; exact .inr e
  | some p => rw [hb] at e; exact .inl e
theorem Hp.Dj.un_left {a b c : Hp} (h : a.Dj c) (g : b.Dj c) : (a.un b).Dj c := fun x o e => by
  rcases Hp.un_some e with e | e
  · exact h x o e
  · exact g x o e
theorem Hp.Dj.un_right {a b c : Hp} (h : a.Dj b) (g : a.Dj c) : a.Dj (b.un c) := (Hp.Dj.un_left h.symm g.symm).symm
theorem Hp.Dj.of_un_left {a b c : Hp} (h : (a.un b).Dj c) : a.Dj c := fun x o e => h x o (Hp.le_un_left a b x o e)
theorem Hp.Dj.of_un_left' {a b c : Hp} (h : (a.un b).Dj c) : b.Dj c := fun x o e => by
  cases hx : a x with
  | none => exact h x o (by simp [Hp.un, hx, e])
  | some p => exact h x p (by simp [Hp.un, hx])
theorem Hp.Dj.of_un_right {a b c : Hp} (h : a.Dj (b.un c)) : a.Dj b := (Hp.Dj.of_un_left h.symm).symm
theorem Hp.Dj.of_un_right' {a b c : Hp} (h : a.Dj (b.un c)) : a.Dj c := (Hp.Dj.of_un_left' h.symm).symm
theorem Hp.un_assoc (a b c : Hp) : (a.un b).un c = a.un (b.un c) := by
  funext x; unfold Hp.un; cases a x <;> rfl
theorem Hp.un_comm {a b : Hp} (d : a.Dj b) : a.un b = b.un a := by
  funext x; unfold Hp.un
  cases ha : a x with
  | none => cases hb : b x <;> rfl
  | some o => have := d x o ha; rw [this]
theorem Hp.no_un (a : Hp) : Hp.no.un a = a := by funext x; rfl
theorem Hp.un_no (a : Hp) : a.un Hp.no = a := by funext x; unfold Hp.un Hp.no; cases a x <;> rfl
theorem Hp.no_Dj (a : Hp) : Hp.no.Dj a := fun _ _ e => by cases e
theorem Hp.Dj_no (a : Hp) : a.Dj Hp.no := fun _ _ _ => rfl

/-! ### Lists of assertions, apart from one another -/

def Stars : List HP → HP
  | [] => fun h => h = Hp.no
  | p :: r => fun h => ∃ a b, p a ∧ Stars r b ∧ a.Dj b ∧ h = a.un b

theorem Stars.append {σ τ : List HP} : ∀ {h : Hp}, Stars (σ ++ τ) h ↔ ∃ a b, Stars σ a ∧ Stars τ b ∧ a.Dj b ∧ h = a.un b := by
  induction σ with
  | nil => exact fun {h} => ⟨fun H => ⟨Hp.no, h, rfl, H, Hp.no_Dj _, (Hp.no_un _).symm⟩, fun ⟨a, b, ha, hb, _, e⟩ => by
      have : a = Hp.no := ha
      rw [e, this, Hp.no_un]; exact hb⟩
  | cons p σ ih =>
    intro h
    constructor
    · rintro ⟨a, b, hp, hb, d, e⟩
      obtain ⟨c, d', hc, hd, dj, e'⟩ := ih.1 hb
      subst e'
      exact ⟨a.un c, d', ⟨a, c, hp, hc, d.of_un_right, rfl⟩, hd, (d.of_un_right').un_left dj, by rw [e, Hp.un_assoc]⟩
    · rintro ⟨a, b, ⟨x, y, hx, hy, dxy, ea⟩, hb, d, e⟩
      subst ea
      exact ⟨x, y.un b, hx, ih.2 ⟨y, b, hy, hb, d.of_un_left', rfl⟩, dxy.un_right d.of_un_left, by rw [e, Hp.un_assoc]⟩

theorem Stars.perm {σ τ : List HP} (p : σ.Perm τ) : ∀ {h : Hp}, Stars σ h → Stars τ h := by
  induction p with
  | nil => exact fun H => H
  | cons x _ ih => exact fun ⟨a, b, ha, hb, d, e⟩ => ⟨a, b, ha, ih hb, d, e⟩
  | swap x y l =>
    rintro h ⟨a, b, ha, ⟨c, d, hc, hd, dj, e'⟩, dab, e⟩
    subst e'
    exact ⟨c, a.un d, hc, ⟨a, d, ha, hd, dab.of_un_right', rfl⟩, (dab.of_un_right.symm).un_right dj, by
      rw [e, ← Hp.un_assoc, Hp.un_comm dab.of_un_right, Hp.un_assoc]⟩
  | trans _ _ ih1 ih2 => exact fun H => ih2 (ih1 H)

theorem Stars.single {p : HP} {h : Hp} (H : p h) : Stars [p] h := ⟨h, Hp.no, H, rfl, Hp.Dj_no _, (Hp.un_no _).symm⟩

/-! ### What a world is known to hold -/

def Holds (h : Hp) (w : World) : Prop := ∀ b o, h b = some o → w.heap[b]? = some o
theorem Holds.un {h g : Hp} {w : World} (a : Holds h w) (b : Holds g w) : Holds (h.un g) w := fun x o e => by
  rcases Hp.un_some e with e | e
  · exact a x o e
  · exact b x o e
theorem Holds.mono {h g : Hp} {w : World} (a : Holds g w) (l : h.le g) : Holds h w := fun x o e => a x o (l x o e)

/-- The state: 'k' for the streams, 'h0' what stays as it is, 'σ' what is owned. -/
structure St (k : World) (h0 : Hp) (σ : List HP) (w : World) : Prop where
  os : w.os = k.os
  tape : w.tape = k.tape
  output : w.output = k.output
  base : Holds h0 w
  own : ∃ h1, Stars σ h1 ∧ h0.Dj h1 ∧ Holds h1 w

theorem St.drew {k : World} {h0 : Hp} {σ : List HP} {w : World} {d : Nat} (h : St k h0 σ w) : St k h0 σ { w with drawn := d } := ⟨h.os, h.tape, h.output, h.base, h.own⟩

theorem St.perm {k : World} {h0 : Hp} {σ τ : List HP} {w : World} (p : σ.Perm τ) (h : St k h0 σ w) : St k h0 τ w := by
  obtain ⟨h1, s, d, hh⟩ := h.own
  exact ⟨h.os, h.tape, h.output, h.base, h1, s.perm p, d, hh⟩

/-- One state gives another. -/
def Ent (σ τ : List HP) : Prop := ∀ k h0 w, St k h0 σ w → St k h0 τ w
theorem Ent.refl (σ : List HP) : Ent σ σ := fun _ _ _ h => h
theorem Ent.trans {a b c : List HP} (h : Ent a b) (g : Ent b c) : Ent a c := fun k h0 w s => g k h0 w (h k h0 w s)
theorem Ent.perm {σ τ : List HP} (p : σ.Perm τ) : Ent σ τ := fun _ _ _ h => h.perm p

theorem St.tail {k : World} {h0 : Hp} {p : HP} {σ : List HP} {w : World} (h : St k h0 (p :: σ) w) : St k h0 σ w := by
  obtain ⟨h1, ⟨a, b, ha, hb, d, e⟩, dj, hh⟩ := h.own
  subst e
  exact ⟨h.os, h.tape, h.output, h.base, b, hb, dj.of_un_right', hh.mono (Hp.le_un_right d)⟩

theorem St.map_head {k : World} {h0 : Hp} {p q : HP} {σ : List HP} {w : World} (hpq : ∀ h, p h → q h) (h : St k h0 (p :: σ) w) : St k h0 (q :: σ) w := by
  obtain ⟨h1, ⟨a, b, ha, hb, d, e⟩, dj, hh⟩ := h.own
  exact ⟨h.os, h.tape, h.output, h.base, h1, ⟨a, b, hpq _ ha, hb, d, e⟩, dj, hh⟩

theorem perm_pull {σ : List HP} : ∀ (i : Nat) {p : HP}, σ[i]? = some p → σ.Perm (p :: σ.eraseIdx i) := by
  induction σ with
  | nil => intro i p h; simp at h
  | cons q σ ih =>
    intro i p h
    cases i with
    | zero => simp at h; subst h; simp
    | succ i =>
      simp at h
      have := (ih i h).cons q
      simp only [List.eraseIdx_cons_succ]
      exact this.trans (List.Perm.swap p q _)

theorem St.pull {k : World} {h0 : Hp} {σ : List HP} {w : World} (i : Nat) {p : HP} (hi : σ[i]? = some p) (h : St k h0 σ w) : St k h0 (p :: σ.eraseIdx i) w := h.perm (perm_pull i hi)
theorem St.push {k : World} {h0 : Hp} {σ : List HP} {w : World} (i : Nat) {p : HP} (hi : σ[i]? = some p) (h : St k h0 (p :: σ.eraseIdx i) w) : St k h0 σ w := h.perm (perm_pull i hi).symm

theorem perm_set {σ : List HP} : ∀ (i : Nat) {p : HP} (q : HP), σ[i]? = some p → (q :: σ.eraseIdx i).Perm (σ.set i q) := by
  induction σ with
  | nil => intro i p q h; simp at h
  | cons r σ ih =>
    intro i p q h
    cases i with
    | zero => simp
    | succ i =>
      simp at h
      simp only [List.eraseIdx_cons_succ, List.set_cons_succ]
      exact (List.Perm.swap r q _).trans ((ih i q h).cons r)

theorem St.put {k : World} {h0 : Hp} {σ : List HP} {w : World} (i : Nat) {p q : HP} (hi : σ[i]? = some p) (h : St k h0 (q :: σ.eraseIdx i) w) : St k h0 (σ.set i q) w := h.perm (perm_set i q hi)

/-- What is owned besides goes into what stays. -/
theorem St.frame {k : World} {h0 : Hp} {σ τ : List HP} {w : World} (h : St k h0 (σ ++ τ) w) : ∃ g, Stars τ g ∧ h0.Dj g ∧ St k (h0.un g) σ w := by
  obtain ⟨h1, s, dj, hh⟩ := h.own
  obtain ⟨a, b, ha, hb, d, e⟩ := Stars.append.1 s
  subst e
  exact ⟨b, hb, dj.of_un_right', h.os, h.tape, h.output, h.base.un (hh.mono (Hp.le_un_right d)), a, ha, (dj.of_un_right).un_left d.symm, hh.mono (Hp.le_un_left _ _)⟩

theorem St.unframe {k : World} {h0 g : Hp} {σ τ : List HP} {w : World} (hg : Stars τ g) (hd : h0.Dj g) (h : St k (h0.un g) σ w) : St k h0 (σ ++ τ) w := by
  obtain ⟨h1, s, dj, hh⟩ := h.own
  refine ⟨h.os, h.tape, h.output, h.base.mono (Hp.le_un_left _ _), h1.un g, Stars.append.2 ⟨h1, g, s, hg, dj.of_un_left'.symm, rfl⟩, (dj.of_un_left).un_right hd, hh.un (h.base.mono (Hp.le_un_right hd))⟩

/-- Block 'b' is owned and holds 'o'. -/
def ob (b : Nat) (o : Obj) : HP := fun h => h = Hp.one b o
/-- ... cells. -/
def cl (b : Nat) (cs : List Value) (T : TypeId) : HP := ob b (.cells cs.toArray T)

theorem Hp.one_self (b : Nat) (o : Obj) : Hp.one b o b = some o := by simp [Hp.one]
theorem Hp.one_some {b c : Nat} {o p : Obj} (h : Hp.one b o c = some p) : c = b ∧ p = o := by
  unfold Hp.one at h
  split at h
  · rename_i e; exact ⟨e, (Option.some.inj h).symm⟩
  · cases h

theorem St.look {k : World} {h0 : Hp} {σ : List HP} {w : World} {b : Nat} {o : Obj} (i : Nat) (hi : σ[i]? = some (ob b o)) (h : St k h0 σ w) : w.heap[b]? = some o := by
  obtain ⟨h1, ⟨a, c, ha, hc, d, e⟩, dj, hh⟩ := (h.pull i hi).own
  refine hh b o ?_
  rw [e]
  refine Hp.le_un_left _ _ _ _ ?_
  rw [show a = Hp.one b o from ha]
  exact Hp.one_self b o

theorem lt_of_look {w : World} {b : Nat} {o : Obj} (h : w.heap[b]? = some o) : b < w.heap.size := by
  rcases Nat.lt_or_ge b w.heap.size with g | g
  · exact g
  · rw [Array.getElem?_eq_none g] at h; cases h

/-- A new block. -/
theorem St.new {k : World} {h0 : Hp} {σ : List HP} {w : World} (o : Obj) (h : St k h0 σ w) : St k h0 (ob w.heap.size o :: σ) { w with heap := w.heap.push o } := by
  obtain ⟨h1, s, dj, hh⟩ := h.own
  have keep : ∀ g, Holds g w → Holds g { w with heap := w.heap.push o } := fun g hg x p e => by
    have := hg x p e
    have hl := lt_of_look this
    show (w.heap.push o)[x]? = _
    rw [Array.getElem?_push, if_neg (by omega)]; exact this
  have fresh : ∀ g, Holds g w → (Hp.one w.heap.size o).Dj g := fun g hg x p e => by
    obtain ⟨rfl, _⟩ := Hp.one_some e
    cases hx : g w.heap.size with
    | none => rfl
    | some q => have := lt_of_look (hg _ _ hx); omega
  refine ⟨h.os, h.tape, h.output, keep _ h.base, (Hp.one w.heap.size o).un h1, ⟨_, h1, rfl, s, fresh _ hh, rfl⟩, ((fresh _ h.base).symm).un_right dj, Holds.un ?_ (keep _ hh)⟩
  intro x p e
  obtain ⟨rfl, rfl⟩ := Hp.one_some e
  show (w.heap.push p)[w.heap.size]? = _
  simp

/-- An owned block is written. -/
theorem St.write {k : World} {h0 : Hp} {σ : List HP} {w w' : World} {b : Nat} {o o' : Obj} (i : Nat) (hi : σ[i]? = some (ob b o)) (h : St k h0 σ w)
    (hos : w'.os = w.os) (ht : w'.tape = w.tape) (hout : w'.output = w.output) (hb : w'.heap[b]? = some o') (hrest : ∀ c, c ≠ b → w'.heap[c]? = w.heap[c]?) :
    St k h0 (σ.set i (ob b o')) w' := by
  refine St.put i hi ?_
  obtain ⟨h1, ⟨a, c, ha, hc, d, e⟩, dj, hh⟩ := (h.pull i hi).own
  have ha' : a = Hp.one b o := ha
  subst ha' e
  have keep : ∀ g, (Hp.one b o).Dj g → Holds g w → Holds g w' := fun g hd hg x p e => by
    have hx : x ≠ b := fun e' => by
      subst e'
      have := hd x o (Hp.one_self x o)
      rw [this] at e; cases e
    rw [hrest x hx]; exact hg x p e
  have chg : ∀ g, (Hp.one b o).Dj g → (Hp.one b o').Dj g := fun g hd x p e => by
    obtain ⟨rfl, _⟩ := Hp.one_some e
    exact hd x o (Hp.one_self x o)
  refine ⟨hos.trans h.os, ht.trans h.tape, hout.trans h.output, keep _ dj.of_un_right.symm h.base, (Hp.one b o').un c, ⟨_, c, rfl, hc, chg _ d, rfl⟩, ((chg _ dj.of_un_right.symm).symm).un_right dj.of_un_right', Holds.un ?_ (keep _ d (hh.mono (Hp.le_un_right d)))⟩
  intro x p e
  obtain ⟨rfl, rfl⟩ := Hp.one_some e
  exact hb

/-! ### Reading and writing cells -/

def Rd (h0 : Hp) (σ : List HP) (a : Addr) (v : Value) : Prop := ∀ k w, St k h0 σ w → w.cell? a = some v
def cellOf (o : Option Obj) (off : Nat) : Option Value := match o with | some (.cells c _ _) => c[off]? | _ => none

theorem cell_of_heap {w : World} {b off : Nat} : w.cell? ⟨b, off, none⟩ = cellOf w.heap[b]? off := by
  unfold World.cell? cellOf
  cases w.heap[b]? with
  | none => rfl
  | some o => cases o <;> rfl

/-- Out of what stays. -/
theorem Rd.ro {h0 : Hp} {σ : List HP} {b off : Nat} {v : Value} (h : cellOf (h0 b) off = some v) : Rd h0 σ ⟨b, off, none⟩ v := fun k w s => by
  rw [cell_of_heap]
  cases hb : h0 b with
  | none => rw [hb] at h; cases h
  | some o => rw [s.base b o hb, ← hb]; exact h

theorem Rd.own {h0 : Hp} {σ : List HP} {b off : Nat} {cs : List Value} {T : TypeId} {v : Value} (i : Nat) (hi : σ[i]? = some (cl b cs T)) (h : cs[off]? = some v) : Rd h0 σ ⟨b, off, none⟩ v := fun k w s => by
  rw [cell_of_heap, s.look i hi]
  simpa [cellOf] using h

/-- Writing 'v' at 'a' turns 'σ' into 'τ'. -/
def Wr (σ : List HP) (a : Addr) (v : Value) (τ : List HP) : Prop := ∀ k h0 w, St k h0 σ w → (∃ u, w.cell? a = some u) ∧ w.frozen? a = false ∧ St k h0 τ (w.setCell a v)

theorem Wr.own {σ : List HP} {b off : Nat} {cs : List Value} {T : TypeId} {v : Value} (i : Nat) (hi : σ[i]? = some (cl b cs T)) (h : off < cs.length) :
    Wr σ ⟨b, off, none⟩ v (σ.set i (cl b (cs.set off v) T)) := fun k h0 w s => by
  have hb := s.look i hi
  refine ⟨⟨cs[off], ?_⟩, ?_, ?_⟩
  · rw [cell_of_heap, hb]; simp [cellOf, h]
  · simp only [World.frozen?, hb]
    simp
  · refine s.write i hi rfl rfl rfl ?_ ?_
    · simp only [World.setCell, Array.getElem?_modify, hb, if_true, Option.map]
      simp
    · intro c hc
      simp only [World.setCell, Array.getElem?_modify]
      rw [if_neg (Ne.symm hc)]

/-! ### The frame of a call -/

structure Env where
  n : Nat
  defers : List Deferred
  slots : List (Nat × Value)

def getIn : List (Nat × Value) → Nat → Option Value
  | [], _ => none
  | (k, v) :: r, t => bif Nat.beq k t then some v else getIn r t
def Env.get (ρ : Env) (t : Nat) : Option Value := getIn ρ.slots t
def Env.put (ρ : Env) (d : Nat) (v : Value) : Env := ⟨ρ.n, ρ.defers, (d, v) :: ρ.slots⟩
def Env.ev (ρ : Env) : Operand → Option Value
  | .tmp t => ρ.get t
  | .const v => some v
  | .global g => some (.pointer (some ⟨g, 0, none⟩))
  | .func f => some (.func (.func f) #[] #[])

structure Env.Ok (ρ : Env) (a : Act) : Prop where
  size : a.tmps.size = ρ.n
  defers : a.defers = ρ.defers
  get : ∀ t v, ρ.get t = some v → a.tmps[t]? = some v

theorem Env.Ok.ev {ρ : Env} {a : Act} (h : ρ.Ok a) {x : Operand} {v : Value} (e : ρ.ev x = some v) : a.eval x = v := by
  cases x with
  | tmp t => have := h.get t v e; simp [Act.eval, this]
  | const u => exact Option.some.inj e
  | global g => exact Option.some.inj e
  | func f => exact Option.some.inj e

theorem Env.Ok.put {ρ : Env} {a : Act} (h : ρ.Ok a) {d : Nat} (hd : Nat.blt d ρ.n = true) (v : Value) : (ρ.put d v).Ok (a.put (some d) v) := by
  have hd' : d < a.tmps.size := by rw [h.size]; exact of_decide_eq_true (by simpa [Nat.blt_eq] using hd)
  refine ⟨by simp [Act.put, Env.put, h.size], h.defers, fun t u e => ?_⟩
  simp only [Act.put, Array.getElem?_setIfInBounds]
  by_cases htd : d = t
  · subst htd
    have e : getIn ((d, v) :: ρ.slots) d = some u := e
    simp [getIn] at e
    simp [hd', e]
  · have e : getIn ((d, v) :: ρ.slots) t = some u := e
    have : Nat.beq d t = false := by
      cases hb : Nat.beq d t with
      | false => rfl
      | true => exact absurd (Nat.eq_of_beq_eq_true hb) htd
    simp [getIn, this] at e
    rw [if_neg htd]
    exact h.get t u e

/-- 'ρ' knows no more than 'ρ''. -/
structure Env.Sub (ρ ρ' : Env) : Prop where
  n : ρ.n = ρ'.n
  defers : ρ.defers = ρ'.defers
  get : ∀ t v, ρ.get t = some v → ρ'.get t = some v
theorem Env.Ok.sub {ρ ρ' : Env} {a : Act} (h : ρ'.Ok a) (s : ρ.Sub ρ') : ρ.Ok a := ⟨h.size.trans s.n.symm, h.defers.trans s.defers.symm, fun t v e => h.get t v (s.get t v e)⟩
theorem Env.Sub.refl (ρ : Env) : ρ.Sub ρ := ⟨rfl, rfl, fun _ _ e => e⟩
theorem Env.Sub.nil {n : Nat} {ds : List Deferred} {l : List (Nat × Value)} : (Env.mk n ds []).Sub ⟨n, ds, l⟩ := ⟨rfl, rfl, fun _ _ e => by cases e⟩
theorem Env.Sub.cons {n : Nat} {ds : List Deferred} {l : List (Nat × Value)} {ρ' : Env} {t : Nat} {v v' : Value} (h : ρ'.get t = some v') (hv : v = v') (s : (Env.mk n ds l).Sub ρ') : (Env.mk n ds ((t, v) :: l)).Sub ρ' :=
  ⟨s.n, s.defers, fun u x e => by
    have e : getIn ((t, v) :: l) u = some x := e
    simp only [getIn] at e
    cases hb : Nat.beq t u with
    | true =>
      rw [hb] at e
      simp at e
      have ht := Nat.eq_of_beq_eq_true hb
      subst ht
      rw [h, ← hv]; exact congrArg some (Option.some.inj (by simpa [Env.get, getIn, hb] using e))
    | false => rw [hb] at e; exact s.get u x e⟩

end Go.Eng
