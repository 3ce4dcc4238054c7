/- Rules to walk the functions of the seat: partial heaps, contracts, one rule an operation. No conditions. -/
import Derived.Test.YtfnjffmibiklfaaE0
namespace Go.Eng
open Go.RowKit

abbrev Post := Exit → Env → List HP → Prop

def lift (k : World) (h0 : Hp) (Q : Post) : Exit → Act → World → Prop := fun e a w => ∃ ρ σ, ρ.Ok a ∧ St k h0 σ w ∧ Q e ρ σ

def thenQ (K : Env → List HP → Prop) (Q : Post) : Post
  | .normal, ρ, σ => K ρ σ
  | e, ρ, σ => Q e ρ σ

def blockQ (id : Nat) (Q : Post) : Post
  | .exit id', ρ, σ => if id' = id then Q .normal ρ σ else Q (.exit id') ρ σ
  | e, ρ, σ => Q e ρ σ

/-- Code from a known frame and a known state. -/
def WP (P : Program) (k : World) (h0 : Hp) (c : Code) (Q : Post) (ρ : Env) (σ : List HP) : Prop :=
  ∀ a w, ρ.Ok a → St k h0 σ w → c.wp P (lift k h0 Q) a w

/-- Operations in order; 'ops': the whole region. -/
def WL (P : Program) (k : World) (h0 : Hp) (ops : List Oper) (K : Env → List HP → Prop) (Q : Post) (l : List Oper) (ρ : Env) (σ : List HP) : Prop :=
  ∀ a w, ρ.Ok a → St k h0 σ w → wpList P ops.toArray (lift k h0 (thenQ K Q)) l a w

/-- How a call ends. -/
def FT (P : Program) (f : FuncId) (args : List Value) (k : World) (h0 : Hp) (σ : List HP) (R : Ending → List HP → Prop) : Prop :=
  ∀ w, St k h0 σ w → Calls P f args.toArray w fun e w' => ∃ τ, St k h0 τ w' ∧ R e τ

/-- It returns. -/
def Ret (R : Value → List HP → Prop) : Ending → List HP → Prop := fun e τ => ∃ v, e = .returned v ∧ R v τ

section
variable {P : Program} {k : World} {h0 : Hp} {Q : Post} {ρ : Env} {σ : List HP} {K : Env → List HP → Prop}

theorem WP.weaken {c : Code} {ρ' : Env} {σ' : List HP} (hρ : ρ'.Sub ρ) (hσ : Ent σ σ') (h : WP P k h0 c Q ρ' σ') : WP P k h0 c Q ρ σ := fun a w ha hs => h a w (ha.sub hρ) (hσ _ _ _ hs)
theorem WP.ent {c : Code} {σ' : List HP} (hσ : Ent σ σ') (h : WP P k h0 c Q ρ σ') : WP P k h0 c Q ρ σ := fun a w ha hs => h a w ha (hσ _ _ _ hs)
theorem WP.mono {c : Code} {Q' : Post} (h : WP P k h0 c Q ρ σ) (hq : ∀ e ρ σ, Q e ρ σ → Q' e ρ σ) : WP P k h0 c Q' ρ σ :=
  fun a w ha hs => Code.wp_mono (fun _ _ _ ⟨ρ, σ, x, y, z⟩ => ⟨ρ, σ, x, y, hq _ _ _ z⟩) (h a w ha hs)

theorem WP.seq {c d : Code} (h : WP P k h0 c (thenQ (WP P k h0 d Q) Q) ρ σ) : WP P k h0 (.seq c d) Q ρ σ := fun a w ha hs =>
  wp_seq (Code.wp_mono (fun e a w q => by
    obtain ⟨ρ', σ', ha', hs', q⟩ := q
    cases e with
    | normal => exact q a w ha' hs'
    | exit id => exact ⟨ρ', σ', ha', hs', q⟩
    | goto l => exact ⟨ρ', σ', ha', hs', q⟩
    | ret => exact ⟨ρ', σ', ha', hs', q⟩
    | panic ch => exact ⟨ρ', σ', ha', hs', q⟩
    | outgrown => exact ⟨ρ', σ', ha', hs', q⟩) (h a w ha hs))

theorem WP.block {id : Nat} {c : Code} (h : WP P k h0 c (blockQ id Q) ρ σ) : WP P k h0 (.block id c) Q ρ σ := fun a w ha hs =>
  wp_block (Code.wp_mono (fun e a w q => by
    obtain ⟨ρ', σ', ha', hs', q⟩ := q
    cases e with
    | exit id' =>
      simp only [Exit.inBlock, blockQ] at q ⊢
      split
      · rename_i e; rw [if_pos e] at q; exact ⟨ρ', σ', ha', hs', q⟩
      · rename_i e; rw [if_neg e] at q; exact ⟨ρ', σ', ha', hs', q⟩
    | normal => exact ⟨ρ', σ', ha', hs', q⟩
    | goto l => exact ⟨ρ', σ', ha', hs', q⟩
    | ret => exact ⟨ρ', σ', ha', hs', q⟩
    | panic ch => exact ⟨ρ', σ', ha', hs', q⟩
    | outgrown => exact ⟨ρ', σ', ha', hs', q⟩) (h a w ha hs))

theorem WP.skip (h : Q .normal ρ σ) : WP P k h0 .skip Q ρ σ := fun _ _ ha hs => wp_skip ⟨ρ, σ, ha, hs, h⟩
theorem WP.label {l : Nat} (h : Q .normal ρ σ) : WP P k h0 (.label l) Q ρ σ := fun _ _ ha hs => wp_label ⟨ρ, σ, ha, hs, h⟩
theorem WP.exit {id : Nat} (h : Q (.exit id) ρ σ) : WP P k h0 (.exit id) Q ρ σ := fun _ _ ha hs => wp_exit ⟨ρ, σ, ha, hs, h⟩
theorem WP.ret (h : Q .ret ρ σ) : WP P k h0 .ret Q ρ σ := fun _ _ ha hs => wp_ret ⟨ρ, σ, ha, hs, h⟩
theorem WP.cond {c : Operand} {x y : Code} {b : Bool} (hc : ρ.ev c = some (.bool b)) (ht : b = true → WP P k h0 x Q ρ σ) (hf : b = false → WP P k h0 y Q ρ σ) : WP P k h0 (.cond c x y) Q ρ σ :=
  fun a w ha hs => wp_cond_split (ha.ev hc) (fun e => ht e a w ha hs) (fun e => hf e a w ha hs)
theorem WP.condT {c : Operand} {x y : Code} (hc : ρ.ev c = some (.bool true)) (h : WP P k h0 x Q ρ σ) : WP P k h0 (.cond c x y) Q ρ σ :=
  fun a w ha hs => wp_cond_true (ha.ev hc) (h a w ha hs)
theorem WP.condF {c : Operand} {x y : Code} (hc : ρ.ev c = some (.bool false)) (h : WP P k h0 y Q ρ σ) : WP P k h0 (.cond c x y) Q ρ σ :=
  fun a w ha hs => wp_cond_false (ha.ev hc) (h a w ha hs)
/-- A test that is decided by a proposition. -/
theorem WP.condD {c : Operand} {x y : Code} {p : Prop} [Decidable p] (hc : ρ.ev c = some (.bool (decide p))) (ht : p → WP P k h0 x Q ρ σ) (hf : ¬ p → WP P k h0 y Q ρ σ) : WP P k h0 (.cond c x y) Q ρ σ :=
  WP.cond hc (fun e => ht (of_decide_eq_true e)) (fun e => hf (of_decide_eq_false e))

theorem least {p : Nat → Prop} (h : ∃ m, p m) : ∃ m, p m ∧ ∀ m', m' < m → ¬ p m' := by
  obtain ⟨m, hm⟩ := h
  induction m using Nat.strongRecOn with
  | _ m ih =>
    by_cases hx : ∃ m', m' < m ∧ p m'
    · obtain ⟨m', hlt, hm'⟩ := hx; exact ih m' hlt hm'
    · exact ⟨m, hm, fun m' hlt hj => hx ⟨m', hlt, hj⟩⟩

/-- 'E x' is the frame, 'S x' the state at the loop's head. -/
theorem WP.loop {c : Code} {X : Type} (E : X → Env) (S : X → List HP) (I : X → Prop) (μ : X → Nat) (x0 : X) (hI : I x0) (hE : (E x0).Sub ρ) (hS : Ent σ (S x0))
    (round : ∀ x, I x → WP P k h0 c (thenQ (fun ρ' σ' => ∃ x', I x' ∧ μ x' < μ x ∧ (E x').Sub ρ' ∧ Ent σ' (S x')) Q) (E x) (S x)) : WP P k h0 (.loop c) Q ρ σ := by
  intro a w ha hs
  classical
  let J : Act → World → Nat → Prop := fun a w m => ∃ x, I x ∧ μ x = m ∧ (E x).Ok a ∧ St k h0 (S x) w
  let M : Act → World → Nat := fun a w => if h : ∃ m, J a w m then Classical.choose (least h) else 0
  refine wp_loop (fun a w => ∃ m, J a w m) M ⟨μ x0, x0, hI, rfl, ha.sub hE, hS _ _ _ hs⟩ ?_
  intro a w hj
  have hM : M a w = Classical.choose (least hj) := dif_pos hj
  have hspec := Classical.choose_spec (least hj)
  rw [← hM] at hspec
  obtain ⟨⟨x, hI, hμ, ha, hs⟩, hmin⟩ := hspec
  refine Code.wp_mono (fun e a' w' q => ?_) (round x hI a w ha hs)
  obtain ⟨ρ', σ', ha', hs', q⟩ := q
  cases e with
  | normal =>
    obtain ⟨x', hI', hlt, hE', hS'⟩ := q
    have hj' : J a' w' (μ x') := ⟨x', hI', rfl, ha'.sub hE', hS' _ _ _ hs'⟩
    have hM' : M a' w' = Classical.choose (least ⟨_, hj'⟩) := dif_pos ⟨_, hj'⟩
    have hspec' := Classical.choose_spec (least ⟨_, hj'⟩)
    rw [← hM'] at hspec'
    refine ⟨⟨_, hj'⟩, ?_⟩
    have h2 : ¬ μ x' < M a' w' := fun h => hspec'.2 _ h hj'
    omega
  | exit id => exact ⟨ρ', σ', ha', hs', q⟩
  | goto l => exact ⟨ρ', σ', ha', hs', q⟩
  | ret => exact ⟨ρ', σ', ha', hs', q⟩
  | panic ch => exact ⟨ρ', σ', ha', hs', q⟩
  | outgrown => exact ⟨ρ', σ', ha', hs', q⟩

/-! ### Ways out -/
theorem X.thenN (h : K ρ σ) : thenQ K Q .normal ρ σ := h
theorem X.thenE {id : Nat} (h : Q (.exit id) ρ σ) : thenQ K Q (.exit id) ρ σ := h
theorem X.thenR (h : Q .ret ρ σ) : thenQ K Q .ret ρ σ := h
theorem X.thenP {ch : List PanicEntry} (h : Q (.panic ch) ρ σ) : thenQ K Q (.panic ch) ρ σ := h
theorem X.blockN {id : Nat} (h : Q .normal ρ σ) : blockQ id Q .normal ρ σ := h
theorem X.blockE {id : Nat} (h : Q .normal ρ σ) : blockQ id Q (.exit id) ρ σ := by simp only [blockQ, if_true]; exact h
theorem X.blockF {id id' : Nat} (hn : Nat.beq id' id = false) (h : Q (.exit id') ρ σ) : blockQ id Q (.exit id') ρ σ := by
  simp only [blockQ]
  rw [if_neg (fun e => by subst e; simp at hn)]; exact h
theorem X.blockR {id : Nat} (h : Q .ret ρ σ) : blockQ id Q .ret ρ σ := h
theorem X.blockP {id : Nat} {ch : List PanicEntry} (h : Q (.panic ch) ρ σ) : blockQ id Q (.panic ch) ρ σ := h

/-! ### A call from its begin to its end -/
/-- What the results are. -/
def Res (P : Program) (fn : Func) (k : World) (h0 : Hp) (ρ : Env) (σ : List HP) (v : Value) : Prop :=
  ∀ a w, ρ.Ok a → St k h0 σ w → (results fn a.tmps).run P w = .ok v w

def retQ (P : Program) (fn : Func) (k : World) (h0 : Hp) (R : Ending → List HP → Prop) : Post
  | .normal, ρ, σ | .ret, ρ, σ => ρ.defers = [] ∧ ∃ v, Res P fn k h0 ρ σ v ∧ R (.returned v) σ
  | .panic ch, ρ, σ => ρ.defers = [] ∧ R (.panicked ch) σ
  | _, _, _ => False

def argSlots : Nat → List Value → List (Nat × Value)
  | _, [] => []
  | i, v :: r => (i, v) :: argSlots (i + 1) r

theorem getIn_argSlots (l : List Value) : ∀ (i t : Nat) (v : Value), getIn (argSlots i l) t = some v → i ≤ t ∧ l[t - i]? = some v := by
  induction l with
  | nil => intro i t v h; cases h
  | cons x l ih =>
    intro i t v h
    simp only [argSlots, getIn] at h
    cases hb : Nat.beq i t with
    | true =>
      have e := Nat.eq_of_beq_eq_true hb
      subst e
      rw [hb] at h
      exact ⟨Nat.le_refl _, by simpa using h⟩
    | false =>
      rw [hb] at h
      obtain ⟨h1, h2⟩ := ih (i + 1) t v h
      refine ⟨by omega, ?_⟩
      rw [show t - i = (t - (i + 1)) + 1 by omega]
      simpa using h2

theorem FT.of_wp {f : FuncId} {fn : Func} {c : Code} {n : Nat} {args : List Value} {R : Ending → List HP → Prop} (hf : P.funcs[f]? = some fn) (hb : fn.body = some c) (hn : fn.ntmps = n) (hl : Nat.ble args.length n = true)
    (h : WP P k h0 c (retQ P fn k h0 R) ⟨n, [], argSlots 0 args⟩ σ) : FT P f args k h0 σ R := fun w hs => by
  have hl' : args.length ≤ n := Nat.le_of_ble_eq_true hl
  refine calls_of_wp hf hb (Code.wp_mono ?_ (h _ w ⟨?_, rfl, ?_⟩ hs))
  · intro e a' w' q
    obtain ⟨ρ', σ', ha', hs', q⟩ := q
    cases e with
    | normal => obtain ⟨hd, v, hv, hr⟩ := q; exact ⟨ha'.defers.trans hd, v, hv a' w' ha' hs', σ', hs', hr⟩
    | ret => obtain ⟨hd, v, hv, hr⟩ := q; exact ⟨ha'.defers.trans hd, v, hv a' w' ha' hs', σ', hs', hr⟩
    | panic ch => obtain ⟨hd, hr⟩ := q; exact ⟨ha'.defers.trans hd, σ', hs', hr⟩
    | exit id => exact q.elim
    | goto l => exact q.elim
    | outgrown => exact q.elim
  · simp [hn]; omega
  · intro t v e
    obtain ⟨_, h2⟩ := getIn_argSlots args 0 t v e
    simp only [Nat.sub_zero] at h2
    have : t < args.length := by
      rcases Nat.lt_or_ge t args.length with g | g
      · exact g
      · rw [List.getElem?_eq_none g] at h2; cases h2
    simp only [Array.getElem?_append, List.size_toArray, this, if_true]
    simpa using h2

theorem Res.one {fn : Func} {t : Nat} {v : Value} (h : fn.results = #[.tmp t]) (hv : ρ.get t = some v) : Res P fn k h0 ρ σ v := fun a w ha _ => by
  rw [results_tmp h]; have := ha.get t v hv; simp [this]
theorem Res.none {fn : Func} (h : fn.results = #[]) : Res P fn k h0 ρ σ (.tuple #[]) := fun _ w _ _ => results_none h _ P w
theorem Res.two {fn : Func} {t u : Nat} {v x : Value} (h : fn.results = #[.tmp t, .tmp u]) (hv : ρ.get t = some v) (hx : ρ.get u = some x) : Res P fn k h0 ρ σ (.tuple #[v, x]) := fun a w ha _ => by
  rw [results_tmp2 h]; have e1 := ha.get t v hv; have e2 := ha.get u x hx; simp [e1, e2]
theorem Res.three {fn : Func} {t u s : Nat} {v x y : Value} (h : fn.results = #[.tmp t, .tmp u, .tmp s]) (hv : ρ.get t = some v) (hx : ρ.get u = some x) (hy : ρ.get s = some y) : Res P fn k h0 ρ σ (.tuple #[v, x, y]) := fun a w ha _ => by
  have e1 := ha.get t v hv; have e2 := ha.get u x hx; have e3 := ha.get s y hy
  simp [results, h, e1, e2, e3]

theorem X.ret {fn : Func} {R : Ending → List HP → Prop} {v : Value} (hd : ρ.defers = []) (hv : Res P fn k h0 ρ σ v) (hr : R (.returned v) σ) : retQ P fn k h0 R .ret ρ σ := ⟨hd, v, hv, hr⟩
theorem X.end {fn : Func} {R : Ending → List HP → Prop} {v : Value} (hd : ρ.defers = []) (hv : Res P fn k h0 ρ σ v) (hr : R (.returned v) σ) : retQ P fn k h0 R .normal ρ σ := ⟨hd, v, hv, hr⟩
theorem X.panic {fn : Func} {R : Ending → List HP → Prop} {ch : List PanicEntry} (hd : ρ.defers = []) (hr : R (.panicked ch) σ) : retQ P fn k h0 R (.panic ch) ρ σ := ⟨hd, hr⟩

theorem FT.mono {f : FuncId} {args : List Value} {R R' : Ending → List HP → Prop} (h : FT P f args k h0 σ R) (hr : ∀ e τ, R e τ → R' e τ) : FT P f args k h0 σ R' :=
  fun w hs => (h w hs).mono fun _ _ ⟨τ, s, r⟩ => ⟨τ, s, hr _ _ r⟩
theorem FT.ent {f : FuncId} {args : List Value} {R : Ending → List HP → Prop} {σ' : List HP} (he : Ent σ σ') (h : FT P f args k h0 σ' R) : FT P f args k h0 σ R := fun w hs => h w (he _ _ _ hs)
/-- What the call does not need stays beside it. -/
theorem FT.frame {f : FuncId} {args : List Value} {R : Ending → List HP → Prop} {τ : List HP} (h : ∀ g, Stars τ g → h0.Dj g → FT P f args k (h0.un g) σ R) :
    FT P f args k h0 (σ ++ τ) (fun e σ' => ∃ σ'', σ' = σ'' ++ τ ∧ R e σ'') := fun w hs => by
  obtain ⟨g, hg, dj, hs'⟩ := hs.frame
  refine (h g hg dj w hs').mono fun e w' ⟨σ'', s, r⟩ => ⟨σ'' ++ τ, s.unframe hg dj, σ'', rfl, r⟩
end

end Go.Eng
