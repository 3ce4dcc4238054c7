/- Rules to walk the functions of the seat: partial heaps, contracts, one rule an operation. No conditions. -/
import Derived.Test.YtfnjffmibiklfaaE4
import Derived.OrdersHeld
namespace Go.Eng
open Go.RowKit

/-! ### A region that draws its order: those that only read come first, in the proof -/
section
variable {P : Program} {ops : Array Oper} {Q : Exit → Act → World → Prop}

/-- Whatever order is picked, the condition 'S' (it sees what has come up) behind each operation. -/
def wpAnyZ (P : Program) (ops : Array Oper) (Q : Exit → Act → World → Prop) (S : Array Bool → World → Prop) : Nat → Array Bool → Act → World → Prop
  | 0, listed, a, w => Region.ready .any ops listed = [] ∧ Q .normal a w
  | fuel + 1, listed, a, w =>
    (Region.ready .any ops listed = [] → Q .normal a w) ∧
    ∀ i ∈ Region.ready .any ops listed, wpOp P ops Q i (fun a' w' => S (listed.setIfInBounds i true) w' ∧ wpAnyZ P ops Q S fuel (listed.setIfInBounds i true) a' w') a w

theorem wpAny_of_Z {S : Array Bool → World → Prop} : ∀ (fuel : Nat) (listed : Array Bool) (a : Act) (w : World), wpAnyZ P ops Q S fuel listed a w → wpAny P .any ops Q fuel listed a w
  | 0, _, _, _, h => h
  | fuel + 1, _, _, _, h => ⟨h.1, fun i hi => wpOp_mono (fun a' w' h' => wpAny_of_Z fuel _ a' w' h'.2) (h.2 i hi)⟩

/-- Whatever has come up, all that it waits for has. -/
def Closed (ops : Array Oper) (listed : Array Bool) : Prop := ∀ j o, ops[j]? = some o → listed.getD j false = true → ∀ e ∈ o.after, Region.binds .any e = true → listed.getD e.on false = true

theorem Closed.set {listed : Array Bool} (h : Closed ops listed) {i : Nat} (hi : i ∈ Region.ready .any ops listed) : Closed ops (listed.setIfInBounds i true) := fun j o ho hj e he hb => by
  by_cases hij : i = j
  · subst hij
    obtain ⟨_, o', ho', hall⟩ := mem_ready.1 hi
    rw [ho] at ho'
    obtain rfl := Option.some.inj ho'
    exact getD_set_true (hall e he hb)
  · rw [getD_set_ne false hij] at hj
    exact getD_set_true (h j o ho hj e he hb)

/-- 'z' waits for 'i'. -/
def waits (ops : Array Oper) : Nat → Nat → Nat → Bool
  | 0, _, _ => false
  | f + 1, z, i => match ops[z]? with
    | some o => o.after.any fun e => Region.binds .any e && (e.on == i || waits ops f e.on i)
    | none => true

theorem waits_spec {listed : Array Bool} (hc : Closed ops listed) (hsz : listed.size = ops.size) {i : Nat} (hi : listed.getD i false = false) : ∀ (f z : Nat), waits ops f z i = true → listed.getD z false = false
  | 0, _, h => by cases h
  | f + 1, z, h => by
    simp only [waits] at h
    cases ho : ops[z]? with
    | none =>
      have : ops.size ≤ z := by
        rcases Nat.lt_or_ge z ops.size with g | g
        · rw [Array.getElem?_eq_getElem g] at ho; cases ho
        · exact g
      simp [Array.getElem?_eq_none (show listed.size ≤ z by omega)]
    | some o =>
      rw [ho] at h
      obtain ⟨e, he, hb⟩ := Array.any_eq_true'.1 h
      simp only [Bool.and_eq_true, Bool.or_eq_true, beq_iff_eq] at hb
      cases hz : listed.getD z false with
      | false => rfl
      | true =>
        have hon := hc z o ho hz e he hb.1
        rcases hb.2 with e1 | e1
        · rw [e1, hi] at hon; cases hon
        · rw [waits_spec hc hsz hi f e.on e1] at hon; cases hon

theorem wpAnyZ_first {S : Array Bool → World → Prop} {i : Nat} {oi : Oper} {v : Value} (hi : ops[i]? = some oi) (hsel : ∀ (j : Nat) (o : Oper) cs b, ops[j]? = some o → o.op ≠ .select cs b)
    (hQ : ∀ c a w, Q (.panic c) (a.put oi.dst v) w → Q (.panic c) a w) {C : World → Prop}
    (hinv : ∀ listed w, S (listed.setIfInBounds i true) w ↔ S listed w)
    (hC : ∀ listed w, Closed ops listed → listed.size = ops.size → listed.getD i false = false → S listed w → C w) :
    ∀ (fuel : Nat) (listed : Array Bool) (a : Act) (w : World), Closed ops listed → listed.size = ops.size →
      (∀ j oj, ops[j]? = some oj → j ≠ i → listed.getD j true = false → (∀ e ∈ oj.after, Region.binds .any e = true → e.on ≠ i) → oi.apart ops oj = true) →
      i ∈ Region.ready .any ops listed → YieldsIf P ops C oi v a → S listed w →
      wpAnyZ P ops Q S fuel (listed.setIfInBounds i true) (a.put oi.dst v) w → wpAnyZ P ops Q S (fuel + 1) listed a w := by
  intro fuel
  induction fuel with
  | zero =>
    intro listed a w hcl hsz _ hr hy hS H
    have hun : listed.getD i false = false := by
      have := (mem_ready.1 hr).1
      have hlt : i < listed.size := by rw [hsz]; exact (Array.getElem?_eq_some_iff.1 hi).1
      simpa [hlt] using this
    refine ⟨fun h => (by rw [h] at hr; cases hr), fun j hj => ?_⟩
    by_cases hji : j = i
    · subst hji; exact hy.wpOp hi (hC listed w hcl hsz hun hS) ⟨(hinv _ _).2 hS, H⟩
    · have := ready_mono hj hji
      rw [H.1] at this
      cases this
  | succ fuel ih =>
    intro listed a w hcl hsz hfree hr hy hS H
    have hun : listed.getD i false = false := by
      have := (mem_ready.1 hr).1
      have hlt : i < listed.size := by rw [hsz]; exact (Array.getElem?_eq_some_iff.1 hi).1
      simpa [hlt] using this
    refine ⟨fun h => (by rw [h] at hr; cases hr), fun j hj => ?_⟩
    by_cases hji : j = i
    · subst hji; exact hy.wpOp hi (hC listed w hcl hsz hun hS) ⟨(hinv _ _).2 hS, H⟩
    · have h1 := H.2 j (ready_mono hj hji)
      obtain ⟨hjun, oj, hoj, hall⟩ := mem_ready.1 hj
      have hnot : ∀ e ∈ oj.after, Region.binds .any e = true → e.on ≠ i := fun e he hb heq => by
        have h1 := hall e he hb
        rw [heq, hun] at h1; cases h1
      have h2 := wpOp_putIf hoj (hfree j oj hoj hji hjun hnot) (fun cs b => hsel i oi cs b hi) (fun cs b => hsel j oj cs b hoj) hQ hy h1
      have hfree' : ∀ k ok, ops[k]? = some ok → k ≠ i → (listed.setIfInBounds j true).getD k true = false →
          (∀ e ∈ ok.after, Region.binds .any e = true → e.on ≠ i) → oi.apart ops ok = true := fun k ok hk hki hun hno => by
        refine hfree k ok hk hki ?_ hno
        by_cases hjk : j = k
        · subst hjk; exact hjun
        · rw [getD_set_ne true hjk] at hun; exact hun
      refine wpOp_mono (fun a' w' h3 => ?_) h2
      obtain ⟨hy', hS', hrec⟩ := h3
      rw [Array.setIfInBounds_comm _ _ (Ne.symm hji)] at hS' hrec
      have hS1 := (hinv _ _).1 hS'
      exact ⟨hS1, ih (listed.setIfInBounds j true) a' w' (hcl.set hj) (by simpa using hsz) hfree' (ready_mono hr (Ne.symm hji)) hy' hS1 hrec⟩
end

/-! ### The same over known frames and states -/
/-- The order of the proof: the marked ones read and come as soon as they may; of the others just one may come. 'z': the one that ends the reading. -/
def eagB (ops : Array Oper) (z : Nat) (fin : Array Bool → Bool) : List (Nat × Bool) → Array Bool → Bool
  | [], listed => fin listed
  | (i, true) :: r, listed => (Region.ready .any ops listed).contains i && Region.free .any ops listed i && i != z && waits ops ops.size z i && eagB ops z fin r (listed.setIfInBounds i true)
  | (i, false) :: r, listed => (Region.ready .any ops listed == [i]) && eagB ops z fin r (listed.setIfInBounds i true)
/-- Nothing is left. -/
def noneB (ops : Array Oper) : Array Bool → Bool := fun listed => (Region.ready .any ops listed).isEmpty

def Sz (k : World) (h0 : Hp) (σq : List HP) (z : Nat) : Array Bool → World → Prop := fun listed w => listed.getD z false = false → St k h0 σq w

def PInv (Q : Post) : Prop := ∀ ch ρ σ, Q (.panic ch) ρ σ → Q (.panic ch) ⟨ρ.n, ρ.defers, []⟩ σ
theorem PInv.ret {P : Program} {fn : Func} {k : World} {h0 : Hp} {R : Ending → List HP → Prop} : PInv (retQ P fn k h0 R) := fun _ _ _ h => h
theorem PInv.then {K : Env → List HP → Prop} {Q : Post} (h : PInv Q) : PInv (thenQ K Q) := fun ch ρ σ q => h ch ρ σ q
theorem PInv.block {id : Nat} {Q : Post} (h : PInv Q) : PInv (blockQ id Q) := fun ch ρ σ q => h ch ρ σ q

section
variable {P : Program} {k : World} {h0 : Hp} {Q : Post} {σ : List HP} {K : Env → List HP → Prop} {ops rest : List Oper} {σq : List HP} {z : Nat} {fin : Array Bool → Bool} {m : Nat}
  {n : Nat} {ds : List Deferred} {l : List (Nat × Value)} {π : List (Nat × Bool)}

/-- 'zn': the reading is still on. -/
def WE (P : Program) (k : World) (h0 : Hp) (ops : List Oper) (K : Env → List HP → Prop) (Q : Post) (σq : List HP) (z : Nat) (fin : Array Bool → Bool) (m : Nat) (zn : Bool) (π : List (Nat × Bool)) (ρ : Env) (σ : List HP) : Prop :=
  ∀ listed, eagB ops.toArray z fin π listed = true → Closed ops.toArray listed → listed.size = ops.length → listed.getD z false = !zn → PInv Q → (∀ (j : Nat) (o : Oper) cs b, ops.toArray[j]? = some o → o.op ≠ .select cs b) →
    ∀ a w, ρ.Ok a → St k h0 σ w → (zn = true → St k h0 σq w) → wpAnyZ P ops.toArray (lift k h0 (thenQ K Q)) (Sz k h0 σq z) (m + π.length) listed a w

theorem lift_panic {a : Act} {w : World} {c : List PanicEntry} (hQ : PInv Q) {d : Option Tmp} {v : Value} (h : lift k h0 (thenQ K Q) (.panic c) (a.put d v) w) : lift k h0 (thenQ K Q) (.panic c) a w := by
  obtain ⟨ρ, σ, ha, hs, q⟩ := h
  refine ⟨⟨ρ.n, ρ.defers, []⟩, σ, ⟨?_, ?_, fun t v e => by cases e⟩, hs, hQ _ _ _ q⟩
  · have := ha.size; cases d <;> simpa [Act.put] using this
  · have := ha.defers; cases d <;> simpa [Act.put] using this

theorem getD_of_ready {listed : Array Bool} {i : Nat} (h : i ∈ Region.ready .any ops.toArray listed) (hsz : listed.size = ops.length) : listed.getD i false = false := by
  obtain ⟨h1, o, ho, _⟩ := mem_ready.1 h
  have hlt : i < listed.size := by
    have := (Array.getElem?_eq_some_iff.1 ho).1
    simpa [hsz] using this
  simpa [hlt] using h1

theorem WE.take0 {i : Nat} {o : Oper} {v : Value} {ρ ρ' : Env} (ho : ops[i]? = some o)
    (hy : ∀ a w, ρ.Ok a → St k h0 σq w → (Region.wanted o (yielded ops.toArray a.tmps) = true ∧ (execOp a.eval o).run P w = .ok (.value v) w) ∨ (Region.wanted o (yielded ops.toArray a.tmps) = false ∧ v = undef))
    (hput : ∀ a, ρ.Ok a → ρ'.Ok (a.put o.dst v))
    (h : WE P k h0 ops K Q σq z fin m true π ρ' σ) : WE P k h0 ops K Q σq z fin m true ((i, true) :: π) ρ σ := by
  intro listed hB hcl hsz hz hQ hsel a w ha hs hq
  simp only [eagB, Bool.and_eq_true, bne_iff_ne] at hB
  obtain ⟨⟨⟨⟨hr, hf⟩, hiz⟩, hw⟩, hB'⟩ := hB
  have hr' : i ∈ Region.ready .any ops.toArray listed := by simpa using hr
  have ho' : ops.toArray[i]? = some o := by simpa using ho
  have hun := getD_of_ready hr' hsz
  have hgz : (listed.setIfInBounds i true).getD z false = listed.getD z false := getD_set_ne false hiz
  refine wpAnyZ_first (v := v) (C := St k h0 σq) ho' hsel (fun c a w => lift_panic hQ) ?_ ?_ (m + π.length) listed a w hcl (by simpa using hsz) (Region.free_spec ho' hf) hr' ?_ (fun _ => hq rfl) ?_
  · intro listed w
    unfold Sz
    rw [getD_set_ne false hiz]
  · intro listed' w hcl' hsz' hun' hS
    exact hS (waits_spec hcl' hsz' hun' _ _ hw)
  · rcases hy a w ha (hq rfl) with ⟨h1, _⟩ | ⟨h1, h2⟩
    · refine .inl ⟨h1, fun w' hw' => ?_⟩
      rcases hy a w' ha hw' with ⟨_, h3⟩ | ⟨h3, _⟩
      · exact h3
      · rw [h1] at h3; cases h3
    · exact .inr ⟨h1, h2⟩
  · exact h _ hB' (hcl.set hr') (by simpa using hsz) (by rw [hgz]; exact hz) hQ hsel _ w (hput a ha) hs hq

theorem WE.take {i d : Nat} {op : Op} {ty : TypeId} {pos : String} {aft : Array Edge} {g : Option (Nat × Bool)} {v : Value} (ho : ops[i]? = some ⟨some d, op, ty, pos, aft, g⟩)
    (hv : Val P k h0 σq ⟨n, ds, l⟩ ⟨some d, op, ty, pos, aft, g⟩ v) (h : WE P k h0 ops K Q σq z fin m true π ⟨n, ds, (d, v) :: l⟩ σ)
    (hw : wantE ops ⟨n, ds, l⟩ g = some true := by rfl) (hd : Nat.blt d n = true := by rfl) : WE P k h0 ops K Q σq z fin m true ((i, true) :: π) ⟨n, ds, l⟩ σ :=
  WE.take0 ho (fun a w ha hs => .inl ⟨wanted_of (o := ⟨some d, op, ty, pos, aft, g⟩) ha hw, hv a w ha hs⟩) (fun _ ha => ha.put hd v) h

theorem WE.takeB {i d : Nat} {op : Op} {ty : TypeId} {pos : String} {aft : Array Edge} {g : Option (Nat × Bool)} {b : Bool} (ho : ops[i]? = some ⟨some d, op, ty, pos, aft, g⟩)
    (hv : Val P k h0 σq ⟨n, ds, l⟩ ⟨some d, op, ty, pos, aft, g⟩ (.bool b)) (ht : b = true → WE P k h0 ops K Q σq z fin m true π ⟨n, ds, (d, .bool true) :: l⟩ σ) (hf : b = false → WE P k h0 ops K Q σq z fin m true π ⟨n, ds, (d, .bool false) :: l⟩ σ)
    (hw : wantE ops ⟨n, ds, l⟩ g = some true := by rfl) (hd : Nat.blt d n = true := by rfl) : WE P k h0 ops K Q σq z fin m true ((i, true) :: π) ⟨n, ds, l⟩ σ := by
  cases b with
  | true => exact WE.take ho hv (ht rfl) hw hd
  | false => exact WE.take ho hv (hf rfl) hw hd

theorem WE.takeD {p : Prop} [Decidable p] {i d : Nat} {op : Op} {ty : TypeId} {pos : String} {aft : Array Edge} {g : Option (Nat × Bool)} (ho : ops[i]? = some ⟨some d, op, ty, pos, aft, g⟩)
    (hv : Val P k h0 σq ⟨n, ds, l⟩ ⟨some d, op, ty, pos, aft, g⟩ (.bool (decide p))) (ht : p → WE P k h0 ops K Q σq z fin m true π ⟨n, ds, (d, .bool true) :: l⟩ σ) (hf : ¬ p → WE P k h0 ops K Q σq z fin m true π ⟨n, ds, (d, .bool false) :: l⟩ σ)
    (hw : wantE ops ⟨n, ds, l⟩ g = some true := by rfl) (hd : Nat.blt d n = true := by rfl) : WE P k h0 ops K Q σq z fin m true ((i, true) :: π) ⟨n, ds, l⟩ σ :=
  WE.takeB ho hv (fun e => ht (of_decide_eq_true e)) (fun e => hf (of_decide_eq_false e)) hw hd

theorem WE.skip {i d : Nat} {op : Op} {ty : TypeId} {pos : String} {aft : Array Edge} {g : Option (Nat × Bool)} (ho : ops[i]? = some ⟨some d, op, ty, pos, aft, g⟩)
    (h : WE P k h0 ops K Q σq z fin m true π ⟨n, ds, (d, undef) :: l⟩ σ)
    (hw : wantE ops ⟨n, ds, l⟩ g = some false := by rfl) (hd : Nat.blt d n = true := by rfl) : WE P k h0 ops K Q σq z fin m true ((i, true) :: π) ⟨n, ds, l⟩ σ :=
  WE.take0 ho (fun a _ ha _ => .inr ⟨wanted_of (o := ⟨some d, op, ty, pos, aft, g⟩) ha hw, rfl⟩) (fun _ ha => ha.put hd _) h

/-- One that is not a mere reading: it alone may come. -/
theorem WE.oneG {i : Nat} {o : Oper} {ρ : Env} {zn zn' : Bool} (ho : ops[i]? = some o)
    (h : WL P k h0 ops (fun ρ' σ' => (zn' = true → Ent σ' σq) ∧ WE P k h0 ops K Q σq z fin m zn' π ρ' σ') Q [o] ρ σ) (hzz : (i ≠ z ∧ zn' = zn) ∨ (i = z ∧ zn' = false)) : WE P k h0 ops K Q σq z fin m zn ((i, false) :: π) ρ σ := by
  intro listed hB hcl hsz hz hQ hsel a w ha hs _
  simp only [eagB, Bool.and_eq_true] at hB
  have hr : Region.ready .any ops.toArray listed = [i] := by simpa using hB.1
  have ho' : ops.toArray[i]? = some o := by simpa using ho
  have hi : i ∈ Region.ready .any ops.toArray listed := by rw [hr]; simp
  refine ⟨fun h => (by rw [hr] at h; cases h), fun j hj => ?_⟩
  rw [hr] at hj
  have hji : j = i := by simpa using hj
  subst hji
  have hw := h a w ha hs
  unfold wpOp
  simp only [ho']
  unfold wpList at hw
  have hgz : (listed.setIfInBounds j true).getD z false = !zn' := by
    rcases hzz with ⟨hne, e⟩ | ⟨e, e'⟩
    · rw [getD_set_ne false hne, e]; exact hz
    · subst e
      have hlt : j < listed.size := by
        have := (Array.getElem?_eq_some_iff.1 ho').1
        simpa [hsz] using this
      rw [e']
      simp [hlt]
  have key : ∀ a' w', wpList P ops.toArray (lift k h0 (thenQ (fun ρ' σ' => (zn' = true → Ent σ' σq) ∧ WE P k h0 ops K Q σq z fin m zn' π ρ' σ') Q)) [] a' w' →
      Sz k h0 σq z (listed.setIfInBounds j true) w' ∧ wpAnyZ P ops.toArray (lift k h0 (thenQ K Q)) (Sz k h0 σq z) (m + π.length) (listed.setIfInBounds j true) a' w' := fun a' w' hl => by
    obtain ⟨ρ', σ', ha', hs', he, hwe⟩ := hl
    refine ⟨fun e => ?_, hwe _ hB.2 (hcl.set hi) (by simpa using hsz) hgz hQ hsel a' w' ha' hs' fun e => he e _ _ _ hs'⟩
    rw [hgz] at e
    exact he (by cases zn' <;> simp_all) _ _ _ hs'
  have keyP : ∀ e a' w', e ≠ .normal → lift k h0 (thenQ (fun ρ' σ' => (zn' = true → Ent σ' σq) ∧ WE P k h0 ops K Q σq z fin m zn' π ρ' σ') Q) e a' w' → lift k h0 (thenQ K Q) e a' w' := fun e a' w' hne hl => by
    obtain ⟨ρ', σ', ha', hs', q⟩ := hl
    exact ⟨ρ', σ', ha', hs', by cases e <;> first | exact (hne rfl).elim | exact q⟩
  split
  · rename_i hwant
    rw [if_pos hwant] at hw
    rcases hw with hw | ⟨ha1, a0, w0, hl⟩
    · refine .inl ?_
      unfold Oper.wp at *
      generalize (execOp a.eval o).run P w = r at *
      cases r with
      | ok nx w' =>
        cases nx <;> simp only [Oper.upon] at hw ⊢ <;> first | exact key _ _ hw | skip
        · refine hw.mono fun e w'' he => ?_
          cases e with
          | returned u => exact key _ _ he
          | panicked c => exact keyP _ _ _ (by simp) he
          | outgrown => obtain ⟨a0, w0, he⟩ := he; exact ⟨a0, w0, keyP _ _ _ (by simp) he⟩
        · exact Rows.mono hw fun u w'' he => key _ _ he
      | halt x w' =>
        cases x <;> simp only [Oper.upon] at hw ⊢
        exact keyP _ _ _ (by simp) hw
    · exact .inr ⟨ha1, a0, w0, keyP _ _ _ (by simp) hl⟩
  · rename_i hwant
    rw [if_neg hwant] at hw
    exact key _ _ hw

theorem WE.one {i : Nat} {o : Oper} {ρ : Env} (ho : ops[i]? = some o)
    (h : WL P k h0 ops (fun ρ' σ' => Ent σ' σq ∧ WE P k h0 ops K Q σq z fin m true π ρ' σ') Q [o] ρ σ) (hiz : (i == z) = false := by rfl) : WE P k h0 ops K Q σq z fin m true ((i, false) :: π) ρ σ :=
  WE.oneG ho (fun a w ha hs => by
    have := h a w ha hs
    refine cast ?_ this
    congr 1
    funext e a w
    simp only [lift, eq_iff_iff]
    cases e <;> simp [thenQ]) (.inl ⟨by simpa using hiz, rfl⟩)

/-- The one that ends the reading, and those behind it. -/
theorem WE.last {i : Nat} {o : Oper} {ρ : Env} (ho : ops[i]? = some o)
    (h : WL P k h0 ops (fun ρ' σ' => WE P k h0 ops K Q σq i fin m false π ρ' σ') Q [o] ρ σ) : WE P k h0 ops K Q σq i fin m true ((i, false) :: π) ρ σ :=
  WE.oneG ho (fun a w ha hs => by
    have := h a w ha hs
    refine cast ?_ this
    congr 1
    funext e a w
    simp only [lift, eq_iff_iff]
    cases e <;> simp [thenQ]) (.inr ⟨rfl, rfl⟩)
theorem WE.more {i : Nat} {o : Oper} {ρ : Env} (ho : ops[i]? = some o)
    (h : WL P k h0 ops (fun ρ' σ' => WE P k h0 ops K Q σq z fin m false π ρ' σ') Q [o] ρ σ) (hiz : (i == z) = false := by rfl) : WE P k h0 ops K Q σq z fin m false ((i, false) :: π) ρ σ :=
  WE.oneG ho (fun a w ha hs => by
    have := h a w ha hs
    refine cast ?_ this
    congr 1
    funext e a w
    simp only [lift, eq_iff_iff]
    cases e <;> simp [thenQ]) (.inl ⟨by simpa using hiz, rfl⟩)

theorem WE.nil {ρ : Env} {zn : Bool} (h : K ρ σ) : WE P k h0 ops K Q σq z (noneB ops.toArray) 0 zn [] ρ σ := fun listed hB _ _ _ _ _ a w ha hs _ =>
  ⟨by simpa [eagB, noneB] using hB, ρ, σ, ha, hs, h⟩

theorem WE.ent {τ : List HP} {ρ : Env} (he : Ent σ τ) (h : WE P k h0 ops K Q σq z fin m false π ρ τ) : WE P k h0 ops K Q σq z fin m false π ρ σ :=
  fun listed hB hcl hsz hz hQ hsel a w ha hs _ => h listed hB hcl hsz hz hQ hsel a w ha (he _ _ _ hs) (by simp)

theorem WP.rege {ρ : Env} {id : Nat} {l' : List Oper} (π : List (Nat × Bool)) (z : Nat) (hm : P.follows .mixedOrders = true)
    (hB : (Region.noSelect l'.toArray && eagB l'.toArray z (noneB l'.toArray) π (Array.replicate l'.length false)) = true) (hQ : PInv Q)
    (hlen : π.length = l'.length) (h : WE P k h0 l' (Q .normal) Q σ z (noneB l'.toArray) 0 true π ρ σ) : WP P k h0 (.region id l'.toArray true) Q ρ σ := fun a w ha hs => by
  simp only [Bool.and_eq_true] at hB
  refine wp_region_any hm (wpAny_of_Z (S := Sz k h0 σ z) _ _ _ _ ?_)
  have := h (Array.replicate l'.length false) hB.2 (fun j o _ hj => by rw [getD_replicate_false] at hj; cases hj) (by simp) (by rw [getD_replicate_false]; rfl) hQ (Region.noSelect_spec hB.1) a { w with drawn := w.drawn + 1 } ha hs.drew (fun _ => hs.drew)
  rw [Nat.zero_add, hlen] at this
  simp only [List.size_toArray]
  refine cast ?_ this
  congr 1
  funext e a w
  simp only [lift, eq_iff_iff]
  cases e <;> exact Iff.rfl

/-! ### those that may come in more than one order -/
/-- From here on whatever order is picked. -/
def WT (P : Program) (k : World) (h0 : Hp) (ops : List Oper) (K : Env → List HP → Prop) (Q : Post) (σq : List HP) (z : Nat) (zn : Bool) (fuel : Nat) (listed : Array Bool) (ρ : Env) (σ : List HP) : Prop :=
  ∀ a w, ρ.Ok a → St k h0 σ w → wpAnyZ P ops.toArray (lift k h0 (thenQ K Q)) (Sz k h0 σq z) fuel listed a w

theorem WE.free {ρ : Env} {zn : Bool} (L : Array Bool) (h : WT P k h0 ops K Q σq z zn m L ρ σ) : WE P k h0 ops K Q σq z (fun l => l == L) m zn [] ρ σ := fun listed hB _ _ _ _ _ a w ha hs _ => by
  have e : listed = L := by simpa [eagB] using hB
  subst e
  exact h a w ha hs

theorem WT.nil {ρ : Env} {zn : Bool} {L : Array Bool} (hr : Region.ready .any ops.toArray L = []) (h : K ρ σ) : WT P k h0 ops K Q σq z zn 0 L ρ σ := fun a w ha hs =>
  ⟨hr, ρ, σ, ha, hs, h⟩

/-- One of those that may come. -/
def WTo (P : Program) (k : World) (h0 : Hp) (ops : List Oper) (K : Env → List HP → Prop) (Q : Post) (σq : List HP) (z : Nat) (zn : Bool) (fuel : Nat) (listed : Array Bool) (ρ : Env) (σ : List HP) (i : Nat) : Prop :=
  ∃ o, ops[i]? = some o ∧ WL P k h0 ops (fun ρ' σ' => ((zn && (i != z)) = true → Ent σ' σq) ∧ WT P k h0 ops K Q σq z (zn && (i != z)) fuel (listed.setIfInBounds i true) ρ' σ') Q [o] ρ σ

theorem WT.step {ρ : Env} {zn : Bool} {fuel : Nat} {L : Array Bool} (is : List Nat) (hr : Region.ready .any ops.toArray L = is) (hne : is.isEmpty = false) (hz : L.getD z false = !zn) (hzz : z < L.size)
    (h : ∀ i ∈ is, WTo P k h0 ops K Q σq z zn fuel L ρ σ i) : WT P k h0 ops K Q σq z zn (fuel + 1) L ρ σ := fun a w ha hs => by
  refine ⟨fun e => (by rw [hr] at e; subst e; cases hne), fun i hi => ?_⟩
  rw [hr] at hi
  obtain ⟨o, ho, hl⟩ := h i hi
  have ho' : ops.toArray[i]? = some o := by simpa using ho
  have hw := hl a w ha hs
  unfold wpOp
  simp only [ho']
  unfold wpList at hw
  have hgz : (L.setIfInBounds i true).getD z false = !(zn && (i != z)) := by
    by_cases e : i = z
    · subst e
      simp [hzz]
    · rw [getD_set_ne false e, hz]; simp [e]
  have key : ∀ a' w', wpList P ops.toArray (lift k h0 (thenQ (fun ρ' σ' => ((zn && (i != z)) = true → Ent σ' σq) ∧ WT P k h0 ops K Q σq z (zn && (i != z)) fuel (L.setIfInBounds i true) ρ' σ') Q)) [] a' w' →
      Sz k h0 σq z (L.setIfInBounds i true) w' ∧ wpAnyZ P ops.toArray (lift k h0 (thenQ K Q)) (Sz k h0 σq z) fuel (L.setIfInBounds i true) a' w' := fun a' w' hl => by
    obtain ⟨ρ', σ', ha', hs', he, hwe⟩ := hl
    refine ⟨fun e => ?_, hwe a' w' ha' hs'⟩
    rw [hgz] at e
    exact he (by cases hb : (zn && (i != z)) <;> simp_all) _ _ _ hs'
  have keyP : ∀ e a' w', e ≠ .normal → lift k h0 (thenQ (fun ρ' σ' => ((zn && (i != z)) = true → Ent σ' σq) ∧ WT P k h0 ops K Q σq z (zn && (i != z)) fuel (L.setIfInBounds i true) ρ' σ') Q) e a' w' → lift k h0 (thenQ K Q) e a' w' := fun e a' w' hne hl => by
    obtain ⟨ρ', σ', ha', hs', q⟩ := hl
    exact ⟨ρ', σ', ha', hs', by cases e <;> first | exact (hne rfl).elim | exact q⟩
  split
  · rename_i hwant
    rw [if_pos hwant] at hw
    rcases hw with hw | ⟨ha1, a0, w0, hl⟩
    · refine .inl ?_
      unfold Oper.wp at *
      generalize (execOp a.eval o).run P w = r at *
      cases r with
      | ok nx w' =>
        cases nx <;> simp only [Oper.upon] at hw ⊢ <;> first | exact key _ _ hw | skip
        · refine hw.mono fun e w'' he => ?_
          cases e with
          | returned u => exact key _ _ he
          | panicked c => exact keyP _ _ _ (by simp) he
          | outgrown => obtain ⟨a0, w0, he⟩ := he; exact ⟨a0, w0, keyP _ _ _ (by simp) he⟩
        · exact Rows.mono hw fun u w'' he => key _ _ he
      | halt x w' =>
        cases x <;> simp only [Oper.upon] at hw ⊢
        exact keyP _ _ _ (by simp) hw
    · exact .inr ⟨ha1, a0, w0, keyP _ _ _ (by simp) hl⟩
  · rename_i hwant
    rw [if_neg hwant] at hw
    exact key _ _ hw

theorem WT.one {ρ : Env} {zn : Bool} {fuel : Nat} {L : Array Bool} (i : Nat) {o : Oper} (hr : (Region.ready .any ops.toArray L == [i] && (L.getD z false == !zn) && Nat.blt z L.size) = true) (ho : ops[i]? = some o)
    (h : WL P k h0 ops (fun ρ' σ' => ((zn && (i != z)) = true → Ent σ' σq) ∧ WT P k h0 ops K Q σq z (zn && (i != z)) fuel (L.setIfInBounds i true) ρ' σ') Q [o] ρ σ) : WT P k h0 ops K Q σq z zn (fuel + 1) L ρ σ := by
  simp only [Bool.and_eq_true, beq_iff_eq] at hr
  refine WT.step [i] hr.1.1 rfl hr.1.2 (by simpa [Nat.blt_eq] using hr.2) fun j hj => ?_
  rw [List.mem_singleton.1 hj]
  exact ⟨o, ho, h⟩
theorem WT.both {ρ : Env} {zn : Bool} {fuel : Nat} {L : Array Bool} (i j : Nat) {o o' : Oper} (hr : (Region.ready .any ops.toArray L == [i, j] && (L.getD z false == !zn) && Nat.blt z L.size) = true) (ho : ops[i]? = some o) (ho' : ops[j]? = some o')
    (h : WL P k h0 ops (fun ρ' σ' => ((zn && (i != z)) = true → Ent σ' σq) ∧ WT P k h0 ops K Q σq z (zn && (i != z)) fuel (L.setIfInBounds i true) ρ' σ') Q [o] ρ σ)
    (h' : WL P k h0 ops (fun ρ' σ' => ((zn && (j != z)) = true → Ent σ' σq) ∧ WT P k h0 ops K Q σq z (zn && (j != z)) fuel (L.setIfInBounds j true) ρ' σ') Q [o'] ρ σ) : WT P k h0 ops K Q σq z zn (fuel + 1) L ρ σ := by
  simp only [Bool.and_eq_true, beq_iff_eq] at hr
  refine WT.step [i, j] hr.1.1 rfl hr.1.2 (by simpa [Nat.blt_eq] using hr.2) fun x hx => ?_
  simp only [List.mem_cons, List.not_mem_nil, or_false] at hx
  rcases hx with rfl | rfl
  · exact ⟨o, ho, h⟩
  · exact ⟨o', ho', h'⟩

/-- A region whose reading comes first; from 'L' on any order. -/
theorem WP.regf {ρ : Env} {id : Nat} {l' : List Oper} (π : List (Nat × Bool)) (z m : Nat) (L : Array Bool) (hm : P.follows .mixedOrders = true)
    (hB : (Region.noSelect l'.toArray && eagB l'.toArray z (fun l => l == L) π (Array.replicate l'.length false)) = true) (hQ : PInv Q)
    (hlen : m + π.length = l'.length) (h : WE P k h0 l' (Q .normal) Q σ z (fun l => l == L) m true π ρ σ) : WP P k h0 (.region id l'.toArray true) Q ρ σ := fun a w ha hs => by
  simp only [Bool.and_eq_true] at hB
  refine wp_region_any hm (wpAny_of_Z (S := Sz k h0 σ z) _ _ _ _ ?_)
  have := h (Array.replicate l'.length false) hB.2 (fun j o _ hj => by rw [getD_replicate_false] at hj; cases hj) (by simp) (by rw [getD_replicate_false]; rfl) hQ (Region.noSelect_spec hB.1) a { w with drawn := w.drawn + 1 } ha hs.drew (fun _ => hs.drew)
  rw [hlen] at this
  simp only [List.size_toArray]
  refine cast ?_ this
  congr 1
  funext e a w
  simp only [lift, eq_iff_iff]
  cases e <;> exact Iff.rfl
end
end Go.Eng
