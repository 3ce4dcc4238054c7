/- Rules to walk the functions of the seat: partial heaps, contracts, one rule an operation. No conditions. -/
import Derived.Test.YtfnjffmibiklfaaE13
import Derived.RangeFuncLeaves
import Derived.RangeFuncOwn
namespace Go.Eng
open Go.RowKit

/-! ### A range over a function -/
def Fw (r : Option Nat) : Fence := { Fence.wide with round := r }

theorem wpIn_any {r : Option Nat} {n m : Nat} {P : Program} {c : Code} {Q : Exit → Act → World → Prop} {a : Act} {w : World} (h : c.wpIn (Fw r) n P Q a w) : c.wpIn (Fw r) m P Q a w :=
  fun b k cs h1 h2 _ => h b k cs h1 h2 (fun _ e => by cases e)

section
variable {P : Program} {k : World} {h0 : Hp} {Q : Post} {ρ : Env} {σ : List HP} {K : Env → List HP → Prop} {ops : List Oper} {is : List Nat} {r : Option Nat}
  {n : Nat} {ds : List Deferred} {l : List (Nat × Value)}

/-- A round of the loop with the record 'l'. -/
def RT (P : Program) (l : Nat) (args : List Value) (k : World) (h0 : Hp) (σ : List HP) (R : Ending → List HP → Prop) : Prop :=
  ∀ w, St k h0 σ w → ∃ fn tmps assign body, (Instr.yield l args.toArray).run P w = .ok (.round l fn tmps assign body) w ∧
    ∀ n, RoundIn Fence.wide n P l fn tmps assign body w fun e w' => ∃ τ, St k h0 τ w' ∧ R e τ

/-- Code, in a round or in none. -/
def WPI (r : Option Nat) (P : Program) (k : World) (h0 : Hp) (c : Code) (Q : Post) (ρ : Env) (σ : List HP) : Prop :=
  ∀ a w, ρ.Ok a → St k h0 σ w → c.wpIn (Fw r) 1 P (lift k h0 Q) a w

/-- Operations in order, by their numbers. -/
def WI (r : Option Nat) (P : Program) (k : World) (h0 : Hp) (ops : List Oper) (K : Env → List HP → Prop) (Q : Post) (is : List Nat) (ρ : Env) (σ : List HP) : Prop :=
  ∀ a w, ρ.Ok a → St k h0 σ w → wpOpsIn (Fw r) 1 P ops.toArray (lift k h0 (thenQ K Q)) is a w

theorem WPI.region {id : Nat} (is : List Nat) (his : List.range ops.length = is) (h : WI r P k h0 ops (Q .normal) Q is ρ σ) : WPI r P k h0 (.region id ops.toArray false) Q ρ σ := fun a w ha hs => by
  refine wpIn_region ?_
  have := h a w ha hs
  rw [List.size_toArray, his]
  refine cast ?_ this
  congr 1
  funext e a w
  simp only [lift, eq_iff_iff]
  cases e <;> exact Iff.rfl
theorem WP.regionI {id : Nat} (is : List Nat) (his : List.range ops.length = is) (h : WI none P k h0 ops (Q .normal) Q is ρ σ) : WP P k h0 (.region id ops.toArray false) Q ρ σ := fun a w ha hs =>
  wpIn_wide.1 (WPI.region (r := none) is his h a w ha hs)
theorem WP.regsI {id : Nat} {c : Code} (is : List Nat) (his : List.range ops.length = is) (h : WI none P k h0 ops (WP P k h0 c Q) Q is ρ σ) : WP P k h0 (.seq (.region id ops.toArray false) c) Q ρ σ :=
  WP.seq (WP.regionI is his (fun a w ha hs => by
    have := h a w ha hs
    refine cast ?_ this
    congr 1
    funext e a w
    simp only [lift, eq_iff_iff]
    cases e <;> exact Iff.rfl))

theorem WI.nil (h : K ρ σ) : WI r P k h0 ops K Q [] ρ σ := fun _ _ ha hs => ⟨ρ, σ, ha, hs, h⟩

def notDefer : Op → Bool
  | .defer _ => false
  | _ => true
theorem WI.val {i d : Nat} {op : Op} {ty : TypeId} {pos : String} {aft : Array Edge} {g : Option (Nat × Bool)} {v : Value} (ho : ops[i]? = some ⟨some d, op, ty, pos, aft, g⟩)
    (hv : Val P k h0 σ ⟨n, ds, l⟩ ⟨some d, op, ty, pos, aft, g⟩ v) (h : WI r P k h0 ops K Q is ⟨n, ds, (d, v) :: l⟩ σ)
    (hw : wantE ops ⟨n, ds, l⟩ g = some true := by rfl) (hd : Nat.blt d n = true := by rfl) (hnd : notDefer op = true := by rfl) : WI r P k h0 ops K Q (i :: is) ⟨n, ds, l⟩ σ := fun a w ha hs => by
  have hw' := wanted_of (o := ⟨some d, op, ty, pos, aft, g⟩) ha hw
  have ho' : ops.toArray[i]? = some ⟨some d, op, ty, pos, aft, g⟩ := by simpa using ho
  unfold wpOpsIn
  simp only [ho', hw', if_true]
  refine ⟨fun _ _ => trivial, ?_⟩
  rw [Oper.semAt_eq _ _ _ (fun c e => by have e : op = .defer c := e; rw [e] at hnd; cases hnd), hv a w ha hs]
  exact h _ w (ha.put hd v) hs
theorem WI.valD {p : Prop} [Decidable p] {i d : Nat} {op : Op} {ty : TypeId} {pos : String} {aft : Array Edge} {g : Option (Nat × Bool)} (ho : ops[i]? = some ⟨some d, op, ty, pos, aft, g⟩)
    (hv : Val P k h0 σ ⟨n, ds, l⟩ ⟨some d, op, ty, pos, aft, g⟩ (.bool (decide p))) (ht : p → WI r P k h0 ops K Q is ⟨n, ds, (d, .bool true) :: l⟩ σ) (hf : ¬ p → WI r P k h0 ops K Q is ⟨n, ds, (d, .bool false) :: l⟩ σ)
    (hw : wantE ops ⟨n, ds, l⟩ g = some true := by rfl) (hd : Nat.blt d n = true := by rfl) (hnd : notDefer op = true := by rfl) : WI r P k h0 ops K Q (i :: is) ⟨n, ds, l⟩ σ := by
  by_cases hp : p
  · refine WI.val ho (v := .bool true) ?_ (ht hp) hw hd hnd
    rw [decide_eq_true hp] at hv; exact hv
  · refine WI.val ho (v := .bool false) ?_ (hf hp) hw hd hnd
    rw [decide_eq_false hp] at hv; exact hv
theorem WI.skip {i d : Nat} {op : Op} {ty : TypeId} {pos : String} {aft : Array Edge} {g : Option (Nat × Bool)} (ho : ops[i]? = some ⟨some d, op, ty, pos, aft, g⟩)
    (h : WI r P k h0 ops K Q is ⟨n, ds, (d, undef) :: l⟩ σ)
    (hw : wantE ops ⟨n, ds, l⟩ g = some false := by rfl) (hd : Nat.blt d n = true := by rfl) : WI r P k h0 ops K Q (i :: is) ⟨n, ds, l⟩ σ := fun a w ha hs => by
  have hw' := wanted_of (o := ⟨some d, op, ty, pos, aft, g⟩) ha hw
  have ho' : ops.toArray[i]? = some ⟨some d, op, ty, pos, aft, g⟩ := by simpa using ho
  unfold wpOpsIn
  simp only [ho', hw', Bool.false_eq_true, if_false]
  exact ⟨fun _ _ => trivial, h _ w (ha.put hd undef) hs⟩
theorem WI.eff {i : Nat} {op : Op} {ty : TypeId} {pos : String} {aft : Array Edge} {g : Option (Nat × Bool)} {τ : List HP} (ho : ops[i]? = some ⟨none, op, ty, pos, aft, g⟩)
    (hv : Eff P k h0 σ ⟨n, ds, l⟩ ⟨none, op, ty, pos, aft, g⟩ τ) (h : WI r P k h0 ops K Q is ⟨n, ds, l⟩ τ)
    (hw : wantE ops ⟨n, ds, l⟩ g = some true := by rfl) (hnd : notDefer op = true := by rfl) : WI r P k h0 ops K Q (i :: is) ⟨n, ds, l⟩ σ := fun a w ha hs => by
  have hw' := wanted_of (o := ⟨none, op, ty, pos, aft, g⟩) ha hw
  have ho' : ops.toArray[i]? = some ⟨none, op, ty, pos, aft, g⟩ := by simpa using ho
  unfold wpOpsIn
  simp only [ho', hw', if_true]
  refine ⟨fun _ _ => trivial, ?_⟩
  obtain ⟨w', e, hs'⟩ := hv a w ha hs
  rw [Oper.semAt_eq _ _ _ (fun c e => by have e : op = .defer c := e; rw [e] at hnd; cases hnd), e]
  exact h _ w' ha hs'

theorem run_yieldCall {ρ : Env} {a : Act} {w : World} {d : Option Tmp} {ty : TypeId} {pos : String} {aft : Array Edge} {g : Option (Nat × Bool)} {fv : Operand} {b : Nat} {args : List Operand} {tt : Array TypeId} {vs : List Value}
    (hfv : ρ.ev fv = some (.func (.yield b) #[] #[])) (hv : evs ρ args = some vs) (ha : ρ.Ok a) :
    (execOp a.eval ⟨d, .call ⟨.value fv, args.toArray, tt⟩, ty, pos, aft, g⟩).run P w = (Instr.yield b vs.toArray).run P w := by
  have e := evs_map ha args vs hv
  simp only [execOp, resolve, ha.ev hfv, e, Deferred.ofValue, Sem.run_bind, Sem.run_pure, Result.andThen_ok, invoke]
  simp
/-- The loop's body is called. -/
theorem WI.round {i d b : Nat} {ty : TypeId} {pos : String} {aft : Array Edge} {g : Option (Nat × Bool)} {fv : Operand} {args : List Operand} {tt : Array TypeId} {vs : List Value}
    (ho : ops[i]? = some ⟨some d, .call ⟨.value fv, args.toArray, tt⟩, ty, pos, aft, g⟩) (hfv : (Env.mk n ds l).ev fv = some (.func (.yield b) #[] #[])) (hv : evs ⟨n, ds, l⟩ args = some vs)
    {R : Value → List HP → Prop} (hc : RT P b vs k h0 σ (Ret R)) (h : ∀ v τ, R v τ → WI r P k h0 ops K Q is ⟨n, ds, (d, v) :: l⟩ τ)
    (hw : wantE ops ⟨n, ds, l⟩ g = some true := by rfl) (hd : Nat.blt d n = true := by rfl) : WI r P k h0 ops K Q (i :: is) ⟨n, ds, l⟩ σ := fun a w ha hs => by
  have hw' := wanted_of (o := ⟨some d, .call ⟨.value fv, args.toArray, tt⟩, ty, pos, aft, g⟩) ha hw
  have ho' : ops.toArray[i]? = some ⟨some d, .call ⟨.value fv, args.toArray, tt⟩, ty, pos, aft, g⟩ := by simpa using ho
  unfold wpOpsIn
  simp only [ho', hw', if_true]
  refine ⟨fun _ _ => trivial, ?_⟩
  obtain ⟨fn, tmps, assign, body, hy, hr⟩ := hc w hs
  rw [Oper.semAt_eq _ _ _ (fun c e => by cases e), run_yieldCall hfv hv ha, hy]
  refine ⟨fun e => (by cases e), (hr _).mono fun e w' ⟨τ, hs', v, e1, hR⟩ => ?_⟩
  subst e1
  exact h v τ hR _ w' (ha.put hd v) hs'
end

section
variable {P : Program} {k : World} {h0 : Hp} {Q : Post} {ρ : Env} {σ : List HP}

theorem WPI.block {r : Option Nat} {id : Nat} {c : Code} (h : WPI r P k h0 c (blockQ id Q) ρ σ) : WPI r P k h0 (.block id c) Q ρ σ := fun a w ha hs =>
  wpIn_block (wpIn_mono (h a w ha hs) (fun e a w q => by
    obtain ⟨ρ', σ', ha', hs', q⟩ := q
    cases e with
    | exit id' =>
      simp only [Exit.inBlock, blockQ] at q ⊢
      split
      · rename_i e; rw [if_pos e] at q; exact ⟨ρ', σ', ha', hs', q⟩
      · rename_i e; rw [if_neg e] at q; exact ⟨ρ', σ', ha', hs', q⟩
    | normal => exact ⟨ρ', σ', ha', hs', q⟩
    | goto l => exact ⟨ρ', σ', ha', hs', q⟩
    | ret => exact ⟨ρ', σ', ha', hs', q⟩
    | panic ch => exact ⟨ρ', σ', ha', hs', q⟩
    | outgrown => exact ⟨ρ', σ', ha', hs', q⟩))

/-- The round's variables are set. -/
def setAll (ρ : Env) : List (Nat × Value) → Env
  | [] => ρ
  | (p, v) :: r => setAll (ρ.put p v) r
theorem setAll_ok : ∀ (xs : List (Nat × Value)) (ρ : Env) (a : Act), ρ.Ok a → (∀ x ∈ xs, Nat.blt x.1 ρ.n = true) → (setAll ρ xs).Ok { a with tmps := xs.foldl (fun t x => t.setIfInBounds x.1 x.2) a.tmps }
  | [], _, _, h, _ => h
  | (p, v) :: r, ρ, a, h, hn => setAll_ok r (ρ.put p v) (a.put (some p) v) (h.put (hn _ List.mem_cons_self) v) (fun x hx => hn x (List.mem_cons_of_mem _ hx))

theorem St.putObj {w : World} {b : Nat} {o o' : Obj} (i : Nat) (hi : σ[i]? = some (ob b o)) (h : St k h0 σ w) : St k h0 (σ.set i (ob b o')) (w.putObj b o') :=
  h.write i hi rfl rfl rfl (World.putObj_heap_same (lt_of_look (h.look i hi))) (fun _ hc => World.putObj_heap_other hc)

theorem FT.calls {f : FuncId} {args : List Value} {R : Ending → List HP → Prop} {w : World} (h : FT P f args k h0 σ R) (hs : St k h0 σ w) (n : Nat) : CallsIn Fence.wide n P f args.toArray w fun e w' => ∃ τ, St k h0 τ w' ∧ R e τ :=
  callsIn_wide.2 (h w hs)

/-- 'for .. := range g { body }', where every round goes on. -/
theorem WP.rangeF {g : Operand} {ps : Array Tmp} {body : Code} {gf : Nat} {lb : List Value} (S : Nat → List HP) (N : Nat) (A : List Value → Prop)
    (hg : ρ.ev g = some (.func (.func gf) #[] lb.toArray)) (hf : IsFn P gf) (hps : ∀ vs, A vs → vs.length = ps.size) (hlt : ps.toList.all (Nat.blt · ρ.n) = true) (τ : List HP) (hσ : Ent σ (S 0 ++ τ))
    (hiter : ∀ (b : Nat) (g : Hp) (S' : Nat → List HP), Stars τ g → h0.Dj g → (∀ i vs, A vs → RT P b vs k (h0.un g) (S' i) (Ret fun v τ => v = .bool true ∧ τ = S' (i + 1))) → FT P gf (.func (.yield b) #[] #[] :: lb) k (h0.un g) (S' 0) (Ret fun _ τ => τ = S' N))
    (hbody : ∀ (b : Nat) (h : Hp) i vs, A vs → WPI (some b) P k h body (fun e _ σ' => e = .normal ∧ Ent σ' (S (i + 1))) (setAll ⟨ρ.n, [], ρ.slots⟩ (ps.toList.zip vs)) (S i))
    (hQ : ∀ D, Q .normal ⟨ρ.n, { target := .collected D, args := #[] } :: ρ.defers, ρ.slots⟩ (ob D (.deferred (some [])) :: S N ++ τ)) :
    WP P k h0 (.rangeFunc g ps .skip body) Q ρ σ := fun a w ha hs => by
  refine wpIn_wide.1 (wpIn_rangeFunc (F := Fence.wide) (n := 1) fun fn _ => ?_)
  obtain ⟨rec, hrec⟩ : ∃ rec : LoopState → Loop, rec = fun st => { state := st, pending := none, fn, tmps := a.tmps, params := ps, assign := .skip, body, defers := w.heap.size } := ⟨_, rfl⟩
  have hs0 := hσ _ _ _ hs
  have hs1 : St k h0 (ob (w.heap.size + 1) (.loop (rec .ready)) :: ob w.heap.size (.deferred (some [])) :: (S 0 ++ τ)) ((w.alloc (.deferred (some []))).alloc (.loop (rec .ready))) := by
    have h1 : St k h0 (ob w.heap.size (.deferred (some [])) :: (S 0 ++ τ)) (w.alloc (.deferred (some []))) := hs0.new _
    have h2 := h1.new (.loop (rec .ready))
    have e : (w.alloc (.deferred (some []))).heap.size = w.heap.size + 1 := World.size_alloc _ _
    rw [e] at h2
    exact h2
  obtain ⟨W1, hW1⟩ : ∃ W1, W1 = (w.alloc (.deferred (some []))).alloc (.loop (rec .ready)) := ⟨_, rfl⟩
  rw [← hW1] at hs1
  obtain ⟨gt, hgt, hdt, hs1⟩ := St.frame (σ := ob (w.heap.size + 1) (.loop (rec .ready)) :: ob w.heap.size (.deferred (some [])) :: S 0) (τ := τ) hs1
  refine ⟨w.heap.size + 1, [{ target := .collected w.heap.size, args := #[] }], W1, { target := .fn (.func gf) lb.toArray, args := #[.func (.yield (w.heap.size + 1)) #[] #[]] }, W1, gf,
    #[.func (.yield (w.heap.size + 1)) #[] #[]] ++ lb.toArray, W1, ?_, ?_, fun _ _ => trivial, ?_, fun _ => Nat.le_refl _, ?_⟩
  · rw [hW1, hrec]
    exact run_enterLoop_outer _ _ _ _ _
  · simp only [resolve, ha.ev hg]
    simp [go_sem]
  · simp only [invoke]
    have := run_callFunc hf (#[.func (.yield (w.heap.size + 1)) #[] #[]] ++ lb.toArray)
    exact this _
  · have harg : #[Value.func (.yield (w.heap.size + 1)) #[] #[]] ++ lb.toArray = (Value.func (.yield (w.heap.size + 1)) #[] #[] :: lb).toArray := by simp
    rw [harg]
    have hF := hiter (w.heap.size + 1) gt (fun i => ob (w.heap.size + 1) (.loop (rec .ready)) :: ob w.heap.size (.deferred (some [])) :: S i) hgt hdt (fun i vs hA W hW => by
      have hl := hW.look 0 rfl
      have hy := run_yield (P := P) (args := vs.toArray) hl (by rw [hrec]; simpa using hps vs hA)
      rw [hrec] at hy
      refine ⟨fn, _, .skip, body, hy, fun n => roundIn_of_wpIn trivial (wpIn_skip ⟨_, run_beginRound hl (by rw [hrec]), ?_⟩)⟩
      have hW2 : St k (h0.un gt) (ob (w.heap.size + 1) (.loop (rec .busy)) :: ob w.heap.size (.deferred (some [])) :: S i) (W.putObj (w.heap.size + 1) (.loop { rec .ready with state := .busy })) := by
        have := hW.putObj (o' := .loop { rec .ready with state := .busy }) 0 rfl
        rw [hrec] at this ⊢
        exact this
      have hW3 : St k (h0.un gt) (S i ++ [ob (w.heap.size + 1) (.loop (rec .busy)), ob w.heap.size (.deferred (some []))]) (W.putObj (w.heap.size + 1) (.loop { rec .ready with state := .busy })) :=
        hW2.perm (List.perm_append_comm (l₁ := [ob (w.heap.size + 1) (.loop (rec .busy)), ob w.heap.size (.deferred (some []))]) (l₂ := S i))
      obtain ⟨gg, hgg, hdj, hW4⟩ := hW3.frame
      have hok : (setAll ⟨ρ.n, [], ρ.slots⟩ (ps.toList.zip vs)).Ok { tmps := (ps.zip vs.toArray).foldl (fun tmps x => tmps.setIfInBounds x.1 x.2) a.tmps, defers := [] } := by
        have h1 := setAll_ok (ps.toList.zip vs) ⟨ρ.n, [], ρ.slots⟩ { tmps := a.tmps, defers := [] } ⟨ha.size, rfl, ha.get⟩ (fun x hx => by
          have := List.all_eq_true.1 hlt x.1 (List.of_mem_zip hx).1
          exact this)
        have e : (ps.zip vs.toArray).foldl (fun tmps x => tmps.setIfInBounds x.1 x.2) a.tmps = (ps.toList.zip vs).foldl (fun t x => t.setIfInBounds x.1 x.2) a.tmps := by
          rw [← Array.foldl_toList]; simp
        rw [e]; exact h1
      have hB := hbody (w.heap.size + 1) ((h0.un gt).un gg) i vs hA _ _ hok hW4
      refine wpIn_mono (wpIn_any (r := some (w.heap.size + 1)) (m := n) hB) ?_
      rintro e a3 W3 ⟨ρ3, σ3, _, hs3, rfl, hent⟩
      have hs4 := St.unframe hgg hdj (hent _ _ _ hs3)
      have hs5 : St k (h0.un gt) (ob (w.heap.size + 1) (.loop (rec .busy)) :: ob w.heap.size (.deferred (some [])) :: S (i + 1)) W3 :=
        hs4.perm (List.perm_append_comm (l₁ := S (i + 1)) (l₂ := [ob (w.heap.size + 1) (.loop (rec .busy)), ob w.heap.size (.deferred (some []))]))
      have hl5 := hs5.look 0 rfl
      refine ⟨_, _, run_endRound none hl5, _, ?_, _, rfl, rfl, rfl⟩
      have := hs5.putObj (o' := .loop { rec .busy with state := if (none : Option Code).isNone then .ready else .done, pending := none }) 0 rfl
      rw [hrec] at this ⊢
      exact this)
    refine (FT.calls hF hs1 _).mono ?_
    rintro e w3 ⟨τ, hs3, v, rfl, rfl⟩
    have hl3 := hs3.look 0 rfl
    refine ⟨_, _, run_endLoop hl3 (by rw [hrec]; simp), ?_⟩
    have hs4 := (hs3.putObj (o' := .loop { rec .ready with state := .exhausted }) 0 rfl).tail
    rw [hrec] at hs4 ⊢
    have hs6 := St.unframe (σ := ob w.heap.size (.deferred (some [])) :: S N) hgt hdt hs4
    exact ⟨⟨ρ.n, { target := .collected w.heap.size, args := #[] } :: ρ.defers, ρ.slots⟩, _, ⟨ha.size, by simp [ha.defers], ha.get⟩, hs6, hQ w.heap.size⟩

/-- A function that holds such a loop ends. -/
def retQM (P : Program) (fn : Func) (k : World) (h0 : Hp) (R : Ending → List HP → Prop) : Post
  | .normal, ρ, σ | .ret, ρ, σ => ∃ D τ v, ρ.defers = [{ target := .collected D, args := #[] }] ∧ Ent σ (ob D (.deferred (some [])) :: τ) ∧ Res P fn k h0 ρ (ob D (.deferred none) :: τ) v ∧ R (.returned v) (ob D (.deferred none) :: τ)
  | _, _, _ => False

theorem FT.of_wpM {f : FuncId} {fn : Func} {c : Code} {n : Nat} {args : List Value} {R : Ending → List HP → Prop} (hf : P.funcs[f]? = some fn) (hb : fn.body = some c) (hn : fn.ntmps = n) (hl : Nat.ble args.length n = true)
    (h : WP P k h0 c (retQM P fn k h0 R) ⟨n, [], argSlots 0 args⟩ σ) : FT P f args k h0 σ R := fun w hs => by
  have hl' : args.length ≤ n := Nat.le_of_ble_eq_true hl
  refine (callsIn_of_wp_marks (F := Fence.wide) (n := 0) hf hb trivial (wpIn_mono (wpIn_wide.2 (h _ w ⟨?_, rfl, ?_⟩ hs)) ?_)).calls (fun _ _ e => by cases e)
  · simp [hn]; omega
  · intro t v e
    obtain ⟨_, h2⟩ := getIn_argSlots args 0 t v e
    simp only [Nat.sub_zero] at h2
    have : t < args.length := by
      rcases Nat.lt_or_ge t args.length with g | g
      · exact g
      · rw [List.getElem?_eq_none g] at h2; cases h2
    simp only [Array.getElem?_append, List.size_toArray, this, if_true]
    simpa using h2
  · have key : ∀ (a' : Act) (w' : World) ρ' σ', ρ'.Ok a' → St k h0 σ' w' → (∃ D τ v, ρ'.defers = [{ target := .collected D, args := #[] }] ∧ Ent σ' (ob D (.deferred (some [])) :: τ) ∧ Res P fn k h0 ρ' (ob D (.deferred none) :: τ) v ∧ R (.returned v) (ob D (.deferred none) :: τ)) →
        LeavesInM Fence.wide 0 P fn a'.tmps (fun e w' => ∃ τ, St k h0 τ w' ∧ R e τ) a'.defers .returning w' := by
      rintro a' w' ρ' σ' ha' hs' ⟨D, τ, v, hd, he, hv, hR⟩
      have hs2 := he _ _ _ hs'
      have hs3 := hs2.putObj (o' := .deferred none) 0 rfl
      rw [ha'.defers, hd]
      refine ⟨(by simp), .inl ⟨D, _, rfl, run_takeDeferred (hs2.look 0 rfl), v, hv a' _ ha' hs3, _, hs3, hR⟩⟩
    intro e a' w' q
    obtain ⟨ρ', σ', ha', hs', q⟩ := q
    cases e with
    | normal => exact key a' w' ρ' σ' ha' hs' q
    | ret => exact key a' w' ρ' σ' ha' hs' q
    | panic ch => exact q.elim
    | exit id => exact q.elim
    | goto l => exact q.elim
    | outgrown => exact q.elim
end
end Go.Eng
