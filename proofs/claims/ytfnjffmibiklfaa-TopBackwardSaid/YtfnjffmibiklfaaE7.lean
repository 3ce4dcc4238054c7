/- Rules to walk the functions of the seat: partial heaps, contracts, one rule an operation. No conditions. -/
import Derived.Test.YtfnjffmibiklfaaE6
namespace Go.Eng
open Go.RowKit

/-! ### slices that grow -/
/-- The slice value 'v', of 'n' elements of 'sz' cells each, owns its array; its elements' cells are 'cs'. -/
def vec (E sz : Nat) (v : Value) (n : Nat) (cs : List Value) : HP := fun h => cs.length = n * sz ∧
  ((v = .slice none 0 0 ∧ n = 0 ∧ h = Hp.no) ∨ ∃ b cap junk, v = .slice (some ⟨b, 0, none⟩) n cap ∧ n ≤ cap ∧ cs.length + junk.length = cap * sz ∧ h = Hp.one b (.cells (cs ++ junk).toArray E))

section
variable {P : Program} {k : World} {h0 : Hp} {σ : List HP} {ρ : Env} {d : Option Tmp} {ty : TypeId} {pos : String} {aft : Array Edge} {g : Option (Nat × Bool)}

theorem St.nilvec {w : World} {E sz : Nat} (h : St k h0 σ w) : St k h0 (vec E sz (.slice none 0 0) 0 [] :: σ) w := by
  obtain ⟨h1, s, dj, hh⟩ := h.own
  exact ⟨h.os, h.tape, h.output, h.base, h1, ⟨Hp.no, h1, ⟨by simp, .inl ⟨rfl, rfl, rfl⟩⟩, s, Hp.no_Dj _, (Hp.no_un _).symm⟩, dj, hh⟩
theorem Ent.nilvec {E sz : Nat} : Ent σ (vec E sz (.slice none 0 0) 0 [] :: σ) := fun _ _ _ h => h.nilvec

theorem St.vec_of_cl {w : World} {E sz b n cap : Nat} {cs junk : List Value} (hn : n ≤ cap) (hl : cs.length = n * sz) (hc : cs.length + junk.length = cap * sz) (h : St k h0 (cl b (cs ++ junk) E :: σ) w) :
    St k h0 (vec E sz (.slice (some ⟨b, 0, none⟩) n cap) n cs :: σ) w := h.map_head fun _ e => ⟨hl, .inr ⟨b, cap, junk, rfl, hn, hc, e⟩⟩
theorem Ent.vec_of_cl {E sz b n cap : Nat} {cs junk : List Value} (hn : n ≤ cap) (hl : cs.length = n * sz) (hc : cs.length + junk.length = cap * sz) : Ent (cl b (cs ++ junk) E :: σ) (vec E sz (.slice (some ⟨b, 0, none⟩) n cap) n cs :: σ) :=
  fun _ _ _ h => h.vec_of_cl hn hl hc

/-- Open an owned slice that is not empty, or whatever it is. -/
theorem St.vec_cases {w : World} {E sz n : Nat} {v : Value} {cs : List Value} (h : St k h0 (vec E sz v n cs :: σ) w) : cs.length = n * sz ∧
    ((v = .slice none 0 0 ∧ n = 0 ∧ St k h0 σ w) ∨ ∃ b cap junk, v = .slice (some ⟨b, 0, none⟩) n cap ∧ n ≤ cap ∧ cs.length + junk.length = cap * sz ∧ St k h0 (cl b (cs ++ junk) E :: σ) w) := by
  obtain ⟨h1, ⟨a, b, ⟨hl, ha⟩, hb, dj, e⟩, dj0, hh⟩ := h.own
  refine ⟨hl, ?_⟩
  rcases ha with ⟨hv, hn, _⟩ | ⟨bb, cap, junk, hv, hn, hc, ha⟩
  · exact .inl ⟨hv, hn, h.tail⟩
  · exact .inr ⟨bb, cap, junk, hv, hn, hc, h.os, h.tape, h.output, h.base, h1, ⟨a, b, ha, hb, dj, e⟩, dj0, hh⟩

theorem length_zeroCells (zs : List Value) (n : Nat) : (Builtin.zeroCells zs.toArray n).size = n * zs.length := by simp [Builtin.zeroCells]

theorem over_mid : ∀ (vs pre a b : List Value), a.length = vs.length → over (pre ++ (a ++ b)) pre.length vs = pre ++ (vs ++ b)
  | [], pre, a, b, h => by
    have : a = [] := by simpa using h
    simp [over, this]
  | v :: vs, pre, [], b, h => by simp at h
  | v :: vs, pre, c :: a, b, h => by
    simp only [over]
    have e : (pre ++ (c :: a ++ b)).set pre.length v = (pre ++ [v]) ++ (a ++ b) := by simp
    rw [e]
    have := over_mid vs (pre ++ [v]) a b (by simpa using h)
    simp only [List.length_append, List.length_cons, List.length_nil] at this
    simpa using this

theorem growBy_le (need : Nat) : ∀ (r c : Nat), c ≤ need → Builtin.growBy need r c ≤ 2 * need + 1000
  | 0, c, h => by simp only [Builtin.growBy]; omega
  | r + 1, c, h => by
    simp only [Builtin.growBy]
    split
    · omega
    · by_cases h2 : c + (c + 768) / 4 ≤ need
      · exact growBy_le need r _ h2
      · have : ∀ r', Builtin.growBy need r' (c + (c + 768) / 4) = c + (c + 768) / 4 := by
          intro r'
          cases r' with
          | zero => rfl
          | succ r' => simp only [Builtin.growBy]; rw [if_pos (by omega)]
        rw [this]; omega
theorem nextcap_le (need old : Nat) (h : old < need) : Builtin.nextslicecap need old ≤ 2 * need + 1000 := by
  unfold Builtin.nextslicecap
  split
  · omega
  · split
    · omega
    · exact growBy_le need 4 old (by omega)

theorem M.append {T E sz by_ i n m c : Nat} {cs news zs : List Value} {v : Value} {a : Option Addr} {s x : Operand} {tt : Array TypeId}
    (hT : slcE P T = some (E, sz, by_)) (hz : zer P E = some zs) (htt : tt = #[T, T]) (hs : ρ.ev s = some v) (hi : σ[i]? = some (vec E sz v n cs)) (hx : ρ.ev x = some (.slice a m c))
    (hzl : zs.length = sz) (hnl : news.length = m * sz) (hnews : ∀ b o sp, a = some ⟨b, o, sp⟩ → sp = none ∧ Rds h0 (σ.eraseIdx i) b o news) (hnone : a = none → m = 0) (h1 : ∀ u ∈ news, u.oneCell' = true)
    (hb : (n + m) * by_ ≤ 70368744177664 ∧ n + m ≤ 70368744177664 ∧ by_ ≤ 70368744177) :
    Mem P k h0 σ ρ ⟨d, .call ⟨.builtin .append, #[s, x], tt⟩, ty, pos, aft, g⟩ (fun v' : Value => v') (fun v' => vec E sz v' (n + m) (cs ++ news) :: σ.eraseIdx i) := fun A w ha hst => by
  obtain ⟨hu, ii, hii, hsz, hby⟩ := slcE_spec hT
  subst hsz hby
  have hst' := hst.pull i hi
  obtain ⟨hcl, hcase⟩ := hst'.vec_cases
  have hrest := hst'.tail
  have hop : (execOp A.eval ⟨d, .call ⟨.builtin .append, #[s, x], tt⟩, ty, pos, aft, g⟩).run P w = ((Builtin.append_ tt ty #[v, .slice a m c]).run P w).andThen fun r w' => .ok (.value r) w' := by
    simp [execOp, resolve, invoke, builtin, ha.ev hs, ha.ev hx]
  subst htt
  have hzero : ∃ z, ii.zero = some z ∧ z.cells.toList = zs := by
    unfold zer at hz
    rw [hii] at hz
    cases h : ii.zero with
    | none => simp [h] at hz
    | some z => simp [h] at hz; exact ⟨z, rfl, hz⟩
  obtain ⟨z, hz0, hzc⟩ := hzero
  have hread : ∀ w, St k h0 (σ.eraseIdx i) w → (Builtin.firstCells ii.size m (.slice a m c)).run P w = .ok news.toArray w := fun w hw => by
    cases a with
    | none =>
      have hm := hnone rfl
      subst hm
      have : news = [] := by simpa using hnl
      subst this
      simp [Builtin.firstCells]
    | some ad =>
      obtain ⟨b, o, sp⟩ := ad
      obtain ⟨rfl, hr⟩ := hnews b o sp rfl
      have := run_loadCellsFrom (P := P) (w := w) (b := b) (o := o) news 0 #[] (fun j u hj => by simpa using hr j u hj k w hw)
      simp only [Builtin.firstCells, loadCells, ← hnl, this]
      simp
  rw [hop]
  have hfit : ∀ {sCap : Nat} {base : Option Addr}, v = .slice base n sCap → n + m ≤ sCap → (Builtin.append_ #[T, T] ty #[v, .slice a m c]).run P w =
      (match base with | some ad => (storeCells (ad.add (n * ii.size)) news).run P w | none => .ok () w).andThen fun _ w' => .ok (.slice base (n + m) sCap) w' := by
    intro sCap base hv hle
    subst hv
    have hr := hread w hrest
    unfold Builtin.append_
    simp only [List.getElem?_toArray, List.getElem?_cons_zero, List.getElem?_cons_succ, Sem.run_bind, run_underlying' hu, run_sizeOf' hii, Result.andThen_ok, Builtin.lenOf, Sem.run_pure, Sem.run_ite, if_pos hle]
    simp only [Bool.false_eq_true, if_false, Sem.run_pure, Result.andThen_ok, if_pos hle, Bool.not_false, if_true, hr]
    cases base with
    | none => simp
    | some ad => simp
  have hgrow : ∀ {sCap : Nat} {base : Option Addr} {rd : List Value}, v = .slice base n sCap → ¬ n + m ≤ sCap → n ≤ sCap → rd = cs → ((Builtin.firstCells ii.size n (.slice base n sCap)).run P { w with drawn := w.drawn + 1 } = .ok rd.toArray { w with drawn := w.drawn + 1 }) →
      ∃ cap junk, n + m ≤ cap ∧ (cs ++ news).length + junk.length = cap * ii.size ∧
      (Builtin.append_ #[T, T] ty #[v, .slice a m c]).run P w = .ok (.slice (some ⟨w.heap.size, 0, none⟩) (n + m) cap) { w with heap := w.heap.push (.cells ((cs ++ news) ++ junk).toArray E), drawn := w.drawn + 1 } := by
    intro sCap base rd hv hle hcap hrd hread1
    subst hv hrd
    have hcapn : sCap < n + m := by omega
    have hnx := nextcap_le (n + m) sCap hcapn
    have hmul : Builtin.nextslicecap (n + m) sCap * ii.bytes ≤ 281474976710656 := by
      calc Builtin.nextslicecap (n + m) sCap * ii.bytes ≤ (2 * (n + m) + 1000) * ii.bytes := Nat.mul_le_mul_right _ hnx
        _ = 2 * ((n + m) * ii.bytes) + 1000 * ii.bytes := by rw [Nat.add_mul, Nat.mul_assoc]
        _ ≤ 281474976710656 := by omega
    have r1 := hread1
    have r2 := hread { w with drawn := w.drawn + 1 } hrest.drew
    let cap := Question.cut (.appendCap (n + m) sCap E) (w.tape w.drawn (.appendCap (n + m) sCap E))
    have hcapd : cap = (n + m) + (w.tape w.drawn (.appendCap (n + m) sCap E)) % (2 ^ 63 - (n + m)) := rfl
    refine ⟨cap, (Builtin.zeroCells zs.toArray (cap - (n + m))).toList, by omega, ?_, ?_⟩
    · have := length_zeroCells zs (cap - (n + m))
      have e : (Builtin.zeroCells zs.toArray (cap - (n + m))).toList.length = (cap - (n + m)) * ii.size := by rw [Array.length_toList, this, hzl]
      rw [e, List.length_append, hcl, hnl, ← Nat.add_mul, ← Nat.add_mul]
      congr 1
      omega
    · have hn63 : ¬ ((n : Int) + m > IntKind.i64.max ∧ ii.bytes = 0) := by
        rintro ⟨h, _⟩
        have : IntKind.i64.max = 9223372036854775807 := by decide
        rw [this] at h
        omega
      have hzc' : z.cells = zs.toArray := by rw [← hzc]
      unfold Builtin.append_
      simp only [List.getElem?_toArray, List.getElem?_cons_zero, List.getElem?_cons_succ, Sem.run_bind, run_underlying' hu, run_sizeOf' hii, Result.andThen_ok, Builtin.lenOf, Sem.run_pure, Sem.run_ite, if_neg hle, run_typeInfo' hii]
      simp only [Bool.false_eq_true, if_false, Sem.run_pure, Result.andThen_ok, if_neg hle, Bool.not_false, if_true, Sem.run_bind, run_typeInfo' hii, Sem.run_ite, false_or]
      rw [if_neg (by rintro ⟨h, h'⟩; exact hn63 ⟨by omega, h'⟩)]
      rw [if_neg (by omega)]
      simp only [Sem.run_pure, Result.andThen_ok, Sem.run_bind, run_choose, Question.forced, Bool.false_eq_true, if_false, run_typeInfo' hii, run_askRoom, r1, r2, run_zeroValue' hii hz0, newRow, run_newObj]
      simp [cap, hzc']
      have e : ∀ Z : Array Value, (rd ++ news).toArray ++ Z = (rd ++ (news ++ Z.toList)).toArray := fun Z => by apply Array.ext'; simp
      rw [e]
  rcases hcase with ⟨rfl, rfl, hst1⟩ | ⟨b, cap, junk, rfl, hn, hc, hst1⟩
  · -- nil
    have hcs : cs = [] := by simpa using hcl
    subst hcs
    by_cases hm : m = 0
    · subst hm
      have hnn : news = [] := by simpa using hnl
      subst hnn
      have := hfit (sCap := 0) (base := none) rfl (by omega)
      rw [this]
      refine ⟨_, w, rfl, ?_⟩
      exact hst1.nilvec
    · obtain ⟨cap', junk', h2, h3, h4⟩ := hgrow (sCap := 0) (base := none) (rd := []) rfl (by omega) (by omega) rfl (by simp [Builtin.firstCells])
      rw [h4]
      refine ⟨_, _, rfl, ?_⟩
      have := (hst1.new (.cells (([] ++ news) ++ junk').toArray E)).drew (d := w.drawn + 1)
      exact this.vec_of_cl h2 (by simp [hnl]) h3
  · by_cases hle : n + m ≤ cap
    · have := hfit (sCap := cap) (base := some ⟨b, 0, none⟩) rfl hle
      rw [this]
      have hsplit : cs ++ junk = cs ++ (junk.take news.length ++ junk.drop news.length) := by rw [List.take_append_drop]
      have hjl : news.length ≤ junk.length := by
        have : (n + m) * ii.size ≤ cap * ii.size := Nat.mul_le_mul_right _ hle
        rw [Nat.add_mul] at this
        omega
      obtain ⟨w', hr, hs'⟩ := Wrs.own (P := P) (σ := cl b (cs ++ junk) E :: σ.eraseIdx i) (o := n * ii.size) (vs := news) 0 rfl (by rw [List.length_append]; omega) h1 k h0 w hst1
      have hov : over (cs ++ junk) (n * ii.size) news = (cs ++ news) ++ junk.drop news.length := by
        rw [hsplit, ← hcl, over_mid news cs _ _ (by simp; omega)]
        simp
      rw [hov] at hs'
      simp only [Addr.add_at, Nat.zero_add, hr, Result.andThen_ok]
      refine ⟨_, w', rfl, ?_⟩
      have hs'' : St k h0 (cl b ((cs ++ news) ++ junk.drop news.length) E :: σ.eraseIdx i) w' := hs'
      exact hs''.vec_of_cl hle (by rw [List.length_append, hcl, hnl, Nat.add_mul]) (by simp only [List.length_append, List.length_drop]; omega)
    · obtain ⟨cap', junk', h2, h3, h4⟩ := hgrow (sCap := cap) (base := some ⟨b, 0, none⟩) (rd := cs) rfl hle hn rfl (by
        have hw2 : St k h0 (cl b (cs ++ junk) E :: σ.eraseIdx i) { w with drawn := w.drawn + 1 } := hst1.drew
        have := run_loadCellsFrom (P := P) (w := { w with drawn := w.drawn + 1 }) (b := b) (o := 0) cs 0 #[] (fun j u hj => by
          have := (Rd.own (h0 := h0) (σ := cl b (cs ++ junk) E :: σ.eraseIdx i) (off := 0 + j) 0 rfl (by
            have hlt : j < cs.length := by
              rcases Nat.lt_or_ge j cs.length with g | g
              · exact g
              · rw [List.getElem?_eq_none g] at hj; cases hj
            rw [Nat.zero_add, List.getElem?_append_left hlt]; exact hj)) k _ hw2
          simpa using this)
        simp only [Builtin.firstCells, loadCells, ← hcl, this]
        simp)
      rw [h4]
      refine ⟨_, _, rfl, ?_⟩
      have := (hst1.tail.new (.cells ((cs ++ news) ++ junk').toArray E)).drew (d := w.drawn + 1)
      exact this.vec_of_cl h2 (by rw [List.length_append, hcl, hnl, Nat.add_mul]) h3
end
end Go.Eng
