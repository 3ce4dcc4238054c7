/- vivariumtop.TopBackward: for every input the call returns true, and each argument reads behind the call as it read before. Conditions: none beyond those of the given row. -/
import Derived.Test.YtfnjffmibiklfaaTB20
import Derived.Test.YtfnjffmibiklfaaRows
import Derived.ProofKit
import Derived.OpenShut
namespace Go.Proofs.Ytfnjffmibiklfaa
open Go.ChangeShapes Go.WideShapes Go.ChangeAt Go.RowKit Go.WideElems

section
variable {H : Type} {enc : TypeId × Value → H} {P : Program} {w : World} {base : Nat} {spare : Nat → Bool} {held : Bool}
theorem okWide_arr {r : Reach} {b0 : Nat} {t e n : Nat} {v : Value} (ht : P.underlying t = some (.array n e)) (h : Value.okWide P w r b0 t v) : ∃ cs, v = .agg cs ∧ cs.size = P.cellsOf t := by
  simp only [Value.okWide, ht] at h
  obtain ⟨cs, h1, h2, _⟩ := h
  exact ⟨cs, h1, h2⟩
def intOf : Value → Int
  | .int _ z => z
  | _ => 0
theorem open_u8s {r : Reach} {b0 : Nat} {t e n : Nat} {v : Value} {d : DataW H} {ps : List MemPlace} (ht : P.underlying t = some (.array n e)) (he : P.underlying e = some (.int .u8)) (hc : P.cellsOf e = 1) (hct : P.cellsOf t = n)
    (hv : Value.okWide P w r b0 t v) (h : DataW.Trod enc P w base spare held t v d ps) : ∃ bs : List Int, v = .agg (Go.Eng.u8C bs).toArray ∧ bs.length = n ∧ ∀ i, 0 ≤ bs.getD i 0 ∧ bs.getD i 0 ≤ 255 := by
  obtain ⟨cs, rfl, hsz⟩ := okWide_arr ht hv
  obtain ⟨fuel, hf⟩ := h
  obtain ⟨xs, m, _, _, hlen, hxl, hi⟩ := DataW.trod_array ht hf
  rw [hct] at hsz
  have key : ∀ i, i < n → ∃ z, cs.toList[i]? = some (.int .u8 z) ∧ 0 ≤ z ∧ z ≤ 255 := fun i hin => by
    have h1 := hi i hin
    rw [hc, Nat.mul_one] at h1
    have hcl : i < cs.toList.length := by simpa [hsz] using hin
    have e1 : ((Value.agg cs).cells.toList.drop i).take 1 = [cs.toList[i]] := by
      show (cs.toList.drop i).take 1 = _
      rw [List.drop_eq_getElem_cons hcl]; rfl
    rw [e1, List.getElem?_eq_getElem (by omega)] at h1
    obtain ⟨z, hz, _, hwf⟩ := DataW.trod_int he h1
    have hz' : cs.toList[i] = .int .u8 z := by simpa using hz
    exact ⟨z, by rw [List.getElem?_eq_getElem hcl, hz'], bounds_u8 hwf⟩
  refine ⟨cs.toList.map intOf, ?_, by simpa using hsz, fun i => ?_⟩
  · congr 1
    apply Array.ext'
    show cs.toList = (cs.toList.map intOf).map (Value.int .u8)
    apply List.ext_getElem?
    intro i
    rcases Nat.lt_or_ge i n with hin | hin
    · obtain ⟨z, hz, _⟩ := key i hin
      simp [List.getElem?_map, hz, intOf]
    · rw [List.getElem?_eq_none (by simpa [hsz] using hin), List.getElem?_eq_none (by simpa [hsz] using hin)]
  · rcases Nat.lt_or_ge i n with hin | hin
    · obtain ⟨z, hz, hb⟩ := key i hin
      rw [List.getD_eq_getElem?_getD, List.getElem?_map, hz]
      exact hb
    · rw [List.getD_eq_getElem?_getD, List.getElem?_eq_none (by simpa [hsz] using hin)]
      exact ⟨Int.le_refl _, by decide⟩
end

theorem cells5 : Try.prog.cellsOf 5 = 1 := by kernel_rfl
theorem cells3 : Try.prog.cellsOf 3 = 1 := by kernel_rfl
theorem cells22 : Try.prog.cellsOf 22 = 16 := by kernel_rfl
theorem cells24 : Try.prog.cellsOf 24 = 5 := by kernel_rfl

theorem five {α : Type} {l : List α} (h : l.length = 5) : ∃ a b c d e, l = [a, b, c, d, e] := by
  match l, h with
  | [a, b, c, d, e], _ => exact ⟨a, b, c, d, e, rfl⟩

set_option maxRecDepth 100000 in
theorem open_topo {H : Type} {enc : TypeId × Value → H} {w : World} {base : Nat} {spare : Nat → Bool} {held : Bool} {r : Reach} {b0 : Nat} {v : Value} {d : DataW H} {ps : List MemPlace}
    (hv : Value.okWide Try.prog w r b0 24 v) (h : DataW.Trod enc Try.prog w base spare held 24 v d ps) : ∃ t : Go.Eng.Topo, v = .agg (Go.Eng.topoC t).toArray ∧
      ((0 ≤ t.kind ∧ t.kind ≤ 255) ∧ (-9223372036854775808 ≤ t.w ∧ t.w ≤ 9223372036854775807) ∧ (-9223372036854775808 ≤ t.h ∧ t.h ≤ 9223372036854775807) ∧ (0 ≤ t.turn ∧ t.turn ≤ 255) ∧ (-9223372036854775808 ≤ t.shift ∧ t.shift ≤ 9223372036854775807)) := by
  obtain ⟨cs, rfl, hsz⟩ := okWide_struct Go.Eng.T24.u hv
  obtain ⟨fuel, hf⟩ := h
  obtain ⟨xs, m, _, _, hlen, hxl, hi⟩ := DataW.trod_struct Go.Eng.T24.u hf
  rw [cells24] at hsz
  obtain ⟨l⟩ := cs
  have hll : l.length = 5 := by simpa using hsz
  obtain ⟨a0, a1, a2, a3, a4, rfl⟩ := five hll
  have get : ∀ (i : Nat) (f : Field), i < 5 → (#[(Field.mk "Kind" 5 0 false "" "" 0), (Field.mk "W" 3 1 false "" "" 8), (Field.mk "H" 3 2 false "" "" 16), (Field.mk "Turn" 5 3 false "" "" 24), (Field.mk "Shift" 3 4 false "" "" 32)] : Array Field)[i]? = some f → ∃ x, DataW.trod enc Try.prog w base spare held m f.type (([a0, a1, a2, a3, a4].drop f.offset).take (Try.prog.cellsOf f.type)) = some x := fun i f hin hif => by
    have h1 := hi i f hif
    rw [List.getElem?_eq_getElem (by rw [hxl]; exact hin)] at h1
    exact ⟨_, h1⟩
  obtain ⟨x0, g0⟩ : ∃ x, DataW.trod enc Try.prog w base spare held m 5 (([a0, a1, a2, a3, a4].drop 0).take (Try.prog.cellsOf 5)) = some x := get 0 _ (by omega) rfl
  obtain ⟨x1, g1⟩ : ∃ x, DataW.trod enc Try.prog w base spare held m 3 (([a0, a1, a2, a3, a4].drop 1).take (Try.prog.cellsOf 3)) = some x := get 1 _ (by omega) rfl
  obtain ⟨x2, g2⟩ : ∃ x, DataW.trod enc Try.prog w base spare held m 3 (([a0, a1, a2, a3, a4].drop 2).take (Try.prog.cellsOf 3)) = some x := get 2 _ (by omega) rfl
  obtain ⟨x3, g3⟩ : ∃ x, DataW.trod enc Try.prog w base spare held m 5 (([a0, a1, a2, a3, a4].drop 3).take (Try.prog.cellsOf 5)) = some x := get 3 _ (by omega) rfl
  obtain ⟨x4, g4⟩ : ∃ x, DataW.trod enc Try.prog w base spare held m 3 (([a0, a1, a2, a3, a4].drop 4).take (Try.prog.cellsOf 3)) = some x := get 4 _ (by omega) rfl
  rw [cells5] at g0 g3
  rw [cells3] at g1 g2 g4
  obtain ⟨z0, e0, _, w0⟩ := DataW.trod_int Go.Eng.T5.u g0
  obtain ⟨z1, e1, _, w1⟩ := DataW.trod_int Go.Eng.T3.u g1
  obtain ⟨z2, e2, _, w2⟩ := DataW.trod_int Go.Eng.T3.u g2
  obtain ⟨z3, e3, _, w3⟩ := DataW.trod_int Go.Eng.T5.u g3
  obtain ⟨z4, e4, _, w4⟩ := DataW.trod_int Go.Eng.T3.u g4
  simp only [List.drop_zero, List.drop_succ_cons, List.take_succ_cons, List.take_zero, List.cons.injEq, and_true] at e0 e1 e2 e3 e4
  subst e0 e1 e2 e3 e4
  exact ⟨⟨z0, z1, z2, z3, z4⟩, rfl, bounds_u8 w0, bounds_i64 w1, bounds_i64 w2, bounds_u8 w3, bounds_i64 w4⟩

set_option maxRecDepth 100000 in
theorem open_bytes {H : Type} {enc : TypeId × Value → H} {W : World} {spare : Nat → Bool} {held : Bool} {base : Nat} {r : Reach} {b0 : Nat} {v : Value} {d : DataW H} {ps : List MemPlace}
    (hv : Value.okWide Try.prog W r b0 25 v) (h : DataW.Trod enc Try.prog W base spare held 25 v d ps) :
    ∃ (ls : List Int) (a : Option Addr) (cap : Nat), v = .slice a ls.length cap ∧ (∀ i, 0 ≤ ls.getD i 0 ∧ ls.getD i 0 ≤ 255) ∧
      (0 < ls.length → ∃ b o, a = some ⟨b, o, none⟩ ∧ ∀ i, i < ls.length → Go.Eng.cellOf (W.heap[b]?) (o + i) = some (.int .u8 (ls.getD i 0))) := by
  obtain ⟨a, len, cap, rfl⟩ := okWide_slice Go.Eng.T25.u hv
  obtain ⟨fuel, hf⟩ := h
  rcases open_ints Go.Eng.T25.u Go.Eng.T5.u cells5 hf with ⟨hcs, _⟩ | ⟨a', len', cap', zs, hcs, _, hl, _, hz, _, hcell, hwz⟩
  · have hcs : [Value.slice a len cap] = [.slice none 0 0] := hcs
    simp only [List.cons.injEq, Value.slice.injEq, and_true] at hcs
    obtain ⟨rfl, rfl, rfl⟩ := hcs
    exact ⟨[], none, 0, rfl, fun i => by simp, fun h => absurd h (by simp)⟩
  · have hcs : [Value.slice a len cap] = [.slice (some a') len' cap'] := hcs
    simp only [List.cons.injEq, Value.slice.injEq, and_true] at hcs
    obtain ⟨rfl, rfl, rfl⟩ := hcs
    have hlz : len ≤ zs.length := by rw [hz]; split <;> omega
    have hll : (zs.take len).length = len := by rw [List.length_take]; omega
    have hget : ∀ i, i < len → (zs.take len).getD i 0 = zs.getD i 0 := fun i hi => by
      rw [List.getD_eq_getElem?_getD, List.getD_eq_getElem?_getD, List.getElem?_take, if_pos hi]
    refine ⟨zs.take len, some a', cap, by rw [hll], fun i => ?_, fun hp => ?_⟩
    · rcases Nat.lt_or_ge i len with hi | hi
      · rw [hget i hi]
        have hi' : i < zs.length := by omega
        have := bounds_u8 (hwz zs[i] (List.getElem_mem hi'))
        rw [List.getD_eq_getElem?_getD, List.getElem?_eq_getElem hi']
        exact this
      · rw [List.getD_eq_getElem?_getD, List.getElem?_eq_none (by omega)]
        exact ⟨Int.le_refl _, by decide⟩
    · rw [hll] at hp ⊢
      obtain ⟨b, o, rfl, hc⟩ := ints_at hcell (by omega)
      refine ⟨b, o, rfl, fun i hi => ?_⟩
      rw [← Go.Eng.cell_of_heap, hget i hi]
      exact hc i (by omega)

theorem Try.own : ownKnob Try.prog.godebug = none := by kernel_rfl
theorem Try.laidOut : laidOutB Try.prog = true := by kernel_rfl

/-- What a call owns nothing of, it leaves as it was. -/
theorem below_of_st {W W' : World} {τ : List Go.Eng.HP} (h : Go.Eng.St W (fun b => W.heap[b]?) τ W') : W.keptBut W' (fun _ => False) ∧ ∀ k, k < W.heap.size → W'.heap[k]? = W.heap[k]? := by
  have hb : ∀ k, k < W.heap.size → W'.heap[k]? = W.heap[k]? := fun k hk => by
    have e : W.heap[k]? = some W.heap[k] := Array.getElem?_eq_getElem hk
    rw [e]
    exact h.base k _ e
  refine ⟨⟨h.os, h.output, fun i hi => ?_⟩, hb⟩
  rw [hb i hi, Array.getElem?_eq_getElem hi]
  cases W.heap[i] <;> simp

theorem st_begin (W : World) : Go.Eng.St W (fun b => W.heap[b]?) [] W :=
  ⟨rfl, rfl, rfl, fun _ _ h => h, Go.Eng.Hp.no, rfl, Go.Eng.Hp.Dj_no _, fun _ _ h => by cases h⟩

set_option maxRecDepth 100000 in
theorem topBackward_lifted (os : Os) (started : os.Started) (H : Type) (enc : TypeId × Value → H) :
    ReturnsInHanded {} Try.checked os 3 .any (Rows.topBackwardSpec.pre6 enc Try.prog Try.f3 Rows.topBackwardRow.domain false) (Rows.topBackwardSpec.post enc Try.prog Try.f3 false true false false) := by
  refine returnsInHanded_of_change (C := Try.checked) Try.own started (by kernel_rfl) Try.func3
    (ChangeSpec.witness6 (enc := enc) (C := Try.checked) false ⟨#[], #[.agg (Array.replicate 16 (.int .u8 0)), .agg #[.int .u8 0, .int .i64 0, .int .i64 0, .int .u8 0, .int .i64 0], .slice none 0 0, .int .i64 0, .int .i64 0, .bool false], []⟩ 8 (by kernel_rfl) (by kernel_rfl) (by kernel_rfl) (by kernel_rfl)) ?_
  intro W base args ds gs before hval0 hW hcnd _
  have hval : ∀ (j : Nat) t v, Try.f3.params[j]? = some t → args[j]? = some v → Value.okWide Try.prog W .any base t v := hval0
  have hW' := hW
  have hlt := hW.lt
  obtain ⟨p, q, hA0, hV, rfl, hfz, hnd⟩ := hW
  have hA : DataW.TrodAll enc Try.prog W 0 (fun _ => true) true Try.f3.params.toList args.toList ds p := hA0
  rw [Try.params3] at hA hval
  obtain ⟨v0, vs0, d0, ds0, p0, q0, hargs, rfl, rfl, h0, r0⟩ := trodAll_cons hA
  obtain ⟨v1, vs1, d1, ds1, p1, q1, rfl, rfl, rfl, h1, r1⟩ := trodAll_cons r0
  obtain ⟨v2, vs2, d2, ds2, p2, q2, rfl, rfl, rfl, h2, r2⟩ := trodAll_cons r1
  obtain ⟨v3, vs3, d3, ds3, p3, q3, rfl, rfl, rfl, h3, r3⟩ := trodAll_cons r2
  obtain ⟨v4, vs4, d4, ds4, p4, q4, rfl, rfl, rfl, h4, r4⟩ := trodAll_cons r3
  obtain ⟨v5, vs5, d5, ds5, p5, q5, rfl, rfl, rfl, h5, r5⟩ := trodAll_cons r4
  obtain ⟨rfl, rfl, rfl⟩ := trodAll_nil r5
  have hargs' : args = #[v0, v1, v2, v3, v4, v5] := by
    apply Array.ext'
    simpa using hargs
  subst hargs'
  obtain ⟨rfl, rfl⟩ := trodVars_none hV
  obtain ⟨bs, rfl, hl16, hb8⟩ := open_u8s Go.Eng.T22.u Go.Eng.T5.u cells5 cells22 (hval 0 22 v0 rfl rfl) h0
  obtain ⟨t, rfl, ht⟩ := open_topo (hval 1 24 v1 rfl rfl) h1
  obtain ⟨ls, a, cap, rfl, hls, hrd⟩ := open_bytes (hval 2 25 v2 rfl rfl) h2
  obtain ⟨gen, rfl, rfl, rfl, _⟩ := open_int Go.Eng.T3.u (hval 3 3 v3 rfl rfl) h3
  obtain ⟨n, rfl, rfl, rfl, _⟩ := open_int Go.Eng.T3.u (hval 4 3 v4 rfl rfl) h4
  obtain ⟨pk, rfl, rfl, rfl⟩ := open_bool Go.Eng.T4.u (hval 5 4 v5 rfl rfl) h5
  have hwalk : Go.Eng.FT Go.Eng.Pg 3 [.agg (Go.Eng.u8C bs).toArray, .agg (Go.Eng.topoC t).toArray, .slice a ls.length cap, .int .i64 gen, .int .i64 n, .bool pk] W (fun b => W.heap[b]?) [] (Go.Eng.Is (.bool true)) := by
    cases pk with
    | true => exact Go.Eng.top_Backward_bits bs hl16 hb8 t ht ls hls a cap hrd gen n
    | false => exact Go.Eng.top_Backward_bytes bs hl16 hb8 t ht ls hls a cap hrd gen n
  refine (hwalk W (st_begin W)).mono fun e W' ⟨τ, hst, he⟩ => ?_
  have he : e = .returned (.bool true) := he
  subst he
  obtain ⟨hkept, hsame⟩ := below_of_st hst
  have hbelow : Below W.heap.size W W' := ⟨hst.os, hst.tape, hst.output, by
    rcases Nat.eq_zero_or_pos W.heap.size with e | e
    · omega
    · have h := hsame (W.heap.size - 1) (by omega)
      have hk : W.heap.size - 1 < W.heap.size := by omega
      have e2 : W.heap[W.heap.size - 1]? = some W.heap[W.heap.size - 1] := Array.getElem?_eq_getElem hk
      rw [e2] at h
      have := (Array.getElem?_eq_some_iff.1 h).1
      omega, hsame⟩
  have stay : ∀ {ty : Nat} {v : Value} {d : DataW H} {ps : List MemPlace} (sp : Nat → Bool), Try.prog.readableRec ty = true → ty < Try.prog.types.size → DataW.Trod enc Try.prog W 0 (fun _ => true) true ty v d ps → (∀ x ∈ ps, x.block < W.heap.size) → (∀ x ∈ ps, sp x.block = true) → DataW.Trod enc Try.prog W' 0 sp true ty v d ps :=
    fun sp hr hrow h hl hs => Trod_stays Try.laidOut hr hrow h (fun x hx => hbelow.same (hl x hx)) hs
  have hold : ∀ x ∈ p0 ++ (p1 ++ (p2 ++ ([] ++ ([] ++ ([] ++ []))))) ++ [], x.block < W.heap.size := fun x hx => hlt x hx
  refine ⟨_, rfl, _, _, _, [], p0 ++ (p1 ++ (p2 ++ ([] ++ ([] ++ ([] ++ []))))), [], hW', trodAll_mk1 (shut_bool Go.Eng.T4.u true), ?_, rfl, World.keptBut_mono (fun _ f => f.elim) hkept, fun h => by cases h⟩
  have m0 : ∀ x ∈ p0, x.block < W.heap.size := fun x hx => hold x (by simp [hx])
  have m1 : ∀ x ∈ p1, x.block < W.heap.size := fun x hx => hold x (by simp [hx])
  have m2 : ∀ x ∈ p2, x.block < W.heap.size := fun x hx => hold x (by simp [hx])
  exact trodAll_cons_mk (stay _ (by kernel_rfl) (of_decide_eq_true (by kernel_rfl)) h0 m0 (fun x hx => by simpa using m0 x hx)) (trodAll_cons_mk (stay _ (by kernel_rfl) (of_decide_eq_true (by kernel_rfl)) h1 m1 (fun x hx => by simpa using m1 x hx))
    (trodAll_cons_mk (stay _ (by kernel_rfl) (of_decide_eq_true (by kernel_rfl)) h2 m2 (fun x hx => by simpa using m2 x hx)) (trodAll_cons_mk (stay _ (by kernel_rfl) (of_decide_eq_true (by kernel_rfl)) h3 (fun x hx => by cases hx) (fun x hx => by cases hx))
      (trodAll_cons_mk (stay _ (by kernel_rfl) (of_decide_eq_true (by kernel_rfl)) h4 (fun x hx => by cases hx) (fun x hx => by cases hx)) (trodAll_cons_mk (stay _ (by kernel_rfl) (of_decide_eq_true (by kernel_rfl)) h5 (fun x hx => by cases hx) (fun x hx => by cases hx)) trodAll_mk0)))))

theorem topBackward_holds : Rows.TopBackwardSaid :=
  OpenClaim.holds_of_wide 3 Try.f3 rfl rfl rfl rfl rfl rfl rfl ⟨rfl, rfl, rfl, rfl, rfl⟩ rfl rfl rfl rfl rfl (by kernel_rfl) Try.func3 (by kernel_rfl)
    (of_decide_eq_true (by kernel_rfl)) (by unfold Func.isWrapper; first | (rw [if_pos (by decide +kernel)]; kernel_rfl) | (rw [if_neg (by decide +kernel)]; exact ⟨rfl, rfl⟩))
    (fun os started H enc _ => topBackward_lifted os started H enc)

end Go.Proofs.Ytfnjffmibiklfaa
