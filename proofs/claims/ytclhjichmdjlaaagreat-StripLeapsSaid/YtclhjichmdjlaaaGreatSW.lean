/- Walks of the functions of the seat over those rules, and plain laws of what they compute. No conditions beyond those in each theorem. -/
import Derived.Test.YtclhjichmdjlaaaGreatSO
import Derived.Test.YtclhjichmdjlaaaGreatSNF
set_option linter.unusedSimpArgs false
set_option linter.unusedVariables false
namespace Go.Eng
open Go.RowKit Go.Proofs
def deadB (x:ByteArray):Bool:=decide (∀ i,i<(intsB x).length→(intsB x).getD i 0=0)
def fstL:List ByteArray→Nat
  | []=>0
  | x::r=>if deadB x then fstL r+1 else 0
def lstL (ls:List ByteArray):Nat:=ls.length-fstL ls.reverse
theorem fstL_le:∀ ls:List ByteArray,fstL ls≤ls.length
  | []=>Nat.le_refl _
  | x::r=>by
    unfold fstL
    have:=fstL_le r
    split <;> simp only[List.length_cons] <;> omega
theorem fstL_dead:∀ (ls:List ByteArray) (i:Nat),i<fstL ls→deadB (ls.getD i ByteArray.empty)=true
  | [],i,h=>absurd h (Nat.not_lt_zero i)
  | x::r,i,h=>by
    unfold fstL at h
    split at h
    · rename_i hx
      cases i with
      | zero=>exact hx
      | succ i=>exact fstL_dead r i (by omega)
    · exact absurd h (Nat.not_lt_zero i)
theorem fstL_lives:∀ (ls:List ByteArray),fstL ls<ls.length→deadB (ls.getD (fstL ls) ByteArray.empty)=false
  | [],h=>absurd h (Nat.not_lt_zero _)
  | x::r,h=>by
    unfold fstL at h ⊢
    split
    · rename_i hx
      rw[if_pos hx] at h
      exact fstL_lives r (by simp only[List.length_cons] at h;omega)
    · rename_i hx
      simpa using hx
theorem getD_rev (ls:List ByteArray) (i:Nat) (h:i<ls.length):ls.reverse.getD i ByteArray.empty=ls.getD (ls.length-1-i) ByteArray.empty:=by
  rw[List.getD_eq_getElem?_getD,List.getElem?_reverse h,List.getD_eq_getElem?_getD]
theorem lstL_le (ls:List ByteArray):lstL ls≤ls.length:=Nat.sub_le _ _
theorem lstL_dead (ls:List ByteArray) (i:Nat) (h:lstL ls≤i) (hi:i<ls.length):deadB (ls.getD i ByteArray.empty)=true:=by
  unfold lstL at h
  have h1:=fstL_dead ls.reverse (ls.length-1-i) (by omega)
  rw[getD_rev ls _ (by omega)] at h1
  rwa [show ls.length-1-(ls.length-1-i)=i by omega] at h1
theorem lstL_lives (ls:List ByteArray) (h:fstL ls<ls.length):fstL ls<lstL ls∧deadB (ls.getD (lstL ls-1) ByteArray.empty)=false:=by
  have h1:=fstL_lives ls h
  have h2:fstL ls<lstL ls:=by
   rcases Nat.lt_or_ge (fstL ls) (lstL ls) with h2 | h2
   · exact h2
   · rw[lstL_dead ls _ h2 h] at h1;cases h1
  refine⟨h2,?_⟩
  have h3:=fstL_le ls.reverse
  rw[List.length_reverse] at h3
  unfold lstL at h2 ⊢
  have h4:=fstL_lives ls.reverse (by rw[List.length_reverse];omega)
  rw[getD_rev ls _ (by omega)] at h4
  rwa [show ls.length-1-fstL ls.reverse=ls.length-fstL ls.reverse-1 by omega] at h4
def subL (ls:List ByteArray) (a c:Nat):List ByteArray:=(ls.drop a).take (c-a)
theorem subL_len (ls:List ByteArray) (a c:Nat) (h:c≤ls.length):(subL ls a c).length=c-a:=by unfold subL;rw[List.length_take,List.length_drop];omega
theorem subL_get (ls:List ByteArray) (a c i:Nat) (h:i<c-a):(subL ls a c).getD i ByteArray.empty=ls.getD (a+i) ByteArray.empty:=by
  unfold subL
  rw[List.getD_eq_getElem?_getD,List.getElem?_take,if_pos h,List.getElem?_drop,List.getD_eq_getElem?_getD]
theorem getD_sub {α:Type} (vs:List α) (z:α) (a c i:Nat) (h:i<c-a):((vs.drop a).take (c-a)).getD i z=vs.getD (a+i) z:=by
  rw[List.getD_eq_getElem?_getD,List.getElem?_take,if_pos h,List.getElem?_drop,List.getD_eq_getElem?_getD]
theorem BtsAt.sub {h:Hp} {b o n cap:Nat} {ls:List ByteArray} (s:BtsAt h (.slice (some ⟨b,o,none⟩) n cap) ls) {a c:Nat} (hac:a≤c) (hc:c≤ls.length):BtsAt h (.slice (some ⟨b,o+a,none⟩) (c-a) (cap-a)) (subL ls a c):=by
  obtain⟨vs,⟨x,y,e,hn,h0,hr⟩,hall⟩:=s
  injection e with e1 e2 e3
  subst e1 e2 e3
  refine⟨(vs.drop a).take (c-a),⟨some ⟨b,o+a,none⟩,cap-a,by rw[subL_len ls a c hc],by rw[subL_len ls a c hc];omega,fun e=>(by cases e),fun hp=>⟨b,o+a,rfl,fun i hi=>?_⟩⟩,fun i hi=>?_⟩
  · rw[subL_len ls a c hc] at hp hi
    obtain⟨b2,o2,e2,hcell⟩:=hr (by omega)
    obtain⟨rfl,rfl⟩:b=b2∧o=o2:=by injection e2 with e2;injection e2 with e3 e4;exact⟨e3,e4⟩
    dsimp only
    rw[getD_sub vs _ a c i (by omega),Nat.add_assoc,hcell (a+i) (by omega)]
  · rw[subL_len ls a c hc] at hi
    rw[getD_sub vs _ a c i hi,subL_get ls a c i hi]
    exact hall (a+i) (by omega)
def trimB (at0:Int) (ls:List ByteArray):Int × List ByteArray:=if fstL ls<ls.length then (at0+(fstL ls:Int),subL ls (fstL ls) (lstL ls)) else (0,[])
def farY (y:Int):Bool:=decide (y < -1099511627776∨1099511627776<y)
theorem farY_f {y:Int} (h:farY y=false):-1099511627776≤y∧y≤1099511627776:=by
  have:=of_decide_eq_false h;omega
def mayE (r:RuleD) (t:TopoD) (w at0:Int) (ls:List ByteArray):Int:=
  if ¬ w=t.w then 193 else if ¬ (∀ i,i<ls.length→((ls.getD i ByteArray.empty).size:Int)=t.w) then 193 else
  if ¬ (∀ i,i<ls.length→∀ j,j<(intsB (ls.getD i ByteArray.empty)).length→(intsB (ls.getD i ByteArray.empty)).getD j 0<r.nSt) then 7 else
  if 0<ls.length∧(farY at0=true∨farY (at0+(ls.length:Int)-1)=true) then 5 else 0
theorem mayE_0 {r:RuleD} {t:TopoD} {w at0:Int} {ls:List ByteArray} (h:mayE r t w at0 ls=0):w=t.w∧(∀ i,i<ls.length→RowOk2 r t (ls.getD i ByteArray.empty))∧(0<ls.length→-1099511627776≤at0∧at0+(ls.length:Int)-1≤1099511627776):=by
  unfold mayE at h
  split at h
  · omega
  · rename_i h1
    split at h
    · omega
    · rename_i h2
      split at h
      · omega
      · rename_i h3
        split at h
        · omega
        · rename_i h4
          have h1:=Decidable.not_not.1 h1
          have h2:=Decidable.not_not.1 h2
          have h3:=Decidable.not_not.1 h3
          refine⟨h1,fun i hi=>⟨h2 i hi,fun j hj=>⟨intsB_nn _ _,h3 i hi j (by rw[intsB_len];exact hj)⟩⟩,fun hp=>?_⟩
          have h5:farY at0=false:=by cases h6:farY at0;rfl;exact absurd ⟨hp,.inl h6⟩ h4
          have h6:farY (at0+(ls.length:Int)-1)=false:=by cases h6:farY (at0+(ls.length:Int)-1);rfl;exact absurd ⟨hp,.inr h6⟩ h4
          have:=farY_f h5
          have:=farY_f h6
          omega
where
  intsB_nn (x:ByteArray) (j:Nat):0≤(intsB x).getD j 0:=by
   unfold intsB
   rw[List.getD_eq_getElem?_getD,List.getElem?_map]
   cases x.data.toList[j]? with
   | none=>exact Int.le_refl _
   | some b=>exact Int.natCast_nonneg _
theorem mayE_w {r:RuleD} {t:TopoD} {w at0:Int} {ls:List ByteArray} (h:¬ w=t.w):mayE r t w at0 ls=193:=by unfold mayE;rw[if_pos h]
theorem mayE_s {r:RuleD} {t:TopoD} {w at0:Int} {ls:List ByteArray} (h:w=t.w) (i:Nat) (hi:i<ls.length) (hs:¬ ((ls.getD i ByteArray.empty).size:Int)=t.w):mayE r t w at0 ls=193:=by
  unfold mayE;rw[if_neg (fun h'=>h' h),if_pos (fun h'=>hs (h' i hi))]
theorem mayE_k {r:RuleD} {t:TopoD} {w at0:Int} {ls:List ByteArray} (h:w=t.w) (hs:∀ i,i<ls.length→((ls.getD i ByteArray.empty).size:Int)=t.w) (i:Nat) (hi:i<ls.length) (hk:¬ ∀ j,j<(intsB (ls.getD i ByteArray.empty)).length→(intsB (ls.getD i ByteArray.empty)).getD j 0<r.nSt):mayE r t w at0 ls=7:=by
  unfold mayE;rw[if_neg (fun h'=>h' h),if_neg (fun h'=>h' hs),if_pos (fun h'=>hk (h' i hi))]
theorem mayE_f {r:RuleD} {t:TopoD} {w at0:Int} {ls:List ByteArray} (h:w=t.w) (hs:∀ i,i<ls.length→((ls.getD i ByteArray.empty).size:Int)=t.w) (hk:∀ i,i<ls.length→∀ j,j<(intsB (ls.getD i ByteArray.empty)).length→(intsB (ls.getD i ByteArray.empty)).getD j 0<r.nSt):mayE r t w at0 ls=if 0<ls.length∧(farY at0=true∨farY (at0+(ls.length:Int)-1)=true) then 5 else 0:=by
  unfold mayE;rw[if_neg (fun h'=>h' h),if_neg (fun h'=>h' hs),if_neg (fun h'=>h' hk)]
open Go.RowKit Go.Proofs
theorem BtsAt.pos {h:Hp} {v:Value} {ls:List ByteArray} (s:BtsAt h v ls) (hp:0<ls.length):∃ b o cap,v=.slice (some ⟨b,o,none⟩) ls.length cap:=by
  obtain⟨vs,⟨a,cap,e,hn,h0,hr⟩,hall⟩:=s
  obtain⟨b,o,rfl,_⟩:=hr hp
  exact⟨b,o,cap,e⟩
def trimV (v:Value) (ls:List ByteArray):Value:=if fstL ls<ls.length then (match v with
  | .slice (some a) _ c=>.slice (some ⟨a.block,a.off+fstL ls,none⟩) (lstL ls-fstL ls) (c-fstL ls)
  | _=>.slice none 0 0) else .slice none 0 0
theorem trimB_lt {at0:Int} {ls:List ByteArray} (h:fstL ls<ls.length):trimB at0 ls=(at0+(fstL ls:Int),subL ls (fstL ls) (lstL ls)):=if_pos h
theorem trimB_ge {at0:Int} {ls:List ByteArray} (h:ls.length≤fstL ls):trimB at0 ls=(0,[]):=if_neg (by omega)
theorem trimV_lt {b o n c:Nat} {ls:List ByteArray} (h:fstL ls<ls.length):trimV (.slice (some ⟨b,o,none⟩) n c) ls=.slice (some ⟨b,o+fstL ls,none⟩) (lstL ls-fstL ls) (c-fstL ls):=if_pos h
theorem trimV_ge {v:Value} {ls:List ByteArray} (h:ls.length≤fstL ls):trimV v ls=.slice none 0 0:=if_neg (by omega)
theorem BtsAt.nil {h:Hp}:BtsAt h (.slice none 0 0) []:=⟨[],⟨none,0,rfl,Nat.le_refl _,fun _=>rfl,fun hp=>absurd hp (Nat.not_lt_zero _)⟩,fun i hi=>absurd hi (Nat.not_lt_zero _)⟩
theorem BtsAt.trim {h:Hp} {v:Value} {ls:List ByteArray} (s:BtsAt h v ls) (at0:Int):BtsAt h (trimV v ls) (trimB at0 ls).2:=by
  rcases Nat.lt_or_ge (fstL ls) ls.length with hf | hf
  · obtain⟨b,o,c,rfl⟩:=s.pos (by omega)
    have:=lstL_lives ls hf
    rw[trimV_lt hf,trimB_lt hf]
    exact s.sub (by omega) (lstL_le ls)
  · rw[trimV_ge hf,trimB_ge hf];exact BtsAt.nil
theorem trimB_nil {at0:Int} {ls:List ByteArray} (v:Value) (h:(trimB at0 ls).2.length=0):trimV v ls=.slice none 0 0:=by
  rcases Nat.lt_or_ge (fstL ls) ls.length with hf | hf
  · have:=lstL_lives ls hf
    rw[trimB_lt hf,subL_len ls _ _ (lstL_le ls)] at h
    omega
  · exact trimV_ge hf
theorem trimB_len (at0:Int) (ls:List ByteArray):(trimB at0 ls).2.length≤ls.length:=by
  rcases Nat.lt_or_ge (fstL ls) ls.length with hf | hf
  · have:=lstL_le ls
    rw[trimB_lt hf,subL_len ls _ _ (lstL_le ls)];omega
  · rw[trimB_ge hf];exact Nat.zero_le _
theorem trimB_row {at0:Int} {ls:List ByteArray} {i:Nat} (h:i<(trimB at0 ls).2.length):∃ j,j<ls.length∧(trimB at0 ls).2.getD i ByteArray.empty=ls.getD j ByteArray.empty∧(trimB at0 ls).1+(i:Int)=at0+(j:Int):=by
  rcases Nat.lt_or_ge (fstL ls) ls.length with hf | hf
  · have:=lstL_le ls
    rw[trimB_lt hf] at h ⊢
    dsimp only at h ⊢
    rw[subL_len ls _ _ (lstL_le ls)] at h
    exact⟨fstL ls+i,by omega,subL_get _ _ _ _ h,by omega⟩
  · rw[trimB_ge hf] at h;exact absurd h (Nat.not_lt_zero _)
theorem trimB_at {at0:Int} {ls:List ByteArray} (h:0<(trimB at0 ls).2.length):at0≤(trimB at0 ls).1∧(trimB at0 ls).1+((trimB at0 ls).2.length:Int)≤at0+(ls.length:Int):=by
  rcases Nat.lt_or_ge (fstL ls) ls.length with hf | hf
  · have:=lstL_le ls
    have:=lstL_lives ls hf
    rw[trimB_lt hf]
    dsimp only
    rw[subL_len ls _ _ (lstL_le ls)]
    omega
  · rw[trimB_ge hf] at h;exact absurd h (Nat.not_lt_zero _)
def trimR (r:RuleD) (t:TopoD) (W at0:Int) (ls:List ByteArray):Int × Int × List ByteArray × Int:=if mayE r t W at0 ls=0 then (t.w,(trimB at0 ls).1,(trimB at0 ls).2,0) else (0,0,[],mayE r t W at0 ls)
theorem trimR_0 {r:RuleD} {t:TopoD} {W at0:Int} {ls:List ByteArray} (h:mayE r t W at0 ls=0):trimR r t W at0 ls=(t.w,(trimB at0 ls).1,(trimB at0 ls).2,0):=if_pos h
theorem trimR_e {r:RuleD} {t:TopoD} {W at0:Int} {ls:List ByteArray} (h:¬ mayE r t W at0 ls=0):trimR r t W at0 ls=(0,0,[],mayE r t W at0 ls):=if_neg h
def zrowT (t:TopoD):ByteArray:=textOf (zeros t.w.toNat)
def rowZ (t:TopoD) (ls:List ByteArray) (y:Int):ByteArray:=if 0≤y∧y<(ls.length:Int) then ls.getD y.toNat ByteArray.empty else zrowT t
def rvZ (vs:List Value) (nv:Value) (n:Nat) (y:Int):Value:=if 0≤y∧y<(n:Int) then vs.getD y.toNat undef else nv
def nextL (r:RuleD) (t:TopoD) (ls:List ByteArray) (m:Nat):List ByteArray:=(List.range m).map fun i:Nat=>lineR r t (rowZ t ls ((i:Int)-2)) (rowZ t ls ((i:Int)-1)) (rowZ t ls (i:Int))
def laterB (r:RuleD) (t:TopoD) (x:Int × List ByteArray):Int × List ByteArray:=if x.2.length=0 then x else trimB (x.1-1) (nextL r t x.2 (x.2.length+2))
def runB (r:RuleD) (t:TopoD) (x:Int × List ByteArray):Nat→Int × List ByteArray
  | 0=>x
  | n+1=>laterB r t (runB r t x n)
theorem nextL_len (r:RuleD) (t:TopoD) (ls:List ByteArray) (m:Nat):(nextL r t ls m).length=m:=by unfold nextL;rw[List.length_map,List.length_range]
theorem nextL_get (r:RuleD) (t:TopoD) (ls:List ByteArray) (m i:Nat) (h:i<m):(nextL r t ls m).getD i ByteArray.empty=lineR r t (rowZ t ls ((i:Int)-2)) (rowZ t ls ((i:Int)-1)) (rowZ t ls (i:Int)):=by
  unfold nextL
  rw[List.getD_eq_getElem?_getD,List.getElem?_map,List.getElem?_range h];rfl
theorem nextL_succ (r:RuleD) (t:TopoD) (ls:List ByteArray) (m:Nat):nextL r t ls (m+1)=nextL r t ls m++[lineR r t (rowZ t ls ((m:Int)-2)) (rowZ t ls ((m:Int)-1)) (rowZ t ls (m:Int))]:=by
  unfold nextL;rw[List.range_succ,List.map_append];rfl
theorem intsB_zrowT (t:TopoD):intsB (zrowT t)=zeros t.w.toNat:=intsB_textOf _ fun v hv=>by unfold zeros at hv;rw[List.eq_of_mem_replicate hv];omega
theorem zrowT_ok {r:RuleD} {t:TopoD} (h:WOk r t):RowOk2 r t (zrowT t):=by
  have hf:=h.1.facts
  have hw:=h.2.1
  unfold TopoD.Ok at hw
  have hs:(zrowT t).size=t.w.toNat:=by rw[← intsB_len,intsB_zrowT];unfold zeros;rw[List.length_replicate]
  refine⟨by rw[hs];omega,fun i hi=>?_⟩
  rw[intsB_zrowT,zeros_get]
  omega
theorem rowZ_ok {r:RuleD} {t:TopoD} (h:WOk r t) {ls:List ByteArray} (hr:∀ i,i<ls.length→RowOk2 r t (ls.getD i ByteArray.empty)) (y:Int):RowOk2 r t (rowZ t ls y):=by
  unfold rowZ
  split
  · exact hr _ (by omega)
  · exact zrowT_ok h
theorem rvZ_at {h:Hp} {t:TopoD} {vs:List Value} {nv:Value} {ls:List ByteArray} (hall:∀ i,i<ls.length→BytesAt h (vs.getD i undef) (intsB (ls.getD i ByteArray.empty))) (hz:BytesAt h nv (intsB (zrowT t))) (y:Int):BytesAt h (rvZ vs nv ls.length y) (intsB (rowZ t ls y)):=by
  unfold rvZ rowZ
  split
  · exact hall _ (by omega)
  · exact hz
theorem rvZ_shape {h:Hp} {t:TopoD} {vs:List Value} {a:Option Addr} {c:Nat} {ls:List ByteArray} (hall:∀ i,i<ls.length→BytesAt h (vs.getD i undef) (intsB (ls.getD i ByteArray.empty))) (y:Int):∃ a' c',rvZ vs (.slice a t.w.toNat c) ls.length y=.slice a' (intsB (rowZ t ls y)).length c':=by
  unfold rvZ rowZ
  split
  · exact (hall _ (by omega)).shape
  · exact⟨_,_,by rw[intsB_zrowT];unfold zeros;rw[List.length_replicate]⟩
theorem rows3T {r:RuleD} {t:TopoD} {x y z:ByteArray} (h0:0≤t.w) (rx:RowOk2 r t x) (ry:RowOk2 r t y) (rz:RowOk2 r t z):Rows3 r t.w.toNat (intsB x) (intsB y) (intsB z):=
  ⟨by rw[intsB_len];have:=rx.1;omega,by rw[intsB_len];have:=ry.1;omega,by rw[intsB_len];have:=rz.1;omega,fun i hi=>rx.2 i (by have:=rx.1;omega),fun i hi=>ry.2 i (by have:=ry.1;omega),fun i hi=>rz.2 i (by have:=rz.1;omega)⟩
theorem lineR_T {r:RuleD} {t:TopoD} (hw:r.Wd) (hwo:WOk r t) {x y z:ByteArray} (rx:RowOk2 r t x) (ry:RowOk2 r t y) (rz:RowOk2 r t z):intsB (lineR r t x y z)=lineD r t (intsB x) (intsB y) (intsB z)∧RowOk2 r t (lineR r t x y z):=by
  have hok:=hwo.1
  have hf:=hok.facts
  have hto:=hwo.2.1
  unfold TopoD.Ok at hto
  have hx3:=rows3T (by omega) rx ry rz
  have hle:∀ v∈lineD r t (intsB x) (intsB y) (intsB z),0≤v∧v<r.nSt:=by
   intro v hv
   unfold lineD at hv
   obtain⟨i,hi,rfl⟩:=List.mem_map.1 hv
   exact nx_ok hw hok (hx3.h i (List.mem_range.1 hi)) (aroundD_bd hok hx3 i)
  have hi:intsB (lineR r t x y z)=lineD r t (intsB x) (intsB y) (intsB z):=intsB_textOf _ fun v hv=>by have:=hle v hv;omega
  have hl:(lineD r t (intsB x) (intsB y) (intsB z)).length=t.w.toNat:=by unfold lineD;simp
  have hs:(lineR r t x y z).size=t.w.toNat:=by rw[← intsB_len,hi,hl]
  refine⟨hi,by rw[hs];omega,fun i h=>?_⟩
  rw[hi]
  exact hle _ (getD_mem (by rw[hl];omega))
theorem nextL_ok {r:RuleD} {t:TopoD} (hw:r.Wd) (hwo:WOk r t) {ls:List ByteArray} (hr:∀ i,i<ls.length→RowOk2 r t (ls.getD i ByteArray.empty)) (m i:Nat) (h:i<(nextL r t ls m).length):RowOk2 r t ((nextL r t ls m).getD i ByteArray.empty):=by
  rw[nextL_get _ _ _ _ _ (by rwa [nextL_len] at h)]
  exact (lineR_T hw hwo (rowZ_ok hwo hr _) (rowZ_ok hwo hr _) (rowZ_ok hwo hr _)).2
theorem u8sC_zeros (n:Nat):List.replicate n (Value.int .u8 0)=u8sC (zeros n):=by simp[u8sC,zeros]
theorem laterB_nil {r:RuleD} {t:TopoD} {at0:Int} {ls:List ByteArray} (h:ls.length=0):laterB r t (at0,ls)=(at0,ls):=if_pos h
theorem laterB_pos {r:RuleD} {t:TopoD} {at0:Int} {ls:List ByteArray} (h:¬ ls.length=0):laterB r t (at0,ls)=trimB (at0-1) (nextL r t ls (ls.length+2)):=if_neg h
structure RunOk (r:RuleD) (t:TopoD) (x:Int × List ByteArray) (n:Nat) (y:Int × List ByteArray):Prop where
  ok:∀ i,i<y.2.length→RowOk2 r t (y.2.getD i ByteArray.empty)
  len:y.2.length≤x.2.length+2*n
  at_:0<y.2.length→0<x.2.length∧x.1-(n:Int)≤y.1∧y.1+(y.2.length:Int)≤x.1+(x.2.length:Int)+(n:Int)
theorem runB_ok {r:RuleD} {t:TopoD} (hw:r.Wd) (hwo:WOk r t) {x:Int × List ByteArray} (hr:∀ i,i<x.2.length→RowOk2 r t (x.2.getD i ByteArray.empty)):∀ n,RunOk r t x n (runB r t x n)
  | 0=>⟨hr,by unfold runB;omega,fun h=>⟨h,by unfold runB;omega,by unfold runB;omega⟩⟩
  | n+1=>by
    obtain⟨h1,h2,h3⟩:=runB_ok hw hwo hr n
    show RunOk r t x (n+1) (laterB r t (runB r t x n))
    generalize runB r t x n=y at h1 h2 h3 ⊢
    obtain⟨ya,yl⟩:=y
    dsimp only at h1 h2 h3
    by_cases h0:yl.length=0
    · rw[laterB_nil h0]
      exact⟨h1,by dsimp only;omega,fun h=>by dsimp only at h;omega⟩
    · rw[laterB_pos h0]
      have hl:=nextL_len r t yl (yl.length+2)
      refine⟨fun i hi=>?_,?_,fun h=>?_⟩
      · obtain⟨j,hj,e,_⟩:=trimB_row hi
        rw[e];exact nextL_ok hw hwo h1 _ j hj
      · have:=trimB_len (ya-1) (nextL r t yl (yl.length+2));omega
      · have h4:=trimB_at h
        have h3:=h3 (by omega)
        omega
theorem trimB_at0 {at0:Int} {ls:List ByteArray} (h:(trimB at0 ls).2.length=0):(trimB at0 ls).1=0:=by
  rcases Nat.lt_or_ge (fstL ls) ls.length with hf | hf
  · have:=lstL_lives ls hf
    rw[trimB_lt hf,subL_len ls _ _ (lstL_le ls)] at h
    omega
  · rw[trimB_ge hf]
def winR (r:RuleD) (t:TopoD) (W at0:Int) (ls:List ByteArray) (n:Nat):Int × Int × List ByteArray × Int:=
  if mayE r t W at0 ls=0 then (if 0<(trimB at0 ls).2.length∧(farY ((trimB at0 ls).1-(n:Int))=true∨farY ((trimB at0 ls).1+((trimB at0 ls).2.length:Int)-1+(n:Int))=true) then (0,0,[],5) else (t.w,(runB r t (trimB at0 ls) n).1,(runB r t (trimB at0 ls) n).2,0)) else (0,0,[],mayE r t W at0 ls)
theorem winR_e {r:RuleD} {t:TopoD} {W at0:Int} {ls:List ByteArray} {n:Nat} (h:¬ mayE r t W at0 ls=0):winR r t W at0 ls n=(0,0,[],mayE r t W at0 ls):=if_neg h
theorem winR_5 {r:RuleD} {t:TopoD} {W at0:Int} {ls:List ByteArray} {n:Nat} (h:mayE r t W at0 ls=0) (h1:0<(trimB at0 ls).2.length) (h2:farY ((trimB at0 ls).1-(n:Int))=true∨farY ((trimB at0 ls).1+((trimB at0 ls).2.length:Int)-1+(n:Int))=true):winR r t W at0 ls n=(0,0,[],5):=by
  unfold winR;rw[if_pos h,if_pos ⟨h1,h2⟩]
theorem winR_0 {r:RuleD} {t:TopoD} {W at0:Int} {ls:List ByteArray} {n:Nat} (h:mayE r t W at0 ls=0) (h1:(trimB at0 ls).2.length=0∨(farY ((trimB at0 ls).1-(n:Int))=false∧farY ((trimB at0 ls).1+((trimB at0 ls).2.length:Int)-1+(n:Int))=false)):winR r t W at0 ls n=(t.w,(runB r t (trimB at0 ls) n).1,(runB r t (trimB at0 ls) n).2,0):=by
  unfold winR
  rw[if_pos h,if_neg]
  rintro ⟨a,b⟩
  rcases h1 with h1 | ⟨h1,h2⟩
  · omega
  · rw[h1,h2] at b;simp at b
theorem trimB_ok {r:RuleD} {t:TopoD} {ls:List ByteArray} (at0:Int) (hr:∀ i,i<ls.length→RowOk2 r t (ls.getD i ByteArray.empty)):∀ i,i<(trimB at0 ls).2.length→RowOk2 r t ((trimB at0 ls).2.getD i ByteArray.empty):=fun i hi=>by
  obtain⟨j,hj,e,_⟩:=trimB_row hi
  rw[e];exact hr j hj
open Go.RowKit Go.Proofs
theorem intsB_u8g (x:ByteArray) (q:Nat):0≤(intsB x).getD q 0∧(intsB x).getD q 0<256:=by
  unfold intsB
  rw[List.getD_eq_getElem?_getD,List.getElem?_map]
  cases h:x.data.toList[q]? with
  | none=>simp
  | some b=>have:=b.toNat_lt;simp;omega
section
variable {k:World} {h0:Hp}
theorem window_emptyG (rv:Value) (x:ByteArray) (hlv:BytesAt h0 rv (intsB x)) (hl:x.size≤4611686018427387904):FT Pg 116 [rv] k h0 [] (Is (.bool (deadB x))):=window_empty rv _ hlv (by rw[intsB_len];exact hl)
set_option maxRecDepth 10000 in
theorem window_farG (y:Int):FT Pg 66 [.int .i64 y] k h0 [] (Is (.bool (farY y))):=by
  refine FT.of_wp (n:=7) Tryz.func66 rfl rfl rfl<|WP.regs<|L.assign rfl<|WL.nil<|WP.regs<|L.move rfl<|L.move rfl<|WL.callV rfl rfl F117.fn rfl (fun g gS dj=>whole_Near y _ _)<|L.neq rfl rfl<|L.assign rfl<|WL.nil<|WP.ret<|X.ret rfl (Res.one rfl rfl) ?_
  show _=_
  refine congrArg Ending.returned (congrArg Value.bool (decide_eq_decide.2 ?_))
  split
  · omega
  · split <;> omega
set_option maxRecDepth 10000 in
set_option maxHeartbeats 2000000 in
theorem window_mayG (r:RuleD) (hw:r.Wd) (v w:Value) (hta:TabAt h0 r.table v w) (t:TopoD) (hwt:t.Wd) (hok:WOk r t) (W:Int) (rv:Value) (ls:List ByteArray) (hbt:BtsAt h0 rv ls) (hln:ls.length≤1048576) (hsz:∀ i,i<ls.length→(ls.getD i ByteArray.empty).size≤4611686018427387904) (at0:Int):FT Pg 63 [.agg (ruleC r v w).toArray,.agg (topoC t).toArray,.agg #[.int .i64 W,.int .i64 at0,rv]] k h0 [] (Is (.int .i64 (mayE r t W at0 ls))):=by
  obtain⟨vs,⟨ra,rcap,rfl,hrcap,hrn,hrs⟩,hall⟩:=hbt
  have hto:=hok.2.1
  unfold TopoD.Ok at hto
  refine FT.of_wp (n:=67) Tryz.func63 rfl rfl rfl<|WP.regs<|L.box rfl rfl fun b1=>L.box rfl rfl fun b2=>L.box rfl rfl fun b3=>L.assign rfl<|WL.nil<|WP.seq<|WP.regs<|L.loadN T32.ag rfl rfl (Rds.all 2 rfl)<|L.loadN T34.ag rfl rfl (Rds.all 1 rfl)<|WL.call rfl rfl F15.fn rfl (FT.pureR fun g gS dj=>window_Check r hw v w (hta.mono (Hp.le_un_left _ _)) t hwt) ?_;rintro _ _ ⟨⟨e,rfl,he⟩,rfl⟩
  obtain rfl:=he.2 hok
  refine L.assign rfl<|WL.nil<|WP.regs<|L.move rfl<|L.neq rfl rfl<|WL.nil<|WP.condD rfl (fun hT=>absurd hT (by omega)) (fun h17=>?_);refine WP.skip<|X.thenN<|WP.seq<|WP.regs<|L.fieldAddr (o':=0) T63.f0 rfl rfl<|L.load T3.sc rfl (Rd.own 0 rfl rfl)<|L.fieldAddr (o':=1) T34.f1 rfl rfl<|L.load T3.sc rfl (Rd.own 1 rfl rfl)<|L.neq rfl rfl<|WL.nil<|WP.condD rfl (fun h23=>?_) (fun h23=>?_)
  ·
   refine WP.regs<|L.assign rfl<|WL.nil<|WP.ret<|X.thenR<|X.ret rfl (Res.one rfl rfl) ?_
   show _=_
   rw[mayE_w h23]
  ·
   refine WP.skip<|X.thenN<|WP.seq<|WP.regs<|L.fieldAddr (o':=2) T63.f2 rfl rfl<|L.load T61.sc rfl (Rd.own 0 rfl rfl)<|L.lenS T61.sl rfl rfl<|L.move rfl<|WL.nil<|WP.block<|WP.loop (X:=Nat) (fun i=>⟨67,[],[(3,.pointer (some ⟨b1,0,none⟩)),(4,.pointer (some ⟨b2,0,none⟩)),(5,.pointer (some ⟨b3,0,none⟩)),(25,.slice ra ls.length rcap),(26,.int .i64 (ls.length:Int)),(27,.int .i64 (i:Int))]⟩) (fun i=>[cl b3 [.int .i64 W,.int .i64 at0,.slice ra ls.length rcap] 63,cl b2 (topoC t) 34,cl b1 (ruleC r v w) 32]) (fun i=>i≤ls.length∧∀ j,j<i→((ls.getD j ByteArray.empty).size:Int)=t.w) (fun i=>ls.length-i) 0 (⟨Nat.zero_le _,fun j hj=>absurd hj (by omega)⟩) (Env.Sub.cons rfl rfl (Env.Sub.cons rfl rfl (Env.Sub.cons rfl rfl (Env.Sub.cons rfl rfl (Env.Sub.cons rfl rfl (Env.Sub.cons rfl rfl Env.Sub.nil)))))) (Ent.refl _) ?_
   rintro i ⟨hi,hs1⟩
   refine WP.regs<|L.lss rfl rfl<|WL.nil<|WP.seq<|WP.condD rfl (fun h28=>?_) (fun h28=>?_)
   ·
    refine WP.skip<|X.thenN<|WP.seq<|WP.block<|WP.regs ?_
    obtain⟨rb,ro,rfl,hrc⟩:=hrs (by omega)
    refine L.indexS T61.sl rfl rfl (by omega) ?_
    obtain⟨va,vcap,hveq,hvcap,hvn,hvs⟩:=hall (i) (by omega)
    refine L.load T60.sc rfl (v:=vs.getD (i) undef) (Rd.ro (by have:=hrc (i) (by omega);refine Eq.trans (congrArg _ ?_) this;omega)) ?_
    rw[hveq]
    refine L.assign rfl<|WL.nil<|WP.regs<|L.move rfl<|L.lenS T60.sl rfl rfl<|L.fieldAddr (o':=1) T34.f1 rfl rfl<|L.load T3.sc rfl (Rd.own 1 rfl rfl)<|L.neq rfl rfl<|WL.nil<|WP.condD rfl (fun h35=>?_) (fun h35=>?_)
    ·
     refine WP.regs<|L.assign rfl<|WL.nil<|WP.ret<|X.blockR (X.thenR (X.thenR (X.blockR (X.thenR ?_))));refine X.ret rfl (Res.one rfl rfl) ?_
     show _=_
     rw[mayE_s (by omega) i (by omega) (by rw[intsB_len] at h35;exact h35)]
    ·
     refine WP.skip<|X.blockN<|X.thenN<|WP.region<|L.add' rfl rfl (by omega)<|L.move rfl<|WL.nil<|X.thenN ⟨i+1,⟨by omega,fun j hj=>by rcases Nat.lt_or_ge j i with e | e;exact hs1 j e;obtain rfl:j=i:=(by omega);rw[intsB_len] at h35;omega⟩,by omega,(Env.Sub.cons rfl rfl (Env.Sub.cons rfl rfl (Env.Sub.cons rfl rfl (Env.Sub.cons rfl rfl (Env.Sub.cons rfl rfl (Env.Sub.cons rfl rfl Env.Sub.nil)))))),Ent.refl _⟩
   ·
    refine WP.exit<|X.thenE (X.thenE (X.blockE ?_))
    refine X.thenN<|WP.seq<|WP.regs<|L.fieldAddr (o':=2) T63.f2 rfl rfl<|L.load T61.sc rfl (Rd.own 0 rfl rfl)<|L.lenS T61.sl rfl rfl<|L.move rfl<|WL.nil<|WP.block<|WP.loop (X:=Nat) (fun i=>⟨67,[],[(3,.pointer (some ⟨b1,0,none⟩)),(4,.pointer (some ⟨b2,0,none⟩)),(5,.pointer (some ⟨b3,0,none⟩)),(38,.slice ra ls.length rcap),(39,.int .i64 (ls.length:Int)),(40,.int .i64 (i:Int))]⟩) (fun i=>[cl b3 [.int .i64 W,.int .i64 at0,.slice ra ls.length rcap] 63,cl b2 (topoC t) 34,cl b1 (ruleC r v w) 32]) (fun i=>i≤ls.length∧∀ j,j<i→(∀ q,q<(intsB (ls.getD (j) ByteArray.empty)).length→(intsB (ls.getD (j) ByteArray.empty)).getD q 0<r.nSt)) (fun i=>ls.length-i) 0 (⟨Nat.zero_le _,fun j hj=>absurd hj (by omega)⟩) (Env.Sub.cons rfl rfl (Env.Sub.cons rfl rfl (Env.Sub.cons rfl rfl (Env.Sub.cons rfl rfl (Env.Sub.cons rfl rfl (Env.Sub.cons rfl rfl Env.Sub.nil)))))) (Ent.refl _) ?_
    rintro i ⟨hi,hk1⟩
    refine WP.regs<|L.lss rfl rfl<|WL.nil<|WP.seq<|WP.condD rfl (fun h41=>?_) (fun h41=>?_)
    ·
     refine WP.skip<|X.thenN<|WP.seq<|WP.block<|WP.regs ?_
     obtain⟨rb,ro,rfl,hrc⟩:=hrs (by omega)
     refine L.indexS T61.sl rfl rfl (by omega) ?_
     obtain⟨va,vcap,hveq,hvcap,hvn,hvs⟩:=hall (i) (by omega)
     refine L.load T60.sc rfl (v:=vs.getD (i) undef) (Rd.ro (by have:=hrc (i) (by omega);refine Eq.trans (congrArg _ ?_) this;omega)) ?_
     rw[hveq]
     refine L.assign rfl<|WL.nil<|WP.regs<|L.loadN T32.ag rfl rfl (Rds.all 2 rfl)<|L.move rfl<|WL.callV rfl rfl F61.fn rfl (fun g gS dj=>window_knows r hw v w (hta.mono (Hp.le_un_left _ _)) hok.1 _ (intsB (ls.getD (i) ByteArray.empty)) (by have:=hall (i) (by omega);rw[hveq] at this;exact this.mono (Hp.le_un_left _ _)) (by rw[intsB_len];exact hsz i (by omega)) (fun j hj=>by have:=intsB_u8g (ls.getD (i) ByteArray.empty) j;unfold U8;omega)) ?_
     by_cases hkn:(∀ j,j<(intsB (ls.getD (i) ByteArray.empty)).length→(intsB (ls.getD (i) ByteArray.empty)).getD j 0<r.nSt)
     rw[decide_eq_true hkn]
     rotate_left
     rw[decide_eq_false hkn]
     rotate_left
     ·
      refine L.not rfl<|WL.nil<|WP.condF rfl<|WP.skip<|X.blockN<|X.thenN<|WP.region<|L.add' rfl rfl (by omega)<|L.move rfl<|WL.nil<|X.thenN ⟨i+1,⟨by omega,fun j hj=>by rcases Nat.lt_or_ge j i with e | e;exact hk1 j e;obtain rfl:j=i:=(by omega);exact hkn⟩,by omega,(Env.Sub.cons rfl rfl (Env.Sub.cons rfl rfl (Env.Sub.cons rfl rfl (Env.Sub.cons rfl rfl (Env.Sub.cons rfl rfl (Env.Sub.cons rfl rfl Env.Sub.nil)))))),Ent.refl _⟩
     ·
      refine L.not rfl<|WL.nil<|WP.condT rfl<|WP.regs<|L.assign rfl<|WL.nil<|WP.ret<|X.blockR (X.thenR (X.thenR (X.blockR (X.thenR ?_))));refine X.ret rfl (Res.one rfl rfl) ?_
      show _=_
      rw[mayE_k (by omega) (fun j hj=>hs1 j (by omega)) i (by omega) hkn]
    ·
     refine WP.exit<|X.thenE (X.thenE (X.blockE ?_));refine X.thenN<|WP.seq<|WP.regs<|L.fieldAddr (o':=2) T63.f2 rfl rfl<|L.load T61.sc rfl (Rd.own 0 rfl rfl)<|L.lenS T61.sl rfl rfl<|L.assign rfl<|WL.nil<|WP.regs<|L.move rfl<|L.gtrD rfl rfl (fun h53=>?_) (fun h53=>?_)
     ·
      refine L.move rfl<|L.fieldAddr (o':=1) T63.f1 rfl rfl<|L.load T3.sc rfl (Rd.own 0 rfl rfl)<|WL.callV rfl rfl F66.fn rfl (fun g gS dj=>window_farG at0) ?_
      rcases hf1:farY at0 with _ | _
      rotate_left
      ·
       refine L.move rfl ?_
       iterate 6 refine L.skip ?_
       refine L.pickT rfl rfl<|L.pickT rfl rfl<|WL.nil<|WP.condT rfl<|WP.regs<|L.assign rfl<|WL.nil<|WP.ret<|X.thenR<|X.ret rfl (Res.one rfl rfl) ?_
       show _=_
       rw[mayE_f (by omega) (fun j hj=>hs1 j (by omega)) (fun j hj=>hk1 j (by omega)),if_pos ⟨by omega,.inl hf1⟩]
      ·
       refine L.move rfl<|L.fieldAddr (o':=1) T63.f1 rfl rfl<|L.load T3.sc rfl (Rd.own 0 rfl rfl)<|L.move rfl ?_
       have hff:=farY_f hf1
       refine L.add' rfl rfl (by omega)<|L.sub' rfl rfl (by omega)<|WL.callV rfl rfl F66.fn rfl (fun g gS dj=>window_farG _) ?_
       rcases hf2:farY (at0+(ls.length:Int)-1) with _ | _
       rotate_left
       ·
        refine L.pickF rfl rfl<|L.pickT rfl rfl<|WL.nil<|WP.condT rfl<|WP.regs<|L.assign rfl<|WL.nil<|WP.ret<|X.thenR<|X.ret rfl (Res.one rfl rfl) ?_
        show _=_
        rw[mayE_f (by omega) (fun j hj=>hs1 j (by omega)) (fun j hj=>hk1 j (by omega)),if_pos ⟨by omega,.inr hf2⟩]
       ·
        refine L.pickF rfl rfl<|L.pickT rfl rfl<|WL.nil<|WP.condF rfl<|WP.skip<|X.thenN<|WP.regs<|L.assign rfl<|WL.nil<|WP.ret<|X.ret rfl (Res.one rfl rfl) ?_
        show _=_
        rw[mayE_f (by omega) (fun j hj=>hs1 j (by omega)) (fun j hj=>hk1 j (by omega)),if_neg (by rw[hf1,hf2];simp)]
     ·
      refine L.move rfl ?_
      iterate 11 refine L.skip ?_
      refine L.pickF rfl rfl<|WL.nil<|WP.condF rfl<|WP.skip<|X.thenN<|WP.regs<|L.assign rfl<|WL.nil<|WP.ret<|X.ret rfl (Res.one rfl rfl) ?_
      show _=_
      rw[mayE_f (by omega) (fun j hj=>hs1 j (by omega)) (fun j hj=>hk1 j (by omega)),if_neg (by omega)]
set_option maxRecDepth 10000 in
set_option maxHeartbeats 1000000 in
theorem window_trimmedA (W at0:Int) (rv:Value) (ls:List ByteArray) (hbt:BtsAt h0 rv ls) (hln:ls.length≤1048576) (hsz:∀ i,i<ls.length→(ls.getD i ByteArray.empty).size≤4611686018427387904) (hat:0<ls.length→-1099511627776≤at0∧at0+(ls.length:Int)-1≤1099511627776) (hf:ls.length≤fstL ls):FT Pg 65 [.agg #[.int .i64 W,.int .i64 at0,rv]] k h0 [] (Is (.agg #[.int .i64 W,.int .i64 0,.slice none 0 0])):=by
  obtain⟨vs,⟨ra,rcap,rfl,hrcap,hrn,hrs⟩,hall⟩:=hbt
  refine FT.of_wp (n:=50) Tryz.func65 rfl rfl rfl<|WP.regs<|L.box rfl rfl fun b1=>L.alloc T63.z fun b2=>WL.nil<|WP.seq<|WP.rege [(0,true),(1,true),(2,true),(3,true),(4,true),(5,true)] 6 rfl (by kernel_rfl) (PInv.then PInv.ret) rfl<|WE.take rfl (V.fieldAddr (o':=2) T63.f2 rfl rfl)<|WE.take rfl (V.load T61.sc rfl (Rd.own 1 rfl rfl))<|WE.take rfl (V.fieldAddr (o':=1) T63.f1 rfl rfl)<|WE.take rfl (V.load T3.sc rfl (Rd.own 1 rfl rfl))<|WE.take rfl (V.assign rfl)<|WE.take rfl (V.assign rfl)<|WE.nil<|X.thenN ?_;refine WP.seq<|WP.block<|WP.loop (X:=(Option Addr × Nat) × Nat) (fun x=>⟨50,[],[(1,.pointer (some ⟨b1,0,none⟩)),(2,.pointer (some ⟨b2,0,none⟩)),(3,.slice x.1.1 (ls.length-x.2) x.1.2),(4,.int .i64 (at0+(x.2:Int)))]⟩) (fun x=>[cl b2 [.int .i64 0,.int .i64 0,.slice none 0 0] 63,cl b1 [.int .i64 W,.int .i64 at0,.slice ra ls.length rcap] 63]) (fun x=>x.2≤ls.length∧∀ rb ro,ra=some ⟨rb,ro,none⟩→x.2<ls.length→x.1.1=some ⟨rb,ro+x.2,none⟩∧x.1.2=rcap-x.2) (fun x=>ls.length-x.2) ((ra,rcap),0) (⟨Nat.zero_le _,fun rb ro e _=>⟨e,rfl⟩⟩) (Env.Sub.cons rfl rfl (Env.Sub.cons rfl rfl (Env.Sub.cons rfl rfl (Env.Sub.cons rfl (by dsimp only;rw[show at0+((0:Nat):Int)=at0 by omega]) Env.Sub.nil)))) (Ent.refl _) ?_
  rintro ⟨⟨sa,sc⟩,i⟩ ⟨hi,hsp⟩
  dsimp only at hi hsp ⊢
  refine WP.seq<|WP.regs<|L.move rfl<|L.lenS T61.sl rfl rfl<|L.gtrD rfl rfl (fun h11=>?_) (fun h11=>?_);refine L.move rfl ?_
  obtain⟨rb,ro,hra,hrc⟩:=hrs (by omega)
  obtain⟨rfl,rfl⟩:=hsp rb ro hra (by omega)
  refine L.move rfl<|L.indexS T61.sl rfl rfl (by omega) ?_
  obtain⟨va,vcap,hveq,hvcap,hvn,hvs⟩:=hall (i) (by omega)
  refine L.load T60.sc rfl (v:=vs.getD (i) undef) (Rd.ro (by have:=hrc (i) (by omega);refine Eq.trans (congrArg _ ?_) this;omega)) ?_
  rw[hveq]
  refine WL.callV rfl rfl F116.fn rfl (fun g gS dj=>window_emptyG _ (ls.getD (i) ByteArray.empty) (by have:=hall (i) (by omega);rw[hveq] at this;exact this.mono (Hp.le_un_left _ _)) (hsz _ (by omega))) ?_
  rw[fstL_dead ls i (by omega)]
  refine L.pickT rfl rfl<|WL.nil<|WP.condT rfl<|WP.skip<|X.thenN<|WP.block<|WP.region<|L.move rfl<|L.sliceS T61.sl rfl (l:=1) ⟨_,rfl⟩ rfl (by omega) ?_
  rw[show ls.length-i-1=ls.length-(i+1) by omega]
  generalize hsx:(if rcap-i=1 then (some ⟨rb,ro+i,none⟩:Option Addr) else some ⟨rb,ro+i+1*1,none⟩)=sx
  refine L.move rfl<|L.add' rfl rfl (by omega)<|L.assign rfl ?_
  rw[show at0+(i:Int)+1=at0+((i+1:Nat):Int) by omega]
  refine L.assign rfl<|WL.nil<|X.blockN<|X.thenN ⟨((_,_),i+1),⟨by dsimp only;omega,fun rb2 ro2 e2 hlt=>by dsimp only at hlt;rw[hra] at e2;cases e2;dsimp only;rw[← hsx,if_neg (by omega),show ro+i+1*1=ro+(i+1) by omega];exact⟨rfl,by omega⟩⟩,by dsimp only;omega,(Env.Sub.cons rfl rfl (Env.Sub.cons rfl rfl (Env.Sub.cons rfl rfl (Env.Sub.cons rfl rfl Env.Sub.nil)))),Ent.refl _⟩;refine L.move rfl<|L.skip<|L.skip<|L.skip<|L.skip<|L.pickF rfl rfl<|WL.nil<|WP.condF rfl<|WP.exit<|X.thenE (X.thenE (X.blockE ?_))
  refine X.thenN<|WP.seq<|WP.block<|WP.loop (X:=Unit) (fun x=>⟨50,[],[(1,.pointer (some ⟨b1,0,none⟩)),(2,.pointer (some ⟨b2,0,none⟩)),(3,.slice sa (ls.length-i) sc),(4,.int .i64 (at0+(i:Int)))]⟩) (fun x=>[cl b2 [.int .i64 0,.int .i64 0,.slice none 0 0] 63,cl b1 [.int .i64 W,.int .i64 at0,.slice ra ls.length rcap] 63]) (fun x=>True) (fun x=>0) () (trivial) (Env.Sub.cons rfl rfl (Env.Sub.cons rfl rfl (Env.Sub.cons rfl rfl (Env.Sub.cons rfl rfl Env.Sub.nil)))) (Ent.refl _) ?_
  rintro ⟨⟩ _
  refine WP.seq<|WP.regs<|L.move rfl<|L.lenS T61.sl rfl rfl<|L.gtrD rfl rfl (fun hT=>absurd hT (by omega)) (fun h24=>?_);refine L.move rfl ?_
  iterate 7 refine L.skip ?_
  refine L.pickF rfl rfl<|WL.nil<|WP.condF rfl<|WP.exit<|X.thenE (X.thenE (X.blockE ?_));refine X.thenN<|WP.seq<|WP.regs<|L.move rfl<|L.lenS T61.sl rfl rfl<|L.eql rfl rfl<|WL.nil<|WP.condD rfl (fun h41=>?_) (fun hF=>absurd hF (by omega));refine WP.regs<|L.fieldAddr (o':=0) T63.f0 rfl rfl<|L.load T3.sc rfl (Rd.own 1 rfl rfl)<|L.build (cs:=[_,_,_]) T63.b T63.z rfl rfl<|L.storeN T63.ag rfl rfl rfl (Wrs.all 0 rfl rfl (by simp[Value.oneCell']))<|WL.nil<|WP.ret<|X.thenR<|X.ret rfl (ResCell1 rfl rfl T63.ag rfl (Rds.all 0 rfl)) ?_;exact rfl
set_option maxRecDepth 10000 in
set_option maxHeartbeats 1000000 in
theorem window_trimmedB (W at0:Int) (rb ro rcap:Nat) (ls:List ByteArray) (hbt:BtsAt h0 (.slice (some ⟨rb,ro,none⟩) ls.length rcap) ls) (hln:ls.length≤1048576) (hsz:∀ i,i<ls.length→(ls.getD i ByteArray.empty).size≤4611686018427387904) (hat:0<ls.length→-1099511627776≤at0∧at0+(ls.length:Int)-1≤1099511627776) (hf:fstL ls<ls.length):FT Pg 65 [.agg #[.int .i64 W,.int .i64 at0,.slice (some ⟨rb,ro,none⟩) ls.length rcap]] k h0 [] (Is (.agg #[.int .i64 W,.int .i64 (at0+(fstL ls:Int)),.slice (some ⟨rb,ro+fstL ls,none⟩) (lstL ls-fstL ls) (rcap-fstL ls)])):=by
  obtain⟨vs,⟨_,_,e,hrcap,hrn,hrs⟩,hall⟩:=hbt
  cases e
  obtain⟨_,_,e,hrc⟩:=hrs (by omega)
  cases e
  have hll:=lstL_lives ls hf
  have hlle:=lstL_le ls
  have hat:=hat (by omega)
  refine FT.of_wp (n:=50) Tryz.func65 rfl rfl rfl<|WP.regs<|L.box rfl rfl fun b1=>L.alloc T63.z fun b2=>WL.nil<|WP.seq<|WP.rege [(0,true),(1,true),(2,true),(3,true),(4,true),(5,true)] 6 rfl (by kernel_rfl) (PInv.then PInv.ret) rfl<|WE.take rfl (V.fieldAddr (o':=2) T63.f2 rfl rfl)<|WE.take rfl (V.load T61.sc rfl (Rd.own 1 rfl rfl))<|WE.take rfl (V.fieldAddr (o':=1) T63.f1 rfl rfl)<|WE.take rfl (V.load T3.sc rfl (Rd.own 1 rfl rfl))<|WE.take rfl (V.assign rfl)<|WE.take rfl (V.assign rfl)<|WE.nil<|X.thenN ?_;refine WP.seq<|WP.block<|WP.loop (X:=Nat) (fun i=>⟨50,[],[(1,.pointer (some ⟨b1,0,none⟩)),(2,.pointer (some ⟨b2,0,none⟩)),(3,.slice (some ⟨rb,ro+i,none⟩) (ls.length-i) (rcap-i)),(4,.int .i64 (at0+(i:Int)))]⟩) (fun i=>[cl b2 [.int .i64 0,.int .i64 0,.slice none 0 0] 63,cl b1 [.int .i64 W,.int .i64 at0,.slice (some ⟨rb,ro,none⟩) ls.length rcap] 63]) (fun i=>i≤fstL ls) (fun i=>ls.length-i) 0 (Nat.zero_le _) (Env.Sub.cons rfl rfl (Env.Sub.cons rfl rfl (Env.Sub.cons rfl rfl (Env.Sub.cons rfl (by rw[show at0+((0:Nat):Int)=at0 by omega]) Env.Sub.nil)))) (Ent.refl _) ?_
  intro i hi
  refine WP.seq<|WP.regs<|L.move rfl<|L.lenS T61.sl rfl rfl<|L.gtrD rfl rfl (fun h11=>?_) (fun hF=>absurd hF (by omega));refine L.move rfl<|L.move rfl<|L.indexS T61.sl rfl rfl (by omega) ?_
  obtain⟨va,vcap,hveq,hvcap,hvn,hvs⟩:=hall (i) (by omega)
  refine L.load T60.sc rfl (v:=vs.getD (i) undef) (Rd.ro (by have:=hrc (i) (by omega);refine Eq.trans (congrArg _ ?_) this;omega)) ?_
  rw[hveq]
  refine WL.callV rfl rfl F116.fn rfl (fun g gS dj=>window_emptyG _ (ls.getD (i) ByteArray.empty) (by have:=hall (i) (by omega);rw[hveq] at this;exact this.mono (Hp.le_un_left _ _)) (hsz _ (by omega))) ?_
  rcases Nat.lt_or_ge i (fstL ls) with hlt | hge
  rw[fstL_dead ls i hlt]
  rotate_left
  obtain rfl:i=fstL ls:=by omega
  rw[fstL_lives ls hf]
  rotate_left
  ·
   refine L.pickT rfl rfl<|WL.nil<|WP.condT rfl<|WP.skip<|X.thenN<|WP.block<|WP.region<|L.move rfl<|L.sliceS T61.sl rfl (l:=1) ⟨_,rfl⟩ rfl (by omega) ?_
   rw[if_neg (show ¬ rcap-i=1 by omega),show ro+i+1*1=ro+(i+1) by omega,show ls.length-i-1=ls.length-(i+1) by omega,show rcap-i-1=rcap-(i+1) by omega]
   refine L.move rfl<|L.add' rfl rfl (by omega)<|L.assign rfl ?_
   rw[show at0+(i:Int)+1=at0+((i+1:Nat):Int) by omega]
   refine L.assign rfl<|WL.nil<|X.blockN<|X.thenN ⟨i+1,by omega,by omega,(Env.Sub.cons rfl rfl (Env.Sub.cons rfl rfl (Env.Sub.cons rfl rfl (Env.Sub.cons rfl rfl Env.Sub.nil)))),Ent.refl _⟩
  ·
   refine L.pickT rfl rfl<|WL.nil<|WP.condF rfl<|WP.exit<|X.thenE (X.thenE (X.blockE ?_))
   refine X.thenN<|WP.seq<|WP.block<|WP.loop (X:=Nat) (fun c=>⟨50,[],[(1,.pointer (some ⟨b1,0,none⟩)),(2,.pointer (some ⟨b2,0,none⟩)),(3,.slice (some ⟨rb,ro+fstL ls,none⟩) (c-fstL ls) (rcap-fstL ls)),(4,.int .i64 (at0+(fstL ls:Int)))]⟩) (fun c=>[cl b2 [.int .i64 0,.int .i64 0,.slice none 0 0] 63,cl b1 [.int .i64 W,.int .i64 at0,.slice (some ⟨rb,ro,none⟩) ls.length rcap] 63]) (fun c=>lstL ls≤c∧c≤ls.length) (fun c=>c) ls.length (⟨hlle,Nat.le_refl _⟩) (Env.Sub.cons rfl rfl (Env.Sub.cons rfl rfl (Env.Sub.cons rfl rfl (Env.Sub.cons rfl rfl Env.Sub.nil)))) (Ent.refl _) ?_
   rintro c ⟨hc1,hc2⟩
   refine WP.seq<|WP.regs<|L.move rfl<|L.lenS T61.sl rfl rfl<|L.gtrD rfl rfl (fun h24=>?_) (fun hF=>absurd hF (by omega));refine L.move rfl<|L.move rfl<|L.move rfl<|L.lenS T61.sl rfl rfl<|L.sub' rfl rfl (by omega)<|L.indexS T61.sl rfl rfl (by omega) ?_
   obtain⟨va,vcap,hveq,hvcap,hvn,hvs⟩:=hall (c-1) (by omega)
   refine L.load T60.sc rfl (v:=vs.getD (c-1) undef) (Rd.ro (by have:=hrc (c-1) (by omega);refine Eq.trans (congrArg _ ?_) this;omega)) ?_
   rw[hveq]
   refine WL.callV rfl rfl F116.fn rfl (fun g gS dj=>window_emptyG _ (ls.getD (c-1) ByteArray.empty) (by have:=hall (c-1) (by omega);rw[hveq] at this;exact this.mono (Hp.le_un_left _ _)) (hsz _ (by omega))) ?_
   rcases Nat.lt_or_ge (lstL ls) c with hlt | hge
   rw[lstL_dead ls (c-1) (by omega) (by omega)]
   rotate_left
   obtain rfl:c=lstL ls:=by omega
   rw[hll.2]
   rotate_left
   ·
    refine L.pickT rfl rfl<|WL.nil<|WP.condT rfl<|WP.skip<|X.thenN<|WP.block<|WP.region<|L.move rfl<|L.move rfl<|L.lenS T61.sl rfl rfl<|L.sub' rfl rfl (by omega) ?_
    rw[show ((c-fstL ls:Nat):Int)-1=((c-1-fstL ls:Nat):Int) by omega]
    refine L.sliceS T61.sl rfl rfl ⟨_,rfl⟩ (by omega) ?_
    rw[if_neg (show ¬ rcap-fstL ls=0 by omega),Nat.zero_mul,Nat.add_zero,Nat.sub_zero,Nat.sub_zero]
    refine L.assign rfl<|WL.nil<|X.blockN<|X.thenN ⟨c-1,⟨by omega,by omega⟩,by omega,(Env.Sub.cons rfl rfl (Env.Sub.cons rfl rfl (Env.Sub.cons rfl rfl (Env.Sub.cons rfl rfl Env.Sub.nil)))),Ent.refl _⟩
   ·
    refine L.pickT rfl rfl<|WL.nil<|WP.condF rfl<|WP.exit<|X.thenE (X.thenE (X.blockE ?_));refine X.thenN<|WP.seq<|WP.regs<|L.move rfl<|L.lenS T61.sl rfl rfl<|L.eql rfl rfl<|WL.nil<|WP.condD rfl (fun hT=>absurd hT (by omega)) (fun h41=>?_);refine WP.skip<|X.thenN<|WP.regs<|L.fieldAddr (o':=0) T63.f0 rfl rfl<|L.load T3.sc rfl (Rd.own 1 rfl rfl)<|L.move rfl<|L.move rfl<|L.build (cs:=[_,_,_]) T63.b T63.z rfl rfl<|L.storeN T63.ag rfl rfl rfl (Wrs.all 0 rfl rfl (by simp[Value.oneCell']))<|WL.nil<|WP.ret<|X.ret rfl (ResCell1 rfl rfl T63.ag rfl (Rds.all 0 rfl)) ?_;exact rfl
set_option maxRecDepth 10000 in
theorem window_copied0 (w at0:Int):FT Pg 64 [.agg #[.int .i64 w,.int .i64 at0,.slice none 0 0]] k h0 [] (Is (.agg #[.int .i64 w,.int .i64 at0,.slice none 0 0])):=by
  refine FT.of_wp (n:=53) Tryz.func64 rfl rfl rfl<|WP.regs<|L.box rfl rfl fun b1=>L.alloc T63.z fun b2=>WL.nil<|WP.regs<|L.assign rfl<|WL.nil<|WP.seq<|WP.regs<|L.fieldAddr (o':=2) T63.f2 rfl rfl<|L.load T61.sc rfl (Rd.own 1 rfl rfl)<|L.lenS T61.sl rfl rfl<|L.move rfl<|WL.nil<|WP.block<|WP.loop (X:=Unit) (fun x=>⟨53,[],[(1,.pointer (some ⟨b1,0,none⟩)),(2,.pointer (some ⟨b2,0,none⟩)),(3,.slice none 0 0),(9,.slice none 0 0),(10,.int .i64 0),(11,.int .i64 0)]⟩) (fun x=>[cl b2 [.int .i64 0,.int .i64 0,.slice none 0 0] 63,cl b1 [.int .i64 w,.int .i64 at0,.slice none 0 0] 63]) (fun x=>True) (fun x=>0) () (trivial) (Env.Sub.cons rfl rfl (Env.Sub.cons rfl rfl (Env.Sub.cons rfl rfl (Env.Sub.cons rfl rfl (Env.Sub.cons rfl rfl (Env.Sub.cons rfl rfl Env.Sub.nil)))))) (Ent.refl _) ?_
  rintro ⟨⟩ _
  refine WP.regs<|L.lss rfl rfl<|WL.nil<|WP.seq<|WP.condD rfl (fun hT=>absurd hT (by omega)) (fun h12=>?_);refine WP.exit<|X.thenE (X.thenE (X.blockE ?_))
  refine X.thenN<|WP.regs<|L.fieldAddr (o':=0) T63.f0 rfl rfl<|L.load T3.sc rfl (Rd.own 1 rfl rfl)<|L.fieldAddr (o':=1) T63.f1 rfl rfl<|L.load T3.sc rfl (Rd.own 1 rfl rfl)<|L.build (cs:=[_,_,_]) T63.b T63.z rfl rfl<|L.alloc T63.z fun b3=>L.storeN T63.ag rfl rfl rfl (Wrs.all 0 rfl rfl (by simp[Value.oneCell']))<|WL.nil<|WP.seq<|WP.regs<|L.fieldAddr (o':=2) T63.f2 rfl rfl<|L.load T61.sc rfl (Rd.own 2 rfl rfl)<|L.lenS T61.sl rfl rfl<|L.move rfl<|WL.nil<|WP.block<|WP.loop (X:=Unit) (fun x=>⟨53,[],[(1,.pointer (some ⟨b1,0,none⟩)),(2,.pointer (some ⟨b2,0,none⟩)),(6,.pointer (some ⟨b3,0,none⟩)),(26,.int .i64 0),(27,.int .i64 0)]⟩) (fun x=>[cl b3 [.int .i64 w,.int .i64 at0,.slice none 0 0] 63,cl b2 [.int .i64 0,.int .i64 0,.slice none 0 0] 63,cl b1 [.int .i64 w,.int .i64 at0,.slice none 0 0] 63]) (fun x=>True) (fun x=>0) () (trivial) (Env.Sub.cons rfl rfl (Env.Sub.cons rfl rfl (Env.Sub.cons rfl rfl (Env.Sub.cons rfl rfl (Env.Sub.cons rfl rfl Env.Sub.nil))))) (Ent.refl _) ?_
  rintro ⟨⟩ _
  refine WP.regs<|L.lss rfl rfl<|WL.nil<|WP.seq<|WP.condD rfl (fun hT=>absurd hT (by omega)) (fun h28=>?_);refine WP.exit<|X.thenE (X.thenE (X.blockE ?_));refine X.thenN<|WP.regs<|L.loadN T63.ag rfl rfl (Rds.all 0 rfl)<|L.storeN T63.ag rfl rfl rfl (Wrs.all 1 rfl rfl (by simp[Value.oneCell']))<|WL.nil<|WP.ret<|X.ret rfl (ResCell1 rfl rfl T63.ag rfl (Rds.all 1 rfl)) ?_;exact rfl
theorem Ent.rowsP0 {σ:List HP}:Ent σ (Go.Eng.rowsP (.slice none 0 0) []::σ):=(Ent.nilrows.trans (Ent.nilvec (E:=60) (sz:=1))).trans (Ent.rowsP rfl)
theorem St.rowsP_shape {k1:World} {g0:Hp} {σ:List HP} {w:World} {v:Value} {ls:List ByteArray} (i:Nat) (hi:σ[i]?=some (Go.Eng.rowsP v ls)) (s:St k1 g0 σ w):∃ a c,v=.slice a ls.length c:=by
  obtain⟨g,⟨a,c,hx,hc,dj,e⟩,dj0,hh⟩:=(s.pull i hi).own
  exact BtsAt.shape hx
theorem window_trimmedU (W at0:Int) (rv:Value) (ls:List ByteArray) (hbt:BtsAt h0 rv ls) (hln:ls.length≤1048576) (hsz:∀ i,i<ls.length→(ls.getD i ByteArray.empty).size≤4611686018427387904) (hat:0<ls.length→-1099511627776≤at0∧at0+(ls.length:Int)-1≤1099511627776):FT Pg 65 [.agg #[.int .i64 W,.int .i64 at0,rv]] k h0 [] (Is (.agg #[.int .i64 W,.int .i64 (trimB at0 ls).1,trimV rv ls])):=by
  rcases Nat.lt_or_ge (fstL ls) ls.length with hfl | hfl
  · obtain⟨rb,ro,rcap,rfl⟩:=hbt.pos (by omega)
    rw[trimB_lt hfl,trimV_lt hfl]
    exact window_trimmedB W at0 rb ro rcap ls hbt hln hsz hat hfl
  · rw[trimB_ge hfl,trimV_ge hfl]
    exact window_trimmedA W at0 rv ls hbt hln hsz hat hfl
theorem window_copiedU (w:Nat) (at0:Int) (rv:Value) (ls:List ByteArray) (hbt:BtsAt h0 rv ls) (hnil:ls.length=0→rv=.slice none 0 0) (hln:ls.length≤1048576) (hw:0<w∧w≤65536) (hsz:∀ i,i<ls.length→(ls.getD i ByteArray.empty).size=w):FT Pg 64 [.agg #[.int .i64 (w:Int),.int .i64 at0,rv]] k h0 [] (Ret fun u τ=>∃ v,u=.agg #[.int .i64 (w:Int),.int .i64 at0,v]∧τ=[rowsP v ls]∧(ls.length=0→v=.slice none 0 0)):=by
  rcases Nat.eq_zero_or_pos ls.length with h | h
  · obtain rfl:ls=[]:=List.length_eq_zero_iff.1 h
    rw[hnil rfl]
    refine FT.tight ((window_copied0 (w:Int) at0).mono fun e τ q=>?_)
    obtain⟨rfl,rfl⟩:=q
    exact⟨_,rfl,_,⟨_,rfl,rfl,fun _=>rfl⟩,(Ent.right [] _).trans Ent.rowsP0⟩
  · exact (window_copied w at0 rv ls hbt h hln hw hsz).mono fun e τ ⟨v,he,a,cap,e1,e2⟩=>⟨v,he,_,e1,e2,fun h0=>by omega⟩
set_option maxRecDepth 10000 in
set_option maxHeartbeats 2000000 in
theorem window_TrimG (r:RuleD) (hw:r.Wd) (v w:Value) (hta:TabAt h0 r.table v w) (t:TopoD) (hwt:t.Wd) (hok:WOk r t) (W:Int) (rv:Value) (ls:List ByteArray) (hbt:BtsAt h0 rv ls) (hln:ls.length≤1048576) (hsz:∀ i,i<ls.length→(ls.getD i ByteArray.empty).size≤4611686018427387904) (at0:Int):FT Pg 24 [.agg (ruleC r v w).toArray,.agg (topoC t).toArray,.agg #[.int .i64 W,.int .i64 at0,rv]] k h0 [] (Ret fun u τ=>∃ v,u=.tuple #[.agg #[.int .i64 (trimR r t W at0 ls).1,.int .i64 (trimR r t W at0 ls).2.1,v],.int .i64 (trimR r t W at0 ls).2.2.2]∧τ=[rowsP v (trimR r t W at0 ls).2.2.1]∧((trimR r t W at0 ls).2.2.1.length=0→v=.slice none 0 0)):=by
  have hto:=hok.2.1
  unfold TopoD.Ok at hto
  refine FT.tight<|FT.of_wp (n:=20) Tryz.func24 rfl rfl rfl<|WP.regs<|L.box rfl rfl fun b1=>L.box rfl rfl fun b2=>L.box rfl rfl fun b3=>L.alloc T63.z fun b4=>L.assign rfl<|WL.nil<|WP.seq<|WP.regs<|L.loadN T32.ag rfl rfl (Rds.all 3 rfl)<|L.loadN T34.ag rfl rfl (Rds.all 2 rfl)<|L.loadN T63.ag rfl rfl (Rds.all 1 rfl)<|WL.callV rfl rfl F63.fn rfl (fun g gS dj=>window_mayG r hw v w (hta.mono (Hp.le_un_left _ _)) t hwt hok W rv ls (hbt.mono (Hp.le_un_left _ _)) hln hsz at0)<|L.assign rfl<|WL.nil<|WP.regs<|L.move rfl<|L.neq rfl rfl ?_;refine WL.nil<|WP.condD rfl (fun h14=>?_) (fun h14=>?_)
  refine WP.regs<|L.build (cs:=[_,_,_]) T63.b T63.z rfl rfl<|L.move rfl<|L.storeN T63.ag rfl rfl rfl (Wrs.all 0 rfl rfl (by simp[Value.oneCell']))<|L.assign rfl<|WL.nil<|WP.ret<|X.thenR<|X.ret rfl (ResCellTmp rfl rfl T63.ag rfl (Rds.all 0 rfl) rfl) ?_
  rw[trimR_e h14]
  exact⟨_,rfl,_,⟨_,rfl,rfl,fun _=>rfl⟩,((Ent.pk [] rfl)).trans Ent.rowsP0⟩
  have hm0:mayE r t W at0 ls=0:=Decidable.not_not.1 h14
  obtain⟨rfl,hro,hat⟩:=mayE_0 hm0
  have hat1:0<ls.length→-1099511627776≤at0∧at0+(ls.length:Int)-1≤1099511627776:=hat
  have htl:=trimB_len at0 ls
  refine WP.skip<|X.thenN<|WP.regs<|L.loadN T63.ag rfl rfl (Rds.all 1 rfl)<|WL.callV rfl rfl F65.fn rfl (fun g gS dj=>window_trimmedU t.w at0 rv ls (hbt.mono (Hp.le_un_left _ _)) hln hsz hat1) ?_
  have hwn:t.w=((t.w.toNat:Nat):Int):=by omega
  rw[hwn]
  refine WL.call rfl rfl F64.fn rfl (FT.make fun g gS dj=>window_copiedU t.w.toNat (trimB at0 ls).1 (trimV rv ls) (trimB at0 ls).2 ((hbt.mono (Hp.le_un_left h0 g)).trim at0) (trimB_nil rv) (by omega) (by omega) (fun i hi=>by obtain⟨j,hj,e,_⟩:=trimB_row hi;rw[e];have:=(hro j hj).1;omega)) ?_;rintro _ _ ⟨_,⟨cv,rfl,rfl,hcn⟩,rfl⟩
  rw[← hwn]
  refine WL.fact (fun _ _ _ s=>St.rowsP_shape 0 rfl s) ?_;rintro ⟨ca,cc,rfl⟩;refine L.storeN T63.ag rfl rfl rfl (Wrs.all 1 rfl rfl (by simp[Value.oneCell']))<|L.assign rfl<|WL.nil<|WP.ret<|X.ret rfl (ResCellTmp rfl rfl T63.ag rfl (Rds.all 1 rfl) rfl) ?_
  rw[trimR_0 hm0]
  exact⟨_,rfl,_,⟨_,rfl,rfl,hcn⟩,(Ent.pk [0] rfl)⟩
end
open Go.RowKit Go.Proofs
section
variable {k:World} {h0:Hp}
set_option maxRecDepth 10000 in
theorem whole_MulN (a b:Nat) (h:a*b≤4611686018427387904):FT Pg 118 [.int .i64 (a:Int),.int .i64 (b:Int)] k h0 [] (Is (.tuple #[.int .i64 ((a*b:Nat):Int),.bool true])):=by
  refine FT.of_wp (n:=29) Tryz.func118 rfl rfl rfl<|WP.regs<|L.assign rfl<|L.assign rfl<|WL.nil<|WP.seq<|WP.regs<|L.move rfl<|L.eqlD rfl rfl (fun h8=>?_) (fun h8=>?_);refine L.move rfl<|L.skip<|L.skip<|L.pickT rfl rfl<|WL.nil<|WP.condT rfl<|WP.regs<|L.assign rfl<|L.assign rfl<|WL.nil<|WP.ret<|X.thenR<|X.ret rfl (Res.two rfl rfl rfl) ?_
  show _=_
  rw[show a*b=0 by rw[show a=0 by omega,Nat.zero_mul]]
  rfl
  refine L.move rfl<|L.move rfl<|L.eql rfl rfl<|L.pickF rfl rfl<|WL.nil<|WP.condD rfl (fun h12=>?_) (fun h12=>?_);refine WP.regs<|L.assign rfl<|L.assign rfl<|WL.nil<|WP.ret<|X.thenR<|X.ret rfl (Res.two rfl rfl rfl) ?_
  show _=_
  rw[show a*b=0 by rw[show b=0 by omega,Nat.mul_zero]]
  rfl
  refine WP.skip<|X.thenN<|WP.regs<|L.move rfl<|L.move rfl<|L.mul' rfl rfl (by rw[show ((a:Int)*(b:Int))=((a*b:Nat):Int) from (Int.natCast_mul a b).symm];omega) ?_;refine L.assign rfl<|WL.nil<|WP.seq<|WP.regs ?_
  rw[show ((a:Int)*(b:Int))=((a*b:Nat):Int) from (Int.natCast_mul a b).symm]
  refine L.move rfl<|L.move rfl<|L.quo' rfl rfl (by omega)<|L.move rfl<|L.neqD rfl rfl (fun hT=>absurd hT (fun h=>h (by rw[Int.natCast_mul];exact Int.mul_ediv_cancel _ (by omega)))) (fun h20=>?_);refine L.move rfl<|L.move rfl<|L.move rfl<|L.quo' rfl rfl (by omega)<|L.move rfl<|L.neq rfl rfl<|L.pickF rfl rfl<|WL.nil<|WP.condD rfl (fun hT=>absurd hT (fun h=>h (by rw[Int.natCast_mul];exact Int.mul_ediv_cancel_left _ (by omega)))) (fun h27=>?_);refine WP.skip<|X.thenN<|WP.regs<|L.move rfl<|L.assign rfl<|L.assign rfl<|WL.nil<|WP.ret<|X.ret rfl (Res.two rfl rfl rfl) ?_;exact rfl
set_option maxRecDepth 10000 in
theorem window_cheap (w rows n:Nat) (hw:w≤65536) (hrn:rows≤1048576∧n≤1048576) (h1:w*(rows+2*n)≤1048576) (h2:w*(rows+2*n)*n≤67108864):FT Pg 67 [.int .i64 (w:Int),.int .i64 (rows:Int),.int .i64 (n:Int)] k h0 [] (Is (.bool true)):=by
  refine FT.of_wp (n:=36) Tryz.func67 rfl rfl rfl<|WP.regs<|L.assign rfl<|WL.nil<|WP.regs<|L.move rfl<|L.move rfl<|L.move rfl<|L.mul' rfl rfl (by omega)<|L.add' rfl rfl (by omega) ?_
  rw[show (rows:Int)+2*(n:Int)=((rows+2*n:Nat):Int) by omega]
  refine WL.callV rfl rfl F118.fn rfl (fun g gS dj=>whole_MulN w (rows+2*n) (by omega))<|L.move rfl<|L.extract rfl rfl<|L.extract rfl rfl<|L.assign rfl<|L.assign rfl<|WL.nil<|WP.seq<|WP.regs<|L.move rfl<|L.not rfl<|L.move rfl<|L.move rfl<|L.gtr rfl rfl<|L.pickF rfl rfl<|WL.nil<|WP.condD rfl (fun hT=>absurd hT (by omega)) (fun h24=>?_)
  refine WP.skip<|X.thenN<|WP.regs<|L.move rfl<|L.move rfl<|WL.callV rfl rfl F118.fn rfl (fun g gS dj=>whole_MulN (w*(rows+2*n)) n (by omega))<|L.move rfl<|L.extract rfl rfl<|L.extract rfl rfl<|L.assign rfl<|L.assign rfl<|WL.nil<|WP.regs<|L.move rfl<|L.move rfl<|L.move rfl<|L.leq rfl rfl<|L.pickT rfl rfl<|L.assign rfl<|WL.nil<|WP.ret<|X.ret rfl (Res.one rfl rfl) ?_
  show _=_
  rw[decide_eq_true (by omega)]
set_option maxRecDepth 10000 in
theorem window_laterAt (b3 b6:Nat) (W at0:Int) (rv nv:Value) (n:Nat) (vs:List Value) (hs:SlAt h0 1 rv n (fun i=>vs.getD i undef)) (hb:At h0 b3 [.int .i64 W,.int .i64 at0,rv] 63) (hn:At h0 b6 [nv] 60) (i:Int):FT Pg 119 [.int .i64 i,.pointer (some ⟨b3,0,none⟩),.pointer (some ⟨b6,0,none⟩)] k h0 [] (Is (rvZ vs nv n i)):=by
  obtain⟨ra,rcap,rfl,hrcap,hrn,hrs⟩:=hs
  refine FT.of_wp (n:=20) Tryz.func119 rfl rfl rfl<|WP.regs<|L.assign rfl<|WL.nil<|WP.seq<|WP.regs<|L.move rfl<|L.lssD rfl rfl (fun h6=>?_) (fun h6=>?_);refine L.move rfl ?_
  iterate 5 refine L.skip ?_
  refine L.pickT rfl rfl<|WL.nil<|WP.condT rfl<|WP.regs<|L.load T60.sc rfl (Rd.of hn rfl)<|L.assign rfl<|WL.nil<|WP.ret<|X.thenR<|X.ret rfl (Res.one rfl rfl) ?_;rotate_left;refine L.move rfl<|L.move rfl<|L.fieldAddr (o':=2) T63.f2 rfl rfl<|L.load T61.sc rfl (Rd.of hb rfl)<|L.lenS T61.sl rfl rfl<|L.geqD rfl rfl (fun h12=>?_) (fun h12=>?_);refine L.pickF rfl rfl<|WL.nil<|WP.condT rfl<|WP.regs<|L.load T60.sc rfl (Rd.of hn rfl)<|L.assign rfl<|WL.nil<|WP.ret<|X.thenR<|X.ret rfl (Res.one rfl rfl) ?_;rotate_left;refine L.pickF rfl rfl<|WL.nil<|WP.condF rfl<|WP.skip<|X.thenN<|WP.regs<|L.fieldAddr (o':=2) T63.f2 rfl rfl<|L.load T61.sc rfl (Rd.of hb rfl) ?_
  obtain⟨rb,ro,rfl,hrc⟩:=hrs (by omega)
  obtain⟨q,rfl⟩:∃ q:Nat,i=(q:Int):=⟨i.toNat,by omega⟩
  refine L.move rfl<|L.indexS T61.sl rfl rfl (by omega)<|L.load T60.sc rfl (v:=vs.getD q undef) (Rd.ro (by have:=hrc q (by omega);refine Eq.trans (congrArg _ ?_) this;omega)) ?_;refine L.assign rfl<|WL.nil<|WP.ret<|X.ret rfl (Res.one rfl rfl) ?_
  show _=_
  unfold rvZ
  rw[if_pos (by omega)]
  rfl
  all_goals
   show _=_
   unfold rvZ
   rw[if_neg (by omega)]
end
open Go.RowKit Go.Proofs
section
variable {k:World} {h0:Hp}
set_option maxRecDepth 10000 in
set_option maxHeartbeats 4000000 in
theorem window_later (r:RuleD) (hw:r.Wd) (v w:Value) (hta:TabAt h0 r.table v w) (t:TopoD) (hwt:t.Wd) (hwo:WOk r t) (at0:Int) (rv:Value) (ls:List ByteArray) (hbt:BtsAt h0 rv ls) (hnil:ls.length=0→rv=.slice none 0 0) (hro:∀ i,i<ls.length→RowOk2 r t (ls.getD i ByteArray.empty)) (hln:ls.length+2≤1048576) (hat:0<ls.length→-1099511627776≤at0-1∧at0+(ls.length:Int)≤1099511627776):FT Pg 68 [.agg (ruleC r v w).toArray,.agg (topoC t).toArray,.agg #[.int .i64 t.w,.int .i64 at0,rv]] k h0 [] (Ret fun u τ=>∃ v,u=.agg #[.int .i64 t.w,.int .i64 (laterB r t (at0,ls)).1,v]∧τ=[rowsP v (laterB r t (at0,ls)).2]∧((laterB r t (at0,ls)).2.length=0→v=.slice none 0 0)):=by
  have hto:=hwo.2.1
  unfold TopoD.Ok at hto
  have hwn:t.w=((t.w.toNat:Nat):Int):=by omega
  obtain⟨vs,hvs,hall⟩:=hbt
  obtain⟨ra,rcap,rfl⟩:=hvs.shape
  refine FT.tight<|FT.of_wp (n:=56) Tryz.func68 rfl rfl rfl<|WP.regs<|L.box rfl rfl fun b1=>L.box rfl rfl fun b2=>L.box rfl rfl fun b3=>L.alloc T63.z fun b4=>WL.nil<|WP.seq<|WP.regs<|L.fieldAddr (o':=2) T63.f2 rfl rfl<|L.load T61.sc rfl (Rd.own 1 rfl rfl)<|L.lenS T61.sl rfl rfl<|L.eql rfl rfl<|WL.nil<|WP.condD rfl (fun h14=>?_) (fun h14=>?_);refine WP.regs<|L.loadN T63.ag rfl rfl (Rds.all 1 rfl)<|L.storeN T63.ag rfl rfl rfl (Wrs.all 0 rfl rfl (by simp[Value.oneCell']))<|WL.nil<|WP.ret<|X.thenR<|X.ret rfl (ResCell1 rfl rfl T63.ag rfl (Rds.all 0 rfl)) ?_
  have e9:=hnil (by omega)
  rw[laterB_nil (by omega)]
  obtain rfl:ls=[]:=List.length_eq_zero_iff.1 (by omega)
  exact⟨_,rfl,_,⟨_,rfl,by rw[e9],fun _=>e9⟩,((Ent.pk [] rfl)).trans Ent.rowsP0⟩
  refine WP.skip<|X.thenN<|WP.regs<|L.fieldAddr (o':=0) T63.f0 rfl rfl<|L.load T3.sc rfl (Rd.own 1 rfl rfl)<|L.make T60.sl T5.z rfl rfl (by omega) fun b5=>L.alloc T60.z fun b6=>L.store T60.sc rfl rfl rfl (Wr.at 0 rfl rfl)<|WL.nil<|WP.regs<|L.mkFunc (vs:=[_,_]) rfl<|L.assign rfl<|WL.nil<|WP.regs<|L.fieldAddr (o':=0) T63.f0 rfl rfl<|L.load T3.sc rfl (Rd.own 3 rfl rfl)<|L.fieldAddr (o':=1) T63.f1 rfl rfl<|L.load T3.sc rfl (Rd.own 3 rfl rfl)<|L.sub' rfl rfl (by omega)<|L.build (cs:=[_,_,_]) T63.b T63.z rfl rfl<|L.alloc T63.z ?_;intro b7;refine L.storeN T63.ag rfl rfl rfl (Wrs.all 0 rfl rfl (by simp[Value.oneCell']))<|WL.nil<|WP.seq<|WP.regs<|L.assign rfl<|WL.nil<|WP.block<|WP.loop (X:=(Value × List Value) × Nat) (fun x=>⟨56,[],[(3,.pointer (some ⟨b1,0,none⟩)),(4,.pointer (some ⟨b2,0,none⟩)),(5,.pointer (some ⟨b3,0,none⟩)),(6,.pointer (some ⟨b4,0,none⟩)),(8,.func (.func 119) #[] #[.pointer (some ⟨b3,0,none⟩),.pointer (some ⟨b6,0,none⟩)]),(9,.pointer (some ⟨b7,0,none⟩)),(10,.int .i64 ((x.2:Int)-1))]⟩) (fun x=>[vec 60 1 x.1.1 x.2 x.1.2,rowsO x.1.2 (nextL r t ls x.2),cl b7 [.int .i64 t.w,.int .i64 (at0-1),x.1.1] 63,cl b6 [(.slice (some ⟨b5,0,none⟩) t.w.toNat t.w.toNat)] 60,cl b5 (u8sC (zeros t.w.toNat)) 5,cl b4 [.int .i64 0,.int .i64 0,.slice none 0 0] 63,cl b3 [.int .i64 t.w,.int .i64 at0,.slice ra ls.length rcap] 63,cl b2 (topoC t) 34,cl b1 (ruleC r v w) 32]) (fun x=>x.1.2.length=x.2∧x.2≤ls.length+2) (fun x=>ls.length+2-x.2) ((.slice none 0 0,[]),0) (⟨rfl,Nat.zero_le _⟩) (Env.Sub.cons rfl rfl (Env.Sub.cons rfl rfl (Env.Sub.cons rfl rfl (Env.Sub.cons rfl rfl (Env.Sub.cons rfl rfl (Env.Sub.cons rfl rfl (Env.Sub.cons rfl rfl Env.Sub.nil))))))) (((Ent.refl _)).trans ((Ent.of_eq (by rw[u8sC_zeros];rfl)).trans (Ent.nilrows.trans ((Ent.nilvec (E:=60) (sz:=1)).trans (Ent.of_eq rfl))))) ?_
  rintro ⟨⟨v5,vs5⟩,i⟩ ⟨hvl,hi⟩
  dsimp only at hvl hi ⊢
  refine WP.seq<|WP.regs<|L.move rfl<|L.fieldAddr (o':=2) T63.f2 rfl rfl<|L.load T61.sc rfl (Rd.own 6 rfl rfl)<|L.lenS T61.sl rfl rfl<|L.leq rfl rfl<|WL.nil<|WP.condD rfl (fun h30=>?_) (fun h30=>?_)
  refine WP.skip<|X.thenN<|WP.seq<|WP.block<|WP.rege [(0,true),(1,true),(2,true),(3,true),(4,true),(5,true),(6,true),(8,true),(9,true),(11,true),(12,true),(13,true),(7,false),(10,false),(14,false),(15,true),(16,false),(17,false),(18,false),(19,false),(20,false)] 18 rfl (by kernel_rfl) (PInv.block (PInv.then (PInv.then (PInv.block (PInv.then PInv.ret))))) rfl<|WE.take rfl (V.fieldAddr (o':=2) T63.f2 rfl rfl)<|WE.take rfl (V.load T61.sc rfl (Rd.own 2 rfl rfl))<|WE.take rfl (V.loadN T32.ag rfl rfl (Rds.all 8 rfl))<|WE.take rfl (V.loadN T34.ag rfl rfl (Rds.all 7 rfl)) ?_;refine WE.take rfl (V.move rfl)<|WE.take rfl (V.move rfl)<|WE.take rfl (V.sub' rfl rfl (by omega))<|WE.take rfl (V.move rfl)<|WE.take rfl (V.move rfl)<|WE.take rfl (V.move rfl)<|WE.take rfl (V.move rfl)<|WE.take rfl (V.add' rfl rfl (by omega))<|WE.one rfl<|WL.callF (first:=[]) (cap:=[.pointer (some ⟨b3,0,none⟩),.pointer (some ⟨b6,0,none⟩)]) rfl rfl rfl F119.fn rfl (FT.pureR (R:=fun u=>u=(rvZ vs (.slice (some ⟨b5,0,none⟩) t.w.toNat t.w.toNat) ls.length ((i:Int)-1-1))) fun g gS dj=>FT.rv (window_laterAt b3 b6 t.w at0 _ (.slice (some ⟨b5,0,none⟩) t.w.toNat t.w.toNat) ls.length vs (hvs.mono (Hp.le_un_left _ _)) (Stars.cl' 6 rfl gS dj) (Stars.cl' 3 rfl gS dj) ((i:Int)-1-1)) rfl) ?_;rintro _ _ ⟨rfl,rfl⟩
  obtain⟨a0,c0,e0⟩:=rvZ_shape (t:=t) (a:=some ⟨b5,0,none⟩) (c:=t.w.toNat) hall ((i:Int)-1-1)
  rw[e0]
  refine WL.nil ⟨Ent.refl _,?_⟩;refine WE.one rfl<|WL.callF (first:=[]) (cap:=[.pointer (some ⟨b3,0,none⟩),.pointer (some ⟨b6,0,none⟩)]) rfl rfl rfl F119.fn rfl (FT.pureR (R:=fun u=>u=(rvZ vs (.slice (some ⟨b5,0,none⟩) t.w.toNat t.w.toNat) ls.length ((i:Int)-1))) fun g gS dj=>FT.rv (window_laterAt b3 b6 t.w at0 _ (.slice (some ⟨b5,0,none⟩) t.w.toNat t.w.toNat) ls.length vs (hvs.mono (Hp.le_un_left _ _)) (Stars.cl' 6 rfl gS dj) (Stars.cl' 3 rfl gS dj) ((i:Int)-1)) rfl) ?_;rintro _ _ ⟨rfl,rfl⟩
  obtain⟨a1,c1,e1⟩:=rvZ_shape (t:=t) (a:=some ⟨b5,0,none⟩) (c:=t.w.toNat) hall ((i:Int)-1)
  rw[e1]
  refine WL.nil ⟨Ent.refl _,?_⟩;refine WE.one rfl ?_
  rw[show (i:Int)-1+1=(i:Int) by omega]
  refine WL.callF (first:=[]) (cap:=[.pointer (some ⟨b3,0,none⟩),.pointer (some ⟨b6,0,none⟩)]) rfl rfl rfl F119.fn rfl (FT.pureR (R:=fun u=>u=(rvZ vs (.slice (some ⟨b5,0,none⟩) t.w.toNat t.w.toNat) ls.length ((i:Int)))) fun g gS dj=>FT.rv (window_laterAt b3 b6 t.w at0 _ (.slice (some ⟨b5,0,none⟩) t.w.toNat t.w.toNat) ls.length vs (hvs.mono (Hp.le_un_left _ _)) (Stars.cl' 6 rfl gS dj) (Stars.cl' 3 rfl gS dj) ((i:Int))) rfl) ?_;rintro _ _ ⟨rfl,rfl⟩
  obtain⟨a2,c2,e2⟩:=rvZ_shape (t:=t) (a:=some ⟨b5,0,none⟩) (c:=t.w.toNat) hall ((i:Int))
  rw[e2]
  refine WL.nil ⟨Ent.refl _,?_⟩
  refine WE.take rfl (V.buildA (cs:=[_,_,_]) T115.ar T115.z rfl rfl)<|WE.one rfl<|WL.call rfl rfl F62.fn rfl (FT.make fun g gS dj=>window_line r hw v w (hta.mono (Hp.le_un_left _ _)) t t.w.toNat (by omega) (by omega) hwo.1 _ _ _ (intsB (rowZ t ls ((i:Int)-1-1))) (intsB (rowZ t ls ((i:Int)-1))) (intsB (rowZ t ls ((i:Int)))) (e0▸rvZ_at (fun i hi=>(hall i hi).mono (Hp.le_un_left _ _)) (BytesAt.of_at (by rw[intsB_zrowT];exact Stars.cl' 4 rfl gS dj) (by rw[intsB_zrowT,zeros_len]) (Nat.le_refl _)) _) (e1▸rvZ_at (fun i hi=>(hall i hi).mono (Hp.le_un_left _ _)) (BytesAt.of_at (by rw[intsB_zrowT];exact Stars.cl' 4 rfl gS dj) (by rw[intsB_zrowT,zeros_len]) (Nat.le_refl _)) _) (e2▸rvZ_at (fun i hi=>(hall i hi).mono (Hp.le_un_left _ _)) (BytesAt.of_at (by rw[intsB_zrowT];exact Stars.cl' 4 rfl gS dj) (by rw[intsB_zrowT,zeros_len]) (Nat.le_refl _)) _) (rows3T (by omega) (rowZ_ok hwo hro ((i:Int)-1-1)) (rowZ_ok hwo hro ((i:Int)-1)) (rowZ_ok hwo hro ((i:Int))))) ?_;rintro _u _ ⟨_,rfl,rfl⟩
  refine WL.nil ⟨(Ent.left [_] _),?_⟩;refine WE.one rfl<|WL.fact (fun _ _ _ s=>s.vec_shape 0 rfl) ?_;rintro ⟨_,la,lcap,rfl,hlcap,hla⟩;refine L.slice1 T61.sl T60.z rfl rfl rfl rfl rfl rfl fun c50=>WL.nil ⟨(Ent.left [_,_] _),?_⟩;refine WE.last rfl<|L.append (i:=2) (news:=[.slice la t.w.toNat lcap]) T61.sl T60.z rfl rfl rfl rfl rfl rfl (fun _ _ _ e=>by cases e;exact⟨rfl,Rds.all 0 rfl⟩) (fun e=>by cases e) (by simp[Value.oneCell']) (by omega) ?_;intro u5
  refine WL.fact (φ:=u5.oneCell'=true) (fun _ _ _ s=>s.vec_one 0 rfl) fun hv1=>WL.nil<|WE.more rfl<|L.fieldAddr (o':=2) T63.f2 rfl rfl<|WL.nil<|WE.more rfl<|L.store T61.sc rfl rfl hv1 (Wr.at 4 rfl rfl)<|WL.nil<|WE.nil<|X.blockN<|X.thenN<|WP.region<|L.move rfl<|L.add' rfl rfl (by omega) ?_
  rw[show (i:Int)-1+1=((i+1:Nat):Int)-1 by omega]
  refine L.assign rfl<|WL.nil<|X.thenN ⟨((u5,vs5++[.slice la t.w.toNat lcap]),i+1),⟨by simp[hvl],by dsimp only;omega⟩,by dsimp only;omega,(Env.Sub.cons rfl rfl (Env.Sub.cons rfl rfl (Env.Sub.cons rfl rfl (Env.Sub.cons rfl rfl (Env.Sub.cons rfl rfl (Env.Sub.cons rfl rfl (Env.Sub.cons rfl rfl Env.Sub.nil))))))),((Ent.pk [2,2,0,1,1,1,1,1,1,1] rfl)).trans ((Ent.of_eq (by rw[← (lineR_T hw hwo (rowZ_ok hwo hro ((i:Int)-1-1)) (rowZ_ok hwo hro ((i:Int)-1)) (rowZ_ok hwo hro ((i:Int)))).1])).trans ((Ent.rowsO (by rw[(lineR_T hw hwo (rowZ_ok hwo hro ((i:Int)-1-1)) (rowZ_ok hwo hro ((i:Int)-1)) (rowZ_ok hwo hro ((i:Int)))).1];unfold lineD;rw[List.length_map,List.length_range])).trans ((Ent.pk [1,0,0,0,0,0,0,0,0] rfl).trans (Ent.of_eq (by dsimp only;rw[nextL_succ,show (i:Int)-1-1=(i:Int)-2 by omega];rfl)))))⟩
  obtain rfl:i=ls.length+2:=by omega
  refine WP.exit<|X.thenE (X.thenE (X.blockE ?_));refine X.thenN<|WP.regs<|L.loadN T63.ag rfl rfl (Rds.all 2 rfl)<|WL.ent (Ent.rowsP hvl) ?_
  have hnl:=nextL_len r t ls (ls.length+2)
  have hno:=nextL_ok hw hwo hro (ls.length+2)
  have hbl:=trimB_len (at0-1) (nextL r t ls (ls.length+2))
  have hat:=hat (by omega)
  refine WL.callV rfl rfl F65.fn rfl (fun g gS dj=>window_trimmedU t.w (at0-1) v5 (nextL r t ls (ls.length+2)) (In.rowsP (In.of_stars' 0 rfl gS dj)) (by omega) (fun i hi=>by have:=(hno i hi).1;omega) (fun _=>by omega)) ?_
  rw[hwn]
  refine WL.call rfl rfl F64.fn rfl (FT.make fun g gS dj=>window_copiedU t.w.toNat (trimB (at0-1) (nextL r t ls (ls.length+2))).1 (trimV v5 (nextL r t ls (ls.length+2))) (trimB (at0-1) (nextL r t ls (ls.length+2))).2 ((In.rowsP (In.of_stars' 0 rfl gS dj)).trim (at0-1)) (trimB_nil v5) (by omega) (by omega) (fun i hi=>by obtain⟨j,hj,e,_⟩:=trimB_row hi;rw[e];have:=(hno j hj).1;omega)) ?_;rintro _ _ ⟨_,⟨cv,rfl,rfl,hcn⟩,rfl⟩
  rw[← hwn]
  refine WL.fact (fun _ _ _ s=>St.rowsP_shape 0 rfl s) ?_;rintro ⟨ca,cc,rfl⟩;refine L.storeN T63.ag rfl rfl rfl (Wrs.all 5 rfl rfl (by simp[Value.oneCell']))<|WL.nil<|WP.ret<|X.ret rfl (ResCell1 rfl rfl T63.ag rfl (Rds.all 5 rfl)) ?_
  rw[laterB_pos (by omega)]
  exact⟨_,rfl,_,⟨_,rfl,rfl,hcn⟩,(Ent.pk [0] rfl)⟩
end
open Go.RowKit Go.Proofs
section
variable {k:World} {h0:Hp}
set_option maxRecDepth 10000 in
set_option maxHeartbeats 4000000 in
theorem window_RunG (r:RuleD) (hw:r.Wd) (v w:Value) (hta:TabAt h0 r.table v w) (t:TopoD) (hwt:t.Wd) (hok:WOk r t) (W:Int) (rv:Value) (ls:List ByteArray) (hbt:BtsAt h0 rv ls) (hln:ls.length≤65536) (hsz:∀ i,i<ls.length→(ls.getD i ByteArray.empty).size≤4611686018427387904) (at0:Int) (n:Nat) (hn:n≤65536) (hcheap:t.w.toNat*(ls.length+2*n)≤1048576∧t.w.toNat*(ls.length+2*n)*n≤67108864):FT Pg 22 [.agg (ruleC r v w).toArray,.agg (topoC t).toArray,.agg #[.int .i64 W,.int .i64 at0,rv],.int .i64 (n:Int)] k h0 [] (Ret fun u τ=>∃ v,u=.tuple #[.agg #[.int .i64 (winR r t W at0 ls n).1,.int .i64 (winR r t W at0 ls n).2.1,v],.int .i64 (winR r t W at0 ls n).2.2.2]∧τ=[rowsP v (winR r t W at0 ls n).2.2.1]∧((winR r t W at0 ls n).2.2.1.length=0→v=.slice none 0 0)):=by
  have hto:=hok.2.1
  unfold TopoD.Ok at hto
  have hwn:t.w=((t.w.toNat:Nat):Int):=by omega
  refine FT.tight<|FT.of_wp (n:=74) Tryz.func22 rfl rfl rfl<|WP.regs<|L.box rfl rfl fun b1=>L.box rfl rfl fun b2=>L.box rfl rfl fun b3=>L.alloc T63.z fun b4=>L.assign rfl<|WL.nil<|WP.seq<|WP.regs<|L.loadN T32.ag rfl rfl (Rds.all 3 rfl)<|L.loadN T34.ag rfl rfl (Rds.all 2 rfl)<|L.loadN T63.ag rfl rfl (Rds.all 1 rfl)<|WL.callV rfl rfl F63.fn rfl (fun g gS dj=>window_mayG r hw v w (hta.mono (Hp.le_un_left _ _)) t hwt hok W rv ls (hbt.mono (Hp.le_un_left _ _)) (by omega) hsz at0)<|L.assign rfl<|WL.nil<|WP.regs<|L.move rfl ?_;refine L.neq rfl rfl<|WL.nil<|WP.condD rfl (fun h18=>?_) (fun h18=>?_)
  ·
   refine WP.regs<|L.build (cs:=[_,_,_]) T63.b T63.z rfl rfl<|L.move rfl<|L.storeN T63.ag rfl rfl rfl (Wrs.all 0 rfl rfl (by simp[Value.oneCell']))<|L.assign rfl<|WL.nil<|WP.ret<|X.thenR<|X.ret rfl (ResCellTmp rfl rfl T63.ag rfl (Rds.all 0 rfl) rfl) ?_
   rw[winR_e h18]
   exact⟨_,rfl,_,⟨_,rfl,rfl,fun _=>rfl⟩,((Ent.pk [] rfl)).trans Ent.rowsP0⟩
  ·
   have hm0:mayE r t W at0 ls=0:=Decidable.not_not.1 h18
   obtain⟨rfl,hro,hat⟩:=mayE_0 hm0
   have hat1:0<ls.length→-1099511627776≤at0∧at0+(ls.length:Int)-1≤1099511627776:=hat
   have htl:=trimB_len at0 ls
   have hta1:=trimB_at (at0:=at0) (ls:=ls)
   have hta0:=trimB_at0 (at0:=at0) (ls:=ls)
   have hxo:=trimB_ok at0 hro
   have hxb:-1099511627777≤(trimB at0 ls).1∧(trimB at0 ls).1+((trimB at0 ls).2.length:Int)≤1099511627777:=(Nat.eq_zero_or_pos (trimB at0 ls).2.length).elim (fun h9=>by have h8:=hta0 h9;omega) (fun h9=>by have h8:=hta1 h9;omega)
   refine WP.skip<|X.thenN<|WP.regs<|L.loadN T63.ag rfl rfl (Rds.all 1 rfl)<|WL.callV rfl rfl F65.fn rfl (fun g gS dj=>window_trimmedU t.w at0 rv ls (hbt.mono (Hp.le_un_left _ _)) (by omega) hsz hat1) ?_
   rw[hwn]
   refine WL.call rfl rfl F64.fn rfl (FT.make fun g gS dj=>window_copiedU t.w.toNat (trimB at0 ls).1 (trimV rv ls) (trimB at0 ls).2 ((hbt.mono (Hp.le_un_left h0 g)).trim at0) (trimB_nil rv) (by omega) (by omega) (fun i hi=>by have:=(hxo i hi).1;omega)) ?_;rintro _ _ ⟨_,⟨cv,rfl,rfl,hcn⟩,rfl⟩
   rw[← hwn]
   refine WL.fact (fun _ _ _ s=>St.rowsP_shape 0 rfl s) ?_;rintro ⟨ca,cc,rfl⟩
   refine L.alloc T63.z fun b5=>L.storeN T63.ag rfl rfl rfl (Wrs.all 0 rfl rfl (by simp[Value.oneCell']))<|WL.nil<|WP.cut (X:=Unit) (fun x=>⟨74,[],[(3,.int .i64 (n:Int)),(4,.pointer (some ⟨b1,0,none⟩)),(5,.pointer (some ⟨b2,0,none⟩)),(6,.pointer (some ⟨b3,0,none⟩)),(8,.pointer (some ⟨b4,0,none⟩)),(11,.pointer (some ⟨b5,0,none⟩))]⟩) (fun x=>[rowsP (.slice ca (trimB at0 ls).2.length cc) (trimB at0 ls).2,cl b5 [.int .i64 t.w,.int .i64 (trimB at0 ls).1,.slice ca (trimB at0 ls).2.length cc] 63,cl b4 [.int .i64 0,.int .i64 0,.slice none 0 0] 63,cl b3 [.int .i64 t.w,.int .i64 at0,rv] 63,cl b2 (topoC t) 34,cl b1 (ruleC r v w) 32]) (fun x=>(trimB at0 ls).2.length=0∨(farY ((trimB at0 ls).1-(n:Int))=false∧farY ((trimB at0 ls).1+((trimB at0 ls).2.length:Int)-1+(n:Int))=false)) ?_ ?_
   ·
    refine WP.regs<|L.fieldAddr (o':=1) T63.f1 rfl rfl<|L.load T3.sc rfl (Rd.own 0 rfl rfl)<|L.fieldAddr (o':=2) T63.f2 rfl rfl<|L.load T61.sc rfl (Rd.own 0 rfl rfl)<|L.lenS T61.sl rfl rfl<|L.add' rfl rfl (by omega)<|L.sub' rfl rfl (by omega)<|L.assign rfl<|WL.nil<|WP.block<|WP.regs<|L.move rfl<|L.lss rfl rfl<|L.assign rfl<|WL.nil<|WP.condD rfl (fun hT=>absurd hT (by omega)) (fun h31=>?_);refine WP.seq<|WP.regs<|L.move rfl<|L.gtr rfl rfl<|L.assign rfl<|WL.nil<|WP.condD rfl (fun hT=>absurd hT (by omega)) (fun h35=>?_);refine WP.region<|L.fieldAddr (o':=2) T63.f2 rfl rfl<|L.load T61.sc rfl (Rd.own 0 rfl rfl)<|L.lenS T61.sl rfl rfl<|L.gtrD rfl rfl (fun h41=>?_) (fun h41=>?_)
    ·
     refine L.move rfl<|L.fieldAddr (o':=1) T63.f1 rfl rfl<|L.load T3.sc rfl (Rd.own 0 rfl rfl)<|L.move rfl<|L.sub' rfl rfl (by omega)<|WL.callV rfl rfl F66.fn rfl (fun g gS dj=>window_farG _) ?_
     rcases hf1:farY ((trimB at0 ls).1-(n:Int)) with _ | _
     rotate_left
     ·
      refine L.move rfl<|L.skip<|L.skip<|L.skip<|L.skip<|L.pickT rfl rfl<|L.pickT rfl rfl<|L.assign rfl<|WL.nil<|X.thenN<|WP.condT rfl<|WP.regs<|L.build (cs:=[_,_,_]) T63.b T63.z rfl rfl<|L.storeN T63.ag rfl rfl rfl (Wrs.all 2 rfl rfl (by simp[Value.oneCell']))<|L.assign rfl<|WL.nil<|WP.ret<|X.blockR (X.thenR ?_);refine X.ret rfl (ResCellTmp rfl rfl T63.ag rfl (Rds.all 2 rfl) rfl) ?_
      rw[winR_5 hm0 (by omega) (.inl hf1)]
      exact⟨_,rfl,_,⟨_,rfl,rfl,fun _=>rfl⟩,((Ent.pk [] rfl)).trans Ent.rowsP0⟩
     ·
      refine L.move rfl<|L.move rfl<|L.move rfl<|L.add' rfl rfl (by omega)<|WL.callV rfl rfl F66.fn rfl (fun g gS dj=>window_farG _) ?_
      rcases hf2:farY ((trimB at0 ls).1+((trimB at0 ls).2.length:Int)-1+(n:Int)) with _ | _
      rotate_left
      ·
       refine L.pickF rfl rfl<|L.pickT rfl rfl<|L.assign rfl<|WL.nil<|X.thenN<|WP.condT rfl<|WP.regs<|L.build (cs:=[_,_,_]) T63.b T63.z rfl rfl<|L.storeN T63.ag rfl rfl rfl (Wrs.all 2 rfl rfl (by simp[Value.oneCell']))<|L.assign rfl<|WL.nil<|WP.ret<|X.blockR (X.thenR ?_);refine X.ret rfl (ResCellTmp rfl rfl T63.ag rfl (Rds.all 2 rfl) rfl) ?_
       rw[winR_5 hm0 (by omega) (.inr hf2)]
       exact⟨_,rfl,_,⟨_,rfl,rfl,fun _=>rfl⟩,((Ent.pk [] rfl)).trans Ent.rowsP0⟩
      ·
       refine L.pickF rfl rfl<|L.pickT rfl rfl<|L.assign rfl<|WL.nil<|X.thenN<|WP.condF rfl<|WP.skip<|X.blockN<|X.thenN ⟨(),(by first | exact .inr ⟨hf1,hf2⟩ | exact .inr ⟨rfl,rfl⟩),(Env.Sub.cons rfl rfl (Env.Sub.cons rfl rfl (Env.Sub.cons rfl rfl (Env.Sub.cons rfl rfl (Env.Sub.cons rfl rfl (Env.Sub.cons rfl rfl Env.Sub.nil)))))),Ent.pk [1,0,0,0,0,0] rfl⟩
    ·
     refine L.move rfl ?_
     iterate 11 refine L.skip ?_
     refine L.pickF rfl rfl<|L.assign rfl<|WL.nil<|X.thenN<|WP.condF rfl<|WP.skip<|X.blockN<|X.thenN ⟨(),.inl (by omega),(Env.Sub.cons rfl rfl (Env.Sub.cons rfl rfl (Env.Sub.cons rfl rfl (Env.Sub.cons rfl rfl (Env.Sub.cons rfl rfl (Env.Sub.cons rfl rfl Env.Sub.nil)))))),Ent.pk [1,0,0,0,0,0] rfl⟩
   ·
    rintro ⟨⟩ hfar
    refine WP.seq<|WP.regs<|L.fieldAddr (o':=1) T34.f1 rfl rfl ?_
    have hch1:t.w.toNat*((trimB at0 ls).2.length+2*n)≤t.w.toNat*(ls.length+2*n):=Nat.mul_le_mul_left _ (by omega)
    have hch:t.w.toNat*((trimB at0 ls).2.length+2*n)≤1048576∧t.w.toNat*((trimB at0 ls).2.length+2*n)*n≤67108864:=⟨by omega,Nat.le_trans (Nat.mul_le_mul_right n hch1) hcheap.2⟩
    refine L.load T3.sc rfl (Rd.own 4 rfl rfl)<|L.fieldAddr (o':=2) T63.f2 rfl rfl<|L.load T61.sc rfl (Rd.own 1 rfl rfl)<|L.lenS T61.sl rfl rfl<|L.move rfl<|WL.callV rfl rfl F67.fn rfl (fun g gS dj=>(by have c:=window_cheap (k:=k) (h0:=h0.un g) t.w.toNat (trimB at0 ls).2.length n (by omega) ⟨by omega,by omega⟩ hch.1 hch.2;rw[← hwn] at c;exact c)) ?_
    refine L.not rfl<|WL.nil<|WP.condF rfl<|WP.skip<|X.thenN<|WP.seq<|WP.regs<|L.move rfl<|L.move rfl<|WL.nil<|WP.block<|WP.loop (X:=Value × Nat) (fun x=>⟨74,[],[(4,.pointer (some ⟨b1,0,none⟩)),(5,.pointer (some ⟨b2,0,none⟩)),(6,.pointer (some ⟨b3,0,none⟩)),(8,.pointer (some ⟨b4,0,none⟩)),(11,.pointer (some ⟨b5,0,none⟩)),(65,.int .i64 (n:Int)),(66,.int .i64 (x.2:Int))]⟩) (fun x=>[rowsP x.1 (runB r t (trimB at0 ls) x.2).2,cl b5 [.int .i64 t.w,.int .i64 (runB r t (trimB at0 ls) x.2).1,x.1] 63,cl b4 [.int .i64 0,.int .i64 0,.slice none 0 0] 63,cl b3 [.int .i64 t.w,.int .i64 at0,rv] 63,cl b2 (topoC t) 34,cl b1 (ruleC r v w) 32]) (fun x=>x.2≤n∧((runB r t (trimB at0 ls) x.2).2.length=0→x.1=.slice none 0 0)) (fun x=>n-x.2) (.slice ca (trimB at0 ls).2.length cc,0) (⟨Nat.zero_le _,hcn⟩) (Env.Sub.cons rfl rfl (Env.Sub.cons rfl rfl (Env.Sub.cons rfl rfl (Env.Sub.cons rfl rfl (Env.Sub.cons rfl rfl (Env.Sub.cons rfl rfl (Env.Sub.cons rfl rfl Env.Sub.nil))))))) (Ent.refl _) ?_
    rintro ⟨v5,i⟩ ⟨hi,hv5⟩
    dsimp only at hi hv5 ⊢
    refine WP.regs<|L.lss rfl rfl<|WL.nil<|WP.seq<|WP.condD rfl (fun h67=>?_) (fun h67=>?_)
    ·
     refine WP.skip<|X.thenN<|WP.seq<|WP.block<|WP.region ?_
     have hrk:=runB_ok hw hok hxo i
     refine L.loadN T32.ag rfl rfl (Rds.all 5 rfl)<|L.loadN T34.ag rfl rfl (Rds.all 4 rfl)<|L.loadN T63.ag rfl rfl (Rds.all 1 rfl)<|WL.call rfl rfl F68.fn rfl (FT.make fun g gS dj=>window_later r hw v w (hta.mono (Hp.le_un_left _ _)) t hwt hok _ v5 (runB r t (trimB at0 ls) i).2 (In.rowsP (In.of_stars' 0 rfl gS dj)) hv5 hrk.ok (by have:=hrk.len;omega) (fun h9=>by have h8:=hrk.at_ h9;have h7:=hfar.resolve_left (by omega);have:=farY_f h7.1;have:=farY_f h7.2;omega)) ?_;rintro _ _ ⟨_,⟨cv2,rfl,rfl,hcn2⟩,rfl⟩;refine WL.fact (fun _ _ _ s=>St.rowsP_shape 0 rfl s) ?_;rintro ⟨ca2,cc2,rfl⟩
     refine L.storeN T63.ag rfl rfl rfl (Wrs.all 2 rfl rfl (by simp[Value.oneCell']))<|WL.nil<|X.blockN<|X.thenN<|WP.region<|L.add' rfl rfl (by omega)<|L.move rfl<|WL.nil<|X.thenN ⟨(_,i+1),⟨by dsimp only;omega,hcn2⟩,by dsimp only;omega,(Env.Sub.cons rfl rfl (Env.Sub.cons rfl rfl (Env.Sub.cons rfl rfl (Env.Sub.cons rfl rfl (Env.Sub.cons rfl rfl (Env.Sub.cons rfl rfl (Env.Sub.cons rfl rfl Env.Sub.nil))))))),(Ent.pk [0,1,1,1,1,1] rfl)⟩
    ·
     obtain rfl:i=n:=by omega
     refine WP.exit<|X.thenE (X.thenE (X.blockE ?_));refine X.thenN<|WP.regs<|WL.fact (fun _ _ _ s=>St.rowsP_shape 0 rfl s) ?_;rintro ⟨ca,cc,rfl⟩;refine L.loadN T63.ag rfl rfl (Rds.all 1 rfl)<|L.storeN T63.ag rfl rfl rfl (Wrs.all 2 rfl rfl (by simp[Value.oneCell']))<|L.assign rfl<|WL.nil<|WP.ret<|X.ret rfl (ResCellTmp rfl rfl T63.ag rfl (Rds.all 2 rfl) rfl) ?_
     rw[winR_0 hm0 hfar]
     exact⟨_,rfl,_,⟨_,rfl,rfl,hv5⟩,(Ent.pk [0] rfl)⟩
set_option maxRecDepth 10000 in
theorem window_NextG (r:RuleD) (hw:r.Wd) (v w:Value) (hta:TabAt h0 r.table v w) (t:TopoD) (hwt:t.Wd) (hok:WOk r t) (W:Int) (rv:Value) (ls:List ByteArray) (hbt:BtsAt h0 rv ls) (hln:ls.length≤65536) (hsz:∀ i,i<ls.length→(ls.getD i ByteArray.empty).size≤4611686018427387904) (at0:Int) (hcheap:t.w.toNat*(ls.length+2*1)≤1048576∧t.w.toNat*(ls.length+2*1)*1≤67108864):FT Pg 26 [.agg (ruleC r v w).toArray,.agg (topoC t).toArray,.agg #[.int .i64 W,.int .i64 at0,rv]] k h0 [] (Ret fun u τ=>∃ v,u=.tuple #[.agg #[.int .i64 (winR r t W at0 ls 1).1,.int .i64 (winR r t W at0 ls 1).2.1,v],.int .i64 (winR r t W at0 ls 1).2.2.2]∧τ=[rowsP v (winR r t W at0 ls 1).2.2.1]∧((winR r t W at0 ls 1).2.2.1.length=0→v=.slice none 0 0)):=by
  refine FT.tight<|FT.of_wp (n:=14) Tryz.func26 rfl rfl rfl<|WP.regs<|L.box rfl rfl fun b1=>L.box rfl rfl fun b2=>L.box rfl rfl fun b3=>L.alloc T63.z fun b4=>L.assign rfl<|WL.nil<|WP.regs<|L.loadN T32.ag rfl rfl (Rds.all 3 rfl)<|L.loadN T34.ag rfl rfl (Rds.all 2 rfl)<|L.loadN T63.ag rfl rfl (Rds.all 1 rfl)<|WL.call rfl rfl F22.fn rfl (FT.make fun g gS dj=>window_RunG r hw v w (hta.mono (Hp.le_un_left _ _)) t hwt hok W rv ls (hbt.mono (Hp.le_un_left _ _)) hln hsz at0 1 (by omega) hcheap) ?_;rintro _ _ ⟨_,⟨cv,rfl,rfl,hcn⟩,rfl⟩;refine WL.fact (fun _ _ _ s=>St.rowsP_shape 0 rfl s) ?_;rintro ⟨ca,cc,rfl⟩
  refine L.extract rfl rfl<|L.extract rfl rfl<|L.storeN T63.ag rfl rfl rfl (Wrs.all 1 rfl rfl (by simp[Value.oneCell']))<|L.assign rfl<|WL.nil<|WP.ret<|X.ret rfl (ResCellTmp rfl rfl T63.ag rfl (Rds.all 1 rfl) rfl) ?_;exact⟨_,rfl,_,⟨_,rfl,rfl,hcn⟩,(Ent.pk [0] rfl)⟩
end
open Go.RowKit Go.Proofs
theorem ext_getD {l1 l2:List ByteArray} (hl:l1.length=l2.length) (h:∀ j,j<l1.length→l1.getD j ByteArray.empty=l2.getD j ByteArray.empty):l1=l2:=by
  apply List.ext_getElem?
  intro i
  by_cases hi:i<l1.length
  · have e:=h i hi
    rw[List.getD_eq_getElem?_getD,List.getD_eq_getElem?_getD,List.getElem?_eq_getElem hi,List.getElem?_eq_getElem (by omega)] at e
    rw[List.getElem?_eq_getElem hi,List.getElem?_eq_getElem (by omega)]
    exact congrArg some e
  · rw[List.getElem?_eq_none (by omega),List.getElem?_eq_none (by omega)]
section
variable {k:World} {h0:Hp}
set_option maxRecDepth 10000 in
set_option maxHeartbeats 1000000 in
theorem ref_Same (W1 a1 W2 a2:Int) (v1 v2:Value) (l1 l2:List ByteArray) (h1:BtsAt h0 v1 l1) (h2:BtsAt h0 v2 l2) (hln:l1.length≤4611686018427387904∧l2.length≤4611686018427387904) (hp1:∀ i,i<l1.length→0<(l1.getD i ByteArray.empty).size) (hp2:∀ i,i<l2.length→0<(l2.getD i ByteArray.empty).size):FT Pg 25 [.agg #[.int .i64 W1,.int .i64 a1,v1],.agg #[.int .i64 W2,.int .i64 a2,v2]] k h0 [] (Is (.bool (decide (W1=W2∧a1=a2∧l1=l2)))):=by
  obtain⟨vs1,⟨r1,c1,rfl,hc1,hn1,hs1⟩,hl1⟩:=h1
  obtain⟨vs2,⟨r2,c2,rfl,hc2,hn2,hs2⟩,hl2⟩:=h2
  refine FT.of_wp (n:=47) Tryz.func25 rfl rfl rfl<|WP.regs<|L.box rfl rfl fun b1=>L.box rfl rfl fun b2=>L.assign rfl<|WL.nil<|WP.seq<|WP.regs<|L.fieldAddr (o':=0) T63.f0 rfl rfl<|L.load T3.sc rfl (Rd.own 1 rfl rfl)<|L.fieldAddr (o':=0) T63.f0 rfl rfl<|L.load T3.sc rfl (Rd.own 0 rfl rfl)<|L.neqD rfl rfl (fun h10=>?_) (fun h10=>?_);refine L.move rfl ?_
  iterate 5 refine L.skip ?_
  refine L.pickT rfl rfl<|L.move rfl ?_
  iterate 7 refine L.skip ?_
  refine L.pickT rfl rfl<|WL.nil<|WP.condT rfl<|WP.regs<|L.assign rfl<|WL.nil<|WP.ret<|X.thenR<|X.ret rfl (Res.one rfl rfl) ?_
  show _=_
  rw[decide_eq_false (fun h=>h10 h.1)]
  refine L.move rfl<|L.fieldAddr (o':=1) T63.f1 rfl rfl<|L.load T3.sc rfl (Rd.own 1 rfl rfl)<|L.fieldAddr (o':=1) T63.f1 rfl rfl<|L.load T3.sc rfl (Rd.own 0 rfl rfl)<|L.neqD rfl rfl (fun h16=>?_) (fun h16=>?_);refine L.pickF rfl rfl<|L.move rfl ?_
  iterate 7 refine L.skip ?_
  refine L.pickT rfl rfl<|WL.nil<|WP.condT rfl<|WP.regs<|L.assign rfl<|WL.nil<|WP.ret<|X.thenR<|X.ret rfl (Res.one rfl rfl) ?_
  show _=_
  rw[decide_eq_false (fun h=>h16 h.2.1)]
  refine L.pickF rfl rfl<|L.move rfl<|L.fieldAddr (o':=2) T63.f2 rfl rfl<|L.load T61.sc rfl (Rd.own 1 rfl rfl)<|L.lenS T61.sl rfl rfl<|L.fieldAddr (o':=2) T63.f2 rfl rfl<|L.load T61.sc rfl (Rd.own 0 rfl rfl)<|L.lenS T61.sl rfl rfl<|L.neq rfl rfl<|L.pickF rfl rfl<|WL.nil<|WP.condD rfl (fun h26=>?_) (fun h26=>?_);refine WP.regs<|L.assign rfl<|WL.nil<|WP.ret<|X.thenR<|X.ret rfl (Res.one rfl rfl) ?_
  show _=_
  rw[decide_eq_false (fun h=>h26 (by rw[h.2.2]))]
  refine WP.skip<|X.thenN<|WP.seq<|WP.regs<|L.assign rfl<|WL.nil<|WP.block<|WP.loop (X:=Nat) (fun i=>⟨47,[],[(2,.pointer (some ⟨b1,0,none⟩)),(3,.pointer (some ⟨b2,0,none⟩)),(4,.bool false),(5,.int .i64 (i:Int))]⟩) (fun i=>[cl b2 [.int .i64 W2,.int .i64 a2,.slice r2 l2.length c2] 63,cl b1 [.int .i64 W1,.int .i64 a1,.slice r1 l1.length c1] 63]) (fun i=>i≤l1.length∧∀ j,j<i→l1.getD j ByteArray.empty=l2.getD j ByteArray.empty) (fun i=>l1.length-i) 0 (⟨Nat.zero_le _,fun j hj=>absurd hj (by omega)⟩) (Env.Sub.cons rfl rfl (Env.Sub.cons rfl rfl (Env.Sub.cons rfl rfl (Env.Sub.cons rfl rfl Env.Sub.nil)))) (Ent.refl _) ?_
  rintro i ⟨hi,heq⟩
  refine WP.seq<|WP.regs<|L.move rfl<|L.fieldAddr (o':=2) T63.f2 rfl rfl<|L.load T61.sc rfl (Rd.own 1 rfl rfl)<|L.lenS T61.sl rfl rfl<|L.lss rfl rfl<|WL.nil<|WP.condD rfl (fun h31=>?_) (fun h31=>?_);refine WP.skip<|X.thenN<|WP.seq<|WP.block<|WP.seq<|WP.rege [(0,true),(1,true),(2,true),(3,true),(4,true),(5,true),(6,true),(7,true),(8,true),(9,true),(10,true),(11,true),(12,true)] 13 rfl (by kernel_rfl) (PInv.then (PInv.block (PInv.then (PInv.then (PInv.block (PInv.then PInv.ret)))))) rfl ?_
  obtain⟨x1,k1,hv1,hk1,hm1,hx1⟩:=hl1 i (by omega)
  obtain⟨y1,z1,rfl,hy1⟩:=hx1 (by rw[intsB_len];exact hp1 i (by omega))
  obtain⟨u1,o1,rfl,hu1⟩:=hs1 (by omega)
  obtain⟨x2,k2,hv2,hk2,hm2,hx2⟩:=hl2 i (by omega)
  obtain⟨y2,z2,rfl,hy2⟩:=hx2 (by rw[intsB_len];exact hp2 i (by omega))
  obtain⟨u2,o2,rfl,hu2⟩:=hs2 (by omega)
  refine WE.take rfl (V.fieldAddr (o':=2) T63.f2 rfl rfl)<|WE.take rfl (V.load T61.sc rfl (Rd.own 1 rfl rfl))<|WE.take rfl (V.move rfl)<|WE.take rfl (V.indexS T61.sl rfl rfl (by omega))<|WE.take rfl (V.load T60.sc rfl (v:=.slice (some ⟨y1,z1,none⟩) (intsB (l1.getD i ByteArray.empty)).length k1) (Rd.ro (by have:=hu1 i (by omega);dsimp only at this;rw[hv1] at this;refine Eq.trans (congrArg _ ?_) this;omega))) ?_
  refine WE.take rfl (V.bytesToStr T60.sl T5.u T9.u rfl (ns:=intsB (l1.getD i ByteArray.empty)) rfl (fun _ _ _ e=>by cases e;exact⟨rfl,(Rds.of_cells (i:=0) hy1 _ (by rw[List.length_map];omega) (fun j hj=>by rw[List.getElem_map,Nat.zero_add,List.getD_eq_getElem?_getD,List.getElem?_eq_getElem (show j<(intsB (l1.getD i ByteArray.empty)).length by rwa [List.length_map] at hj)];rfl))⟩) (fun e=>by cases e)) ?_
  refine WE.take rfl (V.fieldAddr (o':=2) T63.f2 rfl rfl)<|WE.take rfl (V.load T61.sc rfl (Rd.own 0 rfl rfl))<|WE.take rfl (V.move rfl)<|WE.take rfl (V.indexS T61.sl rfl rfl (by omega))<|WE.take rfl (V.load T60.sc rfl (v:=.slice (some ⟨y2,z2,none⟩) (intsB (l2.getD i ByteArray.empty)).length k2) (Rd.ro (by have:=hu2 i (by omega);dsimp only at this;rw[hv2] at this;refine Eq.trans (congrArg _ ?_) this;omega))) ?_
  refine WE.take rfl (V.bytesToStr T60.sl T5.u T9.u rfl (ns:=intsB (l2.getD i ByteArray.empty)) rfl (fun _ _ _ e=>by cases e;exact⟨rfl,(Rds.of_cells (i:=0) hy2 _ (by rw[List.length_map];omega) (fun j hj=>by rw[List.getElem_map,Nat.zero_add,List.getD_eq_getElem?_getD,List.getElem?_eq_getElem (show j<(intsB (l2.getD i ByteArray.empty)).length by rwa [List.length_map] at hj)];rfl))⟩) (fun e=>by cases e)) ?_
  refine WE.take rfl (V.neqStr rfl rfl)<|WE.nil<|X.thenN<|WP.condD rfl (fun h46=>?_) (fun h46=>?_);refine WP.regs<|L.assign rfl<|WL.nil<|WP.ret<|X.blockR (X.thenR (X.thenR (X.blockR (X.thenR ?_))));refine X.ret rfl (Res.one rfl rfl) ?_
  show _=_
  rw[decide_eq_false (fun h=>h46 (by rw[h.2.2]))]
  refine WP.skip<|X.blockN<|X.thenN<|WP.region<|L.move rfl<|L.add' rfl rfl (by omega)<|L.assign rfl<|WL.nil<|X.thenN ⟨i+1,⟨by omega,fun j hj=>by rcases Nat.lt_or_ge j i with e | e;exact heq j e;obtain rfl:j=i:=(by omega);rw[textOf_intsB,textOf_intsB] at h46;exact Decidable.not_not.1 h46⟩,by omega,(Env.Sub.cons rfl rfl (Env.Sub.cons rfl rfl (Env.Sub.cons rfl rfl (Env.Sub.cons rfl rfl Env.Sub.nil)))),Ent.refl _⟩;refine WP.exit<|X.thenE (X.thenE (X.blockE ?_));refine X.thenN<|WP.regs<|L.assign rfl<|WL.nil<|WP.ret<|X.ret rfl (Res.one rfl rfl) ?_
  show _=_
  rw[decide_eq_true ⟨Decidable.not_not.1 h10,Decidable.not_not.1 h16,ext_getD (by omega) fun j hj=>heq j (by omega)⟩]
end
end Go.Eng
