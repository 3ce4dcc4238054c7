/- Walks of the functions of the seat over those rules, and plain laws of what they compute. No conditions beyond those in each theorem. -/
import Derived.Test.YtclhjichmdjlaaaGreatSW
import Derived.Test.YtclhjichmdjlaaaGreatSS
import Derived.Test.YtclhjichmdjlaaaGreatSX
set_option linter.unusedSimpArgs false
set_option linter.unusedVariables false
namespace Go.Eng
open Go.RowKit Go.Proofs
def stepF (L:ByteArray→ByteArray→ByteArray→ByteArray) (f:Int→ByteArray):Int→ByteArray:=fun y=>L (f (y-1)) (f y) (f (y+1))
def genF (L:ByteArray→ByteArray→ByteArray→ByteArray) (f:Int→ByteArray):Nat→Int→ByteArray
  | 0=>f
  | n+1=>stepF L (genF L f n)
def wn (f:Int→ByteArray) (p:Int) (n:Nat):List ByteArray:=(List.range n).map fun i:Nat=>f (p+(i:Int))
def bandF (t:TopoD) (x:Int × List ByteArray):Int→ByteArray:=fun y=>rowZ t x.2 (y-x.1)
theorem genF_add (L:ByteArray→ByteArray→ByteArray→ByteArray) (f:Int→ByteArray) (s:Nat):∀ t,genF L f (s+t)=genF L (genF L f s) t
  | 0=>rfl
  | t+1=>by show stepF L (genF L f (s+t))=stepF L (genF L (genF L f s) t);rw[genF_add L f s t]
theorem wn_len (f:Int→ByteArray) (p:Int) (n:Nat):(wn f p n).length=n:=by simp[wn]
theorem wn_get (f:Int→ByteArray) (p:Int) (n i:Nat) (h:i<n):(wn f p n).getD i ByteArray.empty=f (p+(i:Int)):=by
  unfold wn
  rw[List.getD_eq_getElem?_getD,List.getElem?_map,List.getElem?_range h];rfl
theorem wn_ext {f g:Int→ByteArray} {p:Int} {n:Nat} (h:∀ y,p≤y→y<p+(n:Int)→f y=g y):wn f p n=wn g p n:=by
  unfold wn
  refine List.map_congr_left fun i hi=>h _ (by omega) ?_
  have:=List.mem_range.1 hi
  omega
theorem wn_app (f:Int→ByteArray) (p:Int) (n m:Nat):wn f p n++wn f (p+(n:Int)) m=wn f p (n+m):=by
  unfold wn
  rw[List.range_add,List.map_append,List.map_map]
  congr 1
  refine List.map_congr_left fun i _=>?_
  show f (p+(n:Int)+(i:Int))=f (p+((n+i:Nat):Int))
  congr 1
  omega
theorem wn_const (z:ByteArray) (f:Int→ByteArray) (p:Int) (n:Nat) (h:∀ y,p≤y→y<p+(n:Int)→f y=z):wn f p n=List.replicate n z:=by
  rw[wn_ext (g:=fun _=>z) h]
  unfold wn
  rw[List.map_const',List.length_range]
theorem wn_sub (f:Int→ByteArray) (p:Int) (n a c:Nat) (hc:c≤n):subL (wn f p n) a c=wn f (p+(a:Int)) (c-a):=by
  rcases Nat.lt_or_ge a c with h | h
  · unfold subL
    rw[show n=a+((c-a)+(n-c)) by omega,← wn_app,← wn_app,List.drop_left' (wn_len f p a),List.take_left' (wn_len _ _ _)]
  · unfold subL
    rw[show c-a=0 by omega,List.take_zero];rfl
theorem wn_one (f:Int→ByteArray) (p:Int):wn f p 1=[f p]:=by
  show[f (p+((0:Nat):Int))]=[f p]
  rw[show p+((0:Nat):Int)=p by omega]
theorem cell_wn {L:ByteArray→ByteArray→ByteArray→ByteArray} {f:Int→ByteArray} {p:Int} {n:Nat}:∀ (t q:Nat),t≤q→q+t<n→cellAt L (wn f p n) t q=genF L f t (p+(q:Int))
  | 0,q,_,h=>wn_get f p n q (by omega)
  | t+1,q,h1,h2=>by
    show L _ _ _=L _ _ _
    rw[cell_wn t (q-1) (by omega) (by omega),cell_wn t q (by omega) (by omega),cell_wn t (q+1) (by omega) (by omega)]
    rw[show p+((q-1:Nat):Int)=p+(q:Int)-1 by omega,show p+((q+1:Nat):Int)=p+(q:Int)+1 by omega]
theorem mid_wn {L:ByteArray→ByteArray→ByteArray→ByteArray} {f:Int→ByteArray} {p:Int} (l j:Nat) (h:j≤l):midD L (wn f p (2^(l+2))) j=wn (genF L f (2^j)) (p+((2^l:Nat):Int)) (2^(l+1)):=by
  have hp:2^(l+2)=4*2^l:=by rw[Nat.pow_succ,Nat.pow_succ];omega
  have hq:2^(l+1)=2*2^l:=by rw[Nat.pow_succ];omega
  have hj:2^j≤2^l:=Nat.pow_le_pow_right (by omega) h
  unfold midD
  rw[wn_len,hp,hq,show 4*2^l/4=2^l by omega,show 4*2^l/2=2*2^l by omega]
  unfold win wn
  refine List.map_congr_left fun i hi=>?_
  have hi:=List.mem_range.1 hi
  rw[show (List.range (4*2^l)).map (fun i:Nat=>f (p+(i:Int)))=wn f p (4*2^l) from rfl,cell_wn (2^j) (2^l+i) (by omega) (by omega)]
  rw[show p+((2^l+i:Nat):Int)=p+((2^l:Nat):Int)+(i:Int) by omega]
theorem intsB_deadB {x:ByteArray} (h:deadB x=true):intsB x=zeros (intsB x).length:=by
  have h:=of_decide_eq_true h
  unfold zeros
  apply List.ext_getElem?
  intro i
  by_cases hi:i<(intsB x).length
  · have:=h i hi
    rw[List.getD_eq_getElem?_getD,List.getElem?_eq_getElem hi] at this
    rw[List.getElem?_eq_getElem hi,List.getElem?_replicate,if_pos hi]
    exact congrArg some this
  · rw[List.getElem?_eq_none (by omega),List.getElem?_eq_none (by rw[List.length_replicate];omega)]
theorem deadB_z {t:TopoD} {x:ByteArray} (hs:(x.size:Int)=t.w) (h:deadB x=true):x=zrowT t:=by
  refine intsB_inj ?_
  rw[intsB_zrowT,intsB_deadB h,intsB_len]
  congr 1;omega
theorem deadB_zrow (t:TopoD):deadB (zrowT t)=true:=decide_eq_true fun i _=>by rw[intsB_zrowT,zeros_get]
theorem line_zero {r:RuleD} {t:TopoD} (h:WOk r t):lineR r t (zrowT t) (zrowT t) (zrowT t)=zrowT t:=by
  have hq:r.nx 0 (zeros (hoodSize r.hd).toNat)=0:=h.2.2
  have hsz:=offs_size r.hd
  unfold lineR
  rw[intsB_zrowT]
  unfold zrowT
  congr 1
  have ha:∀ x,aroundD r t (zeros t.w.toNat) (zeros t.w.toNat) (zeros t.w.toNat) x=zeros (hoodSize r.hd).toNat:=by
   intro x
   unfold aroundD
   rw[show zeros (hoodSize r.hd).toNat=List.replicate (offs r.hd).length 0 by unfold zeros;congr 1;omega]
   rw[← List.map_const']
   refine List.map_congr_left fun p _=>?_
   unfold nearD
   dsimp only
   generalize (if t.kind=2 then _ else _)=u
   split
   · unfold rowD
     repeat' split
     all_goals exact zeros_get _ _
   · rfl
  unfold lineD
  rw[show zeros t.w.toNat=(List.range t.w.toNat).map (fun _=>0) by rw[List.map_const',List.length_range];rfl]
  refine List.map_congr_left fun x _=>?_
  rw[← show zeros t.w.toNat=(List.range t.w.toNat).map (fun _=>(0:Int)) by rw[List.map_const',List.length_range];rfl]
  unfold lineAt
  rw[ha,zeros_get]
  exact hq
theorem genF_far {L:ByteArray→ByteArray→ByteArray→ByteArray} {z:ByteArray} (hz:L z z z=z) {f:Int→ByteArray} {a c:Int} (hf:∀ y,y<a∨c≤y→f y=z):∀ (n:Nat) (y:Int),y<a-(n:Int)∨c+(n:Int)≤y→genF L f n y=z
  | 0,y,h=>hf y (by omega)
  | n+1,y,h=>by
    show L _ _ _=z
    rw[genF_far hz hf n (y-1) (by omega),genF_far hz hf n y (by omega),genF_far hz hf n (y+1) (by omega),hz]
theorem bandF_out {t:TopoD} {x:Int × List ByteArray} (y:Int) (h:y<x.1∨x.1+(x.2.length:Int)≤y):bandF t x y=zrowT t:=by
  unfold bandF rowZ
  rw[if_neg (by omega)]
theorem bandF_in {t:TopoD} {x:Int × List ByteArray} (i:Nat) (h:i<x.2.length):bandF t x (x.1+(i:Int))=x.2.getD i ByteArray.empty:=by
  unfold bandF rowZ
  rw[if_pos (by omega),show (x.1+(i:Int)-x.1).toNat=i by omega]
theorem bandF_nil {t:TopoD} {x:Int × List ByteArray} (h:x.2.length=0):bandF t x=fun _=>zrowT t:=funext fun y=>bandF_out y (by omega)
theorem bandF_trim {r:RuleD} {t:TopoD} {a:Int} {ls:List ByteArray} (hr:∀ i,i<ls.length→RowOk2 r t (ls.getD i ByteArray.empty)):bandF t (trimB a ls)=bandF t (a,ls):=by
  funext y
  rcases Nat.lt_or_ge (fstL ls) ls.length with hf | hf
  · have hll:=lstL_lives ls hf
    have hle:=lstL_le ls
    rw[trimB_lt hf]
    have hlen:=subL_len ls (fstL ls) (lstL ls) hle
    by_cases h1:a+(fstL ls:Int)≤y∧y<a+(lstL ls:Int)
    · obtain⟨i,rfl⟩:∃ i:Nat,y=a+(fstL ls:Int)+(i:Int):=⟨(y-(a+(fstL ls:Int))).toNat,by omega⟩
      have e1:=bandF_in (t:=t) (x:=(a+(fstL ls:Int),subL ls (fstL ls) (lstL ls))) i (by dsimp only;omega)
      have e2:=bandF_in (t:=t) (x:=(a,ls)) (fstL ls+i) (by dsimp only;omega)
      dsimp only at e1 e2
      rw[e1,show a+(fstL ls:Int)+(i:Int)=a+((fstL ls+i:Nat):Int) by omega,e2]
      exact subL_get _ _ _ _ (by omega)
    · rw[bandF_out y (by dsimp only;omega)]
      by_cases h2:a≤y∧y<a+(ls.length:Int)
      · obtain⟨i,rfl⟩:∃ i:Nat,y=a+(i:Int):=⟨(y-a).toNat,by omega⟩
        have e2:=bandF_in (t:=t) (x:=(a,ls)) i (by dsimp only;omega)
        dsimp only at e2
        rw[e2]
        refine (deadB_z (hr i (by omega)).1 ?_).symm
        rcases Nat.lt_or_ge i (fstL ls) with h3 | h3
        · exact fstL_dead ls i h3
        · exact lstL_dead ls i (by omega) (by omega)
      · rw[bandF_out y (by dsimp only;omega)]
  · rw[trimB_ge hf,bandF_nil rfl]
    by_cases h2:a≤y∧y<a+(ls.length:Int)
    · obtain⟨i,rfl⟩:∃ i:Nat,y=a+(i:Int):=⟨(y-a).toNat,by omega⟩
      have e2:=bandF_in (t:=t) (x:=(a,ls)) i (by dsimp only;omega)
      dsimp only at e2
      rw[e2]
      exact (deadB_z (hr i (by omega)).1 (fstL_dead ls i (by omega))).symm
    · rw[bandF_out y (by dsimp only;omega)]
structure Trm (t:TopoD) (x:Int × List ByteArray):Prop where
  nil:x.2.length=0→x.1=0
  fst:0<x.2.length→x.2.getD 0 ByteArray.empty≠zrowT t
  lst:0<x.2.length→x.2.getD (x.2.length-1) ByteArray.empty≠zrowT t
theorem ne_zrow {t:TopoD} {x:ByteArray} (h:deadB x=false):x≠zrowT t:=by
  rintro rfl
  rw[deadB_zrow] at h;cases h
theorem trm_trim {t:TopoD} (a:Int) (ls:List ByteArray):Trm t (trimB a ls):=by
  refine⟨fun h=>trimB_at0 h,fun h=>?_,fun h=>?_⟩
  · rcases Nat.lt_or_ge (fstL ls) ls.length with hf | hf
    · have hll:=lstL_lives ls hf
      have hle:=lstL_le ls
      rw[trimB_lt hf]
      show (subL _ _ _).getD 0 _≠_
      rw[subL_get _ _ _ _ (by omega)]
      exact ne_zrow (fstL_lives ls hf)
    · rw[trimB_ge hf] at h;exact absurd h (Nat.not_lt_zero _)
  · rcases Nat.lt_or_ge (fstL ls) ls.length with hf | hf
    · have hll:=lstL_lives ls hf
      have hle:=lstL_le ls
      rw[trimB_lt hf]
      show (subL _ _ _).getD ((subL _ _ _).length-1) _≠_
      rw[subL_len _ _ _ hle,subL_get _ _ _ _ (by omega),show fstL ls+(lstL ls-fstL ls-1)=lstL ls-1 by omega]
      exact ne_zrow hll.2
    · rw[trimB_ge hf] at h;exact absurd h (Nat.not_lt_zero _)
theorem trm_uniq {t:TopoD} {x y:Int × List ByteArray} (hx:Trm t x) (hy:Trm t y) (h:bandF t x=bandF t y):x=y:=by
  have ev:∀ v,bandF t x v=bandF t y v:=fun v=>congrFun h v
  have key:∀ {x y:Int × List ByteArray},Trm t x→Trm t y→(∀ v,bandF t x v=bandF t y v)→0<x.2.length→0<y.2.length∧y.1≤x.1∧x.1+(x.2.length:Int)≤y.1+(y.2.length:Int):=by
   intro x y hx hy ev hp
   have h1:=bandF_in (t:=t) (x:=x) 0 hp
   have h2:=bandF_in (t:=t) (x:=x) (x.2.length-1) (by omega)
   have n1:=hx.fst hp
   have n2:=hx.lst hp
   rw[← h1,ev] at n1
   rw[← h2,ev] at n2
   have q1:y.1≤x.1+((0:Nat):Int)∧x.1+((0:Nat):Int)<y.1+(y.2.length:Int):=by
    rcases Decidable.em (y.1≤x.1+((0:Nat):Int)∧x.1+((0:Nat):Int)<y.1+(y.2.length:Int)) with q | q
    · exact q
    · exact absurd (bandF_out _ (by omega)) n1
   have q2:y.1≤x.1+((x.2.length-1:Nat):Int)∧x.1+((x.2.length-1:Nat):Int)<y.1+(y.2.length:Int):=by
    rcases Decidable.em (y.1≤x.1+((x.2.length-1:Nat):Int)∧x.1+((x.2.length-1:Nat):Int)<y.1+(y.2.length:Int)) with q | q
    · exact q
    · exact absurd (bandF_out _ (by omega)) n2
   omega
  obtain⟨xa,xl⟩:=x
  obtain⟨ya,yl⟩:=y
  rcases Nat.eq_zero_or_pos xl.length with hp | hp
  · rcases Nat.eq_zero_or_pos yl.length with hq | hq
    · have e1:=hx.nil hp
      have e2:=hy.nil hq
      dsimp only at e1 e2
      rw[e1,e2,List.length_eq_zero_iff.1 hp,List.length_eq_zero_iff.1 hq]
    · have:=(key hy hx (fun v=>(ev v).symm) hq).1
      dsimp only at this
      omega
  · have k1:=key hx hy ev hp
    have k2:=key hy hx (fun v=>(ev v).symm) k1.1
    dsimp only at k1 k2
    obtain rfl:xa=ya:=by omega
    have hl:xl.length=yl.length:=by omega
    congr 1
    apply List.ext_getElem?
    intro i
    by_cases hi:i<xl.length
    · have e1:=bandF_in (t:=t) (x:=(xa,xl)) i hi
      have e2:=bandF_in (t:=t) (x:=(xa,yl)) i (by dsimp only;omega)
      have e3:=ev (xa+(i:Int))
      dsimp only at e1 e2
      rw[e1,e2,List.getD_eq_getElem?_getD,List.getD_eq_getElem?_getD,List.getElem?_eq_getElem hi,List.getElem?_eq_getElem (by omega)] at e3
      rw[List.getElem?_eq_getElem hi,List.getElem?_eq_getElem (by omega)]
      exact congrArg some e3
    · rw[List.getElem?_eq_none (by omega),List.getElem?_eq_none (by omega)]
theorem bandF_next {r:RuleD} {t:TopoD} (hwo:WOk r t) (a:Int) (ls:List ByteArray):bandF t (a-1,nextL r t ls (ls.length+2))=stepF (lineR r t) (bandF t (a,ls)):=by
  funext y
  show _=lineR r t (rowZ t ls (y-1-a)) (rowZ t ls (y-a)) (rowZ t ls (y+1-a))
  by_cases h:a-1≤y∧y<a-1+((ls.length+2:Nat):Int)
  · obtain⟨i,rfl⟩:∃ i:Nat,y=a-1+(i:Int):=⟨(y-(a-1)).toNat,by omega⟩
    have e:=bandF_in (t:=t) (x:=(a-1,nextL r t ls (ls.length+2))) i (by dsimp only;rw[nextL_len];omega)
    dsimp only at e
    rw[e,nextL_get _ _ _ _ _ (by omega),show a-1+(i:Int)-1-a=(i:Int)-2 by omega,show a-1+(i:Int)-a=(i:Int)-1 by omega,show a-1+(i:Int)+1-a=(i:Int) by omega]
  · rw[bandF_out y (by dsimp only;rw[nextL_len];omega)]
    unfold rowZ
    rw[if_neg (by omega),if_neg (by omega),if_neg (by omega),line_zero hwo]
theorem bandF_later {r:RuleD} {t:TopoD} (hw:r.Wd) (hwo:WOk r t) {x:Int × List ByteArray} (hr:∀ i,i<x.2.length→RowOk2 r t (x.2.getD i ByteArray.empty)):bandF t (laterB r t x)=stepF (lineR r t) (bandF t x):=by
  obtain⟨a,ls⟩:=x
  by_cases h:ls.length=0
  · rw[laterB_nil h,bandF_nil h]
    funext y
    exact (line_zero hwo).symm
  · rw[laterB_pos h,bandF_trim (nextL_ok hw hwo hr _),bandF_next hwo]
theorem bandF_run {r:RuleD} {t:TopoD} (hw:r.Wd) (hwo:WOk r t) {x:Int × List ByteArray} (hr:∀ i,i<x.2.length→RowOk2 r t (x.2.getD i ByteArray.empty)):∀ n,bandF t (runB r t x n)=genF (lineR r t) (bandF t x) n
  | 0=>rfl
  | n+1=>by
    show bandF t (laterB r t (runB r t x n))=stepF _ (genF _ _ n)
    rw[bandF_later hw hwo (runB_ok hw hwo hr n).ok,bandF_run hw hwo hr n]
theorem trm_later {r:RuleD} {t:TopoD} {x:Int × List ByteArray} (h:Trm t x):Trm t (laterB r t x):=by
  obtain⟨a,ls⟩:=x
  by_cases h0:ls.length=0
  · rw[laterB_nil h0];exact h
  · rw[laterB_pos h0];exact trm_trim _ _
theorem trm_run {r:RuleD} {t:TopoD} {x:Int × List ByteArray} (h:Trm t x):∀ n,Trm t (runB r t x n)
  | 0=>h
  | n+1=>trm_later (trm_run h n)
open Go.RowKit Go.Proofs
structure Sm (r:RuleD) (t:TopoD) (P:Nat→List ByteArray→Prop) (T:SeaD):Prop where
  K:SeaK T
  i:Inv T
  c:Can T
  hr:T.r=r
  ht:T.t=t
  p:∀ id,id<T.nodes.length→P (T.nd id).level (T.rws id)
theorem row_new (S:SeaD) (x:ByteArray):∀ id,id<(S.row x).1.nodes.length→id<S.nodes.length∨id=(S.row x).2:=by
  intro id h
  unfold SeaD.row at h ⊢
  cases hm:mget S.rows x with
  | some o=>rw[hm] at h;exact .inl h
  | none=>rw[hm] at h;dsimp only at h ⊢;rw[List.length_append,List.length_singleton] at h;omega
theorem pair_new (S:SeaD) (a b:Nat):∀ id,id<(S.pair a b).1.nodes.length→id<S.nodes.length∨id=(S.pair a b).2:=by
  intro id h
  unfold SeaD.pair at h ⊢
  cases hm:mget S.pairs (a,b) with
  | some o=>rw[hm] at h;exact .inl h
  | none=>rw[hm] at h;dsimp only at h ⊢;rw[List.length_append,List.length_singleton] at h;omega
theorem line_new (S:SeaD) (a b c:Nat):∀ id,id<(S.line a b c).1.nodes.length→id<S.nodes.length∨id=(S.line a b c).2:=by
  intro id h
  unfold SeaD.line at h ⊢
  cases hm:mget S.lines (a,b,c) with
  | some o=>rw[hm] at h;exact .inl h
  | none=>rw[hm] at h;exact row_new S _ id h
def Nr (T:SeaD) (id l:Nat) (R:List ByteArray):Prop:=Lv T id l∧T.rws id=R
section
variable {r:RuleD} {t:TopoD} {P:Nat→List ByteArray→Prop} {S T U:SeaD} {id a b c l n:Nat} {A B R:List ByteArray}
theorem Nr.len (h:Nr T id l R):R.length=2^l:=by rw[← h.2,SeaD.rws_len,h.1.2]
theorem Nr.up (h:Nr T id l R) (i:Inv T) (e:Ext T U):Nr U id l R:=⟨h.1.up e,by rw[e.rws i.nw h.1.1];exact h.2⟩
theorem Sm.grow (S:Sm r t P T) (g:Grows T U n) {x:Nat} (hnew:∀ id,id<U.nodes.length→id<T.nodes.length∨id=x) (hp:P (U.nd x).level (U.rws x)):Sm r t P U:=
  ⟨S.K.of_ext g.ext,g.inv,g.ext.can S.c,g.ext.r.trans S.hr,g.ext.t.trans S.ht,fun id h=>(hnew id h).elim (fun h=>by rw[g.ext.nd id h,g.ext.rws S.i.nw h];exact S.p id h) (fun h=>by rw[h];exact hp)⟩
theorem Sm.lev (S:Sm r t P T) (h:Nr T id l R):l≤45:=by have:=(S.i.nw id h.1.1).1;have h:(T.nodes.getD id .no).level=l:=h.1.2;omega
theorem Sm.pair (S:Sm r t P T) (ha:Nr T a l A) (hb:Nr T b l B) (hl:l≤44) (hp:P (l+1) (A++B)):Sm r t P (T.pair a b).1∧Nr (T.pair a b).1 (T.pair a b).2 (l+1) (A++B)∧Ext T (T.pair a b).1:=by
  obtain⟨g,h1,h2,_,_,h3⟩:=sea_pair_law T S.i a b ha.1.1 hb.1.1 (by rw[ha.1.2,hb.1.2]) (by rw[ha.1.2];omega)
  rw[ha.1.2] at h2
  rw[ha.2,hb.2] at h3
  exact⟨S.grow g (pair_new T a b) (by rw[h2,h3];exact hp),⟨⟨h1,h2⟩,h3⟩,g.ext⟩
theorem rws_row (h:(T.nd id).level=0):T.rws id=[(T.nd id).row]:=by unfold SeaD.rws;rw[h];rfl
theorem Sm.row (S:Sm r t P T) {x:ByteArray} (hx:RowOkB T x) (hp:P 0 [x]):Sm r t P (T.row x).1∧Nr (T.row x).1 (T.row x).2 0 [x]∧Ext T (T.row x).1:=by
  obtain⟨g,h1,h2,_⟩:=sea_row_law T S.i x hx
  have hl:((T.row x).1.nd (T.row x).2).level=0:=by rw[h2]
  have hr:(T.row x).1.rws (T.row x).2=[x]:=by rw[rws_row hl,h2]
  exact⟨S.grow g (row_new T x) (by rw[hl,hr];exact hp),⟨⟨h1,hl⟩,hr⟩,g.ext⟩
theorem Nr.row {x:ByteArray} (h:Nr T id 0 [x]):(T.nd id).row=x:=by
  have h2:=h.2
  rw[rws_row h.1.2] at h2
  injection h2
theorem Sm.line (S:Sm r t P T) {x y z:ByteArray} (ha:Nr T a 0 [x]) (hb:Nr T b 0 [y]) (hc:Nr T c 0 [z]) (hp:P 0 [lineR r t x y z]):Sm r t P (T.line a b c).1∧Nr (T.line a b c).1 (T.line a b c).2 0 [lineR r t x y z]∧Ext T (T.line a b c).1:=by
  obtain⟨g,h1,h2,h3⟩:=sea_line_law T S.K S.i a b c ha.1.1 hb.1.1 hc.1.1 ha.1.2 hb.1.2 hc.1.2
  rw[ha.row,hb.row,hc.row,S.hr,S.ht] at h3
  have hr:(T.line a b c).1.rws (T.line a b c).2=[lineR r t x y z]:=by rw[rws_row h2,h3]
  exact⟨S.grow g (line_new T a b c) (by rw[h2,hr];exact hp),⟨⟨h1,h2⟩,hr⟩,g.ext⟩
theorem Sm.kids (S:Sm r t P T) (h:Nr T id (l+1) (A++B)) (ha:A.length=2^l):Nr T (T.nd id).a l A∧Nr T (T.nd id).b l B:=by
  have hp:0<(T.nd id).level:=by rw[h.1.2];omega
  obtain⟨h1,h2,h3,h4⟩:=S.i.kids h.1.1 hp
  rw[h.1.2] at h3 h4
  have h5:=rws_kids S.i h.1.1 hp
  rw[h.2] at h5
  obtain⟨e1,e2⟩:=List.append_inj h5 (by rw[ha,SeaD.rws_len];congr 1;omega)
  exact⟨⟨⟨h1,by omega⟩,e1.symm⟩,⟨⟨h2,by omega⟩,e2.symm⟩⟩
theorem two_rep (z:ByteArray) (l:Nat):List.replicate (2^l) z++List.replicate (2^l) z=List.replicate (2^(l+1)) z:=by
  rw[List.replicate_append_replicate,Nat.pow_succ,Nat.mul_two]
theorem Sm.zrow (S:Sm r t P T):T.zrow=zrowT t:=by unfold SeaD.zrow zrowT;rw[S.ht]
theorem Sm.zero (S:Sm r t P T):∀ (l:Nat),l≤45→(∀ i,i≤l→P i (List.replicate (2^i) (zrowT t)))→Sm r t P (T.zero l).1∧Nr (T.zero l).1 (T.zero l).2 l (List.replicate (2^l) (zrowT t))∧Ext T (T.zero l).1
  | 0,_,hz=>by
    have h:=S.row (x:=T.zrow) S.K.zrow (by rw[S.zrow];exact hz 0 (Nat.le_refl _))
    rw[S.zrow] at h
    unfold SeaD.zero
    rw[S.zrow]
    exact h
  | l+1,hl,hz=>by
    obtain⟨S1,N1,e1⟩:=Sm.zero S l (by omega) fun i h=>hz i (by omega)
    obtain⟨S2,N2,e2⟩:=S1.pair N1 N1 (by omega) (by rw[two_rep];exact hz _ (Nat.le_refl _))
    rw[two_rep] at N2
    exact⟨S2,N2,e1.trans e2⟩
theorem can_uniq (hi:Inv T) (hc:Can T):∀ (l:Nat) {id b:Nat},Lv T id l→Lv T b l→T.rws id=T.rws b→id=b
  | 0,id,b,h1,h2,e=>by
    rw[rws_row h1.2,rws_row h2.2] at e
    injection e with e
    have a1:=hc.row id h1.1 h1.2
    have a2:=hc.row b h2.1 h2.2
    rw[e,a2] at a1
    exact (Option.some.inj a1).symm
  | l+1,id,b,h1,h2,e=>by
    have p1:0<(T.nd id).level:=by rw[h1.2];omega
    have p2:0<(T.nd b).level:=by rw[h2.2];omega
    obtain⟨a1,a2,a3,a4⟩:=hi.kids h1.1 p1
    obtain⟨b1,b2,b3,b4⟩:=hi.kids h2.1 p2
    rw[h1.2] at a3 a4
    rw[h2.2] at b3 b4
    rw[rws_kids hi h1.1 p1,rws_kids hi h2.1 p2] at e
    obtain⟨e1,e2⟩:=List.append_inj e (by rw[SeaD.rws_len,SeaD.rws_len];congr 1;omega)
    have k1:=can_uniq hi hc l ⟨a1,by omega⟩ ⟨b1,by omega⟩ e1
    have k2:=can_uniq hi hc l ⟨a2,by omega⟩ ⟨b2,by omega⟩ e2
    have c1:=hc.pair id h1.1 p1
    have c2:=hc.pair b h2.1 p2
    rw[k1,k2,c2] at c1
    exact (Option.some.inj c1).symm
end
def gw (r:RuleD) (t:TopoD) (f:Int→ByteArray) (s:Nat) (p:Int) (l:Nat):List ByteArray:=wn (genF (lineR r t) f s) p (2^l)
structure Wk (r:RuleD) (t:TopoD) (f:Int→ByteArray) (o:Int) (k n:Nat) (P:Nat→List ByteArray→Prop):Prop where
  win:∀ l s p,s≤n→o≤p→p+((2^l:Nat):Int)≤o+((2^k:Nat):Int)→P l (gw r t f s p l)
  zer:∀ l,l≤k→P l (List.replicate (2^l) (zrowT t))
section
variable {r:RuleD} {t:TopoD} {f:Int→ByteArray} {o:Int} {k n:Nat} {P:Nat→List ByteArray→Prop} {T U:SeaD} {id a b c l s j:Nat} {p q:Int}
theorem p2 (l:Nat):((2^(l+1):Nat):Int)=2*((2^l:Nat):Int):=by rw[Nat.pow_succ];omega
theorem p2_pos (l:Nat):0<((2^l:Nat):Int):=by have:=Nat.two_pow_pos l;omega
theorem gw_len:(gw r t f s p l).length=2^l:=wn_len _ _ _
theorem gw_app (hq:q=p+((2^l:Nat):Int)):gw r t f s p l++gw r t f s q l=gw r t f s p (l+1):=by
  subst hq;unfold gw;rw[wn_app,Nat.pow_succ,Nat.mul_two]
theorem Sm.kidsW (S:Sm r t P T) (h:Nr T id (l+1) (gw r t f s p (l+1))):Nr T (T.nd id).a l (gw r t f s p l)∧Nr T (T.nd id).b l (gw r t f s (p+((2^l:Nat):Int)) l):=by
  rw[← gw_app rfl] at h
  exact S.kids h gw_len
theorem Sm.pairW (S:Sm r t P T) (W:Wk r t f o k n P) (ha:Nr T a l (gw r t f s p l)) (hb:Nr T b l (gw r t f s q l)) (hq:q=p+((2^l:Nat):Int)) (hl:l≤44) (hs:s≤n) (ho:o≤p) (hk:p+2*((2^l:Nat):Int)≤o+((2^k:Nat):Int)):Sm r t P (T.pair a b).1∧Nr (T.pair a b).1 (T.pair a b).2 (l+1) (gw r t f s p (l+1))∧Ext T (T.pair a b).1:=by
  have h:=S.pair ha hb hl (by rw[gw_app hq];exact W.win _ _ _ hs ho (by rw[p2];exact hk))
  rw[gw_app hq] at h
  exact h
theorem gw_zero:gw r t f s p 0=[genF (lineR r t) f s p]:=wn_one _ _
theorem Sm.lineW (S:Sm r t P T) (W:Wk r t f o k n P) (ha:Nr T a 0 (gw r t f s (p-1) 0)) (hb:Nr T b 0 (gw r t f s p 0)) (hc:Nr T c 0 (gw r t f s (p+1) 0)) (hs:s+1≤n) (ho:o≤p) (hk:p+1≤o+((2^k:Nat):Int)):Sm r t P (T.line a b c).1∧Nr (T.line a b c).1 (T.line a b c).2 0 (gw r t f (s+1) p 0)∧Ext T (T.line a b c).1:=by
  rw[gw_zero] at ha hb hc
  have h:=S.line ha hb hc (by have:=W.win 0 (s+1) p hs ho hk;rw[gw_zero] at this;exact this)
  rw[gw_zero]
  exact h
theorem Sm.midOf {fu:Nat} (S:Sm r t P T) (N:Nr T id (l+2) (gw r t f s p (l+2))) (hf:l+2≤fu+1) (hj:j≤l) (hp:∀ q,q<(SeaD.mid fu T id j).1.nodes.length→P ((SeaD.mid fu T id j).1.nd q).level ((SeaD.mid fu T id j).1.rws q)) :
    Sm r t P (SeaD.mid fu T id j).1∧Nr (SeaD.mid fu T id j).1 (SeaD.mid fu T id j).2 (l+1) (gw r t f (s+2^j) (p+((2^l:Nat):Int)) (l+1))∧Ext T (SeaD.mid fu T id j).1:=by
  have m:=sea_mid_law fu T id j S.K S.i N.1.1 (by rw[N.1.2];omega) (by rw[N.1.2];omega) (by rw[N.1.2];omega)
  have h1:=m.lev
  rw[N.1.2] at h1
  have e:=m.g.ext
  have h2:=m.rws
  rw[N.2,S.hr,S.ht] at h2
  unfold gw at h2
  rw[mid_wn l j hj,← genF_add] at h2
  exact⟨⟨S.K.of_ext e,m.g.inv,e.can S.c,e.r.trans S.hr,e.t.trans S.ht,hp⟩,⟨⟨m.lt,by omega⟩,h2⟩,e⟩
set_option maxHeartbeats 1000000 in
theorem Sm.mid (W:Wk r t f o k n P):∀ (fu:Nat) {T:SeaD} {id j l s:Nat} {p:Int},Sm r t P T→Nr T id (l+2) (gw r t f s p (l+2))→l+2≤fu+1→j≤l→s+2^j≤n→o≤p→p+((2^(l+2):Nat):Int)≤o+((2^k:Nat):Int)→
    Sm r t P (SeaD.mid fu T id j).1∧Nr (SeaD.mid fu T id j).1 (SeaD.mid fu T id j).2 (l+1) (gw r t f (s+2^j) (p+((2^l:Nat):Int)) (l+1))∧Ext T (SeaD.mid fu T id j).1:=by
  intro fu
  induction fu with
  | zero=>intro T id j l s p S N hf;exact absurd hf (by omega)
  | succ fu ih=>
    intro T id j l s p S N hf hj hn ho hk
    have h45:=S.lev N
    have hsn:s≤n:=Nat.le_trans (Nat.le_add_right _ _) hn
    have hj0:0<2^j:=Nat.two_pow_pos j
    refine S.midOf N hf hj ?_
    unfold SeaD.mid
    cases hm:mget T.leaps (id,j) with
    | some o=>exact S.p
    | none=>
      dsimp only
      have key:∀ x:SeaD × Nat,Sm r t P x.1→∀ q,q<({x.1 with leaps:=mput x.1.leaps (id,j) x.2}:SeaD).nodes.length→P (({x.1 with leaps:=mput x.1.leaps (id,j) x.2}:SeaD).nd q).level (({x.1 with leaps:=mput x.1.leaps (id,j) x.2}:SeaD).rws q):=fun x h=>h.p
      refine key _ ?_
      clear key
      rw[show (T.nd id).level=l+2 from N.1.2]
      obtain⟨Na,Nb⟩:=S.kidsW N
      obtain⟨Naa,Nab⟩:=S.kidsW Na
      obtain⟨Nba,Nbb⟩:=S.kidsW Nb
      generalize (T.nd id).a=ia at *
      generalize (T.nd id).b=ib at *
      generalize (T.nd ia).a=iaa at *
      generalize (T.nd ia).b=iab at *
      generalize (T.nd ib).a=iba at *
      generalize (T.nd ib).b=ibb at *
      have q1:=p2 l
      have q2:=p2 (l+1)
      have q0:=p2_pos l
      rw[show l+1+1=l+2 from rfl] at q2
      by_cases hl:l=0
      · subst hl
        obtain rfl:j=0:=by omega
        rw[if_pos rfl]
        have e0:((2^0:Nat):Int)=1:=rfl
        have e1:((2^(0+1):Nat):Int)=2:=rfl
        rw[e0] at Nab Nbb
        rw[e1] at Nba Nbb
        rw[e0] at q1 q0
        rw[e1] at q2
        rw[q2] at hk
        obtain⟨S1,N1,x1⟩:=S.lineW (p:=p+1) W (by rw[show p+1-1=p by omega];exact Naa) Nab (by rw[show p+1+1=p+2 by omega];exact Nba) hn (by omega) (by omega)
        obtain⟨S2,N2,x2⟩:=S1.lineW (p:=p+2) W (by rw[show p+2-1=p+1 by omega];exact Nab.up S.i x1) (Nba.up S.i x1) (by rw[show p+2+1=p+2+1 by omega];exact Nbb.up S.i x1) hn (by omega) (by omega)
        obtain⟨S3,N3,x3⟩:=S2.pairW W (N1.up S1.i x2) N2 (by rw[e0];omega) (by omega) hn (by omega) (by rw[e0];omega)
        exact S3
      · obtain⟨l,rfl⟩:∃ m,l=m+1:=⟨l-1,by omega⟩
        have q3:=p2 l
        have q4:=p2_pos l
        rw[if_neg (by omega)]
        rw[q2,q1,q3] at hk
        rw[q1,q3] at Nb Nba Nbb
        rw[q3] at Nab
        generalize hH:((2^l:Nat):Int)=H at *
        obtain⟨Sp,Np,xp⟩:=S.pairW W Nab Nba (by rw[q3];omega) (by omega) (by omega) (by omega) (by rw[q3];omega)
        by_cases hh:j+2=l+1+2
        · rw[if_pos hh]
          obtain rfl:j=l+1:=by omega
          have hj2:2^(l+1)=2^l+2^l:=by rw[Nat.pow_succ];omega
          rw[hj2] at hn
          rw[show l+1-1=l by omega]
          obtain⟨Sx,Nx,xx⟩:=ih (j:=l) Sp (Na.up S.i xp) (by omega) (by omega) (by omega) ho (by rw[q1,q3];omega)
          obtain⟨Sy,Ny,xy⟩:=ih (j:=l) Sx (Np.up Sp.i xx) (by omega) (by omega) (by omega) (by omega) (by rw[q1,q3];omega)
          obtain⟨Sz,Nz,xz⟩:=ih (j:=l) Sy (((Nb.up S.i xp).up Sp.i xx).up Sx.i xy) (by omega) (by omega) (by omega) (by omega) (by rw[q1,q3];omega)
          rw[hH] at Nx Ny Nz
          obtain⟨Sq,Nq,xq⟩:=Sz.pairW W ((Nx.up Sx.i xy).up Sy.i xz) (Ny.up Sy.i xz) (by rw[q3];omega) (by omega) (by omega) (by omega) (by rw[q3];omega)
          obtain⟨Su,Nu,xu⟩:=ih (j:=l) Sq Nq (by omega) (by omega) (by omega) (by omega) (by rw[q1,q3];omega)
          obtain⟨Sw,Nw,xw⟩:=Su.pairW W (((Ny.up Sy.i xz).up Sz.i xq).up Sq.i xu) ((Nz.up Sz.i xq).up Sq.i xu) (by rw[q3];omega) (by omega) (by omega) (by omega) (by rw[q3];omega)
          obtain⟨Sv,Nv,xv⟩:=ih (j:=l) Sw Nw (by omega) (by omega) (by omega) (by omega) (by rw[q1,q3];omega)
          rw[hH] at Nu Nv
          obtain⟨Se,Ne,xe⟩:=Sv.pairW W ((Nu.up Su.i xw).up Sw.i xv) Nv (by rw[q3];omega) (by omega) (by omega) (by omega) (by rw[q3];omega)
          exact Se
        · rw[if_neg hh]
          have hjl:j≤l:=by omega
          obtain⟨Sx,Nx,xx⟩:=ih (j:=j) Sp (Na.up S.i xp) (by omega) hjl hn ho (by rw[q1,q3];omega)
          obtain⟨Sy,Ny,xy⟩:=ih (j:=j) Sx (Np.up Sp.i xx) (by omega) hjl hn (by omega) (by rw[q1,q3];omega)
          obtain⟨Sz,Nz,xz⟩:=ih (j:=j) Sy (((Nb.up S.i xp).up Sp.i xx).up Sx.i xy) (by omega) hjl hn (by omega) (by rw[q1,q3];omega)
          rw[hH] at Nx Ny Nz
          obtain⟨_,Nxb⟩:=Sz.kidsW ((Nx.up Sx.i xy).up Sy.i xz)
          obtain⟨Nya,Nyb⟩:=Sz.kidsW (Ny.up Sy.i xz)
          obtain⟨Nza,_⟩:=Sz.kidsW Nz
          rw[hH] at Nxb Nyb
          obtain⟨Su,Nu,xu⟩:=Sz.pairW W Nxb Nya (by rw[hH];omega) (by omega) (by omega) (by omega) (by rw[hH];omega)
          obtain⟨Sv,Nv,xv⟩:=Su.pairW W (Nyb.up Sz.i xu) (Nza.up Sz.i xu) (by rw[hH];omega) (by omega) (by omega) (by omega) (by rw[hH];omega)
          obtain⟨Se,Ne,xe⟩:=Sv.pairW W (Nu.up Su.i xv) Nv (by rw[q3];omega) (by omega) (by omega) (by omega) (by rw[q3];omega)
          exact Se
end
open Go.RowKit Go.Proofs
section
variable {r:RuleD} {t:TopoD} {f:Int→ByteArray} {o:Int} {k n:Nat} {P:Nat→List ByteArray→Prop} {T U:SeaD} {id a b c l s j:Nat} {p q:Int}
theorem Wk.zeros (W:Wk r t f o k n P) (h:l≤k):∀ i,i≤l→P i (List.replicate (2^i) (zrowT t)):=fun i hi=>W.zer i (by omega)
theorem Sm.zeroW (S:Sm r t P T) (W:Wk r t f o k n P) (hl:l≤45) (hk:l≤k) (hz:∀ y,p≤y→y<p+((2^l:Nat):Int)→genF (lineR r t) f s y=zrowT t):Sm r t P (T.zero l).1∧Nr (T.zero l).1 (T.zero l).2 l (gw r t f s p l)∧Ext T (T.zero l).1:=by
  have h:=S.zero l hl (W.zeros hk)
  rw[← wn_const (zrowT t) (genF (lineR r t) f s) p (2^l) hz] at h
  exact h
theorem Sm.build {at0:Int} {rows:List ByteArray} (hr:∀ i,i<rows.length→RowOk2 r t (rows.getD i ByteArray.empty)) (W:Wk r t (bandF t (at0,rows)) o k n P):∀ (l:Nat) {T:SeaD} (left:Int),Sm r t P T→l≤45→l≤k→o≤at0-left→at0-left+((2^l:Nat):Int)≤o+((2^k:Nat):Int)→
    Sm r t P (SeaD.build l T left rows).1∧Nr (SeaD.build l T left rows).1 (SeaD.build l T left rows).2 l (gw r t (bandF t (at0,rows)) 0 (at0-left) l)∧Ext T (SeaD.build l T left rows).1
  | 0,T,left,S,h,hk0,ho,hk=>by
    unfold SeaD.build
    split
    · rename_i hz
      refine S.zeroW W h hk0 fun y h1 h2=>bandF_out y ?_
      have:((2^0:Nat):Int)=1:=rfl
      dsimp only
      omega
    · rename_i hz
      have hi:(-left).toNat<rows.length:=by omega
      have hin:=bandF_in (t:=t) (x:=(at0,rows)) (-left).toNat hi
      dsimp only at hin
      rw[show at0+(((-left).toNat:Nat):Int)=at0-left by omega] at hin
      have hw:=W.win 0 0 (at0-left) (Nat.zero_le _) ho hk
      have e:gw r t (bandF t (at0,rows)) 0 (at0-left) 0=[rows.getD (-left).toNat ByteArray.empty]:=by rw[gw_zero];exact congrArg (fun x=>[x]) hin
      rw[e] at hw ⊢
      exact S.row (by have:=hr _ hi;unfold RowOkB;rw[S.hr,S.ht];exact this) hw
  | l+1,T,left,S,h,hk0,ho,hk=>by
    have q0:=p2 l
    have q1:=p2_pos l
    unfold SeaD.build
    split
    · rename_i hz
      refine S.zeroW W h hk0 fun y h1 h2=>bandF_out y ?_
      dsimp only
      omega
    · rw[q0] at hk
      obtain⟨S1,N1,e1⟩:=Sm.build hr W l left S (by omega) (by omega) ho (by omega)
      obtain⟨S2,N2,e2⟩:=Sm.build hr W l (left-((2^l:Nat):Int)) S1 (by omega) (by omega) (by omega) (by omega)
      obtain⟨S3,N3,e3⟩:=S2.pairW W (N1.up S1.i e2) N2 (by omega) (by omega) (Nat.zero_le _) ho (by omega)
      exact⟨S3,N3,(e1.trans e2).trans e3⟩
theorem Sm.hop {fu lv:Nat} (W:Wk r t f o lv n P) (S:Sm r t P T) (N:Nr T id lv (gw r t f s o lv)) (h2:2≤lv) (hf:lv≤fu+1) (hj:j+2≤lv) (hn:s+2^j≤n)
    (hz:∀ y,y<o+((2^(lv-2):Nat):Int)∨o+3*((2^(lv-2):Nat):Int)≤y→genF (lineR r t) f (s+2^j) y=zrowT t) :
    Sm r t P (SeaD.hop fu lv T id j).1∧Nr (SeaD.hop fu lv T id j).1 (SeaD.hop fu lv T id j).2 lv (gw r t f (s+2^j) o lv)∧Ext T (SeaD.hop fu lv T id j).1:=by
  have h45:=S.lev N
  obtain⟨l,rfl⟩:∃ l,lv=l+2:=⟨lv-2,by omega⟩
  have q0:=p2_pos l
  have q1:=p2 l
  have q2:=p2 (l+1)
  rw[show l+1+1=l+2 from rfl] at q2
  rw[show l+2-2=l by omega] at hz
  obtain⟨Sm1,Nm,em⟩:=Sm.mid W fu S N hf (show j≤l by omega) hn (Int.le_refl _) (Int.le_refl _)
  obtain⟨Na,Nb⟩:=Sm1.kidsW Nm
  obtain⟨Sz,Nz,ez⟩:=Sm1.zeroW (s:=s+2^j) (p:=o) W (l:=l) (by omega) (by omega) fun y _ h=>hz y (.inl h)
  have Nz2:Nr (((SeaD.mid fu T id j).1.zero l).1) ((SeaD.mid fu T id j).1.zero l).2 l (gw r t f (s+2^j) (o+3*((2^l:Nat):Int)) l):=by
   refine⟨Nz.1,Nz.2.trans ?_⟩
   unfold gw
   rw[wn_const (zrowT t) _ o _ fun y _ h=>hz y (.inl h),wn_const (zrowT t) _ _ _ fun y h _=>hz y (.inr h)]
  obtain⟨Sp,Np,ep⟩:=Sz.pairW W Nz (Na.up Sm1.i ez) rfl (by omega) hn (Int.le_refl _) (by omega)
  obtain⟨Sq,Nq,eq⟩:=Sp.pairW W ((Nb.up Sm1.i ez).up Sz.i ep) (Nz2.up Sz.i ep) (by omega) (by omega) hn (by omega) (by omega)
  obtain⟨Sw,Nw,ew⟩:=Sq.pairW W (Np.up Sp.i eq) Nq (by omega) (by omega) hn (Int.le_refl _) (by omega)
  exact⟨Sw,Nw,(((em.trans ez).trans ep).trans eq).trans ew⟩
theorem mod_pow_succ (n J:Nat):n%2^(J+1)=n%2^J+(if n/2^J%2=1 then 2^J else 0):=by
  rw[Nat.pow_succ,Nat.mod_mul]
  split
  · rename_i h;rw[h,Nat.mul_one]
  · rename_i h;rw[show n/2^J%2=0 by omega,Nat.mul_zero]
theorem Sm.hops {fu lv:Nat} (W:Wk r t f o lv n P) {x:SeaD × Nat} (h2:2≤lv) (hf:lv≤fu+1) (S:Sm r t P x.1) (N:Nr x.1 x.2 lv (gw r t f 0 o lv))
    (hz:∀ s,s≤n→∀ y,y<o+((2^(lv-2):Nat):Int)∨o+3*((2^(lv-2):Nat):Int)≤y→genF (lineR r t) f s y=zrowT t):∀ (J:Nat),J+1≤lv→
    Sm r t P (SeaD.hops fu lv n J x).1∧Nr (SeaD.hops fu lv n J x).1 (SeaD.hops fu lv n J x).2 lv (gw r t f (n%2^J) o lv)∧Ext x.1 (SeaD.hops fu lv n J x).1
  | 0,_=>by
    rw[show n%2^0=0 from Nat.mod_one n]
    exact⟨S,N,Ext.refl _⟩
  | J+1,hJ=>by
    obtain⟨S1,N1,e1⟩:=Sm.hops W h2 hf S N hz J (by omega)
    have hm:=mod_pow_succ n J
    have hle:=Nat.mod_le n (2^(J+1))
    unfold SeaD.hops
    by_cases hb:n/2^J%2=1
    · rw[if_pos hb] at hm ⊢
      rw[hm] at hle ⊢
      obtain⟨S2,N2,e2⟩:=Sm.hop W S1 N1 h2 hf (show J+2≤lv by omega) hle (hz _ hle)
      exact⟨S2,N2,e1.trans e2⟩
    · rw[if_neg hb] at hm ⊢
      rw[hm,Nat.add_zero]
      exact⟨S1,N1,e1⟩
def EdgeIs (z:ByteArray) (R:List ByteArray) (last:Bool) (e:Int):Prop:=
  (e=-1∧∀ i,i<R.length→R.getD i ByteArray.empty=z)∨∃ i:Nat,e=(i:Int)∧i<R.length∧R.getD i ByteArray.empty≠z∧∀ j,j<R.length→(if last then i<j else j<i)→R.getD j ByteArray.empty=z
theorem getD_app (A B:List ByteArray) (i:Nat):(A++B).getD i ByteArray.empty=if i<A.length then A.getD i ByteArray.empty else B.getD (i-A.length) ByteArray.empty:=by
  rw[List.getD_eq_getElem?_getD,List.getElem?_append]
  split <;> rw[List.getD_eq_getElem?_getD]
theorem all_rep {z:ByteArray} {R:List ByteArray} (h:∀ i,i<R.length→R.getD i ByteArray.empty=z):R=List.replicate R.length z:=by
  apply List.ext_getElem?
  intro i
  by_cases hi:i<R.length
  · have:=h i hi
    rw[List.getD_eq_getElem?_getD,List.getElem?_eq_getElem hi] at this
    rw[List.getElem?_eq_getElem hi,List.getElem?_replicate,if_pos hi]
    exact congrArg some this
  · rw[List.getElem?_eq_none (by omega),List.getElem?_eq_none (by rw[List.length_replicate];omega)]
theorem rep_get {z:ByteArray} {m i:Nat} (h:i<m):(List.replicate m z).getD i ByteArray.empty=z:=by
  rw[List.getD_eq_getElem?_getD,List.getElem?_replicate,if_pos h];rfl
theorem Sm.edge (hz:∀ i,i≤k→P i (List.replicate (2^i) (zrowT t))) (last:Bool):∀ (fu:Nat) {T:SeaD} {id l:Nat} {R:List ByteArray},Sm r t P T→Nr T id l R→l<fu→l≤k→Sm r t P (SeaD.edge fu T id last).1∧Ext T (SeaD.edge fu T id last).1∧EdgeIs (zrowT t) R last (SeaD.edge fu T id last).2
  | 0,_,_,_,_,_,_,h,_=>absurd h (by omega)
  | fu+1,T,id,l,R,S,N,hf,hk=>by
    have h45:=S.lev N
    unfold SeaD.edge
    dsimp only
    rw[show (T.nd id).level=l from N.1.2]
    obtain⟨S1,N1,e1⟩:=S.zero l h45 fun i hi=>hz i (by omega)
    have hRl:=N.len
    split
    · rename_i hid
      refine⟨S1,e1,.inl ⟨rfl,fun i hi=>?_⟩⟩
      have h2:=(N.up S.i e1).2
      rw[hid,N1.2] at h2
      rw[← h2] at hi ⊢
      rw[List.length_replicate] at hi
      exact rep_get hi
    · rename_i hid
      have hne:R≠List.replicate (2^l) (zrowT t):=fun e=>hid (can_uniq S1.i S1.c l (N.up S.i e1).1 N1.1 (by rw[(N.up S.i e1).2,N1.2,e]))
      split
      · rename_i hl0
        subst hl0
        refine⟨S1,e1,.inr ⟨0,rfl,by rw[hRl];exact Nat.one_pos,fun e=>hne ?_,fun j hj h=>?_⟩⟩
        · rw[all_rep (z:=zrowT t) (R:=R) fun i hi=>by rw[hRl] at hi;obtain rfl:i=0:=(by omega);exact e]
          rw[hRl]
        · rw[hRl] at hj;have:j=0:=by omega
          subst this;cases last <;> exact absurd h (Nat.lt_irrefl _)
      · rename_i hl0
        obtain⟨l,rfl⟩:∃ m,l=m+1:=⟨l-1,by omega⟩
        obtain⟨A,B,rfl,hA⟩:∃ A B,R=A++B∧A.length=2^l:=⟨R.take (2^l),R.drop (2^l),(List.take_append_drop _ _).symm,by rw[List.length_take,hRl,Nat.pow_succ];omega⟩
        have hB:B.length=2^l:=by rw[List.length_append,Nat.pow_succ] at hRl;omega
        have hAB:(A++B).length=2^l+2^l:=by rw[List.length_append];omega
        obtain⟨Na,Nb⟩:=S.kids N hA
        rw[show l+1-1=l by omega]
        have done:(∀ i,i<A.length→A.getD i ByteArray.empty=zrowT t)→(∀ i,i<B.length→B.getD i ByteArray.empty=zrowT t)→False:=fun h1 h2=>hne (by
         rw[all_rep h1,all_rep h2,hA,hB,two_rep])
        cases last
        · simp only[Bool.false_eq_true,if_false]
          obtain⟨S2,e2,E2⟩:=Sm.edge hz false fu S1 (Na.up S.i e1) (by omega) (by omega)
          obtain⟨S3,e3,E3⟩:=Sm.edge hz false fu S2 ((Nb.up S.i e1).up S1.i e2) (by omega) (by omega)
          split
          · rename_i hge
            refine⟨S2,e1.trans e2,.inr ?_⟩
            rcases E2 with ⟨h1,_⟩ | ⟨i,h1,h2,h3,h4⟩
            · omega
            · refine⟨i,by dsimp only;omega,by omega,by rw[getD_app,if_pos h2];exact h3,fun j hj h=>?_⟩
              have h:j<i:=h
              rw[getD_app,if_pos (by omega)]
              exact h4 j (by omega) h
          · rename_i hlt
            refine⟨S3,(e1.trans e2).trans e3,.inr ?_⟩
            rcases E2 with ⟨h1,hA0⟩ | ⟨i,h1,h2,h3,h4⟩
            · rcases E3 with ⟨h5,hB0⟩ | ⟨i,h5,h6,h7,h8⟩
              · exact (done hA0 hB0).elim
              · refine⟨2^l+i,by dsimp only;omega,by omega,by rw[getD_app,if_neg (by omega),hA,Nat.add_sub_cancel_left];exact h7,fun j hj h=>?_⟩
                have h:j<2^l+i:=h
                rw[getD_app]
                split
                · exact hA0 j (by assumption)
                · exact h8 _ (by omega) (show j-A.length<i by omega)
            · omega
        · simp only[if_true]
          obtain⟨S2,e2,E2⟩:=Sm.edge hz true fu S1 (Nb.up S.i e1) (by omega) (by omega)
          obtain⟨S3,e3,E3⟩:=Sm.edge hz true fu S2 ((Na.up S.i e1).up S1.i e2) (by omega) (by omega)
          split
          · rename_i hge
            refine⟨S2,e1.trans e2,.inr ?_⟩
            rcases E2 with ⟨h1,_⟩ | ⟨i,h1,h2,h3,h4⟩
            · omega
            · refine⟨2^l+i,by dsimp only;omega,by omega,by rw[getD_app,if_neg (by omega),hA,Nat.add_sub_cancel_left];exact h3,fun j hj h=>?_⟩
              have h:2^l+i<j:=h
              rw[getD_app,if_neg (by omega)]
              exact h4 _ (by omega) (show i<j-A.length by omega)
          · rename_i hlt
            refine⟨S3,(e1.trans e2).trans e3,.inr ?_⟩
            rcases E2 with ⟨h1,hB0⟩ | ⟨i,h1,h2,h3,h4⟩
            · rcases E3 with ⟨h5,hA0⟩ | ⟨i,h5,h6,h7,h8⟩
              · exact (done hA0 hB0).elim
              · refine⟨i,by dsimp only;omega,by omega,by rw[getD_app,if_pos h6];exact h7,fun j hj h=>?_⟩
                have h:i<j:=h
                rw[getD_app]
                split
                · exact h8 j (by assumption) h
                · exact hB0 _ (by omega)
            · omega
theorem toNat_sub_nat (a:Int) (m:Nat):(a-(m:Int)).toNat=a.toNat-m:=by omega
theorem subL_app (A B:List ByteArray) (a c:Nat):subL (A++B) a c=subL A a c++subL B (a-A.length) (c-A.length):=by
  unfold subL
  rw[List.drop_append,List.take_append,List.length_drop]
  congr 2
  omega
theorem cutD_sub (N:List NodeD):∀ (l id:Nat) (lo hi:Int),cutD N l id lo hi=subL (rwL N l id) lo.toNat hi.toNat
  | 0,id,lo,hi=>by
    unfold cutD rwL
    split
    · unfold subL
      by_cases h:hi≤0
      · rw[show hi.toNat-lo.toNat=0 by omega,List.take_zero]
      · rw[List.drop_eq_nil_of_le (by simp only[List.length_singleton];omega),List.take_nil]
    · unfold subL
      rw[show lo.toNat=0 by omega,List.drop_zero,List.take_of_length_le (by simp only[List.length_singleton];omega)]
  | l+1,id,lo,hi=>by
    unfold cutD
    split
    · unfold subL
      by_cases h:hi≤0
      · rw[show hi.toNat-lo.toNat=0 by omega,List.take_zero]
      · rw[List.drop_eq_nil_of_le (by rw[rwL_len];omega),List.take_nil]
    · rw[cutD_sub N l _ lo hi,cutD_sub N l _ _ _]
      show _=subL (rwL N l _++rwL N l _) _ _
      rw[subL_app,rwL_len,toNat_sub_nat,toNat_sub_nat]
end
open Go.RowKit Go.Proofs
section
variable {r:RuleD} {t:TopoD} {f:Int→ByteArray} {o:Int} {k n:Nat} {P:Nat→List ByteArray→Prop} {T U:SeaD} {id a b c l s j:Nat} {p q:Int}
structure LeapIs (r:RuleD) (t:TopoD) (f:Int→ByteArray) (n:Nat) (o:Int) (L H:Nat) (E G:SeaD × Int):Prop where
  no:E.2<0→∀ y,genF (lineR r t) f n y=zrowT t
  le:0≤E.2→E.2≤G.2
  len:0≤E.2→((cutD G.1.nodes L H E.2 (G.2+1)).length:Int)=G.2+1-E.2
  trm:0≤E.2→Trm t (o+E.2,cutD G.1.nodes L H E.2 (G.2+1))
  band:0≤E.2→bandF t (o+E.2,cutD G.1.nodes L H E.2 (G.2+1))=genF (lineR r t) f n
theorem bandF_wn {g:Int→ByteArray} {p:Int} {m:Nat} (h:∀ y,y<p∨p+(m:Int)≤y→g y=zrowT t):bandF t (p,wn g p m)=g:=by
  funext y
  by_cases hy:p≤y∧y<p+(m:Int)
  · obtain⟨i,rfl⟩:∃ i:Nat,y=p+(i:Int):=⟨(y-p).toNat,by omega⟩
    have e:=bandF_in (t:=t) (x:=(p,wn g p m)) i (by dsimp only;rw[wn_len];omega)
    dsimp only at e
    rw[e,wn_get _ _ _ _ (by omega)]
  · rw[bandF_out y (by dsimp only;rw[wn_len];omega),h y (by omega)]
theorem leap_law {S:SeaD} {at0:Int} {rows:List ByteArray} {L J:Nat} {left:Int} {B H:SeaD × Nat} {E G:SeaD × Int} (HF:LeapF S rows n L J left B H E G) (Ss:Sm r t P S) (hwo:WOk r t)
    (hr:∀ i,i<rows.length→RowOk2 r t (rows.getD i ByteArray.empty)) (hrl:rows.length≤1048576) (hn:1≤n∧n≤68719476736) (W:Wk r t (bandF t (at0,rows)) (at0-left) L n P) :
    Sm r t P (LeapT E G)∧LeapIs r t (bandF t (at0,rows)) n (at0-left) L H.2 E G∧Ext S (LeapT E G):=by
  obtain⟨b5,b40,bJ,b4⟩:=leap_bits hrl hn HF.hL HF.hJ
  obtain⟨l,rfl⟩:∃ l,L=l+2:=⟨L-2,by omega⟩
  have q0:=p2_pos l
  have q1:=p2 l
  have q2:=p2 (l+1)
  rw[show l+1+1=l+2 from rfl] at q2
  have hl:=HF.hl
  rw[show l+2-1=l+1 by omega,q1] at hl
  have b4':4*((rows.length:Int)+2*(n:Int)+4)≤4*((2^l:Nat):Int):=by omega
  have far:∀ s,s≤n→∀ y,y<at0-left+((2^l:Nat):Int)∨at0-left+3*((2^l:Nat):Int)≤y→genF (lineR r t) (bandF t (at0,rows)) s y=zrowT t:=fun s hs y hy=>
   genF_far (a:=at0) (c:=at0+(rows.length:Int)) (line_zero hwo) (fun y hy=>bandF_out y hy) s y (by omega)
  obtain⟨S1,N1,e1⟩:=Sm.build hr W (l+2) left Ss (by omega) (Nat.le_refl _) (Int.le_refl _) (Int.le_refl _)
  rw[HF.hB] at S1 N1 e1
  obtain⟨S2,N2,e2⟩:=Sm.hops (fu:=l+2) W (by omega) (by omega) S1 N1 (by rw[show l+2-2=l by omega];exact far) J (by omega)
  rw[HF.hH] at S2 N2 e2
  rw[Nat.mod_eq_of_lt HF.hJ.1] at N2
  obtain⟨S3,e3,E3⟩:=Sm.edge (W.zeros (Nat.le_refl _)) false (l+2+1) S2 N2 (by omega) (Nat.le_refl _)
  rw[HF.hE] at S3 e3 E3
  obtain⟨S4,e4,E4⟩:=Sm.edge (W.zeros (Nat.le_refl _)) true (l+2+1) S3 (N2.up S2.i e3) (by omega) (Nat.le_refl _)
  rw[HF.hG] at S4 e4 E4
  have N4:=(N2.up S2.i e3).up S3.i e4
  refine⟨by unfold LeapT;split <;> assumption,?_,by unfold LeapT;split;exact (e1.trans e2).trans e3;exact ((e1.trans e2).trans e3).trans e4⟩
  have hget:∀ i,i<2^(l+2)→(gw r t (bandF t (at0,rows)) n (at0-left) (l+2)).getD i ByteArray.empty=genF (lineR r t) (bandF t (at0,rows)) n (at0-left+(i:Int)):=fun i hi=>wn_get _ _ _ _ hi
  have hlen:(gw r t (bandF t (at0,rows)) n (at0-left) (l+2)).length=2^(l+2):=gw_len
  have farn:=far n (Nat.le_refl _)
  have hgw:gw r t (bandF t (at0,rows)) n (at0-left) (l+2)=wn (genF (lineR r t) (bandF t (at0,rows)) n) (at0-left) (2^(l+2)):=rfl
  generalize hgen:genF (lineR r t) (bandF t (at0,rows)) n=g at *
  generalize gw r t (bandF t (at0,rows)) n (at0-left) (l+2)=R at *
  generalize at0-left=o at *
  have main:0≤E.2→∃ i i':Nat,E.2=(i:Int)∧G.2=(i':Int)∧i≤i'∧i'<2^(l+2)∧g (o+(i:Int))≠zrowT t∧g (o+(i':Int))≠zrowT t∧(∀ j,j<2^(l+2)→j<i→g (o+(j:Int))=zrowT t)∧(∀ j,j<2^(l+2)→i'<j→g (o+(j:Int))=zrowT t):=by
   intro h0
   rcases E3 with ⟨h1,_⟩ | ⟨i,h1,h2,h3,h4⟩
   · omega
   · rw[hlen] at h2 h4
     rcases E4 with ⟨h5,h6⟩ | ⟨i',h5,h6,h7,h8⟩
     · exact absurd (h6 i (by rw[hlen];exact h2)) h3
     · rw[hlen] at h6 h8
       have hle:i≤i':=by
        rcases Nat.lt_or_ge i' i with hlt | hge
        · exact absurd (h8 i h2 hlt) h3
        · exact hge
       rw[hget i h2] at h3
       rw[hget i' h6] at h7
       exact⟨i,i',h1,h5,hle,h6,h3,h7,fun j hj hji=>by have:=h4 j hj hji;rwa [hget j hj] at this,fun j hj hji=>by have:=h8 j hj hji;rwa [hget j hj] at this⟩
  have cut:0≤E.2→∃ i i':Nat,E.2=(i:Int)∧G.2=(i':Int)∧i≤i'∧i'<2^(l+2)∧cutD G.1.nodes (l+2) H.2 E.2 (G.2+1)=wn g (o+(i:Int)) (i'+1-i)∧g (o+(i:Int))≠zrowT t∧g (o+(i':Int))≠zrowT t∧(∀ j,j<2^(l+2)→j<i→g (o+(j:Int))=zrowT t)∧(∀ j,j<2^(l+2)→i'<j→g (o+(j:Int))=zrowT t):=by
   intro h0
   obtain⟨i,i',h1,h2,h3,h4,h5⟩:=main h0
   refine⟨i,i',h1,h2,h3,h4,?_,h5⟩
   have hrw:rwL G.1.nodes (l+2) H.2=R:=by
    have:=N4.2
    unfold SeaD.rws at this
    rwa [N4.1.2] at this
   rw[cutD_sub,hrw,hgw,h1,h2,show ((i:Int)).toNat=i by omega,show ((i':Int)+1).toNat=i'+1 by omega,wn_sub _ _ _ _ _ (by omega)]
  refine⟨fun h0 y=>?_,fun h0=>?_,fun h0=>?_,fun h0=>?_,fun h0=>?_⟩
  · rw[hgen]
    rcases E3 with ⟨h1,h2⟩ | ⟨i,h1,h2,_⟩
    · by_cases hy:o≤y∧y<o+((2^(l+2):Nat):Int)
      · obtain⟨i,rfl⟩:∃ i:Nat,y=o+(i:Int):=⟨(y-o).toNat,by omega⟩
        rw[← hget i (by omega)]
        exact h2 i (by rw[hlen];omega)
      · exact farn y (by omega)
    · omega
  · obtain⟨i,i',h1,h2,h3,_⟩:=main h0;omega
  · obtain⟨i,i',h1,h2,h3,h4,h5,_⟩:=cut h0
    rw[h5,wn_len];omega
  · obtain⟨i,i',h1,h2,h3,h4,h5,h6,h7,_⟩:=cut h0
    rw[h5]
    refine⟨fun h=>?_,fun h=>?_,fun h=>?_⟩
    · dsimp only at h;rw[wn_len] at h;omega
    · dsimp only at h ⊢
      rw[wn_get _ _ _ _ (by omega),show o+(i:Int)+((0:Nat):Int)=o+(i:Int) by omega];exact h6
    · dsimp only at h ⊢
      rw[wn_len,wn_get _ _ _ _ (by omega),show o+(i:Int)+((i'+1-i-1:Nat):Int)=o+(i':Int) by omega];exact h7
  · obtain⟨i,i',h1,h2,h3,h4,h5,h6,h7,h8,h9⟩:=cut h0
    rw[h5,h1,hgen]
    refine bandF_wn fun y hy=>?_
    by_cases hy2:o≤y∧y<o+((2^(l+2):Nat):Int)
    · obtain⟨j,rfl⟩:∃ j:Nat,y=o+(j:Int):=⟨(y-o).toNat,by omega⟩
      rcases hy with hy | hy
      · exact h8 j (by omega) (by omega)
      · exact h9 j (by omega) (by omega)
    · exact farn y (by omega)
theorem pigeon {α:Type} [DecidableEq α]:∀ (m:Nat) (C:List α) (g:Nat→α),(∀ i,i<m→g i∈C)→(∀ i,i<m→∀ j,j<m→g i=g j→i=j)→m≤C.length
  | 0,_,_,_,_=>Nat.zero_le _
  | m+1,C,g,h1,h2=>by
    have hm:=h1 m (by omega)
    have h:=pigeon m (C.erase (g m)) g (fun i hi=>(List.mem_erase_of_ne (fun e=>by have:=h2 i (by omega) m (by omega) e;omega)).2 (h1 i (by omega))) fun i hi j hj=>h2 i (by omega) j (by omega)
    rw[List.length_erase_of_mem hm] at h
    have:0<C.length:=List.length_pos_of_mem hm
    omega
theorem flat_len {α β:Type} (g:α→List β) (c:Nat):∀ (l:List α),(∀ a∈l,(g a).length=c)→(l.flatMap g).length=l.length*c
  | [],_=>by simp
  | x::l,h=>by
    rw[List.flatMap_cons,List.length_append,flat_len g c l fun a ha=>h a (List.mem_cons_of_mem _ ha),h x List.mem_cons_self,List.length_cons,Nat.succ_mul,Nat.add_comm]
def PK (r:RuleD) (t:TopoD) (f:Int→ByteArray) (o:Int) (k n:Nat) (l:Nat) (R:List ByteArray):Prop:=
  (l≤k∧R=List.replicate (2^l) (zrowT t))∨∃ s p,s≤n∧o≤p∧p+((2^l:Nat):Int)≤o+((2^k:Nat):Int)∧R=gw r t f s p l
theorem PK.wk:Wk r t f o k n (PK r t f o k n):=⟨fun l s p h1 h2 h3=>.inr ⟨s,p,h1,h2,h3,rfl⟩,fun l h=>.inl ⟨h,rfl⟩⟩
def candL (r:RuleD) (t:TopoD) (f:Int→ByteArray) (o:Int) (k n:Nat):List (Nat × List ByteArray):=
  (List.range (k+1)).flatMap fun l=>(l,List.replicate (2^l) (zrowT t))::(List.range (n+1)).flatMap fun s=>(List.range (2^k)).map fun q:Nat=>(l,gw r t f s (o+(q:Int)) l)
theorem candL_len:(candL r t f o k n).length=(k+1)*((n+1)*2^k+1):=by
  unfold candL
  rw[flat_len _ ((n+1)*2^k+1),List.length_range]
  intro l _
  rw[List.length_cons,flat_len _ (2^k),List.length_range]
  intro s _
  rw[List.length_map,List.length_range]
theorem Sm.count (S:Sm r t (PK r t f o k n) T):T.nodes.length≤(k+2)*2^k*(n+1):=by
  have h:=pigeon T.nodes.length (candL r t f o k n) (fun id=>((T.nd id).level,T.rws id)) (fun id hid=>?_) (fun i hi j hj e=>?_)
  · rw[candL_len] at h
    have hk:k<2^k:=Nat.lt_two_pow_self
    have hx:2^k≤(n+1)*2^k:=Nat.le_mul_of_pos_left _ (by omega)
    have e:(k+2)*2^k*(n+1)=(k+2)*((n+1)*2^k):=by rw[Nat.mul_assoc,Nat.mul_comm (2^k)]
    rw[e]
    generalize (n+1)*2^k=X at *
    rw[Nat.mul_succ] at h
    rw[show k+2=(k+1)+1 by omega,Nat.succ_mul]
    omega
  · unfold candL
    rcases S.p id hid with ⟨h1,h2⟩ | ⟨s,p,h1,h2,h3,h4⟩
    · exact List.mem_flatMap.2 ⟨(T.nd id).level,List.mem_range.2 (by omega),by rw[h2];exact List.mem_cons_self⟩
    · have q0:=p2_pos (T.nd id).level
      have hlk:(T.nd id).level≤k:=pow_le_of (by omega)
      refine List.mem_flatMap.2 ⟨(T.nd id).level,List.mem_range.2 (show (T.nd id).level<k+1 by omega),List.mem_cons_of_mem _ (List.mem_flatMap.2 ⟨s,List.mem_range.2 (by omega),List.mem_map.2 ⟨(p-o).toNat,List.mem_range.2 (by omega),?_⟩⟩)⟩
      rw[h4,show o+(((p-o).toNat:Nat):Int)=p by omega]
  · injection e with e1 e2
    exact can_uniq S.i S.c _ ⟨hi,rfl⟩ ⟨hj,e1.symm⟩ e2
end
open Go.RowKit Go.Proofs
structure SeaQ (r:RuleD) (t:TopoD) (most:Nat) (S:SeaD):Prop where
  K:SeaK S
  i:Inv S
  c:Can S
  hr:S.r=r
  ht:S.t=t
  hm:S.most=most
  told:S.told=[]
  kept:S.kept=[]
  len:S.nodes.length≤S.most
theorem can_new (r:RuleD) (t:TopoD) (most:Nat):Can (SeaD.new r t most):=⟨fun id h=>absurd h (Nat.not_lt_zero _),fun id h=>absurd h (Nat.not_lt_zero _)⟩
theorem SeaQ.new {r:RuleD} {t:TopoD} {most:Nat} (hw:r.Wd) (hwt:t.Wd) (hwo:WOk r t) (hm:most≤1048576):SeaQ r t most (SeaD.new r t most):=
  let h:=NInv.new hw hwt hwo hm
  ⟨h.K,h.i,can_new r t most,rfl,rfl,rfl,rfl,rfl,Nat.zero_le _⟩
theorem SeaQ.ext {r:RuleD} {t:TopoD} {most:Nat} {S T:SeaD} (Q:SeaQ r t most S) (e:Ext S T) (i:Inv T) (h:T.nodes.length≤S.most):SeaQ r t most T:=
  ⟨Q.K.of_ext e,i,e.can Q.c,e.r.trans Q.hr,e.t.trans Q.ht,e.most.trans Q.hm,e.told.trans Q.told,e.kept.trans Q.kept,by rw[e.most];exact h⟩
theorem SeaQ.fresh {r:RuleD} {t:TopoD} {most:Nat} {S:SeaD} (Q:SeaQ r t most S):SeaQ r t most S.fresh0:=by
  have h:=Q.K.fresh0
  exact⟨h.1,h.2,can_new _ _ _,Q.hr,Q.ht,Q.hm,rfl,rfl,Nat.zero_le _⟩
theorem SeaQ.sm {r:RuleD} {t:TopoD} {most:Nat} {S:SeaD} (Q:SeaQ r t most S):Sm r t (fun _ _=>True) S:=⟨Q.K,Q.i,Q.c,Q.hr,Q.ht,fun _ _=>trivial⟩
theorem SeaQ.sm0 {r:RuleD} {t:TopoD} {most:Nat} {S:SeaD} (Q:SeaQ r t most S) (P:Nat→List ByteArray→Prop):Sm r t P S.fresh0:=⟨Q.fresh.K,Q.fresh.i,Q.fresh.c,Q.hr,Q.ht,fun id h=>absurd h (Nat.not_lt_zero _)⟩
theorem runB_nil {r:RuleD} {t:TopoD} {x:Int × List ByteArray} (h:x.2.length=0):∀ n,runB r t x n=x
  | 0=>rfl
  | n+1=>by
    show laterB r t (runB r t x n)=x
    rw[runB_nil h n]
    obtain⟨a,ls⟩:=x
    exact laterB_nil h
theorem farY_of {y:Int} (h1:-1099511627776≤y) (h2:y≤1099511627776):farY y=false:=decide_eq_false (by omega)
section
variable {r:RuleD} {t:TopoD} {most:Nat} {S S':SeaD} {W at0:Int} {ls:List ByteArray} {n:Nat}
theorem seaL_law {S0:SeaD} (Q:SeaQ r t most S0) {x:Int × List ByteArray} (hx:Trm t x) (hxo:∀ i,i<x.2.length→RowOk2 r t (x.2.getD i ByteArray.empty)) (hrl:x.2.length≤1048576) (hn:1≤n∧n≤68719476736) {e q:Int} {rows':List ByteArray} (h:SeaL0 S0 x.2 n x.1 e q rows' S') :
    SeaQ r t most S'∧((e=0∧(q,rows')=runB r t x n)∨(e=4∧1048576<t.w*((runB r t x n).2.length:Int))):=by
  obtain⟨L,J,left,B,H,E,G,HF,hq⟩:=h
  have hwo:WOk r t:=by have:=Q.K.ok;rwa [Q.hr,Q.ht] at this
  have hw:r.Wd:=by have:=Q.K.rw;rwa [Q.hr] at this
  have hto:=hwo.2.1
  unfold TopoD.Ok at hto
  obtain⟨S1,LI,e1⟩:=leap_law (at0:=x.1) HF Q.sm hwo hxo hrl hn ⟨fun _ _ _ _ _ _=>trivial,fun _ _=>trivial⟩
  have hb:=bandF_run hw hwo hxo n
  have ht:=trm_run (r:=r) hx n
  have key:0≤E.2→(x.1-left+E.2,cutD G.1.nodes L H.2 E.2 (G.2+1))=runB r t x n:=fun h0=>trm_uniq (LI.trm h0) ht ((LI.band h0).trans hb.symm)
  rcases hq with ⟨h1,h2,rfl,rfl,rfl,rfl⟩ | ⟨h1,h2,h3,rfl,rfl,rfl,rfl⟩ | ⟨h1,h2,h3,rfl,rfl,rfl,rfl⟩
  · have hL:LeapT E G=E.1:=if_pos h1
    rw[hL] at S1 e1
    refine⟨Q.ext e1 S1.i h2,.inl ⟨rfl,?_⟩⟩;refine trm_uniq ⟨fun _=>rfl,fun h=>absurd h (Nat.not_lt_zero _),fun h=>absurd h (Nat.not_lt_zero _)⟩ ht ?_
    rw[hb,bandF_nil rfl]
    funext y
    exact (LI.no h1 y).symm
  · have hL:LeapT E G=G.1:=if_neg (by omega)
    rw[hL] at S1 e1
    refine⟨Q.ext e1 S1.i h2,.inr ⟨rfl,?_⟩⟩
    have h4:=LI.len h1
    have h5:=congrArg (fun p:Int × List ByteArray=>(p.2.length:Int)) (key h1)
    dsimp only at h5
    rw[h4] at h5
    rw[Q.ht,← h4,h4,h5,Int.ediv_lt_iff_lt_mul (by omega),Int.mul_comm] at h3
    exact h3
  · have hL:LeapT E G=G.1:=if_neg (by omega)
    rw[hL] at S1 e1
    exact⟨Q.ext e1 S1.i h2,.inl ⟨rfl,key h1⟩⟩
theorem seaR_law (Q:SeaQ r t most S) {o:Int × Int × List ByteArray × Int} (hls:ls.length≤1048576) (hn:n≤68719476736) (h:SeaR S W at0 ls n S' o) :
    SeaQ r t most S'∧(o=winR r t W at0 ls n∨(o=(0,0,[],4)∧(t.w*((ls.length:Int)+2*(n:Int))≤1048576→mayE r t W at0 ls=0∧(winR r t W at0 ls n).2.2.2=0∧∃ L,IsLen (4*((trimB at0 ls).2.length+2*n+4)-1) L∧most<(L+2)*2^L*(n+1)))):=by
  have hwo:WOk r t:=by have:=Q.K.ok;rwa [Q.hr,Q.ht] at this
  have hw:r.Wd:=by have:=Q.K.rw;rwa [Q.hr] at this
  have hto:=hwo.2.1
  unfold TopoD.Ok at hto
  unfold SeaR at h
  rw[Q.hr,Q.ht] at h
  rcases h with ⟨hm,rfl,rfl⟩ | ⟨hm,h⟩
  · exact⟨Q,.inl (winR_e hm).symm⟩
  · obtain⟨_,hro,hat⟩:=mayE_0 hm
    have hxo:=trimB_ok at0 hro
    have hta:=trimB_at (at0:=at0) (ls:=ls)
    have hxl:=trimB_len at0 ls
    have htx:Trm t (trimB at0 ls):=trm_trim at0 ls
    rcases h with ⟨h1,rfl,rfl⟩ | ⟨h0,h1,rfl,rfl⟩ | ⟨h0,h1,h2,h3,e,q,rows',hL,rfl⟩
    · refine⟨Q,.inl ?_⟩
      rcases h1 with h1 | ⟨rfl,h1,h2⟩
      · rw[winR_0 hm (.inl h1),runB_nil h1]
      · have h0:=trimB_at0 (at0:=at0) (ls:=ls)
        rw[winR_0 (n:=0) hm (.inr ⟨farY_of (by omega) (by omega),farY_of (by omega) (by omega)⟩)];rfl
    · refine⟨Q,.inl ?_⟩
      have h4:=hta h0
      have h5:=hat (by omega)
      refine (winR_5 hm h0 ?_).symm
      rcases h1 with h1 | h1
      · exact .inl (decide_eq_true (.inl h1))
      · exact .inr (decide_eq_true (.inr h1))
    · have h4:=hta h0
      have h5:=hat (by omega)
      have hwin:winR r t W at0 ls n=(t.w,(runB r t (trimB at0 ls) n).1,(runB r t (trimB at0 ls) n).2,0):=winR_0 hm (.inr ⟨farY_of (by omega) (by omega),farY_of (by omega) (by omega)⟩)
      have done:∀ {S0:SeaD},SeaQ r t most S0→SeaL0 S0 (trimB at0 ls).2 n (trimB at0 ls).1 e q rows' S'→SeaQ r t most S'∧((if e=0 then (t.w,q,rows',(0:Int)) else (0,0,[],e))=winR r t W at0 ls n∨((if e=0 then (t.w,q,rows',(0:Int)) else (0,0,[],e))=(0,0,[],4)∧(t.w*((ls.length:Int)+2*(n:Int))≤1048576→False))):=by
       intro S0 Q0 h
       obtain⟨Q1,hr⟩:=seaL_law Q0 htx hxo (by omega) ⟨h3,hn⟩ h
       clear h
       refine⟨Q1,?_⟩
       rcases hr with ⟨rfl,hr⟩ | ⟨rfl,hr⟩
       · rw[hwin,← hr]
         exact .inl rfl
       · refine .inr ⟨rfl,fun hb=>?_⟩
         have hl:=(runB_ok hw hwo hxo n).len
         have hmul:t.w*((runB r t (trimB at0 ls) n).2.length:Int)≤t.w*((ls.length:Int)+2*(n:Int)):=Int.mul_le_mul_of_nonneg_left (by omega) (by omega)
         omega
      rcases hL with hL | hL | ⟨rfl,rfl,rfl,hK,L,J,left,B,H,E,G,HF,hmo⟩
      · obtain⟨Q1,h⟩:=done Q hL
        exact⟨Q1,h.imp id fun h=>⟨h.1,fun hb=>(h.2 hb).elim⟩⟩
      · obtain⟨Q1,h⟩:=done Q.fresh hL
        exact⟨Q1,h.imp id fun h=>⟨h.1,fun hb=>(h.2 hb).elim⟩⟩
      · refine⟨Q.fresh.ext hK.e (hK.i Q.fresh.i) (by have:=hK.len;rw[hK.e.most] at this;exact this),.inr ⟨rfl,fun _=>⟨hm,by rw[hwin],L,HF.hL,?_⟩⟩⟩
        obtain⟨S1,_,_⟩:=leap_law (at0:=(trimB at0 ls).1) HF (Q.sm0 (PK r t (bandF t (trimB at0 ls)) ((trimB at0 ls).1-left) L n)) hwo hxo (by omega) ⟨h3,hn⟩ PK.wk
        have:=S1.count
        rw[Q.hm] at hmo
        omega
end
open Go.RowKit Go.Proofs
open Go.RowKit Go.Proofs
section
variable {r:RuleD} {t:TopoD} {most:Nat} {x:Int × List ByteArray} {n:Nat}
theorem trimB_trm (hx:Trm t x) (hr:∀ i,i<x.2.length→RowOk2 r t (x.2.getD i ByteArray.empty)):trimB x.1 x.2=x:=trm_uniq (trm_trim _ _) hx (bandF_trim hr)
theorem mayE_ok {a:Int} {ls:List ByteArray} (hr:∀ i,i<ls.length→RowOk2 r t (ls.getD i ByteArray.empty)) (ha:0<ls.length→(-1099511627776≤a∧a≤1099511627776)∧-1099511627776≤a+(ls.length:Int)-1∧a+(ls.length:Int)-1≤1099511627776):mayE r t t.w a ls=0:=by
  rw[mayE_f rfl (fun i hi=>(hr i hi).1) (fun i hi j hj=>((hr i hi).2 j (by rwa [intsB_len] at hj)).2)]
  rw[if_neg]
  rintro ⟨h0,h⟩
  have h1:=ha h0
  rw[farY_of h1.1.1 h1.1.2,farY_of h1.2.1 h1.2.2] at h
  simp at h
theorem winR_trm (hx:Trm t x) (hr:∀ i,i<x.2.length→RowOk2 r t (x.2.getD i ByteArray.empty)) (ha:0<x.2.length→-1099511627776≤x.1-(n:Int)∧x.1+(x.2.length:Int)-1+(n:Int)≤1099511627776):winR r t t.w x.1 x.2 n=(t.w,(runB r t x n).1,(runB r t x n).2,0):=by
  have hm:mayE r t t.w x.1 x.2=0:=mayE_ok hr fun h=>by have:=ha h;omega
  have e:=trimB_trm hx hr
  rw[winR_0 hm (by
   rw[e]
   rcases Nat.eq_zero_or_pos x.2.length with h | h
   · exact .inl h
   · have:=ha h
     exact .inr ⟨farY_of (by omega) (by omega),farY_of (by omega) (by omega)⟩),e]
theorem runB_add (r:RuleD) (t:TopoD) (x:Int × List ByteArray) (a:Nat):∀ b,runB r t x (a+b)=runB r t (runB r t x a) b
  | 0=>rfl
  | b+1=>by show laterB r t (runB r t x (a+b))=laterB r t _;rw[runB_add r t x a b]
theorem genF_shift (L:ByteArray→ByteArray→ByteArray→ByteArray) (f:Int→ByteArray) (d:Int):∀ n,genF L (fun y=>f (y-d)) n=fun y=>genF L f n (y-d)
  | 0=>rfl
  | n+1=>by
    funext y
    show L _ _ _=L _ _ _
    rw[genF_shift L f d n]
    dsimp only
    rw[show y-1-d=y-d-1 by omega,show y+1-d=y-d+1 by omega]
theorem bandF_shift (t:TopoD) (a d:Int) (ls:List ByteArray):bandF t (a+d,ls)=fun y=>bandF t (a,ls) (y-d):=by
  funext y
  show rowZ t ls (y-(a+d))=rowZ t ls (y-d-a)
  rw[show y-(a+d)=y-d-a by omega]
theorem runB_round (hw:r.Wd) (hwo:WOk r t) (hx:Trm t x) (hr:∀ i,i<x.2.length→RowOk2 r t (x.2.getD i ByteArray.empty)) (h0:0<x.2.length) {p:Nat} {d:Int} (h:runB r t x p=(x.1+d,x.2)) (q:Nat):runB r t x (q*p)=(x.1+(q:Int)*d,x.2):=by
  have hp:genF (lineR r t) (bandF t x) p=fun y=>bandF t x (y-d):=by
   rw[← bandF_run hw hwo hr p,h,bandF_shift]
  have key:∀ q:Nat,genF (lineR r t) (bandF t x) (q*p)=fun y=>bandF t x (y-(q:Int)*d):=by
   intro q
   induction q with
   | zero=>
     funext y
     rw[Nat.zero_mul]
     show bandF t x y=_
     rw[show y-((0:Nat):Int)*d=y by rw[Int.natCast_zero,Int.zero_mul];omega]
   | succ q ih=>
     rw[Nat.succ_mul,genF_add,ih,genF_shift,hp]
     funext y
     dsimp only
     rw[show y-(q:Int)*d-d=y-((q+1:Nat):Int)*d by rw[Int.natCast_add,Int.add_mul];omega]
  refine trm_uniq (trm_run hx _) ⟨fun h=>?_,fun h=>hx.fst h0,fun h=>hx.lst h0⟩ ?_
  · dsimp only at h;omega
  · rw[bandF_run hw hwo hr,key,bandF_shift]
theorem seaR_trm {S S':SeaD} {o:Int × Int × List ByteArray × Int} (Q:SeaQ r t most S) (hx:Trm t x) (hr:∀ i,i<x.2.length→RowOk2 r t (x.2.getD i ByteArray.empty)) (hl:x.2.length≤1048576) (hn:n≤68719476736) (ha:0<x.2.length→-1099511627776≤x.1-(n:Int)∧x.1+(x.2.length:Int)-1+(n:Int)≤1099511627776) (h:SeaR S t.w x.1 x.2 n S' o) :
    SeaQ r t most S'∧(o=(t.w,(runB r t x n).1,(runB r t x n).2,0)∨o=(0,0,[],4)):=by
  obtain⟨a,c⟩:=seaR_law Q hl hn h
  rw[winR_trm hx hr ha] at c
  exact⟨a,c.imp id fun h=>h.1⟩
theorem seaR_any {S S':SeaD} {W at0:Int} {ls:List ByteArray} {o:Int × Int × List ByteArray × Int} (Q:SeaQ r t most S) (hl:ls.length≤1048576) (hn:n≤68719476736) (h:SeaR S W at0 ls n S' o):SeaQ r t most S':=(seaR_law Q hl hn h).1
theorem mul_bd {q d Q D:Int} (hq:0≤q∧q≤Q) (hd:-D≤d∧d≤D) (hD:0≤D):-(Q*D)≤q*d∧q*d≤Q*D:=by
  have h1:q*d≤q*D:=Int.mul_le_mul_of_nonneg_left hd.2 hq.1
  have h2:q*D≤Q*D:=Int.mul_le_mul_of_nonneg_right hq.2 hD
  have h3:q*(-D)≤q*d:=Int.mul_le_mul_of_nonneg_left hd.1 hq.1
  rw[Int.mul_neg] at h3
  omega
end
open Go.RowKit Go.Proofs
theorem trimR_err (r:RuleD) (t:TopoD) (W at0:Int) (ls:List ByteArray):(trimR r t W at0 ls).2.2.2=mayE r t W at0 ls:=by
  by_cases h:mayE r t W at0 ls=0
  · rw[trimR_0 h,h]
  · rw[trimR_e h]
theorem leaps_len {r:RuleD} {t:TopoD} {x:Int × List ByteArray} (hw:r.Wd) (hwo:WOk r t) (hr:∀ i,i<x.2.length→RowOk2 r t (x.2.getD i ByteArray.empty)) (hl:x.2.length≤30) {m:Nat} (hm:m≤40) {g:Int × Int × List ByteArray × Int}
    (h:g=(t.w,(runB r t x m).1,(runB r t x m).2,0)∨g=(0,0,[],4)):g.2.2.1.length≤200∧∀ i,i<g.2.2.1.length→(g.2.2.1.getD i ByteArray.empty).size≤4611686018427387904:=by
  have hto:=hwo.2.1
  unfold TopoD.Ok at hto
  rcases h with rfl | rfl
  · have h:=runB_ok hw hwo hr m
    refine⟨by have:=h.len;dsimp only;omega,fun i hi=>?_⟩
    have:=(h.ok i hi).1
    dsimp only
    omega
  · exact⟨Nat.zero_le _,fun i hi=>absurd hi (Nat.not_lt_zero _)⟩
theorem leaps_two {r:RuleD} {t:TopoD} {x:Int × List ByteArray} (hw:r.Wd) (hwo:WOk r t) (hx:Trm t x) (hr:∀ i,i<x.2.length→RowOk2 r t (x.2.getD i ByteArray.empty)) {most:Nat} {S S':SeaD} (Q:SeaQ r t most S) (hl:x.2.length≤30) (ha:-1073741824≤x.1∧x.1≤1073741824) {m k:Nat} (hm:m≤40∧k≤40) {g1 g2:Int × Int × List ByteArray × Int}
    (h:SeaR S g1.1 g1.2.1 g1.2.2.1 k S' g2):g1=(t.w,(runB r t x m).1,(runB r t x m).2,0)→g2=(t.w,(runB r t (runB r t x m) k).1,(runB r t (runB r t x m) k).2,0)∨g2=(0,0,[],4):=by
  rintro rfl
  have hy:=runB_ok hw hwo hr m
  exact (seaR_trm Q (trm_run hx m) hy.ok (by have:=hy.len;omega) (by omega) (fun h9=>by have:=hy.at_ h9;omega) h).2
theorem leaps_fin {r:RuleD} {t:TopoD} {x:Int × List ByteArray} {m k:Nat} {g1 g2 g3:Int × Int × List ByteArray × Int}
    (h1:g1=(t.w,(runB r t x m).1,(runB r t x m).2,0)∨g1=(0,0,[],4))
    (h2:g1=(t.w,(runB r t x m).1,(runB r t x m).2,0)→g2=(t.w,(runB r t (runB r t x m) k).1,(runB r t (runB r t x m) k).2,0)∨g2=(0,0,[],4))
    (h3:g3=(t.w,(runB r t x (m+k)).1,(runB r t x (m+k)).2,0)∨g3=(0,0,[],4)) :
    (g1.2.2.2=0∨g1.2.2.2=4)∧(g1.2.2.2=0→g2.2.2.2=0∨g2.2.2.2=4)∧(g3.2.2.2=0∨g3.2.2.2=4)∧
    (g1.2.2.2=0→g2.2.2.2=0→g3.2.2.2=0→g2=g3∧g3=(t.w,(runB r t x (m+k)).1,(runB r t x (m+k)).2,0)):=by
  refine⟨?_,fun e=>?_,?_,fun e1 e2 e3=>?_⟩
  · rcases h1 with rfl | rfl
    · exact .inl rfl
    · exact .inr rfl
  · rcases h1 with h1 | rfl
    · rcases h2 h1 with rfl | rfl
      · exact .inl rfl
      · exact .inr rfl
    · exact absurd e (by decide)
  · rcases h3 with rfl | rfl
    · exact .inl rfl
    · exact .inr rfl
  · rcases h1 with h1 | rfl
    · rcases h2 h1 with rfl | rfl
      · rcases h3 with rfl | rfl
        · rw[runB_add];exact⟨rfl,rfl⟩
        · exact absurd e3 (by decide)
      · exact absurd e2 (by decide)
    · exact absurd e1 (by decide)
end Go.Eng
