/- Walks of the functions of the seat over those rules, and plain laws of what they compute. No conditions beyond those in each theorem. -/
import Derived.Test.YtclhjichmdjlaaaGreatSI
set_option linter.unusedSimpArgs false
set_option linter.unusedVariables false
namespace Go.Eng
open Go.RowKit Go.Proofs
def BindOk (m:Int) (b:Bind):Prop:=∀ v s,b v=some s→0≤s∧s<m
theorem BindOk.none (m:Int):BindOk m (fun _=>none):=fun v s h=>by cases h
theorem fitsD_ok {t:TableD} {x:TermD} {s m:Int} {b b':Bind} (hb:BindOk m b) (hs:0≤s∧s<m) (h:fitsD t x s b=some b'):BindOk m b':=by
  unfold fitsD at h
  split at h
  · split at h
    · obtain rfl:=Option.some.inj h;exact hb
    · cases h
  · split at h
    · split at h
      · obtain rfl:=Option.some.inj h;exact hb
      · cases h
    · split at h
      · obtain rfl:=Option.some.inj h
        intro v q hq
        unfold Bind.upd at hq
        split at hq
        · obtain rfl:=Option.some.inj hq;exact hs
        · exact hb v q hq
      · cases h
theorem saysD_ok {t:TableD} (ht:t.Ok) {r:TransD} (ho:r.out.Ok t) (hw:U8 r.out.state) {b:Bind} (hb:BindOk t.states b):0≤saysD r b∧saysD r b<t.states:=by
  unfold saysD
  have hst:=ht.st
  split
  · rename_i hv
    unfold TermD.Ok at ho
    split at ho
    · exact⟨hw.1,ho⟩
    · omega
  · cases h:b r.out.var.toNat with
    | none=>exact⟨by simp,by simp;omega⟩
    | some s=>exact hb _ _ h
theorem findSome_mem {α:Type} {f:Nat→Option α} {v:α}:∀ {l:List Nat},l.findSome? f=some v→∃ i∈l,f i=some v:=fun {l} h=>by
  obtain⟨i,hi,e⟩:=List.exists_of_findSome?_eq_some h
  exact⟨i,hi,e⟩
theorem freeD_ok {t:TableD} (ht:t.Ok) {r:TransD} (ho:r.out.Ok t) (hw:U8 r.out.state) {ar:List Int} (ha:∀ i,i<ar.length→0≤ar.getD i 0∧ar.getD i 0<t.states):∀ (n:Nat) (b:Bind) (i:Nat) (tk v:Int),BindOk t.states b→freeD t r ar n b i tk=some v→0≤v∧v<t.states
  | 0,b,i,tk,v,hb,h=>by
    obtain rfl:=Option.some.inj h
    exact saysD_ok ht ho hw hb
  | n+1,b,i,tk,v,hb,h=>by
    rw[freeD_succ] at h
    obtain⟨q,hq,e⟩:=findSome_mem h
    unfold freeAt at e
    split at e
    · cases e
    · cases hf:fitsD t (r.around.getD i .no) (ar.getD q 0) b with
      | none=>rw[hf] at e;cases e
      | some b'=>
        rw[hf] at e
        exact freeD_ok ht ho hw ha n b' (i+1) _ v (fitsD_ok hb (ha q (List.mem_range.1 hq)) hf) e
theorem fitTo_ok {t:TableD} {r:TransD} {g ar:List Int} (hst:0<t.states) (ha:∀ i,i<ar.length→0≤ar.getD i 0∧ar.getD i 0<t.states):∀ (p:Nat) (b b':Bind),BindOk t.states b→fitTo t r g ar p b=some b'→BindOk t.states b'
  | 0,b,b',hb,h=>by obtain rfl:=Option.some.inj h;exact hb
  | p+1,b,b',hb,h=>by
    have h':(fitTo t r g ar p b).bind (fun b'=>fitsD t (r.around.getD p .no) (ar.getD (g.getD p 0).toNat 0) b')=some b':=h
    cases hq:fitTo t r g ar p b with
    | none=>rw[hq] at h';cases h'
    | some b2=>
      rw[hq] at h'
      refine fitsD_ok (fitTo_ok hst ha p b b2 hb hq) ?_ h'
      by_cases hi:(g.getD p 0).toNat<ar.length
      · exact ha _ hi
      · rw[List.getD_eq_getElem?_getD,List.getElem?_eq_none (by omega)];simp;omega
theorem nextD_ok {t:TableD} (hwd:t.Wd) (ht:t.Ok) {c:Int} {ar:List Int} (hc:0≤c∧c<t.states) (ha:∀ i,i<ar.length→0≤ar.getD i 0∧ar.getD i 0<t.states):0≤nextD t c ar∧nextD t c ar<t.states:=by
  unfold nextD
  cases h:(List.range t.rows.length).findSome? fun i=>oneD t (t.rows.getD i .no) (ordsD t) c ar with
  | none=>exact hc
  | some v=>
    obtain⟨i,hi,e⟩:=findSome_mem h
    have hi:=List.mem_range.1 hi
    have hro:=ht.rows i hi
    have hw:=(hwd.row hi).2.1.state
    show 0≤v∧v<t.states
    unfold oneD at e
    split at e
    · cases e
    · rename_i b hb
      have hbo:=fitsD_ok (BindOk.none t.states) hc hb
      split at e
      · exact freeD_ok ht hro.2.2.1 hw ha _ _ _ _ v hbo e
      · obtain⟨j,hj,e⟩:=findSome_mem e
        unfold ordAtD at e
        cases hq:fitTo t (t.rows.getD i .no) ((ordsD t).getD j []) ar (t.rows.getD i .no).around.length b with
        | none=>rw[hq] at e;cases e
        | some b2=>
          rw[hq] at e
          obtain rfl:=Option.some.inj e
          exact saysD_ok ht hro.2.2.1 hw (fitTo_ok (by have:=ht.st;omega) ha _ _ _ hbo hq)
theorem lifeNext_ok (l:LifeD) (s n:Int):0≤lifeNext l s n∧lifeNext l s n<2:=by
  unfold lifeNext
  rcases bits_and1 ((if s=1 then l.stay else l.born)/2^min n.toNat IntKind.u16.bits) with h | h
  · rw[h,IntWalk.u8_in _ (by omega)];omega
  · rw[h,IntWalk.u8_in _ (by omega)];omega
theorem nx_ok {r:RuleD} (hw:r.Wd) (hok:r.Ok) {c:Int} {ar:List Int} (hc:0≤c∧c<r.nSt) (ha:∀ i,i<ar.length→0≤ar.getD i 0∧ar.getD i 0<r.nSt):0≤r.nx c ar∧r.nx c ar<r.nSt:=by
  unfold RuleD.nSt at *
  unfold RuleD.nx
  have hl:=lifeNext_ok r.life c (livingN ar)
  rcases hok with ⟨hk,_,_,hg⟩ | ⟨hk,_,_,hg⟩ | ⟨hk,_,_,ht⟩
  · rw[if_pos hk,if_pos hk];exact hl
  · rw[if_neg (by omega),if_pos hk] at *
    rw[if_neg (by omega),if_pos hk]
    unfold gensNext
    repeat' split
    all_goals omega
  · rw[if_neg (by omega),if_neg (by omega)] at hc
    rw[if_neg (by omega),if_neg (by omega),if_neg (by omega),if_neg (by omega)]
    exact nextD_ok hw.table ht hc (fun i hi=>by have:=ha i hi;rw[if_neg (by omega),if_neg (by omega)] at this;exact this)
theorem intsB_push (b:ByteArray) (x:UInt8):intsB (b.push x)=intsB b++[(x.toNat:Int)]:=by
  unfold intsB ByteArray.push
  simp
theorem intsB_fold:∀ (l:List Int) (b:ByteArray),(∀ x∈l,0≤x∧x<256)→intsB (l.foldl (fun r n=>r.push (UInt8.ofNat n.toNat)) b)=intsB b++l
  | [],b,_=>by simp
  | x::l,b,h=>by
    have hx:=h x (by simp)
    rw[List.foldl_cons,intsB_fold l _ fun y hy=>h y (by simp[hy]),intsB_push,List.append_assoc]
    congr 1
    simp only[List.singleton_append,List.cons.injEq,and_true]
    rw[UInt8.toNat_ofNat_of_lt' (by have:UInt8.size=256:=rfl;omega)]
    omega
theorem intsB_textOf (l:List Int) (h:∀ x∈l,0≤x∧x<256):intsB (textOf l)=l:=intsB_fold l _ h
theorem intsB_inj {x y:ByteArray} (h:intsB x=intsB y):x=y:=by
  unfold intsB at h
  have hd:x.data.toList=y.data.toList:=by
   have key:∀ (l m:List UInt8),l.map (fun b=>(b.toNat:Int))=m.map (fun b=>(b.toNat:Int))→l=m:=by
    intro l
    induction l with
    | nil=>intro m h;cases m <;> simp at h;rfl
    | cons a l ih=>
      intro m h
      cases m with
      | nil=>simp at h
      | cons b m=>
        simp only[List.map_cons,List.cons.injEq] at h
        rw[ih m h.2,UInt8.toNat_inj.1 (by omega:a.toNat=b.toNat)]
   exact key _ _ h
  cases x;cases y;simp at hd;rw[hd]
theorem textOf_intsB (x:ByteArray):textOf (intsB x)=x:=intsB_inj (intsB_textOf _ fun n hn=>by
  unfold intsB at hn
  obtain⟨b,_,rfl⟩:=List.mem_map.1 hn
  have:=b.toNat_lt
  omega)
def cellAt (L:ByteArray→ByteArray→ByteArray→ByteArray) (R:List ByteArray):Nat→Nat→ByteArray
  | 0,q=>R.getD q ByteArray.empty
  | t+1,q=>L (cellAt L R t (q-1)) (cellAt L R t q) (cellAt L R t (q+1))
def win (L:ByteArray→ByteArray→ByteArray→ByteArray) (R:List ByteArray) (t p n:Nat):List ByteArray:=(List.range n).map fun i=>cellAt L R t (p+i)
def midD (L:ByteArray→ByteArray→ByteArray→ByteArray) (R:List ByteArray) (j:Nat):List ByteArray:=win L R (2^j) (R.length/4) (R.length/2)
section
variable {L:ByteArray→ByteArray→ByteArray→ByteArray}
theorem win_len (R:List ByteArray) (t p n:Nat):(win L R t p n).length=n:=by simp[win]
theorem win_get (R:List ByteArray) (t p n i:Nat) (h:i<n):(win L R t p n).getD i ByteArray.empty=cellAt L R t (p+i):=by
  unfold win
  rw[List.getD_eq_getElem?_getD,List.getElem?_map,List.getElem?_range h];rfl
theorem cell_local {R W:List ByteArray} {s p n:Nat} (hW:∀ i,i<n→W.getD i ByteArray.empty=cellAt L R s (p+i)):∀ (t q:Nat),t≤q→q+t<n→cellAt L W t q=cellAt L R (s+t) (p+q)
  | 0,q,_,h=>hW q (by omega)
  | t+1,q,h1,h2=>by
    show L _ _ _=L _ _ _
    rw[cell_local hW t (q-1) (by omega) (by omega),cell_local hW t q (by omega) (by omega),cell_local hW t (q+1) (by omega) (by omega)]
    rw[show p+(q-1)=p+q-1 by omega,show p+(q+1)=p+q+1 by omega]
    rfl
theorem win_win (R:List ByteArray) (s p n t q m:Nat) (h1:t≤q) (h2:q+m+t≤n):win L (win L R s p n) t q m=win L R (s+t) (p+q) m:=by
  show (List.range m).map (fun i=>cellAt L (win L R s p n) t (q+i))=(List.range m).map (fun i=>cellAt L R (s+t) (p+q+i))
  refine List.map_congr_left fun i hi=>?_
  have hi:=List.mem_range.1 hi
  rw[cell_local (fun i h=>win_get R s p n i h) t (q+i) (by omega) (by omega)]
  rw[show p+(q+i)=p+q+i by omega]
theorem win_app (R:List ByteArray) (t p n m:Nat):win L R t p n++win L R t (p+n) m=win L R t p (n+m):=by
  unfold win
  rw[List.range_add,List.map_append,List.map_map]
  congr 1
  refine List.map_congr_left fun i _=>?_
  simp[Nat.add_assoc]
theorem win_zero (R:List ByteArray):win L R 0 0 R.length=R:=by
  unfold win
  apply List.ext_getElem?
  intro i
  rw[List.getElem?_map]
  by_cases h:i<R.length
  · rw[List.getElem?_range h]
    show some (R.getD (0+i) ByteArray.empty)=_
    rw[Nat.zero_add,List.getD_eq_getElem?_getD,List.getElem?_eq_getElem h];rfl
  · rw[List.getElem?_eq_none (by simp;omega),List.getElem?_eq_none (by omega)];rfl
theorem win_split {R A B:List ByteArray} {t p n:Nat} (h:A++B=win L R t p (n+n)) (ha:A.length=n):A=win L R t p n∧B=win L R t (p+n) n:=by
  rw[← win_app] at h
  exact List.append_inj h (by rw[ha,win_len])
end
open Go.RowKit Go.Proofs
abbrev SeaD.nd (S:SeaD) (id:Nat):NodeD:=S.nodes.getD id .no
def lineR (r:RuleD) (t:TopoD) (x y z:ByteArray):ByteArray:=textOf (lineD r t (intsB x) (intsB y) (intsB z))
def rwL (N:List NodeD):Nat→Nat→List ByteArray
  | 0,id=>[(N.getD id .no).row]
  | l+1,id=>rwL N l (N.getD id .no).a++rwL N l (N.getD id .no).b
def SeaD.rws (S:SeaD) (id:Nat):List ByteArray:=rwL S.nodes (S.nd id).level id
theorem rwL_len (N:List NodeD):∀ (l id:Nat),(rwL N l id).length=2^l
  | 0,id=>rfl
  | l+1,id=>by simp only[rwL,List.length_append,rwL_len N l];omega
theorem SeaD.rws_len (S:SeaD) (id:Nat):(S.rws id).length=2^(S.nd id).level:=rwL_len _ _ _
structure Can (S:SeaD):Prop where
  row:∀ id,id<S.nodes.length→(S.nd id).level=0→mget S.rows (S.nd id).row=some id
  pair:∀ id,id<S.nodes.length→0<(S.nd id).level→mget S.pairs ((S.nd id).a,(S.nd id).b)=some id
theorem Can.of {S T:SeaD} (h:Can S) (hn:T.nodes=S.nodes) (hr:T.rows=S.rows) (hp:T.pairs=S.pairs):Can T:=by
  refine⟨fun id=>?_,fun id=>?_⟩
  · unfold SeaD.nd;rw[hn,hr];exact h.row id
  · unfold SeaD.nd;rw[hn,hp];exact h.pair id
structure Ext (S T:SeaD):Prop where
  r:T.r=S.r
  t:T.t=S.t
  states:T.states=S.states
  most:T.most=S.most
  told:T.told=S.told
  names:T.names=S.names
  kept:T.kept=S.kept
  len:S.nodes.length≤T.nodes.length
  nd:∀ id,id<S.nodes.length→T.nd id=S.nd id
  can:Can S→Can T
theorem Ext.refl (S:SeaD):Ext S S:=⟨rfl,rfl,rfl,rfl,rfl,rfl,rfl,Nat.le_refl _,fun _ _=>rfl,fun h=>h⟩
theorem Ext.trans {S T U:SeaD} (a:Ext S T) (b:Ext T U):Ext S U:=
  ⟨b.r.trans a.r,b.t.trans a.t,b.states.trans a.states,b.most.trans a.most,b.told.trans a.told,b.names.trans a.names,b.kept.trans a.kept,Nat.le_trans a.len b.len,
   fun id h=>(b.nd id (Nat.lt_of_lt_of_le h a.len)).trans (a.nd id h),fun h=>b.can (a.can h)⟩
theorem rwL_ext {S T:SeaD} (e:Ext S T) (hn:NW S.nodes):∀ (l id:Nat),id<S.nodes.length→(S.nd id).level=l→rwL T.nodes l id=rwL S.nodes l id
  | 0,id,hi,hl=>by simp only[rwL];rw[show T.nodes.getD id .no=S.nodes.getD id .no from e.nd id hi]
  | l+1,id,hi,hl=>by
    have hw:=(hn id hi).2 (by show 0<(S.nd id).level;omega)
    have e1:T.nodes.getD id .no=S.nodes.getD id .no:=e.nd id hi
    simp only[rwL]
    rw[e1,rwL_ext e hn l _ hw.1 (by have:=hw.2.2.1;show (S.nodes.getD _ .no).level=l;have hl':(S.nodes.getD id .no).level=l+1:=hl;omega),
     rwL_ext e hn l _ hw.2.1 (by have:=hw.2.2.2;show (S.nodes.getD _ .no).level=l;have hl':(S.nodes.getD id .no).level=l+1:=hl;omega)]
theorem Ext.rws {S T:SeaD} (e:Ext S T) (hn:NW S.nodes) {id:Nat} (hi:id<S.nodes.length):T.rws id=S.rws id:=by
  unfold SeaD.rws
  rw[e.nd id hi]
  exact rwL_ext e hn _ id hi rfl
structure Inv (S:SeaD):Prop where
  nw:NW S.nodes
  row0:∀ id,id<S.nodes.length→(S.nd id).level=0→RowOkB S (S.nd id).row
  rows:∀ x id,mget S.rows x=some id→id<S.nodes.length∧S.nd id=⟨0,0,0,x⟩
  pairs:∀ a b id,mget S.pairs (a,b)=some id→id<S.nodes.length∧a<S.nodes.length∧b<S.nodes.length∧(S.nd id).level=(S.nd a).level+1∧(S.nd id).a=a∧(S.nd id).b=b
  lines:∀ x y z id,mget S.lines (x,y,z)=some id→id<S.nodes.length∧x<S.nodes.length∧y<S.nodes.length∧z<S.nodes.length∧(S.nd id).level=0∧(S.nd id).row=lineR S.r S.t (S.nd x).row (S.nd y).row (S.nd z).row
  leaps:∀ id j o,mget S.leaps (id,j)=some o→id<S.nodes.length∧o<S.nodes.length∧2≤(S.nd id).level∧(S.nd o).level+1=(S.nd id).level∧S.rws o=midD (lineR S.r S.t) (S.rws id) j
theorem nd_snoc (S:SeaD) (n:NodeD) (i:Nat):(S.nodes++[n]).getD i .no=if i<S.nodes.length then S.nodes.getD i .no else if i=S.nodes.length then n else .no:=getD_snoc _ _ _ _
theorem Ext.add (S T:SeaD) (n:NodeD) (hr:T.r=S.r) (ht:T.t=S.t) (hs:T.states=S.states) (hm:T.most=S.most) (h1:T.told=S.told) (h2:T.names=S.names) (h3:T.kept=S.kept) (hn:T.nodes=S.nodes++[n])
    (hc:(n.level=0∧mget S.rows n.row=none∧T.rows=mput S.rows n.row S.nodes.length∧T.pairs=S.pairs)∨(0<n.level∧mget S.pairs (n.a,n.b)=none∧T.pairs=mput S.pairs (n.a,n.b) S.nodes.length∧T.rows=S.rows)):Ext S T:=by
  have hold:∀ id,id<S.nodes.length→T.nd id=S.nd id:=fun id h=>by show T.nodes.getD id .no=_;rw[hn,nd_snoc,if_pos h]
  have hnew:T.nd S.nodes.length=n:=by show T.nodes.getD _ .no=_;rw[hn,nd_snoc,if_neg (by omega),if_pos rfl]
  have hlen:T.nodes.length=S.nodes.length+1:=by rw[hn];simp
  refine⟨hr,ht,hs,hm,h1,h2,h3,by omega,hold,fun c=>⟨fun id hi hl=>?_,fun id hi hl=>?_⟩⟩
  · rcases Nat.lt_or_ge id S.nodes.length with h | h
    · rw[hold id h] at hl ⊢
      rcases hc with ⟨_,a2,a3,_⟩ | ⟨_,_,_,a4⟩
      · rw[a3,mget_put]
        split
        · rename_i e;have:=c.row id h hl;rw[← e,a2] at this;cases this
        · exact c.row id h hl
      · rw[a4];exact c.row id h hl
    · obtain rfl:id=S.nodes.length:=by omega
      rw[hnew] at hl ⊢
      rcases hc with ⟨_,_,a3,_⟩ | ⟨a1,_⟩
      · rw[a3,mget_put,if_pos rfl]
      · omega
  · rcases Nat.lt_or_ge id S.nodes.length with h | h
    · rw[hold id h] at hl ⊢
      rcases hc with ⟨_,_,_,a4⟩ | ⟨_,a2,a3,_⟩
      · rw[a4];exact c.pair id h hl
      · rw[a3,mget_put]
        split
        · rename_i e;have:=c.pair id h hl;rw[← e,a2] at this;cases this
        · exact c.pair id h hl
    · obtain rfl:id=S.nodes.length:=by omega
      rw[hnew] at hl ⊢
      rcases hc with ⟨a1,_⟩ | ⟨_,_,a3,_⟩
      · omega
      · rw[a3,mget_put,if_pos rfl]
theorem Ext.same (S T:SeaD) (hr:T.r=S.r) (ht:T.t=S.t) (hs:T.states=S.states) (hm:T.most=S.most) (h1:T.told=S.told) (h2:T.names=S.names) (h3:T.kept=S.kept) (hn:T.nodes=S.nodes) (ha:T.rows=S.rows) (hb:T.pairs=S.pairs):Ext S T:=
  ⟨hr,ht,hs,hm,h1,h2,h3,by rw[hn];exact Nat.le_refl _,fun id h=>by show T.nodes.getD id .no=_;rw[hn],fun c=>c.of hn ha hb⟩
theorem Inv.maps {S T:SeaD} (hi:Inv S) (e:Ext S T) (nw:NW T.nodes) (row0:∀ id,id<T.nodes.length→(T.nd id).level=0→RowOkB T (T.nd id).row)
    (rows:∀ x id,mget T.rows x=some id→mget S.rows x=some id∨(id<T.nodes.length∧T.nd id=⟨0,0,0,x⟩))
    (pairs:∀ a b id,mget T.pairs (a,b)=some id→mget S.pairs (a,b)=some id∨(id<T.nodes.length∧a<T.nodes.length∧b<T.nodes.length∧(T.nd id).level=(T.nd a).level+1∧(T.nd id).a=a∧(T.nd id).b=b))
    (lines:∀ x y z id,mget T.lines (x,y,z)=some id→mget S.lines (x,y,z)=some id∨(id<T.nodes.length∧x<T.nodes.length∧y<T.nodes.length∧z<T.nodes.length∧(T.nd id).level=0∧(T.nd id).row=lineR T.r T.t (T.nd x).row (T.nd y).row (T.nd z).row))
    (leaps:∀ id j o,mget T.leaps (id,j)=some o→mget S.leaps (id,j)=some o∨(id<T.nodes.length∧o<T.nodes.length∧2≤(T.nd id).level∧(T.nd o).level+1=(T.nd id).level∧T.rws o=midD (lineR T.r T.t) (T.rws id) j)):Inv T where
  nw:=nw
  row0:=row0
  rows:=fun x id h=>(rows x id h).elim (fun h=>by
   obtain⟨a,b⟩:=hi.rows x id h
   exact⟨Nat.lt_of_lt_of_le a e.len,(e.nd id a).trans b⟩) fun h=>h
  pairs:=fun a b id h=>(pairs a b id h).elim (fun h=>by
   obtain⟨h1,h2,h3,h4,h5,h6⟩:=hi.pairs a b id h
   exact⟨Nat.lt_of_lt_of_le h1 e.len,Nat.lt_of_lt_of_le h2 e.len,Nat.lt_of_lt_of_le h3 e.len,by rw[e.nd id h1,e.nd a h2];exact h4,by rw[e.nd id h1];exact h5,by rw[e.nd id h1];exact h6⟩) fun h=>h
  lines:=fun x y z id h=>(lines x y z id h).elim (fun h=>by
   obtain⟨h1,h2,h3,h4,h5,h6⟩:=hi.lines x y z id h
   exact⟨Nat.lt_of_lt_of_le h1 e.len,Nat.lt_of_lt_of_le h2 e.len,Nat.lt_of_lt_of_le h3 e.len,Nat.lt_of_lt_of_le h4 e.len,by rw[e.nd id h1];exact h5,by rw[e.nd id h1,e.nd x h2,e.nd y h3,e.nd z h4,e.r,e.t];exact h6⟩) fun h=>h
  leaps:=fun id j o h=>(leaps id j o h).elim (fun h=>by
   obtain⟨h1,h2,h3,h4,h5⟩:=hi.leaps id j o h
   exact⟨Nat.lt_of_lt_of_le h1 e.len,Nat.lt_of_lt_of_le h2 e.len,by rw[e.nd id h1];exact h3,by rw[e.nd id h1,e.nd o h2];exact h4,by rw[e.rws hi.nw h1,e.rws hi.nw h2,e.r,e.t];exact h5⟩) fun h=>h
theorem RowOkB.of_eq {S T:SeaD} {x:ByteArray} (h:RowOkB S x) (hr:T.r=S.r) (ht:T.t=S.t):RowOkB T x:=by
  unfold RowOkB;rw[hr,ht];exact h
structure Grows (S T:SeaD) (n:Nat):Prop where
  inv:Inv T
  ext:Ext S T
  len:T.nodes.length≤S.nodes.length+n
theorem Grows.trans {S T U:SeaD} {n m:Nat} (a:Grows S T n) (b:Grows T U m):Grows S U (n+m):=⟨b.inv,a.ext.trans b.ext,by have:=a.len;have:=b.len;omega⟩
theorem Grows.mono {S T:SeaD} {n m:Nat} (a:Grows S T n) (h:n≤m):Grows S T m:=⟨a.inv,a.ext,by have:=a.len;omega⟩
theorem sea_row_law (S:SeaD) (hi:Inv S) (x:ByteArray) (hx:RowOkB S x):Grows S (S.row x).1 1∧(S.row x).2<(S.row x).1.nodes.length∧(S.row x).1.nd (S.row x).2=⟨0,0,0,x⟩∧mget (S.row x).1.rows x=some (S.row x).2:=by
  unfold SeaD.row
  cases h:mget S.rows x with
  | some id=>
    obtain⟨a,b⟩:=hi.rows x id h
    exact⟨⟨hi,Ext.refl S,by simp⟩,a,b,h⟩
  | none=>
    dsimp only
    have e:Ext S {S with nodes:=S.nodes++[⟨0,0,0,x⟩],rows:=mput S.rows x S.nodes.length}:=Ext.add S _ _ rfl rfl rfl rfl rfl rfl rfl rfl (.inl ⟨rfl,h,rfl,rfl⟩)
    have hnew:(S.nodes++[(⟨0,0,0,x⟩:NodeD)]).getD S.nodes.length .no=⟨0,0,0,x⟩:=by rw[nd_snoc,if_neg (by omega),if_pos rfl]
    have hlen:(S.nodes++[(⟨0,0,0,x⟩:NodeD)]).length=S.nodes.length+1:=by simp
    refine⟨⟨hi.maps e ?_ ?_ ?_ (fun _ _ _ h=>.inl h) (fun _ _ _ _ h=>.inl h) (fun _ _ _ h=>.inl h),e,by simp⟩,by simp,hnew,by rw[mget_put,if_pos rfl]⟩
    · intro id hid
      dsimp only at hid ⊢
      rw[hlen] at hid
      rcases Nat.lt_or_ge id S.nodes.length with h1 | h1
      · have hw:=hi.nw id h1
        rw[nd_snoc,if_pos h1,hlen]
        refine⟨hw.1,fun hp=>?_⟩
        obtain⟨q1,q2,q3,q4⟩:=hw.2 hp
        rw[nd_snoc,if_pos q1,nd_snoc,if_pos q2]
        exact⟨by omega,by omega,q3,q4⟩
      · obtain rfl:id=S.nodes.length:=by omega
        rw[hnew]
        exact⟨by show (0:Nat)≤45;omega,fun hp=>absurd (show (0:Nat)<0 from hp) (by omega)⟩
    · intro id hid hl
      dsimp only at hid
      rw[hlen] at hid
      rcases Nat.lt_or_ge id S.nodes.length with h1 | h1
      · rw[e.nd id h1] at hl ⊢
        exact (hi.row0 id h1 hl).of_eq rfl rfl
      · obtain rfl:id=S.nodes.length:=by omega
        show RowOkB _ ((S.nodes++[(⟨0,0,0,x⟩:NodeD)]).getD S.nodes.length .no).row
        rw[hnew]
        exact hx.of_eq rfl rfl
    · intro y id h
      dsimp only at h
      rw[mget_put] at h
      by_cases hxy:x=y
      · rw[if_pos hxy] at h
        obtain rfl:=Option.some.inj h
        subst hxy
        exact .inr ⟨by simp,hnew⟩
      · rw[if_neg hxy] at h;exact .inl h
theorem sea_pair_law (S:SeaD) (hi:Inv S) (a b:Nat) (ha:a<S.nodes.length) (hb:b<S.nodes.length) (hl:(S.nd a).level=(S.nd b).level) (hm:(S.nd a).level≤44) :
    Grows S (S.pair a b).1 1∧(S.pair a b).2<(S.pair a b).1.nodes.length∧((S.pair a b).1.nd (S.pair a b).2).level=(S.nd a).level+1∧((S.pair a b).1.nd (S.pair a b).2).a=a∧((S.pair a b).1.nd (S.pair a b).2).b=b∧(S.pair a b).1.rws (S.pair a b).2=S.rws a++S.rws b:=by
  have key:∀ (T:SeaD) (id:Nat),Ext S T→id<T.nodes.length→(T.nd id).level=(S.nd a).level+1→(T.nd id).a=a→(T.nd id).b=b→T.rws id=S.rws a++S.rws b:=by
   intro T id e h1 h2 h3 h4
   unfold SeaD.rws
   rw[h2]
   show rwL T.nodes (S.nd a).level (T.nd id).a++rwL T.nodes (S.nd a).level (T.nd id).b=_
   rw[h3,h4,rwL_ext e hi.nw _ a ha rfl,rwL_ext e hi.nw _ b hb hl.symm,hl]
  unfold SeaD.pair
  cases h:mget S.pairs (a,b) with
  | some id=>
    obtain⟨h1,_,_,h4,h5,h6⟩:=hi.pairs a b id h
    exact⟨⟨hi,Ext.refl S,by simp⟩,h1,h4,h5,h6,key S id (Ext.refl S) h1 h4 h5 h6⟩
  | none=>
    dsimp only
    have e:Ext S {S with nodes:=S.nodes++[⟨(S.nodes.getD a .no).level+1,a,b,ByteArray.mk #[]⟩],pairs:=mput S.pairs (a,b) S.nodes.length}:=Ext.add S _ _ rfl rfl rfl rfl rfl rfl rfl rfl (.inr ⟨Nat.succ_pos _,h,rfl,rfl⟩)
    have hnew:(S.nodes++[(⟨(S.nodes.getD a .no).level+1,a,b,ByteArray.mk #[]⟩:NodeD)]).getD S.nodes.length .no=⟨(S.nodes.getD a .no).level+1,a,b,ByteArray.mk #[]⟩:=by rw[nd_snoc,if_neg (by omega),if_pos rfl]
    have hlen:(S.nodes++[(⟨(S.nodes.getD a .no).level+1,a,b,ByteArray.mk #[]⟩:NodeD)]).length=S.nodes.length+1:=by simp
    refine⟨⟨hi.maps e ?_ ?_ (fun _ _ h=>.inl h) ?_ (fun _ _ _ _ h=>.inl h) (fun _ _ _ h=>.inl h),e,by simp⟩,by simp,by show ((S.nodes++[_]).getD S.nodes.length .no).level=_;rw[hnew],by show ((S.nodes++[_]).getD S.nodes.length .no).a=_;rw[hnew],by show ((S.nodes++[_]).getD S.nodes.length .no).b=_;rw[hnew],
     key _ S.nodes.length e (by simp) (by show ((S.nodes++[_]).getD S.nodes.length .no).level=_;rw[hnew]) (by show ((S.nodes++[_]).getD S.nodes.length .no).a=_;rw[hnew]) (by show ((S.nodes++[_]).getD S.nodes.length .no).b=_;rw[hnew])⟩
    · intro id hid
      dsimp only at hid ⊢
      rw[hlen] at hid
      rcases Nat.lt_or_ge id S.nodes.length with h1 | h1
      · have hw:=hi.nw id h1
        rw[nd_snoc,if_pos h1,hlen]
        refine⟨hw.1,fun hp=>?_⟩
        obtain⟨q1,q2,q3,q4⟩:=hw.2 hp
        rw[nd_snoc,if_pos q1,nd_snoc,if_pos q2]
        exact⟨by omega,by omega,q3,q4⟩
      · obtain rfl:id=S.nodes.length:=by omega
        rw[hnew]
        dsimp only
        refine⟨by have:(S.nodes.getD a .no).level≤44:=hm;omega,fun _=>?_⟩
        rw[hlen,nd_snoc,if_pos ha,nd_snoc,if_pos hb]
        exact⟨by omega,by omega,rfl,by have:(S.nodes.getD a .no).level=(S.nodes.getD b .no).level:=hl;omega⟩
    · intro id hid hl0
      dsimp only at hid
      rw[hlen] at hid
      rcases Nat.lt_or_ge id S.nodes.length with h1 | h1
      · rw[e.nd id h1] at hl0 ⊢
        exact (hi.row0 id h1 hl0).of_eq rfl rfl
      · obtain rfl:id=S.nodes.length:=by omega
        exfalso
        have h2:((S.nodes++[(⟨(S.nodes.getD a .no).level+1,a,b,ByteArray.mk #[]⟩:NodeD)]).getD S.nodes.length .no).level=0:=hl0
        rw[hnew] at h2
        cases h2
    · intro c d id h
      dsimp only at h
      rw[mget_put] at h
      by_cases hxy:(a,b)=(c,d)
      · rw[if_pos hxy] at h
        obtain rfl:=Option.some.inj h
        obtain⟨rfl,rfl⟩:=Prod.mk.inj hxy
        refine .inr ⟨by simp,by simp;omega,by simp;omega,?_,?_,?_⟩
        · show ((S.nodes++[_]).getD S.nodes.length .no).level=((S.nodes++[_]).getD a .no).level+1
          rw[hnew,nd_snoc,if_pos ha]
        · show ((S.nodes++[_]).getD S.nodes.length .no).a=_
          rw[hnew]
        · show ((S.nodes++[_]).getD S.nodes.length .no).b=_
          rw[hnew]
      · rw[if_neg hxy] at h;exact .inl h
theorem lineR_ok {S:SeaD} (K:SeaK S) {x y z:ByteArray} (rx:RowOkB S x) (ry:RowOkB S y) (rz:RowOkB S z):RowOkB S (lineR S.r S.t x y z):=by
  have hok:=K.ok.1
  have hf:=hok.facts
  have hw:=K.ok.2.1
  unfold TopoD.Ok at hw
  have hx3:Rows3 S.r S.t.w.toNat (intsB x) (intsB y) (intsB z):=⟨by rw[intsB_len];have:=rx.1;omega,by rw[intsB_len];have:=ry.1;omega,by rw[intsB_len];have:=rz.1;omega,fun i hi=>rx.2 i (by have:=rx.1;omega),fun i hi=>ry.2 i (by have:=ry.1;omega),fun i hi=>rz.2 i (by have:=rz.1;omega)⟩
  have hle:∀ v∈lineD S.r S.t (intsB x) (intsB y) (intsB z),0≤v∧v<S.r.nSt:=by
   intro v hv
   unfold lineD at hv
   obtain⟨i,hi,rfl⟩:=List.mem_map.1 hv
   exact nx_ok K.rw hok (hx3.h i (List.mem_range.1 hi)) (aroundD_bd hok hx3 i)
  have hi:=intsB_textOf (lineD S.r S.t (intsB x) (intsB y) (intsB z)) fun v hv=>by have:=hle v hv;omega
  have hl:(lineD S.r S.t (intsB x) (intsB y) (intsB z)).length=S.t.w.toNat:=by unfold lineD;simp
  have hs:(lineR S.r S.t x y z).size=S.t.w.toNat:=by
   rw[← intsB_len];unfold lineR;rw[hi,hl]
  refine⟨by rw[hs];omega,fun i h=>?_⟩
  unfold lineR
  rw[hi]
  exact hle _ (getD_mem (by rw[hl];omega))
theorem SeaK.of_ext {S T:SeaD} (K:SeaK S) (e:Ext S T):SeaK T:=⟨by rw[e.r];exact K.rw,by rw[e.t];exact K.tw,by rw[e.r,e.t];exact K.ok,by rw[e.states,e.r];exact K.st,by rw[e.most];exact K.most⟩
theorem sea_line_law (S:SeaD) (K:SeaK S) (hi:Inv S) (x y z:Nat) (hx:x<S.nodes.length) (hy:y<S.nodes.length) (hz:z<S.nodes.length) (lx:(S.nd x).level=0) (ly:(S.nd y).level=0) (lz:(S.nd z).level=0) :
    Grows S (S.line x y z).1 1∧(S.line x y z).2<(S.line x y z).1.nodes.length∧((S.line x y z).1.nd (S.line x y z).2).level=0∧((S.line x y z).1.nd (S.line x y z).2).row=lineR S.r S.t (S.nd x).row (S.nd y).row (S.nd z).row:=by
  unfold SeaD.line
  cases h:mget S.lines (x,y,z) with
  | some id=>
    obtain⟨h1,h2,h3,h4,h5,h6⟩:=hi.lines x y z id h
    exact⟨⟨hi,Ext.refl S,by simp⟩,h1,h5,h6⟩
  | none=>
    dsimp only
    have hL:lineB S (S.row' x) (S.row' y) (S.row' z)=lineR S.r S.t (S.nd x).row (S.nd y).row (S.nd z).row:=rfl
    rw[hL]
    have hok:=lineR_ok K (hi.row0 x hx lx) (hi.row0 y hy ly) (hi.row0 z hz lz)
    generalize hv:lineR S.r S.t (S.nd x).row (S.nd y).row (S.nd z).row=v at hok
    obtain⟨g,hid,hnd,_⟩:=sea_row_law S hi v hok
    have hlines:=row_lines S v
    generalize hT:(S.row v).1=T at g hid hnd hlines ⊢
    generalize (S.row v).2=id at hid hnd ⊢
    have e:Ext T {T with lines:=mput S.lines (x,y,z) id}:=Ext.same T _ rfl rfl rfl rfl rfl rfl rfl rfl rfl rfl
    refine⟨⟨g.inv.maps e g.inv.nw g.inv.row0 (fun _ _ h=>.inl h) (fun _ _ _ h=>.inl h) ?_ (fun _ _ _ h=>.inl h),g.ext.trans e,g.len⟩,hid,by show (T.nd id).level=0;rw[hnd],by show (T.nd id).row=v;rw[hnd]⟩
    intro a b c o ho
    dsimp only at ho
    rw[mget_put] at ho
    by_cases hk:(x,y,z)=(a,b,c)
    · rw[if_pos hk] at ho
      obtain rfl:=Option.some.inj ho
      obtain⟨rfl,hk2⟩:=Prod.mk.inj hk
      obtain⟨rfl,rfl⟩:=Prod.mk.inj hk2
      have hge:=g.ext.len
      refine .inr ⟨hid,Nat.lt_of_lt_of_le hx hge,Nat.lt_of_lt_of_le hy hge,Nat.lt_of_lt_of_le hz hge,by show (T.nd id).level=0;rw[hnd],?_⟩
      show (T.nd id).row=lineR T.r T.t (T.nd x).row (T.nd y).row (T.nd z).row
      rw[hnd,g.ext.r,g.ext.t,g.ext.nd x hx,g.ext.nd y hy,g.ext.nd z hz,hv]
    · rw[if_neg hk] at ho
      exact .inl (by rw[hlines];exact ho)
def SeaD.mid:Nat→SeaD→Nat→Nat→SeaD × Nat
  | 0,S,_,_=>(S,0)
  | f+1,S,id,j=>
    match mget S.leaps (id,j) with
    | some o=>(S,o)
    | none=>
      let n:=S.nd id
      let a:=S.nd n.a
      let b:=S.nd n.b
      let r:SeaD × Nat:=
       if n.level=2 then
        let u:=S.line a.a a.b b.a
        let v:=u.1.line a.b b.a b.b
        v.1.pair u.2 v.2
       else if j+2=n.level then
        let p:=S.pair a.b b.a
        let x:=SeaD.mid f p.1 n.a (j-1)
        let y:=SeaD.mid f x.1 p.2 (j-1)
        let z:=SeaD.mid f y.1 n.b (j-1)
        let q:=z.1.pair x.2 y.2
        let u:=SeaD.mid f q.1 q.2 (j-1)
        let q2:=u.1.pair y.2 z.2
        let v:=SeaD.mid f q2.1 q2.2 (j-1)
        v.1.pair u.2 v.2
       else
        let p:=S.pair a.b b.a
        let x:=SeaD.mid f p.1 n.a j
        let y:=SeaD.mid f x.1 p.2 j
        let z:=SeaD.mid f y.1 n.b j
        let u:=z.1.pair (z.1.nd x.2).b (z.1.nd y.2).a
        let v:=u.1.pair (z.1.nd y.2).b (z.1.nd z.2).a
        v.1.pair u.2 v.2
      ({r.1 with leaps:=mput r.1.leaps (id,j) r.2},r.2)
def costM:Nat→Nat
  | 0=>3
  | k+1=>5*costM k+5
structure IsMid (S:SeaD) (id j:Nat) (r:SeaD × Nat) (n:Nat):Prop where
  g:Grows S r.1 n
  lt:r.2<r.1.nodes.length
  lev:(r.1.nd r.2).level+1=(S.nd id).level
  rws:r.1.rws r.2=midD (lineR S.r S.t) (S.rws id) j
theorem Inv.kids {S:SeaD} (hi:Inv S) {id:Nat} (h:id<S.nodes.length) (hp:0<(S.nd id).level):(S.nd id).a<S.nodes.length∧(S.nd id).b<S.nodes.length∧(S.nd (S.nd id).a).level+1=(S.nd id).level∧(S.nd (S.nd id).b).level+1=(S.nd id).level:=(hi.nw id h).2 hp
theorem rws_kids {S:SeaD} (hi:Inv S) {id:Nat} (h:id<S.nodes.length) (hp:0<(S.nd id).level):S.rws id=S.rws (S.nd id).a++S.rws (S.nd id).b:=by
  obtain⟨_,_,h3,h4⟩:=hi.kids h hp
  unfold SeaD.rws
  obtain⟨l,hl⟩:∃ l,(S.nd id).level=l+1:=⟨(S.nd id).level-1,by omega⟩
  rw[hl,show (S.nd (S.nd id).a).level=l by omega,show (S.nd (S.nd id).b).level=l by omega]
  rfl
theorem IsMid.keep {S:SeaD} {id j n:Nat} {r:SeaD × Nat} (hid:id<S.nodes.length) (hi:Inv S) (h2:2≤(S.nd id).level) (h:IsMid S id j r n):IsMid S id j ({r.1 with leaps:=mput r.1.leaps (id,j) r.2},r.2) n:=by
  have e:Ext r.1 {r.1 with leaps:=mput r.1.leaps (id,j) r.2}:=Ext.same r.1 _ rfl rfl rfl rfl rfl rfl rfl rfl rfl rfl
  refine⟨⟨h.g.inv.maps e h.g.inv.nw h.g.inv.row0 (fun _ _ h=>.inl h) (fun _ _ _ h=>.inl h) (fun _ _ _ _ h=>.inl h) ?_,h.g.ext.trans e,h.g.len⟩,h.lt,h.lev,h.rws⟩
  intro a c o ho
  dsimp only at ho
  rw[mget_put] at ho
  by_cases hk:(id,j)=(a,c)
  · rw[if_pos hk] at ho
    obtain rfl:=Option.some.inj ho
    obtain⟨rfl,rfl⟩:=Prod.mk.inj hk
    have hge:=h.g.ext.len
    refine .inr ⟨Nat.lt_of_lt_of_le hid hge,h.lt,?_,?_,?_⟩
    · show 2≤(r.1.nd id).level;rw[h.g.ext.nd id hid];exact h2
    · show (r.1.nd r.2).level+1=(r.1.nd id).level;rw[h.g.ext.nd id hid];exact h.lev
    · show r.1.rws r.2=midD (lineR r.1.r r.1.t) (r.1.rws id) j
      rw[h.g.ext.rws hi.nw hid,h.g.ext.r,h.g.ext.t];exact h.rws
  · rw[if_neg hk] at ho;exact .inl ho
open Go.RowKit Go.Proofs
theorem midD_win (L:ByteArray→ByteArray→ByteArray→ByteArray) (R:List ByteArray) (s p h t:Nat) (j:Nat) (ht:t=2^j) (hle:t≤h):midD L (win L R s p (4*h)) j=win L R (s+t) (p+h) (2*h):=by
  unfold midD
  rw[win_len,← ht,show 4*h/4=h by omega,show 4*h/2=2*h by omega]
  exact win_win R s p (4*h) t h (2*h) hle (by omega)
theorem Grows.at {S T:SeaD} {n id:Nat} (g:Grows S T n) (hi:Inv S) (h:id<S.nodes.length):id<T.nodes.length∧T.nd id=S.nd id∧T.rws id=S.rws id:=⟨Nat.lt_of_lt_of_le h g.ext.len,g.ext.nd id h,g.ext.rws hi.nw h⟩
theorem midD_four (L:ByteArray→ByteArray→ByteArray→ByteArray) (a b c d:ByteArray):midD L ([a]++[b]++([c]++[d])) 0=[L a b c]++[L b c d]:=by
  have h:midD L [a,b,c,d] 0=win L [a,b,c,d] (2^0) (4/4) (4/2):=rfl
  show midD L [a,b,c,d] 0=[L a b c,L b c d]
  rw[h]
  simp[win,cellAt,List.range_succ]
theorem IsMid.out {S:SeaD} {id j n:Nat} {r:SeaD × Nat} (h:IsMid S id j r n) {l:Nat} (hl:(S.nd id).level=l) {L:ByteArray→ByteArray→ByteArray→ByteArray} (hL:lineR S.r S.t=L) {R:List ByteArray} (hR:S.rws id=R):Grows S r.1 n∧r.2<r.1.nodes.length∧(r.1.nd r.2).level+1=l∧r.1.rws r.2=midD L R j:=by
  subst hl hL hR;exact⟨h.g,h.lt,h.lev,h.rws⟩
set_option maxHeartbeats 1000000 in
theorem mid_hi (f j:Nat) {S:SeaD} {z:SeaD × Nat} {x y l hh t:Nat} {L:ByteArray→ByteArray→ByteArray→ByteArray} {R:List ByteArray} (hl:l≤42) (hhd:hh=2^l) (hlf:l+2≤f+1) (hj:j+2≤l+2) (ht:t=2^j) (htl:t≤hh) (ih:∀ (S:SeaD) (id j:Nat),SeaK S→Inv S→id<S.nodes.length→2≤(S.nd id).level→(S.nd id).level≤f+1→j+2≤(S.nd id).level→IsMid S id j (S.mid f id j) (costM ((S.nd id).level-2)))
    (gz:Grows S z.1 (1+3*costM l)) (Kz:SeaK z.1) (Lz:lineR z.1.r z.1.t=L) (hx:x<z.1.nodes.length∧(z.1.nd x).level=l+1∧z.1.rws x=win L R t hh (2*hh)) (hy:y<z.1.nodes.length∧(z.1.nd y).level=l+1∧z.1.rws y=win L R t (3*hh) (2*hh)) (hz:z.2<z.1.nodes.length∧(z.1.nd z.2).level=l+1∧z.1.rws z.2=win L R t (5*hh) (2*hh)) :
    let q:=z.1.pair x y
    let u:=SeaD.mid f q.1 q.2 j
    let r:=u.1.pair y z.2
    let v:=SeaD.mid f r.1 r.2 j
    let w:=v.1.pair u.2 v.2
    Grows S w.1 (5*costM l+5)∧w.2<w.1.nodes.length∧(w.1.nd w.2).level=l+2∧w.1.rws w.2=win L R (t+t) (2*hh) (4*hh):=by
  dsimp only
  obtain⟨x1,x2,x3⟩:=hx
  obtain⟨y1,y2,y3⟩:=hy
  obtain⟨z1,z2,z3⟩:=hz
  obtain⟨gq,lq,levq,_,_,rowq⟩:=sea_pair_law z.1 gz.inv x y x1 y1 (by omega) (by omega)
  generalize hq:z.1.pair x y=q at *
  have wq:q.1.rws q.2=win L R t hh (4*hh):=by
   rw[rowq,x3,y3,show 3*hh=hh+2*hh by omega,win_app,show 2*hh+2*hh=4*hh by omega]
  have Lq:lineR q.1.r q.1.t=L:=by rw[gq.ext.r,gq.ext.t];exact Lz
  have mu:=ih q.1 q.2 j (Kz.of_ext gq.ext) gq.inv lq (by omega) (by omega) (by omega)
  obtain⟨mug,mult,mulev,murws⟩:=mu.out (l:=l+2) (by omega) Lq wq
  rw[show (q.1.nd q.2).level-2=l by omega] at mug
  rw[midD_win L R t hh hh t j ht htl] at murws
  clear mu
  generalize hu:SeaD.mid f q.1 q.2 j=u at *
  have gu:=gq.trans mug
  obtain⟨y4,y5,y6⟩:=gu.at gz.inv y1
  obtain⟨z4,z5,z6⟩:=gu.at gz.inv z1
  obtain⟨gr,lr,levr,_,_,rowr⟩:=sea_pair_law u.1 gu.inv y z.2 y4 z4 (by rw[y5,z5];omega) (by rw[y5];omega)
  generalize hr:u.1.pair y z.2=r at *
  have wr:r.1.rws r.2=win L R t (3*hh) (4*hh):=by
   rw[rowr,y6,z6,y3,z3,show 5*hh=3*hh+2*hh by omega,win_app,show 2*hh+2*hh=4*hh by omega]
  have Lr:lineR r.1.r r.1.t=L:=by rw[gr.ext.r,gr.ext.t,gu.ext.r,gu.ext.t];exact Lz
  rw[y5] at levr
  have mv:=ih r.1 r.2 j ((Kz.of_ext gu.ext).of_ext gr.ext) gr.inv lr (by omega) (by omega) (by omega)
  obtain⟨mvg,mvlt,mvlev,mvrws⟩:=mv.out (l:=l+2) (by omega) Lr wr
  rw[show (r.1.nd r.2).level-2=l by omega] at mvg
  rw[midD_win L R t (3*hh) hh t j ht htl] at mvrws
  clear mv
  generalize hv:SeaD.mid f r.1 r.2 j=v at *
  have gv:=gr.trans mvg
  obtain⟨u4,u5,u6⟩:=gv.at gu.inv mult
  obtain⟨gw,lw,levw,_,_,roww⟩:=sea_pair_law v.1 gv.inv u.2 v.2 u4 mvlt (by rw[u5];omega) (by rw[u5];omega)
  refine⟨(((gz.trans gu).trans gv).trans gw).mono (by omega),lw,by rw[levw,u5];omega,?_⟩
  rw[roww,u6,murws,mvrws,show 3*hh+hh=(hh+hh)+2*hh by omega,win_app]
  rw[show hh+hh=2*hh by omega,show 2*hh+2*hh=4*hh by omega]
set_option maxHeartbeats 1000000 in
theorem mid_lo {S:SeaD} {z:SeaD × Nat} {x y l hh t:Nat} {L:ByteArray→ByteArray→ByteArray→ByteArray} {R:List ByteArray} (hl:l≤42) (hhd:hh=2^l) (gz:Grows S z.1 (1+3*costM l)) (Kz:SeaK z.1) (Lz:lineR z.1.r z.1.t=L) (hx:x<z.1.nodes.length∧(z.1.nd x).level=l+1∧z.1.rws x=win L R t hh (2*hh)) (hy:y<z.1.nodes.length∧(z.1.nd y).level=l+1∧z.1.rws y=win L R t (3*hh) (2*hh)) (hz:z.2<z.1.nodes.length∧(z.1.nd z.2).level=l+1∧z.1.rws z.2=win L R t (5*hh) (2*hh)) :
    let u:=z.1.pair (z.1.nd x).b (z.1.nd y).a
    let v:=u.1.pair (z.1.nd y).b (z.1.nd z.2).a
    let w:=v.1.pair u.2 v.2
    Grows S w.1 (5*costM l+5)∧w.2<w.1.nodes.length∧(w.1.nd w.2).level=l+2∧w.1.rws w.2=win L R t (2*hh) (4*hh):=by
  dsimp only
  obtain⟨x1,x2,x3⟩:=hx
  obtain⟨y1,y2,y3⟩:=hy
  obtain⟨z1,z2,z3⟩:=hz
  obtain⟨kx1,kx2,kx3,kx4⟩:=gz.inv.kids x1 (by omega)
  obtain⟨ky1,ky2,ky3,ky4⟩:=gz.inv.kids y1 (by omega)
  obtain⟨kz1,kz2,kz3,kz4⟩:=gz.inv.kids z1 (by omega)
  have hlen:∀ i,(z.1.nd i).level=l→(z.1.rws i).length=hh:=fun i hi=>by rw[z.1.rws_len,hi,hhd]
  obtain⟨_,wxb⟩:=win_split (L:=L) (R:=R) (t:=t) (p:=hh) (n:=hh) (by rw[show hh+hh=2*hh by omega,← x3];exact (rws_kids gz.inv x1 (by omega)).symm) (hlen _ (by omega))
  obtain⟨wya,wyb⟩:=win_split (L:=L) (R:=R) (t:=t) (p:=3*hh) (n:=hh) (by rw[show hh+hh=2*hh by omega,← y3];exact (rws_kids gz.inv y1 (by omega)).symm) (hlen _ (by omega))
  obtain⟨wza,_⟩:=win_split (L:=L) (R:=R) (t:=t) (p:=5*hh) (n:=hh) (by rw[show hh+hh=2*hh by omega,← z3];exact (rws_kids gz.inv z1 (by omega)).symm) (hlen _ (by omega))
  obtain⟨gu,lu,levu,_,_,rowu⟩:=sea_pair_law z.1 gz.inv _ _ kx2 ky1 (by omega) (by omega)
  generalize hu:z.1.pair (z.1.nd x).b (z.1.nd y).a=u at *
  obtain⟨s1,s2,s3⟩:=gu.at gz.inv ky2
  obtain⟨s4,s5,s6⟩:=gu.at gz.inv kz1
  obtain⟨gv,lv,levv,_,_,rowv⟩:=sea_pair_law u.1 gu.inv _ _ s1 s4 (by rw[s2,s5];omega) (by rw[s2];omega)
  generalize hv:u.1.pair (z.1.nd y).b (z.1.nd z.2).a=v at *
  obtain⟨s7,s8,s9⟩:=gv.at gu.inv lu
  rw[s2] at levv
  obtain⟨gw,lw,levw,_,_,roww⟩:=sea_pair_law v.1 gv.inv u.2 v.2 s7 lv (by rw[s8];omega) (by rw[s8];omega)
  refine⟨(((gz.trans gu).trans gv).trans gw).mono (by omega),lw,by rw[levw,s8];omega,?_⟩
  rw[roww,s9,rowu,rowv,s3,s6,wxb,wya,wyb,wza,show 3*hh=(hh+hh)+hh by omega,win_app,show 5*hh=(hh+hh+hh+hh)+hh by omega,win_app]
  rw[show hh+hh+hh+hh=(hh+hh)+(hh+hh) by omega,win_app]
  rw[show hh+hh=2*hh by omega,show 2*hh+2*hh=4*hh by omega]
set_option maxHeartbeats 2000000 in
theorem sea_mid_law:∀ (f:Nat) (S:SeaD) (id j:Nat),SeaK S→Inv S→id<S.nodes.length→2≤(S.nd id).level→(S.nd id).level≤f+1→j+2≤(S.nd id).level→IsMid S id j (S.mid f id j) (costM ((S.nd id).level-2)):=by
  intro f
  induction f with
  | zero=>intro S id j K hi hid h2 hf hj;omega
  | succ f ih=>
    intro S id j K hi hid h2 hf hj
    unfold SeaD.mid
    cases h:mget S.leaps (id,j) with
    | some o=>
      obtain⟨h1,h3,h4,h5,h6⟩:=hi.leaps id j o h
      exact⟨⟨hi,Ext.refl S,by simp⟩,h3,h5,h6⟩
    | none=>
      dsimp only
      refine IsMid.keep hid hi h2 ?_
      obtain⟨ha,hb,la,lb⟩:=hi.kids hid (by omega)
      have hR:=rws_kids hi hid (by omega)
      have hnl:=(hi.nw id hid).1
      have hnl':(S.nd id).level≤45:=hnl
      generalize hna:(S.nd id).a=ia at *
      generalize hnb:(S.nd id).b=ib at *
      obtain⟨haa,hab,laa,lab⟩:=hi.kids ha (by omega)
      obtain⟨hba,hbb,lba,lbb⟩:=hi.kids hb (by omega)
      have hRa:=rws_kids hi ha (by omega)
      have hRb:=rws_kids hi hb (by omega)
      generalize hiaa:(S.nd ia).a=iaa at *
      generalize hiab:(S.nd ia).b=iab at *
      generalize hiba:(S.nd ib).a=iba at *
      generalize hibb:(S.nd ib).b=ibb at *
      by_cases hl2:(S.nd id).level=2
      · rw[if_pos hl2]
        rw[hl2] at la lb
        obtain⟨gu,lu,levu,rowu⟩:=sea_line_law S K hi iaa iab iba haa hab hba (by omega) (by omega) (by omega)
        generalize hu:S.line iaa iab iba=u at *
        obtain⟨q1,q2,q3⟩:=gu.at hi hab
        obtain⟨q4,q5,q6⟩:=gu.at hi hba
        obtain⟨q7,q8,q9⟩:=gu.at hi hbb
        obtain⟨gv,lv,levv,rowv⟩:=sea_line_law u.1 (K.of_ext gu.ext) gu.inv iab iba ibb q1 q4 q7 (by rw[q2];omega) (by rw[q5];omega) (by rw[q8];omega)
        generalize hv:u.1.line iab iba ibb=v at *
        obtain⟨r1,r2,r3⟩:=gv.at gu.inv lu
        obtain⟨gw,lw,levw,_,_,roww⟩:=sea_pair_law v.1 gv.inv u.2 v.2 r1 lv (by rw[r2,levu,levv]) (by rw[r2,levu];omega)
        refine⟨((gu.trans gv).trans gw).mono (by rw[hl2];decide),lw,by rw[levw,r2,levu,hl2],?_⟩
        rw[roww]
        have e0:∀ (T:SeaD) (i:Nat),(T.nd i).level=0→T.rws i=[(T.nd i).row]:=fun T i hz=>by unfold SeaD.rws;rw[hz];rfl
        rw[e0 v.1 u.2 (by rw[r2,levu]),e0 v.1 v.2 levv,r2,rowu,rowv,q2,q5,q8,gu.ext.r,gu.ext.t]
        rw[hR,hRa,hRb,e0 S iaa (by omega),e0 S iab (by omega),e0 S iba (by omega),e0 S ibb (by omega)]
        obtain rfl:j=0:=by omega
        exact (midD_four _ _ _ _ _).symm
      · rw[if_neg hl2]
        obtain⟨l,hl⟩:∃ l,(S.nd id).level=l+3:=⟨(S.nd id).level-3,by omega⟩
        obtain⟨hh,hhd⟩:∃ hh,hh=2^l:=⟨_,rfl⟩
        have hRl:(S.rws id).length=8*hh:=by rw[S.rws_len,hl,hhd,Nat.pow_succ,Nat.pow_succ,Nat.pow_succ];omega
        have hAl:(S.rws ia).length=4*hh:=by rw[S.rws_len,show (S.nd ia).level=l+2 by omega,hhd,Nat.pow_succ,Nat.pow_succ];omega
        have hAAl:(S.rws iaa).length=2*hh:=by rw[S.rws_len,show (S.nd iaa).level=l+1 by omega,hhd,Nat.pow_succ];omega
        have hBAl:(S.rws iba).length=2*hh:=by rw[S.rws_len,show (S.nd iba).level=l+1 by omega,hhd,Nat.pow_succ];omega
        generalize hLd:lineR S.r S.t=L at *
        generalize hRd:S.rws id=R at *
        have hw0:=win_zero (L:=L) R
        rw[hRl] at hw0
        obtain⟨wA,wB⟩:=win_split (L:=L) (R:=R) (t:=0) (p:=0) (n:=4*hh) (by rw[show 4*hh+4*hh=8*hh by omega,hw0];exact hR.symm) hAl
        obtain⟨wAA,wAB⟩:=win_split (L:=L) (R:=R) (t:=0) (p:=0) (n:=2*hh) (by rw[show 2*hh+2*hh=4*hh by omega,← wA];exact hRa.symm) hAAl
        obtain⟨wBA,wBB⟩:=win_split (L:=L) (R:=R) (t:=0) (p:=0+4*hh) (n:=2*hh) (by rw[show 2*hh+2*hh=4*hh by omega,← wB];exact hRb.symm) hBAl
        obtain⟨gp,lp,levp,_,_,rowp⟩:=sea_pair_law S hi iab iba hab hba (by omega) (by omega)
        generalize hp:S.pair iab iba=p at *
        have wP:p.1.rws p.2=win L R 0 (2*hh) (4*hh):=by
         rw[rowp,wAB,wBA,show 0+4*hh=(0+2*hh)+2*hh by omega,win_app]
         rw[show 0+2*hh=2*hh by omega,show 2*hh+2*hh=4*hh by omega]
        obtain⟨a1,a2,a3⟩:=gp.at hi ha
        obtain⟨b1,b2,b3⟩:=gp.at hi hb
        have Lp:lineR p.1.r p.1.t=L:=by rw[gp.ext.r,gp.ext.t];exact hLd
        have Kp:=K.of_ext gp.ext
        have main:∀ j',j'≤l→∃ (t:Nat),t=2^j'∧t≤hh∧(let x:=SeaD.mid f p.1 ia j'
         let y:=SeaD.mid f x.1 p.2 j'
         let z:=SeaD.mid f y.1 ib j'
         Grows S z.1 (1+3*costM l)∧SeaK z.1∧lineR z.1.r z.1.t=L∧(x.2<z.1.nodes.length∧(z.1.nd x.2).level=l+1∧z.1.rws x.2=win L R t hh (2*hh))∧(y.2<z.1.nodes.length∧(z.1.nd y.2).level=l+1∧z.1.rws y.2=win L R t (3*hh) (2*hh))∧(z.2<z.1.nodes.length∧(z.1.nd z.2).level=l+1∧z.1.rws z.2=win L R t (5*hh) (2*hh))):=by
         intro j' hj'
         have htl:2^j'≤hh:=by rw[hhd];exact Nat.pow_le_pow_right (by omega) hj'
         refine⟨2^j',rfl,htl,?_⟩
         have mx:=ih p.1 ia j' Kp gp.inv a1 (by rw[a2];omega) (by rw[a2];omega) (by rw[a2];omega)
         obtain⟨mxg,mxlt,mxlev,mxrws⟩:=mx.out (l:=l+2) (by rw[a2];omega) Lp (a3.trans wA)
         rw[show (p.1.nd ia).level-2=l by rw[a2];omega] at mxg
         clear mx
         dsimp only
         generalize hx:SeaD.mid f p.1 ia j'=x at *
         obtain⟨p1,p2,p3⟩:=mxg.at gp.inv lp
         obtain⟨c1,c2,c3⟩:=mxg.at gp.inv b1
         have Lx:lineR x.1.r x.1.t=L:=by rw[mxg.ext.r,mxg.ext.t];exact Lp
         have Kx:=Kp.of_ext mxg.ext
         have my:=ih x.1 p.2 j' Kx mxg.inv p1 (by rw[p2,levp];omega) (by rw[p2,levp];omega) (by rw[p2,levp];omega)
         obtain⟨myg,mylt,mylev,myrws⟩:=my.out (l:=l+2) (by rw[p2,levp];omega) Lx (p3.trans wP)
         rw[show (x.1.nd p.2).level-2=l by rw[p2,levp];omega] at myg
         clear my
         generalize hy:SeaD.mid f x.1 p.2 j'=y at *
         obtain⟨d1,d2,d3⟩:=myg.at mxg.inv c1
         obtain⟨e1,e2,e3⟩:=myg.at mxg.inv mxlt
         have Ly:lineR y.1.r y.1.t=L:=by rw[myg.ext.r,myg.ext.t];exact Lx
         have Ky:=Kx.of_ext myg.ext
         have mz:=ih y.1 ib j' Ky myg.inv d1 (by rw[d2,c2,b2];omega) (by rw[d2,c2,b2];omega) (by rw[d2,c2,b2];omega)
         obtain⟨mzg,mzlt,mzlev,mzrws⟩:=mz.out (l:=l+2) (by rw[d2,c2,b2];omega) Ly (d3.trans (c3.trans (b3.trans wB)))
         rw[show (y.1.nd ib).level-2=l by rw[d2,c2,b2];omega] at mzg
         clear mz
         generalize hz:SeaD.mid f y.1 ib j'=z at *
         obtain⟨f1,f2,f3⟩:=mzg.at myg.inv e1
         obtain⟨g1,g2,g3⟩:=mzg.at myg.inv mylt
         have Lz:lineR z.1.r z.1.t=L:=by rw[mzg.ext.r,mzg.ext.t];exact Ly
         refine⟨(((gp.trans mxg).trans myg).trans mzg).mono (by omega),Ky.of_ext mzg.ext,Lz,⟨f1,by rw[f2,e2];omega,?_⟩,⟨g1,by rw[g2];omega,?_⟩,⟨mzlt,by omega,?_⟩⟩
         · rw[f3,e3,mxrws,midD_win L R 0 0 hh _ j' rfl htl]
           rw[show 0+2^j'=2^j' by omega,show 0+hh=hh by omega]
         · rw[g3,myrws,midD_win L R 0 (2*hh) hh _ j' rfl htl]
           rw[show 0+2^j'=2^j' by omega,show 2*hh+hh=3*hh by omega]
         · rw[mzrws,midD_win L R 0 (0+4*hh) hh _ j' rfl htl]
           rw[show 0+2^j'=2^j' by omega,show 0+4*hh+hh=5*hh by omega]
        by_cases hjf:j+2=(S.nd id).level
        · rw[if_pos hjf]
          obtain⟨t,ht,htl,hm⟩:=main (j-1) (by omega)
          clear main
          dsimp only at hm
          generalize hx:SeaD.mid f p.1 ia (j-1)=x at *
          generalize hy:SeaD.mid f x.1 p.2 (j-1)=y at *
          generalize hz:SeaD.mid f y.1 ib (j-1)=z at *
          obtain⟨gz,Kz,Lz,hx,hy,hz⟩:=hm
          have hw:=mid_hi f (j-1) (by omega) hhd (by omega) (by omega) ht htl ih gz Kz Lz hx hy hz
          dsimp only at hw
          obtain⟨w1,w2,w3,w4⟩:=hw
          refine⟨w1.mono (by rw[hl,show l+3-2=l+1 by omega];simp only[costM];omega),w2,by rw[w3,hl],?_⟩
          rw[w4,hLd,hRd]
          unfold midD
          rw[hRl,show 8*hh/4=2*hh by omega,show 8*hh/2=4*hh by omega]
          rw[show 2^j=t+t by rw[ht,show j=(j-1)+1 by omega,Nat.pow_succ];simp only[Nat.add_sub_cancel];omega]
        · rw[if_neg hjf]
          obtain⟨t,ht,htl,hm⟩:=main j (by omega)
          clear main
          dsimp only at hm
          generalize hx:SeaD.mid f p.1 ia j=x at *
          generalize hy:SeaD.mid f x.1 p.2 j=y at *
          generalize hz:SeaD.mid f y.1 ib j=z at *
          obtain⟨gz,Kz,Lz,hx,hy,hz⟩:=hm
          have hw:=mid_lo (by omega) hhd gz Kz Lz hx hy hz
          dsimp only at hw
          obtain⟨w1,w2,w3,w4⟩:=hw
          refine⟨w1.mono (by rw[hl,show l+3-2=l+1 by omega];simp only[costM];omega),w2,by rw[w3,hl],?_⟩
          rw[w4,hLd,hRd]
          unfold midD
          rw[hRl,show 8*hh/4=2*hh by omega,show 8*hh/2=4*hh by omega,← ht]
open Go.RowKit Go.Proofs
structure Good (S T:SeaD) (n:Nat):Prop where
  K:SeaK T
  i:Inv T
  e:Ext S T
  len:T.nodes.length≤S.nodes.length+n
  most:T.most=S.most
theorem Good.refl {S:SeaD} (K:SeaK S) (i:Inv S):Good S S 0:=⟨K,i,Ext.refl S,by omega,rfl⟩
def Lv (T:SeaD) (x l:Nat):Prop:=x<T.nodes.length∧(T.nd x).level=l
theorem Lv.up {T U:SeaD} {x l:Nat} (h:Lv T x l) (e:Ext T U):Lv U x l:=⟨Nat.lt_of_lt_of_le h.1 e.len,by rw[e.nd x h.1];exact h.2⟩
theorem Good.step {S T U:SeaD} {n m:Nat} (G:Good S T n) (g:Grows T U m):Good S U (n+m)∧Ext T U:=
  ⟨⟨G.K.of_ext g.ext,g.inv,G.e.trans g.ext,by have:=G.len;have:=g.len;omega,g.ext.most.trans G.most⟩,g.ext⟩
theorem Good.pair {S T:SeaD} {n x y l:Nat} (G:Good S T n) (hx:Lv T x l) (hy:Lv T y l) (hl:l≤44):Good S (T.pair x y).1 (n+1)∧Lv (T.pair x y).1 (T.pair x y).2 (l+1)∧Ext T (T.pair x y).1:=by
  obtain⟨g,h1,h2,_⟩:=sea_pair_law T G.i x y hx.1 hy.1 (by rw[hx.2,hy.2]) (by rw[hx.2];omega)
  exact⟨(G.step g).1,⟨h1,by rw[h2,hx.2]⟩,g.ext⟩
theorem Good.line {S T:SeaD} {n x y z:Nat} (G:Good S T n) (hx:Lv T x 0) (hy:Lv T y 0) (hz:Lv T z 0):Good S (T.line x y z).1 (n+1)∧Lv (T.line x y z).1 (T.line x y z).2 0∧Ext T (T.line x y z).1:=by
  obtain⟨g,h1,h2,_⟩:=sea_line_law T G.K G.i x y z hx.1 hy.1 hz.1 hx.2 hy.2 hz.2
  exact⟨(G.step g).1,⟨h1,h2⟩,g.ext⟩
theorem Good.mid {S T:SeaD} {n x l f j:Nat} (G:Good S T n) (hx:Lv T x (l+2)) (hf:l+2≤f+1) (hj:j≤l):Good S (SeaD.mid f T x j).1 (n+costM l)∧Lv (SeaD.mid f T x j).1 (SeaD.mid f T x j).2 (l+1)∧Ext T (SeaD.mid f T x j).1:=by
  have m:=sea_mid_law f T x j G.K G.i hx.1 (by rw[hx.2];omega) (by rw[hx.2];omega) (by rw[hx.2];omega)
  have h1:=m.lev
  rw[hx.2] at h1
  have h2:=m.g
  rw[hx.2,show l+2-2=l by omega] at h2
  exact⟨(G.step h2).1,⟨m.lt,by omega⟩,h2.ext⟩
theorem Good.kids {S T:SeaD} {n x l:Nat} (G:Good S T n) (hx:Lv T x (l+1)):Lv T (T.nd x).a l∧Lv T (T.nd x).b l:=by
  obtain⟨h1,h2,h3,h4⟩:=G.i.kids hx.1 (by rw[hx.2];omega)
  rw[hx.2] at h3 h4
  exact⟨⟨h1,by omega⟩,⟨h2,by omega⟩⟩
theorem Good.row {S T:SeaD} {n x:Nat} (G:Good S T n) (hx:Lv T x 0):RowOkB T (T.row' x):=G.i.row0 x hx.1 hx.2
theorem Good.put {S T:SeaD} {n:Nat} (G:Good S T n) {m:Nat} (h:S.nodes.length+(n+m)≤S.most):T.nodes.length+m≤T.most:=by have:=G.len;have:=G.most;omega
theorem Good.lev {S T:SeaD} {n x l:Nat} (G:Good S T n) (hx:Lv T x l):l≤45:=by have:=(G.i.nw x hx.1).1;have h:(T.nodes.getD x .no).level=l:=hx.2;omega
open Go.RowKit Go.Proofs
section
variable {k:World} {h0:Hp}
set_option maxRecDepth 10000 in
set_option maxHeartbeats 8000000 in
theorem sea_mid1 (b f:Nat) (ih:∀ (k:World) (h0:Hp) (A:SeaA) (S:SeaD) (id j:Nat) (jv:Int) (l:Nat),jv=(j:Int)→SeaK S→Inv S→Lv S id (l+2)→l+2≤f+1→j≤l→S.nodes.length+costM l≤S.most→FT Pg 60 [.pointer (some ⟨b,0,none⟩),encI id,.int .i64 jv] k h0 (seaS b A S) (Ret fun v τ=>∃ nv,v=encI (SeaD.mid f S id j).2∧τ=seaS b {A with nv:=nv} (SeaD.mid f S id j).1)) (A:SeaA) (S:SeaD) (id j:Nat) (jv:Int) (lm:Nat) (hjv:jv=(j:Int)) (K:SeaK S) (hi:Inv S) (lid:Lv S id (lm+2)) (hf:lm+2≤f+1+1) (hj:j≤lm) (hc:S.nodes.length+costM lm≤S.most):FT Pg 60 [.pointer (some ⟨b,0,none⟩),encI id,.int .i64 jv] k h0 (seaS b A S) (Ret fun v τ=>∃ nv,v=encI (SeaD.mid (f+1) S id j).2∧τ=seaS b {A with nv:=nv} (SeaD.mid (f+1) S id j).1):=by
  subst hjv
  have hid:id<S.nodes.length:=lid.1
  have hlm:(S.nodes.getD id .no).level=lm+2:=lid.2
  have G0:=Good.refl K hi
  have hl45:=G0.lev lid
  refine FT.tight<|FT.fact (fun _ _ _ s=>s.vec_shape (E:=111) (sz:=4) 1 rfl) ?_
  rintro ⟨_,na,ncap,hnv,hncap,hna⟩
  obtain⟨c0,hc0⟩:=hna (by omega)
  subst hc0
  obtain⟨tv,tw,nv,bp,br,bl,bn,ov,bm,bk⟩:=A
  dsimp only at hnv
  subst hnv
  unfold encI
  refine FT.of_wp (n:=199) Tryz.func60 rfl rfl rfl<|WP.regs<|L.assign rfl<|WL.nil<|WP.regs<|L.move rfl<|L.move rfl<|L.build (cs:=[_,_]) T173.b T173.z rfl rfl<|L.alloc T173.z fun c7=>L.storeN T173.ag rfl rfl rfl (Wrs.all 0 rfl rfl (by simp[Value.oneCell']))<|WL.nil<|WP.seq<|WP.seq<|WP.rege [(0,true),(1,true),(2,true),(3,true),(4,true),(5,true),(6,true),(7,true),(8,true),(9,true),(10,true)] 11 rfl (by kernel_rfl) (PInv.then (PInv.then PInv.ret)) rfl<|WE.take rfl (V.move rfl)<|WE.take rfl (V.nilCheck rfl)<|WE.take rfl (V.fieldAddr (o':=21) T59.f7 rfl rfl) ?_;refine WE.take rfl (V.load T54.sc rfl (Rd.own 1 rfl rfl))<|WE.take rfl (V.loadN T173.ag rfl rfl (Rds.all 0 rfl))<|WE.take rfl (V.lookupOk (α:=Nat × Nat) (enc:=encP) (key:=(id,j)) 5 T54.m K173 T3.z1 rfl rfl rfl) ?_
  rw[mget_vm]
  rcases hq:mget S.leaps (id,j) with _ | id
  rotate_left
  ·
   refine WE.take rfl (V.move rfl)<|WE.take rfl (V.extract rfl rfl)<|WE.take rfl (V.extract rfl rfl)<|WE.take rfl (V.assign rfl)<|WE.take rfl (V.assign rfl)<|WE.nil<|X.thenN<|WP.regs<|L.move rfl<|WL.nil<|WP.condT rfl<|WP.regs<|L.move rfl<|L.assign rfl<|WL.nil<|WP.ret<|X.thenR<|X.ret rfl (Res.one rfl rfl) ?_;exact⟨_,rfl,_,⟨.slice (some ⟨c0,0,none⟩) S.nodes.length ncap,by simp[SeaD.mid,hq,encI],rfl⟩,((Ent.left [_] _)).trans (Ent.of_eq (by simp only[SeaD.mid,hq]))⟩
  ·
   refine WE.take rfl (V.move rfl)<|WE.take rfl (V.extract rfl rfl)<|WE.take rfl (V.extract rfl rfl)<|WE.take rfl (V.assign rfl)<|WE.take rfl (V.assign rfl)<|WE.nil<|X.thenN<|WP.regs<|L.move rfl<|WL.nil<|WP.condF rfl<|WP.skip<|X.thenN<|WP.regs ?_
   obtain⟨la,lb⟩:=G0.kids lid
   have hla:(S.nodes.getD id .no).a<S.nodes.length:=la.1
   have hlb:(S.nodes.getD id .no).b<S.nodes.length:=lb.1
   obtain⟨laa,lab⟩:=G0.kids la
   obtain⟨lba,lbb⟩:=G0.kids lb
   refine L.move rfl<|L.nilCheck rfl<|L.fieldAddr (o':=18) T59.f4 rfl rfl<|L.load T51.sc rfl (Rd.own 1 rfl rfl)<|L.move rfl<|L.indexS T51.sl rfl rfl (by omega)<|L.loadN T111.ag rfl rfl (Rds.vec (vs:=nodeC (S.nodes.getD id .no)) 2 rfl (fun j v hj=>nodesC_rd S.nodes id hid j hj))<|L.alloc T111.z fun c10=>L.storeN T111.ag rfl rfl rfl (Wrs.all 0 rfl rfl (by simp[Value.oneCell']))<|WL.nil<|WP.cut (X:=Nat × Nat) (fun x=>⟨199,[],[(0,.pointer (some ⟨b,0,none⟩)),(1,.int .i64 (id:Int)),(2,.int .i64 (j:Int)),(7,.pointer (some ⟨c7,0,none⟩)),(10,.pointer (some ⟨c10,0,none⟩)),(11,.pointer (some ⟨x.1,0,none⟩)),(12,.pointer (some ⟨x.2,0,none⟩))]⟩) (fun x=>[cl x.1 (nodeC (S.nodes.getD (S.nodes.getD id .no).a .no)) 111,cl x.2 (nodeC (S.nodes.getD (S.nodes.getD id .no).b .no)) 111,cl c10 (nodeC (S.nodes.getD id .no)) 111,cl c7 [.int .i64 (id:Int),.int .i64 (j:Int)] 173]++seaS b ⟨tv,tw,.slice (some ⟨c0,0,none⟩) S.nodes.length ncap,bp,br,bl,bn,ov,bm,bk⟩ S) (fun x=>True) ?_ ?_
   ·
    refine WP.regn _ rfl ?_ (Ent.refl _)
    refine WT.read (m:=4) (fin:=fun l=>l == #[true,true,true,true,true,true,true,true,true,true,true,true,true,true,true,true,false,false,false,false]) [(0,true),(1,true),(2,true),(3,true),(4,true),(5,true),(6,true),(7,true),(8,true),(9,true),(10,true),(11,true),(12,true),(13,true),(14,true),(15,true)] (by kernel_rfl) (PInv.then PInv.ret) (Ent.refl _)<|WE.take rfl (V.move rfl)<|WE.take rfl (V.nilCheck rfl)<|WE.take rfl (V.fieldAddr (o':=18) T59.f4 rfl rfl)<|WE.take rfl (V.load T51.sc rfl (Rd.own 2 rfl rfl)) ?_;refine WE.take rfl (V.fieldAddr (o':=1) T111.f1 rfl rfl)<|WE.take rfl (V.load T3.sc rfl (Rd.own 0 rfl rfl))<|WE.take rfl (V.indexS T51.sl rfl rfl (by omega))<|WE.take rfl (V.loadN T111.ag rfl rfl (Rds.vec (vs:=nodeC (S.nodes.getD (S.nodes.getD id .no).a .no)) 3 rfl (fun j v hj=>nodesC_rd S.nodes (S.nodes.getD id .no).a hla j hj)))<|WE.take rfl (V.move rfl)<|WE.take rfl (V.nilCheck rfl)<|WE.take rfl (V.fieldAddr (o':=18) T59.f4 rfl rfl)<|WE.take rfl (V.load T51.sc rfl (Rd.own 2 rfl rfl))<|WE.take rfl (V.fieldAddr (o':=2) T111.f2 rfl rfl)<|WE.take rfl (V.load T3.sc rfl (Rd.own 0 rfl rfl)) ?_;refine WE.take rfl (V.indexS T51.sl rfl rfl (by omega))<|WE.take rfl (V.loadN T111.ag rfl rfl (Rds.vec (vs:=nodeC (S.nodes.getD (S.nodes.getD id .no).b .no)) 3 rfl (fun j v hj=>nodesC_rd S.nodes (S.nodes.getD id .no).b hlb j hj)))<|WE.free #[true,true,true,true,true,true,true,true,true,true,true,true,true,true,true,true,false,false,false,false]<|WN.two 16 17 (by kernel_rfl) rfl rfl ?_ ?_
    ·
     refine L.alloc T111.z fun c11=>WL.nil ⟨(Ent.left [_] _),?_⟩;refine WN.one 17 (by kernel_rfl) rfl<|L.alloc T111.z fun c12=>WL.nil ⟨(Ent.left [_,_] _),?_⟩;refine WN.one 18 (by kernel_rfl) rfl<|L.storeN T111.ag rfl rfl rfl (Wrs.all 1 rfl rfl (by simp[Value.oneCell']))<|WL.nil ⟨(Ent.left [_,_] _),?_⟩;refine WN.one 19 (by kernel_rfl) rfl<|L.storeN T111.ag rfl rfl rfl (Wrs.all 0 rfl rfl (by simp[Value.oneCell']))<|WL.nil ⟨(Ent.left [_,_] _),?_⟩
     refine WT.nil (by kernel_rfl)<|X.thenN ⟨(c11,c12),trivial,(Env.Sub.cons rfl rfl (Env.Sub.cons rfl rfl (Env.Sub.cons rfl rfl (Env.Sub.cons rfl rfl (Env.Sub.cons rfl rfl (Env.Sub.cons rfl rfl (Env.Sub.cons rfl rfl Env.Sub.nil))))))),(Ent.pk [1,0,0,0,0,0,0,0,0,0,0,0,0,0] rfl)⟩
    ·
     refine L.alloc T111.z fun c12=>WL.nil ⟨(Ent.left [_] _),?_⟩;refine WN.one 16 (by kernel_rfl) rfl<|L.alloc T111.z fun c11=>WL.nil ⟨(Ent.left [_,_] _),?_⟩;refine WN.one 18 (by kernel_rfl) rfl<|L.storeN T111.ag rfl rfl rfl (Wrs.all 0 rfl rfl (by simp[Value.oneCell']))<|WL.nil ⟨(Ent.left [_,_] _),?_⟩;refine WN.one 19 (by kernel_rfl) rfl<|L.storeN T111.ag rfl rfl rfl (Wrs.all 1 rfl rfl (by simp[Value.oneCell']))<|WL.nil ⟨(Ent.left [_,_] _),?_⟩
     refine WT.nil (by kernel_rfl)<|X.thenN ⟨(c11,c12),trivial,(Env.Sub.cons rfl rfl (Env.Sub.cons rfl rfl (Env.Sub.cons rfl rfl (Env.Sub.cons rfl rfl (Env.Sub.cons rfl rfl (Env.Sub.cons rfl rfl (Env.Sub.cons rfl rfl Env.Sub.nil))))))),(Ent.refl _)⟩
   ·
    rintro ⟨c11,c12⟩ _
    refine WP.regs<|L.assign rfl<|WL.nil<|WP.cut (X:=Value × SeaD × Nat) (fun x=>⟨199,[],[(0,.pointer (some ⟨b,0,none⟩)),(7,.pointer (some ⟨c7,0,none⟩)),(13,.int .i64 (x.2.2:Int))]⟩) (fun x=>[cl c7 [.int .i64 (id:Int),.int .i64 (j:Int)] 173]++seaS b ⟨tv,tw,x.1,bp,br,bl,bn,ov,bm,bk⟩ x.2.1) (fun x=>SeaD.mid (f+1) S id j=({x.2.1 with leaps:=mput x.2.1.leaps (id,j) x.2.2},x.2.2)) ?_ ?_
    ·
     refine WP.block<|WP.regs<|L.fieldAddr (o':=0) T111.f0 rfl rfl<|L.load T3.sc rfl (Rd.own 2 rfl rfl)<|L.eql rfl rfl<|L.assign rfl<|WL.nil<|WP.condD rfl (fun h121=>?_) (fun h121=>?_)
     ·
      obtain rfl:lm=0:=by omega
      have hc3:S.nodes.length+3≤S.most:=hc
      refine WP.regs<|L.move rfl<|L.fieldAddr (o':=1) T111.f1 rfl rfl<|L.load T3.sc rfl (Rd.own 0 rfl rfl)<|L.fieldAddr (o':=2) T111.f2 rfl rfl<|L.load T3.sc rfl (Rd.own 0 rfl rfl)<|L.fieldAddr (o':=1) T111.f1 rfl rfl<|L.load T3.sc rfl (Rd.own 1 rfl rfl)<|WL.call rfl rfl F111.fn rfl (FT.part (seaS b ⟨tv,tw,.slice (some ⟨c0,0,none⟩) S.nodes.length ncap,bp,br,bl,bn,ov,bm,bk⟩ S) _ ((Ent.pk [4,4,4,4,4,4,4,4,4,4,0,0,0,0] rfl)) fun g gS dj=>sea_line b ⟨tv,tw,.slice (some ⟨c0,0,none⟩) S.nodes.length ncap,bp,br,bl,bn,ov,bm,bk⟩ S G0.K (S.nodes.getD (S.nodes.getD id .no).a .no).a (S.nodes.getD (S.nodes.getD id .no).a .no).b (S.nodes.getD (S.nodes.getD id .no).b .no).a laa.1 lab.1 lba.1 (G0.row laa) (G0.row lab) (G0.row lba) (by have:=G0.put (m:=1) (by omega);omega)) ?_;rintro _ _ ⟨_,⟨nv1,rfl,rfl⟩,rfl⟩
      obtain⟨G1,lu,e1⟩:=G0.line laa lab lba
      have lab:=lab.up e1
      have lba:=lba.up e1
      have lbb:=lbb.up e1
      generalize hu:S.line (S.nodes.getD (S.nodes.getD id .no).a .no).a (S.nodes.getD (S.nodes.getD id .no).a .no).b (S.nodes.getD (S.nodes.getD id .no).b .no).a=u at G1 lu e1 lab lba lbb ⊢
      refine L.assign rfl<|WL.nil<|WP.region<|L.move rfl<|L.move rfl<|L.move rfl<|L.fieldAddr (o':=2) T111.f2 rfl rfl<|L.load T3.sc rfl (Rd.own 10 rfl rfl)<|L.fieldAddr (o':=1) T111.f1 rfl rfl<|L.load T3.sc rfl (Rd.own 11 rfl rfl)<|L.fieldAddr (o':=2) T111.f2 rfl rfl<|L.load T3.sc rfl (Rd.own 11 rfl rfl)<|WL.call rfl rfl F111.fn rfl (FT.part (seaS b ⟨tv,tw,nv1,bp,br,bl,bn,ov,bm,bk⟩ u.1) _ ((Ent.refl _)) fun g gS dj=>sea_line b ⟨tv,tw,nv1,bp,br,bl,bn,ov,bm,bk⟩ u.1 G1.K (S.nodes.getD (S.nodes.getD id .no).a .no).b (S.nodes.getD (S.nodes.getD id .no).b .no).a (S.nodes.getD (S.nodes.getD id .no).b .no).b lab.1 lba.1 lbb.1 (G1.row lab) (G1.row lba) (G1.row lbb) (by have:=G1.put (m:=1) (by omega);omega)) ?_;rintro _ _ ⟨_,⟨nv2,rfl,rfl⟩,rfl⟩
      obtain⟨G2,lv,e2⟩:=G1.line lab lba lbb
      have lu:=lu.up e2
      generalize hv:u.1.line (S.nodes.getD (S.nodes.getD id .no).a .no).b (S.nodes.getD (S.nodes.getD id .no).b .no).a (S.nodes.getD (S.nodes.getD id .no).b .no).b=v at G2 lv e2 lu ⊢
      refine WL.call rfl rfl F56.fn rfl (FT.part (seaS b ⟨tv,tw,nv2,bp,br,bl,bn,ov,bm,bk⟩ v.1) _ ((Ent.refl _)) fun g gS dj=>sea_pair b ⟨tv,tw,nv2,bp,br,bl,bn,ov,bm,bk⟩ v.1 u.2 v.2 lu.1 (by have:=G2.put (m:=1) (by omega);omega) G2.K.most (by have h9:(v.1.nodes.getD u.2 .no).level=_:=lu.2;omega)) ?_;rintro _ _ ⟨_,⟨nv3,rfl,rfl⟩,rfl⟩
      generalize hw:v.1.pair u.2 v.2=w
      refine L.assign rfl<|WL.nil<|X.blockN<|X.thenN ⟨(nv3,w.1,w.2),(by simp only[SeaD.mid,hq];rw[if_pos hlm,hu,hv,hw]),(Env.Sub.cons rfl rfl (Env.Sub.cons rfl rfl (Env.Sub.cons rfl rfl Env.Sub.nil))),(Ent.pk [13,0,0,0,0,0,0,0,0,0,0] rfl)⟩
     ·
      obtain⟨l,rfl⟩:∃ l,lm=l+1:=⟨lm-1,by omega⟩
      have hc5:S.nodes.length+(5*costM l+5)≤S.most:=hc
      refine WP.regs<|L.move rfl<|L.fieldAddr (o':=0) T111.f0 rfl rfl<|L.load T3.sc rfl (Rd.own 2 rfl rfl)<|L.sub' rfl rfl (by omega)<|L.eql rfl rfl<|L.assign rfl<|WL.nil<|WP.condD rfl (fun h144=>?_) (fun h144=>?_)
      ·
       refine WP.regs<|L.move rfl<|L.fieldAddr (o':=2) T111.f2 rfl rfl<|L.load T3.sc rfl (Rd.own 0 rfl rfl)<|L.fieldAddr (o':=1) T111.f1 rfl rfl<|L.load T3.sc rfl (Rd.own 1 rfl rfl)<|WL.call rfl rfl F56.fn rfl (FT.part (seaS b ⟨tv,tw,.slice (some ⟨c0,0,none⟩) S.nodes.length ncap,bp,br,bl,bn,ov,bm,bk⟩ S) _ ((Ent.pk [4,4,4,4,4,4,4,4,4,4,0,0,0,0] rfl)) fun g gS dj=>sea_pair b ⟨tv,tw,.slice (some ⟨c0,0,none⟩) S.nodes.length ncap,bp,br,bl,bn,ov,bm,bk⟩ S (S.nodes.getD (S.nodes.getD id .no).a .no).b (S.nodes.getD (S.nodes.getD id .no).b .no).a lab.1 (by have:=G0.put (m:=1) (by omega);omega) G0.K.most (by have h9:(S.nodes.getD (S.nodes.getD (S.nodes.getD id .no).a .no).b .no).level=_:=lab.2;omega)) ?_;rintro _ _ ⟨_,⟨nv1,rfl,rfl⟩,rfl⟩
       obtain⟨G1,lp,e1⟩:=G0.pair lab lba (by omega)
       have la:=la.up e1
       have lb:=lb.up e1
       generalize hp:S.pair (S.nodes.getD (S.nodes.getD id .no).a .no).b (S.nodes.getD (S.nodes.getD id .no).b .no).a=p at G1 lp e1 la lb ⊢
       refine L.assign rfl<|WL.nil<|WP.seq<|WP.regeq _ (Ent.left [_,_,_,_,_,_,_,_,_,_] _) [(0,true),(1,true),(2,true),(3,true),(4,true),(6,true),(7,true),(8,true),(9,true),(11,true),(12,true),(13,true),(14,true),(15,true),(5,false),(10,false),(16,false),(17,false),(18,false),(19,false)] 16 rfl (by kernel_rfl) (PInv.then (PInv.block (PInv.then PInv.ret))) rfl<|WE.take rfl (V.move rfl)<|WE.take rfl (V.fieldAddr (o':=1) T111.f1 rfl rfl)<|WE.take rfl (V.load T3.sc rfl (Rd.own 2 rfl rfl))<|WE.take rfl (V.move rfl) ?_;refine WE.take rfl (V.sub' rfl rfl (by omega))<|WE.take rfl (V.move rfl)<|WE.take rfl (V.move rfl)<|WE.take rfl (V.move rfl)<|WE.take rfl (V.sub' rfl rfl (by omega))<|WE.take rfl (V.move rfl)<|WE.take rfl (V.fieldAddr (o':=2) T111.f2 rfl rfl)<|WE.take rfl (V.load T3.sc rfl (Rd.own 2 rfl rfl))<|WE.take rfl (V.move rfl)<|WE.take rfl (V.sub' rfl rfl (by omega))<|WE.one rfl<|WL.call rfl rfl F60.fn rfl (FT.part (seaS b ⟨tv,tw,nv1,bp,br,bl,bn,ov,bm,bk⟩ p.1) _ ((Ent.refl _)) fun g gS dj=>ih k _ ⟨tv,tw,nv1,bp,br,bl,bn,ov,bm,bk⟩ p.1 (S.nodes.getD id .no).a (j-1) _ l (by omega) G1.K G1.i la (by omega) (by omega) (G1.put (m:=costM l) (by omega))) ?_;rintro _ _ ⟨_,⟨nv2,rfl,rfl⟩,rfl⟩
       obtain⟨G2,lx,e2⟩:=G1.mid (f:=f) la (by omega) (show j-1≤l by omega)
       have lp:=lp.up e2
       have lb:=lb.up e2
       generalize hx:SeaD.mid f p.1 (S.nodes.getD id .no).a (j-1)=x at G2 lx e2 lp lb ⊢
       refine WL.nil ⟨(Ent.left [_,_,_,_,_,_,_,_,_,_] _),?_⟩;refine WE.one rfl<|WL.call rfl rfl F60.fn rfl (FT.part (seaS b ⟨tv,tw,nv2,bp,br,bl,bn,ov,bm,bk⟩ x.1) _ ((Ent.refl _)) fun g gS dj=>ih k _ ⟨tv,tw,nv2,bp,br,bl,bn,ov,bm,bk⟩ x.1 p.2 (j-1) _ l (by omega) G2.K G2.i lp (by omega) (by omega) (G2.put (m:=costM l) (by omega))) ?_;rintro _ _ ⟨_,⟨nv3,rfl,rfl⟩,rfl⟩
       obtain⟨G3,ly,e3⟩:=G2.mid (f:=f) lp (by omega) (show j-1≤l by omega)
       have lx:=lx.up e3
       have lb:=lb.up e3
       generalize hy:SeaD.mid f x.1 p.2 (j-1)=y at G3 ly e3 lx lb ⊢
       refine WL.nil ⟨(Ent.left [_,_,_,_,_,_,_,_,_,_] _),?_⟩;refine WE.last rfl<|WL.call rfl rfl F60.fn rfl (FT.part (seaS b ⟨tv,tw,nv3,bp,br,bl,bn,ov,bm,bk⟩ y.1) _ ((Ent.refl _)) fun g gS dj=>ih k _ ⟨tv,tw,nv3,bp,br,bl,bn,ov,bm,bk⟩ y.1 (S.nodes.getD id .no).b (j-1) _ l (by omega) G3.K G3.i lb (by omega) (by omega) (G3.put (m:=costM l) (by omega))) ?_;rintro _ _ ⟨_,⟨nv4,rfl,rfl⟩,rfl⟩
       obtain⟨G4,lz,e4⟩:=G3.mid (f:=f) lb (by omega) (show j-1≤l by omega)
       have lx:=lx.up e4
       have ly:=ly.up e4
       generalize hz:SeaD.mid f y.1 (S.nodes.getD id .no).b (j-1)=z at G4 lz e4 lx ly ⊢
       refine WL.nil<|WE.more rfl<|L.assign rfl<|WL.nil<|WE.more rfl<|L.assign rfl<|WL.nil<|WE.more rfl<|L.assign rfl<|WL.nil<|WE.nil<|X.thenN<|WP.regs<|L.move rfl<|L.move rfl<|L.move rfl<|L.move rfl<|WL.call rfl rfl F56.fn rfl (FT.part (seaS b ⟨tv,tw,nv4,bp,br,bl,bn,ov,bm,bk⟩ z.1) _ ((Ent.refl _)) fun g gS dj=>sea_pair b ⟨tv,tw,nv4,bp,br,bl,bn,ov,bm,bk⟩ z.1 x.2 y.2 lx.1 (by have:=G4.put (m:=1) (by omega);omega) G4.K.most (by have h9:(z.1.nodes.getD x.2 .no).level=_:=lx.2;omega)) ?_;rintro _ _ ⟨_,⟨nv5,rfl,rfl⟩,rfl⟩
       obtain⟨G5,lq,e5⟩:=G4.pair lx ly (by omega)
       have ly:=ly.up e5
       have lz:=lz.up e5
       generalize hqq:z.1.pair x.2 y.2=q at G5 lq e5 ly lz ⊢
       refine L.move rfl<|L.sub' rfl rfl (by omega)<|WL.call rfl rfl F60.fn rfl (FT.part (seaS b ⟨tv,tw,nv5,bp,br,bl,bn,ov,bm,bk⟩ q.1) _ ((Ent.refl _)) fun g gS dj=>ih k _ ⟨tv,tw,nv5,bp,br,bl,bn,ov,bm,bk⟩ q.1 q.2 (j-1) _ l (by omega) G5.K G5.i lq (by omega) (by omega) (G5.put (m:=costM l) (by omega))) ?_;rintro _ _ ⟨_,⟨nv6,rfl,rfl⟩,rfl⟩
       obtain⟨G6,lu,e6⟩:=G5.mid (f:=f) lq (by omega) (show j-1≤l by omega)
       have ly:=ly.up e6
       have lz:=lz.up e6
       generalize hu:SeaD.mid f q.1 q.2 (j-1)=u at G6 lu e6 ly lz ⊢
       refine L.assign rfl<|WL.nil<|WP.region<|L.move rfl<|L.move rfl<|L.move rfl<|L.move rfl<|L.move rfl<|L.move rfl<|WL.call rfl rfl F56.fn rfl (FT.part (seaS b ⟨tv,tw,nv6,bp,br,bl,bn,ov,bm,bk⟩ u.1) _ ((Ent.refl _)) fun g gS dj=>sea_pair b ⟨tv,tw,nv6,bp,br,bl,bn,ov,bm,bk⟩ u.1 y.2 z.2 ly.1 (by have:=G6.put (m:=1) (by omega);omega) G6.K.most (by have h9:(u.1.nodes.getD y.2 .no).level=_:=ly.2;omega)) ?_;rintro _ _ ⟨_,⟨nv7,rfl,rfl⟩,rfl⟩
       obtain⟨G7,lr,e7⟩:=G6.pair ly lz (by omega)
       have lu:=lu.up e7
       generalize hr:u.1.pair y.2 z.2=r at G7 lr e7 lu ⊢
       refine L.move rfl<|L.sub' rfl rfl (by omega)<|WL.call rfl rfl F60.fn rfl (FT.part (seaS b ⟨tv,tw,nv7,bp,br,bl,bn,ov,bm,bk⟩ r.1) _ ((Ent.refl _)) fun g gS dj=>ih k _ ⟨tv,tw,nv7,bp,br,bl,bn,ov,bm,bk⟩ r.1 r.2 (j-1) _ l (by omega) G7.K G7.i lr (by omega) (by omega) (G7.put (m:=costM l) (by omega))) ?_;rintro _ _ ⟨_,⟨nv8,rfl,rfl⟩,rfl⟩
       obtain⟨G8,lv,e8⟩:=G7.mid (f:=f) lr (by omega) (show j-1≤l by omega)
       have lu:=lu.up e8
       generalize hv:SeaD.mid f r.1 r.2 (j-1)=v at G8 lv e8 lu ⊢
       refine WL.call rfl rfl F56.fn rfl (FT.part (seaS b ⟨tv,tw,nv8,bp,br,bl,bn,ov,bm,bk⟩ v.1) _ ((Ent.refl _)) fun g gS dj=>sea_pair b ⟨tv,tw,nv8,bp,br,bl,bn,ov,bm,bk⟩ v.1 u.2 v.2 lu.1 (by have:=G8.put (m:=1) (by omega);omega) G8.K.most (by have h9:(v.1.nodes.getD u.2 .no).level=_:=lu.2;omega)) ?_;rintro _ _ ⟨_,⟨nv9,rfl,rfl⟩,rfl⟩
       generalize hw:v.1.pair u.2 v.2=w
       refine L.assign rfl<|WL.nil<|X.blockN<|X.thenN ⟨(nv9,w.1,w.2),(by simp only[SeaD.mid,hq];rw[if_neg (by have:(S.nd id).level=l+1+2:=hlm;omega),if_pos (by have:(S.nd id).level=l+1+2:=hlm;omega),hp,hx,hy,hz,hqq,hu,hr,hv,hw]),(Env.Sub.cons rfl rfl (Env.Sub.cons rfl rfl (Env.Sub.cons rfl rfl Env.Sub.nil))),(Ent.pk [13,0,0,0,0,0,0,0,0,0,0] rfl)⟩
      ·
       refine WP.regs<|L.move rfl<|L.fieldAddr (o':=2) T111.f2 rfl rfl<|L.load T3.sc rfl (Rd.own 0 rfl rfl)<|L.fieldAddr (o':=1) T111.f1 rfl rfl<|L.load T3.sc rfl (Rd.own 1 rfl rfl)<|WL.call rfl rfl F56.fn rfl (FT.part (seaS b ⟨tv,tw,.slice (some ⟨c0,0,none⟩) S.nodes.length ncap,bp,br,bl,bn,ov,bm,bk⟩ S) _ ((Ent.pk [4,4,4,4,4,4,4,4,4,4,0,0,0,0] rfl)) fun g gS dj=>sea_pair b ⟨tv,tw,.slice (some ⟨c0,0,none⟩) S.nodes.length ncap,bp,br,bl,bn,ov,bm,bk⟩ S (S.nodes.getD (S.nodes.getD id .no).a .no).b (S.nodes.getD (S.nodes.getD id .no).b .no).a lab.1 (by have:=G0.put (m:=1) (by omega);omega) G0.K.most (by have h9:(S.nodes.getD (S.nodes.getD (S.nodes.getD id .no).a .no).b .no).level=_:=lab.2;omega)) ?_;rintro _ _ ⟨_,⟨nv1,rfl,rfl⟩,rfl⟩
       obtain⟨G1,lp,e1⟩:=G0.pair lab lba (by omega)
       have la:=la.up e1
       have lb:=lb.up e1
       generalize hp:S.pair (S.nodes.getD (S.nodes.getD id .no).a .no).b (S.nodes.getD (S.nodes.getD id .no).b .no).a=p at G1 lp e1 la lb ⊢
       refine L.assign rfl<|WL.nil<|WP.regs<|L.move rfl<|L.fieldAddr (o':=1) T111.f1 rfl rfl<|L.load T3.sc rfl (Rd.own 12 rfl rfl)<|L.move rfl<|WL.call rfl rfl F60.fn rfl (FT.part (seaS b ⟨tv,tw,nv1,bp,br,bl,bn,ov,bm,bk⟩ p.1) _ ((Ent.refl _)) fun g gS dj=>ih k _ ⟨tv,tw,nv1,bp,br,bl,bn,ov,bm,bk⟩ p.1 (S.nodes.getD id .no).a (j) _ l (by omega) G1.K G1.i la (by omega) (by omega) (G1.put (m:=costM l) (by omega))) ?_;rintro _ _ ⟨_,⟨nv2,rfl,rfl⟩,rfl⟩
       obtain⟨G2,lx,e2⟩:=G1.mid (f:=f) la (by omega) (show j≤l by omega)
       have lp:=lp.up e2
       have lb:=lb.up e2
       generalize hx:SeaD.mid f p.1 (S.nodes.getD id .no).a j=x at G2 lx e2 lp lb ⊢
       refine L.assign rfl<|WL.nil<|WP.regs<|L.move rfl<|L.move rfl<|L.move rfl<|WL.call rfl rfl F60.fn rfl (FT.part (seaS b ⟨tv,tw,nv2,bp,br,bl,bn,ov,bm,bk⟩ x.1) _ ((Ent.refl _)) fun g gS dj=>ih k _ ⟨tv,tw,nv2,bp,br,bl,bn,ov,bm,bk⟩ x.1 p.2 (j) _ l (by omega) G2.K G2.i lp (by omega) (by omega) (G2.put (m:=costM l) (by omega))) ?_;rintro _ _ ⟨_,⟨nv3,rfl,rfl⟩,rfl⟩
       obtain⟨G3,ly,e3⟩:=G2.mid (f:=f) lp (by omega) (show j≤l by omega)
       have lx:=lx.up e3
       have lb:=lb.up e3
       generalize hy:SeaD.mid f x.1 p.2 j=y at G3 ly e3 lx lb ⊢
       refine L.assign rfl<|WL.nil<|WP.regs<|L.move rfl<|L.fieldAddr (o':=2) T111.f2 rfl rfl<|L.load T3.sc rfl (Rd.own 12 rfl rfl)<|L.move rfl<|WL.call rfl rfl F60.fn rfl (FT.part (seaS b ⟨tv,tw,nv3,bp,br,bl,bn,ov,bm,bk⟩ y.1) _ ((Ent.refl _)) fun g gS dj=>ih k _ ⟨tv,tw,nv3,bp,br,bl,bn,ov,bm,bk⟩ y.1 (S.nodes.getD id .no).b (j) _ l (by omega) G3.K G3.i lb (by omega) (by omega) (G3.put (m:=costM l) (by omega))) ?_;rintro _ _ ⟨_,⟨nv4,rfl,rfl⟩,rfl⟩
       obtain⟨G4,lz,e4⟩:=G3.mid (f:=f) lb (by omega) (show j≤l by omega)
       have lx:=lx.up e4
       have ly:=ly.up e4
       generalize hz:SeaD.mid f y.1 (S.nodes.getD id .no).b j=z at G4 lz e4 lx ly ⊢
       obtain⟨_,lxb⟩:=G4.kids lx
       obtain⟨lya,lyb⟩:=G4.kids ly
       obtain⟨lza,_⟩:=G4.kids lz
       have hx2:=lx.1;have hy2:=ly.1;have hz2:=lz.1
       refine WL.fact (fun _ _ _ s=>s.vec_shape (E:=111) (sz:=4) 1 rfl) ?_;rintro ⟨_,na2,ncap2,hnv2,_,hna2⟩
       obtain⟨c2,rfl⟩:=hna2 (by omega)
       dsimp only at hnv2
       subst hnv2
       refine L.assign rfl<|WL.nil<|WP.cut (X:=Nat × Nat × Nat) (fun cc=>⟨199,[],[(0,.pointer (some ⟨b,0,none⟩)),(7,.pointer (some ⟨c7,0,none⟩)),(24,.pointer (some ⟨cc.1,0,none⟩)),(25,.pointer (some ⟨cc.2.1,0,none⟩)),(26,.pointer (some ⟨cc.2.2,0,none⟩))]⟩) (fun cc=>[cl cc.1 (nodeC (z.1.nodes.getD x.2 .no)) 111,cl cc.2.1 (nodeC (z.1.nodes.getD y.2 .no)) 111,cl cc.2.2 (nodeC (z.1.nodes.getD z.2 .no)) 111,cl c7 [.int .i64 (id:Int),.int .i64 (j:Int)] 173]++seaS b ⟨tv,tw,.slice (some ⟨c2,0,none⟩) z.1.nodes.length ncap2,bp,br,bl,bn,ov,bm,bk⟩ z.1) (fun cc=>True) ?_ ?_
       ·
        refine WP.regn _ rfl ?_ (Ent.refl _)
        refine WT.read (m:=6) (fin:=fun l=>l == #[true,true,true,true,true,true,true,true,true,true,true,true,true,true,true,true,true,true,true,true,true,false,false,false,false,false,false]) [(0,true),(1,true),(2,true),(3,true),(4,true),(5,true),(6,true),(7,true),(8,true),(9,true),(10,true),(11,true),(12,true),(13,true),(14,true),(15,true),(16,true),(17,true),(18,true),(19,true),(20,true)] (by kernel_rfl) (PInv.then (PInv.block (PInv.then PInv.ret))) (Ent.refl _)<|WE.take rfl (V.move rfl) ?_;refine WE.take rfl (V.nilCheck rfl)<|WE.take rfl (V.fieldAddr (o':=18) T59.f4 rfl rfl)<|WE.take rfl (V.load T51.sc rfl (Rd.own 0 rfl rfl))<|WE.take rfl (V.move rfl)<|WE.take rfl (V.indexS T51.sl rfl rfl (by omega))<|WE.take rfl (V.loadN T111.ag rfl rfl (Rds.vec (vs:=nodeC (z.1.nodes.getD x.2 .no)) 1 rfl (fun j v hj=>nodesC_rd z.1.nodes x.2 lx.1 j hj)))<|WE.take rfl (V.move rfl)<|WE.take rfl (V.nilCheck rfl)<|WE.take rfl (V.fieldAddr (o':=18) T59.f4 rfl rfl)<|WE.take rfl (V.load T51.sc rfl (Rd.own 0 rfl rfl))<|WE.take rfl (V.move rfl) ?_;refine WE.take rfl (V.indexS T51.sl rfl rfl (by omega))<|WE.take rfl (V.loadN T111.ag rfl rfl (Rds.vec (vs:=nodeC (z.1.nodes.getD y.2 .no)) 1 rfl (fun j v hj=>nodesC_rd z.1.nodes y.2 ly.1 j hj)))<|WE.take rfl (V.move rfl)<|WE.take rfl (V.nilCheck rfl)<|WE.take rfl (V.fieldAddr (o':=18) T59.f4 rfl rfl)<|WE.take rfl (V.load T51.sc rfl (Rd.own 0 rfl rfl))<|WE.take rfl (V.move rfl)<|WE.take rfl (V.indexS T51.sl rfl rfl (by omega))<|WE.take rfl (V.loadN T111.ag rfl rfl (Rds.vec (vs:=nodeC (z.1.nodes.getD z.2 .no)) 1 rfl (fun j v hj=>nodesC_rd z.1.nodes z.2 lz.1 j hj)))<|WE.free #[true,true,true,true,true,true,true,true,true,true,true,true,true,true,true,true,true,true,true,true,true,false,false,false,false,false,false] ?_;refine WN.three 21 22 23 (by kernel_rfl) rfl rfl rfl ?_ ?_ ?_
        ·
         refine L.alloc T111.z fun c24=>WL.nil ⟨(Ent.left [_] _),?_⟩;refine WN.two 22 23 (by kernel_rfl) rfl rfl ?_ ?_
         ·
          refine L.alloc T111.z fun c25=>WL.nil ⟨(Ent.left [_,_] _),?_⟩;refine WN.one 23 (by kernel_rfl) rfl<|L.alloc T111.z fun c26=>WL.nil ⟨(Ent.left [_,_,_] _),?_⟩;refine WN.one 24 (by kernel_rfl) rfl<|L.storeN T111.ag rfl rfl rfl (Wrs.all 2 rfl rfl (by simp[Value.oneCell']))<|WL.nil ⟨(Ent.left [_,_,_] _),?_⟩;refine WN.one 25 (by kernel_rfl) rfl<|L.storeN T111.ag rfl rfl rfl (Wrs.all 1 rfl rfl (by simp[Value.oneCell']))<|WL.nil ⟨(Ent.left [_,_,_] _),?_⟩;refine WN.one 26 (by kernel_rfl) rfl<|L.storeN T111.ag rfl rfl rfl (Wrs.all 0 rfl rfl (by simp[Value.oneCell']))<|WL.nil ⟨(Ent.left [_,_,_] _),?_⟩
          refine WT.nil (by kernel_rfl)<|X.thenN ⟨(c24,c25,c26),trivial,(Env.Sub.cons rfl rfl (Env.Sub.cons rfl rfl (Env.Sub.cons rfl rfl (Env.Sub.cons rfl rfl (Env.Sub.cons rfl rfl Env.Sub.nil))))),(Ent.pk [2,1,0,13,0,0,0,0,0,0,0,0,0,0] rfl)⟩
         ·
          refine L.alloc T111.z fun c26=>WL.nil ⟨(Ent.left [_,_] _),?_⟩;refine WN.one 22 (by kernel_rfl) rfl<|L.alloc T111.z fun c25=>WL.nil ⟨(Ent.left [_,_,_] _),?_⟩;refine WN.one 24 (by kernel_rfl) rfl<|L.storeN T111.ag rfl rfl rfl (Wrs.all 2 rfl rfl (by simp[Value.oneCell']))<|WL.nil ⟨(Ent.left [_,_,_] _),?_⟩;refine WN.one 25 (by kernel_rfl) rfl<|L.storeN T111.ag rfl rfl rfl (Wrs.all 0 rfl rfl (by simp[Value.oneCell']))<|WL.nil ⟨(Ent.left [_,_,_] _),?_⟩;refine WN.one 26 (by kernel_rfl) rfl<|L.storeN T111.ag rfl rfl rfl (Wrs.all 1 rfl rfl (by simp[Value.oneCell']))<|WL.nil ⟨(Ent.left [_,_,_] _),?_⟩
          refine WT.nil (by kernel_rfl)<|X.thenN ⟨(c24,c25,c26),trivial,(Env.Sub.cons rfl rfl (Env.Sub.cons rfl rfl (Env.Sub.cons rfl rfl (Env.Sub.cons rfl rfl (Env.Sub.cons rfl rfl Env.Sub.nil))))),(Ent.pk [2,0,0,13,0,0,0,0,0,0,0,0,0,0] rfl)⟩
        ·
         refine L.alloc T111.z fun c25=>WL.nil ⟨(Ent.left [_] _),?_⟩;refine WN.two 21 23 (by kernel_rfl) rfl rfl ?_ ?_
         ·
          refine L.alloc T111.z fun c24=>WL.nil ⟨(Ent.left [_,_] _),?_⟩;refine WN.one 23 (by kernel_rfl) rfl<|L.alloc T111.z fun c26=>WL.nil ⟨(Ent.left [_,_,_] _),?_⟩;refine WN.one 24 (by kernel_rfl) rfl<|L.storeN T111.ag rfl rfl rfl (Wrs.all 1 rfl rfl (by simp[Value.oneCell']))<|WL.nil ⟨(Ent.left [_,_,_] _),?_⟩;refine WN.one 25 (by kernel_rfl) rfl<|L.storeN T111.ag rfl rfl rfl (Wrs.all 2 rfl rfl (by simp[Value.oneCell']))<|WL.nil ⟨(Ent.left [_,_,_] _),?_⟩;refine WN.one 26 (by kernel_rfl) rfl<|L.storeN T111.ag rfl rfl rfl (Wrs.all 0 rfl rfl (by simp[Value.oneCell']))<|WL.nil ⟨(Ent.left [_,_,_] _),?_⟩
          refine WT.nil (by kernel_rfl)<|X.thenN ⟨(c24,c25,c26),trivial,(Env.Sub.cons rfl rfl (Env.Sub.cons rfl rfl (Env.Sub.cons rfl rfl (Env.Sub.cons rfl rfl (Env.Sub.cons rfl rfl Env.Sub.nil))))),(Ent.pk [1,1,0,13,0,0,0,0,0,0,0,0,0,0] rfl)⟩
         ·
          refine L.alloc T111.z fun c26=>WL.nil ⟨(Ent.left [_,_] _),?_⟩;refine WN.one 21 (by kernel_rfl) rfl<|L.alloc T111.z fun c24=>WL.nil ⟨(Ent.left [_,_,_] _),?_⟩;refine WN.one 24 (by kernel_rfl) rfl<|L.storeN T111.ag rfl rfl rfl (Wrs.all 0 rfl rfl (by simp[Value.oneCell']))<|WL.nil ⟨(Ent.left [_,_,_] _),?_⟩;refine WN.one 25 (by kernel_rfl) rfl<|L.storeN T111.ag rfl rfl rfl (Wrs.all 2 rfl rfl (by simp[Value.oneCell']))<|WL.nil ⟨(Ent.left [_,_,_] _),?_⟩;refine WN.one 26 (by kernel_rfl) rfl<|L.storeN T111.ag rfl rfl rfl (Wrs.all 1 rfl rfl (by simp[Value.oneCell']))<|WL.nil ⟨(Ent.left [_,_,_] _),?_⟩
          refine WT.nil (by kernel_rfl)<|X.thenN ⟨(c24,c25,c26),trivial,(Env.Sub.cons rfl rfl (Env.Sub.cons rfl rfl (Env.Sub.cons rfl rfl (Env.Sub.cons rfl rfl (Env.Sub.cons rfl rfl Env.Sub.nil))))),(Ent.pk [0,1,0,13,0,0,0,0,0,0,0,0,0,0] rfl)⟩
        ·
         refine L.alloc T111.z fun c26=>WL.nil ⟨(Ent.left [_] _),?_⟩;refine WN.two 21 22 (by kernel_rfl) rfl rfl ?_ ?_
         ·
          refine L.alloc T111.z fun c24=>WL.nil ⟨(Ent.left [_,_] _),?_⟩;refine WN.one 22 (by kernel_rfl) rfl<|L.alloc T111.z fun c25=>WL.nil ⟨(Ent.left [_,_,_] _),?_⟩;refine WN.one 24 (by kernel_rfl) rfl<|L.storeN T111.ag rfl rfl rfl (Wrs.all 1 rfl rfl (by simp[Value.oneCell']))<|WL.nil ⟨(Ent.left [_,_,_] _),?_⟩;refine WN.one 25 (by kernel_rfl) rfl<|L.storeN T111.ag rfl rfl rfl (Wrs.all 0 rfl rfl (by simp[Value.oneCell']))<|WL.nil ⟨(Ent.left [_,_,_] _),?_⟩;refine WN.one 26 (by kernel_rfl) rfl<|L.storeN T111.ag rfl rfl rfl (Wrs.all 2 rfl rfl (by simp[Value.oneCell']))<|WL.nil ⟨(Ent.left [_,_,_] _),?_⟩
          refine WT.nil (by kernel_rfl)<|X.thenN ⟨(c24,c25,c26),trivial,(Env.Sub.cons rfl rfl (Env.Sub.cons rfl rfl (Env.Sub.cons rfl rfl (Env.Sub.cons rfl rfl (Env.Sub.cons rfl rfl Env.Sub.nil))))),(Ent.pk [1,0,0,13,0,0,0,0,0,0,0,0,0,0] rfl)⟩
         ·
          refine L.alloc T111.z fun c25=>WL.nil ⟨(Ent.left [_,_] _),?_⟩;refine WN.one 21 (by kernel_rfl) rfl<|L.alloc T111.z fun c24=>WL.nil ⟨(Ent.left [_,_,_] _),?_⟩;refine WN.one 24 (by kernel_rfl) rfl<|L.storeN T111.ag rfl rfl rfl (Wrs.all 0 rfl rfl (by simp[Value.oneCell']))<|WL.nil ⟨(Ent.left [_,_,_] _),?_⟩;refine WN.one 25 (by kernel_rfl) rfl<|L.storeN T111.ag rfl rfl rfl (Wrs.all 1 rfl rfl (by simp[Value.oneCell']))<|WL.nil ⟨(Ent.left [_,_,_] _),?_⟩;refine WN.one 26 (by kernel_rfl) rfl<|L.storeN T111.ag rfl rfl rfl (Wrs.all 2 rfl rfl (by simp[Value.oneCell']))<|WL.nil ⟨(Ent.left [_,_,_] _),?_⟩
          refine WT.nil (by kernel_rfl)<|X.thenN ⟨(c24,c25,c26),trivial,(Env.Sub.cons rfl rfl (Env.Sub.cons rfl rfl (Env.Sub.cons rfl rfl (Env.Sub.cons rfl rfl (Env.Sub.cons rfl rfl Env.Sub.nil))))),(Ent.pk [0,0,0,13,0,0,0,0,0,0,0,0,0,0] rfl)⟩
       ·
        rintro ⟨c24,c25,c26⟩ _
        refine WP.regs<|L.move rfl<|L.fieldAddr (o':=2) T111.f2 rfl rfl<|L.load T3.sc rfl (Rd.own 0 rfl rfl)<|L.fieldAddr (o':=1) T111.f1 rfl rfl<|L.load T3.sc rfl (Rd.own 1 rfl rfl)<|WL.call rfl rfl F56.fn rfl (FT.part (seaS b ⟨tv,tw,.slice (some ⟨c2,0,none⟩) z.1.nodes.length ncap2,bp,br,bl,bn,ov,bm,bk⟩ z.1) _ ((Ent.pk [4,4,4,4,4,4,4,4,4,4,0,0,0,0] rfl)) fun g gS dj=>sea_pair b ⟨tv,tw,.slice (some ⟨c2,0,none⟩) z.1.nodes.length ncap2,bp,br,bl,bn,ov,bm,bk⟩ z.1 (z.1.nodes.getD x.2 .no).b (z.1.nodes.getD y.2 .no).a lxb.1 (by have:=G4.put (m:=1) (by omega);omega) G4.K.most (by have h9:(z.1.nodes.getD (z.1.nodes.getD x.2 .no).b .no).level=_:=lxb.2;omega)) ?_;rintro _ _ ⟨_,⟨nv5,rfl,rfl⟩,rfl⟩
        obtain⟨G5,lu,e5⟩:=G4.pair lxb lya (by omega)
        have lyb:=lyb.up e5
        have lza:=lza.up e5
        generalize hu:z.1.pair (z.1.nodes.getD x.2 .no).b (z.1.nodes.getD y.2 .no).a=u at G5 lu e5 lyb lza ⊢
        refine L.assign rfl<|WL.nil<|WP.region<|L.move rfl<|L.move rfl<|L.move rfl<|L.fieldAddr (o':=2) T111.f2 rfl rfl<|L.load T3.sc rfl (Rd.own 11 rfl rfl)<|L.fieldAddr (o':=1) T111.f1 rfl rfl<|L.load T3.sc rfl (Rd.own 12 rfl rfl)<|WL.call rfl rfl F56.fn rfl (FT.part (seaS b ⟨tv,tw,nv5,bp,br,bl,bn,ov,bm,bk⟩ u.1) _ ((Ent.refl _)) fun g gS dj=>sea_pair b ⟨tv,tw,nv5,bp,br,bl,bn,ov,bm,bk⟩ u.1 (z.1.nodes.getD y.2 .no).b (z.1.nodes.getD z.2 .no).a lyb.1 (by have:=G5.put (m:=1) (by omega);omega) G5.K.most (by have h9:(u.1.nodes.getD (z.1.nodes.getD y.2 .no).b .no).level=_:=lyb.2;omega)) ?_;rintro _ _ ⟨_,⟨nv6,rfl,rfl⟩,rfl⟩
        obtain⟨G6,lv,e6⟩:=G5.pair lyb lza (by omega)
        have lu:=lu.up e6
        generalize hv:u.1.pair (z.1.nodes.getD y.2 .no).b (z.1.nodes.getD z.2 .no).a=v at G6 lv e6 lu ⊢
        refine WL.call rfl rfl F56.fn rfl (FT.part (seaS b ⟨tv,tw,nv6,bp,br,bl,bn,ov,bm,bk⟩ v.1) _ ((Ent.refl _)) fun g gS dj=>sea_pair b ⟨tv,tw,nv6,bp,br,bl,bn,ov,bm,bk⟩ v.1 u.2 v.2 lu.1 (by have:=G6.put (m:=1) (by omega);omega) G6.K.most (by have h9:(v.1.nodes.getD u.2 .no).level=_:=lu.2;omega)) ?_;rintro _ _ ⟨_,⟨nv7,rfl,rfl⟩,rfl⟩
        generalize hw:v.1.pair u.2 v.2=w
        refine L.assign rfl<|WL.nil<|X.blockN<|X.thenN ⟨(nv7,w.1,w.2),(by simp only[SeaD.mid,hq];rw[if_neg (by have:(S.nd id).level=l+1+2:=hlm;omega),if_neg (by have:(S.nd id).level=l+1+2:=hlm;omega),hp,hx,hy,hz,hu,hv,hw]),(Env.Sub.cons rfl rfl (Env.Sub.cons rfl rfl (Env.Sub.cons rfl rfl Env.Sub.nil))),(Ent.pk [13,0,0,0,0,0,0,0,0,0,0] rfl)⟩
    ·
     rintro ⟨nvz,T,o⟩ hT
     dsimp only at hT ⊢
     refine WP.seq<|WP.rege [(0,true),(1,true),(2,true),(3,true),(4,true),(5,true),(6,false)] 6 rfl (by kernel_rfl) (PInv.then PInv.ret) rfl<|WE.take rfl (V.move rfl)<|WE.take rfl (V.nilCheck rfl)<|WE.take rfl (V.fieldAddr (o':=21) T59.f7 rfl rfl)<|WE.take rfl (V.load T54.sc rfl (Rd.own 1 rfl rfl))<|WE.take rfl (V.loadN T173.ag rfl rfl (Rds.all 0 rfl))<|WE.take rfl (V.move rfl)<|WE.last rfl<|L.mapUpdate (α:=Nat × Nat) (enc:=encP) (key:=(id,j)) 5 T54.m K173 rfl rfl rfl rfl ?_
     rw[show mput (vm T.leaps) (id,j) (Value.int .i64 (o:Int))=vm (mput T.leaps (id,j) o) from mput_vm _ _ _]
     refine WL.nil<|WE.nil<|X.thenN<|WP.regs<|L.move rfl<|L.assign rfl<|WL.nil<|WP.ret<|X.ret rfl (Res.one rfl rfl) ?_
     rw[hT]
     exact⟨_,rfl,_,⟨nvz,rfl,rfl⟩,((Ent.pk [2,2,2,2,0,1,1,1,1,1] rfl)).trans (Ent.of_eq rfl)⟩
theorem sea_mid (b:Nat):∀ (f:Nat) (k:World) (h0:Hp) (A:SeaA) (S:SeaD) (id j:Nat) (jv:Int) (l:Nat),jv=(j:Int)→SeaK S→Inv S→Lv S id (l+2)→l+2≤f+1→j≤l→S.nodes.length+costM l≤S.most→FT Pg 60 [.pointer (some ⟨b,0,none⟩),encI id,.int .i64 jv] k h0 (seaS b A S) (Ret fun v τ=>∃ nv,v=encI (SeaD.mid f S id j).2∧τ=seaS b {A with nv:=nv} (SeaD.mid f S id j).1)
  | 0,_,_,_,_,_,_,_,_,_,_,_,_,h,_,_=>absurd h (by omega)
  | f+1,k,h0,A,S,id,j,jv,l,h1,h2,h3,h4,h5,h6,h7=>sea_mid1 b f (sea_mid b f) A S id j jv l h1 h2 h3 h4 h5 h6 h7
end
end Go.Eng
