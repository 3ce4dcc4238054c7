/- Walks of the functions of the seat over those rules, and plain laws of what they compute. No conditions beyond those in each theorem. -/
import Derived.Test.YtclhjichmdjlaaaGreatSM
import Derived.Test.YtclhjichmdjlaaaGreatSO
set_option linter.unusedSimpArgs false
set_option linter.unusedVariables false
namespace Go.Eng
open Go.RowKit Go.Proofs
structure NInv (S:SeaD):Prop where
  K:SeaK S
  i:Inv S
  told:∀ u,u<S.told.length→S.told.getD u 0<S.nodes.length
  names:∀ id n,mget S.names id=some n→n<S.told.length∧S.told.getD n 0=id
def SeaD.un (S T:SeaD):SeaD:={T with told:=S.told,names:=S.names,kept:=S.kept}
structure Nx (S T:SeaD):Prop where
  e:Ext S (S.un T)
  len:S.told.length≤T.told.length
  told:∀ u,u<S.told.length→T.told.getD u 0=S.told.getD u 0
theorem Nx.refl (S:SeaD):Nx S S:=⟨⟨rfl,rfl,rfl,rfl,rfl,rfl,rfl,Nat.le_refl _,fun _ _=>rfl,fun h=>h.of rfl rfl rfl⟩,Nat.le_refl _,fun _ _=>rfl⟩
theorem Nx.nd {S T:SeaD} (x:Nx S T) {id:Nat} (h:id<S.nodes.length):T.nd id=S.nd id:=x.e.nd id h
theorem Nx.nlen {S T:SeaD} (x:Nx S T):S.nodes.length≤T.nodes.length:=x.e.len
theorem Nx.trans {S T U:SeaD} (a:Nx S T) (b:Nx T U):Nx S U:=
  ⟨⟨b.e.r.trans a.e.r,b.e.t.trans a.e.t,b.e.states.trans a.e.states,b.e.most.trans a.e.most,rfl,rfl,rfl,Nat.le_trans a.nlen b.nlen,
     fun id h=>(b.nd (Nat.lt_of_lt_of_le h a.nlen)).trans (a.nd h),fun h=>(b.e.can ((a.e.can h).of rfl rfl rfl)).of rfl rfl rfl⟩,Nat.le_trans a.len b.len,fun u h=>(b.told u (Nat.lt_of_lt_of_le h a.len)).trans (a.told u h)⟩
theorem Nx.rws {S T:SeaD} (x:Nx S T) (hn:NW S.nodes) {id:Nat} (h:id<S.nodes.length):T.rws id=S.rws id:=x.e.rws hn h
theorem Nx.lv {S T:SeaD} (x:Nx S T) {id l:Nat} (h:Lv S id l):Lv T id l:=⟨Nat.lt_of_lt_of_le h.1 x.nlen,by rw[x.nd h.1];exact h.2⟩
theorem Nx.r {S T:SeaD} (x:Nx S T):T.r=S.r:=x.e.r
theorem Nx.t {S T:SeaD} (x:Nx S T):T.t=S.t:=x.e.t
theorem Nx.most {S T:SeaD} (x:Nx S T):T.most=S.most:=x.e.most
def Tld (T:SeaD) (n l:Nat) (R:List ByteArray):Prop:=n<T.told.length∧Lv T (T.told.getD n 0) l∧T.rws (T.told.getD n 0)=R
theorem Tld.up {S T:SeaD} {n l:Nat} {R:List ByteArray} (h:Tld S n l R) (x:Nx S T) (hn:NW S.nodes):Tld T n l R:=
  ⟨Nat.lt_of_lt_of_le h.1 x.len,by rw[x.told n h.1];exact x.lv h.2.1,by rw[x.told n h.1,x.rws hn h.2.1.1];exact h.2.2⟩
theorem mput_len {α:Type} [DecidableEq α] {β:Type}:∀ (m:List (α × β)) (k:α) (v:β),(mput m k v).length≤m.length+1
  | [],k,v=>by simp[mput]
  | x::r,k,v=>by
    unfold mput
    split
    · simp
    · have:=mput_len r k v;simp only[List.length_cons];omega
theorem keepD_len (N:List NodeD):∀ (f:Nat) (K:List (Nat × Nat)) (id:Nat),(keepD N f K id).length<K.length+2^f
  | 0,K,id=>by simp[keepD]
  | f+1,K,id=>by
    have hp:0<2^f:=Nat.two_pow_pos f
    have h1:=keepD_len N f (mput K id id) (N.getD id .no).a
    have h2:=keepD_len N f (keepD N f (mput K id id) (N.getD id .no).a) (N.getD id .no).b
    have h3:=mput_len K id id
    unfold keepD
    rw[Nat.pow_succ]
    split
    · omega
    · split
      · omega
      · omega
theorem Inv.names {S:SeaD} (hi:Inv S) (a:List Nat) (b c:List (Nat × Nat)):Inv {S with told:=a,names:=b,kept:=c}:=⟨hi.nw,hi.row0,hi.rows,hi.pairs,hi.lines,hi.leaps⟩
theorem SeaK.names {S:SeaD} (K:SeaK S) (a:List Nat) (b c:List (Nat × Nat)):SeaK {S with told:=a,names:=b,kept:=c}:=⟨K.rw,K.tw,K.ok,K.st,K.most⟩
structure Told (S:SeaD) (id:Nat) (T:SeaD × Nat × Int) (n:Nat):Prop where
  ok:T.2.2=0
  inv:NInv T.1
  nx:Nx S T.1
  lt:T.2.1<T.1.told.length
  is:T.1.told.getD T.2.1 0=id
  name:mget T.1.names id=some T.2.1
  kept:T.1.kept.length≤S.kept.length+n
  told:T.1.told.length≤S.told.length+1
  nodes:T.1.nodes=S.nodes
  rows:T.1.rows=S.rows
theorem tell_law {S:SeaD} (h:NInv S) {id l:Nat} (hl:Lv S id l) (hc:S.kept.length+2^(l+1)≤S.most):Told S id (S.tell id) (2^(l+1)):=by
  unfold SeaD.tell
  cases hm:mget S.names id with
  | some n=>
    obtain⟨h1,h2⟩:=h.names id n hm
    exact⟨rfl,h,Nx.refl S,h1,h2,hm,Nat.le_add_right _ _,by dsimp only;omega,rfl,rfl⟩
  | none=>
    dsimp only
    have hf:=freshD_lt S.nodes S.kept ((S.nodes.getD id .no).level+1) [] id
    have hk:=keepD_len S.nodes ((S.nodes.getD id .no).level+1) S.kept id
    have hlv:(S.nodes.getD id .no).level=l:=hl.2
    rw[hlv] at hf hk ⊢
    rw[if_neg (by omega)]
    have hx:Nx S {S with kept:=keepD S.nodes (l+1) S.kept id,names:=mput S.names id S.told.length,told:=S.told++[id]}:=
     ⟨⟨rfl,rfl,rfl,rfl,rfl,rfl,rfl,Nat.le_refl _,fun _ _=>rfl,fun h=>h.of rfl rfl rfl⟩,by simp,fun u hu=>by dsimp only;rw[getD_snoc,if_pos hu]⟩
    refine⟨rfl,⟨h.K.names _ _ _,h.i.names _ _ _,fun u hu=>?_,fun x n hx=>?_⟩,hx,by simp,by dsimp only;rw[getD_snoc,if_neg (by omega),if_pos rfl],by dsimp only;rw[mget_put,if_pos rfl],by dsimp only;omega,by simp,rfl,rfl⟩
    · dsimp only at hu ⊢
      rw[List.length_append,List.length_singleton] at hu
      rw[getD_snoc]
      split
      · exact h.told u (by assumption)
      · rw[if_pos (by omega)];exact hl.1
    · dsimp only at hx ⊢
      rw[mget_put] at hx
      split at hx
      · rename_i e
        subst e
        obtain rfl:=Option.some.inj hx
        exact⟨by simp,by rw[getD_snoc,if_neg (by omega),if_pos rfl]⟩
      · obtain⟨h1,h2⟩:=h.names x n hx
        exact⟨by simp;omega,by rw[getD_snoc,if_pos h1];exact h2⟩
theorem NInv.grow {S T:SeaD} (h:NInv S) (e:Ext S T) (i:Inv T):NInv T:=
  ⟨h.K.of_ext e,i,fun u hu=>by rw[e.told] at hu ⊢;exact Nat.lt_of_lt_of_le (h.told u hu) e.len,fun id n hm=>by rw[e.names] at hm;rw[e.told];exact h.names id n hm⟩
theorem Ext.nx {S T:SeaD} (e:Ext S T):Nx S T:=
  ⟨⟨e.r,e.t,e.states,e.most,rfl,rfl,rfl,e.len,e.nd,fun h=>(e.can h).of rfl rfl rfl⟩,by rw[e.told];omega,fun u _=>by rw[e.told]⟩
theorem NInv.new {r:RuleD} {t:TopoD} {most:Nat} (hr:r.Wd) (ht:t.Wd) (ho:WOk r t) (hm:most≤1048576):NInv (SeaD.new r t most):=
  ⟨⟨hr,ht,ho,rfl,hm⟩,⟨fun id h=>absurd h (by simp[SeaD.new]),fun id h=>absurd h (by simp[SeaD.new]),fun x id h=>by simp[SeaD.new,mget] at h,fun a b id h=>by simp[SeaD.new,mget] at h,fun x y z id h=>by simp[SeaD.new,mget] at h,fun id j o h=>by simp[SeaD.new,mget] at h⟩,
   fun u h=>absurd h (by simp[SeaD.new]),fun id n h=>by simp[SeaD.new,mget] at h⟩
structure Made1 (S:SeaD) (P:SeaD × Nat) (l:Nat) (R:List ByteArray) (n:Nat):Prop where
  e:Ext S P.1
  pinv:NInv P.1
  lv:Lv P.1 P.2 l
  plen:P.1.nodes.length≤S.nodes.length+n
  t:Told P.1 P.2 (P.1.tell P.2) (2^(l+1))
  nx:Nx S (P.1.tell P.2).1
  is:Tld (P.1.tell P.2).1 (P.1.tell P.2).2.1 l R
theorem Made1.of {S:SeaD} {P:SeaD × Nat} {l n:Nat} {R:List ByteArray} (h:NInv S) (g:Grows S P.1 n) (lt:P.2<P.1.nodes.length) (lev:(P.1.nd P.2).level=l) (hr:P.1.rws P.2=R) (hc:S.kept.length+2^(l+1)≤S.most):Made1 S P l R n:=by
  have hp:=h.grow g.ext g.inv
  have ht:=tell_law hp (id:=P.2) (l:=l) ⟨lt,lev⟩ (by rw[g.ext.kept,g.ext.most];exact hc)
  refine⟨g.ext,hp,⟨lt,lev⟩,g.len,ht,g.ext.nx.trans ht.nx,ht.lt,?_,?_⟩
  · rw[ht.is];exact ht.nx.lv ⟨lt,lev⟩
  · rw[ht.is,ht.nx.rws hp.i.nw lt];exact hr
theorem row_made {S:SeaD} (h:NInv S) {x:ByteArray} (hx:RowOkB S x) (hc:S.kept.length+2≤S.most):Made1 S (S.row x) 0 [x] 1:=by
  obtain⟨g,h1,h2,_⟩:=sea_row_law S h.i x hx
  refine Made1.of h g h1 (by rw[h2]) ?_ hc
  unfold SeaD.rws
  rw[h2]
  show[((S.row x).1.nd (S.row x).2).row]=[x]
  rw[h2]
theorem pair_made {S:SeaD} (h:NInv S) {u w l:Nat} {R Q:List ByteArray} (hu:Tld S u l R) (hw:Tld S w l Q) (hl:l≤44) (hc:S.kept.length+2^(l+2)≤S.most):Made1 S (S.pair (S.told.getD u 0) (S.told.getD w 0)) (l+1) (R++Q) 1:=by
  obtain⟨g,h1,h2,_,_,h5⟩:=sea_pair_law S h.i _ _ hu.2.1.1 hw.2.1.1 (by rw[hu.2.1.2,hw.2.1.2]) (by rw[hu.2.1.2];exact hl)
  exact Made1.of h g h1 (by rw[h2,hu.2.1.2]) (by rw[h5,hu.2.2,hw.2.2]) hc
theorem mid_made {S:SeaD} (h:NInv S) {u l f j:Nat} {R:List ByteArray} (hu:Tld S u (l+2) R) (hf:l+2≤f+1) (hj:j≤l) (hc:S.kept.length+2^(l+2)≤S.most):Made1 S (SeaD.mid f S (S.told.getD u 0) j) (l+1) (midD (lineR S.r S.t) R j) (costM l):=by
  have m:=sea_mid_law f S (S.told.getD u 0) j h.K h.i hu.2.1.1 (by rw[hu.2.1.2];omega) (by rw[hu.2.1.2];omega) (by rw[hu.2.1.2];omega)
  have h1:=m.lev
  rw[hu.2.1.2] at h1
  have h2:=m.g
  rw[hu.2.1.2,show l+2-2=l by omega] at h2
  exact Made1.of h h2 m.lt (by omega) (by rw[m.rws,hu.2.2]) hc
open Go.RowKit Go.Proofs
def SeaD.Row (S:SeaD) (x:ByteArray):SeaD × Nat × Int:=(S.row x).1.tell (S.row x).2
def SeaD.Pair (S:SeaD) (u w:Nat):SeaD × Nat × Int:=(S.pair (S.told.getD u 0) (S.told.getD w 0)).1.tell (S.pair (S.told.getD u 0) (S.told.getD w 0)).2
def SeaD.Mid (f:Nat) (S:SeaD) (u j:Nat):SeaD × Nat × Int:=(SeaD.mid f S (S.told.getD u 0) j).1.tell (SeaD.mid f S (S.told.getD u 0) j).2
def awT:TopoD:=⟨2,6,0,0,0⟩
def none6:List Int:=[0,0,0,0,0,0]
def some6:List Int:=[0,1,1,1,0,0]
def mid6:List Int:=[0,0,1,0,0,0]
def aw0:SeaD:=SeaD.new lifeR awT 1000
def aw1:SeaD × Nat × Int:=aw0.Row (textOf none6)
def aw2:SeaD × Nat × Int:=aw1.1.Row (textOf some6)
def aw3:SeaD × Nat × Int:=aw2.1.Pair 0 1
def aw4:SeaD × Nat × Int:=aw3.1.Pair 0 0
def aw5:SeaD × Nat × Int:=aw4.1.Pair 2 3
def aw6:SeaD × Nat × Int:=SeaD.Mid 5 aw5.1 4 0
def awS:SeaD × Nat:=SeaD.build 5 aw6.1 16 [textOf some6]
def awM:SeaD × Nat:=SeaD.mid 5 awS.1 awS.2 0
def awZ:SeaD × Nat:=awM.1.zero 3
def awP:SeaD × Nat:=awZ.1.pair awZ.2 (awM.1.nd awM.2).a
def awQ:SeaD × Nat:=awP.1.pair (awM.1.nd awM.2).b awZ.2
def awW:SeaD × Nat:=awQ.1.pair awP.2 awQ.2
def awE:SeaD × Int:=SeaD.edge 6 awW.1 awW.2 false
def awG:SeaD × Int:=SeaD.edge 6 awE.1 awW.2 true
theorem aw1_is:aw1.2=(0,0):=by kernel_rfl
theorem aw2_is:aw2.2=(1,0):=by kernel_rfl
theorem aw3_is:aw3.2=(2,0):=by kernel_rfl
theorem aw4_is:aw4.2=(3,0):=by kernel_rfl
theorem aw5_is:aw5.2=(4,0):=by kernel_rfl
theorem aw6_is:aw6.2=(5,0):=by kernel_rfl
theorem aw6_len:(aw6.1.nodes.length,aw6.1.kept.length,aw6.1.told.length)=(7,7,6):=by kernel_rfl
theorem awE_is:awE.2=15:=by kernel_rfl
theorem awG_is:awG.2=17:=by kernel_rfl
theorem awG_kept:awG.1.kept.length=7:=by kernel_rfl
theorem awG_told:awG.1.told=[0,1,2,3,4,6]:=by kernel_rfl
theorem awG_len:awG.1.nodes.length=31:=by kernel_rfl
theorem awG_most:awG.1.most=1000:=by kernel_rfl
theorem awG_l0:(awG.1.nodes.getD 0 .no).level=0:=by kernel_rfl
theorem awG_l2:(awG.1.nodes.getD 2 .no).level=1:=by kernel_rfl
theorem awC:cutD awG.1.nodes 5 awW.2 15 18=[textOf mid6,textOf mid6,textOf mid6]:=by kernel_rfl
theorem pr_eq {α β:Type} {a:α × β} {y:β} (h:a.2=y):a=(a.1,y):=by cases a;cases h;rfl
theorem awE_p:SeaD.edge 6 awW.1 awW.2 false=(awE.1,15):=by have h:=pr_eq awE_is;unfold awE at h ⊢;exact h
theorem awG_p:SeaD.edge 6 awE.1 awW.2 true=(awG.1,17):=by have h:=pr_eq awG_is;unfold awG at h ⊢;exact h
theorem aw_leap:Leap1 aw6.1 (textOf some6) awS awM awZ awP awQ awW (awE.1,0) (awG.1,0) 15 17:=
  ⟨by unfold awS;rfl,by unfold awM;rfl,by unfold awZ;rfl,by unfold awP;rfl,by unfold awQ;rfl,by unfold awW;rfl,by dsimp only;exact awE_p,by dsimp only;exact awG_p⟩
theorem life_wd:lifeR.Wd:=
  ⟨by show (0:Nat)≤_;omega,by unfold U8;decide,by unfold U8;decide,by unfold U16;decide,by unfold U16;decide,by unfold I64;decide,
   ⟨by unfold I64;decide,by unfold U8;decide,by unfold U8;decide,fun x h=>(by cases h),fun x h=>(by cases h),by decide,by decide⟩⟩
theorem awT_wd:awT.Wd:=⟨by unfold U8;decide,by unfold I64;decide,by unfold I64;decide,by unfold U8;decide,by unfold I64;decide⟩
theorem aw_ok:WOk lifeR awT:=by
  refine⟨.inl ⟨rfl,⟨rfl,rfl,rfl,rfl,rfl⟩,⟨by decide,by decide⟩,rfl⟩,⟨?_,by decide,rfl⟩,by unfold RuleD.quiet;kernel_rfl⟩
  unfold TopoD.Ok awT
  refine⟨by decide,by decide,by decide,by decide,by decide,by decide,by decide,by decide,by decide,by decide,by decide⟩
theorem rowok_text {S:SeaD} {x:List Int} (K:SeaK S) (hx:(x.length:Int)=S.t.w∧∀ i,i<x.length→0≤x.getD i 0∧x.getD i 0<S.r.nSt):RowOkB S (textOf x)∧intsB (textOf x)=x:=by
  have hf:=K.ok.1.facts
  have hi:intsB (textOf x)=x:=intsB_textOf x fun n hn=>by
   obtain⟨i,h,rfl⟩:=List.getElem_of_mem hn
   have:=hx.2 i h
   rw[List.getD_eq_getElem?_getD,List.getElem?_eq_getElem h] at this
   simp only[Option.getD_some] at this
   omega
  have hs:(textOf x).size=x.length:=by rw[← intsB_len,hi]
  exact⟨⟨by rw[hs];exact hx.1,fun i h=>by rw[hi];exact hx.2 i (by omega)⟩,hi⟩
theorem NInv.row {S:SeaD} (h:NInv S) {x:ByteArray} (hx:RowOkB S x) (hc:S.kept.length+2≤S.most):NInv (S.Row x).1∧Nx S (S.Row x).1∧Tld (S.Row x).1 (S.Row x).2.1 0 [x]:=
  let m:=row_made h hx hc
  ⟨m.t.inv,m.nx,m.is⟩
theorem NInv.pair {S:SeaD} (h:NInv S) {u w l:Nat} {R Q:List ByteArray} (hu:Tld S u l R) (hw:Tld S w l Q) (hl:l≤44) (hc:S.kept.length+2^(l+2)≤S.most):NInv (S.Pair u w).1∧Nx S (S.Pair u w).1∧Tld (S.Pair u w).1 (S.Pair u w).2.1 (l+1) (R++Q):=
  let m:=pair_made h hu hw hl hc
  ⟨m.t.inv,m.nx,m.is⟩
theorem NInv.mid {S:SeaD} (h:NInv S) {u l f j:Nat} {R:List ByteArray} (hu:Tld S u (l+2) R) (hf:l+2≤f+1) (hj:j≤l) (hc:S.kept.length+2^(l+2)≤S.most):NInv (SeaD.Mid f S u j).1∧Nx S (SeaD.Mid f S u j).1∧Tld (SeaD.Mid f S u j).1 (SeaD.Mid f S u j).2.1 (l+1) (midD (lineR S.r S.t) R j):=
  let m:=mid_made h hu hf hj hc
  ⟨m.t.inv,m.nx,m.is⟩
open Go.RowKit Go.Proofs
section
variable {h0:Hp} {σ:List HP}
theorem Rd.hp {p:HP} {b off:Nat} {v:Value} (i:Nat) (hi:σ[i]?=some p) (h:∀ a,p a→cellOf (a b) off=some v):Rd h0 σ ⟨b,off,none⟩ v:=fun k w s=>by
  obtain⟨g,⟨a,c,hx,hc,dj,e⟩,dj0,hh⟩:=(s.pull i hi).own
  have hab:=h a hx
  rw[cell_of_heap]
  cases hb:a b with
  | none=>rw[hb] at hab;cases hab
  | some o=>rw[hh b o (by rw[e];exact Hp.le_un_left _ _ _ _ hb),← hb];exact hab
theorem St.pure {k:World} {w:World} {p:HP} {φ:Prop} (i:Nat) (hi:σ[i]?=some p) (h:∀ a,p a→φ) (s:St k h0 σ w):φ:=by
  obtain⟨g,⟨a,c,hx,hc,dj,e⟩,dj0,hh⟩:=(s.pull i hi).own
  exact h a hx
def rowsV (v:Value) (vs:List Value) (ls:List ByteArray):HP:=fun h=>SlAt h 1 v ls.length (fun i=>vs.getD i undef)∧∀ i,i<ls.length→BytesAt h (vs.getD i undef) (intsB (ls.getD i ByteArray.empty))
theorem Ent.rowsV {v:Value} {ls:List ByteArray}:Ent (Go.Eng.rowsP v ls::σ) (exP (fun vs=>Go.Eng.rowsV v vs ls)::σ):=Ent.imp fun a h=>h
theorem St.rowsV_shape {k w:World} {v:Value} {vs:List Value} {ls:List ByteArray} (i:Nat) (hi:σ[i]?=some (Go.Eng.rowsV v vs ls)) (hp:0<ls.length) (s:St k h0 σ w):∃ b o cap,v=.slice (some ⟨b,o,none⟩) ls.length cap:=
  s.pure i hi fun a h=>by
   obtain⟨b,o,cap,e,_,_⟩:=SlAt.pos h.1 hp
   exact⟨b,o,cap,e⟩
theorem St.rowsV_row {k w:World} {v:Value} {vs:List Value} {ls:List ByteArray} (i:Nat) (hi:σ[i]?=some (Go.Eng.rowsV v vs ls)) (j:Nat) (hj:j<ls.length) (hp:0<(intsB (ls.getD j ByteArray.empty)).length) (s:St k h0 σ w):∃ b o cap,vs.getD j undef=.slice (some ⟨b,o,none⟩) (intsB (ls.getD j ByteArray.empty)).length cap:=
  s.pure i hi fun a h=>by
   obtain⟨b,o,cap,e,_,_⟩:=SlAt.pos (h.2 j hj) hp
   exact⟨b,o,cap,e⟩
theorem Rd.rowsV {b o cap:Nat} {v:Value} {vs:List Value} {ls:List ByteArray} (i:Nat) (hi:σ[i]?=some (Go.Eng.rowsV v vs ls)) (e:v=.slice (some ⟨b,o,none⟩) ls.length cap) (j:Nat) (hj:j<ls.length):Rd h0 σ ⟨b,o+j,none⟩ (vs.getD j undef):=
  Rd.hp i hi fun a h=>by
   obtain⟨b',o',cap',e',_,hc⟩:=SlAt.pos h.1 (by omega)
   rw[e] at e'
   simp only[Value.slice.injEq,Option.some.injEq,Addr.mk.injEq] at e'
   obtain⟨⟨rfl,rfl,_⟩,_,_⟩:=e'
   exact hc j (by omega)
theorem Rd.rowsVB {b o n cap:Nat} {v:Value} {vs:List Value} {ls:List ByteArray} (i:Nat) (hi:σ[i]?=some (Go.Eng.rowsV v vs ls)) (j:Nat) (hj:j<ls.length) (e:vs.getD j undef=.slice (some ⟨b,o,none⟩) n cap) (q:Nat) (hq:q<(intsB (ls.getD j ByteArray.empty)).length):Rd h0 σ ⟨b,o+q,none⟩ (.int .u8 ((intsB (ls.getD j ByteArray.empty)).getD q 0)):=
  Rd.hp i hi fun a h=>by
   obtain⟨b',o',cap',e',_,hc⟩:=SlAt.pos (h.2 j hj) (by omega)
   rw[e] at e'
   simp only[Value.slice.injEq,Option.some.injEq,Addr.mk.injEq] at e'
   obtain⟨⟨rfl,rfl,_⟩,_,_⟩:=e'
   exact hc q (by omega)
theorem bts_one {h:Hp} {c T:Nat} {v0:Value} {x:ByteArray} (h1:At h c [v0] T) (hb:BytesAt h v0 (intsB x)):BtsAt h (.slice (some ⟨c,0,none⟩) 1 1) [x]:=by
  refine⟨[v0],⟨some ⟨c,0,none⟩,1,rfl,Nat.le_refl _,fun e=>(by cases e),fun _=>⟨c,0,rfl,fun i hi=>?_⟩⟩,fun i hi=>?_⟩
  · obtain rfl:i=0:=by simp at hi;omega
    obtain⟨fr,e⟩:=h1
    rw[e];rfl
  · obtain rfl:i=0:=by simpa using hi
    exact hb
end
theorem life_tab (h:Hp):TabAt h lifeR.table (.slice none 0 0) (.slice none 0 0):=
  ⟨⟨fun _=>undef,⟨none,0,rfl,Nat.le_refl _,fun _=>rfl,fun h=>absurd h (by decide)⟩,fun i hi=>absurd hi (by simp[lifeR])⟩,
   ⟨fun _=>undef,⟨none,0,rfl,Nat.le_refl _,fun _=>rfl,fun h=>absurd h (by decide)⟩,fun i hi=>absurd hi (by simp[lifeR])⟩⟩
theorem aw0_inv:NInv aw0:=NInv.new life_wd awT_wd aw_ok (by omega)
theorem aw_bnd:[(aw0.kept.length,aw0.told.length,aw0.nodes.length),(aw1.1.kept.length,aw1.1.told.length,aw1.1.nodes.length),(aw2.1.kept.length,aw2.1.told.length,aw2.1.nodes.length),(aw3.1.kept.length,aw3.1.told.length,aw3.1.nodes.length),(aw4.1.kept.length,aw4.1.told.length,aw4.1.nodes.length),(aw5.1.kept.length,aw5.1.told.length,aw5.1.nodes.length)]=[(0,0,0),(1,1,1),(2,2,2),(3,3,3),(4,4,4),(5,5,5)]:=by kernel_rfl
theorem aw_bnds:(aw0.kept.length=0∧aw0.told.length=0∧aw0.nodes.length=0)∧(aw1.1.kept.length=1∧aw1.1.told.length=1∧aw1.1.nodes.length=1)∧(aw2.1.kept.length=2∧aw2.1.told.length=2∧aw2.1.nodes.length=2)∧(aw3.1.kept.length=3∧aw3.1.told.length=3∧aw3.1.nodes.length=3)∧(aw4.1.kept.length=4∧aw4.1.told.length=4∧aw4.1.nodes.length=4)∧(aw5.1.kept.length=5∧aw5.1.told.length=5∧aw5.1.nodes.length=5):=by
  have h:=aw_bnd
  simpa only [List.cons.injEq,Prod.mk.injEq,and_true] using h
theorem aw0_m:aw0.most=1000∧aw0.t=awT∧aw0.r=lifeR:=⟨rfl,rfl,rfl⟩
theorem aw1_def:aw0.Row (textOf none6)=aw1:=by unfold aw1;rfl
theorem aw2_def:aw1.1.Row (textOf some6)=aw2:=by unfold aw2;rfl
theorem aw3_def:aw2.1.Pair 0 1=aw3:=by unfold aw3;rfl
theorem aw4_def:aw3.1.Pair 0 0=aw4:=by unfold aw4;rfl
theorem aw5_def:aw4.1.Pair 2 3=aw5:=by unfold aw5;rfl
theorem aw6_def:SeaD.Mid 5 aw5.1 4 0=aw6:=by unfold aw6;rfl
theorem none6_ok:(none6.length:Int)=awT.w∧∀ i,i<none6.length→0≤none6.getD i 0∧none6.getD i 0<lifeR.nSt:=⟨rfl,by decide⟩
theorem some6_ok:(some6.length:Int)=awT.w∧∀ i,i<some6.length→0≤some6.getD i 0∧some6.getD i 0<lifeR.nSt:=⟨rfl,by decide⟩
theorem aw1_inv:NInv aw1.1∧Nx aw0 aw1.1∧Tld aw1.1 0 0 [textOf none6]:=by
  have h:=NInv.row aw0_inv (rowok_text aw0_inv.K none6_ok).1 (by rw[aw_bnds.1.1,aw0_m.1];omega)
  rw[aw1_def,show aw1.2.1=0 by rw[aw1_is]] at h
  exact h
theorem aw1_m:aw1.1.most=1000∧aw1.1.t=awT∧aw1.1.r=lifeR:=⟨aw1_inv.2.1.most,aw1_inv.2.1.t,aw1_inv.2.1.r⟩
theorem aw2_inv:NInv aw2.1∧Nx aw1.1 aw2.1∧Tld aw2.1 1 0 [textOf some6]:=by
  have h:=NInv.row aw1_inv.1 (rowok_text aw1_inv.1.K (by rw[aw1_m.2.1,aw1_m.2.2];exact some6_ok)).1 (by rw[aw_bnds.2.1.1,aw1_m.1];omega)
  rw[aw2_def,show aw2.2.1=1 by rw[aw2_is]] at h
  exact h
theorem aw2_m:aw2.1.most=1000∧aw2.1.t=awT∧aw2.1.r=lifeR:=⟨aw2_inv.2.1.most.trans aw1_m.1,aw2_inv.2.1.t.trans aw1_m.2.1,aw2_inv.2.1.r.trans aw1_m.2.2⟩
theorem aw2_t0:Tld aw2.1 0 0 [textOf none6]:=aw1_inv.2.2.up aw2_inv.2.1 aw1_inv.1.i.nw
theorem aw3_inv:NInv aw3.1∧Nx aw2.1 aw3.1∧Tld aw3.1 2 1 ([textOf none6]++[textOf some6]):=by
  have h:=NInv.pair aw2_inv.1 aw2_t0 aw2_inv.2.2 (by omega) (by rw[aw_bnds.2.2.1.1,aw2_m.1];omega)
  rw[aw3_def,show aw3.2.1=2 by rw[aw3_is]] at h
  exact h
theorem aw3_m:aw3.1.most=1000∧aw3.1.t=awT∧aw3.1.r=lifeR:=⟨aw3_inv.2.1.most.trans aw2_m.1,aw3_inv.2.1.t.trans aw2_m.2.1,aw3_inv.2.1.r.trans aw2_m.2.2⟩
theorem aw3_t0:Tld aw3.1 0 0 [textOf none6]:=aw2_t0.up aw3_inv.2.1 aw2_inv.1.i.nw
theorem aw4_inv:NInv aw4.1∧Nx aw3.1 aw4.1∧Tld aw4.1 3 1 ([textOf none6]++[textOf none6]):=by
  have h:=NInv.pair aw3_inv.1 aw3_t0 aw3_t0 (by omega) (by rw[aw_bnds.2.2.2.1.1,aw3_m.1];omega)
  rw[aw4_def,show aw4.2.1=3 by rw[aw4_is]] at h
  exact h
theorem aw4_m:aw4.1.most=1000∧aw4.1.t=awT∧aw4.1.r=lifeR:=⟨aw4_inv.2.1.most.trans aw3_m.1,aw4_inv.2.1.t.trans aw3_m.2.1,aw4_inv.2.1.r.trans aw3_m.2.2⟩
theorem aw4_t2:Tld aw4.1 2 1 ([textOf none6]++[textOf some6]):=aw3_inv.2.2.up aw4_inv.2.1 aw3_inv.1.i.nw
theorem aw5_inv:NInv aw5.1∧Nx aw4.1 aw5.1∧Tld aw5.1 4 2 (([textOf none6]++[textOf some6])++([textOf none6]++[textOf none6])):=by
  have h:=NInv.pair aw4_inv.1 aw4_t2 aw4_inv.2.2 (by omega) (by rw[aw_bnds.2.2.2.2.1.1,aw4_m.1];omega)
  rw[aw5_def,show aw5.2.1=4 by rw[aw5_is]] at h
  exact h
theorem aw5_m:aw5.1.most=1000∧aw5.1.t=awT∧aw5.1.r=lifeR:=⟨aw5_inv.2.1.most.trans aw4_m.1,aw5_inv.2.1.t.trans aw4_m.2.1,aw5_inv.2.1.r.trans aw4_m.2.2⟩
theorem aw6_inv:NInv aw6.1∧Nx aw5.1 aw6.1:=by
  have h:=NInv.mid (f:=5) (j:=0) (l:=0) aw5_inv.1 aw5_inv.2.2 (by omega) (by omega) (by rw[aw_bnds.2.2.2.2.2.1,aw5_m.1];omega)
  rw[aw6_def] at h
  exact⟨h.1,h.2.1⟩
theorem aw6_m:aw6.1.most=1000∧aw6.1.t=awT∧aw6.1.r=lifeR:=⟨aw6_inv.2.most.trans aw5_m.1,aw6_inv.2.t.trans aw5_m.2.1,aw6_inv.2.r.trans aw5_m.2.2⟩
theorem some6_lives:LivesB (textOf some6):=⟨1,by decide,by decide⟩
theorem some6_is:intsB (textOf some6)=some6:=by decide
open Go.RowKit Go.Proofs
section
variable {k:World} {h0:Hp}
theorem sea_RowN (b:Nat) (A:SeaA) (S:SeaD) (v:Value) (x:List Int) (h:NInv S) (hv:BytesAt h0 v x) (hx:(x.length:Int)=S.t.w∧∀ i,i<x.length→0≤x.getD i 0∧x.getD i 0<S.r.nSt) (hk:S.kept.length+2≤S.most) (hn:S.nodes.length<S.most) (ht:S.told.length≤1048576) :
    FT Pg 16 [.pointer (some ⟨b,0,none⟩),v] k h0 (seaS b A S) (Ret fun y τ=>∃ nv ov,y=.tuple #[encI (S.Row (textOf x)).2.1,.int .i64 0]∧τ=seaS b {A with nv:=nv,ov:=ov} (S.Row (textOf x)).1):=by
  obtain⟨hr,hi⟩:=rowok_text h.K hx
  have m:=row_made h hr hk
  have hf:=h.K.ok.1.facts
  have hto:=h.K.ok.2.1;unfold TopoD.Ok at hto
  have hmo:=h.K.most
  have c:=sea_Row (k:=k) b A S v x hv ⟨hx.1,fun i hi=>by rw[h.K.st];exact hx.2 i hi⟩ (by rw[h.K.st];omega) (by omega) (by omega) hn hmo m.pinv.i.nw m.lv.1 (by rw[m.e.kept];omega) (by rw[m.e.told];omega)
  rw[m.t.ok] at c
  exact c
theorem sea_PairN (b:Nat) (A:SeaA) (S:SeaD) (u w l:Nat) (R Q:List ByteArray) (h:NInv S) (hu:Tld S u l R) (hw:Tld S w l Q) (hl:l≤43) (hk:S.kept.length+2^(l+2)≤S.most) (hn:S.nodes.length<S.most) (ht:S.told.length≤1048576) :
    FT Pg 17 [.pointer (some ⟨b,0,none⟩),encI u,encI w] k h0 (seaS b A S) (Ret fun y τ=>∃ nv ov,y=.tuple #[encI (S.Pair u w).2.1,.int .i64 0]∧τ=seaS b {A with nv:=nv,ov:=ov} (S.Pair u w).1):=by
  have m:=pair_made h hu hw (by omega) hk
  have hmo:=h.K.most
  have hp:0<2^(l+2):=Nat.two_pow_pos _
  have hlu:(S.nodes.getD (S.told.getD u 0) .no).level=l:=hu.2.1.2
  have hlw:(S.nodes.getD (S.told.getD w 0) .no).level=l:=hw.2.1.2
  have c:=sea_Pair (k:=k) (h0:=h0) b A S u w hu.1 hw.1 hu.2.1.1 hw.2.1.1 (by omega) (by omega) hn hmo m.pinv.i.nw m.e m.lv.1 (by rw[m.e.kept];omega) (by rw[m.e.told];omega)
  rw[m.t.ok] at c
  exact c
theorem sea_MidN (b:Nat) (A:SeaA) (S:SeaD) (u l f j:Nat) (R:List ByteArray) (h:NInv S) (hu:Tld S u (l+2) R) (hf:l+2≤f+1) (hj:j≤l) (hk:S.kept.length+2^(l+2)≤S.most) (hc:S.nodes.length+costM l≤S.most) (ht:S.told.length≤1048576) :
    FT Pg 20 [.pointer (some ⟨b,0,none⟩),encI u,.int .i64 (j:Int)] k h0 (seaS b A S) (Ret fun y τ=>∃ nv ov,y=.tuple #[encI (SeaD.Mid f S u j).2.1,.int .i64 0]∧τ=seaS b {A with nv:=nv,ov:=ov} (SeaD.Mid f S u j).1):=by
  have m:=mid_made h hu hf hj hk
  have hmo:=h.K.most
  have hp:0<2^(l+2):=Nat.two_pow_pos _
  have c:=sea_Middle (k:=k) (h0:=h0) b A S f h.K h.i u hu.1 l hu.2.1 hf j hj hc (by omega) m.pinv.i.nw m.e m.lv.1 (by rw[m.e.kept];omega) (by rw[m.e.told];omega)
  rw[m.t.ok] at c
  exact c
theorem aw_c1 (b:Nat) (A:SeaA) (v:Value) (hv:BytesAt h0 v none6):FT Pg 16 [.pointer (some ⟨b,0,none⟩),v] k h0 (seaS b A aw0) (Ret fun u τ=>∃ nv ov,u=.tuple #[encI 0,.int .i64 0]∧τ=seaS b {A with nv:=nv,ov:=ov} aw1.1):=by
  have c:=sea_RowN (k:=k) b A aw0 v none6 aw0_inv hv none6_ok (by rw[aw_bnds.1.1,aw0_m.1];omega) (by rw[aw_bnds.1.2.2,aw0_m.1];omega) (by rw[aw_bnds.1.2.1];omega)
  rw[aw1_def,show aw1.2.1=0 by rw[aw1_is]] at c
  exact c
theorem aw_c2 (b:Nat) (A:SeaA) (v:Value) (hv:BytesAt h0 v some6):FT Pg 16 [.pointer (some ⟨b,0,none⟩),v] k h0 (seaS b A aw1.1) (Ret fun u τ=>∃ nv ov,u=.tuple #[encI 1,.int .i64 0]∧τ=seaS b {A with nv:=nv,ov:=ov} aw2.1):=by
  have c:=sea_RowN (k:=k) b A aw1.1 v some6 aw1_inv.1 hv (by rw[aw1_m.2.1,aw1_m.2.2];exact some6_ok) (by rw[aw_bnds.2.1.1,aw1_m.1];omega) (by rw[aw_bnds.2.1.2.2,aw1_m.1];omega) (by rw[aw_bnds.2.1.2.1];omega)
  rw[aw2_def,show aw2.2.1=1 by rw[aw2_is]] at c
  exact c
theorem aw_c3 (b:Nat) (A:SeaA):FT Pg 17 [.pointer (some ⟨b,0,none⟩),encI 0,encI 1] k h0 (seaS b A aw2.1) (Ret fun u τ=>∃ nv ov,u=.tuple #[encI 2,.int .i64 0]∧τ=seaS b {A with nv:=nv,ov:=ov} aw3.1):=by
  have c:=sea_PairN (k:=k) (h0:=h0) b A aw2.1 0 1 0 _ _ aw2_inv.1 aw2_t0 aw2_inv.2.2 (by omega) (by rw[aw_bnds.2.2.1.1,aw2_m.1];omega) (by rw[aw_bnds.2.2.1.2.2,aw2_m.1];omega) (by rw[aw_bnds.2.2.1.2.1];omega)
  rw[aw3_def,show aw3.2.1=2 by rw[aw3_is]] at c
  exact c
theorem aw_c4 (b:Nat) (A:SeaA):FT Pg 17 [.pointer (some ⟨b,0,none⟩),encI 0,encI 0] k h0 (seaS b A aw3.1) (Ret fun u τ=>∃ nv ov,u=.tuple #[encI 3,.int .i64 0]∧τ=seaS b {A with nv:=nv,ov:=ov} aw4.1):=by
  have c:=sea_PairN (k:=k) (h0:=h0) b A aw3.1 0 0 0 _ _ aw3_inv.1 aw3_t0 aw3_t0 (by omega) (by rw[aw_bnds.2.2.2.1.1,aw3_m.1];omega) (by rw[aw_bnds.2.2.2.1.2.2,aw3_m.1];omega) (by rw[aw_bnds.2.2.2.1.2.1];omega)
  rw[aw4_def,show aw4.2.1=3 by rw[aw4_is]] at c
  exact c
theorem aw_c5 (b:Nat) (A:SeaA):FT Pg 17 [.pointer (some ⟨b,0,none⟩),encI 2,encI 3] k h0 (seaS b A aw4.1) (Ret fun u τ=>∃ nv ov,u=.tuple #[encI 4,.int .i64 0]∧τ=seaS b {A with nv:=nv,ov:=ov} aw5.1):=by
  have c:=sea_PairN (k:=k) (h0:=h0) b A aw4.1 2 3 1 _ _ aw4_inv.1 aw4_t2 aw4_inv.2.2 (by omega) (by rw[aw_bnds.2.2.2.2.1.1,aw4_m.1];omega) (by rw[aw_bnds.2.2.2.2.1.2.2,aw4_m.1];omega) (by rw[aw_bnds.2.2.2.2.1.2.1];omega)
  rw[aw5_def,show aw5.2.1=4 by rw[aw5_is]] at c
  exact c
theorem aw_c5n (b:Nat) (A:SeaA):FT Pg 14 [.pointer (some ⟨b,0,none⟩)] k h0 (seaS b A aw5.1) (Ret fun x τ=>x=.int .i64 5∧τ=seaS b A aw5.1):=by
  have c:=sea_Nodes (k:=k) (h0:=h0) b A aw5.1 (by rw[aw5_m.1];omega)
  rw[aw_bnds.2.2.2.2.2.1] at c
  exact c
theorem aw_c6 (b:Nat) (A:SeaA):FT Pg 20 [.pointer (some ⟨b,0,none⟩),encI 4,.int .i64 0] k h0 (seaS b A aw5.1) (Ret fun u τ=>∃ nv ov,u=.tuple #[encI 5,.int .i64 0]∧τ=seaS b {A with nv:=nv,ov:=ov} aw6.1):=by
  have c:=sea_MidN (k:=k) (h0:=h0) b A aw5.1 4 0 5 0 _ aw5_inv.1 aw5_inv.2.2 (by omega) (by omega) (by rw[aw_bnds.2.2.2.2.2.1,aw5_m.1];omega) (by rw[aw_bnds.2.2.2.2.2.2.2,aw5_m.1];unfold costM;omega) (by rw[aw_bnds.2.2.2.2.2.2.1];omega)
  rw[aw6_def,show aw6.2.1=5 by rw[aw6_is]] at c
  exact c
theorem aw_c7 (b:Nat) (A:SeaA) (rv:Value) (hbt:BtsAt h0 rv [textOf some6]):FT Pg 23 [.pointer (some ⟨b,0,none⟩),.agg #[.int .i64 6,.int .i64 0,rv],.int .i64 1] k h0 (seaS b A aw6.1) (Ret fun y τ=>∃ nv v,y=.tuple #[.agg #[.int .i64 6,.int .i64 (-1),v],.int .i64 0]∧τ=rowsP v [textOf mid6,textOf mid6,textOf mid6]::seaS b {A with nv:=nv} awG.1):=by
  have hok:RowOkB aw6.1 (textOf some6):=(rowok_text aw6_inv.1.K (by rw[aw6_m.2.1,aw6_m.2.2];exact some6_ok)).1
  have hl:aw6.1.nodes.length=7:=by have h:=aw6_len;simp only[Prod.mk.injEq] at h;exact h.1
  have ht:aw6.1.t.w=6:=by rw[aw6_m.2.1];rfl
  have c:=sea_Run1 (k:=k) b A aw6.1 aw6_inv.1.K aw6_inv.1.i (textOf some6) rv hbt hok 0 ⟨by omega,by omega⟩ awS awM awZ awP awQ awW (awE.1,0) (awG.1,0) 15 17 aw_leap (by omega) (by omega) (by rw[hl,aw6_m.1];omega) some6_lives
  rw[ht] at c
  dsimp only at c
  rw[show (17:Int)+1=18 by omega,awC,show (0:Int)-16+15=-1 by omega] at c
  exact c
theorem aw_c8 (b:Nat) (A:SeaA):FT Pg 17 [.pointer (some ⟨b,0,none⟩),encI 0,encI 2] k h0 (seaS b A awG.1) (Ret fun x τ=>x=.tuple #[.int .i64 0,.int .i64 21]∧τ=seaS b A awG.1):=by
  have t0:awG.1.told.getD 0 0=0:=by rw[awG_told];rfl
  have t2:awG.1.told.getD 2 0=2:=by rw[awG_told];rfl
  have tl:awG.1.told.length=6:=by rw[awG_told];rfl
  exact sea_PairE b A awG.1 0 2 (by rw[awG_most];omega) (by omega) (by omega) (by rw[t0,awG_len];omega) (by rw[t2,awG_len];omega) (by rw[t0,t2,awG_l0,awG_l2];omega)
theorem aw_c9 (b:Nat) (A:SeaA):FT Pg 14 [.pointer (some ⟨b,0,none⟩)] k h0 (seaS b A awG.1) (Ret fun x τ=>x=.int .i64 7∧τ=seaS b A awG.1):=by
  have c:=sea_Nodes (k:=k) (h0:=h0) b A awG.1 (by rw[awG_most];omega)
  rw[awG_kept] at c
  exact c
end
open Go.RowKit Go.Proofs
section
variable {k:World} {h0:Hp}
set_option maxRecDepth 10000 in
set_option maxHeartbeats 8000000 in
theorem law_awake:FT Pg 8 [] k h0 [] (Is (.bool true)):=by
  refine FT.of_wp (n:=165) Tryz.func8 rfl rfl rfl<|WP.regs<|L.assign rfl<|WL.nil<|WP.regs<|WL.callV rfl rfl F32.fn rfl (fun g gS dj=>law_life)<|L.build (cs:=[_,_,_,_,_]) T34.b T34.z rfl rfl<|WL.call rfl rfl F10.fn rfl (FT.make fun g gS dj=>strip_New lifeR life_wd _ _ (life_tab _) awT awT_wd aw_ok 1000 ⟨by omega,by omega⟩) ?_;rintro _ _ ⟨_,⟨b,A,rfl,rfl⟩,rfl⟩
  rw[show SeaD.new lifeR awT 1000=aw0 from rfl]
  refine L.move rfl<|L.extract rfl rfl<|L.extract rfl rfl<|L.assign rfl<|L.assign rfl<|WL.nil<|WP.seq<|WP.regs<|L.move rfl<|L.eqlPtrNil T38.u rfl<|L.move rfl<|L.move rfl<|L.neq rfl rfl<|L.pickF rfl rfl<|WL.nil<|WP.condD rfl (fun hT=>absurd hT (by decide)) (fun h33=>?_)
  refine WP.skip<|X.thenN<|WP.regs<|L.make T60.sl T5.z rfl rfl (by omega) fun v34=>L.assign rfl<|WL.nil<|WP.regs<|L.sliceL T60.sl T5.z rfl (by simp[Value.oneCell']) rfl rfl fun v35=>L.assign rfl<|WL.nil<|WP.regs<|L.move rfl<|L.move rfl<|WL.call rfl rfl F16.fn rfl (FT.part (seaS b _ aw0) _ ((Ent.pk [2,2,2,2,2,2,2,2,2,2,1,0] rfl)) fun g gS dj=>aw_c1 b _ _ (BytesAt.of_at (by have:=Stars.cl' (h0:=h0) 0 rfl gS dj;exact this) rfl (by decide))) ?_;rintro _ _ ⟨_,⟨nv1,ov1,rfl,rfl⟩,rfl⟩
  refine L.move rfl<|L.extract rfl rfl<|L.extract rfl rfl<|L.assign rfl<|L.assign rfl<|WL.nil<|WP.regs<|L.move rfl<|L.move rfl<|WL.call rfl rfl F16.fn rfl (FT.part (seaS b _ aw1.1) _ ((Ent.refl _)) fun g gS dj=>aw_c2 b _ _ (BytesAt.of_at (by have:=Stars.cl' (h0:=h0) 1 rfl gS dj;exact this) rfl (by decide))) ?_;rintro _ _ ⟨_,⟨nv2,ov2,rfl,rfl⟩,rfl⟩;refine L.move rfl<|L.extract rfl rfl<|L.extract rfl rfl<|L.assign rfl<|L.assign rfl<|WL.nil<|WP.regs<|L.move rfl<|L.move rfl<|L.move rfl<|WL.call rfl rfl F17.fn rfl (FT.part (seaS b _ aw2.1) _ ((Ent.refl _)) fun g gS dj=>aw_c3 b _) ?_;rintro _ _ ⟨_,⟨nv3,ov3,rfl,rfl⟩,rfl⟩
  refine L.move rfl<|L.extract rfl rfl<|L.extract rfl rfl<|L.assign rfl<|L.assign rfl<|WL.nil<|WP.regs<|L.move rfl<|L.move rfl<|L.move rfl<|WL.call rfl rfl F17.fn rfl (FT.part (seaS b _ aw3.1) _ ((Ent.refl _)) fun g gS dj=>aw_c4 b _) ?_;rintro _ _ ⟨_,⟨nv4,ov4,rfl,rfl⟩,rfl⟩;refine L.move rfl<|L.extract rfl rfl<|L.extract rfl rfl<|L.assign rfl<|L.assign rfl<|WL.nil<|WP.regs<|L.move rfl<|L.move rfl<|L.move rfl<|WL.call rfl rfl F17.fn rfl (FT.part (seaS b _ aw4.1) _ ((Ent.refl _)) fun g gS dj=>aw_c5 b _) ?_;rintro _ _ ⟨_,⟨nv5,ov5,rfl,rfl⟩,rfl⟩
  refine L.move rfl<|L.extract rfl rfl<|L.extract rfl rfl<|L.assign rfl<|L.assign rfl<|WL.nil<|WP.regs<|L.move rfl<|WL.call rfl rfl F14.fn rfl (FT.part (seaS b _ aw5.1) _ ((Ent.refl _)) fun g gS dj=>aw_c5n b _) ?_;rintro _ _ ⟨_,⟨rfl,rfl⟩,rfl⟩;refine L.assign rfl<|WL.nil<|WP.regs<|L.move rfl<|L.move rfl<|WL.call rfl rfl F20.fn rfl (FT.part (seaS b _ aw5.1) _ ((Ent.refl _)) fun g gS dj=>aw_c6 b _) ?_;rintro _ _ ⟨_,⟨nv6,ov6,rfl,rfl⟩,rfl⟩
  refine L.move rfl<|L.extract rfl rfl<|L.extract rfl rfl<|L.assign rfl<|L.assign rfl<|WL.nil<|WP.regs<|L.move rfl<|L.move rfl<|L.slice1 T61.sl T60.z rfl rfl rfl rfl rfl rfl fun vB=>L.build (cs:=[_,_,_]) T63.b T63.z rfl rfl<|WL.call rfl rfl F23.fn rfl (FT.part (seaS b _ aw6.1) _ ((Ent.pk [1,1,1,1,1,1,1,1,1,1,0,0,0] rfl)) fun g gS dj=>aw_c7 b _ _ (bts_one (Stars.cl' 0 rfl gS dj) (by rw[some6_is];exact (BytesAt.of_at (by have:=Stars.cl' (h0:=h0) 2 rfl gS dj;exact this) rfl (by decide))))) ?_;rintro _ _ ⟨_,⟨nv7,v,rfl,rfl⟩,rfl⟩;refine WL.ent Ent.rowsV<|WL.ex ?_
  rintro vs
  refine WL.fact (fun _ _ _ s=>s.rowsV_shape 0 rfl (by decide)) ?_;rintro ⟨vb,vo,vcap,rfl⟩;refine WL.fact (fun _ _ _ s=>s.rowsV_row 0 rfl 2 (by decide) (by decide)) ?_;rintro ⟨xb,xo,xcap,hx2⟩
  replace hx2:vs.getD 2 undef=.slice (some ⟨xb,xo,none⟩) 6 xcap:=hx2
  refine L.move rfl<|L.extract rfl rfl<|L.extract rfl rfl<|L.alloc T63.z fun c18=>L.storeN T63.ag rfl rfl rfl (Wrs.all 0 rfl rfl (by simp[Value.oneCell']))<|L.assign rfl<|WL.nil<|WP.regs<|L.move rfl<|L.move rfl<|L.move rfl<|WL.call rfl rfl F17.fn rfl (FT.part (seaS b _ awG.1) _ ((Ent.pk [2,2,2,2,2,2,2,2,2,2,0,0,0,0,0] rfl)) fun g gS dj=>aw_c8 b _) ?_;rintro _ _ ⟨_,⟨rfl,rfl⟩,rfl⟩;refine L.move rfl<|L.extract rfl rfl<|L.extract rfl rfl<|L.assign rfl<|L.assign rfl<|WL.nil<|WP.seq<|WP.regs<|L.fieldAddr (o':=2) T63.f2 rfl rfl<|L.load T61.sc rfl (Rd.own 10 rfl rfl)<|L.lenS T61.sl rfl rfl<|L.neqD rfl rfl (fun hT=>absurd hT (by decide)) (fun h95=>?_)
  refine L.move rfl<|L.fieldAddr (o':=2) T63.f2 rfl rfl<|L.load T61.sc rfl (Rd.own 10 rfl rfl)<|L.indexS T61.sl rfl rfl (by omega)<|L.load T60.sc rfl (Rd.rowsV 11 rfl rfl 2 (by decide)) ?_
  rw[hx2]
  refine L.lenS T60.sl rfl rfl<|L.neq rfl rfl<|L.pickF rfl rfl<|WL.nil<|WP.condD rfl (fun hT=>absurd hT (by decide)) (fun h103=>?_);refine WP.skip<|X.thenN<|WP.regs<|L.move rfl<|L.eqlD rfl rfl (fun h105=>?_) (fun hF=>absurd hF (by decide));refine L.move rfl<|L.move rfl<|L.eqlD rfl rfl (fun h108=>?_) (fun hF=>absurd hF (by decide));refine L.pickT rfl rfl<|L.move rfl<|L.move rfl<|L.eqlD rfl rfl (fun h112=>?_) (fun hF=>absurd hF (by decide));refine L.pickT rfl rfl<|L.move rfl<|L.move rfl<|L.eqlD rfl rfl (fun h116=>?_) (fun hF=>absurd hF (by decide));refine L.pickT rfl rfl<|L.move rfl<|L.move rfl<|L.eqlD rfl rfl (fun h120=>?_) (fun hF=>absurd hF (by decide))
  refine L.pickT rfl rfl<|L.move rfl<|L.move rfl<|L.eqlD rfl rfl (fun h124=>?_) (fun hF=>absurd hF (by decide));refine L.pickT rfl rfl<|L.move rfl<|L.move rfl<|L.eqlD rfl rfl (fun h128=>?_) (fun hF=>absurd hF (by decide));refine L.pickT rfl rfl<|L.move rfl<|L.move rfl<|L.eqlD rfl rfl (fun h132=>?_) (fun hF=>absurd hF (by decide));refine L.pickT rfl rfl<|L.move rfl<|L.move rfl<|L.eqlD rfl rfl (fun h136=>?_) (fun hF=>absurd hF (by decide));refine L.pickT rfl rfl<|L.move rfl<|L.move rfl<|L.eqlD rfl rfl (fun h140=>?_) (fun hF=>absurd hF (by decide));refine L.pickT rfl rfl<|L.move rfl<|L.move rfl<|L.eqlD rfl rfl (fun h144=>?_) (fun hF=>absurd hF (by decide))
  refine L.pickT rfl rfl<|L.move rfl<|L.move rfl<|WL.call rfl rfl F14.fn rfl (FT.part (seaS b _ awG.1) _ ((Ent.refl _)) fun g gS dj=>aw_c9 b _) ?_;rintro _ _ ⟨_,⟨rfl,rfl⟩,rfl⟩;refine L.eqlD rfl rfl (fun h149=>?_) (fun hF=>absurd hF (by decide));refine L.pickT rfl rfl<|L.move rfl<|L.fieldAddr (o':=1) T63.f1 rfl rfl<|L.load T3.sc rfl (Rd.own 10 rfl rfl)<|L.eqlD rfl rfl (fun h154=>?_) (fun hF=>absurd hF (by decide));refine L.pickT rfl rfl<|L.move rfl<|L.fieldAddr (o':=2) T63.f2 rfl rfl<|L.load T61.sc rfl (Rd.own 10 rfl rfl)<|L.indexS T61.sl rfl rfl (by omega)<|L.load T60.sc rfl (Rd.rowsV 11 rfl rfl 2 (by decide)) ?_
  rw[hx2]
  refine L.indexS T60.sl rfl rfl (by omega)<|L.load T5.sc rfl (Rd.rowsVB 11 rfl 2 (by decide) hx2 2 (by decide))<|L.eql rfl rfl<|L.pickT rfl rfl<|L.assign rfl<|WL.nil<|WP.ret<|X.ret rfl (Res.one rfl rfl) ?_
  show _=_
  rw[decide_eq_true (by decide)]
end
end Go.Eng
