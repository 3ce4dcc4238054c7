/- Walks of the functions of the seat over those rules, and plain laws of what they compute. No conditions beyond those in each theorem. -/
import Derived.Test.YtclhjichmdjlaaaGreatSNF
import Derived.Test.YtclhjichmdjlaaaGreatSD
import Derived.Test.YtclhjichmdjlaaaGreatSK
import Derived.Test.YtclhjichmdjlaaaGreatSJ
import Derived.ProofKit
import Derived.OpenShut
import Derived.SizedLaws
import Derived.Deep.Slices
set_option linter.unusedSimpArgs false
set_option linter.unusedVariables false
namespace Go.Proofs.YtclhjichmdjlaaaGreat
open Go.ChangeShapes Go.WideShapes Go.ChangeAt Go.RowKit Go.WideElems
section
variable {H:Type} {enc:TypeId × Value→H} {P:Program} {w:World} {base:Nat} {spare:Nat→Bool} {held:Bool}
def Light (P:Program) (t:TypeId) (d:DataW H):Prop:=∀ n∈d.weights P t,n≤reachBytes
theorem each_mem:∀ (ts:List TypeId) (ds:List (DataW H)) (i:Nat) (t:TypeId) (d:DataW H),ts[i]?=some t→ds[i]?=some d→∀ n∈d.weights P t,n∈DataW.weightsEach P ts ds
  | [],_,i,t,d,h,_,n,hn=>by simp at h
  | _::_,[],i,t,d,_,h,n,hn=>by simp at h
  | a::ts,b::ds,0,t,d,h1,h2,n,hn=>by
    simp at h1 h2
    subst h1 h2
    unfold DataW.weightsEach
    exact List.mem_append_left _ hn
  | a::ts,b::ds,i+1,t,d,h1,h2,n,hn=>by
    unfold DataW.weightsEach
    exact List.mem_append_right _ (each_mem ts ds i t d (by simpa using h1) (by simpa using h2) n hn)
theorem all_mem:∀ (e:TypeId) (ds:List (DataW H)) (i:Nat) (d:DataW H),ds[i]?=some d→∀ n∈d.weights P e,n∈DataW.weightsAll P e ds
  | _,[],i,d,h,n,hn=>by simp at h
  | e,b::ds,0,d,h,n,hn=>by
    simp at h
    subst h
    unfold DataW.weightsAll
    exact List.mem_append_left _ hn
  | e,b::ds,i+1,d,h,n,hn=>by
    unfold DataW.weightsAll
    exact List.mem_append_right _ (all_mem e ds i d (by simpa using h) n hn)
theorem open_structW {t:TypeId} {fs:Array Field} {fuel:Nat} {cs:List Value} {x:DataW H × List MemPlace} (ht:P.underlying t=some (.struct fs)) (h:DataW.trod enc P w base spare held fuel t cs=some x) (hw:Light P t x.1) :
    cs.length=P.cellsOf t∧∀ (i:Nat) (f:Field),fs[i]?=some f→(cs.drop f.offset).take (P.cellsOf f.type)=(cs.drop f.offset).take (P.cellsOf f.type)∧∃ n y,DataW.trod enc P w base spare held n f.type ((cs.drop f.offset).take (P.cellsOf f.type))=some y∧Light P f.type y.1:=by
  obtain⟨xs,n,_,rfl,hl,hxl,hi⟩:=DataW.trod_struct ht h
  refine⟨hl,fun i f hf=>⟨rfl,?_⟩⟩
  have h1:=hi i f hf
  have hlt:i<xs.length:=by
   have:=(Array.getElem?_eq_some_iff.1 hf).1
   omega
  rw[List.getElem?_eq_getElem hlt] at h1
  refine⟨n,xs[i],h1,fun m hm=>hw m ?_⟩
  show m∈DataW.weights P t (.agg (xs.map (·.1)))
  unfold DataW.weights
  rw[ht]
  refine each_mem _ _ i f.type xs[i].1 ?_ ?_ m hm
  · rw[List.getElem?_map,Array.getElem?_toList,hf];rfl
  · rw[List.getElem?_map,List.getElem?_eq_getElem hlt];rfl
theorem open_sliceW {t e:TypeId} {fuel:Nat} {cs:List Value} {x:DataW H × List MemPlace} (ht:P.underlying t=some (.slice e)) (h:DataW.trod enc P w base spare held fuel t cs=some x) (hw:Light P t x.1) :
    cs=[.slice none 0 0]∨∃ (a:Addr) (len cap:Nat),cs=[.slice (some a) len cap]∧len≤cap∧len*P.bytesOf e≤reachBytes∧
     ∀ i,i<len→∃ (cs':List Value) (n:Nat) (y:DataW H × List MemPlace),cs'.length=P.cellsOf e∧(∀ j,j<P.cellsOf e→w.cell? (a.add (i*P.cellsOf e+j))=cs'[j]?)∧DataW.trod enc P w base spare held n e cs'=some y∧Light P e y.1:=by
  rcases Go.Deep.open_slice ht h with ⟨h0,_⟩ | ⟨a,len,cap,m,n,D,Pl,rfl,_,hl,_,hm,rfl,hx⟩
  · exact .inl h0
  right
  have hlm:len≤m:=by rw[hm];split <;> omega
  have hW:∀ q,q∈((((List.range len).map D).length+((List.range (m-len)).map fun j=>D (len+j)).length)*P.bytesOf e::(DataW.weightsAll P e ((List.range len).map D)++DataW.weightsAll P e ((List.range (m-len)).map fun j=>D (len+j))))→q≤reachBytes:=fun q hq=>hw q (by
   show q∈DataW.weights P t (.slice ((List.range len).map D) ((List.range (m-len)).map fun j=>D (len+j)))
   unfold DataW.weights
   rw[ht]
   exact hq)
  refine⟨a,len,cap,rfl,hl,?_,fun i hi=>?_⟩
  · have h1:=hW _ List.mem_cons_self
    rw[List.length_map,List.length_range] at h1
    refine Nat.le_trans (Nat.mul_le_mul_right _ (Nat.le_add_right _ _)) h1
  · obtain⟨cs',h1,h2⟩:=hx i (by omega)
    obtain⟨_,hlen,hcell⟩:=World.cells?_some h1
    refine⟨cs',n,_,hlen,fun j hj=>?_,h2,fun q hq=>hW q (List.mem_cons_of_mem _ (List.mem_append_left _ (all_mem e _ i (D i) ?_ q hq)))⟩
    · have:=hcell j hj
      rwa [Go.Deep.add_add] at this
    · rw[List.getElem?_map,List.getElem?_range hi];rfl
theorem sl_of {α:Type} (d:α) {a:Addr} {len cap sz:Nat} (F:α→List Value) (hF:∀ x,(F x).length=sz) (hsz:0<sz) (Q:α→Prop) (hl:len≤cap)
    (he:∀ i,i<len→∃ x:α,Q x∧∀ j,j<sz→w.cell? (a.add (i*sz+j))=(F x)[j]?) :
    ∃ l:List α,l.length=len∧(∀ x∈l,Q x)∧Go.Eng.SlAt (fun b=>w.heap[b]?) sz (.slice (some a) len cap) len (fun k=>(F (l.getD (k/sz) d)).getD (k%sz) undef):=by
  haveI:Inhabited α:=⟨d⟩
  obtain⟨g,hg⟩:=Go.Deep.choose_lt he
  have hgl:∀ i,i<len→((List.range len).map g).getD i d=g i:=fun i hi=>by
   rw[List.getD_eq_getElem?_getD,List.getElem?_map,List.getElem?_range hi];rfl
  refine⟨(List.range len).map g,by simp,fun x hx=>?_,some a,cap,rfl,hl,fun e=>(by cases e),fun hp=>?_⟩
  · obtain⟨i,hi,rfl⟩:=List.mem_map.1 hx
    exact (hg i (List.mem_range.1 hi)).1
  · obtain⟨b,o,sp⟩:=a
    have h0:=(hg 0 hp).2 0 hsz
    have hf0:(F (g 0))[0]?=some ((F (g 0))[0]'(by rw[hF];exact hsz)):=List.getElem?_eq_getElem _
    rw[hf0] at h0
    have hs:sp=none:=by simpa [Addr.add] using World.cell?_spot h0
    subst hs
    refine⟨b,o,rfl,fun k hk=>?_⟩
    have hm:k%sz<sz:=Nat.mod_lt _ hsz
    have hq:k/sz<len:=(Nat.div_lt_iff_lt_mul hsz).2 hk
    have h1:=(hg (k/sz) hq).2 (k%sz) hm
    rw[Nat.mul_comm,Nat.div_add_mod] at h1
    have h2:(⟨b,o,none⟩:Addr).add k=⟨b,o+k,none⟩:=Go.WideShapes.add_plain b o k
    rw[h2,Go.Eng.cell_of_heap] at h1
    show Go.Eng.cellOf (w.heap[b]?) (o+k)=_
    rw[h1]
    dsimp only
    rw[hgl _ hq,List.getD_eq_getElem?_getD,List.getElem?_eq_getElem (show k%sz<(F (g (k/sz))).length by rw[hF];exact hm)]
    rfl
end
section
variable {H:Type} {enc:TypeId × Value→H} {w:World} {base:Nat} {spare:Nat→Bool} {held:Bool}
abbrev HpW (w:World):Go.Eng.Hp:=fun b=>w.heap[b]?
theorem c5:Go.Eng.Pg.cellsOf 5=1:=by kernel_rfl
theorem c3:Go.Eng.Pg.cellsOf 3=1:=by kernel_rfl
theorem c22:Go.Eng.Pg.cellsOf 22=1:=by kernel_rfl
theorem c9:Go.Eng.Pg.cellsOf 9=1:=by kernel_rfl
theorem c24:Go.Eng.Pg.cellsOf 24=3:=by kernel_rfl
theorem c26:Go.Eng.Pg.cellsOf 26=4:=by kernel_rfl
theorem c27:Go.Eng.Pg.cellsOf 27=1:=by kernel_rfl
theorem c28:Go.Eng.Pg.cellsOf 28=1:=by kernel_rfl
theorem c30:Go.Eng.Pg.cellsOf 30=5:=by kernel_rfl
theorem c32:Go.Eng.Pg.cellsOf 32=11:=by kernel_rfl
theorem c34:Go.Eng.Pg.cellsOf 34=5:=by kernel_rfl
theorem c47:Go.Eng.Pg.cellsOf 47=2:=by kernel_rfl
theorem c48:Go.Eng.Pg.cellsOf 48=1:=by kernel_rfl
theorem c50:Go.Eng.Pg.cellsOf 50=5:=by kernel_rfl
theorem c60:Go.Eng.Pg.cellsOf 60=1:=by kernel_rfl
theorem c93:Go.Eng.Pg.cellsOf 93=2:=by kernel_rfl
theorem b5:Go.Eng.Pg.bytesOf 5=1:=by kernel_rfl
theorem b47:Go.Eng.Pg.bytesOf 47=16:=by kernel_rfl
theorem b50:Go.Eng.Pg.bytesOf 50=56:=by kernel_rfl
theorem b93:Go.Eng.Pg.bytesOf 93=40:=by kernel_rfl
theorem b60:Go.Eng.Pg.bytesOf 60=24:=by kernel_rfl
theorem reach_lt:reachBytes<2^47:=by unfold reachBytes;decide
theorem open_bytesW {fuel:Nat} {v:Value} {x:DataW H × List MemPlace} (h:DataW.trod enc Go.Eng.Pg w base spare held fuel 60 [v]=some x) (hw:Light Go.Eng.Pg 60 x.1) :
    ∃ ls:List Int,Go.Eng.BytesAt (HpW w) v ls∧(∀ s∈ls,Go.Eng.U8 s)∧ls.length<2^47:=by
  rcases open_sliceW Go.Eng.T60.u h hw with hcs | ⟨a,len,cap,hcs,hl,hb,he⟩
  · obtain rfl:v=.slice none 0 0:=by simpa using hcs
    exact⟨[],⟨none,0,rfl,Nat.le_refl _,fun _=>rfl,fun h=>absurd h (by simp)⟩,fun s hs=>(by cases hs),by decide⟩
  · obtain rfl:v=.slice (some a) len cap:=by simpa using hcs
    obtain⟨l,hll,hq,hs⟩:=sl_of (α:=Int) 0 (sz:=1) (fun z=>[Value.int .u8 z]) (fun _=>rfl) (by omega) Go.Eng.U8 hl (fun i hi=>by
     obtain⟨cs',n,y,hlen,hc,ht,_⟩:=he i hi
     obtain⟨z,rfl,_,hz⟩:=DataW.trod_int Go.Eng.T5.u ht
     have:=bounds_u8 hz
     refine⟨z,⟨this.1,by omega⟩,fun j hj=>?_⟩
     have:=hc j (by rw[c5];exact hj)
     rw[c5] at this
     exact this)
    subst hll
    refine⟨l,hs.congr fun i hi=>?_,hq,?_⟩
    · rw[Nat.div_one,Nat.mod_one];rfl
    · have:=reach_lt
      rw[b5] at hb
      omega
set_option maxRecDepth 100000 in
theorem open_term {fuel:Nat} {cs:List Value} {x:DataW H × List MemPlace} (h:DataW.trod enc Go.Eng.Pg w base spare held fuel 47 cs=some x) (hw:Light Go.Eng.Pg 47 x.1) :
    ∃ t:Go.Eng.TermD,cs=[.int .u8 t.state,.int .i64 t.var]∧t.Wd:=by
  obtain⟨hl,hf⟩:=open_structW Go.Eng.T47.u h hw
  rw[c47] at hl
  match cs,hl with
  | [v0,v1],_=>
    obtain⟨_,n0,y0,h0,_⟩:=hf 0 _ rfl
    obtain⟨_,n1,y1,h1,_⟩:=hf 1 _ rfl
    have g0:DataW.trod enc Go.Eng.Pg w base spare held n0 5 (([v0,v1].drop 0).take (Go.Eng.Pg.cellsOf 5))=some y0:=h0
    have g1:DataW.trod enc Go.Eng.Pg w base spare held n1 3 (([v0,v1].drop 1).take (Go.Eng.Pg.cellsOf 3))=some y1:=h1
    rw[c5] at g0
    rw[c3] at g1
    obtain⟨z0,e0,_,w0⟩:=DataW.trod_int Go.Eng.T5.u g0
    obtain⟨z1,e1,_,w1⟩:=DataW.trod_int Go.Eng.T3.u g1
    simp only[List.drop_zero,List.drop_succ_cons,List.take_succ_cons,List.take_zero,List.cons.injEq,and_true] at e0 e1
    subst e0 e1
    have:=bounds_u8 w0
    exact⟨⟨z0,z1⟩,rfl,⟨⟨this.1,by show z0<256;omega⟩,bounds_i64 w1⟩⟩
theorem open_termsW {fuel:Nat} {v:Value} {x:DataW H × List MemPlace} (h:DataW.trod enc Go.Eng.Pg w base spare held fuel 48 [v]=some x) (hw:Light Go.Eng.Pg 48 x.1) :
    ∃ ls:List Go.Eng.TermD,Go.Eng.TermsAt (HpW w) v ls∧(∀ s∈ls,s.Wd)∧ls.length<2^47:=by
  rcases open_sliceW Go.Eng.T48.u h hw with hcs | ⟨a,len,cap,hcs,hl,hb,he⟩
  · obtain rfl:v=.slice none 0 0:=by simpa using hcs
    exact⟨[],⟨none,0,rfl,Nat.le_refl _,fun _=>rfl,fun h=>absurd h (by simp)⟩,fun s hs=>(by cases hs),by decide⟩
  · obtain rfl:v=.slice (some a) len cap:=by simpa using hcs
    obtain⟨l,hll,hq,hs⟩:=sl_of Go.Eng.TermD.no (sz:=2) (fun t=>[Value.int .u8 t.state,.int .i64 t.var]) (fun _=>rfl) (by omega) Go.Eng.TermD.Wd hl (fun i hi=>by
     obtain⟨cs',n,y,hlen,hc,ht,hlw⟩:=he i hi
     obtain⟨t,rfl,hwd⟩:=open_term ht hlw
     refine⟨t,hwd,fun j hj=>?_⟩
     have:=hc j (by rw[c47];exact hj)
     rw[c47] at this
     exact this)
    subst hll
    refine⟨l,hs.congr fun i hi=>?_,hq,?_⟩
    · show _=Go.Eng.termF l i
      unfold Go.Eng.termF
      show ([Value.int .u8 (l.getD (i/2) Go.Eng.TermD.no).state,Value.int .i64 (l.getD (i/2) Go.Eng.TermD.no).var]).getD (i%2) _=_
      rcases Nat.mod_two_eq_zero_or_one i with e | e
      · rw[if_pos e,e];rfl
      · rw[if_neg (by omega),e];rfl
    · have:=reach_lt
      rw[b47] at hb
      omega
theorem open_stringW {fuel:Nat} {v:Value} {x:DataW H × List MemPlace} (h:DataW.trod enc Go.Eng.Pg w base spare held fuel 9 [v]=some x) (hw:Light Go.Eng.Pg 9 x.1):∃ s:ByteArray,v=.string s∧s.size≤4611686018427387904:=by
  obtain⟨s,hcs,rfl,_⟩:=DataW.trod_string Go.Eng.T9.u h
  obtain rfl:v=.string s:=by simpa using hcs
  refine⟨s,rfl,?_⟩
  have h1:s.data.toList.length≤reachBytes:=hw _ (by
   show _∈DataW.weights Go.Eng.Pg 9 (.lit (.string s.data.toList))
   unfold DataW.weights
   exact List.mem_singleton.2 rfl)
  have h2:s.data.toList.length=s.size:=by show s.data.toList.length=s.data.size;simp
  have:=reach_lt
  omega
set_option maxRecDepth 100000 in
theorem open_varsW {fuel:Nat} {v:Value} {x:DataW H × List MemPlace} (h:DataW.trod enc Go.Eng.Pg w base spare held fuel 27 [v]=some x) (hw:Light Go.Eng.Pg 27 x.1) :
    ∃ ls:List Go.Eng.VarD,Go.Eng.VarsAt (HpW w) v ls∧(∀ x∈ls,(∀ s∈x.states,Go.Eng.U8 s)∧x.states.length<2^47∧x.name.size≤4611686018427387904)∧ls.length<2^47:=by
  rcases open_sliceW Go.Eng.T27.u h hw with hcs | ⟨a,len,cap,hcs,hl,hb,he⟩
  · obtain rfl:v=.slice none 0 0:=by simpa using hcs
    exact⟨[],⟨fun _=>undef,⟨none,0,rfl,Nat.le_refl _,fun _=>rfl,fun h=>absurd h (by simp)⟩,fun i hi=>absurd hi (by simp)⟩,fun s hs=>(by cases hs),by decide⟩
  · obtain rfl:v=.slice (some a) len cap:=by simpa using hcs
    obtain⟨l,hll,hq,hs⟩:=sl_of (Go.Eng.VarD.no,undef) (sz:=2) (fun t:Go.Eng.VarD × Value=>[Value.string t.1.name,t.2]) (fun _=>rfl) (by omega)
     (fun t=>Go.Eng.BytesAt (HpW w) t.2 t.1.states∧(∀ s∈t.1.states,Go.Eng.U8 s)∧t.1.states.length<2^47∧t.1.name.size≤4611686018427387904) hl (fun i hi=>by
     obtain⟨cs',n,y,hlen,hc,ht,hlw⟩:=he i hi
     obtain⟨_,hf⟩:=open_structW Go.Eng.T93.u ht hlw
     rw[c93] at hlen
     match cs',hlen with
     | [v0,v1],_=>
       obtain⟨_,n0,y0,h0,l0⟩:=hf 0 _ rfl
       obtain⟨_,n1,y1,h1,l1⟩:=hf 1 _ rfl
       have g0:DataW.trod enc Go.Eng.Pg w base spare held n0 9 (([v0,v1].drop 0).take (Go.Eng.Pg.cellsOf 9))=some y0:=h0
       have g1:DataW.trod enc Go.Eng.Pg w base spare held n1 60 (([v0,v1].drop 1).take (Go.Eng.Pg.cellsOf 60))=some y1:=h1
       rw[c9] at g0
       rw[c60] at g1
       obtain⟨s,rfl,hsz⟩:=open_stringW g0 l0
       obtain⟨zs,hz,hu,hlz⟩:=open_bytesW g1 l1
       refine⟨(⟨s,zs⟩,v1),⟨hz,hu,hlz,hsz⟩,fun j hj=>?_⟩
       have:=hc j (by rw[c93];exact hj)
       rw[c93] at this
       exact this)
    subst hll
    refine⟨l.map (·.1),⟨fun i=>(l.getD i (Go.Eng.VarD.no,undef)).2,?_,fun i hi=>?_⟩,fun q hq2=>?_,?_⟩
    · rw[List.length_map]
      refine hs.congr fun i hi=>?_
      show _=Go.Eng.varF _ _ i
      unfold Go.Eng.varF
      rw[show (l.map (·.1)).getD (i/2) Go.Eng.VarD.no=(l.getD (i/2) (Go.Eng.VarD.no,undef)).1 from Go.Eng.getD_map _ l (i/2) (Go.Eng.VarD.no,undef)]
      show ([Value.string (l.getD (i/2) (Go.Eng.VarD.no,undef)).1.name,(l.getD (i/2) (Go.Eng.VarD.no,undef)).2]).getD (i%2) _=_
      rcases Nat.mod_two_eq_zero_or_one i with e | e
      · rw[if_pos e,e];rfl
      · rw[if_neg (by omega),e];rfl
    · rw[List.length_map] at hi
      rw[show (l.map (·.1)).getD i Go.Eng.VarD.no=(l.getD i (Go.Eng.VarD.no,undef)).1 from Go.Eng.getD_map _ l i (Go.Eng.VarD.no,undef)]
      exact (hq _ (Go.Eng.getD_mem hi)).1
    · obtain⟨p,hp,rfl⟩:=List.mem_map.1 hq2
      exact (hq p hp).2
    · rw[List.length_map]
      have:=reach_lt
      rw[b93] at hb
      omega
set_option maxRecDepth 100000 in
theorem open_rowsW {fuel:Nat} {v:Value} {x:DataW H × List MemPlace} (h:DataW.trod enc Go.Eng.Pg w base spare held fuel 28 [v]=some x) (hw:Light Go.Eng.Pg 28 x.1) :
    ∃ ls:List Go.Eng.TransD,Go.Eng.RowsAt (HpW w) v ls∧(∀ x∈ls,x.centre.Wd∧x.out.Wd∧(∀ a∈x.around,a.Wd)∧x.around.length<2^47)∧ls.length<2^47:=by
  rcases open_sliceW Go.Eng.T28.u h hw with hcs | ⟨a,len,cap,hcs,hl,hb,he⟩
  · obtain rfl:v=.slice none 0 0:=by simpa using hcs
    exact⟨[],⟨fun _=>undef,⟨none,0,rfl,Nat.le_refl _,fun _=>rfl,fun h=>absurd h (by simp)⟩,fun i hi=>absurd hi (by simp)⟩,fun s hs=>(by cases hs),by decide⟩
  · obtain rfl:v=.slice (some a) len cap:=by simpa using hcs
    obtain⟨l,hll,hq,hs⟩:=sl_of (Go.Eng.TransD.no,undef) (sz:=5) (fun t:Go.Eng.TransD × Value=>Go.Eng.rowC t.1 t.2) (fun _=>rfl) (by omega)
     (fun t=>Go.Eng.TermsAt (HpW w) t.2 t.1.around∧t.1.centre.Wd∧t.1.out.Wd∧(∀ a∈t.1.around,a.Wd)∧t.1.around.length<2^47) hl (fun i hi=>by
     obtain⟨cs',n,y,hlen,hc,ht,hlw⟩:=he i hi
     obtain⟨_,hf⟩:=open_structW Go.Eng.T50.u ht hlw
     rw[c50] at hlen
     match cs',hlen with
     | [v0,v1,v2,v3,v4],_=>
       obtain⟨_,n0,y0,h0,l0⟩:=hf 0 _ rfl
       obtain⟨_,n1,y1,h1,l1⟩:=hf 1 _ rfl
       obtain⟨_,n2,y2,h2,l2⟩:=hf 2 _ rfl
       have g0:DataW.trod enc Go.Eng.Pg w base spare held n0 47 (([v0,v1,v2,v3,v4].drop 0).take (Go.Eng.Pg.cellsOf 47))=some y0:=h0
       have g1:DataW.trod enc Go.Eng.Pg w base spare held n1 48 (([v0,v1,v2,v3,v4].drop 2).take (Go.Eng.Pg.cellsOf 48))=some y1:=h1
       have g2:DataW.trod enc Go.Eng.Pg w base spare held n2 47 (([v0,v1,v2,v3,v4].drop 3).take (Go.Eng.Pg.cellsOf 47))=some y2:=h2
       rw[c47] at g0 g2
       rw[c48] at g1
       obtain⟨tc,ec,wc⟩:=open_term g0 l0
       obtain⟨to,eo,wo⟩:=open_term g2 l2
       obtain⟨zs,hz,hu,hlz⟩:=open_termsW g1 l1
       simp only[List.drop_zero,List.drop_succ_cons,List.take_succ_cons,List.take_zero,List.cons.injEq,and_true] at ec eo
       obtain⟨rfl,rfl⟩:=ec
       obtain⟨rfl,rfl⟩:=eo
       refine⟨(⟨tc,zs,to⟩,v2),⟨hz,wc,wo,hu,hlz⟩,fun j hj=>?_⟩
       have:=hc j (by rw[c50];exact hj)
       rw[c50] at this
       exact this)
    subst hll
    refine⟨l.map (·.1),⟨fun i=>(l.getD i (Go.Eng.TransD.no,undef)).2,?_,fun i hi=>?_⟩,fun q hq2=>?_,?_⟩
    · rw[List.length_map]
      refine hs.congr fun i hi=>?_
      have e1:i=i/5*5+i%5:=by omega
      have h5:i%5<5:=by omega
      have e2:=Go.Eng.rowF_get (fun i=>(l.getD i (Go.Eng.TransD.no,undef)).2) (l.map (·.1)) (i/5) (i%5) h5
      rw[← e1] at e2
      rw[e2]
      rw[List.getD_eq_getElem?_getD,List.getElem?_eq_getElem (show i%5<(Go.Eng.rowC (l.getD (i/5) (Go.Eng.TransD.no,undef)).1 (l.getD (i/5) (Go.Eng.TransD.no,undef)).2).length from h5),Option.getD_some]
      congr 1
      rw[show (l.map (·.1)).getD (i/5) Go.Eng.TransD.no=(l.getD (i/5) (Go.Eng.TransD.no,undef)).1 from Go.Eng.getD_map _ l (i/5) (Go.Eng.TransD.no,undef)]
    · rw[List.length_map] at hi
      rw[show (l.map (·.1)).getD i Go.Eng.TransD.no=(l.getD i (Go.Eng.TransD.no,undef)).1 from Go.Eng.getD_map _ l i (Go.Eng.TransD.no,undef)]
      exact (hq _ (Go.Eng.getD_mem hi)).1
    · obtain⟨p,hp,rfl⟩:=List.mem_map.1 hq2
      exact (hq p hp).2
    · rw[List.length_map]
      have:=reach_lt
      rw[b50] at hb
      omega
theorem five {α:Type} {l:List α} (h:l.length=5):∃ a b c d e,l=[a,b,c,d,e]:=by
  match l,h with
  | [a,b,c,d,e],_=>exact⟨a,b,c,d,e,rfl⟩
set_option maxRecDepth 100000 in
theorem open_topoW {fuel:Nat} {cs:List Value} {x:DataW H × List MemPlace} (h:DataW.trod enc Go.Eng.Pg w base spare held fuel 34 cs=some x) (hw:Light Go.Eng.Pg 34 x.1) :
    ∃ t:Go.Eng.TopoD,cs=Go.Eng.topoC t∧t.Wd:=by
  obtain⟨hl,hf⟩:=open_structW Go.Eng.T34.u h hw
  rw[c34] at hl
  obtain⟨a0,a1,a2,a3,a4,rfl⟩:=five hl
  obtain⟨_,n0,y0,h0,_⟩:=hf 0 _ rfl
  obtain⟨_,n1,y1,h1,_⟩:=hf 1 _ rfl
  obtain⟨_,n2,y2,h2,_⟩:=hf 2 _ rfl
  obtain⟨_,n3,y3,h3,_⟩:=hf 3 _ rfl
  obtain⟨_,n4,y4,h4,_⟩:=hf 4 _ rfl
  have g0:DataW.trod enc Go.Eng.Pg w base spare held n0 5 (([a0,a1,a2,a3,a4].drop 0).take (Go.Eng.Pg.cellsOf 5))=some y0:=h0
  have g1:DataW.trod enc Go.Eng.Pg w base spare held n1 3 (([a0,a1,a2,a3,a4].drop 1).take (Go.Eng.Pg.cellsOf 3))=some y1:=h1
  have g2:DataW.trod enc Go.Eng.Pg w base spare held n2 3 (([a0,a1,a2,a3,a4].drop 2).take (Go.Eng.Pg.cellsOf 3))=some y2:=h2
  have g3:DataW.trod enc Go.Eng.Pg w base spare held n3 5 (([a0,a1,a2,a3,a4].drop 3).take (Go.Eng.Pg.cellsOf 5))=some y3:=h3
  have g4:DataW.trod enc Go.Eng.Pg w base spare held n4 3 (([a0,a1,a2,a3,a4].drop 4).take (Go.Eng.Pg.cellsOf 3))=some y4:=h4
  rw[c5] at g0 g3
  rw[c3] at g1 g2 g4
  obtain⟨z0,e0,_,w0⟩:=DataW.trod_int Go.Eng.T5.u g0
  obtain⟨z1,e1,_,w1⟩:=DataW.trod_int Go.Eng.T3.u g1
  obtain⟨z2,e2,_,w2⟩:=DataW.trod_int Go.Eng.T3.u g2
  obtain⟨z3,e3,_,w3⟩:=DataW.trod_int Go.Eng.T5.u g3
  obtain⟨z4,e4,_,w4⟩:=DataW.trod_int Go.Eng.T3.u g4
  simp only[List.drop_zero,List.drop_succ_cons,List.take_succ_cons,List.take_zero,List.cons.injEq,and_true] at e0 e1 e2 e3 e4
  subst e0 e1 e2 e3 e4
  have b0:=bounds_u8 w0
  have b3:=bounds_u8 w3
  exact⟨⟨z0,z1,z2,z3,z4⟩,rfl,⟨⟨b0.1,by show z0<256;omega⟩,bounds_i64 w1,bounds_i64 w2,⟨b3.1,by show z3<256;omega⟩,bounds_i64 w4⟩⟩
set_option maxRecDepth 100000 in
theorem open_lifeW {fuel:Nat} {cs:List Value} {x:DataW H × List MemPlace} (h:DataW.trod enc Go.Eng.Pg w base spare held fuel 24 cs=some x) (hw:Light Go.Eng.Pg 24 x.1) :
    ∃ l:Go.Eng.LifeD,cs=Go.Eng.lifeC l∧Go.Eng.U8 l.hood∧Go.Eng.U16 l.born∧Go.Eng.U16 l.stay:=by
  obtain⟨hl,hf⟩:=open_structW Go.Eng.T24.u h hw
  rw[c24] at hl
  match cs,hl with
  | [a0,a1,a2],_=>
    obtain⟨_,n0,y0,h0,_⟩:=hf 0 _ rfl
    obtain⟨_,n1,y1,h1,_⟩:=hf 1 _ rfl
    obtain⟨_,n2,y2,h2,_⟩:=hf 2 _ rfl
    have g0:DataW.trod enc Go.Eng.Pg w base spare held n0 5 (([a0,a1,a2].drop 0).take (Go.Eng.Pg.cellsOf 5))=some y0:=h0
    have g1:DataW.trod enc Go.Eng.Pg w base spare held n1 22 (([a0,a1,a2].drop 1).take (Go.Eng.Pg.cellsOf 22))=some y1:=h1
    have g2:DataW.trod enc Go.Eng.Pg w base spare held n2 22 (([a0,a1,a2].drop 2).take (Go.Eng.Pg.cellsOf 22))=some y2:=h2
    rw[c5] at g0
    rw[c22] at g1 g2
    obtain⟨z0,e0,_,w0⟩:=DataW.trod_int Go.Eng.T5.u g0
    obtain⟨z1,e1,_,w1⟩:=DataW.trod_int Go.Eng.T22.u g1
    obtain⟨z2,e2,_,w2⟩:=DataW.trod_int Go.Eng.T22.u g2
    simp only[List.drop_zero,List.drop_succ_cons,List.take_succ_cons,List.take_zero,List.cons.injEq,and_true] at e0 e1 e2
    subst e0 e1 e2
    have b0:=bounds_u8 w0
    have b1:=bounds_u16 w1
    have b2:=bounds_u16 w2
    exact⟨⟨z0,z1,z2⟩,rfl,⟨b0.1,by show z0<256;omega⟩,⟨b1.1,by show z1<65536;omega⟩,⟨b2.1,by show z2<65536;omega⟩⟩
set_option maxRecDepth 100000 in
theorem open_ruleW {fuel:Nat} {cs:List Value} {x:DataW H × List MemPlace} (h:DataW.trod enc Go.Eng.Pg w base spare held fuel 32 cs=some x) (hw:Light Go.Eng.Pg 32 x.1) :
    ∃ (r:Go.Eng.RuleD) (v u:Value),cs=Go.Eng.ruleC r v u∧r.Wd∧Go.Eng.TabAt (HpW w) r.table v u:=by
  obtain⟨hl,hf⟩:=open_structW Go.Eng.T32.u h hw
  rw[c32] at hl
  match cs,hl with
  | [a0,a1,a2,a3,a4,a5,a6,a7,a8,a9,a10],_=>
    obtain⟨_,n0,y0,h0,l0⟩:=hf 0 _ rfl
    obtain⟨_,n1,y1,h1,l1⟩:=hf 1 _ rfl
    obtain⟨_,n2,y2,h2,l2⟩:=hf 2 _ rfl
    obtain⟨_,n3,y3,h3,l3⟩:=hf 3 _ rfl
    have g0:DataW.trod enc Go.Eng.Pg w base spare held n0 5 (([a0,a1,a2,a3,a4,a5,a6,a7,a8,a9,a10].drop 0).take (Go.Eng.Pg.cellsOf 5))=some y0:=h0
    have g1:DataW.trod enc Go.Eng.Pg w base spare held n1 26 (([a0,a1,a2,a3,a4,a5,a6,a7,a8,a9,a10].drop 1).take (Go.Eng.Pg.cellsOf 26))=some y1:=h1
    have g2:DataW.trod enc Go.Eng.Pg w base spare held n2 9 (([a0,a1,a2,a3,a4,a5,a6,a7,a8,a9,a10].drop 5).take (Go.Eng.Pg.cellsOf 9))=some y2:=h2
    have g3:DataW.trod enc Go.Eng.Pg w base spare held n3 30 (([a0,a1,a2,a3,a4,a5,a6,a7,a8,a9,a10].drop 6).take (Go.Eng.Pg.cellsOf 30))=some y3:=h3
    rw[c5] at g0
    rw[c26] at g1
    rw[c9] at g2
    rw[c30] at g3
    obtain⟨z0,e0,_,w0⟩:=DataW.trod_int Go.Eng.T5.u g0
    obtain⟨nm,rfl,hnm⟩:=open_stringW g2 l2
    obtain⟨_,hg⟩:=open_structW Go.Eng.T26.u g1 l1
    obtain⟨_,m0,p0,q0,r0⟩:=hg 0 _ rfl
    obtain⟨_,m1,p1,q1,r1⟩:=hg 1 _ rfl
    have k0:DataW.trod enc Go.Eng.Pg w base spare held m0 24 (([a1,a2,a3,a4].drop 0).take (Go.Eng.Pg.cellsOf 24))=some p0:=q0
    have k1:DataW.trod enc Go.Eng.Pg w base spare held m1 3 (([a1,a2,a3,a4].drop 3).take (Go.Eng.Pg.cellsOf 3))=some p1:=q1
    rw[c24] at k0
    rw[c3] at k1
    obtain⟨lf,elf,wl0,wl1,wl2⟩:=open_lifeW k0 r0
    obtain⟨zg,eg,_,wg⟩:=DataW.trod_int Go.Eng.T3.u k1
    obtain⟨_,ht⟩:=open_structW Go.Eng.T30.u g3 l3
    obtain⟨_,i0,s0,t0,_⟩:=ht 0 _ rfl
    obtain⟨_,i1,s1,t1,_⟩:=ht 1 _ rfl
    obtain⟨_,i2,s2,t2,_⟩:=ht 2 _ rfl
    obtain⟨_,i3,s3,t3,u3⟩:=ht 3 _ rfl
    obtain⟨_,i4,s4,t4,u4⟩:=ht 4 _ rfl
    have f0:DataW.trod enc Go.Eng.Pg w base spare held i0 3 (([a6,a7,a8,a9,a10].drop 0).take (Go.Eng.Pg.cellsOf 3))=some s0:=t0
    have f1:DataW.trod enc Go.Eng.Pg w base spare held i1 5 (([a6,a7,a8,a9,a10].drop 1).take (Go.Eng.Pg.cellsOf 5))=some s1:=t1
    have f2:DataW.trod enc Go.Eng.Pg w base spare held i2 5 (([a6,a7,a8,a9,a10].drop 2).take (Go.Eng.Pg.cellsOf 5))=some s2:=t2
    have f3:DataW.trod enc Go.Eng.Pg w base spare held i3 27 (([a6,a7,a8,a9,a10].drop 3).take (Go.Eng.Pg.cellsOf 27))=some s3:=t3
    have f4:DataW.trod enc Go.Eng.Pg w base spare held i4 28 (([a6,a7,a8,a9,a10].drop 4).take (Go.Eng.Pg.cellsOf 28))=some s4:=t4
    rw[c3] at f0
    rw[c5] at f1 f2
    rw[c27] at f3
    rw[c28] at f4
    obtain⟨zs,es,_,ws⟩:=DataW.trod_int Go.Eng.T3.u f0
    obtain⟨zh,eh,_,wh⟩:=DataW.trod_int Go.Eng.T5.u f1
    obtain⟨zy,ey,_,wy⟩:=DataW.trod_int Go.Eng.T5.u f2
    obtain⟨vl,hvl,hvw,hvn⟩:=open_varsW f3 u3
    obtain⟨rl,hrl,hrw,hrn⟩:=open_rowsW f4 u4
    simp only[List.drop_zero,List.drop_succ_cons,List.take_succ_cons,List.take_zero,List.cons.injEq,and_true] at e0 elf eg es eh ey
    obtain⟨rfl,rfl,rfl⟩:=elf
    subst e0 eg es eh ey
    have b0:=bounds_u8 w0
    have bh:=bounds_u8 wh
    have by_:=bounds_u8 wy
    exact⟨⟨z0,lf,zg,nm,⟨zs,zh,zy,vl,rl⟩⟩,a9,a10,rfl,
     ⟨hnm,⟨b0.1,by show z0<256;omega⟩,wl0,wl1,wl2,bounds_i64 wg,⟨bounds_i64 ws,⟨bh.1,by show zh<256;omega⟩,⟨by_.1,by show zy<256;omega⟩,hvw,hrw,hvn,hrn⟩⟩,hvl,hrl⟩
end
end Go.Proofs.YtclhjichmdjlaaaGreat
namespace Go.Proofs.YtclhjichmdjlaaaGreat
open Go.ChangeShapes Go.WideShapes Go.ChangeAt Go.RowKit Go.WideElems
section
variable {H:Type} {enc:TypeId × Value→H} {w:World} {base:Nat} {spare:Nat→Bool} {held:Bool}
theorem c61:Go.Eng.Pg.cellsOf 61=1:=by kernel_rfl
theorem c63:Go.Eng.Pg.cellsOf 63=3:=by kernel_rfl
theorem open_listZ {fuel:Nat} {v:Value} {x:DataW H × List MemPlace} (h:DataW.trod enc Go.Eng.Pg w base spare held fuel 61 [v]=some x) (hw:Light Go.Eng.Pg 61 x.1) :
    ∃ R:List ByteArray,Go.Eng.BtsAt (HpW w) v R∧R.length<2^47∧∀ i,i<R.length→(R.getD i ByteArray.empty).size<2^47:=by
  rcases open_sliceW Go.Eng.T61.u h hw with hcs | ⟨a,len,cap,hcs,hl,hb,he⟩
  · obtain rfl:v=.slice none 0 0:=by simpa using hcs
    exact⟨[],⟨[],⟨none,0,rfl,Nat.le_refl _,fun _=>rfl,fun h=>absurd h (by simp)⟩,fun i hi=>absurd hi (by simp)⟩,by decide,fun i hi=>absurd hi (by simp)⟩
  · obtain rfl:v=.slice (some a) len cap:=by simpa using hcs
    obtain⟨l,hll,hq,hs⟩:=sl_of (ByteArray.empty,undef) (sz:=1) (fun t:ByteArray × Value=>[t.2]) (fun _=>rfl) (by omega) (fun t=>Go.Eng.BytesAt (HpW w) t.2 (Go.Eng.intsB t.1)∧t.1.size<2^47) hl (fun i hi=>by
     obtain⟨cs',n,y,hlen,hc,ht,hlw⟩:=he i hi
     rw[c60] at hlen
     match cs',hlen with
     | [v0],_=>
       obtain⟨zs,hz,hu,hlz⟩:=open_bytesW ht hlw
       have hit:=Go.Eng.intsB_textOf zs fun s hs=>by have:=hu s hs;unfold Go.Eng.U8 at this;omega
       refine⟨(Go.Eng.textOf zs,v0),⟨?_,?_⟩,fun j hj=>?_⟩
       · show Go.Eng.BytesAt (HpW w) v0 (Go.Eng.intsB (Go.Eng.textOf zs))
         rw[hit]
         exact hz
       · show (Go.Eng.textOf zs).size<2^47
         rw[← Go.Eng.intsB_len,hit]
         exact hlz
       · have:=hc j (by rw[c60];exact hj)
         rw[c60] at this
         exact this)
    subst hll
    refine⟨l.map (·.1),⟨l.map (·.2),?_,fun i hi=>?_⟩,?_,fun i hi=>?_⟩
    · rw[List.length_map]
      refine hs.congr fun i hi=>?_
      rw[show (l.map (·.2)).getD i undef=(l.getD i (ByteArray.empty,undef)).2 from Go.Eng.getD_map _ l i (ByteArray.empty,undef),Nat.div_one,Nat.mod_one]
      rfl
    · rw[List.length_map] at hi
      rw[show (l.map (·.2)).getD i undef=(l.getD i (ByteArray.empty,undef)).2 from Go.Eng.getD_map _ l i (ByteArray.empty,undef),
       show (l.map (·.1)).getD i ByteArray.empty=(l.getD i (ByteArray.empty,undef)).1 from Go.Eng.getD_map _ l i (ByteArray.empty,undef)]
      exact (hq _ (Go.Eng.getD_mem hi)).1
    · rw[List.length_map]
      have:=reach_lt
      rw[b60] at hb
      omega
    · rw[List.length_map] at hi
      rw[show (l.map (·.1)).getD i ByteArray.empty=(l.getD i (ByteArray.empty,undef)).1 from Go.Eng.getD_map _ l i (ByteArray.empty,undef)]
      exact (hq _ (Go.Eng.getD_mem hi)).2
set_option maxRecDepth 100000 in
theorem open_bandW {fuel:Nat} {cs:List Value} {x:DataW H × List MemPlace} (h:DataW.trod enc Go.Eng.Pg w base spare held fuel 63 cs=some x) (hw:Light Go.Eng.Pg 63 x.1) :
    ∃ (W at0:Int) (v:Value) (R:List ByteArray),cs=[.int .i64 W,.int .i64 at0,v]∧Go.Eng.BtsAt (HpW w) v R∧R.length<2^47∧∀ i,i<R.length→(R.getD i ByteArray.empty).size<2^47:=by
  obtain⟨hl,hf⟩:=open_structW Go.Eng.T63.u h hw
  rw[c63] at hl
  match cs,hl with
  | [a0,a1,a2],_=>
    obtain⟨_,n0,y0,h0,_⟩:=hf 0 _ rfl
    obtain⟨_,n1,y1,h1,_⟩:=hf 1 _ rfl
    obtain⟨_,n2,y2,h2,l2⟩:=hf 2 _ rfl
    have g0:DataW.trod enc Go.Eng.Pg w base spare held n0 3 (([a0,a1,a2].drop 0).take (Go.Eng.Pg.cellsOf 3))=some y0:=h0
    have g1:DataW.trod enc Go.Eng.Pg w base spare held n1 3 (([a0,a1,a2].drop 1).take (Go.Eng.Pg.cellsOf 3))=some y1:=h1
    have g2:DataW.trod enc Go.Eng.Pg w base spare held n2 61 (([a0,a1,a2].drop 2).take (Go.Eng.Pg.cellsOf 61))=some y2:=h2
    rw[c3] at g0 g1
    rw[c61] at g2
    obtain⟨z0,e0,_,w0⟩:=DataW.trod_int Go.Eng.T3.u g0
    obtain⟨z1,e1,_,w1⟩:=DataW.trod_int Go.Eng.T3.u g1
    obtain⟨R,hR,hR1,hR2⟩:=open_listZ g2 l2
    simp only[List.drop_zero,List.drop_succ_cons,List.take_succ_cons,List.take_zero,List.cons.injEq,and_true] at e0 e1
    subst e0 e1
    exact⟨z0,z1,a2,R,rfl,hR,hR1,hR2⟩
end
end Go.Proofs.YtclhjichmdjlaaaGreat
