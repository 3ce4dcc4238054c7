/- Walks of the functions of the seat over those rules, and plain laws of what they compute. No conditions beyond those in each theorem. -/
import Derived.Test.YtclhjichmdjlaaaGreatEL
set_option linter.unusedSimpArgs false
set_option linter.unusedVariables false
namespace Go.Eng
open Go.RowKit
structure TermD where
  state:Int
  var:Int
deriving DecidableEq
structure VarD where
  name:ByteArray
  states:List Int
structure TransD where
  centre:TermD
  around:List TermD
  out:TermD
structure TableD where
  states:Int
  hood:Int
  sym:Int
  vars:List VarD
  rows:List TransD
structure LifeD where
  hood:Int
  born:Int
  stay:Int
structure RuleD where
  kind:Int
  life:LifeD
  gst:Int
  name:ByteArray
  table:TableD
def TermD.no:TermD:=⟨0,0⟩
def VarD.no:VarD:=⟨ByteArray.empty,[]⟩
def TransD.no:TransD:=⟨.no,[],.no⟩
def BytesAt (h:Hp) (v:Value) (l:List Int):Prop:=SlAt h 1 v l.length (fun i=>.int .u8 (l.getD i 0))
def IntsAt (h:Hp) (v:Value) (l:List Int):Prop:=SlAt h 1 v l.length (fun i=>.int .i64 (l.getD i 0))
def termF (l:List TermD) (i:Nat):Value:=if i%2=0 then .int .u8 (l.getD (i/2) .no).state else .int .i64 (l.getD (i/2) .no).var
def TermsAt (h:Hp) (v:Value) (l:List TermD):Prop:=SlAt h 2 v l.length (termF l)
def varF (vs:Nat→Value) (l:List VarD) (i:Nat):Value:=if i%2=0 then .string (l.getD (i/2) .no).name else vs (i/2)
def VarsAt (h:Hp) (v:Value) (l:List VarD):Prop:=∃ vs,SlAt h 2 v l.length (varF vs l)∧∀ i,i<l.length→BytesAt h (vs i) (l.getD i .no).states
def rowF (vs:Nat→Value) (l:List TransD) (i:Nat):Value:=
  if i%5=0 then .int .u8 (l.getD (i/5) .no).centre.state else if i%5=1 then .int .i64 (l.getD (i/5) .no).centre.var
  else if i%5=2 then vs (i/5) else if i%5=3 then .int .u8 (l.getD (i/5) .no).out.state else .int .i64 (l.getD (i/5) .no).out.var
def RowsAt (h:Hp) (v:Value) (l:List TransD):Prop:=∃ vs,SlAt h 5 v l.length (rowF vs l)∧∀ i,i<l.length→TermsAt h (vs i) (l.getD i .no).around
theorem BytesAt.mono {h g:Hp} {v:Value} {l:List Int} (s:BytesAt h v l) (le:h.le g):BytesAt g v l:=SlAt.mono s le
theorem IntsAt.mono {h g:Hp} {v:Value} {l:List Int} (s:IntsAt h v l) (le:h.le g):IntsAt g v l:=SlAt.mono s le
theorem TermsAt.mono {h g:Hp} {v:Value} {l:List TermD} (s:TermsAt h v l) (le:h.le g):TermsAt g v l:=SlAt.mono s le
theorem VarsAt.mono {h g:Hp} {v:Value} {l:List VarD} (s:VarsAt h v l) (le:h.le g):VarsAt g v l:=by
  obtain⟨vs,a,b⟩:=s;exact⟨vs,a.mono le,fun i hi=>(b i hi).mono le⟩
theorem RowsAt.mono {h g:Hp} {v:Value} {l:List TransD} (s:RowsAt h v l) (le:h.le g):RowsAt g v l:=by
  obtain⟨vs,a,b⟩:=s;exact⟨vs,a.mono le,fun i hi=>(b i hi).mono le⟩
abbrev tableC (t:TableD) (v r:Value):List Value:=[.int .i64 t.states,.int .u8 t.hood,.int .u8 t.sym,v,r]
abbrev lifeC (l:LifeD):List Value:=[.int .u8 l.hood,.int .u16 l.born,.int .u16 l.stay]
abbrev gensC (l:LifeD) (s:Int):List Value:=[.int .u8 l.hood,.int .u16 l.born,.int .u16 l.stay,.int .i64 s]
abbrev ruleC (r:RuleD) (v w:Value):List Value:=
  [.int .u8 r.kind,.int .u8 r.life.hood,.int .u16 r.life.born,.int .u16 r.life.stay,.int .i64 r.gst,.string r.name,.int .i64 r.table.states,.int .u8 r.table.hood,.int .u8 r.table.sym,v,w]
def TabAt (h:Hp) (t:TableD) (v w:Value):Prop:=VarsAt h v t.vars∧RowsAt h w t.rows
theorem TabAt.mono {h g:Hp} {t:TableD} {v w:Value} (s:TabAt h t v w) (le:h.le g):TabAt g t v w:=⟨s.1.mono le,s.2.mono le⟩
def U8 (n:Int):Prop:=0≤n∧n<256
def U16 (n:Int):Prop:=0≤n∧n<65536
def I64 (n:Int):Prop:=-9223372036854775808≤n∧n≤9223372036854775807
structure TermD.Wd (t:TermD):Prop where
  state:U8 t.state
  var:I64 t.var
structure TableD.Wd (t:TableD):Prop where
  states:I64 t.states
  hood:U8 t.hood
  sym:U8 t.sym
  vars:∀ x∈t.vars,(∀ s∈x.states,U8 s)∧x.states.length<2^47∧x.name.size≤4611686018427387904
  rows:∀ x∈t.rows,x.centre.Wd∧x.out.Wd∧(∀ a∈x.around,a.Wd)∧x.around.length<2^47
  nvars:t.vars.length<2^47
  nrows:t.rows.length<2^47
structure RuleD.Wd (r:RuleD):Prop where
  name:r.name.size≤4611686018427387904
  kind:U8 r.kind
  hood:U8 r.life.hood
  born:U16 r.life.born
  stay:U16 r.life.stay
  gst:I64 r.gst
  table:r.table.Wd
section
variable {h0:Hp} {σ:List HP}
theorem Rd.u8 {b o:Nat} {l:List Int} (hc:∀ i,i<l.length*1→cellOf (h0 b) (o+i)=some ((fun i=>Value.int .u8 (l.getD i 0)) i)) (i:Nat) (hi:i<l.length):Rd h0 σ ⟨b,o+((i:Int)).toNat*1,none⟩ (.int .u8 (l.getD i 0)):=
  Rd.ro (by have:=hc i (by omega);rw[show o+((i:Int)).toNat*1=o+i by omega];exact this)
theorem Rd.u8j {b o:Nat} {l:List Int} (hc:∀ i,i<l.length*1→cellOf (h0 b) (o+i)=some ((fun i=>Value.int .u8 (l.getD i 0)) i)) (j:Int) (hi:j.toNat<l.length):Rd h0 σ ⟨b,o+j.toNat*1,none⟩ (.int .u8 (l.getD j.toNat 0)):=
  Rd.ro (by have:=hc j.toNat (by omega);rw[show o+j.toNat*1=o+j.toNat by omega];exact this)
theorem Rd.i64j {b o:Nat} {l:List Int} (hc:∀ i,i<l.length*1→cellOf (h0 b) (o+i)=some ((fun i=>Value.int .i64 (l.getD i 0)) i)) (j:Int) (hi:j.toNat<l.length):Rd h0 σ ⟨b,o+j.toNat*1,none⟩ (.int .i64 (l.getD j.toNat 0)):=
  Rd.ro (by have:=hc j.toNat (by omega);rw[show o+j.toNat*1=o+j.toNat by omega];exact this)
theorem Rds.of_cells {b o:Nat} {f:Nat→Value} {n:Nat} (hc:∀ i,i<n→cellOf (h0 b) (o+i)=some (f i)) (i:Nat) (vs:List Value) (hi:i+vs.length≤n) (hv:∀ j,(h:j<vs.length)→f (i+j)=vs[j]):Rds h0 σ b (o+i) vs:=
  Rds.sl hc hi fun j u hj=>by
   obtain⟨h1,h2⟩:=List.getElem?_eq_some_iff.1 hj
   rw[hv j h1,h2]
theorem Rds.term {b o:Nat} {l:List TermD} (hc:∀ i,i<l.length*2→cellOf (h0 b) (o+i)=some (termF l i)) (i:Nat) (hi:i<l.length):Rds h0 σ b (o+((i:Int)).toNat*2) [.int .u8 (l.getD i .no).state,.int .i64 (l.getD i .no).var]:=by
  rw[show ((i:Int)).toNat*2=i*2 by omega]
  refine Rds.of_cells hc (i*2) _ (by simp;omega) fun j h=>?_
  rcases j with _ | _ | j
  · show termF l (i*2+0)=_
    unfold termF;rw[if_pos (by omega),show (i*2+0)/2=i by omega];rfl
  · show termF l (i*2+1)=_
    unfold termF;rw[if_neg (by omega),show (i*2+1)/2=i by omega];rfl
  · simp at h;omega
theorem Rds.var {b o:Nat} {vs:Nat→Value} {l:List VarD} (hc:∀ i,i<l.length*2→cellOf (h0 b) (o+i)=some (varF vs l i)) (i:Nat) (hi:i<l.length):Rds h0 σ b (o+((i:Int)).toNat*2) [.string (l.getD i .no).name,vs i]:=by
  rw[show ((i:Int)).toNat*2=i*2 by omega]
  refine Rds.of_cells hc (i*2) _ (by simp;omega) fun j h=>?_
  rcases j with _ | _ | j
  · show varF vs l (i*2+0)=_
    unfold varF;rw[if_pos (by omega),show (i*2+0)/2=i by omega];rfl
  · show varF vs l (i*2+1)=_
    unfold varF;rw[if_neg (by omega),show (i*2+1)/2=i by omega];rfl
  · simp at h;omega
abbrev rowC (t:TransD) (v:Value):List Value:=[.int .u8 t.centre.state,.int .i64 t.centre.var,v,.int .u8 t.out.state,.int .i64 t.out.var]
theorem rowF_get (vs:Nat→Value) (l:List TransD) (i j:Nat) (hj:j<5):rowF vs l (i*5+j)=(rowC (l.getD i .no) (vs i))[j]:=by
  unfold rowF
  rw[show (i*5+j)/5=i by omega,show (i*5+j)%5=j by omega]
  rcases j with _ | _ | _ | _ | _ | j
  · rfl
  · rfl
  · rfl
  · rfl
  · rfl
  · omega
theorem Rds.row {b o:Nat} {vs:Nat→Value} {l:List TransD} (hc:∀ i,i<l.length*5→cellOf (h0 b) (o+i)=some (rowF vs l i)) (i:Nat) (hi:i<l.length):Rds h0 σ b (o+((i:Int)).toNat*5) (rowC (l.getD i .no) (vs i)):=by
  rw[show ((i:Int)).toNat*5=i*5 by omega]
  exact Rds.of_cells hc (i*5) _ (by simp;omega) fun j h=>rowF_get vs l i j (by simpa using h)
end
section
variable {σ:List HP}
theorem Ent.merge {p q r:HP} (h:∀ a b,p a→q b→a.Dj b→r (a.un b)):Ent (p::q::σ) (r::σ):=fun k h0 w s=>by
  obtain⟨h1,⟨a,b,ha,⟨c,d,hc,hd,dj2,e2⟩,dj,e⟩,dj0,hh⟩:=s.own
  subst e2
  exact⟨s.os,s.tape,s.output,s.base,h1,⟨a.un c,d,h a c ha hc dj.of_un_right,hd,(dj.of_un_right').un_left dj2,by rw[e,Hp.un_assoc]⟩,dj0,hh⟩
theorem Ent.imp {p r:HP} (h:∀ a,p a→r a):Ent (p::σ) (r::σ):=fun k h0 w s=>s.map_head h
theorem getD_map {α β:Type} (f:α→β) (l:List α) (i:Nat) (d:α):(l.map f).getD i (f d)=f (l.getD i d):=by
  simp only[List.getD_eq_getElem?_getD,List.getElem?_map]
  cases l[i]? <;> rfl
theorem SlAt.congr {h:Hp} {sz n:Nat} {v:Value} {f g:Nat→Value} (s:SlAt h sz v n f) (e:∀ i,i<n*sz→f i=g i):SlAt h sz v n g:=by
  obtain⟨a,cap,hv,hn,ha,hr⟩:=s
  refine⟨a,cap,hv,hn,ha,fun hp=>?_⟩
  obtain⟨b,o,e2,hc⟩:=hr hp
  exact⟨b,o,e2,fun i hi=>by rw[hc i hi,e i hi]⟩
theorem In.self {p:HP} {h:Hp} (x:p h):In p h:=⟨h,x,Hp.le_refl h⟩
def intsC (l:List Int):List Value:=l.map (Value.int .i64)
def u8sC (l:List Int):List Value:=l.map (Value.int .u8)
theorem vec_ints {E n:Nat} {u:Value} {l:List Int} {h:Hp} (hn:l.length=n) (i:In (vec E 1 u n (intsC l)) h):IntsAt h u l:=by
  subst hn
  exact (In.slAt i (.int .i64 0)).congr fun j _=>getD_map (Value.int .i64) l j 0
theorem vec_u8s {E n:Nat} {u:Value} {l:List Int} {h:Hp} (hn:l.length=n) (i:In (vec E 1 u n (u8sC l)) h):BytesAt h u l:=by
  subst hn
  exact (In.slAt i (.int .u8 0)).congr fun j _=>getD_map (Value.int .u8) l j 0
def ordsO (vs:List Value) (ls:List (List Int)):HP:=fun h=>vs.length=ls.length∧∀ i,i<ls.length→IntsAt h (vs.getD i undef) (ls.getD i [])
def OrdAt (h:Hp) (u:Value) (ls:List (List Int)):Prop:=∃ vs:List Value,SlAt h 1 u ls.length (fun i=>vs.getD i undef)∧∀ i,i<ls.length→IntsAt h (vs.getD i undef) (ls.getD i [])
def ordO (u:Value) (ls:List (List Int)):HP:=fun h=>OrdAt h u ls
theorem OrdAt.mono {h g:Hp} {u:Value} {ls:List (List Int)} (s:OrdAt h u ls) (le:h.le g):OrdAt g u ls:=by
  obtain⟨vs,a,b⟩:=s;exact⟨vs,a.mono le,fun i hi=>(b i hi).mono le⟩
theorem getD_snoc {α:Type} (l:List α) (x d:α) (i:Nat):(l++[x]).getD i d=if i<l.length then l.getD i d else if i=l.length then x else d:=by
  simp only[List.getD_eq_getElem?_getD]
  split
  · rename_i h;rw[List.getElem?_append_left h]
  · split
    · rename_i h h2;subst h2;simp
    · rename_i h h2;rw[List.getElem?_eq_none (by simp;omega)];rfl
theorem Ent.ords {E n:Nat} {u:Value} {l:List Int} {vs:List Value} {ls:List (List Int)} (hn:l.length=n):Ent (vec E 1 u n (intsC l)::ordsO vs ls::σ) (ordsO (vs++[u]) (ls++[l])::σ):=
  Ent.merge fun a b ha hb dj=>by
   obtain⟨hl,hall⟩:=hb
   refine⟨by simp[hl],fun i hi=>?_⟩
   rw[List.length_append,List.length_singleton] at hi
   rw[getD_snoc,getD_snoc]
   by_cases h1:i<ls.length
   · rw[if_pos (by omega),if_pos h1];exact (hall i h1).mono (Hp.le_un_right dj)
   · rw[if_neg (by omega),if_pos (by omega),if_neg h1,if_pos (by omega)]
     exact (vec_ints hn (In.self ha)).mono (Hp.le_un_left a b)
theorem Ent.ordO {E n:Nat} {u:Value} {vs:List Value} {ls:List (List Int)} (hn:vs.length=n):Ent (vec E 1 u n vs::ordsO vs ls::σ) (Go.Eng.ordO u ls::σ):=
  Ent.merge fun a b ha hb dj=>by
   obtain⟨hl,hall⟩:=hb
   subst hn
   refine⟨vs,?_,fun i hi=>(hall i hi).mono (Hp.le_un_right dj)⟩
   have:=(In.slAt (In.self ha) undef).mono (Hp.le_un_left a b)
   rw[hl] at this
   exact this
theorem Ent.nilords:Ent σ (ordsO [] []::σ):=fun k h0 w s=>by
  obtain⟨h1,ss,dj,hh⟩:=s.own
  exact⟨s.os,s.tape,s.output,s.base,h1,⟨Hp.no,h1,⟨rfl,fun i hi=>absurd hi (by simp)⟩,ss,Hp.no_Dj _,(Hp.no_un _).symm⟩,dj,hh⟩
theorem OrdAt.nil (h:Hp):OrdAt h (.slice none 0 0) []:=⟨[],⟨none,0,rfl,Nat.le_refl _,fun _=>rfl,fun h=>absurd h (by simp)⟩,fun i hi=>absurd hi (by simp)⟩
end
def CellsAt (h:Hp) (b o:Nat) (cs:List Value):Prop:=∀ j v,cs[j]?=some v→cellOf (h b) (o+j)=some v
theorem CellsAt.mono {h g:Hp} {b o:Nat} {cs:List Value} (s:CellsAt h b o cs) (l:h.le g):CellsAt g b o cs:=fun j v hj=>by
  have h1:=s j v hj
  cases hb:h b with
  | none=>rw[hb] at h1;cases h1
  | some ob=>rw[l b ob hb,← hb];exact h1
theorem CellsAt.rd {h0:Hp} {σ:List HP} {b o:Nat} {cs:List Value} (s:CellsAt h0 b o cs) (j:Nat) {v:Value} (hj:cs[j]?=some v):Rd h0 σ ⟨b,o+j,none⟩ v:=Rd.ro (s j v hj)
theorem CellsAt.rds {h0:Hp} {σ:List HP} {b o:Nat} {cs:List Value} (s:CellsAt h0 b o cs) (j:Nat) {vs:List Value} (hv:(cs.drop j).take vs.length=vs):Rds h0 σ b (o+j) vs:=fun q v hq=>by
  rw[Nat.add_assoc]
  refine Rd.ro (s (j+q) v ?_)
  rw[← hv] at hq
  have hl:q<vs.length:=by
   rcases Nat.lt_or_ge q vs.length with h | h
   · exact h
   · rw[List.getElem?_eq_none (by rw[List.length_take];omega)] at hq;cases hq
  rw[List.getElem?_take,if_pos hl,List.getElem?_drop] at hq
  exact hq
theorem SlAt.cells {h:Hp} {b o n:Nat} {f:Nat→Value} (hc:∀ i,i<n→cellOf (h b) (o+i)=some (f i)) (i:Nat) (cs:List Value) (hi:i+cs.length≤n) (hv:∀ j,(hj:j<cs.length)→f (i+j)=cs[j]):CellsAt h b (o+i) cs:=fun j v hj=>by
  obtain⟨h1,h2⟩:=List.getElem?_eq_some_iff.1 hj
  rw[Nat.add_assoc,hc (i+j) (by omega),hv j h1,h2]
theorem Rd.var1 {h0:Hp} {σ:List HP} {b o:Nat} {vs:Nat→Value} {l:List VarD} (hc:∀ i,i<l.length*2→cellOf (h0 b) (o+i)=some (varF vs l i)) (i:Nat) (hi:i<l.length):Rd h0 σ ⟨b,o+i*2+1,none⟩ (vs i):=by
  refine Rd.ro ?_
  rw[Nat.add_assoc,hc (i*2+1) (by omega)]
  unfold varF;rw[if_neg (by omega),show (i*2+1)/2=i by omega]
def hoodSize (h:Int):Int:=if h=1 then 8 else if h=2 then 4 else if h=3 then 6 else 0
def letterB (b:UInt8):Prop:=97≤(b ||| 32).toNat∧(b ||| 32).toNat≤122
instance (b:UInt8):Decidable (letterB b):=by unfold letterB;infer_instance
end Go.Eng
