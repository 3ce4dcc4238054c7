/- Rules to walk the functions of the seat: partial heaps, contracts, one rule an operation. No conditions. -/
import Derived.WalkKit
import Derived.Deep.Quiet
import Derived.StillTail
import Derived.KernelRfl
import Derived.OrdersHeld
set_option linter.unusedSimpArgs false
set_option linter.unusedVariables false
namespace Go.Eng
open Go.RowKit
abbrev Hp:=Nat→Option Obj
def Hp.no:Hp:=fun _=>none
def Hp.one (b:Nat) (o:Obj):Hp:=fun c=>if c=b then some o else none
def Hp.un (h g:Hp):Hp:=fun c=>match h c with | some o=>some o | none=>g c
def Hp.Dj (h g:Hp):Prop:=∀ b o,h b=some o→g b=none
def Hp.le (h g:Hp):Prop:=∀ b o,h b=some o→g b=some o
abbrev HP:=Hp→Prop
theorem Hp.Dj.symm {h g:Hp} (d:h.Dj g):g.Dj h:=fun b o hb=>by
  cases e:h b with
  | none=>rfl
  | some p=>have:=d b p e;rw[this] at hb;cases hb
theorem Hp.le_refl (h:Hp):h.le h:=fun _ _ e=>e
theorem Hp.le_trans {a b c:Hp} (h:a.le b) (g:b.le c):a.le c:=fun x o e=>g x o (h x o e)
theorem Hp.le_un_left (h g:Hp):h.le (h.un g):=fun b o e=>by simp[Hp.un,e]
theorem Hp.le_un_right {h g:Hp} (d:h.Dj g):g.le (h.un g):=fun b o e=>by
  have:=d.symm b o e
  simp[Hp.un,this,e]
theorem Hp.un_some {h g:Hp} {b:Nat} {o:Obj} (e:(h.un g) b=some o):h b=some o∨g b=some o:=by
  unfold Hp.un at e
  cases hb:h b with
  | none=>rw[hb] at e;exact .inr e
  | some p=>rw[hb] at e;exact .inl e
theorem Hp.Dj.un_left {a b c:Hp} (h:a.Dj c) (g:b.Dj c):(a.un b).Dj c:=fun x o e=>by
  rcases Hp.un_some e with e | e
  · exact h x o e
  · exact g x o e
theorem Hp.Dj.un_right {a b c:Hp} (h:a.Dj b) (g:a.Dj c):a.Dj (b.un c):=(Hp.Dj.un_left h.symm g.symm).symm
theorem Hp.Dj.of_un_left {a b c:Hp} (h:(a.un b).Dj c):a.Dj c:=fun x o e=>h x o (Hp.le_un_left a b x o e)
theorem Hp.Dj.of_un_left' {a b c:Hp} (h:(a.un b).Dj c):b.Dj c:=fun x o e=>by
  cases hx:a x with
  | none=>exact h x o (by simp[Hp.un,hx,e])
  | some p=>exact h x p (by simp[Hp.un,hx])
theorem Hp.Dj.of_un_right {a b c:Hp} (h:a.Dj (b.un c)):a.Dj b:=(Hp.Dj.of_un_left h.symm).symm
theorem Hp.Dj.of_un_right' {a b c:Hp} (h:a.Dj (b.un c)):a.Dj c:=(Hp.Dj.of_un_left' h.symm).symm
theorem Hp.un_assoc (a b c:Hp):(a.un b).un c=a.un (b.un c):=by
  funext x;unfold Hp.un;cases a x <;> rfl
theorem Hp.un_comm {a b:Hp} (d:a.Dj b):a.un b=b.un a:=by
  funext x;unfold Hp.un
  cases ha:a x with
  | none=>cases hb:b x <;> rfl
  | some o=>have:=d x o ha;rw[this]
theorem Hp.no_un (a:Hp):Hp.no.un a=a:=by funext x;rfl
theorem Hp.no_Dj (a:Hp):Hp.no.Dj a:=fun _ _ e=>by cases e
theorem Hp.Dj_no (a:Hp):a.Dj Hp.no:=fun _ _ _=>rfl
def Stars:List HP→HP
  | []=>fun h=>h=Hp.no
  | p::r=>fun h=>∃ a b,p a∧Stars r b∧a.Dj b∧h=a.un b
theorem Stars.append {σ τ:List HP}:∀ {h:Hp},Stars (σ++τ) h↔∃ a b,Stars σ a∧Stars τ b∧a.Dj b∧h=a.un b:=by
  induction σ with
  | nil=>exact fun {h}=>⟨fun H=>⟨Hp.no,h,rfl,H,Hp.no_Dj _,(Hp.no_un _).symm⟩,fun ⟨a,b,ha,hb,_,e⟩=>by
     have:a=Hp.no:=ha
     rw[e,this,Hp.no_un];exact hb⟩
  | cons p σ ih=>
    intro h
    constructor
    · rintro ⟨a,b,hp,hb,d,e⟩
      obtain⟨c,d',hc,hd,dj,e'⟩:=ih.1 hb
      subst e'
      exact⟨a.un c,d',⟨a,c,hp,hc,d.of_un_right,rfl⟩,hd,(d.of_un_right').un_left dj,by rw[e,Hp.un_assoc]⟩
    · rintro ⟨a,b,⟨x,y,hx,hy,dxy,ea⟩,hb,d,e⟩
      subst ea
      exact⟨x,y.un b,hx,ih.2 ⟨y,b,hy,hb,d.of_un_left',rfl⟩,dxy.un_right d.of_un_left,by rw[e,Hp.un_assoc]⟩
theorem Stars.perm {σ τ:List HP} (p:σ.Perm τ):∀ {h:Hp},Stars σ h→Stars τ h:=by
  induction p with
  | nil=>exact fun H=>H
  | cons x _ ih=>exact fun ⟨a,b,ha,hb,d,e⟩=>⟨a,b,ha,ih hb,d,e⟩
  | swap x y l=>
    rintro h ⟨a,b,ha,⟨c,d,hc,hd,dj,e'⟩,dab,e⟩
    subst e'
    exact⟨c,a.un d,hc,⟨a,d,ha,hd,dab.of_un_right',rfl⟩,(dab.of_un_right.symm).un_right dj,by
     rw[e,← Hp.un_assoc,Hp.un_comm dab.of_un_right,Hp.un_assoc]⟩
  | trans _ _ ih1 ih2=>exact fun H=>ih2 (ih1 H)
def Holds (h:Hp) (w:World):Prop:=∀ b o,h b=some o→w.heap[b]?=some o
theorem Holds.un {h g:Hp} {w:World} (a:Holds h w) (b:Holds g w):Holds (h.un g) w:=fun x o e=>by
  rcases Hp.un_some e with e | e
  · exact a x o e
  · exact b x o e
theorem Holds.mono {h g:Hp} {w:World} (a:Holds g w) (l:h.le g):Holds h w:=fun x o e=>a x o (l x o e)
structure St (k:World) (h0:Hp) (σ:List HP) (w:World):Prop where
  os:w.os=k.os
  tape:w.tape=k.tape
  output:w.output=k.output
  base:Holds h0 w
  own:∃ h1,Stars σ h1∧h0.Dj h1∧Holds h1 w
theorem St.drew {k:World} {h0:Hp} {σ:List HP} {w:World} {d:Nat} (h:St k h0 σ w):St k h0 σ {w with drawn:=d}:=⟨h.os,h.tape,h.output,h.base,h.own⟩
theorem St.perm {k:World} {h0:Hp} {σ τ:List HP} {w:World} (p:σ.Perm τ) (h:St k h0 σ w):St k h0 τ w:=by
  obtain⟨h1,s,d,hh⟩:=h.own
  exact⟨h.os,h.tape,h.output,h.base,h1,s.perm p,d,hh⟩
def Ent (σ τ:List HP):Prop:=∀ k h0 w,St k h0 σ w→St k h0 τ w
theorem Ent.refl (σ:List HP):Ent σ σ:=fun _ _ _ h=>h
theorem Ent.trans {a b c:List HP} (h:Ent a b) (g:Ent b c):Ent a c:=fun k h0 w s=>g k h0 w (h k h0 w s)
theorem Ent.perm {σ τ:List HP} (p:σ.Perm τ):Ent σ τ:=fun _ _ _ h=>h.perm p
theorem St.tail {k:World} {h0:Hp} {p:HP} {σ:List HP} {w:World} (h:St k h0 (p::σ) w):St k h0 σ w:=by
  obtain⟨h1,⟨a,b,ha,hb,d,e⟩,dj,hh⟩:=h.own
  subst e
  exact⟨h.os,h.tape,h.output,h.base,b,hb,dj.of_un_right',hh.mono (Hp.le_un_right d)⟩
theorem St.map_head {k:World} {h0:Hp} {p q:HP} {σ:List HP} {w:World} (hpq:∀ h,p h→q h) (h:St k h0 (p::σ) w):St k h0 (q::σ) w:=by
  obtain⟨h1,⟨a,b,ha,hb,d,e⟩,dj,hh⟩:=h.own
  exact⟨h.os,h.tape,h.output,h.base,h1,⟨a,b,hpq _ ha,hb,d,e⟩,dj,hh⟩
theorem perm_pull {σ:List HP}:∀ (i:Nat) {p:HP},σ[i]?=some p→σ.Perm (p::σ.eraseIdx i):=by
  induction σ with
  | nil=>intro i p h;simp at h
  | cons q σ ih=>
    intro i p h
    cases i with
    | zero=>simp at h;subst h;simp
    | succ i=>
      simp at h
      have:=(ih i h).cons q
      simp only[List.eraseIdx_cons_succ]
      exact this.trans (List.Perm.swap p q _)
theorem St.pull {k:World} {h0:Hp} {σ:List HP} {w:World} (i:Nat) {p:HP} (hi:σ[i]?=some p) (h:St k h0 σ w):St k h0 (p::σ.eraseIdx i) w:=h.perm (perm_pull i hi)
theorem perm_set {σ:List HP}:∀ (i:Nat) {p:HP} (q:HP),σ[i]?=some p→(q::σ.eraseIdx i).Perm (σ.set i q):=by
  induction σ with
  | nil=>intro i p q h;simp at h
  | cons r σ ih=>
    intro i p q h
    cases i with
    | zero=>simp
    | succ i=>
      simp at h
      simp only[List.eraseIdx_cons_succ,List.set_cons_succ]
      exact (List.Perm.swap r q _).trans ((ih i q h).cons r)
theorem St.put {k:World} {h0:Hp} {σ:List HP} {w:World} (i:Nat) {p q:HP} (hi:σ[i]?=some p) (h:St k h0 (q::σ.eraseIdx i) w):St k h0 (σ.set i q) w:=h.perm (perm_set i q hi)
theorem St.frame {k:World} {h0:Hp} {σ τ:List HP} {w:World} (h:St k h0 (σ++τ) w):∃ g,Stars τ g∧h0.Dj g∧St k (h0.un g) σ w:=by
  obtain⟨h1,s,dj,hh⟩:=h.own
  obtain⟨a,b,ha,hb,d,e⟩:=Stars.append.1 s
  subst e
  exact⟨b,hb,dj.of_un_right',h.os,h.tape,h.output,h.base.un (hh.mono (Hp.le_un_right d)),a,ha,(dj.of_un_right).un_left d.symm,hh.mono (Hp.le_un_left _ _)⟩
theorem St.unframe {k:World} {h0 g:Hp} {σ τ:List HP} {w:World} (hg:Stars τ g) (hd:h0.Dj g) (h:St k (h0.un g) σ w):St k h0 (σ++τ) w:=by
  obtain⟨h1,s,dj,hh⟩:=h.own
  refine⟨h.os,h.tape,h.output,h.base.mono (Hp.le_un_left _ _),h1.un g,Stars.append.2 ⟨h1,g,s,hg,dj.of_un_left'.symm,rfl⟩,(dj.of_un_left).un_right hd,hh.un (h.base.mono (Hp.le_un_right hd))⟩
def ob (b:Nat) (o:Obj):HP:=fun h=>h=Hp.one b o
def Thaw (fr:Nat × Nat) (n:Nat):Prop:=n≤fr.1∨fr.2=0
def cl (b:Nat) (cs:List Value) (T:TypeId):HP:=fun h=>∃ fr,Thaw fr cs.length∧h=Hp.one b (.cells cs.toArray T fr)
def At (h:Hp) (b:Nat) (cs:List Value) (T:TypeId):Prop:=∃ fr,h b=some (.cells cs.toArray T fr)
theorem Hp.one_self (b:Nat) (o:Obj):Hp.one b o b=some o:=by simp[Hp.one]
theorem Hp.one_some {b c:Nat} {o p:Obj} (h:Hp.one b o c=some p):c=b∧p=o:=by
  unfold Hp.one at h
  split at h
  · rename_i e;exact⟨e,(Option.some.inj h).symm⟩
  · cases h
theorem St.look {k:World} {h0:Hp} {σ:List HP} {w:World} {b:Nat} {o:Obj} (i:Nat) (hi:σ[i]?=some (ob b o)) (h:St k h0 σ w):w.heap[b]?=some o:=by
  obtain⟨h1,⟨a,c,ha,hc,d,e⟩,dj,hh⟩:=(h.pull i hi).own
  refine hh b o ?_
  rw[e]
  refine Hp.le_un_left _ _ _ _ ?_
  rw[show a=Hp.one b o from ha]
  exact Hp.one_self b o
theorem lt_of_look {w:World} {b:Nat} {o:Obj} (h:w.heap[b]?=some o):b<w.heap.size:=by
  rcases Nat.lt_or_ge b w.heap.size with g | g
  · exact g
  · rw[Array.getElem?_eq_none g] at h;cases h
theorem St.new {k:World} {h0:Hp} {σ:List HP} {w:World} (o:Obj) (h:St k h0 σ w):St k h0 (ob w.heap.size o::σ) {w with heap:=w.heap.push o}:=by
  obtain⟨h1,s,dj,hh⟩:=h.own
  have keep:∀ g,Holds g w→Holds g {w with heap:=w.heap.push o}:=fun g hg x p e=>by
   have:=hg x p e
   have hl:=lt_of_look this
   show (w.heap.push o)[x]?=_
   rw[Array.getElem?_push,if_neg (by omega)];exact this
  have fresh:∀ g,Holds g w→(Hp.one w.heap.size o).Dj g:=fun g hg x p e=>by
   obtain⟨rfl,_⟩:=Hp.one_some e
   cases hx:g w.heap.size with
   | none=>rfl
   | some q=>have:=lt_of_look (hg _ _ hx);omega
  refine⟨h.os,h.tape,h.output,keep _ h.base,(Hp.one w.heap.size o).un h1,⟨_,h1,rfl,s,fresh _ hh,rfl⟩,((fresh _ h.base).symm).un_right dj,Holds.un ?_ (keep _ hh)⟩
  intro x p e
  obtain⟨rfl,rfl⟩:=Hp.one_some e
  show (w.heap.push p)[w.heap.size]?=_
  simp
theorem St.write {k:World} {h0:Hp} {σ:List HP} {w w':World} {b:Nat} {o o':Obj} (i:Nat) (hi:σ[i]?=some (ob b o)) (h:St k h0 σ w)
    (hos:w'.os=w.os) (ht:w'.tape=w.tape) (hout:w'.output=w.output) (hb:w'.heap[b]?=some o') (hrest:∀ c,c≠b→w'.heap[c]?=w.heap[c]?) :
    St k h0 (σ.set i (ob b o')) w':=by
  refine St.put i hi ?_
  obtain⟨h1,⟨a,c,ha,hc,d,e⟩,dj,hh⟩:=(h.pull i hi).own
  have ha':a=Hp.one b o:=ha
  subst ha' e
  have keep:∀ g,(Hp.one b o).Dj g→Holds g w→Holds g w':=fun g hd hg x p e=>by
   have hx:x≠b:=fun e'=>by
    subst e'
    have:=hd x o (Hp.one_self x o)
    rw[this] at e;cases e
   rw[hrest x hx];exact hg x p e
  have chg:∀ g,(Hp.one b o).Dj g→(Hp.one b o').Dj g:=fun g hd x p e=>by
   obtain⟨rfl,_⟩:=Hp.one_some e
   exact hd x o (Hp.one_self x o)
  refine⟨hos.trans h.os,ht.trans h.tape,hout.trans h.output,keep _ dj.of_un_right.symm h.base,(Hp.one b o').un c,⟨_,c,rfl,hc,chg _ d,rfl⟩,((chg _ dj.of_un_right.symm).symm).un_right dj.of_un_right',Holds.un ?_ (keep _ d (hh.mono (Hp.le_un_right d)))⟩
  intro x p e
  obtain⟨rfl,rfl⟩:=Hp.one_some e
  exact hb
def Rd (h0:Hp) (σ:List HP) (a:Addr) (v:Value):Prop:=∀ k w,St k h0 σ w→w.cell? a=some v
def cellOf (o:Option Obj) (off:Nat):Option Value:=match o with | some (.cells c _ _)=>c[off]? | _=>none
theorem cell_of_heap {w:World} {b off:Nat}:w.cell? ⟨b,off,none⟩=cellOf w.heap[b]? off:=by
  unfold World.cell? cellOf
  cases w.heap[b]? with
  | none=>rfl
  | some o=>cases o <;> rfl
theorem Rd.ro {h0:Hp} {σ:List HP} {b off:Nat} {v:Value} (h:cellOf (h0 b) off=some v):Rd h0 σ ⟨b,off,none⟩ v:=fun k w s=>by
  rw[cell_of_heap]
  cases hb:h0 b with
  | none=>rw[hb] at h;cases h
  | some o=>rw[s.base b o hb,← hb];exact h
theorem St.cl_open {k:World} {h0:Hp} {σ:List HP} {w:World} {b:Nat} {cs:List Value} {T:TypeId} (i:Nat) (hi:σ[i]?=some (cl b cs T)) (h:St k h0 σ w) :
    ∃ fr,Thaw fr cs.length∧w.heap[b]?=some (.cells cs.toArray T fr)∧St k h0 (ob b (.cells cs.toArray T fr)::σ.eraseIdx i) w:=by
  have hp:=h.pull i hi
  obtain⟨h1,⟨a,c,⟨fr,hf,ha⟩,hc,dj,e⟩,dj0,hh⟩:=hp.own
  have hs:St k h0 (ob b (.cells cs.toArray T fr)::σ.eraseIdx i) w:=⟨h.os,h.tape,h.output,h.base,h1,⟨a,c,ha,hc,dj,e⟩,dj0,hh⟩
  exact⟨fr,hf,hs.look 0 rfl,hs⟩
theorem St.newC {k:World} {h0:Hp} {σ:List HP} {w:World} (cs:List Value) (T:TypeId) (h:St k h0 σ w):St k h0 (cl w.heap.size cs T::σ) {w with heap:=w.heap.push (.cells cs.toArray T)}:=
  (h.new (.cells cs.toArray T)).map_head fun _ e=>⟨(0,0),.inr rfl,e⟩
theorem Rd.own {h0:Hp} {σ:List HP} {b off:Nat} {cs:List Value} {T:TypeId} {v:Value} (i:Nat) (hi:σ[i]?=some (cl b cs T)) (h:cs[off]?=some v):Rd h0 σ ⟨b,off,none⟩ v:=fun k w s=>by
  obtain⟨fr,_,hb,_⟩:=s.cl_open i hi
  rw[cell_of_heap,hb]
  simpa [cellOf] using h
def Wr (σ:List HP) (a:Addr) (v:Value) (τ:List HP):Prop:=∀ k h0 w,St k h0 σ w→(∃ u,w.cell? a=some u)∧w.frozen? a=false∧St k h0 τ (w.setCell a v)
theorem Wr.own {σ:List HP} {b off:Nat} {cs:List Value} {T:TypeId} {v:Value} (i:Nat) (hi:σ[i]?=some (cl b cs T)) (h:off<cs.length) :
    Wr σ ⟨b,off,none⟩ v (σ.set i (cl b (cs.set off v) T)):=fun k h0 w s=>by
  obtain⟨fr,hf,hb,hs⟩:=s.cl_open i hi
  refine⟨⟨cs[off],?_⟩,?_,?_⟩
  · rw[cell_of_heap,hb];simp[cellOf,h]
  · obtain⟨lo,hi'⟩:=fr
    simp only[World.frozen?,hb]
    rcases hf with hf | hf
    · have hf:cs.length≤lo:=hf
      have:¬ lo≤off:=by omega
      simp[this]
    · have hf:hi'=0:=hf
      simp[hf]
  · refine St.put i hi ?_
    refine St.map_head (p:=ob b (.cells (cs.set off v).toArray T fr)) (fun _ e=>⟨fr,by rw[List.length_set];exact hf,e⟩) ?_;refine hs.write (o':=.cells (cs.set off v).toArray T fr) 0 rfl rfl rfl rfl ?_ ?_
    · simp only[World.setCell,Array.getElem?_modify,hb,if_true,Option.map]
      simp
    · intro c hc
      simp only[World.setCell,Array.getElem?_modify]
      rw[if_neg (Ne.symm hc)]
structure Env where
  n:Nat
  defers:List Deferred
  slots:List (Nat × Value)
def getIn:List (Nat × Value)→Nat→Option Value
  | [],_=>none
  | (k,v)::r,t=>bif Nat.beq k t then some v else getIn r t
def Env.get (ρ:Env) (t:Nat):Option Value:=getIn ρ.slots t
def Env.put (ρ:Env) (d:Nat) (v:Value):Env:=⟨ρ.n,ρ.defers,(d,v)::ρ.slots⟩
def Env.ev (ρ:Env):Operand→Option Value
  | .tmp t=>ρ.get t
  | .const v=>some v
  | .global g=>some (.pointer (some ⟨g,0,none⟩))
  | .func f=>some (.func (.func f) #[] #[])
structure Env.Ok (ρ:Env) (a:Act):Prop where
  size:a.tmps.size=ρ.n
  defers:a.defers=ρ.defers
  get:∀ t v,ρ.get t=some v→a.tmps[t]?=some v
theorem Env.Ok.ev {ρ:Env} {a:Act} (h:ρ.Ok a) {x:Operand} {v:Value} (e:ρ.ev x=some v):a.eval x=v:=by
  cases x with
  | tmp t=>have:=h.get t v e;simp[Act.eval,this]
  | const u=>exact Option.some.inj e
  | global g=>exact Option.some.inj e
  | func f=>exact Option.some.inj e
theorem Env.Ok.put {ρ:Env} {a:Act} (h:ρ.Ok a) {d:Nat} (hd:Nat.blt d ρ.n=true) (v:Value):(ρ.put d v).Ok (a.put (some d) v):=by
  have hd':d<a.tmps.size:=by rw[h.size];exact of_decide_eq_true (by simpa [Nat.blt_eq] using hd)
  refine⟨by simp[Act.put,Env.put,h.size],h.defers,fun t u e=>?_⟩
  simp only[Act.put,Array.getElem?_setIfInBounds]
  by_cases htd:d=t
  · subst htd
    have e:getIn ((d,v)::ρ.slots) d=some u:=e
    simp[getIn] at e
    simp[hd',e]
  · have e:getIn ((d,v)::ρ.slots) t=some u:=e
    have:Nat.beq d t=false:=by
     cases hb:Nat.beq d t with
     | false=>rfl
     | true=>exact absurd (Nat.eq_of_beq_eq_true hb) htd
    simp[getIn,this] at e
    rw[if_neg htd]
    exact h.get t u e
structure Env.Sub (ρ ρ':Env):Prop where
  n:ρ.n=ρ'.n
  defers:ρ.defers=ρ'.defers
  get:∀ t v,ρ.get t=some v→ρ'.get t=some v
theorem Env.Ok.sub {ρ ρ':Env} {a:Act} (h:ρ'.Ok a) (s:ρ.Sub ρ'):ρ.Ok a:=⟨h.size.trans s.n.symm,h.defers.trans s.defers.symm,fun t v e=>h.get t v (s.get t v e)⟩
theorem Env.Sub.refl (ρ:Env):ρ.Sub ρ:=⟨rfl,rfl,fun _ _ e=>e⟩
theorem Env.Sub.nil {n:Nat} {ds:List Deferred} {l:List (Nat × Value)}:(Env.mk n ds []).Sub ⟨n,ds,l⟩:=⟨rfl,rfl,fun _ _ e=>by cases e⟩
theorem Env.Sub.cons {n:Nat} {ds:List Deferred} {l:List (Nat × Value)} {ρ':Env} {t:Nat} {v v':Value} (h:ρ'.get t=some v') (hv:v=v') (s:(Env.mk n ds l).Sub ρ'):(Env.mk n ds ((t,v)::l)).Sub ρ':=
  ⟨s.n,s.defers,fun u x e=>by
   have e:getIn ((t,v)::l) u=some x:=e
   simp only[getIn] at e
   cases hb:Nat.beq t u with
   | true=>
     rw[hb] at e
     simp at e
     have ht:=Nat.eq_of_beq_eq_true hb
     subst ht
     rw[h,← hv];exact congrArg some (Option.some.inj (by simpa [Env.get,getIn,hb] using e))
   | false=>rw[hb] at e;exact s.get u x e⟩
open Go.RowKit
abbrev Post:=Exit→Env→List HP→Prop
def lift (k:World) (h0:Hp) (Q:Post):Exit→Act→World→Prop:=fun e a w=>∃ ρ σ,ρ.Ok a∧St k h0 σ w∧Q e ρ σ
def thenQ (K:Env→List HP→Prop) (Q:Post):Post
  | .normal,ρ,σ=>K ρ σ
  | e,ρ,σ=>Q e ρ σ
def blockQ (id:Nat) (Q:Post):Post
  | .exit id',ρ,σ=>if id'=id then Q .normal ρ σ else Q (.exit id') ρ σ
  | e,ρ,σ=>Q e ρ σ
def WP (P:Program) (k:World) (h0:Hp) (c:Code) (Q:Post) (ρ:Env) (σ:List HP):Prop:=
  ∀ a w,ρ.Ok a→St k h0 σ w→c.wp P (lift k h0 Q) a w
def WL (P:Program) (k:World) (h0:Hp) (ops:List Oper) (K:Env→List HP→Prop) (Q:Post) (l:List Oper) (ρ:Env) (σ:List HP):Prop:=
  ∀ a w,ρ.Ok a→St k h0 σ w→wpList P ops.toArray (lift k h0 (thenQ K Q)) l a w
def FT (P:Program) (f:FuncId) (args:List Value) (k:World) (h0:Hp) (σ:List HP) (R:Ending→List HP→Prop):Prop:=
  ∀ w,St k h0 σ w→Calls P f args.toArray w fun e w'=>∃ τ,St k h0 τ w'∧R e τ
def Ret (R:Value→List HP→Prop):Ending→List HP→Prop:=fun e τ=>∃ v,e=.returned v∧R v τ
section
variable {P:Program} {k:World} {h0:Hp} {Q:Post} {ρ:Env} {σ:List HP} {K:Env→List HP→Prop}
theorem WP.seq {c d:Code} (h:WP P k h0 c (thenQ (WP P k h0 d Q) Q) ρ σ):WP P k h0 (.seq c d) Q ρ σ:=fun a w ha hs=>
  wp_seq (Code.wp_mono (fun e a w q=>by
   obtain⟨ρ',σ',ha',hs',q⟩:=q
   cases e with
   | normal=>exact q a w ha' hs'
   | exit id=>exact⟨ρ',σ',ha',hs',q⟩
   | goto l=>exact⟨ρ',σ',ha',hs',q⟩
   | ret=>exact⟨ρ',σ',ha',hs',q⟩
   | panic ch=>exact⟨ρ',σ',ha',hs',q⟩
   | outgrown=>exact⟨ρ',σ',ha',hs',q⟩) (h a w ha hs))
theorem WP.block {id:Nat} {c:Code} (h:WP P k h0 c (blockQ id Q) ρ σ):WP P k h0 (.block id c) Q ρ σ:=fun a w ha hs=>
  wp_block (Code.wp_mono (fun e a w q=>by
   obtain⟨ρ',σ',ha',hs',q⟩:=q
   cases e with
   | exit id'=>
     simp only[Exit.inBlock,blockQ] at q ⊢
     split
     · rename_i e;rw[if_pos e] at q;exact⟨ρ',σ',ha',hs',q⟩
     · rename_i e;rw[if_neg e] at q;exact⟨ρ',σ',ha',hs',q⟩
   | normal=>exact⟨ρ',σ',ha',hs',q⟩
   | goto l=>exact⟨ρ',σ',ha',hs',q⟩
   | ret=>exact⟨ρ',σ',ha',hs',q⟩
   | panic ch=>exact⟨ρ',σ',ha',hs',q⟩
   | outgrown=>exact⟨ρ',σ',ha',hs',q⟩) (h a w ha hs))
theorem WP.skip (h:Q .normal ρ σ):WP P k h0 .skip Q ρ σ:=fun _ _ ha hs=>wp_skip ⟨ρ,σ,ha,hs,h⟩
theorem WP.label {l:Nat} (h:Q .normal ρ σ):WP P k h0 (.label l) Q ρ σ:=fun _ _ ha hs=>wp_label ⟨ρ,σ,ha,hs,h⟩
theorem WP.exit {id:Nat} (h:Q (.exit id) ρ σ):WP P k h0 (.exit id) Q ρ σ:=fun _ _ ha hs=>wp_exit ⟨ρ,σ,ha,hs,h⟩
theorem WP.ret (h:Q .ret ρ σ):WP P k h0 .ret Q ρ σ:=fun _ _ ha hs=>wp_ret ⟨ρ,σ,ha,hs,h⟩
theorem WP.cond {c:Operand} {x y:Code} {b:Bool} (hc:ρ.ev c=some (.bool b)) (ht:b=true→WP P k h0 x Q ρ σ) (hf:b=false→WP P k h0 y Q ρ σ):WP P k h0 (.cond c x y) Q ρ σ:=
  fun a w ha hs=>wp_cond_split (ha.ev hc) (fun e=>ht e a w ha hs) (fun e=>hf e a w ha hs)
theorem WP.condT {c:Operand} {x y:Code} (hc:ρ.ev c=some (.bool true)) (h:WP P k h0 x Q ρ σ):WP P k h0 (.cond c x y) Q ρ σ:=
  fun a w ha hs=>wp_cond_true (ha.ev hc) (h a w ha hs)
theorem WP.condF {c:Operand} {x y:Code} (hc:ρ.ev c=some (.bool false)) (h:WP P k h0 y Q ρ σ):WP P k h0 (.cond c x y) Q ρ σ:=
  fun a w ha hs=>wp_cond_false (ha.ev hc) (h a w ha hs)
theorem WP.condD {c:Operand} {x y:Code} {p:Prop} [Decidable p] (hc:ρ.ev c=some (.bool (decide p))) (ht:p→WP P k h0 x Q ρ σ) (hf:¬ p→WP P k h0 y Q ρ σ):WP P k h0 (.cond c x y) Q ρ σ:=
  WP.cond hc (fun e=>ht (of_decide_eq_true e)) (fun e=>hf (of_decide_eq_false e))
theorem least {p:Nat→Prop} (h:∃ m,p m):∃ m,p m∧∀ m',m'<m→¬ p m':=by
  obtain⟨m,hm⟩:=h
  induction m using Nat.strongRecOn with
  | _ m ih=>
    by_cases hx:∃ m',m'<m∧p m'
    · obtain⟨m',hlt,hm'⟩:=hx;exact ih m' hlt hm'
    · exact⟨m,hm,fun m' hlt hj=>hx ⟨m',hlt,hj⟩⟩
theorem WP.loop {c:Code} {X:Type} (E:X→Env) (S:X→List HP) (I:X→Prop) (μ:X→Nat) (x0:X) (hI:I x0) (hE:(E x0).Sub ρ) (hS:Ent σ (S x0))
    (round:∀ x,I x→WP P k h0 c (thenQ (fun ρ' σ'=>∃ x',I x'∧μ x'<μ x∧(E x').Sub ρ'∧Ent σ' (S x')) Q) (E x) (S x)):WP P k h0 (.loop c) Q ρ σ:=by
  intro a w ha hs
  classical
  let J:Act→World→Nat→Prop:=fun a w m=>∃ x,I x∧μ x=m∧(E x).Ok a∧St k h0 (S x) w
  let M:Act→World→Nat:=fun a w=>if h:∃ m,J a w m then Classical.choose (least h) else 0
  refine wp_loop (fun a w=>∃ m,J a w m) M ⟨μ x0,x0,hI,rfl,ha.sub hE,hS _ _ _ hs⟩ ?_
  intro a w hj
  have hM:M a w=Classical.choose (least hj):=dif_pos hj
  have hspec:=Classical.choose_spec (least hj)
  rw[← hM] at hspec
  obtain⟨⟨x,hI,hμ,ha,hs⟩,hmin⟩:=hspec
  refine Code.wp_mono (fun e a' w' q=>?_) (round x hI a w ha hs)
  obtain⟨ρ',σ',ha',hs',q⟩:=q
  cases e with
  | normal=>
    obtain⟨x',hI',hlt,hE',hS'⟩:=q
    have hj':J a' w' (μ x'):=⟨x',hI',rfl,ha'.sub hE',hS' _ _ _ hs'⟩
    have hM':M a' w'=Classical.choose (least ⟨_,hj'⟩):=dif_pos ⟨_,hj'⟩
    have hspec':=Classical.choose_spec (least ⟨_,hj'⟩)
    rw[← hM'] at hspec'
    refine⟨⟨_,hj'⟩,?_⟩
    have h2:¬ μ x'<M a' w':=fun h=>hspec'.2 _ h hj'
    omega
  | exit id=>exact⟨ρ',σ',ha',hs',q⟩
  | goto l=>exact⟨ρ',σ',ha',hs',q⟩
  | ret=>exact⟨ρ',σ',ha',hs',q⟩
  | panic ch=>exact⟨ρ',σ',ha',hs',q⟩
  | outgrown=>exact⟨ρ',σ',ha',hs',q⟩
theorem X.thenN (h:K ρ σ):thenQ K Q .normal ρ σ:=h
theorem X.thenE {id:Nat} (h:Q (.exit id) ρ σ):thenQ K Q (.exit id) ρ σ:=h
theorem X.thenR (h:Q .ret ρ σ):thenQ K Q .ret ρ σ:=h
theorem X.blockN {id:Nat} (h:Q .normal ρ σ):blockQ id Q .normal ρ σ:=h
theorem X.blockE {id:Nat} (h:Q .normal ρ σ):blockQ id Q (.exit id) ρ σ:=by simp only[blockQ,if_true];exact h
theorem X.blockF {id id':Nat} (hn:Nat.beq id' id=false) (h:Q (.exit id') ρ σ):blockQ id Q (.exit id') ρ σ:=by
  simp only[blockQ]
  rw[if_neg (fun e=>by subst e;simp at hn)];exact h
theorem X.blockR {id:Nat} (h:Q .ret ρ σ):blockQ id Q .ret ρ σ:=h
def Res (P:Program) (fn:Func) (k:World) (h0:Hp) (ρ:Env) (σ:List HP) (v:Value):Prop:=
  ∀ a w,ρ.Ok a→St k h0 σ w→(results fn a.tmps).run P w=.ok v w
def retQ (P:Program) (fn:Func) (k:World) (h0:Hp) (R:Ending→List HP→Prop):Post
  | .normal,ρ,σ | .ret,ρ,σ=>ρ.defers=[]∧∃ v,Res P fn k h0 ρ σ v∧R (.returned v) σ
  | .panic ch,ρ,σ=>ρ.defers=[]∧R (.panicked ch) σ
  | _,_,_=>False
def argSlots:Nat→List Value→List (Nat × Value)
  | _,[]=>[]
  | i,v::r=>(i,v)::argSlots (i+1) r
theorem getIn_argSlots (l:List Value):∀ (i t:Nat) (v:Value),getIn (argSlots i l) t=some v→i≤t∧l[t-i]?=some v:=by
  induction l with
  | nil=>intro i t v h;cases h
  | cons x l ih=>
    intro i t v h
    simp only[argSlots,getIn] at h
    cases hb:Nat.beq i t with
    | true=>
      have e:=Nat.eq_of_beq_eq_true hb
      subst e
      rw[hb] at h
      exact⟨Nat.le_refl _,by simpa using h⟩
    | false=>
      rw[hb] at h
      obtain⟨h1,h2⟩:=ih (i+1) t v h
      refine⟨by omega,?_⟩
      rw[show t-i=(t-(i+1))+1 by omega]
      simpa using h2
theorem FT.of_wp {f:FuncId} {fn:Func} {c:Code} {n:Nat} {args:List Value} {R:Ending→List HP→Prop} (hf:P.funcs[f]?=some fn) (hb:fn.body=some c) (hn:fn.ntmps=n) (hl:Nat.ble args.length n=true)
    (h:WP P k h0 c (retQ P fn k h0 R) ⟨n,[],argSlots 0 args⟩ σ):FT P f args k h0 σ R:=fun w hs=>by
  have hl':args.length≤n:=Nat.le_of_ble_eq_true hl
  refine calls_of_wp hf hb (Code.wp_mono ?_ (h _ w ⟨?_,rfl,?_⟩ hs))
  · intro e a' w' q
    obtain⟨ρ',σ',ha',hs',q⟩:=q
    cases e with
    | normal=>obtain⟨hd,v,hv,hr⟩:=q;exact⟨ha'.defers.trans hd,v,hv a' w' ha' hs',σ',hs',hr⟩
    | ret=>obtain⟨hd,v,hv,hr⟩:=q;exact⟨ha'.defers.trans hd,v,hv a' w' ha' hs',σ',hs',hr⟩
    | panic ch=>obtain⟨hd,hr⟩:=q;exact⟨ha'.defers.trans hd,σ',hs',hr⟩
    | exit id=>exact q.elim
    | goto l=>exact q.elim
    | outgrown=>exact q.elim
  · simp[hn];omega
  · intro t v e
    obtain⟨_,h2⟩:=getIn_argSlots args 0 t v e
    simp only[Nat.sub_zero] at h2
    have:t<args.length:=by
     rcases Nat.lt_or_ge t args.length with g | g
     · exact g
     · rw[List.getElem?_eq_none g] at h2;cases h2
    simp only[Array.getElem?_append,List.size_toArray,this,if_true]
    simpa using h2
theorem Res.one {fn:Func} {t:Nat} {v:Value} (h:fn.results=#[.tmp t]) (hv:ρ.get t=some v):Res P fn k h0 ρ σ v:=fun a w ha _=>by
  rw[results_tmp h];have:=ha.get t v hv;simp[this]
theorem Res.none {fn:Func} (h:fn.results=#[]):Res P fn k h0 ρ σ (.tuple #[]):=fun _ w _ _=>results_none h _ P w
theorem Res.two {fn:Func} {t u:Nat} {v x:Value} (h:fn.results=#[.tmp t,.tmp u]) (hv:ρ.get t=some v) (hx:ρ.get u=some x):Res P fn k h0 ρ σ (.tuple #[v,x]):=fun a w ha _=>by
  rw[results_tmp2 h];have e1:=ha.get t v hv;have e2:=ha.get u x hx;simp[e1,e2]
theorem Res.three {fn:Func} {t u s:Nat} {v x y:Value} (h:fn.results=#[.tmp t,.tmp u,.tmp s]) (hv:ρ.get t=some v) (hx:ρ.get u=some x) (hy:ρ.get s=some y):Res P fn k h0 ρ σ (.tuple #[v,x,y]):=fun a w ha _=>by
  have e1:=ha.get t v hv;have e2:=ha.get u x hx;have e3:=ha.get s y hy
  simp[results,h,e1,e2,e3]
theorem X.ret {fn:Func} {R:Ending→List HP→Prop} {v:Value} (hd:ρ.defers=[]) (hv:Res P fn k h0 ρ σ v) (hr:R (.returned v) σ):retQ P fn k h0 R .ret ρ σ:=⟨hd,v,hv,hr⟩
theorem X.end {fn:Func} {R:Ending→List HP→Prop} {v:Value} (hd:ρ.defers=[]) (hv:Res P fn k h0 ρ σ v) (hr:R (.returned v) σ):retQ P fn k h0 R .normal ρ σ:=⟨hd,v,hv,hr⟩
theorem FT.mono {f:FuncId} {args:List Value} {R R':Ending→List HP→Prop} (h:FT P f args k h0 σ R) (hr:∀ e τ,R e τ→R' e τ):FT P f args k h0 σ R':=
  fun w hs=>(h w hs).mono fun _ _ ⟨τ,s,r⟩=>⟨τ,s,hr _ _ r⟩
theorem FT.ent {f:FuncId} {args:List Value} {R:Ending→List HP→Prop} {σ':List HP} (he:Ent σ σ') (h:FT P f args k h0 σ' R):FT P f args k h0 σ R:=fun w hs=>h w (he _ _ _ hs)
theorem FT.frame {f:FuncId} {args:List Value} {R:Ending→List HP→Prop} {τ:List HP} (h:∀ g,Stars τ g→h0.Dj g→FT P f args k (h0.un g) σ R) :
    FT P f args k h0 (σ++τ) (fun e σ'=>∃ σ'',σ'=σ''++τ∧R e σ''):=fun w hs=>by
  obtain⟨g,hg,dj,hs'⟩:=hs.frame
  refine (h g hg dj w hs').mono fun e w' ⟨σ'',s,r⟩=>⟨σ''++τ,s.unframe hg dj,σ'',rfl,r⟩
end
open Go.RowKit
def wantE (ops:List Oper) (ρ:Env):Option (Nat × Bool)→Option Bool
  | none=>some true
  | some (j,want)=>match (ops[j]?).bind (·.dst) with
    | some d=>match ρ.get d with
      | some (.bool b)=>some (b == want)
      | some (.tuple _)=>some false
      | _=>none
    | none=>none
def Val (P:Program) (k:World) (h0:Hp) (σ:List HP) (ρ:Env) (o:Oper) (v:Value):Prop:=
  ∀ a w,ρ.Ok a→St k h0 σ w→(execOp a.eval o).run P w=.ok (.value v) w
def Mem (P:Program) (k:World) (h0:Hp) (σ:List HP) (ρ:Env) (o:Oper) {X:Type} (V:X→Value) (S:X→List HP):Prop:=
  ∀ a w,ρ.Ok a→St k h0 σ w→∃ x w',(execOp a.eval o).run P w=.ok (.value (V x)) w'∧St k h0 (S x) w'
def Eff (P:Program) (k:World) (h0:Hp) (σ:List HP) (ρ:Env) (o:Oper) (τ:List HP):Prop:=
  ∀ a w,ρ.Ok a→St k h0 σ w→∃ w',(execOp a.eval o).run P w=.ok .skip w'∧St k h0 τ w'
section
variable {P:Program} {k:World} {h0:Hp} {Q:Post} {σ:List HP} {K:Env→List HP→Prop} {ops rest:List Oper}
  {n:Nat} {ds:List Deferred} {l:List (Nat × Value)}
theorem wanted_of {ρ:Env} {a:Act} (ha:ρ.Ok a) {o:Oper} {b:Bool} (h:wantE ops ρ o.guard=some b):Region.wanted o (yielded ops.toArray a.tmps)=b:=by
  unfold Region.wanted
  cases hg:o.guard with
  | none=>rw[hg] at h;exact (Option.some.inj h)
  | some jw=>
    obtain⟨j,want⟩:=jw
    rw[hg] at h
    simp only[wantE] at h
    simp only[yielded,List.getElem?_toArray]
    cases hd:(ops[j]?).bind (·.dst) with
    | none=>rw[hd] at h;simp at h
    | some d=>
      rw[hd] at h
      simp only at h
      cases hv:ρ.get d with
      | none=>rw[hv] at h;simp at h
      | some v=>
        rw[hv] at h
        have:=ha.get d v hv
        cases v <;> simp[this] at h ⊢
        · exact h
        · exact h
theorem WL.skip {d:Nat} {op:Op} {ty:TypeId} {pos:String} {aft:Array Edge} {g:Option (Nat × Bool)} (hw:wantE ops ⟨n,ds,l⟩ g=some false) (hd:Nat.blt d n=true)
    (h:WL P k h0 ops K Q rest ⟨n,ds,(d,undef)::l⟩ σ):WL P k h0 ops K Q (⟨some d,op,ty,pos,aft,g⟩::rest) ⟨n,ds,l⟩ σ:=fun a w ha hs=>by
  have hw':=wanted_of (o:=⟨some d,op,ty,pos,aft,g⟩) ha hw
  unfold wpList
  rw[if_neg (by rw[hw'];simp)]
  exact h _ w (ha.put hd undef) hs
theorem WL.val {d:Nat} {op:Op} {ty:TypeId} {pos:String} {aft:Array Edge} {g:Option (Nat × Bool)} {v:Value} (hw:wantE ops ⟨n,ds,l⟩ g=some true) (hd:Nat.blt d n=true)
    (hv:Val P k h0 σ ⟨n,ds,l⟩ ⟨some d,op,ty,pos,aft,g⟩ v)
    (h:WL P k h0 ops K Q rest ⟨n,ds,(d,v)::l⟩ σ):WL P k h0 ops K Q (⟨some d,op,ty,pos,aft,g⟩::rest) ⟨n,ds,l⟩ σ:=fun a w ha hs=>by
  have hw':=wanted_of (o:=⟨some d,op,ty,pos,aft,g⟩) ha hw
  unfold wpList
  rw[if_pos hw']
  refine .inl ?_
  unfold Oper.wp
  rw[hv a w ha hs]
  exact h _ w (ha.put hd v) hs
theorem WL.valB {d:Nat} {op:Op} {ty:TypeId} {pos:String} {aft:Array Edge} {g:Option (Nat × Bool)} {b:Bool} (hw:wantE ops ⟨n,ds,l⟩ g=some true) (hd:Nat.blt d n=true)
    (hv:Val P k h0 σ ⟨n,ds,l⟩ ⟨some d,op,ty,pos,aft,g⟩ (.bool b))
    (ht:b=true→WL P k h0 ops K Q rest ⟨n,ds,(d,.bool true)::l⟩ σ) (hf:b=false→WL P k h0 ops K Q rest ⟨n,ds,(d,.bool false)::l⟩ σ):WL P k h0 ops K Q (⟨some d,op,ty,pos,aft,g⟩::rest) ⟨n,ds,l⟩ σ:=by
  cases b with
  | true=>exact WL.val hw hd hv (ht rfl)
  | false=>exact WL.val hw hd hv (hf rfl)
theorem WL.valD {p:Prop} [Decidable p] {d:Nat} {op:Op} {ty:TypeId} {pos:String} {aft:Array Edge} {g:Option (Nat × Bool)} (hw:wantE ops ⟨n,ds,l⟩ g=some true) (hd:Nat.blt d n=true)
    (hv:Val P k h0 σ ⟨n,ds,l⟩ ⟨some d,op,ty,pos,aft,g⟩ (.bool (decide p)))
    (ht:p→WL P k h0 ops K Q rest ⟨n,ds,(d,.bool true)::l⟩ σ) (hf:¬ p→WL P k h0 ops K Q rest ⟨n,ds,(d,.bool false)::l⟩ σ):WL P k h0 ops K Q (⟨some d,op,ty,pos,aft,g⟩::rest) ⟨n,ds,l⟩ σ:=
  WL.valB hw hd hv (fun e=>ht (of_decide_eq_true e)) (fun e=>hf (of_decide_eq_false e))
theorem WL.mem {X:Type} {V:X→Value} {S:X→List HP} {d:Nat} {op:Op} {ty:TypeId} {pos:String} {aft:Array Edge} {g:Option (Nat × Bool)} (hw:wantE ops ⟨n,ds,l⟩ g=some true) (hd:Nat.blt d n=true)
    (hv:Mem P k h0 σ ⟨n,ds,l⟩ ⟨some d,op,ty,pos,aft,g⟩ V S)
    (h:∀ x,WL P k h0 ops K Q rest ⟨n,ds,(d,V x)::l⟩ (S x)):WL P k h0 ops K Q (⟨some d,op,ty,pos,aft,g⟩::rest) ⟨n,ds,l⟩ σ:=fun a w ha hs=>by
  have hw':=wanted_of (o:=⟨some d,op,ty,pos,aft,g⟩) ha hw
  unfold wpList
  rw[if_pos hw']
  refine .inl ?_
  unfold Oper.wp
  obtain⟨x,w',e,hs'⟩:=hv a w ha hs
  rw[e]
  exact h x _ w' (ha.put hd _) hs'
theorem WL.eff {op:Op} {ty:TypeId} {pos:String} {aft:Array Edge} {g:Option (Nat × Bool)} {τ:List HP} (hw:wantE ops ⟨n,ds,l⟩ g=some true)
    (hv:Eff P k h0 σ ⟨n,ds,l⟩ ⟨none,op,ty,pos,aft,g⟩ τ)
    (h:WL P k h0 ops K Q rest ⟨n,ds,l⟩ τ):WL P k h0 ops K Q (⟨none,op,ty,pos,aft,g⟩::rest) ⟨n,ds,l⟩ σ:=fun a w ha hs=>by
  have hw':=wanted_of (o:=⟨none,op,ty,pos,aft,g⟩) ha hw
  unfold wpList
  rw[if_pos hw']
  refine .inl ?_
  unfold Oper.wp
  obtain⟨w',e,hs'⟩:=hv a w ha hs
  rw[e]
  exact h _ w' ha hs'
theorem WL.nil {ρ:Env} (h:K ρ σ):WL P k h0 ops K Q [] ρ σ:=fun _ _ ha hs=>wpList_nil ⟨ρ,σ,ha,hs,h⟩
theorem WL.ent {τ:List HP} {ρ:Env} {l':List Oper} (he:Ent σ τ) (h:WL P k h0 ops K Q l' ρ τ):WL P k h0 ops K Q l' ρ σ:=fun a w ha hs=>h a w ha (he _ _ _ hs)
theorem WP.region {ρ:Env} {id:Nat} {l':List Oper} (h:WL P k h0 l' (Q .normal) Q l' ρ σ):WP P k h0 (.region id l'.toArray false) Q ρ σ:=fun a w ha hs=>
  wp_region_lit (by
   have:=h a w ha hs
   refine cast ?_ this
   congr 1
   funext e a w
   simp only[lift,eq_iff_iff]
   cases e <;> exact Iff.rfl)
theorem WP.regs {ρ:Env} {id:Nat} {l':List Oper} {c:Code} (h:WL P k h0 l' (WP P k h0 c Q) Q l' ρ σ):WP P k h0 (.seq (.region id l'.toArray false) c) Q ρ σ:=
  WP.seq (WP.region (by
   intro a w ha hs
   refine cast ?_ (h a w ha hs)
   congr 1
   funext e a w
   simp only[lift,eq_iff_iff]
   cases e <;> exact Iff.rfl))
end
section
variable {P:Program} {k:World} {h0:Hp} {σ:List HP} {ρ:Env} {d:Option Tmp} {ty:TypeId} {pos:String} {aft:Array Edge} {g:Option (Nat × Bool)}
theorem V.move {x:Operand} {v:Value} (h:ρ.ev x=some v):Val P k h0 σ ρ ⟨d,.move x,ty,pos,aft,g⟩ v:=fun a w ha _=>by
  simp[execOp,ha.ev h]
theorem V.assign {x:Operand} {v:Value} (h:ρ.ev x=some v):Val P k h0 σ ρ ⟨d,.assign x,ty,pos,aft,g⟩ v:=fun a w ha _=>by
  simp[execOp,ha.ev h]
theorem V.pickT {c x y:Operand} {v:Value} (hc:ρ.ev c=some (.bool true)) (hx:ρ.ev x=some v):Val P k h0 σ ρ ⟨d,.pick c x y,ty,pos,aft,g⟩ v:=fun a w ha _=>by
  simp[execOp,ha.ev hc,ha.ev hx,asBool]
theorem V.pickF {c x y:Operand} {v:Value} (hc:ρ.ev c=some (.bool false)) (hy:ρ.ev y=some v):Val P k h0 σ ρ ⟨d,.pick c x y,ty,pos,aft,g⟩ v:=fun a w ha _=>by
  simp[execOp,ha.ev hc,ha.ev hy,asBool]
theorem V.extract {x:Operand} {i:Nat} {vs:Array Value} {v:Value} (h:ρ.ev x=some (.tuple vs)) (hi:vs[i]?=some v):Val P k h0 σ ρ ⟨d,.extract x i,ty,pos,aft,g⟩ v:=fun a w ha _=>by
  simp[execOp,ha.ev h,Instr.extract,hi]
theorem run_eqGuard_int {op:BinOp} {t:TypeId} {x y:Operand} {j:IntKind} {a b:Int} {w:World}:(eqGuard op t x y (.int j a) (.int j b)).run P w=.ok () w:=by
  unfold eqGuard
  by_cases h:(!(op matches .eql | .neq))=true
  · simp[h]
  · simp[h]
theorem run_eqGuard_shift {op:BinOp} {t:TypeId} {x y:Operand} {j j':IntKind} {a b:Int} {w:World}:(eqGuard op t x y (.int j a) (.int j' b)).run P w=.ok () w:=by
  unfold eqGuard
  by_cases h:(!(op matches .eql | .neq))=true
  · simp[h]
  · simp[h]
theorem V.add {T U:TypeId} {x y:Operand} {j:IntKind} {a b:Int} (hx:ρ.ev x=some (.int j a)) (hy:ρ.ev y=some (.int j b)):Val P k h0 σ ρ ⟨d,.binOp .add T x y U,ty,pos,aft,g⟩ (.int j (j.wrap (a+b))):=fun A w ha _=>by
  simp[execOp,ha.ev hx,ha.ev hy,run_eqGuard_int,binOp,Op.intArith]
theorem V.sub {T U:TypeId} {x y:Operand} {j:IntKind} {a b:Int} (hx:ρ.ev x=some (.int j a)) (hy:ρ.ev y=some (.int j b)):Val P k h0 σ ρ ⟨d,.binOp .sub T x y U,ty,pos,aft,g⟩ (.int j (j.wrap (a-b))):=fun A w ha _=>by
  simp[execOp,ha.ev hx,ha.ev hy,run_eqGuard_int,binOp,Op.intArith]
theorem V.mul {T U:TypeId} {x y:Operand} {j:IntKind} {a b:Int} (hx:ρ.ev x=some (.int j a)) (hy:ρ.ev y=some (.int j b)):Val P k h0 σ ρ ⟨d,.binOp .mul T x y U,ty,pos,aft,g⟩ (.int j (j.wrap (a*b))):=fun A w ha _=>by
  simp[execOp,ha.ev hx,ha.ev hy,run_eqGuard_int,binOp,Op.intArith]
theorem wrap_i64 {a:Int} (h:-9223372036854775808≤a∧a≤9223372036854775807):IntKind.i64.wrap a=a:=IntWalk.i64_in _ (by omega)
theorem V.add' {T U:TypeId} {x y:Operand} {a b:Int} (hx:ρ.ev x=some (.int .i64 a)) (hy:ρ.ev y=some (.int .i64 b)) (h:-9223372036854775808≤a+b∧a+b≤9223372036854775807):Val P k h0 σ ρ ⟨d,.binOp .add T x y U,ty,pos,aft,g⟩ (.int .i64 (a+b)):=by
  have:=V.add (P:=P) (k:=k) (h0:=h0) (σ:=σ) (d:=d) (ty:=ty) (pos:=pos) (aft:=aft) (g:=g) (T:=T) (U:=U) hx hy
  rwa [wrap_i64 h] at this
theorem V.sub' {T U:TypeId} {x y:Operand} {a b:Int} (hx:ρ.ev x=some (.int .i64 a)) (hy:ρ.ev y=some (.int .i64 b)) (h:-9223372036854775808≤a-b∧a-b≤9223372036854775807):Val P k h0 σ ρ ⟨d,.binOp .sub T x y U,ty,pos,aft,g⟩ (.int .i64 (a-b)):=by
  have:=V.sub (P:=P) (k:=k) (h0:=h0) (σ:=σ) (d:=d) (ty:=ty) (pos:=pos) (aft:=aft) (g:=g) (T:=T) (U:=U) hx hy
  rwa [wrap_i64 h] at this
theorem V.mul' {T U:TypeId} {x y:Operand} {a b:Int} (hx:ρ.ev x=some (.int .i64 a)) (hy:ρ.ev y=some (.int .i64 b)) (h:-9223372036854775808≤a*b∧a*b≤9223372036854775807):Val P k h0 σ ρ ⟨d,.binOp .mul T x y U,ty,pos,aft,g⟩ (.int .i64 (a*b)):=by
  have:=V.mul (P:=P) (k:=k) (h0:=h0) (σ:=σ) (d:=d) (ty:=ty) (pos:=pos) (aft:=aft) (g:=g) (T:=T) (U:=U) hx hy
  rwa [wrap_i64 h] at this
theorem V.lss {T U:TypeId} {x y:Operand} {j:IntKind} {a b:Int} (hx:ρ.ev x=some (.int j a)) (hy:ρ.ev y=some (.int j b)):Val P k h0 σ ρ ⟨d,.binOp .lss T x y U,ty,pos,aft,g⟩ (.bool (decide (a<b))):=fun A w ha _=>by
  simp[execOp,ha.ev hx,ha.ev hy,run_eqGuard_int,binOp,Op.intCmp]
theorem V.leq {T U:TypeId} {x y:Operand} {j:IntKind} {a b:Int} (hx:ρ.ev x=some (.int j a)) (hy:ρ.ev y=some (.int j b)):Val P k h0 σ ρ ⟨d,.binOp .leq T x y U,ty,pos,aft,g⟩ (.bool (decide (a≤b))):=fun A w ha _=>by
  simp[execOp,ha.ev hx,ha.ev hy,run_eqGuard_int,binOp,Op.intCmp]
theorem V.gtr {T U:TypeId} {x y:Operand} {j:IntKind} {a b:Int} (hx:ρ.ev x=some (.int j a)) (hy:ρ.ev y=some (.int j b)):Val P k h0 σ ρ ⟨d,.binOp .gtr T x y U,ty,pos,aft,g⟩ (.bool (decide (b<a))):=fun A w ha _=>by
  simp[execOp,ha.ev hx,ha.ev hy,run_eqGuard_int,binOp,Op.intCmp]
theorem V.geq {T U:TypeId} {x y:Operand} {j:IntKind} {a b:Int} (hx:ρ.ev x=some (.int j a)) (hy:ρ.ev y=some (.int j b)):Val P k h0 σ ρ ⟨d,.binOp .geq T x y U,ty,pos,aft,g⟩ (.bool (decide (b≤a))):=fun A w ha _=>by
  simp[execOp,ha.ev hx,ha.ev hy,run_eqGuard_int,binOp,Op.intCmp]
theorem V.eql {T U:TypeId} {x y:Operand} {j:IntKind} {a b:Int} (hx:ρ.ev x=some (.int j a)) (hy:ρ.ev y=some (.int j b)):Val P k h0 σ ρ ⟨d,.binOp .eql T x y U,ty,pos,aft,g⟩ (.bool (decide (a=b))):=fun A w ha _=>by
  simp[execOp,ha.ev hx,ha.ev hy,run_eqGuard_int,binOp,Op.intCmp]
  rfl
theorem V.neq {T U:TypeId} {x y:Operand} {j:IntKind} {a b:Int} (hx:ρ.ev x=some (.int j a)) (hy:ρ.ev y=some (.int j b)):Val P k h0 σ ρ ⟨d,.binOp .neq T x y U,ty,pos,aft,g⟩ (.bool (decide (a≠b))):=fun A w ha _=>by
  simp[execOp,ha.ev hx,ha.ev hy,run_eqGuard_int,binOp,Op.intCmp]
  by_cases h:a=b <;> simp[h]
theorem V.not {T:TypeId} {x:Operand} {b:Bool} (hx:ρ.ev x=some (.bool b)):Val P k h0 σ ρ ⟨d,.unOp .not T x,ty,pos,aft,g⟩ (.bool (!b)):=fun A w ha _=>by
  simp[execOp,ha.ev hx,Op.unary]
theorem V.neg {T:TypeId} {x:Operand} {j:IntKind} {a:Int} (hx:ρ.ev x=some (.int j a)):Val P k h0 σ ρ ⟨d,.unOp .neg T x,ty,pos,aft,g⟩ (.int j (j.wrap (-a))):=fun A w ha _=>by
  simp[execOp,ha.ev hx,Op.unary,Op.intArith]
theorem V.neg' {T:TypeId} {x:Operand} {a:Int} (hx:ρ.ev x=some (.int .i64 a)) (h:-9223372036854775808≤-a∧-a≤9223372036854775807):Val P k h0 σ ρ ⟨d,.unOp .neg T x,ty,pos,aft,g⟩ (.int .i64 (-a)):=by
  have:=V.neg (P:=P) (k:=k) (h0:=h0) (σ:=σ) (d:=d) (ty:=ty) (pos:=pos) (aft:=aft) (g:=g) (T:=T) hx
  rwa [wrap_i64 h] at this
theorem V.rem {T U:TypeId} {x y:Operand} {j:IntKind} {a b:Int} (hx:ρ.ev x=some (.int j a)) (hy:ρ.ev y=some (.int j b)) (h:b≠0):Val P k h0 σ ρ ⟨d,.binOp .rem T x y U,ty,pos,aft,g⟩ (.int j (a.tmod b)):=fun A w ha _=>by
  simp[execOp,ha.ev hx,ha.ev hy,run_eqGuard_int,binOp,Op.intDiv,h]
theorem V.rem' {T U:TypeId} {x y:Operand} {j:IntKind} {a b:Int} (hx:ρ.ev x=some (.int j a)) (hy:ρ.ev y=some (.int j b)) (h:0≤a∧0<b):Val P k h0 σ ρ ⟨d,.binOp .rem T x y U,ty,pos,aft,g⟩ (.int j (a%b)):=fun A w ha _=>by
  have h':b≠0:=by omega
  simp[execOp,ha.ev hx,ha.ev hy,run_eqGuard_int,binOp,Op.intDiv,h',Int.tmod_eq_emod_of_nonneg h.1]
theorem V.quo' {T U:TypeId} {x y:Operand} {a b:Int} (hx:ρ.ev x=some (.int .i64 a)) (hy:ρ.ev y=some (.int .i64 b)) (h:0≤a∧a≤9223372036854775807∧0<b):Val P k h0 σ ρ ⟨d,.binOp .quo T x y U,ty,pos,aft,g⟩ (.int .i64 (a/b)):=fun A w ha _=>by
  have h':b≠0:=by omega
  have h1:0≤a/b:=Int.ediv_nonneg h.1 (by omega)
  have h2:a/b≤a:=Int.ediv_le_self b h.1
  simp[execOp,ha.ev hx,ha.ev hy,run_eqGuard_int,binOp,Op.intDiv,h',Int.tdiv_eq_ediv_of_nonneg h.1,wrap_i64 (a:=a/b) (by omega)]
end
open Go.RowKit
def aggB:TypeDesc→Bool
  | .struct _ | .array _ _=>true
  | _=>false
def scal (P:Program) (T:TypeId):Bool:=match P.underlying T,P.info? T with
  | some d,some i=>!aggB d && i.size == 1
  | _,_=>false
def agg (P:Program) (T:TypeId):Option Nat:=match P.underlying T,P.info? T with
  | some d,some i=>if aggB d then some i.size else none
  | _,_=>none
def fldOff (P:Program) (S f:Nat):Option Nat:=match P.underlying S with
  | some (.struct fs)=>match fs[f]? with
    | some x=>match P.info? x.type with
      | some i=>if i.size=0 then none else some x.offset
      | none=>none
    | none=>none
  | _=>none
def arrE (P:Program) (T:TypeId):Option (Nat × Nat × Bool):=match P.underlying T with
  | some (.array len e)=>match P.info? e,P.underlying e with
    | some i,some d=>some (len,i.size,aggB d)
    | _,_=>none
  | _=>none
def slcE (P:Program) (T:TypeId):Option (TypeId × Nat × Nat):=match P.underlying T with
  | some (.slice e)=>match P.info? e with
    | some i=>some (e,i.size,i.bytes)
    | none=>none
  | _=>none
def zer (P:Program) (T:TypeId):Option (List Value):=match P.info? T with
  | some i=>i.zero.map fun v=>v.cells.toList
  | none=>none
section
variable {P:Program} {w:World}
theorem run_underlying' {T:TypeId} {d:TypeDesc} (h:P.underlying T=some d):(underlying T).run P w=.ok d w:=by
  simp[underlying,h]
theorem run_typeInfo' {T:TypeId} {i:TypeInfo} (h:P.info? T=some i):(typeInfo T).run P w=.ok i w:=by
  simp[typeInfo,h]
theorem run_sizeOf' {T:TypeId} {i:TypeInfo} (h:P.info? T=some i):(sizeOf T).run P w=.ok i.size w:=by
  simp[sizeOf,run_typeInfo' h]
theorem run_zeroValue' {T:TypeId} {i:TypeInfo} {v:Value} (h:P.info? T=some i) (hz:i.zero=some v):(zeroValue T).run P w=.ok v w:=by
  simp[zeroValue,run_typeInfo' h,hz]
theorem scal_spec {T:TypeId} (h:scal P T=true):(isAgg T).run P w=.ok false w∧(sizeOf T).run P w=.ok 1 w:=by
  unfold scal at h
  cases hd:P.underlying T with
  | none=>rw[hd] at h;cases h
  | some d=>
    cases hi:P.info? T with
    | none=>rw[hd,hi] at h;cases h
    | some i=>
      rw[hd,hi] at h
      simp only[Bool.and_eq_true,Bool.not_eq_true',beq_iff_eq] at h
      refine⟨?_,by rw[run_sizeOf' hi,h.2]⟩
      unfold isAgg
      rw[Sem.run_bind,run_underlying' hd]
      cases d <;> first | rfl | (simp[aggB] at h)
theorem agg_spec {T:TypeId} {n:Nat} (h:agg P T=some n):(isAgg T).run P w=.ok true w∧(sizeOf T).run P w=.ok n w:=by
  unfold agg at h
  cases hd:P.underlying T with
  | none=>rw[hd] at h;cases h
  | some d=>
    cases hi:P.info? T with
    | none=>rw[hd,hi] at h;cases h
    | some i=>
      rw[hd,hi] at h
      simp only at h
      split at h
      · rename_i ha
        obtain rfl:=Option.some.inj h
        refine⟨?_,run_sizeOf' hi⟩
        unfold isAgg
        rw[Sem.run_bind,run_underlying' hd]
        cases d <;> first | rfl | (simp[aggB] at ha)
      · cases h
end
section
variable {P:Program} {k:World} {h0:Hp} {σ:List HP} {ρ:Env} {d:Option Tmp} {ty:TypeId} {pos:String} {aft:Array Edge} {g:Option (Nat × Bool)}
theorem Addr.add_zero (a:Addr):a.add 0=a:=rfl
theorem Addr.add_at (b o n:Nat):(Addr.mk b o none).add n=⟨b,o+n,none⟩:=by
  unfold Addr.add
  split
  · rename_i h;subst h;rfl
  · rfl
theorem V.load {T:TypeId} {x:Operand} {a:Addr} {v:Value} (hT:scal P T=true) (hx:ρ.ev x=some (.pointer (some a))) (hr:Rd h0 σ a v):Val P k h0 σ ρ ⟨d,.load T x,ty,pos,aft,g⟩ v:=fun A w ha hs=>by
  have e:=(scal_spec (w:=w) hT).1
  have c:=hr k w hs
  simp[execOp,ha.ev hx,Instr.loadAt,Instr.sureAddr,loadVar,e,c]
def Rds (h0:Hp) (σ:List HP) (b o:Nat) (vs:List Value):Prop:=∀ i v,vs[i]?=some v→Rd h0 σ ⟨b,o+i,none⟩ v
theorem run_loadCellsFrom {w:World} {b o:Nat}:∀ (vs:List Value) (i:Nat) (acc:Array Value),(∀ j v,vs[j]?=some v→w.cell? ⟨b,o+(i+j),none⟩=some v)→
    (loadCellsFrom ⟨b,o,none⟩ i vs.length acc).run P w=.ok (acc++vs.toArray) w
  | [],i,acc,_=>by simp[loadCellsFrom]
  | v::vs,i,acc,h=>by
    have h0:=h 0 v rfl
    simp only[Nat.add_zero] at h0
    simp only[List.length_cons,loadCellsFrom,Addr.add_at,Sem.run_bind,run_load,h0,Result.andThen_ok]
    rw[run_loadCellsFrom vs (i+1) (acc.push v) (fun j u hj=>by
     have:=h (j+1) u (by simpa using hj)
     rwa [show o+(i+1+j)=o+(i+(j+1)) by omega])]
    simp
theorem V.loadN {T:TypeId} {x:Operand} {b o n:Nat} {vs:List Value} (hT:agg P T=some n) (hx:ρ.ev x=some (.pointer (some ⟨b,o,none⟩))) (hn:vs.length=n) (hr:Rds h0 σ b o vs) :
    Val P k h0 σ ρ ⟨d,.load T x,ty,pos,aft,g⟩ (.agg vs.toArray):=fun A w ha hs=>by
  obtain⟨e1,e2⟩:=agg_spec (w:=w) hT
  have c:=run_loadCellsFrom (P:=P) (w:=w) (b:=b) (o:=o) vs 0 #[] (fun j v hj=>by simpa using hr j v hj k w hs)
  simp[execOp,ha.ev hx,Instr.loadAt,Instr.sureAddr,loadVar,e1,e2,loadCells,← hn,c]
theorem Rds.own {b o:Nat} {cs vs:List Value} {T:TypeId} (i:Nat) (hi:σ[i]?=some (cl b cs T)) (h:(cs.drop o).take vs.length=vs):Rds h0 σ b o vs:=fun j v hj=>
  Rd.own i hi (by
   have hlt:j<vs.length:=by
    rcases Nat.lt_or_ge j vs.length with g | g
    · exact g
    · rw[List.getElem?_eq_none g] at hj;cases hj
   have:((cs.drop o).take vs.length)[j]?=some v:=by rw[h];exact hj
   rw[List.getElem?_take,if_pos hlt,List.getElem?_drop] at this
   exact this)
theorem cells_scalar {v:Value} (h1:v.oneCell'=true):v.cells=#[v]:=by cases v <;> first | rfl | (simp[Value.oneCell'] at h1)
theorem E.store {T:TypeId} {x y:Operand} {a:Addr} {v:Value} {τ:List HP} (hT:scal P T=true) (hx:ρ.ev x=some (.pointer (some a))) (hy:ρ.ev y=some v) (h1:v.oneCell'=true) (hw:Wr σ a v τ) :
    Eff P k h0 σ ρ ⟨d,.store T x y,ty,pos,aft,g⟩ τ:=fun A w ha hs=>by
  obtain⟨⟨u,hu⟩,hf,hs'⟩:=hw k h0 w hs
  refine⟨w.setCell a v,?_,hs'⟩
  have e:=(scal_spec (w:=w) hT).2
  have e2:(Go.store a v).run P w=.ok () (w.setCell a v):=by rw[run_store _ _ _ _ _ h1,hu];simp[hf]
  simp[execOp,ha.ev hx,ha.ev hy,Instr.storeAt,Instr.sureAddr,storeVar,e,cells_scalar h1,storeCells,Addr.add_zero,e2]
def Wrs (P:Program) (σ:List HP) (b o:Nat) (vs:List Value) (τ:List HP):Prop:=∀ k h0 w,St k h0 σ w→∃ w',(storeCells ⟨b,o,none⟩ vs).run P w=.ok () w'∧St k h0 τ w'
theorem E.storeN {T:TypeId} {x y:Operand} {b o n:Nat} {vs:List Value} {τ:List HP} (hT:agg P T=some n) (hx:ρ.ev x=some (.pointer (some ⟨b,o,none⟩))) (hy:ρ.ev y=some (.agg vs.toArray)) (hn:vs.length=n) (hw:Wrs P σ b o vs τ) :
    Eff P k h0 σ ρ ⟨d,.store T x y,ty,pos,aft,g⟩ τ:=fun A w ha hs=>by
  obtain⟨w',hr,hs'⟩:=hw k h0 w hs
  refine⟨w',?_,hs'⟩
  have e:=(agg_spec (w:=w) hT).2
  simp[execOp,ha.ev hx,ha.ev hy,Instr.storeAt,Instr.sureAddr,storeVar,e,Value.cells,hn,hr]
def over (cs:List Value) (o:Nat):List Value→List Value
  | []=>cs
  | v::vs=>over (cs.set o v) (o+1) vs
theorem Wrs.aux {b T:Nat}:∀ (vs:List Value) (o j:Nat) (σ:List HP) (i:Nat) (cs:List Value) (w:World),σ[i]?=some (cl b cs T)→o+j+vs.length≤cs.length→(∀ v∈vs,v.oneCell'=true)→St k h0 σ w→
    ∃ w',(storeCells ⟨b,o,none⟩ vs j).run P w=.ok () w'∧St k h0 (σ.set i (cl b (over cs (o+j) vs) T)) w'
  | [],o,j,σ,i,cs,w,hi,_,_,hs=>⟨w,rfl,by
     have:σ.set i (cl b cs T)=σ:=by
      apply List.ext_getElem?
      intro m
      rw[List.getElem?_set]
      split
      · rename_i h;subst h;split
        · exact hi.symm
        · rename_i h;rw[List.getElem?_eq_none (by omega)]
      · rfl
     rw[over,this];exact hs⟩
  | v::vs,o,j,σ,i,cs,w,hi,hlen,h1,hs=>by
    simp only[List.length_cons] at hlen
    obtain⟨⟨u,hu⟩,hf,hs'⟩:=Wr.own (v:=v) (off:=o+j) i hi (by omega) k h0 w hs
    have hil:i<σ.length:=by
     rcases Nat.lt_or_ge i σ.length with g | g
     · exact g
     · rw[List.getElem?_eq_none g] at hi;cases hi
    obtain⟨w',hr,hs''⟩:=Wrs.aux (b:=b) (T:=T) vs o (j+1) (σ.set i (cl b (cs.set (o+j) v) T)) i (cs.set (o+j) v) _ (by rw[List.getElem?_set];simp[hil]) (by simp;omega) (fun x hx=>h1 x (List.mem_cons_of_mem _ hx)) hs'
    refine⟨w',?_,?_⟩
    · have e2:(Go.store ⟨b,o+j,none⟩ v).run P w=.ok () (w.setCell ⟨b,o+j,none⟩ v):=by rw[run_store _ _ _ _ _ (h1 v List.mem_cons_self),hu];simp[hf]
      simp only[storeCells,Addr.add_at,Sem.run_bind,e2,Result.andThen_ok]
      exact hr
    · rw[List.set_set] at hs''
      simpa [over,Nat.add_assoc] using hs''
theorem Wrs.own {b o T:Nat} {cs vs:List Value} (i:Nat) (hi:σ[i]?=some (cl b cs T)) (hlen:o+vs.length≤cs.length) (h1:∀ v∈vs,v.oneCell'=true):Wrs P σ b o vs (σ.set i (cl b (over cs o vs) T)):=
  fun _ _ w hs=>by simpa using Wrs.aux vs o 0 σ i cs w hi (by simpa using hlen) h1 hs
theorem over_all:∀ (vs pre cs:List Value),cs.length=vs.length→over (pre++cs) pre.length vs=pre++vs
  | [],pre,cs,h=>by simp at h;simp[over,h]
  | v::vs,pre,[],h=>by simp at h
  | v::vs,pre,c::cs,h=>by
    simp only[over]
    have:(pre++c::cs).set pre.length v=(pre++[v])++cs:=by simp
    rw[this]
    have:=over_all vs (pre++[v]) cs (by simpa using h)
    simp only[List.length_append,List.length_cons,List.length_nil] at this
    simpa using this
theorem Wrs.all {b T:Nat} {cs vs:List Value} (i:Nat) (hi:σ[i]?=some (cl b cs T)) (hlen:cs.length=vs.length) (h1:∀ v∈vs,v.oneCell'=true):Wrs P σ b 0 vs (σ.set i (cl b vs T)):=by
  have:=Wrs.own (P:=P) (o:=0) i hi (by omega) h1
  have e:=over_all vs [] cs hlen
  simp only[List.nil_append,List.length_nil] at e
  rwa [e] at this
theorem M.box {T:TypeId} {x:Operand} {v:Value} {cs:List Value} (hx:ρ.ev x=some v) (hc:v.cells=cs.toArray) :
    Mem P k h0 σ ρ ⟨d,.box T x,ty,pos,aft,g⟩ (fun b:Nat=>.pointer (some ⟨b,0,none⟩)) (fun b=>cl b cs T::σ):=fun A w ha hs=>
  ⟨w.heap.size,_,by simp only[execOp,ha.ev hx,Instr.box,newVar,newRow,hc];rfl,hs.newC _ _⟩
theorem M.alloc {T:TypeId} {cs:List Value} (hz:zer P T=some cs) :
    Mem P k h0 σ ρ ⟨d,.alloc T,ty,pos,aft,g⟩ (fun b:Nat=>.pointer (some ⟨b,0,none⟩)) (fun b=>cl b cs T::σ):=fun A w ha hs=>by
  unfold zer at hz
  cases hi:P.info? T with
  | none=>rw[hi] at hz;cases hz
  | some i=>
    rw[hi] at hz
    cases hz0:i.zero with
    | none=>simp[hz0] at hz
    | some z=>
      simp[hz0] at hz
      refine⟨w.heap.size,_,?_,hs.newC _ _⟩
      simp only[execOp,Instr.alloc,Sem.run_bind,run_zeroValue' hi hz0,Result.andThen_ok,newVar,newRow]
      subst hz
      rfl
theorem fieldPlace_at {w:World} {b o off:Nat} {S f:Nat} {fs:Array Field} {x:Field} (hS:P.underlying S=some (.struct fs)) (hf:fs[f]?=some x) (h:fldOff P S f=some off) :
    (fieldPlace ⟨b,o,none⟩ x).run P w=.ok ⟨b,o+off,none⟩ w:=by
  unfold fldOff at h
  rw[hS] at h
  simp only[hf] at h
  cases hi:P.info? x.type with
  | none=>rw[hi] at h;cases h
  | some i=>
    rw[hi] at h
    simp only at h
    split at h
    · cases h
    · rename_i hn
      obtain rfl:=Option.some.inj h
      simp[fieldPlace,run_sizeOf' hi,hn,Addr.add_at]
theorem V.fieldAddr {S f:Nat} {x:Operand} {b o off o':Nat} (hf:fldOff P S f=some off) (hx:ρ.ev x=some (.pointer (some ⟨b,o,none⟩))) (ho:o+off=o') :
    Val P k h0 σ ρ ⟨d,.fieldAddr S x f,ty,pos,aft,g⟩ (.pointer (some ⟨b,o',none⟩)):=fun A w ha hs=>by
  have hf0:=hf
  unfold fldOff at hf0
  cases hS:P.underlying S with
  | none=>rw[hS] at hf0;cases hf0
  | some D=>
    rw[hS] at hf0
    cases D <;> try (cases hf0;done)
    rename_i fs
    simp only at hf0
    cases hx':fs[f]? with
    | none=>rw[hx'] at hf0;cases hf0
    | some y=>
      have:=fieldPlace_at (P:=P) (w:=w) (b:=b) (o:=o) hS hx' hf
      subst ho
      simp[execOp,ha.ev hx,Instr.fieldAt,run_underlying' hS,hx',Instr.sureAddr,this]
theorem slcE_spec {T E sz by_:Nat} (h:slcE P T=some (E,sz,by_)):P.underlying T=some (.slice E)∧∃ i,P.info? E=some i∧i.size=sz∧i.bytes=by_:=by
  unfold slcE at h
  cases hS:P.underlying T with
  | none=>rw[hS] at h;cases h
  | some D=>
    rw[hS] at h
    cases D <;> try (cases h;done)
    rename_i e
    simp only at h
    cases hi:P.info? e with
    | none=>rw[hi] at h;cases h
    | some i=>
      rw[hi] at h
      simp only[Option.some.injEq,Prod.mk.injEq] at h
      obtain⟨rfl,rfl,rfl⟩:=h
      exact⟨rfl,i,hi,rfl,rfl⟩
theorem arrE_spec {T len sz:Nat} {ag:Bool} (h:arrE P T=some (len,sz,ag)):∃ E,P.underlying T=some (.array len E)∧(∃ i,P.info? E=some i∧i.size=sz)∧∃ D,P.underlying E=some D∧aggB D=ag:=by
  unfold arrE at h
  cases hS:P.underlying T with
  | none=>rw[hS] at h;cases h
  | some D=>
    rw[hS] at h
    cases D <;> try (cases h;done)
    rename_i n e
    simp only at h
    cases hi:P.info? e with
    | none=>rw[hi] at h;cases h
    | some i=>
      cases hd:P.underlying e with
      | none=>rw[hi,hd] at h;cases h
      | some D=>
        rw[hi,hd] at h
        simp only[Option.some.injEq,Prod.mk.injEq] at h
        obtain⟨rfl,rfl,rfl⟩:=h
        exact⟨e,rfl,⟨i,hi,rfl⟩,D,hd,rfl⟩
theorem V.indexS {T E sz by_:Nat} {x y:Operand} {b o len cap:Nat} {j:IntKind} {i:Int} (hT:slcE P T=some (E,sz,by_)) (hx:ρ.ev x=some (.slice (some ⟨b,o,none⟩) len cap)) (hy:ρ.ev y=some (.int j i)) (hb:0≤i∧i<len) :
    Val P k h0 σ ρ ⟨d,.indexAddr T x y,ty,pos,aft,g⟩ (.pointer (some ⟨b,o+i.toNat*sz,none⟩)):=fun A w ha hs=>by
  obtain⟨hu,ii,hi,h1,h2⟩:=slcE_spec hT
  simp[execOp,ha.ev hx,ha.ev hy,Instr.indexAt,asIntOf,run_underlying' hu,hb,run_sizeOf' hi,h1,Addr.add_at]
theorem V.indexA {T len sz:Nat} {ag:Bool} {x y:Operand} {b o:Nat} {j:IntKind} {i:Int} (hT:arrE P T=some (len,sz,ag)) (hx:ρ.ev x=some (.pointer (some ⟨b,o,none⟩))) (hy:ρ.ev y=some (.int j i)) (hb:0≤i∧i<len) :
    Val P k h0 σ ρ ⟨d,.indexAddr T x y,ty,pos,aft,g⟩ (.pointer (some ⟨b,o+i.toNat*sz,none⟩)):=fun A w ha hs=>by
  obtain⟨E,hu,⟨ii,hi,h1⟩,_⟩:=arrE_spec hT
  simp[execOp,ha.ev hx,ha.ev hy,Instr.indexAt,asIntOf,run_underlying' hu,hb,run_sizeOf' hi,h1,Addr.add_at,Instr.sureAddr]
theorem V.index {T len:Nat} {x y:Operand} {cs:Array Value} {j:IntKind} {i:Int} {v:Value} (hT:arrE P T=some (len,1,false)) (hx:ρ.ev x=some (.agg cs)) (hy:ρ.ev y=some (.int j i)) (hb:0≤i∧i<len) (hv:cs[i.toNat]?=some v) :
    Val P k h0 σ ρ ⟨d,.index T x y,ty,pos,aft,g⟩ v:=fun A w ha hs=>by
  obtain⟨E,hu,⟨ii,hi,h1⟩,D,hD,hag⟩:=arrE_spec hT
  have:(isAgg E).run P w=.ok false w:=by
   unfold isAgg
   rw[Sem.run_bind,run_underlying' hD]
   cases D <;> first | rfl | (simp[aggB] at hag)
  simp[execOp,ha.ev hx,ha.ev hy,Instr.index,asIntOf,run_underlying' hu,hb,run_sizeOf' hi,h1,part,this,hv]
theorem V.nilCheck {x:Operand} {a:Addr} (hx:ρ.ev x=some (.pointer (some a))):Val P k h0 σ ρ ⟨d,.nilCheck x,ty,pos,aft,g⟩ (.pointer (some a)):=fun A w ha hs=>by
  simp[execOp,ha.ev hx]
theorem V.convInt {T U:TypeId} {x:Operand} {j j' D:_} {n:Int} (hT:P.underlying T=some D) (hU:P.underlying U=some (.int j')) (hx:ρ.ev x=some (.int j n)):Val P k h0 σ ρ ⟨d,.convert T U x,ty,pos,aft,g⟩ (.int j' (j'.wrap n)):=fun A w ha hs=>by
  simp[execOp,ha.ev hx,convert,run_underlying' hT,run_underlying' hU,Conv.intToInt]
theorem V.lenS {T:TypeId} {x:Operand} {E sz by_:Nat} {a:Option Addr} {len cap:Nat} {tt:Array TypeId} (hT:slcE P T=some (E,sz,by_)) (htt:tt[0]?=some T) (hx:ρ.ev x=some (.slice a len cap)) :
    Val P k h0 σ ρ ⟨d,.call ⟨.builtin .len,#[x],tt⟩,ty,pos,aft,g⟩ (.int .i64 len):=fun A w ha hs=>by
  obtain⟨hu,_⟩:=slcE_spec hT
  simp[execOp,resolve,invoke,builtin,Builtin.len_,ha.ev hx,htt,run_underlying' hu,goInt]
theorem run_equal_ptr_nil {T E:TypeId} {p:Option Addr} {w:World} (hT:P.underlying T=some (.pointer E)):(Op.equal T (.pointer p) (.pointer none)).run P w=.ok p.isNone w:=by
  unfold Op.equal
  rw[show Op.maxDepth=9999+1 from rfl]
  unfold Op.equalIn
  rw[Sem.run_bind,run_underlying' hT]
  cases p <;> rfl
theorem V.eqlPtrNil {T U E:TypeId} {x:Operand} {p:Option Addr} (hT:P.underlying T=some (.pointer E)) (hx:ρ.ev x=some (.pointer p)):Val P k h0 σ ρ ⟨d,.binOp .eql T x (.const (.pointer none)) U,ty,pos,aft,g⟩ (.bool p.isNone):=fun A w ha hs=>by
  have:=run_equal_ptr_nil (P:=P) (p:=p) (w:=w) hT
  have e0:∀ v,A.eval (.const v)=v:=fun _=>rfl
  simp only[execOp,ha.ev hx,e0]
  simp[eqGuard,binOp,this]
theorem V.neqPtrNil {T U E:TypeId} {x:Operand} {p:Option Addr} (hT:P.underlying T=some (.pointer E)) (hx:ρ.ev x=some (.pointer p)):Val P k h0 σ ρ ⟨d,.binOp .neq T x (.const (.pointer none)) U,ty,pos,aft,g⟩ (.bool (!p.isNone)):=fun A w ha hs=>by
  have:=run_equal_ptr_nil (P:=P) (p:=p) (w:=w) hT
  have e0:∀ v,A.eval (.const v)=v:=fun _=>rfl
  simp only[execOp,ha.ev hx,e0]
  simp[eqGuard,binOp,this]
theorem V.mkIface {T:TypeId} {x:Operand} {v:Value} {D:TypeDesc} (hT:P.underlying T=some D) (hD:(match D with | .interface _=>false | _=>true)=true) (hx:ρ.ev x=some v):Val P k h0 σ ρ ⟨d,.makeInterface T x,ty,pos,aft,g⟩ (.iface T v):=fun A w ha hs=>by
  cases D <;> simp[execOp,ha.ev hx,Instr.makeInterface,run_underlying' hT] at hD ⊢
theorem V.mkFunc {fn:Fn} {cap:Array Operand} {vs:List Value} (hc:cap.toList.map ρ.ev=vs.map some):Val P k h0 σ ρ ⟨d,.makeFunc fn #[] cap,ty,pos,aft,g⟩ (.func fn #[] vs.toArray):=fun A w ha hs=>by
  have:cap.map A.eval=vs.toArray:=by
   apply Array.ext'
   simp only[Array.toList_map]
   revert hc
   generalize cap.toList=l
   intro hc
   induction l generalizing vs with
   | nil=>cases vs <;> simp at hc ⊢
   | cons x l ih=>
     cases vs with
     | nil=>simp at hc
     | cons v vs=>
       simp only[List.map_cons,List.cons.injEq] at hc ⊢
       exact⟨ha.ev hc.1,ih hc.2⟩
  simp[execOp,Instr.makeFunc,this]
end
open Go.RowKit
def IsFn (P:Program) (f:FuncId):Prop:=∃ fn,P.funcs[f]?=some fn∧(fn.name == "runtime.NumGoroutine")=false∧fn.body.isNone=false
theorem IsFn.mk {P:Program} {f:FuncId} {fn:Func} (h:P.funcs[f]?=some fn) (h2:((fn.name == "runtime.NumGoroutine") || fn.body.isNone)=false):IsFn P f:=by
  simp only[Bool.or_eq_false_iff] at h2
  exact⟨fn,h,h2.1,h2.2⟩
theorem run_callFunc {P:Program} {f:FuncId} (h:IsFn P f) (args:Array Value) (w:World):(callFunc f args).run P w=.ok (.enter f args) w:=by
  obtain⟨fn,h1,h2,h3⟩:=h
  unfold callFunc
  simp only[Sem.run_bind,run_program,Result.andThen_ok,h1,h2,h3]
  rfl
def evs (ρ:Env):List Operand→Option (List Value)
  | []=>some []
  | x::r=>match ρ.ev x,evs ρ r with
    | some v,some vs=>some (v::vs)
    | _,_=>none
theorem evs_map {ρ:Env} {a:Act} (ha:ρ.Ok a):∀ (l:List Operand) (vs:List Value),evs ρ l=some vs→l.toArray.map a.eval=vs.toArray:=by
  intro l
  induction l with
  | nil=>intro vs h;simp only[evs,Option.some.injEq] at h;subst h;simp
  | cons x l ih=>
    intro vs h
    simp only[evs] at h
    cases hx:ρ.ev x with
    | none=>rw[hx] at h;simp at h
    | some v=>
      cases hl:evs ρ l with
      | none=>rw[hx,hl] at h;simp at h
      | some us=>
        rw[hx,hl] at h
        simp only[Option.some.injEq] at h
        subst h
        have:=ih us hl
        have e:=congrArg Array.toList this
        simp only[Array.toList_map] at e
        apply Array.ext'
        simp only[Array.toList_map,List.map_cons,ha.ev hx]
        rw[e]
section
variable {P:Program} {k:World} {h0:Hp} {Q:Post} {σ:List HP} {K:Env→List HP→Prop} {ops rest:List Oper}
  {n:Nat} {ds:List Deferred} {l:List (Nat × Value)}
def Aft (Q:Post) (ρ:Env) (next:Value→List HP→Prop):Ending→List HP→Prop
  | .returned v,τ=>next v τ
  | .panicked ch,τ=>Q (.panic ch) ρ τ
  | .outgrown,_=>False
theorem WL.enter {d:Nat} {op:Op} {ty:TypeId} {pos:String} {aft:Array Edge} {g:Option (Nat × Bool)} {f:FuncId} {vs:List Value} {ρ:Env}
    (hw:wantE ops ρ g=some true) (hd:Nat.blt d ρ.n=true)
    (hrun:∀ a w,ρ.Ok a→St k h0 σ w→(execOp a.eval ⟨some d,op,ty,pos,aft,g⟩).run P w=.ok (.enter f vs.toArray) w)
    (hc:FT P f vs k h0 σ (Aft Q ρ fun v τ=>WL P k h0 ops K Q rest (ρ.put d v) τ)):WL P k h0 ops K Q (⟨some d,op,ty,pos,aft,g⟩::rest) ρ σ:=fun a w ha hs=>by
  have hw':=wanted_of (o:=⟨some d,op,ty,pos,aft,g⟩) ha hw
  unfold wpList
  rw[if_pos hw']
  refine .inl ?_
  unfold Oper.wp
  rw[hrun a w ha hs]
  refine (hc w hs).mono fun e w' ⟨τ,hs',hr⟩=>?_
  cases e with
  | returned v=>exact hr _ w' (ha.put hd v) hs'
  | panicked ch=>exact⟨ρ,τ,ha,hs',hr⟩
  | outgrown=>exact hr.elim
theorem run_call_func {ρ:Env} {a:Act} {w:World} {d:Option Tmp} {ty:TypeId} {pos:String} {aft:Array Edge} {g:Option (Nat × Bool)} {f:FuncId} {args:List Operand} {tt:Array TypeId} {vs:List Value} (hf:IsFn P f) (hv:evs ρ args=some vs) (ha:ρ.Ok a) :
    (execOp a.eval ⟨d,.call ⟨.value (.func f),args.toArray,tt⟩,ty,pos,aft,g⟩).run P w=.ok (.enter f vs.toArray) w:=by
  have e:=evs_map ha args vs hv
  have e0:a.eval (.func f)=.func (.func f) #[] #[]:=rfl
  simp only[execOp,resolve,e0,e,Deferred.ofValue,Sem.run_bind,Sem.run_pure,Result.andThen_ok,invoke]
  have:(#[]:Array Value)++vs.toArray++#[]=vs.toArray:=by simp
  rw[this]
  exact run_callFunc hf _ w
theorem WL.call {d:Nat} {ty:TypeId} {pos:String} {aft:Array Edge} {g:Option (Nat × Bool)} {f:FuncId} {args:List Operand} {tt:Array TypeId} {vs:List Value}
    (hw:wantE ops ⟨n,ds,l⟩ g=some true) (hd:Nat.blt d n=true) (hf:IsFn P f) (hv:evs ⟨n,ds,l⟩ args=some vs)
    {R:Value→List HP→Prop} (hc:FT P f vs k h0 σ (Ret R)) (h:∀ v τ,R v τ→WL P k h0 ops K Q rest ⟨n,ds,(d,v)::l⟩ τ) :
    WL P k h0 ops K Q (⟨some d,.call ⟨.value (.func f),args.toArray,tt⟩,ty,pos,aft,g⟩::rest) ⟨n,ds,l⟩ σ:=
  WL.enter hw hd (fun a w ha _=>run_call_func hf hv ha) (hc.mono fun e τ ⟨v,he,hr⟩=>by subst he;exact h v τ hr)
def Is (v:Value):Ending→List HP→Prop:=fun e _=>e=.returned v
theorem Ent.left (σ τ:List HP):Ent (σ++τ) τ:=fun k h0 w h=>by
  induction σ with
  | nil=>exact h
  | cons p σ ih=>exact ih h.tail
theorem WL.callV {d:Nat} {ty:TypeId} {pos:String} {aft:Array Edge} {g:Option (Nat × Bool)} {f:FuncId} {args:List Operand} {tt:Array TypeId} {vs:List Value} {v:Value}
    (hw:wantE ops ⟨n,ds,l⟩ g=some true) (hd:Nat.blt d n=true) (hf:IsFn P f) (hv:evs ⟨n,ds,l⟩ args=some vs)
    (hc:∀ g,Stars σ g→h0.Dj g→FT P f vs k (h0.un g) [] (Is v)) (h:WL P k h0 ops K Q rest ⟨n,ds,(d,v)::l⟩ σ) :
    WL P k h0 ops K Q (⟨some d,.call ⟨.value (.func f),args.toArray,tt⟩,ty,pos,aft,g⟩::rest) ⟨n,ds,l⟩ σ:=
  WL.enter hw hd (fun a w ha _=>run_call_func hf hv ha) ((FT.frame (σ:=[]) hc).mono fun e τ ⟨σ'',hτ,he⟩=>by
   subst hτ
   have he:e=.returned v:=he
   subst he
   exact WL.ent (Ent.left _ _) h)
end
open Go.RowKit
section
variable {P:Program} {ops:Array Oper} {Q:Exit→Act→World→Prop}
def wpAnyZ (P:Program) (ops:Array Oper) (Q:Exit→Act→World→Prop) (S:Array Bool→World→Prop):Nat→Array Bool→Act→World→Prop
  | 0,listed,a,w=>Region.ready .any ops listed=[]∧Q .normal a w
  | fuel+1,listed,a,w=>
    (Region.ready .any ops listed=[]→Q .normal a w)∧
    ∀ i∈Region.ready .any ops listed,wpOp P ops Q i (fun a' w'=>S (listed.setIfInBounds i true) w'∧wpAnyZ P ops Q S fuel (listed.setIfInBounds i true) a' w') a w
theorem wpAny_of_Z {S:Array Bool→World→Prop}:∀ (fuel:Nat) (listed:Array Bool) (a:Act) (w:World),wpAnyZ P ops Q S fuel listed a w→wpAny P .any ops Q fuel listed a w
  | 0,_,_,_,h=>h
  | fuel+1,_,_,_,h=>⟨h.1,fun i hi=>wpOp_mono (fun a' w' h'=>wpAny_of_Z fuel _ a' w' h'.2) (h.2 i hi)⟩
def Closed (ops:Array Oper) (listed:Array Bool):Prop:=∀ j o,ops[j]?=some o→listed.getD j false=true→∀ e∈o.after,Region.binds .any e=true→listed.getD e.on false=true
theorem Closed.set {listed:Array Bool} (h:Closed ops listed) {i:Nat} (hi:i∈Region.ready .any ops listed):Closed ops (listed.setIfInBounds i true):=fun j o ho hj e he hb=>by
  by_cases hij:i=j
  · subst hij
    obtain⟨_,o',ho',hall⟩:=mem_ready.1 hi
    rw[ho] at ho'
    obtain rfl:=Option.some.inj ho'
    exact getD_set_true (hall e he hb)
  · rw[getD_set_ne false hij] at hj
    exact getD_set_true (h j o ho hj e he hb)
def waits (ops:Array Oper):Nat→Nat→Nat→Bool
  | 0,_,_=>false
  | f+1,z,i=>match ops[z]? with
    | some o=>o.after.any fun e=>Region.binds .any e && (e.on == i || waits ops f e.on i)
    | none=>true
theorem waits_spec {listed:Array Bool} (hc:Closed ops listed) (hsz:listed.size=ops.size) {i:Nat} (hi:listed.getD i false=false):∀ (f z:Nat),waits ops f z i=true→listed.getD z false=false
  | 0,_,h=>by cases h
  | f+1,z,h=>by
    simp only[waits] at h
    cases ho:ops[z]? with
    | none=>
      have:ops.size≤z:=by
       rcases Nat.lt_or_ge z ops.size with g | g
       · rw[Array.getElem?_eq_getElem g] at ho;cases ho
       · exact g
      simp[Array.getElem?_eq_none (show listed.size≤z by omega)]
    | some o=>
      rw[ho] at h
      obtain⟨e,he,hb⟩:=Array.any_eq_true'.1 h
      simp only[Bool.and_eq_true,Bool.or_eq_true,beq_iff_eq] at hb
      cases hz:listed.getD z false with
      | false=>rfl
      | true=>
        have hon:=hc z o ho hz e he hb.1
        rcases hb.2 with e1 | e1
        · rw[e1,hi] at hon;cases hon
        · rw[waits_spec hc hsz hi f e.on e1] at hon;cases hon
theorem wpAnyZ_first {S:Array Bool→World→Prop} {i:Nat} {oi:Oper} {v:Value} (hi:ops[i]?=some oi) (hsel:∀ (j:Nat) (o:Oper) cs b,ops[j]?=some o→o.op≠.select cs b)
    (hQ:∀ c a w,Q (.panic c) (a.put oi.dst v) w→Q (.panic c) a w) {C:World→Prop}
    (hinv:∀ listed w,S (listed.setIfInBounds i true) w↔S listed w)
    (hC:∀ listed w,Closed ops listed→listed.size=ops.size→listed.getD i false=false→S listed w→C w) :
    ∀ (fuel:Nat) (listed:Array Bool) (a:Act) (w:World),Closed ops listed→listed.size=ops.size→
     (∀ j oj,ops[j]?=some oj→j≠i→listed.getD j true=false→(∀ e∈oj.after,Region.binds .any e=true→e.on≠i)→oi.apart ops oj=true)→
     i∈Region.ready .any ops listed→YieldsIf P ops C oi v a→S listed w→
     wpAnyZ P ops Q S fuel (listed.setIfInBounds i true) (a.put oi.dst v) w→wpAnyZ P ops Q S (fuel+1) listed a w:=by
  intro fuel
  induction fuel with
  | zero=>
    intro listed a w hcl hsz _ hr hy hS H
    have hun:listed.getD i false=false:=by
     have:=(mem_ready.1 hr).1
     have hlt:i<listed.size:=by rw[hsz];exact (Array.getElem?_eq_some_iff.1 hi).1
     simpa [hlt] using this
    refine⟨fun h=>(by rw[h] at hr;cases hr),fun j hj=>?_⟩
    by_cases hji:j=i
    · subst hji;exact hy.wpOp hi (hC listed w hcl hsz hun hS) ⟨(hinv _ _).2 hS,H⟩
    · have:=ready_mono hj hji
      rw[H.1] at this
      cases this
  | succ fuel ih=>
    intro listed a w hcl hsz hfree hr hy hS H
    have hun:listed.getD i false=false:=by
     have:=(mem_ready.1 hr).1
     have hlt:i<listed.size:=by rw[hsz];exact (Array.getElem?_eq_some_iff.1 hi).1
     simpa [hlt] using this
    refine⟨fun h=>(by rw[h] at hr;cases hr),fun j hj=>?_⟩
    by_cases hji:j=i
    · subst hji;exact hy.wpOp hi (hC listed w hcl hsz hun hS) ⟨(hinv _ _).2 hS,H⟩
    · have h1:=H.2 j (ready_mono hj hji)
      obtain⟨hjun,oj,hoj,hall⟩:=mem_ready.1 hj
      have hnot:∀ e∈oj.after,Region.binds .any e=true→e.on≠i:=fun e he hb heq=>by
       have h1:=hall e he hb
       rw[heq,hun] at h1;cases h1
      have h2:=wpOp_putIf hoj (hfree j oj hoj hji hjun hnot) (fun cs b=>hsel i oi cs b hi) (fun cs b=>hsel j oj cs b hoj) hQ hy h1
      have hfree':∀ k ok,ops[k]?=some ok→k≠i→(listed.setIfInBounds j true).getD k true=false→
        (∀ e∈ok.after,Region.binds .any e=true→e.on≠i)→oi.apart ops ok=true:=fun k ok hk hki hun hno=>by
       refine hfree k ok hk hki ?_ hno
       by_cases hjk:j=k
       · subst hjk;exact hjun
       · rw[getD_set_ne true hjk] at hun;exact hun
      refine wpOp_mono (fun a' w' h3=>?_) h2
      obtain⟨hy',hS',hrec⟩:=h3
      rw[Array.setIfInBounds_comm _ _ (Ne.symm hji)] at hS' hrec
      have hS1:=(hinv _ _).1 hS'
      exact⟨hS1,ih (listed.setIfInBounds j true) a' w' (hcl.set hj) (by simpa using hsz) hfree' (ready_mono hr (Ne.symm hji)) hy' hS1 hrec⟩
end
def eagB (ops:Array Oper) (z:Nat) (fin:Array Bool→Bool):List (Nat × Bool)→Array Bool→Bool
  | [],listed=>fin listed
  | (i,true)::r,listed=>(Region.ready .any ops listed).contains i && Region.free .any ops listed i && i != z && waits ops ops.size z i && eagB ops z fin r (listed.setIfInBounds i true)
  | (i,false)::r,listed=>(Region.ready .any ops listed == [i]) && eagB ops z fin r (listed.setIfInBounds i true)
def noneB (ops:Array Oper):Array Bool→Bool:=fun listed=>(Region.ready .any ops listed).isEmpty
def Sz (k:World) (h0:Hp) (σq:List HP) (z:Nat):Array Bool→World→Prop:=fun listed w=>listed.getD z false=false→St k h0 σq w
def PInv (Q:Post):Prop:=∀ ch ρ σ,Q (.panic ch) ρ σ→Q (.panic ch) ⟨ρ.n,ρ.defers,[]⟩ σ
theorem PInv.ret {P:Program} {fn:Func} {k:World} {h0:Hp} {R:Ending→List HP→Prop}:PInv (retQ P fn k h0 R):=fun _ _ _ h=>h
theorem PInv.then {K:Env→List HP→Prop} {Q:Post} (h:PInv Q):PInv (thenQ K Q):=fun ch ρ σ q=>h ch ρ σ q
theorem PInv.block {id:Nat} {Q:Post} (h:PInv Q):PInv (blockQ id Q):=fun ch ρ σ q=>h ch ρ σ q
section
variable {P:Program} {k:World} {h0:Hp} {Q:Post} {σ:List HP} {K:Env→List HP→Prop} {ops rest:List Oper} {σq:List HP} {z:Nat} {fin:Array Bool→Bool} {m:Nat}
  {n:Nat} {ds:List Deferred} {l:List (Nat × Value)} {π:List (Nat × Bool)}
def WE (P:Program) (k:World) (h0:Hp) (ops:List Oper) (K:Env→List HP→Prop) (Q:Post) (σq:List HP) (z:Nat) (fin:Array Bool→Bool) (m:Nat) (zn:Bool) (π:List (Nat × Bool)) (ρ:Env) (σ:List HP):Prop:=
  ∀ listed,eagB ops.toArray z fin π listed=true→Closed ops.toArray listed→listed.size=ops.length→listed.getD z false=!zn→PInv Q→(∀ (j:Nat) (o:Oper) cs b,ops.toArray[j]?=some o→o.op≠.select cs b)→
   ∀ a w,ρ.Ok a→St k h0 σ w→(zn=true→St k h0 σq w)→wpAnyZ P ops.toArray (lift k h0 (thenQ K Q)) (Sz k h0 σq z) (m+π.length) listed a w
theorem lift_panic {a:Act} {w:World} {c:List PanicEntry} (hQ:PInv Q) {d:Option Tmp} {v:Value} (h:lift k h0 (thenQ K Q) (.panic c) (a.put d v) w):lift k h0 (thenQ K Q) (.panic c) a w:=by
  obtain⟨ρ,σ,ha,hs,q⟩:=h
  refine⟨⟨ρ.n,ρ.defers,[]⟩,σ,⟨?_,?_,fun t v e=>by cases e⟩,hs,hQ _ _ _ q⟩
  · have:=ha.size;cases d <;> simpa [Act.put] using this
  · have:=ha.defers;cases d <;> simpa [Act.put] using this
theorem getD_of_ready {listed:Array Bool} {i:Nat} (h:i∈Region.ready .any ops.toArray listed) (hsz:listed.size=ops.length):listed.getD i false=false:=by
  obtain⟨h1,o,ho,_⟩:=mem_ready.1 h
  have hlt:i<listed.size:=by
   have:=(Array.getElem?_eq_some_iff.1 ho).1
   simpa [hsz] using this
  simpa [hlt] using h1
theorem WE.take0 {i:Nat} {o:Oper} {v:Value} {ρ ρ':Env} (ho:ops[i]?=some o)
    (hy:∀ a w,ρ.Ok a→St k h0 σq w→(Region.wanted o (yielded ops.toArray a.tmps)=true∧(execOp a.eval o).run P w=.ok (.value v) w)∨(Region.wanted o (yielded ops.toArray a.tmps)=false∧v=undef))
    (hput:∀ a,ρ.Ok a→ρ'.Ok (a.put o.dst v))
    (h:WE P k h0 ops K Q σq z fin m true π ρ' σ):WE P k h0 ops K Q σq z fin m true ((i,true)::π) ρ σ:=by
  intro listed hB hcl hsz hz hQ hsel a w ha hs hq
  simp only[eagB,Bool.and_eq_true,bne_iff_ne] at hB
  obtain⟨⟨⟨⟨hr,hf⟩,hiz⟩,hw⟩,hB'⟩:=hB
  have hr':i∈Region.ready .any ops.toArray listed:=by simpa using hr
  have ho':ops.toArray[i]?=some o:=by simpa using ho
  have hun:=getD_of_ready hr' hsz
  have hgz:(listed.setIfInBounds i true).getD z false=listed.getD z false:=getD_set_ne false hiz
  refine wpAnyZ_first (v:=v) (C:=St k h0 σq) ho' hsel (fun c a w=>lift_panic hQ) ?_ ?_ (m+π.length) listed a w hcl (by simpa using hsz) (Region.free_spec ho' hf) hr' ?_ (fun _=>hq rfl) ?_
  · intro listed w
    unfold Sz
    rw[getD_set_ne false hiz]
  · intro listed' w hcl' hsz' hun' hS
    exact hS (waits_spec hcl' hsz' hun' _ _ hw)
  · rcases hy a w ha (hq rfl) with ⟨h1,_⟩ | ⟨h1,h2⟩
    · refine .inl ⟨h1,fun w' hw'=>?_⟩
      rcases hy a w' ha hw' with ⟨_,h3⟩ | ⟨h3,_⟩
      · exact h3
      · rw[h1] at h3;cases h3
    · exact .inr ⟨h1,h2⟩
  · exact h _ hB' (hcl.set hr') (by simpa using hsz) (by rw[hgz];exact hz) hQ hsel _ w (hput a ha) hs hq
theorem WE.take {i d:Nat} {op:Op} {ty:TypeId} {pos:String} {aft:Array Edge} {g:Option (Nat × Bool)} {v:Value} (ho:ops[i]?=some ⟨some d,op,ty,pos,aft,g⟩)
    (hv:Val P k h0 σq ⟨n,ds,l⟩ ⟨some d,op,ty,pos,aft,g⟩ v) (h:WE P k h0 ops K Q σq z fin m true π ⟨n,ds,(d,v)::l⟩ σ)
    (hw:wantE ops ⟨n,ds,l⟩ g=some true:=by rfl) (hd:Nat.blt d n=true:=by rfl):WE P k h0 ops K Q σq z fin m true ((i,true)::π) ⟨n,ds,l⟩ σ:=
  WE.take0 ho (fun a w ha hs=>.inl ⟨wanted_of (o:=⟨some d,op,ty,pos,aft,g⟩) ha hw,hv a w ha hs⟩) (fun _ ha=>ha.put hd v) h
theorem WE.skip {i d:Nat} {op:Op} {ty:TypeId} {pos:String} {aft:Array Edge} {g:Option (Nat × Bool)} (ho:ops[i]?=some ⟨some d,op,ty,pos,aft,g⟩)
    (h:WE P k h0 ops K Q σq z fin m true π ⟨n,ds,(d,undef)::l⟩ σ)
    (hw:wantE ops ⟨n,ds,l⟩ g=some false:=by rfl) (hd:Nat.blt d n=true:=by rfl):WE P k h0 ops K Q σq z fin m true ((i,true)::π) ⟨n,ds,l⟩ σ:=
  WE.take0 ho (fun a _ ha _=>.inr ⟨wanted_of (o:=⟨some d,op,ty,pos,aft,g⟩) ha hw,rfl⟩) (fun _ ha=>ha.put hd _) h
theorem WE.oneG {i:Nat} {o:Oper} {ρ:Env} {zn zn':Bool} (ho:ops[i]?=some o)
    (h:WL P k h0 ops (fun ρ' σ'=>(zn'=true→Ent σ' σq)∧WE P k h0 ops K Q σq z fin m zn' π ρ' σ') Q [o] ρ σ) (hzz:(i≠z∧zn'=zn)∨(i=z∧zn'=false)):WE P k h0 ops K Q σq z fin m zn ((i,false)::π) ρ σ:=by
  intro listed hB hcl hsz hz hQ hsel a w ha hs _
  simp only[eagB,Bool.and_eq_true] at hB
  have hr:Region.ready .any ops.toArray listed=[i]:=by simpa using hB.1
  have ho':ops.toArray[i]?=some o:=by simpa using ho
  have hi:i∈Region.ready .any ops.toArray listed:=by rw[hr];simp
  refine⟨fun h=>(by rw[hr] at h;cases h),fun j hj=>?_⟩
  rw[hr] at hj
  have hji:j=i:=by simpa using hj
  subst hji
  have hw:=h a w ha hs
  unfold wpOp
  simp only[ho']
  unfold wpList at hw
  have hgz:(listed.setIfInBounds j true).getD z false=!zn':=by
   rcases hzz with ⟨hne,e⟩ | ⟨e,e'⟩
   · rw[getD_set_ne false hne,e];exact hz
   · subst e
     have hlt:j<listed.size:=by
      have:=(Array.getElem?_eq_some_iff.1 ho').1
      simpa [hsz] using this
     rw[e']
     simp[hlt]
  have key:∀ a' w',wpList P ops.toArray (lift k h0 (thenQ (fun ρ' σ'=>(zn'=true→Ent σ' σq)∧WE P k h0 ops K Q σq z fin m zn' π ρ' σ') Q)) [] a' w'→
    Sz k h0 σq z (listed.setIfInBounds j true) w'∧wpAnyZ P ops.toArray (lift k h0 (thenQ K Q)) (Sz k h0 σq z) (m+π.length) (listed.setIfInBounds j true) a' w':=fun a' w' hl=>by
   obtain⟨ρ',σ',ha',hs',he,hwe⟩:=hl
   refine⟨fun e=>?_,hwe _ hB.2 (hcl.set hi) (by simpa using hsz) hgz hQ hsel a' w' ha' hs' fun e=>he e _ _ _ hs'⟩
   rw[hgz] at e
   exact he (by cases zn' <;> simp_all) _ _ _ hs'
  have keyP:∀ e a' w',e≠.normal→lift k h0 (thenQ (fun ρ' σ'=>(zn'=true→Ent σ' σq)∧WE P k h0 ops K Q σq z fin m zn' π ρ' σ') Q) e a' w'→lift k h0 (thenQ K Q) e a' w':=fun e a' w' hne hl=>by
   obtain⟨ρ',σ',ha',hs',q⟩:=hl
   exact⟨ρ',σ',ha',hs',by cases e <;> first | exact (hne rfl).elim | exact q⟩
  split
  · rename_i hwant
    rw[if_pos hwant] at hw
    rcases hw with hw | ⟨ha1,a0,w0,hl⟩
    · refine .inl ?_
      unfold Oper.wp at *
      generalize (execOp a.eval o).run P w=r at *
      cases r with
      | ok nx w'=>
        cases nx <;> simp only[Oper.upon] at hw ⊢ <;> first | exact key _ _ hw | skip
        · refine hw.mono fun e w'' he=>?_
          cases e with
          | returned u=>exact key _ _ he
          | panicked c=>exact keyP _ _ _ (by simp) he
          | outgrown=>obtain⟨a0,w0,he⟩:=he;exact⟨a0,w0,keyP _ _ _ (by simp) he⟩
        · exact Rows.mono hw fun u w'' he=>key _ _ he
      | halt x w'=>
        cases x <;> simp only[Oper.upon] at hw ⊢
        exact keyP _ _ _ (by simp) hw
    · exact .inr ⟨ha1,a0,w0,keyP _ _ _ (by simp) hl⟩
  · rename_i hwant
    rw[if_neg hwant] at hw
    exact key _ _ hw
theorem WE.one {i:Nat} {o:Oper} {ρ:Env} (ho:ops[i]?=some o)
    (h:WL P k h0 ops (fun ρ' σ'=>Ent σ' σq∧WE P k h0 ops K Q σq z fin m true π ρ' σ') Q [o] ρ σ) (hiz:(i == z)=false:=by rfl):WE P k h0 ops K Q σq z fin m true ((i,false)::π) ρ σ:=
  WE.oneG ho (fun a w ha hs=>by
   have:=h a w ha hs
   refine cast ?_ this
   congr 1
   funext e a w
   simp only[lift,eq_iff_iff]
   cases e <;> simp[thenQ]) (.inl ⟨by simpa using hiz,rfl⟩)
theorem WE.last {i:Nat} {o:Oper} {ρ:Env} (ho:ops[i]?=some o)
    (h:WL P k h0 ops (fun ρ' σ'=>WE P k h0 ops K Q σq i fin m false π ρ' σ') Q [o] ρ σ):WE P k h0 ops K Q σq i fin m true ((i,false)::π) ρ σ:=
  WE.oneG ho (fun a w ha hs=>by
   have:=h a w ha hs
   refine cast ?_ this
   congr 1
   funext e a w
   simp only[lift,eq_iff_iff]
   cases e <;> simp[thenQ]) (.inr ⟨rfl,rfl⟩)
theorem WE.more {i:Nat} {o:Oper} {ρ:Env} (ho:ops[i]?=some o)
    (h:WL P k h0 ops (fun ρ' σ'=>WE P k h0 ops K Q σq z fin m false π ρ' σ') Q [o] ρ σ) (hiz:(i == z)=false:=by rfl):WE P k h0 ops K Q σq z fin m false ((i,false)::π) ρ σ:=
  WE.oneG ho (fun a w ha hs=>by
   have:=h a w ha hs
   refine cast ?_ this
   congr 1
   funext e a w
   simp only[lift,eq_iff_iff]
   cases e <;> simp[thenQ]) (.inl ⟨by simpa using hiz,rfl⟩)
theorem WE.nil {ρ:Env} {zn:Bool} (h:K ρ σ):WE P k h0 ops K Q σq z (noneB ops.toArray) 0 zn [] ρ σ:=fun listed hB _ _ _ _ _ a w ha hs _=>
  ⟨by simpa [eagB,noneB] using hB,ρ,σ,ha,hs,h⟩
theorem WP.rege {ρ:Env} {id:Nat} {l':List Oper} (π:List (Nat × Bool)) (z:Nat) (hm:P.follows .mixedOrders=true)
    (hB:(Region.noSelect l'.toArray && eagB l'.toArray z (noneB l'.toArray) π (Array.replicate l'.length false))=true) (hQ:PInv Q)
    (hlen:π.length=l'.length) (h:WE P k h0 l' (Q .normal) Q σ z (noneB l'.toArray) 0 true π ρ σ):WP P k h0 (.region id l'.toArray true) Q ρ σ:=fun a w ha hs=>by
  simp only[Bool.and_eq_true] at hB
  refine wp_region_any hm (wpAny_of_Z (S:=Sz k h0 σ z) _ _ _ _ ?_)
  have:=h (Array.replicate l'.length false) hB.2 (fun j o _ hj=>by rw[getD_replicate_false] at hj;cases hj) (by simp) (by rw[getD_replicate_false];rfl) hQ (Region.noSelect_spec hB.1) a {w with drawn:=w.drawn+1} ha hs.drew (fun _=>hs.drew)
  rw[Nat.zero_add,hlen] at this
  simp only[List.size_toArray]
  refine cast ?_ this
  congr 1
  funext e a w
  simp only[lift,eq_iff_iff]
  cases e <;> exact Iff.rfl
def WT (P:Program) (k:World) (h0:Hp) (ops:List Oper) (K:Env→List HP→Prop) (Q:Post) (σq:List HP) (z:Nat) (zn:Bool) (fuel:Nat) (listed:Array Bool) (ρ:Env) (σ:List HP):Prop:=
  ∀ a w,ρ.Ok a→St k h0 σ w→wpAnyZ P ops.toArray (lift k h0 (thenQ K Q)) (Sz k h0 σq z) fuel listed a w
theorem WE.free {ρ:Env} {zn:Bool} (L:Array Bool) (h:WT P k h0 ops K Q σq z zn m L ρ σ):WE P k h0 ops K Q σq z (fun l=>l == L) m zn [] ρ σ:=fun listed hB _ _ _ _ _ a w ha hs _=>by
  have e:listed=L:=by simpa [eagB] using hB
  subst e
  exact h a w ha hs
theorem WT.nil {ρ:Env} {zn:Bool} {L:Array Bool} (hr:Region.ready .any ops.toArray L=[]) (h:K ρ σ):WT P k h0 ops K Q σq z zn 0 L ρ σ:=fun a w ha hs=>
  ⟨hr,ρ,σ,ha,hs,h⟩
def WTo (P:Program) (k:World) (h0:Hp) (ops:List Oper) (K:Env→List HP→Prop) (Q:Post) (σq:List HP) (z:Nat) (zn:Bool) (fuel:Nat) (listed:Array Bool) (ρ:Env) (σ:List HP) (i:Nat):Prop:=
  ∃ o,ops[i]?=some o∧WL P k h0 ops (fun ρ' σ'=>((zn && (i != z))=true→Ent σ' σq)∧WT P k h0 ops K Q σq z (zn && (i != z)) fuel (listed.setIfInBounds i true) ρ' σ') Q [o] ρ σ
theorem WT.step {ρ:Env} {zn:Bool} {fuel:Nat} {L:Array Bool} (is:List Nat) (hr:Region.ready .any ops.toArray L=is) (hne:is.isEmpty=false) (hz:L.getD z false=!zn) (hzz:z<L.size)
    (h:∀ i∈is,WTo P k h0 ops K Q σq z zn fuel L ρ σ i):WT P k h0 ops K Q σq z zn (fuel+1) L ρ σ:=fun a w ha hs=>by
  refine⟨fun e=>(by rw[hr] at e;subst e;cases hne),fun i hi=>?_⟩
  rw[hr] at hi
  obtain⟨o,ho,hl⟩:=h i hi
  have ho':ops.toArray[i]?=some o:=by simpa using ho
  have hw:=hl a w ha hs
  unfold wpOp
  simp only[ho']
  unfold wpList at hw
  have hgz:(L.setIfInBounds i true).getD z false=!(zn && (i != z)):=by
   by_cases e:i=z
   · subst e
     simp[hzz]
   · rw[getD_set_ne false e,hz];simp[e]
  have key:∀ a' w',wpList P ops.toArray (lift k h0 (thenQ (fun ρ' σ'=>((zn && (i != z))=true→Ent σ' σq)∧WT P k h0 ops K Q σq z (zn && (i != z)) fuel (L.setIfInBounds i true) ρ' σ') Q)) [] a' w'→
    Sz k h0 σq z (L.setIfInBounds i true) w'∧wpAnyZ P ops.toArray (lift k h0 (thenQ K Q)) (Sz k h0 σq z) fuel (L.setIfInBounds i true) a' w':=fun a' w' hl=>by
   obtain⟨ρ',σ',ha',hs',he,hwe⟩:=hl
   refine⟨fun e=>?_,hwe a' w' ha' hs'⟩
   rw[hgz] at e
   exact he (by cases hb:(zn && (i != z)) <;> simp_all) _ _ _ hs'
  have keyP:∀ e a' w',e≠.normal→lift k h0 (thenQ (fun ρ' σ'=>((zn && (i != z))=true→Ent σ' σq)∧WT P k h0 ops K Q σq z (zn && (i != z)) fuel (L.setIfInBounds i true) ρ' σ') Q) e a' w'→lift k h0 (thenQ K Q) e a' w':=fun e a' w' hne hl=>by
   obtain⟨ρ',σ',ha',hs',q⟩:=hl
   exact⟨ρ',σ',ha',hs',by cases e <;> first | exact (hne rfl).elim | exact q⟩
  split
  · rename_i hwant
    rw[if_pos hwant] at hw
    rcases hw with hw | ⟨ha1,a0,w0,hl⟩
    · refine .inl ?_
      unfold Oper.wp at *
      generalize (execOp a.eval o).run P w=r at *
      cases r with
      | ok nx w'=>
        cases nx <;> simp only[Oper.upon] at hw ⊢ <;> first | exact key _ _ hw | skip
        · refine hw.mono fun e w'' he=>?_
          cases e with
          | returned u=>exact key _ _ he
          | panicked c=>exact keyP _ _ _ (by simp) he
          | outgrown=>obtain⟨a0,w0,he⟩:=he;exact⟨a0,w0,keyP _ _ _ (by simp) he⟩
        · exact Rows.mono hw fun u w'' he=>key _ _ he
      | halt x w'=>
        cases x <;> simp only[Oper.upon] at hw ⊢
        exact keyP _ _ _ (by simp) hw
    · exact .inr ⟨ha1,a0,w0,keyP _ _ _ (by simp) hl⟩
  · rename_i hwant
    rw[if_neg hwant] at hw
    exact key _ _ hw
theorem WT.one {ρ:Env} {zn:Bool} {fuel:Nat} {L:Array Bool} (i:Nat) {o:Oper} (hr:(Region.ready .any ops.toArray L == [i] && (L.getD z false == !zn) && Nat.blt z L.size)=true) (ho:ops[i]?=some o)
    (h:WL P k h0 ops (fun ρ' σ'=>((zn && (i != z))=true→Ent σ' σq)∧WT P k h0 ops K Q σq z (zn && (i != z)) fuel (L.setIfInBounds i true) ρ' σ') Q [o] ρ σ):WT P k h0 ops K Q σq z zn (fuel+1) L ρ σ:=by
  simp only[Bool.and_eq_true,beq_iff_eq] at hr
  refine WT.step [i] hr.1.1 rfl hr.1.2 (by simpa [Nat.blt_eq] using hr.2) fun j hj=>?_
  rw[List.mem_singleton.1 hj]
  exact⟨o,ho,h⟩
theorem WT.both {ρ:Env} {zn:Bool} {fuel:Nat} {L:Array Bool} (i j:Nat) {o o':Oper} (hr:(Region.ready .any ops.toArray L == [i,j] && (L.getD z false == !zn) && Nat.blt z L.size)=true) (ho:ops[i]?=some o) (ho':ops[j]?=some o')
    (h:WL P k h0 ops (fun ρ' σ'=>((zn && (i != z))=true→Ent σ' σq)∧WT P k h0 ops K Q σq z (zn && (i != z)) fuel (L.setIfInBounds i true) ρ' σ') Q [o] ρ σ)
    (h':WL P k h0 ops (fun ρ' σ'=>((zn && (j != z))=true→Ent σ' σq)∧WT P k h0 ops K Q σq z (zn && (j != z)) fuel (L.setIfInBounds j true) ρ' σ') Q [o'] ρ σ):WT P k h0 ops K Q σq z zn (fuel+1) L ρ σ:=by
  simp only[Bool.and_eq_true,beq_iff_eq] at hr
  refine WT.step [i,j] hr.1.1 rfl hr.1.2 (by simpa [Nat.blt_eq] using hr.2) fun x hx=>?_
  simp only[List.mem_cons,List.not_mem_nil,or_false] at hx
  rcases hx with rfl | rfl
  · exact⟨o,ho,h⟩
  · exact⟨o',ho',h'⟩
theorem WP.regf {ρ:Env} {id:Nat} {l':List Oper} (π:List (Nat × Bool)) (z m:Nat) (L:Array Bool) (hm:P.follows .mixedOrders=true)
    (hB:(Region.noSelect l'.toArray && eagB l'.toArray z (fun l=>l == L) π (Array.replicate l'.length false))=true) (hQ:PInv Q)
    (hlen:m+π.length=l'.length) (h:WE P k h0 l' (Q .normal) Q σ z (fun l=>l == L) m true π ρ σ):WP P k h0 (.region id l'.toArray true) Q ρ σ:=fun a w ha hs=>by
  simp only[Bool.and_eq_true] at hB
  refine wp_region_any hm (wpAny_of_Z (S:=Sz k h0 σ z) _ _ _ _ ?_)
  have:=h (Array.replicate l'.length false) hB.2 (fun j o _ hj=>by rw[getD_replicate_false] at hj;cases hj) (by simp) (by rw[getD_replicate_false];rfl) hQ (Region.noSelect_spec hB.1) a {w with drawn:=w.drawn+1} ha hs.drew (fun _=>hs.drew)
  rw[hlen] at this
  simp only[List.size_toArray]
  refine cast ?_ this
  congr 1
  funext e a w
  simp only[lift,eq_iff_iff]
  cases e <;> exact Iff.rfl
end
open Go.RowKit
def vec (E sz:Nat) (v:Value) (n:Nat) (cs:List Value):HP:=fun h=>cs.length=n*sz∧
  ((v=.slice none 0 0∧n=0∧h=Hp.no)∨∃ b cap junk,v=.slice (some ⟨b,0,none⟩) n cap∧n≤cap∧cs.length+junk.length=cap*sz∧cl b (cs++junk) E h)
section
variable {P:Program} {k:World} {h0:Hp} {σ:List HP} {ρ:Env} {d:Option Tmp} {ty:TypeId} {pos:String} {aft:Array Edge} {g:Option (Nat × Bool)}
theorem St.nilvec {w:World} {E sz:Nat} (h:St k h0 σ w):St k h0 (vec E sz (.slice none 0 0) 0 []::σ) w:=by
  obtain⟨h1,s,dj,hh⟩:=h.own
  exact⟨h.os,h.tape,h.output,h.base,h1,⟨Hp.no,h1,⟨by simp,.inl ⟨rfl,rfl,rfl⟩⟩,s,Hp.no_Dj _,(Hp.no_un _).symm⟩,dj,hh⟩
theorem Ent.nilvec {E sz:Nat}:Ent σ (vec E sz (.slice none 0 0) 0 []::σ):=fun _ _ _ h=>h.nilvec
theorem St.vec_of_cl {w:World} {E sz b n cap:Nat} {cs junk:List Value} (hn:n≤cap) (hl:cs.length=n*sz) (hc:cs.length+junk.length=cap*sz) (h:St k h0 (cl b (cs++junk) E::σ) w) :
    St k h0 (vec E sz (.slice (some ⟨b,0,none⟩) n cap) n cs::σ) w:=h.map_head fun _ e=>⟨hl,.inr ⟨b,cap,junk,rfl,hn,hc,e⟩⟩
theorem St.vec_cases {w:World} {E sz n:Nat} {v:Value} {cs:List Value} (h:St k h0 (vec E sz v n cs::σ) w):cs.length=n*sz∧
    ((v=.slice none 0 0∧n=0∧St k h0 σ w)∨∃ b cap junk,v=.slice (some ⟨b,0,none⟩) n cap∧n≤cap∧cs.length+junk.length=cap*sz∧St k h0 (cl b (cs++junk) E::σ) w):=by
  obtain⟨h1,⟨a,b,⟨hl,ha⟩,hb,dj,e⟩,dj0,hh⟩:=h.own
  refine⟨hl,?_⟩
  rcases ha with ⟨hv,hn,_⟩ | ⟨bb,cap,junk,hv,hn,hc,ha⟩
  · exact .inl ⟨hv,hn,h.tail⟩
  · exact .inr ⟨bb,cap,junk,hv,hn,hc,h.os,h.tape,h.output,h.base,h1,⟨a,b,ha,hb,dj,e⟩,dj0,hh⟩
theorem length_zeroCells (zs:List Value) (n:Nat):(Builtin.zeroCells zs.toArray n).size=n*zs.length:=by simp[Builtin.zeroCells]
theorem over_mid:∀ (vs pre a b:List Value),a.length=vs.length→over (pre++(a++b)) pre.length vs=pre++(vs++b)
  | [],pre,a,b,h=>by
    have:a=[]:=by simpa using h
    simp[over,this]
  | v::vs,pre,[],b,h=>by simp at h
  | v::vs,pre,c::a,b,h=>by
    simp only[over]
    have e:(pre++(c::a++b)).set pre.length v=(pre++[v])++(a++b):=by simp
    rw[e]
    have:=over_mid vs (pre++[v]) a b (by simpa using h)
    simp only[List.length_append,List.length_cons,List.length_nil] at this
    simpa using this
theorem growBy_le (need:Nat):∀ (r c:Nat),c≤need→Builtin.growBy need r c≤2*need+1000
  | 0,c,h=>by simp only[Builtin.growBy];omega
  | r+1,c,h=>by
    simp only[Builtin.growBy]
    split
    · omega
    · by_cases h2:c+(c+768)/4≤need
      · exact growBy_le need r _ h2
      · have:∀ r',Builtin.growBy need r' (c+(c+768)/4)=c+(c+768)/4:=by
         intro r'
         cases r' with
         | zero=>rfl
         | succ r'=>simp only[Builtin.growBy];rw[if_pos (by omega)]
        rw[this];omega
theorem nextcap_le (need old:Nat) (h:old<need):Builtin.nextslicecap need old≤2*need+1000:=by
  unfold Builtin.nextslicecap
  split
  · omega
  · split
    · omega
    · exact growBy_le need 4 old (by omega)
theorem M.append {T E sz by_ i n m c:Nat} {cs news zs:List Value} {v:Value} {a:Option Addr} {s x:Operand} {tt:Array TypeId}
    (hT:slcE P T=some (E,sz,by_)) (hz:zer P E=some zs) (htt:tt=#[T,T]) (hs:ρ.ev s=some v) (hi:σ[i]?=some (vec E sz v n cs)) (hx:ρ.ev x=some (.slice a m c))
    (hzl:zs.length=sz) (hnl:news.length=m*sz) (hnews:∀ b o sp,a=some ⟨b,o,sp⟩→sp=none∧Rds h0 (σ.eraseIdx i) b o news) (hnone:a=none→m=0) (h1:∀ u∈news,u.oneCell'=true)
    (hb:(n+m)*by_≤70368744177664∧n+m≤70368744177664∧by_≤70368744177) :
    Mem P k h0 σ ρ ⟨d,.call ⟨.builtin .append,#[s,x],tt⟩,ty,pos,aft,g⟩ (fun v':Value=>v') (fun v'=>vec E sz v' (n+m) (cs++news)::σ.eraseIdx i):=fun A w ha hst=>by
  obtain⟨hu,ii,hii,hsz,hby⟩:=slcE_spec hT
  subst hsz hby
  have hst':=hst.pull i hi
  obtain⟨hcl,hcase⟩:=hst'.vec_cases
  have hrest:=hst'.tail
  have hop:(execOp A.eval ⟨d,.call ⟨.builtin .append,#[s,x],tt⟩,ty,pos,aft,g⟩).run P w=((Builtin.append_ tt ty #[v,.slice a m c]).run P w).andThen fun r w'=>.ok (.value r) w':=by
   simp[execOp,resolve,invoke,builtin,ha.ev hs,ha.ev hx]
  subst htt
  have hzero:∃ z,ii.zero=some z∧z.cells.toList=zs:=by
   unfold zer at hz
   rw[hii] at hz
   cases h:ii.zero with
   | none=>simp[h] at hz
   | some z=>simp[h] at hz;exact⟨z,rfl,hz⟩
  obtain⟨z,hz0,hzc⟩:=hzero
  have hread:∀ w,St k h0 (σ.eraseIdx i) w→(Builtin.firstCells ii.size m (.slice a m c)).run P w=.ok news.toArray w:=fun w hw=>by
   cases a with
   | none=>
     have hm:=hnone rfl
     subst hm
     have:news=[]:=by simpa using hnl
     subst this
     simp[Builtin.firstCells]
   | some ad=>
     obtain⟨b,o,sp⟩:=ad
     obtain⟨rfl,hr⟩:=hnews b o sp rfl
     have:=run_loadCellsFrom (P:=P) (w:=w) (b:=b) (o:=o) news 0 #[] (fun j u hj=>by simpa using hr j u hj k w hw)
     simp only[Builtin.firstCells,loadCells,← hnl,this]
     simp
  rw[hop]
  have hfit:∀ {sCap:Nat} {base:Option Addr},v=.slice base n sCap→n+m≤sCap→(Builtin.append_ #[T,T] ty #[v,.slice a m c]).run P w=
    (match base with | some ad=>(storeCells (ad.add (n*ii.size)) news).run P w | none=>.ok () w).andThen fun _ w'=>.ok (.slice base (n+m) sCap) w':=by
   intro sCap base hv hle
   subst hv
   have hr:=hread w hrest
   unfold Builtin.append_
   simp only[List.getElem?_toArray,List.getElem?_cons_zero,List.getElem?_cons_succ,Sem.run_bind,run_underlying' hu,run_sizeOf' hii,Result.andThen_ok,Builtin.lenOf,Sem.run_pure,Sem.run_ite,if_pos hle]
   simp only[Bool.false_eq_true,if_false,Sem.run_pure,Result.andThen_ok,if_pos hle,Bool.not_false,if_true,hr]
   cases base with
   | none=>simp
   | some ad=>simp
  have hgrow:∀ {sCap:Nat} {base:Option Addr} {rd:List Value},v=.slice base n sCap→¬ n+m≤sCap→n≤sCap→rd=cs→((Builtin.firstCells ii.size n (.slice base n sCap)).run P {w with drawn:=w.drawn+1}=.ok rd.toArray {w with drawn:=w.drawn+1})→
    ∃ cap junk,n+m≤cap∧(cs++news).length+junk.length=cap*ii.size∧
    (Builtin.append_ #[T,T] ty #[v,.slice a m c]).run P w=.ok (.slice (some ⟨w.heap.size,0,none⟩) (n+m) cap) {w with heap:=w.heap.push (.cells ((cs++news)++junk).toArray E),drawn:=w.drawn+1}:=by
   intro sCap base rd hv hle hcap hrd hread1
   subst hv hrd
   have hcapn:sCap<n+m:=by omega
   have hnx:=nextcap_le (n+m) sCap hcapn
   have hmul:Builtin.nextslicecap (n+m) sCap*ii.bytes≤281474976710656:=by
    calc Builtin.nextslicecap (n+m) sCap*ii.bytes≤(2*(n+m)+1000)*ii.bytes:=Nat.mul_le_mul_right _ hnx
     _=2*((n+m)*ii.bytes)+1000*ii.bytes:=by rw[Nat.add_mul,Nat.mul_assoc]
     _≤281474976710656:=by omega
   have r1:=hread1
   have r2:=hread {w with drawn:=w.drawn+1} hrest.drew
   let cap:=Question.cut (.appendCap (n+m) sCap E) (w.tape w.drawn (.appendCap (n+m) sCap E))
   have hcapd:cap=(n+m)+(w.tape w.drawn (.appendCap (n+m) sCap E))%(2^63-(n+m)):=rfl
   refine⟨cap,(Builtin.zeroCells zs.toArray (cap-(n+m))).toList,by omega,?_,?_⟩
   · have:=length_zeroCells zs (cap-(n+m))
     have e:(Builtin.zeroCells zs.toArray (cap-(n+m))).toList.length=(cap-(n+m))*ii.size:=by rw[Array.length_toList,this,hzl]
     rw[e,List.length_append,hcl,hnl,← Nat.add_mul,← Nat.add_mul]
     congr 1
     omega
   · have hn63:¬ ((n:Int)+m>IntKind.i64.max∧ii.bytes=0):=by
      rintro ⟨h,_⟩
      have:IntKind.i64.max=9223372036854775807:=by decide
      rw[this] at h
      omega
     have hzc':z.cells=zs.toArray:=by rw[← hzc]
     unfold Builtin.append_
     simp only[List.getElem?_toArray,List.getElem?_cons_zero,List.getElem?_cons_succ,Sem.run_bind,run_underlying' hu,run_sizeOf' hii,Result.andThen_ok,Builtin.lenOf,Sem.run_pure,Sem.run_ite,if_neg hle,run_typeInfo' hii]
     simp only[Bool.false_eq_true,if_false,Sem.run_pure,Result.andThen_ok,if_neg hle,Bool.not_false,if_true,Sem.run_bind,run_typeInfo' hii,Sem.run_ite,false_or]
     rw[if_neg (by rintro ⟨h,h'⟩;exact hn63 ⟨by omega,h'⟩)]
     rw[if_neg (by omega)]
     simp only[Sem.run_pure,Result.andThen_ok,Sem.run_bind,run_choose,Question.forced,Bool.false_eq_true,if_false,run_typeInfo' hii,run_askRoom,r1,r2,run_zeroValue' hii hz0,newRow,run_newObj]
     simp[cap,hzc']
     have e:∀ Z:Array Value,(rd++news).toArray++Z=(rd++(news++Z.toList)).toArray:=fun Z=>by apply Array.ext';simp
     rw[e]
  rcases hcase with ⟨rfl,rfl,hst1⟩ | ⟨b,cap,junk,rfl,hn,hc,hst1⟩
  have hcs:cs=[]:=by simpa using hcl
  subst hcs
  by_cases hm:m=0
  · subst hm
    have hnn:news=[]:=by simpa using hnl
    subst hnn
    have:=hfit (sCap:=0) (base:=none) rfl (by omega)
    rw[this]
    refine⟨_,w,rfl,?_⟩;exact hst1.nilvec
  · obtain⟨cap',junk',h2,h3,h4⟩:=hgrow (sCap:=0) (base:=none) (rd:=[]) rfl (by omega) (by omega) rfl (by simp[Builtin.firstCells])
    rw[h4]
    refine⟨_,_,rfl,?_⟩
    have:=(hst1.newC (([]++news)++junk') E).drew (d:=w.drawn+1)
    exact this.vec_of_cl h2 (by simp[hnl]) h3
  · by_cases hle:n+m≤cap
    · have:=hfit (sCap:=cap) (base:=some ⟨b,0,none⟩) rfl hle
      rw[this]
      have hsplit:cs++junk=cs++(junk.take news.length++junk.drop news.length):=by rw[List.take_append_drop]
      have hjl:news.length≤junk.length:=by
       have:(n+m)*ii.size≤cap*ii.size:=Nat.mul_le_mul_right _ hle
       rw[Nat.add_mul] at this
       omega
      obtain⟨w',hr,hs'⟩:=Wrs.own (P:=P) (σ:=cl b (cs++junk) E::σ.eraseIdx i) (o:=n*ii.size) (vs:=news) 0 rfl (by rw[List.length_append];omega) h1 k h0 w hst1
      have hov:over (cs++junk) (n*ii.size) news=(cs++news)++junk.drop news.length:=by
       rw[hsplit,← hcl,over_mid news cs _ _ (by simp;omega)]
       simp
      rw[hov] at hs'
      simp only[Addr.add_at,Nat.zero_add,hr,Result.andThen_ok]
      refine⟨_,w',rfl,?_⟩
      have hs'':St k h0 (cl b ((cs++news)++junk.drop news.length) E::σ.eraseIdx i) w':=hs'
      exact hs''.vec_of_cl hle (by rw[List.length_append,hcl,hnl,Nat.add_mul]) (by simp only[List.length_append,List.length_drop];omega)
    · obtain⟨cap',junk',h2,h3,h4⟩:=hgrow (sCap:=cap) (base:=some ⟨b,0,none⟩) (rd:=cs) rfl hle hn rfl (by
       have hw2:St k h0 (cl b (cs++junk) E::σ.eraseIdx i) {w with drawn:=w.drawn+1}:=hst1.drew
       have:=run_loadCellsFrom (P:=P) (w:={w with drawn:=w.drawn+1}) (b:=b) (o:=0) cs 0 #[] (fun j u hj=>by
        have:=(Rd.own (h0:=h0) (σ:=cl b (cs++junk) E::σ.eraseIdx i) (off:=0+j) 0 rfl (by
         have hlt:j<cs.length:=by
          rcases Nat.lt_or_ge j cs.length with g | g
          · exact g
          · rw[List.getElem?_eq_none g] at hj;cases hj
         rw[Nat.zero_add,List.getElem?_append_left hlt];exact hj)) k _ hw2
        simpa using this)
       simp only[Builtin.firstCells,loadCells,← hcl,this]
       simp)
      rw[h4]
      refine⟨_,_,rfl,?_⟩
      have:=(hst1.tail.newC ((cs++news)++junk') E).drew (d:=w.drawn+1)
      exact this.vec_of_cl h2 (by rw[List.length_append,hcl,hnl,Nat.add_mul]) h3
end
open Go.RowKit
section
variable {P:Program} {k:World} {h0:Hp} {σ:List HP} {ρ:Env} {d:Option Tmp} {ty:TypeId} {pos:String} {aft:Array Edge} {g:Option (Nat × Bool)}
theorem zer_spec {T:Nat} {zs:List Value} (h:zer P T=some zs):∃ i z,P.info? T=some i∧i.zero=some z∧z.cells=zs.toArray:=by
  unfold zer at h
  cases hi:P.info? T with
  | none=>rw[hi] at h;cases h
  | some i=>
    rw[hi] at h
    cases hz:i.zero with
    | none=>simp[hz] at h
    | some z=>
      simp[hz] at h
      exact⟨i,z,rfl,hz,by rw[← h]⟩
theorem madeCells_one (z:Value) (n:Nat):madeCells #[z] n=(List.replicate n z).toArray:=by
  apply Array.ext'
  simp[madeCells]
  apply List.ext_getElem
  · simp
  · intro i h1 h2
    simp[Nat.mod_one]
theorem M.make {T E by_:Nat} {z:Value} {x y:Operand} {j j':IntKind} {n:Int} (hT:slcE P T=some (E,1,by_)) (hz:zer P E=some [z]) (hx:ρ.ev x=some (.int j n)) (hy:ρ.ev y=some (.int j' n)) (hn:0≤n∧n≤9223372036854775807∧(by_:Int)*n≤281474976710656) :
    Mem P k h0 σ ρ ⟨d,.makeSlice T x y,ty,pos,aft,g⟩ (fun b:Nat=>.slice (some ⟨b,0,none⟩) n.toNat n.toNat) (fun b=>cl b (List.replicate n.toNat z) E::σ):=fun A w ha hs=>by
  obtain⟨hu,i,hi,hsz,hby⟩:=slcE_spec hT
  obtain⟨i',z',hi',hz0,hzc⟩:=zer_spec hz
  rw[hi] at hi'
  obtain rfl:=Option.some.inj hi'
  have:=run_make (P:=P) w T E i z' hu hi hz0 j j' n n hn.1 (Int.le_refl _) (by rw[hby];exact hn.2.2) hn.2.1
  refine⟨w.heap.size,_,?_,hs.newC _ _⟩
  simp only[execOp,ha.ev hx,ha.ev hy,Sem.run_bind,this,Result.andThen_ok]
  rw[hzc,hsz,Nat.mul_one,madeCells_one]
  rfl
def evp (ρ:Env):List (Nat × Operand)→Option (List (Nat × Value))
  | []=>some []
  | x::r=>match ρ.ev x.2,evp ρ r with
    | some v,some vs=>some ((x.1,v)::vs)
    | _,_=>none
theorem evp_map {ρ:Env} {a:Act} (ha:ρ.Ok a):∀ (l:List (Nat × Operand)) (vs:List (Nat × Value)),evp ρ l=some vs→l.map (fun x=>(x.1,a.eval x.2))=vs:=by
  intro l
  induction l with
  | nil=>intro vs h;simp only[evp,Option.some.injEq] at h;subst h;rfl
  | cons x l ih=>
    intro vs h
    simp only[evp] at h
    cases hx:ρ.ev x.2 with
    | none=>rw[hx] at h;simp at h
    | some v=>
      cases hl:evp ρ l with
      | none=>rw[hx,hl] at h;simp at h
      | some us=>
        rw[hx,hl] at h
        simp only[Option.some.injEq] at h
        subst h
        simp only[List.map_cons,ha.ev hx,ih us hl]
def fillL (place:Nat→Option (Nat × Nat)):List Value→List (Nat × Value)→Option (List Value)
  | cs,[]=>some cs
  | cs,(i,v)::r=>match place i with
    | none=>none
    | some (off,size)=>if v.cells.toList.length≠size || off+v.cells.toList.length>cs.length then none else fillL place (over cs off v.cells.toList) r
theorem foldl_over:∀ (vs:List Value) (cs:List Value) (off j:Nat),(vs.zipIdx j).foldl (fun (c:Array Value) (x:Value × Nat)=>c.setIfInBounds (off+x.2) x.1) cs.toArray=(over cs (off+j) vs).toArray
  | [],_,_,_=>rfl
  | v::vs,cs,off,j=>by
    simp only[List.zipIdx_cons,List.foldl_cons,over]
    have:cs.toArray.setIfInBounds (off+j) v=(cs.set (off+j) v).toArray:=by simp
    rw[this,foldl_over vs _ off (j+1),Nat.add_assoc]
theorem fill_eq (place:Nat→Option (Nat × Nat)):∀ (vs:List (Nat × Value)) (cs r:List Value),fillL place cs vs=some r→Instr.fill place cs.toArray vs=some r.toArray
  | [],cs,r,h=>by simp only[fillL,Option.some.injEq] at h;subst h;rfl
  | (i,v)::vs,cs,r,h=>by
   simp only[fillL] at h
   unfold Instr.fill
   cases hp:place i with
   | none=>rw[hp] at h;cases h
   | some os=>
     obtain⟨off,size⟩:=os
     rw[hp] at h
     simp only at h ⊢
     split at h
     · cases h
     · rename_i hn
       rw[if_neg (by simpa using hn)]
       have e:(v.cells.zipIdx.foldl (fun (cs:Array Value) (x:Value × Nat)=>cs.setIfInBounds (off+x.2) x.1) cs.toArray)=(over cs off v.cells.toList).toArray:=by
        rw[← Array.foldl_toList,Array.toList_zipIdx]
        exact foldl_over v.cells.toList cs off 0
       rw[show (v.cells.zipIdx.foldl (fun cs x=>match x with | (c,j)=>cs.setIfInBounds (off+j) c) cs.toArray)=(over cs off v.cells.toList).toArray from e]
       exact fill_eq place vs _ r h
def bldS (P:Program) (T:TypeId):Option (List (Nat × Nat)):=match P.underlying T with
  | some (.struct fs)=>fs.toList.mapM fun f=>(P.info? f.type).map fun i=>(f.offset,i.size)
  | _=>none
theorem V.buildA {T len sz:Nat} {ag:Bool} {parts:Array (Nat × Operand)} {vs:List (Nat × Value)} {zs cs:List Value} (hT:arrE P T=some (len,sz,ag)) (hz:zer P T=some zs) (hp:evp ρ parts.toList=some vs) (hf:fillL (fun i=>some (i*sz,sz)) zs vs=some cs) :
    Val P k h0 σ ρ ⟨d,.build T parts,ty,pos,aft,g⟩ (.agg cs.toArray):=fun A w ha hs=>by
  obtain⟨E,hu,⟨ii,hi,h1⟩,_⟩:=arrE_spec hT
  obtain⟨i',z',hi',hz0,hzc⟩:=zer_spec hz
  have hparts:=evp_map ha _ _ hp
  subst h1
  simp only[execOp,Instr.build,Sem.run_bind,run_zeroValue' hi' hz0,Result.andThen_ok,run_underlying' hu,run_sizeOf' hi,Array.toList_map,hparts,hzc,fill_eq _ _ _ _ hf]
  rfl
theorem run_places {fs:List Field} {w:World}:∀ (pl:List (Nat × Nat)),fs.mapM (fun f=>(P.info? f.type).map fun i=>(f.offset,i.size))=some pl→
    (fs.mapM (m:=Sem) fun f=>do pure (f.offset,← sizeOf f.type)).run P w=.ok pl w:=by
  induction fs with
  | nil=>intro pl h;simp at h;subst h;simp
  | cons f fs ih=>
    intro pl h
    simp only[List.mapM_cons,Option.bind_eq_bind] at h
    cases hi:P.info? f.type with
    | none=>rw[hi] at h;simp at h
    | some i=>
      rw[hi] at h
      simp only[Option.map_some,Option.bind_some] at h
      cases hr:fs.mapM (fun f=>(P.info? f.type).map fun i=>(f.offset,i.size)) with
      | none=>rw[hr] at h;simp at h
      | some pl'=>
        rw[hr] at h
        simp at h
        subst h
        simp only[List.mapM_cons,Sem.run_bind,run_sizeOf' hi,Result.andThen_ok,Sem.run_pure,ih pl' hr]
theorem V.build {T:Nat} {parts:Array (Nat × Operand)} {vs:List (Nat × Value)} {pl:List (Nat × Nat)} {zs cs:List Value} (hT:bldS P T=some pl) (hz:zer P T=some zs) (hp:evp ρ parts.toList=some vs) (hf:fillL (fun i=>pl[i]?) zs vs=some cs) :
    Val P k h0 σ ρ ⟨d,.build T parts,ty,pos,aft,g⟩ (.agg cs.toArray):=fun A w ha hs=>by
  unfold bldS at hT
  cases hu:P.underlying T with
  | none=>rw[hu] at hT;cases hT
  | some D=>
    rw[hu] at hT
    cases D <;> try (cases hT;done)
    rename_i fs
    obtain⟨i',z',hi',hz0,hzc⟩:=zer_spec hz
    have hparts:=evp_map ha _ _ hp
    have hpl:=run_places (P:=P) (w:=w) pl hT
    have hpl':(fs.mapM (m:=Sem) fun f=>do pure (f.offset,← sizeOf f.type)).run P w=.ok pl.toArray w:=by
     rw[Array.mapM_eq_mapM_toList,Sem.run_map,hpl];rfl
    simp only[execOp,Instr.build,Sem.run_bind,run_zeroValue' hi' hz0,Result.andThen_ok,run_underlying' hu,hpl',Array.toList_map,hparts,hzc,List.getElem?_toArray,fill_eq _ _ _ _ hf]
    rfl
theorem M.slice1 {T E sz by_:Nat} {x:Operand} {v:Value} {zs cs:List Value} (hT:slcE P T=some (E,sz,by_)) (hz:zer P E=some zs) (hx:ρ.ev x=some v) (hc:v.cells=cs.toArray) (hl:zs.length=sz) (hcl:cs.length=sz) (h0':Nat.blt 0 sz=true) (hsm:Nat.ble sz 16777216=true) :
    Mem P k h0 σ ρ ⟨d,.buildSlice T 1 #[(0,x)],ty,pos,aft,g⟩ (fun b:Nat=>.slice (some ⟨b,0,none⟩) 1 1) (fun b=>cl b cs E::σ):=fun A w ha hs=>by
  obtain⟨hu,i,hi,hsz,hby⟩:=slcE_spec hT
  obtain⟨i',z',hi',hz0,hzc⟩:=zer_spec hz
  rw[hi] at hi'
  obtain rfl:=Option.some.inj hi'
  subst hsz
  have h0'':0<i.size:=of_decide_eq_true (by simpa [Nat.blt_eq] using h0')
  have hsm':i.size≤16777216:=Nat.le_of_ble_eq_true hsm
  have harr:(Array.range (1*i.size)).map (zs.toArray[·%zs.toArray.size]!)=zs.toArray:=by
   apply Array.ext
   · simp[hl]
   · intro j h1 h2
     simp at h1
     have hj:j<zs.length:=by rw[hl];exact h1
     simp[Nat.mod_eq_of_lt hj,hj]
  have hf:fillL (fun j=>some (j*i.size,i.size)) zs [(0,v)]=some cs:=by
   simp only[fillL,hc]
   rw[if_neg (by simp[hcl,hl])]
   have:=over_all cs [] zs (by rw[hl,hcl])
   simpa using this
  refine⟨w.heap.size,_,?_,hs.newC _ _⟩
  have hp:(#[(0,x)].map fun (p:Nat × Operand)=>(p.1,A.eval p.2)).toList=[(0,v)]:=by simp[ha.ev hx]
  simp only[execOp,Instr.buildSlice,Sem.run_bind,run_underlying' hu,Result.andThen_ok,run_sizeOf' hi,Sem.run_ite]
  rw[if_neg (by omega),if_neg (by omega)]
  simp only[run_zeroValue' hi hz0,Result.andThen_ok]
  rw[hzc]
  simp only[Sem.run_pure,Result.andThen_ok]
  rw[harr,hp,fill_eq _ _ _ _ hf]
  rfl
theorem V.shl {T U:TypeId} {x y:Operand} {j j':IntKind} {a b:Int} (hx:ρ.ev x=some (.int j a)) (hy:ρ.ev y=some (.int j' b)) (hb:0≤b):Val P k h0 σ ρ ⟨d,.binOp .shl T x y U,ty,pos,aft,g⟩ (.int j (j.wrap (a*2^min b.toNat j.bits))):=fun A w ha hs=>by
  have hb':¬ b<0:=by omega
  simp[execOp,ha.ev hx,ha.ev hy,run_eqGuard_shift,binOp,Op.shift,hb']
theorem V.shr {T U:TypeId} {x y:Operand} {j j':IntKind} {a b:Int} (hx:ρ.ev x=some (.int j a)) (hy:ρ.ev y=some (.int j' b)) (hb:0≤b):Val P k h0 σ ρ ⟨d,.binOp .shr T x y U,ty,pos,aft,g⟩ (.int j (a/2^min b.toNat j.bits)):=fun A w ha hs=>by
  have hb':¬ b<0:=by omega
  have:a.fdiv (2^min b.toNat j.bits)=a/2^min b.toNat j.bits:=Int.fdiv_eq_ediv_of_nonneg _ (by apply Int.le_of_lt;exact Int.pow_pos (by omega))
  simp[execOp,ha.ev hx,ha.ev hy,run_eqGuard_shift,binOp,Op.shift,hb',this]
theorem V.and {T U:TypeId} {x y:Operand} {j:IntKind} {a b:Int} (hx:ρ.ev x=some (.int j a)) (hy:ρ.ev y=some (.int j b)):Val P k h0 σ ρ ⟨d,.binOp .and T x y U,ty,pos,aft,g⟩ (.int j (bits .and j a b)):=fun A w ha hs=>by
  simp[execOp,ha.ev hx,ha.ev hy,run_eqGuard_int,binOp,Op.intBits,bits]
theorem V.or {T U:TypeId} {x y:Operand} {j:IntKind} {a b:Int} (hx:ρ.ev x=some (.int j a)) (hy:ρ.ev y=some (.int j b)):Val P k h0 σ ρ ⟨d,.binOp .or T x y U,ty,pos,aft,g⟩ (.int j (bits .or j a b)):=fun A w ha hs=>by
  simp[execOp,ha.ev hx,ha.ev hy,run_eqGuard_int,binOp,Op.intBits,bits]
end
end Go.Eng
