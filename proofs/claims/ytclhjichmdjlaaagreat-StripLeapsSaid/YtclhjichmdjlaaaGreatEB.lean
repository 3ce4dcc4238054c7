/- Rules to walk the functions of the seat: partial heaps, contracts, one rule an operation. No conditions. -/
import Derived.Test.YtclhjichmdjlaaaGreatEA
import Derived.RangeFuncLeaves
import Derived.RangeFuncOwn
import Derived.MapKept
import Derived.Laws.BytesString
import Derived.Laws.IdiomStrings
import Derived.Scope
set_option linter.unusedSimpArgs false
set_option linter.unusedVariables false
namespace Go.Eng
open Go.RowKit
section
variable {P:Program} {k:World} {h0:Hp} {σ:List HP} {ρ:Env} {d:Option Tmp} {ty:TypeId} {pos:String} {aft:Array Edge} {g:Option (Nat × Bool)}
theorem run_part1 {E:Nat} {cs:Array Value} {i:Nat} {v:Value} {w:World} (hE:scal P E=true) (hv:cs[i]?=some v):(part E cs i).run P w=.ok v w:=by
  have:=(scal_spec (w:=w) hE).1
  simp[part,this,hv]
end
section
variable {P:Program} {k:World} {h0:Hp} {Q:Post} {σ:List HP} {K:Env→List HP→Prop} {ops rest:List Oper}
  {n:Nat} {ds:List Deferred} {l:List (Nat × Value)}
theorem run_invoke {ρ:Env} {a:Act} {w:World} {d:Option Tmp} {ty:TypeId} {pos:String} {aft:Array Edge} {g:Option (Nat × Bool)} {f:FuncId} {t:TypeId} {v rv:Value} {name:String} {recv:Operand} {args:List Operand} {tt:Array TypeId} {vs:List Value}
    (hr:ρ.ev recv=some (.iface t v)) (hm:(method (P.types.size+Made.depth) t v name).run P w=.ok (f,rv) w) (hf:IsFn P f) (hv:evs ρ args=some vs) (ha:ρ.Ok a) :
    (execOp a.eval ⟨d,.call ⟨.invoke recv name,args.toArray,tt⟩,ty,pos,aft,g⟩).run P w=.ok (.enter f (rv::vs).toArray) w:=by
  have e:=evs_map ha args vs hv
  have e2:(#[Value.iface t v]++vs.toArray)[0]?=some (Value.iface t v):=by simp
  have e3:(#[Value.iface t v]++vs.toArray).extract 1 (#[Value.iface t v]++vs.toArray).size=vs.toArray:=by
   apply Array.ext'
   simp
  simp only[execOp,resolve,ha.ev hr,e,Sem.run_bind,Sem.run_pure,Result.andThen_ok,invoke]
  simp only[e2,callMethod,Sem.run_bind,run_program,Result.andThen_ok,hm,e3]
  have:#[rv]++vs.toArray=(rv::vs).toArray:=by simp
  rw[this]
  exact run_callFunc hf _ w
theorem WL.inv {d:Nat} {ty:TypeId} {pos:String} {aft:Array Edge} {g:Option (Nat × Bool)} {f:FuncId} {t:TypeId} {v rv:Value} {name:String} {recv:Operand} {args:List Operand} {tt:Array TypeId} {vs:List Value}
    (hw:wantE ops ⟨n,ds,l⟩ g=some true) (hd:Nat.blt d n=true) (hr:(Env.mk n ds l).ev recv=some (.iface t v)) (hm:∀ w,(method (P.types.size+Made.depth) t v name).run P w=.ok (f,rv) w) (hf:IsFn P f) (hv:evs ⟨n,ds,l⟩ args=some vs)
    {R:Value→List HP→Prop} (hc:FT P f (rv::vs) k h0 σ (Ret R)) (h:∀ v τ,R v τ→WL P k h0 ops K Q rest ⟨n,ds,(d,v)::l⟩ τ) :
    WL P k h0 ops K Q (⟨some d,.call ⟨.invoke recv name,args.toArray,tt⟩,ty,pos,aft,g⟩::rest) ⟨n,ds,l⟩ σ:=
  WL.enter hw hd (fun a w ha _=>run_invoke hr (hm w) hf hv ha) (hc.mono fun e τ ⟨v,he,hr⟩=>by subst he;exact h v τ hr)
theorem run_callValue {ρ:Env} {a:Act} {w:World} {d:Option Tmp} {ty:TypeId} {pos:String} {aft:Array Edge} {g:Option (Nat × Bool)} {fv:Operand} {f:FuncId} {first cap:List Value} {args:List Operand} {tt:Array TypeId} {vs:List Value}
    (hfv:ρ.ev fv=some (.func (.func f) first.toArray cap.toArray)) (hf:IsFn P f) (hv:evs ρ args=some vs) (ha:ρ.Ok a) :
    (execOp a.eval ⟨d,.call ⟨.value fv,args.toArray,tt⟩,ty,pos,aft,g⟩).run P w=.ok (.enter f (first++vs++cap).toArray) w:=by
  have e:=evs_map ha args vs hv
  simp only[execOp,resolve,ha.ev hfv,e,Deferred.ofValue,Sem.run_bind,Sem.run_pure,Result.andThen_ok,invoke]
  have:first.toArray++vs.toArray++cap.toArray=(first++vs++cap).toArray:=by simp
  rw[this]
  exact run_callFunc hf _ w
theorem WL.callF {d:Nat} {ty:TypeId} {pos:String} {aft:Array Edge} {g:Option (Nat × Bool)} {fv:Operand} {f:FuncId} {first cap:List Value} {args:List Operand} {tt:Array TypeId} {vs:List Value}
    (hw:wantE ops ⟨n,ds,l⟩ g=some true) (hd:Nat.blt d n=true) (hfv:(Env.mk n ds l).ev fv=some (.func (.func f) first.toArray cap.toArray)) (hf:IsFn P f) (hv:evs ⟨n,ds,l⟩ args=some vs)
    {R:Value→List HP→Prop} (hc:FT P f (first++vs++cap) k h0 σ (Ret R)) (h:∀ v τ,R v τ→WL P k h0 ops K Q rest ⟨n,ds,(d,v)::l⟩ τ) :
    WL P k h0 ops K Q (⟨some d,.call ⟨.value fv,args.toArray,tt⟩,ty,pos,aft,g⟩::rest) ⟨n,ds,l⟩ σ:=
  WL.enter hw hd (fun a w ha _=>run_callValue hfv hf hv ha) (hc.mono fun e τ ⟨v,he,hr⟩=>by subst he;exact h v τ hr)
theorem FT.pureR {f:FuncId} {vs:List Value} {R:Value→Prop} (hc:∀ g,Stars σ g→h0.Dj g→FT P f vs k (h0.un g) [] (Ret fun u _=>R u)):FT P f vs k h0 σ (Ret fun u τ=>R u∧τ=σ):=fun w hs=>by
  refine (FT.frame (σ:=[]) hc w hs).mono fun e w' ⟨τ,hs',σ'',hτ,v,he,hr⟩=>?_
  subst hτ
  exact⟨σ,Ent.left _ _ _ _ _ hs',v,he,hr,rfl⟩
theorem FT.make {f:FuncId} {vs:List Value} {R:Value→List HP→Prop} (hc:∀ g,Stars σ g→h0.Dj g→FT P f vs k (h0.un g) [] (Ret R)):FT P f vs k h0 σ (Ret fun u τ=>∃ τ',R u τ'∧τ=τ'++σ):=fun w hs=>by
  refine (FT.frame (σ:=[]) hc w hs).mono fun e w' ⟨τ,hs',σ'',hτ,v,he,hr⟩=>?_;exact⟨τ,hs',v,he,σ'',hr,hτ⟩
theorem Stars.cl' {b:Nat} {cs:List Value} {T:TypeId} {g:Hp} (i:Nat) (hi:σ[i]?=some (cl b cs T)) (hg:Stars σ g) (dj:h0.Dj g):At (h0.un g) b cs T:=by
  obtain⟨a,c,⟨fr,_,ha⟩,hc,d,e⟩:=hg.perm (perm_pull i hi)
  refine⟨fr,Hp.le_un_right dj _ _ ?_⟩
  rw[e]
  exact Hp.le_un_left _ _ _ _ (by rw[ha];exact Hp.one_self b _)
theorem At.mono {h g:Hp} {b:Nat} {cs:List Value} {T:TypeId} (a:At h b cs T) (l:h.le g):At g b cs T:=let ⟨fr,e⟩:=a;⟨fr,l _ _ e⟩
end
open Go.RowKit
section
variable {P:Program} {k:World} {h0:Hp} {σ:List HP} {ρ:Env} {d:Option Tmp} {ty:TypeId} {pos:String} {aft:Array Edge} {g:Option (Nat × Bool)}
theorem run_loadN {T b o n:Nat} {vs:List Value} {w:World} (hT:agg P T=some n) (hn:vs.length=n) (hr:Rds h0 σ b o vs) (hs:St k h0 σ w):(loadVar T ⟨b,o,none⟩).run P w=.ok (.agg vs.toArray) w:=by
  obtain⟨e1,e2⟩:=agg_spec (w:=w) hT
  have c:=run_loadCellsFrom (P:=P) (w:=w) (b:=b) (o:=o) vs 0 #[] (fun j v hj=>by simpa using hr j v hj k w hs)
  simp[loadVar,e1,e2,loadCells,← hn,c]
theorem ResCell1 {fn:Func} {a T b o n:Nat} {vs:List Value} (h:fn.results=#[.cell a T]) (ha:ρ.get a=some (.pointer (some ⟨b,o,none⟩))) (hT:agg P T=some n) (hn:vs.length=n) (hr:Rds h0 σ b o vs):Res P fn k h0 ρ σ (.agg vs.toArray):=fun A w hA hs=>by
  have e1:=hA.get a _ ha
  have e2:=run_loadN (P:=P) (k:=k) hT hn hr hs
  simp[results,h,e1,asAddr,e2]
theorem ResCellTmp {fn:Func} {a t T b o n:Nat} {vs:List Value} {v:Value} (h:fn.results=#[.cell a T,.tmp t]) (ha:ρ.get a=some (.pointer (some ⟨b,o,none⟩))) (hT:agg P T=some n) (hn:vs.length=n) (hr:Rds h0 σ b o vs) (hv:ρ.get t=some v):Res P fn k h0 ρ σ (.tuple #[.agg vs.toArray,v]):=fun A w hA hs=>by
  have e1:=hA.get a _ ha
  have e3:=hA.get t _ hv
  have e2:=run_loadN (P:=P) (k:=k) hT hn hr hs
  simp[results,h,e1,e3,asAddr,e2]
theorem Wr.at {b off:Nat} {cs:List Value} {T:TypeId} {v:Value} (i:Nat) (hi:σ[i]?=some (cl b cs T)) (h:Nat.blt off cs.length=true) :
    Wr σ ⟨b,off,none⟩ v (σ.set i (cl b (cs.set off v) T)):=Wr.own i hi (by simpa [Nat.blt_eq] using h)
theorem Rds.all {b T:Nat} {cs:List Value} (i:Nat) (hi:σ[i]?=some (cl b cs T)):Rds h0 σ b 0 cs:=Rds.own i hi (by simp)
theorem WP.mono' {Q Q':Post} {c:Code} (h:WP P k h0 c Q ρ σ) (hq:∀ e ρ σ,Q e ρ σ→∃ ρ' σ',ρ'.Sub ρ∧Ent σ σ'∧Q' e ρ' σ'):WP P k h0 c Q' ρ σ:=
  fun a w ha hs=>Code.wp_mono (fun _ _ _ ⟨ρ,σ,x,y,z⟩=>by
   obtain⟨ρ',σ',h1,h2,h3⟩:=hq _ _ _ z
   exact⟨ρ',σ',x.sub h1,h2 _ _ _ y,h3⟩) (h a w ha hs)
theorem WP.cut {Q:Post} {c d':Code} {X:Type} (E:X→Env) (S:X→List HP) (I:X→Prop) (h1:WP P k h0 c (thenQ (fun ρ' σ'=>∃ x,I x∧(E x).Sub ρ'∧Ent σ' (S x)) Q) ρ σ) (h2:∀ x,I x→WP P k h0 d' Q (E x) (S x)):WP P k h0 (.seq c d') Q ρ σ:=
  WP.seq (WP.mono' h1 (fun e ρ' σ' q=>by
   cases e with
   | normal=>
     obtain⟨x,hx,he,hσ⟩:=q
     exact⟨_,_,he,hσ,h2 x hx⟩
   | exit id=>exact⟨ρ',σ',Env.Sub.refl _,Ent.refl _,q⟩
   | goto l=>exact⟨ρ',σ',Env.Sub.refl _,Ent.refl _,q⟩
   | ret=>exact⟨ρ',σ',Env.Sub.refl _,Ent.refl _,q⟩
   | panic ch=>exact⟨ρ',σ',Env.Sub.refl _,Ent.refl _,q⟩
   | outgrown=>exact⟨ρ',σ',Env.Sub.refl _,Ent.refl _,q⟩))
theorem tdiv_neg_eq {a b:Int} (ha:a<0):a.tdiv b=-((-a)/b):=by
  have h:a=-(-a):=by omega
  conv=>lhs;rw[h]
  rw[Int.neg_tdiv,Int.tdiv_eq_ediv_of_nonneg (by omega)]
theorem ediv_of_tdiv {a b:Int} (hb:0<b):a/b=if a.tmod b<0 then a.tdiv b-1 else a.tdiv b:=by
  have h1:=Int.tmod_add_mul_tdiv a b
  by_cases ha:0≤a
  · rw[Int.tdiv_eq_ediv_of_nonneg ha,Int.tmod_eq_emod_of_nonneg ha,if_neg (by have:=Int.emod_nonneg a (show b≠0 by omega);omega)]
  · have ht:=tdiv_neg_eq (a:=a) (b:=b) (by omega)
    have hr:a.tmod b=-((-a)%b):=by
     have e:a=-(-a):=by omega
     conv=>lhs;rw[e]
     rw[Int.neg_tmod,Int.tmod_eq_emod_of_nonneg (by omega)]
    have h3:=Int.emod_nonneg (-a) (show b≠0 by omega)
    have h4:=Int.emod_lt_of_pos (-a) hb
    rw[ht,hr]
    have h5:=Int.emod_add_mul_ediv (-a) b
    split
    · have:a=(b-(-a)%b)+b*(-((-a)/b)-1):=by rw[Int.mul_sub,Int.mul_neg];omega
      conv=>lhs;rw[this]
      rw[Int.add_mul_ediv_left _ _ (by omega),Int.ediv_eq_zero_of_lt (by omega) (by omega)];omega
    · have:a=b*(-((-a)/b)):=by rw[Int.mul_neg];omega
      conv=>lhs;rw[this]
      rw[Int.mul_ediv_cancel_left _ (by omega)]
theorem emod_of_tmod {a b:Int} (hb:0<b):a%b=if a.tmod b<0 then a.tmod b+b else a.tmod b:=by
  have h1:=Int.tmod_add_mul_tdiv a b
  have h2:=Int.emod_add_mul_ediv a b
  have h3:=ediv_of_tdiv (a:=a) hb
  split <;> rename_i h <;> (first | rw[if_pos h] at h3 | rw[if_neg h] at h3)
  · rw[h3,Int.mul_sub] at h2;omega
  · rw[h3] at h2;omega
end
open Go.RowKit
def starsP (τ:List HP):HP:=fun h=>Stars τ h
def exP {X:Type} (p:X→HP):HP:=fun h=>∃ x,p x h
section
variable {P:Program} {k:World} {h0:Hp} {σ τ:List HP} {ρ:Env} {Q:Post} {K:Env→List HP→Prop} {ops:List Oper}
theorem Ent.stars:Ent (starsP τ::σ) (τ++σ):=fun _ _ _ h=>by
  obtain⟨h1,⟨a,b,ha,hb,d,e⟩,dj,hh⟩:=h.own
  exact⟨h.os,h.tape,h.output,h.base,h1,Stars.append.2 ⟨a,b,ha,hb,d,e⟩,dj,hh⟩
theorem Ent.shut:Ent (τ++σ) (starsP τ::σ):=fun _ _ _ h=>by
  obtain⟨h1,s,dj,hh⟩:=h.own
  obtain⟨a,b,ha,hb,d,e⟩:=Stars.append.1 s
  exact⟨h.os,h.tape,h.output,h.base,h1,⟨a,b,ha,hb,d,e⟩,dj,hh⟩
theorem Ent.ex {X:Type} {p:X→HP} (x:X):Ent (p x::σ) (exP p::σ):=fun _ _ _ h=>h.map_head fun _ e=>⟨x,e⟩
theorem Ent.of_eq (h:σ=τ):Ent σ τ:=h▸Ent.refl _
theorem Ent.cons {p:HP} (h:Ent σ τ):Ent (p::σ) (p::τ):=fun _ _ _ s=>by
  obtain⟨h1,⟨a,b,ha,hb,d,e⟩,dj,hh⟩:=s.own
  subst e
  have s':St _ (Hp.un _ a) σ _:=⟨s.os,s.tape,s.output,s.base.un (hh.mono (Hp.le_un_left _ _)),b,hb,(dj.of_un_right').un_left d,hh.mono (Hp.le_un_right d)⟩
  obtain⟨g,hg,dg,hhg⟩:=(h _ _ _ s').own
  exact⟨s.os,s.tape,s.output,s.base,a.un g,⟨a,g,ha,hg,dg.of_un_left',rfl⟩,(dj.of_un_right).un_right dg.of_un_left,(hh.mono (Hp.le_un_left _ _)).un hhg⟩
theorem Ent.app {τ':List HP} (h:Ent σ τ):Ent (τ'++σ) (τ'++τ):=by
  induction τ' with
  | nil=>exact h
  | cons p r ih=>exact Ent.cons ih
theorem Ent.appR {τ':List HP} (h:Ent σ τ):Ent (σ++τ') (τ++τ'):=
  (Ent.perm List.perm_append_comm).trans ((Ent.app h).trans (Ent.perm List.perm_append_comm))
theorem Ent.pull (i:Nat) {p:HP} (hi:σ[i]?=some p):Ent σ (p::σ.eraseIdx i):=fun _ _ _ h=>h.pull i hi
theorem Ent.at (i:Nat) {p q:HP} (hi:σ[i]?=some p) (h:Ent (p::σ.eraseIdx i) (q::σ.eraseIdx i)):Ent σ (σ.set i q):=fun _ _ _ s=>St.put i hi (h _ _ _ (s.pull i hi))
theorem WL.fact {l:List Oper} {φ:Prop} (hφ:∀ k h0 w,St k h0 σ w→φ) (h:φ→WL P k h0 ops K Q l ρ σ):WL P k h0 ops K Q l ρ σ:=fun a w ha hs=>h (hφ _ _ _ hs) a w ha hs
theorem WL.ex {l:List Oper} {X:Type} {p:X→HP} (h:∀ x,WL P k h0 ops K Q l ρ (p x::σ)):WL P k h0 ops K Q l ρ (exP p::σ):=fun a w ha hs=>by
  obtain⟨h1,⟨x,b,⟨y,hy⟩,hb,d,e⟩,dj,hh⟩:=hs.own
  exact h y a w ha ⟨hs.os,hs.tape,hs.output,hs.base,h1,⟨x,b,hy,hb,d,e⟩,dj,hh⟩
theorem FT.ex {f:FuncId} {vs:List Value} {R:Ending→List HP→Prop} {X:Type} {p:X→HP} (h:∀ x,FT P f vs k h0 (p x::σ) R):FT P f vs k h0 (exP p::σ) R:=fun w hs=>by
  obtain⟨h1,⟨x,b,⟨y,hy⟩,hb,d,e⟩,dj,hh⟩:=hs.own
  exact h y w ⟨hs.os,hs.tape,hs.output,hs.base,h1,⟨x,b,hy,hb,d,e⟩,dj,hh⟩
theorem FT.fact {f:FuncId} {vs:List Value} {R:Ending→List HP→Prop} {φ:Prop} (hφ:∀ k h0 w,St k h0 σ w→φ) (h:φ→FT P f vs k h0 σ R):FT P f vs k h0 σ R:=fun w hs=>h (hφ _ _ _ hs) w hs
theorem FT.part {f:FuncId} {vs:List Value} {R:Value→List HP→Prop} (σ1 σ2:List HP) (hp:Ent σ (σ1++σ2)) (h:∀ g,Stars σ2 g→h0.Dj g→FT P f vs k (h0.un g) σ1 (Ret R)) :
    FT P f vs k h0 σ (Ret fun v τ=>∃ τ',R v τ'∧τ=τ'++σ2):=
  FT.ent hp ((FT.frame h).mono fun _ _ ⟨σ'',hσ,v,he,hr⟩=>⟨v,he,σ'',hr,hσ⟩)
theorem St.vec_shape {w:World} {E sz n:Nat} {v:Value} {cs:List Value} (i:Nat) (hi:σ[i]?=some (vec E sz v n cs)) (h:St k h0 σ w) :
    cs.length=n*sz∧∃ a cap,v=.slice a n cap∧n≤cap∧(0<n→∃ b,a=some ⟨b,0,none⟩):=by
  obtain⟨hl,hc⟩:=(h.pull i hi).vec_cases
  refine⟨hl,?_⟩
  rcases hc with ⟨hv,hn,_⟩ | ⟨b,cap,junk,hv,hn,_,_⟩
  · exact⟨none,0,by rw[hv,hn],by omega,fun h=>by omega⟩
  · exact⟨some ⟨b,0,none⟩,cap,hv,hn,fun _=>⟨b,rfl⟩⟩
theorem St.vec_cells {w:World} {E sz n b cap:Nat} {cs:List Value} (i:Nat) (hi:σ[i]?=some (vec E sz (.slice (some ⟨b,0,none⟩) n cap) n cs)) (h:St k h0 σ w) :
    ∃ junk,St k h0 (cl b (cs++junk) E::σ.eraseIdx i) w∧n≤cap∧cs.length=n*sz∧cs.length+junk.length=cap*sz:=by
  obtain⟨hl,hc⟩:=(h.pull i hi).vec_cases
  rcases hc with ⟨hv,_⟩ | ⟨b',cap',junk,hv,hn,hc,hs⟩
  · cases hv
  · cases hv
    exact⟨junk,hs,hn,hl,hc⟩
theorem Rd.vec {E sz n b cap off:Nat} {cs:List Value} {v:Value} (i:Nat) (hi:σ[i]?=some (vec E sz (.slice (some ⟨b,0,none⟩) n cap) n cs)) (h:cs[off]?=some v):Rd h0 σ ⟨b,off,none⟩ v:=fun k w s=>by
  obtain⟨junk,hs,_⟩:=s.vec_cells i hi
  have hlt:off<cs.length:=by
   rcases Nat.lt_or_ge off cs.length with g | g
   · exact g
   · rw[List.getElem?_eq_none g] at h;cases h
  exact Rd.own (σ:=cl b (cs++junk) E::σ.eraseIdx i) 0 rfl (by rw[List.getElem?_append_left hlt];exact h) k w hs
theorem Rds.vec {E sz n b cap o:Nat} {cs vs:List Value} (i:Nat) (hi:σ[i]?=some (vec E sz (.slice (some ⟨b,0,none⟩) n cap) n cs)) (h:∀ j v,vs[j]?=some v→cs[o+j]?=some v):Rds h0 σ b o vs:=
  fun j v hj=>Rd.vec i hi (h j v hj)
theorem Wr.vec {E sz n b cap off:Nat} {cs:List Value} {v:Value} (i:Nat) (hi:σ[i]?=some (vec E sz (.slice (some ⟨b,0,none⟩) n cap) n cs)) (h:off<cs.length) :
    Wr σ ⟨b,off,none⟩ v (σ.set i (vec E sz (.slice (some ⟨b,0,none⟩) n cap) n (cs.set off v))):=fun k h0 w s=>by
  obtain⟨junk,hs,hn,hl,hc⟩:=s.vec_cells i hi
  obtain⟨h1,h2,h3⟩:=Wr.own (σ:=cl b (cs++junk) E::σ.eraseIdx i) (v:=v) (off:=off) 0 rfl (by rw[List.length_append];omega) k h0 w hs
  refine⟨h1,h2,St.put i hi ?_⟩
  have e:(cs++junk).set off v=cs.set off v++junk:=by rw[List.set_append_left _ _ h]
  have h3':St k h0 (cl b (cs.set off v++junk) E::σ.eraseIdx i) (w.setCell ⟨b,off,none⟩ v):=by rw[← e];exact h3
  exact h3'.vec_of_cl hn (by simpa using hl) (by simpa using hc)
theorem Ent.vec_made {E n b:Nat} {cs:List Value} (hl:cs.length=n):Ent (cl b cs E::σ) (vec E 1 (.slice (some ⟨b,0,none⟩) n n) n cs::σ):=fun k1 g1 w1 h=>by
  have h':St k1 g1 (cl b (cs++[]) E::σ) w1:=by rw[List.append_nil];exact h
  exact h'.vec_of_cl (Nat.le_refl _) (by omega) (by simp;omega)
def In (p:HP) (h:Hp):Prop:=∃ a,p a∧a.le h
theorem In.mono {p:HP} {h g:Hp} (i:In p h) (l:h.le g):In p g:=let ⟨a,x,y⟩:=i;⟨a,x,Hp.le_trans y l⟩
theorem In.of_stars {p:HP} {g:Hp} (i:Nat) (hi:σ[i]?=some p) (hg:Stars σ g):In p g:=by
  obtain⟨a,c,ha,hc,d,e⟩:=hg.perm (perm_pull i hi)
  exact⟨a,ha,by rw[e];exact Hp.le_un_left _ _⟩
theorem In.of_stars' {p:HP} {g:Hp} (i:Nat) (hi:σ[i]?=some p) (hg:Stars σ g) (dj:h0.Dj g):In p (h0.un g):=(In.of_stars i hi hg).mono (Hp.le_un_right dj)
theorem Rd.of {b off T:Nat} {cs:List Value} {v:Value} (hb:At h0 b cs T) (h:cs[off]?=some v):Rd h0 σ ⟨b,off,none⟩ v:=by
  obtain⟨fr,hb⟩:=hb
  exact Rd.ro (by rw[hb];show cs.toArray[off]?=_;rw[List.getElem?_toArray];exact h)
end
open Go.RowKit
section
variable {P:Program} {k:World} {h0:Hp} {σ:List HP} {ρ:Env} {d:Option Tmp} {ty:TypeId} {pos:String} {aft:Array Edge} {g:Option (Nat × Bool)}
theorem V.indexStr {T:TypeId} {x y:Operand} {s:ByteArray} {j:IntKind} {i:Int} {b:UInt8} (hT:P.underlying T=some .string) (hx:ρ.ev x=some (.string s)) (hy:ρ.ev y=some (.int j i)) (hb:0≤i) (hv:s[i.toNat]?=some b) :
    Val P k h0 σ ρ ⟨d,.index T x y,ty,pos,aft,g⟩ (.int .u8 (b.toNat:Int)):=fun A w ha hs=>by
  simp[execOp,ha.ev hx,ha.ev hy,Instr.index,asIntOf,run_underlying' hT,hb,hv]
def ifcB (P:Program) (T:TypeId):Bool:=match P.underlying T with | some (.interface _)=>true | _=>false
theorem ifcB_spec {T:TypeId} (h:ifcB P T=true):∃ ms,P.underlying T=some (.interface ms):=by
  unfold ifcB at h
  split at h
  · exact⟨_,by assumption⟩
  · cases h
theorem run_equal_iface_nil {T:TypeId} {t:TypeId} {v:Value} {w:World} (hT:ifcB P T=true):(Op.equal T (.iface t v) .nilIface).run P w=.ok false w:=by
  obtain⟨ms,hT⟩:=ifcB_spec hT
  unfold Op.equal
  rw[show Op.maxDepth=9999+1 from rfl]
  unfold Op.equalIn
  simp[run_underlying' hT]
theorem V.neqIfaceNil {T U:TypeId} {x:Operand} {t:TypeId} {v:Value} (hT:ifcB P T=true) (hx:ρ.ev x=some (.iface t v)):Val P k h0 σ ρ ⟨d,.binOp .neq T x (.const .nilIface) U,ty,pos,aft,g⟩ (.bool true):=fun A w ha hs=>by
  have e:A.eval (.const .nilIface)=.nilIface:=rfl
  simp[execOp,ha.ev hx,e,eqGuard,binOp,run_equal_iface_nil hT]
def intsS (P:Program) (T:TypeId) (n:Nat) (kd:IntKind):Bool:=
  match P.underlying T with
  | some (.struct fs)=>!P.stoodInHeld T && !P.eqGuardType P.depth T && (fs.toList.length == n) && (fs.toList.zipIdx).all fun (f,i)=>f.name != "_" && f.offset == i && scal P f.type && (match P.underlying f.type with | some (.int k')=>k' == kd | _=>false)
  | _=>false
theorem run_equal_struct {T n:Nat} {kd:IntKind} (hT:intsS P T n kd=true) (xs ys:List Int) (hx:xs.length=n) (hy:ys.length=n) (w:World) :
    (Op.equal T (.agg (xs.map (Value.int kd)).toArray) (.agg (ys.map (Value.int kd)).toArray)).run P w=.ok (decide (xs=ys)) w:=by
  unfold intsS at hT
  cases hu:P.underlying T with
  | none=>rw[hu] at hT;cases hT
  | some D=>
    rw[hu] at hT
    cases D with
    | struct fs=>
      simp only[Bool.and_eq_true,Bool.not_eq_true',List.all_eq_true,beq_iff_eq,bne_iff_ne,ne_eq] at hT
      obtain⟨⟨⟨hst,_⟩,hlen⟩,hall⟩:=hT
      unfold Op.equal
      rw[show Op.maxDepth=9998+1+1 from rfl]
      unfold Op.equalIn
      simp only[Sem.run_bind,run_underlying' hu,Result.andThen_ok,run_program,hst,Bool.false_eq_true,if_false,Sem.run_pure]
      rw[← Array.forIn_toList]
      have key:∀ (m s:Nat),s+m=n→xs.take s=ys.take s→
        ((forIn (m:=Sem) (fs.toList.drop s) ((none,()):Option Bool × Unit) fun f _=>do
         if f.name ≠ "_" then do
          let a ← part f.type (xs.map (Value.int kd)).toArray f.offset
          let b ← part f.type (ys.map (Value.int kd)).toArray f.offset
          let e ← Op.equalIn 9999 f.type a b
          if (!e)=true then pure (ForInStep.done (some false,())) else pure (ForInStep.yield (none,()))
         else pure (ForInStep.yield (none,()))).run P w)=
        .ok (if xs=ys then (none,()) else (some false,())) w:=by
       intro m
       induction m with
       | zero=>
         intro s hsm htk
         have:xs=ys:=by
          rw[List.take_of_length_le (by omega),List.take_of_length_le (by omega)] at htk
          exact htk
         rw[List.drop_eq_nil_of_le (by omega)]
         simp[this]
       | succ m ih=>
         intro s hsm htk
         have hsx:s<xs.length:=by omega
         have hsy:s<ys.length:=by omega
         have hsf:s<fs.toList.length:=by omega
         obtain⟨⟨⟨hname,hoff⟩,hsc⟩,hE'⟩:=hall (fs.toList[s],s) (by rw[List.mem_iff_getElem];exact⟨s,by simpa using hsf,by simp⟩)
         have hE:P.underlying fs.toList[s].type=some (.int kd):=by
          cases hd:P.underlying fs.toList[s].type with
          | none=>rw[hd] at hE';cases hE'
          | some D=>
            rw[hd] at hE'
            cases D <;> first | (simp at hE';subst hE';rfl) | cases hE'
         have p1:=run_part1 (P:=P) (E:=fs.toList[s].type) (cs:=(xs.map (Value.int kd)).toArray) (i:=fs.toList[s].offset) (v:=.int kd xs[s]) (w:=w) hsc (by rw[hoff];simp[hsx])
         have p2:=run_part1 (P:=P) (E:=fs.toList[s].type) (cs:=(ys.map (Value.int kd)).toArray) (i:=fs.toList[s].offset) (v:=.int kd ys[s]) (w:=w) hsc (by rw[hoff];simp[hsy])
         rw[List.drop_eq_getElem_cons hsf,List.forIn_cons,if_pos hname]
         simp only[Sem.run_bind,p1,p2,Result.andThen_ok,run_equalIn_int w 9998 _ kd kd xs[s] ys[s] hE]
         by_cases he:xs[s]=ys[s]
         · have:=ih (s+1) (by omega) (by rw[List.take_succ_eq_append_getElem hsx,List.take_succ_eq_append_getElem hsy,htk,he])
           simp only[he,beq_self_eq_true,Bool.not_true,Bool.false_eq_true,if_false,Sem.run_bind,Sem.run_pure,Result.andThen_ok]
           exact this
         · have hne:xs≠ys:=fun e=>he (by simp[e])
           have:(xs[s] == ys[s])=false:=by simpa using he
           simp[this,hne]
      have:=key n 0 (by omega) (by simp)
      rw[List.drop_zero] at this
      refine (congrArg (fun r=>Result.andThen r _) this).trans ?_
      by_cases h:xs=ys
      · simp[h]
      · simp[h]
    | _=>cases hT
end
section
variable {P:Program} {k:World} {h0:Hp} {Q:Post} {σ:List HP} {K:Env→List HP→Prop} {ops rest:List Oper}
  {n:Nat} {ds:List Deferred} {l:List (Nat × Value)}
end
open Go.RowKit
section
variable {P:Program} {k:World} {h0:Hp} {σ τ:List HP} {ρ:Env} {d:Option Tmp} {ty:TypeId} {pos:String} {aft:Array Edge} {g:Option (Nat × Bool)}
theorem FT.tight {f:FuncId} {vs:List Value} {R:Value→List HP→Prop} (h:FT P f vs k h0 σ (Ret fun v τ=>∃ τ',R v τ'∧Ent τ τ')):FT P f vs k h0 σ (Ret R):=fun w hs=>
  (h w hs).mono fun _ _ ⟨_,hst,v,e,τ',hr,he⟩=>⟨τ',he _ _ _ hst,v,e,hr⟩
theorem St.vec_one {w:World} {E sz n:Nat} {v:Value} {cs:List Value} (i:Nat) (hi:σ[i]?=some (vec E sz v n cs)) (h:St k h0 σ w):v.oneCell'=true:=by
  obtain⟨_,a,cap,e,_⟩:=h.vec_shape i hi
  rw[e];rfl
theorem Ent.vec_madeN {E n sz b:Nat} {cs:List Value} (hl:cs.length=n*sz):Ent (cl b cs E::σ) (vec E sz (.slice (some ⟨b,0,none⟩) n n) n cs::σ):=fun k1 g1 w1 h=>by
  have h':St k1 g1 (cl b (cs++[]) E::σ) w1:=by rw[List.append_nil];exact h
  exact h'.vec_of_cl (Nat.le_refl _) (by omega) (by simp;omega)
theorem Ent.right (σ τ:List HP):Ent (σ++τ) σ:=(Ent.perm List.perm_append_comm).trans (Ent.left τ σ)
end
theorem map_range_set {α:Type} {f g:Nat→α} {n y:Nat} {v:α} (hv:v=g y) (h:∀ i,i<n→i≠y→f i=g i):((List.range n).map f).set y v=(List.range n).map g:=by
  apply List.ext_getElem
  · simp
  · intro i h1 h2
    simp only[List.length_set,List.length_map,List.length_range] at h1
    rw[List.getElem_set]
    split
    · rename_i e;subst e;simp[hv]
    · rename_i e;simp[h i h1 (fun e'=>e e'.symm)]
def wordOf (f:Nat→Nat):Nat→Nat
  | 0=>0
  | n+1=>2^n*(f n%2)+wordOf f n
theorem pow_cast (i:Nat):(2:Int)^i=((2^i:Nat):Int):=(Int.natCast_pow 2 i).symm
attribute [irreducible] wordOf
open Go.RowKit
section
variable {P:Program} {k:World} {h0:Hp} {Q:Post} {ρ:Env} {σ:List HP} {K:Env→List HP→Prop} {ops:List Oper} {is:List Nat} {r:Option Nat}
  {n:Nat} {ds:List Deferred} {l:List (Nat × Value)}
end
section
variable {P:Program} {k:World} {h0:Hp} {Q:Post} {ρ:Env} {σ:List HP}
theorem St.putObj {w:World} {b:Nat} {o o':Obj} (i:Nat) (hi:σ[i]?=some (ob b o)) (h:St k h0 σ w):St k h0 (σ.set i (ob b o')) (w.putObj b o'):=
  h.write i hi rfl rfl rfl (World.putObj_heap_same (lt_of_look (h.look i hi))) (fun _ hc=>World.putObj_heap_other hc)
end
open Go.RowKit
def Born (es:List MapEntry) (clock:Nat):Prop:=(es.map (·.born)).Nodup∧∀ e∈es,e.born<clock
theorem Born.push {es:List MapEntry} {c:Nat} (h:Born es c) (e:MapEntry) (he:e.born=c):Born (es++[e]) (c+1):=by
  refine⟨?_,fun x hx=>?_⟩
  · rw[List.map_append,List.nodup_append]
    refine⟨h.1,by simp,fun a ha b hb hab=>?_⟩
    obtain⟨x,hx,rfl⟩:=List.mem_map.1 ha
    have:=h.2 x hx
    simp at hb
    omega
  · rcases List.mem_append.1 hx with hx | hx
    · have:=h.2 x hx;omega
    · simp at hx;subst hx;omega
theorem map_modify_same {γ:Type} (g:MapEntry→γ) (f:MapEntry→MapEntry) (hf:∀ e,g (f e)=g e):∀ (es:List MapEntry) (i:Nat),(es.modify i f).map g=es.map g
  | [],i=>by cases i <;> rfl
  | e::es,0=>by simp[List.modify_zero_cons,hf]
  | e::es,i+1=>by simp[List.modify_succ_cons,map_modify_same g f hf es i]
theorem Born.modify {es:List MapEntry} {c:Nat} (h:Born es c) (i:Nat) (f:MapEntry→MapEntry) (hf:∀ e,(f e).born=e.born):Born (es.modify i f) c:=by
  have e1:=map_modify_same (·.born) f hf es i
  refine⟨by rw[e1];exact h.1,fun x hx=>?_⟩
  have:x.born∈(es.modify i f).map (·.born):=List.mem_map.2 ⟨x,hx,rfl⟩
  rw[e1] at this
  obtain⟨y,hy,e⟩:=List.mem_map.1 this
  have:=h.2 y hy
  omega
def mpO {α:Type} (b:Nat) (enc:α→Value) (m:List (α × Value)):HP:=fun h=>
  ∃ (es:Array MapEntry) (clock:Nat),es.toList.map (fun e:MapEntry=>(e.key,e.val))=m.map (fun x=>(enc x.1,x.2))∧Born es.toList clock∧h=Hp.one b (.map es clock)
section
variable {α β:Type} [DecidableEq α]
def mget:List (α × β)→α→Option β
  | [],_=>none
  | x::r,k=>if x.1=k then some x.2 else mget r k
def mput:List (α × β)→α→β→List (α × β)
  | [],k,v=>[(k,v)]
  | x::r,k,v=>if x.1=k then (k,v)::r else x::mput r k v
def mfind:List (α × β)→α→Nat→Option (Nat × β)
  | [],_,_=>none
  | x::r,k,i=>if x.1=k then some (i,x.2) else mfind r k (i+1)
theorem mget_put (m:List (α × β)) (k:α) (v:β) (j:α):mget (mput m k v) j=if k=j then some v else mget m j:=by
  induction m with
  | nil=>simp[mput,mget]
  | cons x r ih=>
    simp only[mput]
    by_cases h:x.1=k
    · rw[if_pos h]
      simp only[mget]
      by_cases hj:k=j
      · rw[if_pos hj,if_pos hj]
      · rw[if_neg hj,if_neg hj,if_neg (by rw[h];exact hj)]
    · rw[if_neg h]
      simp only[mget,ih]
      by_cases hj:x.1=j
      · rw[if_pos hj,if_pos hj,if_neg (fun e=>h (hj.trans e.symm))]
      · rw[if_neg hj,if_neg hj]
theorem mfind_get (m:List (α × β)) (k:α):∀ i,(mfind m k i).map (·.2)=mget m k:=by
  induction m with
  | nil=>intro i;rfl
  | cons x r ih=>
    intro i
    simp only[mfind,mget]
    split
    · rfl
    · exact ih _
end
structure KeyOk {α:Type} [DecidableEq α] (P:Program) (T:TypeId) (enc:α→Value):Prop where
  find:∀ (k:α) (es:List MapEntry) (m:List (α × Value)),es.map (fun e:MapEntry=>(e.key,e.val))=m.map (fun x=>(enc x.1,x.2))→∀ w,(Instr.findKey T (enc k) es).run P w=.ok (mfind m k 0) w
  chk:∀ e k w,(Instr.checkKey e 10000 T (enc k)).run P w=.ok () w
  stays:∀ k,Instr.sameBits 10000 (enc k) (enc k)=true
def mapT (P:Program) (T:TypeId) (K V:TypeId):Bool:=match P.underlying T with | some (.map K' V')=>K' == K && V' == V | _=>false
theorem mapT_spec {P:Program} {T K V:TypeId} (h:mapT P T K V=true):P.underlying T=some (.map K V):=by
  unfold mapT at h
  split at h
  · rename_i h'
    simp only[Bool.and_eq_true,beq_iff_eq] at h
    rw[h',h.1,h.2]
  · cases h
section
variable {P:Program} {k:World} {h0:Hp} {σ:List HP} {ρ:Env} {d:Option Tmp} {ty:TypeId} {pos:String} {aft:Array Edge} {g:Option (Nat × Bool)} {α:Type} {enc:α→Value}
theorem St.map_open {w:World} {b:Nat} {m:List (α × Value)} (i:Nat) (hi:σ[i]?=some (mpO b enc m)) (h:St k h0 σ w) :
    ∃ es clock,es.toList.map (fun e:MapEntry=>(e.key,e.val))=m.map (fun x=>(enc x.1,x.2))∧Born es.toList clock∧w.heap[b]?=some (.map es clock)∧St k h0 (ob b (.map es clock)::σ.eraseIdx i) w:=by
  have hp:=h.pull i hi
  obtain⟨h1,⟨a,c,⟨es,clock,he,hbo,ha⟩,hc,dj,e⟩,dj0,hh⟩:=hp.own
  have hs:St k h0 (ob b (.map es clock)::σ.eraseIdx i) w:=⟨h.os,h.tape,h.output,h.base,h1,⟨a,c,ha,hc,dj,e⟩,dj0,hh⟩
  exact⟨es,clock,he,hbo,hs.look 0 rfl,hs⟩
theorem M.makeMap {T:TypeId}:Mem P k h0 σ ρ ⟨d,.makeMap T none,ty,pos,aft,g⟩ (fun b:Nat=>.map (some b)) (fun b=>mpO (α:=α) b enc []::σ):=fun A w ha hs=>by
  refine⟨w.heap.size,{w with heap:=w.heap.push (.map #[] 0)},?_,St.map_head (fun _ e=>⟨#[],0,rfl,⟨by simp,by simp⟩,e⟩) (hs.new (.map #[] 0))⟩
  simp only[execOp,Option.map]
  rfl
theorem run_getObj_map {w:World} {b:Nat} {es:Array MapEntry} {c:Nat} (h:w.heap[b]?=some (.map es c)):(getObj b).run P w=.ok (.map es c) w:=by
  simp[getObj,Sem.run,h]
theorem run_setObj_map {w:World} {b:Nat} {es:Array MapEntry} {c:Nat} {o':Obj} (h:w.heap[b]?=some (.map es c)):(setObj b o').run P w=.ok () (w.putObj b o'):=by
  simp[setObj,Sem.run,h,World.putObj]
theorem V.lenMap {T Kt Vt:TypeId} {x:Operand} {b:Nat} {m:List (α × Value)} {tt:Array TypeId} (i:Nat) (hT:mapT P T Kt Vt=true) (htt:tt[0]?=some T) (hx:ρ.ev x=some (.map (some b))) (hi:σ[i]?=some (mpO b enc m)) :
    Val P k h0 σ ρ ⟨d,.call ⟨.builtin .len,#[x],tt⟩,ty,pos,aft,g⟩ (.int .i64 (m.length:Int)):=fun A w ha hs=>by
  obtain⟨es,c,he,_,hb,_⟩:=hs.map_open i hi
  have hl:es.size=m.length:=by have:=congrArg List.length he;simpa using this
  have e0:tt[0]?.getD 0=T:=by rw[htt];rfl
  simp[execOp,resolve,invoke,builtin,ha.ev hx,htt,Builtin.len_,run_underlying' (mapT_spec hT),run_getObj_map hb,hl,goInt]
end
section
variable {P:Program} {k:World} {h0:Hp} {σ:List HP} {ρ:Env} {d:Option Tmp} {ty:TypeId} {pos:String} {aft:Array Edge} {g:Option (Nat × Bool)} {α:Type} [DecidableEq α] {enc:α→Value}
theorem run_lookup {T K V:TypeId} {b:Nat} {key:α} {es:Array MapEntry} {c:Nat} {m:List (α × Value)} {z:Value} {i:TypeInfo} {ok:Bool} {w:World} (hT:mapT P T K V=true) (hk:KeyOk P K enc) (hi:P.info? V=some i) (hz:i.zero=some z)
    (he:es.toList.map (fun e:MapEntry=>(e.key,e.val))=m.map (fun x=>(enc x.1,x.2))) (hb:w.heap[b]?=some (.map es c)) :
    (Instr.lookup T (.map (some b)) (enc key) ok).run P w=.ok (if ok then .tuple #[(mget m key).getD z,.bool (mget m key).isSome] else (mget m key).getD z) w:=by
  unfold Instr.lookup
  simp only[Sem.run_bind,run_underlying' (mapT_spec hT),Result.andThen_ok,run_getObj_map hb,Sem.run_pure,hk.chk,hk.find key _ _ he]
  rw[← mfind_get m key 0]
  cases hf:mfind m key 0 with
  | none=>
    simp only[Sem.run_bind,run_zeroValue' hi hz,Result.andThen_ok,Sem.run_pure]
    cases ok <;> rfl
  | some x=>
    simp only[Sem.run_pure,Result.andThen_ok]
    cases ok <;> rfl
def zer1 (P:Program) (V:TypeId) (z:Value):Prop:=∃ i,P.info? V=some i∧i.zero=some z
theorem V.lookup {T Kt Vt:TypeId} {x y:Operand} {b:Nat} {key:α} {m:List (α × Value)} {z:Value} (i:Nat) (hT:mapT P T Kt Vt=true) (hk:KeyOk P Kt enc) (hz:zer1 P Vt z) (hx:ρ.ev x=some (.map (some b))) (hy:ρ.ev y=some (enc key)) (hi:σ[i]?=some (mpO b enc m)) :
    Val P k h0 σ ρ ⟨d,.lookup T x y false,ty,pos,aft,g⟩ ((mget m key).getD z):=fun A w ha hs=>by
  obtain⟨es,c,he,_,hb,_⟩:=hs.map_open i hi
  obtain⟨ti,h1,h2⟩:=hz
  have:=run_lookup (P:=P) (w:=w) (ok:=false) hT hk h1 h2 he hb (key:=key)
  simp only[execOp,ha.ev hx,ha.ev hy,Sem.run_bind,this,Result.andThen_ok,Bool.false_eq_true,if_false]
  rfl
theorem V.lookupOk {T Kt Vt:TypeId} {x y:Operand} {b:Nat} {key:α} {m:List (α × Value)} {z:Value} (i:Nat) (hT:mapT P T Kt Vt=true) (hk:KeyOk P Kt enc) (hz:zer1 P Vt z) (hx:ρ.ev x=some (.map (some b))) (hy:ρ.ev y=some (enc key)) (hi:σ[i]?=some (mpO b enc m)) :
    Val P k h0 σ ρ ⟨d,.lookup T x y true,ty,pos,aft,g⟩ (.tuple #[(mget m key).getD z,.bool (mget m key).isSome]):=fun A w ha hs=>by
  obtain⟨es,c,he,_,hb,_⟩:=hs.map_open i hi
  obtain⟨ti,h1,h2⟩:=hz
  have:=run_lookup (P:=P) (w:=w) (ok:=true) hT hk h1 h2 he hb (key:=key)
  simp only[execOp,ha.ev hx,ha.ev hy,Sem.run_bind,this,Result.andThen_ok,if_true]
  rfl
theorem mput_entries {m:List (α × Value)} {key:α} {v:Value}:∀ {es:List MapEntry} {n:Nat},es.map (fun e:MapEntry=>(e.key,e.val))=m.map (fun x=>(enc x.1,x.2))→
    (∀ j u,mfind m key n=some (j,u)→n≤j∧((es.modify (j-n) fun e:MapEntry=>{e with key:=enc key,val:=v}).map (fun e:MapEntry=>(e.key,e.val))=(mput m key v).map (fun x=>(enc x.1,x.2)))∧((es[j-n]?).map fun e:MapEntry=>e.key)=some (enc key))∧
    (mfind m key n=none→∀ c,(es++[({key:=enc key,val:=v,born:=c}:MapEntry)]).map (fun e:MapEntry=>(e.key,e.val))=(mput m key v).map (fun x=>(enc x.1,x.2))):=by
  induction m with
  | nil=>
    intro es n h
    have:es=[]:=by simpa using h
    subst this
    exact⟨fun j u e=>by simp[mfind] at e,fun _ c=>by simp[mput]⟩
  | cons x r ih=>
    intro es n h
    cases es with
    | nil=>simp at h
    | cons e es=>
      simp only[List.map_cons,List.cons.injEq,Prod.mk.injEq] at h
      obtain⟨⟨hk,hv⟩,ht⟩:=h
      obtain⟨i1,i2⟩:=ih (n:=n+1) ht
      constructor
      · intro j u hf
        simp only[mfind] at hf
        by_cases hx:x.1=key
        · rw[if_pos hx] at hf
          obtain⟨rfl,rfl⟩:n=j∧x.2=u:=by simpa using hf
          refine⟨Nat.le_refl _,?_,?_⟩
          · rw[Nat.sub_self]
            simp only[List.modify_zero_cons,List.map_cons,mput,if_pos hx,ht]
          · rw[Nat.sub_self];simp[hk,hx]
        · rw[if_neg hx] at hf
          obtain⟨h1,h2,h3⟩:=i1 j u hf
          have e1:j-n=(j-(n+1))+1:=by omega
          refine⟨by omega,?_,?_⟩
          · rw[e1]
            simp only[List.modify_succ_cons,List.map_cons,mput,if_neg hx,h2,hk,hv]
          · rw[e1];simpa using h3
      · intro hf c
        simp only[mfind] at hf
        by_cases hx:x.1=key
        · rw[if_pos hx] at hf;cases hf
        · rw[if_neg hx] at hf
          have:=i2 hf c
          simp only[List.cons_append,List.map_cons,mput,if_neg hx,this,hk,hv]
theorem E.mapUpdate {T Kt Vt:TypeId} {x y u:Operand} {b:Nat} {key:α} {m:List (α × Value)} {v:Value} (i:Nat) (hT:mapT P T Kt Vt=true) (hk:KeyOk P Kt enc) (hx:ρ.ev x=some (.map (some b))) (hy:ρ.ev y=some (enc key)) (hu:ρ.ev u=some v) (hi:σ[i]?=some (mpO b enc m)) :
    Eff P k h0 σ ρ ⟨d,.mapUpdate T x y u,ty,pos,aft,g⟩ (mpO b enc (mput m key v)::σ.eraseIdx i):=fun A w ha hs=>by
  obtain⟨es,c,he,hbo,hb,hst⟩:=hs.map_open i hi
  have hp:=mput_entries (key:=key) (v:=v) (es:=es.toList) (n:=0) he
  have close:∀ (es':Array MapEntry) (c':Nat),es'.toList.map (fun e:MapEntry=>(e.key,e.val))=(mput m key v).map (fun x=>(enc x.1,x.2))→Born es'.toList c'→St k h0 (mpO b enc (mput m key v)::σ.eraseIdx i) (w.putObj b (.map es' c')):=fun es' c' h hb'=>by
   have:=hst.putObj (o':=.map es' c') 0 rfl
   exact St.map_head (fun _ e=>⟨es',c',h,hb',e⟩) this
  have run:∀ es' c',(setObj b (.map es' c')).run P w=.ok () (w.putObj b (.map es' c')):=fun _ _=>run_setObj_map hb
  have key0:(execOp A.eval ⟨d,.mapUpdate T x y u,ty,pos,aft,g⟩).run P w=((Instr.mapUpdate T (.map (some b)) (enc key) v).run P w).andThen fun _ w'=>.ok .skip w':=by
   simp only[execOp,ha.ev hx,ha.ev hy,ha.ev hu,Sem.run_bind]
   rfl
  have key1:∃ es' c',(Instr.mapUpdate T (.map (some b)) (enc key) v).run P w=.ok () (w.putObj b (.map es' c'))∧es'.toList.map (fun e:MapEntry=>(e.key,e.val))=(mput m key v).map (fun x=>(enc x.1,x.2))∧Born es'.toList c':=by
   unfold Instr.mapUpdate
   simp only[Sem.run_bind,run_underlying' (mapT_spec hT),Result.andThen_ok,run_getObj_map hb,hk.chk,hk.find key _ _ he]
   cases hf:mfind m key 0 with
   | none=>
     refine⟨_,_,run _ _,?_,?_⟩
     · have:=hp.2 hf c
       simpa using this
     · have:=hbo.push ⟨enc key,v,c⟩ rfl
       simpa using this
   | some x=>
     obtain⟨j,u'⟩:=x
     obtain⟨_,h2,h3⟩:=hp.1 j u' hf
     rw[Nat.sub_zero] at h2 h3
     have e3:((es[j]?).map (·.key)).getD (enc key)=enc key:=by
      have:(es[j]?).map (·.key)=some (enc key):=by rw[← h3];simp
      rw[this];rfl
     have e4:(Instr.keyThatStays (enc key) (enc key)).run P w=.ok (enc key) w:=by
      unfold Instr.keyThatStays
      rw[if_pos (hk.stays key)];rfl
     simp only[e3,Sem.run_bind,e4,Result.andThen_ok]
     refine⟨_,_,run _ _,?_,?_⟩
     · rw[← h2]
       simp
     · have:=hbo.modify j (fun e:MapEntry=>{e with key:=enc key,val:=v}) (fun _=>rfl)
       simpa using this
  obtain⟨es',c',hr,hm,hb'⟩:=key1
  refine⟨_,?_,close es' c' hm hb'⟩
  rw[key0,hr]
  rfl
theorem keyOk_int {K:TypeId} {kd:IntKind} (hK:P.underlying K=some (.int kd)):KeyOk P K (Value.int kd):=by
  refine⟨fun key es m he w=>?_,fun e key w=>?_,fun key=>?_⟩
  · unfold Instr.findKey
    have h:∀ (es:List MapEntry) (m:List (Int × Value)) n,es.map (fun e:MapEntry=>(e.key,e.val))=m.map (fun x=>(Value.int kd x.1,x.2))→Instr.findNow (.int kd) (.int kd key) es n=some (mfind m key n):=by
     intro es
     induction es with
     | nil=>intro m n h;cases m with
       | nil=>rfl
       | cons _ _=>simp at h
     | cons e es ih=>
       intro m n h
       cases m with
       | nil=>simp at h
       | cons x r=>
         simp only[List.map_cons,List.cons.injEq,Prod.mk.injEq] at h
         obtain⟨⟨h1,h2⟩,h3⟩:=h
         simp only[Instr.findNow,h1,Instr.sameNow,if_true,mfind]
         by_cases hx:x.1=key
         · simp[hx,h2]
         · have:(key == x.1)=false:=by simpa using fun e=>hx e.symm
           simp[this,hx,ih r (n+1) h3]
    simp only[Sem.run_bind,run_underlying' hK,Result.andThen_ok,h es m 0 he,Sem.run_pure]
  · rw[show (10000:Nat)=9999+1 from rfl]
    unfold Instr.checkKey
    simp[run_underlying' hK]
  · simp[Instr.sameBits]
theorem keyOk_string {K:TypeId} (hK:P.underlying K=some .string):KeyOk P K Value.string:=by
  refine⟨fun key es m he w=>?_,fun e key w=>?_,fun key=>?_⟩
  · unfold Instr.findKey
    have h:∀ (es:List MapEntry) (m:List (ByteArray × Value)) n,es.map (fun e:MapEntry=>(e.key,e.val))=m.map (fun x=>(Value.string x.1,x.2))→Instr.findNow .string (.string key) es n=some (mfind m key n):=by
     intro es
     induction es with
     | nil=>intro m n h;cases m with
       | nil=>rfl
       | cons _ _=>simp at h
     | cons e es ih=>
       intro m n h
       cases m with
       | nil=>simp at h
       | cons x r=>
         simp only[List.map_cons,List.cons.injEq,Prod.mk.injEq] at h
         obtain⟨⟨h1,h2⟩,h3⟩:=h
         simp only[Instr.findNow,h1,Instr.sameNow,mfind]
         by_cases hx:x.1=key
         · have:(key == x.1)=true:=(Go.MapKept.bytes_beq _ _).2 hx.symm
           rw[hx] at this
           simp[this,hx,h2]
         · have:(key == x.1)=false:=Bool.eq_false_iff.2 fun e=>hx ((Go.MapKept.bytes_beq _ _).1 e).symm
           simp[this,hx,ih r (n+1) h3]
    simp only[Sem.run_bind,run_underlying' hK,Result.andThen_ok,h es m 0 he,Sem.run_pure]
  · rw[show (10000:Nat)=9999+1 from rfl]
    unfold Instr.checkKey
    simp[run_underlying' hK]
  · have:(key == key)=true:=(Go.MapKept.bytes_beq _ _).2 rfl
    simp[Instr.sameBits,this]
abbrev Ints (n:Nat):Type:={xs:List Int // xs.length=n}
def encS (kd:IntKind) (n:Nat) (x:Ints n):Value:=.agg (x.1.map (Value.int kd)).toArray
theorem intsS_spec {K n:Nat} {kd:IntKind} (hT:intsS P K n kd=true):∃ fs:Array Field,P.underlying K=some (.struct fs)∧fs.toList.length=n∧∀ s (hs:s<fs.toList.length),(fs.toList[s]).name ≠ "_"∧(fs.toList[s]).offset=s∧scal P (fs.toList[s]).type=true∧P.underlying (fs.toList[s]).type=some (.int kd):=by
  unfold intsS at hT
  cases hu:P.underlying K with
  | none=>rw[hu] at hT;cases hT
  | some D=>
    rw[hu] at hT
    cases D with
    | struct fs=>
      simp only[Bool.and_eq_true,Bool.not_eq_true',List.all_eq_true,beq_iff_eq,bne_iff_ne,ne_eq] at hT
      obtain⟨⟨⟨_,_⟩,hlen⟩,hall⟩:=hT
      refine⟨fs,rfl,hlen,fun s hs=>?_⟩
      obtain⟨⟨⟨hname,hoff⟩,hsc⟩,hE'⟩:=hall (fs.toList[s],s) (by rw[List.mem_iff_getElem];exact⟨s,by simpa using hs,by simp⟩)
      refine⟨hname,hoff,hsc,?_⟩
      cases hd:P.underlying fs.toList[s].type with
      | none=>rw[hd] at hE';cases hE'
      | some D=>
        rw[hd] at hE'
        cases D <;> first | (simp at hE';subst hE';rfl) | cases hE'
    | _=>cases hT
theorem keyOk_struct {K n:Nat} {kd:IntKind} (hK:intsS P K n kd=true):KeyOk P K (encS kd n):=by
  obtain⟨fs,hu,hlen,hf⟩:=intsS_spec hK
  refine⟨fun key es m he w=>?_,fun e key w=>?_,fun key=>?_⟩
  · unfold Instr.findKey
    have hask:∀ (es:List MapEntry) (m:List (Ints n × Value)) i,es.map (fun e:MapEntry=>(e.key,e.val))=m.map (fun x=>(encS kd n x.1,x.2))→(Instr.findAsking K (encS kd n key) es i).run P w=.ok (mfind m key i) w:=by
     intro es
     induction es with
     | nil=>intro m i h;cases m with
       | nil=>rfl
       | cons _ _=>simp at h
     | cons e es ih=>
       intro m i h
       cases m with
       | nil=>simp at h
       | cons x r=>
         simp only[List.map_cons,List.cons.injEq,Prod.mk.injEq] at h
         obtain⟨⟨h1,h2⟩,h3⟩:=h
         have he:=run_equal_struct (P:=P) hK key.1 x.1.1 key.2 x.1.2 w
         simp only[Instr.findAsking,h1,encS,Sem.run_bind,he,Result.andThen_ok,mfind]
         by_cases hx:x.1=key
         · rw[if_pos hx,hx]
           simp[h2]
         · have:¬ key.1=x.1.1:=fun e=>hx (Subtype.ext e.symm)
           rw[if_neg hx]
           simp only[this,decide_false,Bool.false_eq_true,if_false]
           exact ih r (i+1) h3
    simp only[Sem.run_bind,run_underlying' hu,Result.andThen_ok]
    cases es with
    | nil=>cases m with
      | nil=>rfl
      | cons _ _=>simp at he
    | cons e es=>
      have hn:Instr.findNow (.struct fs) (encS kd n key) (e::es) 0=none:=by simp[Instr.findNow,Instr.sameNow]
      rw[hn]
      exact hask _ _ _ he
  · rw[show (10000:Nat)=9998+1+1 from rfl]
    unfold Instr.checkKey
    simp only[Sem.run_bind,run_underlying' hu,Result.andThen_ok,encS]
    rw[← Array.forIn_toList]
    have loop:∀ j s,s+j=n→((forIn (m:=Sem) (fs.toList.drop s) () fun f _=>do
      if f.name ≠ "_" then do
       let a ← part f.type (key.1.map (Value.int kd)).toArray f.offset
       Instr.checkKey e 9999 f.type a
       pure (ForInStep.yield ())
      else pure (ForInStep.yield ())).run P w)=.ok () w:=by
     intro j
     induction j with
     | zero=>intro s hs;rw[List.drop_eq_nil_of_le (by omega)];rfl
     | succ j ih=>
       intro s hs
       have hsf:s<fs.toList.length:=by omega
       obtain⟨h1,h2,h3,h4⟩:=hf s hsf
       have hsx:s<key.1.length:=by rw[key.2];omega
       have p1:=run_part1 (P:=P) (E:=fs.toList[s].type) (cs:=(key.1.map (Value.int kd)).toArray) (i:=fs.toList[s].offset) (v:=.int kd key.1[s]) (w:=w) h3 (by rw[h2];simp[hsx])
       have p2:(Instr.checkKey e 9999 fs.toList[s].type (.int kd key.1[s])).run P w=.ok () w:=by
        rw[show (9999:Nat)=9998+1 from rfl]
        unfold Instr.checkKey
        simp only[Sem.run_bind,run_underlying' h4,Result.andThen_ok]
        rfl
       rw[List.drop_eq_getElem_cons hsf,List.forIn_cons,if_pos h1]
       simp only[Sem.run_bind,p1,p2,Result.andThen_ok,Sem.run_pure]
       exact ih (s+1) (by omega)
    have:=loop n 0 (by omega)
    rw[List.drop_zero] at this
    refine (congrArg (fun r=>Result.andThen r _) this).trans ?_
    rfl
  · have h:∀ l:List Int,(l.zip l).all (fun (x:Int × Int)=>x.1 == x.2)=true:=fun l=>by
     induction l with
     | nil=>rfl
     | cons x l ih=>simp[ih]
    show Instr.sameBits (9999+1) (encS kd n key) (encS kd n key)=true
    simp only[encS,Instr.sameBits,beq_self_eq_true,Bool.true_and,List.all_eq_true]
    intro x hx
    obtain⟨a,_,c⟩:∃ z,z∈key.1∧(Value.int kd z,Value.int kd z)=x:=by
     have:∃ z,z∈key.1∧(Value.int kd z,Value.int kd z)=x:=by simpa [List.zip_map'] using hx
     exact this
    rw[show (9999:Nat)=9998+1 from rfl]
    rw[← c]
    simp[Instr.sameBits]
end
open Go.RowKit
section
variable {P:Program} {k:World} {h0:Hp} {σ:List HP} {ρ:Env} {d:Option Tmp} {ty:TypeId} {pos:String} {aft:Array Edge} {g:Option (Nat × Bool)}
theorem V.lenStr {T:TypeId} {x:Operand} {s:ByteArray} {tt:Array TypeId} (hT:P.underlying T=some .string) (htt:tt[0]?=some T) (hx:ρ.ev x=some (.string s)) :
    Val P k h0 σ ρ ⟨d,.call ⟨.builtin .len,#[x],tt⟩,ty,pos,aft,g⟩ (.int .i64 (s.size:Int)):=fun A w ha hs=>by
  simp[execOp,resolve,invoke,builtin,ha.ev hx,htt,Builtin.len_,run_underlying' hT,goInt]
theorem bytes_toList (a b:ByteArray):(a.toList == b.toList)=decide (a=b):=by
  have h:=beq_toListBytes a b
  rw[← h]
  by_cases e:a=b
  · rw[decide_eq_true e];exact (Go.MapKept.bytes_beq a b).2 e
  · rw[decide_eq_false e];exact Bool.eq_false_iff.2 fun h=>e ((Go.MapKept.bytes_beq a b).1 h)
theorem V.eqlStr {T U:TypeId} {x y:Operand} {a b:ByteArray} (hx:ρ.ev x=some (.string a)) (hy:ρ.ev y=some (.string b)):Val P k h0 σ ρ ⟨d,.binOp .eql T x y U,ty,pos,aft,g⟩ (.bool (decide (a=b))):=fun A w ha hs=>by
  simp[execOp,ha.ev hx,ha.ev hy,eqGuard,binOp,Op.stringOp,bytes_toList]
theorem V.neqStr {T U:TypeId} {x y:Operand} {a b:ByteArray} (hx:ρ.ev x=some (.string a)) (hy:ρ.ev y=some (.string b)):Val P k h0 σ ρ ⟨d,.binOp .neq T x y U,ty,pos,aft,g⟩ (.bool (decide (a≠b))):=fun A w ha hs=>by
  have e:(!decide (a=b))=decide (a≠b):=by by_cases h:a=b <;> simp[h]
  rw[← e]
  simp[execOp,ha.ev hx,ha.ev hy,eqGuard,binOp,Op.stringOp,bytes_toList]
def bOk (ρ:Env) (o:Option Operand) (dflt n:Nat):Prop:=match o with | none=>n=dflt | some x=>∃ j,ρ.ev x=some (.int j (n:Int))
theorem run_sliceBound {w:World} {j:IntKind} {n y:Nat} {code:BoundsCode} (h:n≤y):(Instr.sliceBound (.int j (n:Int)) y code).run P w=.ok n w:=by
  unfold Instr.sliceBound
  simp only[asIntOf,Sem.run_bind,Sem.run_pure,Result.andThen_ok]
  rw[if_pos (by omega)]
  simp
theorem run_sliceBounds {w:World} {A:Act} {isS:Bool} {len cap l h:Nat} {lo hi:Option Operand} (ha:ρ.Ok A) (hl:bOk ρ lo 0 l) (hh:bOk ρ hi len h) (hle:l≤h∧h≤cap) :
    (Instr.sliceBounds isS len cap (lo.map A.eval) (hi.map A.eval) none).run P w=.ok (l,h,cap) w:=by
  unfold Instr.sliceBounds
  cases lo with
  | none=>
    have hl:l=0:=hl
    cases hi with
    | none=>
      have hh:h=len:=hh
      subst hl hh
      simp
    | some y=>
      obtain⟨j,hy⟩:=hh
      subst hl
      simp only[Option.map,Sem.run_bind,Sem.run_pure,Result.andThen_ok,ha.ev hy,run_sliceBound hle.2]
  | some x=>
    obtain⟨j,hx⟩:=hl
    cases hi with
    | none=>
      have hh:h=len:=hh
      subst hh
      simp only[Option.map,Sem.run_bind,Sem.run_pure,Result.andThen_ok,ha.ev hx,run_sliceBound hle.1]
    | some y=>
      obtain⟨j',hy⟩:=hh
      simp only[Option.map,Sem.run_bind,Sem.run_pure,Result.andThen_ok,ha.ev hx,ha.ev hy,run_sliceBound hle.1,run_sliceBound hle.2]
theorem V.sliceStr {T:TypeId} {x:Operand} {lo hi:Option Operand} {s:ByteArray} {l h:Nat} (hT:P.underlying T=some .string) (hx:ρ.ev x=some (.string s)) (hl:bOk ρ lo 0 l) (hh:bOk ρ hi s.size h) (hle:l≤h∧h≤s.size) :
    Val P k h0 σ ρ ⟨d,.slice T x lo hi none,ty,pos,aft,g⟩ (.string (s.extract l h)):=fun A w ha hs=>by
  have e:=run_sliceBounds (P:=P) (w:=w) (isS:=false) (cap:=s.size) ha hl hh hle
  simp[execOp,Instr.sliceAt,Instr.slice,ha.ev hx,run_underlying' hT,e]
theorem V.sliceS {T E sz by_:Nat} {x:Operand} {lo hi:Option Operand} {b o len cap l h:Nat} (hT:slcE P T=some (E,sz,by_)) (hx:ρ.ev x=some (.slice (some ⟨b,o,none⟩) len cap)) (hl:bOk ρ lo 0 l) (hh:bOk ρ hi len h) (hle:l≤h∧h≤cap) :
    Val P k h0 σ ρ ⟨d,.slice T x lo hi none,ty,pos,aft,g⟩ (.slice (if cap=l then some ⟨b,o,none⟩ else some ⟨b,o+l*sz,none⟩) (h-l) (cap-l)):=fun A w ha hs=>by
  obtain⟨hu,ii,hi',h1,h2⟩:=slcE_spec hT
  have e:=run_sliceBounds (P:=P) (w:=w) (isS:=true) (cap:=cap) ha hl hh hle
  simp[execOp,Instr.sliceAt,Instr.slice,ha.ev hx,run_underlying' hu,e,run_sizeOf' hi',h1,Addr.add_at]
def bytesV (s:ByteArray):List Value:=s.data.toList.map fun b=>Value.int .u8 (b.toNat:Int)
def textOf (ns:List Int):ByteArray:=ns.foldl (fun r n=>r.push (UInt8.ofNat n.toNat)) ByteArray.empty
theorem V.bytesToStr {T U E sz by_:Nat} {x:Operand} {a:Option Addr} {len cap:Nat} {ns:List Int} (hT:slcE P T=some (E,sz,by_)) (hE:P.underlying E=some (.int .u8)) (hU:P.underlying U=some .string) (hx:ρ.ev x=some (.slice a len cap)) (hn:ns.length=len)
    (hr:∀ b o sp,a=some ⟨b,o,sp⟩→sp=none∧Rds h0 σ b o (ns.map (Value.int .u8))) (h0':a=none→len=0) :
    Val P k h0 σ ρ ⟨d,.convert T U x,ty,pos,aft,g⟩ (.string (textOf ns)):=fun A w ha hs=>by
  obtain⟨hu,ii,hi,h1,h2⟩:=slcE_spec hT
  have e1:(execOp A.eval ⟨d,.convert T U x,ty,pos,aft,g⟩).run P w=((Conv.bytesToString (.slice a len cap)).run P w).andThen fun v w'=>.ok (.value v) w':=by
   have:=run_convert_bytes_string (P:=P) w T U E a len cap hu hE hU
   simp only[execOp,ha.ev hx,Sem.run_bind,this]
   rfl
  rw[e1]
  cases a with
  | none=>
    have hl:=h0' rfl
    have:ns=[]:=List.eq_nil_of_length_eq_zero (hn.trans hl)
    subst this
    rfl
  | some ad=>
    obtain⟨b,o,sp⟩:=ad
    obtain⟨rfl,hrd⟩:=hr b o sp rfl
    have hl:(loadCells ⟨b,o,none⟩ len).run P w=.ok (ns.map (Value.int .u8)).toArray w:=by
     have:=run_loadCellsFrom (P:=P) (w:=w) (b:=b) (o:=o) (ns.map (Value.int .u8)) 0 #[] (fun j u hj=>by simpa using hrd j u hj k w hs)
     simp only[loadCells,← hn]
     simpa using this
    rw[run_bytesToString (P:=P) w ⟨b,o,none⟩ len cap ns hl]
    rfl
theorem M.strToBytes {T U E sz by_:Nat} {x:Operand} {s:ByteArray} (hT:P.underlying T=some .string) (hU:slcE P U=some (E,sz,by_)) (hE:P.underlying E=some (.int .u8)) (hx:ρ.ev x=some (.string s)) :
    Mem P k h0 σ ρ ⟨d,.convert T U x,ty,pos,aft,g⟩ (fun v:Value=>v) (fun v=>vec E 1 v s.size (bytesV s)::σ):=fun A w ha hs=>by
  obtain⟨hu,ii,hi,h1,h2⟩:=slcE_spec hU
  have hr:=run_bytes_of_string (P:=P) w T U E s hT hu hE
  refine⟨_,_,(by simp only[execOp,ha.ev hx,Sem.run_bind,hr];rfl),?_⟩
  have hb:(bytesRow s (grownCap w s.size 0 E)).toList=bytesV s++List.replicate (grownCap w s.size 0 E-s.size) (.int .u8 0):=by
   simp[bytesRow,bytesV]
  have hcapd:grownCap w s.size 0 E=s.size+(w.tape w.drawn (.appendCap s.size 0 E))%(2^63-s.size):=rfl
  have hlen:(bytesV s).length=s.size:=by unfold bytesV;rw[List.length_map];rfl
  have h1:=(hs.drew (d:=w.drawn+1)).new (.cells (bytesRow s (grownCap w s.size 0 E)) E ((bytesRow s (grownCap w s.size 0 E)).size,(bytesRow s (grownCap w s.size 0 E)).size+1))
  refine St.map_head (fun g e=>?_) h1;refine⟨by rw[hlen,Nat.mul_one],.inr ⟨w.heap.size,grownCap w s.size 0 E,List.replicate (grownCap w s.size 0 E-s.size) (.int .u8 0),rfl,by omega,by rw[hlen,List.length_replicate,Nat.mul_one];omega,?_⟩⟩;refine⟨((bytesRow s (grownCap w s.size 0 E)).size,(bytesRow s (grownCap w s.size 0 E)).size+1),.inl ?_,?_⟩
  · rw[← hb];simp
  · rw[← hb];exact e
end
open Go.RowKit
def SlAt (h:Hp) (sz:Nat) (v:Value) (n:Nat) (f:Nat→Value):Prop:=
  ∃ a cap,v=.slice a n cap∧n≤cap∧(a=none→n=0)∧(0<n→∃ b o,a=some ⟨b,o,none⟩∧∀ i,i<n*sz→cellOf (h b) (o+i)=some (f i))
theorem SlAt.mono {h g:Hp} {sz n:Nat} {v:Value} {f:Nat→Value} (s:SlAt h sz v n f) (l:h.le g):SlAt g sz v n f:=by
  obtain⟨a,cap,e,hn,ha,hr⟩:=s
  refine⟨a,cap,e,hn,ha,fun hp=>?_⟩
  obtain⟨b,o,e2,hc⟩:=hr hp
  refine⟨b,o,e2,fun i hi=>?_⟩
  have h1:=hc i hi
  cases hb:h b with
  | none=>rw[hb] at h1;cases h1
  | some ob=>rw[l b ob hb,← hb];exact h1
theorem SlAt.pos {h:Hp} {sz n:Nat} {v:Value} {f:Nat→Value} (s:SlAt h sz v n f) (hp:0<n):∃ b o cap,v=.slice (some ⟨b,o,none⟩) n cap∧n≤cap∧∀ i,i<n*sz→cellOf (h b) (o+i)=some (f i):=by
  obtain⟨a,cap,e,hn,_,hr⟩:=s
  obtain⟨b,o,rfl,hc⟩:=hr hp
  exact⟨b,o,cap,e,hn,hc⟩
theorem SlAt.shape {h:Hp} {sz n:Nat} {v:Value} {f:Nat→Value} (s:SlAt h sz v n f):∃ a cap,v=.slice a n cap:=let ⟨a,cap,e,_⟩:=s;⟨a,cap,e⟩
theorem Rds.sl {h0:Hp} {σ:List HP} {b o i n:Nat} {f:Nat→Value} {vs:List Value} (hc:∀ i,i<n→cellOf (h0 b) (o+i)=some (f i)) (hi:i+vs.length≤n) (hv:∀ j u,vs[j]?=some u→f (i+j)=u):Rds h0 σ b (o+i) vs:=fun j u hj=>by
  have hlt:=(List.getElem?_eq_some_iff.1 hj).1
  refine Rd.ro ?_
  rw[Nat.add_assoc,hc (i+j) (by omega),hv j u hj]
theorem In.slAt {E sz n:Nat} {v:Value} {cs:List Value} {h:Hp} (i:In (Go.Eng.vec E sz v n cs) h) (z:Value):SlAt h sz v n (fun i=>cs.getD i z):=by
  have i0:=i
  obtain⟨a,⟨hl,ha⟩,l⟩:=i
  rcases ha with ⟨hv,hn,_⟩ | ⟨b,cap,junk,hv,hc,hlen,fr,_,ha⟩
  · subst hn
    exact⟨none,0,hv,by omega,fun _=>rfl,fun h=>by omega⟩
  · refine⟨some ⟨b,0,none⟩,cap,hv,hc,fun e=>(by cases e),fun hp=>⟨b,0,rfl,fun j hj=>?_⟩⟩
    have hb:h b=some (.cells (cs++junk).toArray E fr):=l _ _ (by rw[ha];exact Hp.one_self _ _)
    rw[hb]
    show (cs++junk).toArray[0+j]?=_
    rw[List.getElem?_toArray,Nat.zero_add,List.getElem?_append_left (by omega),List.getElem?_eq_getElem (by omega)]
    show _=some (cs.getD j z)
    rw[List.getD_eq_getElem?_getD,List.getElem?_eq_getElem (by omega)]
    rfl
open Go.RowKit
section
variable {P:Program} {k:World} {h0:Hp} {σ:List HP} {ρ:Env} {d:Option Tmp} {ty:TypeId} {pos:String} {aft:Array Edge} {g:Option (Nat × Bool)} {α:Type} [DecidableEq α] {enc:α→Value}
theorem run_sliceBounds3 {w:World} {A:Act} {len cap l h m:Nat} {lo hi:Option Operand} {mx:Operand} {j:IntKind} (ha:ρ.Ok A) (hl:bOk ρ lo 0 l) (hh:∃ j,hi.bind (fun x=>ρ.ev x)=some (.int j (h:Int))) (hm:ρ.ev mx=some (.int j (m:Int))) (hle:l≤h∧h≤m∧m≤cap) :
    (Instr.sliceBounds true len cap (lo.map A.eval) (hi.map A.eval) (some (A.eval mx))).run P w=.ok (l,h,m) w:=by
  unfold Instr.sliceBounds
  obtain⟨jh,hh⟩:=hh
  cases hi with
  | none=>simp at hh
  | some y=>
    have hy:ρ.ev y=some (.int jh (h:Int)):=by simpa using hh
    cases lo with
    | none=>
      have hl:l=0:=hl
      subst hl
      simp only[Option.map,Sem.run_bind,Sem.run_pure,Result.andThen_ok,ha.ev hy,ha.ev hm,run_sliceBound hle.2.2,run_sliceBound hle.2.1]
    | some x=>
      obtain⟨jl,hx⟩:=hl
      simp only[Option.map,Sem.run_bind,Sem.run_pure,Result.andThen_ok,ha.ev hx,ha.ev hy,ha.ev hm,run_sliceBound hle.2.2,run_sliceBound hle.2.1,run_sliceBound hle.1]
theorem V.slice3 {T E sz by_:Nat} {x:Operand} {lo:Option Operand} {hi mx:Operand} {a:Option Addr} {len cap l h m:Nat} {j j':IntKind} (hT:slcE P T=some (E,sz,by_)) (hx:ρ.ev x=some (.slice a len cap)) (hl:bOk ρ lo 0 l) (hh:ρ.ev hi=some (.int j' (h:Int))) (hm:ρ.ev mx=some (.int j (m:Int))) (hle:l≤h∧h≤m∧m≤cap) :
    Val P k h0 σ ρ ⟨d,.slice T x lo (some hi) (some mx),ty,pos,aft,g⟩ (.slice (if m=l then a else a.map (·.add (l*sz))) (h-l) (m-l)):=fun A w ha hs=>by
  obtain⟨hu,ii,hi',h1,h2⟩:=slcE_spec hT
  have e:=run_sliceBounds3 (P:=P) (w:=w) (len:=len) (cap:=cap) (lo:=lo) (hi:=some hi) (mx:=mx) ha hl ⟨j',by simpa using hh⟩ hm hle
  simp only[Option.map_some] at e
  simp[execOp,Instr.sliceAt,Instr.slice,ha.ev hx,run_underlying' hu,e,run_sizeOf' hi',h1]
def setsL:List Value→List (Nat × Value)→List Value
  | cs,[]=>cs
  | cs,(i,v)::r=>setsL (cs.set i v) r
theorem fillL_sets:∀ (pv:List (Nat × Value)) (cs:List Value),(∀ p∈pv,p.1<cs.length∧p.2.oneCell'=true)→fillL (fun i=>some (i*1,1)) cs pv=some (setsL cs pv)
  | [],cs,_=>rfl
  | (i,v)::r,cs,h=>by
   obtain⟨h1,h2⟩:=h (i,v) List.mem_cons_self
   simp only at h1 h2
   have hc:v.cells.toList=[v]:=by rw[cells_scalar h2]
   simp only[fillL,hc,List.length_cons,List.length_nil,Nat.zero_add,Nat.mul_one,setsL]
   rw[if_neg (by simp;omega)]
   have ih:=fillL_sets r (cs.set i v) fun p hp=>by
    have:=h p (List.mem_cons_of_mem _ hp)
    rw[List.length_set];exact this
   simp only[Nat.mul_one] at ih
   exact ih
def evsP (ρ:Env):List (Nat × Operand)→Option (List (Nat × Value))
  | []=>some []
  | (i,x)::r=>match ρ.ev x,evsP ρ r with
   | some v,some vs=>some ((i,v)::vs)
   | _,_=>none
theorem evsP_map {A:Act} (ha:ρ.Ok A):∀ (l:List (Nat × Operand)) (vs:List (Nat × Value)),evsP ρ l=some vs→l.map (fun p=>(p.1,A.eval p.2))=vs
  | [],vs,h=>by simp only[evsP,Option.some.injEq] at h;subst h;rfl
  | (i,x)::l,vs,h=>by
   simp only[evsP] at h
   cases hx:ρ.ev x with
   | none=>rw[hx] at h;simp at h
   | some v=>
     cases hl:evsP ρ l with
     | none=>rw[hx,hl] at h;simp at h
     | some us=>
       rw[hx,hl] at h
       simp only[Option.some.injEq] at h
       subst h
       simp only[List.map_cons,ha.ev hx,evsP_map ha l us hl]
theorem M.sliceL {T E by_ len:Nat} {z:Value} {parts:Array (Nat × Operand)} {pv:List (Nat × Value)} (hT:slcE P T=some (E,1,by_)) (hz:zer P E=some [z]) (hx:evsP ρ parts.toList=some pv) (hall:∀ p∈pv,p.1<len∧p.2.oneCell'=true) (hlen:Nat.blt 0 len=true) (hsm:Nat.ble len 16777216=true) :
    Mem P k h0 σ ρ ⟨d,.buildSlice T len parts,ty,pos,aft,g⟩ (fun b:Nat=>.slice (some ⟨b,0,none⟩) len len) (fun b=>cl b (setsL (List.replicate len z) pv) E::σ):=fun A w ha hs=>by
  obtain⟨hu,i,hi,hsz,hby⟩:=slcE_spec hT
  obtain⟨i',z',hi',hz0,hzc⟩:=zer_spec hz
  rw[hi] at hi'
  obtain rfl:=Option.some.inj hi'
  have h0'':0<len:=of_decide_eq_true (by simpa [Nat.blt_eq] using hlen)
  have hsm':len≤16777216:=Nat.le_of_ble_eq_true hsm
  have harr:(Array.range (len*1)).map ([z].toArray[· % [z].toArray.size]!)=(List.replicate len z).toArray:=by
   apply Array.ext
   · simp
   · intro j h1 h2
     simp[Nat.mod_one]
  have hf:=fillL_sets pv (List.replicate len z) (by simpa using hall)
  refine⟨w.heap.size,_,?_,hs.newC _ _⟩
  have hp:(parts.map fun (p:Nat × Operand)=>(p.1,A.eval p.2)).toList=pv:=by
   rw[Array.toList_map];exact evsP_map ha _ _ hx
  simp only[execOp,Instr.buildSlice,Sem.run_bind,run_underlying' hu,Result.andThen_ok,run_sizeOf' hi,Sem.run_ite]
  rw[hsz,if_neg (by omega),if_neg (by omega)]
  simp only[run_zeroValue' hi hz0,Result.andThen_ok]
  rw[hzc]
  simp only[Sem.run_pure,Result.andThen_ok]
  rw[harr,hp,fill_eq _ _ _ _ hf]
  rfl
end
open Go.RowKit
theorem zer1.mk {P:Program} {V:Nat} {z:Value} (h:(P.info? V).bind (·.zero)=some z):zer1 P V z:=by
  cases e:P.info? V with
  | none=>rw[e] at h;cases h
  | some i=>rw[e] at h;exact⟨i,e,h⟩
abbrev RV (R:Value→Prop):Ending→List HP→Prop:=Ret fun v _=>R v
theorem FT.rv {P:Program} {f:FuncId} {vs:List Value} {k:World} {h0:Hp} {v:Value} {R:Value→Prop} (h:FT P f vs k h0 [] (Is v)) (hr:R v):FT P f vs k h0 [] (RV R):=
  h.mono fun _ _ he=>⟨v,he,hr⟩
def pickL:List HP→List Nat→Option (List HP)
  | _,[]=>some []
  | σ,i::r=>match σ[i]? with
    | some p=>(pickL (σ.eraseIdx i) r).map (p::·)
    | none=>none
theorem Ent.pk:∀ (is:List Nat) {σ τ:List HP},pickL σ is=some τ→Ent σ τ
  | [],σ,τ,h=>by
    obtain rfl:[]=τ:=Option.some.inj h
    have:=Ent.left σ []
    rwa [List.append_nil] at this
  | i::r,σ,τ,h=>by
    simp only[pickL] at h
    cases hp:σ[i]? with
    | none=>rw[hp] at h;cases h
    | some p=>
      rw[hp] at h
      simp only[Option.map_eq_some_iff] at h
      obtain⟨a,ha,rfl⟩:=h
      exact (Ent.pull i hp).trans (Ent.cons (Ent.pk r ha))
open Go.RowKit
section
variable {P:Program} {k:World} {h0:Hp} {Q:Post} {σ:List HP} {ρ:Env}
def scopeQ (Q:Post):Post
  | .goto _,_,_=>False
  | e,ρ,σ=>Q e ρ σ
theorem WP.scope {c:Code} (h:WP P k h0 c (scopeQ Q) ρ σ):WP P k h0 (.scope c) Q ρ σ:=fun a w ha hs=>by
  refine wp_scope_straight (Code.wp_mono (fun e a' w' q=>?_) (h a w ha hs))
  obtain⟨ρ',σ',ha',hs',q⟩:=q
  cases e with
  | goto l=>exact q.elim
  | normal=>exact⟨ρ',σ',ha',hs',q⟩
  | exit id=>exact⟨ρ',σ',ha',hs',q⟩
  | ret=>exact⟨ρ',σ',ha',hs',q⟩
  | panic ch=>exact⟨ρ',σ',ha',hs',q⟩
  | outgrown=>exact⟨ρ',σ',ha',hs',q⟩
theorem WP.regeq {id:Nat} {l':List Oper} (σq:List HP) (hσ:Ent σ σq) (π:List (Nat × Bool)) (z:Nat) (hm:P.follows .mixedOrders=true)
    (hB:(Region.noSelect l'.toArray && eagB l'.toArray z (noneB l'.toArray) π (Array.replicate l'.length false))=true) (hQ:PInv Q)
    (hlen:π.length=l'.length) (h:WE P k h0 l' (Q .normal) Q σq z (noneB l'.toArray) 0 true π ρ σ):WP P k h0 (.region id l'.toArray true) Q ρ σ:=fun a w ha hs=>by
  simp only[Bool.and_eq_true] at hB
  refine wp_region_any hm (wpAny_of_Z (S:=Sz k h0 σq z) _ _ _ _ ?_)
  have:=h (Array.replicate l'.length false) hB.2 (fun j o _ hj=>by rw[getD_replicate_false] at hj;cases hj) (by simp) (by rw[getD_replicate_false];rfl) hQ (Region.noSelect_spec hB.1) a {w with drawn:=w.drawn+1} ha hs.drew (fun _=>hσ _ _ _ hs.drew)
  rw[Nat.zero_add,hlen] at this
  simp only[List.size_toArray]
  refine cast ?_ this
  congr 1
  funext e a w
  simp only[lift,eq_iff_iff]
  cases e <;> exact Iff.rfl
theorem X.scopeR (h:Q .ret ρ σ):scopeQ Q .ret ρ σ:=h
theorem PInv.scope (h:PInv Q):PInv (scopeQ Q):=fun ch ρ σ q=>h ch ρ σ q
end
end Go.Eng
