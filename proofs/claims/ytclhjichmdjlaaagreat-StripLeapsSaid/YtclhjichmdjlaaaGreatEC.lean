/- Rules to walk the functions of the seat: partial heaps, contracts, one rule an operation. No conditions. -/
import Derived.Test.YtclhjichmdjlaaaGreatEL
import Derived.Recover
set_option linter.unusedSimpArgs false
set_option linter.unusedVariables false
namespace Go.Eng
open Go.RowKit
section
variable {P:Program} {k:World} {h0:Hp} {σ:List HP} {ρ:Env} {d:Option Tmp} {ty:TypeId} {pos:String} {aft:Array Edge} {g:Option (Nat × Bool)}
theorem V.mkMeth {fn:Fn} {x:Operand} {v:Value} (hx:ρ.ev x=some v):Val P k h0 σ ρ ⟨d,.makeFunc fn #[x] #[],ty,pos,aft,g⟩ (.func fn #[v] #[]):=fun A w ha hs=>by
  simp[execOp,Instr.makeFunc,ha.ev hx]
theorem V.nilCheckM {x:Operand} {t:TypeId} {v:Value} {name:String} {cap:Array Value} (hx:ρ.ev x=some (.func (.method name) #[.iface t v] cap)) (hn:∀ w,(nilAhead (P.types.size+Made.depth) t v name).run P w=.ok (some false) w) :
    Val P k h0 σ ρ ⟨d,.nilCheck x,ty,pos,aft,g⟩ (.func (.method name) #[.iface t v] cap):=fun A w ha hs=>by
  simp[execOp,ha.ev hx,hn]
theorem run_equalIn_fields {T:TypeId} {fs:Array Field} {xs ys:Array Value} {w:World} (dp:Nat) (hu:P.underlying T=some (.struct fs)) (hst:P.stoodInHeld T=false) (r:Field→Bool)
    (h:∀ f∈fs.toList,f.name ≠ "_"∧∃ a b,(part f.type xs f.offset).run P w=.ok a w∧(part f.type ys f.offset).run P w=.ok b w∧(Op.equalIn dp f.type a b).run P w=.ok (r f) w) :
    (Op.equalIn (dp+1) T (.agg xs) (.agg ys)).run P w=.ok (fs.toList.all r) w:=by
  unfold Op.equalIn
  simp only[Sem.run_bind,run_underlying' hu,Result.andThen_ok,run_program,hst,Bool.false_eq_true,if_false,Sem.run_pure]
  rw[← Array.forIn_toList]
  have key:∀ (l:List Field),(∀ f∈l,f.name ≠ "_"∧∃ a b,(part f.type xs f.offset).run P w=.ok a w∧(part f.type ys f.offset).run P w=.ok b w∧(Op.equalIn dp f.type a b).run P w=.ok (r f) w)→
    ((forIn (m:=Sem) l ((none,()):Option Bool × Unit) fun f _=>do
     if f.name ≠ "_" then do
      let a ← part f.type xs f.offset
      let b ← part f.type ys f.offset
      let e ← Op.equalIn dp f.type a b
      if (!e)=true then pure (ForInStep.done (some false,())) else pure (ForInStep.yield (none,()))
     else pure (ForInStep.yield (none,()))).run P w)=
    .ok (if l.all r=true then (none,()) else (some false,())) w:=by
   intro l
   induction l with
   | nil=>intro _;simp
   | cons f l ih=>
     intro hl
     obtain⟨hn,a,b,ha,hb,he⟩:=hl f List.mem_cons_self
     have ih:=ih fun g hg=>hl g (List.mem_cons_of_mem _ hg)
     rw[List.forIn_cons,if_pos hn]
     simp only[Sem.run_bind,ha,hb,he,Result.andThen_ok]
     cases hr:r f with
     | true=>
       simp only[Bool.not_true,Bool.false_eq_true,if_false,Sem.run_pure,Result.andThen_ok,List.all_cons,hr,Bool.true_and]
       exact ih
     | false=>
       simp only[Bool.not_false,if_true,Sem.run_pure,Result.andThen_ok,List.all_cons,hr,Bool.false_and,Bool.false_eq_true,if_false]
  have:=key fs.toList h
  refine (congrArg (fun r=>Result.andThen r _) this).trans ?_
  by_cases hb:fs.toList.all r=true
  · simp[hb]
  · simp[hb]
theorem run_partN {T n:Nat} {cs:Array Value} {i:Nat} {w:World} (hT:agg P T=some n):(part T cs i).run P w=.ok (.agg (cs.extract i (i+n))) w:=by
  obtain⟨e1,e2⟩:=agg_spec (w:=w) hT
  simp[part,e1,e2]
theorem V.eqlOf {T U:TypeId} {x y:Operand} {xs ys:Array Value} {b:Bool} (hg:P.eqGuardType P.depth T=false) (hx:ρ.ev x=some (.agg xs)) (hy:ρ.ev y=some (.agg ys)) (he:∀ w,(Op.equal T (.agg xs) (.agg ys)).run P w=.ok b w):Val P k h0 σ ρ ⟨d,.binOp .eql T x y U,ty,pos,aft,g⟩ (.bool b):=fun A w ha hst=>by
  simp only[execOp,ha.ev hx,ha.ev hy,Sem.run_bind,run_eqGuard_agg w .eql T x y _ _ hg,Result.andThen_ok,binOp,he,Sem.run_pure]
theorem L.eqlOf {Q:Post} {K:Env→List HP→Prop} {ops rest:List Oper} {nE:Nat} {dE:List Deferred} {lE:List (Nat × Value)} {d:Nat} {T U:TypeId} {x y:Operand} {xs ys:Array Value} {b:Bool} (hg:P.eqGuardType P.depth T=false) (hx:(Env.mk nE dE lE).ev x=some (.agg xs)) (hy:(Env.mk nE dE lE).ev y=some (.agg ys)) (he:∀ w,(Op.equal T (.agg xs) (.agg ys)).run P w=.ok b w)
    (hK:WL P k h0 ops K Q rest ⟨nE,dE,(d,.bool b)::lE⟩ σ) (hwK:wantE ops ⟨nE,dE,lE⟩ g=some true:=by rfl) (hdK:Nat.blt d nE=true:=by rfl):WL P k h0 ops K Q (⟨some d,.binOp .eql T x y U,ty,pos,aft,g⟩::rest) ⟨nE,dE,lE⟩ σ:=WL.val hwK hdK (V.eqlOf hg hx hy he) hK
end
open Go.RowKit
def closedB (ops:Array Oper) (L:Array Bool):Bool:=(List.range ops.size).all fun j=>match ops[j]? with
  | some o=>!(L.getD j false) || o.after.all fun e=>!(Region.binds .any e) || L.getD e.on false
  | none=>true
theorem closedB_spec {ops:Array Oper} {L:Array Bool} (h:closedB ops L=true):Closed ops L:=fun j o ho hj e he hb=>by
  have hj':j<ops.size:=(Array.getElem?_eq_some_iff.1 ho).1
  have:=List.all_eq_true.1 h j (List.mem_range.2 hj')
  rw[ho] at this
  simp only[hj,Bool.not_true,Bool.false_or] at this
  have:=Array.all_eq_true'.1 this e he
  simpa [hb] using this
theorem wpAnyZ_swap {P:Program} {ops:Array Oper} {Q:Exit→Act→World→Prop} {S S':Array Bool→World→Prop} {z:Nat} (hS:∀ L w,L.getD z false=true→S L w) :
    ∀ (fuel:Nat) (L:Array Bool) (a:Act) (w:World),L.getD z false=true→wpAnyZ P ops Q S' fuel L a w→wpAnyZ P ops Q S fuel L a w
  | 0,_,_,_,_,h=>h
  | fuel+1,L,a,w,hz,h=>⟨h.1,fun i hi=>wpOp_mono (fun a' w' h'=>⟨hS _ _ (getD_set_true hz),wpAnyZ_swap hS fuel _ a' w' (getD_set_true hz) h'.2⟩) (h.2 i hi)⟩
section
variable {P:Program} {k:World} {h0:Hp} {Q:Post} {σ:List HP} {K:Env→List HP→Prop} {ops:List Oper} {σq:List HP} {z:Nat}
theorem WT.again {ρ:Env} {fuel:Nat} {L:Array Bool} (σq':List HP) (z':Nat) (hz:L.getD z false=true) (h:WT P k h0 ops K Q σq' z' true fuel L ρ σ):WT P k h0 ops K Q σq z false fuel L ρ σ:=fun a w ha hs=>
  wpAnyZ_swap (fun L w hl hf=>by rw[hl] at hf;cases hf) fuel L a w hz (h a w ha hs)
theorem WT.read {ρ:Env} {L:Array Bool} {fin:Array Bool→Bool} {m:Nat} (π:List (Nat × Bool)) (hB:(Region.noSelect ops.toArray && eagB ops.toArray z fin π L && closedB ops.toArray L && (L.size == ops.length) && (L.getD z false == false))=true) (hQ:PInv Q) (hσ:Ent σ σq)
    (h:WE P k h0 ops K Q σq z fin m true π ρ σ):WT P k h0 ops K Q σq z true (m+π.length) L ρ σ:=fun a w ha hs=>by
  simp only[Bool.and_eq_true,beq_iff_eq] at hB
  exact h L hB.1.1.1.2 (closedB_spec hB.1.1.2) hB.1.2 hB.2 hQ (Region.noSelect_spec hB.1.1.1.1) a w ha hs (fun _=>hσ _ _ _ hs)
theorem WT.stepN {ρ:Env} {fuel:Nat} {L:Array Bool} (is:List Nat) (hr:(Region.ready .any ops.toArray L == is && !is.isEmpty)=true)
    (h:∀ i∈is,∃ o,ops[i]?=some o∧WL P k h0 ops (fun ρ' σ'=>Ent σ' σq∧WT P k h0 ops K Q σq z true fuel (L.setIfInBounds i true) ρ' σ') Q [o] ρ σ):WT P k h0 ops K Q σq z true (fuel+1) L ρ σ:=fun a w ha hs=>by
  simp only[Bool.and_eq_true,beq_iff_eq,Bool.not_eq_true'] at hr
  obtain⟨hr,hne⟩:=hr
  refine⟨fun e=>(by rw[hr] at e;subst e;cases hne),fun i hi=>?_⟩
  rw[hr] at hi
  obtain⟨o,ho,hl⟩:=h i hi
  have ho':ops.toArray[i]?=some o:=by simpa using ho
  have hw:=hl a w ha hs
  unfold wpOp
  simp only[ho']
  unfold wpList at hw
  have key:∀ a' w',wpList P ops.toArray (lift k h0 (thenQ (fun ρ' σ'=>Ent σ' σq∧WT P k h0 ops K Q σq z true fuel (L.setIfInBounds i true) ρ' σ') Q)) [] a' w'→
    Sz k h0 σq z (L.setIfInBounds i true) w'∧wpAnyZ P ops.toArray (lift k h0 (thenQ K Q)) (Sz k h0 σq z) fuel (L.setIfInBounds i true) a' w':=fun a' w' hl=>by
   obtain⟨ρ',σ',ha',hs',he,hwe⟩:=hl
   exact⟨fun _=>he _ _ _ hs',hwe a' w' ha' hs'⟩
  have keyP:∀ e a' w',e≠.normal→lift k h0 (thenQ (fun ρ' σ'=>Ent σ' σq∧WT P k h0 ops K Q σq z true fuel (L.setIfInBounds i true) ρ' σ') Q) e a' w'→lift k h0 (thenQ K Q) e a' w':=fun e a' w' hne hl=>by
   obtain⟨ρ',σ',ha',hs',q⟩:=hl
   exact⟨ρ',σ',ha',hs',by cases e <;> first | exact (hne rfl).elim | exact q⟩
  split
  · rename_i hwant
    rw[if_pos hwant] at hw
    rcases hw with hw | ⟨ha1,a0,w0,hl⟩
    · refine .inl ?_
      unfold Oper.wp at *
      generalize (execOp a.eval o).run P w=r at *
      cases r with
      | ok nx w'=>
        cases nx <;> simp only[Oper.upon] at hw ⊢ <;> first | exact key _ _ hw | skip
        · refine hw.mono fun e w'' he=>?_
          cases e with
          | returned u=>exact key _ _ he
          | panicked c=>exact keyP _ _ _ (by simp) he
          | outgrown=>obtain⟨a0,w0,he⟩:=he;exact⟨a0,w0,keyP _ _ _ (by simp) he⟩
        · exact Rows.mono hw fun u w'' he=>key _ _ he
      | halt x w'=>
        cases x <;> simp only[Oper.upon] at hw ⊢
        exact keyP _ _ _ (by simp) hw
    · exact .inr ⟨ha1,a0,w0,keyP _ _ _ (by simp) hl⟩
  · rename_i hwant
    rw[if_neg hwant] at hw
    exact key _ _ hw
theorem WN.one {ρ:Env} {fuel:Nat} {L:Array Bool} (i:Nat) {o:Oper} (hr:(Region.ready .any ops.toArray L == [i] && !([i]:List Nat).isEmpty)=true) (ho:ops[i]?=some o)
    (h:WL P k h0 ops (fun ρ' σ'=>Ent σ' σq∧WT P k h0 ops K Q σq z true fuel (L.setIfInBounds i true) ρ' σ') Q [o] ρ σ):WT P k h0 ops K Q σq z true (fuel+1) L ρ σ:=
  WT.stepN [i] hr fun j hj=>by rw[List.mem_singleton.1 hj];exact⟨o,ho,h⟩
theorem WN.two {ρ:Env} {fuel:Nat} {L:Array Bool} (i j:Nat) {o o':Oper} (hr:(Region.ready .any ops.toArray L == [i,j] && !([i,j]:List Nat).isEmpty)=true) (ho:ops[i]?=some o) (ho':ops[j]?=some o')
    (h:WL P k h0 ops (fun ρ' σ'=>Ent σ' σq∧WT P k h0 ops K Q σq z true fuel (L.setIfInBounds i true) ρ' σ') Q [o] ρ σ)
    (h':WL P k h0 ops (fun ρ' σ'=>Ent σ' σq∧WT P k h0 ops K Q σq z true fuel (L.setIfInBounds j true) ρ' σ') Q [o'] ρ σ):WT P k h0 ops K Q σq z true (fuel+1) L ρ σ:=
  WT.stepN [i,j] hr fun x hx=>by
   simp only[List.mem_cons,List.not_mem_nil,or_false] at hx
   rcases hx with rfl | rfl
   · exact⟨o,ho,h⟩
   · exact⟨o',ho',h'⟩
theorem WN.three {ρ:Env} {fuel:Nat} {L:Array Bool} (i j l:Nat) {o o' o'':Oper} (hr:(Region.ready .any ops.toArray L == [i,j,l] && !([i,j,l]:List Nat).isEmpty)=true) (ho:ops[i]?=some o) (ho':ops[j]?=some o') (ho'':ops[l]?=some o'')
    (h:WL P k h0 ops (fun ρ' σ'=>Ent σ' σq∧WT P k h0 ops K Q σq z true fuel (L.setIfInBounds i true) ρ' σ') Q [o] ρ σ)
    (h':WL P k h0 ops (fun ρ' σ'=>Ent σ' σq∧WT P k h0 ops K Q σq z true fuel (L.setIfInBounds j true) ρ' σ') Q [o'] ρ σ)
    (h'':WL P k h0 ops (fun ρ' σ'=>Ent σ' σq∧WT P k h0 ops K Q σq z true fuel (L.setIfInBounds l true) ρ' σ') Q [o''] ρ σ):WT P k h0 ops K Q σq z true (fuel+1) L ρ σ:=
  WT.stepN [i,j,l] hr fun x hx=>by
   simp only[List.mem_cons,List.not_mem_nil,or_false] at hx
   rcases hx with rfl | rfl | rfl
   · exact⟨o,ho,h⟩
   · exact⟨o',ho',h'⟩
   · exact⟨o'',ho'',h''⟩
theorem WP.regn {ρ:Env} {id:Nat} (σq:List HP) (hm:P.follows .mixedOrders=true) (h:WT P k h0 ops (Q .normal) Q σq ops.length true ops.length (Array.replicate ops.length false) ρ σ) (hσ:Ent σ σq):WP P k h0 (.region id ops.toArray true) Q ρ σ:=fun a w ha hs=>by
  refine wp_region_any hm (wpAny_of_Z (S:=Sz k h0 σq ops.length) _ _ _ _ ?_)
  have:=h a {w with drawn:=w.drawn+1} ha hs.drew
  simp only[List.size_toArray]
  refine cast ?_ this
  congr 1
  funext e a w
  simp only[lift,eq_iff_iff]
  cases e <;> exact Iff.rfl
end
open Go.RowKit
section
variable {P:Program} {k:World} {h0:Hp} {Q:Post} {σ:List HP} {K:Env→List HP→Prop} {ops rest:List Oper} {n:Nat} {ds:List Deferred} {l:List (Nat × Value)}
theorem WL.defer {ty:TypeId} {pos:String} {aft:Array Edge} {g:Option (Nat × Bool)} {fv:Operand} {f:FuncId} {cap:List Value} {tt:Array TypeId}
    (hfv:(Env.mk n ds l).ev fv=some (.func (.func f) #[] cap.toArray)) (h:WL P k h0 ops K Q rest ⟨n,⟨.fn (.func f) cap.toArray,#[]⟩::ds,l⟩ σ) (hw:wantE ops ⟨n,ds,l⟩ g=some true:=by rfl) :
    WL P k h0 ops K Q (⟨none,.defer ⟨.value fv,#[],tt⟩,ty,pos,aft,g⟩::rest) ⟨n,ds,l⟩ σ:=fun a w ha hs=>by
  have hw':=wanted_of (o:=⟨none,.defer ⟨.value fv,#[],tt⟩,ty,pos,aft,g⟩) ha hw
  have hrun:(execOp a.eval ⟨none,.defer ⟨.value fv,#[],tt⟩,ty,pos,aft,g⟩).run P w=.ok (.defer ⟨.fn (.func f) cap.toArray,#[]⟩) w:=by
   simp[execOp,resolve,ha.ev hfv,Deferred.ofValue]
  unfold wpList
  rw[if_pos hw']
  refine .inl ?_
  unfold Oper.wp
  rw[hrun]
  have ha':(Env.mk n (⟨.fn (.func f) cap.toArray,#[]⟩::ds) l).Ok {a with defers:=⟨.fn (.func f) cap.toArray,#[]⟩::a.defers}:=⟨ha.size,by simp[ha.defers],ha.get⟩
  exact h _ w ha' hs
theorem WP.regfq {ρ:Env} {id:Nat} {l':List Oper} (σq:List HP) (hσ:Ent σ σq) (π:List (Nat × Bool)) (z m:Nat) (L:Array Bool) (hm:P.follows .mixedOrders=true)
    (hB:(Region.noSelect l'.toArray && eagB l'.toArray z (fun l=>l == L) π (Array.replicate l'.length false))=true) (hQ:PInv Q)
    (hlen:m+π.length=l'.length) (h:WE P k h0 l' (Q .normal) Q σq z (fun l=>l == L) m true π ρ σ):WP P k h0 (.region id l'.toArray true) Q ρ σ:=fun a w ha hs=>by
  simp only[Bool.and_eq_true] at hB
  refine wp_region_any hm (wpAny_of_Z (S:=Sz k h0 σq z) _ _ _ _ ?_)
  have:=h (Array.replicate l'.length false) hB.2 (fun j o _ hj=>by rw[getD_replicate_false] at hj;cases hj) (by simp) (by rw[getD_replicate_false];rfl) hQ (Region.noSelect_spec hB.1) a {w with drawn:=w.drawn+1} ha hs.drew (fun _=>hσ _ _ _ hs.drew)
  rw[hlen] at this
  simp only[List.size_toArray]
  refine cast ?_ this
  congr 1
  funext e a w
  simp only[lift,eq_iff_iff]
  cases e <;> exact Iff.rfl
def FD (P:Program) (f:FuncId) (args:List Value) (k:World) (h0:Hp) (σ τ:List HP):Prop:=
  ∀ w,St k h0 σ w→CallsD P f args.toArray .returning w fun e u' w'=>(∃ x,e=.returned x)∧u'=.returning∧St k h0 τ w'
theorem Ok.args {n:Nat} {args:List Value} (hl:args.length≤n):(Env.mk n [] (argSlots 0 args)).Ok {tmps:=args.toArray++Array.replicate (n-args.toArray.size) undef,defers:=[]}:=by
  refine⟨by simp;omega,rfl,?_⟩
  intro t v e
  obtain⟨_,h2⟩:=getIn_argSlots args 0 t v e
  simp only[Nat.sub_zero] at h2
  have:t<args.length:=by
   rcases Nat.lt_or_ge t args.length with g | g
   · exact g
   · rw[List.getElem?_eq_none g] at h2;cases h2
  simp only[Array.getElem?_append,List.size_toArray,this,if_true]
  simpa using h2
theorem FD.nil {f:FuncId} {fn:Func} {id d1 d2:Nat} {y1 y2:TypeId} {p1 p2:String} {a1 a2:Array Edge} {c:Code} {args:List Value} {τ:List HP}
    (hf:P.funcs[f]?=some fn) (hb:fn.body=some (.seq (.region id #[⟨some d1,.call ⟨.builtin .recover,#[],#[]⟩,y1,p1,a1,none⟩,⟨some d2,.assign (.tmp d1),y2,p2,a2,none⟩] false) c)) (hn:fn.ntmps=n) (hl:Nat.ble args.length n=true) (hd1:Nat.blt d1 n=true) (hd2:Nat.blt d2 n=true)
    (h:WP P k h0 c (retQ P fn k h0 (Ret fun _ τ'=>Ent τ' τ)) ⟨n,[],(d2,.nilIface)::(d1,.nilIface)::argSlots 0 args⟩ σ):FD P f args k h0 σ τ:=fun w hs=>by
  have hl':args.length≤n:=Nat.le_of_ble_eq_true hl
  refine callsD_of_wpS hf hb fun c₀ cs hm=>wpS_seq (wpS_region ?_)
  rw[hn]
  have ha0:=Ok.args (args:=args) hl'
  generalize hA:({tmps:=args.toArray++Array.replicate (n-args.toArray.size) undef,defers:=[]}:Act)=A at ha0
  show wpOpsS P _ _ [0,1] A (c₀::cs) w
  have hrun:(execOp A.eval ⟨some d1,.call ⟨.builtin .recover,#[],#[]⟩,y1,p1,a1,none⟩).run P w=.ok .recover w:=by
   simp[execOp,resolve,invoke,builtin]
  have hrec:recoverD (c₀::cs)=none:=by simp[recoverD,hm]
  have ha1:=ha0.put hd1 .nilIface
  have hg:(A.put (some d1) .nilIface).eval (.tmp d1)=.nilIface:=ha1.ev (ρ:=(Env.mk n [] (argSlots 0 args)).put d1 .nilIface) (x:=.tmp d1) (by simp[Env.ev,Env.put,Env.get,getIn])
  have ha2:=ha1.put (d:=d2) hd2 .nilIface
  unfold wpOpsS
  simp only[List.getElem?_toArray,List.getElem?_cons_zero,Region.wanted,hrun,hrec,if_true]
  unfold wpOpsS
  simp only[List.getElem?_toArray,List.getElem?_cons_succ,List.getElem?_cons_zero,Region.wanted,if_true]
  have hrun2:(execOp (A.put (some d1) .nilIface).eval ⟨some d2,.assign (.tmp d1),y2,p2,a2,none⟩).run P w=.ok (.value .nilIface) w:=by
   simp[execOp,hg]
  rw[hrun2]
  simp only[Oper.upon]
  show wpOpsS P _ _ [] ((A.put (some d1) .nilIface).put (some d2) .nilIface) (c₀::cs) w
  unfold wpOpsS
  refine wpS_of_wp (Code.wp_mono ?_ (h _ w ha2 hs))
  intro e a' w' q
  obtain⟨ρ',σ',ha',hs',q⟩:=q
  have hc0:({c₀ with mode:=.returning}:Frame)=c₀:=by rw[← hm]
  cases e with
  | normal=>
    obtain⟨hd,v,hv,v',he,hr⟩:=q
    exact⟨ha'.defers.trans hd,.returning,by rw[hc0],v,hv a' w' ha' hs',⟨v,rfl⟩,rfl,hr _ _ _ hs'⟩
  | ret=>
    obtain⟨hd,v,hv,v',he,hr⟩:=q
    exact⟨ha'.defers.trans hd,.returning,by rw[hc0],v,hv a' w' ha' hs',⟨v,rfl⟩,rfl,hr _ _ _ hs'⟩
  | panic ch=>obtain⟨hd,_,hr,_⟩:=q;cases hr
  | exit id=>exact q.elim
  | goto l=>exact q.elim
  | outgrown=>exact q.elim
def retQD (P:Program) (fn:Func) (k:World) (h0:Hp) (R:Ending→List HP→Prop):Post
  | .normal,ρ,σ | .ret,ρ,σ=>∃ f cap τ v,ρ.defers=[⟨.fn (.func f) cap.toArray,#[]⟩]∧IsFn P f∧FD P f cap k h0 σ τ∧Res P fn k h0 ρ τ v∧R (.returned v) τ
  | _,_,_=>False
theorem FT.of_wpD {f:FuncId} {fn:Func} {c:Code} {args:List Value} {R:Ending→List HP→Prop} (hf:P.funcs[f]?=some fn) (hb:fn.body=some c) (hn:fn.ntmps=n) (hl:Nat.ble args.length n=true)
    (h:WP P k h0 c (retQD P fn k h0 R) ⟨n,[],argSlots 0 args⟩ σ):FT P f args k h0 σ R:=fun w hs=>by
  have hl':args.length≤n:=Nat.le_of_ble_eq_true hl
  refine calls_of_wp_defers hf hb (Code.wp_mono ?_ (h _ w (by rw[hn];exact Ok.args hl') hs))
  have key:∀ (a':Act) (w':World) ρ' σ',ρ'.Ok a'→St k h0 σ' w'→(∃ f cap τ v,ρ'.defers=[⟨.fn (.func f) cap.toArray,#[]⟩]∧IsFn P f∧FD P f cap k h0 σ' τ∧Res P fn k h0 ρ' τ v∧R (.returned v) τ)→
    Leaves P fn a'.tmps (fun e w'=>∃ τ,St k h0 τ w'∧R e τ) a'.defers .returning w':=by
   rintro a' w' ρ' σ' ha' hs' ⟨g,cap,τ,v,hd,hg,hD,hv,hR⟩
   rw[ha'.defers,hd]
   refine leaves_cons (f:=g) (args:=cap.toArray) (by simp) ?_ ((hD w' hs').mono ?_)
   · simp only[invoke,List.size_toArray]
     rw[show (#[]:Array Value)++cap.toArray=cap.toArray by simp]
     exact run_callFunc hg _ w'
   · rintro e u' w'' ⟨⟨x,rfl⟩,rfl,hs''⟩
     exact⟨v,hv a' w'' ha' hs'',τ,hs'',hR⟩
  intro e a' w' q
  obtain⟨ρ',σ',ha',hs',q⟩:=q
  cases e with
  | normal=>exact key a' w' ρ' σ' ha' hs' q
  | ret=>exact key a' w' ρ' σ' ha' hs' q
  | panic ch=>exact q.elim
  | exit id=>exact q.elim
  | goto l=>exact q.elim
  | outgrown=>exact q.elim
theorem ResCells2 {fn:Func} {a c T U:Nat} {x y:Addr} {v u:Value} {ρ:Env} (h:fn.results=#[.cell a T,.cell c U]) (ha:ρ.get a=some (.pointer (some x))) (hc:ρ.get c=some (.pointer (some y))) (hT:scal P T=true) (hU:scal P U=true) (hx:Rd h0 σ x v) (hy:Rd h0 σ y u):Res P fn k h0 ρ σ (.tuple #[v,u]):=fun A w hA hs=>by
  have e1:=hA.get a _ ha
  have e2:=hA.get c _ hc
  have l1:=hx k w hs
  have l2:=hy k w hs
  have t1:=(scal_spec (w:=w) hT).1
  have t2:=(scal_spec (w:=w) hU).1
  simp[results,h,e1,e2,asAddr,loadVar,t1,t2,l1,l2]
theorem run_equal_nil_nil {T:TypeId} {w:World} (hT:ifcB P T=true):(Op.equal T .nilIface .nilIface).run P w=.ok true w:=by
  obtain⟨ms,hT⟩:=ifcB_spec hT
  unfold Op.equal
  rw[show Op.maxDepth=9999+1 from rfl]
  unfold Op.equalIn
  simp[run_underlying' hT]
theorem V.neqNilNil {T U:TypeId} {x:Operand} {ρ:Env} {d:Option Tmp} {ty:TypeId} {pos:String} {aft:Array Edge} {g:Option (Nat × Bool)} (hT:ifcB P T=true) (hx:ρ.ev x=some .nilIface):Val P k h0 σ ρ ⟨d,.binOp .neq T x (.const .nilIface) U,ty,pos,aft,g⟩ (.bool false):=fun A w ha hs=>by
  have e:A.eval (.const .nilIface)=.nilIface:=rfl
  simp[execOp,ha.ev hx,e,eqGuard,binOp,run_equal_nil_nil hT]
theorem X.retD {fn:Func} {R:Ending→List HP→Prop} {f:FuncId} {cap:List Value} {τ:List HP} {v:Value} {ρ:Env} (hd:ρ.defers=[⟨.fn (.func f) cap.toArray,#[]⟩]) (hf:IsFn P f) (hD:FD P f cap k h0 σ τ) (hv:Res P fn k h0 ρ τ v) (hr:R (.returned v) τ):retQD P fn k h0 R .ret ρ σ:=⟨f,cap,τ,v,hd,hf,hD,hv,hr⟩
end
open Go.RowKit
section
variable {P:Program} {k:World} {h0:Hp} {Q:Post} {σ:List HP} {K:Env→List HP→Prop} {ops rest:List Oper} {ρ:Env} {d:Option Tmp} {ty:TypeId} {pos:String} {aft:Array Edge} {g:Option (Nat × Bool)}
theorem M.slice0 {T E sz by_:Nat} {zs:List Value} (hT:slcE P T=some (E,sz,by_)) (hz:zer P E=some zs) (hsm:Nat.ble sz 16777216=true) :
    Mem P k h0 σ ρ ⟨d,.buildSlice T 0 #[],ty,pos,aft,g⟩ (fun b:Nat=>.slice (some ⟨b,0,none⟩) 0 0) (fun b=>cl b [] E::σ):=fun A w ha hs=>by
  obtain⟨hu,i,hi,hsz,hby⟩:=slcE_spec hT
  obtain⟨i',z',hi',hz0,hzc⟩:=zer_spec hz
  rw[hi] at hi'
  obtain rfl:=Option.some.inj hi'
  have hsm':sz≤16777216:=Nat.le_of_ble_eq_true hsm
  refine⟨w.heap.size,_,?_,hs.newC _ _⟩
  simp only[execOp,Instr.buildSlice,Sem.run_bind,run_underlying' hu,Result.andThen_ok,run_sizeOf' hi,Sem.run_ite,Nat.zero_mul]
  rw[if_neg (by omega),if_pos trivial]
  simp only[Sem.run_pure,Result.andThen_ok]
  have hr:(Array.map (fun x=>(#[]:Array Value)[x%(#[]:Array Value).size]!) (Array.range 0))=#[]:=by simp
  rw[hr]
  simp[Instr.fill,newRow]
theorem run_equal_slice_nil {T E:TypeId} {a:Option Addr} {n c:Nat} {w:World} (hT:P.underlying T=some (.slice E)):(Op.equal T (.slice a n c) (.slice none 0 0)).run P w=.ok a.isNone w:=by
  unfold Op.equal
  rw[show Op.maxDepth=9999+1 from rfl]
  unfold Op.equalIn
  cases a <;> simp[run_underlying' hT]
theorem V.eqlSliceNil {T U E:TypeId} {x:Operand} {a:Option Addr} {n c:Nat} (hT:P.underlying T=some (.slice E)) (hx:ρ.ev x=some (.slice a n c)):Val P k h0 σ ρ ⟨d,.binOp .eql T x (.const (.slice none 0 0)) U,ty,pos,aft,g⟩ (.bool a.isNone):=fun A w ha hs=>by
  have e:A.eval (.const (.slice none 0 0))=.slice none 0 0:=rfl
  simp[execOp,ha.ev hx,e,eqGuard,binOp,run_equal_slice_nil hT]
theorem V.appendZ {T E sz by_ n m c:Nat} {base a:Option Addr} {s x:Operand} {tt:Array TypeId} (hT:slcE P T=some (E,sz,by_)) (htt:tt=#[T,T]) (hs:ρ.ev s=some (.slice base n m)) (hle:n≤m) (hx:ρ.ev x=some (.slice a 0 c)) :
    Val P k h0 σ ρ ⟨d,.call ⟨.builtin .append,#[s,x],tt⟩,ty,pos,aft,g⟩ (.slice base n m):=fun A w ha hst=>by
  obtain⟨hu,ii,hii,hsz,hby⟩:=slcE_spec hT
  subst htt
  have hop:(execOp A.eval ⟨d,.call ⟨.builtin .append,#[s,x],#[T,T]⟩,ty,pos,aft,g⟩).run P w=((Builtin.append_ #[T,T] ty #[.slice base n m,.slice a 0 c]).run P w).andThen fun r w'=>.ok (.value r) w':=by
   simp[execOp,resolve,invoke,builtin,ha.ev hs,ha.ev hx]
  have hr:(Builtin.firstCells ii.size 0 (.slice a 0 c)).run P w=.ok #[] w:=by
   cases a with
   | none=>simp[Builtin.firstCells]
   | some ad=>simp[Builtin.firstCells,loadCells,loadCellsFrom]
  rw[hop]
  unfold Builtin.append_
  simp only[List.getElem?_toArray,List.getElem?_cons_zero,List.getElem?_cons_succ,Sem.run_bind,run_underlying' hu,run_sizeOf' hii,Result.andThen_ok,Builtin.lenOf,Sem.run_pure,Sem.run_ite,Nat.add_zero,if_pos hle]
  simp only[Bool.false_eq_true,if_false,Sem.run_pure,Result.andThen_ok,if_pos hle,Bool.not_false,if_true,hr]
  cases base with
  | none=>simp
  | some ad=>simp[storeCells]
end
open Go.RowKit
def Spent (T:TypeId):List PanicEntry:=[{v:=.iface T (.agg #[]),recovered:=false}]
def RP (T:TypeId) (R:Value→List HP→Prop) (S:List HP→Prop):Ending→List HP→Prop:=fun e τ=>(∃ v,e=.returned v∧R v τ)∨(e=.panicked (Spent T)∧S τ)
section
variable {P:Program} {k:World} {h0:Hp} {Q:Post} {σ:List HP} {K:Env→List HP→Prop} {ops rest:List Oper} {n:Nat} {ds:List Deferred} {l:List (Nat × Value)}
theorem WL.panic {ty:TypeId} {pos:String} {aft:Array Edge} {g:Option (Nat × Bool)} {x:Operand} {T:TypeId}
    (hx:(Env.mk n ds l).ev x=some (.iface T (.agg #[]))) (h:Q (.panic (Spent T)) ⟨n,ds,l⟩ σ) (hw:wantE ops ⟨n,ds,l⟩ g=some true:=by rfl) :
    WL P k h0 ops K Q (⟨none,.panic x,ty,pos,aft,g⟩::rest) ⟨n,ds,l⟩ σ:=fun a w ha hs=>by
  have hw':=wanted_of (o:=⟨none,.panic x,ty,pos,aft,g⟩) ha hw
  have hrun:(execOp a.eval ⟨none,.panic x,ty,pos,aft,g⟩).run P w=.halt (.panic (.iface T (.agg #[]))) w:=by
   simp[execOp,Instr.panic,ha.ev hx,goPanic]
  unfold wpList
  rw[if_pos hw']
  refine .inl ?_
  unfold Oper.wp
  rw[hrun]
  exact⟨⟨n,ds,l⟩,σ,ha,hs,h⟩
theorem WL.callS {d:Nat} {ty:TypeId} {pos:String} {aft:Array Edge} {g:Option (Nat × Bool)} {f:FuncId} {args:List Operand} {tt:Array TypeId} {vs:List Value} {T:TypeId}
    (hw:wantE ops ⟨n,ds,l⟩ g=some true) (hd:Nat.blt d n=true) (hf:IsFn P f) (hv:evs ⟨n,ds,l⟩ args=some vs)
    {R:Value→List HP→Prop} {S:List HP→Prop} (hc:FT P f vs k h0 σ (RP T R S)) (hp:∀ τ,S τ→Q (.panic (Spent T)) ⟨n,ds,l⟩ τ) (h:∀ v τ,R v τ→WL P k h0 ops K Q rest ⟨n,ds,(d,v)::l⟩ τ) :
    WL P k h0 ops K Q (⟨some d,.call ⟨.value (.func f),args.toArray,tt⟩,ty,pos,aft,g⟩::rest) ⟨n,ds,l⟩ σ:=
  WL.enter hw hd (fun a w ha _=>run_call_func hf hv ha) (hc.mono fun e τ q=>by
   rcases q with ⟨v,rfl,hr⟩ | ⟨rfl,hs⟩
   · exact h v τ hr
   · exact hp τ hs)
theorem FT.partP {f:FuncId} {vs:List Value} {T:TypeId} {R:Value→List HP→Prop} {S:List HP→Prop} (σ1 σ2:List HP) (hp:Ent σ (σ1++σ2)) (h:∀ g,Stars σ2 g→h0.Dj g→FT P f vs k (h0.un g) σ1 (RP T R S)) :
    FT P f vs k h0 σ (RP T (fun v τ=>∃ τ',R v τ'∧τ=τ'++σ2) (fun τ=>∃ τ',S τ'∧τ=τ'++σ2)):=
  FT.ent hp ((FT.frame h).mono fun _ _ ⟨σ'',hσ,q⟩=>q.elim (fun ⟨v,he,hr⟩=>.inl ⟨v,he,σ'',hr,hσ⟩) fun ⟨he,hs⟩=>.inr ⟨he,σ'',hs,hσ⟩)
theorem FT.tightP {f:FuncId} {vs:List Value} {T:TypeId} {R:Value→List HP→Prop} {S:List HP→Prop} (h:FT P f vs k h0 σ (RP T (fun v τ=>∃ τ',R v τ'∧Ent τ τ') (fun τ=>∃ τ',S τ'∧Ent τ τ'))):FT P f vs k h0 σ (RP T R S):=fun w hs=>
  (h w hs).mono fun _ _ ⟨τ,hst,q⟩=>q.elim (fun ⟨v,e,τ',hr,he⟩=>⟨τ',he _ _ _ hst,.inl ⟨v,e,hr⟩⟩) fun ⟨e,τ',hs,he⟩=>⟨τ',he _ _ _ hst,.inr ⟨e,hs⟩⟩
def FDS (P:Program) (T:TypeId) (f:FuncId) (args:List Value) (k:World) (h0:Hp) (σ τ:List HP):Prop:=
  ∀ w,St k h0 σ w→CallsD P f args.toArray (.panicking (Spent T)) w fun e u' w'=>(∃ x,e=.returned x)∧u'=.panicking [{v:=.iface T (.agg #[]),recovered:=true}]∧St k h0 τ w'
theorem FDS.of {T:TypeId} {f:FuncId} {fn:Func} {id d1 d2:Nat} {y1 y2:TypeId} {p1 p2:String} {a1 a2:Array Edge} {c:Code} {args:List Value} {τ:List HP}
    (hf:P.funcs[f]?=some fn) (hb:fn.body=some (.seq (.region id #[⟨some d1,.call ⟨.builtin .recover,#[],#[]⟩,y1,p1,a1,none⟩,⟨some d2,.assign (.tmp d1),y2,p2,a2,none⟩] false) c)) (hn:fn.ntmps=n) (hl:Nat.ble args.length n=true) (hd1:Nat.blt d1 n=true) (hd2:Nat.blt d2 n=true)
    (h:WP P k h0 c (retQ P fn k h0 (Ret fun _ τ'=>Ent τ' τ)) ⟨n,[],(d2,.iface T (.agg #[]))::(d1,.iface T (.agg #[]))::argSlots 0 args⟩ σ):FDS P T f args k h0 σ τ:=fun w hs=>by
  have hl':args.length≤n:=Nat.le_of_ble_eq_true hl
  refine callsD_of_wpS hf hb fun c₀ cs hm=>wpS_seq (wpS_region ?_)
  rw[hn]
  have ha0:=Ok.args (args:=args) hl'
  generalize hA:({tmps:=args.toArray++Array.replicate (n-args.toArray.size) undef,defers:=[]}:Act)=A at ha0
  show wpOpsS P _ _ [0,1] A (c₀::cs) w
  have hrun:(execOp A.eval ⟨some d1,.call ⟨.builtin .recover,#[],#[]⟩,y1,p1,a1,none⟩).run P w=.ok .recover w:=by
   simp[execOp,resolve,invoke,builtin]
  have hrec:recoverD (c₀::cs)=some (.iface T (.agg #[]),{c₀ with mode:=.panicking [{v:=.iface T (.agg #[]),recovered:=true}]}::cs):=by simp[recoverD,hm,Spent]
  have ha1:=ha0.put hd1 (.iface T (.agg #[]))
  have hg:(A.put (some d1) (.iface T (.agg #[]))).eval (.tmp d1)=.iface T (.agg #[]):=ha1.ev (ρ:=(Env.mk n [] (argSlots 0 args)).put d1 (.iface T (.agg #[]))) (x:=.tmp d1) (by simp[Env.ev,Env.put,Env.get,getIn])
  have ha2:=ha1.put (d:=d2) hd2 (.iface T (.agg #[]))
  unfold wpOpsS
  simp only[List.getElem?_toArray,List.getElem?_cons_zero,Region.wanted,hrun,hrec,if_true]
  unfold wpOpsS
  simp only[List.getElem?_toArray,List.getElem?_cons_succ,List.getElem?_cons_zero,Region.wanted,if_true]
  have hrun2:(execOp (A.put (some d1) (.iface T (.agg #[]))).eval ⟨some d2,.assign (.tmp d1),y2,p2,a2,none⟩).run P w=.ok (.value (.iface T (.agg #[]))) w:=by
   simp[execOp,hg]
  rw[hrun2]
  simp only[Oper.upon]
  show wpOpsS P _ _ [] ((A.put (some d1) (.iface T (.agg #[]))).put (some d2) (.iface T (.agg #[]))) ({c₀ with mode:=.panicking [{v:=.iface T (.agg #[]),recovered:=true}]}::cs) w
  unfold wpOpsS
  refine wpS_of_wp (Code.wp_mono ?_ (h _ w ha2 hs))
  intro e a' w' q
  obtain⟨ρ',σ',ha',hs',q⟩:=q
  cases e with
  | normal=>
    obtain⟨hd,v,hv,v',he,hr⟩:=q
    exact⟨ha'.defers.trans hd,_,rfl,v,hv a' w' ha' hs',⟨v,rfl⟩,rfl,hr _ _ _ hs'⟩
  | ret=>
    obtain⟨hd,v,hv,v',he,hr⟩:=q
    exact⟨ha'.defers.trans hd,_,rfl,v,hv a' w' ha' hs',⟨v,rfl⟩,rfl,hr _ _ _ hs'⟩
  | panic ch=>obtain⟨hd,_,hr,_⟩:=q;cases hr
  | exit id=>exact q.elim
  | goto l=>exact q.elim
  | outgrown=>exact q.elim
def retQR (P:Program) (T:TypeId) (fn:Func) (k:World) (h0:Hp) (R:Ending→List HP→Prop):Post
  | .normal,ρ,σ | .ret,ρ,σ=>∃ f cap τ v,ρ.defers=[⟨.fn (.func f) cap.toArray,#[]⟩]∧IsFn P f∧FD P f cap k h0 σ τ∧Res P fn k h0 ρ τ v∧R (.returned v) τ
  | .panic ch,ρ,σ=>ch=Spent T∧∃ f cap τ v,ρ.defers=[⟨.fn (.func f) cap.toArray,#[]⟩]∧IsFn P f∧FDS P T f cap k h0 σ τ∧Res P fn k h0 ρ τ v∧R (.returned v) τ
  | _,_,_=>False
theorem FT.of_wpR {T:TypeId} {f:FuncId} {fn:Func} {c:Code} {args:List Value} {R:Ending→List HP→Prop} (hf:P.funcs[f]?=some fn) (hb:fn.body=some c) (hn:fn.ntmps=n) (hl:Nat.ble args.length n=true)
    (h:WP P k h0 c (retQR P T fn k h0 R) ⟨n,[],argSlots 0 args⟩ σ):FT P f args k h0 σ R:=fun w hs=>by
  have hl':args.length≤n:=Nat.le_of_ble_eq_true hl
  refine calls_of_wp_defers hf hb (Code.wp_mono ?_ (h _ w (by rw[hn];exact Ok.args hl') hs))
  have key:∀ (a':Act) (w':World) ρ' σ',ρ'.Ok a'→St k h0 σ' w'→(∃ f cap τ v,ρ'.defers=[⟨.fn (.func f) cap.toArray,#[]⟩]∧IsFn P f∧FD P f cap k h0 σ' τ∧Res P fn k h0 ρ' τ v∧R (.returned v) τ)→
    Leaves P fn a'.tmps (fun e w'=>∃ τ,St k h0 τ w'∧R e τ) a'.defers .returning w':=by
   rintro a' w' ρ' σ' ha' hs' ⟨g,cap,τ,v,hd,hg,hD,hv,hR⟩
   rw[ha'.defers,hd]
   refine leaves_cons (f:=g) (args:=cap.toArray) (by simp) ?_ ((hD w' hs').mono ?_)
   · simp only[invoke,List.size_toArray]
     rw[show (#[]:Array Value)++cap.toArray=cap.toArray by simp]
     exact run_callFunc hg _ w'
   · rintro e u' w'' ⟨⟨x,rfl⟩,rfl,hs''⟩
     exact⟨v,hv a' w'' ha' hs'',τ,hs'',hR⟩
  intro e a' w' q
  obtain⟨ρ',σ',ha',hs',q⟩:=q
  cases e with
  | normal=>exact key a' w' ρ' σ' ha' hs' q
  | ret=>exact key a' w' ρ' σ' ha' hs' q
  | panic ch=>
    obtain⟨rfl,g,cap,τ,v,hd,hg,hD,hv,hR⟩:=q
    show Leaves P fn a'.tmps _ a'.defers (.panicking (Spent T)) w'
    rw[ha'.defers,hd]
    refine leaves_cons (f:=g) (args:=cap.toArray) (by simp) ?_ ((hD w' hs').mono ?_)
    · simp only[invoke,List.size_toArray]
      rw[show (#[]:Array Value)++cap.toArray=cap.toArray by simp]
      exact run_callFunc hg _ w'
    · rintro e u' w'' ⟨⟨x,rfl⟩,rfl,hs''⟩
      exact⟨v,hv a' w'' ha' hs'',τ,hs'',hR⟩
  | exit id=>exact q.elim
  | goto l=>exact q.elim
  | outgrown=>exact q.elim
theorem X.retR {T:TypeId} {fn:Func} {R:Ending→List HP→Prop} {f:FuncId} {cap:List Value} {τ:List HP} {v:Value} {ρ:Env} (hd:ρ.defers=[⟨.fn (.func f) cap.toArray,#[]⟩]) (hf:IsFn P f) (hD:FD P f cap k h0 σ τ) (hv:Res P fn k h0 ρ τ v) (hr:R (.returned v) τ):retQR P T fn k h0 R .ret ρ σ:=⟨f,cap,τ,v,hd,hf,hD,hv,hr⟩
theorem V.neqNilIf {T U y:TypeId} {v:Value} {x:Operand} {ρ:Env} {d:Option Tmp} {ty:TypeId} {pos:String} {aft:Array Edge} {g:Option (Nat × Bool)} (hT:ifcB P T=true) (hx:ρ.ev x=some (.iface y v)):Val P k h0 σ ρ ⟨d,.binOp .neq T x (.const .nilIface) U,ty,pos,aft,g⟩ (.bool true):=V.neqIfaceNil hT hx
end
open Go.RowKit
section
variable {P:Program} {k:World} {h0:Hp} {Q:Post} {σ:List HP} {K:Env→List HP→Prop} {ops rest:List Oper} {n:Nat} {ds:List Deferred} {l:List (Nat × Value)}
theorem WL.callFS {d:Nat} {ty:TypeId} {pos:String} {aft:Array Edge} {g:Option (Nat × Bool)} {fv:Operand} {f:FuncId} {first cap:List Value} {args:List Operand} {tt:Array TypeId} {vs:List Value} {T:TypeId}
    (hw:wantE ops ⟨n,ds,l⟩ g=some true) (hd:Nat.blt d n=true) (hfv:(Env.mk n ds l).ev fv=some (.func (.func f) first.toArray cap.toArray)) (hf:IsFn P f) (hv:evs ⟨n,ds,l⟩ args=some vs)
    {R:Value→List HP→Prop} {S:List HP→Prop} (hc:FT P f (first++vs++cap) k h0 σ (RP T R S)) (hp:∀ τ,S τ→Q (.panic (Spent T)) ⟨n,ds,l⟩ τ) (h:∀ v τ,R v τ→WL P k h0 ops K Q rest ⟨n,ds,(d,v)::l⟩ τ) :
    WL P k h0 ops K Q (⟨some d,.call ⟨.value fv,args.toArray,tt⟩,ty,pos,aft,g⟩::rest) ⟨n,ds,l⟩ σ:=
  WL.enter hw hd (fun a w ha _=>run_callValue hfv hf hv ha) (hc.mono fun e τ q=>by
   rcases q with ⟨v,rfl,hr⟩ | ⟨rfl,hs⟩
   · exact h v τ hr
   · exact hp τ hs)
theorem V.assert {I T:TypeId} {v r:Value} {x:Operand} {ρ:Env} {d:Option Tmp} {ty:TypeId} {pos:String} {aft:Array Edge} {g:Option (Nat × Bool)} (hr:∀ w,(Instr.typeAssert (.iface T v) I T true).run P w=.ok r w) (hx:ρ.ev x=some (.iface T v)) :
    Val P k h0 σ ρ ⟨d,.typeAssert x I T true,ty,pos,aft,g⟩ r:=fun A w ha hs=>by
  simp[execOp,ha.ev hx,hr]
end
end Go.Eng
