/- vivariumlaw21.StripLeaps: for every input the call returns true, and each argument reads behind the call as it read before. Conditions: none beyond those of the given row. -/
import Derived.Test.YtclhjichmdjlaaaGreatTB
import Derived.Test.YtclhjichmdjlaaaGreatTA
import Derived.Test.YtclhjichmdjlaaaGreatRows
import Derived.ProofKit
import Derived.OpenShut
import Derived.SizedLaws
set_option linter.unusedSimpArgs false
set_option linter.unusedVariables false
namespace Go.Proofs.YtclhjichmdjlaaaGreat
open Go.ChangeShapes Go.WideShapes Go.ChangeAt Go.RowKit Go.WideElems
theorem Tryz.own:ownKnob Tryz.prog.godebug=none:=by kernel_rfl
theorem Tryz.laidOut:laidOutB Tryz.prog=true:=by kernel_rfl
theorem below_of_st {W W':World} {τ:List Go.Eng.HP} (h:Go.Eng.St W (fun b=>W.heap[b]?) τ W'):W.keptBut W' (fun _=>False)∧∀ k,k<W.heap.size→W'.heap[k]?=W.heap[k]?:=by
  have hb:∀ k,k<W.heap.size→W'.heap[k]?=W.heap[k]?:=fun k hk=>by
   have e:W.heap[k]?=some W.heap[k]:=Array.getElem?_eq_getElem hk
   rw[e]
   exact h.base k _ e
  refine⟨⟨h.os,h.output,fun i hi=>?_⟩,hb⟩
  rw[hb i hi,Array.getElem?_eq_getElem hi]
  cases W.heap[i] <;> simp
theorem st_begin (W:World):Go.Eng.St W (fun b=>W.heap[b]?) [] W:=
  ⟨rfl,rfl,rfl,fun _ _ h=>h,Go.Eng.Hp.no,rfl,Go.Eng.Hp.Dj_no _,fun _ _ h=>by cases h⟩
set_option maxRecDepth 100000 in
theorem stripLeaps_lifted (os:Os) (started:os.Started) (H:Type) (enc:TypeId × Value→H) :
    ReturnsInHanded {} Tryz.checked os 6 .any (Rows.stripLeapsSpec.pre6 enc Tryz.prog Tryz.f6 Rows.stripLeapsRow.domain false) (Rows.stripLeapsSpec.post enc Tryz.prog Tryz.f6 false true false false):=by
  refine returnsInHanded_of_change_sized (C:=Tryz.checked) Tryz.own started (by kernel_rfl) Tryz.func6
   (ChangeSpec.witness6 (enc:=enc) (C:=Tryz.checked) false ⟨#[],#[.agg #[.int .u8 0,.int .u8 0,.int .u16 0,.int .u16 0,.int .i64 0,.string (ByteArray.mk #[]),.int .i64 0,.int .u8 0,.int .u8 0,.slice none 0 0,.slice none 0 0],.agg #[.int .u8 0,.int .i64 0,.int .i64 0,.int .u8 0,.int .i64 0],.agg #[.int .i64 0,.int .i64 0,.slice none 0 0],.int .i64 0,.int .i64 0],[]⟩ 12 (by kernel_rfl) (by kernel_rfl) (by kernel_rfl) (by kernel_rfl)) ?_
  intro W base args ds gs before hval0 hW hcnd hwei0 _
  have hval:∀ (j:Nat) t v,Tryz.f6.params[j]?=some t→args[j]?=some v→Value.okWide Tryz.prog W .any base t v:=hval0
  have hW':=hW
  have hlt:=hW.lt
  obtain⟨p,q,hA0,hV,rfl,hfz,hnd⟩:=hW
  have hA:DataW.TrodAll enc Tryz.prog W 0 (fun _=>true) true Tryz.f6.params.toList args.toList ds p:=hA0
  obtain⟨rfl,rfl⟩:=trodVars_none hV
  have hwei:(DataW.weightsEach Tryz.prog Tryz.f6.params.toList ds).all (·≤reachBytes)=true:=by
   have h9:(DataW.weightsEach Tryz.prog (Tryz.f6.params.toList++[]) (ds++[])).all (·≤reachBytes)=true:=hwei0
   rwa [List.append_nil,List.append_nil] at h9
  rw[Tryz.params6] at hA hval hwei
  obtain⟨v0,vs0,d0,ds0,p0,q0,hargs,rfl,rfl,h0,r0⟩:=trodAll_cons hA
  obtain⟨v1,vs1,d1,ds1,p1,q1,rfl,rfl,rfl,h1,r1⟩:=trodAll_cons r0
  obtain⟨v2,vs2,d2,ds2,p2,q2,rfl,rfl,rfl,h2,r2⟩:=trodAll_cons r1
  obtain⟨v3,vs3,d3,ds3,p3,q3,rfl,rfl,rfl,h3,r3⟩:=trodAll_cons r2
  obtain⟨v4,vs4,d4,ds4,p4,q4,rfl,rfl,rfl,h4,r4⟩:=trodAll_cons r3
  obtain⟨rfl,rfl,rfl⟩:=trodAll_nil r4
  have hargs':args=#[v0,v1,v2,v3,v4]:=by
   apply Array.ext'
   simpa using hargs
  subst hargs'
  have hl:∀ n∈DataW.weightsEach Tryz.prog [32,34,63,3,3] [d0,d1,d2,d3,d4],n≤reachBytes:=fun n hn=>of_decide_eq_true (List.all_eq_true.1 hwei n hn)
  have l0:Light Go.Eng.Pg 32 d0:=fun n hn=>hl n (each_mem _ _ 0 32 d0 rfl rfl n hn)
  have l1:Light Go.Eng.Pg 34 d1:=fun n hn=>hl n (each_mem _ _ 1 34 d1 rfl rfl n hn)
  have l2:Light Go.Eng.Pg 63 d2:=fun n hn=>hl n (each_mem _ _ 2 63 d2 rfl rfl n hn)
  obtain⟨c0,rfl,_⟩:=okWide_struct Go.Eng.T32.u (hval 0 32 v0 rfl rfl)
  obtain⟨c1,rfl,_⟩:=okWide_struct Go.Eng.T34.u (hval 1 34 v1 rfl rfl)
  obtain⟨c2,rfl,_⟩:=okWide_struct Go.Eng.T63.u (hval 2 63 v2 rfl rfl)
  obtain⟨lev,rfl,rfl,rfl,wlev⟩:=open_int Go.Eng.T3.u (hval 3 3 v3 rfl rfl) h3
  obtain⟨j,rfl,rfl,rfl,wj⟩:=open_int Go.Eng.T3.u (hval 4 3 v4 rfl rfl) h4
  obtain⟨r,rv,ru,hr,hrw,htab⟩:∃ (r:Go.Eng.RuleD) (v u:Value),c0.toList=Go.Eng.ruleC r v u∧r.Wd∧Go.Eng.TabAt (HpW W) r.table v u:=by
   obtain⟨fuel,hf⟩:=h0
   exact open_ruleW (x:=(d0,p0)) hf l0
  obtain⟨t,ht,htw⟩:∃ t:Go.Eng.TopoD,c1.toList=Go.Eng.topoC t∧t.Wd:=by
   obtain⟨fuel,hf⟩:=h1
   exact open_topoW (x:=(d1,p1)) hf l1
  obtain⟨bw,ba,bv,R,hbd,hR,hR1,hR2⟩:∃ (bw ba:Int) (bv:Value) (R:List ByteArray),c2.toList=[.int .i64 bw,.int .i64 ba,bv]∧Go.Eng.BtsAt (HpW W) bv R∧R.length<2^47∧∀ i,i<R.length→(R.getD i ByteArray.empty).size<2^47:=by
   obtain⟨fuel,hf⟩:=h2
   exact open_bandW (x:=(d2,p2)) hf l2
  have e0:c0=(Go.Eng.ruleC r rv ru).toArray:=by rw[← hr]
  have e1:c1=(Go.Eng.topoC t).toArray:=by rw[← ht]
  have e2:c2=#[.int .i64 bw,.int .i64 ba,bv]:=by apply Array.ext';rw[hbd]
  subst e0 e1 e2
  have hwalk:Go.Eng.FT Go.Eng.Pg 6 [.agg (Go.Eng.ruleC r rv ru).toArray,.agg (Go.Eng.topoC t).toArray,.agg #[.int .i64 bw,.int .i64 ba,bv],.int .i64 lev,.int .i64 j] W (fun b=>W.heap[b]?) [] (Go.Eng.Is (.bool true)):=
   Go.Eng.law_StripLeaps r hrw rv ru htab t htw bw ba bv R hR (by omega) (fun i hi=>by have:=hR2 i hi;omega) lev j (bounds_i64 wlev) (bounds_i64 wj)
  refine (hwalk W (st_begin W)).mono fun e W' ⟨τ,hst,he⟩=>?_
  have he:e=.returned (.bool true):=he
  subst he
  obtain⟨hkept,hsame⟩:=below_of_st hst
  have hbelow:Below W.heap.size W W':=⟨hst.os,hst.tape,hst.output,by
   rcases Nat.eq_zero_or_pos W.heap.size with e | e
   · omega
   · have h:=hsame (W.heap.size-1) (by omega)
     have hk:W.heap.size-1<W.heap.size:=by omega
     have e2:W.heap[W.heap.size-1]?=some W.heap[W.heap.size-1]:=Array.getElem?_eq_getElem hk
     rw[e2] at h
     have:=(Array.getElem?_eq_some_iff.1 h).1
     omega,hsame⟩
  have stay:∀ {ty:Nat} {v:Value} {d:DataW H} {ps:List MemPlace} (sp:Nat→Bool),Tryz.prog.readableRec ty=true→ty<Tryz.prog.types.size→DataW.Trod enc Tryz.prog W 0 (fun _=>true) true ty v d ps→(∀ x∈ps,x.block<W.heap.size)→(∀ x∈ps,sp x.block=true)→DataW.Trod enc Tryz.prog W' 0 sp true ty v d ps:=
   fun sp hr hrow h hl hs=>Trod_stays Tryz.laidOut hr hrow h (fun x hx=>hbelow.same (hl x hx)) hs
  have hold:∀ x∈p0++(p1++(p2++([]++([]++[]))))++[],x.block<W.heap.size:=fun x hx=>hlt x hx
  refine⟨_,rfl,_,_,_,[],p0++(p1++(p2++([]++([]++[])))),[],hW',trodAll_mk1 (shut_bool Go.Eng.T4.u true),?_,rfl,World.keptBut_mono (fun _ f=>f.elim) hkept,fun h=>by cases h⟩
  have m0:∀ x∈p0,x.block<W.heap.size:=fun x hx=>hold x (by simp[hx])
  have m1:∀ x∈p1,x.block<W.heap.size:=fun x hx=>hold x (by simp[hx])
  have m2:∀ x∈p2,x.block<W.heap.size:=fun x hx=>hold x (by simp[hx])
  exact trodAll_cons_mk (stay _ (by kernel_rfl) (of_decide_eq_true (by kernel_rfl)) h0 m0 (fun x hx=>by simpa using m0 x hx)) (trodAll_cons_mk (stay _ (by kernel_rfl) (of_decide_eq_true (by kernel_rfl)) h1 m1 (fun x hx=>by simpa using m1 x hx))
   (trodAll_cons_mk (stay _ (by kernel_rfl) (of_decide_eq_true (by kernel_rfl)) h2 m2 (fun x hx=>by simpa using m2 x hx)) (trodAll_cons_mk (stay _ (by kernel_rfl) (of_decide_eq_true (by kernel_rfl)) h3 (fun x hx=>by cases hx) (fun x hx=>by cases hx))
    (trodAll_cons_mk (stay _ (by kernel_rfl) (of_decide_eq_true (by kernel_rfl)) h4 (fun x hx=>by cases hx) (fun x hx=>by cases hx)) trodAll_mk0))))
theorem stripLeaps_holds:Rows.StripLeapsSaid:=
  OpenClaim.holds_of_wide 6 Tryz.f6 rfl rfl rfl rfl rfl rfl rfl ⟨rfl,rfl,rfl,rfl,rfl⟩ rfl rfl rfl rfl rfl (by kernel_rfl) Tryz.func6 (by kernel_rfl)
   (of_decide_eq_true (by kernel_rfl)) (by unfold Func.isWrapper;first | (rw[if_pos (by decide +kernel)];kernel_rfl) | (rw[if_neg (by decide +kernel)];exact⟨rfl,rfl⟩))
   (fun os started H enc _=>stripLeaps_lifted os started H enc)
end Go.Proofs.YtclhjichmdjlaaaGreat
