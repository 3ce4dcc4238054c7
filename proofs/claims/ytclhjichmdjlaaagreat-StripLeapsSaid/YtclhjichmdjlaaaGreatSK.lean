/- Walks of the functions of the seat over those rules, and plain laws of what they compute. No conditions beyond those in each theorem. -/
import Derived.Test.YtclhjichmdjlaaaGreatSJ
import Derived.Test.YtclhjichmdjlaaaGreatEC
set_option linter.unusedSimpArgs false
set_option linter.unusedVariables false
namespace Go.Eng
open Go.RowKit Go.Proofs
section
variable {k:World} {h0:Hp}
theorem sea_attempt11 (σ:List HP) (b1 b2:Nat):FD Pg 107 [.pointer (some ⟨b1,0,none⟩),.pointer (some ⟨b2,0,none⟩)] k h0 σ σ:=by
  refine FD.nil Tryz.func107 rfl rfl rfl rfl rfl<|WP.regs<|L.move rfl<|WL.val rfl rfl (V.neqNilNil T20.i rfl)<|WL.nil<|WP.condF rfl<|WP.skip ?_;exact X.end rfl (Res.none rfl) ⟨_,rfl,Ent.refl _⟩
set_option maxRecDepth 10000 in
theorem sea_attempt1 {R:Int→HP→Prop} (Z:HP) (f:FuncId) (hf:IsFn Pg f) (caps:List Value) (hc:∀ g,h0.le g→FT Pg f caps k g [Z] (Ret fun u τ=>∃ e Z',u=.int .i64 e∧τ=[Z']∧R e Z')) (bx:Nat):FT Pg 106 [.pointer (some ⟨bx,0,none⟩)] k h0 [cl bx [.func (.func f) #[] caps.toArray] 108,Z] (Ret fun u τ=>∃ e Z',u=.tuple #[.int .i64 e,.bool true]∧τ=[Z',cl bx [.func (.func f) #[] caps.toArray] 108]∧R e Z'):=by
  refine FT.tight<|FT.of_wpD (n:=6) Tryz.func106 rfl rfl rfl<|WP.regs<|L.alloc T39.z fun b1=>L.alloc T4.z fun b2=>WL.nil<|WP.regs<|L.mkFunc (vs:=[_,_]) rfl<|WL.defer rfl<|WL.nil<|WP.regs<|L.load T108.sc rfl (Rd.own 2 rfl rfl)<|WL.callF (first:=[]) (cap:=caps) rfl rfl rfl hf rfl (FT.part [Z] _ ((Ent.pk [3,0,0,0] rfl)) fun g gS dj=>hc _ (Hp.le_un_left _ _)) ?_;rintro _ _ ⟨_,⟨e,Z',rfl,rfl,hR⟩,rfl⟩;refine L.store T39.sc rfl rfl rfl (Wr.at 2 rfl rfl)<|L.store T4.sc rfl rfl rfl (Wr.at 1 rfl rfl)<|WL.nil<|WP.ret<|X.retD rfl F107.fn (sea_attempt11 _ _ _) (ResCells2 rfl rfl rfl T39.sc T4.sc (Rd.own 2 rfl rfl) (Rd.own 1 rfl rfl)) ?_
  exact⟨_,rfl,_,⟨e,Z',rfl,rfl,hR⟩,(Ent.pk [0,2] rfl)⟩
set_option maxRecDepth 10000 in
theorem sea_attempt {R:Int→HP→Prop} (Z:HP) (f:FuncId) (hf:IsFn Pg f) (caps:List Value) (hc:∀ g,h0.le g→FT Pg f caps k g [Z] (Ret fun u τ=>∃ e Z',u=.int .i64 e∧τ=[Z']∧R e Z')) (v0:Value):FT Pg 50 [v0,.func (.func f) #[] caps.toArray] k h0 [Z] (Ret fun u τ=>∃ e Z',u=.int .i64 e∧τ=[Z']∧R e Z'):=by
  refine FT.tight<|FT.of_wp (n:=24) Tryz.func50 rfl rfl rfl<|WP.regs<|L.box rfl rfl fun b1=>L.assign rfl<|WL.nil<|WP.regs<|L.mkFunc (vs:=[_]) rfl<|L.assign rfl<|WL.nil<|WP.regs<|L.move rfl<|WL.callF (first:=[]) (cap:=[.pointer (some ⟨b1,0,none⟩)]) rfl rfl rfl F106.fn rfl (FT.part [cl b1 [.func (.func f) #[] caps.toArray] 108,Z] [] ((Ent.refl _)) fun g gS dj=>sea_attempt1 Z f hf caps (fun g' le=>hc g' (Hp.le_trans (Hp.le_un_left _ _) le)) b1) ?_;rintro _ _ ⟨_,⟨e,Z',rfl,rfl,hR⟩,rfl⟩
  refine L.move rfl<|L.extract rfl rfl<|L.extract rfl rfl<|L.assign rfl<|L.assign rfl<|WL.nil<|WP.seq<|WP.regs<|L.move rfl<|L.not rfl<|WL.nil<|WP.condF rfl<|WP.skip<|X.thenN<|WP.regs<|L.move rfl<|L.assign rfl<|WL.nil<|WP.ret<|X.ret rfl (Res.one rfl rfl) ?_;exact⟨_,rfl,_,⟨e,Z',rfl,rfl,hR⟩,(Ent.pk [0] rfl)⟩
end
open Go.RowKit Go.Proofs
def doorZ (bx:List HP) (b:Nat) (A:SeaA) (S:SeaD):HP:=starsP (bx++seaS b A S)
section
variable {k:World} {h0:Hp}
set_option maxRecDepth 10000 in
theorem sea_Row1 (b:Nat) (A:SeaA) (S:SeaD) (hb:At h0 b (seaC A S) 59) (cS:Nat) (hc:At h0 cS [.pointer (some ⟨b,0,none⟩)] 38) (x:Int) (hx:U8 x):FT Pg 49 [.int .u8 x,.pointer (some ⟨cS,0,none⟩)] k h0 [] (Is (.bool (decide (S.states≤x)))):=by
  unfold U8 at hx
  refine FT.of_wp (n:=11) Tryz.func49 rfl rfl rfl<|WP.regs<|L.assign rfl<|WL.nil<|WP.regs<|L.move rfl<|L.convInt T5.u T3.u rfl<|L.load T38.sc rfl (Rd.of hc rfl)<|L.nilCheck rfl<|L.fieldAddr T59.f2 rfl rfl<|L.load T3.sc rfl (Rd.of hb rfl) ?_
  rw[wrap_i64 (by omega)]
  refine L.geq rfl rfl<|L.assign rfl<|WL.nil<|WP.ret<|X.ret rfl (Res.one rfl rfl) ?_;exact rfl
set_option maxRecDepth 10000 in
theorem sea_Row2 (b:Nat) (A:SeaA) (S:SeaD) (v:Value) (x:List Int) (hv:BytesAt h0 v x) (hl:0<x.length) (hm:S.nodes.length<S.most) (hb:S.most≤1048576) (hn:NW (S.row (textOf x)).1.nodes) (hid:(S.row (textOf x)).2<(S.row (textOf x)).1.nodes.length) (hk:(S.row (textOf x)).1.kept.length≤1048576) (htl:(S.row (textOf x)).1.told.length≤1048576) (cS cX cN:Nat):FT Pg 51 [.pointer (some ⟨cS,0,none⟩),.pointer (some ⟨cX,0,none⟩),.pointer (some ⟨cN,0,none⟩)] k h0 [doorZ [cl cN [.int .i64 0] 3,cl cS [.pointer (some ⟨b,0,none⟩)] 38,cl cX [v] 60] b A S] (Ret fun y τ=>∃ e Z',y=.int .i64 e∧τ=[Z']∧∃ nv ov,e=((S.row (textOf x)).1.tell (S.row (textOf x)).2).2.2∧Z'=doorZ [cl cN [.int .i64 (((S.row (textOf x)).1.tell (S.row (textOf x)).2).2.1:Int)] 3,cl cS [.pointer (some ⟨b,0,none⟩)] 38,cl cX [v] 60] b {A with nv:=nv,ov:=ov} ((S.row (textOf x)).1.tell (S.row (textOf x)).2).1):=by
  obtain⟨va,vcap,rfl,hvcap,hvn,hvs⟩:=hv
  obtain⟨vb,vo,rfl,hvc⟩:=hvs hl
  unfold doorZ
  refine FT.ent Ent.stars<|FT.tight<|FT.of_wp (n:=14) Tryz.func51 rfl rfl rfl<|WP.regs<|L.assign rfl<|WL.nil<|WP.seq<|WP.regeq _ (Ent.pk [1,1] rfl) [(0,true),(1,true),(2,true),(3,true),(4,false),(5,false),(6,true),(7,true),(8,true),(9,false),(10,true)] 11 rfl (by kernel_rfl) (PInv.then PInv.ret) rfl<|WE.take rfl (V.load T38.sc rfl (Rd.own 0 rfl rfl))<|WE.take rfl (V.load T38.sc rfl (Rd.own 0 rfl rfl))<|WE.take rfl (V.load T60.sc rfl (Rd.own 1 rfl rfl))<|WE.take rfl (V.bytesToStr T60.sl T5.u T9.u rfl (ns:=x) rfl (fun _ _ _ e=>by cases e;exact⟨rfl,(Rds.of_cells (i:=0) hvc _ (by simp) (fun j hj=>by simp[List.getD_eq_getElem?_getD,List.getElem?_eq_getElem (show j<x.length by simpa using hj)]))⟩) (fun e=>by cases e)) ?_
  refine WE.one rfl<|WL.call rfl rfl F53.fn rfl (FT.part (seaS b A S) _ ((Ent.pk [3,3,3,3,3,3,3,3,3,3,0,0,0] rfl)) fun g gS dj=>sea_row b A S (textOf x) hm hb) ?_;rintro _ _ ⟨_,⟨nv,rfl,rfl⟩,rfl⟩;refine WL.nil ⟨(Ent.left [_,_,_,_,_,_,_,_,_,_,_] _),?_⟩;refine WE.one rfl<|WL.call rfl rfl F52.fn rfl (FT.part (seaS b {A with nv:=nv} (S.row (textOf x)).1) _ ((Ent.refl _)) fun g gS dj=>sea_tell b {A with nv:=nv} (S.row (textOf x)).1 (S.row (textOf x)).2 hn hid hk htl) ?_;rintro _ _ ⟨_,⟨ov,rfl,rfl⟩,rfl⟩;refine WL.nil ⟨(Ent.left [_,_,_,_,_,_,_,_,_,_,_] _),?_⟩
  refine WE.take rfl (V.move rfl)<|WE.take rfl (V.extract rfl rfl)<|WE.take rfl (V.extract rfl rfl)<|WE.one rfl<|L.store T3.sc rfl rfl rfl (Wr.at 10 rfl rfl)<|WL.nil ⟨(Ent.left [_,_,_,_,_,_,_,_,_,_,_] _),?_⟩;refine WE.take rfl (V.assign rfl)<|WE.nil<|X.thenN<|WP.regs<|L.move rfl<|L.assign rfl<|WL.nil<|WP.ret<|X.ret rfl (Res.one rfl rfl)<|⟨_,rfl,_,⟨_,_,rfl,rfl,nv,ov,rfl,rfl⟩,((Ent.pk [10,10,10,0,0,0,0,0,0,0,0,0,0] rfl)).trans Ent.shut⟩
end
open Go.RowKit Go.Proofs
section
variable {k:World} {h0:Hp}
set_option maxRecDepth 10000 in
theorem sea_Row (b:Nat) (A:SeaA) (S:SeaD) (v:Value) (x:List Int) (hv:BytesAt h0 v x) (hx:(x.length:Int)=S.t.w∧∀ i,i<x.length→0≤x.getD i 0∧x.getD i 0<S.states) (hs8:S.states≤256) (hl:0<x.length) (hl2:x.length≤65536) (hm:S.nodes.length<S.most) (hb:S.most≤1048576) (hn:NW (S.row (textOf x)).1.nodes) (hid:(S.row (textOf x)).2<(S.row (textOf x)).1.nodes.length) (hk:(S.row (textOf x)).1.kept.length≤1048576) (htl:(S.row (textOf x)).1.told.length≤1048576):FT Pg 16 [.pointer (some ⟨b,0,none⟩),v] k h0 (seaS b A S) (Ret fun u τ=>∃ nv ov,u=.tuple #[encI ((S.row (textOf x)).1.tell (S.row (textOf x)).2).2.1,.int .i64 ((S.row (textOf x)).1.tell (S.row (textOf x)).2).2.2]∧τ=seaS b {A with nv:=nv,ov:=ov} ((S.row (textOf x)).1.tell (S.row (textOf x)).2).1):=by
  have hv0:=hv
  obtain⟨va,vcap,rfl,hvcap,hvn,hvs⟩:=hv
  refine FT.tight<|FT.of_wp (n:=30) Tryz.func16 rfl rfl rfl<|WP.regs<|L.box rfl rfl fun cS=>L.box rfl rfl fun cX=>L.assign rfl<|L.assign rfl<|WL.nil<|WP.seq<|WP.block<|WP.regs<|L.load T38.sc rfl (Rd.own 1 rfl rfl)<|WL.callV rfl rfl F44.fn rfl (fun g gS dj=>sea_there b A S (Stars.cl' (b:=b) 2 rfl gS dj) (by omega))<|L.not rfl<|L.assign rfl<|WL.nil<|WP.condF rfl<|WP.seq<|WP.rege [(0,true),(1,true),(2,true),(3,true),(4,true),(5,true),(6,true),(7,true),(8,true)] 9 rfl (by kernel_rfl) (PInv.then (PInv.block (PInv.then PInv.ret))) rfl<|WE.take rfl (V.load T60.sc rfl (Rd.own 0 rfl rfl)) ?_;refine WE.take rfl (V.lenS T60.sl rfl rfl)<|WE.take rfl (V.load T38.sc rfl (Rd.own 1 rfl rfl))<|WE.take rfl (V.nilCheck rfl)<|WE.take rfl (V.fieldAddr (o':=11) T59.f1 rfl rfl)<|WE.take rfl (V.fieldAddr (o':=12) T34.f1 rfl rfl)<|WE.take rfl (V.load T3.sc rfl (Rd.own 2 rfl rfl))<|WE.take rfl (V.neq rfl rfl)<|WE.take rfl (V.assign rfl)<|WE.nil<|X.thenN<|WP.condD rfl (fun hT=>absurd hT (by omega)) (fun h12=>?_)
  refine WP.regs<|L.load T60.sc rfl (Rd.own 0 rfl rfl)<|L.mkFunc (vs:=[_]) rfl<|WL.callV rfl rfl F48.fn rfl (fun g gS dj=>slices_ContainsFunc x (by omega) _ (hv0.mono (Hp.le_un_left _ _)) _ F49.fn [.pointer (some ⟨cS,0,none⟩)] (fun s=>decide (S.states≤s)) (fun i hi k g' le=>sea_Row1 b A S ((Stars.cl' (b:=b) 2 rfl gS dj).mono le) cS ((Stars.cl' (b:=cS) 1 rfl gS dj).mono le) _ ⟨(hx.2 i hi).1,by have:=hx.2 i hi;omega⟩)) ?_;refine L.assign rfl<|WL.nil<|WP.cond rfl (fun hT=>absurd hT (by rw[decide_eq_false (fun ⟨i,hi,h⟩=>by have:=hx.2 i hi;have:=of_decide_eq_true h;omega)];decide)) (fun h21=>?_)
  refine WP.skip<|X.blockN<|X.thenN<|WP.regs<|L.alloc T3.z fun cN=>L.store T3.sc rfl rfl rfl (Wr.at 0 rfl rfl)<|WL.nil<|WP.regs<|L.load T38.sc rfl (Rd.own 2 rfl rfl)<|L.mkFunc (vs:=[_,_,_]) rfl<|WL.call rfl rfl F50.fn rfl (FT.part [doorZ [cl cN [.int .i64 0] 3,cl cS [.pointer (some ⟨b,0,none⟩)] 38,cl cX [.slice va x.length vcap] 60] b A S] [] (((Ent.pk [0,1,0,0,0,0,0,0,0,0,0,0,0] rfl)).trans Ent.shut) fun g gS dj=>sea_attempt (R:=fun e Z'=>∃ nv ov,e=((S.row (textOf x)).1.tell (S.row (textOf x)).2).2.2∧Z'=doorZ [cl cN [.int .i64 (((S.row (textOf x)).1.tell (S.row (textOf x)).2).2.1:Int)] 3,cl cS [.pointer (some ⟨b,0,none⟩)] 38,cl cX [.slice va x.length vcap] 60] b {(A:SeaA) with nv:=nv,ov:=ov} ((S.row (textOf x)).1.tell (S.row (textOf x)).2).1) _ 51 F51.fn [.pointer (some ⟨cS,0,none⟩),.pointer (some ⟨cX,0,none⟩),.pointer (some ⟨cN,0,none⟩)] (fun g' le=>sea_Row2 b A S _ x (hv0.mono (Hp.le_trans (Hp.le_un_left _ _) le)) hl hm hb hn hid hk htl cS cX cN) _) ?_;rintro _ _ ⟨_,⟨e,Z',rfl,rfl,nv,ov,rfl,rfl⟩,rfl⟩
  refine WL.ent Ent.stars<|L.assign rfl<|WL.nil<|WP.regs<|L.load T3.sc rfl (Rd.own 0 rfl rfl)<|L.move rfl<|L.assign rfl<|L.assign rfl<|WL.nil<|WP.ret<|X.ret rfl (Res.two rfl rfl rfl) ?_;exact⟨_,rfl,_,⟨nv,ov,rfl,rfl⟩,(Ent.left [_,_,_] _)⟩
end
open Go.RowKit Go.Proofs
theorem idsC_rd (l:List Nat) (u:Nat) (hu:u<l.length):(idsC l)[0+((u:Int)).toNat*1]?=some (.int .i64 ((l.getD u 0:Nat):Int)):=by
  rw[show 0+((u:Int)).toNat*1=u by omega]
  unfold idsC
  rw[List.getElem?_map,List.getElem?_eq_getElem hu,List.getD_eq_getElem?_getD,List.getElem?_eq_getElem hu]
  rfl
def rowsO (vs:List Value) (ls:List ByteArray):HP:=fun h=>vs.length=ls.length∧∀ i,i<ls.length→BytesAt h (vs.getD i undef) (intsB (ls.getD i ByteArray.empty))
section
variable {σ:List HP}
theorem Ent.rowsO {E n:Nat} {u:Value} {x:ByteArray} {vs:List Value} {ls:List ByteArray} (hn:(intsB x).length=n):Ent (vec E 1 u n (u8sC (intsB x))::Go.Eng.rowsO vs ls::σ) (Go.Eng.rowsO (vs++[u]) (ls++[x])::σ):=
  Ent.merge fun a b ha hb dj=>by
   obtain⟨hl,hall⟩:=hb
   refine⟨by simp[hl],fun i hi=>?_⟩
   rw[List.length_append,List.length_singleton] at hi
   rw[getD_snoc,getD_snoc]
   by_cases h1:i<ls.length
   · rw[if_pos (by omega),if_pos h1];exact (hall i h1).mono (Hp.le_un_right dj)
   · rw[if_neg (by omega),if_pos (by omega),if_neg h1,if_pos (by omega)]
     exact (vec_u8s hn (In.self ha)).mono (Hp.le_un_left a b)
theorem Ent.nilrows:Ent σ (Go.Eng.rowsO [] []::σ):=fun k h0 w s=>by
  obtain⟨h1,ss,dj,hh⟩:=s.own
  exact⟨s.os,s.tape,s.output,s.base,h1,⟨Hp.no,h1,⟨rfl,fun i hi=>absurd hi (by simp)⟩,ss,Hp.no_Dj _,(Hp.no_un _).symm⟩,dj,hh⟩
end
def BtsAt (h:Hp) (v:Value) (ls:List ByteArray):Prop:=∃ vs:List Value,SlAt h 1 v ls.length (fun i=>vs.getD i undef)∧∀ i,i<ls.length→BytesAt h (vs.getD i undef) (intsB (ls.getD i ByteArray.empty))
theorem BtsAt.mono {h g:Hp} {v:Value} {ls:List ByteArray} (s:BtsAt h v ls) (le:h.le g):BtsAt g v ls:=by
  obtain⟨vs,a,b⟩:=s;exact⟨vs,a.mono le,fun i hi=>(b i hi).mono le⟩
def rowsP (v:Value) (ls:List ByteArray):HP:=fun h=>BtsAt h v ls
theorem Ent.rowsP {σ:List HP} {E n:Nat} {u:Value} {vs:List Value} {ls:List ByteArray} (hn:vs.length=n):Ent (vec E 1 u n vs::Go.Eng.rowsO vs ls::σ) (Go.Eng.rowsP u ls::σ):=
  Ent.merge fun a b ha hb dj=>by
   obtain⟨hl,hall⟩:=hb
   subst hn
   refine⟨vs,?_,fun i hi=>(hall i hi).mono (Hp.le_un_right dj)⟩
   have:=(In.slAt (In.self ha) undef).mono (Hp.le_un_left a b)
   rw[hl] at this
   exact this
theorem Rd.exCl {h0:Hp} {σ:List HP} {X:Type} {b T off:Nat} {cs:X→List Value} {v:Value} (i:Nat) (hi:σ[i]?=some (exP fun x=>cl b (cs x) T)) (h:∀ x,(cs x)[off]?=some v):Rd h0 σ ⟨b,off,none⟩ v:=fun k w s=>by
  obtain⟨g,⟨a,c,⟨x,hx⟩,hc,dj,e⟩,dj0,hh⟩:=(s.pull i hi).own
  have s':St k h0 (cl b (cs x) T::σ.eraseIdx i) w:=⟨s.os,s.tape,s.output,s.base,g,⟨a,c,hx,hc,dj,e⟩,dj0,hh⟩
  exact Rd.own (T:=T) (cs:=cs x) 0 rfl (h x) k w s'
open Go.RowKit Go.Proofs
def seaQ (b:Nat) (A:SeaA) (S:SeaD):HP:=exP fun nv:Value=>cl b (seaC {A with nv:=nv} S) 59
theorem seaC_ext {S T:SeaD} (A:SeaA) (e:Ext S T):seaC A T=seaC A S:=by unfold seaC;rw[e.r,e.t,e.states,e.most]
theorem Ent.seaQ {σ:List HP} {b:Nat} {A A':SeaA} {S T:SeaD} (i:Nat) (hi:σ[i]?=some (cl b (seaC A' T) 59)) (hA:∃ nv,A'={A with nv:=nv}) (e:seaC A' T=seaC A' S):Ent σ (σ.set i (Go.Eng.seaQ b A S)):=by
  obtain⟨nv,rfl⟩:=hA
  rw[e] at hi
  exact Ent.at i hi (Ent.ex (p:=fun nv:Value=>cl b (seaC {A with nv:=nv} S) 59) nv)
theorem Ent.toldQ {σ:List HP} {v:Value} {S T:SeaD} (i:Nat) (hi:σ[i]?=some (vec 3 1 v T.told.length (idsC T.told))) (e:T.told=S.told):Ent σ (σ.set i (vec 3 1 v S.told.length (idsC S.told))):=by
  rw[e] at hi
  exact Ent.at i hi (Ent.refl _)
theorem Rd.seaQ {h0:Hp} {σ:List HP} {b off:Nat} {A:SeaA} {S:SeaD} {v:Value} (i:Nat) (hi:σ[i]?=some (Go.Eng.seaQ b A S)) (h:∀ nv,(seaC {A with nv:=nv} S)[off]?=some v):Rd h0 σ ⟨b,off,none⟩ v:=Rd.exCl (T:=59) i hi h
theorem sea_knownT {k:World} {h0:Hp} (b:Nat) (A:SeaA) (S:SeaD) (hb:At h0 b (seaC A S) 59) (hv:∃ a cap,A.ov=.slice a S.told.length cap) (u:Nat) (hu:u<S.told.length):FT Pg 54 [.pointer (some ⟨b,0,none⟩),.int .i64 (u:Int)] k h0 [] (Is (.bool true)):=by
  have:=sea_known (k:=k) b A S hb hv (u:Int)
  rwa [decide_eq_true (by omega)] at this
section
variable {k:World} {h0:Hp}
set_option maxRecDepth 10000 in
set_option maxHeartbeats 4000000 in
theorem sea_Pair1 (b:Nat) (A:SeaA) (S:SeaD) (u w:Nat) (hu:u<S.told.length) (hw:w<S.told.length) (hiu:(S.told.getD u 0)<S.nodes.length) (hiw:(S.told.getD w 0)<S.nodes.length) (hlv:(S.nodes.getD (S.told.getD u 0) .no).level=(S.nodes.getD (S.told.getD w 0) .no).level) (hl44:(S.nodes.getD (S.told.getD u 0) .no).level<44) (hm:S.nodes.length<S.most) (hb:S.most≤1048576) (hn:NW (S.pair (S.told.getD u 0) (S.told.getD w 0)).1.nodes) (hpe:Ext S (S.pair (S.told.getD u 0) (S.told.getD w 0)).1) (hid:(S.pair (S.told.getD u 0) (S.told.getD w 0)).2<(S.pair (S.told.getD u 0) (S.told.getD w 0)).1.nodes.length) (hk:(S.pair (S.told.getD u 0) (S.told.getD w 0)).1.kept.length≤1048576) (htl:(S.pair (S.told.getD u 0) (S.told.getD w 0)).1.told.length≤1048576) (cS cX cY cN:Nat):FT Pg 55 [.pointer (some ⟨cS,0,none⟩),.pointer (some ⟨cX,0,none⟩),.pointer (some ⟨cY,0,none⟩),.pointer (some ⟨cN,0,none⟩)] k h0 [doorZ [cl cN [.int .i64 0] 3,cl cS [.pointer (some ⟨b,0,none⟩)] 38,cl cX [.int .i64 (u:Int)] 3,cl cY [.int .i64 (w:Int)] 3] b A S] (Ret fun y τ=>∃ e Z',y=.int .i64 e∧τ=[Z']∧∃ nv ov,e=((S.pair (S.told.getD u 0) (S.told.getD w 0)).1.tell (S.pair (S.told.getD u 0) (S.told.getD w 0)).2).2.2∧Z'=doorZ [cl cN [.int .i64 (((S.pair (S.told.getD u 0) (S.told.getD w 0)).1.tell (S.pair (S.told.getD u 0) (S.told.getD w 0)).2).2.1:Int)] 3,cl cS [.pointer (some ⟨b,0,none⟩)] 38,cl cX [.int .i64 (u:Int)] 3,cl cY [.int .i64 (w:Int)] 3] b {A with nv:=nv,ov:=ov} ((S.pair (S.told.getD u 0) (S.told.getD w 0)).1.tell (S.pair (S.told.getD u 0) (S.told.getD w 0)).2).1):=by
  unfold doorZ
  refine FT.ent Ent.stars<|FT.fact (fun _ _ _ s=>s.vec_shape (E:=111) (sz:=4) 5 rfl) ?_
  rintro ⟨_,na,ncap,hnv,hncap,hna⟩
  obtain⟨c0,hc0⟩:=hna (by omega)
  subst hc0
  obtain⟨tv,tw,nv,bp,br,bl,bn,ov,bm,bk⟩:=A
  dsimp only at hnv
  subst hnv
  refine FT.fact (fun _ _ _ s=>s.vec_shape (E:=3) (sz:=1) 10 rfl) ?_
  rintro ⟨_,oa,ocap,hov,hocap,hoa⟩
  dsimp only at hov
  subst hov
  obtain⟨co,hco⟩:=hoa (by omega)
  subst hco
  try unfold encI
  refine FT.tight<|FT.of_wp (n:=27) Tryz.func55 rfl rfl rfl<|WP.regs<|L.assign rfl<|WL.nil<|WP.seq<|WP.regfq ([cl cS [.pointer (some ⟨b,0,none⟩)] 38,cl cX [.int .i64 (u:Int)] 3,cl cY [.int .i64 (w:Int)] 3,seaQ b ⟨tv,tw,.slice (some ⟨c0,0,none⟩) S.nodes.length ncap,bp,br,bl,bn,.slice (some ⟨co,0,none⟩) S.told.length ocap,bm,bk⟩ S,vec 3 1 (⟨tv,tw,.slice (some ⟨c0,0,none⟩) S.nodes.length ncap,bp,br,bl,bn,.slice (some ⟨co,0,none⟩) S.told.length ocap,bm,bk⟩:SeaA).ov S.told.length (idsC S.told)]) (((Ent.pk [1,1,1,1,6] rfl)).trans ((Ent.seaQ (A:=⟨tv,tw,.slice (some ⟨c0,0,none⟩) S.nodes.length ncap,bp,br,bl,bn,.slice (some ⟨co,0,none⟩) S.told.length ocap,bm,bk⟩) 3 rfl ⟨_,rfl⟩ rfl))) [(0,true),(1,true),(2,true),(3,true),(4,true),(5,true),(6,true),(7,true),(8,true),(9,true),(10,true),(11,true),(12,true),(13,true),(14,true),(15,true)] 17 7 #[true,true,true,true,true,true,true,true,true,true,true,true,true,true,true,true,false,false,false,false,false,false,false] rfl (by kernel_rfl) (PInv.then PInv.ret) rfl<|WE.take rfl (V.load T38.sc rfl (Rd.own 0 rfl rfl)) ?_;refine WE.take rfl (V.load T38.sc rfl (Rd.own 0 rfl rfl))<|WE.take rfl (V.load T38.sc rfl (Rd.own 0 rfl rfl))<|WE.take rfl (V.nilCheck rfl)<|WE.take rfl (V.fieldAddr (o':=23) T59.f9 rfl rfl)<|WE.take rfl (V.load T56.sc rfl (Rd.seaQ 3 rfl (fun _=>rfl)))<|WE.take rfl (V.load T3.sc rfl (Rd.own 1 rfl rfl))<|WE.take rfl (V.indexS T56.sl rfl rfl (by omega))<|WE.take rfl (V.load T3.sc rfl (Rd.vec 4 rfl (idsC_rd S.told u hu)))<|WE.take rfl (V.load T38.sc rfl (Rd.own 0 rfl rfl))<|WE.take rfl (V.nilCheck rfl)<|WE.take rfl (V.fieldAddr (o':=23) T59.f9 rfl rfl) ?_;refine WE.take rfl (V.load T56.sc rfl (Rd.seaQ 3 rfl (fun _=>rfl)))<|WE.take rfl (V.load T3.sc rfl (Rd.own 2 rfl rfl))<|WE.take rfl (V.indexS T56.sl rfl rfl (by omega))<|WE.take rfl (V.load T3.sc rfl (Rd.vec 4 rfl (idsC_rd S.told w hw)))<|WE.free #[true,true,true,true,true,true,true,true,true,true,true,true,true,true,true,true,false,false,false,false,false,false,false]<|WT.one 16 (by kernel_rfl) rfl<|WL.call rfl rfl F56.fn rfl (FT.part (seaS b ⟨tv,tw,.slice (some ⟨c0,0,none⟩) S.nodes.length ncap,bp,br,bl,bn,.slice (some ⟨co,0,none⟩) S.told.length ocap,bm,bk⟩ S) _ ((Ent.pk [4,4,4,4,4,4,4,4,4,4,0,0,0,0] rfl)) fun g gS dj=>sea_pair b ⟨tv,tw,.slice (some ⟨c0,0,none⟩) S.nodes.length ncap,bp,br,bl,bn,.slice (some ⟨co,0,none⟩) S.told.length ocap,bm,bk⟩ S (S.told.getD u 0) (S.told.getD w 0) hiu hm hb (by omega)) ?_;rintro _ _ ⟨_,⟨nv,rfl,rfl⟩,rfl⟩
  refine WL.nil ⟨fun _=>(((Ent.pk [11,11,11,0,5] rfl)).trans ((Ent.seaQ (A:=⟨tv,tw,.slice (some ⟨c0,0,none⟩) S.nodes.length ncap,bp,br,bl,bn,.slice (some ⟨co,0,none⟩) S.told.length ocap,bm,bk⟩) 3 rfl ⟨_,rfl⟩ (seaC_ext _ hpe)).trans (Ent.toldQ 4 rfl hpe.told))),?_⟩
  refine WT.one 17 (by kernel_rfl) rfl<|WL.call rfl rfl F52.fn rfl (FT.part (seaS b {(⟨tv,tw,.slice (some ⟨c0,0,none⟩) S.nodes.length ncap,bp,br,bl,bn,.slice (some ⟨co,0,none⟩) S.told.length ocap,bm,bk⟩:SeaA) with nv:=nv} (S.pair (S.told.getD u 0) (S.told.getD w 0)).1) _ ((Ent.refl _)) fun g gS dj=>sea_tell b {(⟨tv,tw,.slice (some ⟨c0,0,none⟩) S.nodes.length ncap,bp,br,bl,bn,.slice (some ⟨co,0,none⟩) S.told.length ocap,bm,bk⟩:SeaA) with nv:=nv} (S.pair (S.told.getD u 0) (S.told.getD w 0)).1 (S.pair (S.told.getD u 0) (S.told.getD w 0)).2 hn hid hk htl) ?_;rintro _ _ ⟨_,⟨ov,rfl,rfl⟩,rfl⟩;refine WL.nil ⟨fun h=>absurd h (by decide),?_⟩
  refine WT.again [] 23 (by kernel_rfl)<|WT.read (m:=2) (fin:=fun l=>l == #[true,true,true,true,true,true,true,true,true,true,true,true,true,true,true,true,true,true,true,true,true,false,false]) [(18,true),(19,true),(20,true)] (by kernel_rfl) (PInv.then PInv.ret) ((Ent.pk [] rfl))<|WE.take rfl (V.move rfl)<|WE.take rfl (V.extract rfl rfl)<|WE.take rfl (V.extract rfl rfl)<|WE.free #[true,true,true,true,true,true,true,true,true,true,true,true,true,true,true,true,true,true,true,true,true,false,false]<|WN.one 21 (by kernel_rfl) rfl ?_;refine L.store T3.sc rfl rfl rfl (Wr.at 10 rfl rfl)<|WL.nil ⟨(Ent.pk [] rfl),?_⟩
  refine WT.read (m:=0) (fin:=fun l=>l == #[true,true,true,true,true,true,true,true,true,true,true,true,true,true,true,true,true,true,true,true,true,true,true]) [(22,true)] (by kernel_rfl) (PInv.then PInv.ret) ((Ent.pk [] rfl))<|WE.take rfl (V.assign rfl)<|WE.free #[true,true,true,true,true,true,true,true,true,true,true,true,true,true,true,true,true,true,true,true,true,true,true]<|WT.nil (by kernel_rfl)<|X.thenN<|WP.regs<|L.move rfl<|L.assign rfl<|WL.nil<|WP.ret ?_;refine X.ret rfl (Res.one rfl rfl)<|⟨_,rfl,_,⟨_,_,rfl,rfl,nv,ov,rfl,rfl⟩,((Ent.pk [10,10,10,10,0,0,0,0,0,0,0,0,0,0] rfl)).trans Ent.shut⟩
set_option maxRecDepth 10000 in
theorem sea_Pair (b:Nat) (A:SeaA) (S:SeaD) (u w:Nat) (hu:u<S.told.length) (hw:w<S.told.length) (hiu:(S.told.getD u 0)<S.nodes.length) (hiw:(S.told.getD w 0)<S.nodes.length) (hlv:(S.nodes.getD (S.told.getD u 0) .no).level=(S.nodes.getD (S.told.getD w 0) .no).level) (hl44:(S.nodes.getD (S.told.getD u 0) .no).level<44) (hm:S.nodes.length<S.most) (hb:S.most≤1048576) (hn:NW (S.pair (S.told.getD u 0) (S.told.getD w 0)).1.nodes) (hpe:Ext S (S.pair (S.told.getD u 0) (S.told.getD w 0)).1) (hid:(S.pair (S.told.getD u 0) (S.told.getD w 0)).2<(S.pair (S.told.getD u 0) (S.told.getD w 0)).1.nodes.length) (hk:(S.pair (S.told.getD u 0) (S.told.getD w 0)).1.kept.length≤1048576) (htl:(S.pair (S.told.getD u 0) (S.told.getD w 0)).1.told.length≤1048576):FT Pg 17 [.pointer (some ⟨b,0,none⟩),encI u,encI w] k h0 (seaS b A S) (Ret fun x τ=>∃ nv ov,x=.tuple #[encI ((S.pair (S.told.getD u 0) (S.told.getD w 0)).1.tell (S.pair (S.told.getD u 0) (S.told.getD w 0)).2).2.1,.int .i64 ((S.pair (S.told.getD u 0) (S.told.getD w 0)).1.tell (S.pair (S.told.getD u 0) (S.told.getD w 0)).2).2.2]∧τ=seaS b {A with nv:=nv,ov:=ov} ((S.pair (S.told.getD u 0) (S.told.getD w 0)).1.tell (S.pair (S.told.getD u 0) (S.told.getD w 0)).2).1):=by
  refine FT.fact (fun _ _ _ s=>s.vec_shape (E:=111) (sz:=4) 1 rfl) ?_
  rintro ⟨_,na,ncap,hnv,hncap,hna⟩
  obtain⟨c0,hc0⟩:=hna (by omega)
  subst hc0
  obtain⟨tv,tw,nv,bp,br,bl,bn,ov,bm,bk⟩:=A
  dsimp only at hnv
  subst hnv
  refine FT.fact (fun _ _ _ s=>s.vec_shape (E:=3) (sz:=1) 6 rfl) ?_
  rintro ⟨_,oa,ocap,hov,hocap,hoa⟩
  dsimp only at hov
  subst hov
  obtain⟨co,hco⟩:=hoa (by omega)
  subst hco
  try unfold encI
  refine FT.tight<|FT.of_wp (n:=61) Tryz.func17 rfl rfl rfl<|WP.regs<|L.box rfl rfl fun cS=>L.box rfl rfl fun cX=>L.box rfl rfl fun cY=>L.assign rfl<|L.assign rfl<|WL.nil<|WP.seq<|WP.regs<|L.load T38.sc rfl (Rd.own 2 rfl rfl)<|WL.callV rfl rfl F44.fn rfl (fun g gS dj=>sea_there b ⟨tv,tw,.slice (some ⟨c0,0,none⟩) S.nodes.length ncap,bp,br,bl,bn,.slice (some ⟨co,0,none⟩) S.told.length ocap,bm,bk⟩ S (Stars.cl' (b:=b) 3 rfl gS dj) (by omega))<|L.not rfl<|WL.nil<|WP.condF rfl<|WP.skip<|X.thenN<|WP.seq ?_;refine WP.regs<|L.load T38.sc rfl (Rd.own 2 rfl rfl)<|L.load T3.sc rfl (Rd.own 1 rfl rfl)<|WL.callV rfl rfl F54.fn rfl (fun g gS dj=>sea_knownT b ⟨tv,tw,.slice (some ⟨c0,0,none⟩) S.nodes.length ncap,bp,br,bl,bn,.slice (some ⟨co,0,none⟩) S.told.length ocap,bm,bk⟩ S (Stars.cl' (b:=b) 3 rfl gS dj) ⟨_,_,rfl⟩ u hu)<|L.not rfl<|L.move rfl<|L.load T38.sc rfl (Rd.own 2 rfl rfl)<|L.load T3.sc rfl (Rd.own 0 rfl rfl)<|WL.callV rfl rfl F54.fn rfl (fun g gS dj=>sea_knownT b ⟨tv,tw,.slice (some ⟨c0,0,none⟩) S.nodes.length ncap,bp,br,bl,bn,.slice (some ⟨co,0,none⟩) S.told.length ocap,bm,bk⟩ S (Stars.cl' (b:=b) 3 rfl gS dj) ⟨_,_,rfl⟩ w hw)<|L.not rfl ?_;refine L.pickF rfl rfl<|WL.nil<|WP.condF rfl<|WP.skip<|X.thenN<|WP.seq<|WP.rege [(0,true),(1,true),(2,true),(3,true),(4,true),(5,true),(6,true),(7,true),(8,true),(9,true),(10,true),(11,true),(12,true),(13,true),(14,true)] 15 rfl (by kernel_rfl) (PInv.then PInv.ret) rfl<|WE.take rfl (V.load T38.sc rfl (Rd.own 2 rfl rfl))<|WE.take rfl (V.nilCheck rfl)<|WE.take rfl (V.fieldAddr (o':=18) T59.f4 rfl rfl)<|WE.take rfl (V.load T51.sc rfl (Rd.own 3 rfl rfl))<|WE.take rfl (V.load T38.sc rfl (Rd.own 2 rfl rfl))<|WE.take rfl (V.nilCheck rfl) ?_;refine WE.take rfl (V.fieldAddr (o':=23) T59.f9 rfl rfl)<|WE.take rfl (V.load T56.sc rfl (Rd.own 3 rfl rfl))<|WE.take rfl (V.load T3.sc rfl (Rd.own 1 rfl rfl))<|WE.take rfl (V.indexS T56.sl rfl rfl (by omega))<|WE.take rfl (V.load T3.sc rfl (Rd.vec 9 rfl (idsC_rd S.told u hu)))<|WE.take rfl (V.indexS T51.sl rfl rfl (by omega))<|WE.take rfl (V.fieldAddr T111.f0 rfl rfl)<|WE.take rfl (V.load T3.sc rfl (Rd.vec 4 rfl (nodesC_rd S.nodes (S.told.getD u 0) hiu 0 rfl)))<|WE.take rfl (V.assign rfl)<|WE.nil<|X.thenN<|WP.seq ?_;refine WP.seq<|WP.rege [(0,true),(1,true),(2,true),(3,true),(4,true),(5,true),(6,true),(7,true),(8,true),(9,true),(10,true),(11,true),(12,true),(13,true),(14,true),(15,true)] 16 rfl (by kernel_rfl) (PInv.then (PInv.then PInv.ret)) rfl<|WE.take rfl (V.move rfl)<|WE.take rfl (V.load T38.sc rfl (Rd.own 2 rfl rfl))<|WE.take rfl (V.nilCheck rfl)<|WE.take rfl (V.fieldAddr (o':=18) T59.f4 rfl rfl)<|WE.take rfl (V.load T51.sc rfl (Rd.own 3 rfl rfl))<|WE.take rfl (V.load T38.sc rfl (Rd.own 2 rfl rfl))<|WE.take rfl (V.nilCheck rfl) ?_;refine WE.take rfl (V.fieldAddr (o':=23) T59.f9 rfl rfl)<|WE.take rfl (V.load T56.sc rfl (Rd.own 3 rfl rfl))<|WE.take rfl (V.load T3.sc rfl (Rd.own 0 rfl rfl))<|WE.take rfl (V.indexS T56.sl rfl rfl (by omega))<|WE.take rfl (V.load T3.sc rfl (Rd.vec 9 rfl (idsC_rd S.told w hw)))<|WE.take rfl (V.indexS T51.sl rfl rfl (by omega))<|WE.take rfl (V.fieldAddr T111.f0 rfl rfl)<|WE.take rfl (V.load T3.sc rfl (Rd.vec 4 rfl (nodesC_rd S.nodes (S.told.getD w 0) hiw 0 rfl)))<|WE.take rfl (V.neq rfl rfl)<|WE.nil<|X.thenN<|WP.condD rfl (fun hT=>absurd hT (by omega)) (fun h53=>?_)
  refine WP.skip<|X.thenN<|WP.seq<|WP.regs<|L.move rfl<|L.geq rfl rfl<|WL.nil<|WP.condD rfl (fun hT=>absurd hT (by omega)) (fun h55=>?_)
  refine WP.skip<|X.thenN<|WP.regs<|L.alloc T3.z fun cN=>L.store T3.sc rfl rfl rfl (Wr.at 0 rfl rfl)<|WL.nil<|WP.regs<|L.load T38.sc rfl (Rd.own 3 rfl rfl)<|L.mkFunc (vs:=[_,_,_,_]) rfl<|WL.call rfl rfl F50.fn rfl (FT.part [doorZ [cl cN [.int .i64 0] 3,cl cS [.pointer (some ⟨b,0,none⟩)] 38,cl cX [.int .i64 (u:Int)] 3,cl cY [.int .i64 (w:Int)] 3] b ⟨tv,tw,.slice (some ⟨c0,0,none⟩) S.nodes.length ncap,bp,br,bl,bn,.slice (some ⟨co,0,none⟩) S.told.length ocap,bm,bk⟩ S] [] (((Ent.pk [0,2,1,0,0,0,0,0,0,0,0,0,0,0] rfl)).trans Ent.shut) fun g gS dj=>sea_attempt (R:=fun e Z'=>∃ nv ov,e=((S.pair (S.told.getD u 0) (S.told.getD w 0)).1.tell (S.pair (S.told.getD u 0) (S.told.getD w 0)).2).2.2∧Z'=doorZ [cl cN [.int .i64 (((S.pair (S.told.getD u 0) (S.told.getD w 0)).1.tell (S.pair (S.told.getD u 0) (S.told.getD w 0)).2).2.1:Int)] 3,cl cS [.pointer (some ⟨b,0,none⟩)] 38,cl cX [.int .i64 (u:Int)] 3,cl cY [.int .i64 (w:Int)] 3] b {(⟨tv,tw,.slice (some ⟨c0,0,none⟩) S.nodes.length ncap,bp,br,bl,bn,.slice (some ⟨co,0,none⟩) S.told.length ocap,bm,bk⟩:SeaA) with nv:=nv,ov:=ov} ((S.pair (S.told.getD u 0) (S.told.getD w 0)).1.tell (S.pair (S.told.getD u 0) (S.told.getD w 0)).2).1) _ 55 F55.fn [.pointer (some ⟨cS,0,none⟩),.pointer (some ⟨cX,0,none⟩),.pointer (some ⟨cY,0,none⟩),.pointer (some ⟨cN,0,none⟩)] (fun g' le=>sea_Pair1 b ⟨tv,tw,.slice (some ⟨c0,0,none⟩) S.nodes.length ncap,bp,br,bl,bn,.slice (some ⟨co,0,none⟩) S.told.length ocap,bm,bk⟩ S u w hu hw hiu hiw hlv hl44 hm hb hn hpe hid hk htl cS cX cY cN) _) ?_;rintro _ _ ⟨_,⟨e,Z',rfl,rfl,nv,ov,rfl,rfl⟩,rfl⟩
  refine WL.ent Ent.stars<|L.assign rfl<|WL.nil<|WP.regs<|L.load T3.sc rfl (Rd.own 0 rfl rfl)<|L.move rfl<|L.assign rfl<|L.assign rfl<|WL.nil<|WP.ret<|X.ret rfl (Res.two rfl rfl rfl) ?_;exact⟨_,rfl,_,⟨nv,ov,rfl,rfl⟩,(Ent.left [_,_,_,_] _)⟩
set_option maxRecDepth 10000 in
theorem sea_Level (b:Nat) (A:SeaA) (S:SeaD) (u:Nat) (hm:0<S.most) (hu:u<S.told.length) (hiu:(S.told.getD u 0)<S.nodes.length):FT Pg 18 [.pointer (some ⟨b,0,none⟩),encI u] k h0 (seaS b A S) (Ret fun x τ=>x=.tuple #[encI (S.nodes.getD (S.told.getD u 0) .no).level,.int .i64 0]∧τ=seaS b A S):=by
  refine FT.fact (fun _ _ _ s=>s.vec_shape (E:=111) (sz:=4) 1 rfl) ?_
  rintro ⟨_,na,ncap,hnv,hncap,hna⟩
  obtain⟨c0,hc0⟩:=hna (by omega)
  subst hc0
  obtain⟨tv,tw,nv,bp,br,bl,bn,ov,bm,bk⟩:=A
  dsimp only at hnv
  subst hnv
  refine FT.fact (fun _ _ _ s=>s.vec_shape (E:=3) (sz:=1) 6 rfl) ?_
  rintro ⟨_,oa,ocap,hov,hocap,hoa⟩
  dsimp only at hov
  subst hov
  obtain⟨co,hco⟩:=hoa (by omega)
  subst hco
  try unfold encI
  refine FT.tight<|FT.of_wp (n:=27) Tryz.func18 rfl rfl rfl<|WP.regs<|L.assign rfl<|L.assign rfl<|WL.nil<|WP.seq<|WP.regs<|L.move rfl<|WL.callV rfl rfl F44.fn rfl (fun g gS dj=>sea_there b ⟨tv,tw,.slice (some ⟨c0,0,none⟩) S.nodes.length ncap,bp,br,bl,bn,.slice (some ⟨co,0,none⟩) S.told.length ocap,bm,bk⟩ S (Stars.cl' (b:=b) 0 rfl gS dj) (by omega))<|L.not rfl<|WL.nil<|WP.condF rfl<|WP.skip<|X.thenN<|WP.seq<|WP.regs<|L.move rfl<|L.move rfl<|WL.callV rfl rfl F54.fn rfl (fun g gS dj=>sea_knownT b ⟨tv,tw,.slice (some ⟨c0,0,none⟩) S.nodes.length ncap,bp,br,bl,bn,.slice (some ⟨co,0,none⟩) S.told.length ocap,bm,bk⟩ S (Stars.cl' (b:=b) 0 rfl gS dj) ⟨_,_,rfl⟩ u hu)<|L.not rfl ?_;refine WL.nil<|WP.condF rfl<|WP.skip<|X.thenN<|WP.seq<|WP.rege [(0,true),(1,true),(2,true),(3,true),(4,true),(5,true),(6,true),(7,true),(8,true),(9,true),(10,true),(11,true),(12,true),(13,true),(14,true),(15,true)] 16 rfl (by kernel_rfl) (PInv.then PInv.ret) rfl<|WE.take rfl (V.move rfl)<|WE.take rfl (V.nilCheck rfl)<|WE.take rfl (V.fieldAddr (o':=18) T59.f4 rfl rfl)<|WE.take rfl (V.load T51.sc rfl (Rd.own 0 rfl rfl))<|WE.take rfl (V.move rfl)<|WE.take rfl (V.nilCheck rfl)<|WE.take rfl (V.fieldAddr (o':=23) T59.f9 rfl rfl) ?_;refine WE.take rfl (V.load T56.sc rfl (Rd.own 0 rfl rfl))<|WE.take rfl (V.move rfl)<|WE.take rfl (V.indexS T56.sl rfl rfl (by omega))<|WE.take rfl (V.load T3.sc rfl (Rd.vec 6 rfl (idsC_rd S.told u hu)))<|WE.take rfl (V.indexS T51.sl rfl rfl (by omega))<|WE.take rfl (V.fieldAddr T111.f0 rfl rfl)<|WE.take rfl (V.load T3.sc rfl (Rd.vec 1 rfl (nodesC_rd S.nodes (S.told.getD u 0) hiu 0 rfl)))<|WE.take rfl (V.assign rfl)<|WE.take rfl (V.assign rfl)<|WE.nil<|X.thenN<|WP.ret<|X.ret rfl (Res.two rfl rfl rfl) ?_
  exact⟨_,rfl,_,⟨rfl,rfl⟩,(Ent.refl _)⟩
set_option maxRecDepth 10000 in
theorem sea_Nodes (b:Nat) (A:SeaA) (S:SeaD) (hm:0<S.most):FT Pg 14 [.pointer (some ⟨b,0,none⟩)] k h0 (seaS b A S) (Ret fun x τ=>x=.int .i64 S.kept.length∧τ=seaS b A S):=by
  refine FT.tight<|FT.of_wp (n:=11) Tryz.func14 rfl rfl rfl<|WP.regs<|L.assign rfl<|WL.nil<|WP.seq<|WP.regs<|L.move rfl<|WL.callV rfl rfl F44.fn rfl (fun g gS dj=>sea_there b A S (Stars.cl' (b:=b) 0 rfl gS dj) (by omega))<|L.not rfl<|WL.nil<|WP.condF rfl<|WP.skip<|X.thenN<|WP.regs<|L.move rfl<|L.nilCheck rfl<|L.fieldAddr (o':=25) T59.f11 rfl rfl<|L.load T57.sc rfl (Rd.own 0 rfl rfl)<|L.lenMap 8 T57.m rfl rfl rfl<|L.assign rfl<|WL.nil<|WP.ret<|X.ret rfl (Res.one rfl rfl) ?_;exact⟨_,rfl,_,⟨by rw[vm_len],rfl⟩,(Ent.refl _)⟩
end
open Go.RowKit Go.Proofs
theorem shlI {l:Nat} (h:l≤45):IntKind.i64.wrap (1*2^min ((l:Int)).toNat IntKind.i64.bits)=((2^l:Nat):Int):=by
  have h1:min ((l:Int)).toNat IntKind.i64.bits=l:=by have:IntKind.i64.bits=64:=rfl;omega
  have hp:2^l≤2^45:=Nat.pow_le_pow_right (by omega) h
  rw[h1,Int.one_mul,pow_cast]
  generalize 2^l=q at hp ⊢
  exact wrap_i64 (by omega)
section
variable {k:World} {h0:Hp}
set_option maxRecDepth 10000 in
set_option maxHeartbeats 4000000 in
theorem sea_Middle1 (b:Nat) (A:SeaA) (S:SeaD) (f:Nat) (K:SeaK S) (hi:Inv S) (u:Nat) (hu:u<S.told.length) (l:Nat) (hlu:Lv S (S.told.getD u 0) (l+2)) (hf:l+2≤f+1) (j:Nat) (hj:j≤l) (hc:S.nodes.length+costM l≤S.most) (hm0:0<S.most) (hn:NW (SeaD.mid f S (S.told.getD u 0) j).1.nodes) (hpe:Ext S (SeaD.mid f S (S.told.getD u 0) j).1) (hid:(SeaD.mid f S (S.told.getD u 0) j).2<(SeaD.mid f S (S.told.getD u 0) j).1.nodes.length) (hk:(SeaD.mid f S (S.told.getD u 0) j).1.kept.length≤1048576) (htl:(SeaD.mid f S (S.told.getD u 0) j).1.told.length≤1048576) (cS cX cY cN:Nat):FT Pg 59 [.pointer (some ⟨cS,0,none⟩),.pointer (some ⟨cX,0,none⟩),.pointer (some ⟨cY,0,none⟩),.pointer (some ⟨cN,0,none⟩)] k h0 [doorZ [cl cN [.int .i64 0] 3,cl cS [.pointer (some ⟨b,0,none⟩)] 38,cl cX [.int .i64 (u:Int)] 3,cl cY [.int .i64 (j:Int)] 3] b A S] (Ret fun y τ=>∃ e Z',y=.int .i64 e∧τ=[Z']∧∃ nv ov,e=((SeaD.mid f S (S.told.getD u 0) j).1.tell (SeaD.mid f S (S.told.getD u 0) j).2).2.2∧Z'=doorZ [cl cN [.int .i64 (((SeaD.mid f S (S.told.getD u 0) j).1.tell (SeaD.mid f S (S.told.getD u 0) j).2).2.1:Int)] 3,cl cS [.pointer (some ⟨b,0,none⟩)] 38,cl cX [.int .i64 (u:Int)] 3,cl cY [.int .i64 (j:Int)] 3] b {A with nv:=nv,ov:=ov} ((SeaD.mid f S (S.told.getD u 0) j).1.tell (SeaD.mid f S (S.told.getD u 0) j).2).1):=by
  have hiu:=hlu.1
  unfold doorZ
  refine FT.ent Ent.stars<|FT.fact (fun _ _ _ s=>s.vec_shape (E:=111) (sz:=4) 5 rfl) ?_
  rintro ⟨_,na,ncap,hnv,hncap,hna⟩
  obtain⟨c0,hc0⟩:=hna (by omega)
  subst hc0
  obtain⟨tv,tw,nv,bp,br,bl,bn,ov,bm,bk⟩:=A
  dsimp only at hnv
  subst hnv
  refine FT.fact (fun _ _ _ s=>s.vec_shape (E:=3) (sz:=1) 10 rfl) ?_
  rintro ⟨_,oa,ocap,hov,hocap,hoa⟩
  dsimp only at hov
  subst hov
  obtain⟨co,hco⟩:=hoa (by omega)
  subst hco
  try unfold encI
  refine FT.tight<|FT.of_wp (n:=21) Tryz.func59 rfl rfl rfl<|WP.regs<|L.assign rfl<|WL.nil<|WP.seq<|WP.regfq ([cl cS [.pointer (some ⟨b,0,none⟩)] 38,cl cX [.int .i64 (u:Int)] 3,cl cY [.int .i64 (j:Int)] 3,seaQ b ⟨tv,tw,.slice (some ⟨c0,0,none⟩) S.nodes.length ncap,bp,br,bl,bn,.slice (some ⟨co,0,none⟩) S.told.length ocap,bm,bk⟩ S,vec 3 1 (⟨tv,tw,.slice (some ⟨c0,0,none⟩) S.nodes.length ncap,bp,br,bl,bn,.slice (some ⟨co,0,none⟩) S.told.length ocap,bm,bk⟩:SeaA).ov S.told.length (idsC S.told)]) (((Ent.pk [1,1,1,1,6] rfl)).trans ((Ent.seaQ (A:=⟨tv,tw,.slice (some ⟨c0,0,none⟩) S.nodes.length ncap,bp,br,bl,bn,.slice (some ⟨co,0,none⟩) S.told.length ocap,bm,bk⟩) 3 rfl ⟨_,rfl⟩ rfl))) [(0,true),(1,true),(2,true),(3,true),(4,true),(5,true),(6,true),(7,true),(8,true),(9,true)] 11 7 #[true,true,true,true,true,true,true,true,true,true,false,false,false,false,false,false,false] rfl (by kernel_rfl) (PInv.then PInv.ret) rfl<|WE.take rfl (V.load T38.sc rfl (Rd.own 0 rfl rfl)) ?_;refine WE.take rfl (V.load T38.sc rfl (Rd.own 0 rfl rfl))<|WE.take rfl (V.load T38.sc rfl (Rd.own 0 rfl rfl))<|WE.take rfl (V.nilCheck rfl)<|WE.take rfl (V.fieldAddr (o':=23) T59.f9 rfl rfl)<|WE.take rfl (V.load T56.sc rfl (Rd.seaQ 3 rfl (fun _=>rfl)))<|WE.take rfl (V.load T3.sc rfl (Rd.own 1 rfl rfl))<|WE.take rfl (V.indexS T56.sl rfl rfl (by omega))<|WE.take rfl (V.load T3.sc rfl (Rd.vec 4 rfl (idsC_rd S.told u hu)))<|WE.take rfl (V.load T3.sc rfl (Rd.own 2 rfl rfl))<|WE.free #[true,true,true,true,true,true,true,true,true,true,false,false,false,false,false,false,false]<|WT.one 10 (by kernel_rfl) rfl ?_;refine WL.call rfl rfl F60.fn rfl (FT.part (seaS b ⟨tv,tw,.slice (some ⟨c0,0,none⟩) S.nodes.length ncap,bp,br,bl,bn,.slice (some ⟨co,0,none⟩) S.told.length ocap,bm,bk⟩ S) _ ((Ent.pk [4,4,4,4,4,4,4,4,4,4,0,0,0,0] rfl)) fun g gS dj=>sea_mid b f k _ ⟨tv,tw,.slice (some ⟨c0,0,none⟩) S.nodes.length ncap,bp,br,bl,bn,.slice (some ⟨co,0,none⟩) S.told.length ocap,bm,bk⟩ S (S.told.getD u 0) j _ l rfl K hi hlu hf hj hc) ?_;rintro _ _ ⟨_,⟨nv,rfl,rfl⟩,rfl⟩
  refine WL.nil ⟨fun _=>(((Ent.pk [11,11,11,0,5] rfl)).trans ((Ent.seaQ (A:=⟨tv,tw,.slice (some ⟨c0,0,none⟩) S.nodes.length ncap,bp,br,bl,bn,.slice (some ⟨co,0,none⟩) S.told.length ocap,bm,bk⟩) 3 rfl ⟨_,rfl⟩ (seaC_ext _ hpe)).trans (Ent.toldQ 4 rfl hpe.told))),?_⟩
  refine WT.one 11 (by kernel_rfl) rfl<|WL.call rfl rfl F52.fn rfl (FT.part (seaS b {(⟨tv,tw,.slice (some ⟨c0,0,none⟩) S.nodes.length ncap,bp,br,bl,bn,.slice (some ⟨co,0,none⟩) S.told.length ocap,bm,bk⟩:SeaA) with nv:=nv} (SeaD.mid f S (S.told.getD u 0) j).1) _ ((Ent.refl _)) fun g gS dj=>sea_tell b {(⟨tv,tw,.slice (some ⟨c0,0,none⟩) S.nodes.length ncap,bp,br,bl,bn,.slice (some ⟨co,0,none⟩) S.told.length ocap,bm,bk⟩:SeaA) with nv:=nv} (SeaD.mid f S (S.told.getD u 0) j).1 (SeaD.mid f S (S.told.getD u 0) j).2 hn hid hk htl) ?_;rintro _ _ ⟨_,⟨ov,rfl,rfl⟩,rfl⟩;refine WL.nil ⟨fun h=>absurd h (by decide),?_⟩
  refine WT.again [] 17 (by kernel_rfl)<|WT.read (m:=2) (fin:=fun l=>l == #[true,true,true,true,true,true,true,true,true,true,true,true,true,true,true,false,false]) [(12,true),(13,true),(14,true)] (by kernel_rfl) (PInv.then PInv.ret) ((Ent.pk [] rfl))<|WE.take rfl (V.move rfl)<|WE.take rfl (V.extract rfl rfl)<|WE.take rfl (V.extract rfl rfl)<|WE.free #[true,true,true,true,true,true,true,true,true,true,true,true,true,true,true,false,false]<|WN.one 15 (by kernel_rfl) rfl<|L.store T3.sc rfl rfl rfl (Wr.at 10 rfl rfl) ?_;refine WL.nil ⟨(Ent.pk [] rfl),?_⟩
  refine WT.read (m:=0) (fin:=fun l=>l == #[true,true,true,true,true,true,true,true,true,true,true,true,true,true,true,true,true]) [(16,true)] (by kernel_rfl) (PInv.then PInv.ret) ((Ent.pk [] rfl))<|WE.take rfl (V.assign rfl)<|WE.free #[true,true,true,true,true,true,true,true,true,true,true,true,true,true,true,true,true]<|WT.nil (by kernel_rfl)<|X.thenN<|WP.regs<|L.move rfl<|L.assign rfl<|WL.nil<|WP.ret<|X.ret rfl (Res.one rfl rfl)<|⟨_,rfl,_,⟨_,_,rfl,rfl,nv,ov,rfl,rfl⟩,((Ent.pk [10,10,10,10,0,0,0,0,0,0,0,0,0,0] rfl)).trans Ent.shut⟩
set_option maxRecDepth 10000 in
set_option maxHeartbeats 1000000 in
theorem sea_Middle (b:Nat) (A:SeaA) (S:SeaD) (f:Nat) (K:SeaK S) (hi:Inv S) (u:Nat) (hu:u<S.told.length) (l:Nat) (hlu:Lv S (S.told.getD u 0) (l+2)) (hf:l+2≤f+1) (j:Nat) (hj:j≤l) (hc:S.nodes.length+costM l≤S.most) (hm0:0<S.most) (hn:NW (SeaD.mid f S (S.told.getD u 0) j).1.nodes) (hpe:Ext S (SeaD.mid f S (S.told.getD u 0) j).1) (hid:(SeaD.mid f S (S.told.getD u 0) j).2<(SeaD.mid f S (S.told.getD u 0) j).1.nodes.length) (hk:(SeaD.mid f S (S.told.getD u 0) j).1.kept.length≤1048576) (htl:(SeaD.mid f S (S.told.getD u 0) j).1.told.length≤1048576):FT Pg 20 [.pointer (some ⟨b,0,none⟩),encI u,.int .i64 (j:Int)] k h0 (seaS b A S) (Ret fun x τ=>∃ nv ov,x=.tuple #[encI ((SeaD.mid f S (S.told.getD u 0) j).1.tell (SeaD.mid f S (S.told.getD u 0) j).2).2.1,.int .i64 ((SeaD.mid f S (S.told.getD u 0) j).1.tell (SeaD.mid f S (S.told.getD u 0) j).2).2.2]∧τ=seaS b {A with nv:=nv,ov:=ov} ((SeaD.mid f S (S.told.getD u 0) j).1.tell (SeaD.mid f S (S.told.getD u 0) j).2).1):=by
  have hiu:=hlu.1
  have hlv:(S.nodes.getD (S.told.getD u 0) .no).level=l+2:=hlu.2
  have hl45:=(hi.nw _ hiu).1
  refine FT.fact (fun _ _ _ s=>s.vec_shape (E:=111) (sz:=4) 1 rfl) ?_
  rintro ⟨_,na,ncap,hnv,hncap,hna⟩
  obtain⟨c0,hc0⟩:=hna (by omega)
  subst hc0
  obtain⟨tv,tw,nv,bp,br,bl,bn,ov,bm,bk⟩:=A
  dsimp only at hnv
  subst hnv
  refine FT.fact (fun _ _ _ s=>s.vec_shape (E:=3) (sz:=1) 6 rfl) ?_
  rintro ⟨_,oa,ocap,hov,hocap,hoa⟩
  dsimp only at hov
  subst hov
  obtain⟨co,hco⟩:=hoa (by omega)
  subst hco
  try unfold encI
  refine FT.tight<|FT.of_wp (n:=33) Tryz.func20 rfl rfl rfl<|WP.regs<|L.box rfl rfl fun cS=>L.box rfl rfl fun cX=>L.box rfl rfl fun cY=>L.assign rfl<|L.assign rfl<|WL.nil<|WP.regs<|L.load T38.sc rfl (Rd.own 2 rfl rfl)<|L.load T3.sc rfl (Rd.own 1 rfl rfl)<|WL.call rfl rfl F18.fn rfl (FT.part (seaS b ⟨tv,tw,.slice (some ⟨c0,0,none⟩) S.nodes.length ncap,bp,br,bl,bn,.slice (some ⟨co,0,none⟩) S.told.length ocap,bm,bk⟩ S) _ ((Ent.pk [3,3,3,3,3,3,3,3,3,3,0,0,0] rfl)) fun g gS dj=>sea_Level b ⟨tv,tw,.slice (some ⟨c0,0,none⟩) S.nodes.length ncap,bp,br,bl,bn,.slice (some ⟨co,0,none⟩) S.told.length ocap,bm,bk⟩ S u hm0 hu hiu) ?_;rintro _ _ ⟨_,⟨rfl,rfl⟩,rfl⟩
  refine L.move rfl<|L.extract rfl rfl<|L.extract rfl rfl<|L.assign rfl<|L.assign rfl<|WL.nil<|WP.seq<|WP.regs<|L.move rfl<|L.neq rfl rfl<|WL.nil<|WP.condD rfl (fun hT=>absurd hT (by omega)) (fun h18=>?_);refine WP.skip<|X.thenN<|WP.seq<|WP.regs<|L.load T3.sc rfl (Rd.own 10 rfl rfl)<|L.lssD rfl rfl (fun h21=>?_) (fun h21=>?_);refine L.move rfl<|L.skip<|L.skip<|L.skip<|L.skip<|L.pickT rfl rfl<|WL.nil<|WP.condT rfl<|WP.regs<|L.assign rfl<|L.assign rfl<|WL.nil<|WP.ret<|X.thenR<|X.ret rfl (Res.two rfl rfl rfl) ?_;exact absurd h21 (by omega)
  refine L.move rfl<|L.load T3.sc rfl (Rd.own 10 rfl rfl)<|L.move rfl<|L.sub' rfl rfl (by omega)<|L.gtr rfl rfl<|L.pickF rfl rfl<|WL.nil<|WP.condD rfl (fun hT=>absurd hT (by omega)) (fun h27=>?_)
  refine WP.skip<|X.thenN<|WP.regs<|L.alloc T3.z fun cN=>L.store T3.sc rfl rfl rfl (Wr.at 0 rfl rfl)<|WL.nil<|WP.regs<|L.load T38.sc rfl (Rd.own 13 rfl rfl)<|L.mkFunc (vs:=[_,_,_,_]) rfl<|WL.call rfl rfl F50.fn rfl (FT.part [doorZ [cl cN [.int .i64 0] 3,cl cS [.pointer (some ⟨b,0,none⟩)] 38,cl cX [.int .i64 (u:Int)] 3,cl cY [.int .i64 (j:Int)] 3] b ⟨tv,tw,.slice (some ⟨c0,0,none⟩) S.nodes.length ncap,bp,br,bl,bn,.slice (some ⟨co,0,none⟩) S.told.length ocap,bm,bk⟩ S] [] (((Ent.pk [0,12,11,10,0,0,0,0,0,0,0,0,0,0] rfl)).trans Ent.shut) fun g gS dj=>sea_attempt (R:=fun e Z'=>∃ nv ov,e=((SeaD.mid f S (S.told.getD u 0) j).1.tell (SeaD.mid f S (S.told.getD u 0) j).2).2.2∧Z'=doorZ [cl cN [.int .i64 (((SeaD.mid f S (S.told.getD u 0) j).1.tell (SeaD.mid f S (S.told.getD u 0) j).2).2.1:Int)] 3,cl cS [.pointer (some ⟨b,0,none⟩)] 38,cl cX [.int .i64 (u:Int)] 3,cl cY [.int .i64 (j:Int)] 3] b {(⟨tv,tw,.slice (some ⟨c0,0,none⟩) S.nodes.length ncap,bp,br,bl,bn,.slice (some ⟨co,0,none⟩) S.told.length ocap,bm,bk⟩:SeaA) with nv:=nv,ov:=ov} ((SeaD.mid f S (S.told.getD u 0) j).1.tell (SeaD.mid f S (S.told.getD u 0) j).2).1) _ 59 F59.fn [.pointer (some ⟨cS,0,none⟩),.pointer (some ⟨cX,0,none⟩),.pointer (some ⟨cY,0,none⟩),.pointer (some ⟨cN,0,none⟩)] (fun g' le=>sea_Middle1 b ⟨tv,tw,.slice (some ⟨c0,0,none⟩) S.nodes.length ncap,bp,br,bl,bn,.slice (some ⟨co,0,none⟩) S.told.length ocap,bm,bk⟩ S f K hi u hu l hlu hf j hj hc hm0 hn hpe hid hk htl cS cX cY cN) _) ?_;rintro _ _ ⟨_,⟨e,Z',rfl,rfl,nv,ov,rfl,rfl⟩,rfl⟩
  refine WL.ent Ent.stars<|L.assign rfl<|WL.nil<|WP.regs<|L.load T3.sc rfl (Rd.own 0 rfl rfl)<|L.move rfl<|L.assign rfl<|L.assign rfl<|WL.nil<|WP.ret<|X.ret rfl (Res.two rfl rfl rfl) ?_;exact⟨_,rfl,_,⟨nv,ov,rfl,rfl⟩,(Ent.left [_,_,_,_] _)⟩
end
open Go.RowKit Go.Proofs
section
variable {k:World} {h0:Hp}
set_option maxRecDepth 10000 in
theorem cloneBytes_nil (f:Nat→Value) (c:Nat):FT Pg 81 [.slice none 0 c] k h0 [] (Ret fun u τ=>τ=[vec 5 1 u 0 ((List.range (0*1)).map f)]):=by
  refine FT.tight<|FT.of_wp (n:=8) Tryz.func81 rfl rfl rfl<|WP.regs<|L.assign rfl<|WL.nil<|WP.seq<|WP.regs<|L.move rfl<|WL.val rfl rfl (V.eqlSliceNil T60.u rfl)<|WL.nil<|WP.condT rfl<|WP.regs<|L.assign rfl<|WL.nil<|WP.ret<|X.thenR<|X.ret rfl (Res.one rfl rfl)<|⟨_,rfl,_,rfl,(Ent.nilvec (E:=5) (sz:=1)).trans (Ent.of_eq ?_)⟩
  rw[Nat.zero_mul]
  rfl
set_option maxRecDepth 10000 in
theorem cloneBytes_zero (f:Nat→Value) (ad:Addr) (c:Nat):FT Pg 81 [.slice (some ad) 0 c] k h0 [] (Ret fun u τ=>τ=[vec 5 1 u 0 ((List.range (0*1)).map f)]):=by
  refine FT.tight<|FT.of_wp (n:=8) Tryz.func81 rfl rfl rfl<|WP.regs<|L.assign rfl<|WL.nil<|WP.seq<|WP.regs<|L.move rfl<|WL.val rfl rfl (V.eqlSliceNil T60.u rfl)<|WL.nil<|WP.condF rfl<|WP.skip<|X.thenN<|WP.regs<|WL.mem rfl rfl (M.slice0 T60.sl T5.z rfl) fun b1=>L.move rfl<|WL.val rfl rfl (V.appendZ T60.sl rfl rfl (Nat.le_refl _) rfl)<|L.assign rfl<|WL.nil<|WP.ret<|X.ret rfl (Res.one rfl rfl)<|⟨_,rfl,_,rfl,(Ent.vec_madeN (n:=0) (sz:=1) (by simp)).trans (Ent.of_eq ?_)⟩
  rw[Nat.zero_mul]
  rfl
set_option maxRecDepth 10000 in
theorem cloneBytes_pos (f:Nat→Value) (b o n c:Nat) (hn:0<n) (hb:n≤65536) (hc:∀ i,i<n*1→cellOf (h0 b) (o+i)=some (f i)) (h1:∀ i,(f i).oneCell'=true):FT Pg 81 [.slice (some ⟨b,o,none⟩) n c] k h0 [] (Ret fun u τ=>τ=[vec 5 1 u n ((List.range (n*1)).map f)]):=by
  refine FT.tight<|FT.of_wp (n:=8) Tryz.func81 rfl rfl rfl<|WP.regs<|L.assign rfl<|WL.nil<|WP.seq<|WP.regs<|L.move rfl<|WL.val rfl rfl (V.eqlSliceNil T60.u rfl)<|WL.nil<|WP.condF rfl<|WP.skip<|X.thenN<|WP.regs<|WL.mem rfl rfl (M.slice0 T60.sl T5.z rfl) fun b1=>L.move rfl<|WL.ent (Ent.vec_madeN (n:=0) (sz:=1) (by simp))<|L.append (i:=0) (news:=(List.range (n*1)).map f) T60.sl T5.z rfl rfl rfl rfl rfl (by simp) (fun _ _ _ e=>by cases e;exact⟨rfl,Rds.of_cells (i:=0) hc _ (by simp) (fun j hj=>by simp)⟩) (fun e=>by cases e) (by intro u hu;obtain⟨i,_,rfl⟩:=List.mem_map.1 hu;exact h1 i) (by omega) ?_;intro u2
  refine L.assign rfl<|WL.nil<|WP.ret<|X.ret rfl (Res.one rfl rfl)<|⟨_,rfl,_,rfl,Ent.of_eq ?_⟩
  rw[Nat.zero_add]
  rfl
theorem cloneBytes (v:Value) (f:Nat→Value) (n:Nat) (hb:n≤65536) (hv:SlAt h0 1 v n f) (h1:∀ i,(f i).oneCell'=true):FT Pg 81 [v] k h0 [] (Ret fun u τ=>τ=[vec 5 1 u n ((List.range (n*1)).map f)]):=by
  obtain⟨a,c,rfl,hnc,hnone,hsome⟩:=hv
  rcases Nat.eq_zero_or_pos n with rfl | hp
  · cases a with
    | none=>exact cloneBytes_nil f c
    | some ad=>exact cloneBytes_zero f ad c
  · obtain⟨b,o,rfl,hc⟩:=hsome hp
    exact cloneBytes_pos f b o n c hp hb hc h1
set_option maxRecDepth 10000 in
theorem cloneVars_nil (f:Nat→Value) (c:Nat):FT Pg 79 [.slice none 0 c] k h0 [] (Ret fun u τ=>τ=[vec 93 2 u 0 ((List.range (0*2)).map f)]):=by
  refine FT.tight<|FT.of_wp (n:=8) Tryz.func79 rfl rfl rfl<|WP.regs<|L.assign rfl<|WL.nil<|WP.seq<|WP.regs<|L.move rfl<|WL.val rfl rfl (V.eqlSliceNil T27.u rfl)<|WL.nil<|WP.condT rfl<|WP.regs<|L.assign rfl<|WL.nil<|WP.ret<|X.thenR<|X.ret rfl (Res.one rfl rfl)<|⟨_,rfl,_,rfl,(Ent.nilvec (E:=93) (sz:=2)).trans (Ent.of_eq ?_)⟩
  rw[Nat.zero_mul]
  rfl
set_option maxRecDepth 10000 in
theorem cloneVars_zero (f:Nat→Value) (ad:Addr) (c:Nat):FT Pg 79 [.slice (some ad) 0 c] k h0 [] (Ret fun u τ=>τ=[vec 93 2 u 0 ((List.range (0*2)).map f)]):=by
  refine FT.tight<|FT.of_wp (n:=8) Tryz.func79 rfl rfl rfl<|WP.regs<|L.assign rfl<|WL.nil<|WP.seq<|WP.regs<|L.move rfl<|WL.val rfl rfl (V.eqlSliceNil T27.u rfl)<|WL.nil<|WP.condF rfl<|WP.skip<|X.thenN<|WP.regs<|WL.mem rfl rfl (M.slice0 T27.sl T93.z rfl) fun b1=>L.move rfl<|WL.val rfl rfl (V.appendZ T27.sl rfl rfl (Nat.le_refl _) rfl)<|L.assign rfl<|WL.nil<|WP.ret<|X.ret rfl (Res.one rfl rfl)<|⟨_,rfl,_,rfl,(Ent.vec_madeN (n:=0) (sz:=2) (by simp)).trans (Ent.of_eq ?_)⟩
  rw[Nat.zero_mul]
  rfl
set_option maxRecDepth 10000 in
theorem cloneVars_pos (f:Nat→Value) (b o n c:Nat) (hn:0<n) (hb:n≤65536) (hc:∀ i,i<n*2→cellOf (h0 b) (o+i)=some (f i)) (h1:∀ i,(f i).oneCell'=true):FT Pg 79 [.slice (some ⟨b,o,none⟩) n c] k h0 [] (Ret fun u τ=>τ=[vec 93 2 u n ((List.range (n*2)).map f)]):=by
  refine FT.tight<|FT.of_wp (n:=8) Tryz.func79 rfl rfl rfl<|WP.regs<|L.assign rfl<|WL.nil<|WP.seq<|WP.regs<|L.move rfl<|WL.val rfl rfl (V.eqlSliceNil T27.u rfl)<|WL.nil<|WP.condF rfl<|WP.skip<|X.thenN<|WP.regs<|WL.mem rfl rfl (M.slice0 T27.sl T93.z rfl) fun b1=>L.move rfl<|WL.ent (Ent.vec_madeN (n:=0) (sz:=2) (by simp))<|L.append (i:=0) (news:=(List.range (n*2)).map f) T27.sl T93.z rfl rfl rfl rfl rfl (by simp) (fun _ _ _ e=>by cases e;exact⟨rfl,Rds.of_cells (i:=0) hc _ (by simp) (fun j hj=>by simp)⟩) (fun e=>by cases e) (by intro u hu;obtain⟨i,_,rfl⟩:=List.mem_map.1 hu;exact h1 i) (by omega) ?_;intro u2
  refine L.assign rfl<|WL.nil<|WP.ret<|X.ret rfl (Res.one rfl rfl)<|⟨_,rfl,_,rfl,Ent.of_eq ?_⟩
  rw[Nat.zero_add]
  rfl
theorem cloneVars (v:Value) (f:Nat→Value) (n:Nat) (hb:n≤65536) (hv:SlAt h0 2 v n f) (h1:∀ i,(f i).oneCell'=true):FT Pg 79 [v] k h0 [] (Ret fun u τ=>τ=[vec 93 2 u n ((List.range (n*2)).map f)]):=by
  obtain⟨a,c,rfl,hnc,hnone,hsome⟩:=hv
  rcases Nat.eq_zero_or_pos n with rfl | hp
  · cases a with
    | none=>exact cloneVars_nil f c
    | some ad=>exact cloneVars_zero f ad c
  · obtain⟨b,o,rfl,hc⟩:=hsome hp
    exact cloneVars_pos f b o n c hp hb hc h1
set_option maxRecDepth 10000 in
theorem cloneTrans_nil (f:Nat→Value) (c:Nat):FT Pg 80 [.slice none 0 c] k h0 [] (Ret fun u τ=>τ=[vec 50 5 u 0 ((List.range (0*5)).map f)]):=by
  refine FT.tight<|FT.of_wp (n:=8) Tryz.func80 rfl rfl rfl<|WP.regs<|L.assign rfl<|WL.nil<|WP.seq<|WP.regs<|L.move rfl<|WL.val rfl rfl (V.eqlSliceNil T28.u rfl)<|WL.nil<|WP.condT rfl<|WP.regs<|L.assign rfl<|WL.nil<|WP.ret<|X.thenR<|X.ret rfl (Res.one rfl rfl)<|⟨_,rfl,_,rfl,(Ent.nilvec (E:=50) (sz:=5)).trans (Ent.of_eq ?_)⟩
  rw[Nat.zero_mul]
  rfl
set_option maxRecDepth 10000 in
theorem cloneTrans_zero (f:Nat→Value) (ad:Addr) (c:Nat):FT Pg 80 [.slice (some ad) 0 c] k h0 [] (Ret fun u τ=>τ=[vec 50 5 u 0 ((List.range (0*5)).map f)]):=by
  refine FT.tight<|FT.of_wp (n:=8) Tryz.func80 rfl rfl rfl<|WP.regs<|L.assign rfl<|WL.nil<|WP.seq<|WP.regs<|L.move rfl<|WL.val rfl rfl (V.eqlSliceNil T28.u rfl)<|WL.nil<|WP.condF rfl<|WP.skip<|X.thenN<|WP.regs<|WL.mem rfl rfl (M.slice0 T28.sl T50.z rfl) fun b1=>L.move rfl<|WL.val rfl rfl (V.appendZ T28.sl rfl rfl (Nat.le_refl _) rfl)<|L.assign rfl<|WL.nil<|WP.ret<|X.ret rfl (Res.one rfl rfl)<|⟨_,rfl,_,rfl,(Ent.vec_madeN (n:=0) (sz:=5) (by simp)).trans (Ent.of_eq ?_)⟩
  rw[Nat.zero_mul]
  rfl
set_option maxRecDepth 10000 in
theorem cloneTrans_pos (f:Nat→Value) (b o n c:Nat) (hn:0<n) (hb:n≤65536) (hc:∀ i,i<n*5→cellOf (h0 b) (o+i)=some (f i)) (h1:∀ i,(f i).oneCell'=true):FT Pg 80 [.slice (some ⟨b,o,none⟩) n c] k h0 [] (Ret fun u τ=>τ=[vec 50 5 u n ((List.range (n*5)).map f)]):=by
  refine FT.tight<|FT.of_wp (n:=8) Tryz.func80 rfl rfl rfl<|WP.regs<|L.assign rfl<|WL.nil<|WP.seq<|WP.regs<|L.move rfl<|WL.val rfl rfl (V.eqlSliceNil T28.u rfl)<|WL.nil<|WP.condF rfl<|WP.skip<|X.thenN<|WP.regs<|WL.mem rfl rfl (M.slice0 T28.sl T50.z rfl) fun b1=>L.move rfl<|WL.ent (Ent.vec_madeN (n:=0) (sz:=5) (by simp))<|L.append (i:=0) (news:=(List.range (n*5)).map f) T28.sl T50.z rfl rfl rfl rfl rfl (by simp) (fun _ _ _ e=>by cases e;exact⟨rfl,Rds.of_cells (i:=0) hc _ (by simp) (fun j hj=>by simp)⟩) (fun e=>by cases e) (by intro u hu;obtain⟨i,_,rfl⟩:=List.mem_map.1 hu;exact h1 i) (by omega) ?_;intro u2
  refine L.assign rfl<|WL.nil<|WP.ret<|X.ret rfl (Res.one rfl rfl)<|⟨_,rfl,_,rfl,Ent.of_eq ?_⟩
  rw[Nat.zero_add]
  rfl
theorem cloneTrans (v:Value) (f:Nat→Value) (n:Nat) (hb:n≤65536) (hv:SlAt h0 5 v n f) (h1:∀ i,(f i).oneCell'=true):FT Pg 80 [v] k h0 [] (Ret fun u τ=>τ=[vec 50 5 u n ((List.range (n*5)).map f)]):=by
  obtain⟨a,c,rfl,hnc,hnone,hsome⟩:=hv
  rcases Nat.eq_zero_or_pos n with rfl | hp
  · cases a with
    | none=>exact cloneTrans_nil f c
    | some ad=>exact cloneTrans_zero f ad c
  · obtain⟨b,o,rfl,hc⟩:=hsome hp
    exact cloneTrans_pos f b o n c hp hb hc h1
set_option maxRecDepth 10000 in
theorem cloneTerms_nil (f:Nat→Value) (c:Nat):FT Pg 82 [.slice none 0 c] k h0 [] (Ret fun u τ=>τ=[vec 47 2 u 0 ((List.range (0*2)).map f)]):=by
  refine FT.tight<|FT.of_wp (n:=8) Tryz.func82 rfl rfl rfl<|WP.regs<|L.assign rfl<|WL.nil<|WP.seq<|WP.regs<|L.move rfl<|WL.val rfl rfl (V.eqlSliceNil T48.u rfl)<|WL.nil<|WP.condT rfl<|WP.regs<|L.assign rfl<|WL.nil<|WP.ret<|X.thenR<|X.ret rfl (Res.one rfl rfl)<|⟨_,rfl,_,rfl,(Ent.nilvec (E:=47) (sz:=2)).trans (Ent.of_eq ?_)⟩
  rw[Nat.zero_mul]
  rfl
set_option maxRecDepth 10000 in
theorem cloneTerms_zero (f:Nat→Value) (ad:Addr) (c:Nat):FT Pg 82 [.slice (some ad) 0 c] k h0 [] (Ret fun u τ=>τ=[vec 47 2 u 0 ((List.range (0*2)).map f)]):=by
  refine FT.tight<|FT.of_wp (n:=8) Tryz.func82 rfl rfl rfl<|WP.regs<|L.assign rfl<|WL.nil<|WP.seq<|WP.regs<|L.move rfl<|WL.val rfl rfl (V.eqlSliceNil T48.u rfl)<|WL.nil<|WP.condF rfl<|WP.skip<|X.thenN<|WP.regs<|WL.mem rfl rfl (M.slice0 T48.sl T47.z rfl) fun b1=>L.move rfl<|WL.val rfl rfl (V.appendZ T48.sl rfl rfl (Nat.le_refl _) rfl)<|L.assign rfl<|WL.nil<|WP.ret<|X.ret rfl (Res.one rfl rfl)<|⟨_,rfl,_,rfl,(Ent.vec_madeN (n:=0) (sz:=2) (by simp)).trans (Ent.of_eq ?_)⟩
  rw[Nat.zero_mul]
  rfl
set_option maxRecDepth 10000 in
theorem cloneTerms_pos (f:Nat→Value) (b o n c:Nat) (hn:0<n) (hb:n≤65536) (hc:∀ i,i<n*2→cellOf (h0 b) (o+i)=some (f i)) (h1:∀ i,(f i).oneCell'=true):FT Pg 82 [.slice (some ⟨b,o,none⟩) n c] k h0 [] (Ret fun u τ=>τ=[vec 47 2 u n ((List.range (n*2)).map f)]):=by
  refine FT.tight<|FT.of_wp (n:=8) Tryz.func82 rfl rfl rfl<|WP.regs<|L.assign rfl<|WL.nil<|WP.seq<|WP.regs<|L.move rfl<|WL.val rfl rfl (V.eqlSliceNil T48.u rfl)<|WL.nil<|WP.condF rfl<|WP.skip<|X.thenN<|WP.regs<|WL.mem rfl rfl (M.slice0 T48.sl T47.z rfl) fun b1=>L.move rfl<|WL.ent (Ent.vec_madeN (n:=0) (sz:=2) (by simp))<|L.append (i:=0) (news:=(List.range (n*2)).map f) T48.sl T47.z rfl rfl rfl rfl rfl (by simp) (fun _ _ _ e=>by cases e;exact⟨rfl,Rds.of_cells (i:=0) hc _ (by simp) (fun j hj=>by simp)⟩) (fun e=>by cases e) (by intro u hu;obtain⟨i,_,rfl⟩:=List.mem_map.1 hu;exact h1 i) (by omega) ?_;intro u2
  refine L.assign rfl<|WL.nil<|WP.ret<|X.ret rfl (Res.one rfl rfl)<|⟨_,rfl,_,rfl,Ent.of_eq ?_⟩
  rw[Nat.zero_add]
  rfl
theorem cloneTerms (v:Value) (f:Nat→Value) (n:Nat) (hb:n≤65536) (hv:SlAt h0 2 v n f) (h1:∀ i,(f i).oneCell'=true):FT Pg 82 [v] k h0 [] (Ret fun u τ=>τ=[vec 47 2 u n ((List.range (n*2)).map f)]):=by
  obtain⟨a,c,rfl,hnc,hnone,hsome⟩:=hv
  rcases Nat.eq_zero_or_pos n with rfl | hp
  · cases a with
    | none=>exact cloneTerms_nil f c
    | some ad=>exact cloneTerms_zero f ad c
  · obtain⟨b,o,rfl,hc⟩:=hsome hp
    exact cloneTerms_pos f b o n c hp hb hc h1
end
end Go.Eng
