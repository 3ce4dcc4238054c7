/- Walks of the functions of the seat over those rules, and plain laws of what they compute. No conditions beyond those in each theorem. -/
import Derived.Test.YtclhjichmdjlaaaGreatSK
set_option linter.unusedSimpArgs false
set_option linter.unusedVariables false
namespace Go.Eng
open Go.RowKit Go.Proofs
theorem vec_map {E sz n:Nat} {u:Value} {f:Nat→Value} {h:Hp} (i:In (vec E sz u n ((List.range (n*sz)).map f)) h):SlAt h sz u n f:=
  (In.slAt i undef).congr fun j hj=>by simp[List.getD_eq_getElem?_getD,List.getElem?_map,List.getElem?_range hj]
theorem map_set (m q:Nat) (f g:Nat→Value) (y:Value) (hy:g q=y) (hg:∀ j,j≠q→g j=f j):((List.range m).map f).set q y=(List.range m).map g:=by
  apply List.ext_getElem?
  intro i
  rw[List.getElem?_set,List.getElem?_map,List.getElem?_map,List.length_map,List.length_range]
  by_cases h:q=i
  · subst h
    rw[if_pos rfl]
    by_cases hq:q<m
    · rw[if_pos hq,List.getElem?_range hq];simp[hy]
    · rw[if_neg hq,List.getElem?_eq_none (by simp;omega)];rfl
  · rw[if_neg h]
    by_cases hi:i<m
    · rw[List.getElem?_range hi];simp[hg i (fun e=>h e.symm)]
    · rw[List.getElem?_eq_none (by simp;omega)];rfl
theorem map_get (m q:Nat) (f:Nat→Value) (h:q<m):((List.range m).map f)[q]?=some (f q):=by
  rw[List.getElem?_map,List.getElem?_range h];rfl
def doneO (Q:Nat→Hp→Prop) (i:Nat):HP:=fun h=>∀ j,j<i→Q j h
section
variable {σ:List HP}
theorem Ent.done0 (Q:Nat→Hp→Prop):Ent σ (doneO Q 0::σ):=fun k h0 w s=>by
  obtain⟨h1,ss,dj,hh⟩:=s.own
  exact⟨s.os,s.tape,s.output,s.base,h1,⟨Hp.no,h1,fun j hj=>absurd hj (by omega),ss,Hp.no_Dj _,(Hp.no_un _).symm⟩,dj,hh⟩
theorem Ent.doneS {p:HP} {Q Q':Nat→Hp→Prop} {i:Nat} (hm:∀ j a b,j<i→Hp.le a b→Q j a→Q' j b) (hp:∀ a b,Hp.le a b→p a→Q' i b):Ent (p::doneO Q i::σ) (doneO Q' (i+1)::σ):=
  Ent.merge fun a b ha hb dj j hj=>by
   rcases Nat.lt_or_ge j i with h | h
   · exact hm j b _ h (Hp.le_un_right dj) (hb j h)
   · obtain rfl:j=i:=by omega
     exact hp a _ (Hp.le_un_left a b) ha
theorem Ent.vars {E:Nat} {u:Value} {l:List VarD} {g:Nat→Value}:Ent (vec E 2 u l.length ((List.range (l.length*2)).map (varF g l))::doneO (fun j h=>BytesAt h (g j) (l.getD j .no).states) l.length::σ) ((fun h=>VarsAt h u l)::σ):=
  Ent.merge fun a b ha hb dj=>⟨g,(vec_map (In.self ha)).mono (Hp.le_un_left a b),fun i hi=>(hb i hi).mono (Hp.le_un_right dj)⟩
theorem Ent.rows {E:Nat} {u:Value} {l:List TransD} {g:Nat→Value}:Ent (vec E 5 u l.length ((List.range (l.length*5)).map (rowF g l))::doneO (fun j h=>TermsAt h (g j) (l.getD j .no).around) l.length::σ) ((fun h=>RowsAt h u l)::σ):=
  Ent.merge fun a b ha hb dj=>⟨g,(vec_map (In.self ha)).mono (Hp.le_un_left a b),fun i hi=>(hb i hi).mono (Hp.le_un_right dj)⟩
theorem Ent.tab {t:TableD} {v w:Value}:Ent ((fun h=>VarsAt h v t.vars)::(fun h=>RowsAt h w t.rows)::σ) (tabO t v w::σ):=
  Ent.merge fun a b ha hb dj=>⟨VarsAt.mono ha (Hp.le_un_left a b),RowsAt.mono hb (Hp.le_un_right dj)⟩
end
def updV (g:Nat→Value) (i:Nat) (w:Value):Nat→Value:=fun j=>if j=i then w else g j
theorem varF_set (m i:Nat) (g:Nat→Value) (l:List VarD) (w:Value):((List.range m).map (varF g l)).set (i*2+1) w=(List.range m).map (varF (updV g i w) l):=by
  refine map_set _ _ _ _ _ ?_ fun j hj=>?_
  · unfold varF updV;rw[if_neg (by omega),if_pos (by omega)]
  · unfold varF updV
    by_cases h:j%2=0
    · rw[if_pos h,if_pos h]
    · rw[if_neg h,if_neg h,if_neg (by omega)]
theorem rowF_set (m i:Nat) (g:Nat→Value) (l:List TransD) (w:Value):((List.range m).map (rowF g l)).set (i*5+2) w=(List.range m).map (rowF (updV g i w) l):=by
  refine map_set _ _ _ _ _ ?_ fun j hj=>?_
  · unfold rowF updV;rw[if_neg (by omega),if_neg (by omega),if_pos (by omega),if_pos (by omega)]
  · unfold rowF updV
    by_cases h0:j%5=0
    · rw[if_pos h0,if_pos h0]
    · rw[if_neg h0,if_neg h0]
      by_cases h1:j%5=1
      · rw[if_pos h1,if_pos h1]
      · rw[if_neg h1,if_neg h1]
        by_cases h2:j%5=2
        · rw[if_pos h2,if_pos h2,if_neg (by omega)]
        · rw[if_neg h2,if_neg h2]
theorem varF_one (vs:Nat→Value) (l:List VarD) (h:∀ i,(vs i).oneCell'=true) (i:Nat):(varF vs l i).oneCell'=true:=by
  unfold varF;split
  · rfl
  · exact h _
theorem rowF_one (vs:Nat→Value) (l:List TransD) (h:∀ i,(vs i).oneCell'=true) (i:Nat):(rowF vs l i).oneCell'=true:=by
  unfold rowF;split
  · rfl
  · split
    · rfl
    · split
      · exact h _
      · split
        · rfl
        · rfl
theorem varF_rd (g:Nat→Value) (l:List VarD) (n i:Nat) (h:i<n):((List.range (n*2)).map (varF g l))[0+((i:Int)).toNat*2+1]?=some (g i):=by
  rw[show 0+((i:Int)).toNat*2+1=i*2+1 by omega,map_get _ _ _ (by omega)]
  unfold varF
  rw[if_neg (by omega),show (i*2+1)/2=i by omega]
theorem rowF_rd (g:Nat→Value) (l:List TransD) (n i:Nat) (h:i<n):((List.range (n*5)).map (rowF g l))[0+((i:Int)).toNat*5+2]?=some (g i):=by
  rw[show 0+((i:Int)).toNat*5+2=i*5+2 by omega,map_get _ _ _ (by omega)]
  unfold rowF
  rw[if_neg (by omega),if_neg (by omega),if_pos (by omega),show (i*5+2)/5=i by omega]
theorem varF_set' (m i:Nat) (g:Nat→Value) (l:List VarD) (w:Value):((List.range m).map (varF g l)).set (0+((i:Int)).toNat*2+1) w=(List.range m).map (varF (updV g i w) l):=by
  rw[show 0+((i:Int)).toNat*2+1=i*2+1 by omega,varF_set]
theorem rowF_set' (m i:Nat) (g:Nat→Value) (l:List TransD) (w:Value):((List.range m).map (rowF g l)).set (0+((i:Int)).toNat*5+2) w=(List.range m).map (rowF (updV g i w) l):=by
  rw[show 0+((i:Int)).toNat*5+2=i*5+2 by omega,rowF_set]
theorem termF_one (l:List TermD) (i:Nat):(termF l i).oneCell'=true:=by unfold termF;split <;> rfl
theorem VarsAt.one {h:Hp} {v:Value} {l:List VarD} (s:VarsAt h v l):∃ vs,SlAt h 2 v l.length (varF vs l)∧(∀ i,i<l.length→BytesAt h (vs i) (l.getD i .no).states)∧∀ i,(vs i).oneCell'=true:=by
  obtain⟨vs,a,b⟩:=s
  refine⟨fun i=>if i<l.length then vs i else .slice none 0 0,a.congr fun i hi=>?_,fun i hi=>by dsimp only;rw[if_pos hi];exact b i hi,fun i=>?_⟩
  · unfold varF
    split
    · rfl
    · dsimp only;rw[if_pos (by omega)]
  · dsimp only
    split
    · rename_i hi
      obtain⟨x,c,e⟩:=SlAt.shape (b i hi)
      rw[e];rfl
    · rfl
theorem RowsAt.one {h:Hp} {v:Value} {l:List TransD} (s:RowsAt h v l):∃ vs,SlAt h 5 v l.length (rowF vs l)∧(∀ i,i<l.length→TermsAt h (vs i) (l.getD i .no).around)∧∀ i,(vs i).oneCell'=true:=by
  obtain⟨vs,a,b⟩:=s
  refine⟨fun i=>if i<l.length then vs i else .slice none 0 0,a.congr fun i hi=>?_,fun i hi=>by dsimp only;rw[if_pos hi];exact b i hi,fun i=>?_⟩
  · unfold rowF
    split
    · rfl
    · split
      · rfl
      · split
        · dsimp only;rw[if_pos (by omega)]
        · rfl
  · dsimp only
    split
    · rename_i hi
      obtain⟨x,c,e⟩:=SlAt.shape (b i hi)
      rw[e];rfl
    · rfl
structure RuleD.Small (r:RuleD):Prop where
  nv:r.table.vars.length≤65536
  nr:r.table.rows.length≤65536
  st:∀ i,i<r.table.vars.length→(r.table.vars.getD i .no).states.length≤65536
  ar:∀ i,i<r.table.rows.length→(r.table.rows.getD i .no).around.length≤65536
theorem RuleD.Ok.small {r:RuleD} (h:r.Ok) (hw:r.Wd):r.Small:=by
  have key:r.table.vars.length+r.table.rows.length=0→r.Small:=fun h=>⟨by omega,by omega,fun i hi=>absurd hi (by omega),fun i hi=>absurd hi (by omega)⟩
  rcases h with ⟨_,ha,_⟩ | ⟨_,ha,_⟩ | ⟨_,_,_,ht⟩
  · exact key ha.2.2.2.2
  · exact key ha.2.2.2.2
  · refine⟨by have:=ht.nv;omega,by have:=ht.nr;omega,fun i hi=>?_,fun i hi=>?_⟩
    · have hv:=(ht.vars i hi).2.2.2
      have hu:∀ q,q<(r.table.vars.getD i .no).states.length→0≤(r.table.vars.getD i .no).states.getD q 0:=fun q hq=>by
       have hm:r.table.vars.getD i .no∈r.table.vars:=by rw[List.getD_eq_getElem?_getD,List.getElem?_eq_getElem hi];exact List.getElem_mem hi
       exact ((hw.table.vars _ hm).1 _ (getD_mem hq)).1
      have hge:∀ q,q<(r.table.vars.getD i .no).states.length→(q:Int)≤(r.table.vars.getD i .no).states.getD q 0:=by
       intro q
       induction q with
       | zero=>intro hq;exact hu 0 hq
       | succ q ih=>
         intro hq
         have h1:=ih (by omega)
         have h2:=(hv (q+1) hq).2 (by omega)
         simp only[Nat.add_sub_cancel] at h2
         omega
      have hst:=ht.st
      rcases Nat.eq_zero_or_pos (r.table.vars.getD i .no).states.length with h0 | h0
      · omega
      · have h1:=hge ((r.table.vars.getD i .no).states.length-1) (by omega)
        have h2:=(hv ((r.table.vars.getD i .no).states.length-1) (by omega)).1
        omega
    · have h1:=(ht.rows i hi).1
      have h2:=hoodSize_bd r.table.hood
      omega
open Go.RowKit Go.Proofs
section
variable {k:World} {h0:Hp}
set_option maxRecDepth 10000 in
set_option maxHeartbeats 2000000 in
theorem strip_twin (r:RuleD) (hsm:r.Small) (v w:Value) (hta:TabAt h0 r.table v w):FT Pg 34 [.agg (ruleC r v w).toArray] k h0 [] (Ret fun u τ=>∃ v' w',u=.agg (ruleC r v' w').toArray∧τ=[tabO r.table v' w']):=by
  obtain⟨htv,htw⟩:=hta
  obtain⟨vs,hsv,hbv,hov⟩:=htv.one
  obtain⟨rs,hsr,hbr,hor⟩:=htw.one
  obtain⟨va,vcap,hveq⟩:=SlAt.shape hsv
  obtain⟨wa,wcap,hweq⟩:=SlAt.shape hsr
  have hnv:=hsm.nv
  have hnr:=hsm.nr
  refine FT.tight<|FT.of_wp (n:=62) Tryz.func34 rfl rfl rfl<|WP.regs<|L.box rfl rfl fun b1=>L.alloc T32.z fun b2=>WL.nil<|WP.seq<|WP.rege [(0,true),(1,true),(2,true),(4,true),(5,true),(6,true),(3,false),(8,true),(9,true),(7,false),(10,false),(11,false),(12,false),(13,false)] 10 rfl (by kernel_rfl) (PInv.then PInv.ret) rfl<|WE.take rfl (V.fieldAddr (o':=6) T32.f3 rfl rfl)<|WE.take rfl (V.fieldAddr (o':=9) T30.f3 rfl rfl)<|WE.take rfl (V.load T27.sc rfl (Rd.own 1 rfl rfl))<|WE.take rfl (V.fieldAddr (o':=6) T32.f3 rfl rfl) ?_;refine WE.take rfl (V.fieldAddr (o':=10) T30.f4 rfl rfl)<|WE.take rfl (V.load T28.sc rfl (Rd.own 1 rfl rfl))<|WE.one rfl<|WL.call rfl rfl F79.fn rfl (FT.make fun g gS dj=>cloneVars v (varF vs r.table.vars) r.table.vars.length hnv (hsv.mono (Hp.le_un_left _ _)) (varF_one _ _ hov)) ?_;rintro u1 _ ⟨_,rfl,rfl⟩
  refine WL.fact (fun _ _ _ s=>And.intro (s.vec_one 0 rfl) (s.vec_shape 0 rfl)) ?_;rintro ⟨_,_,a1,c1,rfl,hna1,hsa1⟩;refine WL.nil ⟨(Ent.left [_] _),?_⟩;refine WE.take rfl (V.fieldAddr (o':=6) T32.f3 rfl rfl)<|WE.take rfl (V.fieldAddr (o':=9) T30.f3 rfl rfl)<|WE.one rfl<|WL.call rfl rfl F80.fn rfl (FT.make fun g gS dj=>cloneTrans w (rowF rs r.table.rows) r.table.rows.length hnr (hsr.mono (Hp.le_un_left _ _)) (rowF_one _ _ hor)) ?_;rintro u2 _ ⟨_,rfl,rfl⟩;refine WL.fact (fun _ _ _ s=>And.intro (s.vec_one 0 rfl) (s.vec_shape 0 rfl)) ?_;rintro ⟨_,_,a2,c2,rfl,hna2,hsa2⟩;refine WL.nil ⟨(Ent.left [_,_] _),?_⟩
  refine WE.last rfl<|L.store T27.sc rfl rfl rfl (Wr.at 3 rfl rfl)<|WL.nil<|WE.more rfl<|L.fieldAddr (o':=6) T32.f3 rfl rfl<|WL.nil<|WE.more rfl<|L.fieldAddr (o':=10) T30.f4 rfl rfl<|WL.nil<|WE.more rfl<|L.store T28.sc rfl rfl rfl (Wr.at 3 rfl rfl)<|WL.nil<|WE.nil<|X.thenN<|WP.seq<|WP.regs<|L.fieldAddr (o':=6) T32.f3 rfl rfl<|L.fieldAddr (o':=9) T30.f3 rfl rfl<|L.load T27.sc rfl (Rd.own 3 rfl rfl)<|L.lenS T27.sl rfl rfl<|L.move rfl<|WL.nil<|WP.block<|WP.loop (X:=Nat × (Nat→Value)) (fun x=>⟨62,[],[(1,.pointer (some ⟨b1,0,none⟩)),(2,.pointer (some ⟨b2,0,none⟩)),(20,.int .i64 (r.table.vars.length:Int)),(21,.int .i64 (x.1:Int))]⟩) (fun x=>[vec 93 2 (.slice a1 r.table.vars.length c1) r.table.vars.length ((List.range (r.table.vars.length*2)).map (varF x.2 r.table.vars)),(doneO (fun j h=>BytesAt h (x.2 j) (r.table.vars.getD j .no).states) x.1),vec 50 5 (.slice a2 r.table.rows.length c2) r.table.rows.length ((List.range (r.table.rows.length*5)).map (rowF rs r.table.rows)),cl b1 (ruleC r (.slice a1 r.table.vars.length c1) (.slice a2 r.table.rows.length c2)) 32,cl b2 (ruleC ⟨0,⟨0,0,0⟩,0,ByteArray.mk #[],⟨0,0,0,[],[]⟩⟩ (.slice none 0 0) (.slice none 0 0)) 32]) (fun x=>x.1≤r.table.vars.length∧∀ j,x.1≤j→j<r.table.vars.length→BytesAt h0 (x.2 j) (r.table.vars.getD j .no).states) (fun x=>r.table.vars.length-x.1) (0,vs) (⟨Nat.zero_le _,fun j _ hj=>hbv j hj⟩) (Env.Sub.cons rfl rfl (Env.Sub.cons rfl rfl (Env.Sub.cons rfl rfl (Env.Sub.cons rfl rfl Env.Sub.nil)))) (((Ent.pk [1,0,1,0] rfl)).trans ((Ent.done0 (fun j h=>BytesAt h (vs j) (r.table.vars.getD j .no).states)).trans (Ent.pk [1,0,0,0,0] rfl))) ?_
  rintro ⟨i,gv⟩ ⟨hi,hgv⟩
  dsimp only at hi hgv ⊢
  refine WP.regs<|L.lss rfl rfl<|WL.nil<|WP.seq<|WP.condD rfl (fun h22=>?_) (fun h22=>?_)
  refine WP.skip<|X.thenN<|WP.seq<|WP.block<|WP.regs<|L.move rfl<|L.assign rfl<|WL.nil<|WP.rege [(0,true),(1,true),(2,true),(3,true),(4,true),(5,true),(6,true),(7,true),(8,true),(9,true),(10,true),(11,false),(12,true),(13,true),(14,false)] 14 rfl (by kernel_rfl) (PInv.block (PInv.then (PInv.then (PInv.block (PInv.then PInv.ret))))) rfl<|WE.take rfl (V.fieldAddr (o':=6) T32.f3 rfl rfl)<|WE.take rfl (V.fieldAddr (o':=9) T30.f3 rfl rfl)<|WE.take rfl (V.load T27.sc rfl (Rd.own 3 rfl rfl))<|WE.take rfl (V.move rfl) ?_;refine WE.take rfl (V.fieldAddr (o':=6) T32.f3 rfl rfl)<|WE.take rfl (V.fieldAddr (o':=9) T30.f3 rfl rfl)<|WE.take rfl (V.load T27.sc rfl (Rd.own 3 rfl rfl))<|WE.take rfl (V.move rfl) ?_
  obtain⟨d1,hd1⟩:=hsa1 (by omega)
  subst hd1
  refine WE.take rfl (V.indexS T27.sl rfl rfl (by omega))<|WE.take rfl (V.fieldAddr T93.f1 rfl rfl)<|WE.take rfl (V.load T60.sc rfl (Rd.vec 0 rfl (varF_rd _ _ _ _ (by omega))))<|WE.one rfl<|WL.call rfl rfl F81.fn rfl (FT.make fun g' gS dj=>cloneBytes (gv i) _ _ (hsm.st i (by omega)) (((hgv i (Nat.le_refl _) (by omega)).mono (Hp.le_un_left _ _))) (fun _=>rfl)) ?_;rintro u3 _ ⟨_,rfl,rfl⟩;refine WL.fact (fun _ _ _ s=>s.vec_one 0 rfl) fun hu3=>WL.nil ⟨(Ent.left [_] _),?_⟩;refine WE.take rfl (V.indexS T27.sl rfl rfl (by omega))<|WE.take rfl (V.fieldAddr T93.f1 rfl rfl)<|WE.last rfl<|L.store T60.sc rfl rfl hu3 (Wr.vec 1 rfl (by rw[List.length_map,List.length_range];omega)) ?_
  refine WL.nil<|WE.nil<|X.blockN<|X.thenN<|WP.region<|L.add' rfl rfl (by omega)<|L.move rfl<|WL.nil<|X.thenN ⟨(i+1,updV gv i u3),⟨by dsimp only;omega,fun j h1 h2=>by have h1:i+1≤j:=h1;show BytesAt h0 (if j=i then u3 else gv j) _;rw[if_neg (by omega)];exact hgv j (by omega) h2⟩,by dsimp only;omega,(Env.Sub.cons rfl rfl (Env.Sub.cons rfl rfl (Env.Sub.cons rfl rfl (Env.Sub.cons rfl rfl Env.Sub.nil)))),((Ent.pk [0,1,0,0,0,0] rfl)).trans ((Ent.doneS (Q':=fun j h=>BytesAt h (updV gv i u3 j) (r.table.vars.getD j .no).states) (fun j a b hj le hq=>by show BytesAt b (if j=i then u3 else gv j) _;rw[if_neg (by omega)];exact BytesAt.mono hq le) (fun a b le hp=>by show BytesAt b (if i=i then u3 else gv i) _;rw[if_pos rfl];exact BytesAt.mono (vec_map (In.self hp)) le)).trans ((Ent.pk [1,0,0,0,0] rfl).trans (Ent.of_eq (by dsimp only;rw[varF_set']))))⟩
  obtain rfl:i=r.table.vars.length:=by omega
  refine WP.exit<|X.thenE (X.thenE (X.blockE ?_))
  refine X.thenN<|WP.seq<|WP.regs<|L.fieldAddr (o':=6) T32.f3 rfl rfl<|L.fieldAddr (o':=10) T30.f4 rfl rfl<|L.load T28.sc rfl (Rd.own 3 rfl rfl)<|L.lenS T28.sl rfl rfl<|L.move rfl<|WL.nil<|WP.block<|WP.loop (X:=Nat × (Nat→Value)) (fun x=>⟨62,[],[(1,.pointer (some ⟨b1,0,none⟩)),(2,.pointer (some ⟨b2,0,none⟩)),(42,.int .i64 (r.table.rows.length:Int)),(43,.int .i64 (x.1:Int))]⟩) (fun x=>[vec 50 5 (.slice a2 r.table.rows.length c2) r.table.rows.length ((List.range (r.table.rows.length*5)).map (rowF x.2 r.table.rows)),(doneO (fun j h=>TermsAt h (x.2 j) (r.table.rows.getD j .no).around) x.1),vec 93 2 (.slice a1 r.table.vars.length c1) r.table.vars.length ((List.range (r.table.vars.length*2)).map (varF gv r.table.vars)),(doneO (fun j h=>BytesAt h (gv j) (r.table.vars.getD j .no).states) r.table.vars.length),cl b1 (ruleC r (.slice a1 r.table.vars.length c1) (.slice a2 r.table.rows.length c2)) 32,cl b2 (ruleC ⟨0,⟨0,0,0⟩,0,ByteArray.mk #[],⟨0,0,0,[],[]⟩⟩ (.slice none 0 0) (.slice none 0 0)) 32]) (fun x=>x.1≤r.table.rows.length∧∀ j,x.1≤j→j<r.table.rows.length→TermsAt h0 (x.2 j) (r.table.rows.getD j .no).around) (fun x=>r.table.rows.length-x.1) (0,rs) (⟨Nat.zero_le _,fun j _ hj=>hbr j hj⟩) (Env.Sub.cons rfl rfl (Env.Sub.cons rfl rfl (Env.Sub.cons rfl rfl (Env.Sub.cons rfl rfl Env.Sub.nil)))) (((Ent.pk [2,0,0,0,0] rfl)).trans ((Ent.done0 (fun j h=>TermsAt h (rs j) (r.table.rows.getD j .no).around)).trans ((Ent.pk [1,0,0,0,0,0] rfl).trans (Ent.of_eq rfl)))) ?_
  rintro ⟨i,g⟩ ⟨hi,hgv⟩
  dsimp only at hi hgv ⊢
  refine WP.regs<|L.lss rfl rfl<|WL.nil<|WP.seq<|WP.condD rfl (fun h44=>?_) (fun h44=>?_)
  refine WP.skip<|X.thenN<|WP.seq<|WP.block<|WP.regs<|L.move rfl<|L.assign rfl<|WL.nil<|WP.rege [(0,true),(1,true),(2,true),(3,true),(4,true),(5,true),(6,true),(7,true),(8,true),(9,true),(10,true),(11,false),(12,true),(13,true),(14,false)] 14 rfl (by kernel_rfl) (PInv.block (PInv.then (PInv.then (PInv.block (PInv.then PInv.ret))))) rfl<|WE.take rfl (V.fieldAddr (o':=6) T32.f3 rfl rfl)<|WE.take rfl (V.fieldAddr (o':=10) T30.f4 rfl rfl)<|WE.take rfl (V.load T28.sc rfl (Rd.own 4 rfl rfl))<|WE.take rfl (V.move rfl) ?_;refine WE.take rfl (V.fieldAddr (o':=6) T32.f3 rfl rfl)<|WE.take rfl (V.fieldAddr (o':=10) T30.f4 rfl rfl)<|WE.take rfl (V.load T28.sc rfl (Rd.own 4 rfl rfl))<|WE.take rfl (V.move rfl) ?_
  obtain⟨d2,hd2⟩:=hsa2 (by omega)
  subst hd2
  refine WE.take rfl (V.indexS T28.sl rfl rfl (by omega))<|WE.take rfl (V.fieldAddr T50.f1 rfl rfl)<|WE.take rfl (V.load T48.sc rfl (Rd.vec 0 rfl (rowF_rd _ _ _ _ (by omega))))<|WE.one rfl<|WL.call rfl rfl F82.fn rfl (FT.make fun g' gS dj=>cloneTerms (g i) _ _ (hsm.ar i (by omega)) (((hgv i (Nat.le_refl _) (by omega)).mono (Hp.le_un_left _ _))) (termF_one _)) ?_;rintro u3 _ ⟨_,rfl,rfl⟩;refine WL.fact (fun _ _ _ s=>s.vec_one 0 rfl) fun hu3=>WL.nil ⟨(Ent.left [_] _),?_⟩;refine WE.take rfl (V.indexS T28.sl rfl rfl (by omega))<|WE.take rfl (V.fieldAddr T50.f1 rfl rfl)<|WE.last rfl<|L.store T48.sc rfl rfl hu3 (Wr.vec 1 rfl (by rw[List.length_map,List.length_range];omega)) ?_
  refine WL.nil<|WE.nil<|X.blockN<|X.thenN<|WP.region<|L.add' rfl rfl (by omega)<|L.move rfl<|WL.nil<|X.thenN ⟨(i+1,updV g i u3),⟨by dsimp only;omega,fun j h1 h2=>by have h1:i+1≤j:=h1;show TermsAt h0 (if j=i then u3 else g j) _;rw[if_neg (by omega)];exact hgv j (by omega) h2⟩,by dsimp only;omega,(Env.Sub.cons rfl rfl (Env.Sub.cons rfl rfl (Env.Sub.cons rfl rfl (Env.Sub.cons rfl rfl Env.Sub.nil)))),((Ent.pk [0,1,0,0,0,0,0] rfl)).trans ((Ent.doneS (Q':=fun j h=>TermsAt h (updV g i u3 j) (r.table.rows.getD j .no).around) (fun j a b hj le hq=>by show TermsAt b (if j=i then u3 else g j) _;rw[if_neg (by omega)];exact TermsAt.mono hq le) (fun a b le hp=>by show TermsAt b (if i=i then u3 else g i) _;rw[if_pos rfl];exact TermsAt.mono (vec_map (In.self hp)) le)).trans ((Ent.pk [1,0,0,0,0,0] rfl).trans (Ent.of_eq (by dsimp only;rw[rowF_set']))))⟩
  obtain rfl:i=r.table.rows.length:=by omega
  refine WP.exit<|X.thenE (X.thenE (X.blockE ?_));refine X.thenN<|WP.regs<|L.loadN T32.ag rfl rfl (Rds.all 4 rfl)<|L.storeN T32.ag rfl rfl rfl (Wrs.all 5 rfl rfl (by simp[Value.oneCell']))<|WL.nil<|WP.ret<|X.ret rfl (ResCell1 rfl rfl T32.ag rfl (Rds.all 5 rfl))<|⟨_,rfl,_,⟨_,_,rfl,rfl⟩,((Ent.pk [2,2,0,0] rfl)).trans (Ent.vars.trans ((Ent.pk [1,1,0] rfl).trans (Ent.rows.trans ((Ent.pk [1,0] rfl).trans Ent.tab))))⟩
end
open Go.RowKit Go.Proofs
abbrev sea0C (r:RuleD) (t:TopoD) (most:Nat) (v w:Value):List Value:=
  [.int .u8 r.kind,.int .u8 r.life.hood,.int .u16 r.life.born,.int .u16 r.life.stay,.int .i64 r.gst,.string r.name,.int .i64 r.table.states,.int .u8 r.table.hood,.int .u8 r.table.sym,v,w,
   .int .u8 t.kind,.int .i64 t.w,.int .i64 t.h,.int .u8 t.turn,.int .i64 t.shift,.int .i64 r.nSt,.int .i64 (most:Int),
   .slice none 0 0,.map none,.map none,.map none,.map none,.slice none 0 0,.map none,.map none]
def SeaD.new (r:RuleD) (t:TopoD) (most:Nat):SeaD:=⟨r,t,r.nSt,most,[],[],[],[],[],[],[],[]⟩
section
variable {k:World} {h0:Hp}
set_option maxRecDepth 10000 in
set_option maxHeartbeats 2000000 in
theorem sea_compact0 (b:Nat) (r:RuleD) (t:TopoD) (most:Nat) (v w:Value):FT Pg 35 [.pointer (some ⟨b,0,none⟩)] k h0 [cl b (sea0C r t most v w) 59,tabO r.table v w] (Ret fun y τ=>y=.tuple #[]∧∃ A,τ=seaS b A (SeaD.new r t most)):=by
  refine FT.tight<|FT.of_wp (n:=60) Tryz.func35 rfl rfl rfl<|WP.regs<|L.box rfl rfl fun cB=>WL.nil<|WP.seq<|WP.rege [(0,true),(1,true),(2,true),(3,true),(4,true),(5,true),(6,true),(7,true),(8,false),(9,false),(10,true)] 11 rfl (by kernel_rfl) (PInv.then PInv.ret) rfl<|WE.take rfl (V.load T38.sc rfl (Rd.own 0 rfl rfl))<|WE.take rfl (V.nilCheck rfl)<|WE.take rfl (V.fieldAddr (o':=18) T59.f4 rfl rfl)<|WE.take rfl (V.load T51.sc rfl (Rd.own 1 rfl rfl))<|WE.take rfl (V.load T38.sc rfl (Rd.own 0 rfl rfl))<|WE.take rfl (V.nilCheck rfl) ?_;refine WE.take rfl (V.fieldAddr (o':=23) T59.f9 rfl rfl)<|WE.take rfl (V.load T56.sc rfl (Rd.own 1 rfl rfl))<|WE.one rfl<|L.alloc T51.z fun c2=>WL.nil ⟨(Ent.left [_] _),?_⟩
  refine WE.one rfl<|L.store T51.sc rfl rfl rfl (Wr.at 0 rfl rfl)<|WL.nil ⟨(Ent.left [_] _),?_⟩
  refine WE.take rfl (V.assign rfl)<|WE.nil<|X.thenN<|WP.cut (X:=Nat × Nat) (fun x=>⟨60,[],[(1,.pointer (some ⟨cB,0,none⟩)),(2,.pointer (some ⟨c2,0,none⟩)),(3,.slice none 0 0)]⟩) (fun x=>[cl b [.int .u8 r.kind,.int .u8 r.life.hood,.int .u16 r.life.born,.int .u16 r.life.stay,.int .i64 r.gst,.string r.name,.int .i64 r.table.states,.int .u8 r.table.hood,.int .u8 r.table.sym,v,w,.int .u8 t.kind,.int .i64 t.w,.int .i64 t.h,.int .u8 t.turn,.int .i64 t.shift,.int .i64 r.nSt,.int .i64 (most:Int),.slice none 0 0,.map (some x.1),.map (some x.2),.map none,.map none,.slice none 0 0,.map none,.map none] 59,cl cB [.pointer (some ⟨b,0,none⟩)] 38,cl c2 [.slice none 0 0] 51,tabO r.table v w,mpO x.1 encP [],mpO x.2 Value.string []]) (fun x=>True) ?_ ?_
  refine WP.regn _ rfl ?_ (Ent.pk [0,0,1] rfl)
  refine WT.read (m:=9) (fin:=fun l=>l == #[true,true,true,false,false,true,true,false,false,false,false,false,false,false]) [(0,true),(1,true),(2,true),(5,true),(6,true)] (by kernel_rfl) (PInv.then PInv.ret) ((Ent.pk [0,0,1] rfl))<|WE.take rfl (V.load T38.sc rfl (Rd.own 1 rfl rfl))<|WE.take rfl (V.load T38.sc rfl (Rd.own 1 rfl rfl))<|WE.take rfl (V.load T38.sc rfl (Rd.own 1 rfl rfl))<|WE.take rfl (V.nilCheck rfl)<|WE.take rfl (V.fieldAddr (o':=18) T59.f4 rfl rfl)<|WE.free #[true,true,true,false,false,true,true,false,false,false,false,false,false,false]<|WN.three 3 4 7 (by kernel_rfl) rfl rfl rfl ?_ ?_ ?_
  refine L.makeMap (α:=Nat × Nat) (enc:=encP) fun mP=>WL.nil ⟨(Ent.pk [1,1,2] rfl),?_⟩;refine WN.two 4 7 (by kernel_rfl) rfl rfl ?_ ?_;refine L.makeMap (α:=ByteArray) (enc:=Value.string) fun mR=>WL.nil ⟨(Ent.pk [2,2,3] rfl),?_⟩;refine WN.one 7 (by kernel_rfl) rfl<|L.store T51.sc rfl rfl rfl (Wr.at 4 rfl rfl)<|WL.nil ⟨(Ent.pk [2,2,3] rfl),?_⟩
  refine WT.read (m:=4) (fin:=fun l=>l == #[true,true,true,true,true,true,true,true,true,true,false,false,false,false]) [(8,true),(9,true)] (by kernel_rfl) (PInv.then PInv.ret) ((Ent.pk [2,2,3] rfl))<|WE.take rfl (V.nilCheck rfl)<|WE.take rfl (V.fieldAddr (o':=19) T59.f5 rfl rfl)<|WE.free #[true,true,true,true,true,true,true,true,true,true,false,false,false,false]<|WN.one 10 (by kernel_rfl) rfl<|L.store T52.sc rfl rfl rfl (Wr.at 4 rfl rfl)<|WL.nil ⟨(Ent.pk [2,2,3] rfl),?_⟩
  refine WT.read (m:=1) (fin:=fun l=>l == #[true,true,true,true,true,true,true,true,true,true,true,true,true,false]) [(11,true),(12,true)] (by kernel_rfl) (PInv.then PInv.ret) ((Ent.pk [2,2,3] rfl))<|WE.take rfl (V.nilCheck rfl)<|WE.take rfl (V.fieldAddr (o':=20) T59.f6 rfl rfl)<|WE.free #[true,true,true,true,true,true,true,true,true,true,true,true,true,false]<|WN.one 13 (by kernel_rfl) rfl<|L.store T53.sc rfl rfl rfl (Wr.at 4 rfl rfl)<|WL.nil ⟨(Ent.pk [2,2,3] rfl),?_⟩;refine WT.nil (by kernel_rfl)<|X.thenN ⟨(mP,mR),trivial,(Env.Sub.cons rfl rfl (Env.Sub.cons rfl rfl (Env.Sub.cons rfl rfl Env.Sub.nil))),(Ent.pk [4,3,2,2,1,0] rfl)⟩
  refine L.store T51.sc rfl rfl rfl (Wr.at 3 rfl rfl)<|WL.nil ⟨(Ent.pk [1,1,2] rfl),?_⟩;refine WT.read (m:=5) (fin:=fun l=>l == #[true,true,true,true,false,true,true,true,true,true,false,false,false,false]) [(8,true),(9,true)] (by kernel_rfl) (PInv.then PInv.ret) ((Ent.pk [1,1,2] rfl))<|WE.take rfl (V.nilCheck rfl)<|WE.take rfl (V.fieldAddr (o':=19) T59.f5 rfl rfl)<|WE.free #[true,true,true,true,false,true,true,true,true,true,false,false,false,false]<|WN.two 4 10 (by kernel_rfl) rfl rfl ?_ ?_;refine L.makeMap (α:=ByteArray) (enc:=Value.string) fun mR=>WL.nil ⟨(Ent.pk [2,2,3] rfl),?_⟩
  refine WN.one 10 (by kernel_rfl) rfl<|L.store T52.sc rfl rfl rfl (Wr.at 4 rfl rfl)<|WL.nil ⟨(Ent.pk [2,2,3] rfl),?_⟩;refine WT.read (m:=1) (fin:=fun l=>l == #[true,true,true,true,true,true,true,true,true,true,true,true,true,false]) [(11,true),(12,true)] (by kernel_rfl) (PInv.then PInv.ret) ((Ent.pk [2,2,3] rfl))<|WE.take rfl (V.nilCheck rfl)<|WE.take rfl (V.fieldAddr (o':=20) T59.f6 rfl rfl)<|WE.free #[true,true,true,true,true,true,true,true,true,true,true,true,true,false]<|WN.one 13 (by kernel_rfl) rfl<|L.store T53.sc rfl rfl rfl (Wr.at 4 rfl rfl)<|WL.nil ⟨(Ent.pk [2,2,3] rfl),?_⟩
  refine WT.nil (by kernel_rfl)<|X.thenN ⟨(mP,mR),trivial,(Env.Sub.cons rfl rfl (Env.Sub.cons rfl rfl (Env.Sub.cons rfl rfl Env.Sub.nil))),(Ent.pk [4,3,2,2,1,0] rfl)⟩;refine L.store T52.sc rfl rfl rfl (Wr.at 3 rfl rfl)<|WL.nil ⟨(Ent.pk [1,1,2] rfl),?_⟩;refine WN.one 4 (by kernel_rfl) rfl<|L.makeMap (α:=ByteArray) (enc:=Value.string) fun mR=>WL.nil ⟨(Ent.pk [2,2,3] rfl),?_⟩
  refine WT.read (m:=1) (fin:=fun l=>l == #[true,true,true,true,true,true,true,true,true,true,true,true,true,false]) [(11,true),(12,true)] (by kernel_rfl) (PInv.then PInv.ret) ((Ent.pk [2,2,3] rfl))<|WE.take rfl (V.nilCheck rfl)<|WE.take rfl (V.fieldAddr (o':=20) T59.f6 rfl rfl)<|WE.free #[true,true,true,true,true,true,true,true,true,true,true,true,true,false]<|WN.one 13 (by kernel_rfl) rfl<|L.store T53.sc rfl rfl rfl (Wr.at 4 rfl rfl)<|WL.nil ⟨(Ent.pk [2,2,3] rfl),?_⟩;refine WT.nil (by kernel_rfl)<|X.thenN ⟨(mP,mR),trivial,(Env.Sub.cons rfl rfl (Env.Sub.cons rfl rfl (Env.Sub.cons rfl rfl Env.Sub.nil))),(Ent.pk [4,3,2,2,1,0] rfl)⟩
  refine L.makeMap (α:=ByteArray) (enc:=Value.string) fun mR=>WL.nil ⟨(Ent.pk [1,1,2] rfl),?_⟩;refine WN.two 3 7 (by kernel_rfl) rfl rfl ?_ ?_;refine L.makeMap (α:=Nat × Nat) (enc:=encP) fun mP=>WL.nil ⟨(Ent.pk [2,2,3] rfl),?_⟩;refine WN.one 7 (by kernel_rfl) rfl<|L.store T51.sc rfl rfl rfl (Wr.at 4 rfl rfl)<|WL.nil ⟨(Ent.pk [2,2,3] rfl),?_⟩
  refine WT.read (m:=4) (fin:=fun l=>l == #[true,true,true,true,true,true,true,true,true,true,false,false,false,false]) [(8,true),(9,true)] (by kernel_rfl) (PInv.then PInv.ret) ((Ent.pk [2,2,3] rfl))<|WE.take rfl (V.nilCheck rfl)<|WE.take rfl (V.fieldAddr (o':=19) T59.f5 rfl rfl)<|WE.free #[true,true,true,true,true,true,true,true,true,true,false,false,false,false]<|WN.one 10 (by kernel_rfl) rfl<|L.store T52.sc rfl rfl rfl (Wr.at 4 rfl rfl)<|WL.nil ⟨(Ent.pk [2,2,3] rfl),?_⟩
  refine WT.read (m:=1) (fin:=fun l=>l == #[true,true,true,true,true,true,true,true,true,true,true,true,true,false]) [(11,true),(12,true)] (by kernel_rfl) (PInv.then PInv.ret) ((Ent.pk [2,2,3] rfl))<|WE.take rfl (V.nilCheck rfl)<|WE.take rfl (V.fieldAddr (o':=20) T59.f6 rfl rfl)<|WE.free #[true,true,true,true,true,true,true,true,true,true,true,true,true,false]<|WN.one 13 (by kernel_rfl) rfl<|L.store T53.sc rfl rfl rfl (Wr.at 4 rfl rfl)<|WL.nil ⟨(Ent.pk [2,2,3] rfl),?_⟩;refine WT.nil (by kernel_rfl)<|X.thenN ⟨(mP,mR),trivial,(Env.Sub.cons rfl rfl (Env.Sub.cons rfl rfl (Env.Sub.cons rfl rfl Env.Sub.nil))),(Ent.pk [4,3,2,2,0,0] rfl)⟩
  refine L.store T51.sc rfl rfl rfl (Wr.at 3 rfl rfl)<|WL.nil ⟨(Ent.pk [1,1,2] rfl),?_⟩;refine WN.one 3 (by kernel_rfl) rfl<|L.makeMap (α:=Nat × Nat) (enc:=encP) fun mP=>WL.nil ⟨(Ent.pk [2,2,3] rfl),?_⟩
  refine WT.read (m:=4) (fin:=fun l=>l == #[true,true,true,true,true,true,true,true,true,true,false,false,false,false]) [(8,true),(9,true)] (by kernel_rfl) (PInv.then PInv.ret) ((Ent.pk [2,2,3] rfl))<|WE.take rfl (V.nilCheck rfl)<|WE.take rfl (V.fieldAddr (o':=19) T59.f5 rfl rfl)<|WE.free #[true,true,true,true,true,true,true,true,true,true,false,false,false,false]<|WN.one 10 (by kernel_rfl) rfl<|L.store T52.sc rfl rfl rfl (Wr.at 4 rfl rfl)<|WL.nil ⟨(Ent.pk [2,2,3] rfl),?_⟩
  refine WT.read (m:=1) (fin:=fun l=>l == #[true,true,true,true,true,true,true,true,true,true,true,true,true,false]) [(11,true),(12,true)] (by kernel_rfl) (PInv.then PInv.ret) ((Ent.pk [2,2,3] rfl))<|WE.take rfl (V.nilCheck rfl)<|WE.take rfl (V.fieldAddr (o':=20) T59.f6 rfl rfl)<|WE.free #[true,true,true,true,true,true,true,true,true,true,true,true,true,false]<|WN.one 13 (by kernel_rfl) rfl<|L.store T53.sc rfl rfl rfl (Wr.at 4 rfl rfl)<|WL.nil ⟨(Ent.pk [2,2,3] rfl),?_⟩;refine WT.nil (by kernel_rfl)<|X.thenN ⟨(mP,mR),trivial,(Env.Sub.cons rfl rfl (Env.Sub.cons rfl rfl (Env.Sub.cons rfl rfl Env.Sub.nil))),(Ent.pk [4,3,2,2,0,0] rfl)⟩
  refine L.store T51.sc rfl rfl rfl (Wr.at 2 rfl rfl)<|WL.nil ⟨(Ent.pk [0,0,1] rfl),?_⟩;refine WN.two 3 4 (by kernel_rfl) rfl rfl ?_ ?_;refine L.makeMap (α:=Nat × Nat) (enc:=encP) fun mP=>WL.nil ⟨(Ent.pk [1,1,2] rfl),?_⟩;refine WT.read (m:=5) (fin:=fun l=>l == #[true,true,true,true,false,true,true,true,true,true,false,false,false,false]) [(8,true),(9,true)] (by kernel_rfl) (PInv.then PInv.ret) ((Ent.pk [1,1,2] rfl))<|WE.take rfl (V.nilCheck rfl)<|WE.take rfl (V.fieldAddr (o':=19) T59.f5 rfl rfl)<|WE.free #[true,true,true,true,false,true,true,true,true,true,false,false,false,false]<|WN.two 4 10 (by kernel_rfl) rfl rfl ?_ ?_
  refine L.makeMap (α:=ByteArray) (enc:=Value.string) fun mR=>WL.nil ⟨(Ent.pk [2,2,3] rfl),?_⟩;refine WN.one 10 (by kernel_rfl) rfl<|L.store T52.sc rfl rfl rfl (Wr.at 4 rfl rfl)<|WL.nil ⟨(Ent.pk [2,2,3] rfl),?_⟩
  refine WT.read (m:=1) (fin:=fun l=>l == #[true,true,true,true,true,true,true,true,true,true,true,true,true,false]) [(11,true),(12,true)] (by kernel_rfl) (PInv.then PInv.ret) ((Ent.pk [2,2,3] rfl))<|WE.take rfl (V.nilCheck rfl)<|WE.take rfl (V.fieldAddr (o':=20) T59.f6 rfl rfl)<|WE.free #[true,true,true,true,true,true,true,true,true,true,true,true,true,false]<|WN.one 13 (by kernel_rfl) rfl<|L.store T53.sc rfl rfl rfl (Wr.at 4 rfl rfl)<|WL.nil ⟨(Ent.pk [2,2,3] rfl),?_⟩;refine WT.nil (by kernel_rfl)<|X.thenN ⟨(mP,mR),trivial,(Env.Sub.cons rfl rfl (Env.Sub.cons rfl rfl (Env.Sub.cons rfl rfl Env.Sub.nil))),(Ent.pk [4,3,2,2,1,0] rfl)⟩
  refine L.store T52.sc rfl rfl rfl (Wr.at 3 rfl rfl)<|WL.nil ⟨(Ent.pk [1,1,2] rfl),?_⟩;refine WN.one 4 (by kernel_rfl) rfl<|L.makeMap (α:=ByteArray) (enc:=Value.string) fun mR=>WL.nil ⟨(Ent.pk [2,2,3] rfl),?_⟩
  refine WT.read (m:=1) (fin:=fun l=>l == #[true,true,true,true,true,true,true,true,true,true,true,true,true,false]) [(11,true),(12,true)] (by kernel_rfl) (PInv.then PInv.ret) ((Ent.pk [2,2,3] rfl))<|WE.take rfl (V.nilCheck rfl)<|WE.take rfl (V.fieldAddr (o':=20) T59.f6 rfl rfl)<|WE.free #[true,true,true,true,true,true,true,true,true,true,true,true,true,false]<|WN.one 13 (by kernel_rfl) rfl<|L.store T53.sc rfl rfl rfl (Wr.at 4 rfl rfl)<|WL.nil ⟨(Ent.pk [2,2,3] rfl),?_⟩;refine WT.nil (by kernel_rfl)<|X.thenN ⟨(mP,mR),trivial,(Env.Sub.cons rfl rfl (Env.Sub.cons rfl rfl (Env.Sub.cons rfl rfl Env.Sub.nil))),(Ent.pk [4,3,2,2,1,0] rfl)⟩
  refine L.makeMap (α:=ByteArray) (enc:=Value.string) fun mR=>WL.nil ⟨(Ent.pk [1,1,2] rfl),?_⟩;refine WN.one 3 (by kernel_rfl) rfl<|L.makeMap (α:=Nat × Nat) (enc:=encP) fun mP=>WL.nil ⟨(Ent.pk [2,2,3] rfl),?_⟩
  refine WT.read (m:=4) (fin:=fun l=>l == #[true,true,true,true,true,true,true,true,true,true,false,false,false,false]) [(8,true),(9,true)] (by kernel_rfl) (PInv.then PInv.ret) ((Ent.pk [2,2,3] rfl))<|WE.take rfl (V.nilCheck rfl)<|WE.take rfl (V.fieldAddr (o':=19) T59.f5 rfl rfl)<|WE.free #[true,true,true,true,true,true,true,true,true,true,false,false,false,false]<|WN.one 10 (by kernel_rfl) rfl<|L.store T52.sc rfl rfl rfl (Wr.at 4 rfl rfl)<|WL.nil ⟨(Ent.pk [2,2,3] rfl),?_⟩
  refine WT.read (m:=1) (fin:=fun l=>l == #[true,true,true,true,true,true,true,true,true,true,true,true,true,false]) [(11,true),(12,true)] (by kernel_rfl) (PInv.then PInv.ret) ((Ent.pk [2,2,3] rfl))<|WE.take rfl (V.nilCheck rfl)<|WE.take rfl (V.fieldAddr (o':=20) T59.f6 rfl rfl)<|WE.free #[true,true,true,true,true,true,true,true,true,true,true,true,true,false]<|WN.one 13 (by kernel_rfl) rfl<|L.store T53.sc rfl rfl rfl (Wr.at 4 rfl rfl)<|WL.nil ⟨(Ent.pk [2,2,3] rfl),?_⟩;refine WT.nil (by kernel_rfl)<|X.thenN ⟨(mP,mR),trivial,(Env.Sub.cons rfl rfl (Env.Sub.cons rfl rfl (Env.Sub.cons rfl rfl Env.Sub.nil))),(Ent.pk [4,3,2,2,0,0] rfl)⟩
  rintro ⟨mP,mR⟩ _
  refine WP.cut (X:=Nat × Nat) (fun x=>⟨60,[],[(1,.pointer (some ⟨cB,0,none⟩)),(2,.pointer (some ⟨c2,0,none⟩)),(3,.slice none 0 0)]⟩) (fun x=>[cl b [.int .u8 r.kind,.int .u8 r.life.hood,.int .u16 r.life.born,.int .u16 r.life.stay,.int .i64 r.gst,.string r.name,.int .i64 r.table.states,.int .u8 r.table.hood,.int .u8 r.table.sym,v,w,.int .u8 t.kind,.int .i64 t.w,.int .i64 t.h,.int .u8 t.turn,.int .i64 t.shift,.int .i64 r.nSt,.int .i64 (most:Int),.slice none 0 0,.map (some mP),.map (some mR),.map (some x.1),.map (some x.2),.slice none 0 0,.map none,.map none] 59,cl cB [.pointer (some ⟨b,0,none⟩)] 38,cl c2 [.slice none 0 0] 51,tabO r.table v w,mpO mP encP [],mpO mR Value.string [],mpO x.1 encP [],mpO x.2 enc3 []]) (fun x=>True) ?_ ?_
  refine WP.regn _ rfl ?_ (Ent.left [_] _);refine WT.read (m:=8) (fin:=fun l=>l == #[true,true,false,false,false,false,false,false,false,false]) [(0,true),(1,true)] (by kernel_rfl) (PInv.then PInv.ret) ((Ent.left [_] _))<|WE.take rfl (V.load T38.sc rfl (Rd.own 0 rfl rfl))<|WE.take rfl (V.load T38.sc rfl (Rd.own 0 rfl rfl))<|WE.free #[true,true,false,false,false,false,false,false,false,false]<|WN.two 2 3 (by kernel_rfl) rfl rfl ?_ ?_;refine L.makeMap (α:=Nat × Nat) (enc:=encP) fun mL=>WL.nil ⟨(Ent.left [_,_] _),?_⟩
  refine WT.read (m:=5) (fin:=fun l=>l == #[true,true,true,false,true,true,false,false,false,false]) [(4,true),(5,true)] (by kernel_rfl) (PInv.then PInv.ret) ((Ent.left [_,_] _))<|WE.take rfl (V.nilCheck rfl)<|WE.take rfl (V.fieldAddr (o':=21) T59.f7 rfl rfl)<|WE.free #[true,true,true,false,true,true,false,false,false,false]<|WN.two 3 6 (by kernel_rfl) rfl rfl ?_ ?_;refine L.makeMap (α:=Nat × Nat × Nat) (enc:=enc3) fun mQ=>WL.nil ⟨(Ent.left [_,_,_] _),?_⟩;refine WN.one 6 (by kernel_rfl) rfl<|L.store T54.sc rfl rfl rfl (Wr.at 2 rfl rfl)<|WL.nil ⟨(Ent.left [_,_,_] _),?_⟩
  refine WT.read (m:=1) (fin:=fun l=>l == #[true,true,true,true,true,true,true,true,true,false]) [(7,true),(8,true)] (by kernel_rfl) (PInv.then PInv.ret) ((Ent.left [_,_,_] _))<|WE.take rfl (V.nilCheck rfl)<|WE.take rfl (V.fieldAddr (o':=22) T59.f8 rfl rfl)<|WE.free #[true,true,true,true,true,true,true,true,true,false]<|WN.one 9 (by kernel_rfl) rfl<|L.store T55.sc rfl rfl rfl (Wr.at 2 rfl rfl)<|WL.nil ⟨(Ent.left [_,_,_] _),?_⟩;refine WT.nil (by kernel_rfl)<|X.thenN ⟨(mL,mQ),trivial,(Env.Sub.cons rfl rfl (Env.Sub.cons rfl rfl (Env.Sub.cons rfl rfl Env.Sub.nil))),(Ent.pk [2,2,2,2,2,2,1,0] rfl)⟩
  refine L.store T54.sc rfl rfl rfl (Wr.at 1 rfl rfl)<|WL.nil ⟨(Ent.left [_,_] _),?_⟩;refine WN.one 3 (by kernel_rfl) rfl<|L.makeMap (α:=Nat × Nat × Nat) (enc:=enc3) fun mQ=>WL.nil ⟨(Ent.left [_,_,_] _),?_⟩;refine WT.read (m:=1) (fin:=fun l=>l == #[true,true,true,true,true,true,true,true,true,false]) [(7,true),(8,true)] (by kernel_rfl) (PInv.then PInv.ret) ((Ent.left [_,_,_] _))<|WE.take rfl (V.nilCheck rfl)<|WE.take rfl (V.fieldAddr (o':=22) T59.f8 rfl rfl)<|WE.free #[true,true,true,true,true,true,true,true,true,false]<|WN.one 9 (by kernel_rfl) rfl<|L.store T55.sc rfl rfl rfl (Wr.at 2 rfl rfl)<|WL.nil ⟨(Ent.left [_,_,_] _),?_⟩
  refine WT.nil (by kernel_rfl)<|X.thenN ⟨(mL,mQ),trivial,(Env.Sub.cons rfl rfl (Env.Sub.cons rfl rfl (Env.Sub.cons rfl rfl Env.Sub.nil))),(Ent.pk [2,2,2,2,2,2,1,0] rfl)⟩;refine L.makeMap (α:=Nat × Nat × Nat) (enc:=enc3) fun mQ=>WL.nil ⟨(Ent.left [_,_] _),?_⟩;refine WN.one 2 (by kernel_rfl) rfl<|L.makeMap (α:=Nat × Nat) (enc:=encP) fun mL=>WL.nil ⟨(Ent.left [_,_,_] _),?_⟩
  refine WT.read (m:=4) (fin:=fun l=>l == #[true,true,true,true,true,true,false,false,false,false]) [(4,true),(5,true)] (by kernel_rfl) (PInv.then PInv.ret) ((Ent.left [_,_,_] _))<|WE.take rfl (V.nilCheck rfl)<|WE.take rfl (V.fieldAddr (o':=21) T59.f7 rfl rfl)<|WE.free #[true,true,true,true,true,true,false,false,false,false]<|WN.one 6 (by kernel_rfl) rfl<|L.store T54.sc rfl rfl rfl (Wr.at 2 rfl rfl)<|WL.nil ⟨(Ent.left [_,_,_] _),?_⟩
  refine WT.read (m:=1) (fin:=fun l=>l == #[true,true,true,true,true,true,true,true,true,false]) [(7,true),(8,true)] (by kernel_rfl) (PInv.then PInv.ret) ((Ent.left [_,_,_] _))<|WE.take rfl (V.nilCheck rfl)<|WE.take rfl (V.fieldAddr (o':=22) T59.f8 rfl rfl)<|WE.free #[true,true,true,true,true,true,true,true,true,false]<|WN.one 9 (by kernel_rfl) rfl<|L.store T55.sc rfl rfl rfl (Wr.at 2 rfl rfl)<|WL.nil ⟨(Ent.left [_,_,_] _),?_⟩;refine WT.nil (by kernel_rfl)<|X.thenN ⟨(mL,mQ),trivial,(Env.Sub.cons rfl rfl (Env.Sub.cons rfl rfl (Env.Sub.cons rfl rfl Env.Sub.nil))),(Ent.pk [2,2,2,2,2,2,0,0] rfl)⟩
  rintro ⟨mL,mQ⟩ _
  refine WP.cut (X:=Nat × Nat) (fun x=>⟨60,[],[(1,.pointer (some ⟨cB,0,none⟩)),(2,.pointer (some ⟨c2,0,none⟩)),(3,.slice none 0 0)]⟩) (fun x=>[cl b [.int .u8 r.kind,.int .u8 r.life.hood,.int .u16 r.life.born,.int .u16 r.life.stay,.int .i64 r.gst,.string r.name,.int .i64 r.table.states,.int .u8 r.table.hood,.int .u8 r.table.sym,v,w,.int .u8 t.kind,.int .i64 t.w,.int .i64 t.h,.int .u8 t.turn,.int .i64 t.shift,.int .i64 r.nSt,.int .i64 (most:Int),.slice none 0 0,.map (some mP),.map (some mR),.map (some mL),.map (some mQ),.slice none 0 0,.map (some x.1),.map (some x.2)] 59,cl cB [.pointer (some ⟨b,0,none⟩)] 38,cl c2 [.slice none 0 0] 51,tabO r.table v w,mpO mP encP [],mpO mR Value.string [],mpO mL encP [],mpO mQ enc3 [],mpO x.1 encI [],mpO x.2 encI []]) (fun x=>True) ?_ ?_
  refine WP.regn _ rfl ?_ (Ent.left [_] _);refine WT.read (m:=9) (fin:=fun l=>l == #[true,true,true,false,false,true,true,false,false,false,false,false,false,false]) [(0,true),(1,true),(2,true),(5,true),(6,true)] (by kernel_rfl) (PInv.then PInv.ret) ((Ent.left [_] _))<|WE.take rfl (V.load T38.sc rfl (Rd.own 0 rfl rfl))<|WE.take rfl (V.load T38.sc rfl (Rd.own 0 rfl rfl))<|WE.take rfl (V.load T38.sc rfl (Rd.own 0 rfl rfl))<|WE.take rfl (V.nilCheck rfl)<|WE.take rfl (V.fieldAddr (o':=23) T59.f9 rfl rfl)<|WE.free #[true,true,true,false,false,true,true,false,false,false,false,false,false,false]<|WN.three 3 4 7 (by kernel_rfl) rfl rfl rfl ?_ ?_ ?_
  refine L.makeMap (α:=Nat) (enc:=encI) fun mM=>WL.nil ⟨(Ent.left [_,_] _),?_⟩;refine WN.two 4 7 (by kernel_rfl) rfl rfl ?_ ?_;refine L.makeMap (α:=Nat) (enc:=encI) fun mK=>WL.nil ⟨(Ent.left [_,_,_] _),?_⟩;refine WN.one 7 (by kernel_rfl) rfl<|L.store T56.sc rfl rfl rfl (Wr.at 2 rfl rfl)<|WL.nil ⟨(Ent.left [_,_,_] _),?_⟩
  refine WT.read (m:=4) (fin:=fun l=>l == #[true,true,true,true,true,true,true,true,true,true,false,false,false,false]) [(8,true),(9,true)] (by kernel_rfl) (PInv.then PInv.ret) ((Ent.left [_,_,_] _))<|WE.take rfl (V.nilCheck rfl)<|WE.take rfl (V.fieldAddr (o':=24) T59.f10 rfl rfl)<|WE.free #[true,true,true,true,true,true,true,true,true,true,false,false,false,false]<|WN.one 10 (by kernel_rfl) rfl<|L.store T57.sc rfl rfl rfl (Wr.at 2 rfl rfl)<|WL.nil ⟨(Ent.left [_,_,_] _),?_⟩
  refine WT.read (m:=1) (fin:=fun l=>l == #[true,true,true,true,true,true,true,true,true,true,true,true,true,false]) [(11,true),(12,true)] (by kernel_rfl) (PInv.then PInv.ret) ((Ent.left [_,_,_] _))<|WE.take rfl (V.nilCheck rfl)<|WE.take rfl (V.fieldAddr (o':=25) T59.f11 rfl rfl)<|WE.free #[true,true,true,true,true,true,true,true,true,true,true,true,true,false]<|WN.one 13 (by kernel_rfl) rfl<|L.store T57.sc rfl rfl rfl (Wr.at 2 rfl rfl)<|WL.nil ⟨(Ent.left [_,_,_] _),?_⟩
  refine WT.nil (by kernel_rfl)<|X.thenN ⟨(mM,mK),trivial,(Env.Sub.cons rfl rfl (Env.Sub.cons rfl rfl (Env.Sub.cons rfl rfl Env.Sub.nil))),(Ent.pk [2,2,2,2,2,2,2,2,1,0] rfl)⟩;refine L.store T56.sc rfl rfl rfl (Wr.at 1 rfl rfl)<|WL.nil ⟨(Ent.left [_,_] _),?_⟩
  refine WT.read (m:=5) (fin:=fun l=>l == #[true,true,true,true,false,true,true,true,true,true,false,false,false,false]) [(8,true),(9,true)] (by kernel_rfl) (PInv.then PInv.ret) ((Ent.left [_,_] _))<|WE.take rfl (V.nilCheck rfl)<|WE.take rfl (V.fieldAddr (o':=24) T59.f10 rfl rfl)<|WE.free #[true,true,true,true,false,true,true,true,true,true,false,false,false,false]<|WN.two 4 10 (by kernel_rfl) rfl rfl ?_ ?_;refine L.makeMap (α:=Nat) (enc:=encI) fun mK=>WL.nil ⟨(Ent.left [_,_,_] _),?_⟩;refine WN.one 10 (by kernel_rfl) rfl<|L.store T57.sc rfl rfl rfl (Wr.at 2 rfl rfl)<|WL.nil ⟨(Ent.left [_,_,_] _),?_⟩
  refine WT.read (m:=1) (fin:=fun l=>l == #[true,true,true,true,true,true,true,true,true,true,true,true,true,false]) [(11,true),(12,true)] (by kernel_rfl) (PInv.then PInv.ret) ((Ent.left [_,_,_] _))<|WE.take rfl (V.nilCheck rfl)<|WE.take rfl (V.fieldAddr (o':=25) T59.f11 rfl rfl)<|WE.free #[true,true,true,true,true,true,true,true,true,true,true,true,true,false]<|WN.one 13 (by kernel_rfl) rfl<|L.store T57.sc rfl rfl rfl (Wr.at 2 rfl rfl)<|WL.nil ⟨(Ent.left [_,_,_] _),?_⟩
  refine WT.nil (by kernel_rfl)<|X.thenN ⟨(mM,mK),trivial,(Env.Sub.cons rfl rfl (Env.Sub.cons rfl rfl (Env.Sub.cons rfl rfl Env.Sub.nil))),(Ent.pk [2,2,2,2,2,2,2,2,1,0] rfl)⟩;refine L.store T57.sc rfl rfl rfl (Wr.at 1 rfl rfl)<|WL.nil ⟨(Ent.left [_,_] _),?_⟩;refine WN.one 4 (by kernel_rfl) rfl<|L.makeMap (α:=Nat) (enc:=encI) fun mK=>WL.nil ⟨(Ent.left [_,_,_] _),?_⟩
  refine WT.read (m:=1) (fin:=fun l=>l == #[true,true,true,true,true,true,true,true,true,true,true,true,true,false]) [(11,true),(12,true)] (by kernel_rfl) (PInv.then PInv.ret) ((Ent.left [_,_,_] _))<|WE.take rfl (V.nilCheck rfl)<|WE.take rfl (V.fieldAddr (o':=25) T59.f11 rfl rfl)<|WE.free #[true,true,true,true,true,true,true,true,true,true,true,true,true,false]<|WN.one 13 (by kernel_rfl) rfl<|L.store T57.sc rfl rfl rfl (Wr.at 2 rfl rfl)<|WL.nil ⟨(Ent.left [_,_,_] _),?_⟩
  refine WT.nil (by kernel_rfl)<|X.thenN ⟨(mM,mK),trivial,(Env.Sub.cons rfl rfl (Env.Sub.cons rfl rfl (Env.Sub.cons rfl rfl Env.Sub.nil))),(Ent.pk [2,2,2,2,2,2,2,2,1,0] rfl)⟩;refine L.makeMap (α:=Nat) (enc:=encI) fun mK=>WL.nil ⟨(Ent.left [_,_] _),?_⟩;refine WN.two 3 7 (by kernel_rfl) rfl rfl ?_ ?_;refine L.makeMap (α:=Nat) (enc:=encI) fun mM=>WL.nil ⟨(Ent.left [_,_,_] _),?_⟩;refine WN.one 7 (by kernel_rfl) rfl<|L.store T56.sc rfl rfl rfl (Wr.at 2 rfl rfl)<|WL.nil ⟨(Ent.left [_,_,_] _),?_⟩
  refine WT.read (m:=4) (fin:=fun l=>l == #[true,true,true,true,true,true,true,true,true,true,false,false,false,false]) [(8,true),(9,true)] (by kernel_rfl) (PInv.then PInv.ret) ((Ent.left [_,_,_] _))<|WE.take rfl (V.nilCheck rfl)<|WE.take rfl (V.fieldAddr (o':=24) T59.f10 rfl rfl)<|WE.free #[true,true,true,true,true,true,true,true,true,true,false,false,false,false]<|WN.one 10 (by kernel_rfl) rfl<|L.store T57.sc rfl rfl rfl (Wr.at 2 rfl rfl)<|WL.nil ⟨(Ent.left [_,_,_] _),?_⟩
  refine WT.read (m:=1) (fin:=fun l=>l == #[true,true,true,true,true,true,true,true,true,true,true,true,true,false]) [(11,true),(12,true)] (by kernel_rfl) (PInv.then PInv.ret) ((Ent.left [_,_,_] _))<|WE.take rfl (V.nilCheck rfl)<|WE.take rfl (V.fieldAddr (o':=25) T59.f11 rfl rfl)<|WE.free #[true,true,true,true,true,true,true,true,true,true,true,true,true,false]<|WN.one 13 (by kernel_rfl) rfl<|L.store T57.sc rfl rfl rfl (Wr.at 2 rfl rfl)<|WL.nil ⟨(Ent.left [_,_,_] _),?_⟩
  refine WT.nil (by kernel_rfl)<|X.thenN ⟨(mM,mK),trivial,(Env.Sub.cons rfl rfl (Env.Sub.cons rfl rfl (Env.Sub.cons rfl rfl Env.Sub.nil))),(Ent.pk [2,2,2,2,2,2,2,2,0,0] rfl)⟩;refine L.store T56.sc rfl rfl rfl (Wr.at 1 rfl rfl)<|WL.nil ⟨(Ent.left [_,_] _),?_⟩;refine WN.one 3 (by kernel_rfl) rfl<|L.makeMap (α:=Nat) (enc:=encI) fun mM=>WL.nil ⟨(Ent.left [_,_,_] _),?_⟩
  refine WT.read (m:=4) (fin:=fun l=>l == #[true,true,true,true,true,true,true,true,true,true,false,false,false,false]) [(8,true),(9,true)] (by kernel_rfl) (PInv.then PInv.ret) ((Ent.left [_,_,_] _))<|WE.take rfl (V.nilCheck rfl)<|WE.take rfl (V.fieldAddr (o':=24) T59.f10 rfl rfl)<|WE.free #[true,true,true,true,true,true,true,true,true,true,false,false,false,false]<|WN.one 10 (by kernel_rfl) rfl<|L.store T57.sc rfl rfl rfl (Wr.at 2 rfl rfl)<|WL.nil ⟨(Ent.left [_,_,_] _),?_⟩
  refine WT.read (m:=1) (fin:=fun l=>l == #[true,true,true,true,true,true,true,true,true,true,true,true,true,false]) [(11,true),(12,true)] (by kernel_rfl) (PInv.then PInv.ret) ((Ent.left [_,_,_] _))<|WE.take rfl (V.nilCheck rfl)<|WE.take rfl (V.fieldAddr (o':=25) T59.f11 rfl rfl)<|WE.free #[true,true,true,true,true,true,true,true,true,true,true,true,true,false]<|WN.one 13 (by kernel_rfl) rfl<|L.store T57.sc rfl rfl rfl (Wr.at 2 rfl rfl)<|WL.nil ⟨(Ent.left [_,_,_] _),?_⟩
  refine WT.nil (by kernel_rfl)<|X.thenN ⟨(mM,mK),trivial,(Env.Sub.cons rfl rfl (Env.Sub.cons rfl rfl (Env.Sub.cons rfl rfl Env.Sub.nil))),(Ent.pk [2,2,2,2,2,2,2,2,0,0] rfl)⟩;refine L.store T56.sc rfl rfl rfl (Wr.at 0 rfl rfl)<|WL.nil ⟨(Ent.left [_] _),?_⟩;refine WN.two 3 4 (by kernel_rfl) rfl rfl ?_ ?_;refine L.makeMap (α:=Nat) (enc:=encI) fun mM=>WL.nil ⟨(Ent.left [_,_] _),?_⟩
  refine WT.read (m:=5) (fin:=fun l=>l == #[true,true,true,true,false,true,true,true,true,true,false,false,false,false]) [(8,true),(9,true)] (by kernel_rfl) (PInv.then PInv.ret) ((Ent.left [_,_] _))<|WE.take rfl (V.nilCheck rfl)<|WE.take rfl (V.fieldAddr (o':=24) T59.f10 rfl rfl)<|WE.free #[true,true,true,true,false,true,true,true,true,true,false,false,false,false]<|WN.two 4 10 (by kernel_rfl) rfl rfl ?_ ?_;refine L.makeMap (α:=Nat) (enc:=encI) fun mK=>WL.nil ⟨(Ent.left [_,_,_] _),?_⟩;refine WN.one 10 (by kernel_rfl) rfl<|L.store T57.sc rfl rfl rfl (Wr.at 2 rfl rfl)<|WL.nil ⟨(Ent.left [_,_,_] _),?_⟩
  refine WT.read (m:=1) (fin:=fun l=>l == #[true,true,true,true,true,true,true,true,true,true,true,true,true,false]) [(11,true),(12,true)] (by kernel_rfl) (PInv.then PInv.ret) ((Ent.left [_,_,_] _))<|WE.take rfl (V.nilCheck rfl)<|WE.take rfl (V.fieldAddr (o':=25) T59.f11 rfl rfl)<|WE.free #[true,true,true,true,true,true,true,true,true,true,true,true,true,false]<|WN.one 13 (by kernel_rfl) rfl<|L.store T57.sc rfl rfl rfl (Wr.at 2 rfl rfl)<|WL.nil ⟨(Ent.left [_,_,_] _),?_⟩
  refine WT.nil (by kernel_rfl)<|X.thenN ⟨(mM,mK),trivial,(Env.Sub.cons rfl rfl (Env.Sub.cons rfl rfl (Env.Sub.cons rfl rfl Env.Sub.nil))),(Ent.pk [2,2,2,2,2,2,2,2,1,0] rfl)⟩;refine L.store T57.sc rfl rfl rfl (Wr.at 1 rfl rfl)<|WL.nil ⟨(Ent.left [_,_] _),?_⟩;refine WN.one 4 (by kernel_rfl) rfl<|L.makeMap (α:=Nat) (enc:=encI) fun mK=>WL.nil ⟨(Ent.left [_,_,_] _),?_⟩
  refine WT.read (m:=1) (fin:=fun l=>l == #[true,true,true,true,true,true,true,true,true,true,true,true,true,false]) [(11,true),(12,true)] (by kernel_rfl) (PInv.then PInv.ret) ((Ent.left [_,_,_] _))<|WE.take rfl (V.nilCheck rfl)<|WE.take rfl (V.fieldAddr (o':=25) T59.f11 rfl rfl)<|WE.free #[true,true,true,true,true,true,true,true,true,true,true,true,true,false]<|WN.one 13 (by kernel_rfl) rfl<|L.store T57.sc rfl rfl rfl (Wr.at 2 rfl rfl)<|WL.nil ⟨(Ent.left [_,_,_] _),?_⟩
  refine WT.nil (by kernel_rfl)<|X.thenN ⟨(mM,mK),trivial,(Env.Sub.cons rfl rfl (Env.Sub.cons rfl rfl (Env.Sub.cons rfl rfl Env.Sub.nil))),(Ent.pk [2,2,2,2,2,2,2,2,1,0] rfl)⟩;refine L.makeMap (α:=Nat) (enc:=encI) fun mK=>WL.nil ⟨(Ent.left [_,_] _),?_⟩;refine WN.one 3 (by kernel_rfl) rfl<|L.makeMap (α:=Nat) (enc:=encI) fun mM=>WL.nil ⟨(Ent.left [_,_,_] _),?_⟩
  refine WT.read (m:=4) (fin:=fun l=>l == #[true,true,true,true,true,true,true,true,true,true,false,false,false,false]) [(8,true),(9,true)] (by kernel_rfl) (PInv.then PInv.ret) ((Ent.left [_,_,_] _))<|WE.take rfl (V.nilCheck rfl)<|WE.take rfl (V.fieldAddr (o':=24) T59.f10 rfl rfl)<|WE.free #[true,true,true,true,true,true,true,true,true,true,false,false,false,false]<|WN.one 10 (by kernel_rfl) rfl<|L.store T57.sc rfl rfl rfl (Wr.at 2 rfl rfl)<|WL.nil ⟨(Ent.left [_,_,_] _),?_⟩
  refine WT.read (m:=1) (fin:=fun l=>l == #[true,true,true,true,true,true,true,true,true,true,true,true,true,false]) [(11,true),(12,true)] (by kernel_rfl) (PInv.then PInv.ret) ((Ent.left [_,_,_] _))<|WE.take rfl (V.nilCheck rfl)<|WE.take rfl (V.fieldAddr (o':=25) T59.f11 rfl rfl)<|WE.free #[true,true,true,true,true,true,true,true,true,true,true,true,true,false]<|WN.one 13 (by kernel_rfl) rfl<|L.store T57.sc rfl rfl rfl (Wr.at 2 rfl rfl)<|WL.nil ⟨(Ent.left [_,_,_] _),?_⟩
  refine WT.nil (by kernel_rfl)<|X.thenN ⟨(mM,mK),trivial,(Env.Sub.cons rfl rfl (Env.Sub.cons rfl rfl (Env.Sub.cons rfl rfl Env.Sub.nil))),(Ent.pk [2,2,2,2,2,2,2,2,0,0] rfl)⟩
  rintro ⟨mM,mK⟩ _
  refine WP.regs<|L.makeMap (α:=Nat) (enc:=encI) fun mU=>L.alloc T57.z fun c4=>L.store T57.sc rfl rfl rfl (Wr.at 0 rfl rfl)<|WL.nil<|WP.regs<|L.alloc T142.z fun c5=>WL.nil<|WP.regs<|L.mkFunc (vs:=[_,_,_,_]) rfl<|L.store T142.sc rfl rfl rfl (Wr.at 0 rfl rfl)<|WL.nil<|WP.regs<|L.move rfl<|L.lenS T56.sl rfl rfl<|L.move rfl<|WL.nil<|WP.block<|WP.loop (X:=Unit) (fun x=>⟨60,[],[(49,.int .i64 0),(50,.int .i64 0)]⟩) (fun x=>[cl b [.int .u8 r.kind,.int .u8 r.life.hood,.int .u16 r.life.born,.int .u16 r.life.stay,.int .i64 r.gst,.string r.name,.int .i64 r.table.states,.int .u8 r.table.hood,.int .u8 r.table.sym,v,w,.int .u8 t.kind,.int .i64 t.w,.int .i64 t.h,.int .u8 t.turn,.int .i64 t.shift,.int .i64 r.nSt,.int .i64 (most:Int),.slice none 0 0,.map (some mP),.map (some mR),.map (some mL),.map (some mQ),.slice none 0 0,.map (some mM),.map (some mK)] 59,tabO r.table v w,mpO mP encP [],mpO mR Value.string [],mpO mL encP [],mpO mQ enc3 [],mpO mM encI [],mpO mK encI []]) (fun x=>True) (fun x=>0) () (trivial) (Env.Sub.cons rfl rfl (Env.Sub.cons rfl rfl Env.Sub.nil)) ((Ent.pk [3,5,5,5,5,5,5,5] rfl)) ?_
  rintro ⟨⟩ _
  refine WP.regs<|L.lss rfl rfl<|WL.nil<|WP.seq<|WP.condD rfl (fun hT=>absurd hT (by omega)) (fun h51=>?_);refine WP.exit<|X.thenE (X.thenE (X.blockE ?_));refine X.end rfl (Res.none rfl)<|⟨_,rfl,_,⟨rfl,⟨v,w,.slice none 0 0,mP,mR,mL,mQ,.slice none 0 0,mM,mK⟩,rfl⟩,((Ent.pk [0,1,1,1,1,1,1,0] rfl)).trans ((Ent.nilvec (E:=111) (sz:=4)).trans ((Ent.nilvec (E:=3) (sz:=1)).trans (Ent.pk [2,1,1,1,1,1,0,0,0,0] rfl)))⟩
set_option maxRecDepth 10000 in
set_option maxHeartbeats 4000000 in
theorem strip_New (r:RuleD) (hw:r.Wd) (v w:Value) (hta:TabAt h0 r.table v w) (t:TopoD) (hwt:t.Wd) (hwo:WOk r t) (most:Nat) (hm:1≤most∧most≤1048576):FT Pg 10 [.agg (ruleC r v w).toArray,.agg (topoC t).toArray,.int .i64 (most:Int)] k h0 [] (Ret fun u τ=>∃ b A,u=.tuple #[.pointer (some ⟨b,0,none⟩),.int .i64 0]∧τ=seaS b A (SeaD.new r t most)):=by
  have hok:=hwo.1
  have hsm:=hok.small hw
  refine FT.tight<|FT.of_wp (n:=42) Tryz.func10 rfl rfl rfl<|WP.regs<|L.box rfl rfl fun b1=>L.box rfl rfl fun b2=>L.assign rfl<|L.assign rfl<|WL.nil<|WP.seq<|WP.regs<|L.loadN T32.ag rfl rfl (Rds.all 1 rfl)<|L.loadN T34.ag rfl rfl (Rds.all 0 rfl)<|WL.call rfl rfl F15.fn rfl (FT.pureR fun g gS dj=>window_Check r hw v w (hta.mono (Hp.le_un_left _ _)) t hwt) ?_;rintro _ _ ⟨⟨e,rfl,he⟩,rfl⟩
  obtain rfl:=he.2 hwo
  refine L.assign rfl<|WL.nil<|WP.regs<|L.move rfl<|L.neq rfl rfl<|WL.nil<|WP.condD rfl (fun hT=>absurd hT (by omega)) (fun h16=>?_);refine WP.skip<|X.thenN<|WP.seq<|WP.regs<|L.move rfl<|L.lssD rfl rfl (fun h19=>?_) (fun h19=>?_);refine L.move rfl<|L.skip<|L.skip<|L.pickT rfl rfl<|WL.nil<|WP.condT rfl<|WP.regs<|L.assign rfl<|L.assign rfl<|WL.nil<|WP.ret<|X.thenR<|X.ret rfl (Res.two rfl rfl rfl) ?_;exact absurd h19 (by omega);refine L.move rfl<|L.move rfl<|L.gtr rfl rfl<|L.pickF rfl rfl<|WL.nil<|WP.condD rfl (fun hT=>absurd hT (by omega)) (fun h23=>?_)
  refine WP.skip<|X.thenN<|WP.regs<|L.loadN T32.ag rfl rfl (Rds.all 1 rfl)<|WL.callV rfl rfl F33.fn rfl (fun g gS dj=>rule_States_ok r hw v w (hta.mono (Hp.le_un_left _ _)) hok)<|L.move rfl<|L.extract rfl rfl<|L.extract rfl rfl<|L.assign rfl<|L.assign rfl<|WL.nil<|WP.seq<|WP.regs<|L.move rfl<|L.neq rfl rfl<|WL.nil<|WP.condD rfl (fun hT=>absurd hT (by omega)) (fun h30=>?_)
  refine WP.skip<|X.thenN<|WP.seq<|WP.rege [(0,true),(2,true),(3,true),(4,true),(1,false),(5,true),(6,false),(7,false)] 6 rfl (by kernel_rfl) (PInv.then PInv.ret) rfl<|WE.take rfl (V.loadN T32.ag rfl rfl (Rds.all 1 rfl))<|WE.take rfl (V.loadN T34.ag rfl rfl (Rds.all 0 rfl))<|WE.take rfl (V.move rfl)<|WE.take rfl (V.move rfl)<|WE.one rfl<|WL.call rfl rfl F34.fn rfl (FT.make fun g gS dj=>strip_twin r hsm v w (hta.mono (Hp.le_un_left _ _))) ?_;rintro _ _ ⟨_,⟨v',w',rfl,rfl⟩,rfl⟩;refine WL.nil ⟨(Ent.left [_] _),?_⟩
  refine WE.take rfl (V.build (cs:=[_,_,_,_,_,_,_,_,_,_,_,_,_,_,_,_,_,_,_,_,_,_,_,_,_,_]) T59.b T59.z rfl rfl)<|WE.last rfl<|L.box rfl rfl fun b=>WL.nil<|WE.more rfl<|L.assign rfl<|WL.nil<|WE.nil<|X.thenN<|WP.regs<|L.move rfl<|WL.call rfl rfl F35.fn rfl (FT.part [cl b (sea0C r t most v' w') 59,tabO r.table v' w'] _ ((Ent.pk [0,0,1,0] rfl)) fun g gS dj=>sea_compact0 b r t most v' w') ?_;rintro _ _ ⟨_,⟨rfl,A,rfl⟩,rfl⟩;refine WL.nil<|WP.regs<|L.move rfl<|L.assign rfl<|L.assign rfl<|WL.nil<|WP.ret<|X.ret rfl (Res.two rfl rfl rfl) ?_;exact⟨_,rfl,_,⟨b,A,rfl,rfl⟩,(Ent.pk [0,0,0,0,0,0,0,0,0,0] rfl)⟩
end
open Go.RowKit Go.Proofs
def SeaD.zrow (S:SeaD):ByteArray:=textOf (zeros S.t.w.toNat)
def SeaD.zero (S:SeaD):Nat→SeaD × Nat
  | 0=>S.row S.zrow
  | l+1=>(S.zero l).1.pair (S.zero l).2 (S.zero l).2
def SeaD.build:Nat→SeaD→Int→List ByteArray→SeaD × Nat
  | 0,S,left,rows=>if (1:Int)≤left∨left+rows.length≤0 then S.zero 0 else S.row (rows.getD (-left).toNat ByteArray.empty)
  | l+1,S,left,rows=>if ((2^(l+1):Nat):Int)≤left∨left+rows.length≤0 then S.zero (l+1) else
     let a:=SeaD.build l S left rows
     let b:=SeaD.build l a.1 (left-((2^l:Nat):Int)) rows
     b.1.pair a.2 b.2
def costB:Nat→Nat
  | 0=>1
  | l+1=>2*costB l+l+2
def SeaD.edge:Nat→SeaD→Nat→Bool→SeaD × Int
  | 0,S,_,_=>(S,0)
  | f+1,S,id,last=>
    let z:=S.zero (S.nd id).level
    if id=z.2 then (z.1,-1) else
    if (S.nd id).level=0 then (z.1,0) else
    let near:=if last then (S.nd id).b else (S.nd id).a
    let far:=if last then (S.nd id).a else (S.nd id).b
    let no:Int:=if last then ((2^((S.nd id).level-1):Nat):Int) else 0
    let fo:Int:=if last then 0 else ((2^((S.nd id).level-1):Nat):Int)
    let e:=SeaD.edge f z.1 near last
    if 0≤e.2 then (e.1,no+e.2) else
    let g:=SeaD.edge f e.1 far last
    (g.1,fo+g.2)
def costE:Nat→Nat
  | 0=>1
  | l+1=>2*costE l+l+2
def cutD (N:List NodeD):Nat→Nat→Int→Int→List ByteArray
  | 0,id,lo,hi=>if hi≤0∨(1:Int)≤lo then [] else [(N.getD id .no).row]
  | l+1,id,lo,hi=>if hi≤0∨((2^(l+1):Nat):Int)≤lo then [] else
     cutD N l (N.getD id .no).a lo hi++cutD N l (N.getD id .no).b (lo-((2^l:Nat):Int)) (hi-((2^l:Nat):Int))
theorem cutD_len (N:List NodeD):∀ (l id:Nat) (lo hi:Int),(cutD N l id lo hi).length≤2^l
  | 0,id,lo,hi=>by unfold cutD;split <;> simp
  | l+1,id,lo,hi=>by
    unfold cutD
    split
    · simp
    · have h1:=cutD_len N l (N.getD id .no).a lo hi
      have h2:=cutD_len N l (N.getD id .no).b (lo-((2^l:Nat):Int)) (hi-((2^l:Nat):Int))
      rw[List.length_append,Nat.pow_succ]
      omega
theorem zeros_len (n:Nat):(zeros n).length=n:=by unfold zeros;simp
theorem SeaK.zrow {S:SeaD} (K:SeaK S):RowOkB S S.zrow:=by
  have hf:=K.ok.1.facts
  have hw:=K.ok.2.1
  unfold TopoD.Ok at hw
  have hz:∀ v∈zeros S.t.w.toNat,0≤v∧v<(256:Int):=fun v hv=>by
   unfold zeros at hv;rw[List.eq_of_mem_replicate hv];omega
  have hi:=intsB_textOf _ hz
  have hs:S.zrow.size=S.t.w.toNat:=by rw[← intsB_len];unfold SeaD.zrow;rw[hi,zeros_len]
  refine⟨by rw[hs];omega,fun i h=>?_⟩
  unfold SeaD.zrow
  rw[hi,zeros_get]
  omega
theorem Good.rowL {S T:SeaD} {n:Nat} {x:ByteArray} (G:Good S T n) (hx:RowOkB T x):Good S (T.row x).1 (n+1)∧Lv (T.row x).1 (T.row x).2 0∧Ext T (T.row x).1:=by
  obtain⟨g,h1,h2,_⟩:=sea_row_law T G.i x hx
  exact⟨(G.step g).1,⟨h1,by rw[h2]⟩,g.ext⟩
theorem Good.zero {S T:SeaD} {n:Nat} (G:Good S T n):∀ (l:Nat),l≤45→Good S (T.zero l).1 (n+(l+1))∧Lv (T.zero l).1 (T.zero l).2 l∧Ext T (T.zero l).1
  | 0,_=>G.rowL G.K.zrow
  | l+1,h=>by
    obtain⟨G1,l1,e1⟩:=Good.zero G l (by omega)
    obtain⟨G2,l2,e2⟩:=G1.pair l1 l1 (by omega)
    exact⟨G2,l2,e1.trans e2⟩
theorem Good.mono {S T:SeaD} {n m:Nat} (G:Good S T n) (h:n≤m):Good S T m:=⟨G.K,G.i,G.e,by have:=G.len;omega,G.most⟩
theorem RowOkB.ext {S T:SeaD} {x:ByteArray} (h:RowOkB S x) (e:Ext S T):RowOkB T x:=h.of_eq e.r e.t
theorem Good.build {S:SeaD} {rows:List ByteArray} (hr:∀ i,i<rows.length→RowOkB S (rows.getD i ByteArray.empty)):∀ (l:Nat) {T:SeaD} {n:Nat} (left:Int),Good S T n→l≤45→
    Good S (SeaD.build l T left rows).1 (n+costB l)∧Lv (SeaD.build l T left rows).1 (SeaD.build l T left rows).2 l∧Ext T (SeaD.build l T left rows).1
  | 0,T,n,left,G,h=>by
    unfold SeaD.build
    split
    · exact G.zero 0 (by omega)
    · exact G.rowL ((hr _ (by omega)).ext G.e)
  | l+1,T,n,left,G,h=>by
    unfold SeaD.build
    split
    · obtain⟨a,b,c⟩:=G.zero (l+1) h
      exact⟨a.mono (by simp only[costB];omega),b,c⟩
    · obtain⟨G1,l1,e1⟩:=Good.build hr l left G (by omega)
      obtain⟨G2,l2,e2⟩:=Good.build hr l (left-((2^l:Nat):Int)) G1 (by omega)
      obtain⟨G3,l3,e3⟩:=G2.pair (l1.up e2) l2 (by omega)
      exact⟨G3.mono (by simp only[costB];omega),l3,(e1.trans e2).trans e3⟩
theorem Good.edge {S:SeaD} (last:Bool):∀ (f:Nat) {T:SeaD} {n l id:Nat},Good S T n→Lv T id l→l<f→Good S (SeaD.edge f T id last).1 (n+costE l)∧Ext T (SeaD.edge f T id last).1∧-1≤(SeaD.edge f T id last).2∧(SeaD.edge f T id last).2<2^l
  | 0,_,_,_,_,_,_,h=>absurd h (by omega)
  | f+1,T,n,l,id,G,hl,hf=>by
    have hl45:=G.lev hl
    have hp:(0:Int)<2^l:=Int.pow_pos (by omega)
    unfold SeaD.edge
    dsimp only
    rw[show (T.nd id).level=l from hl.2]
    obtain⟨G1,l1,e1⟩:=G.zero l hl45
    have hc0:l+1≤costE l:=by cases l <;> simp only[costE] <;> omega
    split
    · exact⟨G1.mono (by omega),e1,by omega,by dsimp only;omega⟩
    · split
      · exact⟨G1.mono (by omega),e1,by omega,hp⟩
      · obtain⟨l',rfl⟩:∃ l',l=l'+1:=⟨l-1,by omega⟩
        obtain⟨ha,hb⟩:=G.kids hl
        have hnear:Lv T (if last then (T.nd id).b else (T.nd id).a) l':=by cases last <;> assumption
        have hfar:Lv T (if last then (T.nd id).a else (T.nd id).b) l':=by cases last <;> assumption
        have hq:((2^(l'+1-1):Nat):Int)=2^l':=by rw[Nat.add_sub_cancel,pow_cast]
        have hp2:(2:Int)^(l'+1)=2^l'+2^l':=by rw[Int.pow_succ];omega
        have hp3:(0:Int)<2^l':=Int.pow_pos (by omega)
        rw[hq]
        have hno:0≤(if last then (2:Int)^l' else 0)∧(if last then (2:Int)^l' else 0)≤2^l':=by cases last <;> simp <;> omega
        have hfo:0≤(if last then 0 else (2:Int)^l')∧(if last then 0 else (2:Int)^l')≤2^l':=by cases last <;> simp <;> omega
        generalize (if last then (T.nd id).b else (T.nd id).a)=near at hnear ⊢
        generalize (if last then (T.nd id).a else (T.nd id).b)=far at hfar ⊢
        generalize (if last then (2:Int)^l' else 0)=no at hno ⊢
        generalize (if last then 0 else (2:Int)^l')=fo at hfo ⊢
        obtain⟨G2,e2,h1,h2⟩:=Good.edge last f G1 (hnear.up e1) (by omega)
        obtain⟨G3,e3,h3,h4⟩:=Good.edge last f G2 ((hfar.up e1).up e2) (by omega)
        split
        · exact⟨G2.mono (by simp only[costE];omega),e1.trans e2,by dsimp only;omega,by dsimp only;omega⟩
        · exact⟨G3.mono (by simp only[costE];omega),(e1.trans e2).trans e3,by dsimp only;omega,by dsimp only;omega⟩
open Go.RowKit Go.Proofs
theorem shlI' {l:Nat} {x:Int} (h:l≤45) (hx:x=(l:Int)):IntKind.i64.wrap (1*2^min x.toNat IntKind.i64.bits)=((2^l:Nat):Int):=by subst hx;exact shlI h
theorem pow45 {l:Nat} (h:l≤45):0<2^l∧2^l≤35184372088832:=⟨Nat.two_pow_pos l,show 2^l≤2^45 from Nat.pow_le_pow_right (by omega) h⟩
theorem Rds_zeros {h0:Hp} {σ:List HP} {b n T:Nat} (i:Nat) (hi:σ[i]?=some (cl b (List.replicate n (.int .u8 0)) T)):Rds h0 σ b 0 ((zeros n).map (Value.int .u8)):=by
  rw[show (zeros n).map (Value.int .u8)=List.replicate n (.int .u8 0) by simp[zeros]]
  exact Rds.all i hi
section
variable {k:World} {h0:Hp}
set_option maxRecDepth 10000 in
set_option maxHeartbeats 1000000 in
theorem sea_zero (b:Nat) (A:SeaA) (S:SeaD) (K:SeaK S) (hi:Inv S) (l:Nat) (hl:l≤45) (hc:S.nodes.length+(l+1)≤S.most):FT Pg 122 [.pointer (some ⟨b,0,none⟩),.int .i64 (l:Int)] k h0 (seaS b A S) (Ret fun v τ=>∃ nv,v=encI (S.zero l).2∧τ=seaS b {A with nv:=nv} (S.zero l).1):=by
  have hw:=K.ok.2.1;unfold TopoD.Ok at hw
  have hmo:=K.most
  have G0:=Good.refl K hi
  refine FT.tight<|FT.of_wp (n:=24) Tryz.func122 rfl rfl rfl<|WP.regs<|L.assign rfl<|WL.nil<|WP.regs<|L.move rfl<|L.move rfl<|L.nilCheck rfl<|L.fieldAddr (o':=11) T59.f1 rfl rfl<|L.fieldAddr (o':=12) T34.f1 rfl rfl<|L.load T3.sc rfl (Rd.own 0 rfl rfl)<|L.make T60.sl T5.z rfl rfl (by omega) fun b1=>L.bytesToStr T60.sl T5.u T9.u rfl (ns:=zeros S.t.w.toNat) (zeros_len _) (fun _ _ _ e=>by cases e;exact⟨rfl,Rds_zeros 0 rfl⟩) (fun e=>by cases e) ?_
  refine WL.call rfl rfl F53.fn rfl (FT.part (seaS b A S) _ ((Ent.pk [1,1,1,1,1,1,1,1,1,1,0] rfl)) fun g gS dj=>sea_row b A S S.zrow (by omega) hmo) ?_;rintro _ _ ⟨_,⟨nv1,rfl,rfl⟩,rfl⟩
  refine L.assign rfl<|WL.nil<|WP.seq<|WP.regs<|L.move rfl<|L.move rfl<|WL.nil<|WP.block<|WP.loop (X:=Value × Nat) (fun x=>⟨24,[],[(0,.pointer (some ⟨b,0,none⟩)),(5,.int .i64 ((S.zero x.2).2:Int)),(15,.int .i64 (l:Int)),(16,.int .i64 (x.2:Int))]⟩) (fun x=>seaS b {(A:SeaA) with nv:=x.1} (S.zero x.2).1) (fun x=>x.2≤l) (fun x=>l-x.2) (nv1,0) (Nat.zero_le _) (Env.Sub.cons rfl rfl (Env.Sub.cons rfl rfl (Env.Sub.cons rfl rfl (Env.Sub.cons rfl rfl Env.Sub.nil)))) ((Ent.pk [0,0,0,0,0,0,0,0,0,0] rfl)) ?_
  rintro ⟨nv,i⟩ hi2
  dsimp only at hi2 ⊢
  obtain⟨G1,l1,e1⟩:=G0.zero i (by omega)
  refine WP.regs<|L.lss rfl rfl<|WL.nil<|WP.seq<|WP.condD rfl (fun h17=>?_) (fun h17=>?_);refine WP.skip<|X.thenN<|WP.seq<|WP.block<|WP.region<|L.move rfl<|L.move rfl<|L.move rfl<|WL.call rfl rfl F56.fn rfl (FT.part (seaS b {(A:SeaA) with nv:=nv} (S.zero i).1) _ ((Ent.refl _)) fun g gS dj=>sea_pair b {(A:SeaA) with nv:=nv} (S.zero i).1 (S.zero i).2 (S.zero i).2 l1.1 (by have:=G1.len;have:=G1.most;omega) G1.K.most (by have h9:((S.zero i).1.nodes.getD (S.zero i).2 .no).level=_:=l1.2;omega)) ?_;rintro _ _ ⟨_,⟨nv2,rfl,rfl⟩,rfl⟩
  refine L.assign rfl<|WL.nil<|X.blockN<|X.thenN<|WP.region<|L.add' rfl rfl (by omega)<|L.move rfl<|WL.nil<|X.thenN ⟨(nv2,i+1),by dsimp only;omega,by dsimp only;omega,(Env.Sub.cons rfl rfl (Env.Sub.cons rfl rfl (Env.Sub.cons rfl rfl (Env.Sub.cons rfl rfl Env.Sub.nil)))),(Ent.refl _)⟩
  obtain rfl:i=l:=by omega
  refine WP.exit<|X.thenE (X.thenE (X.blockE ?_));refine X.thenN<|WP.regs<|L.move rfl<|L.assign rfl<|WL.nil<|WP.ret<|X.ret rfl (Res.one rfl rfl) ?_;exact⟨_,rfl,_,⟨nv,rfl,rfl⟩,(Ent.refl _)⟩
end
open Go.RowKit Go.Proofs
section
variable {k:World} {h0:Hp}
set_option maxRecDepth 10000 in
set_option maxHeartbeats 1000000 in
theorem sea_build0 (b:Nat) (t:TopoD) (r:RuleD) (rv:Value) (rows:List ByteArray) (hrl:rows.length≤1099511627776) (A:SeaA) (S:SeaD) (K:SeaK S) (hi:Inv S) (hbt:BtsAt h0 rv rows) (hr:∀ i,i<rows.length→RowOkB S (rows.getD i ByteArray.empty)) (left:Int) (hl:0≤45) (hlf:-2305843009213693952+((2^0:Nat):Int)≤left∧left≤2305843009213693952) (hc:S.nodes.length+costB 0≤S.most):FT Pg 121 [.pointer (some ⟨b,0,none⟩),.int .i64 ((0:Nat):Int),.int .i64 left,rv] k h0 (seaS b A S) (Ret fun v τ=>∃ nv,v=encI (SeaD.build 0 S left rows).2∧τ=seaS b {A with nv:=nv} (SeaD.build 0 S left rows).1):=by
  have hw:=K.ok.2.1;unfold TopoD.Ok at hw
  have hmo:=K.most
  have G0:=Good.refl K hi
  obtain⟨vs,⟨ra,rcap,rfl,hrcap,hrn,hrs⟩,hall⟩:=hbt
  simp only[costB] at hc
  refine FT.tight<|FT.of_wp (n:=54) Tryz.func121 rfl rfl rfl<|WP.regs<|L.assign rfl<|WL.nil<|WP.regs<|L.move rfl<|L.shl rfl rfl (by omega)<|L.assign rfl<|WL.nil<|WP.seq<|WP.regs ?_
  rw[shlI (l:=0) (by omega)]
  refine L.move rfl<|L.move rfl<|L.geqD rfl rfl (fun h15=>?_) (fun h15=>?_);refine L.move rfl ?_
  iterate 5 refine L.skip ?_
  refine L.pickT rfl rfl<|WL.nil<|WP.condT rfl<|WP.regs<|L.move rfl<|L.move rfl<|WL.call rfl rfl F122.fn rfl (FT.part (seaS b A S) _ ((Ent.refl _)) fun g gS dj=>sea_zero b A S K hi 0 hl (by omega)) ?_;rintro _ _ ⟨_,⟨nv1,rfl,rfl⟩,rfl⟩;refine L.assign rfl<|WL.nil<|WP.ret<|X.thenR<|X.ret rfl (Res.one rfl rfl) ?_;rotate_left;refine L.move rfl<|L.move rfl<|L.move rfl<|L.lenS T61.sl rfl rfl<|L.add' rfl rfl (by omega)<|L.leq rfl rfl<|L.pickF rfl rfl<|WL.nil<|WP.condD rfl (fun h22=>?_) (fun h22=>?_)
  refine WP.regs<|L.move rfl<|L.move rfl<|WL.call rfl rfl F122.fn rfl (FT.part (seaS b A S) _ ((Ent.refl _)) fun g gS dj=>sea_zero b A S K hi 0 hl (by omega)) ?_;rintro _ _ ⟨_,⟨nv1,rfl,rfl⟩,rfl⟩;refine L.assign rfl<|WL.nil<|WP.ret<|X.thenR<|X.ret rfl (Res.one rfl rfl) ?_;rotate_left
  obtain⟨rb,ro,rfl,hrc⟩:=hrs (by omega)
  have hbi:=hall (-left).toNat (by omega)
  have hok:=hr (-left).toNat (by omega)
  obtain⟨va,vcap,hveq,hvcap,hvn,hvs⟩:=hbi
  obtain⟨vb,vo,rfl,hvc⟩:=hvs (by rw[intsB_len];have:=hok.1;omega)
  refine WP.skip<|X.thenN<|WP.seq<|WP.regs<|L.move rfl<|L.eql rfl rfl<|WL.nil<|WP.condD rfl (fun h27=>?_) (fun hF=>absurd hF (by omega));refine WP.regs<|L.move rfl<|L.move rfl<|L.move rfl<|L.neg' rfl (by omega)<|L.indexS T61.sl rfl rfl (by omega)<|L.load T60.sc rfl (v:=vs.getD (-left).toNat undef) (Rd.ro (by have:=hrc (-left).toNat (by omega);rw[show ro+(-left).toNat*1=ro+(-left).toNat by omega];exact this)) ?_
  rw[hveq]
  refine L.bytesToStr T60.sl T5.u T9.u rfl (ns:=intsB (rows.getD (-left).toNat ByteArray.empty)) rfl (fun _ _ _ e=>by cases e;exact⟨rfl,(Rds.of_cells (i:=0) hvc _ (by rw[List.length_map];omega) (fun j hj=>by rw[List.getElem_map,Nat.zero_add,List.getD_eq_getElem?_getD,List.getElem?_eq_getElem (show j<(intsB (rows.getD (-left).toNat ByteArray.empty)).length by rwa [List.length_map] at hj)];rfl))⟩) (fun e=>by cases e) ?_
  rw[textOf_intsB]
  refine WL.call rfl rfl F53.fn rfl (FT.part (seaS b A S) _ ((Ent.refl _)) fun g gS dj=>sea_row b A S (rows.getD (-left).toNat ByteArray.empty) (by omega) hmo) ?_;rintro _ _ ⟨_,⟨nv1,rfl,rfl⟩,rfl⟩;refine L.assign rfl<|WL.nil<|WP.ret<|X.thenR<|X.ret rfl (Res.one rfl rfl) ?_
  rw[show SeaD.build 0 S left rows=S.row (rows.getD (-left).toNat ByteArray.empty) by unfold SeaD.build;rw[if_neg (by omega)]]
  exact⟨_,rfl,_,⟨nv1,rfl,rfl⟩,(Ent.refl _)⟩
  all_goals
   rw[show SeaD.build 0 S left rows=S.zero 0 by unfold SeaD.build;rw[if_pos (by omega)]]
   exact⟨_,rfl,_,⟨nv1,rfl,rfl⟩,(Ent.refl _)⟩
set_option maxRecDepth 10000 in
set_option maxHeartbeats 2000000 in
theorem sea_build1 (b:Nat) (t:TopoD) (r:RuleD) (rv:Value) (rows:List ByteArray) (hrl:rows.length≤1099511627776) (l:Nat) (ih:∀ (k:World) (h0:Hp) (A:SeaA) (S:SeaD) (K:SeaK S) (hi:Inv S) (hbt:BtsAt h0 rv rows) (hr:∀ i,i<rows.length→RowOkB S (rows.getD i ByteArray.empty)) (left:Int),l≤45→-2305843009213693952+((2^l:Nat):Int)≤left∧left≤2305843009213693952→S.nodes.length+costB l≤S.most→FT Pg 121 [.pointer (some ⟨b,0,none⟩),.int .i64 ((l:Nat):Int),.int .i64 left,rv] k h0 (seaS b A S) (Ret fun v τ=>∃ nv,v=encI (SeaD.build l S left rows).2∧τ=seaS b {A with nv:=nv} (SeaD.build l S left rows).1)) (A:SeaA) (S:SeaD) (K:SeaK S) (hi:Inv S) (hbt:BtsAt h0 rv rows) (hr:∀ i,i<rows.length→RowOkB S (rows.getD i ByteArray.empty)) (left:Int) (hl:l+1≤45) (hlf:-2305843009213693952+((2^(l+1):Nat):Int)≤left∧left≤2305843009213693952) (hc:S.nodes.length+costB (l+1)≤S.most):FT Pg 121 [.pointer (some ⟨b,0,none⟩),.int .i64 (((l+1):Nat):Int),.int .i64 left,rv] k h0 (seaS b A S) (Ret fun v τ=>∃ nv,v=encI (SeaD.build (l+1) S left rows).2∧τ=seaS b {A with nv:=nv} (SeaD.build (l+1) S left rows).1):=by
  have hw:=K.ok.2.1;unfold TopoD.Ok at hw
  have hmo:=K.most
  have G0:=Good.refl K hi
  obtain⟨vs,⟨ra,rcap,rfl,hrcap,hrn,hrs⟩,hall⟩:=hbt
  simp only[costB] at hc
  have hp1:=pow45 (show l≤45 by omega)
  have hp2:2^(l+1)=2^l+2^l:=by rw[Nat.pow_succ];omega
  refine FT.tight<|FT.of_wp (n:=54) Tryz.func121 rfl rfl rfl<|WP.regs<|L.assign rfl<|WL.nil<|WP.regs<|L.move rfl<|L.shl rfl rfl (by omega)<|L.assign rfl<|WL.nil<|WP.seq<|WP.regs ?_
  rw[shlI (l:=l+1) (by omega)]
  refine L.move rfl<|L.move rfl<|L.geqD rfl rfl (fun h15=>?_) (fun h15=>?_);refine L.move rfl ?_
  iterate 5 refine L.skip ?_
  refine L.pickT rfl rfl<|WL.nil<|WP.condT rfl<|WP.regs<|L.move rfl<|L.move rfl<|WL.call rfl rfl F122.fn rfl (FT.part (seaS b A S) _ ((Ent.refl _)) fun g gS dj=>sea_zero b A S K hi (l+1) hl (by omega)) ?_;rintro _ _ ⟨_,⟨nv1,rfl,rfl⟩,rfl⟩;refine L.assign rfl<|WL.nil<|WP.ret<|X.thenR<|X.ret rfl (Res.one rfl rfl) ?_;rotate_left;refine L.move rfl<|L.move rfl<|L.move rfl<|L.lenS T61.sl rfl rfl<|L.add' rfl rfl (by omega)<|L.leq rfl rfl<|L.pickF rfl rfl<|WL.nil<|WP.condD rfl (fun h22=>?_) (fun h22=>?_)
  refine WP.regs<|L.move rfl<|L.move rfl<|WL.call rfl rfl F122.fn rfl (FT.part (seaS b A S) _ ((Ent.refl _)) fun g gS dj=>sea_zero b A S K hi (l+1) hl (by omega)) ?_;rintro _ _ ⟨_,⟨nv1,rfl,rfl⟩,rfl⟩;refine L.assign rfl<|WL.nil<|WP.ret<|X.thenR<|X.ret rfl (Res.one rfl rfl) ?_;rotate_left;refine WP.skip<|X.thenN<|WP.seq<|WP.regs<|L.move rfl<|L.eql rfl rfl<|WL.nil<|WP.condD rfl (fun hT=>absurd hT (by omega)) (fun h27=>?_);refine WP.skip<|X.thenN<|WP.regs<|L.move rfl<|L.move rfl<|L.sub' rfl rfl (by omega)<|L.move rfl<|L.move rfl ?_
  rw[show ((l+1:Nat):Int)-1=(l:Int) by omega]
  refine WL.call rfl rfl F121.fn rfl (FT.part (seaS b A S) _ ((Ent.refl _)) fun g gS dj=>ih k _ A S K hi (BtsAt.mono ⟨vs,⟨ra,rcap,rfl,hrcap,hrn,hrs⟩,hall⟩ (Hp.le_un_left _ _)) hr left (by omega) (by omega) (by omega)) ?_;rintro _ _ ⟨_,⟨nv1,rfl,rfl⟩,rfl⟩
  obtain⟨G1,l1,e1⟩:=Good.build hr l left G0 (by omega)
  generalize hba:SeaD.build l S left rows=ba at G1 l1 e1 ⊢
  refine L.assign rfl<|WL.nil<|WP.regs<|L.move rfl<|L.move rfl<|L.move rfl<|L.move rfl<|L.sub' rfl rfl (by omega)<|L.move rfl<|L.move rfl<|L.quo' rfl rfl (by omega)<|L.sub' rfl rfl (by omega)<|L.move rfl ?_
  rw[show ((l+1:Nat):Int)-1=(l:Int) by omega,show ((2^(l+1):Nat):Int)/2=((2^l:Nat):Int) by omega]
  refine WL.call rfl rfl F121.fn rfl (FT.part (seaS b {(A:SeaA) with nv:=nv1} ba.1) _ ((Ent.refl _)) fun g gS dj=>ih k _ {(A:SeaA) with nv:=nv1} ba.1 G1.K G1.i (BtsAt.mono ⟨vs,⟨ra,rcap,rfl,hrcap,hrn,hrs⟩,hall⟩ (Hp.le_un_left _ _)) (fun i h=>(hr i h).ext e1) _ (by omega) (by omega) (by have:=G1.len;have:=G1.most;omega)) ?_;rintro _ _ ⟨_,⟨nv2,rfl,rfl⟩,rfl⟩
  obtain⟨G2,l2,e2⟩:=Good.build hr l (left-((2^l:Nat):Int)) G1 (by omega)
  generalize hbb:SeaD.build l ba.1 (left-((2^l:Nat):Int)) rows=bb at G2 l2 e2 ⊢
  have l1:=l1.up e2
  refine WL.call rfl rfl F56.fn rfl (FT.part (seaS b {(A:SeaA) with nv:=nv2} bb.1) _ ((Ent.refl _)) fun g gS dj=>sea_pair b {(A:SeaA) with nv:=nv2} bb.1 ba.2 bb.2 l1.1 (by have:=G2.len;have:=G2.most;omega) G2.K.most (by have h9:(bb.1.nodes.getD ba.2 .no).level=_:=l1.2;omega)) ?_;rintro _ _ ⟨_,⟨nv3,rfl,rfl⟩,rfl⟩;refine L.assign rfl<|WL.nil<|WP.ret<|X.ret rfl (Res.one rfl rfl) ?_
  rw[show SeaD.build (l+1) S left rows=bb.1.pair ba.2 bb.2 by unfold SeaD.build;rw[if_neg (by omega)];dsimp only;rw[hba,hbb]]
  exact⟨_,rfl,_,⟨nv3,rfl,rfl⟩,(Ent.refl _)⟩
  all_goals
   rw[show SeaD.build (l+1) S left rows=S.zero (l+1) by unfold SeaD.build;rw[if_pos (by omega)]]
   exact⟨_,rfl,_,⟨nv1,rfl,rfl⟩,(Ent.refl _)⟩
theorem sea_build (b:Nat) (t:TopoD) (r:RuleD) (rv:Value) (rows:List ByteArray) (hrl:rows.length≤1099511627776):∀ (l:Nat),∀ (k:World) (h0:Hp) (A:SeaA) (S:SeaD) (K:SeaK S) (hi:Inv S) (hbt:BtsAt h0 rv rows) (hr:∀ i,i<rows.length→RowOkB S (rows.getD i ByteArray.empty)) (left:Int),l≤45→-2305843009213693952+((2^l:Nat):Int)≤left∧left≤2305843009213693952→S.nodes.length+costB l≤S.most→FT Pg 121 [.pointer (some ⟨b,0,none⟩),.int .i64 ((l:Nat):Int),.int .i64 left,rv] k h0 (seaS b A S) (Ret fun v τ=>∃ nv,v=encI (SeaD.build l S left rows).2∧τ=seaS b {A with nv:=nv} (SeaD.build l S left rows).1)
  | 0,_,_,A,S,K,hi,hbt,hr,left,h1,h2,h3=>sea_build0 b t r rv rows hrl A S K hi hbt hr left h1 h2 h3
  | l+1,_,_,A,S,K,hi,hbt,hr,left,h1,h2,h3=>sea_build1 b t r rv rows hrl l (sea_build b t r rv rows hrl l) A S K hi hbt hr left h1 h2 h3
end
open Go.RowKit Go.Proofs
section
variable {k:World} {h0:Hp}
set_option maxRecDepth 10000 in
set_option maxHeartbeats 2000000 in
theorem sea_edge1_true (b f:Nat) (ih:∀ (k:World) (h0:Hp) (A:SeaA) (S:SeaD) (l id:Nat),SeaK S→Inv S→Lv S id l→l<f→S.nodes.length+costE l≤S.most→FT Pg 123 [.pointer (some ⟨b,0,none⟩),encI id,.bool true] k h0 (seaS b A S) (Ret fun v τ=>∃ nv,v=.int .i64 (SeaD.edge f S id true).2∧τ=seaS b {A with nv:=nv} (SeaD.edge f S id true).1)) (A:SeaA) (S:SeaD) (l id:Nat) (K:SeaK S) (hi:Inv S) (hlv:Lv S id l) (hf:l<f+1) (hc:S.nodes.length+costE l≤S.most):FT Pg 123 [.pointer (some ⟨b,0,none⟩),encI id,.bool true] k h0 (seaS b A S) (Ret fun v τ=>∃ nv,v=.int .i64 (SeaD.edge (f+1) S id true).2∧τ=seaS b {A with nv:=nv} (SeaD.edge (f+1) S id true).1):=by
  have hid:id<S.nodes.length:=hlv.1
  have hlm:(S.nodes.getD id .no).level=l:=hlv.2
  have hnd:(S.nd id).level=l:=hlv.2
  have G0:=Good.refl K hi
  have hl45:=G0.lev hlv
  have hc0:l+1≤costE l:=by cases l <;> simp only[costE] <;> omega
  refine FT.tight<|FT.fact (fun _ _ _ s=>s.vec_shape (E:=111) (sz:=4) 1 rfl) ?_
  rintro ⟨_,na,ncap,hnv,hncap,hna⟩
  obtain⟨c0,hc0⟩:=hna (by omega)
  subst hc0
  obtain⟨tv,tw,nv,bp,br,bl,bn,ov,bm,bk⟩:=A
  dsimp only at hnv
  subst hnv
  unfold encI
  refine FT.of_wp (n:=57) Tryz.func123 rfl rfl rfl<|WP.regs<|L.assign rfl<|WL.nil<|WP.regs<|L.move rfl<|L.nilCheck rfl<|L.fieldAddr (o':=18) T59.f4 rfl rfl<|L.load T51.sc rfl (Rd.own 0 rfl rfl)<|L.move rfl<|L.indexS T51.sl rfl rfl (by omega)<|L.loadN T111.ag rfl rfl (Rds.vec (vs:=nodeC (S.nodes.getD id .no)) 1 rfl (fun j v hj=>nodesC_rd S.nodes id hid j hj))<|L.alloc T111.z fun c7=>L.storeN T111.ag rfl rfl rfl (Wrs.all 0 rfl rfl (by simp[Value.oneCell']))<|WL.nil<|WP.seq<|WP.regs<|L.move rfl<|L.move rfl<|L.fieldAddr (o':=0) T111.f0 rfl rfl ?_;refine L.load T3.sc rfl (Rd.own 0 rfl rfl)<|WL.call rfl rfl F122.fn rfl (FT.part (seaS b ⟨tv,tw,.slice (some ⟨c0,0,none⟩) S.nodes.length ncap,bp,br,bl,bn,ov,bm,bk⟩ S) _ ((Ent.pk [1,1,1,1,1,1,1,1,1,1,0] rfl)) fun g gS dj=>sea_zero b ⟨tv,tw,.slice (some ⟨c0,0,none⟩) S.nodes.length ncap,bp,br,bl,bn,ov,bm,bk⟩ S K hi (S.nodes.getD id .no).level (by omega) (by omega)) ?_;rintro _ _ ⟨_,⟨nv1,rfl,rfl⟩,rfl⟩
  obtain⟨G1,lz,e1⟩:=G0.zero (S.nodes.getD id .no).level (by omega)
  generalize hz:S.zero (S.nodes.getD id .no).level=z at G1 lz e1 ⊢
  refine L.eql rfl rfl<|WL.nil<|WP.condD rfl (fun h25=>?_) (fun h25=>?_);refine WP.regs<|L.assign rfl<|WL.nil<|WP.ret<|X.thenR<|X.ret rfl (Res.one rfl rfl) ?_
  have hed:SeaD.edge (f+1) S id true=(z.1,-1):=by unfold SeaD.edge;dsimp only;rw[hz,if_pos (by omega)]
  rw[hed]
  exact⟨_,rfl,_,⟨nv1,rfl,rfl⟩,(Ent.pk [0,0,0,0,0,0,0,0,0,0] rfl)⟩
  refine WP.skip<|X.thenN<|WP.seq<|WP.regs<|L.fieldAddr (o':=0) T111.f0 rfl rfl<|L.load T3.sc rfl (Rd.own 10 rfl rfl)<|L.eql rfl rfl<|WL.nil<|WP.condD rfl (fun h28=>?_) (fun h28=>?_);refine WP.regs<|L.assign rfl<|WL.nil<|WP.ret<|X.thenR<|X.ret rfl (Res.one rfl rfl) ?_
  have hed:SeaD.edge (f+1) S id true=(z.1,0):=by unfold SeaD.edge;dsimp only;rw[hz,if_neg (by omega),if_pos (by omega)]
  rw[hed]
  exact⟨_,rfl,_,⟨nv1,rfl,rfl⟩,(Ent.pk [0,0,0,0,0,0,0,0,0,0] rfl)⟩
  obtain⟨l',rfl⟩:∃ l',l=l'+1:=⟨l-1,by omega⟩
  obtain⟨la,lb⟩:=G0.kids hlv
  simp only[costE] at hc hc0
  have hp1:=pow45 (show l'≤45 by omega)
  refine WP.skip<|X.thenN<|WP.seq<|WP.rege [(0,true),(1,true),(2,true),(3,true),(4,true),(5,true),(6,true),(7,true),(8,true),(9,true),(10,true),(11,true)] 12 rfl (by kernel_rfl) (PInv.then PInv.ret) rfl<|WE.take rfl (V.fieldAddr (o':=1) T111.f1 rfl rfl)<|WE.take rfl (V.load T3.sc rfl (Rd.own 10 rfl rfl))<|WE.take rfl (V.fieldAddr (o':=2) T111.f2 rfl rfl)<|WE.take rfl (V.load T3.sc rfl (Rd.own 10 rfl rfl))<|WE.take rfl (V.fieldAddr (o':=0) T111.f0 rfl rfl)<|WE.take rfl (V.load T3.sc rfl (Rd.own 10 rfl rfl))<|WE.take rfl (V.sub' rfl rfl (by omega)) ?_;refine WE.take rfl (V.shl rfl rfl (by omega))<|WE.take rfl (V.assign rfl)<|WE.take rfl (V.assign rfl)<|WE.take rfl (V.assign rfl)<|WE.take rfl (V.assign rfl)<|WE.nil<|X.thenN<|WP.seq<|WP.regs ?_
  rw[shlI' (l:=l') (x:=((S.nodes.getD id .no).level:Int)-1) (by omega) (by omega)]
  refine L.move rfl<|WL.nil<|WP.condT rfl<|WP.region<|L.move rfl<|L.move rfl<|L.move rfl<|L.move rfl<|L.assign rfl<|L.assign rfl<|L.assign rfl<|L.assign rfl<|WL.nil<|X.thenN<|WP.seq<|WP.regs<|L.move rfl<|L.move rfl<|L.move rfl<|WL.call rfl rfl F123.fn rfl (FT.part (seaS b ⟨tv,tw,nv1,bp,br,bl,bn,ov,bm,bk⟩ z.1) _ ((Ent.refl _)) fun g gS dj=>ih k _ ⟨tv,tw,nv1,bp,br,bl,bn,ov,bm,bk⟩ z.1 l' (S.nodes.getD id .no).b G1.K G1.i (lb.up e1) (by omega) (by have:=G1.len;have:=G1.most;omega)) ?_;rintro _ _ ⟨_,⟨nv2,rfl,rfl⟩,rfl⟩
  obtain⟨G2,e2,hb1,hb2⟩:=Good.edge true f G1 (lb.up e1) (by omega)
  rw[pow_cast] at hb2
  generalize hea:SeaD.edge f z.1 (S.nodes.getD id .no).b true=ea at G2 e2 hb1 hb2 ⊢
  refine L.assign rfl<|WL.nil<|WP.regs<|L.move rfl<|L.geq rfl rfl<|WL.nil<|WP.condD rfl (fun h47=>?_) (fun h47=>?_);refine WP.regs<|L.move rfl<|L.move rfl<|L.add' rfl rfl (by omega)<|L.assign rfl<|WL.nil<|WP.ret<|X.thenR<|X.ret rfl (Res.one rfl rfl) ?_
  have hed:SeaD.edge (f+1) S id true=(ea.1,((2^l':Nat):Int)+ea.2):=by unfold SeaD.edge;dsimp only;rw[hz,if_neg (by omega),if_neg (by omega)];simp only[Bool.false_eq_true,if_false,if_true];rw[hea];rw[if_pos (by omega),show (S.nd id).level-1=l' by omega]
  rw[hed]
  exact⟨_,rfl,_,⟨nv2,rfl,rfl⟩,(Ent.pk [0,0,0,0,0,0,0,0,0,0] rfl)⟩
  refine WP.skip<|X.thenN<|WP.regs<|L.move rfl<|L.move rfl<|L.move rfl<|L.move rfl<|WL.call rfl rfl F123.fn rfl (FT.part (seaS b ⟨tv,tw,nv2,bp,br,bl,bn,ov,bm,bk⟩ ea.1) _ ((Ent.refl _)) fun g gS dj=>ih k _ ⟨tv,tw,nv2,bp,br,bl,bn,ov,bm,bk⟩ ea.1 l' (S.nodes.getD id .no).a G2.K G2.i ((la.up e1).up e2) (by omega) (by have:=G2.len;have:=G2.most;omega)) ?_;rintro _ _ ⟨_,⟨nv3,rfl,rfl⟩,rfl⟩
  obtain⟨G3,e3,hb3,hb4⟩:=Good.edge true f G2 ((la.up e1).up e2) (by omega)
  rw[pow_cast] at hb4
  generalize heb:SeaD.edge f ea.1 (S.nodes.getD id .no).a true=eb at G3 e3 hb3 hb4 ⊢
  refine L.add' rfl rfl (by omega)<|L.assign rfl<|WL.nil<|WP.ret<|X.ret rfl (Res.one rfl rfl) ?_
  have hed:SeaD.edge (f+1) S id true=(eb.1,0+eb.2):=by unfold SeaD.edge;dsimp only;rw[hz,if_neg (by omega),if_neg (by omega)];simp only[Bool.false_eq_true,if_false,if_true];rw[hea];rw[if_neg (by omega),heb]
  rw[hed]
  exact⟨_,rfl,_,⟨nv3,rfl,rfl⟩,(Ent.pk [0,0,0,0,0,0,0,0,0,0] rfl)⟩
theorem sea_edge_true (b:Nat):∀ (f:Nat) (k:World) (h0:Hp) (A:SeaA) (S:SeaD) (l id:Nat),SeaK S→Inv S→Lv S id l→l<f→S.nodes.length+costE l≤S.most→FT Pg 123 [.pointer (some ⟨b,0,none⟩),encI id,.bool true] k h0 (seaS b A S) (Ret fun v τ=>∃ nv,v=.int .i64 (SeaD.edge f S id true).2∧τ=seaS b {A with nv:=nv} (SeaD.edge f S id true).1)
  | 0,_,_,_,_,_,_,_,_,_,h,_=>absurd h (by omega)
  | f+1,_,_,A,S,l,id,h1,h2,h3,h4,h5=>sea_edge1_true b f (sea_edge_true b f) A S l id h1 h2 h3 h4 h5
set_option maxRecDepth 10000 in
set_option maxHeartbeats 2000000 in
theorem sea_edge1_false (b f:Nat) (ih:∀ (k:World) (h0:Hp) (A:SeaA) (S:SeaD) (l id:Nat),SeaK S→Inv S→Lv S id l→l<f→S.nodes.length+costE l≤S.most→FT Pg 123 [.pointer (some ⟨b,0,none⟩),encI id,.bool false] k h0 (seaS b A S) (Ret fun v τ=>∃ nv,v=.int .i64 (SeaD.edge f S id false).2∧τ=seaS b {A with nv:=nv} (SeaD.edge f S id false).1)) (A:SeaA) (S:SeaD) (l id:Nat) (K:SeaK S) (hi:Inv S) (hlv:Lv S id l) (hf:l<f+1) (hc:S.nodes.length+costE l≤S.most):FT Pg 123 [.pointer (some ⟨b,0,none⟩),encI id,.bool false] k h0 (seaS b A S) (Ret fun v τ=>∃ nv,v=.int .i64 (SeaD.edge (f+1) S id false).2∧τ=seaS b {A with nv:=nv} (SeaD.edge (f+1) S id false).1):=by
  have hid:id<S.nodes.length:=hlv.1
  have hlm:(S.nodes.getD id .no).level=l:=hlv.2
  have hnd:(S.nd id).level=l:=hlv.2
  have G0:=Good.refl K hi
  have hl45:=G0.lev hlv
  have hc0:l+1≤costE l:=by cases l <;> simp only[costE] <;> omega
  refine FT.tight<|FT.fact (fun _ _ _ s=>s.vec_shape (E:=111) (sz:=4) 1 rfl) ?_
  rintro ⟨_,na,ncap,hnv,hncap,hna⟩
  obtain⟨c0,hc0⟩:=hna (by omega)
  subst hc0
  obtain⟨tv,tw,nv,bp,br,bl,bn,ov,bm,bk⟩:=A
  dsimp only at hnv
  subst hnv
  unfold encI
  refine FT.of_wp (n:=57) Tryz.func123 rfl rfl rfl<|WP.regs<|L.assign rfl<|WL.nil<|WP.regs<|L.move rfl<|L.nilCheck rfl<|L.fieldAddr (o':=18) T59.f4 rfl rfl<|L.load T51.sc rfl (Rd.own 0 rfl rfl)<|L.move rfl<|L.indexS T51.sl rfl rfl (by omega)<|L.loadN T111.ag rfl rfl (Rds.vec (vs:=nodeC (S.nodes.getD id .no)) 1 rfl (fun j v hj=>nodesC_rd S.nodes id hid j hj))<|L.alloc T111.z fun c7=>L.storeN T111.ag rfl rfl rfl (Wrs.all 0 rfl rfl (by simp[Value.oneCell']))<|WL.nil<|WP.seq<|WP.regs<|L.move rfl<|L.move rfl<|L.fieldAddr (o':=0) T111.f0 rfl rfl ?_;refine L.load T3.sc rfl (Rd.own 0 rfl rfl)<|WL.call rfl rfl F122.fn rfl (FT.part (seaS b ⟨tv,tw,.slice (some ⟨c0,0,none⟩) S.nodes.length ncap,bp,br,bl,bn,ov,bm,bk⟩ S) _ ((Ent.pk [1,1,1,1,1,1,1,1,1,1,0] rfl)) fun g gS dj=>sea_zero b ⟨tv,tw,.slice (some ⟨c0,0,none⟩) S.nodes.length ncap,bp,br,bl,bn,ov,bm,bk⟩ S K hi (S.nodes.getD id .no).level (by omega) (by omega)) ?_;rintro _ _ ⟨_,⟨nv1,rfl,rfl⟩,rfl⟩
  obtain⟨G1,lz,e1⟩:=G0.zero (S.nodes.getD id .no).level (by omega)
  generalize hz:S.zero (S.nodes.getD id .no).level=z at G1 lz e1 ⊢
  refine L.eql rfl rfl<|WL.nil<|WP.condD rfl (fun h25=>?_) (fun h25=>?_);refine WP.regs<|L.assign rfl<|WL.nil<|WP.ret<|X.thenR<|X.ret rfl (Res.one rfl rfl) ?_
  have hed:SeaD.edge (f+1) S id false=(z.1,-1):=by unfold SeaD.edge;dsimp only;rw[hz,if_pos (by omega)]
  rw[hed]
  exact⟨_,rfl,_,⟨nv1,rfl,rfl⟩,(Ent.pk [0,0,0,0,0,0,0,0,0,0] rfl)⟩
  refine WP.skip<|X.thenN<|WP.seq<|WP.regs<|L.fieldAddr (o':=0) T111.f0 rfl rfl<|L.load T3.sc rfl (Rd.own 10 rfl rfl)<|L.eql rfl rfl<|WL.nil<|WP.condD rfl (fun h28=>?_) (fun h28=>?_);refine WP.regs<|L.assign rfl<|WL.nil<|WP.ret<|X.thenR<|X.ret rfl (Res.one rfl rfl) ?_
  have hed:SeaD.edge (f+1) S id false=(z.1,0):=by unfold SeaD.edge;dsimp only;rw[hz,if_neg (by omega),if_pos (by omega)]
  rw[hed]
  exact⟨_,rfl,_,⟨nv1,rfl,rfl⟩,(Ent.pk [0,0,0,0,0,0,0,0,0,0] rfl)⟩
  obtain⟨l',rfl⟩:∃ l',l=l'+1:=⟨l-1,by omega⟩
  obtain⟨la,lb⟩:=G0.kids hlv
  simp only[costE] at hc hc0
  have hp1:=pow45 (show l'≤45 by omega)
  refine WP.skip<|X.thenN<|WP.seq<|WP.rege [(0,true),(1,true),(2,true),(3,true),(4,true),(5,true),(6,true),(7,true),(8,true),(9,true),(10,true),(11,true)] 12 rfl (by kernel_rfl) (PInv.then PInv.ret) rfl<|WE.take rfl (V.fieldAddr (o':=1) T111.f1 rfl rfl)<|WE.take rfl (V.load T3.sc rfl (Rd.own 10 rfl rfl))<|WE.take rfl (V.fieldAddr (o':=2) T111.f2 rfl rfl)<|WE.take rfl (V.load T3.sc rfl (Rd.own 10 rfl rfl))<|WE.take rfl (V.fieldAddr (o':=0) T111.f0 rfl rfl)<|WE.take rfl (V.load T3.sc rfl (Rd.own 10 rfl rfl))<|WE.take rfl (V.sub' rfl rfl (by omega)) ?_;refine WE.take rfl (V.shl rfl rfl (by omega))<|WE.take rfl (V.assign rfl)<|WE.take rfl (V.assign rfl)<|WE.take rfl (V.assign rfl)<|WE.take rfl (V.assign rfl)<|WE.nil<|X.thenN<|WP.seq<|WP.regs ?_
  rw[shlI' (l:=l') (x:=((S.nodes.getD id .no).level:Int)-1) (by omega) (by omega)]
  refine L.move rfl<|WL.nil<|WP.condF rfl<|WP.skip<|X.thenN<|WP.seq<|WP.regs<|L.move rfl<|L.move rfl<|L.move rfl<|WL.call rfl rfl F123.fn rfl (FT.part (seaS b ⟨tv,tw,nv1,bp,br,bl,bn,ov,bm,bk⟩ z.1) _ ((Ent.refl _)) fun g gS dj=>ih k _ ⟨tv,tw,nv1,bp,br,bl,bn,ov,bm,bk⟩ z.1 l' (S.nodes.getD id .no).a G1.K G1.i (la.up e1) (by omega) (by have:=G1.len;have:=G1.most;omega)) ?_;rintro _ _ ⟨_,⟨nv2,rfl,rfl⟩,rfl⟩
  obtain⟨G2,e2,hb1,hb2⟩:=Good.edge false f G1 (la.up e1) (by omega)
  rw[pow_cast] at hb2
  generalize hea:SeaD.edge f z.1 (S.nodes.getD id .no).a false=ea at G2 e2 hb1 hb2 ⊢
  refine L.assign rfl<|WL.nil<|WP.regs<|L.move rfl<|L.geq rfl rfl<|WL.nil<|WP.condD rfl (fun h47=>?_) (fun h47=>?_);refine WP.regs<|L.move rfl<|L.move rfl<|L.add' rfl rfl (by omega)<|L.assign rfl<|WL.nil<|WP.ret<|X.thenR<|X.ret rfl (Res.one rfl rfl) ?_
  have hed:SeaD.edge (f+1) S id false=(ea.1,0+ea.2):=by unfold SeaD.edge;dsimp only;rw[hz,if_neg (by omega),if_neg (by omega)];simp only[Bool.false_eq_true,if_false,if_true];rw[hea];rw[if_pos (by omega)]
  rw[hed]
  exact⟨_,rfl,_,⟨nv2,rfl,rfl⟩,(Ent.pk [0,0,0,0,0,0,0,0,0,0] rfl)⟩
  refine WP.skip<|X.thenN<|WP.regs<|L.move rfl<|L.move rfl<|L.move rfl<|L.move rfl<|WL.call rfl rfl F123.fn rfl (FT.part (seaS b ⟨tv,tw,nv2,bp,br,bl,bn,ov,bm,bk⟩ ea.1) _ ((Ent.refl _)) fun g gS dj=>ih k _ ⟨tv,tw,nv2,bp,br,bl,bn,ov,bm,bk⟩ ea.1 l' (S.nodes.getD id .no).b G2.K G2.i ((lb.up e1).up e2) (by omega) (by have:=G2.len;have:=G2.most;omega)) ?_;rintro _ _ ⟨_,⟨nv3,rfl,rfl⟩,rfl⟩
  obtain⟨G3,e3,hb3,hb4⟩:=Good.edge false f G2 ((lb.up e1).up e2) (by omega)
  rw[pow_cast] at hb4
  generalize heb:SeaD.edge f ea.1 (S.nodes.getD id .no).b false=eb at G3 e3 hb3 hb4 ⊢
  refine L.add' rfl rfl (by omega)<|L.assign rfl<|WL.nil<|WP.ret<|X.ret rfl (Res.one rfl rfl) ?_
  have hed:SeaD.edge (f+1) S id false=(eb.1,((2^l':Nat):Int)+eb.2):=by unfold SeaD.edge;dsimp only;rw[hz,if_neg (by omega),if_neg (by omega)];simp only[Bool.false_eq_true,if_false,if_true];rw[hea];rw[if_neg (by omega),heb,show (S.nd id).level-1=l' by omega]
  rw[hed]
  exact⟨_,rfl,_,⟨nv3,rfl,rfl⟩,(Ent.pk [0,0,0,0,0,0,0,0,0,0] rfl)⟩
theorem sea_edge_false (b:Nat):∀ (f:Nat) (k:World) (h0:Hp) (A:SeaA) (S:SeaD) (l id:Nat),SeaK S→Inv S→Lv S id l→l<f→S.nodes.length+costE l≤S.most→FT Pg 123 [.pointer (some ⟨b,0,none⟩),encI id,.bool false] k h0 (seaS b A S) (Ret fun v τ=>∃ nv,v=.int .i64 (SeaD.edge f S id false).2∧τ=seaS b {A with nv:=nv} (SeaD.edge f S id false).1)
  | 0,_,_,_,_,_,_,_,_,_,h,_=>absurd h (by omega)
  | f+1,_,_,A,S,l,id,h1,h2,h3,h4,h5=>sea_edge1_false b f (sea_edge_false b f) A S l id h1 h2 h3 h4 h5
set_option maxRecDepth 10000 in
set_option maxHeartbeats 1000000 in
theorem sea_cut0 (b:Nat) (S:SeaD) (hn:NW S.nodes) (P:List ByteArray→HP) (f:FuncId) (hf:IsFn Pg f) (caps:List Value) (B:Nat) (hc:∀ g,h0.le g→∀ ls x,ls.length<B→FT Pg f (.string x::caps) k g [P ls] (Ret fun y τ=>y=.tuple #[]∧τ=[P (ls++[x])])) (A:SeaA) (id:Nat) (lo hi:Int) (ls:List ByteArray) (hid:id<S.nodes.length) (hl:(S.nodes.getD id .no).level=0) (hlo:-2305843009213693952+((2^0:Nat):Int)≤lo∧lo≤2305843009213693952) (hhi:-2305843009213693952+((2^0:Nat):Int)≤hi∧hi≤2305843009213693952) (hB:ls.length+2^0≤B):FT Pg 124 [.pointer (some ⟨b,0,none⟩),encI id,.int .i64 lo,.int .i64 hi,.func (.func f) #[] caps.toArray] k h0 (seaS b A S++[P ls]) (Ret fun y τ=>y=.tuple #[]∧τ=seaS b A S++[P (ls++cutD S.nodes 0 id lo hi)]):=by
  refine FT.tight<|FT.fact (fun _ _ _ s=>s.vec_shape (E:=111) (sz:=4) 1 rfl) ?_
  rintro ⟨_,na,ncap,hnv,hncap,hna⟩
  obtain⟨c0,hc0⟩:=hna (by omega)
  subst hc0
  obtain⟨tv,tw,nv,bp,br,bl,bn,ov,bm,bk⟩:=A
  dsimp only at hnv
  subst hnv
  unfold encI
  refine FT.of_wp (n:=56) Tryz.func124 rfl rfl rfl<|WP.regs<|L.move rfl<|L.nilCheck rfl<|L.fieldAddr (o':=18) T59.f4 rfl rfl<|L.load T51.sc rfl (Rd.own 0 rfl rfl)<|L.move rfl<|L.indexS T51.sl rfl rfl (by omega)<|L.loadN T111.ag rfl rfl (Rds.vec (vs:=nodeC (S.nodes.getD id .no)) 1 rfl (fun j v hj=>nodesC_rd S.nodes id hid j hj))<|L.alloc T111.z fun c6=>L.storeN T111.ag rfl rfl rfl (Wrs.all 0 rfl rfl (by simp[Value.oneCell']))<|WL.nil<|WP.regs<|L.fieldAddr (o':=0) T111.f0 rfl rfl<|L.load T3.sc rfl (Rd.own 0 rfl rfl)<|L.shl rfl rfl (by omega) ?_;refine L.assign rfl<|WL.nil<|WP.seq<|WP.regs ?_
  rw[shlI (l:=(S.nodes.getD id .no).level) (by omega),hl]
  refine L.move rfl<|L.leqD rfl rfl (fun h23=>?_) (fun h23=>?_);refine L.move rfl<|L.skip<|L.skip<|L.skip<|L.pickT rfl rfl<|WL.nil<|WP.condT rfl<|WP.ret<|X.thenR<|X.ret rfl (Res.none rfl) ?_;rotate_left;refine L.move rfl<|L.move rfl<|L.move rfl<|L.geq rfl rfl<|L.pickF rfl rfl<|WL.nil<|WP.condD rfl (fun h28=>?_) (fun h28=>?_);refine WP.ret<|X.thenR<|X.ret rfl (Res.none rfl) ?_;rotate_left
  have hcu:cutD S.nodes 0 id lo hi=[(S.nodes.getD id .no).row]:=by unfold cutD;rw[if_neg (by omega)]
  refine WP.skip<|X.thenN<|WP.seq<|WP.regs<|L.fieldAddr (o':=0) T111.f0 rfl rfl<|L.load T3.sc rfl (Rd.own 0 rfl rfl)<|L.eql rfl rfl<|WL.nil<|WP.condD rfl (fun h31=>?_) (fun hF=>absurd hF (by omega));refine WP.regs<|L.move rfl<|L.fieldAddr (o':=3) T111.f3 rfl rfl<|L.load T9.sc rfl (Rd.own 0 rfl rfl)<|WL.callF (first:=[]) (cap:=caps) rfl rfl rfl hf rfl (FT.part [P ls] _ ((Ent.pk [11,1,1,1,1,1,1,1,1,1,1] rfl)) fun g gS dj=>hc _ (Hp.le_un_left _ _) ls _ (by omega)) ?_;rintro _ _ ⟨_,⟨rfl,rfl⟩,rfl⟩;refine WL.nil<|WP.ret<|X.thenR<|X.ret rfl (Res.none rfl) ?_
  rw[hcu]
  exact⟨_,rfl,_,⟨rfl,rfl⟩,(Ent.pk [1,1,1,1,1,1,1,1,1,1,0] rfl)⟩
  all_goals
   rw[show cutD S.nodes 0 id lo hi=[] by unfold cutD;rw[if_pos (by omega)],List.append_nil]
   exact⟨_,rfl,_,⟨rfl,rfl⟩,(Ent.left [_] _)⟩
set_option maxRecDepth 10000 in
set_option maxHeartbeats 1000000 in
theorem sea_cut1 (b:Nat) (S:SeaD) (hn:NW S.nodes) (P:List ByteArray→HP) (f:FuncId) (hf:IsFn Pg f) (caps:List Value) (B:Nat) (l:Nat) (ih:∀ (k:World) (h0:Hp) (hc:∀ g,h0.le g→∀ ls x,ls.length<B→FT Pg f (.string x::caps) k g [P ls] (Ret fun y τ=>y=.tuple #[]∧τ=[P (ls++[x])])) (A:SeaA) (id:Nat) (lo hi:Int) (ls:List ByteArray),id<S.nodes.length→(S.nodes.getD id .no).level=l→-2305843009213693952+((2^l:Nat):Int)≤lo∧lo≤2305843009213693952→-2305843009213693952+((2^l:Nat):Int)≤hi∧hi≤2305843009213693952→ls.length+2^l≤B→FT Pg 124 [.pointer (some ⟨b,0,none⟩),encI id,.int .i64 lo,.int .i64 hi,.func (.func f) #[] caps.toArray] k h0 (seaS b A S++[P ls]) (Ret fun y τ=>y=.tuple #[]∧τ=seaS b A S++[P (ls++cutD S.nodes l id lo hi)])) (hc:∀ g,h0.le g→∀ ls x,ls.length<B→FT Pg f (.string x::caps) k g [P ls] (Ret fun y τ=>y=.tuple #[]∧τ=[P (ls++[x])])) (A:SeaA) (id:Nat) (lo hi:Int) (ls:List ByteArray) (hid:id<S.nodes.length) (hl:(S.nodes.getD id .no).level=(l+1)) (hlo:-2305843009213693952+((2^(l+1):Nat):Int)≤lo∧lo≤2305843009213693952) (hhi:-2305843009213693952+((2^(l+1):Nat):Int)≤hi∧hi≤2305843009213693952) (hB:ls.length+2^(l+1)≤B):FT Pg 124 [.pointer (some ⟨b,0,none⟩),encI id,.int .i64 lo,.int .i64 hi,.func (.func f) #[] caps.toArray] k h0 (seaS b A S++[P ls]) (Ret fun y τ=>y=.tuple #[]∧τ=seaS b A S++[P (ls++cutD S.nodes (l+1) id lo hi)]):=by
  have hnw:=(hn id hid).2 (by omega)
  have hpw:2^(l+1)=2^l+2^l:=by rw[Nat.pow_succ];omega
  have hl45:=(hn id hid).1
  have hp1:=pow45 (show l≤45 by omega)
  refine FT.tight<|FT.fact (fun _ _ _ s=>s.vec_shape (E:=111) (sz:=4) 1 rfl) ?_
  rintro ⟨_,na,ncap,hnv,hncap,hna⟩
  obtain⟨c0,hc0⟩:=hna (by omega)
  subst hc0
  obtain⟨tv,tw,nv,bp,br,bl,bn,ov,bm,bk⟩:=A
  dsimp only at hnv
  subst hnv
  unfold encI
  refine FT.of_wp (n:=56) Tryz.func124 rfl rfl rfl<|WP.regs<|L.move rfl<|L.nilCheck rfl<|L.fieldAddr (o':=18) T59.f4 rfl rfl<|L.load T51.sc rfl (Rd.own 0 rfl rfl)<|L.move rfl<|L.indexS T51.sl rfl rfl (by omega)<|L.loadN T111.ag rfl rfl (Rds.vec (vs:=nodeC (S.nodes.getD id .no)) 1 rfl (fun j v hj=>nodesC_rd S.nodes id hid j hj))<|L.alloc T111.z fun c6=>L.storeN T111.ag rfl rfl rfl (Wrs.all 0 rfl rfl (by simp[Value.oneCell']))<|WL.nil<|WP.regs<|L.fieldAddr (o':=0) T111.f0 rfl rfl<|L.load T3.sc rfl (Rd.own 0 rfl rfl)<|L.shl rfl rfl (by omega) ?_;refine L.assign rfl<|WL.nil<|WP.seq<|WP.regs ?_
  rw[shlI (l:=(S.nodes.getD id .no).level) (by omega),hl]
  refine L.move rfl<|L.leqD rfl rfl (fun h23=>?_) (fun h23=>?_);refine L.move rfl<|L.skip<|L.skip<|L.skip<|L.pickT rfl rfl<|WL.nil<|WP.condT rfl<|WP.ret<|X.thenR<|X.ret rfl (Res.none rfl) ?_;rotate_left;refine L.move rfl<|L.move rfl<|L.move rfl<|L.geq rfl rfl<|L.pickF rfl rfl<|WL.nil<|WP.condD rfl (fun h28=>?_) (fun h28=>?_);refine WP.ret<|X.thenR<|X.ret rfl (Res.none rfl) ?_;rotate_left
  have hcu:cutD S.nodes (l+1) id lo hi=cutD S.nodes l (S.nodes.getD id .no).a lo hi++cutD S.nodes l (S.nodes.getD id .no).b (lo-((2^l:Nat):Int)) (hi-((2^l:Nat):Int)):=by unfold cutD;rw[if_neg (by omega)];cases l <;> rfl
  refine WP.skip<|X.thenN<|WP.seq<|WP.regs<|L.fieldAddr (o':=0) T111.f0 rfl rfl<|L.load T3.sc rfl (Rd.own 0 rfl rfl)<|L.eql rfl rfl<|WL.nil<|WP.condD rfl (fun hT=>absurd hT (by omega)) (fun h31=>?_)
  refine WP.skip<|X.thenN<|WP.regs<|L.move rfl<|L.fieldAddr (o':=1) T111.f1 rfl rfl<|L.load T3.sc rfl (Rd.own 0 rfl rfl)<|L.move rfl<|L.move rfl<|L.move rfl<|WL.call rfl rfl F124.fn rfl (FT.part (seaS b ⟨tv,tw,.slice (some ⟨c0,0,none⟩) S.nodes.length ncap,bp,br,bl,bn,ov,bm,bk⟩ S++[P ls]) _ ((Ent.pk [1,1,1,1,1,1,1,1,1,1,1,0] rfl)) fun g gS dj=>ih k _ (fun g' le=>hc g' (Hp.le_trans (Hp.le_un_left _ _) le)) ⟨tv,tw,.slice (some ⟨c0,0,none⟩) S.nodes.length ncap,bp,br,bl,bn,ov,bm,bk⟩ (S.nodes.getD id .no).a lo hi ls hnw.1 (by have:=hnw.2.2.1;omega) ⟨by omega,by omega⟩ ⟨by omega,by omega⟩ (by (try simp only[List.length_append]);have:=cutD_len S.nodes l (S.nodes.getD id .no).a lo hi;omega)) ?_;rintro _ _ ⟨_,⟨rfl,rfl⟩,rfl⟩
  refine WL.nil<|WP.region<|L.move rfl<|L.fieldAddr (o':=2) T111.f2 rfl rfl<|L.load T3.sc rfl (Rd.own 11 rfl rfl)<|L.move rfl<|L.move rfl<|L.quo' rfl rfl (by omega)<|L.sub' rfl rfl (by omega)<|L.move rfl<|L.move rfl<|L.quo' rfl rfl (by omega)<|L.sub' rfl rfl (by omega)<|L.move rfl ?_
  rw[show ((2^(l+1):Nat):Int)/2=((2^l:Nat):Int) by omega]
  refine WL.call rfl rfl F124.fn rfl (FT.part (seaS b ⟨tv,tw,.slice (some ⟨c0,0,none⟩) S.nodes.length ncap,bp,br,bl,bn,ov,bm,bk⟩ S++[P (ls++cutD S.nodes l (S.nodes.getD id .no).a lo hi)]) _ ((Ent.refl _)) fun g gS dj=>ih k _ (fun g' le=>hc g' (Hp.le_trans (Hp.le_un_left _ _) le)) ⟨tv,tw,.slice (some ⟨c0,0,none⟩) S.nodes.length ncap,bp,br,bl,bn,ov,bm,bk⟩ (S.nodes.getD id .no).b (lo-((2^l:Nat):Int)) (hi-((2^l:Nat):Int)) (ls++cutD S.nodes l (S.nodes.getD id .no).a lo hi) hnw.2.1 (by have:=hnw.2.2.2;omega) ⟨by omega,by omega⟩ ⟨by omega,by omega⟩ (by (try simp only[List.length_append]);have:=cutD_len S.nodes l (S.nodes.getD id .no).a lo hi;omega)) ?_;rintro _ _ ⟨_,⟨rfl,rfl⟩,rfl⟩
  refine WL.nil<|X.end rfl (Res.none rfl) ?_
  rw[hcu]
  refine⟨_,rfl,_,⟨rfl,rfl⟩,((Ent.pk [0,0,0,0,0,0,0,0,0,0,0] rfl)).trans (Ent.of_eq ?_)⟩
  rw[List.append_assoc]
  rfl
  all_goals
   rw[show cutD S.nodes (l+1) id lo hi=[] by unfold cutD;rw[if_pos (by omega)],List.append_nil]
   exact⟨_,rfl,_,⟨rfl,rfl⟩,(Ent.left [_] _)⟩
theorem sea_cut (b:Nat) (S:SeaD) (hn:NW S.nodes) (P:List ByteArray→HP) (f:FuncId) (hf:IsFn Pg f) (caps:List Value) (B:Nat):∀ (l:Nat),∀ (k:World) (h0:Hp) (hc:∀ g,h0.le g→∀ ls x,ls.length<B→FT Pg f (.string x::caps) k g [P ls] (Ret fun y τ=>y=.tuple #[]∧τ=[P (ls++[x])])) (A:SeaA) (id:Nat) (lo hi:Int) (ls:List ByteArray),id<S.nodes.length→(S.nodes.getD id .no).level=l→-2305843009213693952+((2^l:Nat):Int)≤lo∧lo≤2305843009213693952→-2305843009213693952+((2^l:Nat):Int)≤hi∧hi≤2305843009213693952→ls.length+2^l≤B→FT Pg 124 [.pointer (some ⟨b,0,none⟩),encI id,.int .i64 lo,.int .i64 hi,.func (.func f) #[] caps.toArray] k h0 (seaS b A S++[P ls]) (Ret fun y τ=>y=.tuple #[]∧τ=seaS b A S++[P (ls++cutD S.nodes l id lo hi)])
  | 0,_,_,hc,A,id,lo,hi,ls,h1,h2,h3,h4,h5=>sea_cut0 b S hn P f hf caps B hc A id lo hi ls h1 h2 h3 h4 h5
  | l+1,_,_,hc,A,id,lo,hi,ls,h1,h2,h3,h4,h5=>sea_cut1 b S hn P f hf caps B l (sea_cut b S hn P f hf caps B l) hc A id lo hi ls h1 h2 h3 h4 h5
end
open Go.RowKit Go.Proofs
def accB (cq cb:Nat) (W q:Int) (ls:List ByteArray):HP:=exP fun p:Value × List Value=>starsP [cl cq [.pointer (some ⟨cb,0,none⟩)] 122,cl cb [.int .i64 W,.int .i64 q,p.1] 63,vec 60 1 p.1 ls.length p.2,rowsO p.2 ls]
theorem Ent.accB {σ:List HP} {cq cb:Nat} {W q:Int} {v:Value} {vs:List Value} {ls:List ByteArray} {n:Nat} (hn:n=ls.length):Ent (cl cq [.pointer (some ⟨cb,0,none⟩)] 122::cl cb [.int .i64 W,.int .i64 q,v] 63::vec 60 1 v n vs::Go.Eng.rowsO vs ls::σ) (Go.Eng.accB cq cb W q ls::σ):=by
  subst hn
  have h1:Ent ([cl cq [.pointer (some ⟨cb,0,none⟩)] 122,cl cb [.int .i64 W,.int .i64 q,v] 63,vec 60 1 v ls.length vs,Go.Eng.rowsO vs ls]++σ) (starsP [cl cq [.pointer (some ⟨cb,0,none⟩)] 122,cl cb [.int .i64 W,.int .i64 q,v] 63,vec 60 1 v ls.length vs,Go.Eng.rowsO vs ls]::σ):=Ent.shut
  exact h1.trans (Ent.ex (p:=fun p:Value × List Value=>starsP [cl cq [.pointer (some ⟨cb,0,none⟩)] 122,cl cb [.int .i64 W,.int .i64 q,p.1] 63,vec 60 1 p.1 ls.length p.2,Go.Eng.rowsO p.2 ls]) (v,vs))
theorem Ent.accB0 {σ:List HP} {cq cb:Nat} {W q:Int}:Ent (cl cq [.pointer (some ⟨cb,0,none⟩)] 122::cl cb [.int .i64 W,.int .i64 q,.slice none 0 0] 63::σ) (Go.Eng.accB cq cb W q []::σ):=by
  have h1:Ent (cl cq [.pointer (some ⟨cb,0,none⟩)] 122::cl cb [.int .i64 W,.int .i64 q,.slice none 0 0] 63::σ) (vec 60 1 (.slice none 0 0) 0 []::Go.Eng.rowsO [] []::cl cq [.pointer (some ⟨cb,0,none⟩)] 122::cl cb [.int .i64 W,.int .i64 q,.slice none 0 0] 63::σ):=Ent.nilrows.trans Ent.nilvec
  exact h1.trans ((Ent.perm (List.Perm.append_right σ (List.perm_append_comm (l₁:=[_,_]) (l₂:=[_,_])))).trans (Ent.accB rfl))
section
variable {k:World} {h0:Hp}
set_option maxRecDepth 10000 in
theorem bits_Len64:FT Pg 148 [.int .u64 27] k h0 [] (Is (.int .i64 5)):=by
  refine FT.of_wp (n:=25) Tryz.func148 rfl rfl rfl<|WP.regs<|L.assign rfl<|WL.nil<|WP.seq<|WP.regs<|L.move rfl<|L.geq rfl rfl<|WL.nil<|WP.condD rfl (fun hT=>absurd hT (by decide)) (fun h4=>?_);refine WP.skip<|X.thenN<|WP.seq<|WP.regs<|L.move rfl<|L.geq rfl rfl<|WL.nil<|WP.condD rfl (fun hT=>absurd hT (by decide)) (fun h8=>?_);refine WP.skip<|X.thenN<|WP.seq<|WP.regs<|L.move rfl<|L.geq rfl rfl<|WL.nil<|WP.condD rfl (fun hT=>absurd hT (by decide)) (fun h14=>?_)
  refine WP.skip<|X.thenN<|WP.regs<|L.move rfl<|L.move rfl<|L.convInt T214.u T5.u rfl<|L.indexStr (b:=5) T9.u rfl rfl (by decide) (by rfl)<|L.convInt T5.u T3.u rfl<|L.add' rfl rfl (by decide)<|L.assign rfl<|WL.nil<|WP.ret<|X.ret rfl (Res.one rfl rfl) ?_;exact rfl
set_option maxRecDepth 10000 in
theorem bits_Len:FT Pg 120 [.int .u64 27] k h0 [] (Is (.int .i64 5)):=by
  refine FT.of_wp (n:=8) Tryz.func120 rfl rfl rfl<|WP.regs<|L.assign rfl<|WL.nil<|WP.seq<|WP.condF rfl<|WP.skip<|X.thenN<|WP.regs<|L.move rfl<|WL.callV rfl rfl F148.fn rfl (fun g gS dj=>bits_Len64)<|L.assign rfl<|WL.nil<|WP.ret<|X.ret rfl (Res.one rfl rfl) ?_;exact rfl
set_option maxRecDepth 10000 in
theorem sea_leap1c (cq cb:Nat) (W q:Int) (ls:List ByteArray) (x:ByteArray) (hl:ls.length<1099511627776):FT Pg 125 [.string x,.pointer (some ⟨cq,0,none⟩)] k h0 [accB cq cb W q ls] (Ret fun y τ=>y=.tuple #[]∧τ=[accB cq cb W q (ls++[x])]):=by
  refine FT.ex ?_
  rintro ⟨v,vs⟩
  refine FT.ent Ent.stars<|FT.tight<|FT.of_wp (n:=14) Tryz.func125 rfl rfl rfl<|WP.regeq _ (Ent.pk [0,0] rfl) [(0,true),(1,true),(2,true),(3,true),(4,true),(5,true),(6,false),(7,false),(8,false),(9,true),(10,true),(11,false)] 11 rfl (by kernel_rfl) PInv.ret rfl<|WE.take rfl (V.load T122.sc rfl (Rd.own 0 rfl rfl))<|WE.take rfl (V.load T122.sc rfl (Rd.own 0 rfl rfl))<|WE.take rfl (V.nilCheck rfl)<|WE.take rfl (V.fieldAddr (o':=2) T63.f2 rfl rfl)<|WE.take rfl (V.load T61.sc rfl (Rd.own 1 rfl rfl))<|WE.take rfl (V.move rfl) ?_;refine WE.one rfl<|L.strToBytes T9.u T60.sl T5.u rfl ?_;intro v5;rw[bytesV_u8s]
  refine WL.fact (fun _ _ _ s=>s.vec_shape 0 rfl) ?_;rintro ⟨_,ua,ucap,rfl,hucap,hua⟩;refine WL.nil ⟨(Ent.pk [1,1] rfl),?_⟩;refine WE.one rfl<|L.slice1 T61.sl T60.z rfl rfl rfl rfl rfl rfl fun b1=>WL.nil ⟨(Ent.pk [2,2] rfl),?_⟩;refine WE.one rfl<|L.append (i:=4) (news:=[.slice ua x.size ucap]) T61.sl T60.z rfl rfl rfl rfl rfl rfl (fun _ _ _ e=>by cases e;exact⟨rfl,Rds.all 0 rfl⟩) (fun e=>by cases e) (by simp[Value.oneCell']) (by omega) ?_;intro u2;refine WL.fact (φ:=u2.oneCell'=true) (fun _ _ _ s=>s.vec_one 0 rfl) fun hv1=>WL.nil ⟨(Ent.pk [3,3] rfl),?_⟩
  refine WE.take rfl (V.nilCheck rfl)<|WE.take rfl (V.fieldAddr (o':=2) T63.f2 rfl rfl)<|WE.last rfl<|L.store T61.sc rfl rfl hv1 (Wr.at 4 rfl rfl)<|WL.nil<|WE.nil<|X.end rfl (Res.none rfl)<|⟨_,rfl,_,⟨rfl,rfl⟩,((Ent.pk [2,4,2,2,0] rfl)).trans ((Ent.rowsO (intsB_len x)).trans ((Ent.pk [1,1,1,0] rfl).trans (Ent.accB (List.length_append (bs:=[x])).symm)))⟩
end
end Go.Eng
