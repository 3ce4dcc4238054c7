/- Walks of the functions of the seat over those rules, and plain laws of what they compute. No conditions beyond those in each theorem. -/
import Derived.Test.YtclhjichmdjlaaaGreatSB
set_option linter.unusedSimpArgs false
set_option linter.unusedVariables false
namespace Go.Eng
open Go.RowKit Go.Proofs
theorem TableD.Wd.var {t:TableD} (h:t.Wd) {i:Nat} (hi:i<t.vars.length):(∀ s∈(t.vars.getD i .no).states,U8 s)∧(t.vars.getD i .no).states.length<2^47∧(t.vars.getD i .no).name.size≤4611686018427387904:=by
  have:=h.vars (t.vars.getD i .no) (by rw[List.getD_eq_getElem?_getD,List.getElem?_eq_getElem hi];exact List.getElem_mem hi)
  exact this
theorem TableD.Wd.row {t:TableD} (h:t.Wd) {i:Nat} (hi:i<t.rows.length):(t.rows.getD i .no).centre.Wd∧(t.rows.getD i .no).out.Wd∧(∀ a∈(t.rows.getD i .no).around,a.Wd)∧(t.rows.getD i .no).around.length<2^47:=by
  have:=h.rows (t.rows.getD i .no) (by rw[List.getD_eq_getElem?_getD,List.getElem?_eq_getElem hi];exact List.getElem_mem hi)
  exact this
theorem getD_mem {α:Type} {l:List α} {i:Nat} {d:α} (hi:i<l.length):l.getD i d∈l:=by
  rw[List.getD_eq_getElem?_getD,List.getElem?_eq_getElem hi];exact List.getElem_mem hi
section
variable {k:World} {h0:Hp}
set_option maxRecDepth 10000 in
theorem table_Check (t:TableD) (hw:t.Wd) (v r:Value) (ht:TabAt h0 t v r):FT Pg 217 [.agg (tableC t v r).toArray] k h0 [] (RV fun u=>∃ e:Int,u=.int .i64 e∧(e=0↔t.Ok)):=by
  obtain⟨⟨vs,⟨va,vcap,rfl,hvcap,hvnone,hvsome⟩,hvb⟩,⟨rs,⟨ra,rcap,rfl,hrcap,hrnone,hrsome⟩,hrt⟩⟩:=ht
  have hnv:=hw.nvars;have hnr:=hw.nrows
  refine FT.of_wp (n:=153) Tryz.func217 rfl rfl rfl<|WP.regs<|L.box rfl rfl fun b1=>L.assign rfl<|WL.nil<|WP.seq<|WP.regs<|L.fieldAddr (o':=0) T30.f0 rfl rfl<|L.load T3.sc rfl (Rd.own 0 rfl rfl)<|L.lssD rfl rfl (fun h17=>?_) (fun h17=>?_)
  ·
   refine L.move rfl<|L.skip<|L.skip<|L.skip<|L.pickT rfl rfl<|WL.nil<|WP.condT rfl<|WP.regs<|L.assign rfl<|WL.nil<|WP.ret<|X.thenR<|X.ret rfl (Res.one rfl rfl) ?_
   first
    | exact⟨_,rfl,_,rfl,⟨fun _=>⟨by omega,hem.1 (by omega),by omega,by omega,hallv,fun j hj=>hall j (by omega)⟩,fun _=>rfl⟩⟩
    | (refine⟨_,rfl,_,rfl,⟨fun h=>absurd h (by omega),fun hok=>?_⟩⟩
       exfalso
       first
       | exact absurd hok.st.1 (by omega)
       | exact absurd hok.st.2 (by omega)
       | exact absurd hok.sym.2.1 (by omega)
       | exact absurd (hem.2 hok.sym) (by omega)
       | exact absurd hok.nv (by omega)
       | exact absurd hok.nr (by omega)
       | exact absurd (hbn.2 (hok.vars i (by omega)).1) (by decide)
       | (have hc4':c=1:=by omega
          have hil:i<t.vars.length:=by omega
          obtain⟨j,hj,he⟩:=hc3.1 hc4'
          exact (hok.vars i hil).2.1 j hj he)
       | exact absurd (hok.vars i (by omega)).2.2.1 (by omega)
       | exact absurd ((hok.vars i (by omega)).2.2.2 p (by omega)).1 (by omega)
       | (have hil:i<t.vars.length:=by omega
          have hpl:p<(t.vars.getD i .no).states.length:=by omega
          have hp0:0<p:=by omega
          have hx1:=((hok.vars i hil).2.2.2 p hpl).2 hp0
          have hx2:((p:Int)-1).toNat=p-1:=by omega
          rw[hx2] at h106
          omega)
       | exact absurd (hok.rows i (by omega)).1 (by omega)
       | exact hd1 (hok.rows i (by omega)).2.1
       | exact hd2 (hok.rows i (by omega)).2.2.1
       | exact hd3 (hok.rows i (by omega)).2.2.2.1
       | exact hd4 ((hok.rows i (by omega)).2.2.2.2 p (by omega)))
  ·
   refine L.move rfl<|L.fieldAddr (o':=0) T30.f0 rfl rfl<|L.load T3.sc rfl (Rd.own 0 rfl rfl)<|L.gtr rfl rfl<|L.pickF rfl rfl<|WL.nil<|WP.condD rfl (fun h22=>?_) (fun h22=>?_)
   ·
    refine WP.regs<|L.assign rfl<|WL.nil<|WP.ret<|X.thenR<|X.ret rfl (Res.one rfl rfl) ?_
    first
     | exact⟨_,rfl,_,rfl,⟨fun _=>⟨by omega,hem.1 (by omega),by omega,by omega,hallv,fun j hj=>hall j (by omega)⟩,fun _=>rfl⟩⟩
     | (refine⟨_,rfl,_,rfl,⟨fun h=>absurd h (by omega),fun hok=>?_⟩⟩
        exfalso
        first
        | exact absurd hok.st.1 (by omega)
        | exact absurd hok.st.2 (by omega)
        | exact absurd hok.sym.2.1 (by omega)
        | exact absurd (hem.2 hok.sym) (by omega)
        | exact absurd hok.nv (by omega)
        | exact absurd hok.nr (by omega)
        | exact absurd (hbn.2 (hok.vars i (by omega)).1) (by decide)
        | (have hc4':c=1:=by omega
           have hil:i<t.vars.length:=by omega
           obtain⟨j,hj,he⟩:=hc3.1 hc4'
           exact (hok.vars i hil).2.1 j hj he)
        | exact absurd (hok.vars i (by omega)).2.2.1 (by omega)
        | exact absurd ((hok.vars i (by omega)).2.2.2 p (by omega)).1 (by omega)
        | (have hil:i<t.vars.length:=by omega
           have hpl:p<(t.vars.getD i .no).states.length:=by omega
           have hp0:0<p:=by omega
           have hx1:=((hok.vars i hil).2.2.2 p hpl).2 hp0
           have hx2:((p:Int)-1).toNat=p-1:=by omega
           rw[hx2] at h106
           omega)
        | exact absurd (hok.rows i (by omega)).1 (by omega)
        | exact hd1 (hok.rows i (by omega)).2.1
        | exact hd2 (hok.rows i (by omega)).2.2.1
        | exact hd3 (hok.rows i (by omega)).2.2.2.1
        | exact hd4 ((hok.rows i (by omega)).2.2.2.2 p (by omega)))
   ·
    refine WP.skip<|X.thenN<|WP.regs<|L.fieldAddr (o':=1) T30.f1 rfl rfl<|L.load T5.sc rfl (Rd.own 0 rfl rfl)<|WL.callV rfl rfl F143.fn rfl (fun g gS dj=>hood_Size t.hood)<|L.move rfl<|L.extract rfl rfl<|L.extract rfl rfl<|L.assign rfl<|L.assign rfl<|WL.nil<|WP.seq<|WP.regs<|L.move rfl<|L.neq rfl rfl<|WL.nil<|WP.condD rfl (fun h30=>?_) (fun h30=>?_)
    ·
     refine WP.regs<|L.move rfl<|L.assign rfl<|WL.nil<|WP.ret<|X.thenR<|X.ret rfl (Res.one rfl rfl) ?_
     first
      | exact⟨_,rfl,_,rfl,⟨fun _=>⟨by omega,hem.1 (by omega),by omega,by omega,hallv,fun j hj=>hall j (by omega)⟩,fun _=>rfl⟩⟩
      | (refine⟨_,rfl,_,rfl,⟨fun h=>absurd h (by omega),fun hok=>?_⟩⟩
         exfalso
         first
         | exact absurd hok.st.1 (by omega)
         | exact absurd hok.st.2 (by omega)
         | exact absurd hok.sym.2.1 (by omega)
         | exact absurd (hem.2 hok.sym) (by omega)
         | exact absurd hok.nv (by omega)
         | exact absurd hok.nr (by omega)
         | exact absurd (hbn.2 (hok.vars i (by omega)).1) (by decide)
         | (have hc4':c=1:=by omega
            have hil:i<t.vars.length:=by omega
            obtain⟨j,hj,he⟩:=hc3.1 hc4'
            exact (hok.vars i hil).2.1 j hj he)
         | exact absurd (hok.vars i (by omega)).2.2.1 (by omega)
         | exact absurd ((hok.vars i (by omega)).2.2.2 p (by omega)).1 (by omega)
         | (have hil:i<t.vars.length:=by omega
            have hpl:p<(t.vars.getD i .no).states.length:=by omega
            have hp0:0<p:=by omega
            have hx1:=((hok.vars i hil).2.2.2 p hpl).2 hp0
            have hx2:((p:Int)-1).toNat=p-1:=by omega
            rw[hx2] at h106
            omega)
         | exact absurd (hok.rows i (by omega)).1 (by omega)
         | exact hd1 (hok.rows i (by omega)).2.1
         | exact hd2 (hok.rows i (by omega)).2.2.1
         | exact hd3 (hok.rows i (by omega)).2.2.2.1
         | exact hd4 ((hok.rows i (by omega)).2.2.2.2 p (by omega)))
    ·
     refine WP.skip<|X.thenN<|WP.seq<|WP.regs<|L.fieldAddr (o':=2) T30.f2 rfl rfl<|L.load T5.sc rfl (Rd.own 0 rfl rfl)<|L.fieldAddr (o':=1) T30.f1 rfl rfl<|L.load T5.sc rfl (Rd.own 0 rfl rfl)<|WL.call rfl rfl F222.fn rfl (FT.pureR fun g gS dj=>table_may t.sym t.hood) ?_;rintro _ _ ⟨⟨em,rfl,hem⟩,rfl⟩;refine L.assign rfl<|WL.nil<|WP.regs<|L.move rfl<|L.neq rfl rfl<|WL.nil<|WP.condD rfl (fun h38=>?_) (fun h38=>?_)
     ·
      refine WP.regs<|L.move rfl<|L.assign rfl<|WL.nil<|WP.ret<|X.thenR<|X.ret rfl (Res.one rfl rfl) ?_
      first
       | exact⟨_,rfl,_,rfl,⟨fun _=>⟨by omega,hem.1 (by omega),by omega,by omega,hallv,fun j hj=>hall j (by omega)⟩,fun _=>rfl⟩⟩
       | (refine⟨_,rfl,_,rfl,⟨fun h=>absurd h (by omega),fun hok=>?_⟩⟩
          exfalso
          first
          | exact absurd hok.st.1 (by omega)
          | exact absurd hok.st.2 (by omega)
          | exact absurd hok.sym.2.1 (by omega)
          | exact absurd (hem.2 hok.sym) (by omega)
          | exact absurd hok.nv (by omega)
          | exact absurd hok.nr (by omega)
          | exact absurd (hbn.2 (hok.vars i (by omega)).1) (by decide)
          | (have hc4':c=1:=by omega
             have hil:i<t.vars.length:=by omega
             obtain⟨j,hj,he⟩:=hc3.1 hc4'
             exact (hok.vars i hil).2.1 j hj he)
          | exact absurd (hok.vars i (by omega)).2.2.1 (by omega)
          | exact absurd ((hok.vars i (by omega)).2.2.2 p (by omega)).1 (by omega)
          | (have hil:i<t.vars.length:=by omega
             have hpl:p<(t.vars.getD i .no).states.length:=by omega
             have hp0:0<p:=by omega
             have hx1:=((hok.vars i hil).2.2.2 p hpl).2 hp0
             have hx2:((p:Int)-1).toNat=p-1:=by omega
             rw[hx2] at h106
             omega)
          | exact absurd (hok.rows i (by omega)).1 (by omega)
          | exact hd1 (hok.rows i (by omega)).2.1
          | exact hd2 (hok.rows i (by omega)).2.2.1
          | exact hd3 (hok.rows i (by omega)).2.2.2.1
          | exact hd4 ((hok.rows i (by omega)).2.2.2.2 p (by omega)))
     ·
      refine WP.skip<|X.thenN<|WP.seq<|WP.regs<|L.fieldAddr (o':=3) T30.f3 rfl rfl<|L.load T27.sc rfl (Rd.own 0 rfl rfl)<|L.lenS T27.sl rfl rfl<|L.gtrD rfl rfl (fun h43=>?_) (fun h43=>?_)
      ·
       refine L.move rfl<|L.skip<|L.skip<|L.skip<|L.skip<|L.pickT rfl rfl<|WL.nil<|WP.condT rfl<|WP.regs<|L.assign rfl<|WL.nil<|WP.ret<|X.thenR<|X.ret rfl (Res.one rfl rfl) ?_
       first
        | exact⟨_,rfl,_,rfl,⟨fun _=>⟨by omega,hem.1 (by omega),by omega,by omega,hallv,fun j hj=>hall j (by omega)⟩,fun _=>rfl⟩⟩
        | (refine⟨_,rfl,_,rfl,⟨fun h=>absurd h (by omega),fun hok=>?_⟩⟩
           exfalso
           first
           | exact absurd hok.st.1 (by omega)
           | exact absurd hok.st.2 (by omega)
           | exact absurd hok.sym.2.1 (by omega)
           | exact absurd (hem.2 hok.sym) (by omega)
           | exact absurd hok.nv (by omega)
           | exact absurd hok.nr (by omega)
           | exact absurd (hbn.2 (hok.vars i (by omega)).1) (by decide)
           | (have hc4':c=1:=by omega
              have hil:i<t.vars.length:=by omega
              obtain⟨j,hj,he⟩:=hc3.1 hc4'
              exact (hok.vars i hil).2.1 j hj he)
           | exact absurd (hok.vars i (by omega)).2.2.1 (by omega)
           | exact absurd ((hok.vars i (by omega)).2.2.2 p (by omega)).1 (by omega)
           | (have hil:i<t.vars.length:=by omega
              have hpl:p<(t.vars.getD i .no).states.length:=by omega
              have hp0:0<p:=by omega
              have hx1:=((hok.vars i hil).2.2.2 p hpl).2 hp0
              have hx2:((p:Int)-1).toNat=p-1:=by omega
              rw[hx2] at h106
              omega)
           | exact absurd (hok.rows i (by omega)).1 (by omega)
           | exact hd1 (hok.rows i (by omega)).2.1
           | exact hd2 (hok.rows i (by omega)).2.2.1
           | exact hd3 (hok.rows i (by omega)).2.2.2.1
           | exact hd4 ((hok.rows i (by omega)).2.2.2.2 p (by omega)))
      ·
       refine L.move rfl<|L.fieldAddr (o':=4) T30.f4 rfl rfl<|L.load T28.sc rfl (Rd.own 0 rfl rfl)<|L.lenS T28.sl rfl rfl<|L.gtr rfl rfl<|L.pickF rfl rfl<|WL.nil<|WP.condD rfl (fun h49=>?_) (fun h49=>?_)
       ·
        refine WP.regs<|L.assign rfl<|WL.nil<|WP.ret<|X.thenR<|X.ret rfl (Res.one rfl rfl) ?_
        first
         | exact⟨_,rfl,_,rfl,⟨fun _=>⟨by omega,hem.1 (by omega),by omega,by omega,hallv,fun j hj=>hall j (by omega)⟩,fun _=>rfl⟩⟩
         | (refine⟨_,rfl,_,rfl,⟨fun h=>absurd h (by omega),fun hok=>?_⟩⟩
            exfalso
            first
            | exact absurd hok.st.1 (by omega)
            | exact absurd hok.st.2 (by omega)
            | exact absurd hok.sym.2.1 (by omega)
            | exact absurd (hem.2 hok.sym) (by omega)
            | exact absurd hok.nv (by omega)
            | exact absurd hok.nr (by omega)
            | exact absurd (hbn.2 (hok.vars i (by omega)).1) (by decide)
            | (have hc4':c=1:=by omega
               have hil:i<t.vars.length:=by omega
               obtain⟨j,hj,he⟩:=hc3.1 hc4'
               exact (hok.vars i hil).2.1 j hj he)
            | exact absurd (hok.vars i (by omega)).2.2.1 (by omega)
            | exact absurd ((hok.vars i (by omega)).2.2.2 p (by omega)).1 (by omega)
            | (have hil:i<t.vars.length:=by omega
               have hpl:p<(t.vars.getD i .no).states.length:=by omega
               have hp0:0<p:=by omega
               have hx1:=((hok.vars i hil).2.2.2 p hpl).2 hp0
               have hx2:((p:Int)-1).toNat=p-1:=by omega
               rw[hx2] at h106
               omega)
            | exact absurd (hok.rows i (by omega)).1 (by omega)
            | exact hd1 (hok.rows i (by omega)).2.1
            | exact hd2 (hok.rows i (by omega)).2.2.1
            | exact hd3 (hok.rows i (by omega)).2.2.2.1
            | exact hd4 ((hok.rows i (by omega)).2.2.2.2 p (by omega)))
       ·
        refine WP.skip<|X.thenN<|WP.regs<|L.makeMap (α:=ByteArray) (enc:=Value.string) fun b2=>L.assign rfl<|WL.nil<|WP.seq<|WP.regs<|L.fieldAddr (o':=3) T30.f3 rfl rfl<|L.load T27.sc rfl (Rd.own 1 rfl rfl)<|L.lenS T27.sl rfl rfl<|L.move rfl<|WL.nil<|WP.block<|WP.loop (X:=Nat × List (ByteArray × Value)) (fun x=>⟨153,[],[(1,.pointer (some ⟨b1,0,none⟩)),(3,.int .i64 (hoodSize t.hood)),(6,.map (some b2)),(52,.slice va t.vars.length vcap),(53,.int .i64 (t.vars.length:Int)),(54,.int .i64 (x.1:Int))]⟩) (fun x=>[mpO b2 Value.string x.2,cl b1 (tableC t (.slice va t.vars.length vcap) (.slice ra t.rows.length rcap)) 30]) (fun x=>x.1≤t.vars.length∧(∀ j,j<x.1→VarOk t j)∧Names t x.1 x.2) (fun x=>t.vars.length-x.1) (0,[]) (⟨Nat.zero_le _,fun j hj=>absurd hj (by omega),Names.nil t⟩) (Env.Sub.cons rfl rfl (Env.Sub.cons rfl rfl (Env.Sub.cons rfl rfl (Env.Sub.cons rfl rfl (Env.Sub.cons rfl rfl (Env.Sub.cons rfl rfl Env.Sub.nil)))))) (Ent.refl _) ?_
        rintro ⟨i,m⟩ ⟨hi,hall,hm⟩
        dsimp only at hi hall hm ⊢
        refine WP.regs<|L.lss rfl rfl<|WL.nil<|WP.seq<|WP.condD rfl (fun h55=>?_) (fun h55=>?_)
        ·
         refine WP.skip<|X.thenN<|WP.seq<|WP.block<|WP.regs ?_
         have hwi:=hw.var (i:=i) (by omega)
         obtain⟨b,o,rfl,hc⟩:=hvsome (by omega)
         obtain⟨a3,cap3,hsl,hcap3,hnone3,hsome3⟩:=hvb i (by omega)
         have hrd:∀ σ,Rds h0 σ b (o+((i:Int)).toNat*2) [.string (t.vars.getD i .no).name,.slice a3 (t.vars.getD i .no).states.length cap3]:=fun σ=>by rw[← hsl];exact Rds.var hc i (by omega)
         refine L.indexS T27.sl rfl rfl (by omega)<|L.loadN T93.ag rfl rfl (hrd _)<|L.alloc T93.z fun b3=>L.storeN T93.ag rfl rfl rfl (Wrs.all 0 rfl rfl (by simp[Value.oneCell']))<|WL.nil<|WP.regs<|L.move rfl<|L.fieldAddr (o':=0) T93.f0 rfl rfl<|L.load T9.sc rfl (Rd.own 0 rfl rfl)<|L.lookup (0+1) T53.m T9.ko T3.z1 rfl rfl rfl ?_
         obtain⟨c,hc1,hc2,hc3⟩:∃ c:Int,(mget m (t.vars.getD i .no).name).getD (.int .i64 0)=.int .i64 c∧(0≤c∧c≤1)∧(c=1↔∃ j,j<i∧(t.vars.getD j .no).name=(t.vars.getD i .no).name):=by
          rw[hm]
          by_cases hx:∃ j,j<i∧(t.vars.getD j .no).name=(t.vars.getD i .no).name
          · rw[if_pos hx];exact⟨1,rfl,by omega,iff_of_true rfl hx⟩
          · rw[if_neg hx];exact⟨0,rfl,by omega,iff_of_false (by decide) hx⟩
         rw[hc1]
         refine L.add' rfl rfl (by omega)<|L.mapUpdate  1 T53.m T9.ko rfl rfl rfl rfl<|WL.nil<|WP.seq<|WP.regs<|L.fieldAddr (o':=0) T93.f0 rfl rfl<|L.load T9.sc rfl (Rd.own 1 rfl rfl)<|WL.call rfl rfl F223.fn rfl (FT.pureR fun g gS dj=>table_named (t.vars.getD i .no).name hwi.2.2) ?_;rintro _ _ ⟨⟨bn,rfl,hbn⟩,rfl⟩
         rcases Bool.eq_false_or_eq_true bn with rfl | rfl
         ·
          refine L.not rfl<|L.move rfl<|L.move rfl<|L.fieldAddr (o':=0) T93.f0 rfl rfl<|L.load T9.sc rfl (Rd.own 1 rfl rfl)<|L.lookup 0 T53.m T9.ko T3.z1 rfl rfl rfl ?_
          rw[mget_put,if_pos rfl]
          dsimp only[Option.getD_some]
          refine L.gtrD rfl rfl (fun h72=>?_) (fun h72=>?_)
          ·
           refine L.pickF rfl rfl<|L.move rfl<|L.skip<|L.skip<|L.skip<|L.skip<|L.pickT rfl rfl<|WL.nil<|WP.condT rfl<|WP.regs<|L.assign rfl<|WL.nil<|WP.ret<|X.thenR (X.blockR (X.thenR (X.thenR (X.blockR (X.thenR ?_)))));refine X.ret rfl (Res.one rfl rfl) ?_
           first
            | exact⟨_,rfl,_,rfl,⟨fun _=>⟨by omega,hem.1 (by omega),by omega,by omega,hallv,fun j hj=>hall j (by omega)⟩,fun _=>rfl⟩⟩
            | (refine⟨_,rfl,_,rfl,⟨fun h=>absurd h (by omega),fun hok=>?_⟩⟩
               exfalso
               first
               | exact absurd hok.st.1 (by omega)
               | exact absurd hok.st.2 (by omega)
               | exact absurd hok.sym.2.1 (by omega)
               | exact absurd (hem.2 hok.sym) (by omega)
               | exact absurd hok.nv (by omega)
               | exact absurd hok.nr (by omega)
               | exact absurd (hbn.2 (hok.vars i (by omega)).1) (by decide)
               | (have hc4':c=1:=by omega
                  have hil:i<t.vars.length:=by omega
                  obtain⟨j,hj,he⟩:=hc3.1 hc4'
                  exact (hok.vars i hil).2.1 j hj he)
               | exact absurd (hok.vars i (by omega)).2.2.1 (by omega)
               | exact absurd ((hok.vars i (by omega)).2.2.2 p (by omega)).1 (by omega)
               | (have hil:i<t.vars.length:=by omega
                  have hpl:p<(t.vars.getD i .no).states.length:=by omega
                  have hp0:0<p:=by omega
                  have hx1:=((hok.vars i hil).2.2.2 p hpl).2 hp0
                  have hx2:((p:Int)-1).toNat=p-1:=by omega
                  rw[hx2] at h106
                  omega)
               | exact absurd (hok.rows i (by omega)).1 (by omega)
               | exact hd1 (hok.rows i (by omega)).2.1
               | exact hd2 (hok.rows i (by omega)).2.2.1
               | exact hd3 (hok.rows i (by omega)).2.2.2.1
               | exact hd4 ((hok.rows i (by omega)).2.2.2.2 p (by omega)))
          ·
           refine L.pickF rfl rfl<|L.move rfl<|L.fieldAddr (o':=1) T93.f1 rfl rfl<|L.load T60.sc rfl (Rd.own 1 rfl rfl)<|L.lenS T60.sl rfl rfl<|L.eql rfl rfl<|L.pickF rfl rfl<|WL.nil<|WP.condD rfl (fun h79=>?_) (fun h79=>?_)
           ·
            refine WP.regs<|L.assign rfl<|WL.nil<|WP.ret<|X.thenR (X.blockR (X.thenR (X.thenR (X.blockR (X.thenR ?_)))));refine X.ret rfl (Res.one rfl rfl) ?_
            first
             | exact⟨_,rfl,_,rfl,⟨fun _=>⟨by omega,hem.1 (by omega),by omega,by omega,hallv,fun j hj=>hall j (by omega)⟩,fun _=>rfl⟩⟩
             | (refine⟨_,rfl,_,rfl,⟨fun h=>absurd h (by omega),fun hok=>?_⟩⟩
                exfalso
                first
                | exact absurd hok.st.1 (by omega)
                | exact absurd hok.st.2 (by omega)
                | exact absurd hok.sym.2.1 (by omega)
                | exact absurd (hem.2 hok.sym) (by omega)
                | exact absurd hok.nv (by omega)
                | exact absurd hok.nr (by omega)
                | exact absurd (hbn.2 (hok.vars i (by omega)).1) (by decide)
                | (have hc4':c=1:=by omega
                   have hil:i<t.vars.length:=by omega
                   obtain⟨j,hj,he⟩:=hc3.1 hc4'
                   exact (hok.vars i hil).2.1 j hj he)
                | exact absurd (hok.vars i (by omega)).2.2.1 (by omega)
                | exact absurd ((hok.vars i (by omega)).2.2.2 p (by omega)).1 (by omega)
                | (have hil:i<t.vars.length:=by omega
                   have hpl:p<(t.vars.getD i .no).states.length:=by omega
                   have hp0:0<p:=by omega
                   have hx1:=((hok.vars i hil).2.2.2 p hpl).2 hp0
                   have hx2:((p:Int)-1).toNat=p-1:=by omega
                   rw[hx2] at h106
                   omega)
                | exact absurd (hok.rows i (by omega)).1 (by omega)
                | exact hd1 (hok.rows i (by omega)).2.1
                | exact hd2 (hok.rows i (by omega)).2.2.1
                | exact hd3 (hok.rows i (by omega)).2.2.2.1
                | exact hd4 ((hok.rows i (by omega)).2.2.2.2 p (by omega)))
           ·
            refine WP.skip<|X.thenN<|WP.regs<|L.fieldAddr (o':=1) T93.f1 rfl rfl<|L.load T60.sc rfl (Rd.own 1 rfl rfl)<|L.lenS T60.sl rfl rfl<|L.move rfl<|WL.nil<|WP.block<|WP.loop (X:=Nat) (fun p=>⟨153,[],[(1,.pointer (some ⟨b1,0,none⟩)),(3,.int .i64 (hoodSize t.hood)),(6,.map (some b2)),(8,.pointer (some ⟨b3,0,none⟩)),(52,.slice (some ⟨b,o,none⟩) t.vars.length vcap),(53,.int .i64 (t.vars.length:Int)),(54,.int .i64 (i:Int)),(81,.slice a3 (t.vars.getD i .no).states.length cap3),(82,.int .i64 ((t.vars.getD i .no).states.length:Int)),(83,.int .i64 (p:Int))]⟩) (fun p=>[mpO b2 Value.string (mput m (t.vars.getD i .no).name (.int .i64 (c+1))),cl b3 [.string (t.vars.getD i .no).name,.slice a3 (t.vars.getD i .no).states.length cap3] 93,cl b1 (tableC t (.slice (some ⟨b,o,none⟩) t.vars.length vcap) (.slice ra t.rows.length rcap)) 30]) (fun p=>p≤(t.vars.getD i .no).states.length∧∀ q,q<p→(t.vars.getD i .no).states.getD q 0<t.states∧(0<q→(t.vars.getD i .no).states.getD (q-1) 0<(t.vars.getD i .no).states.getD q 0)) (fun p=>(t.vars.getD i .no).states.length-p) 0 (⟨by omega,fun q hq=>absurd hq (by omega)⟩) (Env.Sub.cons rfl rfl (Env.Sub.cons rfl rfl (Env.Sub.cons rfl rfl (Env.Sub.cons rfl rfl (Env.Sub.cons rfl rfl (Env.Sub.cons rfl rfl (Env.Sub.cons rfl rfl (Env.Sub.cons rfl rfl (Env.Sub.cons rfl rfl (Env.Sub.cons rfl rfl Env.Sub.nil)))))))))) (Ent.refl _) ?_
            rintro p ⟨hp,hgood⟩
            refine WP.regs<|L.lss rfl rfl<|WL.nil<|WP.seq<|WP.condD rfl (fun h84=>?_) (fun h84=>?_)
            ·
             refine WP.skip<|X.thenN<|WP.seq<|WP.block<|WP.regs<|L.move rfl ?_
             obtain⟨b4,o4,rfl,hc4⟩:=hsome3 (by omega)
             refine L.indexS T60.sl rfl rfl (by omega)<|L.load T5.sc rfl (Rd.u8 hc4 p (by omega))<|L.assign rfl<|L.assign rfl<|WL.nil<|WP.regs<|L.move rfl<|L.convInt T5.u T3.u rfl ?_
             have hu:=hwi.1 _ (getD_mem (d:=0) (i:=p) (by omega))
             unfold U8 at hu
             rw[wrap_i64 (by omega)]
             refine L.fieldAddr (o':=0) T30.f0 rfl rfl<|L.load T3.sc rfl (Rd.own 2 rfl rfl)<|L.geqD rfl rfl (fun h92=>?_) (fun h92=>?_)
             ·
              refine L.move rfl ?_
              iterate 12 refine L.skip ?_
              refine L.pickT rfl rfl<|WL.nil<|WP.condT rfl<|WP.regs<|L.assign rfl<|WL.nil<|WP.ret<|X.blockR (X.thenR (X.thenR (X.blockR (X.blockR (X.thenR (X.thenR (X.blockR (X.thenR ?_))))))));refine X.ret rfl (Res.one rfl rfl) ?_
              first
               | exact⟨_,rfl,_,rfl,⟨fun _=>⟨by omega,hem.1 (by omega),by omega,by omega,hallv,fun j hj=>hall j (by omega)⟩,fun _=>rfl⟩⟩
               | (refine⟨_,rfl,_,rfl,⟨fun h=>absurd h (by omega),fun hok=>?_⟩⟩
                  exfalso
                  first
                  | exact absurd hok.st.1 (by omega)
                  | exact absurd hok.st.2 (by omega)
                  | exact absurd hok.sym.2.1 (by omega)
                  | exact absurd (hem.2 hok.sym) (by omega)
                  | exact absurd hok.nv (by omega)
                  | exact absurd hok.nr (by omega)
                  | exact absurd (hbn.2 (hok.vars i (by omega)).1) (by decide)
                  | (have hc4':c=1:=by omega
                     have hil:i<t.vars.length:=by omega
                     obtain⟨j,hj,he⟩:=hc3.1 hc4'
                     exact (hok.vars i hil).2.1 j hj he)
                  | exact absurd (hok.vars i (by omega)).2.2.1 (by omega)
                  | exact absurd ((hok.vars i (by omega)).2.2.2 p (by omega)).1 (by omega)
                  | (have hil:i<t.vars.length:=by omega
                     have hpl:p<(t.vars.getD i .no).states.length:=by omega
                     have hp0:0<p:=by omega
                     have hx1:=((hok.vars i hil).2.2.2 p hpl).2 hp0
                     have hx2:((p:Int)-1).toNat=p-1:=by omega
                     rw[hx2] at h106
                     omega)
                  | exact absurd (hok.rows i (by omega)).1 (by omega)
                  | exact hd1 (hok.rows i (by omega)).2.1
                  | exact hd2 (hok.rows i (by omega)).2.2.1
                  | exact hd3 (hok.rows i (by omega)).2.2.2.1
                  | exact hd4 ((hok.rows i (by omega)).2.2.2.2 p (by omega)))
             ·
              refine L.move rfl<|L.move rfl<|L.gtrD rfl rfl (fun h95=>?_) (fun h95=>?_)
              ·
               refine L.move rfl<|L.move rfl<|L.fieldAddr (o':=1) T93.f1 rfl rfl<|L.load T60.sc rfl (Rd.own 1 rfl rfl)<|L.move rfl<|L.sub' rfl rfl (by omega)<|L.indexS T60.sl rfl rfl (by omega)<|L.load T5.sc rfl (Rd.u8j hc4 _ (by omega))<|L.leq rfl rfl<|L.pickT rfl rfl<|L.pickF rfl rfl<|WL.nil<|WP.condD rfl (fun h106=>?_) (fun h106=>?_)
               ·
                refine WP.regs<|L.assign rfl<|WL.nil<|WP.ret<|X.blockR (X.thenR (X.thenR (X.blockR (X.blockR (X.thenR (X.thenR (X.blockR (X.thenR ?_))))))));refine X.ret rfl (Res.one rfl rfl) ?_
                first
                 | exact⟨_,rfl,_,rfl,⟨fun _=>⟨by omega,hem.1 (by omega),by omega,by omega,hallv,fun j hj=>hall j (by omega)⟩,fun _=>rfl⟩⟩
                 | (refine⟨_,rfl,_,rfl,⟨fun h=>absurd h (by omega),fun hok=>?_⟩⟩
                    exfalso
                    first
                    | exact absurd hok.st.1 (by omega)
                    | exact absurd hok.st.2 (by omega)
                    | exact absurd hok.sym.2.1 (by omega)
                    | exact absurd (hem.2 hok.sym) (by omega)
                    | exact absurd hok.nv (by omega)
                    | exact absurd hok.nr (by omega)
                    | exact absurd (hbn.2 (hok.vars i (by omega)).1) (by decide)
                    | (have hc4':c=1:=by omega
                       have hil:i<t.vars.length:=by omega
                       obtain⟨j,hj,he⟩:=hc3.1 hc4'
                       exact (hok.vars i hil).2.1 j hj he)
                    | exact absurd (hok.vars i (by omega)).2.2.1 (by omega)
                    | exact absurd ((hok.vars i (by omega)).2.2.2 p (by omega)).1 (by omega)
                    | (have hil:i<t.vars.length:=by omega
                       have hpl:p<(t.vars.getD i .no).states.length:=by omega
                       have hp0:0<p:=by omega
                       have hx1:=((hok.vars i hil).2.2.2 p hpl).2 hp0
                       have hx2:((p:Int)-1).toNat=p-1:=by omega
                       rw[hx2] at h106
                       omega)
                    | exact absurd (hok.rows i (by omega)).1 (by omega)
                    | exact hd1 (hok.rows i (by omega)).2.1
                    | exact hd2 (hok.rows i (by omega)).2.2.1
                    | exact hd3 (hok.rows i (by omega)).2.2.2.1
                    | exact hd4 ((hok.rows i (by omega)).2.2.2.2 p (by omega)))
               ·
                refine WP.skip<|X.blockN<|X.thenN<|WP.region<|L.add' rfl rfl (by omega)<|L.move rfl<|WL.nil<|X.thenN ⟨p+1,⟨by omega,fun q hq=>by rcases Nat.lt_or_ge q p with e | e;exact hgood q e;obtain rfl:q=p:=(by omega);exact⟨by omega,fun h0=>by first | (exfalso;omega) | (rw[show ((q:Int)-1).toNat=q-1 by omega] at h106;omega) | (rw[show ((q:Int)-1).toNat=q-1 by omega] at h104;omega)⟩⟩,by omega,(Env.Sub.cons rfl rfl (Env.Sub.cons rfl rfl (Env.Sub.cons rfl rfl (Env.Sub.cons rfl rfl (Env.Sub.cons rfl rfl (Env.Sub.cons rfl rfl (Env.Sub.cons rfl rfl (Env.Sub.cons rfl rfl (Env.Sub.cons rfl rfl (Env.Sub.cons rfl rfl Env.Sub.nil)))))))))),(Ent.refl _)⟩
              ·
               refine L.move rfl ?_
               iterate 8 refine L.skip ?_
               refine L.pickF rfl rfl<|L.pickF rfl rfl<|WL.nil<|WP.condF rfl<|WP.skip<|X.blockN<|X.thenN<|WP.region<|L.add' rfl rfl (by omega)<|L.move rfl<|WL.nil<|X.thenN ⟨p+1,⟨by omega,fun q hq=>by rcases Nat.lt_or_ge q p with e | e;exact hgood q e;obtain rfl:q=p:=(by omega);exact⟨by omega,fun h0=>by first | (exfalso;omega) | (rw[show ((q:Int)-1).toNat=q-1 by omega] at h106;omega) | (rw[show ((q:Int)-1).toNat=q-1 by omega] at h104;omega)⟩⟩,by omega,(Env.Sub.cons rfl rfl (Env.Sub.cons rfl rfl (Env.Sub.cons rfl rfl (Env.Sub.cons rfl rfl (Env.Sub.cons rfl rfl (Env.Sub.cons rfl rfl (Env.Sub.cons rfl rfl (Env.Sub.cons rfl rfl (Env.Sub.cons rfl rfl (Env.Sub.cons rfl rfl Env.Sub.nil)))))))))),(Ent.refl _)⟩
            ·
             refine WP.exit<|X.thenE (X.thenE (X.blockE ?_));refine X.blockN<|X.thenN<|WP.region<|L.add' rfl rfl (by omega)<|L.move rfl<|WL.nil ?_
             obtain rfl:c=0:=by omega
             obtain rfl:p=(t.vars.getD i .no).states.length:=by omega
             have hvi:VarOk t i:=⟨hbn.1 rfl,fun j hj he=>absurd (hc3.2 ⟨j,hj,he⟩) (by omega),by omega,hgood⟩
             refine X.thenN ⟨(i+1,mput m (t.vars.getD i .no).name (.int .i64 1)),⟨by dsimp only;omega,fun j hj=>by rcases Nat.lt_or_ge j i with e | e;exact hall j e;obtain rfl:j=i:=(by dsimp only at hj;omega);exact hvi,Names.step hm⟩,by dsimp only;omega,(Env.Sub.cons rfl rfl (Env.Sub.cons rfl rfl (Env.Sub.cons rfl rfl (Env.Sub.cons rfl rfl (Env.Sub.cons rfl rfl (Env.Sub.cons rfl rfl Env.Sub.nil)))))),(Ent.pk [0,1] rfl)⟩
         ·
          refine L.not rfl<|L.move rfl ?_
          iterate 5 refine L.skip ?_
          refine L.pickT rfl rfl<|L.move rfl<|L.skip<|L.skip<|L.skip<|L.skip<|L.pickT rfl rfl<|WL.nil<|WP.condT rfl<|WP.regs<|L.assign rfl<|WL.nil<|WP.ret<|X.thenR (X.blockR (X.thenR (X.thenR (X.blockR (X.thenR ?_)))));refine X.ret rfl (Res.one rfl rfl) ?_
          first
           | exact⟨_,rfl,_,rfl,⟨fun _=>⟨by omega,hem.1 (by omega),by omega,by omega,hallv,fun j hj=>hall j (by omega)⟩,fun _=>rfl⟩⟩
           | (refine⟨_,rfl,_,rfl,⟨fun h=>absurd h (by omega),fun hok=>?_⟩⟩
              exfalso
              first
              | exact absurd hok.st.1 (by omega)
              | exact absurd hok.st.2 (by omega)
              | exact absurd hok.sym.2.1 (by omega)
              | exact absurd (hem.2 hok.sym) (by omega)
              | exact absurd hok.nv (by omega)
              | exact absurd hok.nr (by omega)
              | exact absurd (hbn.2 (hok.vars i (by omega)).1) (by decide)
              | (have hc4':c=1:=by omega
                 have hil:i<t.vars.length:=by omega
                 obtain⟨j,hj,he⟩:=hc3.1 hc4'
                 exact (hok.vars i hil).2.1 j hj he)
              | exact absurd (hok.vars i (by omega)).2.2.1 (by omega)
              | exact absurd ((hok.vars i (by omega)).2.2.2 p (by omega)).1 (by omega)
              | (have hil:i<t.vars.length:=by omega
                 have hpl:p<(t.vars.getD i .no).states.length:=by omega
                 have hp0:0<p:=by omega
                 have hx1:=((hok.vars i hil).2.2.2 p hpl).2 hp0
                 have hx2:((p:Int)-1).toNat=p-1:=by omega
                 rw[hx2] at h106
                 omega)
              | exact absurd (hok.rows i (by omega)).1 (by omega)
              | exact hd1 (hok.rows i (by omega)).2.1
              | exact hd2 (hok.rows i (by omega)).2.2.1
              | exact hd3 (hok.rows i (by omega)).2.2.2.1
              | exact hd4 ((hok.rows i (by omega)).2.2.2.2 p (by omega)))
        ·
         refine WP.exit<|X.thenE (X.thenE (X.blockE ?_));refine X.thenN<|WP.seq<|WP.regs ?_
         obtain rfl:i=t.vars.length:=by omega
         have hallv:=hall
         clear hall hm
         refine L.fieldAddr (o':=4) T30.f4 rfl rfl<|L.load T28.sc rfl (Rd.own 1 rfl rfl)<|L.lenS T28.sl rfl rfl<|L.move rfl<|WL.nil<|WP.block<|WP.loop (X:=Nat) (fun i=>⟨153,[],[(1,.pointer (some ⟨b1,0,none⟩)),(3,.int .i64 (hoodSize t.hood)),(110,.slice ra t.rows.length rcap),(111,.int .i64 (t.rows.length:Int)),(112,.int .i64 (i:Int))]⟩) (fun i=>[cl b1 (tableC t (.slice va t.vars.length vcap) (.slice ra t.rows.length rcap)) 30]) (fun i=>i≤t.rows.length∧∀ j,j<i→RowOk t (t.rows.getD j .no)) (fun i=>t.rows.length-i) 0 (⟨Nat.zero_le _,fun j hj=>absurd hj (by omega)⟩) (Env.Sub.cons rfl rfl (Env.Sub.cons rfl rfl (Env.Sub.cons rfl rfl (Env.Sub.cons rfl rfl (Env.Sub.cons rfl rfl Env.Sub.nil))))) ((Ent.left [_] _)) ?_
         rintro i ⟨hi,hall⟩
         refine WP.regs<|L.lss rfl rfl<|WL.nil<|WP.seq<|WP.condD rfl (fun h113=>?_) (fun h113=>?_)
         ·
          refine WP.skip<|X.thenN<|WP.seq<|WP.block<|WP.regs ?_
          have hwi:=hw.row (i:=i) (by omega)
          obtain⟨b,o,rfl,hc⟩:=hrsome (by omega)
          obtain⟨a3,cap3,hrw,hcap3,hnone3,hsome3⟩:=hrt i (by omega)
          have hrd:∀ σ,Rds h0 σ b (o+((i:Int)).toNat*5) (rowC (t.rows.getD i .no) (.slice a3 (t.rows.getD i .no).around.length cap3)):=fun σ=>by rw[← hrw];exact Rds.row hc i (by omega)
          refine L.indexS T28.sl rfl rfl (by omega)<|L.loadN T50.ag rfl rfl (hrd _)<|L.alloc T50.z fun b5=>L.storeN T50.ag rfl rfl rfl (Wrs.all 0 rfl rfl (by simp[Value.oneCell']))<|WL.nil<|WP.seq<|WP.regs<|L.fieldAddr (o':=2) T50.f1 rfl rfl<|L.load T48.sc rfl (Rd.own 0 rfl rfl)<|L.lenS T48.sl rfl rfl<|L.move rfl<|L.neqD rfl rfl (fun h120=>?_) (fun h120=>?_)
          ·
           refine L.move rfl ?_
           iterate 5 refine L.skip ?_
           refine L.pickT rfl rfl<|L.move rfl ?_
           iterate 5 refine L.skip ?_
           refine L.pickT rfl rfl<|L.move rfl<|L.skip<|L.skip<|L.skip<|L.pickT rfl rfl<|WL.nil<|WP.condT rfl<|WP.regs<|L.assign rfl<|WL.nil<|WP.ret<|X.thenR (X.blockR (X.thenR (X.thenR (X.blockR (X.thenR ?_)))));refine X.ret rfl (Res.one rfl rfl) ?_
           first
            | exact⟨_,rfl,_,rfl,⟨fun _=>⟨by omega,hem.1 (by omega),by omega,by omega,hallv,fun j hj=>hall j (by omega)⟩,fun _=>rfl⟩⟩
            | (refine⟨_,rfl,_,rfl,⟨fun h=>absurd h (by omega),fun hok=>?_⟩⟩
               exfalso
               first
               | exact absurd hok.st.1 (by omega)
               | exact absurd hok.st.2 (by omega)
               | exact absurd hok.sym.2.1 (by omega)
               | exact absurd (hem.2 hok.sym) (by omega)
               | exact absurd hok.nv (by omega)
               | exact absurd hok.nr (by omega)
               | exact absurd (hbn.2 (hok.vars i (by omega)).1) (by decide)
               | (have hc4':c=1:=by omega
                  have hil:i<t.vars.length:=by omega
                  obtain⟨j,hj,he⟩:=hc3.1 hc4'
                  exact (hok.vars i hil).2.1 j hj he)
               | exact absurd (hok.vars i (by omega)).2.2.1 (by omega)
               | exact absurd ((hok.vars i (by omega)).2.2.2 p (by omega)).1 (by omega)
               | (have hil:i<t.vars.length:=by omega
                  have hpl:p<(t.vars.getD i .no).states.length:=by omega
                  have hp0:0<p:=by omega
                  have hx1:=((hok.vars i hil).2.2.2 p hpl).2 hp0
                  have hx2:((p:Int)-1).toNat=p-1:=by omega
                  rw[hx2] at h106
                  omega)
               | exact absurd (hok.rows i (by omega)).1 (by omega)
               | exact hd1 (hok.rows i (by omega)).2.1
               | exact hd2 (hok.rows i (by omega)).2.2.1
               | exact hd3 (hok.rows i (by omega)).2.2.2.1
               | exact hd4 ((hok.rows i (by omega)).2.2.2.2 p (by omega)))
          ·
           refine L.move rfl<|L.loadN T30.ag rfl rfl (Rds.all 1 rfl)<|L.fieldAddr (o':=0) T50.f0 rfl rfl<|L.loadN T47.ag rfl rfl (Rds.own (vs:=[_,_]) 0 rfl rfl)<|WL.call rfl rfl F224.fn rfl (FT.pureR fun g gS dj=>FT.rv (table_term t _ _ va vcap rfl (t.rows.getD i .no).centre hwi.1) rfl) ?_;rintro _ _ ⟨rfl,rfl⟩
           by_cases hd1:(t.rows.getD i .no).centre.Ok t
           rw[decide_eq_true hd1]
           rotate_left
           rw[decide_eq_false hd1]
           rotate_left
           ·
            refine L.not rfl<|L.pickF rfl rfl<|L.move rfl<|L.loadN T30.ag rfl rfl (Rds.all 1 rfl)<|L.fieldAddr (o':=3) T50.f2 rfl rfl<|L.loadN T47.ag rfl rfl (Rds.own (vs:=[_,_]) 0 rfl rfl)<|WL.call rfl rfl F224.fn rfl (FT.pureR fun g gS dj=>FT.rv (table_term t _ _ va vcap rfl (t.rows.getD i .no).out hwi.2.1) rfl) ?_;rintro _ _ ⟨rfl,rfl⟩
            by_cases hd2:(t.rows.getD i .no).out.Ok t
            rw[decide_eq_true hd2]
            rotate_left
            rw[decide_eq_false hd2]
            rotate_left
            ·
             refine L.not rfl<|L.pickF rfl rfl<|L.move rfl<|L.loadN T50.ag rfl rfl (Rds.all 0 rfl)<|WL.call rfl rfl F225.fn rfl (FT.pureR fun g gS dj=>FT.rv (table_bound (t.rows.getD i .no) (by omega) _ (by rw[← hrw];exact (hrt i (by omega)).mono (Hp.le_un_left _ _))) rfl) ?_;rintro _ _ ⟨rfl,rfl⟩
             by_cases hd3:(t.rows.getD i .no).Bound
             rw[decide_eq_true hd3]
             rotate_left
             rw[decide_eq_false hd3]
             rotate_left
             ·
              refine L.not rfl<|L.pickF rfl rfl<|WL.nil<|WP.condF rfl<|WP.skip<|X.thenN<|WP.regs<|L.fieldAddr (o':=2) T50.f1 rfl rfl<|L.load T48.sc rfl (Rd.own 0 rfl rfl)<|L.lenS T48.sl rfl rfl<|L.move rfl<|WL.nil<|WP.block<|WP.loop (X:=Nat) (fun p=>⟨153,[],[(1,.pointer (some ⟨b1,0,none⟩)),(3,.int .i64 (hoodSize t.hood)),(12,.pointer (some ⟨b5,0,none⟩)),(110,.slice (some ⟨b,o,none⟩) t.rows.length rcap),(111,.int .i64 (t.rows.length:Int)),(112,.int .i64 (i:Int)),(141,.slice a3 (t.rows.getD i .no).around.length cap3),(142,.int .i64 ((t.rows.getD i .no).around.length:Int)),(143,.int .i64 (p:Int))]⟩) (fun p=>[cl b5 (rowC (t.rows.getD i .no) (.slice a3 (t.rows.getD i .no).around.length cap3)) 50,cl b1 (tableC t (.slice va t.vars.length vcap) (.slice (some ⟨b,o,none⟩) t.rows.length rcap)) 30]) (fun p=>p≤(t.rows.getD i .no).around.length∧∀ q,q<p→((t.rows.getD i .no).around.getD q .no).Ok t) (fun p=>(t.rows.getD i .no).around.length-p) 0 (⟨Nat.zero_le _,fun j hj=>absurd hj (by omega)⟩) (Env.Sub.cons rfl rfl (Env.Sub.cons rfl rfl (Env.Sub.cons rfl rfl (Env.Sub.cons rfl rfl (Env.Sub.cons rfl rfl (Env.Sub.cons rfl rfl (Env.Sub.cons rfl rfl (Env.Sub.cons rfl rfl (Env.Sub.cons rfl rfl Env.Sub.nil))))))))) ((Ent.refl _)) ?_
              rintro p ⟨hp,hgood⟩
              refine WP.regs<|L.lss rfl rfl<|WL.nil<|WP.seq<|WP.condD rfl (fun h144=>?_) (fun h144=>?_)
              ·
               refine WP.skip<|X.thenN<|WP.seq<|WP.block<|WP.regs ?_
               obtain⟨b4,o4,rfl,hc4⟩:=hsome3 (by omega)
               refine L.indexS T48.sl rfl rfl (by omega)<|L.loadN T47.ag rfl rfl (Rds.term hc4 p (by omega))<|L.alloc T47.z fun b6=>L.storeN T47.ag rfl rfl rfl (Wrs.all 0 rfl rfl (by simp[Value.oneCell']))<|WL.nil<|WP.regs<|L.loadN T30.ag rfl rfl (Rds.all 2 rfl)<|L.loadN T47.ag rfl rfl (Rds.all 0 rfl)<|WL.call rfl rfl F224.fn rfl (FT.pureR fun g gS dj=>FT.rv (table_term t _ _ va vcap rfl ((t.rows.getD i .no).around.getD p .no) (hwi.2.2.1 _ (getD_mem (by omega)))) rfl) ?_;rintro _ _ ⟨rfl,rfl⟩
               by_cases hd4:((t.rows.getD i .no).around.getD p .no).Ok t
               rw[decide_eq_true hd4]
               rotate_left
               rw[decide_eq_false hd4]
               rotate_left
               ·
                refine L.not rfl<|WL.nil<|WP.condF rfl<|WP.skip<|X.blockN<|X.thenN<|WP.region<|L.add' rfl rfl (by omega)<|L.move rfl<|WL.nil<|X.thenN ⟨p+1,⟨by omega,fun q hq=>by rcases Nat.lt_or_ge q p with e | e;exact hgood q e;obtain rfl:q=p:=(by omega);exact hd4⟩,by omega,(Env.Sub.cons rfl rfl (Env.Sub.cons rfl rfl (Env.Sub.cons rfl rfl (Env.Sub.cons rfl rfl (Env.Sub.cons rfl rfl (Env.Sub.cons rfl rfl (Env.Sub.cons rfl rfl (Env.Sub.cons rfl rfl (Env.Sub.cons rfl rfl Env.Sub.nil))))))))),(Ent.left [_] _)⟩
               ·
                refine L.not rfl<|WL.nil<|WP.condT rfl<|WP.regs<|L.assign rfl<|WL.nil<|WP.ret<|X.blockR (X.thenR (X.thenR (X.blockR (X.blockR (X.thenR (X.thenR (X.blockR (X.thenR ?_))))))));refine X.ret rfl (Res.one rfl rfl) ?_
                first
                 | exact⟨_,rfl,_,rfl,⟨fun _=>⟨by omega,hem.1 (by omega),by omega,by omega,hallv,fun j hj=>hall j (by omega)⟩,fun _=>rfl⟩⟩
                 | (refine⟨_,rfl,_,rfl,⟨fun h=>absurd h (by omega),fun hok=>?_⟩⟩
                    exfalso
                    first
                    | exact absurd hok.st.1 (by omega)
                    | exact absurd hok.st.2 (by omega)
                    | exact absurd hok.sym.2.1 (by omega)
                    | exact absurd (hem.2 hok.sym) (by omega)
                    | exact absurd hok.nv (by omega)
                    | exact absurd hok.nr (by omega)
                    | exact absurd (hbn.2 (hok.vars i (by omega)).1) (by decide)
                    | (have hc4':c=1:=by omega
                       have hil:i<t.vars.length:=by omega
                       obtain⟨j,hj,he⟩:=hc3.1 hc4'
                       exact (hok.vars i hil).2.1 j hj he)
                    | exact absurd (hok.vars i (by omega)).2.2.1 (by omega)
                    | exact absurd ((hok.vars i (by omega)).2.2.2 p (by omega)).1 (by omega)
                    | (have hil:i<t.vars.length:=by omega
                       have hpl:p<(t.vars.getD i .no).states.length:=by omega
                       have hp0:0<p:=by omega
                       have hx1:=((hok.vars i hil).2.2.2 p hpl).2 hp0
                       have hx2:((p:Int)-1).toNat=p-1:=by omega
                       rw[hx2] at h106
                       omega)
                    | exact absurd (hok.rows i (by omega)).1 (by omega)
                    | exact hd1 (hok.rows i (by omega)).2.1
                    | exact hd2 (hok.rows i (by omega)).2.2.1
                    | exact hd3 (hok.rows i (by omega)).2.2.2.1
                    | exact hd4 ((hok.rows i (by omega)).2.2.2.2 p (by omega)))
              ·
               refine WP.exit<|X.thenE (X.thenE (X.blockE ?_));refine X.blockN<|X.thenN<|WP.region<|L.add' rfl rfl (by omega)<|L.move rfl<|WL.nil ?_
               obtain rfl:p=(t.rows.getD i .no).around.length:=by omega
               have hri:RowOk t (t.rows.getD i .no):=⟨by omega,hd1,hd2,hd3,hgood⟩
               refine X.thenN ⟨i+1,⟨by omega,fun j hj=>by rcases Nat.lt_or_ge j i with e | e;exact hall j e;obtain rfl:j=i:=(by omega);exact hri⟩,by omega,(Env.Sub.cons rfl rfl (Env.Sub.cons rfl rfl (Env.Sub.cons rfl rfl (Env.Sub.cons rfl rfl (Env.Sub.cons rfl rfl Env.Sub.nil))))),(Ent.left [_] _)⟩
             ·
              refine L.not rfl<|L.pickF rfl rfl<|WL.nil<|WP.condT rfl<|WP.regs<|L.assign rfl<|WL.nil<|WP.ret<|X.thenR (X.blockR (X.thenR (X.thenR (X.blockR (X.thenR ?_)))));refine X.ret rfl (Res.one rfl rfl) ?_
              first
               | exact⟨_,rfl,_,rfl,⟨fun _=>⟨by omega,hem.1 (by omega),by omega,by omega,hallv,fun j hj=>hall j (by omega)⟩,fun _=>rfl⟩⟩
               | (refine⟨_,rfl,_,rfl,⟨fun h=>absurd h (by omega),fun hok=>?_⟩⟩
                  exfalso
                  first
                  | exact absurd hok.st.1 (by omega)
                  | exact absurd hok.st.2 (by omega)
                  | exact absurd hok.sym.2.1 (by omega)
                  | exact absurd (hem.2 hok.sym) (by omega)
                  | exact absurd hok.nv (by omega)
                  | exact absurd hok.nr (by omega)
                  | exact absurd (hbn.2 (hok.vars i (by omega)).1) (by decide)
                  | (have hc4':c=1:=by omega
                     have hil:i<t.vars.length:=by omega
                     obtain⟨j,hj,he⟩:=hc3.1 hc4'
                     exact (hok.vars i hil).2.1 j hj he)
                  | exact absurd (hok.vars i (by omega)).2.2.1 (by omega)
                  | exact absurd ((hok.vars i (by omega)).2.2.2 p (by omega)).1 (by omega)
                  | (have hil:i<t.vars.length:=by omega
                     have hpl:p<(t.vars.getD i .no).states.length:=by omega
                     have hp0:0<p:=by omega
                     have hx1:=((hok.vars i hil).2.2.2 p hpl).2 hp0
                     have hx2:((p:Int)-1).toNat=p-1:=by omega
                     rw[hx2] at h106
                     omega)
                  | exact absurd (hok.rows i (by omega)).1 (by omega)
                  | exact hd1 (hok.rows i (by omega)).2.1
                  | exact hd2 (hok.rows i (by omega)).2.2.1
                  | exact hd3 (hok.rows i (by omega)).2.2.2.1
                  | exact hd4 ((hok.rows i (by omega)).2.2.2.2 p (by omega)))
            ·
             refine L.not rfl<|L.pickF rfl rfl<|L.move rfl<|L.skip<|L.skip<|L.skip<|L.pickT rfl rfl<|WL.nil<|WP.condT rfl<|WP.regs<|L.assign rfl<|WL.nil<|WP.ret<|X.thenR (X.blockR (X.thenR (X.thenR (X.blockR (X.thenR ?_)))));refine X.ret rfl (Res.one rfl rfl) ?_
             first
              | exact⟨_,rfl,_,rfl,⟨fun _=>⟨by omega,hem.1 (by omega),by omega,by omega,hallv,fun j hj=>hall j (by omega)⟩,fun _=>rfl⟩⟩
              | (refine⟨_,rfl,_,rfl,⟨fun h=>absurd h (by omega),fun hok=>?_⟩⟩
                 exfalso
                 first
                 | exact absurd hok.st.1 (by omega)
                 | exact absurd hok.st.2 (by omega)
                 | exact absurd hok.sym.2.1 (by omega)
                 | exact absurd (hem.2 hok.sym) (by omega)
                 | exact absurd hok.nv (by omega)
                 | exact absurd hok.nr (by omega)
                 | exact absurd (hbn.2 (hok.vars i (by omega)).1) (by decide)
                 | (have hc4':c=1:=by omega
                    have hil:i<t.vars.length:=by omega
                    obtain⟨j,hj,he⟩:=hc3.1 hc4'
                    exact (hok.vars i hil).2.1 j hj he)
                 | exact absurd (hok.vars i (by omega)).2.2.1 (by omega)
                 | exact absurd ((hok.vars i (by omega)).2.2.2 p (by omega)).1 (by omega)
                 | (have hil:i<t.vars.length:=by omega
                    have hpl:p<(t.vars.getD i .no).states.length:=by omega
                    have hp0:0<p:=by omega
                    have hx1:=((hok.vars i hil).2.2.2 p hpl).2 hp0
                    have hx2:((p:Int)-1).toNat=p-1:=by omega
                    rw[hx2] at h106
                    omega)
                 | exact absurd (hok.rows i (by omega)).1 (by omega)
                 | exact hd1 (hok.rows i (by omega)).2.1
                 | exact hd2 (hok.rows i (by omega)).2.2.1
                 | exact hd3 (hok.rows i (by omega)).2.2.2.1
                 | exact hd4 ((hok.rows i (by omega)).2.2.2.2 p (by omega)))
           ·
            refine L.not rfl<|L.pickF rfl rfl<|L.move rfl ?_
            iterate 5 refine L.skip ?_
            refine L.pickT rfl rfl<|L.move rfl<|L.skip<|L.skip<|L.skip<|L.pickT rfl rfl<|WL.nil<|WP.condT rfl<|WP.regs<|L.assign rfl<|WL.nil<|WP.ret<|X.thenR (X.blockR (X.thenR (X.thenR (X.blockR (X.thenR ?_)))));refine X.ret rfl (Res.one rfl rfl) ?_
            first
             | exact⟨_,rfl,_,rfl,⟨fun _=>⟨by omega,hem.1 (by omega),by omega,by omega,hallv,fun j hj=>hall j (by omega)⟩,fun _=>rfl⟩⟩
             | (refine⟨_,rfl,_,rfl,⟨fun h=>absurd h (by omega),fun hok=>?_⟩⟩
                exfalso
                first
                | exact absurd hok.st.1 (by omega)
                | exact absurd hok.st.2 (by omega)
                | exact absurd hok.sym.2.1 (by omega)
                | exact absurd (hem.2 hok.sym) (by omega)
                | exact absurd hok.nv (by omega)
                | exact absurd hok.nr (by omega)
                | exact absurd (hbn.2 (hok.vars i (by omega)).1) (by decide)
                | (have hc4':c=1:=by omega
                   have hil:i<t.vars.length:=by omega
                   obtain⟨j,hj,he⟩:=hc3.1 hc4'
                   exact (hok.vars i hil).2.1 j hj he)
                | exact absurd (hok.vars i (by omega)).2.2.1 (by omega)
                | exact absurd ((hok.vars i (by omega)).2.2.2 p (by omega)).1 (by omega)
                | (have hil:i<t.vars.length:=by omega
                   have hpl:p<(t.vars.getD i .no).states.length:=by omega
                   have hp0:0<p:=by omega
                   have hx1:=((hok.vars i hil).2.2.2 p hpl).2 hp0
                   have hx2:((p:Int)-1).toNat=p-1:=by omega
                   rw[hx2] at h106
                   omega)
                | exact absurd (hok.rows i (by omega)).1 (by omega)
                | exact hd1 (hok.rows i (by omega)).2.1
                | exact hd2 (hok.rows i (by omega)).2.2.1
                | exact hd3 (hok.rows i (by omega)).2.2.2.1
                | exact hd4 ((hok.rows i (by omega)).2.2.2.2 p (by omega)))
         ·
          refine WP.exit<|X.thenE (X.thenE (X.blockE ?_));refine X.thenN<|WP.regs<|L.assign rfl<|WL.nil<|WP.ret<|X.ret rfl (Res.one rfl rfl) ?_
          first
           | exact⟨_,rfl,_,rfl,⟨fun _=>⟨by omega,hem.1 (by omega),by omega,by omega,hallv,fun j hj=>hall j (by omega)⟩,fun _=>rfl⟩⟩
           | (refine⟨_,rfl,_,rfl,⟨fun h=>absurd h (by omega),fun hok=>?_⟩⟩
              exfalso
              first
              | exact absurd hok.st.1 (by omega)
              | exact absurd hok.st.2 (by omega)
              | exact absurd hok.sym.2.1 (by omega)
              | exact absurd (hem.2 hok.sym) (by omega)
              | exact absurd hok.nv (by omega)
              | exact absurd hok.nr (by omega)
              | exact absurd (hbn.2 (hok.vars i (by omega)).1) (by decide)
              | (have hc4':c=1:=by omega
                 have hil:i<t.vars.length:=by omega
                 obtain⟨j,hj,he⟩:=hc3.1 hc4'
                 exact (hok.vars i hil).2.1 j hj he)
              | exact absurd (hok.vars i (by omega)).2.2.1 (by omega)
              | exact absurd ((hok.vars i (by omega)).2.2.2 p (by omega)).1 (by omega)
              | (have hil:i<t.vars.length:=by omega
                 have hpl:p<(t.vars.getD i .no).states.length:=by omega
                 have hp0:0<p:=by omega
                 have hx1:=((hok.vars i hil).2.2.2 p hpl).2 hp0
                 have hx2:((p:Int)-1).toNat=p-1:=by omega
                 rw[hx2] at h106
                 omega)
              | exact absurd (hok.rows i (by omega)).1 (by omega)
              | exact hd1 (hok.rows i (by omega)).2.1
              | exact hd2 (hok.rows i (by omega)).2.2.1
              | exact hd3 (hok.rows i (by omega)).2.2.2.1
              | exact hd4 ((hok.rows i (by omega)).2.2.2.2 p (by omega)))
end
open Go.RowKit Go.Proofs
def turnTo (n f:Int) (p:Nat):List Int:=(List.range p).map fun i:Nat=>(f+(i:Int))%n
def mirTo (n f:Int) (p:Nat):List Int:=(List.range p).map fun i:Nat=>(f-(i:Int)+n)%n
theorem turnTo_succ (n f:Int) (p:Nat):turnTo n f (p+1)=turnTo n f p++[(f+(p:Int))%n]:=by simp[turnTo,List.range_succ]
theorem mirTo_succ (n f:Int) (p:Nat):mirTo n f (p+1)=mirTo n f p++[(f-(p:Int)+n)%n]:=by simp[mirTo,List.range_succ]
theorem turnTo_len (n f:Int) (p:Nat):(turnTo n f p).length=p:=by simp[turnTo]
theorem mirTo_len (n f:Int) (p:Nat):(mirTo n f p).length=p:=by simp[mirTo]
theorem intsC_snoc (l:List Int) (x:Int):intsC l++[.int .i64 x]=intsC (l++[x]):=by simp[intsC]
def pairOf (mir:Bool) (st n f:Int):List (List Int):=
  if f%st≠0 then [] else
  if mir && decide ((f+1)%n<(f-1+n)%n) then [turnTo n f n.toNat,mirTo n f n.toNat]
  else if mir && decide ((f-1+n)%n<(f+1)%n) then [mirTo n f n.toNat,turnTo n f n.toNat] else [turnTo n f n.toNat]
def groupTo (mir:Bool) (st n:Int) (i:Nat):List (List Int):=(List.range i).flatMap fun f:Nat=>pairOf mir st n (f:Int)
theorem groupTo_succ (mir:Bool) (st n:Int) (i:Nat):groupTo mir st n (i+1)=groupTo mir st n i++pairOf mir st n (i:Int):=by simp[groupTo,List.range_succ]
theorem turn_get (n f:Int) (p:Nat) (h:1<p):(intsC (turnTo n f p))[0+(1:Int).toNat*1]?=some (.int .i64 ((f+1)%n)):=by
  show (intsC (turnTo n f p))[1]?=_
  unfold intsC turnTo
  rw[List.getElem?_map,List.getElem?_map,List.getElem?_range h];rfl
theorem mir_get (n f:Int) (p:Nat) (h:1<p):(intsC (mirTo n f p))[0+(1:Int).toNat*1]?=some (.int .i64 ((f-1+n)%n)):=by
  show (intsC (mirTo n f p))[1]?=_
  unfold intsC mirTo
  rw[List.getElem?_map,List.getElem?_map,List.getElem?_range h];rfl
def groupD (sym near:Int):List (List Int):=groupTo (turnsD sym near (hoodSize near)).2 (turnsD sym near (hoodSize near)).1 (hoodSize near) (hoodSize near).toNat
theorem hoodSize_cases (h:Int) (e:hoodE h=0):hoodSize h=8∨hoodSize h=4∨hoodSize h=6:=by
  rcases (hoodE_iff h).1 e with rfl | rfl | rfl <;> decide
theorem turnsD_bd (sym near n:Int) (hn:0≤n∧n≤8):0≤(turnsD sym near n).1∧(turnsD sym near n).1≤8:=by
  unfold turnsD
  repeat' split
  all_goals (dsimp only;omega)
section
variable {k:World} {h0:Hp}
set_option maxRecDepth 10000 in
theorem table_Group_true (sym near n st:Int) (hs:symOk sym near) (h6:sym≠6) (hn:n=hoodSize near) (hst:turnsD sym near n=(st,true)):FT Pg 235 [.int .u8 sym,.int .u8 near] k h0 [] (Ret fun v τ=>∃ u:Value,v=.tuple #[u,.int .i64 0]∧τ=[ordO u (groupD sym near)]):=by
  have hnc:=hoodSize_cases near hs.2.1;have hbd:=hoodSize_bd near;have hst0:=hs.2.2;rw[← hn] at hst0 hnc hbd;rw[hst] at hst0;have hb2:=turnsD_bd sym near n hbd;rw[hst] at hb2;dsimp only at hst0 hb2
  refine FT.tight<|FT.of_wp (n:=103) Tryz.func235 rfl rfl rfl<|WP.regs<|L.assign rfl<|L.assign rfl<|WL.nil<|WP.seq<|WP.regs<|L.move rfl<|L.move rfl<|WL.call rfl rfl F222.fn rfl (FT.pureR fun g gS dj=>table_may sym near) ?_;rintro _ _ ⟨⟨e,rfl,he⟩,rfl⟩
  obtain rfl:=he.2 hs
  refine L.assign rfl<|WL.nil<|WP.regs<|L.move rfl<|L.neq rfl rfl<|WL.nil<|WP.condD rfl (fun hT=>absurd hT (by omega)) (fun h21=>?_);refine WP.skip<|X.thenN<|WP.regs<|L.move rfl<|WL.callV rfl rfl F143.fn rfl (fun g gS dj=>by have:=hood_Size (k:=k) (h0:=h0.un g) near;rw[← hn] at this;exact this) ?_;refine L.move rfl<|L.extract rfl rfl<|L.extract rfl rfl<|L.assign rfl<|L.assign rfl<|WL.nil<|WP.seq<|WP.regs<|L.move rfl<|L.eql rfl rfl<|WL.nil<|WP.condD rfl (fun hT=>absurd hT (by omega)) (fun h29=>?_)
  refine WP.skip<|X.thenN<|WP.regs<|L.move rfl<|L.move rfl<|L.move rfl<|WL.callV rfl rfl F234.fn rfl (fun g gS dj=>by have:=table_turns (k:=k) (h0:=h0.un g) sym near n hbd;rw[hst] at this;exact this) ?_
  refine L.move rfl<|L.extract rfl rfl<|L.extract rfl rfl<|L.assign rfl<|L.assign rfl<|WL.nil<|WP.regs<|L.assign rfl<|WL.nil<|WP.seq<|WP.regs<|L.move rfl<|L.move rfl<|WL.nil<|WP.block<|WP.loop (X:=Nat × Value × List Value) (fun x=>⟨103,[],[(7,.int .i64 n),(9,.int .i64 st),(10,.bool true),(11,x.2.1),(39,.int .i64 n),(40,.int .i64 (x.1:Int))]⟩) (fun x=>[vec 56 1 x.2.1 x.2.2.length x.2.2,ordsO x.2.2 (groupTo true st n x.1)]) (fun x=>(x.1:Int)≤n∧x.2.2.length≤16*x.1) (fun x=>n.toNat-x.1) (0,.slice none 0 0,[]) (⟨by dsimp only;omega,Nat.zero_le _⟩) (Env.Sub.cons rfl rfl (Env.Sub.cons rfl rfl (Env.Sub.cons rfl rfl (Env.Sub.cons rfl rfl (Env.Sub.cons rfl rfl (Env.Sub.cons rfl rfl Env.Sub.nil)))))) (Ent.nilords.trans (Ent.nilvec (E:=56) (sz:=1))) ?_
  rintro ⟨i,u,vs⟩ ⟨hi,hvs⟩
  dsimp only at hi hvs ⊢
  refine WP.regs<|L.lss rfl rfl<|WL.nil<|WP.seq<|WP.condD rfl (fun h41=>?_) (fun h41=>?_)
  refine WP.skip<|X.thenN<|WP.seq<|WP.block<|WP.regs<|L.move rfl<|L.assign rfl<|WL.nil<|WP.regs<|L.assign rfl<|L.assign rfl<|WL.nil<|WP.seq<|WP.regs<|L.move rfl<|L.move rfl<|WL.nil<|WP.block<|WP.loop (X:=Nat × Value × Value) (fun x=>⟨103,[],[(12,.int .i64 (i:Int)),(13,x.2.1),(14,x.2.2),(43,.int .i64 n),(44,.int .i64 (x.1:Int)),(7,.int .i64 n),(9,.int .i64 st),(10,.bool true),(11,u),(39,.int .i64 n),(40,.int .i64 (i:Int))]⟩) (fun x=>[vec 3 1 x.2.2 x.1 (intsC (mirTo n i x.1)),vec 3 1 x.2.1 x.1 (intsC (turnTo n i x.1)),vec 56 1 u vs.length vs,ordsO vs (groupTo true st n i)]) (fun x=>(x.1:Int)≤n) (fun x=>n.toNat-x.1) (0,.slice none 0 0,.slice none 0 0) (by dsimp only;omega) (Env.Sub.cons rfl rfl (Env.Sub.cons rfl rfl (Env.Sub.cons rfl rfl (Env.Sub.cons rfl rfl (Env.Sub.cons rfl rfl (Env.Sub.cons rfl rfl (Env.Sub.cons rfl rfl (Env.Sub.cons rfl rfl (Env.Sub.cons rfl rfl (Env.Sub.cons rfl rfl (Env.Sub.cons rfl rfl Env.Sub.nil))))))))))) (Ent.nilvec.trans Ent.nilvec) ?_
  rintro ⟨p,u1,u2⟩ hp
  dsimp only at hp ⊢
  refine WP.regs<|L.lss rfl rfl<|WL.nil<|WP.seq<|WP.condD rfl (fun h45=>?_) (fun h45=>?_);refine WP.skip<|X.thenN<|WP.seq<|WP.block<|WP.regs<|L.move rfl<|L.assign rfl<|WL.nil<|WP.regs<|L.move rfl<|L.move rfl<|L.move rfl<|L.add' rfl rfl (by omega)<|L.move rfl<|L.rem' rfl rfl (by omega)<|L.slice1 T56.sl T3.z rfl rfl rfl rfl rfl rfl fun b1=>L.append (i:=2) (news:=[_]) T56.sl T3.z rfl rfl rfl rfl rfl rfl (fun _ _ _ e=>by cases e;exact⟨rfl,Rds.all 0 rfl⟩) (fun e=>by cases e) (by simp[Value.oneCell']) (by omega) ?_;intro v1
  refine L.assign rfl<|WL.nil<|WP.region<|L.move rfl<|L.move rfl<|L.move rfl<|L.sub' rfl rfl (by omega)<|L.move rfl<|L.add' rfl rfl (by omega)<|L.move rfl<|L.rem' rfl rfl (by omega)<|L.slice1 T56.sl T3.z rfl rfl rfl rfl rfl rfl fun b2=>L.append (i:=3) (news:=[_]) T56.sl T3.z rfl rfl rfl rfl rfl rfl (fun _ _ _ e=>by cases e;exact⟨rfl,Rds.all 0 rfl⟩) (fun e=>by cases e) (by simp[Value.oneCell']) (by omega) ?_;intro v2
  refine L.assign rfl<|WL.nil<|X.blockN<|X.thenN<|WP.region<|L.add' rfl rfl (by omega)<|L.move rfl<|WL.nil<|X.thenN ⟨(p+1,v1,v2),by dsimp only;omega,by dsimp only;omega,(Env.Sub.cons rfl rfl (Env.Sub.cons rfl rfl (Env.Sub.cons rfl rfl (Env.Sub.cons rfl rfl (Env.Sub.cons rfl rfl (Env.Sub.cons rfl rfl (Env.Sub.cons rfl rfl (Env.Sub.cons rfl rfl (Env.Sub.cons rfl rfl (Env.Sub.cons rfl rfl (Env.Sub.cons rfl rfl Env.Sub.nil))))))))))),((Ent.pk [0,1,2,2] rfl)).trans (Ent.of_eq (by dsimp only;rw[mirTo_succ,turnTo_succ,← intsC_snoc,← intsC_snoc]))⟩;refine WP.exit<|X.thenE (X.thenE (X.blockE ?_));refine X.thenN<|WP.seq<|WP.regs ?_
  obtain rfl:p=n.toNat:=by omega
  refine WL.fact (fun _ _ _ s=>And.intro (s.vec_shape 0 rfl) (s.vec_shape 1 rfl)) ?_;rintro ⟨⟨_,a2,cap2,rfl,hcap2,ha2⟩,⟨_,a1,cap1,rfl,hcap1,ha1⟩⟩
  obtain⟨c2,rfl⟩:=ha2 (by omega)
  obtain⟨c1,rfl⟩:=ha1 (by omega)
  refine L.move rfl<|L.move rfl<|L.rem' rfl rfl (by omega)<|L.neq rfl rfl<|WL.nil<|WP.condD rfl (fun h69=>?_) (fun h69=>?_);refine WP.exit<|X.thenE (X.blockE ?_);refine X.thenN<|WP.region<|L.add' rfl rfl (by omega)<|L.move rfl<|WL.nil ?_
  have hg:=groupTo_succ true st n i
  rw[show pairOf true st n (i:Int)=[] from if_pos h69,List.append_nil] at hg
  refine X.thenN ⟨(i+1,u,vs),⟨by dsimp only;omega,by dsimp only;omega⟩,by dsimp only;omega,(Env.Sub.cons rfl rfl (Env.Sub.cons rfl rfl (Env.Sub.cons rfl rfl (Env.Sub.cons rfl rfl (Env.Sub.cons rfl rfl (Env.Sub.cons rfl rfl Env.Sub.nil)))))),((Ent.left [_,_] _)).trans (Ent.of_eq (by dsimp only;rw[hg]))⟩
  refine WP.skip<|X.thenN<|WP.regs<|L.move rfl<|L.slice1 T239.sl T56.z rfl rfl rfl rfl rfl rfl fun b3=>L.assign rfl<|WL.nil<|WP.seq<|WP.seq<|WP.rege [(0,true),(1,true),(2,true),(3,true),(4,true),(5,true),(6,true),(7,true),(8,true),(9,true)] 10 rfl (by kernel_rfl) (PInv.then (PInv.then (PInv.block (PInv.then (PInv.then (PInv.block (PInv.then PInv.ret))))))) rfl<|WE.take rfl (V.move rfl)<|WE.take rfl (V.move rfl)<|WE.take rfl (V.move rfl)<|WE.take rfl (V.indexS T56.sl rfl rfl (by omega))<|WE.take rfl (V.load T3.sc rfl (Rd.vec 2 rfl (turn_get n i n.toNat (by omega)))) ?_;refine WE.take rfl (V.move rfl)<|WE.take rfl (V.indexS T56.sl rfl rfl (by omega))<|WE.take rfl (V.load T3.sc rfl (Rd.vec 1 rfl (mir_get n i n.toNat (by omega))))<|WE.take rfl (V.lss rfl rfl)<|WE.take rfl (V.pickT rfl rfl)<|WE.nil<|X.thenN<|WP.condD rfl (fun h81=>?_) (fun h81=>?_)
  refine WP.region<|L.move rfl<|L.move rfl<|L.sliceL T239.sl T56.z rfl (by simp[Value.oneCell']) rfl rfl fun b4=>L.assign rfl<|WL.nil<|X.thenN<|WP.region<|L.move rfl<|L.move rfl<|L.append (i:=4) (news:=[_,_]) T239.sl T56.z rfl rfl rfl rfl rfl rfl (fun _ _ _ e=>by cases e;exact⟨rfl,Rds.all 0 rfl⟩) (fun e=>by cases e) (by simp[Value.oneCell']) (by omega) ?_;intro u3;refine L.assign rfl<|WL.nil<|X.blockN<|X.thenN<|WP.region<|L.add' rfl rfl (by omega)<|L.move rfl<|WL.nil ?_
  have hg:=groupTo_succ true st n i
  rw[show pairOf true st n (i:Int)=[turnTo n i n.toNat,mirTo n i n.toNat] by unfold pairOf;rw[if_neg h69,decide_eq_true h81];rfl] at hg
  refine X.thenN ⟨(i+1,u3,vs++[.slice (some ⟨c1,0,none⟩) n.toNat cap1,.slice (some ⟨c2,0,none⟩) n.toNat cap2]),⟨by dsimp only;omega,by simp;omega⟩,by dsimp only;omega,(Env.Sub.cons rfl rfl (Env.Sub.cons rfl rfl (Env.Sub.cons rfl rfl (Env.Sub.cons rfl rfl (Env.Sub.cons rfl rfl (Env.Sub.cons rfl rfl Env.Sub.nil)))))),((Ent.pk [0,2,2,2] rfl)).trans ((Ent.cons ((Ent.cons (Ent.ords (turnTo_len _ _ _))).trans (Ent.ords (mirTo_len _ _ _)))).trans (Ent.of_eq (by dsimp only;rw[hg];simp)))⟩
  refine WP.seq<|WP.rege [(0,true),(1,true),(2,true),(3,true),(4,true),(5,true),(6,true),(7,true),(8,true),(9,true)] 10 rfl (by kernel_rfl) (PInv.then (PInv.then (PInv.block (PInv.then (PInv.then (PInv.block (PInv.then PInv.ret))))))) rfl<|WE.take rfl (V.move rfl)<|WE.take rfl (V.move rfl)<|WE.take rfl (V.move rfl)<|WE.take rfl (V.indexS T56.sl rfl rfl (by omega))<|WE.take rfl (V.load T3.sc rfl (Rd.vec 2 rfl (turn_get n i n.toNat (by omega))))<|WE.take rfl (V.move rfl)<|WE.take rfl (V.indexS T56.sl rfl rfl (by omega))<|WE.take rfl (V.load T3.sc rfl (Rd.vec 1 rfl (mir_get n i n.toNat (by omega)))) ?_;refine WE.take rfl (V.gtr rfl rfl)<|WE.take rfl (V.pickT rfl rfl)<|WE.nil<|X.thenN<|WP.condD rfl (fun h94=>?_) (fun h94=>?_)
  refine WP.region<|L.move rfl<|L.move rfl<|L.sliceL T239.sl T56.z rfl (by simp[Value.oneCell']) rfl rfl fun b5=>L.assign rfl<|WL.nil<|X.thenN<|WP.region<|L.move rfl<|L.move rfl<|L.append (i:=4) (news:=[_,_]) T239.sl T56.z rfl rfl rfl rfl rfl rfl (fun _ _ _ e=>by cases e;exact⟨rfl,Rds.all 0 rfl⟩) (fun e=>by cases e) (by simp[Value.oneCell']) (by omega) ?_;intro u3;refine L.assign rfl<|WL.nil<|X.blockN<|X.thenN<|WP.region<|L.add' rfl rfl (by omega)<|L.move rfl<|WL.nil ?_
  have hg:=groupTo_succ true st n i
  rw[show pairOf true st n (i:Int)=[mirTo n i n.toNat,turnTo n i n.toNat] by unfold pairOf;rw[if_neg h69,decide_eq_false h81,decide_eq_true h94];rfl] at hg
  refine X.thenN ⟨(i+1,u3,vs++[.slice (some ⟨c2,0,none⟩) n.toNat cap2,.slice (some ⟨c1,0,none⟩) n.toNat cap1]),⟨by dsimp only;omega,by simp;omega⟩,by dsimp only;omega,(Env.Sub.cons rfl rfl (Env.Sub.cons rfl rfl (Env.Sub.cons rfl rfl (Env.Sub.cons rfl rfl (Env.Sub.cons rfl rfl (Env.Sub.cons rfl rfl Env.Sub.nil)))))),((Ent.pk [0,3,2,2] rfl)).trans ((Ent.cons ((Ent.cons (Ent.ords (mirTo_len _ _ _))).trans (Ent.ords (turnTo_len _ _ _)))).trans (Ent.of_eq (by dsimp only;rw[hg];simp)))⟩
  refine WP.skip<|X.thenN<|WP.region<|L.move rfl<|L.move rfl<|L.append (i:=3) (news:=[_]) T239.sl T56.z rfl rfl rfl rfl rfl rfl (fun _ _ _ e=>by cases e;exact⟨rfl,Rds.all 0 rfl⟩) (fun e=>by cases e) (by simp[Value.oneCell']) (by omega) ?_;intro u3;refine L.assign rfl<|WL.nil<|X.blockN<|X.thenN<|WP.region<|L.add' rfl rfl (by omega)<|L.move rfl<|WL.nil ?_
  have hg:=groupTo_succ true st n i
  rw[show pairOf true st n (i:Int)=[turnTo n i n.toNat] by unfold pairOf;rw[if_neg h69,decide_eq_false h81,decide_eq_false h94];rfl] at hg
  refine X.thenN ⟨(i+1,u3,vs++[.slice (some ⟨c1,0,none⟩) n.toNat cap1]),⟨by dsimp only;omega,by simp;omega⟩,by dsimp only;omega,(Env.Sub.cons rfl rfl (Env.Sub.cons rfl rfl (Env.Sub.cons rfl rfl (Env.Sub.cons rfl rfl (Env.Sub.cons rfl rfl (Env.Sub.cons rfl rfl Env.Sub.nil)))))),((Ent.pk [0,2,2] rfl)).trans ((Ent.cons (Ent.ords (turnTo_len _ _ _))).trans (Ent.of_eq (by dsimp only;rw[hg];simp)))⟩;refine WP.exit<|X.thenE (X.thenE (X.blockE ?_));refine X.thenN<|WP.regs<|L.move rfl<|L.assign rfl<|L.assign rfl<|WL.nil<|WP.ret<|X.ret rfl (Res.two rfl rfl rfl) ?_
  obtain rfl:i=n.toNat:=by omega
  exact⟨_,rfl,_,⟨_,rfl,rfl⟩,(Ent.ordO rfl).trans (Ent.of_eq (by unfold groupD;rw[← hn,hst]))⟩
set_option maxRecDepth 10000 in
theorem table_Group_false (sym near n st:Int) (hs:symOk sym near) (h6:sym≠6) (hn:n=hoodSize near) (hst:turnsD sym near n=(st,false)):FT Pg 235 [.int .u8 sym,.int .u8 near] k h0 [] (Ret fun v τ=>∃ u:Value,v=.tuple #[u,.int .i64 0]∧τ=[ordO u (groupD sym near)]):=by
  have hnc:=hoodSize_cases near hs.2.1;have hbd:=hoodSize_bd near;have hst0:=hs.2.2;rw[← hn] at hst0 hnc hbd;rw[hst] at hst0;have hb2:=turnsD_bd sym near n hbd;rw[hst] at hb2;dsimp only at hst0 hb2
  refine FT.tight<|FT.of_wp (n:=103) Tryz.func235 rfl rfl rfl<|WP.regs<|L.assign rfl<|L.assign rfl<|WL.nil<|WP.seq<|WP.regs<|L.move rfl<|L.move rfl<|WL.call rfl rfl F222.fn rfl (FT.pureR fun g gS dj=>table_may sym near) ?_;rintro _ _ ⟨⟨e,rfl,he⟩,rfl⟩
  obtain rfl:=he.2 hs
  refine L.assign rfl<|WL.nil<|WP.regs<|L.move rfl<|L.neq rfl rfl<|WL.nil<|WP.condD rfl (fun hT=>absurd hT (by omega)) (fun h21=>?_);refine WP.skip<|X.thenN<|WP.regs<|L.move rfl<|WL.callV rfl rfl F143.fn rfl (fun g gS dj=>by have:=hood_Size (k:=k) (h0:=h0.un g) near;rw[← hn] at this;exact this) ?_;refine L.move rfl<|L.extract rfl rfl<|L.extract rfl rfl<|L.assign rfl<|L.assign rfl<|WL.nil<|WP.seq<|WP.regs<|L.move rfl<|L.eql rfl rfl<|WL.nil<|WP.condD rfl (fun hT=>absurd hT (by omega)) (fun h29=>?_)
  refine WP.skip<|X.thenN<|WP.regs<|L.move rfl<|L.move rfl<|L.move rfl<|WL.callV rfl rfl F234.fn rfl (fun g gS dj=>by have:=table_turns (k:=k) (h0:=h0.un g) sym near n hbd;rw[hst] at this;exact this) ?_
  refine L.move rfl<|L.extract rfl rfl<|L.extract rfl rfl<|L.assign rfl<|L.assign rfl<|WL.nil<|WP.regs<|L.assign rfl<|WL.nil<|WP.seq<|WP.regs<|L.move rfl<|L.move rfl<|WL.nil<|WP.block<|WP.loop (X:=Nat × Value × List Value) (fun x=>⟨103,[],[(7,.int .i64 n),(9,.int .i64 st),(10,.bool false),(11,x.2.1),(39,.int .i64 n),(40,.int .i64 (x.1:Int))]⟩) (fun x=>[vec 56 1 x.2.1 x.2.2.length x.2.2,ordsO x.2.2 (groupTo false st n x.1)]) (fun x=>(x.1:Int)≤n∧x.2.2.length≤16*x.1) (fun x=>n.toNat-x.1) (0,.slice none 0 0,[]) (⟨by dsimp only;omega,Nat.zero_le _⟩) (Env.Sub.cons rfl rfl (Env.Sub.cons rfl rfl (Env.Sub.cons rfl rfl (Env.Sub.cons rfl rfl (Env.Sub.cons rfl rfl (Env.Sub.cons rfl rfl Env.Sub.nil)))))) (Ent.nilords.trans (Ent.nilvec (E:=56) (sz:=1))) ?_
  rintro ⟨i,u,vs⟩ ⟨hi,hvs⟩
  dsimp only at hi hvs ⊢
  refine WP.regs<|L.lss rfl rfl<|WL.nil<|WP.seq<|WP.condD rfl (fun h41=>?_) (fun h41=>?_)
  refine WP.skip<|X.thenN<|WP.seq<|WP.block<|WP.regs<|L.move rfl<|L.assign rfl<|WL.nil<|WP.regs<|L.assign rfl<|L.assign rfl<|WL.nil<|WP.seq<|WP.regs<|L.move rfl<|L.move rfl<|WL.nil<|WP.block<|WP.loop (X:=Nat × Value × Value) (fun x=>⟨103,[],[(12,.int .i64 (i:Int)),(13,x.2.1),(14,x.2.2),(43,.int .i64 n),(44,.int .i64 (x.1:Int)),(7,.int .i64 n),(9,.int .i64 st),(10,.bool false),(11,u),(39,.int .i64 n),(40,.int .i64 (i:Int))]⟩) (fun x=>[vec 3 1 x.2.2 x.1 (intsC (mirTo n i x.1)),vec 3 1 x.2.1 x.1 (intsC (turnTo n i x.1)),vec 56 1 u vs.length vs,ordsO vs (groupTo false st n i)]) (fun x=>(x.1:Int)≤n) (fun x=>n.toNat-x.1) (0,.slice none 0 0,.slice none 0 0) (by dsimp only;omega) (Env.Sub.cons rfl rfl (Env.Sub.cons rfl rfl (Env.Sub.cons rfl rfl (Env.Sub.cons rfl rfl (Env.Sub.cons rfl rfl (Env.Sub.cons rfl rfl (Env.Sub.cons rfl rfl (Env.Sub.cons rfl rfl (Env.Sub.cons rfl rfl (Env.Sub.cons rfl rfl (Env.Sub.cons rfl rfl Env.Sub.nil))))))))))) (Ent.nilvec.trans Ent.nilvec) ?_
  rintro ⟨p,u1,u2⟩ hp
  dsimp only at hp ⊢
  refine WP.regs<|L.lss rfl rfl<|WL.nil<|WP.seq<|WP.condD rfl (fun h45=>?_) (fun h45=>?_);refine WP.skip<|X.thenN<|WP.seq<|WP.block<|WP.regs<|L.move rfl<|L.assign rfl<|WL.nil<|WP.regs<|L.move rfl<|L.move rfl<|L.move rfl<|L.add' rfl rfl (by omega)<|L.move rfl<|L.rem' rfl rfl (by omega)<|L.slice1 T56.sl T3.z rfl rfl rfl rfl rfl rfl fun b1=>L.append (i:=2) (news:=[_]) T56.sl T3.z rfl rfl rfl rfl rfl rfl (fun _ _ _ e=>by cases e;exact⟨rfl,Rds.all 0 rfl⟩) (fun e=>by cases e) (by simp[Value.oneCell']) (by omega) ?_;intro v1
  refine L.assign rfl<|WL.nil<|WP.region<|L.move rfl<|L.move rfl<|L.move rfl<|L.sub' rfl rfl (by omega)<|L.move rfl<|L.add' rfl rfl (by omega)<|L.move rfl<|L.rem' rfl rfl (by omega)<|L.slice1 T56.sl T3.z rfl rfl rfl rfl rfl rfl fun b2=>L.append (i:=3) (news:=[_]) T56.sl T3.z rfl rfl rfl rfl rfl rfl (fun _ _ _ e=>by cases e;exact⟨rfl,Rds.all 0 rfl⟩) (fun e=>by cases e) (by simp[Value.oneCell']) (by omega) ?_;intro v2
  refine L.assign rfl<|WL.nil<|X.blockN<|X.thenN<|WP.region<|L.add' rfl rfl (by omega)<|L.move rfl<|WL.nil<|X.thenN ⟨(p+1,v1,v2),by dsimp only;omega,by dsimp only;omega,(Env.Sub.cons rfl rfl (Env.Sub.cons rfl rfl (Env.Sub.cons rfl rfl (Env.Sub.cons rfl rfl (Env.Sub.cons rfl rfl (Env.Sub.cons rfl rfl (Env.Sub.cons rfl rfl (Env.Sub.cons rfl rfl (Env.Sub.cons rfl rfl (Env.Sub.cons rfl rfl (Env.Sub.cons rfl rfl Env.Sub.nil))))))))))),((Ent.pk [0,1,2,2] rfl)).trans (Ent.of_eq (by dsimp only;rw[mirTo_succ,turnTo_succ,← intsC_snoc,← intsC_snoc]))⟩;refine WP.exit<|X.thenE (X.thenE (X.blockE ?_));refine X.thenN<|WP.seq<|WP.regs ?_
  obtain rfl:p=n.toNat:=by omega
  refine WL.fact (fun _ _ _ s=>And.intro (s.vec_shape 0 rfl) (s.vec_shape 1 rfl)) ?_;rintro ⟨⟨_,a2,cap2,rfl,hcap2,ha2⟩,⟨_,a1,cap1,rfl,hcap1,ha1⟩⟩
  obtain⟨c2,rfl⟩:=ha2 (by omega)
  obtain⟨c1,rfl⟩:=ha1 (by omega)
  refine L.move rfl<|L.move rfl<|L.rem' rfl rfl (by omega)<|L.neq rfl rfl<|WL.nil<|WP.condD rfl (fun h69=>?_) (fun h69=>?_);refine WP.exit<|X.thenE (X.blockE ?_);refine X.thenN<|WP.region<|L.add' rfl rfl (by omega)<|L.move rfl<|WL.nil ?_
  have hg:=groupTo_succ false st n i
  rw[show pairOf false st n (i:Int)=[] from if_pos h69,List.append_nil] at hg
  refine X.thenN ⟨(i+1,u,vs),⟨by dsimp only;omega,by dsimp only;omega⟩,by dsimp only;omega,(Env.Sub.cons rfl rfl (Env.Sub.cons rfl rfl (Env.Sub.cons rfl rfl (Env.Sub.cons rfl rfl (Env.Sub.cons rfl rfl (Env.Sub.cons rfl rfl Env.Sub.nil)))))),((Ent.left [_,_] _)).trans (Ent.of_eq (by dsimp only;rw[hg]))⟩
  refine WP.skip<|X.thenN<|WP.regs<|L.move rfl<|L.slice1 T239.sl T56.z rfl rfl rfl rfl rfl rfl fun b3=>L.assign rfl<|WL.nil<|WP.seq<|WP.seq<|WP.rege [(0,true),(1,true),(2,true),(3,true),(4,true),(5,true),(6,true),(7,true),(8,true),(9,true)] 10 rfl (by kernel_rfl) (PInv.then (PInv.then (PInv.block (PInv.then (PInv.then (PInv.block (PInv.then PInv.ret))))))) rfl<|WE.take rfl (V.move rfl)<|WE.take rfl (V.move rfl)<|WE.skip rfl<|WE.skip rfl<|WE.skip rfl<|WE.skip rfl<|WE.skip rfl<|WE.skip rfl<|WE.skip rfl ?_;refine WE.take rfl (V.pickF rfl rfl)<|WE.nil<|X.thenN<|WP.condF rfl<|WP.seq<|WP.rege [(0,true),(1,true),(2,true),(3,true),(4,true),(5,true),(6,true),(7,true),(8,true),(9,true)] 10 rfl (by kernel_rfl) (PInv.then (PInv.then (PInv.block (PInv.then (PInv.then (PInv.block (PInv.then PInv.ret))))))) rfl<|WE.take rfl (V.move rfl)<|WE.take rfl (V.move rfl)<|WE.skip rfl<|WE.skip rfl<|WE.skip rfl<|WE.skip rfl<|WE.skip rfl<|WE.skip rfl<|WE.skip rfl<|WE.take rfl (V.pickF rfl rfl)<|WE.nil<|X.thenN<|WP.condF rfl ?_;refine WP.skip<|X.thenN<|WP.region<|L.move rfl<|L.move rfl<|L.append (i:=3) (news:=[_]) T239.sl T56.z rfl rfl rfl rfl rfl rfl (fun _ _ _ e=>by cases e;exact⟨rfl,Rds.all 0 rfl⟩) (fun e=>by cases e) (by simp[Value.oneCell']) (by omega) ?_;intro u3
  refine L.assign rfl<|WL.nil<|X.blockN<|X.thenN<|WP.region<|L.add' rfl rfl (by omega)<|L.move rfl<|WL.nil ?_
  have hg:=groupTo_succ false st n i
  rw[show pairOf false st n (i:Int)=[turnTo n i n.toNat] by unfold pairOf;rw[if_neg h69];rfl] at hg
  refine X.thenN ⟨(i+1,u3,vs++[.slice (some ⟨c1,0,none⟩) n.toNat cap1]),⟨by dsimp only;omega,by simp;omega⟩,by dsimp only;omega,(Env.Sub.cons rfl rfl (Env.Sub.cons rfl rfl (Env.Sub.cons rfl rfl (Env.Sub.cons rfl rfl (Env.Sub.cons rfl rfl (Env.Sub.cons rfl rfl Env.Sub.nil)))))),((Ent.pk [0,2,2] rfl)).trans ((Ent.cons (Ent.ords (turnTo_len _ _ _))).trans (Ent.of_eq (by dsimp only;rw[hg];simp)))⟩;refine WP.exit<|X.thenE (X.thenE (X.blockE ?_));refine X.thenN<|WP.regs<|L.move rfl<|L.assign rfl<|L.assign rfl<|WL.nil<|WP.ret<|X.ret rfl (Res.two rfl rfl rfl) ?_
  obtain rfl:i=n.toNat:=by omega
  exact⟨_,rfl,_,⟨_,rfl,rfl⟩,(Ent.ordO rfl).trans (Ent.of_eq (by unfold groupD;rw[← hn,hst]))⟩
end
open Go.RowKit Go.Proofs
abbrev Bind:=Nat→Option Int
def hasC (b:Bind):List Value:=(List.range 64).map fun i=>.bool (b i).isSome
def isC (b:Bind):List Value:=(List.range 64).map fun i=>.int .u8 ((b i).getD 0)
def fitC (tp rp:Addr) (b:Bind):List Value:=.pointer (some tp)::.pointer (some rp)::(hasC b++isC b)
theorem fitC_len (tp rp:Addr) (b:Bind):(fitC tp rp b).length=130:=by simp[fitC,hasC,isC]
theorem fit_has (tp rp:Addr) (b:Bind) (v:Nat) (h:v<64):(fitC tp rp b)[2+v*1]?=some (.bool (b v).isSome):=by
  rw[show 2+v*1=v+1+1 by omega]
  unfold fitC
  rw[List.getElem?_cons_succ,List.getElem?_cons_succ,List.getElem?_append_left (by simp[hasC,h])]
  unfold hasC
  rw[List.getElem?_map,List.getElem?_range h];rfl
theorem fit_is (tp rp:Addr) (b:Bind) (v:Nat) (h:v<64):(fitC tp rp b)[66+v*1]?=some (.int .u8 ((b v).getD 0)):=by
  rw[show 66+v*1=(64+v)+1+1 by omega]
  unfold fitC
  rw[List.getElem?_cons_succ,List.getElem?_cons_succ,List.getElem?_append_right (by simp[hasC])]
  unfold isC
  rw[List.getElem?_map,show 64+v-(hasC b).length=v by simp[hasC],List.getElem?_range h];rfl
def Bind.upd (b:Bind) (v:Nat) (s:Int):Bind:=fun i=>if i=v then some s else b i
theorem fit_set (tp rp:Addr) (b:Bind) (v:Nat) (s:Int) (h:v<64):((fitC tp rp b).set (2+v*1) (.bool true)).set (66+v*1) (.int .u8 s)=fitC tp rp (b.upd v s):=by
  rw[show 2+v*1=v+1+1 by omega,show 66+v*1=(64+v)+1+1 by omega]
  unfold fitC
  rw[List.set_cons_succ,List.set_cons_succ,List.set_cons_succ,List.set_cons_succ]
  congr 2
  rw[List.set_append_left _ _ (by simp[hasC,h]),List.set_append_right _ _ (by simp[hasC])]
  congr 1
  · exact map_range_set (by simp[Bind.upd]) fun i _ hi=>by simp[Bind.upd,hi]
  · rw[show 64+v-((hasC b).set v (.bool true)).length=v by simp[hasC]]
    exact map_range_set (by simp[Bind.upd]) fun i _ hi=>by simp[Bind.upd,hi]
theorem fitC_one (tp rp:Addr) (b:Bind):∀ u∈fitC tp rp b,u.oneCell'=true:=fun u hu=>by
  simp only[fitC,hasC,isC,List.mem_cons,List.mem_append,List.mem_map] at hu
  rcases hu with rfl | rfl | ⟨_,_,rfl⟩ | ⟨_,_,rfl⟩ <;> rfl
def hasS (l:List Int) (s:Int):Prop:=∃ i,i<l.length∧l.getD i 0=s
instance (l:List Int) (s:Int):Decidable (hasS l s):=by unfold hasS;infer_instance
def fitsD (t:TableD) (x:TermD) (s:Int) (b:Bind):Option Bind:=
  if x.var<0 then (if x.state=s then some b else none)
  else match b x.var.toNat with
   | some v=>if v=s then some b else none
   | none=>if hasS (t.vars.getD x.var.toNat .no).states s then some (b.upd x.var.toNat s) else none
def saysD (r:TransD) (b:Bind):Int:=if r.out.var<0 then r.out.state else (b r.out.var.toNat).getD 0
theorem TermD.Ok.lt {t:TableD} {x:TermD} (h:x.Ok t) (hv:¬ x.var<0):x.var<t.vars.length:=by
  unfold TermD.Ok at h
  split at h
  · omega
  · exact h.2.1
section
variable {k:World} {h0:Hp}
set_option maxRecDepth 10000 in
theorem table_fits (t:TableD) (hw:t.Wd) (ht:t.Ok) (tb:Nat) (rp:Addr) (v r:Value) (htb:At h0 tb (tableC t v r) 30) (hv:VarsAt h0 v t.vars) (x:TermD) (hx:x.Ok t) (s:Int) (b:Bind) (bf:Nat):FT Pg 236 [.pointer (some ⟨bf,0,none⟩),.agg [.int .u8 x.state,.int .i64 x.var].toArray,.int .u8 s] k h0 [cl bf (fitC ⟨tb,0,none⟩ rp b) 283] (Ret fun u τ=>u=.bool (fitsD t x s b).isSome∧τ=[cl bf (fitC ⟨tb,0,none⟩ rp ((fitsD t x s b).getD b)) 283]):=by
  obtain⟨vs,⟨va,vcap,rfl,hvcap,hvnone,hvsome⟩,hvb⟩:=hv
  have hnv:=ht.nv
  refine FT.tight<|FT.of_wp (n:=66) Tryz.func236 rfl rfl rfl<|WP.regs<|L.box rfl rfl fun b1=>L.assign rfl<|WL.nil<|WP.seq<|WP.regs<|L.fieldAddr (o':=1) T47.f1 rfl rfl<|L.load T3.sc rfl (Rd.own 0 rfl rfl)<|L.lss rfl rfl<|WL.nil<|WP.condD rfl (fun h11=>?_) (fun h11=>?_);refine WP.regs<|L.fieldAddr (o':=0) T47.f0 rfl rfl<|L.load T5.sc rfl (Rd.own 0 rfl rfl)<|L.move rfl<|L.eql rfl rfl<|L.assign rfl<|WL.nil<|WP.ret<|X.thenR<|X.ret rfl (Res.one rfl rfl)<|⟨_,rfl,_,⟨?_,rfl⟩,((Ent.left [_] _)).trans (Ent.of_eq ?_)⟩
  · unfold fitsD;rw[if_pos h11];by_cases e:x.state=s <;> simp[e]
  · unfold fitsD;rw[if_pos h11];by_cases e:x.state=s <;> simp[e]
  refine WP.skip<|X.thenN<|WP.seq<|WP.seq<|WP.rege [(0,true),(1,true),(2,true),(3,true),(4,true),(5,true),(6,true)] 7 rfl (by kernel_rfl) (PInv.then (PInv.then PInv.ret)) rfl ?_
  have hlt:=hx.lt (by omega)
  refine WE.take rfl (V.move rfl)<|WE.take rfl (V.fieldAddr (o':=1) T47.f1 rfl rfl)<|WE.take rfl (V.load T3.sc rfl (Rd.own 0 rfl rfl))<|WE.take rfl (V.nilCheck rfl)<|WE.take rfl (V.fieldAddr (o':=2) T283.f2 rfl rfl)<|WE.take rfl (V.indexA T280.ar rfl rfl (by omega))<|WE.take rfl (V.load T4.sc rfl (Rd.own 1 rfl (fit_has _ _ _ _ (by omega))))<|WE.nil<|X.thenN<|WP.cond rfl (fun h22=>?_) (fun h22=>?_)
  refine WP.seq<|WP.rege [(0,true),(1,true),(2,true),(3,true),(4,true),(5,true),(6,true),(7,true),(8,true),(9,true)] 10 rfl (by kernel_rfl) (PInv.then (PInv.then PInv.ret)) rfl<|WE.take rfl (V.move rfl)<|WE.take rfl (V.fieldAddr (o':=1) T47.f1 rfl rfl)<|WE.take rfl (V.load T3.sc rfl (Rd.own 0 rfl rfl))<|WE.take rfl (V.nilCheck rfl)<|WE.take rfl (V.fieldAddr (o':=66) T283.f3 rfl rfl)<|WE.take rfl (V.indexA T281.ar rfl rfl (by omega))<|WE.take rfl (V.load T5.sc rfl (Rd.own 1 rfl (fit_is _ _ _ _ (by omega))))<|WE.take rfl (V.move rfl) ?_;refine WE.take rfl (V.eql rfl rfl)<|WE.take rfl (V.assign rfl)<|WE.nil<|X.thenN<|WP.ret<|X.thenR<|X.ret rfl (Res.one rfl rfl) ?_
  obtain⟨q,hq⟩:=Option.isSome_iff_exists.1 h22
  have hf:fitsD t x s b=if q=s then some b else none:=by unfold fitsD;rw[if_neg h11,hq]
  rw[hq]
  refine⟨_,rfl,_,⟨?_,rfl⟩,((Ent.left [_] _)).trans (Ent.of_eq ?_)⟩
  · rw[hf];by_cases e:q=s <;> simp[e]
  · rw[hf];by_cases e:q=s <;> simp[e]
  refine WP.skip<|X.thenN<|WP.seq<|WP.seq<|WP.rege [(0,true),(1,true),(2,true),(3,true),(4,true),(5,true),(6,true),(7,true),(8,true),(9,true),(10,true),(11,true),(12,true),(13,true)] 14 rfl (by kernel_rfl) (PInv.then (PInv.then PInv.ret)) rfl<|WE.take rfl (V.move rfl)<|WE.take rfl (V.nilCheck rfl)<|WE.take rfl (V.fieldAddr (o':=0) T283.f0 rfl rfl)<|WE.take rfl (V.load T274.sc rfl (Rd.own 1 rfl rfl))<|WE.take rfl (V.nilCheck rfl)<|WE.take rfl (V.fieldAddr T30.f3 rfl rfl)<|WE.take rfl (V.load T27.sc rfl (Rd.of htb rfl))<|WE.take rfl (V.fieldAddr (o':=1) T47.f1 rfl rfl) ?_;refine WE.take rfl (V.load T3.sc rfl (Rd.own 0 rfl rfl)) ?_
  obtain⟨b5,o5,rfl,hc5⟩:=hvsome (by omega)
  refine WE.take rfl (V.indexS T27.sl rfl rfl (by omega))<|WE.take rfl (V.fieldAddr T93.f1 rfl rfl)<|WE.take rfl (V.load T60.sc rfl (Rd.var1 hc5 x.var.toNat (by omega))) ?_
  obtain⟨a6,cap6,hs6,hcap6,hnone6,hsome6⟩:=hvb x.var.toNat (by omega)
  have hwl:=(hw.var (i:=x.var.toNat) (by omega)).2.1
  rw[hs6]
  refine WE.take rfl (V.lenS T60.sl rfl rfl)<|WE.take rfl (V.move rfl)<|WE.nil<|X.thenN<|WP.block<|WP.loop (X:=Nat) (fun i=>⟨66,[],[(0,.pointer (some ⟨bf,0,none⟩)),(2,.int .u8 s),(4,.pointer (some ⟨b1,0,none⟩)),(43,.slice a6 (t.vars.getD x.var.toNat .no).states.length cap6),(44,.int .i64 ((t.vars.getD x.var.toNat .no).states.length:Int)),(45,.int .i64 (i:Int))]⟩) (fun i=>[cl b1 [.int .u8 x.state,.int .i64 x.var] 47,cl bf (fitC ⟨tb,0,none⟩ rp b) 283]) (fun i=>i≤(t.vars.getD x.var.toNat .no).states.length∧∀ j,j<i→(t.vars.getD x.var.toNat .no).states.getD j 0≠s) (fun i=>(t.vars.getD x.var.toNat .no).states.length-i) 0 (⟨Nat.zero_le _,fun j hj=>absurd hj (by omega)⟩) (Env.Sub.cons rfl rfl (Env.Sub.cons rfl rfl (Env.Sub.cons rfl rfl (Env.Sub.cons rfl rfl (Env.Sub.cons rfl rfl (Env.Sub.cons rfl rfl Env.Sub.nil)))))) (Ent.refl _) ?_
  rintro i ⟨hi,hall⟩
  refine WP.regs<|L.lss rfl rfl<|WL.nil<|WP.seq<|WP.condD rfl (fun h46=>?_) (fun h46=>?_);refine WP.skip<|X.thenN<|WP.seq<|WP.block<|WP.regs ?_
  obtain⟨b7,o7,rfl,hc7⟩:=hsome6 (by omega)
  refine L.indexS T60.sl rfl rfl (by omega)<|L.load T5.sc rfl (Rd.u8 hc7 i (by omega))<|L.assign rfl<|WL.nil<|WP.regs<|L.move rfl<|L.move rfl<|L.eql rfl rfl<|WL.nil<|WP.condD rfl (fun h51=>?_) (fun h51=>?_)
  refine WP.seq<|WP.regeq [cl b1 [.int .u8 x.state,.int .i64 x.var] 47] (Ent.pk [0] rfl) [(0,true),(1,true),(2,true),(3,true),(4,true),(5,true),(6,true),(7,true),(8,true),(9,true),(11,true),(12,true),(10,false),(13,true),(14,false)] 14 rfl (by kernel_rfl) (PInv.then (PInv.block (PInv.then (PInv.then (PInv.block (PInv.then PInv.ret)))))) rfl<|WE.take rfl (V.move rfl)<|WE.take rfl (V.fieldAddr (o':=1) T47.f1 rfl rfl)<|WE.take rfl (V.load T3.sc rfl (Rd.own 0 rfl rfl))<|WE.take rfl (V.move rfl)<|WE.take rfl (V.fieldAddr (o':=1) T47.f1 rfl rfl) ?_;refine WE.take rfl (V.load T3.sc rfl (Rd.own 0 rfl rfl))<|WE.take rfl (V.move rfl)<|WE.take rfl (V.nilCheck rfl)<|WE.take rfl (V.fieldAddr (o':=2) T283.f2 rfl rfl)<|WE.take rfl (V.indexA T280.ar rfl rfl (by omega))<|WE.take rfl (V.nilCheck rfl)<|WE.take rfl (V.fieldAddr (o':=66) T283.f3 rfl rfl)<|WE.one rfl<|L.store T4.sc rfl rfl rfl (Wr.own 1 rfl (by rw[fitC_len];omega)) ?_
  refine WL.nil ⟨Ent.pk [0] rfl,?_⟩;refine WE.take rfl (V.indexA T281.ar rfl rfl (by omega))<|WE.last rfl<|L.store T5.sc rfl rfl rfl (Wr.own 1 rfl (by rw[List.length_set,fitC_len];omega)) ?_;refine WL.nil<|WE.nil<|X.thenN<|WP.regs<|L.assign rfl<|WL.nil<|WP.ret<|X.blockR (X.thenR (X.thenR (X.blockR (X.thenR ?_))));refine X.ret rfl (Res.one rfl rfl) ?_
  have hn:b x.var.toNat=none:=by simpa using h22
  have hf:fitsD t x s b=some (b.upd x.var.toNat s):=by unfold fitsD;rw[if_neg h11,hn];exact if_pos ⟨i,by omega,h51⟩
  rw[hf]
  exact⟨_,rfl,_,⟨rfl,rfl⟩,((Ent.left [_] _)).trans (Ent.of_eq (by rw[fit_set _ _ _ _ _ (by omega)];rfl))⟩
  refine WP.skip<|X.blockN<|X.thenN<|WP.region<|L.add' rfl rfl (by omega)<|L.move rfl<|WL.nil<|X.thenN ⟨i+1,⟨by omega,fun j hj=>by rcases Nat.lt_or_ge j i with e | e;exact hall j e;obtain rfl:j=i:=(by omega);exact h51⟩,by omega,(Env.Sub.cons rfl rfl (Env.Sub.cons rfl rfl (Env.Sub.cons rfl rfl (Env.Sub.cons rfl rfl (Env.Sub.cons rfl rfl (Env.Sub.cons rfl rfl Env.Sub.nil)))))),(Ent.refl _)⟩;refine WP.exit<|X.thenE (X.thenE (X.blockE ?_));refine X.thenN<|WP.regs<|L.assign rfl<|WL.nil<|WP.ret<|X.ret rfl (Res.one rfl rfl) ?_
  have hn:b x.var.toNat=none:=by simpa using h22
  have hf:fitsD t x s b=none:=by unfold fitsD;rw[if_neg h11,hn];exact if_neg (fun ⟨j,hj,he⟩=>hall j (by omega) he)
  rw[hf]
  exact⟨_,rfl,_,⟨rfl,rfl⟩,((Ent.left [_] _)).trans (Ent.of_eq rfl)⟩
end
open Go.RowKit Go.Proofs
theorem T283.z:zer Pg 283=some (.pointer none::.pointer none::(List.replicate 64 (.bool false)++List.replicate 64 (.int .u8 0))):=by kernel_rfl
theorem T287.z:zer Pg 287=some (List.replicate 256 (.bool false)):=by kernel_rfl
def isTk (tk:Int) (k:Nat):Prop:=bits .and .u64 (tk/2^min ((k:Int)).toNat IntKind.u64.bits) 1=1
instance (tk:Int) (k:Nat):Decidable (isTk tk k):=by unfold isTk;infer_instance
def tkAdd (tk:Int) (k:Nat):Int:=bits .or .u64 tk (IntKind.u64.wrap (1*2^min ((k:Int)).toNat IntKind.u64.bits))
def isTried (tk:Int) (ar:List Int) (k:Nat) (s:Int):Prop:=∃ j,j<k∧(¬ isTk tk j∧ar.getD j 0=s)
instance (tk:Int) (ar:List Int) (k:Nat) (s:Int):Decidable (isTried tk ar k s):=by unfold isTried;infer_instance
def freeD (t:TableD) (r:TransD) (ar:List Int):Nat→Bind→Nat→Int→Option Int
  | 0,b,_,_=>some (saysD r b)
  | n+1,b,i,tk=>(List.range ar.length).findSome? fun k=>
    if isTk tk k∨isTried tk ar k (ar.getD k 0) then none
    else (fitsD t (r.around.getD i .no) (ar.getD k 0) b).bind fun b'=>freeD t r ar n b' (i+1) (tkAdd tk k)
def freeAt (t:TableD) (r:TransD) (ar:List Int) (n:Nat) (b:Bind) (i:Nat) (tk:Int) (k:Nat):Option Int:=
    if isTk tk k∨isTried tk ar k (ar.getD k 0) then none
    else (fitsD t (r.around.getD i .no) (ar.getD k 0) b).bind fun b'=>freeD t r ar n b' (i+1) (tkAdd tk k)
theorem freeD_succ (t:TableD) (r:TransD) (ar:List Int) (n:Nat) (b:Bind) (i:Nat) (tk:Int):freeD t r ar (n+1) b i tk=(List.range ar.length).findSome? (freeAt t r ar n b i tk):=rfl
theorem findSome_none {α:Type} {f:Nat→Option α}:∀ {n:Nat},(∀ j,j<n→f j=none)→(List.range n).findSome? f=none
  | 0,_=>rfl
  | n+1,h=>by
    rw[List.range_succ,List.findSome?_append,findSome_none fun j hj=>h j (by omega)]
    simp[h n (by omega)]
theorem findSome_some {α:Type} {f:Nat→Option α} {v:α} {k:Nat} (hk:f k=some v) (hlt:∀ j,j<k→f j=none):∀ {n:Nat},k<n→(List.range n).findSome? f=some v
  | 0,h=>absurd h (by omega)
  | n+1,h=>by
    rw[List.range_succ,List.findSome?_append]
    rcases Nat.lt_or_ge k n with h1 | h1
    · rw[findSome_some hk hlt h1];rfl
    · obtain rfl:k=n:=by omega
      rw[findSome_none hlt];simp[hk]
def triedC (tk:Int) (ar:List Int) (k:Nat):List Value:=(List.range 256).map fun s:Nat=>.bool (decide (isTried tk ar k (s:Int)))
theorem triedC_len (tk:Int) (ar:List Int) (k:Nat):(triedC tk ar k).length=256:=by simp[triedC]
theorem triedC_zero (tk:Int) (ar:List Int):triedC tk ar 0=List.replicate 256 (.bool false):=by
  unfold triedC
  have:∀ s:Nat,decide (isTried tk ar 0 (s:Int))=false:=fun s=>decide_eq_false (by rintro ⟨j,hj,_⟩;omega)
  simp only[this]
  rw[List.map_const',List.length_range]
theorem triedC_get (tk:Int) (ar:List Int) (k:Nat) (s:Int) (hs:0≤s∧s<256):(triedC tk ar k)[0+s.toNat*1]?=some (.bool (decide (isTried tk ar k s))):=by
  unfold triedC
  rw[show 0+s.toNat*1=s.toNat by omega,List.getElem?_map,List.getElem?_range (by omega)]
  simp only[Option.map_some,show ((s.toNat:Nat):Int)=s by omega]
theorem triedC_skip (tk:Int) (ar:List Int) (k:Nat) (h:isTk tk k∨isTried tk ar k (ar.getD k 0)):triedC tk ar (k+1)=triedC tk ar k:=by
  unfold triedC
  refine List.map_congr_left fun s _=>?_
  congr 1
  refine decide_eq_decide.2 ⟨?_,?_⟩
  · rintro ⟨j,hj,hn,he⟩
    rcases Nat.lt_or_ge j k with h1 | h1
    · exact⟨j,h1,hn,he⟩
    · obtain rfl:j=k:=by omega
      rcases h with h | h
      · exact absurd h hn
      · rw[he] at h;exact h
  · rintro ⟨j,hj,hn⟩
    exact⟨j,by omega,hn⟩
theorem triedC_set (tk:Int) (ar:List Int) (k:Nat) (h:¬ isTk tk k) (hs:0≤ar.getD k 0∧ar.getD k 0<256):(triedC tk ar k).set (0+(ar.getD k 0).toNat*1) (.bool true)=triedC tk ar (k+1):=by
  unfold triedC
  rw[show 0+(ar.getD k 0).toNat*1=(ar.getD k 0).toNat by omega]
  refine map_range_set ?_ fun i _ hi=>?_
  · rw[decide_eq_true (show isTried tk ar (k+1) ((ar.getD k 0).toNat:Int) from ⟨k,by omega,h,by omega⟩)]
  · congr 1
    refine decide_eq_decide.2 ⟨?_,?_⟩
    · rintro ⟨j,hj,hn⟩
      exact⟨j,by omega,hn⟩
    · rintro ⟨j,hj,hn,he⟩
      rcases Nat.lt_or_ge j k with h1 | h1
      · exact⟨j,h1,hn,he⟩
      · obtain rfl:j=k:=by omega
        omega
section
variable {k:World} {h0:Hp}
set_option maxRecDepth 10000 in
theorem table_says (t:TableD) (ht:t.Ok) (r:TransD) (hro:r.out.Ok t) (tp:Addr) (rb ro:Nat) (w:Value) (hr:CellsAt h0 rb ro (rowC r w)) (b:Bind) (bf:Nat) (hbf:At h0 bf (fitC tp ⟨rb,ro,none⟩ b) 283):FT Pg 238 [.pointer (some ⟨bf,0,none⟩)] k h0 [] (Is (.int .u8 (saysD r b))):=by
  have hnv:=ht.nv
  refine FT.of_wp (n:=33) Tryz.func238 rfl rfl rfl<|WP.regs<|L.assign rfl<|WL.nil<|WP.seq<|WP.regs<|L.move rfl<|L.nilCheck rfl<|L.fieldAddr T283.f1 rfl rfl<|L.load T275.sc rfl (Rd.of hbf rfl)<|L.nilCheck rfl<|L.fieldAddr T50.f2 rfl rfl<|L.fieldAddr T47.f1 rfl rfl<|L.load T3.sc rfl (hr.rd 4 rfl)<|L.lss rfl rfl<|WL.nil<|WP.condD rfl (fun h11=>?_) (fun h11=>?_);refine WP.regs<|L.move rfl<|L.nilCheck rfl<|L.fieldAddr T283.f1 rfl rfl<|L.load T275.sc rfl (Rd.of hbf rfl)<|L.nilCheck rfl<|L.fieldAddr T50.f2 rfl rfl<|L.fieldAddr T47.f0 rfl rfl<|L.load T5.sc rfl (hr.rd 3 rfl)<|L.assign rfl<|WL.nil<|WP.ret<|X.thenR<|X.ret rfl (Res.one rfl rfl) ?_
  show _=_
  unfold saysD;rw[if_pos h11]
  refine WP.skip<|X.thenN<|WP.seq<|WP.rege [(0,true),(1,true),(2,true),(3,true),(4,true),(5,true),(6,true),(7,true),(8,true),(9,true),(10,true),(11,true),(12,true),(13,true)] 14 rfl (by kernel_rfl) (PInv.then PInv.ret) rfl<|WE.take rfl (V.move rfl)<|WE.take rfl (V.move rfl)<|WE.take rfl (V.nilCheck rfl)<|WE.take rfl (V.fieldAddr T283.f1 rfl rfl)<|WE.take rfl (V.load T275.sc rfl (Rd.of hbf rfl))<|WE.take rfl (V.nilCheck rfl)<|WE.take rfl (V.fieldAddr T50.f2 rfl rfl)<|WE.take rfl (V.fieldAddr T47.f1 rfl rfl)<|WE.take rfl (V.load T3.sc rfl (hr.rd 4 rfl)) ?_;refine WE.take rfl (V.nilCheck rfl)<|WE.take rfl (V.fieldAddr T283.f3 rfl rfl)<|WE.take rfl (V.indexA T281.ar rfl rfl (by have:=hro.lt h11;omega)) ?_
  refine WE.take rfl (V.load T5.sc rfl (Rd.of hbf (fit_is _ _ _ _ (by have:=hro.lt h11;omega)))) ?_;refine WE.take rfl (V.assign rfl)<|WE.nil<|X.thenN<|WP.ret<|X.ret rfl (Res.one rfl rfl) ?_
  show _=_
  unfold saysD;rw[if_neg h11]
set_option maxRecDepth 10000 in
theorem table_free0 (t:TableD) (hw:t.Wd) (ht:t.Ok) (tb:Nat) (v rv:Value) (r:TransD) (hro:r.out.Ok t) (hra:∀ i,i<r.around.length→(r.around.getD i .no).Ok t) (rb ro:Nat) (w:Value) (ar:List Int) (har:ar.length=r.around.length) (hu:∀ i,i<ar.length→0≤ar.getD i 0∧ar.getD i 0<256) (arv:Value) (hl:ar.length≤8) (b:Bind) (i:Nat) (tk:Int) (hin:i=ar.length):At h0 tb (tableC t v rv) 30→VarsAt h0 v t.vars→CellsAt h0 rb ro (rowC r w)→TermsAt h0 w r.around→BytesAt h0 arv ar→FT Pg 237 [.agg (fitC ⟨tb,0,none⟩ ⟨rb,ro,none⟩ b).toArray,.int .i64 (i:Int),arv,.int .u64 tk] k h0 [] (Is (.tuple #[.int .u8 ((freeD t r ar 0 b i tk).getD 0),.bool (freeD t r ar 0 b i tk).isSome])):=by
  intro htb hv hr hrw harv
  obtain⟨aa,acap,rfl,hacap,hanone,hasome⟩:=harv
  refine FT.of_wp (n:=67) Tryz.func237 rfl rfl rfl<|WP.regs<|L.box rfl rfl fun b1=>L.assign rfl<|L.assign rfl<|WL.nil<|WP.seq<|WP.regs<|L.move rfl<|L.move rfl<|L.lenS T60.sl rfl rfl<|L.eql rfl rfl<|WL.nil<|WP.condD rfl (fun h19=>?_) (fun hF=>absurd hF (by omega));refine WP.regs<|WL.callV rfl rfl F238.fn rfl (fun g gS dj=>table_says t ht r hro ⟨tb,0,none⟩ rb ro w (hr.mono (Hp.le_un_left _ _)) b b1 (Stars.cl' 0 rfl gS dj))<|L.assign rfl<|L.assign rfl<|WL.nil<|WP.ret<|X.thenR<|X.ret rfl (Res.two rfl rfl rfl) ?_;exact rfl
set_option maxRecDepth 10000 in
theorem table_free1 (t:TableD) (hw:t.Wd) (ht:t.Ok) (tb:Nat) (v rv:Value) (r:TransD) (hro:r.out.Ok t) (hra:∀ i,i<r.around.length→(r.around.getD i .no).Ok t) (rb ro:Nat) (w:Value) (ar:List Int) (har:ar.length=r.around.length) (hu:∀ i,i<ar.length→0≤ar.getD i 0∧ar.getD i 0<256) (arv:Value) (hl:ar.length≤8) (n:Nat) (ih:∀ (b:Bind) (i:Nat) (tk:Int),i+n=ar.length→∀ (k:World) (h0:Hp),At h0 tb (tableC t v rv) 30→VarsAt h0 v t.vars→CellsAt h0 rb ro (rowC r w)→TermsAt h0 w r.around→BytesAt h0 arv ar→FT Pg 237 [.agg (fitC ⟨tb,0,none⟩ ⟨rb,ro,none⟩ b).toArray,.int .i64 (i:Int),arv,.int .u64 tk] k h0 [] (Is (.tuple #[.int .u8 ((freeD t r ar n b i tk).getD 0),.bool (freeD t r ar n b i tk).isSome]))) (b:Bind) (i:Nat) (tk:Int) (hin:i+(n+1)=ar.length):At h0 tb (tableC t v rv) 30→VarsAt h0 v t.vars→CellsAt h0 rb ro (rowC r w)→TermsAt h0 w r.around→BytesAt h0 arv ar→FT Pg 237 [.agg (fitC ⟨tb,0,none⟩ ⟨rb,ro,none⟩ b).toArray,.int .i64 (i:Int),arv,.int .u64 tk] k h0 [] (Is (.tuple #[.int .u8 ((freeD t r ar (n+1) b i tk).getD 0),.bool (freeD t r ar (n+1) b i tk).isSome])):=by
  intro htb hv hr hrw harv
  have harv0:=harv;have hrw0:=hrw
  obtain⟨aa,acap,rfl,hacap,hanone,hasome⟩:=harv
  obtain⟨wa,wcap,rfl,hwcap,hwnone,hwsome⟩:=hrw
  refine FT.of_wp (n:=67) Tryz.func237 rfl rfl rfl<|WP.regs<|L.box rfl rfl fun b1=>L.assign rfl<|L.assign rfl<|WL.nil<|WP.seq<|WP.regs<|L.move rfl<|L.move rfl<|L.lenS T60.sl rfl rfl<|L.eql rfl rfl<|WL.nil<|WP.condD rfl (fun hT=>absurd hT (by omega)) (fun h19=>?_)
  refine WP.skip<|X.thenN<|WP.regs<|L.alloc T287.z fun b2=>WL.nil<|WP.seq<|WP.regs<|L.move rfl<|L.lenS T60.sl rfl rfl<|L.move rfl<|WL.nil<|WP.block<|WP.loop (X:=Nat) (fun q=>⟨67,[],[(1,.int .i64 (i:Int)),(2,.slice aa ar.length acap),(3,.int .u64 tk),(4,.pointer (some ⟨b1,0,none⟩)),(10,.pointer (some ⟨b2,0,none⟩)),(21,.slice aa ar.length acap),(22,.int .i64 (ar.length:Int)),(23,.int .i64 (q:Int))]⟩) (fun q=>[cl b2 (triedC tk ar q) 287,cl b1 (fitC ⟨tb,0,none⟩ ⟨rb,ro,none⟩ b) 283]) (fun q=>q≤ar.length∧∀ j,j<q→freeAt t r ar n b i tk j=none) (fun q=>ar.length-q) 0 (⟨Nat.zero_le _,fun j hj=>absurd hj (by omega)⟩) (Env.Sub.cons rfl rfl (Env.Sub.cons rfl rfl (Env.Sub.cons rfl rfl (Env.Sub.cons rfl rfl (Env.Sub.cons rfl rfl (Env.Sub.cons rfl rfl (Env.Sub.cons rfl rfl (Env.Sub.cons rfl rfl Env.Sub.nil)))))))) (Ent.of_eq (by rw[triedC_zero])) ?_
  rintro q ⟨hq,hall⟩
  have stepI:freeAt t r ar n b i tk q=none→∀ j,j<q+1→freeAt t r ar n b i tk j=none:=fun h j hj=>by
   rcases Nat.lt_or_ge j q with e | e
   · exact hall j e
   · obtain rfl:j=q:=by omega
     exact h
  refine WP.regs<|L.lss rfl rfl<|WL.nil<|WP.seq<|WP.condD rfl (fun h24=>?_) (fun h24=>?_);refine WP.skip<|X.thenN<|WP.seq<|WP.block<|WP.regs<|L.move rfl ?_
  obtain⟨b7,o7,rfl,hc7⟩:=hasome (by omega)
  have huq:=hu q (by omega)
  refine L.indexS T60.sl rfl rfl (by omega)<|L.load T5.sc rfl (Rd.u8 hc7 q (by omega))<|L.assign rfl<|L.assign rfl<|WL.nil<|WP.seq<|WP.regs<|L.move rfl<|L.move rfl<|L.shr rfl rfl (by omega)<|L.and rfl rfl<|L.eqlD rfl rfl (fun h32=>?_) (fun h32=>?_);refine L.move rfl<|L.skip<|L.skip<|L.skip<|L.pickT rfl rfl<|WL.nil<|WP.condT rfl<|WP.exit<|X.thenE (X.blockE ?_)
  refine X.thenN<|WP.region<|L.add' rfl rfl (by omega)<|L.move rfl<|WL.nil<|X.thenN ⟨q+1,⟨by omega,stepI (if_pos (.inl h32))⟩,by omega,(Env.Sub.cons rfl rfl (Env.Sub.cons rfl rfl (Env.Sub.cons rfl rfl (Env.Sub.cons rfl rfl (Env.Sub.cons rfl rfl (Env.Sub.cons rfl rfl (Env.Sub.cons rfl rfl (Env.Sub.cons rfl rfl Env.Sub.nil)))))))),((Ent.refl _)).trans (Ent.of_eq (by rw[triedC_skip tk ar q (.inl h32)]))⟩;refine L.move rfl<|L.move rfl<|L.indexA T287.ar rfl rfl (by omega)<|L.load T4.sc rfl (Rd.own 0 rfl (triedC_get tk ar q _ huq))<|L.pickF rfl rfl<|WL.nil<|WP.cond rfl (fun h37=>?_) (fun h37=>?_);refine WP.exit<|X.thenE (X.blockE ?_)
  refine X.thenN<|WP.region<|L.add' rfl rfl (by omega)<|L.move rfl<|WL.nil<|X.thenN ⟨q+1,⟨by omega,stepI (if_pos (.inr (of_decide_eq_true h37)))⟩,by omega,(Env.Sub.cons rfl rfl (Env.Sub.cons rfl rfl (Env.Sub.cons rfl rfl (Env.Sub.cons rfl rfl (Env.Sub.cons rfl rfl (Env.Sub.cons rfl rfl (Env.Sub.cons rfl rfl (Env.Sub.cons rfl rfl Env.Sub.nil)))))))),((Ent.refl _)).trans (Ent.of_eq (by rw[triedC_skip tk ar q (.inr (of_decide_eq_true h37))]))⟩;refine WP.skip<|X.thenN<|WP.regs ?_
  have hskip:¬ (isTk tk q∨isTried tk ar q (ar.getD q 0)):=fun h=>h.elim h32 (of_decide_eq_false h37)
  refine L.move rfl<|L.indexA T287.ar rfl rfl (by omega)<|L.store T4.sc rfl rfl rfl (Wr.own 0 rfl (by rw[triedC_len];omega)) ?_;refine WL.nil<|WP.regs<|L.loadN T283.ag rfl (fitC_len _ _ _) (Rds.all 1 rfl)<|L.alloc T283.z fun b3=>L.storeN T283.ag rfl rfl (fitC_len _ _ _) (Wrs.all 0 rfl (by simp[fitC_len]) (fitC_one _ _ _))<|WL.nil<|WP.seq<|WP.regs<|L.fieldAddr (o':=1) T283.f1 rfl rfl<|L.load T275.sc rfl (Rd.own 2 rfl rfl)<|L.nilCheck rfl<|L.fieldAddr T50.f1 rfl rfl<|L.load T48.sc rfl (hr.rd 2 rfl)<|L.move rfl ?_
  obtain⟨b8,o8,rfl,hc8⟩:=hwsome (by omega)
  refine L.indexS T48.sl rfl rfl (by omega)<|L.loadN T47.ag rfl rfl (Rds.term hc8 i (by omega))<|L.move rfl<|WL.call rfl rfl F236.fn rfl (FT.part [cl b3 (fitC ⟨tb,0,none⟩ ⟨rb,ro,none⟩ b) 283] _ (Ent.refl _) fun g gS dj=>table_fits t hw ht tb ⟨rb,ro,none⟩ v rv (htb.mono (Hp.le_un_left _ _)) (hv.mono (Hp.le_un_left _ _)) (r.around.getD i .no) (hra i (by omega)) (ar.getD q 0) b b3) ?_;rintro _ _ ⟨_,⟨rfl,rfl⟩,rfl⟩;refine L.not rfl<|WL.nil<|WP.cond rfl (fun h51=>?_) (fun h51=>?_);refine WP.exit<|X.thenE (X.blockE ?_);refine X.thenN<|WP.region<|L.add' rfl rfl (by omega)<|L.move rfl<|WL.nil ?_
  have hfn:fitsD t (r.around.getD i .no) (ar.getD q 0) b=none:=by simpa using h51
  refine X.thenN ⟨q+1,⟨by omega,stepI (by unfold freeAt;rw[if_neg hskip,hfn];rfl)⟩,by omega,(Env.Sub.cons rfl rfl (Env.Sub.cons rfl rfl (Env.Sub.cons rfl rfl (Env.Sub.cons rfl rfl (Env.Sub.cons rfl rfl (Env.Sub.cons rfl rfl (Env.Sub.cons rfl rfl (Env.Sub.cons rfl rfl Env.Sub.nil)))))))),((Ent.left [_] _)).trans (Ent.of_eq (by rw[triedC_set tk ar q h32 (hu q (by omega))]))⟩
  obtain⟨bb,hbb⟩:=Option.isSome_iff_exists.1 (show (fitsD t (r.around.getD i .no) (ar.getD q 0) b).isSome=true by simpa using h51)
  have hat:freeAt t r ar n b i tk q=freeD t r ar n bb (i+1) (tkAdd tk q):=by unfold freeAt;rw[if_neg hskip,hbb];rfl
  rw[hbb,Option.getD_some]
  refine WP.skip<|X.thenN<|WP.seq<|WP.rege [(0,true),(1,true),(2,true),(3,true),(4,true),(5,true),(6,true),(7,true),(8,false),(9,true),(10,true),(11,true),(12,true),(13,true)] 14 rfl (by kernel_rfl) (PInv.then (PInv.block (PInv.then (PInv.then (PInv.block (PInv.then PInv.ret)))))) rfl<|WE.take rfl (V.loadN T283.ag rfl (fitC_len _ _ _) (Rds.all 0 rfl))<|WE.take rfl (V.move rfl)<|WE.take rfl (V.add' rfl rfl (by omega))<|WE.take rfl (V.move rfl)<|WE.take rfl (V.move rfl)<|WE.take rfl (V.move rfl)<|WE.take rfl (V.shl rfl rfl (by omega)) ?_;refine WE.take rfl (V.or rfl rfl)<|WE.one rfl<|WL.callV rfl rfl F237.fn rfl (fun g gS dj=>ih bb (i+1) (tkAdd tk q) (by omega) _ _ (htb.mono (Hp.le_un_left _ _)) (hv.mono (Hp.le_un_left _ _)) (hr.mono (Hp.le_un_left _ _)) (hrw0.mono (Hp.le_un_left _ _)) (harv0.mono (Hp.le_un_left _ _)))<|WL.nil ⟨Ent.refl _,?_⟩
  refine WE.take rfl (V.move rfl)<|WE.take rfl (V.extract rfl rfl)<|WE.take rfl (V.extract rfl rfl)<|WE.take rfl (V.assign rfl)<|WE.take rfl (V.assign rfl)<|WE.nil<|X.thenN<|WP.regs<|L.move rfl<|WL.nil<|WP.cond rfl (fun h64=>?_) (fun h64=>?_);refine WP.regs<|L.move rfl<|L.assign rfl<|L.assign rfl<|WL.nil<|WP.ret<|X.blockR (X.thenR (X.thenR (X.blockR (X.thenR ?_))));refine X.ret rfl (Res.two rfl rfl rfl) ?_
  obtain⟨oo,hoo⟩:=Option.isSome_iff_exists.1 h64
  show _=_
  rw[freeD_succ,findSome_some (hat.trans hoo) hall (by omega),hoo]
  rfl
  refine WP.skip<|X.blockN<|X.thenN<|WP.region<|L.add' rfl rfl (by omega)<|L.move rfl<|WL.nil<|X.thenN ⟨q+1,⟨by omega,stepI (by rw[hat];simpa using h64)⟩,by omega,(Env.Sub.cons rfl rfl (Env.Sub.cons rfl rfl (Env.Sub.cons rfl rfl (Env.Sub.cons rfl rfl (Env.Sub.cons rfl rfl (Env.Sub.cons rfl rfl (Env.Sub.cons rfl rfl (Env.Sub.cons rfl rfl Env.Sub.nil)))))))),((Ent.left [_] _)).trans (Ent.of_eq (by rw[triedC_set tk ar q h32 (hu q (by omega))]))⟩;refine WP.exit<|X.thenE (X.thenE (X.blockE ?_));refine X.thenN<|WP.regs<|L.assign rfl<|L.assign rfl<|WL.nil<|WP.ret<|X.ret rfl (Res.two rfl rfl rfl) ?_
  show _=_
  rw[freeD_succ,findSome_none fun j hj=>hall j (by omega)]
  rfl
theorem table_free (t:TableD) (hw:t.Wd) (ht:t.Ok) (tb:Nat) (v rv:Value) (r:TransD) (hro:r.out.Ok t) (hra:∀ i,i<r.around.length→(r.around.getD i .no).Ok t) (rb ro:Nat) (w:Value) (ar:List Int) (har:ar.length=r.around.length) (hu:∀ i,i<ar.length→0≤ar.getD i 0∧ar.getD i 0<256) (arv:Value) (hl:ar.length≤8):∀ (n:Nat) (b:Bind) (i:Nat) (tk:Int),i+n=ar.length→∀ (k:World) (h0:Hp),At h0 tb (tableC t v rv) 30→VarsAt h0 v t.vars→CellsAt h0 rb ro (rowC r w)→TermsAt h0 w r.around→BytesAt h0 arv ar→FT Pg 237 [.agg (fitC ⟨tb,0,none⟩ ⟨rb,ro,none⟩ b).toArray,.int .i64 (i:Int),arv,.int .u64 tk] k h0 [] (Is (.tuple #[.int .u8 ((freeD t r ar n b i tk).getD 0),.bool (freeD t r ar n b i tk).isSome]))
  | 0,b,i,tk,hin,k,h0=>table_free0 t hw ht tb v rv r hro hra rb ro w ar har hu arv hl b i tk hin
  | n+1,b,i,tk,hin,k,h0=>table_free1 t hw ht tb v rv r hro hra rb ro w ar har hu arv hl n (table_free t hw ht tb v rv r hro hra rb ro w ar har hu arv hl n) b i tk hin
end
open Go.RowKit Go.Proofs
def fitTo (t:TableD) (r:TransD) (g ar:List Int):Nat→Bind→Option Bind
  | 0,b=>some b
  | p+1,b=>(fitTo t r g ar p b).bind fun b'=>fitsD t (r.around.getD p .no) (ar.getD (g.getD p 0).toNat 0) b'
theorem fitTo_none (t:TableD) (r:TransD) (g ar:List Int) (b:Bind) (p:Nat) (h:fitTo t r g ar p b=none):∀ n,p≤n→fitTo t r g ar n b=none
  | 0,hn=>by
    obtain rfl:p=0:=(by omega)
    exact h
  | n+1,hn=>by
    rcases Nat.lt_or_ge n p with e | e
    · obtain rfl:p=n+1:=by omega
      exact h
    · show (fitTo t r g ar n b).bind _=none
      rw[fitTo_none t r g ar b p h n e];rfl
def ordAtD (t:TableD) (r:TransD) (ls:List (List Int)) (ar:List Int) (b:Bind) (j:Nat):Option Int:=(fitTo t r (ls.getD j []) ar r.around.length b).map (saysD r)
def oneD (t:TableD) (r:TransD) (ls:List (List Int)) (c:Int) (ar:List Int):Option Int:=
  match fitsD t r.centre c (fun _=>none) with
  | none=>none
  | some b=>if t.sym=6 then freeD t r ar ar.length b 0 0 else (List.range ls.length).findSome? (ordAtD t r ls ar b)
theorem Rd.slv {h0:Hp} {σ:List HP} {b o n:Nat} {f:Nat→Value} (hc:∀ i,i<n*1→cellOf (h0 b) (o+i)=some (f i)) (i:Nat) (hi:i<n):Rd h0 σ ⟨b,o+((i:Int)).toNat*1,none⟩ (f i):=
  Rd.ro (by have:=hc i (by omega);rw[show o+((i:Int)).toNat*1=o+i by omega];exact this)
section
variable {k:World} {h0:Hp}
set_option maxRecDepth 10000 in
theorem table_one (t:TableD) (hw:t.Wd) (ht:t.Ok) (tb:Nat) (v rv:Value) (htb:At h0 tb (tableC t v rv) 30) (hv:VarsAt h0 v t.vars) (r:TransD) (hok:RowOk t r) (rb ro:Nat) (w:Value) (hr:CellsAt h0 rb ro (rowC r w)) (hrw:TermsAt h0 w r.around)
    (lsv:Value) (ls:List (List Int)) (hls:OrdAt h0 lsv ls) (c:Int) (arv:Value) (ar:List Int) (harv:BytesAt h0 arv ar) (har:(ar.length:Int)=hoodSize t.hood) (hu:∀ i,i<ar.length→0≤ar.getD i 0∧ar.getD i 0<256)
    (hlo:t.sym≠6→∀ i,i<ls.length→(ls.getD i []).length=ar.length∧∀ j,j<ar.length→0≤(ls.getD i []).getD j 0∧(ls.getD i []).getD j 0<(ar.length:Int)) (hlc:ls.length≤4611686018427387904) :
    FT Pg 228 [.pointer (some ⟨tb,0,none⟩),.pointer (some ⟨rb,ro,none⟩),lsv,.int .u8 c,arv] k h0 [] (Is (.tuple #[.int .u8 ((oneD t r ls c ar).getD 0),.bool (oneD t r ls c ar).isSome])):=by
  have harv0:=harv;have hrw0:=hrw;have hsz:=hoodSize_bd t.hood
  obtain⟨hok1,hok2,hok3,hok4,hok5⟩:=hok
  obtain⟨aa,acap,rfl,hacap,hanone,hasome⟩:=harv
  obtain⟨wa,wcap,rfl,hwcap,hwnone,hwsome⟩:=hrw
  obtain⟨vs,⟨la,lcap,rfl,hlcap,hlnone,hlsome⟩,hog⟩:=hls
  refine FT.of_wp (n:=68) Tryz.func228 rfl rfl rfl<|WP.regs<|L.assign rfl<|L.assign rfl<|WL.nil<|WP.scope<|WP.regs<|L.move rfl<|L.move rfl<|L.build (cs:=fitC ⟨tb,0,none⟩ ⟨rb,ro,none⟩ (fun _=>none)) T283.b T283.z rfl rfl<|L.alloc T283.z fun b1=>L.storeN T283.ag rfl rfl (fitC_len _ _ _) (Wrs.all 0 rfl (by simp[fitC_len]) (fitC_one _ _ _))<|WL.nil<|WP.seq<|WP.regs<|L.move rfl<|L.nilCheck rfl<|L.fieldAddr T50.f0 rfl rfl<|L.loadN T47.ag rfl rfl (hr.rds 0 (vs:=[_,_]) rfl)<|L.move rfl<|WL.call rfl rfl F236.fn rfl (FT.part [cl b1 (fitC ⟨tb,0,none⟩ ⟨rb,ro,none⟩ (fun _=>none)) 283] [] (Ent.refl _) fun g gS dj=>table_fits t hw ht tb ⟨rb,ro,none⟩ v rv (htb.mono (Hp.le_un_left _ _)) (hv.mono (Hp.le_un_left _ _)) r.centre hok2 c (fun _=>none) b1) ?_;rintro _ _ ⟨_,⟨rfl,rfl⟩,rfl⟩
  refine L.not rfl<|WL.nil<|WP.cond rfl (fun h27=>?_) (fun h27=>?_);refine WP.regs<|L.assign rfl<|L.assign rfl<|WL.nil<|WP.ret<|X.thenR (X.scopeR ?_);refine X.ret rfl (Res.two rfl rfl rfl) ?_
  have hn:fitsD t r.centre c (fun _=>none)=none:=by simpa using h27
  show _=_
  unfold oneD;rw[hn];rfl
  obtain⟨bb,hbb⟩:=Option.isSome_iff_exists.1 (show (fitsD t r.centre c (fun _=>none)).isSome=true by simpa using h27)
  rw[hbb,Option.getD_some]
  have hone:oneD t r ls c ar=if t.sym=6 then freeD t r ar ar.length bb 0 0 else (List.range ls.length).findSome? (ordAtD t r ls ar bb):=by unfold oneD;rw[hbb]
  rw[hone]
  clear hone
  refine WP.skip<|X.thenN<|WP.seq<|WP.regs<|L.move rfl<|L.nilCheck rfl<|L.fieldAddr T30.f2 rfl rfl<|L.load T5.sc rfl (Rd.of htb rfl)<|L.eql rfl rfl<|WL.nil<|WP.condD rfl (fun h32=>?_) (fun h32=>?_);refine WP.regs<|L.loadN T283.ag rfl (fitC_len _ _ _) (Rds.all 0 rfl)<|L.move rfl<|WL.callV rfl rfl F237.fn rfl (fun g gS dj=>table_free t hw ht tb v rv r hok3 hok5 rb ro _ ar (by omega) hu _ (by omega) ar.length bb 0 0 (by omega) _ _ (htb.mono (Hp.le_un_left _ _)) (hv.mono (Hp.le_un_left _ _)) (hr.mono (Hp.le_un_left _ _)) (hrw0.mono (Hp.le_un_left _ _)) (harv0.mono (Hp.le_un_left _ _)))<|L.extract rfl rfl<|L.extract rfl rfl<|L.assign rfl<|L.assign rfl<|WL.nil<|WP.ret<|X.thenR (X.scopeR ?_)
  refine X.ret rfl (Res.two rfl rfl rfl) ?_
  show _=_
  rw[if_pos h32]
  rfl
  refine WP.skip<|X.thenN<|WP.seq<|WP.label<|X.thenN<|WP.seq<|WP.regs<|L.move rfl<|L.lenS T239.sl rfl rfl<|L.move rfl<|WL.nil<|WP.block<|WP.loop (X:=Nat) (fun i=>⟨68,[],[(1,.pointer (some ⟨rb,ro,none⟩)),(4,.slice aa ar.length acap),(12,.pointer (some ⟨b1,0,none⟩)),(38,.slice la ls.length lcap),(39,.int .i64 (ls.length:Int)),(40,.int .i64 (i:Int))]⟩) (fun i=>[cl b1 (fitC ⟨tb,0,none⟩ ⟨rb,ro,none⟩ bb) 283]) (fun i=>i≤ls.length∧∀ j,j<i→ordAtD t r ls ar bb j=none) (fun i=>ls.length-i) 0 (⟨Nat.zero_le _,fun j hj=>absurd hj (by omega)⟩) (Env.Sub.cons rfl rfl (Env.Sub.cons rfl rfl (Env.Sub.cons rfl rfl (Env.Sub.cons rfl rfl (Env.Sub.cons rfl rfl (Env.Sub.cons rfl rfl Env.Sub.nil)))))) (Ent.refl _) ?_
  rintro i ⟨hi,hall⟩
  have stepI:fitTo t r (ls.getD i []) ar r.around.length bb=none→∀ j,j<i+1→ordAtD t r ls ar bb j=none:=fun h j hj=>by
   rcases Nat.lt_or_ge j i with e | e
   · exact hall j e
   · obtain rfl:j=i:=by omega
     unfold ordAtD;rw[h];rfl
  refine WP.regs<|L.lss rfl rfl<|WL.nil<|WP.seq<|WP.condD rfl (fun h41=>?_) (fun h41=>?_);refine WP.skip<|X.thenN<|WP.seq<|WP.block<|WP.regs ?_
  obtain⟨lb,lo,rfl,hlb⟩:=hlsome (by omega)
  obtain⟨ga,gcap,hge,hgcap,hgnone,hgsome⟩:=hog i (by omega)
  have hrd:∀ σ,Rd h0 σ ⟨lb,lo+((i:Int)).toNat*1,none⟩ (.slice ga (ls.getD i []).length gcap):=fun σ=>by rw[← hge];exact Rd.slv hlb i (by omega)
  obtain⟨hgl,hgr⟩:=hlo h32 i (by omega)
  refine L.indexS T239.sl rfl rfl (by omega)<|L.load T56.sc rfl (hrd _)<|L.assign rfl<|WL.nil<|WP.regs<|L.loadN T283.ag rfl (fitC_len _ _ _) (Rds.all 0 rfl)<|L.alloc T283.z fun b3=>L.storeN T283.ag rfl rfl (fitC_len _ _ _) (Wrs.all 0 rfl (by simp[fitC_len]) (fitC_one _ _ _))<|WL.nil<|WP.seq<|WP.regs<|L.move rfl<|L.nilCheck rfl<|L.fieldAddr T50.f1 rfl rfl<|L.load T48.sc rfl (hr.rd 2 rfl)<|L.lenS T48.sl rfl rfl<|L.move rfl<|WL.nil<|WP.block<|WP.loop (X:=Nat × Bind) (fun x=>⟨68,[],[(1,.pointer (some ⟨rb,ro,none⟩)),(4,.slice aa ar.length acap),(12,.pointer (some ⟨b1,0,none⟩)),(14,.slice ga (ls.getD i []).length gcap),(15,.pointer (some ⟨b3,0,none⟩)),(38,.slice (some ⟨lb,lo,none⟩) ls.length lcap),(39,.int .i64 (ls.length:Int)),(40,.int .i64 (i:Int)),(48,.slice wa r.around.length wcap),(49,.int .i64 (r.around.length:Int)),(50,.int .i64 (x.1:Int))]⟩) (fun x=>[cl b3 (fitC ⟨tb,0,none⟩ ⟨rb,ro,none⟩ x.2) 283,cl b1 (fitC ⟨tb,0,none⟩ ⟨rb,ro,none⟩ bb) 283]) (fun x=>x.1≤r.around.length∧fitTo t r (ls.getD i []) ar x.1 bb=some x.2) (fun x=>r.around.length-x.1) (0,bb) (⟨Nat.zero_le _,rfl⟩) (Env.Sub.cons rfl rfl (Env.Sub.cons rfl rfl (Env.Sub.cons rfl rfl (Env.Sub.cons rfl rfl (Env.Sub.cons rfl rfl (Env.Sub.cons rfl rfl (Env.Sub.cons rfl rfl (Env.Sub.cons rfl rfl (Env.Sub.cons rfl rfl (Env.Sub.cons rfl rfl (Env.Sub.cons rfl rfl Env.Sub.nil))))))))))) (Ent.refl _) ?_
  rintro ⟨p,b'⟩ ⟨hp,hft⟩
  dsimp only at hp hft ⊢
  refine WP.regs<|L.lss rfl rfl<|WL.nil<|WP.seq<|WP.condD rfl (fun h51=>?_) (fun h51=>?_);refine WP.skip<|X.thenN<|WP.seq<|WP.block<|WP.regs ?_
  obtain⟨gb,go,rfl,hgc⟩:=hgsome (by omega)
  obtain⟨wb,wo,rfl,hwc⟩:=hwsome (by omega)
  obtain⟨b7,o7,rfl,hc7⟩:=hasome (by omega)
  have hgp:=hgr p (by omega)
  refine L.move rfl<|L.indexS T48.sl rfl rfl (by omega)<|L.loadN T47.ag rfl rfl (Rds.term hwc p (by omega))<|L.alloc T47.z fun b5=>L.assign rfl<|L.storeN T47.ag rfl rfl rfl (Wrs.all 0 rfl rfl (by simp[Value.oneCell']))<|WL.nil<|WP.seq<|WP.rege [(0,true),(1,true),(2,true),(3,true),(4,true),(5,true),(6,true),(7,true),(8,false),(9,false)] 8 rfl (by kernel_rfl) (PInv.then (PInv.block (PInv.then (PInv.then (PInv.block (PInv.then (PInv.block (PInv.then (PInv.then (PInv.block (PInv.then (PInv.scope PInv.ret)))))))))))) rfl<|WE.take rfl (V.loadN T47.ag rfl rfl (Rds.all 0 rfl)) ?_;refine WE.take rfl (V.move rfl)<|WE.take rfl (V.move rfl)<|WE.take rfl (V.move rfl)<|WE.take rfl (V.indexS T56.sl rfl rfl (by omega))<|WE.take rfl (V.load T3.sc rfl (Rd.i64j hgc _ (by omega)))<|WE.take rfl (V.indexS T60.sl rfl rfl (by rw[Int.toNat_natCast];omega)) ?_
  refine WE.take rfl (V.load T5.sc rfl (Rd.u8j hc7 _ (by rw[Int.toNat_natCast];omega))) ?_;refine WE.last rfl<|WL.call rfl rfl F236.fn rfl (FT.part [cl b3 (fitC ⟨tb,0,none⟩ ⟨rb,ro,none⟩ b') 283] [cl b5 [.int .u8 (r.around.getD p .no).state,.int .i64 (r.around.getD p .no).var] 47,cl b1 (fitC ⟨tb,0,none⟩ ⟨rb,ro,none⟩ bb) 283] (Ent.pk [1,0,0] rfl) fun g gS dj=>table_fits t hw ht tb ⟨rb,ro,none⟩ v rv (htb.mono (Hp.le_un_left _ _)) (hv.mono (Hp.le_un_left _ _)) (r.around.getD p .no) (hok5 p (by omega)) (ar.getD ((ls.getD i []).getD p 0).toNat 0) b' b3) ?_;rintro _ _ ⟨_,⟨rfl,rfl⟩,rfl⟩
  refine WL.nil<|WE.more rfl<|L.not rfl<|WL.nil<|WE.nil<|X.thenN<|WP.cond rfl (fun h64=>?_) (fun h64=>?_);refine WP.exit<|X.blockF rfl (X.thenE (X.thenE (X.blockF rfl (X.thenE (X.blockE ?_)))));refine X.thenN<|WP.region<|L.add' rfl rfl (by omega)<|L.move rfl<|WL.nil<|X.thenN ⟨i+1,⟨by omega,stepI (fitTo_none _ _ _ _ _ (p+1) (by show (fitTo t r (ls.getD i []) ar p bb).bind _=none;rw[hft];show fitsD _ _ _ _=none;simpa using h64) _ (by omega))⟩,by omega,(Env.Sub.cons rfl rfl (Env.Sub.cons rfl rfl (Env.Sub.cons rfl rfl (Env.Sub.cons rfl rfl (Env.Sub.cons rfl rfl (Env.Sub.cons rfl rfl Env.Sub.nil)))))),(Ent.left [_,_] _)⟩
  obtain⟨b'',hb''⟩:=Option.isSome_iff_exists.1 (show (fitsD t (r.around.getD p .no) (ar.getD ((ls.getD i []).getD p 0).toNat 0) b').isSome=true by simpa using h64)
  rw[hb'',Option.getD_some]
  refine WP.skip<|X.blockN<|X.thenN<|WP.region<|L.add' rfl rfl (by omega)<|L.move rfl<|WL.nil<|X.thenN ⟨(p+1,b''),⟨by dsimp only;omega,by show (fitTo t r (ls.getD i []) ar p bb).bind _=some b'';rw[hft];exact hb''⟩,by dsimp only;omega,(Env.Sub.cons rfl rfl (Env.Sub.cons rfl rfl (Env.Sub.cons rfl rfl (Env.Sub.cons rfl rfl (Env.Sub.cons rfl rfl (Env.Sub.cons rfl rfl (Env.Sub.cons rfl rfl (Env.Sub.cons rfl rfl (Env.Sub.cons rfl rfl (Env.Sub.cons rfl rfl (Env.Sub.cons rfl rfl Env.Sub.nil))))))))))),(Ent.pk [0,1] rfl)⟩;refine WP.exit<|X.thenE (X.thenE (X.blockE ?_))
  refine X.thenN<|WP.regs<|WL.callV rfl rfl F238.fn rfl (fun g gS dj=>table_says t ht r hok3 ⟨tb,0,none⟩ rb ro _ (hr.mono (Hp.le_un_left _ _)) b' b3 (Stars.cl' 0 rfl gS dj))<|L.assign rfl<|L.assign rfl<|WL.nil<|WP.ret<|X.blockR (X.thenR (X.thenR (X.blockR (X.thenR (X.scopeR ?_)))));refine X.ret rfl (Res.two rfl rfl rfl) ?_
  obtain rfl:p=r.around.length:=by omega
  show _=_
  rw[if_neg h32,findSome_some (k:=i) (v:=saysD r b') (by unfold ordAtD;rw[hft];rfl) hall (by omega)]
  rfl
  refine WP.exit<|X.thenE (X.thenE (X.blockE ?_));refine X.thenN<|WP.regs<|L.assign rfl<|L.assign rfl<|WL.nil<|WP.ret<|X.scopeR<|X.ret rfl (Res.two rfl rfl rfl) ?_
  show _=_
  rw[if_neg h32,findSome_none fun j hj=>hall j (by omega)]
  rfl
end
open Go.RowKit Go.Proofs
theorem Ent.nilordO {σ:List HP}:Ent σ (Go.Eng.ordO (.slice none 0 0) []::σ):=fun k h0 w s=>by
  obtain⟨h1,ss,dj,hh⟩:=s.own
  exact⟨s.os,s.tape,s.output,s.base,h1,⟨Hp.no,h1,OrdAt.nil _,ss,Hp.no_Dj _,(Hp.no_un _).symm⟩,dj,hh⟩
def ordsD (t:TableD):List (List Int):=if t.sym=6 then [] else groupD t.sym t.hood
theorem turn_mem (n f:Int) (p:Nat) (hn:0<n) (j:Nat) (hj:j<p):0≤(turnTo n f p).getD j 0∧(turnTo n f p).getD j 0<n:=by
  unfold turnTo
  rw[List.getD_eq_getElem?_getD,List.getElem?_map,List.getElem?_range hj]
  exact⟨Int.emod_nonneg _ (by omega),Int.emod_lt_of_pos _ hn⟩
theorem mir_mem (n f:Int) (p:Nat) (hn:0<n) (j:Nat) (hj:j<p):0≤(mirTo n f p).getD j 0∧(mirTo n f p).getD j 0<n:=by
  unfold mirTo
  rw[List.getD_eq_getElem?_getD,List.getElem?_map,List.getElem?_range hj]
  exact⟨Int.emod_nonneg _ (by omega),Int.emod_lt_of_pos _ hn⟩
theorem group_mem (mir:Bool) (st n:Int) (hn:0<n):∀ (i:Nat),∀ g∈groupTo mir st n i,g.length=n.toNat∧∀ j,j<n.toNat→0≤g.getD j 0∧g.getD j 0<n:=by
  intro i g hg
  obtain⟨f,_,hf⟩:=List.mem_flatMap.1 hg
  have h1:∀ g,g=turnTo n f n.toNat∨g=mirTo n f n.toNat→g.length=n.toNat∧∀ j,j<n.toNat→0≤g.getD j 0∧g.getD j 0<n:=by
   rintro g (rfl | rfl)
   · exact⟨turnTo_len _ _ _,turn_mem n f _ hn⟩
   · exact⟨mirTo_len _ _ _,mir_mem n f _ hn⟩
  unfold pairOf at hf
  split at hf
  · simp at hf
  · split at hf
    · simp only[List.mem_cons,List.not_mem_nil,or_false] at hf
      exact h1 g hf
    · split at hf
      · simp only[List.mem_cons,List.not_mem_nil,or_false] at hf
        exact h1 g hf.symm
      · simp only[List.mem_cons,List.not_mem_nil,or_false] at hf
        exact h1 g (.inl hf)
theorem group_len (mir:Bool) (st n:Int):∀ i,(groupTo mir st n i).length≤2*i
  | 0=>by simp[groupTo]
  | i+1=>by
    rw[groupTo_succ,List.length_append]
    have:=group_len mir st n i
    have h2:(pairOf mir st n (i:Int)).length≤2:=by
     unfold pairOf
     split
     · simp
     · split
       · simp
       · split <;> simp
    omega
theorem ordsD_ok (t:TableD) (ht:t.Ok) (n:Nat) (hn:(n:Int)=hoodSize t.hood):(t.sym≠6→∀ i,i<(ordsD t).length→((ordsD t).getD i []).length=n∧∀ j,j<n→0≤((ordsD t).getD i []).getD j 0∧((ordsD t).getD i []).getD j 0<(n:Int))∧(ordsD t).length≤16:=by
  have hc:=hoodSize_cases t.hood ht.sym.2.1
  refine⟨fun h6 i hi=>?_,?_⟩
  · have hm:(ordsD t).getD i []∈ordsD t:=getD_mem hi
    rw[show ordsD t=groupD t.sym t.hood from if_neg h6] at hm ⊢
    have:=group_mem _ _ _ (by omega) _ _ hm
    rw[show (hoodSize t.hood).toNat=n by omega,← hn] at this
    exact this
  · unfold ordsD
    split
    · simp
    · have:=group_len (turnsD t.sym t.hood (hoodSize t.hood)).2 (turnsD t.sym t.hood (hoodSize t.hood)).1 (hoodSize t.hood) (hoodSize t.hood).toNat
      unfold groupD
      omega
def nextD (t:TableD) (c:Int) (ar:List Int):Int:=((List.range t.rows.length).findSome? fun i=>oneD t (t.rows.getD i .no) (ordsD t) c ar).getD c
section
variable {k:World} {h0:Hp}
set_option maxRecDepth 10000 in
theorem table_orders (t:TableD) (ht:t.Ok) (v r:Value):FT Pg 227 [.agg (tableC t v r).toArray] k h0 [] (Ret fun u τ=>τ=[ordO u (ordsD t)]):=by
  refine FT.tight<|FT.of_wp (n:=17) Tryz.func227 rfl rfl rfl<|WP.regs<|L.box rfl rfl fun b1=>L.assign rfl<|WL.nil<|WP.seq<|WP.regs<|L.fieldAddr (o':=2) T30.f2 rfl rfl<|L.load T5.sc rfl (Rd.own 0 rfl rfl)<|L.eql rfl rfl<|WL.nil<|WP.condD rfl (fun h7=>?_) (fun h7=>?_);refine WP.regs<|L.assign rfl<|WL.nil<|WP.ret<|X.thenR<|X.ret rfl (Res.one rfl rfl) ?_;exact⟨_,rfl,_,rfl,(Ent.pk [] rfl).trans (Ent.nilordO.trans (Ent.of_eq (by unfold ordsD;rw[if_pos h7])))⟩;refine WP.skip<|X.thenN<|WP.regs<|L.fieldAddr (o':=2) T30.f2 rfl rfl<|L.load T5.sc rfl (Rd.own 0 rfl rfl)<|L.fieldAddr (o':=1) T30.f1 rfl rfl<|L.load T5.sc rfl (Rd.own 0 rfl rfl) ?_
  rcases hmir:turnsD t.sym t.hood (hoodSize t.hood) with ⟨st,mir⟩
  refine WL.call rfl rfl F235.fn rfl (FT.make (R:=fun v τ=>∃ u:Value,v=.tuple #[u,.int .i64 0]∧τ=[ordO u (groupD t.sym t.hood)]) fun g gS dj=>by
   cases mir with
   | true=>exact table_Group_true t.sym t.hood _ st ht.sym h7 rfl hmir
   | false=>exact table_Group_false t.sym t.hood _ st ht.sym h7 rfl hmir) ?_;rintro _ _ ⟨_,⟨u,rfl,rfl⟩,rfl⟩
  refine L.move rfl<|L.extract rfl rfl<|L.extract rfl rfl<|L.assign rfl<|L.assign rfl<|WL.nil<|WP.regs<|L.move rfl<|L.assign rfl<|WL.nil<|WP.ret<|X.ret rfl (Res.one rfl rfl) ?_;exact⟨_,rfl,_,rfl,((Ent.pk [0] rfl)).trans (Ent.of_eq (by show _=[ordO u (ordsD t)];unfold ordsD;rw[if_neg h7]))⟩
set_option maxRecDepth 10000 in
theorem table_asked (t:TableD) (hw:t.Wd) (ht:t.Ok) (v r:Value) (hta:TabAt h0 t v r) (c:Int) (hc:0≤c∧c<t.states) (arv:Value) (ar:List Int) (harv:BytesAt h0 arv ar) (har:(ar.length:Int)=hoodSize t.hood) (hu:∀ i,i<ar.length→0≤ar.getD i 0∧ar.getD i 0<t.states):FT Pg 226 [.agg (tableC t v r).toArray,.bool true,.int .u8 c,arv] k h0 [] (Is (.int .i64 0)):=by
  obtain⟨aa,acap,rfl,hacap,hanone,hasome⟩:=harv
  have hst:=ht.st;have hsz:=hoodSize_bd t.hood
  refine FT.of_wp (n:=50) Tryz.func226 rfl rfl rfl<|WP.regs<|L.box rfl rfl fun b1=>L.assign rfl<|WL.nil<|WP.seq<|WP.regs<|L.loadN T30.ag rfl rfl (Rds.all 0 rfl)<|WL.call rfl rfl F217.fn rfl (FT.pureR fun g gS dj=>table_Check t hw v r (hta.mono (Hp.le_un_left _ _))) ?_;rintro _ _ ⟨⟨e,rfl,he⟩,rfl⟩
  obtain rfl:=he.2 ht
  refine L.assign rfl<|WL.nil<|WP.regs<|L.move rfl<|L.neq rfl rfl<|WL.nil<|WP.condD rfl (fun hT=>absurd hT (by omega)) (fun h17=>?_);refine WP.skip<|X.thenN<|WP.regs<|L.fieldAddr (o':=1) T30.f1 rfl rfl<|L.load T5.sc rfl (Rd.own 0 rfl rfl)<|WL.callV rfl rfl F143.fn rfl (fun g gS dj=>hood_Size t.hood)<|L.move rfl<|L.extract rfl rfl<|L.extract rfl rfl<|L.assign rfl<|L.assign rfl<|WL.nil<|WP.seq<|WP.regs<|L.move rfl<|L.not rfl<|L.move rfl<|L.move rfl<|L.lenS T60.sl rfl rfl<|L.move rfl<|L.neq rfl rfl<|L.pickF rfl rfl<|WL.nil<|WP.condD rfl (fun hT=>absurd hT (by omega)) (fun h32=>?_)
  refine WP.skip<|X.thenN<|WP.seq<|WP.regs<|L.move rfl<|L.convInt T5.u T3.u rfl<|L.fieldAddr (o':=0) T30.f0 rfl rfl<|L.load T3.sc rfl (Rd.own 0 rfl rfl)<|L.geq rfl rfl<|WL.nil<|WP.condD rfl (fun hT=>absurd hT (by rw[wrap_i64 (by omega)];omega)) (fun h37=>?_)
  refine WP.skip<|X.thenN<|WP.seq<|WP.regs<|L.move rfl<|L.lenS T60.sl rfl rfl<|L.move rfl<|WL.nil<|WP.block<|WP.loop (X:=Nat) (fun i=>⟨50,[],[(4,.pointer (some ⟨b1,0,none⟩)),(38,.slice aa ar.length acap),(39,.int .i64 (ar.length:Int)),(40,.int .i64 (i:Int))]⟩) (fun i=>[cl b1 (tableC t v r) 30]) (fun i=>i≤ar.length) (fun i=>ar.length-i) 0 (Nat.zero_le _) (Env.Sub.cons rfl rfl (Env.Sub.cons rfl rfl (Env.Sub.cons rfl rfl (Env.Sub.cons rfl rfl Env.Sub.nil)))) ((Ent.refl _)) ?_
  rintro i hi
  refine WP.regs<|L.lss rfl rfl<|WL.nil<|WP.seq<|WP.condD rfl (fun h41=>?_) (fun h41=>?_);refine WP.skip<|X.thenN<|WP.seq<|WP.block<|WP.regs ?_
  obtain⟨b7,o7,rfl,hc7⟩:=hasome (by omega)
  have hui:=hu i (by omega)
  refine L.indexS T60.sl rfl rfl (by omega)<|L.load T5.sc rfl (Rd.u8 hc7 i (by omega))<|L.assign rfl<|WL.nil<|WP.regs<|L.move rfl<|L.convInt T5.u T3.u rfl<|L.fieldAddr (o':=0) T30.f0 rfl rfl<|L.load T3.sc rfl (Rd.own 0 rfl rfl)<|L.geq rfl rfl<|WL.nil<|WP.condD rfl (fun hT=>absurd hT (by rw[wrap_i64 (by omega)];omega)) (fun h48=>?_);refine WP.skip<|X.blockN<|X.thenN<|WP.region<|L.add' rfl rfl (by omega)<|L.move rfl<|WL.nil<|X.thenN ⟨i+1,by omega,by omega,(Env.Sub.cons rfl rfl (Env.Sub.cons rfl rfl (Env.Sub.cons rfl rfl (Env.Sub.cons rfl rfl Env.Sub.nil)))),(Ent.refl _)⟩;refine WP.exit<|X.thenE (X.thenE (X.blockE ?_))
  refine X.thenN<|WP.regs<|L.assign rfl<|WL.nil<|WP.ret<|X.ret rfl (Res.one rfl rfl) ?_;exact rfl
set_option maxRecDepth 10000 in
theorem table_Next (t:TableD) (hw:t.Wd) (ht:t.Ok) (v r:Value) (hta:TabAt h0 t v r) (c:Int) (hc:0≤c∧c<t.states) (arv:Value) (ar:List Int) (harv:BytesAt h0 arv ar) (har:(ar.length:Int)=hoodSize t.hood) (hu:∀ i,i<ar.length→0≤ar.getD i 0∧ar.getD i 0<t.states):FT Pg 218 [.agg (tableC t v r).toArray,.int .u8 c,arv] k h0 [] (Is (.tuple #[.int .u8 (nextD t c ar),.int .i64 0])):=by
  have hta0:=hta;have hst:=ht.st;have hsz:=hoodSize_bd t.hood;have hnr:=ht.nr
  obtain⟨hva,⟨rs,⟨ra,rcap,rfl,hrcap,hrnone,hrsome⟩,hrt⟩⟩:=hta
  refine FT.of_wp (n:=43) Tryz.func218 rfl rfl rfl<|WP.regs<|L.box rfl rfl fun b1=>L.assign rfl<|L.assign rfl<|WL.nil<|WP.seq<|WP.regs<|L.loadN T30.ag rfl rfl (Rds.all 0 rfl)<|L.move rfl<|L.move rfl<|WL.callV rfl rfl F226.fn rfl (fun g gS dj=>table_asked t hw ht v _ (hta0.mono (Hp.le_un_left _ _)) c hc arv ar (harv.mono (Hp.le_un_left _ _)) har hu)<|L.assign rfl<|WL.nil<|WP.regs<|L.move rfl<|L.neq rfl rfl<|WL.nil<|WP.condD rfl (fun hT=>absurd hT (by omega)) (fun h18=>?_);refine WP.skip<|X.thenN<|WP.regs<|L.loadN T30.ag rfl rfl (Rds.all 0 rfl)<|WL.call rfl rfl F227.fn rfl (FT.make fun g gS dj=>table_orders t ht v _) ?_;rintro u _ ⟨_,rfl,rfl⟩
  refine L.assign rfl<|WL.nil<|WP.seq<|WP.regs<|L.fieldAddr (o':=4) T30.f4 rfl rfl<|L.load T28.sc rfl (Rd.own 1 rfl rfl)<|L.lenS T28.sl rfl rfl<|L.move rfl<|WL.nil<|WP.block<|WP.loop (X:=Nat) (fun i=>⟨43,[],[(1,.int .u8 c),(2,arv),(3,.pointer (some ⟨b1,0,none⟩)),(9,u),(24,.int .i64 (t.rows.length:Int)),(25,.int .i64 (i:Int))]⟩) (fun i=>[ordO u (ordsD t),cl b1 (tableC t v (.slice ra t.rows.length rcap)) 30]) (fun i=>i≤t.rows.length∧∀ j,j<i→oneD t (t.rows.getD j .no) (ordsD t) c ar=none) (fun i=>t.rows.length-i) 0 (⟨Nat.zero_le _,fun j hj=>absurd hj (by omega)⟩) (Env.Sub.cons rfl rfl (Env.Sub.cons rfl rfl (Env.Sub.cons rfl rfl (Env.Sub.cons rfl rfl (Env.Sub.cons rfl rfl (Env.Sub.cons rfl rfl Env.Sub.nil)))))) ((Ent.refl _)) ?_
  rintro i ⟨hi,hall⟩
  refine WP.regs<|L.lss rfl rfl<|WL.nil<|WP.seq<|WP.condD rfl (fun h26=>?_) (fun h26=>?_);refine WP.skip<|X.thenN<|WP.seq<|WP.block<|WP.regs<|L.move rfl<|L.assign rfl<|WL.nil<|WP.regs ?_
  obtain⟨b7,o7,rfl,hc7⟩:=hrsome (by omega)
  have hro:CellsAt h0 b7 (o7+i*5) (rowC (t.rows.getD i .no) (rs i)):=SlAt.cells hc7 (i*5) _ (by simp;omega) fun j hj=>rowF_get rs t.rows i j (by simpa using hj)
  have hoo:=ordsD_ok t ht ar.length har
  refine L.fieldAddr (o':=4) T30.f4 rfl rfl<|L.load T28.sc rfl (Rd.own 1 rfl rfl)<|L.move rfl<|L.indexS T28.sl rfl rfl (by omega)<|L.move rfl<|L.move rfl<|L.move rfl<|WL.callV rfl rfl F228.fn rfl (fun g gS dj=>table_one t hw ht b1 v _ (Stars.cl' 1 rfl gS dj) (hva.mono (Hp.le_un_left _ _)) (t.rows.getD i .no) (ht.rows i (by omega)) b7 (o7+i*5) (rs i) (hro.mono (Hp.le_un_left _ _)) ((hrt i (by omega)).mono (Hp.le_un_left _ _)) u (ordsD t) (by obtain⟨a,ha,hle⟩:=In.of_stars' (p:=ordO u (ordsD t)) 0 rfl gS dj;exact OrdAt.mono ha hle) c arv ar (harv.mono (Hp.le_un_left _ _)) har (fun j hj=>by have:=hu j hj;omega) hoo.1 (by omega)) ?_
  refine L.move rfl<|L.extract rfl rfl<|L.extract rfl rfl<|L.assign rfl<|L.assign rfl<|WL.nil<|WP.regs<|L.move rfl<|WL.nil<|WP.cond rfl (fun h39=>?_) (fun h39=>?_);refine WP.regs<|L.move rfl<|L.assign rfl<|L.assign rfl<|WL.nil<|WP.ret<|X.blockR (X.thenR (X.thenR (X.blockR (X.thenR ?_))));refine X.ret rfl (Res.two rfl rfl rfl) ?_
  obtain⟨oo,hoo⟩:=Option.isSome_iff_exists.1 h39
  show _=_
  unfold nextD
  rw[findSome_some hoo hall (by omega),hoo]
  rfl
  refine WP.skip<|X.blockN<|X.thenN<|WP.region<|L.add' rfl rfl (by omega)<|L.move rfl<|WL.nil<|X.thenN ⟨i+1,⟨by omega,fun j hj=>by rcases Nat.lt_or_ge j i with e | e;exact hall j e;obtain rfl:j=i:=(by omega);simpa using h39⟩,by omega,(Env.Sub.cons rfl rfl (Env.Sub.cons rfl rfl (Env.Sub.cons rfl rfl (Env.Sub.cons rfl rfl (Env.Sub.cons rfl rfl (Env.Sub.cons rfl rfl Env.Sub.nil)))))),(Ent.refl _)⟩;refine WP.exit<|X.thenE (X.thenE (X.blockE ?_));refine X.thenN<|WP.regs<|L.move rfl<|L.assign rfl<|L.assign rfl<|WL.nil<|WP.ret<|X.ret rfl (Res.two rfl rfl rfl) ?_
  show _=_
  unfold nextD
  rw[findSome_none fun j hj=>hall j (by omega)]
  rfl
end
end Go.Eng
