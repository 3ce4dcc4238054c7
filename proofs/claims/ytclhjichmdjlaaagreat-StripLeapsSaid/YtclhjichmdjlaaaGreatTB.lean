/- Walks of the functions of the seat over those rules, and plain laws of what they compute. No conditions beyond those in each theorem. -/
import Derived.Test.YtclhjichmdjlaaaGreatSY
import Derived.Test.YtclhjichmdjlaaaGreatSZ
set_option linter.unusedSimpArgs false
set_option linter.unusedVariables false
namespace Go.Eng
open Go.RowKit Go.Proofs
def rowsB (v1:Value) (l1:List ByteArray) (v2:Value) (l2:List ByteArray):HP:=fun h=>BtsAt h v1 l1∧BtsAt h v2 l2
theorem Ent.rowsB0 {σ:List HP} {v:Value} {l:List ByteArray}:Ent (Go.Eng.rowsP v l::σ) (Go.Eng.rowsB v l v l::σ):=Ent.imp fun _ h=>⟨h,h⟩
theorem Ent.rowsB1 {σ:List HP} {v v2:Value} {l l2:List ByteArray}:Ent (Go.Eng.rowsB v l v2 l2::σ) (Go.Eng.rowsP v l::σ):=Ent.imp fun _ h=>h.1
theorem Ent.rowsBm {σ:List HP} {v v1 v2:Value} {l l1 l2:List ByteArray}:Ent (Go.Eng.rowsP v l::Go.Eng.rowsB v1 l1 v2 l2::σ) (Go.Eng.rowsB v1 l1 v l::σ):=
  Ent.merge fun a b ha hb dj=>⟨BtsAt.mono hb.1 (Hp.le_un_right dj),BtsAt.mono ha (Hp.le_un_left _ _)⟩
theorem Ent.front (X Y Z:List HP):Ent (X++Y++Z) (Y++(X++Z)):=(Ent.appR (Ent.perm List.perm_append_comm)).trans (Ent.of_eq (List.append_assoc _ _ _))
theorem Ent.mid {X X' Y Z:List HP} (hx:Ent X X'):Ent (X++Y++Z) (X'++Y++Z):=Ent.appR (Ent.appR hx)
theorem Ent.mid2 {P Y Q Z V:List HP} (h:Ent Q V):Ent (P++Y++(Q++Z)) (V++Y++Z):=by
  have h1:Ent (P++Y++(Q++Z)) (Y++(Q++Z)):=by rw[List.append_assoc];exact Ent.left _ _
  have h2:Ent (Y++(Q++Z)) (Q++Y++Z):=by rw[← List.append_assoc];exact Ent.appR (Ent.perm List.perm_append_comm)
  exact (h1.trans h2).trans (Ent.mid h)
theorem In.rowsB {h:Hp} {v1 v2:Value} {l1 l2:List ByteArray} (i:In (Go.Eng.rowsB v1 l1 v2 l2) h):BtsAt h v1 l1∧BtsAt h v2 l2:=by
  obtain⟨a,x,l⟩:=i;exact⟨BtsAt.mono x.1 l,BtsAt.mono x.2 l⟩
section
variable {k:World} {h0:Hp}
set_option maxRecDepth 10000 in
set_option maxHeartbeats 16000000 in
theorem law_StripLeaps (r:RuleD) (hw:r.Wd) (v w:Value) (hta:TabAt h0 r.table v w) (t:TopoD) (hwt:t.Wd) (W at0:Int) (rv:Value) (ls:List ByteArray) (hbt:BtsAt h0 rv ls) (hln:ls.length≤4611686018427387904) (hsz:∀ i,i<ls.length→(ls.getD i ByteArray.empty).size≤4611686018427387904) (q m:Int) (hqI:I64 q) (hmI:I64 m):FT Pg 6 [.agg (ruleC r v w).toArray,.agg (topoC t).toArray,.agg #[.int .i64 W,.int .i64 at0,rv],.int .i64 q,.int .i64 m] k h0 [] (Is (.bool true)):=by
  unfold I64 at hqI hmI
  obtain⟨ra,rcap,rfl⟩:=hbt.shape
  refine FT.of_wp (n:=212) Tryz.func6 rfl rfl rfl<|WP.regs<|L.box rfl rfl fun b5=>L.box rfl rfl fun b6=>L.box rfl rfl fun b7=>L.assign rfl<|WL.nil<|WP.regs<|WL.callV rfl rfl F8.fn rfl (fun g gS dj=>law_awake)<|L.assign rfl<|WL.nil<|WP.seq<|WP.regs<|L.loadN T32.ag rfl rfl (Rds.all 2 rfl)<|L.loadN T34.ag rfl rfl (Rds.all 1 rfl)<|WL.call rfl rfl F15.fn rfl (FT.pureR fun g gS dj=>window_Check r hw v w (hta.mono (Hp.le_un_left _ _)) t hwt) ?_;rintro _ _ ⟨⟨e,rfl,he⟩,rfl⟩;refine L.neqD rfl rfl (fun h31=>?_) (fun h31=>?_)
  ·
   refine L.move rfl<|L.skip<|L.skip<|L.skip<|L.pickT rfl rfl<|L.move rfl<|L.skip<|L.skip<|L.skip<|L.skip<|L.pickT rfl rfl<|L.move rfl<|L.skip<|L.skip<|L.pickT rfl rfl<|L.move rfl<|L.skip<|L.skip<|L.pickT rfl rfl<|L.move rfl<|L.skip<|L.skip<|L.pickT rfl rfl<|L.move rfl<|L.skip<|L.skip<|L.pickT rfl rfl<|WL.nil<|WP.condT rfl<|WP.regs<|L.move rfl<|L.assign rfl<|WL.nil<|WP.ret<|X.thenR<|X.ret rfl (Res.one rfl rfl) ?_
   first
    | exact rfl
    | (show _=_
       rw[decide_eq_true (by omega)])
  ·
   refine L.move rfl ?_
   have hwo:WOk r t:=he.1 (by omega)
   have hto:=hwo.2.1
   unfold TopoD.Ok at hto
   refine L.fieldAddr (o':=1) T34.f1 rfl rfl<|L.load T3.sc rfl (Rd.own 1 rfl rfl)<|L.gtrD rfl rfl (fun h35=>?_) (fun h35=>?_)
   ·
    refine L.pickF rfl rfl<|L.move rfl<|L.skip<|L.skip<|L.skip<|L.skip<|L.pickT rfl rfl<|L.move rfl<|L.skip<|L.skip<|L.pickT rfl rfl<|L.move rfl<|L.skip<|L.skip<|L.pickT rfl rfl<|L.move rfl<|L.skip<|L.skip<|L.pickT rfl rfl<|L.move rfl<|L.skip<|L.skip<|L.pickT rfl rfl<|WL.nil<|WP.condT rfl<|WP.regs<|L.move rfl<|L.assign rfl<|WL.nil<|WP.ret<|X.thenR<|X.ret rfl (Res.one rfl rfl) ?_
    first
     | exact rfl
     | (show _=_
        rw[decide_eq_true (by omega)])
   ·
    refine L.pickF rfl rfl<|L.move rfl<|L.fieldAddr (o':=2) T63.f2 rfl rfl<|L.load T61.sc rfl (Rd.own 0 rfl rfl)<|L.lenS T61.sl rfl rfl<|L.gtrD rfl rfl (fun h41=>?_) (fun h41=>?_)
    ·
     refine L.pickF rfl rfl<|L.move rfl<|L.skip<|L.skip<|L.pickT rfl rfl<|L.move rfl<|L.skip<|L.skip<|L.pickT rfl rfl<|L.move rfl<|L.skip<|L.skip<|L.pickT rfl rfl<|L.move rfl<|L.skip<|L.skip<|L.pickT rfl rfl<|WL.nil<|WP.condT rfl<|WP.regs<|L.move rfl<|L.assign rfl<|WL.nil<|WP.ret<|X.thenR<|X.ret rfl (Res.one rfl rfl) ?_
     first
      | exact rfl
      | (show _=_
         rw[decide_eq_true (by omega)])
    ·
     refine L.pickF rfl rfl<|L.move rfl<|L.move rfl<|L.lssD rfl rfl (fun h45=>?_) (fun h45=>?_)
     ·
      refine L.pickF rfl rfl<|L.move rfl<|L.skip<|L.skip<|L.pickT rfl rfl<|L.move rfl<|L.skip<|L.skip<|L.pickT rfl rfl<|L.move rfl<|L.skip<|L.skip<|L.pickT rfl rfl<|WL.nil<|WP.condT rfl<|WP.regs<|L.move rfl<|L.assign rfl<|WL.nil<|WP.ret<|X.thenR<|X.ret rfl (Res.one rfl rfl) ?_
      first
       | exact rfl
       | (show _=_
          rw[decide_eq_true (by omega)])
     ·
      refine L.pickF rfl rfl<|L.move rfl<|L.move rfl<|L.gtrD rfl rfl (fun h49=>?_) (fun h49=>?_)
      ·
       refine L.pickF rfl rfl<|L.move rfl<|L.skip<|L.skip<|L.pickT rfl rfl<|L.move rfl<|L.skip<|L.skip<|L.pickT rfl rfl<|WL.nil<|WP.condT rfl<|WP.regs<|L.move rfl<|L.assign rfl<|WL.nil<|WP.ret<|X.thenR<|X.ret rfl (Res.one rfl rfl) ?_
       first
        | exact rfl
        | (show _=_
           rw[decide_eq_true (by omega)])
      ·
       refine L.pickF rfl rfl<|L.move rfl<|L.move rfl<|L.lssD rfl rfl (fun h53=>?_) (fun h53=>?_)
       ·
        refine L.pickF rfl rfl<|L.move rfl<|L.skip<|L.skip<|L.pickT rfl rfl<|WL.nil<|WP.condT rfl<|WP.regs<|L.move rfl<|L.assign rfl<|WL.nil<|WP.ret<|X.thenR<|X.ret rfl (Res.one rfl rfl) ?_
        first
         | exact rfl
         | (show _=_
            rw[decide_eq_true (by omega)])
       ·
        refine L.pickF rfl rfl<|L.move rfl<|L.move rfl<|L.gtr rfl rfl<|L.pickF rfl rfl<|WL.nil<|WP.condD rfl (fun h58=>?_) (fun h58=>?_)
        ·
         refine WP.regs<|L.move rfl<|L.assign rfl<|WL.nil<|WP.ret<|X.thenR<|X.ret rfl (Res.one rfl rfl) ?_
         first
          | exact rfl
          | (show _=_
             rw[decide_eq_true (by omega)])
        ·
         obtain⟨qq,rfl⟩:∃ z:Nat,q=(z:Int):=⟨q.toNat,by omega⟩
         obtain⟨mm,rfl⟩:∃ z:Nat,m=(z:Int):=⟨m.toNat,by omega⟩
         refine WP.skip<|X.thenN<|WP.regs<|L.loadN T32.ag rfl rfl (Rds.all 2 rfl)<|L.loadN T34.ag rfl rfl (Rds.all 1 rfl)<|L.loadN T63.ag rfl rfl (Rds.all 0 rfl)<|WL.call rfl rfl F24.fn rfl (FT.make fun g gS dj=>window_TrimG r hw v w (hta.mono (Hp.le_un_left _ _)) t hwt hwo W _ ls (hbt.mono (Hp.le_un_left _ _)) (by omega) hsz at0) ?_;rintro _ _ ⟨_,⟨cv,rfl,rfl,hcn⟩,rfl⟩;refine WL.fact (fun _ _ _ s=>St.rowsP_shape 0 rfl s) ?_;rintro ⟨ca,cc,rfl⟩
         have hte:=trimR_err r t W at0 ls
         generalize htr:trimR r t W at0 ls=te at *
         refine L.move rfl<|L.extract rfl rfl<|L.extract rfl rfl<|L.alloc T63.z fun b12=>L.storeN T63.ag rfl rfl rfl (Wrs.all 0 rfl rfl (by simp[Value.oneCell']))<|L.assign rfl<|WL.nil<|WP.seq<|WP.regs<|L.move rfl<|L.neqD rfl rfl (fun h68=>?_) (fun h68=>?_)
         ·
          refine L.move rfl<|L.skip<|L.skip<|L.skip<|L.skip<|L.pickT rfl rfl<|L.move rfl<|L.skip<|L.skip<|L.skip<|L.pickT rfl rfl<|L.move rfl<|L.skip<|L.skip<|L.skip<|L.pickT rfl rfl<|WL.nil<|WP.condT rfl<|WP.regs<|L.move rfl<|L.assign rfl<|WL.nil<|WP.ret<|X.thenR<|X.ret rfl (Res.one rfl rfl) ?_
          first
           | exact rfl
           | (show _=_
              rw[decide_eq_true (by omega)])
         ·
          refine L.move rfl ?_
          have hm0:mayE r t W at0 ls=0:=by rw[← hte];exact Decidable.not_not.1 h68
          rw[trimR_0 hm0] at htr
          subst htr
          dsimp only
          obtain⟨_,hro,_⟩:=mayE_0 hm0
          have htx:Trm t (trimB at0 ls):=trm_trim at0 ls
          have hxo:=trimB_ok at0 hro
          have hxl:=trimB_len at0 ls
          generalize trimB at0 ls=bb at *
          refine L.fieldAddr (o':=2) T63.f2 rfl rfl<|L.load T61.sc rfl (Rd.own 0 rfl rfl)<|L.lenS T61.sl rfl rfl<|L.eqlD rfl rfl (fun h73=>?_) (fun h73=>?_)
          ·
           refine L.pickF rfl rfl<|L.move rfl<|L.skip<|L.skip<|L.skip<|L.pickT rfl rfl<|L.move rfl<|L.skip<|L.skip<|L.skip<|L.pickT rfl rfl<|WL.nil<|WP.condT rfl<|WP.regs<|L.move rfl<|L.assign rfl<|WL.nil<|WP.ret<|X.thenR<|X.ret rfl (Res.one rfl rfl) ?_
           first
            | exact rfl
            | (show _=_
               rw[decide_eq_true (by omega)])
          ·
           refine L.pickF rfl rfl<|L.move rfl<|L.fieldAddr (o':=1) T63.f1 rfl rfl<|L.load T3.sc rfl (Rd.own 0 rfl rfl)<|L.gtrD rfl rfl (fun h78=>?_) (fun h78=>?_)
           ·
            refine L.pickF rfl rfl<|L.move rfl<|L.skip<|L.skip<|L.skip<|L.pickT rfl rfl<|WL.nil<|WP.condT rfl<|WP.regs<|L.move rfl<|L.assign rfl<|WL.nil<|WP.ret<|X.thenR<|X.ret rfl (Res.one rfl rfl) ?_
            first
             | exact rfl
             | (show _=_
                rw[decide_eq_true (by omega)])
           ·
            refine L.pickF rfl rfl<|L.move rfl<|L.fieldAddr (o':=1) T63.f1 rfl rfl<|L.load T3.sc rfl (Rd.own 0 rfl rfl)<|L.lss rfl rfl<|L.pickF rfl rfl<|WL.nil<|WP.condD rfl (fun h84=>?_) (fun h84=>?_)
            ·
             refine WP.regs<|L.move rfl<|L.assign rfl<|WL.nil<|WP.ret<|X.thenR<|X.ret rfl (Res.one rfl rfl) ?_
             first
              | exact rfl
              | (show _=_
                 rw[decide_eq_true (by omega)])
            ·
             have hch0:t.w*(bb.2.length:Int)≤1048576:=Int.le_trans (Int.mul_le_mul (show t.w≤30 by omega) (show (bb.2.length:Int)≤30 by omega) (by omega) (by omega)) (by omega)
             have hQ0:SeaQ r t 1048576 (SeaD.new r t 1048576):=SeaQ.new hw hwt hwo (by omega)
             refine WP.skip<|X.thenN<|WP.regs<|L.loadN T32.ag rfl rfl (Rds.all 4 rfl)<|L.loadN T34.ag rfl rfl (Rds.all 3 rfl)<|WL.call rfl rfl F10.fn rfl (FT.make fun g gS dj=>strip_New r hw v w (hta.mono (Hp.le_un_left _ _)) t hwt hwo 1048576 ⟨by omega,by omega⟩) ?_;rintro _ _ ⟨_,⟨b,A0,rfl,rfl⟩,rfl⟩;refine L.move rfl<|L.extract rfl rfl<|L.extract rfl rfl<|L.assign rfl<|L.assign rfl<|WL.nil<|WP.seq<|WP.regs<|L.move rfl<|L.eqlPtrNil T38.u rfl<|L.move rfl<|L.move rfl<|L.neq rfl rfl<|L.pickF rfl rfl<|WL.nil<|WP.condD rfl (fun hT=>absurd hT (by decide)) (fun h97=>?_)
             refine WP.skip<|X.thenN<|WP.regs<|L.loadN T63.ag rfl rfl (Rds.all 10 rfl)<|L.alloc T63.z fun b15=>L.storeN T63.ag rfl rfl rfl (Wrs.all 0 rfl rfl (by simp[Value.oneCell']))<|WL.nil<|WP.cut (X:=SeaA × SeaD) (fun z=>⟨212,[],[(3,.int .i64 (qq:Int)),(4,.int .i64 (mm:Int)),(5,.pointer (some ⟨b5,0,none⟩)),(6,.pointer (some ⟨b6,0,none⟩)),(7,.pointer (some ⟨b7,0,none⟩)),(11,.bool true),(12,.pointer (some ⟨b12,0,none⟩)),(14,.pointer (some ⟨b,0,none⟩))]⟩) (fun z=>[rowsP (.slice ca bb.2.length cc) bb.2]++seaS b z.1 z.2++[cl b12 [.int .i64 t.w,.int .i64 bb.1,(.slice ca bb.2.length cc)] 63,cl b7 [.int .i64 W,.int .i64 at0,(.slice ra ls.length rcap)] 63,cl b6 (topoC t) 34,cl b5 (ruleC r v w) 32]) (fun z=>SeaQ r t 1048576 z.2) ?_ ?_
             ·
              refine WP.regs<|L.assign rfl<|WL.nil<|WP.block<|WP.loop (X:=Value × Nat) (fun z=>⟨212,[],[(3,.int .i64 (qq:Int)),(4,.int .i64 (mm:Int)),(5,.pointer (some ⟨b5,0,none⟩)),(6,.pointer (some ⟨b6,0,none⟩)),(7,.pointer (some ⟨b7,0,none⟩)),(11,.bool true),(12,.pointer (some ⟨b12,0,none⟩)),(14,.pointer (some ⟨b,0,none⟩)),(13,.int .i64 0),(15,.pointer (some ⟨b15,0,none⟩)),(16,.int .i64 ((z.2+1:Nat):Int))]⟩) (fun z=>[rowsB (.slice ca bb.2.length cc) bb.2 z.1 (runB r t bb z.2).2,cl b15 [.int .i64 t.w,.int .i64 (runB r t bb z.2).1,z.1] 63]++seaS b A0 (SeaD.new r t 1048576)++[cl b12 [.int .i64 t.w,.int .i64 bb.1,(.slice ca bb.2.length cc)] 63,cl b7 [.int .i64 W,.int .i64 at0,(.slice ra ls.length rcap)] 63,cl b6 (topoC t) 34,cl b5 (ruleC r v w) 32]) (fun z=>z.2≤12∧z.1.oneCell'=true) (fun z=>12-z.2) ((.slice ca bb.2.length cc),0) (⟨Nat.zero_le _,rfl⟩) (Env.Sub.cons rfl rfl (Env.Sub.cons rfl rfl (Env.Sub.cons rfl rfl (Env.Sub.cons rfl rfl (Env.Sub.cons rfl rfl (Env.Sub.cons rfl rfl (Env.Sub.cons rfl rfl (Env.Sub.cons rfl rfl (Env.Sub.cons rfl rfl (Env.Sub.cons rfl rfl (Env.Sub.cons rfl rfl Env.Sub.nil))))))))))) (((Ent.pk [12,0,0,0,0,0,0,0,0,0,0,0,0,0,0,0] rfl)).trans Ent.rowsB0) ?_
              rintro ⟨v1,p⟩ ⟨hp,hv1⟩
              dsimp only at hp hv1 ⊢
              generalize hS0:SeaD.new r t 1048576=S0 at hQ0 ⊢
              have hQ:=hQ0
              refine WP.seq<|WP.regs<|L.move rfl<|L.leq rfl rfl<|WL.nil<|WP.condD rfl (fun h100=>?_) (fun h100=>?_)
              ·
               refine WP.skip<|X.thenN<|WP.seq<|WP.block<|WP.regs<|L.loadN T32.ag rfl rfl (Rds.all 15 rfl)<|L.loadN T34.ag rfl rfl (Rds.all 14 rfl)<|L.loadN T63.ag rfl rfl (Rds.all 1 rfl) ?_
               have hy:=runB_ok hw hwo hxo p
               have hyt:=trm_run (r:=r) htx p
               have hcl:t.w.toNat*((runB r t bb p).2.length+2*1)≤30*56:=Nat.mul_le_mul (by omega) (by have:=hy.len;omega)
               refine WL.call rfl rfl F26.fn rfl (FT.make fun g gS dj=>(by have c:=window_NextG (k:=k) (h0:=h0.un g) r hw v w (hta.mono (Hp.le_un_left _ _)) t hwt hwo t.w _ (runB r t bb p).2 (In.rowsB (In.of_stars' 0 rfl gS dj)).2 (by have:=hy.len;omega) (fun i hi=>by have:=(hy.ok i hi).1;omega) (runB r t bb p).1 ⟨by omega,by omega⟩;rw[winR_trm hyt hy.ok (fun h9=>by have:=hy.at_ h9;omega)] at c;dsimp only at c;rw[show runB r t (runB r t bb p) 1=runB r t bb (p+1) from rfl] at c;exact c)) ?_;rintro _ _ ⟨_,⟨nv,rfl,rfl,hnn⟩,rfl⟩;refine WL.fact (fun _ _ _ s=>St.rowsP_shape 0 rfl s) ?_;rintro ⟨na,nc,rfl⟩
               have hz:=runB_ok hw hwo hxo (p+1)
               refine L.move rfl<|L.extract rfl rfl<|L.extract rfl rfl<|L.alloc T63.z fun b17=>L.storeN T63.ag rfl rfl rfl (Wrs.all 0 rfl rfl (by simp[Value.oneCell']))<|L.assign rfl<|WL.nil<|WP.seq<|WP.regs<|L.move rfl<|L.neq rfl rfl<|WL.nil<|WP.condD rfl (fun hT=>absurd hT (by decide)) (fun h111=>?_)
               refine WP.skip<|X.thenN<|WP.regs<|L.loadN T63.ag rfl rfl (Rds.all 0 rfl)<|L.storeN T63.ag rfl rfl rfl (Wrs.all 3 rfl rfl (by simp[Value.oneCell']))<|WL.nil<|WP.regs<|L.loadN T63.ag rfl rfl (Rds.all 3 rfl)<|L.alloc T63.z fun b19=>L.storeN T63.ag rfl rfl rfl (Wrs.all 0 rfl rfl (by simp[Value.oneCell']))<|WL.nil<|WP.regs<|L.fieldAddr (o':=1) T63.f1 rfl rfl<|L.load T3.sc rfl (Rd.own 15 rfl rfl)<|L.fieldAddr (o':=1) T63.f1 rfl rfl<|L.store T3.sc rfl rfl rfl (Wr.at 0 rfl rfl)<|WL.nil<|WP.regs<|WL.ent (Ent.of_eq (show _=[cl b19 [.int .i64 t.w,.int .i64 bb.1,(.slice na (runB r t bb (p+1)).2.length nc)] 63,cl b17 [.int .i64 t.w,.int .i64 (runB r t bb (p+1)).1,(.slice na (runB r t bb (p+1)).2.length nc)] 63,rowsP (.slice na (runB r t bb (p+1)).2.length nc) (runB r t bb (p+1)).2,rowsB (.slice ca bb.2.length cc) bb.2 v1 (runB r t bb p).2,cl b15 [.int .i64 t.w,.int .i64 (runB r t bb (p+1)).1,(.slice na (runB r t bb (p+1)).2.length nc)] 63]++seaS b A0 S0++[cl b12 [.int .i64 t.w,.int .i64 bb.1,(.slice ca bb.2.length cc)] 63,cl b7 [.int .i64 W,.int .i64 at0,(.slice ra ls.length rcap)] 63,cl b6 (topoC t) 34,cl b5 (ruleC r v w) 32] from rfl))<|L.fieldAddr (o':=2) T63.f2 rfl rfl ?_;refine L.load T61.sc rfl (Rd.own 4 rfl rfl)<|L.lenS T61.sl rfl rfl<|L.gtrD rfl rfl (fun h120=>?_) (fun h120=>?_)
               ·
                refine L.move rfl<|L.loadN T63.ag rfl rfl (Rds.all 0 rfl)<|L.loadN T63.ag rfl rfl (Rds.all 15 rfl)<|WL.callV rfl rfl F25.fn rfl (fun g gS dj=>ref_Same _ _ _ _ _ _ _ _ (In.rowsP (In.of_stars' 2 rfl gS dj)) (In.rowsB (In.of_stars' 3 rfl gS dj)).1 ⟨by have:=hz.len;omega,by omega⟩ (fun i hi=>by have:=(hz.ok i hi).1;omega) (fun i hi=>by have:=(hxo i hi).1;omega)) ?_
                rcases Decidable.em ((runB r t bb (p+1)).2=bb.2) with hsm | hsm
                rw[decide_eq_true ⟨rfl,rfl,hsm⟩]
                rotate_left
                rw[decide_eq_false fun h=>hsm h.2.2]
                rotate_left
                ·
                 refine L.pickT rfl rfl<|WL.nil<|WP.condT rfl<|WP.regs<|L.move rfl<|L.loadN T63.ag rfl rfl (Rds.all 15 rfl)<|L.move rfl<|L.move rfl ?_
                 have hmq:=mul_bd (q:=(qq:Int)) (d:=((p+1:Nat):Int)) (Q:=1073741824) (D:=12) ⟨by omega,by omega⟩ ⟨by omega,by omega⟩ (by omega)
                 refine L.mul' rfl rfl (by omega) ?_
                 rw[show (qq:Int)*((p+1:Nat):Int)=((qq*(p+1):Nat):Int) from (Int.natCast_mul _ _).symm]
                 have hqe:((qq*(p+1):Nat):Int)=(qq:Int)*((p+1:Nat):Int):=Int.natCast_mul _ _
                 have hqp:qq*(p+1)≤12884901888:=by omega
                 clear hqe hmq
                 generalize hnq:qq*(p+1)=nq at hqp ⊢
                 refine WL.call rfl rfl F23.fn rfl (FT.part (seaS b _ S0) _ (Ent.front _ _ _) fun g gS dj=>sea_RunA b A0 S0 hQ.K hQ.i hQ.told hQ.len (by rw[hQ.hm];omega) t.w bb.1 _ bb.2 (In.rowsB (In.of_stars' 3 rfl gS dj)).1 (by omega) (fun i hi=>by have:=(hxo i hi).1;omega) nq (by omega) (by rw[hQ.ht];exact hch0)) ?_;rintro _ _ ⟨_,⟨gv,A2,S2,g,hR,rfl,rfl⟩,rfl⟩;refine WL.fact (fun _ _ _ s=>St.rowsP_shape 0 rfl s) ?_;rintro ⟨ga,gc,rfl⟩
                 obtain⟨hQ2,hor⟩:=seaR_trm hQ htx hxo (by omega) (by omega) (fun _=>by omega) hR
                 refine L.move rfl<|L.extract rfl rfl<|L.extract rfl rfl<|L.alloc T63.z fun b20=>L.storeN T63.ag rfl rfl rfl (Wrs.all 0 rfl rfl (by simp[Value.oneCell']))<|L.assign rfl<|WL.nil<|WP.regs<|L.fieldAddr (o':=1) T63.f1 rfl rfl<|L.load T3.sc rfl (Rd.own 17 rfl rfl)<|L.move rfl<|L.fieldAddr (o':=1) T63.f1 rfl rfl<|L.load T3.sc rfl (Rd.own 16 rfl rfl)<|L.fieldAddr (o':=1) T63.f1 rfl rfl<|L.load T3.sc rfl (Rd.own 17 rfl rfl) ?_
                 have hzl:=hz.at_ (by rw[hsm];omega)
                 rw[hsm] at hzl
                 refine L.sub' rfl rfl (by omega) ?_
                 have hmd:=mul_bd (q:=(qq:Int)) (d:=(runB r t bb (p+1)).1-bb.1) (Q:=1073741824) (D:=13) ⟨by omega,by omega⟩ ⟨by omega,by omega⟩ (by omega)
                 refine L.mul' rfl rfl (by omega)<|L.add' rfl rfl (by omega)<|L.fieldAddr (o':=1) T63.f1 rfl rfl<|L.store T3.sc rfl rfl rfl (Wr.at 12 rfl rfl)<|WL.nil<|WP.seq<|WP.regs<|WL.ent (Ent.of_eq (show _=[cl b20 [.int .i64 g.1,.int .i64 g.2.1,(.slice ga g.2.2.1.length gc)] 63,rowsP (.slice ga g.2.2.1.length gc) g.2.2.1]++seaS b A2 S2++([cl b19 [.int .i64 t.w,.int .i64 (bb.1+(qq:Int)*((runB r t bb (p+1)).1-bb.1)),(.slice na (runB r t bb (p+1)).2.length nc)] 63,cl b17 [.int .i64 t.w,.int .i64 (runB r t bb (p+1)).1,(.slice na (runB r t bb (p+1)).2.length nc)] 63,rowsP (.slice na (runB r t bb (p+1)).2.length nc) (runB r t bb (p+1)).2,rowsB (.slice ca bb.2.length cc) bb.2 v1 (runB r t bb p).2,cl b15 [.int .i64 t.w,.int .i64 (runB r t bb (p+1)).1,(.slice na (runB r t bb (p+1)).2.length nc)] 63]++[cl b12 [.int .i64 t.w,.int .i64 bb.1,(.slice ca bb.2.length cc)] 63,cl b7 [.int .i64 W,.int .i64 at0,(.slice ra ls.length rcap)] 63,cl b6 (topoC t) 34,cl b5 (ruleC r v w) 32]) from rfl))<|L.move rfl ?_;refine L.neqD rfl rfl (fun h147=>?_) (fun h147=>?_)
                 ·
                  refine L.move rfl ?_
                  have hgo:=(hor.resolve_right (fun e=>h147 (by rw[e]))).symm
                  subst hgo
                  have hqr:=runB_ok hw hwo hxo nq
                  have hrr:(runB r t bb nq).1=bb.1+(qq:Int)*((runB r t bb (p+1)).1-bb.1)∧(runB r t bb nq).2=(runB r t bb (p+1)).2:=by rw[← hnq,runB_round hw hwo htx hxo (by omega) (d:=(runB r t bb (p+1)).1-bb.1) (Prod.ext (by dsimp only;omega) hsm) qq];exact⟨rfl,hsm.symm⟩
                  refine L.move rfl<|L.neqD rfl rfl (fun hT=>absurd hT (fun h=>h rfl)) (fun h150=>?_);refine L.move rfl<|L.loadN T63.ag rfl rfl (Rds.all 0 rfl)<|L.loadN T63.ag rfl rfl (Rds.all 12 rfl)<|WL.callV rfl rfl F25.fn rfl (fun g gS dj=>ref_Same _ _ _ _ _ _ _ _ (In.rowsP (In.of_stars' 1 rfl gS dj)) (In.rowsP (In.of_stars' 14 rfl gS dj)) ⟨by have:=hqr.len;dsimp only;omega,by have:=hz.len;omega⟩ (fun i hi=>by have:=(hqr.ok i hi).1;dsimp only;omega) (fun i hi=>by have:=(hz.ok i hi).1;omega)) ?_
                  rw[decide_eq_true ⟨rfl,hrr.1,hrr.2⟩]
                  refine L.not rfl<|L.pickF rfl rfl<|L.pickT rfl rfl<|WL.nil<|WP.condF rfl<|WP.skip<|X.thenN<|WP.exit<|X.blockF rfl (X.thenE (X.thenE (X.blockE ?_)));refine X.thenN ⟨(A2,S2),hQ2,(Env.Sub.cons rfl rfl (Env.Sub.cons rfl rfl (Env.Sub.cons rfl rfl (Env.Sub.cons rfl rfl (Env.Sub.cons rfl rfl (Env.Sub.cons rfl rfl (Env.Sub.cons rfl rfl (Env.Sub.cons rfl rfl Env.Sub.nil)))))))),Ent.mid2 (((Ent.left [_,_,_] _).trans Ent.rowsB1).trans (Ent.right [_] _))⟩
                 ·
                  refine L.move rfl ?_
                  iterate 8 refine L.skip ?_
                  refine L.pickF rfl rfl<|WL.nil<|WP.condF rfl<|WP.skip<|X.thenN<|WP.exit<|X.blockF rfl (X.thenE (X.thenE (X.blockE ?_)));refine X.thenN ⟨(A2,S2),hQ2,(Env.Sub.cons rfl rfl (Env.Sub.cons rfl rfl (Env.Sub.cons rfl rfl (Env.Sub.cons rfl rfl (Env.Sub.cons rfl rfl (Env.Sub.cons rfl rfl (Env.Sub.cons rfl rfl (Env.Sub.cons rfl rfl Env.Sub.nil)))))))),Ent.mid2 (((Ent.left [_,_,_] _).trans Ent.rowsB1).trans (Ent.right [_] _))⟩
                ·
                 refine L.pickT rfl rfl<|WL.nil<|WP.condF rfl<|WP.skip<|X.blockN<|X.thenN<|WP.region<|L.move rfl<|L.add' rfl rfl (by omega)<|L.assign rfl<|WL.nil<|X.thenN ⟨((.slice na (runB r t bb (p+1)).2.length nc),p+1),⟨by dsimp only;omega,rfl⟩,by dsimp only;omega,(Env.Sub.cons rfl rfl (Env.Sub.cons rfl rfl (Env.Sub.cons rfl rfl (Env.Sub.cons rfl rfl (Env.Sub.cons rfl rfl (Env.Sub.cons rfl rfl (Env.Sub.cons rfl rfl (Env.Sub.cons rfl rfl (Env.Sub.cons rfl rfl (Env.Sub.cons rfl rfl (Env.Sub.cons rfl rfl Env.Sub.nil))))))))))),Ent.mid ((Ent.left [_,_] _).trans Ent.rowsBm)⟩
               ·
                refine L.move rfl<|L.skip<|L.skip<|L.skip<|L.pickF rfl rfl<|WL.nil<|WP.condF rfl<|WP.skip<|X.blockN<|X.thenN<|WP.region<|L.move rfl<|L.add' rfl rfl (by omega)<|L.assign rfl<|WL.nil<|X.thenN ⟨((.slice na (runB r t bb (p+1)).2.length nc),p+1),⟨by dsimp only;omega,rfl⟩,by dsimp only;omega,(Env.Sub.cons rfl rfl (Env.Sub.cons rfl rfl (Env.Sub.cons rfl rfl (Env.Sub.cons rfl rfl (Env.Sub.cons rfl rfl (Env.Sub.cons rfl rfl (Env.Sub.cons rfl rfl (Env.Sub.cons rfl rfl (Env.Sub.cons rfl rfl (Env.Sub.cons rfl rfl (Env.Sub.cons rfl rfl Env.Sub.nil))))))))))),Ent.mid ((Ent.left [_,_] _).trans Ent.rowsBm)⟩
              ·
               refine WP.exit<|X.thenE (X.thenE (X.blockE ?_));refine X.thenN ⟨(A0,S0),hQ,(Env.Sub.cons rfl rfl (Env.Sub.cons rfl rfl (Env.Sub.cons rfl rfl (Env.Sub.cons rfl rfl (Env.Sub.cons rfl rfl (Env.Sub.cons rfl rfl (Env.Sub.cons rfl rfl (Env.Sub.cons rfl rfl Env.Sub.nil)))))))),Ent.mid (Ent.rowsB1.trans (Ent.right [_] _))⟩
             ·
              rintro ⟨A1,S1⟩ hQ
              dsimp only at hQ ⊢
              refine WP.regs<|L.move rfl<|L.loadN T63.ag rfl rfl (Rds.all 11 rfl)<|L.move rfl<|WL.call rfl rfl F23.fn rfl (FT.part (seaS b _ S1) _ (Ent.front _ _ _) fun g gS dj=>sea_RunA b A1 S1 hQ.K hQ.i hQ.told hQ.len (by rw[hQ.hm];omega) t.w bb.1 _ bb.2 (In.rowsP (In.of_stars' 0 rfl gS dj)) (by omega) (fun i hi=>by have:=(hxo i hi).1;omega) mm (by omega) (by rw[hQ.ht];exact hch0)) ?_;rintro _ _ ⟨_,⟨gv,A2,S2,g1,hR1,rfl,rfl⟩,rfl⟩;refine WL.fact (fun _ _ _ s=>St.rowsP_shape 0 rfl s) ?_;rintro ⟨ga1,gc1,rfl⟩
              obtain⟨hQ1,hor1⟩:=seaR_trm hQ htx hxo (by omega) (by omega) (fun _=>by omega) hR1
              obtain⟨hl1,hs1⟩:=leaps_len hw hwo hxo (show _≤30 by omega) (show mm≤40 by omega) hor1
              refine L.move rfl<|L.extract rfl rfl<|L.extract rfl rfl<|L.alloc T63.z fun b22=>L.storeN T63.ag rfl rfl rfl (Wrs.all 0 rfl rfl (by simp[Value.oneCell']))<|L.assign rfl<|WL.nil<|WP.regs<|WL.ent (Ent.of_eq (show _=[cl b22 [.int .i64 g1.1,.int .i64 g1.2.1,(.slice ga1 g1.2.2.1.length gc1)] 63,rowsP (.slice ga1 g1.2.2.1.length gc1) g1.2.2.1]++seaS b A2 S2++[rowsP (.slice ca bb.2.length cc) bb.2,cl b12 [.int .i64 t.w,.int .i64 bb.1,(.slice ca bb.2.length cc)] 63,cl b7 [.int .i64 W,.int .i64 at0,(.slice ra ls.length rcap)] 63,cl b6 (topoC t) 34,cl b5 (ruleC r v w) 32] from rfl))<|L.move rfl ?_;refine L.loadN T63.ag rfl rfl (Rds.all 0 rfl)<|L.move rfl<|L.quo' rfl rfl (by omega) ?_
              rw[show (mm:Int)/2=((mm/2:Nat):Int) by omega]
              refine WL.call rfl rfl F23.fn rfl (FT.part (seaS b _ S2) _ (Ent.front _ _ _) fun g gS dj=>sea_RunA b A2 S2 hQ1.K hQ1.i hQ1.told hQ1.len (by rw[hQ1.hm];omega) g1.1 g1.2.1 _ g1.2.2.1 (In.rowsP (In.of_stars' 1 rfl gS dj)) (by omega) (hs1) (mm/2) (by omega) (by rw[hQ1.ht];exact Int.le_trans (Int.mul_le_mul (show t.w≤30 by omega) (show (g1.2.2.1.length:Int)≤200 by omega) (by omega) (by omega)) (by omega))) ?_;rintro _ _ ⟨_,⟨gv,A3,S3,g2,hR2,rfl,rfl⟩,rfl⟩;refine WL.fact (fun _ _ _ s=>St.rowsP_shape 0 rfl s) ?_;rintro ⟨ga2,gc2,rfl⟩
              have hQ2:=seaR_any hQ1 (by omega) (by omega) hR2
              have hor2:=leaps_two (m:=mm) hw hwo htx hxo hQ1 (by omega) (by omega) (by omega) hR2
              refine L.move rfl<|L.extract rfl rfl<|L.extract rfl rfl<|L.alloc T63.z fun b23=>L.storeN T63.ag rfl rfl rfl (Wrs.all 0 rfl rfl (by simp[Value.oneCell']))<|L.assign rfl<|WL.nil<|WP.regs<|WL.ent (Ent.of_eq (show _=[cl b23 [.int .i64 g2.1,.int .i64 g2.2.1,(.slice ga2 g2.2.2.1.length gc2)] 63,rowsP (.slice ga2 g2.2.2.1.length gc2) g2.2.2.1]++seaS b A3 S3++[cl b22 [.int .i64 g1.1,.int .i64 g1.2.1,(.slice ga1 g1.2.2.1.length gc1)] 63,rowsP (.slice ga1 g1.2.2.1.length gc1) g1.2.2.1,rowsP (.slice ca bb.2.length cc) bb.2,cl b12 [.int .i64 t.w,.int .i64 bb.1,(.slice ca bb.2.length cc)] 63,cl b7 [.int .i64 W,.int .i64 at0,(.slice ra ls.length rcap)] 63,cl b6 (topoC t) 34,cl b5 (ruleC r v w) 32] from rfl))<|L.move rfl ?_;refine L.loadN T63.ag rfl rfl (Rds.all 15 rfl)<|L.move rfl<|L.move rfl<|L.quo' rfl rfl (by omega)<|L.add' rfl rfl (by omega) ?_
              rw[show (mm:Int)+(mm:Int)/2=((mm+mm/2:Nat):Int) by omega]
              refine WL.call rfl rfl F23.fn rfl (FT.part (seaS b _ S3) _ (Ent.front _ _ _) fun g gS dj=>sea_RunA b A3 S3 hQ2.K hQ2.i hQ2.told hQ2.len (by rw[hQ2.hm];omega) t.w bb.1 _ bb.2 (In.rowsP (In.of_stars' 4 rfl gS dj)) (by omega) (fun i hi=>by have:=(hxo i hi).1;omega) (mm+mm/2) (by omega) (by rw[hQ2.ht];exact hch0)) ?_;rintro _ _ ⟨_,⟨gv,A4,S4,g3,hR3,rfl,rfl⟩,rfl⟩;refine WL.fact (fun _ _ _ s=>St.rowsP_shape 0 rfl s) ?_;rintro ⟨ga3,gc3,rfl⟩
              obtain⟨hQ3,hor3⟩:=seaR_trm hQ2 htx hxo (by omega) (by omega) (fun _=>by omega) hR3
              obtain⟨hf1,hf2,hf3,hf4⟩:=leaps_fin hor1 hor2 hor3
              refine L.move rfl<|L.extract rfl rfl<|L.extract rfl rfl<|L.alloc T63.z fun b25=>L.storeN T63.ag rfl rfl rfl (Wrs.all 0 rfl rfl (by simp[Value.oneCell']))<|L.assign rfl<|WL.nil<|WP.seq<|WP.regs<|L.move rfl<|L.neqD rfl rfl (fun h184=>?_) (fun h184=>?_)
              ·
               refine L.move rfl<|L.skip<|L.skip<|L.pickT rfl rfl<|L.move rfl<|L.skip<|L.skip<|L.pickT rfl rfl<|WL.nil<|WP.condT rfl<|WP.regs<|L.move rfl<|L.move rfl<|L.move rfl<|L.eqlD rfl rfl (fun h196=>?_) (fun hF=>absurd hF (by omega));refine L.move rfl<|L.skip<|L.skip<|L.pickT rfl rfl<|L.move rfl<|L.skip<|L.skip<|L.pickT rfl rfl<|L.pickT rfl rfl<|L.assign rfl<|WL.nil<|WP.ret<|X.thenR<|X.ret rfl (Res.one rfl rfl) ?_
               first
                | exact rfl
                | (show _=_
                   rw[decide_eq_true (by omega)])
              ·
               refine L.move rfl<|L.move rfl<|L.neqD rfl rfl (fun h187=>?_) (fun h187=>?_)
               ·
                refine L.pickF rfl rfl<|L.move rfl<|L.skip<|L.skip<|L.pickT rfl rfl<|WL.nil<|WP.condT rfl<|WP.regs<|L.move rfl<|L.move rfl<|L.move rfl<|L.eqlD rfl rfl (fun hT=>absurd hT (by omega)) (fun h196=>?_);refine L.move rfl<|L.move rfl<|L.eqlD rfl rfl (fun h199=>?_) (fun hF=>absurd hF (by omega));refine L.pickF rfl rfl<|L.move rfl<|L.skip<|L.skip<|L.pickT rfl rfl<|L.pickT rfl rfl<|L.assign rfl<|WL.nil<|WP.ret<|X.thenR<|X.ret rfl (Res.one rfl rfl) ?_
                first
                 | exact rfl
                 | (show _=_
                    rw[decide_eq_true (by omega)])
               ·
                refine L.pickF rfl rfl<|L.move rfl<|L.move rfl<|L.neq rfl rfl<|L.pickF rfl rfl<|WL.nil<|WP.condD rfl (fun h192=>?_) (fun h192=>?_)
                ·
                 refine WP.regs<|L.move rfl<|L.move rfl<|L.move rfl<|L.eqlD rfl rfl (fun hT=>absurd hT (by omega)) (fun h196=>?_);refine L.move rfl<|L.move rfl<|L.eqlD rfl rfl (fun hT=>absurd hT (by omega)) (fun h199=>?_);refine L.pickF rfl rfl<|L.move rfl<|L.move rfl<|L.eql rfl rfl<|L.pickF rfl rfl<|L.pickT rfl rfl<|L.assign rfl<|WL.nil<|WP.ret<|X.thenR<|X.ret rfl (Res.one rfl rfl) ?_
                 first
                  | exact rfl
                  | (show _=_
                     rw[decide_eq_true (by omega)])
                ·
                 refine WP.skip<|X.thenN<|WP.regs<|L.move rfl<|L.move rfl<|L.loadN T63.ag rfl rfl (Rds.all 12 rfl)<|L.loadN T63.ag rfl rfl (Rds.all 0 rfl) ?_
                 obtain⟨hfe,hfr⟩:=hf4 (by omega) (by omega) (by omega)
                 have hqr:=runB_ok hw hwo hxo (mm+mm/2)
                 subst hfe
                 subst hfr
                 refine WL.callV rfl rfl F25.fn rfl (fun g gS dj=>ref_Same _ _ _ _ _ _ _ _ (In.rowsP (In.of_stars' 13 rfl gS dj)) (In.rowsP (In.of_stars' 1 rfl gS dj)) ⟨by have:=hqr.len;dsimp only;omega,by have:=hqr.len;dsimp only;omega⟩ (fun i hi=>by have:=(hqr.ok i hi).1;dsimp only;omega) (fun i hi=>by have:=(hqr.ok i hi).1;dsimp only;omega)) ?_
                 rw[decide_eq_true ⟨rfl,rfl,rfl⟩]
                 refine L.pickT rfl rfl<|L.assign rfl<|WL.nil<|WP.ret<|X.ret rfl (Res.one rfl rfl) ?_
                 first
                  | exact rfl
                  | (show _=_
                     rw[decide_eq_true (by omega)])
end
end Go.Eng
