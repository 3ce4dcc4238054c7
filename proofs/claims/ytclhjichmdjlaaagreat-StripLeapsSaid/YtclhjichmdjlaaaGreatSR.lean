/- Walks of the functions of the seat over those rules, and plain laws of what they compute. No conditions beyond those in each theorem. -/
import Derived.Test.YtclhjichmdjlaaaGreatSQ
set_option linter.unusedSimpArgs false
set_option linter.unusedVariables false
namespace Go.Eng
open Go.RowKit Go.Proofs
section
variable {k:World} {h0:Hp}
set_option maxRecDepth 10000 in
set_option maxHeartbeats 16000000 in
theorem sea_mid1P (b f:Nat) (ih:∀ (k:World) (h0:Hp) (A:SeaA) (S:SeaD) (id j:Nat) (jv:Int) (l:Nat),jv=(j:Int)→SeaK S→Inv S→Lv S id (l+2)→l+2≤f+1→j≤l→S.nodes.length≤S.most→FT Pg 60 [.pointer (some ⟨b,0,none⟩),encI id,.int .i64 jv] k h0 (seaS b A S) (RP 163 (fun v τ=>∃ nv,v=encI (SeaD.mid f S id j).2∧τ=seaS b {A with nv:=nv} (SeaD.mid f S id j).1∧(SeaD.mid f S id j).1.nodes.length≤S.most) (PS b S (SeaD.mid f S id j).1))) (A:SeaA) (S:SeaD) (id j:Nat) (jv:Int) (lm:Nat) (hjv:jv=(j:Int)) (K:SeaK S) (hi:Inv S) (lid:Lv S id (lm+2)) (hf:lm+2≤f+1+1) (hj:j≤lm) (hm0:S.nodes.length≤S.most):FT Pg 60 [.pointer (some ⟨b,0,none⟩),encI id,.int .i64 jv] k h0 (seaS b A S) (RP 163 (fun v τ=>∃ nv,v=encI (SeaD.mid (f+1) S id j).2∧τ=seaS b {A with nv:=nv} (SeaD.mid (f+1) S id j).1∧(SeaD.mid (f+1) S id j).1.nodes.length≤S.most) (PS b S (SeaD.mid (f+1) S id j).1)):=by
  subst hjv
  have hid:id<S.nodes.length:=lid.1
  have hlm:(S.nodes.getD id .no).level=lm+2:=lid.2
  have G0:=Good.refl K hi
  have hl45:=G0.lev lid
  refine FT.tightP<|FT.fact (fun _ _ _ s=>s.vec_shape (E:=111) (sz:=4) 1 rfl) ?_
  rintro ⟨_,na,ncap,hnv,hncap,hna⟩
  obtain⟨c0,hc0⟩:=hna (by omega)
  subst hc0
  obtain⟨tv,tw,nv,bp,br,bl,bn,ov,bm,bk⟩:=A
  dsimp only at hnv
  subst hnv
  unfold encI
  refine FT.of_wp (n:=199) Tryz.func60 rfl rfl rfl<|WP.regs<|L.assign rfl<|WL.nil<|WP.regs<|L.move rfl<|L.move rfl<|L.build (cs:=[_,_]) T173.b T173.z rfl rfl<|L.alloc T173.z fun c7=>L.storeN T173.ag rfl rfl rfl (Wrs.all 0 rfl rfl (by simp[Value.oneCell']))<|WL.nil<|WP.seq<|WP.seq<|WP.rege [(0,true),(1,true),(2,true),(3,true),(4,true),(5,true),(6,true),(7,true),(8,true),(9,true),(10,true)] 11 rfl (by kernel_rfl) (PInv.then (PInv.then PInv.ret)) rfl<|WE.take rfl (V.move rfl)<|WE.take rfl (V.nilCheck rfl)<|WE.take rfl (V.fieldAddr (o':=21) T59.f7 rfl rfl) ?_;refine WE.take rfl (V.load T54.sc rfl (Rd.own 1 rfl rfl))<|WE.take rfl (V.loadN T173.ag rfl rfl (Rds.all 0 rfl))<|WE.take rfl (V.lookupOk (α:=Nat × Nat) (enc:=encP) (key:=(id,j)) 5 T54.m K173 T3.z1 rfl rfl rfl) ?_
  rw[mget_vm]
  rcases hq:mget S.leaps (id,j) with _ | id
  rotate_left
  ·
   refine WE.take rfl (V.move rfl)<|WE.take rfl (V.extract rfl rfl)<|WE.take rfl (V.extract rfl rfl)<|WE.take rfl (V.assign rfl)<|WE.take rfl (V.assign rfl)<|WE.nil<|X.thenN<|WP.regs<|L.move rfl<|WL.nil<|WP.condT rfl<|WP.regs<|L.move rfl<|L.assign rfl<|WL.nil<|WP.ret<|X.thenR<|X.ret rfl (Res.one rfl rfl) ?_;exact .inl ⟨_,rfl,_,⟨.slice (some ⟨c0,0,none⟩) S.nodes.length ncap,by simp[SeaD.mid,hq,encI],rfl,by simp only[SeaD.mid,hq];exact hm0⟩,((Ent.left [_] _)).trans (Ent.of_eq (by simp only[SeaD.mid,hq]))⟩
  ·
   refine WE.take rfl (V.move rfl)<|WE.take rfl (V.extract rfl rfl)<|WE.take rfl (V.extract rfl rfl)<|WE.take rfl (V.assign rfl)<|WE.take rfl (V.assign rfl)<|WE.nil<|X.thenN<|WP.regs<|L.move rfl<|WL.nil<|WP.condF rfl<|WP.skip<|X.thenN<|WP.regs ?_
   obtain⟨la,lb⟩:=G0.kids lid
   have hla:(S.nodes.getD id .no).a<S.nodes.length:=la.1
   have hlb:(S.nodes.getD id .no).b<S.nodes.length:=lb.1
   obtain⟨laa0,lab0⟩:=G0.kids la
   obtain⟨lba0,lbb0⟩:=G0.kids lb
   have la0:=la;have lb0:=lb
   refine L.move rfl<|L.nilCheck rfl<|L.fieldAddr (o':=18) T59.f4 rfl rfl<|L.load T51.sc rfl (Rd.own 1 rfl rfl)<|L.move rfl<|L.indexS T51.sl rfl rfl (by omega)<|L.loadN T111.ag rfl rfl (Rds.vec (vs:=nodeC (S.nodes.getD id .no)) 2 rfl (fun j v hj=>nodesC_rd S.nodes id hid j hj))<|L.alloc T111.z fun c10=>L.storeN T111.ag rfl rfl rfl (Wrs.all 0 rfl rfl (by simp[Value.oneCell']))<|WL.nil<|WP.cut (X:=Nat × Nat) (fun x=>⟨199,[],[(0,.pointer (some ⟨b,0,none⟩)),(1,.int .i64 (id:Int)),(2,.int .i64 (j:Int)),(7,.pointer (some ⟨c7,0,none⟩)),(10,.pointer (some ⟨c10,0,none⟩)),(11,.pointer (some ⟨x.1,0,none⟩)),(12,.pointer (some ⟨x.2,0,none⟩))]⟩) (fun x=>[cl x.1 (nodeC (S.nodes.getD (S.nodes.getD id .no).a .no)) 111,cl x.2 (nodeC (S.nodes.getD (S.nodes.getD id .no).b .no)) 111,cl c10 (nodeC (S.nodes.getD id .no)) 111,cl c7 [.int .i64 (id:Int),.int .i64 (j:Int)] 173]++seaS b ⟨tv,tw,.slice (some ⟨c0,0,none⟩) S.nodes.length ncap,bp,br,bl,bn,ov,bm,bk⟩ S) (fun x=>True) ?_ ?_
   ·
    refine WP.regn _ rfl ?_ (Ent.refl _)
    refine WT.read (m:=4) (fin:=fun l=>l == #[true,true,true,true,true,true,true,true,true,true,true,true,true,true,true,true,false,false,false,false]) [(0,true),(1,true),(2,true),(3,true),(4,true),(5,true),(6,true),(7,true),(8,true),(9,true),(10,true),(11,true),(12,true),(13,true),(14,true),(15,true)] (by kernel_rfl) (PInv.then PInv.ret) (Ent.refl _)<|WE.take rfl (V.move rfl)<|WE.take rfl (V.nilCheck rfl)<|WE.take rfl (V.fieldAddr (o':=18) T59.f4 rfl rfl)<|WE.take rfl (V.load T51.sc rfl (Rd.own 2 rfl rfl)) ?_;refine WE.take rfl (V.fieldAddr (o':=1) T111.f1 rfl rfl)<|WE.take rfl (V.load T3.sc rfl (Rd.own 0 rfl rfl))<|WE.take rfl (V.indexS T51.sl rfl rfl (by omega))<|WE.take rfl (V.loadN T111.ag rfl rfl (Rds.vec (vs:=nodeC (S.nodes.getD (S.nodes.getD id .no).a .no)) 3 rfl (fun j v hj=>nodesC_rd S.nodes (S.nodes.getD id .no).a hla j hj)))<|WE.take rfl (V.move rfl)<|WE.take rfl (V.nilCheck rfl)<|WE.take rfl (V.fieldAddr (o':=18) T59.f4 rfl rfl)<|WE.take rfl (V.load T51.sc rfl (Rd.own 2 rfl rfl))<|WE.take rfl (V.fieldAddr (o':=2) T111.f2 rfl rfl)<|WE.take rfl (V.load T3.sc rfl (Rd.own 0 rfl rfl)) ?_;refine WE.take rfl (V.indexS T51.sl rfl rfl (by omega))<|WE.take rfl (V.loadN T111.ag rfl rfl (Rds.vec (vs:=nodeC (S.nodes.getD (S.nodes.getD id .no).b .no)) 3 rfl (fun j v hj=>nodesC_rd S.nodes (S.nodes.getD id .no).b hlb j hj)))<|WE.free #[true,true,true,true,true,true,true,true,true,true,true,true,true,true,true,true,false,false,false,false]<|WN.two 16 17 (by kernel_rfl) rfl rfl ?_ ?_
    ·
     refine L.alloc T111.z fun c11=>WL.nil ⟨(Ent.left [_] _),?_⟩;refine WN.one 17 (by kernel_rfl) rfl<|L.alloc T111.z fun c12=>WL.nil ⟨(Ent.left [_,_] _),?_⟩;refine WN.one 18 (by kernel_rfl) rfl<|L.storeN T111.ag rfl rfl rfl (Wrs.all 1 rfl rfl (by simp[Value.oneCell']))<|WL.nil ⟨(Ent.left [_,_] _),?_⟩;refine WN.one 19 (by kernel_rfl) rfl<|L.storeN T111.ag rfl rfl rfl (Wrs.all 0 rfl rfl (by simp[Value.oneCell']))<|WL.nil ⟨(Ent.left [_,_] _),?_⟩
     refine WT.nil (by kernel_rfl)<|X.thenN ⟨(c11,c12),trivial,(Env.Sub.cons rfl rfl (Env.Sub.cons rfl rfl (Env.Sub.cons rfl rfl (Env.Sub.cons rfl rfl (Env.Sub.cons rfl rfl (Env.Sub.cons rfl rfl (Env.Sub.cons rfl rfl Env.Sub.nil))))))),(Ent.pk [1,0,0,0,0,0,0,0,0,0,0,0,0,0] rfl)⟩
    ·
     refine L.alloc T111.z fun c12=>WL.nil ⟨(Ent.left [_] _),?_⟩;refine WN.one 16 (by kernel_rfl) rfl<|L.alloc T111.z fun c11=>WL.nil ⟨(Ent.left [_,_] _),?_⟩;refine WN.one 18 (by kernel_rfl) rfl<|L.storeN T111.ag rfl rfl rfl (Wrs.all 0 rfl rfl (by simp[Value.oneCell']))<|WL.nil ⟨(Ent.left [_,_] _),?_⟩;refine WN.one 19 (by kernel_rfl) rfl<|L.storeN T111.ag rfl rfl rfl (Wrs.all 1 rfl rfl (by simp[Value.oneCell']))<|WL.nil ⟨(Ent.left [_,_] _),?_⟩
     refine WT.nil (by kernel_rfl)<|X.thenN ⟨(c11,c12),trivial,(Env.Sub.cons rfl rfl (Env.Sub.cons rfl rfl (Env.Sub.cons rfl rfl (Env.Sub.cons rfl rfl (Env.Sub.cons rfl rfl (Env.Sub.cons rfl rfl (Env.Sub.cons rfl rfl Env.Sub.nil))))))),(Ent.refl _)⟩
   ·
    rintro ⟨c11,c12⟩ _
    refine WP.regs<|L.assign rfl<|WL.nil<|WP.cut (X:=Value × SeaD × Nat) (fun x=>⟨199,[],[(0,.pointer (some ⟨b,0,none⟩)),(7,.pointer (some ⟨c7,0,none⟩)),(13,.int .i64 (x.2.2:Int))]⟩) (fun x=>[cl c7 [.int .i64 (id:Int),.int .i64 (j:Int)] 173]++seaS b ⟨tv,tw,x.1,bp,br,bl,bn,ov,bm,bk⟩ x.2.1) (fun x=>SeaD.mid (f+1) S id j=({x.2.1 with leaps:=mput x.2.1.leaps (id,j) x.2.2},x.2.2)∧x.2.1.nodes.length≤S.most) ?_ ?_
    ·
     refine WP.block<|WP.regs<|L.fieldAddr (o':=0) T111.f0 rfl rfl<|L.load T3.sc rfl (Rd.own 2 rfl rfl)<|L.eql rfl rfl<|L.assign rfl<|WL.nil<|WP.condD rfl (fun h121=>?_) (fun h121=>?_)
     ·
      obtain rfl:lm=0:=by omega
      obtain⟨G1,lu1,e1⟩:=G0.line laa0 lab0 lba0
      have lab1:=lab0.up e1
      have lba1:=lba0.up e1
      have lbb1:=lbb0.up e1
      generalize hu:S.line (S.nodes.getD (S.nodes.getD id .no).a .no).a (S.nodes.getD (S.nodes.getD id .no).a .no).b (S.nodes.getD (S.nodes.getD id .no).b .no).a=u at G1 lu1 e1 lab1 lba1 lbb1
      obtain⟨G2,lv2,e2⟩:=G1.line lab1 lba1 lbb1
      have lu2:=lu1.up e2
      generalize hv:u.1.line (S.nodes.getD (S.nodes.getD id .no).a .no).b (S.nodes.getD (S.nodes.getD id .no).b .no).a (S.nodes.getD (S.nodes.getD id .no).b .no).b=v at G2 lv2 e2 lu2
      obtain⟨G3,lw3,e3⟩:=G2.pair lu2 lv2 (by omega)
      generalize hw:v.1.pair u.2 v.2=w at G3 lw3 e3
      have FINEQ:SeaD.mid (f+1) S id j=({w.1 with leaps:=mput w.1.leaps (id,j) w.2},w.2):=(by simp only[SeaD.mid,hq];rw[if_pos hlm,hu,hv,hw])
      refine WP.regs<|L.move rfl<|L.fieldAddr (o':=1) T111.f1 rfl rfl<|L.load T3.sc rfl (Rd.own 0 rfl rfl)<|L.fieldAddr (o':=2) T111.f2 rfl rfl<|L.load T3.sc rfl (Rd.own 0 rfl rfl)<|L.fieldAddr (o':=1) T111.f1 rfl rfl<|L.load T3.sc rfl (Rd.own 1 rfl rfl)<|WL.callS rfl rfl F111.fn rfl (FT.partP (seaS b ⟨tv,tw,.slice (some ⟨c0,0,none⟩) S.nodes.length ncap,bp,br,bl,bn,ov,bm,bk⟩ S) _ ((Ent.pk [4,4,4,4,4,4,4,4,4,4,0,0,0,0] rfl)) fun g gS dj=>sea_lineP b ⟨tv,tw,.slice (some ⟨c0,0,none⟩) S.nodes.length ncap,bp,br,bl,bn,ov,bm,bk⟩ S G0.K (S.nodes.getD (S.nodes.getD id .no).a .no).a (S.nodes.getD (S.nodes.getD id .no).a .no).b (S.nodes.getD (S.nodes.getD id .no).b .no).a laa0.1 lab0.1 lba0.1 (G0.row laa0) (G0.row lab0) (G0.row lba0) hm0) ?_ ?_
      · intro τ9 h9
        obtain⟨_,⟨A9,S9,rfl,hs9,hl9⟩,rfl⟩:=h9
        exact⟨rfl,.inr ⟨rfl,_,⟨A9,S9,rfl,hs9.of G0,by rw[hu] at hl9;have:=e2.len;have:=e3.len;have:=G0.most;rw[FINEQ];dsimp only;omega⟩,Ent.right _ _⟩⟩
      rintro _ _ ⟨_,⟨nv1,rfl,rfl,hq1⟩,rfl⟩
      rw[hu] at hq1 ⊢
      have hm1:u.1.nodes.length≤u.1.most:=by rw[e1.most];exact hq1
      refine L.assign rfl<|WL.nil<|WP.region<|L.move rfl<|L.move rfl<|L.move rfl<|L.fieldAddr (o':=2) T111.f2 rfl rfl<|L.load T3.sc rfl (Rd.own 10 rfl rfl)<|L.fieldAddr (o':=1) T111.f1 rfl rfl<|L.load T3.sc rfl (Rd.own 11 rfl rfl)<|L.fieldAddr (o':=2) T111.f2 rfl rfl<|L.load T3.sc rfl (Rd.own 11 rfl rfl)<|WL.callS rfl rfl F111.fn rfl (FT.partP (seaS b ⟨tv,tw,nv1,bp,br,bl,bn,ov,bm,bk⟩ u.1) _ ((Ent.refl _)) fun g gS dj=>sea_lineP b ⟨tv,tw,nv1,bp,br,bl,bn,ov,bm,bk⟩ u.1 G1.K (S.nodes.getD (S.nodes.getD id .no).a .no).b (S.nodes.getD (S.nodes.getD id .no).b .no).a (S.nodes.getD (S.nodes.getD id .no).b .no).b lab1.1 lba1.1 lbb1.1 (G1.row lab1) (G1.row lba1) (G1.row lbb1) hm1) ?_ ?_
      · intro τ9 h9
        obtain⟨_,⟨A9,S9,rfl,hs9,hl9⟩,rfl⟩:=h9
        exact⟨rfl,.inr ⟨rfl,_,⟨A9,S9,rfl,hs9.of G1,by rw[hv] at hl9;have:=e3.len;have:=G1.most;rw[FINEQ];dsimp only;omega⟩,Ent.right _ _⟩⟩
      rintro _ _ ⟨_,⟨nv2,rfl,rfl,hq2⟩,rfl⟩
      rw[hv] at hq2 ⊢
      have hm2:v.1.nodes.length≤v.1.most:=by rw[e2.most];exact hq2
      refine WL.callS rfl rfl F56.fn rfl (FT.partP (seaS b ⟨tv,tw,nv2,bp,br,bl,bn,ov,bm,bk⟩ v.1) _ ((Ent.refl _)) fun g gS dj=>sea_pairP b ⟨tv,tw,nv2,bp,br,bl,bn,ov,bm,bk⟩ v.1 u.2 v.2 lu2.1 hm2 G2.K.most (by have h9:(v.1.nodes.getD u.2 .no).level=_:=lu2.2;omega)) ?_ ?_
      · intro τ9 h9
        obtain⟨_,⟨A9,S9,rfl,hs9,hl9⟩,rfl⟩:=h9
        exact⟨rfl,.inr ⟨rfl,_,⟨A9,S9,rfl,hs9.of G2,by rw[hw] at hl9;have:=G2.most;rw[FINEQ];dsimp only;omega⟩,Ent.right _ _⟩⟩
      rintro _ _ ⟨_,⟨nv3,rfl,rfl,hq3⟩,rfl⟩
      rw[hw] at hq3 ⊢
      have hm3:w.1.nodes.length≤w.1.most:=by rw[e3.most];exact hq3
      refine L.assign rfl<|WL.nil<|X.blockN<|X.thenN ⟨(nv3,w.1,w.2),⟨FINEQ,by have:=G2.most;dsimp only;omega⟩,(Env.Sub.cons rfl rfl (Env.Sub.cons rfl rfl (Env.Sub.cons rfl rfl Env.Sub.nil))),(Ent.pk [13,0,0,0,0,0,0,0,0,0,0] rfl)⟩
     ·
      obtain⟨l,rfl⟩:∃ l,lm=l+1:=⟨lm-1,by omega⟩
      refine WP.regs<|L.move rfl<|L.fieldAddr (o':=0) T111.f0 rfl rfl<|L.load T3.sc rfl (Rd.own 2 rfl rfl)<|L.sub' rfl rfl (by omega)<|L.eql rfl rfl<|L.assign rfl<|WL.nil<|WP.condD rfl (fun h144=>?_) (fun h144=>?_)
      ·
       obtain⟨G1,lp1,e1⟩:=G0.pair lab0 lba0 (by omega)
       have la1:=la0.up e1
       have lb1:=lb0.up e1
       generalize hp:S.pair (S.nodes.getD (S.nodes.getD id .no).a .no).b (S.nodes.getD (S.nodes.getD id .no).b .no).a=p at G1 lp1 e1 la1 lb1
       obtain⟨G2,lx2,e2⟩:=G1.mid (f:=f) la1 (by omega) (show j-1≤l by omega)
       have lp2:=lp1.up e2
       have lb2:=lb1.up e2
       generalize hx:SeaD.mid f p.1 (S.nodes.getD id .no).a (j-1)=x at G2 lx2 e2 lp2 lb2
       obtain⟨G3,ly3,e3⟩:=G2.mid (f:=f) lp2 (by omega) (show j-1≤l by omega)
       have lx3:=lx2.up e3
       have lb3:=lb2.up e3
       generalize hy:SeaD.mid f x.1 p.2 (j-1)=y at G3 ly3 e3 lx3 lb3
       obtain⟨G4,lz4,e4⟩:=G3.mid (f:=f) lb3 (by omega) (show j-1≤l by omega)
       have lx4:=lx3.up e4
       have ly4:=ly3.up e4
       generalize hz:SeaD.mid f y.1 (S.nodes.getD id .no).b (j-1)=z at G4 lz4 e4 lx4 ly4
       obtain⟨G5,lq5,e5⟩:=G4.pair lx4 ly4 (by omega)
       have ly5:=ly4.up e5
       have lz5:=lz4.up e5
       generalize hqq:z.1.pair x.2 y.2=qq at G5 lq5 e5 ly5 lz5
       obtain⟨G6,lu6,e6⟩:=G5.mid (f:=f) lq5 (by omega) (show j-1≤l by omega)
       have ly6:=ly5.up e6
       have lz6:=lz5.up e6
       generalize hu:SeaD.mid f qq.1 qq.2 (j-1)=u at G6 lu6 e6 ly6 lz6
       obtain⟨G7,lr7,e7⟩:=G6.pair ly6 lz6 (by omega)
       have lu7:=lu6.up e7
       generalize hr:u.1.pair y.2 z.2=r at G7 lr7 e7 lu7
       obtain⟨G8,lv8,e8⟩:=G7.mid (f:=f) lr7 (by omega) (show j-1≤l by omega)
       have lu8:=lu7.up e8
       generalize hv:SeaD.mid f r.1 r.2 (j-1)=v at G8 lv8 e8 lu8
       obtain⟨G9,lw9,e9⟩:=G8.pair lu8 lv8 (by omega)
       generalize hw:v.1.pair u.2 v.2=w at G9 lw9 e9
       have FINEQ:SeaD.mid (f+1) S id j=({w.1 with leaps:=mput w.1.leaps (id,j) w.2},w.2):=(by simp only[SeaD.mid,hq];rw[if_neg (by have:(S.nd id).level=l+1+2:=hlm;omega),if_pos (by have:(S.nd id).level=l+1+2:=hlm;omega),hp,hx,hy,hz,hqq,hu,hr,hv,hw])
       refine WP.regs<|L.move rfl<|L.fieldAddr (o':=2) T111.f2 rfl rfl<|L.load T3.sc rfl (Rd.own 0 rfl rfl)<|L.fieldAddr (o':=1) T111.f1 rfl rfl<|L.load T3.sc rfl (Rd.own 1 rfl rfl)<|WL.callS rfl rfl F56.fn rfl (FT.partP (seaS b ⟨tv,tw,.slice (some ⟨c0,0,none⟩) S.nodes.length ncap,bp,br,bl,bn,ov,bm,bk⟩ S) _ ((Ent.pk [4,4,4,4,4,4,4,4,4,4,0,0,0,0] rfl)) fun g gS dj=>sea_pairP b ⟨tv,tw,.slice (some ⟨c0,0,none⟩) S.nodes.length ncap,bp,br,bl,bn,ov,bm,bk⟩ S (S.nodes.getD (S.nodes.getD id .no).a .no).b (S.nodes.getD (S.nodes.getD id .no).b .no).a lab0.1 hm0 G0.K.most (by have h9:(S.nodes.getD (S.nodes.getD (S.nodes.getD id .no).a .no).b .no).level=_:=lab0.2;omega)) ?_ ?_
       · intro τ9 h9
         obtain⟨_,⟨A9,S9,rfl,hs9,hl9⟩,rfl⟩:=h9
         exact⟨rfl,.inr ⟨rfl,_,⟨A9,S9,rfl,hs9.of G0,by rw[hp] at hl9;have:=e2.len;have:=e3.len;have:=e4.len;have:=e5.len;have:=e6.len;have:=e7.len;have:=e8.len;have:=e9.len;have:=G0.most;rw[FINEQ];dsimp only;omega⟩,Ent.right _ _⟩⟩
       rintro _ _ ⟨_,⟨nv1,rfl,rfl,hq1⟩,rfl⟩
       rw[hp] at hq1 ⊢
       have hm1:p.1.nodes.length≤p.1.most:=by rw[e1.most];exact hq1
       refine L.assign rfl<|WL.nil<|WP.seq<|WP.regeq _ (Ent.left [_,_,_,_,_,_,_,_,_,_] _) [(0,true),(1,true),(2,true),(3,true),(4,true),(6,true),(7,true),(8,true),(9,true),(11,true),(12,true),(13,true),(14,true),(15,true),(5,false),(10,false),(16,false),(17,false),(18,false),(19,false)] 16 rfl (by kernel_rfl) (PInv.then (PInv.block (PInv.then PInv.ret))) rfl<|WE.take rfl (V.move rfl)<|WE.take rfl (V.fieldAddr (o':=1) T111.f1 rfl rfl)<|WE.take rfl (V.load T3.sc rfl (Rd.own 2 rfl rfl))<|WE.take rfl (V.move rfl) ?_;refine WE.take rfl (V.sub' rfl rfl (by omega))<|WE.take rfl (V.move rfl)<|WE.take rfl (V.move rfl)<|WE.take rfl (V.move rfl)<|WE.take rfl (V.sub' rfl rfl (by omega))<|WE.take rfl (V.move rfl)<|WE.take rfl (V.fieldAddr (o':=2) T111.f2 rfl rfl)<|WE.take rfl (V.load T3.sc rfl (Rd.own 2 rfl rfl))<|WE.take rfl (V.move rfl)<|WE.take rfl (V.sub' rfl rfl (by omega))<|WE.one rfl<|WL.callS rfl rfl F60.fn rfl (FT.partP (seaS b ⟨tv,tw,nv1,bp,br,bl,bn,ov,bm,bk⟩ p.1) _ ((Ent.refl _)) fun g gS dj=>ih k _ ⟨tv,tw,nv1,bp,br,bl,bn,ov,bm,bk⟩ p.1 (S.nodes.getD id .no).a (j-1) _ l (by omega) G1.K G1.i la1 (by omega) (by omega) hm1) ?_ ?_
       · intro τ9 h9
         obtain⟨_,⟨A9,S9,rfl,hs9,hl9⟩,rfl⟩:=h9
         exact⟨rfl,.inr ⟨rfl,_,⟨A9,S9,rfl,hs9.of G1,by rw[hx] at hl9;have:=e3.len;have:=e4.len;have:=e5.len;have:=e6.len;have:=e7.len;have:=e8.len;have:=e9.len;have:=G1.most;rw[FINEQ];dsimp only;omega⟩,Ent.right _ _⟩⟩
       rintro _ _ ⟨_,⟨nv2,rfl,rfl,hq2⟩,rfl⟩
       rw[hx] at hq2 ⊢
       have hm2:x.1.nodes.length≤x.1.most:=by rw[e2.most];exact hq2
       refine WL.nil ⟨(Ent.left [_,_,_,_,_,_,_,_,_,_] _),?_⟩;refine WE.one rfl<|WL.callS rfl rfl F60.fn rfl (FT.partP (seaS b ⟨tv,tw,nv2,bp,br,bl,bn,ov,bm,bk⟩ x.1) _ ((Ent.refl _)) fun g gS dj=>ih k _ ⟨tv,tw,nv2,bp,br,bl,bn,ov,bm,bk⟩ x.1 p.2 (j-1) _ l (by omega) G2.K G2.i lp2 (by omega) (by omega) hm2) ?_ ?_
       · intro τ9 h9
         obtain⟨_,⟨A9,S9,rfl,hs9,hl9⟩,rfl⟩:=h9
         exact⟨rfl,.inr ⟨rfl,_,⟨A9,S9,rfl,hs9.of G2,by rw[hy] at hl9;have:=e4.len;have:=e5.len;have:=e6.len;have:=e7.len;have:=e8.len;have:=e9.len;have:=G2.most;rw[FINEQ];dsimp only;omega⟩,Ent.right _ _⟩⟩
       rintro _ _ ⟨_,⟨nv3,rfl,rfl,hq3⟩,rfl⟩
       rw[hy] at hq3 ⊢
       have hm3:y.1.nodes.length≤y.1.most:=by rw[e3.most];exact hq3
       refine WL.nil ⟨(Ent.left [_,_,_,_,_,_,_,_,_,_] _),?_⟩;refine WE.last rfl<|WL.callS rfl rfl F60.fn rfl (FT.partP (seaS b ⟨tv,tw,nv3,bp,br,bl,bn,ov,bm,bk⟩ y.1) _ ((Ent.refl _)) fun g gS dj=>ih k _ ⟨tv,tw,nv3,bp,br,bl,bn,ov,bm,bk⟩ y.1 (S.nodes.getD id .no).b (j-1) _ l (by omega) G3.K G3.i lb3 (by omega) (by omega) hm3) ?_ ?_
       · intro τ9 h9
         obtain⟨_,⟨A9,S9,rfl,hs9,hl9⟩,rfl⟩:=h9
         exact⟨rfl,.inr ⟨rfl,_,⟨A9,S9,rfl,hs9.of G3,by rw[hz] at hl9;have:=e5.len;have:=e6.len;have:=e7.len;have:=e8.len;have:=e9.len;have:=G3.most;rw[FINEQ];dsimp only;omega⟩,Ent.right _ _⟩⟩
       rintro _ _ ⟨_,⟨nv4,rfl,rfl,hq4⟩,rfl⟩
       rw[hz] at hq4 ⊢
       have hm4:z.1.nodes.length≤z.1.most:=by rw[e4.most];exact hq4
       refine WL.nil<|WE.more rfl<|L.assign rfl<|WL.nil<|WE.more rfl<|L.assign rfl<|WL.nil<|WE.more rfl<|L.assign rfl<|WL.nil<|WE.nil<|X.thenN<|WP.regs<|L.move rfl<|L.move rfl<|L.move rfl<|L.move rfl<|WL.callS rfl rfl F56.fn rfl (FT.partP (seaS b ⟨tv,tw,nv4,bp,br,bl,bn,ov,bm,bk⟩ z.1) _ ((Ent.refl _)) fun g gS dj=>sea_pairP b ⟨tv,tw,nv4,bp,br,bl,bn,ov,bm,bk⟩ z.1 x.2 y.2 lx4.1 hm4 G4.K.most (by have h9:(z.1.nodes.getD x.2 .no).level=_:=lx4.2;omega)) ?_ ?_
       · intro τ9 h9
         obtain⟨_,⟨A9,S9,rfl,hs9,hl9⟩,rfl⟩:=h9
         exact⟨rfl,.inr ⟨rfl,_,⟨A9,S9,rfl,hs9.of G4,by rw[hqq] at hl9;have:=e6.len;have:=e7.len;have:=e8.len;have:=e9.len;have:=G4.most;rw[FINEQ];dsimp only;omega⟩,Ent.right _ _⟩⟩
       rintro _ _ ⟨_,⟨nv5,rfl,rfl,hq5⟩,rfl⟩
       rw[hqq] at hq5 ⊢
       have hm5:qq.1.nodes.length≤qq.1.most:=by rw[e5.most];exact hq5
       refine L.move rfl<|L.sub' rfl rfl (by omega)<|WL.callS rfl rfl F60.fn rfl (FT.partP (seaS b ⟨tv,tw,nv5,bp,br,bl,bn,ov,bm,bk⟩ qq.1) _ ((Ent.refl _)) fun g gS dj=>ih k _ ⟨tv,tw,nv5,bp,br,bl,bn,ov,bm,bk⟩ qq.1 qq.2 (j-1) _ l (by omega) G5.K G5.i lq5 (by omega) (by omega) hm5) ?_ ?_
       · intro τ9 h9
         obtain⟨_,⟨A9,S9,rfl,hs9,hl9⟩,rfl⟩:=h9
         exact⟨rfl,.inr ⟨rfl,_,⟨A9,S9,rfl,hs9.of G5,by rw[hu] at hl9;have:=e7.len;have:=e8.len;have:=e9.len;have:=G5.most;rw[FINEQ];dsimp only;omega⟩,Ent.right _ _⟩⟩
       rintro _ _ ⟨_,⟨nv6,rfl,rfl,hq6⟩,rfl⟩
       rw[hu] at hq6 ⊢
       have hm6:u.1.nodes.length≤u.1.most:=by rw[e6.most];exact hq6
       refine L.assign rfl<|WL.nil<|WP.region<|L.move rfl<|L.move rfl<|L.move rfl<|L.move rfl<|L.move rfl<|L.move rfl<|WL.callS rfl rfl F56.fn rfl (FT.partP (seaS b ⟨tv,tw,nv6,bp,br,bl,bn,ov,bm,bk⟩ u.1) _ ((Ent.refl _)) fun g gS dj=>sea_pairP b ⟨tv,tw,nv6,bp,br,bl,bn,ov,bm,bk⟩ u.1 y.2 z.2 ly6.1 hm6 G6.K.most (by have h9:(u.1.nodes.getD y.2 .no).level=_:=ly6.2;omega)) ?_ ?_
       · intro τ9 h9
         obtain⟨_,⟨A9,S9,rfl,hs9,hl9⟩,rfl⟩:=h9
         exact⟨rfl,.inr ⟨rfl,_,⟨A9,S9,rfl,hs9.of G6,by rw[hr] at hl9;have:=e8.len;have:=e9.len;have:=G6.most;rw[FINEQ];dsimp only;omega⟩,Ent.right _ _⟩⟩
       rintro _ _ ⟨_,⟨nv7,rfl,rfl,hq7⟩,rfl⟩
       rw[hr] at hq7 ⊢
       have hm7:r.1.nodes.length≤r.1.most:=by rw[e7.most];exact hq7
       refine L.move rfl<|L.sub' rfl rfl (by omega)<|WL.callS rfl rfl F60.fn rfl (FT.partP (seaS b ⟨tv,tw,nv7,bp,br,bl,bn,ov,bm,bk⟩ r.1) _ ((Ent.refl _)) fun g gS dj=>ih k _ ⟨tv,tw,nv7,bp,br,bl,bn,ov,bm,bk⟩ r.1 r.2 (j-1) _ l (by omega) G7.K G7.i lr7 (by omega) (by omega) hm7) ?_ ?_
       · intro τ9 h9
         obtain⟨_,⟨A9,S9,rfl,hs9,hl9⟩,rfl⟩:=h9
         exact⟨rfl,.inr ⟨rfl,_,⟨A9,S9,rfl,hs9.of G7,by rw[hv] at hl9;have:=e9.len;have:=G7.most;rw[FINEQ];dsimp only;omega⟩,Ent.right _ _⟩⟩
       rintro _ _ ⟨_,⟨nv8,rfl,rfl,hq8⟩,rfl⟩
       rw[hv] at hq8 ⊢
       have hm8:v.1.nodes.length≤v.1.most:=by rw[e8.most];exact hq8
       refine WL.callS rfl rfl F56.fn rfl (FT.partP (seaS b ⟨tv,tw,nv8,bp,br,bl,bn,ov,bm,bk⟩ v.1) _ ((Ent.refl _)) fun g gS dj=>sea_pairP b ⟨tv,tw,nv8,bp,br,bl,bn,ov,bm,bk⟩ v.1 u.2 v.2 lu8.1 hm8 G8.K.most (by have h9:(v.1.nodes.getD u.2 .no).level=_:=lu8.2;omega)) ?_ ?_
       · intro τ9 h9
         obtain⟨_,⟨A9,S9,rfl,hs9,hl9⟩,rfl⟩:=h9
         exact⟨rfl,.inr ⟨rfl,_,⟨A9,S9,rfl,hs9.of G8,by rw[hw] at hl9;have:=G8.most;rw[FINEQ];dsimp only;omega⟩,Ent.right _ _⟩⟩
       rintro _ _ ⟨_,⟨nv9,rfl,rfl,hq9⟩,rfl⟩
       rw[hw] at hq9 ⊢
       have hm9:w.1.nodes.length≤w.1.most:=by rw[e9.most];exact hq9
       refine L.assign rfl<|WL.nil<|X.blockN<|X.thenN ⟨(nv9,w.1,w.2),⟨FINEQ,by have:=G8.most;dsimp only;omega⟩,(Env.Sub.cons rfl rfl (Env.Sub.cons rfl rfl (Env.Sub.cons rfl rfl Env.Sub.nil))),(Ent.pk [13,0,0,0,0,0,0,0,0,0,0] rfl)⟩
      ·
       obtain⟨G1,lp1,e1⟩:=G0.pair lab0 lba0 (by omega)
       have la1:=la0.up e1
       have lb1:=lb0.up e1
       generalize hp:S.pair (S.nodes.getD (S.nodes.getD id .no).a .no).b (S.nodes.getD (S.nodes.getD id .no).b .no).a=p at G1 lp1 e1 la1 lb1
       obtain⟨G2,lx2,e2⟩:=G1.mid (f:=f) la1 (by omega) (show j≤l by omega)
       have lp2:=lp1.up e2
       have lb2:=lb1.up e2
       generalize hx:SeaD.mid f p.1 (S.nodes.getD id .no).a j=x at G2 lx2 e2 lp2 lb2
       obtain⟨G3,ly3,e3⟩:=G2.mid (f:=f) lp2 (by omega) (show j≤l by omega)
       have lx3:=lx2.up e3
       have lb3:=lb2.up e3
       generalize hy:SeaD.mid f x.1 p.2 j=y at G3 ly3 e3 lx3 lb3
       obtain⟨G4,lz4,e4⟩:=G3.mid (f:=f) lb3 (by omega) (show j≤l by omega)
       have lx4:=lx3.up e4
       have ly4:=ly3.up e4
       generalize hz:SeaD.mid f y.1 (S.nodes.getD id .no).b j=z at G4 lz4 e4 lx4 ly4
       obtain⟨_,lxb4⟩:=G4.kids lx4
       obtain⟨lya4,lyb4⟩:=G4.kids ly4
       obtain⟨lza4,_⟩:=G4.kids lz4
       have hx2:=lx4.1;have hy2:=ly4.1;have hz2:=lz4.1
       obtain⟨G5,lu5,e5⟩:=G4.pair lxb4 lya4 (by omega)
       have lyb5:=lyb4.up e5
       have lza5:=lza4.up e5
       generalize hu:z.1.pair (z.1.nodes.getD x.2 .no).b (z.1.nodes.getD y.2 .no).a=u at G5 lu5 e5 lyb5 lza5
       obtain⟨G6,lv6,e6⟩:=G5.pair lyb5 lza5 (by omega)
       have lu6:=lu5.up e6
       generalize hv:u.1.pair (z.1.nodes.getD y.2 .no).b (z.1.nodes.getD z.2 .no).a=v at G6 lv6 e6 lu6
       obtain⟨G7,lw7,e7⟩:=G6.pair lu6 lv6 (by omega)
       generalize hw:v.1.pair u.2 v.2=w at G7 lw7 e7
       have FINEQ:SeaD.mid (f+1) S id j=({w.1 with leaps:=mput w.1.leaps (id,j) w.2},w.2):=(by simp only[SeaD.mid,hq];rw[if_neg (by have:(S.nd id).level=l+1+2:=hlm;omega),if_neg (by have:(S.nd id).level=l+1+2:=hlm;omega),hp,hx,hy,hz,hu,hv,hw])
       refine WP.regs<|L.move rfl<|L.fieldAddr (o':=2) T111.f2 rfl rfl<|L.load T3.sc rfl (Rd.own 0 rfl rfl)<|L.fieldAddr (o':=1) T111.f1 rfl rfl<|L.load T3.sc rfl (Rd.own 1 rfl rfl)<|WL.callS rfl rfl F56.fn rfl (FT.partP (seaS b ⟨tv,tw,.slice (some ⟨c0,0,none⟩) S.nodes.length ncap,bp,br,bl,bn,ov,bm,bk⟩ S) _ ((Ent.pk [4,4,4,4,4,4,4,4,4,4,0,0,0,0] rfl)) fun g gS dj=>sea_pairP b ⟨tv,tw,.slice (some ⟨c0,0,none⟩) S.nodes.length ncap,bp,br,bl,bn,ov,bm,bk⟩ S (S.nodes.getD (S.nodes.getD id .no).a .no).b (S.nodes.getD (S.nodes.getD id .no).b .no).a lab0.1 hm0 G0.K.most (by have h9:(S.nodes.getD (S.nodes.getD (S.nodes.getD id .no).a .no).b .no).level=_:=lab0.2;omega)) ?_ ?_
       · intro τ9 h9
         obtain⟨_,⟨A9,S9,rfl,hs9,hl9⟩,rfl⟩:=h9
         exact⟨rfl,.inr ⟨rfl,_,⟨A9,S9,rfl,hs9.of G0,by rw[hp] at hl9;have:=e2.len;have:=e3.len;have:=e4.len;have:=e5.len;have:=e6.len;have:=e7.len;have:=G0.most;rw[FINEQ];dsimp only;omega⟩,Ent.right _ _⟩⟩
       rintro _ _ ⟨_,⟨nv1,rfl,rfl,hq1⟩,rfl⟩
       rw[hp] at hq1 ⊢
       have hm1:p.1.nodes.length≤p.1.most:=by rw[e1.most];exact hq1
       refine L.assign rfl<|WL.nil<|WP.regs<|L.move rfl<|L.fieldAddr (o':=1) T111.f1 rfl rfl<|L.load T3.sc rfl (Rd.own 12 rfl rfl)<|L.move rfl<|WL.callS rfl rfl F60.fn rfl (FT.partP (seaS b ⟨tv,tw,nv1,bp,br,bl,bn,ov,bm,bk⟩ p.1) _ ((Ent.refl _)) fun g gS dj=>ih k _ ⟨tv,tw,nv1,bp,br,bl,bn,ov,bm,bk⟩ p.1 (S.nodes.getD id .no).a (j) _ l (by omega) G1.K G1.i la1 (by omega) (by omega) hm1) ?_ ?_
       · intro τ9 h9
         obtain⟨_,⟨A9,S9,rfl,hs9,hl9⟩,rfl⟩:=h9
         exact⟨rfl,.inr ⟨rfl,_,⟨A9,S9,rfl,hs9.of G1,by rw[hx] at hl9;have:=e3.len;have:=e4.len;have:=e5.len;have:=e6.len;have:=e7.len;have:=G1.most;rw[FINEQ];dsimp only;omega⟩,Ent.right _ _⟩⟩
       rintro _ _ ⟨_,⟨nv2,rfl,rfl,hq2⟩,rfl⟩
       rw[hx] at hq2 ⊢
       have hm2:x.1.nodes.length≤x.1.most:=by rw[e2.most];exact hq2
       refine L.assign rfl<|WL.nil<|WP.regs<|L.move rfl<|L.move rfl<|L.move rfl<|WL.callS rfl rfl F60.fn rfl (FT.partP (seaS b ⟨tv,tw,nv2,bp,br,bl,bn,ov,bm,bk⟩ x.1) _ ((Ent.refl _)) fun g gS dj=>ih k _ ⟨tv,tw,nv2,bp,br,bl,bn,ov,bm,bk⟩ x.1 p.2 (j) _ l (by omega) G2.K G2.i lp2 (by omega) (by omega) hm2) ?_ ?_
       · intro τ9 h9
         obtain⟨_,⟨A9,S9,rfl,hs9,hl9⟩,rfl⟩:=h9
         exact⟨rfl,.inr ⟨rfl,_,⟨A9,S9,rfl,hs9.of G2,by rw[hy] at hl9;have:=e4.len;have:=e5.len;have:=e6.len;have:=e7.len;have:=G2.most;rw[FINEQ];dsimp only;omega⟩,Ent.right _ _⟩⟩
       rintro _ _ ⟨_,⟨nv3,rfl,rfl,hq3⟩,rfl⟩
       rw[hy] at hq3 ⊢
       have hm3:y.1.nodes.length≤y.1.most:=by rw[e3.most];exact hq3
       refine L.assign rfl<|WL.nil<|WP.regs<|L.move rfl<|L.fieldAddr (o':=2) T111.f2 rfl rfl<|L.load T3.sc rfl (Rd.own 12 rfl rfl)<|L.move rfl<|WL.callS rfl rfl F60.fn rfl (FT.partP (seaS b ⟨tv,tw,nv3,bp,br,bl,bn,ov,bm,bk⟩ y.1) _ ((Ent.refl _)) fun g gS dj=>ih k _ ⟨tv,tw,nv3,bp,br,bl,bn,ov,bm,bk⟩ y.1 (S.nodes.getD id .no).b (j) _ l (by omega) G3.K G3.i lb3 (by omega) (by omega) hm3) ?_ ?_
       · intro τ9 h9
         obtain⟨_,⟨A9,S9,rfl,hs9,hl9⟩,rfl⟩:=h9
         exact⟨rfl,.inr ⟨rfl,_,⟨A9,S9,rfl,hs9.of G3,by rw[hz] at hl9;have:=e5.len;have:=e6.len;have:=e7.len;have:=G3.most;rw[FINEQ];dsimp only;omega⟩,Ent.right _ _⟩⟩
       rintro _ _ ⟨_,⟨nv4,rfl,rfl,hq4⟩,rfl⟩
       rw[hz] at hq4 ⊢
       have hm4:z.1.nodes.length≤z.1.most:=by rw[e4.most];exact hq4
       refine WL.fact (fun _ _ _ s=>s.vec_shape (E:=111) (sz:=4) 1 rfl) ?_;rintro ⟨_,na2,ncap2,hnv2,_,hna2⟩
       obtain⟨c2,rfl⟩:=hna2 (by omega)
       dsimp only at hnv2
       subst hnv2
       refine L.assign rfl<|WL.nil<|WP.cut (X:=Nat × Nat × Nat) (fun cc=>⟨199,[],[(0,.pointer (some ⟨b,0,none⟩)),(7,.pointer (some ⟨c7,0,none⟩)),(24,.pointer (some ⟨cc.1,0,none⟩)),(25,.pointer (some ⟨cc.2.1,0,none⟩)),(26,.pointer (some ⟨cc.2.2,0,none⟩))]⟩) (fun cc=>[cl cc.1 (nodeC (z.1.nodes.getD x.2 .no)) 111,cl cc.2.1 (nodeC (z.1.nodes.getD y.2 .no)) 111,cl cc.2.2 (nodeC (z.1.nodes.getD z.2 .no)) 111,cl c7 [.int .i64 (id:Int),.int .i64 (j:Int)] 173]++seaS b ⟨tv,tw,.slice (some ⟨c2,0,none⟩) z.1.nodes.length ncap2,bp,br,bl,bn,ov,bm,bk⟩ z.1) (fun cc=>True) ?_ ?_
       ·
        refine WP.regn _ rfl ?_ (Ent.refl _)
        refine WT.read (m:=6) (fin:=fun l=>l == #[true,true,true,true,true,true,true,true,true,true,true,true,true,true,true,true,true,true,true,true,true,false,false,false,false,false,false]) [(0,true),(1,true),(2,true),(3,true),(4,true),(5,true),(6,true),(7,true),(8,true),(9,true),(10,true),(11,true),(12,true),(13,true),(14,true),(15,true),(16,true),(17,true),(18,true),(19,true),(20,true)] (by kernel_rfl) (PInv.then (PInv.block (PInv.then PInv.ret))) (Ent.refl _)<|WE.take rfl (V.move rfl) ?_;refine WE.take rfl (V.nilCheck rfl)<|WE.take rfl (V.fieldAddr (o':=18) T59.f4 rfl rfl)<|WE.take rfl (V.load T51.sc rfl (Rd.own 0 rfl rfl))<|WE.take rfl (V.move rfl)<|WE.take rfl (V.indexS T51.sl rfl rfl (by omega))<|WE.take rfl (V.loadN T111.ag rfl rfl (Rds.vec (vs:=nodeC (z.1.nodes.getD x.2 .no)) 1 rfl (fun j v hj=>nodesC_rd z.1.nodes x.2 lx4.1 j hj)))<|WE.take rfl (V.move rfl)<|WE.take rfl (V.nilCheck rfl)<|WE.take rfl (V.fieldAddr (o':=18) T59.f4 rfl rfl)<|WE.take rfl (V.load T51.sc rfl (Rd.own 0 rfl rfl))<|WE.take rfl (V.move rfl) ?_;refine WE.take rfl (V.indexS T51.sl rfl rfl (by omega))<|WE.take rfl (V.loadN T111.ag rfl rfl (Rds.vec (vs:=nodeC (z.1.nodes.getD y.2 .no)) 1 rfl (fun j v hj=>nodesC_rd z.1.nodes y.2 ly4.1 j hj)))<|WE.take rfl (V.move rfl)<|WE.take rfl (V.nilCheck rfl)<|WE.take rfl (V.fieldAddr (o':=18) T59.f4 rfl rfl)<|WE.take rfl (V.load T51.sc rfl (Rd.own 0 rfl rfl))<|WE.take rfl (V.move rfl)<|WE.take rfl (V.indexS T51.sl rfl rfl (by omega))<|WE.take rfl (V.loadN T111.ag rfl rfl (Rds.vec (vs:=nodeC (z.1.nodes.getD z.2 .no)) 1 rfl (fun j v hj=>nodesC_rd z.1.nodes z.2 lz4.1 j hj)))<|WE.free #[true,true,true,true,true,true,true,true,true,true,true,true,true,true,true,true,true,true,true,true,true,false,false,false,false,false,false] ?_;refine WN.three 21 22 23 (by kernel_rfl) rfl rfl rfl ?_ ?_ ?_
        ·
         refine L.alloc T111.z fun c24=>WL.nil ⟨(Ent.left [_] _),?_⟩;refine WN.two 22 23 (by kernel_rfl) rfl rfl ?_ ?_
         ·
          refine L.alloc T111.z fun c25=>WL.nil ⟨(Ent.left [_,_] _),?_⟩;refine WN.one 23 (by kernel_rfl) rfl<|L.alloc T111.z fun c26=>WL.nil ⟨(Ent.left [_,_,_] _),?_⟩;refine WN.one 24 (by kernel_rfl) rfl<|L.storeN T111.ag rfl rfl rfl (Wrs.all 2 rfl rfl (by simp[Value.oneCell']))<|WL.nil ⟨(Ent.left [_,_,_] _),?_⟩;refine WN.one 25 (by kernel_rfl) rfl<|L.storeN T111.ag rfl rfl rfl (Wrs.all 1 rfl rfl (by simp[Value.oneCell']))<|WL.nil ⟨(Ent.left [_,_,_] _),?_⟩;refine WN.one 26 (by kernel_rfl) rfl<|L.storeN T111.ag rfl rfl rfl (Wrs.all 0 rfl rfl (by simp[Value.oneCell']))<|WL.nil ⟨(Ent.left [_,_,_] _),?_⟩
          refine WT.nil (by kernel_rfl)<|X.thenN ⟨(c24,c25,c26),trivial,(Env.Sub.cons rfl rfl (Env.Sub.cons rfl rfl (Env.Sub.cons rfl rfl (Env.Sub.cons rfl rfl (Env.Sub.cons rfl rfl Env.Sub.nil))))),(Ent.pk [2,1,0,13,0,0,0,0,0,0,0,0,0,0] rfl)⟩
         ·
          refine L.alloc T111.z fun c26=>WL.nil ⟨(Ent.left [_,_] _),?_⟩;refine WN.one 22 (by kernel_rfl) rfl<|L.alloc T111.z fun c25=>WL.nil ⟨(Ent.left [_,_,_] _),?_⟩;refine WN.one 24 (by kernel_rfl) rfl<|L.storeN T111.ag rfl rfl rfl (Wrs.all 2 rfl rfl (by simp[Value.oneCell']))<|WL.nil ⟨(Ent.left [_,_,_] _),?_⟩;refine WN.one 25 (by kernel_rfl) rfl<|L.storeN T111.ag rfl rfl rfl (Wrs.all 0 rfl rfl (by simp[Value.oneCell']))<|WL.nil ⟨(Ent.left [_,_,_] _),?_⟩;refine WN.one 26 (by kernel_rfl) rfl<|L.storeN T111.ag rfl rfl rfl (Wrs.all 1 rfl rfl (by simp[Value.oneCell']))<|WL.nil ⟨(Ent.left [_,_,_] _),?_⟩
          refine WT.nil (by kernel_rfl)<|X.thenN ⟨(c24,c25,c26),trivial,(Env.Sub.cons rfl rfl (Env.Sub.cons rfl rfl (Env.Sub.cons rfl rfl (Env.Sub.cons rfl rfl (Env.Sub.cons rfl rfl Env.Sub.nil))))),(Ent.pk [2,0,0,13,0,0,0,0,0,0,0,0,0,0] rfl)⟩
        ·
         refine L.alloc T111.z fun c25=>WL.nil ⟨(Ent.left [_] _),?_⟩;refine WN.two 21 23 (by kernel_rfl) rfl rfl ?_ ?_
         ·
          refine L.alloc T111.z fun c24=>WL.nil ⟨(Ent.left [_,_] _),?_⟩;refine WN.one 23 (by kernel_rfl) rfl<|L.alloc T111.z fun c26=>WL.nil ⟨(Ent.left [_,_,_] _),?_⟩;refine WN.one 24 (by kernel_rfl) rfl<|L.storeN T111.ag rfl rfl rfl (Wrs.all 1 rfl rfl (by simp[Value.oneCell']))<|WL.nil ⟨(Ent.left [_,_,_] _),?_⟩;refine WN.one 25 (by kernel_rfl) rfl<|L.storeN T111.ag rfl rfl rfl (Wrs.all 2 rfl rfl (by simp[Value.oneCell']))<|WL.nil ⟨(Ent.left [_,_,_] _),?_⟩;refine WN.one 26 (by kernel_rfl) rfl<|L.storeN T111.ag rfl rfl rfl (Wrs.all 0 rfl rfl (by simp[Value.oneCell']))<|WL.nil ⟨(Ent.left [_,_,_] _),?_⟩
          refine WT.nil (by kernel_rfl)<|X.thenN ⟨(c24,c25,c26),trivial,(Env.Sub.cons rfl rfl (Env.Sub.cons rfl rfl (Env.Sub.cons rfl rfl (Env.Sub.cons rfl rfl (Env.Sub.cons rfl rfl Env.Sub.nil))))),(Ent.pk [1,1,0,13,0,0,0,0,0,0,0,0,0,0] rfl)⟩
         ·
          refine L.alloc T111.z fun c26=>WL.nil ⟨(Ent.left [_,_] _),?_⟩;refine WN.one 21 (by kernel_rfl) rfl<|L.alloc T111.z fun c24=>WL.nil ⟨(Ent.left [_,_,_] _),?_⟩;refine WN.one 24 (by kernel_rfl) rfl<|L.storeN T111.ag rfl rfl rfl (Wrs.all 0 rfl rfl (by simp[Value.oneCell']))<|WL.nil ⟨(Ent.left [_,_,_] _),?_⟩;refine WN.one 25 (by kernel_rfl) rfl<|L.storeN T111.ag rfl rfl rfl (Wrs.all 2 rfl rfl (by simp[Value.oneCell']))<|WL.nil ⟨(Ent.left [_,_,_] _),?_⟩;refine WN.one 26 (by kernel_rfl) rfl<|L.storeN T111.ag rfl rfl rfl (Wrs.all 1 rfl rfl (by simp[Value.oneCell']))<|WL.nil ⟨(Ent.left [_,_,_] _),?_⟩
          refine WT.nil (by kernel_rfl)<|X.thenN ⟨(c24,c25,c26),trivial,(Env.Sub.cons rfl rfl (Env.Sub.cons rfl rfl (Env.Sub.cons rfl rfl (Env.Sub.cons rfl rfl (Env.Sub.cons rfl rfl Env.Sub.nil))))),(Ent.pk [0,1,0,13,0,0,0,0,0,0,0,0,0,0] rfl)⟩
        ·
         refine L.alloc T111.z fun c26=>WL.nil ⟨(Ent.left [_] _),?_⟩;refine WN.two 21 22 (by kernel_rfl) rfl rfl ?_ ?_
         ·
          refine L.alloc T111.z fun c24=>WL.nil ⟨(Ent.left [_,_] _),?_⟩;refine WN.one 22 (by kernel_rfl) rfl<|L.alloc T111.z fun c25=>WL.nil ⟨(Ent.left [_,_,_] _),?_⟩;refine WN.one 24 (by kernel_rfl) rfl<|L.storeN T111.ag rfl rfl rfl (Wrs.all 1 rfl rfl (by simp[Value.oneCell']))<|WL.nil ⟨(Ent.left [_,_,_] _),?_⟩;refine WN.one 25 (by kernel_rfl) rfl<|L.storeN T111.ag rfl rfl rfl (Wrs.all 0 rfl rfl (by simp[Value.oneCell']))<|WL.nil ⟨(Ent.left [_,_,_] _),?_⟩;refine WN.one 26 (by kernel_rfl) rfl<|L.storeN T111.ag rfl rfl rfl (Wrs.all 2 rfl rfl (by simp[Value.oneCell']))<|WL.nil ⟨(Ent.left [_,_,_] _),?_⟩
          refine WT.nil (by kernel_rfl)<|X.thenN ⟨(c24,c25,c26),trivial,(Env.Sub.cons rfl rfl (Env.Sub.cons rfl rfl (Env.Sub.cons rfl rfl (Env.Sub.cons rfl rfl (Env.Sub.cons rfl rfl Env.Sub.nil))))),(Ent.pk [1,0,0,13,0,0,0,0,0,0,0,0,0,0] rfl)⟩
         ·
          refine L.alloc T111.z fun c25=>WL.nil ⟨(Ent.left [_,_] _),?_⟩;refine WN.one 21 (by kernel_rfl) rfl<|L.alloc T111.z fun c24=>WL.nil ⟨(Ent.left [_,_,_] _),?_⟩;refine WN.one 24 (by kernel_rfl) rfl<|L.storeN T111.ag rfl rfl rfl (Wrs.all 0 rfl rfl (by simp[Value.oneCell']))<|WL.nil ⟨(Ent.left [_,_,_] _),?_⟩;refine WN.one 25 (by kernel_rfl) rfl<|L.storeN T111.ag rfl rfl rfl (Wrs.all 1 rfl rfl (by simp[Value.oneCell']))<|WL.nil ⟨(Ent.left [_,_,_] _),?_⟩;refine WN.one 26 (by kernel_rfl) rfl<|L.storeN T111.ag rfl rfl rfl (Wrs.all 2 rfl rfl (by simp[Value.oneCell']))<|WL.nil ⟨(Ent.left [_,_,_] _),?_⟩
          refine WT.nil (by kernel_rfl)<|X.thenN ⟨(c24,c25,c26),trivial,(Env.Sub.cons rfl rfl (Env.Sub.cons rfl rfl (Env.Sub.cons rfl rfl (Env.Sub.cons rfl rfl (Env.Sub.cons rfl rfl Env.Sub.nil))))),(Ent.pk [0,0,0,13,0,0,0,0,0,0,0,0,0,0] rfl)⟩
       ·
        rintro ⟨c24,c25,c26⟩ _
        refine WP.regs<|L.move rfl<|L.fieldAddr (o':=2) T111.f2 rfl rfl<|L.load T3.sc rfl (Rd.own 0 rfl rfl)<|L.fieldAddr (o':=1) T111.f1 rfl rfl<|L.load T3.sc rfl (Rd.own 1 rfl rfl)<|WL.callS rfl rfl F56.fn rfl (FT.partP (seaS b ⟨tv,tw,.slice (some ⟨c2,0,none⟩) z.1.nodes.length ncap2,bp,br,bl,bn,ov,bm,bk⟩ z.1) _ ((Ent.pk [4,4,4,4,4,4,4,4,4,4,0,0,0,0] rfl)) fun g gS dj=>sea_pairP b ⟨tv,tw,.slice (some ⟨c2,0,none⟩) z.1.nodes.length ncap2,bp,br,bl,bn,ov,bm,bk⟩ z.1 (z.1.nodes.getD x.2 .no).b (z.1.nodes.getD y.2 .no).a lxb4.1 hm4 G4.K.most (by have h9:(z.1.nodes.getD (z.1.nodes.getD x.2 .no).b .no).level=_:=lxb4.2;omega)) ?_ ?_
        · intro τ9 h9
          obtain⟨_,⟨A9,S9,rfl,hs9,hl9⟩,rfl⟩:=h9
          exact⟨rfl,.inr ⟨rfl,_,⟨A9,S9,rfl,hs9.of G4,by rw[hu] at hl9;have:=e6.len;have:=e7.len;have:=G4.most;rw[FINEQ];dsimp only;omega⟩,Ent.right _ _⟩⟩
        rintro _ _ ⟨_,⟨nv5,rfl,rfl,hq5⟩,rfl⟩
        rw[hu] at hq5 ⊢
        have hm5:u.1.nodes.length≤u.1.most:=by rw[e5.most];exact hq5
        refine L.assign rfl<|WL.nil<|WP.region<|L.move rfl<|L.move rfl<|L.move rfl<|L.fieldAddr (o':=2) T111.f2 rfl rfl<|L.load T3.sc rfl (Rd.own 11 rfl rfl)<|L.fieldAddr (o':=1) T111.f1 rfl rfl<|L.load T3.sc rfl (Rd.own 12 rfl rfl)<|WL.callS rfl rfl F56.fn rfl (FT.partP (seaS b ⟨tv,tw,nv5,bp,br,bl,bn,ov,bm,bk⟩ u.1) _ ((Ent.refl _)) fun g gS dj=>sea_pairP b ⟨tv,tw,nv5,bp,br,bl,bn,ov,bm,bk⟩ u.1 (z.1.nodes.getD y.2 .no).b (z.1.nodes.getD z.2 .no).a lyb5.1 hm5 G5.K.most (by have h9:(u.1.nodes.getD (z.1.nodes.getD y.2 .no).b .no).level=_:=lyb5.2;omega)) ?_ ?_
        · intro τ9 h9
          obtain⟨_,⟨A9,S9,rfl,hs9,hl9⟩,rfl⟩:=h9
          exact⟨rfl,.inr ⟨rfl,_,⟨A9,S9,rfl,hs9.of G5,by rw[hv] at hl9;have:=e7.len;have:=G5.most;rw[FINEQ];dsimp only;omega⟩,Ent.right _ _⟩⟩
        rintro _ _ ⟨_,⟨nv6,rfl,rfl,hq6⟩,rfl⟩
        rw[hv] at hq6 ⊢
        have hm6:v.1.nodes.length≤v.1.most:=by rw[e6.most];exact hq6
        refine WL.callS rfl rfl F56.fn rfl (FT.partP (seaS b ⟨tv,tw,nv6,bp,br,bl,bn,ov,bm,bk⟩ v.1) _ ((Ent.refl _)) fun g gS dj=>sea_pairP b ⟨tv,tw,nv6,bp,br,bl,bn,ov,bm,bk⟩ v.1 u.2 v.2 lu6.1 hm6 G6.K.most (by have h9:(v.1.nodes.getD u.2 .no).level=_:=lu6.2;omega)) ?_ ?_
        · intro τ9 h9
          obtain⟨_,⟨A9,S9,rfl,hs9,hl9⟩,rfl⟩:=h9
          exact⟨rfl,.inr ⟨rfl,_,⟨A9,S9,rfl,hs9.of G6,by rw[hw] at hl9;have:=G6.most;rw[FINEQ];dsimp only;omega⟩,Ent.right _ _⟩⟩
        rintro _ _ ⟨_,⟨nv7,rfl,rfl,hq7⟩,rfl⟩
        rw[hw] at hq7 ⊢
        have hm7:w.1.nodes.length≤w.1.most:=by rw[e7.most];exact hq7
        refine L.assign rfl<|WL.nil<|X.blockN<|X.thenN ⟨(nv7,w.1,w.2),⟨FINEQ,by have:=G6.most;dsimp only;omega⟩,(Env.Sub.cons rfl rfl (Env.Sub.cons rfl rfl (Env.Sub.cons rfl rfl Env.Sub.nil))),(Ent.pk [13,0,0,0,0,0,0,0,0,0,0] rfl)⟩
    ·
     rintro ⟨nvz,T,o⟩ ⟨hT,hTm⟩
     dsimp only at hT hTm ⊢
     refine WP.seq<|WP.rege [(0,true),(1,true),(2,true),(3,true),(4,true),(5,true),(6,false)] 6 rfl (by kernel_rfl) (PInv.then PInv.ret) rfl<|WE.take rfl (V.move rfl)<|WE.take rfl (V.nilCheck rfl)<|WE.take rfl (V.fieldAddr (o':=21) T59.f7 rfl rfl)<|WE.take rfl (V.load T54.sc rfl (Rd.own 1 rfl rfl))<|WE.take rfl (V.loadN T173.ag rfl rfl (Rds.all 0 rfl))<|WE.take rfl (V.move rfl)<|WE.last rfl<|L.mapUpdate (α:=Nat × Nat) (enc:=encP) (key:=(id,j)) 5 T54.m K173 rfl rfl rfl rfl ?_
     rw[show mput (vm T.leaps) (id,j) (Value.int .i64 (o:Int))=vm (mput T.leaps (id,j) o) from mput_vm _ _ _]
     refine WL.nil<|WE.nil<|X.thenN<|WP.regs<|L.move rfl<|L.assign rfl<|WL.nil<|WP.ret<|X.ret rfl (Res.one rfl rfl) ?_
     rw[hT]
     exact .inl ⟨_,rfl,_,⟨nvz,rfl,rfl,hTm⟩,((Ent.pk [2,2,2,2,0,1,1,1,1,1] rfl)).trans (Ent.of_eq rfl)⟩
theorem sea_midP (b:Nat):∀ (f:Nat) (k:World) (h0:Hp) (A:SeaA) (S:SeaD) (id j:Nat) (jv:Int) (l:Nat),jv=(j:Int)→SeaK S→Inv S→Lv S id (l+2)→l+2≤f+1→j≤l→S.nodes.length≤S.most→FT Pg 60 [.pointer (some ⟨b,0,none⟩),encI id,.int .i64 jv] k h0 (seaS b A S) (RP 163 (fun v τ=>∃ nv,v=encI (SeaD.mid f S id j).2∧τ=seaS b {A with nv:=nv} (SeaD.mid f S id j).1∧(SeaD.mid f S id j).1.nodes.length≤S.most) (PS b S (SeaD.mid f S id j).1))
  | 0,_,_,_,_,_,_,_,_,_,_,_,_,h,_,_=>absurd h (by omega)
  | f+1,k,h0,A,S,id,j,jv,l,h1,h2,h3,h4,h5,h6,h7=>sea_mid1P b f (sea_midP b f) A S id j jv l h1 h2 h3 h4 h5 h6 h7
end
end Go.Eng
