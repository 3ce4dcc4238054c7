/- Walks of the functions of the seat over those rules, and plain laws of what they compute. No conditions beyond those in each theorem. -/
import Derived.Test.YtclhjichmdjlaaaGreatSO
import Derived.Test.YtclhjichmdjlaaaGreatEC
set_option linter.unusedSimpArgs false
set_option linter.unusedVariables false
namespace Go.Eng
open Go.RowKit Go.Proofs
theorem T163.z:zer Pg 163=some []:=by kernel_rfl
structure SameK (S T:SeaD):Prop where
  e:Ext S T
  i:Inv S→Inv T
  len:T.nodes.length≤T.most
theorem SameK.refl {S:SeaD} (h:S.nodes.length≤S.most):SameK S S:=⟨Ext.refl S,fun i=>i,h⟩
theorem SameK.of {S T U:SeaD} {n:Nat} (h:SameK T U) (g:Good S T n):SameK S U:=⟨g.e.trans h.e,fun _=>h.i g.i,h.len⟩
def PS (b:Nat) (S T:SeaD):List HP→Prop:=fun τ=>∃ A' S',τ=seaS b A' S'∧SameK S S'∧S.most<T.nodes.length
theorem addN_len (S:SeaD) (n:NodeD):(S.addN n).nodes.length=S.nodes.length+1:=by simp[SeaD.addN]
section
variable {k:World} {h0:Hp}
set_option maxRecDepth 10000 in
theorem sea_addP (b:Nat) (A:SeaA) (S:SeaD) (n:NodeD) (hm:S.nodes.length≤S.most) (hb:S.most≤1048576):FT Pg 110 [.pointer (some ⟨b,0,none⟩),.agg (nodeC n).toArray] k h0 (seaS b A S) (RP 163 (fun v τ=>∃ nv,v=encI S.nodes.length∧τ=seaS b {A with nv:=nv} (S.addN n)∧S.nodes.length<S.most) (PS b S (S.addN n))):=by
  refine FT.tightP<|FT.fact (fun _ _ _ s=>s.vec_shape (E:=111) (sz:=4) 1 rfl) ?_
  rintro ⟨_,na,ncap,hnv,hncap,hna⟩
  obtain⟨tv,tw,nv,bp,br,bl,bn,ov,bm,bk⟩:=A
  dsimp only at hnv
  subst hnv
  refine FT.of_wp (n:=33) Tryz.func110 rfl rfl rfl<|WP.regs<|L.box rfl rfl fun b1=>L.assign rfl<|WL.nil<|WP.seq<|WP.seq<|WP.rege [(0,true),(1,true),(2,true),(3,true),(4,true),(5,true),(6,true),(7,true),(8,true),(9,true)] 10 rfl (by kernel_rfl) (PInv.then (PInv.then PInv.ret)) rfl<|WE.take rfl (V.move rfl)<|WE.take rfl (V.nilCheck rfl)<|WE.take rfl (V.fieldAddr (o':=18) T59.f4 rfl rfl)<|WE.take rfl (V.load T51.sc rfl (Rd.own 1 rfl rfl))<|WE.take rfl (V.lenS T51.sl rfl rfl)<|WE.take rfl (V.move rfl)<|WE.take rfl (V.nilCheck rfl) ?_;refine WE.take rfl (V.fieldAddr (o':=17) T59.f3 rfl rfl)<|WE.take rfl (V.load T3.sc rfl (Rd.own 1 rfl rfl))<|WE.take rfl (V.geq rfl rfl)<|WE.nil<|X.thenN<|WP.condD rfl (fun h14=>?_) (fun h14=>?_)
  refine WP.region<|L.build (cs:=[]) T163.b T163.z rfl rfl<|L.mkIface T163.u rfl rfl<|WL.panic rfl ?_;exact⟨rfl,.inr ⟨rfl,_,⟨_,S,rfl,SameK.refl hm,by rw[addN_len];omega⟩,(Ent.left [_] _)⟩⟩
  refine WP.skip<|X.thenN<|WP.seq<|WP.regeq _ (Ent.pk [0,0,1,1,1,1,1,1,1,1] rfl) [(0,true),(1,true),(2,true),(3,true),(4,true),(5,true),(6,false),(7,false),(8,true),(9,true),(10,false)] 10 rfl (by kernel_rfl) (PInv.then PInv.ret) rfl<|WE.take rfl (V.move rfl)<|WE.take rfl (V.move rfl)<|WE.take rfl (V.nilCheck rfl)<|WE.take rfl (V.fieldAddr (o':=18) T59.f4 rfl rfl)<|WE.take rfl (V.load T51.sc rfl (Rd.own 1 rfl rfl))<|WE.take rfl (V.loadN T111.ag rfl rfl (Rds.all 0 rfl))<|WE.one rfl<|L.slice1 T51.sl T111.z rfl rfl rfl rfl rfl rfl ?_;intro b2;refine WL.nil ⟨(Ent.pk [1,1,2,2,2,2,2,2,2,2] rfl),?_⟩
  refine WE.one rfl<|L.append (i:=3) (news:=nodeC n) T51.sl T111.z rfl rfl rfl rfl rfl rfl (fun _ _ _ e=>by cases e;exact⟨rfl,Rds.all 0 rfl⟩) (fun e=>by cases e) (by simp[Value.oneCell']) (by omega) ?_;intro u2;refine WL.fact (φ:=u2.oneCell'=true∧∃ a cap,u2=.slice a (S.nodes.length+1) cap) (fun _ _ _ s=>⟨s.vec_one 0 rfl,by obtain⟨_,a,cap,e,_⟩:=s.vec_shape 0 rfl;exact⟨a,cap,e⟩⟩) fun hu2=>?_
  obtain⟨hv1,ua,ucap,rfl⟩:=hu2
  refine WL.nil ⟨(Ent.left [_,_] _),?_⟩;refine WE.take rfl (V.nilCheck rfl)<|WE.take rfl (V.fieldAddr (o':=18) T59.f4 rfl rfl)<|WE.last rfl<|L.store T51.sc rfl rfl hv1 (Wr.at 3 rfl rfl)<|WL.nil<|WE.nil<|X.thenN<|WP.regs<|L.move rfl<|L.nilCheck rfl<|L.fieldAddr (o':=18) T59.f4 rfl rfl<|L.load T51.sc rfl (Rd.own 3 rfl rfl)<|L.lenS T51.sl rfl rfl<|L.sub' rfl rfl (by omega)<|L.assign rfl<|WL.nil<|WP.ret<|X.ret rfl (Res.one rfl rfl)<|.inl ⟨_,rfl,_,⟨.slice ua (S.nodes.length+1) ucap,by simp[encI],rfl,by omega⟩,((Ent.pk [3,0,2,2,2,2,2,2,2,2] rfl)).trans (Ent.of_eq ?_)⟩
  show _=[cl b _ _,vec 111 4 _ (S.nodes++[n]).length (nodesC (S.nodes++[n])),_,_,_,_,_,_,_,_]
  rw[← nodesC_snoc,List.length_append]
  rfl
set_option maxRecDepth 10000 in
theorem sea_rowP (b:Nat) (A:SeaA) (S:SeaD) (x:ByteArray) (hm:S.nodes.length≤S.most) (hb:S.most≤1048576):FT Pg 53 [.pointer (some ⟨b,0,none⟩),.string x] k h0 (seaS b A S) (RP 163 (fun v τ=>∃ nv,v=encI (S.row x).2∧τ=seaS b {A with nv:=nv} (S.row x).1∧(S.row x).1.nodes.length≤S.most) (PS b S (S.row x).1)):=by
  refine FT.tightP<|FT.of_wp (n:=29) Tryz.func53 rfl rfl rfl<|WP.regs<|L.assign rfl<|WL.nil<|WP.regs<|L.move rfl<|L.nilCheck rfl<|L.fieldAddr (o':=20) T59.f6 rfl rfl<|L.load T53.sc rfl (Rd.own 0 rfl rfl)<|L.move rfl<|L.lookupOk (α:=ByteArray) (enc:=Value.string) 3 T53.m T9.ko T3.z1 rfl rfl rfl ?_
  rw[mget_vm]
  rcases hx:mget S.rows x with _ | id
  rotate_left
  ·
   refine L.move rfl<|L.extract rfl rfl<|L.extract rfl rfl<|L.assign rfl<|L.assign rfl<|WL.nil<|WP.seq<|WP.regs<|L.move rfl<|L.not rfl<|WL.nil<|WP.condF rfl<|WP.skip<|X.thenN<|WP.regs<|L.move rfl<|L.assign rfl<|WL.nil<|WP.ret<|X.ret rfl (Res.one rfl rfl) ?_;exact .inl ⟨_,rfl,_,⟨A.nv,by simp[SeaD.row,hx,encI],rfl,by simp only[SeaD.row,hx];exact hm⟩,Ent.of_eq (by simp only[SeaD.row,hx])⟩
  ·
   refine L.move rfl<|L.extract rfl rfl<|L.extract rfl rfl<|L.assign rfl<|L.assign rfl<|WL.nil<|WP.seq<|WP.regs<|L.move rfl<|L.not rfl<|WL.nil<|WP.condT rfl<|WP.regs<|L.move rfl<|L.move rfl<|L.build (cs:=[_,_,_,_]) T111.b T111.z rfl rfl<|WL.callS rfl rfl F110.fn rfl (FT.partP (seaS b A S) _ ((Ent.refl _)) fun g gS dj=>sea_addP b A S ⟨0,0,0,x⟩ hm hb) ?_ ?_
   · intro τ9 h9
     obtain⟨_,⟨A9,S9,rfl,hs9,hl9⟩,rfl⟩:=h9
     exact⟨rfl,.inr ⟨rfl,_,⟨A9,S9,rfl,hs9,by rw[addN_len] at hl9;simp only[SeaD.row,hx,List.length_append,List.length_singleton];exact hl9⟩,Ent.right _ _⟩⟩
   rintro _ _ ⟨_,⟨nv,rfl,rfl,hlt⟩,rfl⟩
   refine L.assign rfl<|WL.nil<|WP.region<|L.move rfl<|L.nilCheck rfl<|L.fieldAddr (o':=20) T59.f6 rfl rfl<|L.load T53.sc rfl (Rd.own 0 rfl rfl)<|L.move rfl<|L.move rfl<|L.mapUpdate (α:=ByteArray) (enc:=Value.string) 3 T53.m T9.ko rfl rfl rfl rfl<|WL.nil<|X.thenN<|WP.regs<|L.move rfl<|L.assign rfl<|WL.nil<|WP.ret<|X.ret rfl (Res.one rfl rfl)<|.inl ⟨_,rfl,_,⟨nv,by simp[SeaD.row,hx,encI],rfl,by simp only[SeaD.row,hx,List.length_append,List.length_singleton];omega⟩,((Ent.pk [1,1,1,0,0,0,0,0,0,0] rfl)).trans (Ent.of_eq ?_)⟩
   rw[mput_vm]
   simp only[SeaD.row,hx,SeaD.addN]
   rfl
set_option maxRecDepth 10000 in
theorem sea_pairP (b:Nat) (A:SeaA) (S:SeaD) (x y:Nat) (hx0:x<S.nodes.length) (hm:S.nodes.length≤S.most) (hb:S.most≤1048576) (hlv:(S.nodes.getD x .no).level≤1000):FT Pg 56 [.pointer (some ⟨b,0,none⟩),encI x,encI y] k h0 (seaS b A S) (RP 163 (fun v τ=>∃ nv,v=encI (S.pair x y).2∧τ=seaS b {A with nv:=nv} (S.pair x y).1∧(S.pair x y).1.nodes.length≤S.most) (PS b S (S.pair x y).1)):=by
  refine FT.tightP<|FT.fact (fun _ _ _ s=>s.vec_shape (E:=111) (sz:=4) 1 rfl) ?_
  rintro ⟨_,na,ncap,hnv,hncap,hna⟩
  obtain⟨c0,hc0⟩:=hna (by omega)
  subst hc0
  obtain⟨tv,tw,nv,bp,br,bl,bn,ov,bm,bk⟩:=A
  dsimp only at hnv
  subst hnv
  unfold encI
  refine FT.of_wp (n:=45) Tryz.func56 rfl rfl rfl<|WP.regs<|L.assign rfl<|WL.nil<|WP.regs<|L.move rfl<|L.move rfl<|L.build (cs:=[_,_]) T171.b T171.z rfl rfl<|L.alloc T171.z fun b1=>L.storeN T171.ag rfl rfl rfl (Wrs.all 0 rfl rfl (by simp[Value.oneCell']))<|WL.nil<|WP.seq<|WP.rege [(0,true),(1,true),(2,true),(3,true),(4,true),(5,true),(6,true),(7,true),(8,true),(9,true),(10,true)] 11 rfl (by kernel_rfl) (PInv.then PInv.ret) rfl<|WE.take rfl (V.move rfl)<|WE.take rfl (V.nilCheck rfl)<|WE.take rfl (V.fieldAddr (o':=19) T59.f5 rfl rfl) ?_;refine WE.take rfl (V.load T52.sc rfl (Rd.own 1 rfl rfl))<|WE.take rfl (V.loadN T171.ag rfl rfl (Rds.all 0 rfl))<|WE.take rfl (V.lookupOk (α:=Nat × Nat) (enc:=encP) (key:=(x,y)) 3 T52.m K171 T3.z1 rfl rfl rfl) ?_
  rw[mget_vm]
  rcases hx:mget S.pairs (x,y) with _ | id
  rotate_left
  ·
   refine WE.take rfl (V.move rfl)<|WE.take rfl (V.extract rfl rfl)<|WE.take rfl (V.extract rfl rfl)<|WE.take rfl (V.assign rfl)<|WE.take rfl (V.assign rfl)<|WE.nil<|X.thenN<|WP.seq<|WP.regs<|L.move rfl<|L.not rfl<|WL.nil<|WP.condF rfl<|WP.skip<|X.thenN<|WP.regs<|L.move rfl<|L.assign rfl<|WL.nil<|WP.ret<|X.ret rfl (Res.one rfl rfl) ?_;exact .inl ⟨_,rfl,_,⟨.slice (some ⟨c0,0,none⟩) S.nodes.length ncap,by simp[SeaD.pair,hx,encI],rfl,by simp only[SeaD.pair,hx];exact hm⟩,((Ent.left [_] _)).trans (Ent.of_eq (by simp only[SeaD.pair,hx]))⟩
  ·
   refine WE.take rfl (V.move rfl)<|WE.take rfl (V.extract rfl rfl)<|WE.take rfl (V.extract rfl rfl)<|WE.take rfl (V.assign rfl)<|WE.take rfl (V.assign rfl)<|WE.nil<|X.thenN<|WP.seq<|WP.regs<|L.move rfl<|L.not rfl<|WL.nil<|WP.condT rfl<|WP.regs<|L.move rfl<|L.move rfl<|L.nilCheck rfl<|L.fieldAddr (o':=18) T59.f4 rfl rfl<|L.load T51.sc rfl (Rd.own 1 rfl rfl)<|L.move rfl<|L.indexS T51.sl rfl rfl (by omega)<|L.fieldAddr T111.f0 rfl rfl<|L.load T3.sc rfl (Rd.vec 2 rfl (nodesC_rd S.nodes x hx0 0 rfl))<|L.add' rfl rfl (by omega)<|L.move rfl ?_;refine L.move rfl<|L.build (cs:=[_,_,_,_]) T111.b T111.z rfl rfl<|WL.callS rfl rfl F110.fn rfl (FT.partP (seaS b ⟨tv,tw,.slice (some ⟨c0,0,none⟩) S.nodes.length ncap,bp,br,bl,bn,ov,bm,bk⟩ S) _ ((Ent.pk [1,1,1,1,1,1,1,1,1,1,0] rfl)) fun g gS dj=>sea_addP b ⟨tv,tw,.slice (some ⟨c0,0,none⟩) S.nodes.length ncap,bp,br,bl,bn,ov,bm,bk⟩ S ⟨(S.nodes.getD x .no).level+1,x,y,ByteArray.mk #[]⟩ hm hb) ?_ ?_
   · intro τ9 h9
     obtain⟨_,⟨A9,S9,rfl,hs9,hl9⟩,rfl⟩:=h9
     exact⟨rfl,.inr ⟨rfl,_,⟨A9,S9,rfl,hs9,by rw[addN_len] at hl9;simp only[SeaD.pair,hx,List.length_append,List.length_singleton];exact hl9⟩,Ent.right _ _⟩⟩
   rintro _ _ ⟨_,⟨nv,rfl,rfl,hlt⟩,rfl⟩
   refine L.assign rfl<|WL.nil<|WP.rege [(0,true),(1,true),(2,true),(3,true),(4,true),(5,true),(6,false)] 6 rfl (by kernel_rfl) (PInv.then PInv.ret) rfl<|WE.take rfl (V.move rfl)<|WE.take rfl (V.nilCheck rfl)<|WE.take rfl (V.fieldAddr (o':=19) T59.f5 rfl rfl)<|WE.take rfl (V.load T52.sc rfl (Rd.own 0 rfl rfl))<|WE.take rfl (V.loadN T171.ag rfl rfl (Rds.all 10 rfl))<|WE.take rfl (V.move rfl)<|WE.last rfl<|L.mapUpdate (α:=Nat × Nat) (enc:=encP) (key:=(x,y)) 2 T52.m K171 rfl rfl rfl rfl<|WL.nil ?_;refine WE.nil<|X.thenN<|WP.regs<|L.move rfl<|L.assign rfl<|WL.nil<|WP.ret<|X.ret rfl (Res.one rfl rfl)<|.inl ⟨_,rfl,_,⟨nv,by simp[SeaD.pair,hx,encI],rfl,by simp only[SeaD.pair,hx,List.length_append,List.length_singleton];omega⟩,((Ent.pk [1,1,0,0,0,0,0,0,0,0] rfl)).trans (Ent.of_eq ?_)⟩
   rw[mput_vm]
   simp only[SeaD.pair,hx,SeaD.addN]
   rfl
end
open Go.RowKit Go.Proofs
section
variable {k:World} {h0:Hp}
set_option maxRecDepth 10000 in
set_option maxHeartbeats 4000000 in
theorem sea_lineP (b:Nat) (A:SeaA) (S:SeaD) (K:SeaK S) (x0 y0 z0:Nat) (hx0:x0<S.nodes.length) (hy0:y0<S.nodes.length) (hz0:z0<S.nodes.length) (rx:RowOkB S (S.row' x0)) (ry:RowOkB S (S.row' y0)) (rz:RowOkB S (S.row' z0)) (hm:S.nodes.length≤S.most):FT Pg 111 [.pointer (some ⟨b,0,none⟩),encI x0,encI y0,encI z0] k h0 (seaS b A S) (RP 163 (fun v τ=>∃ nv,v=encI (S.line x0 y0 z0).2∧τ=seaS b {A with nv:=nv} (S.line x0 y0 z0).1∧(S.line x0 y0 z0).1.nodes.length≤S.most) (PS b S (S.line x0 y0 z0).1)):=by
  have hto:=K.ok.2.1;unfold TopoD.Ok at hto
  have hmo:=K.most
  refine FT.tightP<|FT.fact (fun _ _ _ s=>s.vec_shape (E:=111) (sz:=4) 1 rfl) ?_
  rintro ⟨_,na,ncap,hnv,hncap,hna⟩
  obtain⟨c0,hc0⟩:=hna (by omega)
  subst hc0
  obtain⟨tv,tw,nv,bp,br,bl,bn,ov,bm,bk⟩:=A
  dsimp only at hnv
  subst hnv
  unfold encI
  refine FT.of_wp (n:=80) Tryz.func111 rfl rfl rfl<|WP.regs<|L.assign rfl<|WL.nil<|WP.regs<|L.move rfl<|L.move rfl<|L.move rfl<|L.build (cs:=[_,_,_]) T204.b T204.z rfl rfl<|L.alloc T204.z fun b1=>L.storeN T204.ag rfl rfl rfl (Wrs.all 0 rfl rfl (by simp[Value.oneCell']))<|WL.nil<|WP.seq<|WP.seq<|WP.rege [(0,true),(1,true),(2,true),(3,true),(4,true),(5,true),(6,true),(7,true),(8,true),(9,true),(10,true)] 11 rfl (by kernel_rfl) (PInv.then (PInv.then PInv.ret)) rfl<|WE.take rfl (V.move rfl)<|WE.take rfl (V.nilCheck rfl) ?_;refine WE.take rfl (V.fieldAddr (o':=22) T59.f8 rfl rfl)<|WE.take rfl (V.load T55.sc rfl (Rd.own 1 rfl rfl))<|WE.take rfl (V.loadN T204.ag rfl rfl (Rds.all 0 rfl))<|WE.take rfl (V.lookupOk (α:=Nat × Nat × Nat) (enc:=enc3) (key:=(x0,y0,z0)) 6 T55.m K204 T3.z1 rfl rfl rfl) ?_
  rw[mget_vm]
  rcases hq:mget S.lines (x0,y0,z0) with _ | id
  rotate_left
  ·
   refine WE.take rfl (V.move rfl)<|WE.take rfl (V.extract rfl rfl)<|WE.take rfl (V.extract rfl rfl)<|WE.take rfl (V.assign rfl)<|WE.take rfl (V.assign rfl)<|WE.nil<|X.thenN<|WP.regs<|L.move rfl<|WL.nil<|WP.condT rfl<|WP.regs<|L.move rfl<|L.assign rfl<|WL.nil<|WP.ret<|X.thenR<|X.ret rfl (Res.one rfl rfl) ?_;exact .inl ⟨_,rfl,_,⟨.slice (some ⟨c0,0,none⟩) S.nodes.length ncap,by simp[SeaD.line,hq,encI],rfl,by simp only[SeaD.line,hq];exact hm⟩,((Ent.left [_] _)).trans (Ent.of_eq (by simp only[SeaD.line,hq]))⟩
  ·
   refine WE.take rfl (V.move rfl)<|WE.take rfl (V.extract rfl rfl)<|WE.take rfl (V.extract rfl rfl)<|WE.take rfl (V.assign rfl)<|WE.take rfl (V.assign rfl)<|WE.nil<|X.thenN<|WP.regs<|L.move rfl<|WL.nil<|WP.condF rfl<|WP.skip<|X.thenN<|WP.cut (X:=Value × Nat) (fun x=>⟨80,[],[(0,.pointer (some ⟨b,0,none⟩)),(1,.int .i64 (x0:Int)),(2,.int .i64 (y0:Int)),(3,.int .i64 (z0:Int)),(9,.pointer (some ⟨b1,0,none⟩)),(12,x.1)]⟩) (fun x=>[vec 5 1 x.1 S.t.w.toNat (u8sC (lineD S.r S.t (intsB (S.row' x0)) (intsB (S.row' y0)) (intsB (S.row' z0)))),cl b1 [.int .i64 (x0:Int),.int .i64 (y0:Int),.int .i64 (z0:Int)] 204]++seaS b ⟨tv,tw,.slice (some ⟨c0,0,none⟩) S.nodes.length ncap,bp,br,bl,bn,ov,bm,bk⟩ S) (fun x=>True) ?_ ?_
   ·
    refine WP.regn _ rfl ?_ (Ent.refl _)
    refine WT.read (m:=9) (fin:=fun l=>l == #[true,true,true,true,true,true,true,true,true,true,true,true,true,true,true,true,false,true,true,true,true,true,true,true,true,false,true,true,true,true,true,true,true,true,false,false,false,false,false,false,false]) [(0,true),(1,true),(2,true),(3,true),(4,true),(5,true),(6,true),(7,true),(8,true),(9,true),(10,true),(11,true),(12,true),(13,true),(14,true),(15,true),(17,true),(18,true),(19,true),(20,true),(21,true),(22,true),(23,true),(24,true),(26,true),(27,true),(28,true),(29,true),(30,true),(31,true),(32,true),(33,true)] (by kernel_rfl) (PInv.then PInv.ret) (Ent.refl _)<|WE.take rfl (V.move rfl) ?_;refine WE.take rfl (V.nilCheck rfl)<|WE.take rfl (V.fieldAddr (o':=0) T59.f0 rfl rfl)<|WE.take rfl (V.loadN T32.ag rfl rfl (Rds.own (vs:=[_,_,_,_,_,_,_,_,_,_,_]) 1 rfl rfl))<|WE.take rfl (V.move rfl)<|WE.take rfl (V.nilCheck rfl)<|WE.take rfl (V.fieldAddr (o':=11) T59.f1 rfl rfl)<|WE.take rfl (V.loadN T34.ag rfl rfl (Rds.own (vs:=[_,_,_,_,_]) 1 rfl rfl))<|WE.take rfl (V.move rfl)<|WE.take rfl (V.nilCheck rfl)<|WE.take rfl (V.fieldAddr (o':=18) T59.f4 rfl rfl)<|WE.take rfl (V.load T51.sc rfl (Rd.own 1 rfl rfl))<|WE.take rfl (V.move rfl) ?_;refine WE.take rfl (V.indexS T51.sl rfl rfl (by omega))<|WE.take rfl (V.fieldAddr T111.f3 rfl rfl)<|WE.take rfl (V.load T9.sc rfl (Rd.vec 2 rfl (nodesC_rd S.nodes x0 hx0 3 rfl)))<|WE.take rfl (V.move rfl)<|WE.take rfl (V.nilCheck rfl)<|WE.take rfl (V.fieldAddr (o':=18) T59.f4 rfl rfl)<|WE.take rfl (V.load T51.sc rfl (Rd.own 1 rfl rfl))<|WE.take rfl (V.move rfl)<|WE.take rfl (V.indexS T51.sl rfl rfl (by omega))<|WE.take rfl (V.fieldAddr T111.f3 rfl rfl)<|WE.take rfl (V.load T9.sc rfl (Rd.vec 2 rfl (nodesC_rd S.nodes y0 hy0 3 rfl)))<|WE.take rfl (V.move rfl) ?_;refine WE.take rfl (V.nilCheck rfl)<|WE.take rfl (V.fieldAddr (o':=18) T59.f4 rfl rfl)<|WE.take rfl (V.load T51.sc rfl (Rd.own 1 rfl rfl))<|WE.take rfl (V.move rfl)<|WE.take rfl (V.indexS T51.sl rfl rfl (by omega))<|WE.take rfl (V.fieldAddr T111.f3 rfl rfl)<|WE.take rfl (V.load T9.sc rfl (Rd.vec 2 rfl (nodesC_rd S.nodes z0 hz0 3 rfl)))<|WE.free #[true,true,true,true,true,true,true,true,true,true,true,true,true,true,true,true,false,true,true,true,true,true,true,true,true,false,true,true,true,true,true,true,true,true,false,false,false,false,false,false,false]<|WN.three 16 25 34 (by kernel_rfl) rfl rfl rfl ?_ ?_ ?_
    ·
     refine L.strToBytes T9.u T60.sl T5.u rfl ?_;intro v47;rw[bytesV_u8s];refine WL.nil ⟨(Ent.left [_] _),?_⟩;refine WN.two 25 34 (by kernel_rfl) rfl rfl ?_ ?_
     ·
      refine L.strToBytes T9.u T60.sl T5.u rfl ?_;intro v56;rw[bytesV_u8s];refine WL.nil ⟨(Ent.left [_,_] _),?_⟩;refine WN.one 34 (by kernel_rfl) rfl<|L.strToBytes T9.u T60.sl T5.u rfl ?_;intro v65;rw[bytesV_u8s];refine WL.nil ⟨(Ent.left [_,_,_] _),?_⟩
      refine WN.one 35 (by kernel_rfl) rfl<|WL.call rfl rfl F21.fn rfl (FT.make fun g gS dj=>window_Line S.r K.rw tv tw (by obtain⟨a,ha,hle⟩:=In.of_stars' (p:=tabO S.r.table tv tw) 13 rfl gS dj;exact TabAt.mono ha hle) S.t K.tw S.t.w.toNat (by omega) K.ok _ _ _ (intsB (S.row' x0)) (intsB (S.row' y0)) (intsB (S.row' z0)) (vec_u8s (E:=5) (u:=v47) (l:=intsB (S.row' x0)) (intsB_len _) (In.of_stars' 2 rfl gS dj)) (vec_u8s (E:=5) (u:=v56) (l:=intsB (S.row' y0)) (intsB_len _) (In.of_stars' 1 rfl gS dj)) (vec_u8s (E:=5) (u:=v65) (l:=intsB (S.row' z0)) (intsB_len _) (In.of_stars' 0 rfl gS dj)) ⟨by rw[intsB_len];have:=rx.1;omega,by rw[intsB_len];have:=ry.1;omega,by rw[intsB_len];have:=rz.1;omega,fun i hi=>rx.2 i (by have:=rx.1;omega),fun i hi=>ry.2 i (by have:=ry.1;omega),fun i hi=>rz.2 i (by have:=rz.1;omega)⟩) ?_;rintro _ _ ⟨_,⟨u,rfl,rfl⟩,rfl⟩
      refine WL.nil ⟨(Ent.left [_,_,_,_] _),?_⟩
      refine WT.read (m:=0) (fin:=fun l=>l == #[true,true,true,true,true,true,true,true,true,true,true,true,true,true,true,true,true,true,true,true,true,true,true,true,true,true,true,true,true,true,true,true,true,true,true,true,true,true,true,true,true]) [(36,true),(37,true),(38,true),(39,true),(40,true)] (by kernel_rfl) (PInv.then PInv.ret) ((Ent.left [_,_,_,_] _))<|WE.take rfl (V.move rfl)<|WE.take rfl (V.extract rfl rfl)<|WE.take rfl (V.extract rfl rfl)<|WE.take rfl (V.assign rfl) ?_;refine WE.take rfl (V.assign rfl)<|WE.free #[true,true,true,true,true,true,true,true,true,true,true,true,true,true,true,true,true,true,true,true,true,true,true,true,true,true,true,true,true,true,true,true,true,true,true,true,true,true,true,true,true]<|WT.nil (by kernel_rfl)<|X.thenN ⟨(u,0),trivial,(Env.Sub.cons rfl rfl (Env.Sub.cons rfl rfl (Env.Sub.cons rfl rfl (Env.Sub.cons rfl rfl (Env.Sub.cons rfl rfl (Env.Sub.cons rfl rfl Env.Sub.nil)))))),(Ent.pk [0,3,3,3,3,3,3,3,3,3,3,3] rfl)⟩
     ·
      refine L.strToBytes T9.u T60.sl T5.u rfl ?_;intro v65;rw[bytesV_u8s];refine WL.nil ⟨(Ent.left [_,_] _),?_⟩;refine WN.one 25 (by kernel_rfl) rfl<|L.strToBytes T9.u T60.sl T5.u rfl ?_;intro v56;rw[bytesV_u8s];refine WL.nil ⟨(Ent.left [_,_,_] _),?_⟩
      refine WN.one 35 (by kernel_rfl) rfl<|WL.call rfl rfl F21.fn rfl (FT.make fun g gS dj=>window_Line S.r K.rw tv tw (by obtain⟨a,ha,hle⟩:=In.of_stars' (p:=tabO S.r.table tv tw) 13 rfl gS dj;exact TabAt.mono ha hle) S.t K.tw S.t.w.toNat (by omega) K.ok _ _ _ (intsB (S.row' x0)) (intsB (S.row' y0)) (intsB (S.row' z0)) (vec_u8s (E:=5) (u:=v47) (l:=intsB (S.row' x0)) (intsB_len _) (In.of_stars' 2 rfl gS dj)) (vec_u8s (E:=5) (u:=v56) (l:=intsB (S.row' y0)) (intsB_len _) (In.of_stars' 0 rfl gS dj)) (vec_u8s (E:=5) (u:=v65) (l:=intsB (S.row' z0)) (intsB_len _) (In.of_stars' 1 rfl gS dj)) ⟨by rw[intsB_len];have:=rx.1;omega,by rw[intsB_len];have:=ry.1;omega,by rw[intsB_len];have:=rz.1;omega,fun i hi=>rx.2 i (by have:=rx.1;omega),fun i hi=>ry.2 i (by have:=ry.1;omega),fun i hi=>rz.2 i (by have:=rz.1;omega)⟩) ?_;rintro _ _ ⟨_,⟨u,rfl,rfl⟩,rfl⟩
      refine WL.nil ⟨(Ent.left [_,_,_,_] _),?_⟩
      refine WT.read (m:=0) (fin:=fun l=>l == #[true,true,true,true,true,true,true,true,true,true,true,true,true,true,true,true,true,true,true,true,true,true,true,true,true,true,true,true,true,true,true,true,true,true,true,true,true,true,true,true,true]) [(36,true),(37,true),(38,true),(39,true),(40,true)] (by kernel_rfl) (PInv.then PInv.ret) ((Ent.left [_,_,_,_] _))<|WE.take rfl (V.move rfl)<|WE.take rfl (V.extract rfl rfl)<|WE.take rfl (V.extract rfl rfl)<|WE.take rfl (V.assign rfl) ?_;refine WE.take rfl (V.assign rfl)<|WE.free #[true,true,true,true,true,true,true,true,true,true,true,true,true,true,true,true,true,true,true,true,true,true,true,true,true,true,true,true,true,true,true,true,true,true,true,true,true,true,true,true,true]<|WT.nil (by kernel_rfl)<|X.thenN ⟨(u,0),trivial,(Env.Sub.cons rfl rfl (Env.Sub.cons rfl rfl (Env.Sub.cons rfl rfl (Env.Sub.cons rfl rfl (Env.Sub.cons rfl rfl (Env.Sub.cons rfl rfl Env.Sub.nil)))))),(Ent.pk [0,3,3,3,3,3,3,3,3,3,3,3] rfl)⟩
    ·
     refine L.strToBytes T9.u T60.sl T5.u rfl ?_;intro v56;rw[bytesV_u8s];refine WL.nil ⟨(Ent.left [_] _),?_⟩;refine WN.two 16 34 (by kernel_rfl) rfl rfl ?_ ?_
     ·
      refine L.strToBytes T9.u T60.sl T5.u rfl ?_;intro v47;rw[bytesV_u8s];refine WL.nil ⟨(Ent.left [_,_] _),?_⟩;refine WN.one 34 (by kernel_rfl) rfl<|L.strToBytes T9.u T60.sl T5.u rfl ?_;intro v65;rw[bytesV_u8s];refine WL.nil ⟨(Ent.left [_,_,_] _),?_⟩
      refine WN.one 35 (by kernel_rfl) rfl<|WL.call rfl rfl F21.fn rfl (FT.make fun g gS dj=>window_Line S.r K.rw tv tw (by obtain⟨a,ha,hle⟩:=In.of_stars' (p:=tabO S.r.table tv tw) 13 rfl gS dj;exact TabAt.mono ha hle) S.t K.tw S.t.w.toNat (by omega) K.ok _ _ _ (intsB (S.row' x0)) (intsB (S.row' y0)) (intsB (S.row' z0)) (vec_u8s (E:=5) (u:=v47) (l:=intsB (S.row' x0)) (intsB_len _) (In.of_stars' 1 rfl gS dj)) (vec_u8s (E:=5) (u:=v56) (l:=intsB (S.row' y0)) (intsB_len _) (In.of_stars' 2 rfl gS dj)) (vec_u8s (E:=5) (u:=v65) (l:=intsB (S.row' z0)) (intsB_len _) (In.of_stars' 0 rfl gS dj)) ⟨by rw[intsB_len];have:=rx.1;omega,by rw[intsB_len];have:=ry.1;omega,by rw[intsB_len];have:=rz.1;omega,fun i hi=>rx.2 i (by have:=rx.1;omega),fun i hi=>ry.2 i (by have:=ry.1;omega),fun i hi=>rz.2 i (by have:=rz.1;omega)⟩) ?_;rintro _ _ ⟨_,⟨u,rfl,rfl⟩,rfl⟩
      refine WL.nil ⟨(Ent.left [_,_,_,_] _),?_⟩
      refine WT.read (m:=0) (fin:=fun l=>l == #[true,true,true,true,true,true,true,true,true,true,true,true,true,true,true,true,true,true,true,true,true,true,true,true,true,true,true,true,true,true,true,true,true,true,true,true,true,true,true,true,true]) [(36,true),(37,true),(38,true),(39,true),(40,true)] (by kernel_rfl) (PInv.then PInv.ret) ((Ent.left [_,_,_,_] _))<|WE.take rfl (V.move rfl)<|WE.take rfl (V.extract rfl rfl)<|WE.take rfl (V.extract rfl rfl)<|WE.take rfl (V.assign rfl) ?_;refine WE.take rfl (V.assign rfl)<|WE.free #[true,true,true,true,true,true,true,true,true,true,true,true,true,true,true,true,true,true,true,true,true,true,true,true,true,true,true,true,true,true,true,true,true,true,true,true,true,true,true,true,true]<|WT.nil (by kernel_rfl)<|X.thenN ⟨(u,0),trivial,(Env.Sub.cons rfl rfl (Env.Sub.cons rfl rfl (Env.Sub.cons rfl rfl (Env.Sub.cons rfl rfl (Env.Sub.cons rfl rfl (Env.Sub.cons rfl rfl Env.Sub.nil)))))),(Ent.pk [0,3,3,3,3,3,3,3,3,3,3,3] rfl)⟩
     ·
      refine L.strToBytes T9.u T60.sl T5.u rfl ?_;intro v65;rw[bytesV_u8s];refine WL.nil ⟨(Ent.left [_,_] _),?_⟩;refine WN.one 16 (by kernel_rfl) rfl<|L.strToBytes T9.u T60.sl T5.u rfl ?_;intro v47;rw[bytesV_u8s];refine WL.nil ⟨(Ent.left [_,_,_] _),?_⟩
      refine WN.one 35 (by kernel_rfl) rfl<|WL.call rfl rfl F21.fn rfl (FT.make fun g gS dj=>window_Line S.r K.rw tv tw (by obtain⟨a,ha,hle⟩:=In.of_stars' (p:=tabO S.r.table tv tw) 13 rfl gS dj;exact TabAt.mono ha hle) S.t K.tw S.t.w.toNat (by omega) K.ok _ _ _ (intsB (S.row' x0)) (intsB (S.row' y0)) (intsB (S.row' z0)) (vec_u8s (E:=5) (u:=v47) (l:=intsB (S.row' x0)) (intsB_len _) (In.of_stars' 0 rfl gS dj)) (vec_u8s (E:=5) (u:=v56) (l:=intsB (S.row' y0)) (intsB_len _) (In.of_stars' 2 rfl gS dj)) (vec_u8s (E:=5) (u:=v65) (l:=intsB (S.row' z0)) (intsB_len _) (In.of_stars' 1 rfl gS dj)) ⟨by rw[intsB_len];have:=rx.1;omega,by rw[intsB_len];have:=ry.1;omega,by rw[intsB_len];have:=rz.1;omega,fun i hi=>rx.2 i (by have:=rx.1;omega),fun i hi=>ry.2 i (by have:=ry.1;omega),fun i hi=>rz.2 i (by have:=rz.1;omega)⟩) ?_;rintro _ _ ⟨_,⟨u,rfl,rfl⟩,rfl⟩
      refine WL.nil ⟨(Ent.left [_,_,_,_] _),?_⟩
      refine WT.read (m:=0) (fin:=fun l=>l == #[true,true,true,true,true,true,true,true,true,true,true,true,true,true,true,true,true,true,true,true,true,true,true,true,true,true,true,true,true,true,true,true,true,true,true,true,true,true,true,true,true]) [(36,true),(37,true),(38,true),(39,true),(40,true)] (by kernel_rfl) (PInv.then PInv.ret) ((Ent.left [_,_,_,_] _))<|WE.take rfl (V.move rfl)<|WE.take rfl (V.extract rfl rfl)<|WE.take rfl (V.extract rfl rfl)<|WE.take rfl (V.assign rfl) ?_;refine WE.take rfl (V.assign rfl)<|WE.free #[true,true,true,true,true,true,true,true,true,true,true,true,true,true,true,true,true,true,true,true,true,true,true,true,true,true,true,true,true,true,true,true,true,true,true,true,true,true,true,true,true]<|WT.nil (by kernel_rfl)<|X.thenN ⟨(u,0),trivial,(Env.Sub.cons rfl rfl (Env.Sub.cons rfl rfl (Env.Sub.cons rfl rfl (Env.Sub.cons rfl rfl (Env.Sub.cons rfl rfl (Env.Sub.cons rfl rfl Env.Sub.nil)))))),(Ent.pk [0,3,3,3,3,3,3,3,3,3,3,3] rfl)⟩
    ·
     refine L.strToBytes T9.u T60.sl T5.u rfl ?_;intro v65;rw[bytesV_u8s];refine WL.nil ⟨(Ent.left [_] _),?_⟩;refine WN.two 16 25 (by kernel_rfl) rfl rfl ?_ ?_
     ·
      refine L.strToBytes T9.u T60.sl T5.u rfl ?_;intro v47;rw[bytesV_u8s];refine WL.nil ⟨(Ent.left [_,_] _),?_⟩;refine WN.one 25 (by kernel_rfl) rfl<|L.strToBytes T9.u T60.sl T5.u rfl ?_;intro v56;rw[bytesV_u8s];refine WL.nil ⟨(Ent.left [_,_,_] _),?_⟩
      refine WN.one 35 (by kernel_rfl) rfl<|WL.call rfl rfl F21.fn rfl (FT.make fun g gS dj=>window_Line S.r K.rw tv tw (by obtain⟨a,ha,hle⟩:=In.of_stars' (p:=tabO S.r.table tv tw) 13 rfl gS dj;exact TabAt.mono ha hle) S.t K.tw S.t.w.toNat (by omega) K.ok _ _ _ (intsB (S.row' x0)) (intsB (S.row' y0)) (intsB (S.row' z0)) (vec_u8s (E:=5) (u:=v47) (l:=intsB (S.row' x0)) (intsB_len _) (In.of_stars' 1 rfl gS dj)) (vec_u8s (E:=5) (u:=v56) (l:=intsB (S.row' y0)) (intsB_len _) (In.of_stars' 0 rfl gS dj)) (vec_u8s (E:=5) (u:=v65) (l:=intsB (S.row' z0)) (intsB_len _) (In.of_stars' 2 rfl gS dj)) ⟨by rw[intsB_len];have:=rx.1;omega,by rw[intsB_len];have:=ry.1;omega,by rw[intsB_len];have:=rz.1;omega,fun i hi=>rx.2 i (by have:=rx.1;omega),fun i hi=>ry.2 i (by have:=ry.1;omega),fun i hi=>rz.2 i (by have:=rz.1;omega)⟩) ?_;rintro _ _ ⟨_,⟨u,rfl,rfl⟩,rfl⟩
      refine WL.nil ⟨(Ent.left [_,_,_,_] _),?_⟩
      refine WT.read (m:=0) (fin:=fun l=>l == #[true,true,true,true,true,true,true,true,true,true,true,true,true,true,true,true,true,true,true,true,true,true,true,true,true,true,true,true,true,true,true,true,true,true,true,true,true,true,true,true,true]) [(36,true),(37,true),(38,true),(39,true),(40,true)] (by kernel_rfl) (PInv.then PInv.ret) ((Ent.left [_,_,_,_] _))<|WE.take rfl (V.move rfl)<|WE.take rfl (V.extract rfl rfl)<|WE.take rfl (V.extract rfl rfl)<|WE.take rfl (V.assign rfl) ?_;refine WE.take rfl (V.assign rfl)<|WE.free #[true,true,true,true,true,true,true,true,true,true,true,true,true,true,true,true,true,true,true,true,true,true,true,true,true,true,true,true,true,true,true,true,true,true,true,true,true,true,true,true,true]<|WT.nil (by kernel_rfl)<|X.thenN ⟨(u,0),trivial,(Env.Sub.cons rfl rfl (Env.Sub.cons rfl rfl (Env.Sub.cons rfl rfl (Env.Sub.cons rfl rfl (Env.Sub.cons rfl rfl (Env.Sub.cons rfl rfl Env.Sub.nil)))))),(Ent.pk [0,3,3,3,3,3,3,3,3,3,3,3] rfl)⟩
     ·
      refine L.strToBytes T9.u T60.sl T5.u rfl ?_;intro v56;rw[bytesV_u8s];refine WL.nil ⟨(Ent.left [_,_] _),?_⟩;refine WN.one 16 (by kernel_rfl) rfl<|L.strToBytes T9.u T60.sl T5.u rfl ?_;intro v47;rw[bytesV_u8s];refine WL.nil ⟨(Ent.left [_,_,_] _),?_⟩
      refine WN.one 35 (by kernel_rfl) rfl<|WL.call rfl rfl F21.fn rfl (FT.make fun g gS dj=>window_Line S.r K.rw tv tw (by obtain⟨a,ha,hle⟩:=In.of_stars' (p:=tabO S.r.table tv tw) 13 rfl gS dj;exact TabAt.mono ha hle) S.t K.tw S.t.w.toNat (by omega) K.ok _ _ _ (intsB (S.row' x0)) (intsB (S.row' y0)) (intsB (S.row' z0)) (vec_u8s (E:=5) (u:=v47) (l:=intsB (S.row' x0)) (intsB_len _) (In.of_stars' 0 rfl gS dj)) (vec_u8s (E:=5) (u:=v56) (l:=intsB (S.row' y0)) (intsB_len _) (In.of_stars' 1 rfl gS dj)) (vec_u8s (E:=5) (u:=v65) (l:=intsB (S.row' z0)) (intsB_len _) (In.of_stars' 2 rfl gS dj)) ⟨by rw[intsB_len];have:=rx.1;omega,by rw[intsB_len];have:=ry.1;omega,by rw[intsB_len];have:=rz.1;omega,fun i hi=>rx.2 i (by have:=rx.1;omega),fun i hi=>ry.2 i (by have:=ry.1;omega),fun i hi=>rz.2 i (by have:=rz.1;omega)⟩) ?_;rintro _ _ ⟨_,⟨u,rfl,rfl⟩,rfl⟩
      refine WL.nil ⟨(Ent.left [_,_,_,_] _),?_⟩
      refine WT.read (m:=0) (fin:=fun l=>l == #[true,true,true,true,true,true,true,true,true,true,true,true,true,true,true,true,true,true,true,true,true,true,true,true,true,true,true,true,true,true,true,true,true,true,true,true,true,true,true,true,true]) [(36,true),(37,true),(38,true),(39,true),(40,true)] (by kernel_rfl) (PInv.then PInv.ret) ((Ent.left [_,_,_,_] _))<|WE.take rfl (V.move rfl)<|WE.take rfl (V.extract rfl rfl)<|WE.take rfl (V.extract rfl rfl)<|WE.take rfl (V.assign rfl) ?_;refine WE.take rfl (V.assign rfl)<|WE.free #[true,true,true,true,true,true,true,true,true,true,true,true,true,true,true,true,true,true,true,true,true,true,true,true,true,true,true,true,true,true,true,true,true,true,true,true,true,true,true,true,true]<|WT.nil (by kernel_rfl)<|X.thenN ⟨(u,0),trivial,(Env.Sub.cons rfl rfl (Env.Sub.cons rfl rfl (Env.Sub.cons rfl rfl (Env.Sub.cons rfl rfl (Env.Sub.cons rfl rfl (Env.Sub.cons rfl rfl Env.Sub.nil)))))),(Ent.pk [0,3,3,3,3,3,3,3,3,3,3,3] rfl)⟩
   ·
    rintro ⟨u,_⟩ _
    refine WP.regs<|L.move rfl<|WL.fact (fun _ _ _ s=>s.vec_shape 0 rfl) ?_;rintro ⟨_,ua,ucap,rfl,hucap,hua⟩
    obtain⟨ub,rfl⟩:=hua (by omega)
    refine L.move rfl<|L.bytesToStr T60.sl T5.u T9.u rfl (ns:=lineD S.r S.t (intsB (S.row' x0)) (intsB (S.row' y0)) (intsB (S.row' z0))) (by unfold lineD;rw[List.length_map,List.length_range]) (fun _ _ _ e=>by cases e;exact⟨rfl,Rds.vec 0 rfl (fun j v hj=>by rw[Nat.zero_add];exact hj)⟩) (fun e=>by cases e) ?_
    refine WL.callS rfl rfl F53.fn rfl (FT.partP (seaS b ⟨tv,tw,.slice (some ⟨c0,0,none⟩) S.nodes.length ncap,bp,br,bl,bn,ov,bm,bk⟩ S) _ ((Ent.pk [2,2,2,2,2,2,2,2,2,2,1] rfl)) fun g gS dj=>sea_rowP b ⟨tv,tw,.slice (some ⟨c0,0,none⟩) S.nodes.length ncap,bp,br,bl,bn,ov,bm,bk⟩ S (lineB S (S.row' x0) (S.row' y0) (S.row' z0)) hm hmo) ?_ ?_
    · intro τ9 h9
      obtain⟨_,⟨A9,S9,rfl,hs9,hl9⟩,rfl⟩:=h9
      exact⟨rfl,.inr ⟨rfl,_,⟨A9,S9,rfl,hs9,by simp only[SeaD.line,hq];exact hl9⟩,Ent.right _ _⟩⟩
    rintro _ _ ⟨_,⟨nv,rfl,rfl,hlt⟩,rfl⟩
    refine L.assign rfl<|WL.nil<|WP.seq<|WP.rege [(0,true),(1,true),(2,true),(3,true),(4,true),(5,true),(6,false)] 6 rfl (by kernel_rfl) (PInv.then PInv.ret) rfl<|WE.take rfl (V.move rfl)<|WE.take rfl (V.nilCheck rfl)<|WE.take rfl (V.fieldAddr (o':=22) T59.f8 rfl rfl)<|WE.take rfl (V.load T55.sc rfl (Rd.own 0 rfl rfl))<|WE.take rfl (V.loadN T204.ag rfl rfl (Rds.all 10 rfl))<|WE.take rfl (V.move rfl)<|WE.last rfl<|L.mapUpdate (α:=Nat × Nat × Nat) (enc:=enc3) (key:=(x0,y0,z0)) 5 T55.m K204 rfl rfl rfl rfl ?_
    rw[mput_vm,row_lines]
    refine WL.nil<|WE.nil<|X.thenN<|WP.regs<|L.move rfl<|L.assign rfl<|WL.nil<|WP.ret<|X.ret rfl (Res.one rfl rfl)<|.inl ⟨_,rfl,_,⟨nv,by simp only[SeaD.line,hq];rfl,rfl,by simp only[SeaD.line,hq];exact hlt⟩,((Ent.pk [1,1,1,1,1,0,0,0,0,0] rfl)).trans (Ent.of_eq ?_)⟩
    simp only[SeaD.line,hq]
    rfl
end
end Go.Eng
