/- Walks of the functions of the seat over those rules, and plain laws of what they compute. No conditions beyond those in each theorem. -/
import Derived.Test.YtclhjichmdjlaaaGreatSM
set_option linter.unusedSimpArgs false
set_option linter.unusedVariables false
namespace Go.Eng
open Go.RowKit Go.Proofs
structure Leap1 (S:SeaD) (row:ByteArray) (s m z p q w e g:SeaD × Nat) (lo hi:Int):Prop where
  hs:SeaD.build 5 S 16 [row]=s
  hm:SeaD.mid 5 s.1 s.2 0=m
  hz:m.1.zero 3=z
  hp:z.1.pair z.2 (m.1.nd m.2).a=p
  hq:p.1.pair (m.1.nd m.2).b z.2=q
  hw:q.1.pair p.2 q.2=w
  he:SeaD.edge 6 w.1 w.2 false=(e.1,lo)
  hg:SeaD.edge 6 e.1 w.2 true=(g.1,hi)
section
variable {k:World} {h0:Hp}
set_option maxRecDepth 10000 in
set_option maxHeartbeats 8000000 in
theorem sea_leap1 (b cb:Nat) (A:SeaA) (S:SeaD) (K:SeaK S) (hi:Inv S) (row:ByteArray) (rv:Value) (hbt:BtsAt h0 rv [row]) (hrow:RowOkB S row) (q0 at0:Int) (hat:-1099511627776≤at0∧at0≤1099511627776) (s m z p q w e g:SeaD × Nat) (lo hi2:Int) (H:Leap1 S row s m z p q w e g lo hi2) (hlo:0≤lo) (hw30:S.t.w≤1000) (hc:S.nodes.length+900≤S.most):FT Pg 70 [.pointer (some ⟨b,0,none⟩),.agg #[.int .i64 S.t.w,.int .i64 at0,rv],.int .i64 1,.pointer (some ⟨cb,0,none⟩)] k h0 (seaS b A S++[cl cb [.int .i64 S.t.w,.int .i64 q0,.slice none 0 0] 63]) (Ret fun y τ=>y=.int .i64 0∧∃ nv v,τ=[cl cb [.int .i64 S.t.w,.int .i64 (at0-16+lo),v] 63,rowsP v (cutD g.1.nodes 5 w.2 lo (hi2+1))]++seaS b {A with nv:=nv} g.1):=by
  obtain⟨hs,hm,hz,hp,hq,hw,he,hg⟩:=H
  have hwd:=K.ok.2.1;unfold TopoD.Ok at hwd
  have G0:=Good.refl K hi
  have hr1:∀ i,i < [row].length→RowOkB S ([row].getD i ByteArray.empty):=fun i hi=>by have h0:i=0:=(by simpa using hi);subst h0;exact hrow
  obtain⟨Gs,ls,es⟩:=Good.build hr1 5 16 G0 (by omega)
  rw[hs] at Gs ls es
  obtain⟨Gm,lm,em⟩:=Gs.mid (f:=5) (l:=3) (j:=0) ls (by omega) (by omega)
  rw[hm] at Gm lm em
  obtain⟨lma,lmb⟩:=Gm.kids lm
  obtain⟨Gz,lz,ez⟩:=Gm.zero 3 (by omega)
  rw[hz] at Gz lz ez
  obtain⟨Gp,lp,ep⟩:=Gz.pair lz (lma.up ez) (by omega)
  rw[hp] at Gp lp ep
  obtain⟨Gq,lq,eq⟩:=Gp.pair ((lmb.up ez).up ep) (lz.up ep) (by omega)
  rw[hq] at Gq lq eq
  obtain⟨Gw,lw,ew⟩:=Gq.pair (lp.up eq) lq (by omega)
  rw[hw] at Gw lw ew
  have lw:Lv w.1 w.2 5:=lw
  obtain⟨Ge,ee,he1,he2⟩:=Good.edge false 6 Gw lw (by omega)
  rw[he] at Ge ee he1 he2
  obtain⟨Gg,eg,hg1,hg2⟩:=Good.edge true 6 Ge (lw.up ee) (by omega)
  rw[hg] at Gg eg hg1 hg2
  have hcb:costB 5=120:=rfl
  have hce:costE 5=120:=rfl
  have hcm:costM 3=530:=rfl
  dsimp only at he1 he2 hg1 hg2 Ge ee Gg eg
  refine FT.tight ?_
  have hbt0:=hbt
  obtain⟨vs,hsl,hall⟩:=hbt
  obtain⟨ra,rcap,rfl,hrcap,hrn,hrs⟩:SlAt h0 1 rv 1 (fun i=>vs.getD i undef):=hsl
  refine FT.of_wp (n:=114) Tryz.func70 rfl rfl rfl<|WP.regs<|L.box rfl rfl fun c5=>L.box rfl rfl fun c7=>L.assign rfl<|WL.nil<|WP.regs<|L.fieldAddr (o':=2) T63.f2 rfl rfl<|L.load T61.sc rfl (Rd.own 1 rfl rfl)<|L.lenS T61.sl rfl rfl<|L.assign rfl<|WL.nil<|WP.regs<|L.move rfl<|L.move rfl<|L.mul' rfl rfl (by omega)<|L.add' rfl rfl (by omega)<|L.add' rfl rfl (by omega)<|L.mul' rfl rfl (by omega)<|L.sub' rfl rfl (by omega)<|L.convInt T3.u T177.u rfl<|WL.callV rfl rfl F120.fn rfl (fun g gS dj=>bits_Len)<|L.assign rfl ?_;refine WL.nil<|WP.regs<|L.move rfl<|L.sub' rfl rfl (by omega)<|L.shl rfl rfl (by omega)<|L.move rfl<|L.quo' rfl rfl (by omega) ?_
  rw[show IntKind.i64.wrap (1*2^min ((5:Int)-1).toNat IntKind.i64.bits)=16 from rfl]
  refine L.sub' rfl rfl (by omega)<|L.assign rfl<|WL.nil<|WP.regs<|L.move rfl<|L.move rfl<|L.move rfl<|L.fieldAddr (o':=2) T63.f2 rfl rfl<|L.load T61.sc rfl (Rd.own 1 rfl rfl)<|WL.call rfl rfl F121.fn rfl (FT.part (seaS b A S) _ ((Ent.pk [2,2,2,2,2,2,2,2,2,2,1,0,0] rfl)) fun g gS dj=>sea_build b S.t S.r _ [row] (by simp) 5 k _ A S K hi (BtsAt.mono hbt0 (Hp.le_un_left _ _)) hr1 16 (by omega) (by decide) (by omega)) ?_;rintro _ _ ⟨_,⟨nv1,rfl,rfl⟩,rfl⟩
  rw[hs]
  refine L.assign rfl<|WL.nil<|WP.seq<|WP.regs<|L.assign rfl<|WL.nil<|WP.block<|WP.loop (X:=Value × SeaD × Nat × Nat) (fun x=>⟨114,[],[(0,.pointer (some ⟨b,0,none⟩)),(2,.int .i64 1),(5,.pointer (some ⟨c5,0,none⟩)),(7,.pointer (some ⟨c7,0,none⟩)),(10,.int .i64 5),(11,.int .i64 16),(12,.int .i64 (x.2.2.1:Int)),(13,.int .i64 (x.2.2.2:Int))]⟩) (fun x=>[cl c5 [.int .i64 S.t.w,.int .i64 at0,.slice ra 1 rcap] 63,cl c7 [.pointer (some ⟨cb,0,none⟩)] 122,cl cb [.int .i64 S.t.w,.int .i64 q0,.slice none 0 0] 63]++seaS b {(A:SeaA) with nv:=x.1} x.2.1) (fun x=>(x.2.2.2=0∧x.2.1=s.1∧x.2.2.1=s.2)∨(x.2.2.2=1∧x.2.1=w.1∧x.2.2.1=w.2)) (fun x=>1-x.2.2.2) (nv1,s.1,s.2,0) (.inl ⟨rfl,rfl,rfl⟩) (Env.Sub.cons rfl rfl (Env.Sub.cons rfl rfl (Env.Sub.cons rfl rfl (Env.Sub.cons rfl rfl (Env.Sub.cons rfl rfl (Env.Sub.cons rfl rfl (Env.Sub.cons rfl rfl (Env.Sub.cons rfl rfl Env.Sub.nil)))))))) ((Ent.pk [10,10,10,0,0,0,0,0,0,0,0,0,0] rfl)) ?_
  rintro ⟨nv,T,id,i⟩ hI
  dsimp only at hI ⊢
  refine WP.seq<|WP.regs<|L.move rfl<|L.move rfl<|L.shr rfl rfl (by omega)<|L.gtr rfl rfl<|WL.nil<|WP.condD rfl (fun h47=>?_) (fun h47=>?_)
  ·
   rcases hI with ⟨rfl,rfl,rfl⟩ | ⟨rfl,_,_⟩
   rotate_left
   exact absurd h47 (by decide)
   refine WP.skip<|X.thenN<|WP.seq<|WP.block<|WP.seq<|WP.regs<|L.move rfl<|L.move rfl<|L.shr rfl rfl (by omega)<|L.and rfl rfl<|L.eql rfl rfl<|WL.nil<|WP.condD rfl (fun hT=>absurd hT (by decide)) (fun h54=>?_);refine WP.skip<|X.thenN<|WP.regs<|L.move rfl<|L.move rfl<|L.move rfl<|WL.call rfl rfl F60.fn rfl (FT.part (seaS b {(A:SeaA) with nv:=nv} s.1) _ ((Ent.pk [3,3,3,3,3,3,3,3,3,3,0,0,0] rfl)) fun g gS dj=>sea_mid b 5 k _ {(A:SeaA) with nv:=nv} s.1 s.2 0 _ 3 rfl Gs.K Gs.i ls (by omega) (by omega) (by have:=Gs.len;have:=Gs.most;omega)) ?_;rintro _ _ ⟨_,⟨nv2,rfl,rfl⟩,rfl⟩
   rw[hm]
   have hm2:=lm.1
   refine WL.fact (fun _ _ _ s=>s.vec_shape (E:=111) (sz:=4) 1 rfl) ?_;rintro ⟨_,na2,ncap2,hnv2,_,hna2⟩
   obtain⟨c2,rfl⟩:=hna2 (by omega)
   dsimp only at hnv2
   subst hnv2
   refine L.assign rfl<|WL.nil<|WP.regs<|L.move rfl<|L.nilCheck rfl<|L.fieldAddr (o':=18) T59.f4 rfl rfl<|L.load T51.sc rfl (Rd.own 0 rfl rfl)<|L.move rfl<|L.indexS T51.sl rfl rfl (by omega)<|L.loadN T111.ag rfl rfl (Rds.vec (vs:=nodeC (m.1.nodes.getD m.2 .no)) 1 rfl (fun j v hj=>nodesC_rd m.1.nodes m.2 hm2 j hj))<|L.alloc T111.z fun cn=>L.storeN T111.ag rfl rfl rfl (Wrs.all 0 rfl rfl (by simp[Value.oneCell']))<|WL.nil<|WP.regs<|L.move rfl<|L.move rfl<|L.sub' rfl rfl (by omega)<|WL.call rfl rfl F122.fn rfl (FT.part (seaS b {(A:SeaA) with nv:=(.slice (some ⟨c2,0,none⟩) m.1.nodes.length ncap2)} m.1) _ ((Ent.pk [1,1,1,1,1,1,1,1,1,1,0,0,0,0] rfl)) fun g gS dj=>sea_zero b {(A:SeaA) with nv:=(.slice (some ⟨c2,0,none⟩) m.1.nodes.length ncap2)} m.1 Gm.K Gm.i 3 (by omega) (by have:=Gm.len;have:=Gm.most;omega)) ?_;rintro _ _ ⟨_,⟨nv3,rfl,rfl⟩,rfl⟩
   rw[hz]
   refine L.assign rfl<|WL.nil<|WP.regs<|L.move rfl<|L.move rfl<|L.fieldAddr (o':=1) T111.f1 rfl rfl<|L.load T3.sc rfl (Rd.own 10 rfl rfl)<|WL.call rfl rfl F56.fn rfl (FT.part (seaS b {(A:SeaA) with nv:=nv3} z.1) _ ((Ent.refl _)) fun g gS dj=>sea_pair b {(A:SeaA) with nv:=nv3} z.1 z.2 (m.1.nd m.2).a lz.1 (by have:=Gz.len;have:=Gz.most;omega) Gz.K.most (by have h9:(z.1.nodes.getD z.2 .no).level=_:=lz.2;omega)) ?_;rintro _ _ ⟨_,⟨nv4,rfl,rfl⟩,rfl⟩
   rw[hp]
   refine L.assign rfl<|WL.nil<|WP.region<|L.move rfl<|L.move rfl<|L.move rfl<|L.fieldAddr (o':=2) T111.f2 rfl rfl<|L.load T3.sc rfl (Rd.own 10 rfl rfl)<|L.move rfl<|WL.call rfl rfl F56.fn rfl (FT.part (seaS b {(A:SeaA) with nv:=nv4} p.1) _ ((Ent.refl _)) fun g gS dj=>sea_pair b {(A:SeaA) with nv:=nv4} p.1 (m.1.nd m.2).b z.2 ((lmb.up ez).up ep).1 (by have:=Gp.len;have:=Gp.most;omega) Gp.K.most (by have h9:(p.1.nodes.getD (m.1.nd m.2).b .no).level=_:=((lmb.up ez).up ep).2;omega)) ?_;rintro _ _ ⟨_,⟨nv5,rfl,rfl⟩,rfl⟩
   rw[hq]
   refine WL.call rfl rfl F56.fn rfl (FT.part (seaS b {(A:SeaA) with nv:=nv5} q.1) _ ((Ent.refl _)) fun g gS dj=>sea_pair b {(A:SeaA) with nv:=nv5} q.1 p.2 q.2 (lp.up eq).1 (by have:=Gq.len;have:=Gq.most;omega) Gq.K.most (by have h9:(q.1.nodes.getD p.2 .no).level=_:=(lp.up eq).2;omega)) ?_;rintro _ _ ⟨_,⟨nv6,rfl,rfl⟩,rfl⟩
   rw[hw]
   refine L.assign rfl<|WL.nil<|X.blockN<|X.thenN<|WP.region<|L.move rfl<|L.add' rfl rfl (by omega)<|L.assign rfl<|WL.nil<|X.thenN ⟨(nv6,w.1,w.2,1),.inr ⟨rfl,rfl,rfl⟩,by dsimp only;omega,(Env.Sub.cons rfl rfl (Env.Sub.cons rfl rfl (Env.Sub.cons rfl rfl (Env.Sub.cons rfl rfl (Env.Sub.cons rfl rfl (Env.Sub.cons rfl rfl (Env.Sub.cons rfl rfl (Env.Sub.cons rfl rfl Env.Sub.nil)))))))),(Ent.pk [11,11,11,0,0,0,0,0,0,0,0,0,0] rfl)⟩
  ·
   rcases hI with ⟨rfl,_,_⟩ | ⟨rfl,rfl,rfl⟩
   exact absurd (by decide) h47
   refine WP.exit<|X.thenE (X.thenE (X.blockE ?_));refine X.thenN<|WP.regs<|L.move rfl<|L.move rfl<|WL.call rfl rfl F123.fn rfl (FT.part (seaS b {(A:SeaA) with nv:=nv} w.1) _ ((Ent.pk [3,3,3,3,3,3,3,3,3,3,0,0,0] rfl)) fun g gS dj=>sea_edge_false b 6 k _ {(A:SeaA) with nv:=nv} w.1 5 w.2 Gw.K Gw.i lw (by omega) (by have:=Gw.len;have:=Gw.most;omega)) ?_;rintro _ _ ⟨_,⟨nv7,rfl,rfl⟩,rfl⟩
   rw[he]
   dsimp only
   refine L.assign rfl<|WL.nil<|WP.seq<|WP.regs<|L.move rfl<|L.lss rfl rfl<|WL.nil<|WP.condD rfl (fun hT=>absurd hT (by omega)) (fun h87=>?_);refine WP.skip<|X.thenN<|WP.regs<|L.move rfl<|L.move rfl<|WL.call rfl rfl F123.fn rfl (FT.part (seaS b {(A:SeaA) with nv:=nv7} e.1) _ ((Ent.refl _)) fun g gS dj=>sea_edge_true b 6 k _ {(A:SeaA) with nv:=nv7} e.1 5 w.2 Ge.K Ge.i (lw.up ee) (by omega) (by have:=Ge.len;have:=Ge.most;omega)) ?_;rintro _ _ ⟨_,⟨nv8,rfl,rfl⟩,rfl⟩
   rw[hg]
   dsimp only
   refine L.add' rfl rfl (by omega)<|L.assign rfl<|WL.nil<|WP.seq<|WP.regs<|L.move rfl<|L.move rfl<|L.sub' rfl rfl (by omega)<|L.fieldAddr (o':=0) T63.f0 rfl rfl<|L.load T3.sc rfl (Rd.own 10 rfl rfl)<|L.quo' rfl rfl (by omega)<|L.gtr rfl rfl<|WL.nil<|WP.condD rfl (fun hT=>absurd hT (by have h1:32≤1048576/S.t.w:=(by rw[Int.le_ediv_iff_mul_le (by omega)];omega);omega)) (fun h98=>?_)
   refine WP.skip<|X.thenN<|WP.regs<|L.load T122.sc rfl (Rd.own 11 rfl rfl)<|L.fieldAddr (o':=1) T63.f1 rfl rfl<|L.load T3.sc rfl (Rd.own 10 rfl rfl)<|L.move rfl<|L.sub' rfl rfl (by omega)<|L.move rfl<|L.add' rfl rfl (by omega)<|L.nilCheck rfl<|L.fieldAddr (o':=1) T63.f1 rfl rfl<|L.store T3.sc rfl rfl rfl (Wr.at 12 rfl rfl)<|WL.nil<|WP.regs<|L.move rfl<|L.move rfl<|L.move rfl<|L.move rfl<|L.mkFunc (vs:=[_]) rfl<|WL.call rfl rfl F124.fn rfl (FT.part (seaS b {(A:SeaA) with nv:=nv8} g.1++[accB c7 cb S.t.w (at0-16+lo) []]) _ (((Ent.pk [11,11,0,0,0,0,0,0,0,0,0,0] rfl)).trans (Ent.accB0.trans (Ent.pk [1,1,1,1,1,1,1,1,1,1,0] rfl))) fun g' gS dj=>sea_cut b g.1 Gg.i.nw (accB c7 cb S.t.w (at0-16+lo)) _ F125.fn [.pointer (some ⟨c7,0,none⟩)] 1048576 5 k _ (fun g'' le ls x hlt=>sea_leap1c c7 cb S.t.w (at0-16+lo) ls x (by omega)) {(A:SeaA) with nv:=nv8} w.2 lo (hi2+1) [] ((lw.up ee).up eg).1 ((lw.up ee).up eg).2 ⟨by omega,by omega⟩ ⟨by omega,by omega⟩ (by simp only[List.length_nil];omega)) ?_;rintro _ _ ⟨_,⟨rfl,rfl⟩,rfl⟩
   refine WL.ent (Ent.pk [10,0,0,0,0,0,0,0,0,0,0] rfl)<|WL.ex ?_
   rintro ⟨v8,vs8⟩
   refine WL.ent Ent.stars<|WL.fact (fun _ _ _ s=>(s.vec_shape 2 rfl).1) fun hv8=>?_
   dsimp only at hv8
   refine WL.nil<|WP.regs<|L.assign rfl<|WL.nil<|WP.ret<|X.ret rfl (Res.one rfl rfl)<|⟨_,rfl,_,⟨rfl,nv8,v8,rfl⟩,((Ent.pk [2,2,1,1,1,1,1,1,1,1,1,1,1] rfl)).trans ((Ent.rowsP (by simpa using hv8)).trans (Ent.pk [1,0,0,0,0,0,0,0,0,0,0,0] rfl))⟩
end
open Go.RowKit Go.Proofs
def LivesB (x:ByteArray):Prop:=∃ i,i<(intsB x).length∧(intsB x).getD i 0≠0
def RowOk2 (r:RuleD) (t:TopoD) (x:ByteArray):Prop:=(x.size:Int)=t.w∧∀ i,i<x.size→0≤(intsB x).getD i 0∧(intsB x).getD i 0<r.nSt
def flatB (ls:List ByteArray) (i:Nat):List Int:=(ls.take i).flatMap intsB
theorem flatB_succ (ls:List ByteArray) (i:Nat) (h:i<ls.length):flatB ls (i+1)=flatB ls i++intsB (ls.getD i ByteArray.empty):=by
  unfold flatB
  rw[List.take_add_one,List.getElem?_eq_getElem h,List.getD_eq_getElem?_getD,List.getElem?_eq_getElem h]
  simp only[List.flatMap_append,Option.toList_some,List.flatMap_cons,List.flatMap_nil,List.append_nil,Option.getD_some]
theorem flatB_len (ls:List ByteArray) (w:Nat) (hs:∀ i,i<ls.length→(ls.getD i ByteArray.empty).size=w):∀ i,i≤ls.length→(flatB ls i).length=i*w
  | 0,_=>by simp[flatB]
  | i+1,h=>by rw[flatB_succ ls i (by omega),List.length_append,flatB_len ls w hs i (by omega),intsB_len,hs i (by omega),Nat.succ_mul]
theorem flatB_get (ls:List ByteArray) (w:Nat) (hs:∀ i,i<ls.length→(ls.getD i ByteArray.empty).size=w) (i j:Nat) (hj:j<w):∀ n,n≤ls.length→i<n→(flatB ls n).getD (i*w+j) 0=(intsB (ls.getD i ByteArray.empty)).getD j 0
  | 0,_,h=>absurd h (by omega)
  | n+1,hn,h=>by
    have hl:=flatB_len ls w hs n (by omega)
    rw[flatB_succ ls n (by omega),List.getD_eq_getElem?_getD]
    rcases Nat.lt_or_ge i n with h1 | h1
    · have h2:(i+1)*w≤n*w:=Nat.mul_le_mul_right w (by omega)
      rw[Nat.succ_mul] at h2
      rw[List.getElem?_append_left (by omega),← List.getD_eq_getElem?_getD]
      exact flatB_get ls w hs i j hj n (by omega) h1
    · obtain rfl:i=n:=by omega
      rw[List.getElem?_append_right (by omega),hl,Nat.add_sub_cancel_left,← List.getD_eq_getElem?_getD]
theorem u8sC_get (l:List Int) (j:Nat) (hj:j<(u8sC l).length):(fun i=>Value.int .u8 (l.getD i 0)) (0+j)=(u8sC l)[j]:=by
  unfold u8sC at hj ⊢
  rw[List.length_map] at hj
  rw[List.getElem_map,Nat.zero_add]
  show Value.int .u8 (l.getD j 0)=_
  rw[List.getD_eq_getElem?_getD,List.getElem?_eq_getElem hj];rfl
theorem u8sC_append (a b:List Int):u8sC (a++b)=u8sC a++u8sC b:=by simp[u8sC]
theorem addr_add0 (f n:Nat):Option.map (fun x:Addr=>x.add n) (some ⟨f,0,none⟩)=some ⟨f,0+n,none⟩:=by
  rw[Option.map_some]
  unfold Addr.add
  split
  · rename_i h;subst h;rfl
  · rfl
def pieces (f w:Nat) (i:Nat):List Value:=(List.range i).map fun j=>.slice (some ⟨f,0+j*w*1,none⟩) w w
theorem pieces_succ (f w i:Nat):pieces f w (i+1)=pieces f w i++[.slice (some ⟨f,0+i*w*1,none⟩) w w]:=by
  unfold pieces;rw[List.range_succ,List.map_append];rfl
theorem pieces_get (f w n i:Nat) (h:i<n):(pieces f w n).getD i undef=.slice (some ⟨f,0+i*w*1,none⟩) w w:=by
  unfold pieces
  rw[List.getD_eq_getElem?_getD,List.getElem?_map,List.getElem?_range h];rfl
theorem Ent.pieces {σ:List HP} {E E':Nat} {u:Value} {ls:List ByteArray} {f w cap:Nat} (hs:∀ i,i<ls.length→(ls.getD i ByteArray.empty).size=w) (hw:0<w):Ent (vec E 1 u ls.length (Go.Eng.pieces f w ls.length)::vec E' 1 (.slice (some ⟨f,0,none⟩) (ls.length*w) cap) (ls.length*w) (u8sC (flatB ls ls.length))::σ) (Go.Eng.rowsP u ls::σ):=
  Ent.merge fun a b ha hb dj=>by
   have hl:=flatB_len ls w hs ls.length (Nat.le_refl _)
   refine⟨Go.Eng.pieces f w ls.length,(In.slAt (In.self ha) undef).mono (Hp.le_un_left a b),fun i hi=>?_⟩
   rw[pieces_get _ _ _ _ hi]
   have hx:=hs i hi
   have h2:(i+1)*w≤ls.length*w:=Nat.mul_le_mul_right w (by omega)
   rw[Nat.succ_mul] at h2
   have hbt:BytesAt b (.slice (some ⟨f,0,none⟩) (ls.length*w) cap) (flatB ls ls.length):=vec_u8s hl (In.self hb)
   obtain⟨a',c',e,_,_,hc⟩:=hbt
   obtain⟨b',o',e2,hcell⟩:=hc (by omega)
   rw[e2] at e
   obtain⟨⟨rfl,rfl,_⟩,_,_⟩:(f=b'∧0=o'∧True)∧True∧True:=by
    simp only[Value.slice.injEq,Option.some.injEq,Addr.mk.injEq] at e
    exact⟨⟨e.1.1,e.1.2.1,trivial⟩,trivial,trivial⟩
   refine BytesAt.mono (h:=b) ?_ (Hp.le_un_right dj)
   show SlAt b 1 _ _ _
   refine⟨some ⟨f,0+i*w*1,none⟩,w,by rw[intsB_len,hx],by rw[intsB_len,hx];omega,fun e=>(by cases e),fun _=>⟨f,0+i*w*1,rfl,fun j hj=>?_⟩⟩
   rw[intsB_len,hx] at hj
   have h3:=hcell (i*w+j) (by omega)
   rw[show 0+i*w*1+j=0+(i*w+j) by omega,h3]
   dsimp only
   rw[flatB_get ls w hs i j (by omega) ls.length (Nat.le_refl _) hi]
theorem In.rowsP {h:Hp} {v:Value} {ls:List ByteArray} (i:In (Go.Eng.rowsP v ls) h):BtsAt h v ls:=by
  obtain⟨a,x,l⟩:=i;exact BtsAt.mono x l
theorem BtsAt.shape {h:Hp} {v:Value} {ls:List ByteArray} (s:BtsAt h v ls):∃ a c,v=.slice a ls.length c:=by
  obtain⟨vs,a,b⟩:=s;exact a.shape
section
variable {k:World} {h0:Hp}
set_option maxRecDepth 10000 in
theorem window_far (y:Int) (h:-1099511627776≤y∧y≤1099511627776):FT Pg 66 [.int .i64 y] k h0 [] (Is (.bool false)):=by
  refine FT.of_wp (n:=7) Tryz.func66 rfl rfl rfl<|WP.regs<|L.assign rfl<|WL.nil<|WP.regs<|L.move rfl<|L.move rfl<|WL.callV rfl rfl F117.fn rfl (fun g gS dj=>whole_Near y _ _)<|L.neq rfl rfl<|L.assign rfl<|WL.nil<|WP.ret<|X.ret rfl (Res.one rfl rfl) ?_
  show _=_
  rw[decide_eq_false (by rw[if_neg (by omega),if_neg (by omega)];simp)]
set_option maxRecDepth 10000 in
theorem window_empty (rv:Value) (l:List Int) (hlv:BytesAt h0 rv l) (hl:l.length≤4611686018427387904):FT Pg 116 [rv] k h0 [] (Is (.bool (decide (∀ i,i<l.length→l.getD i 0=0)))):=by
  obtain⟨aa,acap,rfl,hacap,hanone,hasome⟩:=hlv
  refine FT.of_wp (n:=14) Tryz.func116 rfl rfl rfl<|WP.regs<|L.assign rfl<|WL.nil<|WP.seq<|WP.regs<|L.move rfl<|L.lenS T60.sl rfl rfl<|L.move rfl<|WL.nil<|WP.block<|WP.loop (X:=Nat) (fun i=>⟨14,[],[(5,.slice aa l.length acap),(6,.int .i64 (l.length:Int)),(7,.int .i64 (i:Int))]⟩) (fun i=>[]) (fun i=>i≤l.length∧∀ j,j<i→l.getD j 0=0) (fun i=>l.length-i) 0 (⟨Nat.zero_le _,fun j hj=>absurd hj (by omega)⟩) (Env.Sub.cons rfl rfl (Env.Sub.cons rfl rfl (Env.Sub.cons rfl rfl Env.Sub.nil))) ((Ent.pk [] rfl)) ?_
  rintro i ⟨hi,hall⟩
  refine WP.regs<|L.lss rfl rfl<|WL.nil<|WP.seq<|WP.condD rfl (fun h8=>?_) (fun h8=>?_);refine WP.skip<|X.thenN<|WP.seq<|WP.block<|WP.regs ?_
  obtain⟨b7,o7,rfl,hc7⟩:=hasome (by omega)
  refine L.indexS T60.sl rfl rfl (by omega)<|L.load T5.sc rfl (Rd.u8 hc7 i (by omega))<|L.assign rfl<|WL.nil<|WP.regs<|L.move rfl<|L.neq rfl rfl<|WL.nil<|WP.condD rfl (fun h12=>?_) (fun h12=>?_);refine WP.regs<|L.assign rfl<|WL.nil<|WP.ret<|X.blockR (X.thenR (X.thenR (X.blockR (X.thenR ?_))));refine X.ret rfl (Res.one rfl rfl) ?_
  show _=_
  rw[decide_eq_false (fun h=>by have:=h i (by omega);omega)]
  refine WP.skip<|X.blockN<|X.thenN<|WP.region<|L.add' rfl rfl (by omega)<|L.move rfl<|WL.nil<|X.thenN ⟨i+1,⟨by omega,fun j hj=>by rcases Nat.lt_or_ge j i with e | e;exact hall j e;obtain rfl:j=i:=(by omega);omega⟩,by omega,(Env.Sub.cons rfl rfl (Env.Sub.cons rfl rfl (Env.Sub.cons rfl rfl Env.Sub.nil))),(Ent.pk [] rfl)⟩;refine WP.exit<|X.thenE (X.thenE (X.blockE ?_));refine X.thenN<|WP.regs<|L.assign rfl<|WL.nil<|WP.ret<|X.ret rfl (Res.one rfl rfl) ?_
  show _=_
  rw[decide_eq_true (fun j hj=>hall j (by omega))]
theorem window_emptyF (rv:Value) (l:List Int) (hlv:BytesAt h0 rv l) (hl:l.length≤4611686018427387904) (h:∃ i,i<l.length∧l.getD i 0≠0):FT Pg 116 [rv] k h0 [] (Is (.bool false)):=by
  have:=window_empty (k:=k) (h0:=h0) rv l hlv hl
  rwa [decide_eq_false (fun h'=>by obtain⟨i,a,b⟩:=h;exact b (h' i a))] at this
theorem window_knowsT (r:RuleD) (hw:r.Wd) (v w:Value) (hta:TabAt h0 r.table v w) (hok:r.Ok) (rv:Value) (l:List Int) (hlv:BytesAt h0 rv l) (hl:l.length≤4611686018427387904) (hu:∀ i,i<l.length→0≤l.getD i 0∧l.getD i 0<r.nSt):FT Pg 61 [.agg (ruleC r v w).toArray,rv] k h0 [] (Is (.bool true)):=by
  have hf:=hok.facts
  have:=window_knows (k:=k) (h0:=h0) r hw v w hta hok rv l hlv hl (fun i hi=>by have:=hu i hi;unfold U8;omega)
  rwa [decide_eq_true (fun i hi=>(hu i hi).2)] at this
set_option maxRecDepth 10000 in
set_option maxHeartbeats 1000000 in
theorem window_may (r:RuleD) (hw:r.Wd) (v w:Value) (hta:TabAt h0 r.table v w) (t:TopoD) (hwt:t.Wd) (hok:WOk r t) (rv:Value) (ls:List ByteArray) (hbt:BtsAt h0 rv ls) (hr:∀ i,i<ls.length→RowOk2 r t (ls.getD i ByteArray.empty)) (hln:ls.length≤1048576) (at0:Int) (hat:-1099511627776≤at0∧at0+ls.length≤1099511627776):FT Pg 63 [.agg (ruleC r v w).toArray,.agg (topoC t).toArray,.agg #[.int .i64 t.w,.int .i64 at0,rv]] k h0 [] (Is (.int .i64 0)):=by
  obtain⟨vs,⟨ra,rcap,rfl,hrcap,hrn,hrs⟩,hall⟩:=hbt
  have hto:=hok.2.1
  unfold TopoD.Ok at hto
  refine FT.of_wp (n:=67) Tryz.func63 rfl rfl rfl<|WP.regs<|L.box rfl rfl fun b1=>L.box rfl rfl fun b2=>L.box rfl rfl fun b3=>L.assign rfl<|WL.nil<|WP.seq<|WP.regs<|L.loadN T32.ag rfl rfl (Rds.all 2 rfl)<|L.loadN T34.ag rfl rfl (Rds.all 1 rfl)<|WL.call rfl rfl F15.fn rfl (FT.pureR fun g gS dj=>window_Check r hw v w (hta.mono (Hp.le_un_left _ _)) t hwt) ?_;rintro _ _ ⟨⟨e,rfl,he⟩,rfl⟩
  obtain rfl:=he.2 hok
  refine L.assign rfl<|WL.nil<|WP.regs<|L.move rfl<|L.neq rfl rfl<|WL.nil<|WP.condD rfl (fun hT=>absurd hT (by omega)) (fun h17=>?_);refine WP.skip<|X.thenN<|WP.seq<|WP.regs<|L.fieldAddr (o':=0) T63.f0 rfl rfl<|L.load T3.sc rfl (Rd.own 0 rfl rfl)<|L.fieldAddr (o':=1) T34.f1 rfl rfl<|L.load T3.sc rfl (Rd.own 1 rfl rfl)<|L.neq rfl rfl<|WL.nil<|WP.condD rfl (fun hT=>absurd hT (by simp)) (fun h23=>?_)
  refine WP.skip<|X.thenN<|WP.seq<|WP.regs<|L.fieldAddr (o':=2) T63.f2 rfl rfl<|L.load T61.sc rfl (Rd.own 0 rfl rfl)<|L.lenS T61.sl rfl rfl<|L.move rfl<|WL.nil<|WP.block<|WP.loop (X:=Nat) (fun i=>⟨67,[],[(3,.pointer (some ⟨b1,0,none⟩)),(4,.pointer (some ⟨b2,0,none⟩)),(5,.pointer (some ⟨b3,0,none⟩)),(25,.slice ra ls.length rcap),(26,.int .i64 (ls.length:Int)),(27,.int .i64 (i:Int))]⟩) (fun i=>[cl b3 [.int .i64 t.w,.int .i64 at0,.slice ra ls.length rcap] 63,cl b2 (topoC t) 34,cl b1 (ruleC r v w) 32]) (fun i=>i≤ls.length) (fun i=>ls.length-i) 0 (Nat.zero_le _) (Env.Sub.cons rfl rfl (Env.Sub.cons rfl rfl (Env.Sub.cons rfl rfl (Env.Sub.cons rfl rfl (Env.Sub.cons rfl rfl (Env.Sub.cons rfl rfl Env.Sub.nil)))))) (Ent.refl _) ?_
  intro i hi
  refine WP.regs<|L.lss rfl rfl<|WL.nil<|WP.seq<|WP.condD rfl (fun h28=>?_) (fun h28=>?_);refine WP.skip<|X.thenN<|WP.seq<|WP.block<|WP.regs ?_
  obtain⟨rb,ro,rfl,hrc⟩:=hrs (by omega)
  refine L.indexS T61.sl rfl rfl (by omega) ?_
  obtain⟨va,vcap,hveq,hvcap,hvn,hvs⟩:=hall (i) (by omega)
  refine L.load T60.sc rfl (v:=vs.getD (i) undef) (Rd.ro (by have:=hrc (i) (by omega);refine Eq.trans (congrArg _ ?_) this;omega)) ?_
  rw[hveq]
  refine L.assign rfl<|WL.nil<|WP.regs<|L.move rfl<|L.lenS T60.sl rfl rfl<|L.fieldAddr (o':=1) T34.f1 rfl rfl<|L.load T3.sc rfl (Rd.own 1 rfl rfl)<|L.neq rfl rfl<|WL.nil<|WP.condD rfl (fun hT=>absurd hT (by have h1:=(hr i (by omega)).1;rw[intsB_len];omega)) (fun h35=>?_);refine WP.skip<|X.blockN<|X.thenN<|WP.region<|L.add' rfl rfl (by omega)<|L.move rfl<|WL.nil<|X.thenN ⟨i+1,by omega,by omega,(Env.Sub.cons rfl rfl (Env.Sub.cons rfl rfl (Env.Sub.cons rfl rfl (Env.Sub.cons rfl rfl (Env.Sub.cons rfl rfl (Env.Sub.cons rfl rfl Env.Sub.nil)))))),Ent.refl _⟩;refine WP.exit<|X.thenE (X.thenE (X.blockE ?_))
  refine X.thenN<|WP.seq<|WP.regs<|L.fieldAddr (o':=2) T63.f2 rfl rfl<|L.load T61.sc rfl (Rd.own 0 rfl rfl)<|L.lenS T61.sl rfl rfl<|L.move rfl<|WL.nil<|WP.block<|WP.loop (X:=Nat) (fun i=>⟨67,[],[(3,.pointer (some ⟨b1,0,none⟩)),(4,.pointer (some ⟨b2,0,none⟩)),(5,.pointer (some ⟨b3,0,none⟩)),(38,.slice ra ls.length rcap),(39,.int .i64 (ls.length:Int)),(40,.int .i64 (i:Int))]⟩) (fun i=>[cl b3 [.int .i64 t.w,.int .i64 at0,.slice ra ls.length rcap] 63,cl b2 (topoC t) 34,cl b1 (ruleC r v w) 32]) (fun i=>i≤ls.length) (fun i=>ls.length-i) 0 (Nat.zero_le _) (Env.Sub.cons rfl rfl (Env.Sub.cons rfl rfl (Env.Sub.cons rfl rfl (Env.Sub.cons rfl rfl (Env.Sub.cons rfl rfl (Env.Sub.cons rfl rfl Env.Sub.nil)))))) (Ent.refl _) ?_
  intro i hi
  refine WP.regs<|L.lss rfl rfl<|WL.nil<|WP.seq<|WP.condD rfl (fun h41=>?_) (fun h41=>?_);refine WP.skip<|X.thenN<|WP.seq<|WP.block<|WP.regs ?_
  obtain⟨rb,ro,rfl,hrc⟩:=hrs (by omega)
  refine L.indexS T61.sl rfl rfl (by omega) ?_
  obtain⟨va,vcap,hveq,hvcap,hvn,hvs⟩:=hall (i) (by omega)
  refine L.load T60.sc rfl (v:=vs.getD (i) undef) (Rd.ro (by have:=hrc (i) (by omega);refine Eq.trans (congrArg _ ?_) this;omega)) ?_
  rw[hveq]
  refine L.assign rfl<|WL.nil<|WP.regs<|L.loadN T32.ag rfl rfl (Rds.all 2 rfl)<|L.move rfl<|WL.callV rfl rfl F61.fn rfl (fun g gS dj=>window_knowsT r hw v w (hta.mono (Hp.le_un_left _ _)) hok.1 _ (intsB (ls.getD i ByteArray.empty)) (by have:=hall (i) (by omega);rw[hveq] at this;exact this.mono (Hp.le_un_left _ _)) (by have h1:=(hr i (by omega)).1;rw[intsB_len];omega) (fun j hj=>(hr i (by omega)).2 j (by rwa [intsB_len] at hj))) ?_
  refine L.not rfl<|WL.nil<|WP.condF rfl<|WP.skip<|X.blockN<|X.thenN<|WP.region<|L.add' rfl rfl (by omega)<|L.move rfl<|WL.nil<|X.thenN ⟨i+1,by omega,by omega,(Env.Sub.cons rfl rfl (Env.Sub.cons rfl rfl (Env.Sub.cons rfl rfl (Env.Sub.cons rfl rfl (Env.Sub.cons rfl rfl (Env.Sub.cons rfl rfl Env.Sub.nil)))))),Ent.refl _⟩;refine WP.exit<|X.thenE (X.thenE (X.blockE ?_));refine X.thenN<|WP.seq<|WP.regs<|L.fieldAddr (o':=2) T63.f2 rfl rfl<|L.load T61.sc rfl (Rd.own 0 rfl rfl)<|L.lenS T61.sl rfl rfl<|L.assign rfl<|WL.nil<|WP.regs<|L.move rfl<|L.gtrD rfl rfl (fun h53=>?_) (fun h53=>?_)
  refine L.move rfl<|L.fieldAddr (o':=1) T63.f1 rfl rfl<|L.load T3.sc rfl (Rd.own 0 rfl rfl)<|WL.callV rfl rfl F66.fn rfl (fun g gS dj=>window_far at0 (by omega))<|L.move rfl<|L.fieldAddr (o':=1) T63.f1 rfl rfl<|L.load T3.sc rfl (Rd.own 0 rfl rfl)<|L.move rfl<|L.add' rfl rfl (by omega)<|L.sub' rfl rfl (by omega)<|WL.callV rfl rfl F66.fn rfl (fun g gS dj=>window_far _ (by omega))<|L.pickF rfl rfl<|L.pickT rfl rfl<|WL.nil<|WP.condF rfl<|WP.skip<|X.thenN<|WP.regs<|L.assign rfl<|WL.nil<|WP.ret<|X.ret rfl (Res.one rfl rfl) ?_;exact rfl;refine L.move rfl ?_
  iterate 11 refine L.skip ?_
  refine L.pickF rfl rfl<|WL.nil<|WP.condF rfl<|WP.skip<|X.thenN<|WP.regs<|L.assign rfl<|WL.nil<|WP.ret<|X.ret rfl (Res.one rfl rfl) ?_;exact rfl
set_option maxRecDepth 10000 in
theorem window_trimmed (W at0:Int) (rv:Value) (ls:List ByteArray) (hbt:BtsAt h0 rv ls) (hp:0<ls.length) (hln:ls.length≤1048576) (hsz:∀ i,i<ls.length→(ls.getD i ByteArray.empty).size≤65536) (hf:LivesB (ls.getD 0 ByteArray.empty)) (hl:LivesB (ls.getD (ls.length-1) ByteArray.empty)):FT Pg 65 [.agg #[.int .i64 W,.int .i64 at0,rv]] k h0 [] (Is (.agg #[.int .i64 W,.int .i64 at0,rv])):=by
  obtain⟨vs,⟨ra,rcap,rfl,hrcap,hrn,hrs⟩,hall⟩:=hbt
  obtain⟨rb,ro,rfl,hrc⟩:=hrs hp
  refine FT.of_wp (n:=50) Tryz.func65 rfl rfl rfl<|WP.regs<|L.box rfl rfl fun b1=>L.alloc T63.z fun b2=>WL.nil<|WP.seq<|WP.rege [(0,true),(1,true),(2,true),(3,true),(4,true),(5,true)] 6 rfl (by kernel_rfl) (PInv.then PInv.ret) rfl<|WE.take rfl (V.fieldAddr (o':=2) T63.f2 rfl rfl)<|WE.take rfl (V.load T61.sc rfl (Rd.own 1 rfl rfl))<|WE.take rfl (V.fieldAddr (o':=1) T63.f1 rfl rfl)<|WE.take rfl (V.load T3.sc rfl (Rd.own 1 rfl rfl))<|WE.take rfl (V.assign rfl)<|WE.take rfl (V.assign rfl)<|WE.nil<|X.thenN ?_;refine WP.seq<|WP.block<|WP.loop (X:=Unit) (fun x=>⟨50,[],[(1,.pointer (some ⟨b1,0,none⟩)),(2,.pointer (some ⟨b2,0,none⟩)),(3,.slice (some ⟨rb,ro,none⟩) ls.length rcap),(4,.int .i64 at0)]⟩) (fun x=>[cl b2 [.int .i64 0,.int .i64 0,.slice none 0 0] 63,cl b1 [.int .i64 W,.int .i64 at0,.slice (some ⟨rb,ro,none⟩) ls.length rcap] 63]) (fun x=>True) (fun x=>0) () (trivial) (Env.Sub.cons rfl rfl (Env.Sub.cons rfl rfl (Env.Sub.cons rfl rfl (Env.Sub.cons rfl rfl Env.Sub.nil)))) (Ent.refl _) ?_
  rintro ⟨⟩ _
  refine WP.seq<|WP.regs<|L.move rfl<|L.lenS T61.sl rfl rfl<|L.gtrD rfl rfl (fun h11=>?_) (fun hF=>absurd hF (by omega));refine L.move rfl<|L.move rfl<|L.indexS T61.sl rfl rfl (by omega) ?_
  obtain⟨va,vcap,hveq,hvcap,hvn,hvs⟩:=hall (0) (by omega)
  refine L.load T60.sc rfl (v:=vs.getD (0) undef) (Rd.ro (by have:=hrc (0) (by omega);refine Eq.trans (congrArg _ ?_) this;omega)) ?_
  rw[hveq]
  refine WL.callV rfl rfl F116.fn rfl (fun g gS dj=>window_emptyF _ (intsB (ls.getD 0 ByteArray.empty)) (by have:=hall (0) (by omega);rw[hveq] at this;exact this.mono (Hp.le_un_left _ _)) (by have h1:=hsz 0 (by omega);rw[intsB_len];omega) hf) ?_;refine L.pickT rfl rfl<|WL.nil<|WP.condF rfl<|WP.exit<|X.thenE (X.thenE (X.blockE ?_))
  refine X.thenN<|WP.seq<|WP.block<|WP.loop (X:=Unit) (fun x=>⟨50,[],[(1,.pointer (some ⟨b1,0,none⟩)),(2,.pointer (some ⟨b2,0,none⟩)),(3,.slice (some ⟨rb,ro,none⟩) ls.length rcap),(4,.int .i64 at0)]⟩) (fun x=>[cl b2 [.int .i64 0,.int .i64 0,.slice none 0 0] 63,cl b1 [.int .i64 W,.int .i64 at0,.slice (some ⟨rb,ro,none⟩) ls.length rcap] 63]) (fun x=>True) (fun x=>0) () (trivial) (Env.Sub.cons rfl rfl (Env.Sub.cons rfl rfl (Env.Sub.cons rfl rfl (Env.Sub.cons rfl rfl Env.Sub.nil)))) (Ent.refl _) ?_
  rintro ⟨⟩ _
  refine WP.seq<|WP.regs<|L.move rfl<|L.lenS T61.sl rfl rfl<|L.gtrD rfl rfl (fun h24=>?_) (fun hF=>absurd hF (by omega));refine L.move rfl<|L.move rfl<|L.move rfl<|L.lenS T61.sl rfl rfl<|L.sub' rfl rfl (by omega)<|L.indexS T61.sl rfl rfl (by omega) ?_
  obtain⟨va,vcap,hveq,hvcap,hvn,hvs⟩:=hall (ls.length-1) (by omega)
  refine L.load T60.sc rfl (v:=vs.getD (ls.length-1) undef) (Rd.ro (by have:=hrc (ls.length-1) (by omega);refine Eq.trans (congrArg _ ?_) this;omega)) ?_
  rw[hveq]
  refine WL.callV rfl rfl F116.fn rfl (fun g gS dj=>window_emptyF _ (intsB (ls.getD (ls.length-1) ByteArray.empty)) (by have:=hall (ls.length-1) (by omega);rw[hveq] at this;exact this.mono (Hp.le_un_left _ _)) (by have h1:=hsz (ls.length-1) (by omega);rw[intsB_len];omega) hl) ?_;refine L.pickT rfl rfl<|WL.nil<|WP.condF rfl<|WP.exit<|X.thenE (X.thenE (X.blockE ?_));refine X.thenN<|WP.seq<|WP.regs<|L.move rfl<|L.lenS T61.sl rfl rfl<|L.eql rfl rfl<|WL.nil<|WP.condD rfl (fun hT=>absurd hT (by omega)) (fun h41=>?_)
  refine WP.skip<|X.thenN<|WP.regs<|L.fieldAddr (o':=0) T63.f0 rfl rfl<|L.load T3.sc rfl (Rd.own 1 rfl rfl)<|L.move rfl<|L.move rfl<|L.build (cs:=[_,_,_]) T63.b T63.z rfl rfl<|L.storeN T63.ag rfl rfl rfl (Wrs.all 0 rfl rfl (by simp[Value.oneCell']))<|WL.nil<|WP.ret<|X.ret rfl (ResCell1 rfl rfl T63.ag rfl (Rds.all 0 rfl)) ?_;exact rfl
set_option maxRecDepth 10000 in
set_option maxHeartbeats 2000000 in
theorem window_copied (w:Nat) (at0:Int) (rv:Value) (ls:List ByteArray) (hbt:BtsAt h0 rv ls) (hp:0<ls.length) (hln:ls.length≤1048576) (hw:0<w∧w≤65536) (hsz:∀ i,i<ls.length→(ls.getD i ByteArray.empty).size=w):FT Pg 64 [.agg #[.int .i64 (w:Int),.int .i64 at0,rv]] k h0 [] (Ret fun u τ=>∃ a cap,u=.agg #[.int .i64 (w:Int),.int .i64 at0,.slice a ls.length cap]∧τ=[rowsP (.slice a ls.length cap) ls]):=by
  obtain⟨vs,⟨ra,rcap,rfl,hrcap,hrn,hrs⟩,hall⟩:=hbt
  obtain⟨rb,ro,rfl,hrc⟩:=hrs hp
  have hlw:ls.length*w≤1048576*65536:=Nat.mul_le_mul hln hw.2
  have hlw1:1*w≤ls.length*w:=Nat.mul_le_mul_right w hp
  refine FT.tight<|FT.of_wp (n:=53) Tryz.func64 rfl rfl rfl<|WP.regs<|L.box rfl rfl fun b1=>L.alloc T63.z fun b2=>WL.nil<|WP.regs<|L.assign rfl<|WL.nil<|WP.seq<|WP.regs<|L.fieldAddr (o':=2) T63.f2 rfl rfl<|L.load T61.sc rfl (Rd.own 1 rfl rfl)<|L.lenS T61.sl rfl rfl<|L.move rfl<|WL.nil<|WP.block<|WP.loop (X:=Value × Nat) (fun x=>⟨53,[],[(1,.pointer (some ⟨b1,0,none⟩)),(2,.pointer (some ⟨b2,0,none⟩)),(3,x.1),(9,.slice (some ⟨rb,ro,none⟩) ls.length rcap),(10,.int .i64 (ls.length:Int)),(11,.int .i64 (x.2:Int))]⟩) (fun x=>[vec 5 1 x.1 (x.2*w) (u8sC (flatB ls x.2)),cl b2 [.int .i64 0,.int .i64 0,.slice none 0 0] 63,cl b1 [.int .i64 (w:Int),.int .i64 at0,.slice (some ⟨rb,ro,none⟩) ls.length rcap] 63]) (fun x=>x.2≤ls.length) (fun x=>ls.length-x.2) (.slice none 0 0,0) (Nat.zero_le _) (Env.Sub.cons rfl rfl (Env.Sub.cons rfl rfl (Env.Sub.cons rfl rfl (Env.Sub.cons rfl rfl (Env.Sub.cons rfl rfl (Env.Sub.cons rfl rfl Env.Sub.nil)))))) (((Ent.refl _)).trans ((Ent.nilvec (E:=5) (sz:=1)).trans (Ent.of_eq (by simp[flatB,u8sC])))) ?_
  rintro ⟨u,i⟩ hi
  dsimp only at hi ⊢
  refine WP.regs<|L.lss rfl rfl<|WL.nil<|WP.seq<|WP.condD rfl (fun h12=>?_) (fun h12=>?_)
  have hiw:i*w≤ls.length*w:=Nat.mul_le_mul_right w (by omega)
  have hiw2:(i+1)*w≤ls.length*w:=Nat.mul_le_mul_right w (by omega)
  rw[Nat.succ_mul] at hiw2
  refine WP.skip<|X.thenN<|WP.seq<|WP.block<|WP.regs<|L.indexS T61.sl rfl rfl (by omega) ?_
  obtain⟨va,vcap,hveq,hvcap,hvn,hvs⟩:=hall (i) (by omega)
  refine L.load T60.sc rfl (v:=vs.getD (i) undef) (Rd.ro (by have:=hrc (i) (by omega);refine Eq.trans (congrArg _ ?_) this;omega)) ?_
  rw[hveq]
  refine L.assign rfl<|WL.nil<|WP.region<|L.move rfl<|L.move rfl ?_
  obtain⟨xb,xo,rfl,hxc⟩:=hvs (by rw[intsB_len,hsz i (by omega)];omega)
  refine L.append (i:=0) (news:=u8sC (intsB (ls.getD i ByteArray.empty))) T60.sl T5.z rfl rfl rfl rfl rfl (by simp[u8sC]) (fun _ _ _ e=>by cases e;exact⟨rfl,Rds.of_cells (i:=0) hxc _ (by simp[u8sC]) (fun j hj=>u8sC_get _ j hj)⟩) (fun e=>by cases e) (by intro q hq;obtain⟨z,_,rfl⟩:=List.mem_map.1 hq;rfl) (by rw[intsB_len,hsz i (by omega)];omega) ?_;intro u2
  refine L.assign rfl<|WL.nil<|X.blockN<|X.thenN<|WP.region<|L.add' rfl rfl (by omega)<|L.move rfl<|WL.nil<|X.thenN ⟨(u2,i+1),by dsimp only;omega,by dsimp only;omega,(Env.Sub.cons rfl rfl (Env.Sub.cons rfl rfl (Env.Sub.cons rfl rfl (Env.Sub.cons rfl rfl (Env.Sub.cons rfl rfl (Env.Sub.cons rfl rfl Env.Sub.nil)))))),((Ent.refl _)).trans (Ent.of_eq (by dsimp only;rw[flatB_succ ls i (by omega),u8sC_append,intsB_len,hsz i (by omega),Nat.succ_mul];rfl))⟩
  obtain rfl:i=ls.length:=by omega
  refine WP.exit<|X.thenE (X.thenE (X.blockE ?_));refine X.thenN<|WP.regs<|WL.fact (fun _ _ _ s=>s.vec_shape 0 rfl) ?_;rintro ⟨_,fa,fcap,rfl,hfcap,hfa⟩
  obtain⟨f,rfl⟩:=hfa (by omega)
  refine L.fieldAddr (o':=0) T63.f0 rfl rfl<|L.load T3.sc rfl (Rd.own 2 rfl rfl)<|L.fieldAddr (o':=1) T63.f1 rfl rfl<|L.load T3.sc rfl (Rd.own 2 rfl rfl)<|L.build (cs:=[_,_,_]) T63.b T63.z rfl rfl<|L.alloc T63.z fun b3=>L.storeN T63.ag rfl rfl rfl (Wrs.all 0 rfl rfl (by simp[Value.oneCell']))<|WL.nil<|WP.seq<|WP.regs<|L.fieldAddr (o':=2) T63.f2 rfl rfl<|L.load T61.sc rfl (Rd.own 3 rfl rfl)<|L.lenS T61.sl rfl rfl<|L.move rfl<|WL.nil<|WP.block<|WP.loop (X:=Value × Nat) (fun x=>⟨53,[],[(1,.pointer (some ⟨b1,0,none⟩)),(2,.pointer (some ⟨b2,0,none⟩)),(3,.slice (some ⟨f,0,none⟩) (ls.length*w) fcap),(6,.pointer (some ⟨b3,0,none⟩)),(26,.int .i64 (ls.length:Int)),(27,.int .i64 (x.2:Int))]⟩) (fun x=>[vec 60 1 x.1 x.2 (pieces f w x.2),vec 5 1 (.slice (some ⟨f,0,none⟩) (ls.length*w) fcap) (ls.length*w) (u8sC (flatB ls ls.length)),cl b3 [.int .i64 (w:Int),.int .i64 at0,x.1] 63,cl b2 [.int .i64 0,.int .i64 0,.slice none 0 0] 63,cl b1 [.int .i64 (w:Int),.int .i64 at0,.slice (some ⟨rb,ro,none⟩) ls.length rcap] 63]) (fun x=>x.2≤ls.length) (fun x=>ls.length-x.2) (.slice none 0 0,0) (Nat.zero_le _) (Env.Sub.cons rfl rfl (Env.Sub.cons rfl rfl (Env.Sub.cons rfl rfl (Env.Sub.cons rfl rfl (Env.Sub.cons rfl rfl (Env.Sub.cons rfl rfl Env.Sub.nil)))))) (((Ent.pk [1,0,0,0] rfl)).trans ((Ent.nilvec (E:=60) (sz:=1)).trans (Ent.of_eq (by simp[pieces])))) ?_
  rintro ⟨u,i⟩ hi
  dsimp only at hi ⊢
  refine WP.regs<|L.lss rfl rfl<|WL.nil<|WP.seq<|WP.condD rfl (fun h28=>?_) (fun h28=>?_)
  have hiw:i*w≤ls.length*w:=Nat.mul_le_mul_right w (by omega)
  have hiw2:(i+1)*w≤ls.length*w:=Nat.mul_le_mul_right w (by omega)
  rw[Nat.succ_mul] at hiw2
  have hi3:((i:Int)+1)*(w:Int)=(i:Int)*(w:Int)+(w:Int):=by rw[Int.add_mul,Int.one_mul]
  refine WP.skip<|X.thenN<|WP.seq<|WP.block<|WP.regs<|L.move rfl<|L.assign rfl<|WL.nil<|WP.rege [(0,true),(1,true),(2,true),(3,true),(4,true),(5,true),(6,true),(7,true),(8,true),(9,true),(10,true),(11,true),(12,true),(13,true),(14,true),(15,true),(16,true),(17,true),(18,false),(19,false),(20,false),(21,false)] 19 rfl (by kernel_rfl) (PInv.block (PInv.then (PInv.then (PInv.block (PInv.then PInv.ret))))) rfl<|WE.take rfl (V.fieldAddr (o':=2) T63.f2 rfl rfl)<|WE.take rfl (V.load T61.sc rfl (Rd.own 2 rfl rfl))<|WE.take rfl (V.move rfl) ?_;refine WE.take rfl (V.move rfl)<|WE.take rfl (V.fieldAddr (o':=0) T63.f0 rfl rfl)<|WE.take rfl (V.load T3.sc rfl (Rd.own 4 rfl rfl))<|WE.take rfl (V.mul' rfl rfl (by omega))<|WE.take rfl (V.move rfl)<|WE.take rfl (V.add' rfl rfl (by omega))<|WE.take rfl (V.fieldAddr (o':=0) T63.f0 rfl rfl)<|WE.take rfl (V.load T3.sc rfl (Rd.own 4 rfl rfl))<|WE.take rfl (V.mul' rfl rfl (by omega))<|WE.take rfl (V.move rfl)<|WE.take rfl (V.add' rfl rfl (by omega))<|WE.take rfl (V.fieldAddr (o':=0) T63.f0 rfl rfl)<|WE.take rfl (V.load T3.sc rfl (Rd.own 4 rfl rfl))<|WE.take rfl (V.mul' rfl rfl (by omega)) ?_
  rw[show ((i:Int)+1)*(w:Int)=(((i+1)*w:Nat):Int) by rw[Int.natCast_mul,Int.natCast_add];rfl,show (i:Int)*(w:Int)=((i*w:Nat):Int) from (Int.natCast_mul _ _).symm]
  refine WE.take rfl (V.slice3 T60.sl rfl ⟨_,rfl⟩ rfl rfl ⟨by rw[Nat.succ_mul];omega,Nat.le_refl _,by rw[Nat.succ_mul];omega⟩) ?_
  rw[if_neg (show ¬ (i+1)*w=i*w by rw[Nat.succ_mul];omega),show (i+1)*w-i*w=w by rw[Nat.succ_mul];omega,addr_add0]
  refine WE.one rfl<|L.slice1 T61.sl T60.z rfl rfl rfl rfl rfl rfl fun b4=>WL.nil ⟨(Ent.left [_] _),?_⟩;refine WE.last rfl<|L.append (i:=1) (news:=[.slice (some ⟨f,0+i*w*1,none⟩) w w]) T61.sl T60.z rfl rfl rfl rfl rfl rfl (fun _ _ _ e=>by cases e;exact⟨rfl,Rds.all 0 rfl⟩) (fun e=>by cases e) (by simp[Value.oneCell']) (by omega) ?_;intro u2
  refine WL.fact (φ:=u2.oneCell'=true) (fun _ _ _ s=>s.vec_one 0 rfl) fun hv1=>WL.nil<|WE.more rfl<|L.fieldAddr (o':=2) T63.f2 rfl rfl<|WL.nil<|WE.more rfl<|L.store T61.sc rfl rfl hv1 (Wr.at 3 rfl rfl)<|WL.nil<|WE.nil<|X.blockN<|X.thenN<|WP.region<|L.add' rfl rfl (by omega)<|L.move rfl<|WL.nil<|X.thenN ⟨(u2,i+1),by dsimp only;omega,by dsimp only;omega,(Env.Sub.cons rfl rfl (Env.Sub.cons rfl rfl (Env.Sub.cons rfl rfl (Env.Sub.cons rfl rfl (Env.Sub.cons rfl rfl (Env.Sub.cons rfl rfl Env.Sub.nil)))))),((Ent.pk [0,1,1,1,1] rfl)).trans (Ent.of_eq (by dsimp only;rw[pieces_succ];rfl))⟩
  obtain rfl:i=ls.length:=by omega
  refine WP.exit<|X.thenE (X.thenE (X.blockE ?_));refine X.thenN<|WP.regs<|WL.fact (fun _ _ _ s=>s.vec_shape 0 rfl) ?_;rintro ⟨_,ua,ucap,rfl,hucap,hua⟩;refine L.loadN T63.ag rfl rfl (Rds.all 2 rfl)<|L.storeN T63.ag rfl rfl rfl (Wrs.all 3 rfl rfl (by simp[Value.oneCell']))<|WL.nil<|WP.ret<|X.ret rfl (ResCell1 rfl rfl T63.ag rfl (Rds.all 3 rfl)) ?_;exact⟨_,rfl,_,⟨ua,ucap,rfl,rfl⟩,((Ent.pk [0,0] rfl)).trans (Ent.pieces hsz hw.1)⟩
set_option maxRecDepth 10000 in
theorem window_Trim (r:RuleD) (hw:r.Wd) (v w:Value) (hta:TabAt h0 r.table v w) (t:TopoD) (hwt:t.Wd) (hok:WOk r t) (rv:Value) (ls:List ByteArray) (hbt:BtsAt h0 rv ls) (hp:0<ls.length) (hr:∀ i,i<ls.length→RowOk2 r t (ls.getD i ByteArray.empty)) (hln:ls.length≤1048576) (at0:Int) (hat:-1099511627776≤at0∧at0+ls.length≤1099511627776) (hf:LivesB (ls.getD 0 ByteArray.empty)) (hl:LivesB (ls.getD (ls.length-1) ByteArray.empty)):FT Pg 24 [.agg (ruleC r v w).toArray,.agg (topoC t).toArray,.agg #[.int .i64 t.w,.int .i64 at0,rv]] k h0 [] (Ret fun u τ=>∃ a cap,u=.tuple #[.agg #[.int .i64 t.w,.int .i64 at0,.slice a ls.length cap],.int .i64 0]∧τ=[rowsP (.slice a ls.length cap) ls]):=by
  have hto:=hok.2.1
  unfold TopoD.Ok at hto
  have hwn:t.w=((t.w.toNat:Nat):Int):=by omega
  refine FT.tight<|FT.of_wp (n:=20) Tryz.func24 rfl rfl rfl<|WP.regs<|L.box rfl rfl fun b1=>L.box rfl rfl fun b2=>L.box rfl rfl fun b3=>L.alloc T63.z fun b4=>L.assign rfl<|WL.nil<|WP.seq<|WP.regs<|L.loadN T32.ag rfl rfl (Rds.all 3 rfl)<|L.loadN T34.ag rfl rfl (Rds.all 2 rfl)<|L.loadN T63.ag rfl rfl (Rds.all 1 rfl)<|WL.callV rfl rfl F63.fn rfl (fun g gS dj=>window_may r hw v w (hta.mono (Hp.le_un_left _ _)) t hwt hok rv ls (hbt.mono (Hp.le_un_left _ _)) hr hln at0 hat)<|L.assign rfl<|WL.nil<|WP.regs<|L.move rfl<|L.neq rfl rfl ?_;refine WL.nil<|WP.condD rfl (fun hT=>absurd hT (by omega)) (fun h14=>?_)
  refine WP.skip<|X.thenN<|WP.regs<|L.loadN T63.ag rfl rfl (Rds.all 1 rfl)<|WL.callV rfl rfl F65.fn rfl (fun g gS dj=>window_trimmed t.w at0 rv ls (hbt.mono (Hp.le_un_left _ _)) hp hln (fun i hi=>by have:=(hr i hi).1;omega) hf hl) ?_
  rw[hwn]
  refine WL.call rfl rfl F64.fn rfl (FT.make fun g gS dj=>window_copied t.w.toNat at0 rv ls (hbt.mono (Hp.le_un_left _ _)) hp hln (by omega) (fun i hi=>by have:=(hr i hi).1;omega)) ?_;rintro _ _ ⟨_,⟨ca,ccap,rfl,rfl⟩,rfl⟩
  rw[← hwn]
  refine L.storeN T63.ag rfl rfl rfl (Wrs.all 1 rfl rfl (by simp[Value.oneCell']))<|L.assign rfl<|WL.nil<|WP.ret<|X.ret rfl (ResCellTmp rfl rfl T63.ag rfl (Rds.all 1 rfl) rfl) ?_;exact⟨_,rfl,_,⟨ca,ccap,rfl,rfl⟩,(Ent.pk [0] rfl)⟩
end
open Go.RowKit Go.Proofs
theorem St.rowsP_one {k:World} {h0:Hp} {σ:List HP} {w:World} {v:Value} {ls:List ByteArray} (i:Nat) (hi:σ[i]?=some (rowsP v ls)) (s:St k h0 σ w):v.oneCell'=true:=by
  obtain⟨g,⟨a,c,hx,hc,dj,e⟩,dj0,hh⟩:=(s.pull i hi).own
  obtain⟨x,y,e⟩:=BtsAt.shape hx
  rw[e];rfl
section
variable {k:World} {h0:Hp}
set_option maxRecDepth 10000 in
set_option maxHeartbeats 4000000 in
theorem sea_Run1c (b:Nat) (A:SeaA) (S:SeaD) (K:SeaK S) (hi:Inv S) (row:ByteArray) (rv:Value) (hbt:BtsAt h0 rv [row]) (hrow:RowOkB S row) (at0:Int) (hat:-1099511626776≤at0∧at0≤1099511626776) (s m z p q w e g:SeaD × Nat) (lo hi2:Int) (H:Leap1 S row s m z p q w e g lo hi2) (hlo:0≤lo) (hw30:S.t.w≤1000) (hc:S.nodes.length+900≤S.most) (cB cO cS cN:Nat):FT Pg 69 [.pointer (some ⟨cB,0,none⟩),.pointer (some ⟨cO,0,none⟩),.pointer (some ⟨cS,0,none⟩),.pointer (some ⟨cN,0,none⟩)] k h0 [doorZ [cl cN [.int .i64 1] 3,cl cS [.pointer (some ⟨b,0,none⟩)] 38,cl cB [.int .i64 S.t.w,.int .i64 at0,rv] 63,cl cO [.int .i64 S.t.w,.int .i64 0,.slice none 0 0] 63] b A S] (Ret fun y τ=>∃ e Z',y=.int .i64 e∧τ=[Z']∧∃ nv v,e=0∧Z'=doorZ [cl cN [.int .i64 1] 3,cl cS [.pointer (some ⟨b,0,none⟩)] 38,cl cB [.int .i64 S.t.w,.int .i64 at0,rv] 63,cl cO [.int .i64 S.t.w,.int .i64 (at0-16+lo),v] 63,rowsP v (cutD g.1.nodes 5 w.2 lo (hi2+1))] b {A with nv:=nv} g.1):=by
  unfold doorZ
  refine FT.ent Ent.stars<|FT.tight ?_
  obtain⟨rva,rvc,rfl⟩:=BtsAt.shape hbt
  refine FT.of_wp (n:=12) Tryz.func69 rfl rfl rfl<|WP.regs<|L.assign rfl<|WL.nil<|WP.regs<|L.fieldAddr (o':=0) T63.f0 rfl rfl<|L.load T3.sc rfl (Rd.own 2 rfl rfl)<|L.build (cs:=[_,_,_]) T63.b T63.z rfl rfl<|L.storeN T63.ag rfl rfl rfl (Wrs.all 3 rfl rfl (by simp[Value.oneCell']))<|WL.nil<|WP.regs<|L.load T38.sc rfl (Rd.own 1 rfl rfl)<|L.loadN T63.ag rfl rfl (Rds.all 2 rfl)<|L.load T3.sc rfl (Rd.own 0 rfl rfl)<|WL.call rfl rfl F70.fn rfl (FT.part (seaS b A S++[cl cO [.int .i64 S.t.w,.int .i64 0,.slice none 0 0] 63]) _ ((Ent.pk [4,4,4,4,4,4,4,4,4,4,3,0,0,0] rfl)) fun g' gS dj=>sea_leap1 b cO A S K hi row _ (hbt.mono (Hp.le_un_left _ _)) hrow 0 at0 ⟨by omega,by omega⟩ s m z p q w e g lo hi2 H hlo hw30 hc) ?_;rintro _ _ ⟨_,⟨rfl,nv,v,rfl⟩,rfl⟩
  refine L.assign rfl<|WL.nil<|WP.ret<|X.ret rfl (Res.one rfl rfl)<|⟨_,rfl,_,⟨0,_,rfl,rfl,nv,v,rfl,rfl⟩,((Ent.pk [12,12,12,0,0,0,0,0,0,0,0,0,0,0,0] rfl)).trans Ent.shut⟩
set_option maxRecDepth 10000 in
set_option maxHeartbeats 4000000 in
theorem sea_Run1 (b:Nat) (A:SeaA) (S:SeaD) (K:SeaK S) (hi:Inv S) (row:ByteArray) (rv:Value) (hbt:BtsAt h0 rv [row]) (hrow:RowOkB S row) (at0:Int) (hat:-1099511626776≤at0∧at0≤1099511626776) (s m z p q w e g:SeaD × Nat) (lo hi2:Int) (H:Leap1 S row s m z p q w e g lo hi2) (hlo:0≤lo) (hw30:S.t.w≤1000) (hc:S.nodes.length+900≤S.most) (hlv:LivesB row):FT Pg 23 [.pointer (some ⟨b,0,none⟩),.agg #[.int .i64 S.t.w,.int .i64 at0,rv],.int .i64 1] k h0 (seaS b A S) (Ret fun y τ=>∃ nv v,y=.tuple #[.agg #[.int .i64 S.t.w,.int .i64 (at0-16+lo),v],.int .i64 0]∧τ=rowsP v (cutD g.1.nodes 5 w.2 lo (hi2+1))::seaS b {A with nv:=nv} g.1):=by
  have hwd:=K.ok.2.1;unfold TopoD.Ok at hwd
  have hmo:=K.most
  obtain⟨rva,rvc,rfl⟩:=BtsAt.shape hbt
  refine FT.tight<|FT.of_wp (n:=86) Tryz.func23 rfl rfl rfl<|WP.regs<|L.box rfl rfl fun cS=>L.box rfl rfl fun cB=>L.box rfl rfl fun cN=>L.alloc T63.z fun cR=>L.assign rfl<|WL.nil<|WP.seq<|WP.regs<|L.load T38.sc rfl (Rd.own 3 rfl rfl)<|WL.callV rfl rfl F44.fn rfl (fun g gS dj=>sea_there b A S (Stars.cl' (b:=b) 4 rfl gS dj) (by omega))<|L.not rfl<|WL.nil<|WP.condF rfl<|WP.skip<|X.thenN<|WP.seq<|WP.regfq _ (Ent.refl _) [(0,true),(1,true),(2,true),(3,true),(4,true),(5,true),(6,true),(7,true),(8,true)] 9 6 #[true,true,true,true,true,true,true,true,true,false,false,false,false,false,false] rfl (by kernel_rfl) (PInv.then PInv.ret) rfl<|WE.take rfl (V.load T38.sc rfl (Rd.own 3 rfl rfl)) ?_;refine WE.take rfl (V.nilCheck rfl)<|WE.take rfl (V.fieldAddr (o':=0) T59.f0 rfl rfl)<|WE.take rfl (V.loadN T32.ag rfl rfl (Rds.own (vs:=[_,_,_,_,_,_,_,_,_,_,_]) 4 rfl rfl))<|WE.take rfl (V.load T38.sc rfl (Rd.own 3 rfl rfl))<|WE.take rfl (V.nilCheck rfl)<|WE.take rfl (V.fieldAddr (o':=11) T59.f1 rfl rfl)<|WE.take rfl (V.loadN T34.ag rfl rfl (Rds.own (vs:=[_,_,_,_,_]) 4 rfl rfl))<|WE.take rfl (V.loadN T63.ag rfl rfl (Rds.all 2 rfl))<|WE.free #[true,true,true,true,true,true,true,true,true,false,false,false,false,false,false]<|WT.one 9 (by kernel_rfl) rfl ?_;refine WL.call rfl rfl F24.fn rfl (FT.make fun g gS dj=>window_Trim S.r K.rw A.tv A.tw (by obtain⟨a,ha,hle⟩:=In.of_stars' (p:=tabO S.r.table A.tv A.tw) 13 rfl gS dj;exact TabAt.mono ha hle) S.t K.tw K.ok _ [row] (hbt.mono (Hp.le_un_left _ _)) (by simp) (fun i hi=>by have h0:i=0:=(by simpa using hi);subst h0;exact hrow) (by simp) at0 ⟨by omega,by simp only[List.length_singleton];omega⟩ hlv hlv) ?_;rintro _ _ ⟨_,⟨ta,tc,rfl,rfl⟩,rfl⟩
  refine WL.nil ⟨fun h=>absurd h (by decide),?_⟩;refine WT.again [] 15 (by kernel_rfl)<|WT.read (m:=2) (fin:=fun l=>l == #[true,true,true,true,true,true,true,true,true,true,true,true,true,false,false]) [(10,true),(11,true),(12,true)] (by kernel_rfl) (PInv.then PInv.ret) ((Ent.pk [] rfl))<|WE.take rfl (V.move rfl)<|WE.take rfl (V.extract rfl rfl)<|WE.take rfl (V.extract rfl rfl)<|WE.free #[true,true,true,true,true,true,true,true,true,true,true,true,true,false,false]<|WN.one 13 (by kernel_rfl) rfl<|L.storeN T63.ag rfl rfl rfl (Wrs.all 3 rfl rfl (by simp[Value.oneCell']))<|WL.nil ⟨(Ent.pk [] rfl),?_⟩
  refine WT.read (m:=0) (fin:=fun l=>l == #[true,true,true,true,true,true,true,true,true,true,true,true,true,true,true]) [(14,true)] (by kernel_rfl) (PInv.then PInv.ret) ((Ent.pk [] rfl))<|WE.take rfl (V.assign rfl)<|WE.free #[true,true,true,true,true,true,true,true,true,true,true,true,true,true,true]<|WT.nil (by kernel_rfl)<|X.thenN<|WP.regs<|L.fieldAddr (o':=2) T63.f2 rfl rfl<|L.load T61.sc rfl (Rd.own 3 rfl rfl)<|L.lenS T61.sl rfl rfl<|L.assign rfl<|WL.nil<|WP.seq<|WP.block ?_;refine WP.regs<|L.move rfl<|L.neq rfl rfl<|L.assign rfl<|WL.nil<|WP.condD rfl (fun hT=>absurd hT (by omega)) (fun h31=>?_)
  refine WP.regs<|L.load T3.sc rfl (Rd.own 2 rfl rfl)<|L.lss rfl rfl<|L.assign rfl<|WL.nil<|WP.condD rfl (fun hT=>absurd hT (by omega)) (fun h36=>?_);refine WP.regs<|L.load T3.sc rfl (Rd.own 2 rfl rfl)<|L.gtr rfl rfl<|L.assign rfl<|WL.nil<|WP.condD rfl (fun hT=>absurd hT (by omega)) (fun h40=>?_);refine WP.regs<|L.move rfl<|L.eql rfl rfl<|L.assign rfl<|WL.nil<|WP.condD rfl (fun hT=>absurd hT (by simp)) (fun h44=>?_);refine WP.regs<|L.fieldAddr (o':=1) T63.f1 rfl rfl<|L.load T3.sc rfl (Rd.own 3 rfl rfl)<|L.load T3.sc rfl (Rd.own 2 rfl rfl)<|L.sub' rfl rfl (by omega)<|L.lssD rfl rfl (fun hT=>absurd hT (by omega)) (fun h53=>?_)
  refine L.move rfl<|L.fieldAddr (o':=1) T63.f1 rfl rfl<|L.load T3.sc rfl (Rd.own 3 rfl rfl)<|L.move rfl<|L.add' rfl rfl (by simp only[List.length_singleton];omega) ?_;refine L.sub' rfl rfl (by simp only[List.length_singleton];omega) ?_;refine L.load T3.sc rfl (Rd.own 2 rfl rfl)<|L.add' rfl rfl (by simp only[List.length_singleton];omega) ?_;refine L.gtr rfl rfl<|L.pickF rfl rfl<|L.assign rfl<|WL.nil<|WP.condD rfl (fun hT=>absurd hT (by simp only[List.length_singleton];omega)) (fun h48=>?_)
  refine WP.regs<|L.move rfl<|L.fieldAddr (o':=0) T63.f0 rfl rfl<|L.load T3.sc rfl (Rd.own 3 rfl rfl)<|L.quo' rfl rfl (by omega)<|L.gtr rfl rfl<|L.assign rfl<|WL.nil<|WP.condD rfl (fun hT=>absurd hT (by have h1:1≤1048576/S.t.w:=(by rw[Int.le_ediv_iff_mul_le (by omega)];omega);simp only[List.length_singleton];omega)) (fun h65=>?_);refine WP.skip<|X.blockN<|X.thenN<|WP.seq<|WP.regs<|L.load T3.sc rfl (Rd.own 2 rfl rfl)<|L.eql rfl rfl<|WL.nil<|WP.condD rfl (fun hT=>absurd hT (by omega)) (fun h73=>?_)
  refine WP.skip<|X.thenN<|WP.regs<|L.fieldAddr (o':=0) T63.f0 rfl rfl<|L.load T3.sc rfl (Rd.own 3 rfl rfl)<|L.build (cs:=[_,_,_]) T63.b T63.z rfl rfl<|L.alloc T63.z fun cO=>L.storeN T63.ag rfl rfl rfl (Wrs.all 0 rfl rfl (by simp[Value.oneCell']))<|WL.nil<|WP.regs<|L.load T38.sc rfl (Rd.own 5 rfl rfl)<|L.mkFunc (vs:=[_,_,_,_]) rfl<|WL.call rfl rfl F50.fn rfl (FT.part [doorZ [cl cN [.int .i64 1] 3,cl cS [.pointer (some ⟨b,0,none⟩)] 38,cl cB [.int .i64 S.t.w,.int .i64 at0,(.slice ta [row].length tc)] 63,cl cO [.int .i64 S.t.w,.int .i64 0,.slice none 0 0] 63] b A S] [rowsP (.slice ta [row].length tc) [row],cl cR [.int .i64 0,.int .i64 0,.slice none 0 0] 63] (Ent.trans ((Ent.pk [3,4,3,0,2,2,2,2,2,2,2,2,2,2,0,0] rfl)) (Ent.shut (τ:=[cl cN [.int .i64 1] 3,cl cS [.pointer (some ⟨b,0,none⟩)] 38,cl cB [.int .i64 S.t.w,.int .i64 at0,(.slice ta [row].length tc)] 63,cl cO [.int .i64 S.t.w,.int .i64 0,.slice none 0 0] 63]++seaS b A S) (σ:=[rowsP (.slice ta [row].length tc) [row],cl cR [.int .i64 0,.int .i64 0,.slice none 0 0] 63]))) fun g1 gS dj=>sea_attempt (R:=fun e Z'=>∃ nv v,e=0∧Z'=doorZ [cl cN [.int .i64 1] 3,cl cS [.pointer (some ⟨b,0,none⟩)] 38,cl cB [.int .i64 S.t.w,.int .i64 at0,(.slice ta [row].length tc)] 63,cl cO [.int .i64 S.t.w,.int .i64 (at0-16+lo),v] 63,rowsP v (cutD g.1.nodes 5 w.2 lo (hi2+1))] b {A with nv:=nv} g.1) _ 69 F69.fn [.pointer (some ⟨cB,0,none⟩),.pointer (some ⟨cO,0,none⟩),.pointer (some ⟨cS,0,none⟩),.pointer (some ⟨cN,0,none⟩)] (fun g2 le=>sea_Run1c b A S K hi row _ (BtsAt.mono (In.rowsP (In.of_stars' 0 rfl gS dj)) le) hrow at0 hat s m z p q w e g lo hi2 H hlo hw30 hc cB cO cS cN) _) ?_;rintro _ _ ⟨_,⟨e,Z',rfl,rfl,nv,v,rfl,rfl⟩,rfl⟩
  refine WL.ent Ent.stars<|WL.fact (fun _ _ _ s=>s.rowsP_one 4 rfl) fun hv1=>L.assign rfl<|WL.nil<|WP.seq<|WP.regs<|L.move rfl<|L.neq rfl rfl<|WL.nil<|WP.condD rfl (fun hT=>absurd hT (by omega)) (fun h82=>?_);refine WP.skip<|X.thenN<|WP.regs<|L.loadN T63.ag rfl rfl (Rds.all 3 rfl)<|L.storeN T63.ag rfl rfl rfl (Wrs.all 16 rfl rfl (by intro u hu;simp only[List.mem_cons,List.not_mem_nil,or_false] at hu;rcases hu with rfl | rfl | rfl <;> first | rfl | exact hv1)) ?_;refine L.assign rfl<|WL.nil<|WP.ret<|X.ret rfl (ResCellTmp rfl rfl T63.ag rfl (Rds.all 16 rfl) rfl) ?_;exact⟨_,rfl,_,⟨nv,v,rfl,rfl⟩,(Ent.pk [4,4,4,4,4,4,4,4,4,4,4] rfl)⟩
def lifeR:RuleD:=⟨1,⟨1,8,12⟩,2,ByteArray.mk #[],⟨0,0,0,[],[]⟩⟩
set_option maxRecDepth 10000 in
theorem law_life:FT Pg 32 [] k h0 [] (Is (.agg (ruleC lifeR (.slice none 0 0) (.slice none 0 0)).toArray)):=by
  refine FT.of_wp (n:=4) Tryz.func32 rfl rfl rfl<|WP.regs<|L.alloc T32.z fun b1=>WL.nil<|WP.regs<|L.build (cs:=[_,_,_]) T24.b T24.z rfl rfl<|L.build (cs:=[_,_,_,_]) T26.b T26.z rfl rfl<|L.build (cs:=[_,_,_,_,_,_,_,_,_,_,_]) T32.b T32.z rfl rfl<|L.storeN T32.ag rfl rfl rfl (Wrs.all 0 rfl rfl (by simp[Value.oneCell']))<|WL.nil<|WP.ret<|X.ret rfl (ResCell1 rfl rfl T32.ag rfl (Rds.all 0 rfl)) ?_;exact rfl
set_option maxRecDepth 10000 in
theorem sea_PairE (b:Nat) (A:SeaA) (S:SeaD) (u w:Nat) (hm:0<S.most) (hu:u<S.told.length) (hw:w<S.told.length) (hiu:(S.told.getD u 0)<S.nodes.length) (hiw:(S.told.getD w 0)<S.nodes.length) (hlv:(S.nodes.getD (S.told.getD u 0) .no).level≠(S.nodes.getD (S.told.getD w 0) .no).level):FT Pg 17 [.pointer (some ⟨b,0,none⟩),encI u,encI w] k h0 (seaS b A S) (Ret fun x τ=>x=.tuple #[.int .i64 0,.int .i64 21]∧τ=seaS b A S):=by
  refine FT.fact (fun _ _ _ s=>s.vec_shape (E:=111) (sz:=4) 1 rfl) ?_
  rintro ⟨_,na,ncap,hnv,hncap,hna⟩
  obtain⟨c0,hc0⟩:=hna (by omega)
  subst hc0
  obtain⟨tv,tw,nv,bp,br,bl,bn,ov,bm,bk⟩:=A
  dsimp only at hnv
  subst hnv
  refine FT.fact (fun _ _ _ s=>s.vec_shape (E:=3) (sz:=1) 6 rfl) ?_
  rintro ⟨_,oa,ocap,hov,hocap,hoa⟩
  dsimp only at hov
  subst hov
  obtain⟨co,hco⟩:=hoa (by omega)
  subst hco
  try unfold encI
  refine FT.tight<|FT.of_wp (n:=61) Tryz.func17 rfl rfl rfl<|WP.regs<|L.box rfl rfl fun cS=>L.box rfl rfl fun cX=>L.box rfl rfl fun cY=>L.assign rfl<|L.assign rfl<|WL.nil<|WP.seq<|WP.regs<|L.load T38.sc rfl (Rd.own 2 rfl rfl)<|WL.callV rfl rfl F44.fn rfl (fun g gS dj=>sea_there b ⟨tv,tw,.slice (some ⟨c0,0,none⟩) S.nodes.length ncap,bp,br,bl,bn,.slice (some ⟨co,0,none⟩) S.told.length ocap,bm,bk⟩ S (Stars.cl' (b:=b) 3 rfl gS dj) (by omega))<|L.not rfl<|WL.nil<|WP.condF rfl<|WP.skip<|X.thenN<|WP.seq ?_;refine WP.regs<|L.load T38.sc rfl (Rd.own 2 rfl rfl)<|L.load T3.sc rfl (Rd.own 1 rfl rfl)<|WL.callV rfl rfl F54.fn rfl (fun g gS dj=>sea_knownT b ⟨tv,tw,.slice (some ⟨c0,0,none⟩) S.nodes.length ncap,bp,br,bl,bn,.slice (some ⟨co,0,none⟩) S.told.length ocap,bm,bk⟩ S (Stars.cl' (b:=b) 3 rfl gS dj) ⟨_,_,rfl⟩ u hu)<|L.not rfl<|L.move rfl<|L.load T38.sc rfl (Rd.own 2 rfl rfl)<|L.load T3.sc rfl (Rd.own 0 rfl rfl)<|WL.callV rfl rfl F54.fn rfl (fun g gS dj=>sea_knownT b ⟨tv,tw,.slice (some ⟨c0,0,none⟩) S.nodes.length ncap,bp,br,bl,bn,.slice (some ⟨co,0,none⟩) S.told.length ocap,bm,bk⟩ S (Stars.cl' (b:=b) 3 rfl gS dj) ⟨_,_,rfl⟩ w hw)<|L.not rfl ?_;refine L.pickF rfl rfl<|WL.nil<|WP.condF rfl<|WP.skip<|X.thenN<|WP.seq<|WP.rege [(0,true),(1,true),(2,true),(3,true),(4,true),(5,true),(6,true),(7,true),(8,true),(9,true),(10,true),(11,true),(12,true),(13,true),(14,true)] 15 rfl (by kernel_rfl) (PInv.then PInv.ret) rfl<|WE.take rfl (V.load T38.sc rfl (Rd.own 2 rfl rfl))<|WE.take rfl (V.nilCheck rfl)<|WE.take rfl (V.fieldAddr (o':=18) T59.f4 rfl rfl)<|WE.take rfl (V.load T51.sc rfl (Rd.own 3 rfl rfl))<|WE.take rfl (V.load T38.sc rfl (Rd.own 2 rfl rfl))<|WE.take rfl (V.nilCheck rfl) ?_;refine WE.take rfl (V.fieldAddr (o':=23) T59.f9 rfl rfl)<|WE.take rfl (V.load T56.sc rfl (Rd.own 3 rfl rfl))<|WE.take rfl (V.load T3.sc rfl (Rd.own 1 rfl rfl))<|WE.take rfl (V.indexS T56.sl rfl rfl (by omega))<|WE.take rfl (V.load T3.sc rfl (Rd.vec 9 rfl (idsC_rd S.told u hu)))<|WE.take rfl (V.indexS T51.sl rfl rfl (by omega))<|WE.take rfl (V.fieldAddr T111.f0 rfl rfl)<|WE.take rfl (V.load T3.sc rfl (Rd.vec 4 rfl (nodesC_rd S.nodes (S.told.getD u 0) hiu 0 rfl)))<|WE.take rfl (V.assign rfl)<|WE.nil<|X.thenN<|WP.seq ?_;refine WP.seq<|WP.rege [(0,true),(1,true),(2,true),(3,true),(4,true),(5,true),(6,true),(7,true),(8,true),(9,true),(10,true),(11,true),(12,true),(13,true),(14,true),(15,true)] 16 rfl (by kernel_rfl) (PInv.then (PInv.then PInv.ret)) rfl<|WE.take rfl (V.move rfl)<|WE.take rfl (V.load T38.sc rfl (Rd.own 2 rfl rfl))<|WE.take rfl (V.nilCheck rfl)<|WE.take rfl (V.fieldAddr (o':=18) T59.f4 rfl rfl)<|WE.take rfl (V.load T51.sc rfl (Rd.own 3 rfl rfl))<|WE.take rfl (V.load T38.sc rfl (Rd.own 2 rfl rfl))<|WE.take rfl (V.nilCheck rfl) ?_;refine WE.take rfl (V.fieldAddr (o':=23) T59.f9 rfl rfl)<|WE.take rfl (V.load T56.sc rfl (Rd.own 3 rfl rfl))<|WE.take rfl (V.load T3.sc rfl (Rd.own 0 rfl rfl))<|WE.take rfl (V.indexS T56.sl rfl rfl (by omega))<|WE.take rfl (V.load T3.sc rfl (Rd.vec 9 rfl (idsC_rd S.told w hw)))<|WE.take rfl (V.indexS T51.sl rfl rfl (by omega))<|WE.take rfl (V.fieldAddr T111.f0 rfl rfl)<|WE.take rfl (V.load T3.sc rfl (Rd.vec 4 rfl (nodesC_rd S.nodes (S.told.getD w 0) hiw 0 rfl)))<|WE.take rfl (V.neq rfl rfl)<|WE.nil<|X.thenN<|WP.condD rfl (fun h53=>?_) (fun hF=>absurd hF (by omega))
  refine WP.regs<|L.assign rfl<|L.assign rfl<|WL.nil<|WP.ret<|X.thenR<|X.ret rfl (Res.two rfl rfl rfl) ?_;exact⟨_,rfl,_,⟨rfl,rfl⟩,(Ent.left [_,_,_] _)⟩
end
end Go.Eng
