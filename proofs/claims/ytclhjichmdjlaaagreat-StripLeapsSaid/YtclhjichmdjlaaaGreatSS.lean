/- Walks of the functions of the seat over those rules, and plain laws of what they compute. No conditions beyond those in each theorem. -/
import Derived.Test.YtclhjichmdjlaaaGreatSR
set_option linter.unusedSimpArgs false
set_option linter.unusedVariables false
namespace Go.Eng
open Go.RowKit Go.Proofs
theorem zero_step {S:SeaD} (K:SeaK S) (hi:Inv S) (l:Nat) (hl:l+1≤45):(S.zero l).1.nodes.length≤(S.zero (l+1)).1.nodes.length:=by
  obtain⟨G1,l1,_⟩:=(Good.refl K hi).zero l (by omega)
  obtain⟨_,_,e2⟩:=G1.pair l1 l1 (by omega)
  exact e2.len
theorem zero_le {S:SeaD} (K:SeaK S) (hi:Inv S) (i:Nat):∀ l,i≤l→l≤45→(S.zero i).1.nodes.length≤(S.zero l).1.nodes.length
  | 0,h,_=>by obtain rfl:i=0:=(by omega);exact Nat.le_refl _
  | l+1,h,hl=>by
    rcases Nat.lt_or_ge i (l+1) with h1 | h1
    · exact Nat.le_trans (zero_le K hi i l (by omega) (by omega)) (zero_step K hi l hl)
    · obtain rfl:i=l+1:=by omega
      exact Nat.le_refl _
section
variable {k:World} {h0:Hp}
set_option maxRecDepth 10000 in
set_option maxHeartbeats 1000000 in
theorem sea_zeroP (b:Nat) (A:SeaA) (S:SeaD) (K:SeaK S) (hi:Inv S) (l:Nat) (hl:l≤45) (hm:S.nodes.length≤S.most):FT Pg 122 [.pointer (some ⟨b,0,none⟩),.int .i64 (l:Int)] k h0 (seaS b A S) (RP 163 (fun v τ=>∃ nv,v=encI (S.zero l).2∧τ=seaS b {A with nv:=nv} (S.zero l).1∧(S.zero l).1.nodes.length≤S.most) (PS b S (S.zero l).1)):=by
  have hw:=K.ok.2.1;unfold TopoD.Ok at hw
  have hmo:=K.most
  have G0:=Good.refl K hi
  refine FT.tightP<|FT.of_wp (n:=24) Tryz.func122 rfl rfl rfl<|WP.regs<|L.assign rfl<|WL.nil<|WP.regs<|L.move rfl<|L.move rfl<|L.nilCheck rfl<|L.fieldAddr (o':=11) T59.f1 rfl rfl<|L.fieldAddr (o':=12) T34.f1 rfl rfl<|L.load T3.sc rfl (Rd.own 0 rfl rfl)<|L.make T60.sl T5.z rfl rfl (by omega) fun b1=>L.bytesToStr T60.sl T5.u T9.u rfl (ns:=zeros S.t.w.toNat) (zeros_len _) (fun _ _ _ e=>by cases e;exact⟨rfl,Rds_zeros 0 rfl⟩) (fun e=>by cases e) ?_
  refine WL.callS rfl rfl F53.fn rfl (FT.partP (seaS b A S) _ ((Ent.pk [1,1,1,1,1,1,1,1,1,1,0] rfl)) fun g gS dj=>sea_rowP b A S S.zrow hm hmo) ?_ ?_
  · intro τ9 h9
    obtain⟨_,⟨A9,S9,rfl,hs9,hl9⟩,rfl⟩:=h9
    exact⟨rfl,.inr ⟨rfl,_,⟨A9,S9,rfl,hs9,by have h1:=zero_le K hi 0 l (by omega) hl;have h2:(S.zero 0).1.nodes.length=(S.row S.zrow).1.nodes.length:=rfl;omega⟩,Ent.right _ _⟩⟩
  rintro _ _ ⟨_,⟨nv1,rfl,rfl,hq1⟩,rfl⟩
  refine L.assign rfl<|WL.nil<|WP.seq<|WP.regs<|L.move rfl<|L.move rfl<|WL.nil<|WP.block<|WP.loop (X:=Value × Nat) (fun x=>⟨24,[],[(0,.pointer (some ⟨b,0,none⟩)),(5,.int .i64 ((S.zero x.2).2:Int)),(15,.int .i64 (l:Int)),(16,.int .i64 (x.2:Int))]⟩) (fun x=>seaS b {(A:SeaA) with nv:=x.1} (S.zero x.2).1) (fun x=>x.2≤l∧(S.zero x.2).1.nodes.length≤S.most) (fun x=>l-x.2) (nv1,0) (⟨Nat.zero_le _,hq1⟩) (Env.Sub.cons rfl rfl (Env.Sub.cons rfl rfl (Env.Sub.cons rfl rfl (Env.Sub.cons rfl rfl Env.Sub.nil)))) ((Ent.pk [0,0,0,0,0,0,0,0,0,0] rfl)) ?_
  rintro ⟨nv,i⟩ ⟨hi2,hq⟩
  dsimp only at hi2 hq ⊢
  obtain⟨G1,l1,e1⟩:=G0.zero i (by omega)
  refine WP.regs<|L.lss rfl rfl<|WL.nil<|WP.seq<|WP.condD rfl (fun h17=>?_) (fun h17=>?_);refine WP.skip<|X.thenN<|WP.seq<|WP.block<|WP.region<|L.move rfl<|L.move rfl<|L.move rfl<|WL.callS rfl rfl F56.fn rfl (FT.partP (seaS b {(A:SeaA) with nv:=nv} (S.zero i).1) _ ((Ent.refl _)) fun g gS dj=>sea_pairP b {(A:SeaA) with nv:=nv} (S.zero i).1 (S.zero i).2 (S.zero i).2 l1.1 (by have:=G1.most;omega) G1.K.most (by have h9:((S.zero i).1.nodes.getD (S.zero i).2 .no).level=_:=l1.2;omega)) ?_ ?_
  · intro τ9 h9
    obtain⟨_,⟨A9,S9,rfl,hs9,hl9⟩,rfl⟩:=h9
    exact⟨rfl,.inr ⟨rfl,_,⟨A9,S9,rfl,hs9.of G1,by have h1:=zero_le K hi (i+1) l (by omega) hl;have h2:(S.zero (i+1)).1.nodes.length=((S.zero i).1.pair (S.zero i).2 (S.zero i).2).1.nodes.length:=rfl;have:=G1.most;omega⟩,Ent.right _ _⟩⟩
  rintro _ _ ⟨_,⟨nv2,rfl,rfl,hq2⟩,rfl⟩
  refine L.assign rfl<|WL.nil<|X.blockN<|X.thenN<|WP.region<|L.add' rfl rfl (by omega)<|L.move rfl<|WL.nil<|X.thenN ⟨(nv2,i+1),⟨by dsimp only;omega,by have:=G1.most;show ((S.zero i).1.pair (S.zero i).2 (S.zero i).2).1.nodes.length≤S.most;omega⟩,by dsimp only;omega,(Env.Sub.cons rfl rfl (Env.Sub.cons rfl rfl (Env.Sub.cons rfl rfl (Env.Sub.cons rfl rfl Env.Sub.nil)))),(Ent.refl _)⟩
  obtain rfl:i=l:=by omega
  refine WP.exit<|X.thenE (X.thenE (X.blockE ?_));refine X.thenN<|WP.regs<|L.move rfl<|L.assign rfl<|WL.nil<|WP.ret<|X.ret rfl (Res.one rfl rfl) ?_;exact .inl ⟨_,rfl,_,⟨nv,rfl,rfl,hq⟩,(Ent.refl _)⟩
end
open Go.RowKit Go.Proofs
section
variable {k:World} {h0:Hp}
set_option maxRecDepth 10000 in
set_option maxHeartbeats 1000000 in
theorem sea_build0P (b:Nat) (t:TopoD) (r:RuleD) (rv:Value) (rows:List ByteArray) (hrl:rows.length≤1099511627776) (A:SeaA) (S:SeaD) (K:SeaK S) (hi:Inv S) (hbt:BtsAt h0 rv rows) (hr:∀ i,i<rows.length→RowOkB S (rows.getD i ByteArray.empty)) (left:Int) (hl:0≤45) (hlf:-2305843009213693952+((2^0:Nat):Int)≤left∧left≤2305843009213693952) (hm:S.nodes.length≤S.most):FT Pg 121 [.pointer (some ⟨b,0,none⟩),.int .i64 ((0:Nat):Int),.int .i64 left,rv] k h0 (seaS b A S) (RP 163 (fun v τ=>∃ nv,v=encI (SeaD.build 0 S left rows).2∧τ=seaS b {A with nv:=nv} (SeaD.build 0 S left rows).1∧(SeaD.build 0 S left rows).1.nodes.length≤S.most) (PS b S (SeaD.build 0 S left rows).1)):=by
  have hw:=K.ok.2.1;unfold TopoD.Ok at hw
  have hmo:=K.most
  have G0:=Good.refl K hi
  obtain⟨vs,⟨ra,rcap,rfl,hrcap,hrn,hrs⟩,hall⟩:=hbt
  refine FT.tightP<|FT.of_wp (n:=54) Tryz.func121 rfl rfl rfl<|WP.regs<|L.assign rfl<|WL.nil<|WP.regs<|L.move rfl<|L.shl rfl rfl (by omega)<|L.assign rfl<|WL.nil<|WP.seq<|WP.regs ?_
  rw[shlI (l:=0) (by omega)]
  refine L.move rfl<|L.move rfl<|L.geqD rfl rfl (fun h15=>?_) (fun h15=>?_);refine L.move rfl ?_
  iterate 5 refine L.skip ?_
  refine L.pickT rfl rfl<|WL.nil<|WP.condT rfl<|WP.regs<|L.move rfl<|L.move rfl ?_
  have FB:SeaD.build 0 S left rows=S.zero 0:=by unfold SeaD.build;rw[if_pos (by omega)]
  rw[FB]
  refine WL.callS rfl rfl F122.fn rfl (FT.partP (seaS b A S) _ ((Ent.refl _)) fun g gS dj=>sea_zeroP b A S K hi 0 hl hm) ?_ ?_
  · intro τ9 h9
    obtain⟨_,⟨A9,S9,rfl,hs9,hl9⟩,rfl⟩:=h9
    exact⟨rfl,.inr ⟨rfl,_,⟨A9,S9,rfl,hs9,by exact hl9⟩,Ent.right _ _⟩⟩
  rintro _ _ ⟨_,⟨nv1,rfl,rfl,hq1⟩,rfl⟩
  refine L.assign rfl<|WL.nil<|WP.ret<|X.thenR<|X.ret rfl (Res.one rfl rfl) ?_;rotate_left;refine L.move rfl<|L.move rfl<|L.move rfl<|L.lenS T61.sl rfl rfl<|L.add' rfl rfl (by omega)<|L.leq rfl rfl<|L.pickF rfl rfl<|WL.nil<|WP.condD rfl (fun h22=>?_) (fun h22=>?_);refine WP.regs<|L.move rfl<|L.move rfl ?_
  have FB:SeaD.build 0 S left rows=S.zero 0:=by unfold SeaD.build;rw[if_pos (by omega)]
  rw[FB]
  refine WL.callS rfl rfl F122.fn rfl (FT.partP (seaS b A S) _ ((Ent.refl _)) fun g gS dj=>sea_zeroP b A S K hi 0 hl hm) ?_ ?_
  · intro τ9 h9
    obtain⟨_,⟨A9,S9,rfl,hs9,hl9⟩,rfl⟩:=h9
    exact⟨rfl,.inr ⟨rfl,_,⟨A9,S9,rfl,hs9,by exact hl9⟩,Ent.right _ _⟩⟩
  rintro _ _ ⟨_,⟨nv1,rfl,rfl,hq1⟩,rfl⟩
  refine L.assign rfl<|WL.nil<|WP.ret<|X.thenR<|X.ret rfl (Res.one rfl rfl) ?_;rotate_left
  obtain⟨rb,ro,rfl,hrc⟩:=hrs (by omega)
  have hbi:=hall (-left).toNat (by omega)
  have hok:=hr (-left).toNat (by omega)
  obtain⟨va,vcap,hveq,hvcap,hvn,hvs⟩:=hbi
  obtain⟨vb,vo,rfl,hvc⟩:=hvs (by rw[intsB_len];have:=hok.1;omega)
  have FB:SeaD.build 0 S left rows=S.row (rows.getD (-left).toNat ByteArray.empty):=by unfold SeaD.build;rw[if_neg (by omega)]
  rw[FB]
  refine WP.skip<|X.thenN<|WP.seq<|WP.regs<|L.move rfl<|L.eql rfl rfl<|WL.nil<|WP.condD rfl (fun h27=>?_) (fun hF=>absurd hF (by omega));refine WP.regs<|L.move rfl<|L.move rfl<|L.move rfl<|L.neg' rfl (by omega)<|L.indexS T61.sl rfl rfl (by omega)<|L.load T60.sc rfl (v:=vs.getD (-left).toNat undef) (Rd.ro (by have:=hrc (-left).toNat (by omega);rw[show ro+(-left).toNat*1=ro+(-left).toNat by omega];exact this)) ?_
  rw[hveq]
  refine L.bytesToStr T60.sl T5.u T9.u rfl (ns:=intsB (rows.getD (-left).toNat ByteArray.empty)) rfl (fun _ _ _ e=>by cases e;exact⟨rfl,(Rds.of_cells (i:=0) hvc _ (by rw[List.length_map];omega) (fun j hj=>by rw[List.getElem_map,Nat.zero_add,List.getD_eq_getElem?_getD,List.getElem?_eq_getElem (show j<(intsB (rows.getD (-left).toNat ByteArray.empty)).length by rwa [List.length_map] at hj)];rfl))⟩) (fun e=>by cases e) ?_
  rw[textOf_intsB]
  refine WL.callS rfl rfl F53.fn rfl (FT.partP (seaS b A S) _ ((Ent.refl _)) fun g gS dj=>sea_rowP b A S (rows.getD (-left).toNat ByteArray.empty) hm hmo) ?_ ?_
  · intro τ9 h9
    obtain⟨_,⟨A9,S9,rfl,hs9,hl9⟩,rfl⟩:=h9
    exact⟨rfl,.inr ⟨rfl,_,⟨A9,S9,rfl,hs9,by exact hl9⟩,Ent.right _ _⟩⟩
  rintro _ _ ⟨_,⟨nv1,rfl,rfl,hq1⟩,rfl⟩
  refine L.assign rfl<|WL.nil<|WP.ret<|X.thenR<|X.ret rfl (Res.one rfl rfl) ?_;rotate_left
  all_goals exact .inl ⟨_,rfl,_,⟨nv1,rfl,rfl,hq1⟩,(Ent.refl _)⟩
set_option maxRecDepth 10000 in
set_option maxHeartbeats 2000000 in
theorem sea_build1P (b:Nat) (t:TopoD) (r:RuleD) (rv:Value) (rows:List ByteArray) (hrl:rows.length≤1099511627776) (l:Nat) (ih:∀ (k:World) (h0:Hp) (A:SeaA) (S:SeaD) (K:SeaK S) (hi:Inv S) (hbt:BtsAt h0 rv rows) (hr:∀ i,i<rows.length→RowOkB S (rows.getD i ByteArray.empty)) (left:Int),l≤45→-2305843009213693952+((2^l:Nat):Int)≤left∧left≤2305843009213693952→S.nodes.length≤S.most→FT Pg 121 [.pointer (some ⟨b,0,none⟩),.int .i64 ((l:Nat):Int),.int .i64 left,rv] k h0 (seaS b A S) (RP 163 (fun v τ=>∃ nv,v=encI (SeaD.build l S left rows).2∧τ=seaS b {A with nv:=nv} (SeaD.build l S left rows).1∧(SeaD.build l S left rows).1.nodes.length≤S.most) (PS b S (SeaD.build l S left rows).1))) (A:SeaA) (S:SeaD) (K:SeaK S) (hi:Inv S) (hbt:BtsAt h0 rv rows) (hr:∀ i,i<rows.length→RowOkB S (rows.getD i ByteArray.empty)) (left:Int) (hl:l+1≤45) (hlf:-2305843009213693952+((2^(l+1):Nat):Int)≤left∧left≤2305843009213693952) (hm:S.nodes.length≤S.most):FT Pg 121 [.pointer (some ⟨b,0,none⟩),.int .i64 (((l+1):Nat):Int),.int .i64 left,rv] k h0 (seaS b A S) (RP 163 (fun v τ=>∃ nv,v=encI (SeaD.build (l+1) S left rows).2∧τ=seaS b {A with nv:=nv} (SeaD.build (l+1) S left rows).1∧(SeaD.build (l+1) S left rows).1.nodes.length≤S.most) (PS b S (SeaD.build (l+1) S left rows).1)):=by
  have hw:=K.ok.2.1;unfold TopoD.Ok at hw
  have hmo:=K.most
  have G0:=Good.refl K hi
  obtain⟨vs,⟨ra,rcap,rfl,hrcap,hrn,hrs⟩,hall⟩:=hbt
  have hp1:=pow45 (show l≤45 by omega)
  have hp2:2^(l+1)=2^l+2^l:=by rw[Nat.pow_succ];omega
  refine FT.tightP<|FT.of_wp (n:=54) Tryz.func121 rfl rfl rfl<|WP.regs<|L.assign rfl<|WL.nil<|WP.regs<|L.move rfl<|L.shl rfl rfl (by omega)<|L.assign rfl<|WL.nil<|WP.seq<|WP.regs ?_
  rw[shlI (l:=l+1) (by omega)]
  refine L.move rfl<|L.move rfl<|L.geqD rfl rfl (fun h15=>?_) (fun h15=>?_);refine L.move rfl ?_
  iterate 5 refine L.skip ?_
  refine L.pickT rfl rfl<|WL.nil<|WP.condT rfl<|WP.regs<|L.move rfl<|L.move rfl ?_
  have FB:SeaD.build (l+1) S left rows=S.zero (l+1):=by unfold SeaD.build;rw[if_pos (by omega)]
  rw[FB]
  refine WL.callS rfl rfl F122.fn rfl (FT.partP (seaS b A S) _ ((Ent.refl _)) fun g gS dj=>sea_zeroP b A S K hi (l+1) hl hm) ?_ ?_
  · intro τ9 h9
    obtain⟨_,⟨A9,S9,rfl,hs9,hl9⟩,rfl⟩:=h9
    exact⟨rfl,.inr ⟨rfl,_,⟨A9,S9,rfl,hs9,by exact hl9⟩,Ent.right _ _⟩⟩
  rintro _ _ ⟨_,⟨nv1,rfl,rfl,hq1⟩,rfl⟩
  refine L.assign rfl<|WL.nil<|WP.ret<|X.thenR<|X.ret rfl (Res.one rfl rfl) ?_;rotate_left;refine L.move rfl<|L.move rfl<|L.move rfl<|L.lenS T61.sl rfl rfl<|L.add' rfl rfl (by omega)<|L.leq rfl rfl<|L.pickF rfl rfl<|WL.nil<|WP.condD rfl (fun h22=>?_) (fun h22=>?_);refine WP.regs<|L.move rfl<|L.move rfl ?_
  have FB:SeaD.build (l+1) S left rows=S.zero (l+1):=by unfold SeaD.build;rw[if_pos (by omega)]
  rw[FB]
  refine WL.callS rfl rfl F122.fn rfl (FT.partP (seaS b A S) _ ((Ent.refl _)) fun g gS dj=>sea_zeroP b A S K hi (l+1) hl hm) ?_ ?_
  · intro τ9 h9
    obtain⟨_,⟨A9,S9,rfl,hs9,hl9⟩,rfl⟩:=h9
    exact⟨rfl,.inr ⟨rfl,_,⟨A9,S9,rfl,hs9,by exact hl9⟩,Ent.right _ _⟩⟩
  rintro _ _ ⟨_,⟨nv1,rfl,rfl,hq1⟩,rfl⟩
  refine L.assign rfl<|WL.nil<|WP.ret<|X.thenR<|X.ret rfl (Res.one rfl rfl) ?_;rotate_left
  obtain⟨G1,l11,e1⟩:=Good.build hr l left G0 (by omega)
  generalize hba:SeaD.build l S left rows=ba at G1 l11 e1
  obtain⟨G2,l22,e2⟩:=Good.build hr l (left-((2^l:Nat):Int)) G1 (by omega)
  generalize hbb:SeaD.build l ba.1 (left-((2^l:Nat):Int)) rows=bb at G2 l22 e2
  have l12:=l11.up e2
  obtain⟨G3,l33,e3⟩:=G2.pair l12 l22 (by omega)
  generalize hbc:bb.1.pair ba.2 bb.2=bc at G3 l33 e3
  have FB:SeaD.build (l+1) S left rows=bc:=by unfold SeaD.build;rw[if_neg (by omega)];dsimp only;rw[hba,hbb,hbc]
  rw[FB]
  refine WP.skip<|X.thenN<|WP.seq<|WP.regs<|L.move rfl<|L.eql rfl rfl<|WL.nil<|WP.condD rfl (fun hT=>absurd hT (by omega)) (fun h27=>?_);refine WP.skip<|X.thenN<|WP.regs<|L.move rfl<|L.move rfl<|L.sub' rfl rfl (by omega)<|L.move rfl<|L.move rfl ?_
  rw[show ((l+1:Nat):Int)-1=(l:Int) by omega]
  refine WL.callS rfl rfl F121.fn rfl (FT.partP (seaS b A S) _ ((Ent.refl _)) fun g gS dj=>ih k _ A S K hi (BtsAt.mono ⟨vs,⟨ra,rcap,rfl,hrcap,hrn,hrs⟩,hall⟩ (Hp.le_un_left _ _)) hr left (by omega) (by omega) hm) ?_ ?_
  · intro τ9 h9
    obtain⟨_,⟨A9,S9,rfl,hs9,hl9⟩,rfl⟩:=h9
    exact⟨rfl,.inr ⟨rfl,_,⟨A9,S9,rfl,hs9,by rw[hba] at hl9;have:=e2.len;have:=e3.len;omega⟩,Ent.right _ _⟩⟩
  rintro _ _ ⟨_,⟨nv1,rfl,rfl,hq1⟩,rfl⟩
  rw[hba] at hq1 ⊢
  refine L.assign rfl<|WL.nil<|WP.regs<|L.move rfl<|L.move rfl<|L.move rfl<|L.move rfl<|L.sub' rfl rfl (by omega)<|L.move rfl<|L.move rfl<|L.quo' rfl rfl (by omega)<|L.sub' rfl rfl (by omega)<|L.move rfl ?_
  rw[show ((l+1:Nat):Int)-1=(l:Int) by omega,show ((2^(l+1):Nat):Int)/2=((2^l:Nat):Int) by omega]
  refine WL.callS rfl rfl F121.fn rfl (FT.partP (seaS b {(A:SeaA) with nv:=nv1} ba.1) _ ((Ent.refl _)) fun g gS dj=>ih k _ {(A:SeaA) with nv:=nv1} ba.1 G1.K G1.i (BtsAt.mono ⟨vs,⟨ra,rcap,rfl,hrcap,hrn,hrs⟩,hall⟩ (Hp.le_un_left _ _)) (fun i h=>(hr i h).ext e1) _ (by omega) (by omega) (by have:=G1.most;omega)) ?_ ?_
  · intro τ9 h9
    obtain⟨_,⟨A9,S9,rfl,hs9,hl9⟩,rfl⟩:=h9
    exact⟨rfl,.inr ⟨rfl,_,⟨A9,S9,rfl,hs9.of G1,by rw[hbb] at hl9;have:=e3.len;have:=G1.most;omega⟩,Ent.right _ _⟩⟩
  rintro _ _ ⟨_,⟨nv2,rfl,rfl,hq2⟩,rfl⟩
  rw[hbb] at hq2 ⊢
  refine WL.callS rfl rfl F56.fn rfl (FT.partP (seaS b {(A:SeaA) with nv:=nv2} bb.1) _ ((Ent.refl _)) fun g gS dj=>sea_pairP b {(A:SeaA) with nv:=nv2} bb.1 ba.2 bb.2 l12.1 (by have:=G1.most;have:=G2.most;omega) G2.K.most (by have h9:(bb.1.nodes.getD ba.2 .no).level=_:=l12.2;omega)) ?_ ?_
  · intro τ9 h9
    obtain⟨_,⟨A9,S9,rfl,hs9,hl9⟩,rfl⟩:=h9
    exact⟨rfl,.inr ⟨rfl,_,⟨A9,S9,rfl,hs9.of G2,by rw[hbc] at hl9;have:=G2.most;omega⟩,Ent.right _ _⟩⟩
  rintro _ _ ⟨_,⟨nv3,rfl,rfl,hq3⟩,rfl⟩
  rw[hbc] at hq3 ⊢
  refine L.assign rfl<|WL.nil<|WP.ret<|X.ret rfl (Res.one rfl rfl) ?_;exact .inl ⟨_,rfl,_,⟨nv3,rfl,rfl,by have:=G2.most;omega⟩,(Ent.refl _)⟩
  all_goals exact .inl ⟨_,rfl,_,⟨nv1,rfl,rfl,hq1⟩,(Ent.refl _)⟩
theorem sea_buildP (b:Nat) (t:TopoD) (r:RuleD) (rv:Value) (rows:List ByteArray) (hrl:rows.length≤1099511627776):∀ (l:Nat),∀ (k:World) (h0:Hp) (A:SeaA) (S:SeaD) (K:SeaK S) (hi:Inv S) (hbt:BtsAt h0 rv rows) (hr:∀ i,i<rows.length→RowOkB S (rows.getD i ByteArray.empty)) (left:Int),l≤45→-2305843009213693952+((2^l:Nat):Int)≤left∧left≤2305843009213693952→S.nodes.length≤S.most→FT Pg 121 [.pointer (some ⟨b,0,none⟩),.int .i64 ((l:Nat):Int),.int .i64 left,rv] k h0 (seaS b A S) (RP 163 (fun v τ=>∃ nv,v=encI (SeaD.build l S left rows).2∧τ=seaS b {A with nv:=nv} (SeaD.build l S left rows).1∧(SeaD.build l S left rows).1.nodes.length≤S.most) (PS b S (SeaD.build l S left rows).1))
  | 0,_,_,A,S,K,hi,hbt,hr,left,h1,h2,h3=>sea_build0P b t r rv rows hrl A S K hi hbt hr left h1 h2 h3
  | l+1,_,_,A,S,K,hi,hbt,hr,left,h1,h2,h3=>sea_build1P b t r rv rows hrl l (sea_buildP b t r rv rows hrl l) A S K hi hbt hr left h1 h2 h3
end
open Go.RowKit Go.Proofs
theorem edge_le {S:SeaD} (K:SeaK S) (hi:Inv S) (last:Bool) {f l id:Nat} (hl:Lv S id l) (hf:l<f+1):(S.zero l).1.nodes.length≤(SeaD.edge (f+1) S id last).1.nodes.length∧
    (∀ l',l=l'+1→id≠(S.zero l).2→(SeaD.edge f (S.zero l).1 (if last then (S.nd id).b else (S.nd id).a) last).1.nodes.length≤(SeaD.edge (f+1) S id last).1.nodes.length):=by
  have G:=Good.refl K hi
  have hl45:=G.lev hl
  have hu:SeaD.edge (f+1) S id last=(if id=(S.zero (S.nd id).level).2 then ((S.zero (S.nd id).level).1,-1) else if (S.nd id).level=0 then ((S.zero (S.nd id).level).1,0) else
   if 0≤(SeaD.edge f (S.zero (S.nd id).level).1 (if last then (S.nd id).b else (S.nd id).a) last).2 then ((SeaD.edge f (S.zero (S.nd id).level).1 (if last then (S.nd id).b else (S.nd id).a) last).1,(if last then ((2^((S.nd id).level-1):Nat):Int) else 0)+(SeaD.edge f (S.zero (S.nd id).level).1 (if last then (S.nd id).b else (S.nd id).a) last).2) else
   ((SeaD.edge f (SeaD.edge f (S.zero (S.nd id).level).1 (if last then (S.nd id).b else (S.nd id).a) last).1 (if last then (S.nd id).a else (S.nd id).b) last).1,(if last then 0 else ((2^((S.nd id).level-1):Nat):Int))+(SeaD.edge f (SeaD.edge f (S.zero (S.nd id).level).1 (if last then (S.nd id).b else (S.nd id).a) last).1 (if last then (S.nd id).a else (S.nd id).b) last).2)):=rfl
  rw[hu,show (S.nd id).level=l from hl.2]
  obtain⟨G1,l1,e1⟩:=G.zero l hl45
  by_cases hz:id=(S.zero l).2
  · rw[if_pos hz]
    exact⟨Nat.le_refl _,fun _ _ h=>absurd hz h⟩
  · rw[if_neg hz]
    by_cases h0:l=0
    · rw[if_pos h0]
      exact⟨Nat.le_refl _,fun l' h _=>absurd h (by omega)⟩
    · rw[if_neg h0]
      obtain⟨l',rfl⟩:∃ l',l=l'+1:=⟨l-1,by omega⟩
      obtain⟨ha,hb⟩:=G.kids hl
      have hnear:Lv S (if last then (S.nd id).b else (S.nd id).a) l':=by cases last <;> assumption
      have hfar:Lv S (if last then (S.nd id).a else (S.nd id).b) l':=by cases last <;> assumption
      generalize (if last then (S.nd id).b else (S.nd id).a)=near at hnear ⊢
      generalize (if last then (S.nd id).a else (S.nd id).b)=far at hfar ⊢
      obtain⟨G2,e2,_,_⟩:=Good.edge last f G1 (hnear.up e1) (by omega)
      obtain⟨G3,e3,_,_⟩:=Good.edge last f G2 ((hfar.up e1).up e2) (by omega)
      split
      · exact⟨e2.len,fun _ _ _=>Nat.le_refl _⟩
      · exact⟨Nat.le_trans e2.len e3.len,fun _ _ _=>e3.len⟩
section
variable {k:World} {h0:Hp}
set_option maxRecDepth 10000 in
set_option maxHeartbeats 2000000 in
theorem sea_edge1P_true (b f:Nat) (ih:∀ (k:World) (h0:Hp) (A:SeaA) (S:SeaD) (l id:Nat),SeaK S→Inv S→Lv S id l→l<f→S.nodes.length≤S.most→FT Pg 123 [.pointer (some ⟨b,0,none⟩),encI id,.bool true] k h0 (seaS b A S) (RP 163 (fun v τ=>∃ nv,v=.int .i64 (SeaD.edge f S id true).2∧τ=seaS b {A with nv:=nv} (SeaD.edge f S id true).1∧(SeaD.edge f S id true).1.nodes.length≤S.most) (PS b S (SeaD.edge f S id true).1))) (A:SeaA) (S:SeaD) (l id:Nat) (K:SeaK S) (hi:Inv S) (hlv:Lv S id l) (hf:l<f+1) (hm:S.nodes.length≤S.most):FT Pg 123 [.pointer (some ⟨b,0,none⟩),encI id,.bool true] k h0 (seaS b A S) (RP 163 (fun v τ=>∃ nv,v=.int .i64 (SeaD.edge (f+1) S id true).2∧τ=seaS b {A with nv:=nv} (SeaD.edge (f+1) S id true).1∧(SeaD.edge (f+1) S id true).1.nodes.length≤S.most) (PS b S (SeaD.edge (f+1) S id true).1)):=by
  have hid:id<S.nodes.length:=hlv.1
  have hlm:(S.nodes.getD id .no).level=l:=hlv.2
  have hnd:(S.nd id).level=l:=hlv.2
  have G0:=Good.refl K hi
  have hl45:=G0.lev hlv
  have hle:=edge_le K hi true (f:=f) hlv hf
  refine FT.tightP<|FT.fact (fun _ _ _ s=>s.vec_shape (E:=111) (sz:=4) 1 rfl) ?_
  rintro ⟨_,na,ncap,hnv,hncap,hna⟩
  obtain⟨c0,hc0⟩:=hna (by omega)
  subst hc0
  obtain⟨tv,tw,nv,bp,br,bl,bn,ov,bm,bk⟩:=A
  dsimp only at hnv
  subst hnv
  unfold encI
  refine FT.of_wp (n:=57) Tryz.func123 rfl rfl rfl<|WP.regs<|L.assign rfl<|WL.nil<|WP.regs<|L.move rfl<|L.nilCheck rfl<|L.fieldAddr (o':=18) T59.f4 rfl rfl<|L.load T51.sc rfl (Rd.own 0 rfl rfl)<|L.move rfl<|L.indexS T51.sl rfl rfl (by omega)<|L.loadN T111.ag rfl rfl (Rds.vec (vs:=nodeC (S.nodes.getD id .no)) 1 rfl (fun j v hj=>nodesC_rd S.nodes id hid j hj))<|L.alloc T111.z fun c7=>L.storeN T111.ag rfl rfl rfl (Wrs.all 0 rfl rfl (by simp[Value.oneCell']))<|WL.nil<|WP.seq<|WP.regs<|L.move rfl<|L.move rfl<|L.fieldAddr (o':=0) T111.f0 rfl rfl ?_;refine L.load T3.sc rfl (Rd.own 0 rfl rfl)<|WL.callS rfl rfl F122.fn rfl (FT.partP (seaS b ⟨tv,tw,.slice (some ⟨c0,0,none⟩) S.nodes.length ncap,bp,br,bl,bn,ov,bm,bk⟩ S) _ ((Ent.pk [1,1,1,1,1,1,1,1,1,1,0] rfl)) fun g gS dj=>sea_zeroP b ⟨tv,tw,.slice (some ⟨c0,0,none⟩) S.nodes.length ncap,bp,br,bl,bn,ov,bm,bk⟩ S K hi (S.nodes.getD id .no).level (by omega) hm) ?_ ?_
  · intro τ9 h9
    obtain⟨_,⟨A9,S9,rfl,hs9,hl9⟩,rfl⟩:=h9
    exact⟨rfl,.inr ⟨rfl,_,⟨A9,S9,rfl,hs9,by rw[hlm] at hl9;have:=hle.1;omega⟩,Ent.right _ _⟩⟩
  rintro _ _ ⟨_,⟨nv1,rfl,rfl,hq1⟩,rfl⟩
  obtain⟨G1,lz,e1⟩:=G0.zero (S.nodes.getD id .no).level (by omega)
  rw[← hlm] at hle
  generalize hz:S.zero (S.nodes.getD id .no).level=z at G1 lz e1 hq1 hle ⊢
  refine L.eql rfl rfl<|WL.nil<|WP.condD rfl (fun h25=>?_) (fun h25=>?_);refine WP.regs<|L.assign rfl<|WL.nil<|WP.ret<|X.thenR<|X.ret rfl (Res.one rfl rfl) ?_
  have hed:SeaD.edge (f+1) S id true=(z.1,-1):=by unfold SeaD.edge;dsimp only;rw[hz,if_pos (by omega)]
  rw[hed]
  exact .inl ⟨_,rfl,_,⟨nv1,rfl,rfl,hq1⟩,(Ent.pk [0,0,0,0,0,0,0,0,0,0] rfl)⟩
  refine WP.skip<|X.thenN<|WP.seq<|WP.regs<|L.fieldAddr (o':=0) T111.f0 rfl rfl<|L.load T3.sc rfl (Rd.own 10 rfl rfl)<|L.eql rfl rfl<|WL.nil<|WP.condD rfl (fun h28=>?_) (fun h28=>?_);refine WP.regs<|L.assign rfl<|WL.nil<|WP.ret<|X.thenR<|X.ret rfl (Res.one rfl rfl) ?_
  have hed:SeaD.edge (f+1) S id true=(z.1,0):=by unfold SeaD.edge;dsimp only;rw[hz,if_neg (by omega),if_pos (by omega)]
  rw[hed]
  exact .inl ⟨_,rfl,_,⟨nv1,rfl,rfl,hq1⟩,(Ent.pk [0,0,0,0,0,0,0,0,0,0] rfl)⟩
  obtain⟨l',rfl⟩:∃ l',l=l'+1:=⟨l-1,by omega⟩
  obtain⟨la,lb⟩:=G0.kids hlv
  have hp1:=pow45 (show l'≤45 by omega)
  refine WP.skip<|X.thenN<|WP.seq<|WP.rege [(0,true),(1,true),(2,true),(3,true),(4,true),(5,true),(6,true),(7,true),(8,true),(9,true),(10,true),(11,true)] 12 rfl (by kernel_rfl) (PInv.then PInv.ret) rfl<|WE.take rfl (V.fieldAddr (o':=1) T111.f1 rfl rfl)<|WE.take rfl (V.load T3.sc rfl (Rd.own 10 rfl rfl))<|WE.take rfl (V.fieldAddr (o':=2) T111.f2 rfl rfl)<|WE.take rfl (V.load T3.sc rfl (Rd.own 10 rfl rfl))<|WE.take rfl (V.fieldAddr (o':=0) T111.f0 rfl rfl)<|WE.take rfl (V.load T3.sc rfl (Rd.own 10 rfl rfl))<|WE.take rfl (V.sub' rfl rfl (by omega)) ?_;refine WE.take rfl (V.shl rfl rfl (by omega))<|WE.take rfl (V.assign rfl)<|WE.take rfl (V.assign rfl)<|WE.take rfl (V.assign rfl)<|WE.take rfl (V.assign rfl)<|WE.nil<|X.thenN<|WP.seq<|WP.regs ?_
  rw[shlI' (l:=l') (x:=((S.nodes.getD id .no).level:Int)-1) (by omega) (by omega)]
  refine L.move rfl<|WL.nil<|WP.condT rfl<|WP.region<|L.move rfl<|L.move rfl<|L.move rfl<|L.move rfl<|L.assign rfl<|L.assign rfl<|L.assign rfl<|L.assign rfl<|WL.nil<|X.thenN<|WP.seq<|WP.regs<|L.move rfl<|L.move rfl<|L.move rfl<|WL.callS rfl rfl F123.fn rfl (FT.partP (seaS b ⟨tv,tw,nv1,bp,br,bl,bn,ov,bm,bk⟩ z.1) _ ((Ent.refl _)) fun g gS dj=>ih k _ ⟨tv,tw,nv1,bp,br,bl,bn,ov,bm,bk⟩ z.1 l' (S.nodes.getD id .no).b G1.K G1.i (lb.up e1) (by omega) (by have:=G1.most;omega)) ?_ ?_
  · intro τ9 h9
    obtain⟨_,⟨A9,S9,rfl,hs9,hl9⟩,rfl⟩:=h9
    exact⟨rfl,.inr ⟨rfl,_,⟨A9,S9,rfl,hs9.of G1,by have h1:=hle.2 l' hlm (by omega);have h2:(if true=true then (S.nd id).b else (S.nd id).a)=(S.nodes.getD id .no).b:=rfl;rw[h2] at h1;have:=G1.most;omega⟩,Ent.right _ _⟩⟩
  rintro _ _ ⟨_,⟨nv2,rfl,rfl,hq2⟩,rfl⟩
  obtain⟨G2,e2,hb1,hb2⟩:=Good.edge true f G1 (lb.up e1) (by omega)
  rw[pow_cast] at hb2
  generalize hea:SeaD.edge f z.1 (S.nodes.getD id .no).b true=ea at G2 e2 hb1 hb2 hq2 ⊢
  refine L.assign rfl<|WL.nil<|WP.regs<|L.move rfl<|L.geq rfl rfl<|WL.nil<|WP.condD rfl (fun h47=>?_) (fun h47=>?_);refine WP.regs<|L.move rfl<|L.move rfl<|L.add' rfl rfl (by omega)<|L.assign rfl<|WL.nil<|WP.ret<|X.thenR<|X.ret rfl (Res.one rfl rfl) ?_
  have hed:SeaD.edge (f+1) S id true=(ea.1,((2^l':Nat):Int)+ea.2):=by unfold SeaD.edge;dsimp only;rw[hz,if_neg (by omega),if_neg (by omega)];simp only[Bool.false_eq_true,if_false,if_true];rw[hea];rw[if_pos (by omega),show (S.nd id).level-1=l' by omega]
  rw[hed]
  exact .inl ⟨_,rfl,_,⟨nv2,rfl,rfl,by have:=G1.most;dsimp only;omega⟩,(Ent.pk [0,0,0,0,0,0,0,0,0,0] rfl)⟩
  refine WP.skip<|X.thenN<|WP.regs<|L.move rfl<|L.move rfl<|L.move rfl<|L.move rfl ?_
  have hed9:SeaD.edge (f+1) S id true=((SeaD.edge f ea.1 (S.nodes.getD id .no).a true).1,0+(SeaD.edge f ea.1 (S.nodes.getD id .no).a true).2):=by
   generalize heb:SeaD.edge f ea.1 (S.nodes.getD id .no).a true=eb
   unfold SeaD.edge;dsimp only;rw[hz,if_neg (by omega),if_neg (by omega)];simp only[Bool.false_eq_true,if_false,if_true];rw[hea];rw[if_neg (by omega),heb]
  refine WL.callS rfl rfl F123.fn rfl (FT.partP (seaS b ⟨tv,tw,nv2,bp,br,bl,bn,ov,bm,bk⟩ ea.1) _ ((Ent.refl _)) fun g gS dj=>ih k _ ⟨tv,tw,nv2,bp,br,bl,bn,ov,bm,bk⟩ ea.1 l' (S.nodes.getD id .no).a G2.K G2.i ((la.up e1).up e2) (by omega) (by have:=G1.most;have:=G2.most;omega)) ?_ ?_
  · intro τ9 h9
    obtain⟨_,⟨A9,S9,rfl,hs9,hl9⟩,rfl⟩:=h9
    exact⟨rfl,.inr ⟨rfl,_,⟨A9,S9,rfl,hs9.of G2,by rw[hed9];have:=G2.most;dsimp only;omega⟩,Ent.right _ _⟩⟩
  rintro _ _ ⟨_,⟨nv3,rfl,rfl,hq3⟩,rfl⟩
  obtain⟨G3,e3,hb3,hb4⟩:=Good.edge true f G2 ((la.up e1).up e2) (by omega)
  rw[pow_cast] at hb4
  generalize heb:SeaD.edge f ea.1 (S.nodes.getD id .no).a true=eb at G3 e3 hb3 hb4 hq3 hed9 ⊢
  refine L.add' rfl rfl (by omega)<|L.assign rfl<|WL.nil<|WP.ret<|X.ret rfl (Res.one rfl rfl) ?_
  rw[hed9]
  exact .inl ⟨_,rfl,_,⟨nv3,rfl,rfl,by have:=G2.most;dsimp only;omega⟩,(Ent.pk [0,0,0,0,0,0,0,0,0,0] rfl)⟩
theorem sea_edgeP_true (b:Nat):∀ (f:Nat) (k:World) (h0:Hp) (A:SeaA) (S:SeaD) (l id:Nat),SeaK S→Inv S→Lv S id l→l<f→S.nodes.length≤S.most→FT Pg 123 [.pointer (some ⟨b,0,none⟩),encI id,.bool true] k h0 (seaS b A S) (RP 163 (fun v τ=>∃ nv,v=.int .i64 (SeaD.edge f S id true).2∧τ=seaS b {A with nv:=nv} (SeaD.edge f S id true).1∧(SeaD.edge f S id true).1.nodes.length≤S.most) (PS b S (SeaD.edge f S id true).1))
  | 0,_,_,_,_,_,_,_,_,_,h,_=>absurd h (by omega)
  | f+1,_,_,A,S,l,id,h1,h2,h3,h4,h5=>sea_edge1P_true b f (sea_edgeP_true b f) A S l id h1 h2 h3 h4 h5
set_option maxRecDepth 10000 in
set_option maxHeartbeats 2000000 in
theorem sea_edge1P_false (b f:Nat) (ih:∀ (k:World) (h0:Hp) (A:SeaA) (S:SeaD) (l id:Nat),SeaK S→Inv S→Lv S id l→l<f→S.nodes.length≤S.most→FT Pg 123 [.pointer (some ⟨b,0,none⟩),encI id,.bool false] k h0 (seaS b A S) (RP 163 (fun v τ=>∃ nv,v=.int .i64 (SeaD.edge f S id false).2∧τ=seaS b {A with nv:=nv} (SeaD.edge f S id false).1∧(SeaD.edge f S id false).1.nodes.length≤S.most) (PS b S (SeaD.edge f S id false).1))) (A:SeaA) (S:SeaD) (l id:Nat) (K:SeaK S) (hi:Inv S) (hlv:Lv S id l) (hf:l<f+1) (hm:S.nodes.length≤S.most):FT Pg 123 [.pointer (some ⟨b,0,none⟩),encI id,.bool false] k h0 (seaS b A S) (RP 163 (fun v τ=>∃ nv,v=.int .i64 (SeaD.edge (f+1) S id false).2∧τ=seaS b {A with nv:=nv} (SeaD.edge (f+1) S id false).1∧(SeaD.edge (f+1) S id false).1.nodes.length≤S.most) (PS b S (SeaD.edge (f+1) S id false).1)):=by
  have hid:id<S.nodes.length:=hlv.1
  have hlm:(S.nodes.getD id .no).level=l:=hlv.2
  have hnd:(S.nd id).level=l:=hlv.2
  have G0:=Good.refl K hi
  have hl45:=G0.lev hlv
  have hle:=edge_le K hi false (f:=f) hlv hf
  refine FT.tightP<|FT.fact (fun _ _ _ s=>s.vec_shape (E:=111) (sz:=4) 1 rfl) ?_
  rintro ⟨_,na,ncap,hnv,hncap,hna⟩
  obtain⟨c0,hc0⟩:=hna (by omega)
  subst hc0
  obtain⟨tv,tw,nv,bp,br,bl,bn,ov,bm,bk⟩:=A
  dsimp only at hnv
  subst hnv
  unfold encI
  refine FT.of_wp (n:=57) Tryz.func123 rfl rfl rfl<|WP.regs<|L.assign rfl<|WL.nil<|WP.regs<|L.move rfl<|L.nilCheck rfl<|L.fieldAddr (o':=18) T59.f4 rfl rfl<|L.load T51.sc rfl (Rd.own 0 rfl rfl)<|L.move rfl<|L.indexS T51.sl rfl rfl (by omega)<|L.loadN T111.ag rfl rfl (Rds.vec (vs:=nodeC (S.nodes.getD id .no)) 1 rfl (fun j v hj=>nodesC_rd S.nodes id hid j hj))<|L.alloc T111.z fun c7=>L.storeN T111.ag rfl rfl rfl (Wrs.all 0 rfl rfl (by simp[Value.oneCell']))<|WL.nil<|WP.seq<|WP.regs<|L.move rfl<|L.move rfl<|L.fieldAddr (o':=0) T111.f0 rfl rfl ?_;refine L.load T3.sc rfl (Rd.own 0 rfl rfl)<|WL.callS rfl rfl F122.fn rfl (FT.partP (seaS b ⟨tv,tw,.slice (some ⟨c0,0,none⟩) S.nodes.length ncap,bp,br,bl,bn,ov,bm,bk⟩ S) _ ((Ent.pk [1,1,1,1,1,1,1,1,1,1,0] rfl)) fun g gS dj=>sea_zeroP b ⟨tv,tw,.slice (some ⟨c0,0,none⟩) S.nodes.length ncap,bp,br,bl,bn,ov,bm,bk⟩ S K hi (S.nodes.getD id .no).level (by omega) hm) ?_ ?_
  · intro τ9 h9
    obtain⟨_,⟨A9,S9,rfl,hs9,hl9⟩,rfl⟩:=h9
    exact⟨rfl,.inr ⟨rfl,_,⟨A9,S9,rfl,hs9,by rw[hlm] at hl9;have:=hle.1;omega⟩,Ent.right _ _⟩⟩
  rintro _ _ ⟨_,⟨nv1,rfl,rfl,hq1⟩,rfl⟩
  obtain⟨G1,lz,e1⟩:=G0.zero (S.nodes.getD id .no).level (by omega)
  rw[← hlm] at hle
  generalize hz:S.zero (S.nodes.getD id .no).level=z at G1 lz e1 hq1 hle ⊢
  refine L.eql rfl rfl<|WL.nil<|WP.condD rfl (fun h25=>?_) (fun h25=>?_);refine WP.regs<|L.assign rfl<|WL.nil<|WP.ret<|X.thenR<|X.ret rfl (Res.one rfl rfl) ?_
  have hed:SeaD.edge (f+1) S id false=(z.1,-1):=by unfold SeaD.edge;dsimp only;rw[hz,if_pos (by omega)]
  rw[hed]
  exact .inl ⟨_,rfl,_,⟨nv1,rfl,rfl,hq1⟩,(Ent.pk [0,0,0,0,0,0,0,0,0,0] rfl)⟩
  refine WP.skip<|X.thenN<|WP.seq<|WP.regs<|L.fieldAddr (o':=0) T111.f0 rfl rfl<|L.load T3.sc rfl (Rd.own 10 rfl rfl)<|L.eql rfl rfl<|WL.nil<|WP.condD rfl (fun h28=>?_) (fun h28=>?_);refine WP.regs<|L.assign rfl<|WL.nil<|WP.ret<|X.thenR<|X.ret rfl (Res.one rfl rfl) ?_
  have hed:SeaD.edge (f+1) S id false=(z.1,0):=by unfold SeaD.edge;dsimp only;rw[hz,if_neg (by omega),if_pos (by omega)]
  rw[hed]
  exact .inl ⟨_,rfl,_,⟨nv1,rfl,rfl,hq1⟩,(Ent.pk [0,0,0,0,0,0,0,0,0,0] rfl)⟩
  obtain⟨l',rfl⟩:∃ l',l=l'+1:=⟨l-1,by omega⟩
  obtain⟨la,lb⟩:=G0.kids hlv
  have hp1:=pow45 (show l'≤45 by omega)
  refine WP.skip<|X.thenN<|WP.seq<|WP.rege [(0,true),(1,true),(2,true),(3,true),(4,true),(5,true),(6,true),(7,true),(8,true),(9,true),(10,true),(11,true)] 12 rfl (by kernel_rfl) (PInv.then PInv.ret) rfl<|WE.take rfl (V.fieldAddr (o':=1) T111.f1 rfl rfl)<|WE.take rfl (V.load T3.sc rfl (Rd.own 10 rfl rfl))<|WE.take rfl (V.fieldAddr (o':=2) T111.f2 rfl rfl)<|WE.take rfl (V.load T3.sc rfl (Rd.own 10 rfl rfl))<|WE.take rfl (V.fieldAddr (o':=0) T111.f0 rfl rfl)<|WE.take rfl (V.load T3.sc rfl (Rd.own 10 rfl rfl))<|WE.take rfl (V.sub' rfl rfl (by omega)) ?_;refine WE.take rfl (V.shl rfl rfl (by omega))<|WE.take rfl (V.assign rfl)<|WE.take rfl (V.assign rfl)<|WE.take rfl (V.assign rfl)<|WE.take rfl (V.assign rfl)<|WE.nil<|X.thenN<|WP.seq<|WP.regs ?_
  rw[shlI' (l:=l') (x:=((S.nodes.getD id .no).level:Int)-1) (by omega) (by omega)]
  refine L.move rfl<|WL.nil<|WP.condF rfl<|WP.skip<|X.thenN<|WP.seq<|WP.regs<|L.move rfl<|L.move rfl<|L.move rfl<|WL.callS rfl rfl F123.fn rfl (FT.partP (seaS b ⟨tv,tw,nv1,bp,br,bl,bn,ov,bm,bk⟩ z.1) _ ((Ent.refl _)) fun g gS dj=>ih k _ ⟨tv,tw,nv1,bp,br,bl,bn,ov,bm,bk⟩ z.1 l' (S.nodes.getD id .no).a G1.K G1.i (la.up e1) (by omega) (by have:=G1.most;omega)) ?_ ?_
  · intro τ9 h9
    obtain⟨_,⟨A9,S9,rfl,hs9,hl9⟩,rfl⟩:=h9
    exact⟨rfl,.inr ⟨rfl,_,⟨A9,S9,rfl,hs9.of G1,by have h1:=hle.2 l' hlm (by omega);have h2:(if false=true then (S.nd id).b else (S.nd id).a)=(S.nodes.getD id .no).a:=rfl;rw[h2] at h1;have:=G1.most;omega⟩,Ent.right _ _⟩⟩
  rintro _ _ ⟨_,⟨nv2,rfl,rfl,hq2⟩,rfl⟩
  obtain⟨G2,e2,hb1,hb2⟩:=Good.edge false f G1 (la.up e1) (by omega)
  rw[pow_cast] at hb2
  generalize hea:SeaD.edge f z.1 (S.nodes.getD id .no).a false=ea at G2 e2 hb1 hb2 hq2 ⊢
  refine L.assign rfl<|WL.nil<|WP.regs<|L.move rfl<|L.geq rfl rfl<|WL.nil<|WP.condD rfl (fun h47=>?_) (fun h47=>?_);refine WP.regs<|L.move rfl<|L.move rfl<|L.add' rfl rfl (by omega)<|L.assign rfl<|WL.nil<|WP.ret<|X.thenR<|X.ret rfl (Res.one rfl rfl) ?_
  have hed:SeaD.edge (f+1) S id false=(ea.1,0+ea.2):=by unfold SeaD.edge;dsimp only;rw[hz,if_neg (by omega),if_neg (by omega)];simp only[Bool.false_eq_true,if_false,if_true];rw[hea];rw[if_pos (by omega)]
  rw[hed]
  exact .inl ⟨_,rfl,_,⟨nv2,rfl,rfl,by have:=G1.most;dsimp only;omega⟩,(Ent.pk [0,0,0,0,0,0,0,0,0,0] rfl)⟩
  refine WP.skip<|X.thenN<|WP.regs<|L.move rfl<|L.move rfl<|L.move rfl<|L.move rfl ?_
  have hed9:SeaD.edge (f+1) S id false=((SeaD.edge f ea.1 (S.nodes.getD id .no).b false).1,((2^l':Nat):Int)+(SeaD.edge f ea.1 (S.nodes.getD id .no).b false).2):=by
   generalize heb:SeaD.edge f ea.1 (S.nodes.getD id .no).b false=eb
   unfold SeaD.edge;dsimp only;rw[hz,if_neg (by omega),if_neg (by omega)];simp only[Bool.false_eq_true,if_false,if_true];rw[hea];rw[if_neg (by omega),heb,show (S.nd id).level-1=l' by omega]
  refine WL.callS rfl rfl F123.fn rfl (FT.partP (seaS b ⟨tv,tw,nv2,bp,br,bl,bn,ov,bm,bk⟩ ea.1) _ ((Ent.refl _)) fun g gS dj=>ih k _ ⟨tv,tw,nv2,bp,br,bl,bn,ov,bm,bk⟩ ea.1 l' (S.nodes.getD id .no).b G2.K G2.i ((lb.up e1).up e2) (by omega) (by have:=G1.most;have:=G2.most;omega)) ?_ ?_
  · intro τ9 h9
    obtain⟨_,⟨A9,S9,rfl,hs9,hl9⟩,rfl⟩:=h9
    exact⟨rfl,.inr ⟨rfl,_,⟨A9,S9,rfl,hs9.of G2,by rw[hed9];have:=G2.most;dsimp only;omega⟩,Ent.right _ _⟩⟩
  rintro _ _ ⟨_,⟨nv3,rfl,rfl,hq3⟩,rfl⟩
  obtain⟨G3,e3,hb3,hb4⟩:=Good.edge false f G2 ((lb.up e1).up e2) (by omega)
  rw[pow_cast] at hb4
  generalize heb:SeaD.edge f ea.1 (S.nodes.getD id .no).b false=eb at G3 e3 hb3 hb4 hq3 hed9 ⊢
  refine L.add' rfl rfl (by omega)<|L.assign rfl<|WL.nil<|WP.ret<|X.ret rfl (Res.one rfl rfl) ?_
  rw[hed9]
  exact .inl ⟨_,rfl,_,⟨nv3,rfl,rfl,by have:=G2.most;dsimp only;omega⟩,(Ent.pk [0,0,0,0,0,0,0,0,0,0] rfl)⟩
theorem sea_edgeP_false (b:Nat):∀ (f:Nat) (k:World) (h0:Hp) (A:SeaA) (S:SeaD) (l id:Nat),SeaK S→Inv S→Lv S id l→l<f→S.nodes.length≤S.most→FT Pg 123 [.pointer (some ⟨b,0,none⟩),encI id,.bool false] k h0 (seaS b A S) (RP 163 (fun v τ=>∃ nv,v=.int .i64 (SeaD.edge f S id false).2∧τ=seaS b {A with nv:=nv} (SeaD.edge f S id false).1∧(SeaD.edge f S id false).1.nodes.length≤S.most) (PS b S (SeaD.edge f S id false).1))
  | 0,_,_,_,_,_,_,_,_,_,h,_=>absurd h (by omega)
  | f+1,_,_,A,S,l,id,h1,h2,h3,h4,h5=>sea_edge1P_false b f (sea_edgeP_false b f) A S l id h1 h2 h3 h4 h5
end
open Go.RowKit Go.Proofs
def IsLen (x L:Nat):Prop:=x<2^L∧(0<x→2^L≤2*x)
theorem IsLen.up {x k L:Nat} (h:IsLen (x/2^k) L) (hx:2^k≤x):IsLen x (k+L):=by
  have hp:0<2^k:=Nat.two_pow_pos k
  have h0:0<x/2^k:=Nat.div_pos hx hp
  have h1:=h.1
  have h2:=h.2 h0
  have h3:=Nat.div_add_mod x (2^k)
  have h4:=Nat.mod_lt x hp
  refine⟨?_,fun _=>?_⟩
  · rw[Nat.pow_add]
    have h5:2^k*(x/2^k+1)≤2^k*2^L:=Nat.mul_le_mul_left _ h1
    rw[Nat.mul_add,Nat.mul_one] at h5
    omega
  · rw[Nat.pow_add]
    have h5:2^k*2^L≤2^k*(2*(x/2^k)):=Nat.mul_le_mul_left _ h2
    have h6:2^k*(2*(x/2^k))=2*(2^k*(x/2^k)):=by rw[Nat.mul_left_comm]
    omega
def len8 (y:Nat):Nat:=if y=0 then 0 else if y<2 then 1 else if y<4 then 2 else if y<8 then 3 else if y<16 then 4 else if y<32 then 5 else if y<64 then 6 else if y<128 then 7 else 8
theorem len8_is (y:Nat) (h:y<256):IsLen y (len8 y):=by
  unfold IsLen len8
  repeat' split
  all_goals omega
theorem len8_u (y:Nat):IntKind.i64.wrap ((UInt8.ofNat (len8 y)).toNat:Int)=((len8 y:Nat):Int):=by
  have h:len8 y≤8:=by unfold len8;(repeat' split) <;> omega
  rw[UInt8.toNat_ofNat_of_lt' (by have:UInt8.size=256:=rfl;omega),wrap_i64 (by omega)]
theorem len8_le (y:Nat):len8 y≤8:=by unfold len8;(repeat' split) <;> omega
theorem tab8:∀ y,y<256→((ByteArray.mk (List.toArray (List.append (List.append [0,1,2,2,3,3,3,3,4,4,4,4,4,4,4,4,5,5,5,5,5,5,5,5,5,5,5,5,5,5,5,5,6,6,6,6,6,6,6,6,6,6,6,6,6,6,6,6,6,6,6,6,6,6,6,6,6,6,6,6,6,6,6,6] [7,7,7,7,7,7,7,7,7,7,7,7,7,7,7,7,7,7,7,7,7,7,7,7,7,7,7,7,7,7,7,7,7,7,7,7,7,7,7,7,7,7,7,7,7,7,7,7,7,7,7,7,7,7,7,7,7,7,7,7,7,7,7,7]) (List.append [8,8,8,8,8,8,8,8,8,8,8,8,8,8,8,8,8,8,8,8,8,8,8,8,8,8,8,8,8,8,8,8,8,8,8,8,8,8,8,8,8,8,8,8,8,8,8,8,8,8,8,8,8,8,8,8,8,8,8,8,8,8,8,8] [8,8,8,8,8,8,8,8,8,8,8,8,8,8,8,8,8,8,8,8,8,8,8,8,8,8,8,8,8,8,8,8,8,8,8,8,8,8,8,8,8,8,8,8,8,8,8,8,8,8,8,8,8,8,8,8,8,8,8,8,8,8,8,8])))))[y]?=some (UInt8.ofNat (len8 y)):=by decide +kernel
def Sh (x y s:Nat):Prop:=∀ L,IsLen y L→IsLen x (s+L)
theorem Sh.zero (x:Nat):Sh x x 0:=fun L h=>by rw[Nat.zero_add];exact h
theorem Sh.step {x y s k:Nat} (h:Sh x y s) (hy:2^k≤y):Sh x (y/2^k) (s+k):=fun L hl=>by
  rw[Nat.add_assoc];exact h _ (hl.up hy)
theorem and_one_i64 (E:Int) (h0:0≤E) (h1:E≤9223372036854775807):bits BinOp.and IntKind.i64 E 1=E%2:=by
  unfold bits
  simp only
  have e1:(BitVec.ofInt IntKind.i64.bits E &&& BitVec.ofInt IntKind.i64.bits 1).toNat=E.toNat%2:=by
   rw[BitVec.toNat_and]
   have a1:(BitVec.ofInt IntKind.i64.bits 1).toNat=1:=by decide
   have a2:(BitVec.ofInt IntKind.i64.bits E).toNat=E.toNat:=by
    have hb:IntKind.i64.bits=64:=rfl
    rw[BitVec.toNat_ofInt,hb]
    omega
   rw[a1,a2,Nat.and_one_is_mod]
  rw[e1,wrap_i64 (by omega)]
  omega
section
variable {k:World} {h0:Hp}
set_option maxRecDepth 10000 in
set_option maxHeartbeats 1000000 in
theorem bits_Len64G (N:Nat) (hN:N<18446744073709551616):FT Pg 148 [.int .u64 (N:Int)] k h0 [] (RV fun v=>∃ L:Nat,v=.int .i64 (L:Int)∧IsLen N L∧L≤64):=by
  refine FT.of_wp (n:=25) Tryz.func148 rfl rfl rfl<|WP.regs<|L.assign rfl<|WL.nil<|WP.cut (X:=Nat × Nat) (fun x=>⟨25,[],[(0,.int .u64 (x.1:Int)),(2,.int .i64 (x.2:Int))]⟩) (fun x=>[]) (fun x=>Sh N x.1 x.2∧x.1<4294967296∧x.2≤32) ?_ ?_;refine WP.regs<|L.move rfl<|L.geq rfl rfl<|WL.nil<|WP.condD rfl (fun h4=>?_) (fun h4=>?_);refine WP.regs<|L.move rfl ?_
  have hsh:(N:Int)/2^min ((32:Int)).toNat IntKind.u64.bits=((N/2^32:Nat):Int):=rfl
  refine L.shr rfl rfl (by omega)<|L.assign rfl<|WL.nil<|WP.region<|L.assign rfl<|WL.nil<|X.thenN ⟨(N/2^32,0+32),⟨(Sh.zero N).step (by omega),by dsimp only;omega,by dsimp only;omega⟩,(Env.Sub.cons rfl rfl (Env.Sub.cons rfl rfl Env.Sub.nil)),Ent.refl _⟩;refine WP.skip<|X.thenN ⟨(N,0),⟨Sh.zero N,by dsimp only;omega,by dsimp only;omega⟩,(Env.Sub.cons rfl rfl (Env.Sub.cons rfl rfl Env.Sub.nil)),Ent.refl _⟩
  rintro ⟨y,s⟩ ⟨hs,hy,hn⟩
  dsimp only at hs hy hn ⊢
  refine WP.cut (X:=Nat × Nat) (fun x=>⟨25,[],[(0,.int .u64 (x.1:Int)),(2,.int .i64 (x.2:Int))]⟩) (fun x=>[]) (fun x=>Sh N x.1 x.2∧x.1<65536∧x.2≤48) ?_ ?_;refine WP.regs<|L.move rfl<|L.geq rfl rfl<|WL.nil<|WP.condD rfl (fun h8=>?_) (fun h8=>?_);refine WP.regs<|L.move rfl ?_
  have hsh:(y:Int)/2^min ((16:Int)).toNat IntKind.u64.bits=((y/2^16:Nat):Int):=rfl
  refine L.shr rfl rfl (by omega)<|L.assign rfl<|WL.nil<|WP.region<|L.move rfl<|L.add' rfl rfl (by omega)<|L.assign rfl<|WL.nil<|X.thenN ⟨(y/2^16,s+16),⟨hs.step (by omega),by dsimp only;omega,by dsimp only;omega⟩,(Env.Sub.cons rfl rfl (Env.Sub.cons rfl rfl Env.Sub.nil)),Ent.refl _⟩;refine WP.skip<|X.thenN ⟨(y,s),⟨hs,by dsimp only;omega,by dsimp only;omega⟩,(Env.Sub.cons rfl rfl (Env.Sub.cons rfl rfl Env.Sub.nil)),Ent.refl _⟩
  rintro ⟨y,s⟩ ⟨hs,hy,hn⟩
  dsimp only at hs hy hn ⊢
  refine WP.cut (X:=Nat × Nat) (fun x=>⟨25,[],[(0,.int .u64 (x.1:Int)),(2,.int .i64 (x.2:Int))]⟩) (fun x=>[]) (fun x=>Sh N x.1 x.2∧x.1<256∧x.2≤56) ?_ ?_;refine WP.regs<|L.move rfl<|L.geq rfl rfl<|WL.nil<|WP.condD rfl (fun h14=>?_) (fun h14=>?_);refine WP.regs<|L.move rfl ?_
  have hsh:(y:Int)/2^min ((8:Int)).toNat IntKind.u64.bits=((y/2^8:Nat):Int):=rfl
  refine L.shr rfl rfl (by omega)<|L.assign rfl<|WL.nil<|WP.region<|L.move rfl<|L.add' rfl rfl (by omega)<|L.assign rfl<|WL.nil<|X.thenN ⟨(y/2^8,s+8),⟨hs.step (by omega),by dsimp only;omega,by dsimp only;omega⟩,(Env.Sub.cons rfl rfl (Env.Sub.cons rfl rfl Env.Sub.nil)),Ent.refl _⟩;refine WP.skip<|X.thenN ⟨(y,s),⟨hs,by dsimp only;omega,by dsimp only;omega⟩,(Env.Sub.cons rfl rfl (Env.Sub.cons rfl rfl Env.Sub.nil)),Ent.refl _⟩
  rintro ⟨y,s⟩ ⟨hs,hy,hn⟩
  dsimp only at hs hy hn ⊢
  refine WP.regs<|L.move rfl<|L.move rfl<|L.convInt T214.u T5.u rfl ?_
  rw[show IntKind.u8.wrap (y:Int)=(y:Int) from IntWalk.u8_in _ (by omega)]
  refine L.indexStr (b:=UInt8.ofNat (len8 y)) T9.u rfl rfl (by omega) (tab8 y (by omega))<|L.convInt T5.u T3.u rfl ?_
  rw[len8_u]
  refine L.add' rfl rfl (by have:=len8_le y;omega) ?_;refine L.assign rfl<|WL.nil<|WP.ret<|X.ret rfl (Res.one rfl rfl) ?_;exact⟨_,rfl,s+len8 y,by rw[Int.natCast_add],hs _ (len8_is y hy),by have:=len8_le y;omega⟩
end
open Go.RowKit Go.Proofs
def SeaD.hop (f lv:Nat) (S:SeaD) (id j:Nat):SeaD × Nat:=
  let m:=SeaD.mid f S id j
  let z:=m.1.zero (lv-2)
  let p:=z.1.pair z.2 (m.1.nd m.2).a
  let q:=p.1.pair (m.1.nd m.2).b z.2
  q.1.pair p.2 q.2
def SeaD.hops (f lv n:Nat):Nat→SeaD × Nat→SeaD × Nat
  | 0,x=>x
  | J+1,x=>if n/2^J%2=1 then SeaD.hop f lv (SeaD.hops f lv n J x).1 (SeaD.hops f lv n J x).2 J else SeaD.hops f lv n J x
structure Hop (f lv:Nat) (S T:SeaD) (id j:Nat) (m z p q w:SeaD × Nat):Prop where
  hm:SeaD.mid f T id j=m
  hz:m.1.zero (lv-2)=z
  hp:z.1.pair z.2 (m.1.nd m.2).a=p
  hq:p.1.pair (m.1.nd m.2).b z.2=q
  hw:q.1.pair p.2 q.2=w
  Gm:∃ n,Good S m.1 n
  Gz:∃ n,Good S z.1 n
  Gp:∃ n,Good S p.1 n
  Gq:∃ n,Good S q.1 n
  Gw:∃ n,Good S w.1 n
  lm:Lv m.1 m.2 (lv-1)
  lma:Lv m.1 (m.1.nd m.2).a (lv-2)
  lmb:Lv m.1 (m.1.nd m.2).b (lv-2)
  lz:Lv z.1 z.2 (lv-2)
  lza:Lv z.1 (m.1.nd m.2).a (lv-2)
  lpb:Lv p.1 (m.1.nd m.2).b (lv-2)
  lpz:Lv p.1 z.2 (lv-2)
  lqp:Lv q.1 p.2 (lv-1)
  lq:Lv q.1 q.2 (lv-1)
  lw:Lv w.1 w.2 lv
  em:Ext T m.1
  ez:Ext m.1 z.1
  ep:Ext z.1 p.1
  eq:Ext p.1 q.1
  ew:Ext q.1 w.1
  is:SeaD.hop f lv T id j=w
theorem Good.hop {S T:SeaD} {n id lv f j:Nat} (G:Good S T n) (hl:Lv T id lv) (h2:2≤lv) (hf:lv≤f+1) (hj:j+2≤lv):∃ m z p q w,Hop f lv S T id j m z p q w:=by
  have hl45:=G.lev hl
  obtain⟨l,rfl⟩:∃ l,lv=l+2:=⟨lv-2,by omega⟩
  obtain⟨Gm,lm,em⟩:=Gmid G hl hf (show j≤l by omega)
  obtain⟨lma,lmb⟩:=Gm.kids lm
  obtain⟨Gz,lz,ez⟩:=Gm.zero l (by omega)
  obtain⟨Gp,lp,ep⟩:=Gz.pair lz (lma.up ez) (by omega)
  obtain⟨Gq,lq,eq⟩:=Gp.pair ((lmb.up ez).up ep) (lz.up ep) (by omega)
  obtain⟨Gw,lw,ew⟩:=Gq.pair (lp.up eq) lq (by omega)
  exact⟨_,_,_,_,_,⟨rfl,rfl,rfl,rfl,rfl,⟨_,Gm⟩,⟨_,Gz⟩,⟨_,Gp⟩,⟨_,Gq⟩,⟨_,Gw⟩,lm,lma,lmb,lz,lma.up ez,(lmb.up ez).up ep,lz.up ep,lp.up eq,lq,lw,em,ez,ep,eq,ew,rfl⟩⟩
where
  Gmid {S T:SeaD} {n x l f j:Nat} (G:Good S T n) (hx:Lv T x (l+2)) (hf:l+2≤f+1) (hj:j≤l):Good S (SeaD.mid f T x j).1 (n+costM l)∧Lv (SeaD.mid f T x j).1 (SeaD.mid f T x j).2 (l+1)∧Ext T (SeaD.mid f T x j).1:=Good.mid G hx hf hj
theorem Good.hops {S:SeaD} {lv f n:Nat} {x:SeaD × Nat} (h2:2≤lv) (hf:lv≤f+1):∀ (J:Nat) {m:Nat},Good S x.1 m→Lv x.1 x.2 lv→J+1≤lv→(∃ m',Good S (SeaD.hops f lv n J x).1 m')∧Lv (SeaD.hops f lv n J x).1 (SeaD.hops f lv n J x).2 lv∧Ext x.1 (SeaD.hops f lv n J x).1
  | 0,m,G,hl,_=>⟨⟨m,G⟩,hl,Ext.refl _⟩
  | J+1,m,G,hl,hJ=>by
    obtain⟨⟨m',G'⟩,l',e'⟩:=Good.hops (n:=n) h2 hf J G hl (by omega)
    unfold SeaD.hops
    split
    · obtain⟨a,b,c,d,w,H⟩:=G'.hop l' h2 hf (show J+2≤lv by omega)
      rw[H.is]
      exact⟨H.Gw,H.lw,e'.trans (((H.em.trans H.ez).trans H.ep).trans (H.eq.trans H.ew))⟩
    · exact⟨⟨m',G'⟩,l',e'⟩
theorem hops_le {S:SeaD} {lv f n:Nat} {x:SeaD × Nat} (h2:2≤lv) (hf:lv≤f+1) {m:Nat} (G:Good S x.1 m) (hl:Lv x.1 x.2 lv) (I:Nat):∀ J,I≤J→J+1≤lv→(SeaD.hops f lv n I x).1.nodes.length≤(SeaD.hops f lv n J x).1.nodes.length
  | 0,h,_=>by obtain rfl:I=0:=(by omega);exact Nat.le_refl _
  | J+1,h,hJ=>by
    rcases Nat.lt_or_ge I (J+1) with h1 | h1
    · refine Nat.le_trans (hops_le h2 hf G hl I J (by omega) (by omega)) ?_
      obtain⟨⟨m',G'⟩,l',e'⟩:=Good.hops (n:=n) h2 hf J G hl (by omega)
      show _≤(if n/2^J%2=1 then SeaD.hop f lv (SeaD.hops f lv n J x).1 (SeaD.hops f lv n J x).2 J else SeaD.hops f lv n J x).1.nodes.length
      split
      · obtain⟨a,b,c,d,w,H⟩:=G'.hop l' h2 hf (show J+2≤lv by omega)
        rw[H.is]
        exact Nat.le_trans H.em.len (Nat.le_trans H.ez.len (Nat.le_trans H.ep.len (Nat.le_trans H.eq.len H.ew.len)))
      · exact Nat.le_refl _
    · obtain rfl:I=J+1:=by omega
      exact Nat.le_refl _
open Go.RowKit Go.Proofs
structure LeapF (S:SeaD) (rows:List ByteArray) (n L J:Nat) (left:Int) (B H:SeaD × Nat) (E G:SeaD × Int):Prop where
  hL:IsLen (4*(rows.length+2*n+4)-1) L
  hJ:n<2^J∧2^J≤2*n
  hl:left=((2^(L-1):Nat):Int)-(rows.length:Int)/2
  hB:SeaD.build L S left rows=B
  hH:SeaD.hops L L n J B=H
  hE:SeaD.edge (L+1) H.1 H.2 false=E
  hG:SeaD.edge (L+1) E.1 H.2 true=G
def LeapT (E G:SeaD × Int):SeaD:=if E.2<0 then E.1 else G.1
theorem exists_bits (n:Nat) (h:1≤n):∃ J,n<2^J∧2^J≤2*n:=by
  refine⟨Nat.log2 n+1,Nat.lt_log2_self,?_⟩
  have:=Nat.log2_self_le (n:=n) (by omega)
  rw[Nat.pow_succ];omega
theorem pow_le_of {a c:Nat} (h:2^a≤2^c):a≤c:=(Nat.pow_le_pow_iff_right (by omega)).1 h
theorem leap_bits {h n L J:Nat} (hh:h≤1048576) (hn:1≤n∧n≤68719476736) (hL:IsLen (4*(h+2*n+4)-1) L) (hJ:n<2^J∧2^J≤2*n):5≤L∧L≤40∧J+1≤L∧4*(h+2*n+4)≤2^L:=by
  have h1:=hL.1
  have h2:=hL.2 (by omega)
  refine⟨?_,?_,?_,by omega⟩
  · have:2^4<2^L:=by omega
    have:=(Nat.pow_lt_pow_iff_right (a:=2) (by omega)).1 this
    omega
  · have:2^L<2^41:=by
     have:(2:Nat)^41=2199023255552:=by decide
     omega
    have:=(Nat.pow_lt_pow_iff_right (a:=2) (by omega)).1 this
    omega
  · refine pow_le_of ?_
    rw[Nat.pow_succ];omega
end Go.Eng
namespace Go.Eng
theorem LeapT_le {E G:SeaD × Int} (e:Ext E.1 G.1):E.1.nodes.length≤(LeapT E G).nodes.length:=by
  unfold LeapT
  split
  · exact Nat.le_refl _
  · exact e.len
end Go.Eng
