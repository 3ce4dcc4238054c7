/- Walks of the functions of the seat over those rules, and plain laws of what they compute. No conditions beyond those in each theorem. -/
import Derived.Test.YtclhjichmdjlaaaGreatSY
import Derived.Test.YtclhjichmdjlaaaGreatSW
import Derived.Test.YtclhjichmdjlaaaGreatSP
set_option linter.unusedSimpArgs false
set_option linter.unusedVariables false
namespace Go.Eng
open Go.RowKit Go.Proofs
section
variable {k:World} {h0:Hp}
set_option maxRecDepth 10000 in
theorem strip_NewE (r:RuleD) (hw:r.Wd) (v w:Value) (hta:TabAt h0 r.table v w) (t:TopoD) (hwt:t.Wd) (hwo:WOk r t) (m:Int) (hm:m<1∨1048576<m):FT Pg 10 [.agg (ruleC r v w).toArray,.agg (topoC t).toArray,.int .i64 m] k h0 [] (Is (.tuple #[.pointer none,.int .i64 2])):=by
  refine FT.of_wp (n:=42) Tryz.func10 rfl rfl rfl<|WP.regs<|L.box rfl rfl fun b1=>L.box rfl rfl fun b2=>L.assign rfl<|L.assign rfl<|WL.nil<|WP.seq<|WP.regs<|L.loadN T32.ag rfl rfl (Rds.all 1 rfl)<|L.loadN T34.ag rfl rfl (Rds.all 0 rfl)<|WL.call rfl rfl F15.fn rfl (FT.pureR fun g gS dj=>window_Check r hw v w (hta.mono (Hp.le_un_left _ _)) t hwt) ?_;rintro _ _ ⟨⟨e,rfl,he⟩,rfl⟩
  obtain rfl:=he.2 hwo
  refine L.assign rfl<|WL.nil<|WP.regs<|L.move rfl<|L.neq rfl rfl<|WL.nil<|WP.condD rfl (fun hT=>absurd hT (by omega)) (fun h16=>?_);refine WP.skip<|X.thenN<|WP.seq<|WP.regs<|L.move rfl<|L.lssD rfl rfl (fun h19=>?_) (fun h19=>?_);refine L.move rfl<|L.skip<|L.skip<|L.pickT rfl rfl<|WL.nil<|WP.condT rfl<|WP.regs<|L.assign rfl<|L.assign rfl<|WL.nil<|WP.ret<|X.thenR<|X.ret rfl (Res.two rfl rfl rfl) ?_;exact rfl;refine L.move rfl<|L.move rfl<|L.gtr rfl rfl<|L.pickF rfl rfl<|WL.nil<|WP.condD rfl (fun h23=>?_) (fun hF=>absurd hF (by omega));refine WP.regs<|L.assign rfl<|L.assign rfl<|WL.nil<|WP.ret<|X.thenR<|X.ret rfl (Res.two rfl rfl rfl) ?_;exact rfl
theorem sea_RunA (b:Nat) (A:SeaA) (S:SeaD) (K:SeaK S) (hi:Inv S) (htold:S.told=[]) (hm0:S.nodes.length≤S.most) (hmp:0<S.most) (W at0:Int) (rv:Value) (ls:List ByteArray) (hbt:BtsAt h0 rv ls) (hln:ls.length≤1048576) (hsz:∀ i,i<ls.length→(ls.getD i ByteArray.empty).size≤4611686018427387904) (n:Nat) (hn:n≤68719476736) (hcheap:S.t.w*(ls.length:Int)≤1048576):FT Pg 23 [.pointer (some ⟨b,0,none⟩),.agg #[.int .i64 W,.int .i64 at0,rv],.int .i64 (n:Int)] k h0 (seaS b A S) (Ret fun u τ=>∃ (v:Value) (A':SeaA) (S':SeaD) (o:Int × Int × List ByteArray × Int),SeaR S W at0 ls n S' o∧u=.tuple #[.agg #[.int .i64 o.1,.int .i64 o.2.1,v],.int .i64 o.2.2.2]∧τ=rowsP v o.2.2.1::seaS b A' S'):=by
  by_cases hm:mayE S.r S.t W at0 ls=0
  · exact sea_RunG b A S K hi htold hm0 hmp W at0 rv ls hbt hln hsz n hn hm hcheap
  · refine (sea_RunE b A S K hi htold hm0 hmp W at0 rv ls hbt hln hsz n hn hm).mono fun u τ h=>?_
    obtain⟨x,rfl,v,A',rfl,rfl⟩:=h
    exact⟨_,rfl,v,A',S,(0,0,[],mayE S.r S.t W at0 ls),.inl ⟨hm,rfl,rfl⟩,rfl,rfl⟩
set_option maxRecDepth 10000 in
set_option maxHeartbeats 16000000 in
theorem law_StripWindow (r:RuleD) (hw:r.Wd) (v w:Value) (hta:TabAt h0 r.table v w) (t:TopoD) (hwt:t.Wd) (W at0:Int) (rv:Value) (ls:List ByteArray) (hbt:BtsAt h0 rv ls) (hln:ls.length≤4611686018427387904) (hsz:∀ i,i<ls.length→(ls.getD i ByteArray.empty).size≤4611686018427387904) (n m:Int) (hnI:I64 n) (hmI:I64 m):FT Pg 5 [.agg (ruleC r v w).toArray,.agg (topoC t).toArray,.agg #[.int .i64 W,.int .i64 at0,rv],.int .i64 n,.int .i64 m] k h0 [] (Is (.bool true)):=by
  unfold I64 at hnI hmI
  obtain⟨ra,rcap,rfl⟩:=hbt.shape
  refine FT.of_wp (n:=150) Tryz.func5 rfl rfl rfl<|WP.regs<|L.box rfl rfl fun b5=>L.box rfl rfl fun b6=>L.box rfl rfl fun b7=>L.assign rfl<|WL.nil<|WP.regs<|WL.callV rfl rfl F8.fn rfl (fun g gS dj=>law_awake)<|L.assign rfl<|WL.nil<|WP.seq<|WP.regs<|L.loadN T32.ag rfl rfl (Rds.all 2 rfl)<|L.loadN T34.ag rfl rfl (Rds.all 1 rfl)<|WL.call rfl rfl F15.fn rfl (FT.pureR fun g gS dj=>window_Check r hw v w (hta.mono (Hp.le_un_left _ _)) t hwt) ?_;rintro _ _ ⟨⟨e,rfl,he⟩,rfl⟩;refine L.neqD rfl rfl (fun h25=>?_) (fun h25=>?_)
  ·
   refine L.move rfl<|L.skip<|L.skip<|L.pickT rfl rfl<|L.move rfl<|L.skip<|L.skip<|L.pickT rfl rfl<|L.move rfl<|L.skip<|L.skip<|L.skip<|L.pickT rfl rfl<|L.move rfl<|L.skip<|L.skip<|L.skip<|L.skip<|L.pickT rfl rfl<|L.move rfl ?_
   iterate 10 refine L.skip ?_
   refine L.pickT rfl rfl<|WL.nil<|WP.condT rfl<|WP.regs<|L.move rfl<|L.assign rfl<|WL.nil<|WP.ret<|X.thenR<|X.ret rfl (Res.one rfl rfl) ?_;exact rfl
  ·
   refine L.move rfl<|L.move rfl<|L.lssD rfl rfl (fun h28=>?_) (fun h28=>?_)
   ·
    refine L.pickF rfl rfl<|L.move rfl<|L.skip<|L.skip<|L.pickT rfl rfl<|L.move rfl<|L.skip<|L.skip<|L.skip<|L.pickT rfl rfl<|L.move rfl<|L.skip<|L.skip<|L.skip<|L.skip<|L.pickT rfl rfl<|L.move rfl ?_
    iterate 10 refine L.skip ?_
    refine L.pickT rfl rfl<|WL.nil<|WP.condT rfl<|WP.regs<|L.move rfl<|L.assign rfl<|WL.nil<|WP.ret<|X.thenR<|X.ret rfl (Res.one rfl rfl) ?_;exact rfl
   ·
    refine L.pickF rfl rfl<|L.move rfl<|L.move rfl<|L.gtrD rfl rfl (fun h32=>?_) (fun h32=>?_)
    ·
     refine L.pickF rfl rfl<|L.move rfl<|L.skip<|L.skip<|L.skip<|L.pickT rfl rfl<|L.move rfl<|L.skip<|L.skip<|L.skip<|L.skip<|L.pickT rfl rfl<|L.move rfl ?_
     iterate 10 refine L.skip ?_
     refine L.pickT rfl rfl<|WL.nil<|WP.condT rfl<|WP.regs<|L.move rfl<|L.assign rfl<|WL.nil<|WP.ret<|X.thenR<|X.ret rfl (Res.one rfl rfl) ?_;exact rfl
    ·
     refine L.pickF rfl rfl<|L.move rfl ?_
     have hwo:WOk r t:=he.1 (by omega)
     have hto:=hwo.2.1
     unfold TopoD.Ok at hto
     obtain⟨n,rfl⟩:∃ q:Nat,n=(q:Int):=⟨n.toNat,by omega⟩
     refine L.fieldAddr (o':=1) T34.f1 rfl rfl<|L.load T3.sc rfl (Rd.own 1 rfl rfl)<|L.gtrD rfl rfl (fun h37=>?_) (fun h37=>?_)
     ·
      refine L.pickF rfl rfl<|L.move rfl<|L.skip<|L.skip<|L.skip<|L.skip<|L.pickT rfl rfl<|L.move rfl ?_
      iterate 10 refine L.skip ?_
      refine L.pickT rfl rfl<|WL.nil<|WP.condT rfl<|WP.regs<|L.move rfl<|L.assign rfl<|WL.nil<|WP.ret<|X.thenR<|X.ret rfl (Res.one rfl rfl) ?_;exact rfl
     ·
      refine L.pickF rfl rfl<|L.move rfl<|L.fieldAddr (o':=2) T63.f2 rfl rfl<|L.load T61.sc rfl (Rd.own 0 rfl rfl)<|L.lenS T61.sl rfl rfl<|L.gtrD rfl rfl (fun h43=>?_) (fun h43=>?_)
      ·
       refine L.pickF rfl rfl<|L.move rfl ?_
       iterate 10 refine L.skip ?_
       refine L.pickT rfl rfl<|WL.nil<|WP.condT rfl<|WP.regs<|L.move rfl<|L.assign rfl<|WL.nil<|WP.ret<|X.thenR<|X.ret rfl (Res.one rfl rfl) ?_;exact rfl
      ·
       refine L.pickF rfl rfl<|L.move rfl<|L.fieldAddr (o':=1) T34.f1 rfl rfl<|L.load T3.sc rfl (Rd.own 1 rfl rfl)<|L.fieldAddr (o':=2) T63.f2 rfl rfl<|L.load T61.sc rfl (Rd.own 0 rfl rfl)<|L.lenS T61.sl rfl rfl<|L.move rfl<|L.mul' rfl rfl (by omega)<|L.add' rfl rfl (by omega) ?_
       have hml:t.w*((ls.length:Int)+2*(n:Int))≤60*400:=Int.mul_le_mul (by omega) (by omega) (by omega) (by omega)
       have hm0:0≤t.w*((ls.length:Int)+2*(n:Int)):=Int.mul_nonneg (by omega) (by omega)
       refine L.mul' rfl rfl (by omega)<|L.gtr rfl rfl<|L.pickF rfl rfl<|WL.nil<|WP.condD rfl (fun h56=>?_) (fun h56=>?_)
       ·
        refine WP.regs<|L.move rfl<|L.assign rfl<|WL.nil<|WP.ret<|X.thenR<|X.ret rfl (Res.one rfl rfl) ?_;exact rfl
       ·
        have hch1:((t.w.toNat*(ls.length+2*n):Nat):Int)=t.w*((ls.length:Int)+2*(n:Int)):=by rw[Int.natCast_mul,Int.toNat_of_nonneg (by omega)];rfl
        have hch:t.w.toNat*(ls.length+2*n)≤1048576∧t.w.toNat*(ls.length+2*n)*n≤67108864:=⟨by omega,Nat.le_trans (Nat.mul_le_mul (show _≤12000 by omega) (show n≤100 by omega)) (by omega)⟩
        have hch0:t.w*(ls.length:Int)≤1048576:=Int.le_trans (Int.mul_le_mul_of_nonneg_left (show (ls.length:Int)≤(ls.length:Int)+2*(n:Int) by omega) (by omega)) (by omega)
        refine WP.skip<|X.thenN<|WP.regs<|L.loadN T32.ag rfl rfl (Rds.all 2 rfl)<|L.loadN T34.ag rfl rfl (Rds.all 1 rfl)<|L.move rfl ?_
        rcases Decidable.em (m<1∨1048576<m) with hmm | hmm
        refine WL.callV rfl rfl F10.fn rfl (fun g gS dj=>strip_NewE r hw v w (hta.mono (Hp.le_un_left _ _)) t hwt hwo m hmm) ?_;rotate_left
        obtain⟨mm,rfl⟩:∃ q:Nat,m=(q:Int):=⟨m.toNat,by omega⟩
        refine WL.call rfl rfl F10.fn rfl (FT.make fun g gS dj=>strip_New r hw v w (hta.mono (Hp.le_un_left _ _)) t hwt hwo mm ⟨by omega,by omega⟩) ?_;rintro _ _ ⟨_,⟨b,A0,rfl,rfl⟩,rfl⟩;rotate_left
        ·
         refine L.move rfl<|L.extract rfl rfl<|L.extract rfl rfl<|L.assign rfl<|L.assign rfl<|WL.nil<|WP.seq<|WP.regs<|L.move rfl<|L.neq rfl rfl<|WL.nil<|WP.condT rfl<|WP.regs<|L.move rfl<|L.move rfl<|L.move rfl<|L.eqlPtrNil T38.u rfl<|L.pickT rfl rfl<|L.move rfl<|L.move rfl<|L.eql rfl rfl<|L.pickT rfl rfl<|L.assign rfl<|WL.nil<|WP.ret<|X.thenR<|X.ret rfl (Res.one rfl rfl) ?_;exact rfl
        ·
         refine L.move rfl<|L.extract rfl rfl<|L.extract rfl rfl<|L.assign rfl<|L.assign rfl<|WL.nil<|WP.seq<|WP.regs<|L.move rfl<|L.neq rfl rfl<|WL.nil<|WP.condF rfl<|WP.skip<|X.thenN<|WP.regs<|L.loadN T32.ag rfl rfl (Rds.all 12 rfl)<|L.loadN T34.ag rfl rfl (Rds.all 11 rfl)<|L.loadN T63.ag rfl rfl (Rds.all 10 rfl)<|L.move rfl<|WL.call rfl rfl F22.fn rfl (FT.make fun g gS dj=>window_RunG r hw v w (hta.mono (Hp.le_un_left _ _)) t hwt hwo W _ ls (hbt.mono (Hp.le_un_left _ _)) (by omega) hsz at0 n (by omega) hch) ?_;rintro _ _ ⟨_,⟨wv,rfl,rfl,hwn⟩,rfl⟩
         have ho4:=winR_ne4 r t W at0 ls n
         have hop:=winR_pos hw hwo W at0 ls n
         have hol:=winR_len hw hwo W at0 ls n
         have hlaw:=seaR_win (r:=r) (t:=t) (most:=mm) (W:=W) (at0:=at0) (ls:=ls) (n:=n) (by omega) (by omega) (by omega)
         generalize winR r t W at0 ls n=o at *
         refine WL.fact (fun _ _ _ s=>St.rowsP_shape 0 rfl s) ?_;rintro ⟨ca,cc,rfl⟩
         refine L.move rfl<|L.extract rfl rfl<|L.extract rfl rfl<|L.alloc T63.z fun b14=>L.storeN T63.ag rfl rfl rfl (Wrs.all 0 rfl rfl (by simp[Value.oneCell']))<|L.assign rfl<|WL.nil<|WP.seq<|WP.regs<|L.assign rfl<|WL.nil<|WP.block<|WP.loop (X:=SeaA × SeaD × Nat) (fun x=>⟨150,[],[(3,.int .i64 (n:Int)),(4,.int .i64 (mm:Int)),(5,.pointer (some ⟨b5,0,none⟩)),(6,.pointer (some ⟨b6,0,none⟩)),(7,.pointer (some ⟨b7,0,none⟩)),(11,.bool true),(12,.pointer (some ⟨b,0,none⟩)),(13,.int .i64 o.2.2.2),(14,.pointer (some ⟨b14,0,none⟩)),(15,.int .i64 (x.2.2:Int))]⟩) (fun x=>seaS b x.1 x.2.1++[rowsP (.slice ca o.2.2.1.length cc) o.2.2.1,cl b14 [.int .i64 o.1,.int .i64 o.2.1,(.slice ca o.2.2.1.length cc)] 63,cl b7 [.int .i64 W,.int .i64 at0,(.slice ra ls.length rcap)] 63,cl b6 (topoC t) 34,cl b5 (ruleC r v w) 32]) (fun x=>SeaQ r t mm x.2.1∧x.2.2≤2) (fun x=>2-x.2.2) (A0,SeaD.new r t mm,0) (⟨SeaQ.new hw hwt hwo (by omega),Nat.zero_le _⟩) (Env.Sub.cons rfl rfl (Env.Sub.cons rfl rfl (Env.Sub.cons rfl rfl (Env.Sub.cons rfl rfl (Env.Sub.cons rfl rfl (Env.Sub.cons rfl rfl (Env.Sub.cons rfl rfl (Env.Sub.cons rfl rfl (Env.Sub.cons rfl rfl (Env.Sub.cons rfl rfl Env.Sub.nil)))))))))) ((Ent.pk [2,2,2,2,2,2,2,2,2,2,1,0,0,0,0] rfl)) ?_
         rintro ⟨A1,S1,i⟩ ⟨hQ,hi⟩
         dsimp only at hQ hi ⊢
         refine WP.seq<|WP.regs<|L.move rfl<|L.lss rfl rfl<|WL.nil<|WP.condD rfl (fun h85=>?_) (fun h85=>?_)
         ·
          refine WP.skip<|X.thenN<|WP.seq<|WP.block<|WP.regs<|L.move rfl<|L.loadN T63.ag rfl rfl (Rds.all 12 rfl)<|L.move rfl<|WL.call rfl rfl F23.fn rfl (FT.part (seaS b _ S1) _ ((Ent.refl _)) fun g gS dj=>sea_RunA b A1 S1 hQ.K hQ.i hQ.told hQ.len (by rw[hQ.hm];omega) W at0 _ ls (hbt.mono (Hp.le_un_left _ _)) (by omega) hsz n (by omega) (by rw[hQ.ht];exact hch0)) ?_;rintro _ _ ⟨_,⟨gv,A2,S2,g,hR,rfl,rfl⟩,rfl⟩;refine WL.fact (fun _ _ _ s=>St.rowsP_shape 0 rfl s) ?_;rintro ⟨ga,gc,rfl⟩
          obtain⟨hQ2,hor⟩:=hlaw _ _ _ hQ hR
          refine L.move rfl<|L.extract rfl rfl<|L.extract rfl rfl<|L.alloc T63.z fun b16=>L.storeN T63.ag rfl rfl rfl (Wrs.all 0 rfl rfl (by simp[Value.oneCell']))<|L.assign rfl<|WL.nil<|WP.seq<|WP.regs<|L.move rfl<|L.eqlD rfl rfl (fun h96=>?_) (fun h96=>?_)
          ·
           refine L.move rfl<|L.move rfl<|L.eql rfl rfl<|L.pickT rfl rfl<|WL.nil<|WP.condD rfl (fun h100=>?_) (fun hF=>absurd hF (fun h=>h (hor.resolve_left fun e=>ho4 (by rw[e];exact h96)).2.2.1));refine WP.regs<|L.loadN T32.ag rfl rfl (Rds.all 16 rfl)<|L.loadN T34.ag rfl rfl (Rds.all 15 rfl)<|L.loadN T63.ag rfl rfl (Rds.all 14 rfl) ?_
           obtain⟨_,hm0,ho0,Lk,hL,hmo⟩:=(hor.resolve_left fun e=>ho4 (by rw[e];exact h96))
           have hxl:=trimB_len at0 ls
           have hL12:Lk≤12:=(Nat.pow_le_pow_iff_right (a:=2) (by omega)).1 (by have:=hL.2 (by omega);show 2^Lk≤4096;omega)
           refine WL.call rfl rfl F24.fn rfl (FT.make fun g gS dj=>by have c:=window_TrimG (k:=k) (h0:=h0.un g) r hw v w (hta.mono (Hp.le_un_left _ _)) t hwt hwo W _ ls (hbt.mono (Hp.le_un_left _ _)) (by omega) hsz at0;rw[trimR_0 hm0] at c;dsimp only at c;exact c) ?_;rintro _ _ ⟨_,⟨cv,rfl,rfl,hcn⟩,rfl⟩;refine WL.fact (fun _ _ _ s=>St.rowsP_shape 0 rfl s) ?_;rintro ⟨ca2,cc2,rfl⟩
           refine L.move rfl<|L.extract rfl rfl<|L.extract rfl rfl<|L.alloc T63.z fun b18=>L.storeN T63.ag rfl rfl rfl (Wrs.all 0 rfl rfl (by simp[Value.oneCell']))<|L.assign rfl<|WL.nil<|WP.regs<|L.assign rfl<|WL.nil<|WP.seq<|WP.block<|WP.loop (X:=Nat) (fun kk=>⟨150,[],[(3,.int .i64 (n:Int)),(4,.int .i64 (mm:Int)),(5,.pointer (some ⟨b5,0,none⟩)),(6,.pointer (some ⟨b6,0,none⟩)),(7,.pointer (some ⟨b7,0,none⟩)),(11,.bool true),(12,.pointer (some ⟨b,0,none⟩)),(13,.int .i64 o.2.2.2),(14,.pointer (some ⟨b14,0,none⟩)),(15,.int .i64 (i:Int)),(16,.pointer (some ⟨b16,0,none⟩)),(17,.int .i64 g.2.2.2),(18,.pointer (some ⟨b18,0,none⟩)),(19,.int .i64 0),(20,.int .i64 (kk:Int))]⟩) (fun kk=>[cl b18 [.int .i64 t.w,.int .i64 (trimB at0 ls).1,(.slice ca2 (trimB at0 ls).2.length cc2)] 63,cl b16 [.int .i64 g.1,.int .i64 g.2.1,(.slice ga g.2.2.1.length gc)] 63]++seaS b A2 S2++[rowsP (.slice ca o.2.2.1.length cc) o.2.2.1,cl b14 [.int .i64 o.1,.int .i64 o.2.1,(.slice ca o.2.2.1.length cc)] 63,cl b7 [.int .i64 W,.int .i64 at0,(.slice ra ls.length rcap)] 63,cl b6 (topoC t) 34,cl b5 (ruleC r v w) 32]) (fun kk=>kk≤Lk) (fun kk=>Lk-kk) 0 (Nat.zero_le _) (Env.Sub.cons rfl rfl (Env.Sub.cons rfl rfl (Env.Sub.cons rfl rfl (Env.Sub.cons rfl rfl (Env.Sub.cons rfl rfl (Env.Sub.cons rfl rfl (Env.Sub.cons rfl rfl (Env.Sub.cons rfl rfl (Env.Sub.cons rfl rfl (Env.Sub.cons rfl rfl (Env.Sub.cons rfl rfl (Env.Sub.cons rfl rfl (Env.Sub.cons rfl rfl (Env.Sub.cons rfl rfl (Env.Sub.cons rfl rfl Env.Sub.nil))))))))))))))) ((Ent.pk [0,1,2,2,2,2,2,2,2,2,2,2,2,2,2,2,2] rfl)) ?_
           intro kk hkk
           have hll:=loop_len hL (by omega) hkk
           refine WP.seq<|WP.seq<|WP.rege [(0,true),(1,true),(2,true),(3,true),(4,true),(5,true),(6,true),(7,true),(8,true),(9,true),(10,true)] 11 rfl (by kernel_rfl) (PInv.then (PInv.then (PInv.then (PInv.block (PInv.then (PInv.then (PInv.block (PInv.then (PInv.then (PInv.block (PInv.then PInv.ret))))))))))) rfl<|WE.take rfl (V.move rfl)<|WE.take rfl (V.shl rfl rfl (by omega)) ?_
           rw[shlI (l:=kk) (by omega)]
           refine WE.take rfl (V.fieldAddr (o':=2) T63.f2 rfl rfl)<|WE.take rfl (V.load T61.sc rfl (Rd.own 0 rfl rfl))<|WE.take rfl (V.lenS T61.sl rfl rfl)<|WE.take rfl (V.move rfl)<|WE.take rfl (V.mul' rfl rfl (by omega))<|WE.take rfl (V.add' rfl rfl (by omega))<|WE.take rfl (V.add' rfl rfl (by omega))<|WE.take rfl (V.mul' rfl rfl (by omega))<|WE.take rfl (V.lss rfl rfl)<|WE.nil<|X.thenN<|WP.condD rfl (fun h118=>?_) (fun h118=>?_)
           ·
            refine WP.skip<|X.thenN<|WP.block<|WP.region<|L.move rfl<|L.add' rfl rfl (by omega)<|L.assign rfl<|WL.nil<|X.blockN<|X.thenN ⟨kk+1,hll.1 (by omega),by have:=hll.1 (by omega);omega,(Env.Sub.cons rfl rfl (Env.Sub.cons rfl rfl (Env.Sub.cons rfl rfl (Env.Sub.cons rfl rfl (Env.Sub.cons rfl rfl (Env.Sub.cons rfl rfl (Env.Sub.cons rfl rfl (Env.Sub.cons rfl rfl (Env.Sub.cons rfl rfl (Env.Sub.cons rfl rfl (Env.Sub.cons rfl rfl (Env.Sub.cons rfl rfl (Env.Sub.cons rfl rfl (Env.Sub.cons rfl rfl (Env.Sub.cons rfl rfl Env.Sub.nil))))))))))))))),(Ent.refl _)⟩
           ·
            obtain rfl:=hll.2 (by omega)
            obtain⟨hq1,hq2,hq3,hq4⟩:=law_mul (L:=kk) (n:=n) hL12 (by omega)
            refine WP.exit<|X.thenE (X.thenE (X.blockE ?_));refine X.thenN<|WP.seq<|WP.regs<|L.move rfl<|L.neqD rfl rfl (fun hT=>absurd hT (by decide)) (fun h122=>?_);refine L.move rfl<|L.move rfl<|L.move rfl<|L.add' rfl rfl (by omega)<|L.move rfl<|L.shl rfl rfl (by omega) ?_
            rw[shlI (l:=kk) (by omega)]
            refine L.mul' rfl rfl (by rw[hq1];omega) ?_
            rw[hq1]
            refine L.move rfl<|L.add' rfl rfl (by omega)<|L.mul' rfl rfl (by rw[hq3];omega) ?_
            rw[hq3]
            refine L.geq rfl rfl<|L.pickF rfl rfl<|WL.nil<|WP.condD rfl (fun hT=>absurd hT (by omega)) (fun h134=>?_);refine WP.skip<|X.thenN<|WP.exit<|X.thenE (X.blockE ?_);refine X.thenN<|WP.region<|L.move rfl<|L.add' rfl rfl (by omega)<|L.assign rfl<|WL.nil<|X.thenN ⟨(A2,S2,i+1),⟨hQ2,by dsimp only;omega⟩,by dsimp only;omega,(Env.Sub.cons rfl rfl (Env.Sub.cons rfl rfl (Env.Sub.cons rfl rfl (Env.Sub.cons rfl rfl (Env.Sub.cons rfl rfl (Env.Sub.cons rfl rfl (Env.Sub.cons rfl rfl (Env.Sub.cons rfl rfl (Env.Sub.cons rfl rfl (Env.Sub.cons rfl rfl Env.Sub.nil)))))))))),(Ent.left [_,_] _)⟩
          ·
           refine L.move rfl<|L.skip<|L.skip<|L.pickF rfl rfl<|WL.nil<|WP.condF rfl<|WP.skip<|X.thenN<|WP.regs ?_
           obtain hgo:=hor.resolve_right (fun e=>h96 e.1)
           subst hgo
           refine L.move rfl<|L.move rfl<|L.neqD rfl rfl (fun hT=>absurd hT (fun h=>h rfl)) (fun h137=>?_);refine L.move rfl<|L.loadN T63.ag rfl rfl (Rds.all 0 rfl)<|L.loadN T63.ag rfl rfl (Rds.all 13 rfl)<|WL.callV rfl rfl F25.fn rfl (fun g gS dj=>ref_Same _ _ _ _ _ _ _ _ (In.rowsP (In.of_stars' 1 rfl gS dj)) (In.rowsP (In.of_stars' 12 rfl gS dj)) ⟨by omega,by omega⟩ hop hop) ?_
           rw[decide_eq_true ⟨rfl,rfl,rfl⟩]
           refine L.not rfl<|L.pickF rfl rfl<|L.move rfl<|L.move rfl<|WL.call rfl rfl F14.fn rfl (FT.part (seaS b _ S2) _ ((Ent.pk [2,2,2,2,2,2,2,2,2,2,0,0,0,0,0,0,0] rfl)) fun g gS dj=>sea_Nodes b _ S2 (by rw[hQ2.hm];omega)) ?_;rintro _ _ ⟨_,⟨rfl,rfl⟩,rfl⟩
           rw[hQ2.kept]
           refine L.neq rfl rfl<|L.pickF rfl rfl<|WL.nil<|WP.condD rfl (fun hT=>absurd hT (fun h=>h rfl)) (fun h148=>?_);refine WP.skip<|X.blockN<|X.thenN<|WP.region<|L.move rfl<|L.add' rfl rfl (by omega)<|L.assign rfl<|WL.nil<|X.thenN ⟨(A2,S2,i+1),⟨hQ2,by dsimp only;omega⟩,by dsimp only;omega,(Env.Sub.cons rfl rfl (Env.Sub.cons rfl rfl (Env.Sub.cons rfl rfl (Env.Sub.cons rfl rfl (Env.Sub.cons rfl rfl (Env.Sub.cons rfl rfl (Env.Sub.cons rfl rfl (Env.Sub.cons rfl rfl (Env.Sub.cons rfl rfl (Env.Sub.cons rfl rfl Env.Sub.nil)))))))))),(Ent.pk [0,0,0,0,0,0,0,0,0,0,2,2,2,2,2] rfl)⟩
         ·
          refine WP.exit<|X.thenE (X.thenE (X.blockE ?_));refine X.thenN<|WP.regs<|L.move rfl<|L.assign rfl<|WL.nil<|WP.ret<|X.ret rfl (Res.one rfl rfl) ?_;exact rfl
end
end Go.Eng
