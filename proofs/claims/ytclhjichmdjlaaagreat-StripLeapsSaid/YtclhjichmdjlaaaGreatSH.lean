/- Walks of the functions of the seat over those rules, and plain laws of what they compute. No conditions beyond those in each theorem. -/
import Derived.Test.YtclhjichmdjlaaaGreatSG
import Derived.Test.YtclhjichmdjlaaaGreatEC
set_option linter.unusedSimpArgs false
set_option linter.unusedVariables false
namespace Go.Eng
open Go.RowKit Go.Proofs
theorem U8.bd {n:Int} (h:U8 n):0≤n∧n<256:=h
theorem kindV_one (r:RuleD) (v w:Value):(kindV r v w).oneCell'=true:=by
  unfold kindV;split
  · rfl
  · split <;> rfl
theorem IsKind.mono {h g:Hp} {r:RuleD} {kv:Value} (hk:IsKind h r kv) (l:h.le g):IsKind g r kv:=by
  obtain⟨t1',v1',e1,⟨f,rv,a,b,c⟩,⟨f2,rv2,a2,b2,c2⟩,⟨f',rv',y1,y2,y3,y4⟩⟩:=hk
  exact⟨t1',v1',e1,⟨f,rv,a,b,fun k g le=>c k g (Hp.le_trans l le)⟩,⟨f2,rv2,a2,b2,fun k g le=>c2 k g (Hp.le_trans l le)⟩,⟨f',rv',y1,y2,y3,fun k g le=>y4 k g (Hp.le_trans l le)⟩⟩
theorem BytesAt.of_at {h:Hp} {b T n cap:Nat} {l:List Int} (a:At h b (u8sC l) T) (hn:n=l.length) (hc:n≤cap):BytesAt h (.slice (some ⟨b,0,none⟩) n cap) l:=by
  subst hn
  refine⟨some ⟨b,0,none⟩,cap,rfl,hc,fun e=>(by cases e),fun hp=>⟨b,0,rfl,fun i hi=>?_⟩⟩
  obtain⟨fr,e⟩:=a
  rw[e]
  show (u8sC l).toArray[0+i]?=_
  rw[List.getElem?_toArray,Nat.zero_add]
  unfold u8sC
  show _=some (Value.int .u8 (l.getD i 0))
  rw[List.getElem?_map,List.getD_eq_getElem?_getD,List.getElem?_eq_getElem (by omega)]
  rfl
section
variable {k:World} {h0:Hp}
set_option maxRecDepth 10000 in
theorem rule_may (r:RuleD) (hw:r.Wd) (v w:Value) (hta:TabAt h0 r.table v w):FT Pg 78 [.agg (ruleC r v w).toArray] k h0 [] (RV fun u=>∃ (kv:Value) (e:Int),u=.tuple #[kv,.int .i64 e]∧(e=0↔r.Ok)∧(e=0→kv=kindV r v w)):=by
  refine FT.of_wp (n:=14) Tryz.func78 rfl rfl rfl<|WP.regs<|L.box rfl rfl fun b1=>L.assign rfl<|L.assign rfl<|WL.nil<|WP.regs<|L.loadN T32.ag rfl rfl (Rds.all 0 rfl)<|WL.call rfl rfl F102.fn rfl (FT.pureR fun g gS dj=>rule_of r hw v w (hta.mono (Hp.le_un_left _ _))) ?_;rintro _ _ ⟨⟨kv,e,rfl,he,hk⟩,rfl⟩;refine L.move rfl<|L.extract rfl rfl<|L.extract rfl rfl<|L.assign rfl<|L.assign rfl<|WL.nil<|WP.seq<|WP.regs<|L.move rfl<|L.neq rfl rfl<|WL.nil<|WP.condD rfl (fun h12=>?_) (fun h12=>?_);refine WP.regs<|L.assign rfl<|L.assign rfl<|WL.nil<|WP.ret<|X.thenR<|X.ret rfl (Res.two rfl rfl rfl) ?_
  exact⟨_,rfl,_,_,rfl,⟨fun h=>absurd h (by decide),fun h=>absurd (he.2 h) h12⟩,fun h=>absurd h (by decide)⟩
  refine WP.skip<|X.thenN<|WP.regs<|L.move rfl<|L.assign rfl<|L.assign rfl<|WL.nil<|WP.ret<|X.ret rfl (Res.two rfl rfl rfl) ?_;exact⟨_,rfl,_,_,rfl,⟨fun _=>he.1 (by omega),fun _=>rfl⟩,fun _=>hk (by omega)⟩
set_option maxRecDepth 10000 in
theorem rule_Check (r:RuleD) (hw:r.Wd) (v w:Value) (hta:TabAt h0 r.table v w):FT Pg 45 [.agg (ruleC r v w).toArray] k h0 [] (RV fun u=>∃ e:Int,u=.int .i64 e∧(e=0↔r.Ok)):=by
  refine FT.of_wp (n:=11) Tryz.func45 rfl rfl rfl<|WP.regs<|L.box rfl rfl fun b1=>L.assign rfl<|WL.nil<|WP.regs<|L.loadN T32.ag rfl rfl (Rds.all 0 rfl)<|WL.call rfl rfl F102.fn rfl (FT.pureR fun g gS dj=>rule_of r hw v w (hta.mono (Hp.le_un_left _ _))) ?_;rintro _ _ ⟨⟨kv,e,rfl,he,hk⟩,rfl⟩;refine L.move rfl<|L.extract rfl rfl<|L.extract rfl rfl<|L.assign rfl<|L.assign rfl<|WL.nil<|WP.regs<|L.move rfl<|L.assign rfl<|WL.nil<|WP.ret<|X.ret rfl (Res.one rfl rfl) ?_;exact⟨_,rfl,_,rfl,he⟩
set_option maxRecDepth 10000 in
theorem rule_States (r:RuleD) (hw:r.Wd) (v w:Value) (hta:TabAt h0 r.table v w):FT Pg 33 [.agg (ruleC r v w).toArray] k h0 [] (RV fun u=>∃ (n e:Int),u=.tuple #[.int .i64 n,.int .i64 e]∧(e=0↔r.Ok)∧(e=0→n=r.nSt)):=by
  refine FT.of_wp (n:=16) Tryz.func33 rfl rfl rfl<|WP.regs<|L.box rfl rfl fun b1=>L.assign rfl<|L.assign rfl<|WL.nil<|WP.regs<|L.loadN T32.ag rfl rfl (Rds.all 0 rfl)<|WL.call rfl rfl F78.fn rfl (FT.pureR fun g gS dj=>rule_may r hw v w (hta.mono (Hp.le_un_left _ _))) ?_;rintro _ _ ⟨⟨kv,e,rfl,he,hk⟩,rfl⟩;refine L.move rfl<|L.extract rfl rfl<|L.extract rfl rfl<|L.assign rfl<|L.assign rfl<|WL.nil<|WP.seq<|WP.regs<|L.move rfl<|L.neq rfl rfl<|WL.nil<|WP.condD rfl (fun h12=>?_) (fun h12=>?_);refine WP.regs<|L.move rfl<|L.assign rfl<|L.assign rfl<|WL.nil<|WP.ret<|X.thenR<|X.ret rfl (Res.two rfl rfl rfl) ?_
  exact⟨_,rfl,_,_,rfl,⟨fun h=>absurd h h12,fun h=>he.2 h⟩,fun h=>absurd h h12⟩
  refine WP.skip<|X.thenN<|WP.regs ?_
  obtain rfl:=hk (by omega)
  obtain⟨t1,v1,hkv,⟨f1,rv1,hm1,hf1,hc1⟩,⟨f2,rv2,hm2,hf2,hc2⟩,⟨f3,rv3,hm3,hf3,hn3,hc3⟩⟩:=kindV_is r (he.1 (by omega)) hw v w hta
  rw[hkv]
  refine L.move rfl<|WL.inv rfl rfl rfl hm1 hf1 rfl (FT.pureR fun g gS dj=>FT.rv (hc1 k _ (Hp.le_un_left _ _)) rfl) ?_;rintro _ _ ⟨rfl,rfl⟩;refine L.assign rfl<|L.assign rfl<|WL.nil<|WP.ret<|X.ret rfl (Res.two rfl rfl rfl) ?_;exact⟨_,rfl,_,_,rfl,⟨fun _=>he.1 (by omega),fun _=>rfl⟩,fun _=>rfl⟩
theorem rule_States_ok (r:RuleD) (hw:r.Wd) (v w:Value) (hta:TabAt h0 r.table v w) (hok:r.Ok):FT Pg 33 [.agg (ruleC r v w).toArray] k h0 [] (Is (.tuple #[.int .i64 r.nSt,.int .i64 0])):=
  (rule_States r hw v w hta).mono fun e _ ⟨u,hu,n,e',h1,h2,h3⟩=>by
   obtain rfl:=h2.2 hok
   obtain rfl:=h3 rfl
   subst h1
   exact hu
set_option maxRecDepth 10000 in
theorem rule_Hood (r:RuleD) (hw:r.Wd) (v w:Value) (hta:TabAt h0 r.table v w):FT Pg 112 [.agg (ruleC r v w).toArray] k h0 [] (RV fun u=>∃ (n e:Int),u=.tuple #[.int .u8 n,.int .i64 e]∧(e=0↔r.Ok)∧(e=0→n=r.hd)):=by
  refine FT.of_wp (n:=16) Tryz.func112 rfl rfl rfl<|WP.regs<|L.box rfl rfl fun b1=>L.assign rfl<|L.assign rfl<|WL.nil<|WP.regs<|L.loadN T32.ag rfl rfl (Rds.all 0 rfl)<|WL.call rfl rfl F78.fn rfl (FT.pureR fun g gS dj=>rule_may r hw v w (hta.mono (Hp.le_un_left _ _))) ?_;rintro _ _ ⟨⟨kv,e,rfl,he,hk⟩,rfl⟩;refine L.move rfl<|L.extract rfl rfl<|L.extract rfl rfl<|L.assign rfl<|L.assign rfl<|WL.nil<|WP.seq<|WP.regs<|L.move rfl<|L.neq rfl rfl<|WL.nil<|WP.condD rfl (fun h12=>?_) (fun h12=>?_);refine WP.regs<|L.move rfl<|L.assign rfl<|L.assign rfl<|WL.nil<|WP.ret<|X.thenR<|X.ret rfl (Res.two rfl rfl rfl) ?_
  exact⟨_,rfl,_,_,rfl,⟨fun h=>absurd h h12,fun h=>he.2 h⟩,fun h=>absurd h h12⟩
  refine WP.skip<|X.thenN<|WP.regs ?_
  obtain rfl:=hk (by omega)
  obtain⟨t1,v1,hkv,⟨f1,rv1,hm1,hf1,hc1⟩,⟨f2,rv2,hm2,hf2,hc2⟩,⟨f3,rv3,hm3,hf3,hn3,hc3⟩⟩:=kindV_is r (he.1 (by omega)) hw v w hta
  rw[hkv]
  refine L.move rfl<|WL.inv rfl rfl rfl hm2 hf2 rfl (FT.pureR fun g gS dj=>FT.rv (hc2 k _ (Hp.le_un_left _ _)) rfl) ?_;rintro _ _ ⟨rfl,rfl⟩;refine L.assign rfl<|L.assign rfl<|WL.nil<|WP.ret<|X.ret rfl (Res.two rfl rfl rfl) ?_;exact⟨_,rfl,_,_,rfl,⟨fun _=>he.1 (by omega),fun _=>rfl⟩,fun _=>rfl⟩
theorem rule_Hood_ok (r:RuleD) (hw:r.Wd) (v w:Value) (hta:TabAt h0 r.table v w) (hok:r.Ok):FT Pg 112 [.agg (ruleC r v w).toArray] k h0 [] (Is (.tuple #[.int .u8 r.hd,.int .i64 0])):=
  (rule_Hood r hw v w hta).mono fun e _ ⟨u,hu,n,e',h1,h2,h3⟩=>by
   obtain rfl:=h2.2 hok
   obtain rfl:=h3 rfl
   subst h1
   exact hu
set_option maxRecDepth 10000 in
theorem rule_size (r:RuleD) (kv:Value) (hk:IsKind h0 r kv):FT Pg 104 [kv] k h0 [] (Is (.int .i64 (hoodSize r.hd))):=by
  obtain⟨t1,v1,rfl,⟨f1,rv1,hm1,hf1,hc1⟩,⟨f2,rv2,hm2,hf2,hc2⟩,⟨f3,rv3,hm3,hf3,hn3,hc3⟩⟩:=hk
  refine FT.of_wp (n:=12) Tryz.func104 rfl rfl rfl<|WP.regs<|L.assign rfl<|WL.nil<|WP.regs<|L.move rfl<|WL.inv rfl rfl rfl hm2 hf2 rfl (FT.pureR fun g gS dj=>FT.rv (hc2 k _ (Hp.le_un_left _ _)) rfl) ?_;rintro _ _ ⟨rfl,rfl⟩;refine WL.callV rfl rfl F143.fn rfl (fun g gS dj=>hood_Size r.hd)<|L.move rfl<|L.extract rfl rfl<|L.extract rfl rfl<|L.assign rfl<|L.assign rfl<|WL.nil<|WP.regs<|L.move rfl<|L.assign rfl<|WL.nil<|WP.ret<|X.ret rfl (Res.one rfl rfl) ?_;exact rfl
set_option maxRecDepth 10000 in
theorem rule_Next1 (r:RuleD) (kv:Value) (hk:IsKind h0 r kv) (s:Int) (hs:U8 s) (bk:Nat) (hb:At h0 bk [kv] 135):FT Pg 146 [.int .u8 s,.pointer (some ⟨bk,0,none⟩)] k h0 [] (Is (.bool (decide (r.nSt≤s)))):=by
  obtain⟨t1,v1,rfl,⟨f1,rv1,hm1,hf1,hc1⟩,⟨f2,rv2,hm2,hf2,hc2⟩,⟨f3,rv3,hm3,hf3,hn3,hc3⟩⟩:=hk
  unfold U8 at hs
  refine FT.of_wp (n:=9) Tryz.func146 rfl rfl rfl<|WP.regs<|L.assign rfl<|WL.nil<|WP.regs<|L.move rfl<|L.convInt T5.u T3.u rfl<|L.load T135.sc rfl (Rd.of hb rfl)<|WL.inv rfl rfl rfl hm1 hf1 rfl (FT.pureR fun g gS dj=>FT.rv (hc1 k _ (Hp.le_un_left _ _)) rfl) ?_;rintro _ _ ⟨rfl,rfl⟩
  rw[wrap_i64 (by omega)]
  refine L.geq rfl rfl<|L.assign rfl<|WL.nil<|WP.ret<|X.ret rfl (Res.one rfl rfl) ?_;exact rfl
set_option maxRecDepth 10000 in
theorem slices_IndexFunc (l:List Int) (hl:l.length≤4611686018427387904) (lv:Value) (hlv:BytesAt h0 lv l) (f:FuncId) (hf:IsFn Pg f) (caps:List Value) (p:Int→Bool) (hp:∀ i,i<l.length→∀ k g,h0.le g→FT Pg f (.int .u8 (l.getD i 0)::caps) k g [] (Is (.bool (p (l.getD i 0))))):FT Pg 105 [lv,.func (.func f) #[] caps.toArray] k h0 [] (RV fun u=>∃ n:Int,u=.int .i64 n∧(0≤n↔∃ i,i<l.length∧p (l.getD i 0)=true)):=by
  obtain⟨aa,acap,rfl,hacap,hanone,hasome⟩:=hlv
  refine FT.of_wp (n:=19) Tryz.func105 rfl rfl rfl<|WP.regs<|L.assign rfl<|WL.nil<|WP.seq<|WP.regs<|L.move rfl<|L.lenS T60.sl rfl rfl<|L.move rfl<|WL.nil<|WP.block<|WP.loop (X:=Nat) (fun i=>⟨19,[],[(0,.slice aa l.length acap),(1,.func (.func f) #[] caps.toArray),(7,.int .i64 (l.length:Int)),(8,.int .i64 (i:Int))]⟩) (fun i=>[]) (fun i=>i≤l.length∧∀ j,j<i→p (l.getD j 0)=false) (fun i=>l.length-i) 0 (⟨Nat.zero_le _,fun j hj=>absurd hj (by omega)⟩) (Env.Sub.cons rfl rfl (Env.Sub.cons rfl rfl (Env.Sub.cons rfl rfl (Env.Sub.cons rfl rfl Env.Sub.nil)))) (Ent.refl _) ?_
  rintro i ⟨hi,hall⟩
  refine WP.regs<|L.lss rfl rfl<|WL.nil<|WP.seq<|WP.condD rfl (fun h9=>?_) (fun h9=>?_);refine WP.skip<|X.thenN<|WP.seq<|WP.block<|WP.regs<|L.move rfl<|L.assign rfl<|WL.nil<|WP.regs<|L.move rfl<|L.move rfl<|L.move rfl ?_
  obtain⟨b7,o7,rfl,hc7⟩:=hasome (by omega)
  refine L.indexS T60.sl rfl rfl (by omega)<|L.load T5.sc rfl (Rd.u8 hc7 i (by omega))<|WL.callF (first:=[]) (cap:=caps) rfl rfl rfl hf rfl (FT.pureR fun g gS dj=>FT.rv (hp i (by omega) k _ (Hp.le_un_left _ _)) rfl) ?_;rintro _ _ ⟨rfl,rfl⟩;refine WL.nil<|WP.cond rfl (fun h16=>?_) (fun h16=>?_);refine WP.regs<|L.move rfl<|L.assign rfl<|WL.nil<|WP.ret<|X.blockR (X.thenR (X.thenR (X.blockR (X.thenR ?_))));refine X.ret rfl (Res.one rfl rfl) ?_;exact⟨_,rfl,_,rfl,⟨fun _=>⟨i,by omega,h16⟩,fun _=>by omega⟩⟩
  refine WP.skip<|X.blockN<|X.thenN<|WP.region<|L.add' rfl rfl (by omega)<|L.move rfl<|WL.nil<|X.thenN ⟨i+1,⟨by omega,fun j hj=>by rcases Nat.lt_or_ge j i with e | e;exact hall j e;obtain rfl:j=i:=(by omega);exact h16⟩,by omega,(Env.Sub.cons rfl rfl (Env.Sub.cons rfl rfl (Env.Sub.cons rfl rfl (Env.Sub.cons rfl rfl Env.Sub.nil)))),Ent.refl _⟩;refine WP.exit<|X.thenE (X.thenE (X.blockE ?_));refine X.thenN<|WP.regs<|L.assign rfl<|WL.nil<|WP.ret<|X.ret rfl (Res.one rfl rfl) ?_;exact⟨_,rfl,_,rfl,⟨fun h=>absurd h (by omega),fun ⟨j,hj,hpj⟩=>by rw[hall j (by omega)] at hpj;cases hpj⟩⟩
set_option maxRecDepth 10000 in
theorem slices_ContainsFunc (l:List Int) (hl:l.length≤4611686018427387904) (lv:Value) (hlv:BytesAt h0 lv l) (f:FuncId) (hf:IsFn Pg f) (caps:List Value) (p:Int→Bool) (hp:∀ i,i<l.length→∀ k g,h0.le g→FT Pg f (.int .u8 (l.getD i 0)::caps) k g [] (Is (.bool (p (l.getD i 0))))):FT Pg 48 [lv,.func (.func f) #[] caps.toArray] k h0 [] (Is (.bool (decide (∃ i,i<l.length∧p (l.getD i 0)=true)))):=by
  refine FT.of_wp (n:=9) Tryz.func48 rfl rfl rfl<|WP.regs<|L.assign rfl<|WL.nil<|WP.regs<|L.move rfl<|L.move rfl<|WL.call rfl rfl F105.fn rfl (FT.pureR fun g gS dj=>slices_IndexFunc l hl lv (hlv.mono (Hp.le_un_left _ _)) f hf caps p (fun i hi k g le=>hp i hi k g (Hp.le_trans (Hp.le_un_left _ _) le))) ?_;rintro _ _ ⟨⟨n,rfl,hn⟩,rfl⟩;refine L.geq rfl rfl<|L.assign rfl<|WL.nil<|WP.ret<|X.ret rfl (Res.one rfl rfl) ?_
  show _=_
  exact congrArg (fun b=>Ending.returned (Value.bool b)) (decide_eq_decide.2 hn)
set_option maxRecDepth 10000 in
theorem rule_Next (r:RuleD) (hw:r.Wd) (v w:Value) (hta:TabAt h0 r.table v w) (hok:r.Ok) (c:Int) (hc:0≤c∧c<r.nSt) (arv:Value) (ar:List Int) (harv:BytesAt h0 arv ar) (har:(ar.length:Int)=hoodSize r.hd) (hu:∀ i,i<ar.length→0≤ar.getD i 0∧ar.getD i 0<r.nSt):FT Pg 115 [.agg (ruleC r v w).toArray,.int .u8 c,arv] k h0 [] (Is (.tuple #[.int .u8 (r.nx c ar),.int .i64 0])):=by
  have hft:=hok.facts;have hsz:=hoodSize_bd r.hd;have harv0:=harv
  obtain⟨aa,acap,rfl,hacap,hanone,hasome⟩:=harv
  refine FT.of_wp (n:=40) Tryz.func115 rfl rfl rfl<|WP.regs<|L.box rfl rfl fun b1=>L.assign rfl<|L.assign rfl<|WL.nil<|WP.regs<|L.loadN T32.ag rfl rfl (Rds.all 0 rfl)<|WL.call rfl rfl F78.fn rfl (FT.pureR fun g gS dj=>rule_may r hw v w (hta.mono (Hp.le_un_left _ _))) ?_;rintro _ _ ⟨⟨kv,e,rfl,he,hk⟩,rfl⟩
  obtain rfl:=he.2 hok
  obtain rfl:=hk rfl
  have hkk:=kindV_is r hok hw v w hta
  refine L.move rfl<|L.extract rfl rfl<|L.extract rfl rfl<|L.alloc T135.z fun b2=>L.store T135.sc rfl rfl (kindV_one r v w) (Wr.at 0 rfl rfl)<|L.assign rfl<|WL.nil<|WP.seq<|WP.regs<|L.move rfl<|L.neq rfl rfl<|WL.nil<|WP.condD rfl (fun hT=>absurd hT (by omega)) (fun h17=>?_);refine WP.skip<|X.thenN<|WP.regs<|L.mkFunc (vs:=[_]) rfl<|L.assign rfl<|WL.nil<|WP.seq<|WP.block<|WP.regs<|L.move rfl<|L.move rfl<|WL.callF (first:=[]) (cap:=[.pointer (some ⟨b2,0,none⟩)]) rfl rfl rfl F146.fn rfl (FT.pureR fun g gS dj=>FT.rv (rule_Next1 r _ (kindV_is r hok hw v w (hta.mono (Hp.le_un_left _ _))) c ⟨hc.1,by omega⟩ b2 (Stars.cl' 0 rfl gS dj)) rfl) ?_;rintro _ _ ⟨rfl,rfl⟩
  refine L.assign rfl<|WL.nil<|WP.cond rfl (fun hT=>absurd hT (by rw[decide_eq_false (by omega)];decide)) (fun h20=>?_);refine WP.regs<|L.move rfl<|L.lenS T60.sl rfl rfl<|L.load T135.sc rfl (Rd.own 0 rfl rfl)<|WL.callV rfl rfl F104.fn rfl (fun g gS dj=>rule_size r _ (kindV_is r hok hw v w (hta.mono (Hp.le_un_left _ _))))<|L.neq rfl rfl<|L.assign rfl<|WL.nil<|WP.condD rfl (fun hT=>absurd hT (by omega)) (fun h24=>?_)
  refine WP.regs<|L.move rfl<|L.move rfl<|WL.callV rfl rfl F48.fn rfl (fun g gS dj=>slices_ContainsFunc ar (by omega) _ (harv0.mono (Hp.le_un_left _ _)) _ F146.fn [.pointer (some ⟨b2,0,none⟩)] (fun s=>decide (r.nSt≤s)) (fun i hi k g' le=>rule_Next1 r _ (kindV_is r hok hw v w (hta.mono (Hp.le_trans (Hp.le_un_left _ _) le))) _ ⟨(hu i hi).1,by have:=hu i hi;omega⟩ b2 ((Stars.cl' (b:=b2) 0 rfl gS dj).mono le))) ?_;refine L.assign rfl<|WL.nil<|WP.cond rfl (fun hT=>absurd hT (by rw[decide_eq_false (fun ⟨i,hi,h⟩=>by have:=hu i hi;have:=of_decide_eq_true h;omega)];decide)) (fun h30=>?_)
  refine WP.skip<|X.blockN<|X.thenN<|WP.regs<|L.load T135.sc rfl (Rd.own 0 rfl rfl) ?_
  obtain⟨t1,v1,hkv,_,_,⟨f3,rv3,hm3,hf3,hn3,hc3⟩⟩:=hkk
  rw[hkv]
  refine L.move rfl<|L.move rfl<|WL.inv rfl rfl rfl hm3 hf3 rfl (FT.pureR fun g gS dj=>FT.rv (hc3 k _ (Hp.le_un_left _ _) c _ ar (harv0.mono (Hp.le_un_left _ _)) har hu hc) rfl) ?_;rintro _ _ ⟨rfl,rfl⟩;refine L.extract rfl rfl<|L.extract rfl rfl<|L.assign rfl<|L.assign rfl<|WL.nil<|WP.ret<|X.ret rfl (Res.two rfl rfl rfl) ?_;exact rfl
end
open Go.RowKit Go.Proofs
def zeros (n:Nat):List Int:=List.replicate n 0
def RuleD.quiet (r:RuleD):Prop:=r.nx 0 (zeros (hoodSize r.hd).toNat)=0
def WOk (r:RuleD) (t:TopoD):Prop:=r.Ok∧(t.Ok∧t.w≠0∧t.h=0)∧r.quiet
theorem zeros_get (n i:Nat):(zeros n).getD i 0=0:=by
  unfold zeros
  rw[List.getD_eq_getElem?_getD,List.getElem?_replicate]
  split <;> rfl
section
variable {k:World} {h0:Hp}
set_option maxRecDepth 10000 in
theorem rule_Quiet (r:RuleD) (hw:r.Wd) (v w:Value) (hta:TabAt h0 r.table v w):FT Pg 47 [.agg (ruleC r v w).toArray] k h0 [] (RV fun u=>∃ (b:Bool) (e:Int),u=.tuple #[.bool b,.int .i64 e]∧(e=0↔r.Ok)∧(e=0→(b=true↔r.quiet))):=by
  have hsz:=hoodSize_bd r.hd
  refine FT.of_wp (n:=29) Tryz.func47 rfl rfl rfl<|WP.regs<|L.box rfl rfl fun b1=>L.assign rfl<|L.assign rfl<|WL.nil<|WP.regs<|L.loadN T32.ag rfl rfl (Rds.all 0 rfl)<|WL.call rfl rfl F78.fn rfl (FT.pureR fun g gS dj=>rule_may r hw v w (hta.mono (Hp.le_un_left _ _))) ?_;rintro _ _ ⟨⟨kv,e,rfl,he,hk⟩,rfl⟩;refine L.move rfl<|L.extract rfl rfl<|L.extract rfl rfl<|L.assign rfl<|L.assign rfl<|WL.nil<|WP.seq<|WP.regs<|L.move rfl<|L.neq rfl rfl<|WL.nil<|WP.condD rfl (fun h13=>?_) (fun h13=>?_);refine WP.regs<|L.move rfl<|L.assign rfl<|L.assign rfl<|WL.nil<|WP.ret<|X.thenR<|X.ret rfl (Res.two rfl rfl rfl) ?_
  exact⟨_,rfl,_,_,rfl,⟨fun h=>absurd h h13,fun h=>he.2 h⟩,fun h=>absurd h h13⟩
  have hok:=he.1 (by omega)
  have hft:=hok.facts
  obtain rfl:=hk (by omega)
  have hkk:=kindV_is r hok hw v w hta
  obtain⟨t1,v1,hkv,⟨f1,rv1,hm1,hf1,hc1⟩,⟨f2,rv2,hm2,hf2,hc2⟩,⟨f3,rv3,hm3,hf3,hn3,hc3⟩⟩:=kindV_is r hok hw v w hta
  rw[hkv]
  rw[hkv] at hkk
  refine WP.skip<|X.thenN<|WP.seq<|WP.rege [(0,true),(1,true),(4,true),(5,true),(6,true),(2,false),(3,false),(7,false),(8,true),(9,true),(10,true),(11,true),(12,true)] 13 rfl (by kernel_rfl) (PInv.then PInv.ret) rfl<|WE.take rfl (V.move rfl)<|WE.take rfl (V.move rfl)<|WE.take rfl (V.mkMeth rfl)<|WE.take rfl (V.nilCheckM rfl hn3)<|WE.take rfl (V.move rfl)<|WE.one rfl<|WL.callV rfl rfl F104.fn rfl (fun g gS dj=>rule_size r _ (hkk.mono (Hp.le_un_left _ _)))<|WL.nil ⟨Ent.refl _,?_⟩;refine WE.one rfl<|L.make T60.sl T5.z rfl rfl (by omega) fun b2=>WL.nil ⟨(Ent.left [_] _),?_⟩
  refine WE.one rfl<|WL.inv rfl rfl rfl hm3 hf3 rfl (FT.pureR fun g gS dj=>FT.rv (hc3 k _ (Hp.le_un_left _ _) 0 _ (zeros (hoodSize r.hd).toNat) (BytesAt.of_at (by have:=Stars.cl' (h0:=h0) 0 rfl gS dj;rw[show u8sC (zeros (hoodSize r.hd).toNat)=List.replicate (hoodSize r.hd).toNat (Value.int .u8 0) by simp[u8sC,zeros]];exact this) (by simp[zeros]) (Nat.le_refl _)) (by simp[zeros];omega) (fun i _=>by rw[zeros_get];omega) (by omega)) rfl) ?_;rintro _ _ ⟨rfl,rfl⟩;refine WL.nil ⟨Ent.left [_] _,?_⟩
  refine WE.take rfl (V.move rfl)<|WE.take rfl (V.extract rfl rfl)<|WE.take rfl (V.extract rfl rfl)<|WE.take rfl (V.assign rfl)<|WE.take rfl (V.assign rfl)<|WE.nil<|X.thenN<|WP.regs<|L.move rfl<|L.eql rfl rfl<|L.move rfl<|L.assign rfl<|L.assign rfl<|WL.nil<|WP.ret<|X.ret rfl (Res.two rfl rfl rfl) ?_;exact⟨_,rfl,_,_,rfl,⟨fun _=>hok,fun _=>rfl⟩,fun _=>by unfold RuleD.quiet;simp⟩
end
open Go.RowKit Go.Proofs
section
variable {k:World} {h0:Hp}
set_option maxRecDepth 10000 in
theorem window_Check (r:RuleD) (hw:r.Wd) (v w:Value) (hta:TabAt h0 r.table v w) (t:TopoD) (hwt:t.Wd):FT Pg 15 [.agg (ruleC r v w).toArray,.agg (topoC t).toArray] k h0 [] (RV fun u=>∃ e:Int,u=.int .i64 e∧(e=0↔WOk r t)):=by
  refine FT.of_wp (n:=43) Tryz.func15 rfl rfl rfl<|WP.regs<|L.box rfl rfl fun b1=>L.box rfl rfl fun b2=>L.assign rfl<|WL.nil<|WP.seq<|WP.regs<|L.loadN T32.ag rfl rfl (Rds.all 1 rfl)<|WL.call rfl rfl F45.fn rfl (FT.pureR fun g gS dj=>rule_Check r hw v w (hta.mono (Hp.le_un_left _ _))) ?_;rintro _ _ ⟨⟨e1,rfl,he1⟩,rfl⟩;refine L.neq rfl rfl<|WL.nil<|WP.condD rfl (fun h12=>?_) (fun h12=>?_);refine WP.regs<|L.assign rfl<|WL.nil<|WP.ret<|X.thenR<|X.ret rfl (Res.one rfl rfl) ?_;rotate_left;refine WP.skip<|X.thenN<|WP.regs<|L.loadN T34.ag rfl rfl (Rds.all 0 rfl)<|WL.call rfl rfl F46.fn rfl (FT.pureR fun g gS dj=>topo_Endless t hwt) ?_;rintro _ _ ⟨⟨wd,hg,e2,rfl,he2,hwh⟩,rfl⟩
  refine L.move rfl<|L.extract rfl rfl<|L.extract rfl rfl<|L.extract rfl rfl<|L.assign rfl<|L.assign rfl<|L.assign rfl<|WL.nil<|WP.seq<|WP.block<|WP.regs<|L.move rfl<|L.neq rfl rfl<|L.assign rfl<|WL.nil<|WP.condD rfl (fun h19=>?_) (fun h19=>?_);refine WP.regs<|L.assign rfl<|WL.nil<|WP.ret<|X.blockR (X.thenR ?_);refine X.ret rfl (Res.one rfl rfl) ?_;rotate_left;refine WP.regs<|L.move rfl ?_
  rcases Bool.eq_false_or_eq_true wd with rfl | rfl
  refine L.move rfl<|L.move rfl ?_
  rcases Bool.eq_false_or_eq_true hg with rfl | rfl
  refine L.pickT rfl rfl<|L.assign rfl<|WL.nil<|WP.condT rfl<|WP.regs<|L.assign rfl<|WL.nil<|WP.ret<|X.blockR (X.thenR ?_);refine X.ret rfl (Res.one rfl rfl) ?_;rotate_left;refine L.pickT rfl rfl<|L.assign rfl<|WL.nil<|WP.condF rfl<|WP.regs<|L.move rfl<|L.not rfl<|L.move rfl<|L.skip<|L.skip<|L.pickF rfl rfl<|L.assign rfl<|WL.nil<|WP.condF rfl<|WP.regs<|L.move rfl<|L.assign rfl<|WL.nil<|WP.condT rfl<|WP.regs<|L.assign rfl<|WL.nil<|WP.ret<|X.blockR (X.thenR ?_);refine X.ret rfl (Res.one rfl rfl) ?_;rotate_left;refine L.move rfl<|L.skip<|L.pickF rfl rfl<|L.assign rfl<|WL.nil<|WP.condF rfl<|WP.regs<|L.move rfl<|L.not rfl<|L.move rfl<|L.move rfl ?_
  rcases Bool.eq_false_or_eq_true hg with rfl | rfl
  refine L.not rfl<|L.pickT rfl rfl<|L.assign rfl<|WL.nil<|WP.condF rfl<|WP.regs<|L.move rfl<|L.assign rfl<|WL.nil<|WP.condF rfl<|WP.skip<|X.blockN<|X.thenN<|WP.seq<|WP.regs<|L.loadN T32.ag rfl rfl (Rds.all 1 rfl)<|WL.call rfl rfl F47.fn rfl (FT.pureR fun g gS dj=>rule_Quiet r hw v w (hta.mono (Hp.le_un_left _ _))) ?_;rintro _ _ ⟨⟨qt,e3,rfl,he3,hqt⟩,rfl⟩;refine L.move rfl<|L.extract rfl rfl<|L.extract rfl rfl<|L.assign rfl<|L.assign rfl<|WL.nil<|WP.regs<|L.move rfl<|L.not rfl<|WL.nil<|WP.cond rfl (fun h42=>?_) (fun h42=>?_);refine WP.regs<|L.assign rfl<|WL.nil<|WP.ret<|X.thenR<|X.ret rfl (Res.one rfl rfl) ?_;rotate_left
  refine WP.skip<|X.thenN<|WP.regs<|L.assign rfl<|WL.nil<|WP.ret<|X.ret rfl (Res.one rfl rfl) ?_;rotate_left;refine L.not rfl<|L.pickT rfl rfl<|L.assign rfl<|WL.nil<|WP.condT rfl<|WP.regs<|L.assign rfl<|WL.nil<|WP.ret<|X.blockR (X.thenR ?_);refine X.ret rfl (Res.one rfl rfl) ?_;rotate_left
  all_goals
   first
    | (refine⟨_,rfl,_,rfl,⟨fun h=>absurd h (by decide),fun hok=>?_⟩⟩
       exfalso
       obtain⟨hro,⟨hto,htw,hth⟩,hq⟩:=hok
       first
        | exact h12 (he1.2 hro)
        | exact h19 (he2.2 hto)
        | exact htw ((hwh (he2.2 hto)).1.1 rfl)
        | exact absurd ((hwh (he2.2 hto)).2.2 hth) (by decide)
        | (have:=(hqt (he3.2 hro)).2 hq;subst this;simp at h42))
    | (refine⟨_,rfl,_,rfl,⟨fun _=>?_,fun _=>rfl⟩⟩
       have hto:=he2.1 (by omega)
       have hro:=he1.1 (by omega)
       have hx:=hwh (he2.2 hto)
       exact⟨hro,⟨hto,fun h=>absurd (hx.1.2 h) (by decide),hx.2.1 rfl⟩,(hqt (he3.2 hro)).1 (by simpa using h42)⟩)
set_option maxRecDepth 10000 in
theorem window_knows (r:RuleD) (hw:r.Wd) (v w:Value) (hta:TabAt h0 r.table v w) (hok:r.Ok) (rv:Value) (l:List Int) (hlv:BytesAt h0 rv l) (hl:l.length≤4611686018427387904) (hu:∀ i,i<l.length→U8 (l.getD i 0)):FT Pg 61 [.agg (ruleC r v w).toArray,rv] k h0 [] (Is (.bool (decide (∀ i,i<l.length→l.getD i 0<r.nSt)))):=by
  obtain⟨aa,acap,rfl,hacap,hanone,hasome⟩:=hlv
  refine FT.of_wp (n:=25) Tryz.func61 rfl rfl rfl<|WP.regs<|L.box rfl rfl fun b1=>L.assign rfl<|WL.nil<|WP.regs<|L.loadN T32.ag rfl rfl (Rds.all 0 rfl)<|WL.callV rfl rfl F33.fn rfl (fun g gS dj=>rule_States_ok r hw v w (hta.mono (Hp.le_un_left _ _)) hok)<|L.move rfl<|L.extract rfl rfl<|L.extract rfl rfl<|L.assign rfl<|L.assign rfl<|WL.nil<|WP.seq<|WP.regs<|L.move rfl<|L.lenS T60.sl rfl rfl<|L.move rfl<|WL.nil<|WP.block<|WP.loop (X:=Nat) (fun i=>⟨25,[],[(5,.int .i64 r.nSt),(14,.slice aa l.length acap),(15,.int .i64 (l.length:Int)),(16,.int .i64 (i:Int))]⟩) (fun i=>[]) (fun i=>i≤l.length∧∀ j,j<i→l.getD j 0<r.nSt) (fun i=>l.length-i) 0 (⟨Nat.zero_le _,fun j hj=>absurd hj (by omega)⟩) (Env.Sub.cons rfl rfl (Env.Sub.cons rfl rfl (Env.Sub.cons rfl rfl (Env.Sub.cons rfl rfl Env.Sub.nil)))) ((Ent.pk [] rfl)) ?_
  rintro i ⟨hi,hall⟩
  refine WP.regs<|L.lss rfl rfl<|WL.nil<|WP.seq<|WP.condD rfl (fun h17=>?_) (fun h17=>?_);refine WP.skip<|X.thenN<|WP.seq<|WP.block<|WP.regs ?_
  obtain⟨b7,o7,rfl,hc7⟩:=hasome (by omega)
  refine L.indexS T60.sl rfl rfl (by omega)<|L.load T5.sc rfl (Rd.u8 hc7 i (by omega))<|L.assign rfl<|WL.nil<|WP.regs<|L.move rfl<|L.convInt T5.u T3.u rfl ?_
  have hui:=(hu i (by omega)).bd
  rw[wrap_i64 (by omega)]
  refine L.move rfl<|L.geq rfl rfl<|WL.nil<|WP.condD rfl (fun h23=>?_) (fun h23=>?_);refine WP.regs<|L.assign rfl<|WL.nil<|WP.ret<|X.blockR (X.thenR (X.thenR (X.blockR (X.thenR ?_))));refine X.ret rfl (Res.one rfl rfl) ?_
  show _=_
  rw[decide_eq_false (fun h=>by have:=h i (by omega);omega)]
  refine WP.skip<|X.blockN<|X.thenN<|WP.region<|L.add' rfl rfl (by omega)<|L.move rfl<|WL.nil<|X.thenN ⟨i+1,⟨by omega,fun j hj=>by rcases Nat.lt_or_ge j i with e | e;exact hall j e;obtain rfl:j=i:=(by omega);omega⟩,by omega,(Env.Sub.cons rfl rfl (Env.Sub.cons rfl rfl (Env.Sub.cons rfl rfl (Env.Sub.cons rfl rfl Env.Sub.nil)))),(Ent.pk [] rfl)⟩;refine WP.exit<|X.thenE (X.thenE (X.blockE ?_));refine X.thenN<|WP.regs<|L.assign rfl<|WL.nil<|WP.ret<|X.ret rfl (Res.one rfl rfl) ?_
  show _=_
  rw[decide_eq_true (fun j hj=>hall j (by omega))]
end
open Go.RowKit Go.Proofs
def rowD (a h b:List Int) (y:Int):List Int:=if y<0 then a else if y=0 then h else b
def nearD (t:TopoD) (a h b:List Int) (x:Nat) (p:Int × Int):Int:=
  let u:=(x:Int)+p.1
  let u:=if t.kind=2 then u%t.w else u
  if 0≤u∧u<t.w then (rowD a h b p.2).getD u.toNat 0 else 0
def aroundD (r:RuleD) (t:TopoD) (a h b:List Int) (x:Nat):List Int:=(offs r.hd).map (nearD t a h b x)
def lineAt (r:RuleD) (t:TopoD) (a h b:List Int) (x:Nat):Int:=r.nx (h.getD x 0) (aroundD r t a h b x)
def lineD (r:RuleD) (t:TopoD) (a h b:List Int):List Int:=(List.range t.w.toNat).map (lineAt r t a h b)
def upto (n p:Nat) (f g:Nat→Int):List Value:=(List.range n).map fun i=>.int .u8 (if i<p then f i else g i)
theorem upto_len (n p:Nat) (f g:Nat→Int):(upto n p f g).length=n:=by simp[upto]
theorem upto_zero (n:Nat) (f:Nat→Int):upto n 0 f (fun _=>0)=List.replicate n (.int .u8 0):=by
  unfold upto
  simp only[Nat.not_lt_zero,if_false]
  rw[List.map_const',List.length_range]
theorem upto_set (n p:Nat) (f g:Nat→Int) (v:Int) (hv:v=f p):(upto n p f g).set (0+((p:Int)).toNat*1) (.int .u8 v)=upto n (p+1) f g:=by
  unfold upto
  rw[show 0+((p:Int)).toNat*1=p by omega]
  refine map_range_set ?_ fun i _ hi=>?_
  · rw[if_pos (by omega),hv]
  · by_cases h:i<p
    · rw[if_pos h,if_pos (by omega)]
    · rw[if_neg h,if_neg (by omega)]
theorem upto_all (n:Nat) (f g:Nat→Int):upto n n f g=u8sC ((List.range n).map f):=by
  unfold upto u8sC
  rw[List.map_map]
  exact List.map_congr_left fun i hi=>by simp[List.mem_range.1 hi]
theorem upto_again (n:Nat) (f f' g:Nat→Int):upto n n f g=upto n 0 f' f:=by
  unfold upto
  exact List.map_congr_left fun i hi=>by simp[List.mem_range.1 hi]
theorem offs_mem (h:Int) (i:Nat) (hi:i<(offs h).length):-1≤((offs h).getD i (0,0)).1∧((offs h).getD i (0,0)).1≤1∧-1≤((offs h).getD i (0,0)).2∧((offs h).getD i (0,0)).2≤1:=by
  have hm:(offs h).getD i (0,0)∈offs h:=getD_mem hi
  generalize (offs h).getD i (0,0)=p at hm
  unfold offs offsTo at hm
  obtain⟨j,hj,rfl⟩:=List.mem_map.1 hm
  have hj8:j<8:=List.mem_range.1 (List.mem_filter.1 hj).1
  rcases j with _ | _ | _ | _ | _ | _ | _ | _ | j
  all_goals first | decide | omega
theorem ptsC_at (l:List (Int × Int)) (i:Nat) (hi:i<l.length):∀ (j:Nat) (v:Value),[Value.int .i64 (l.getD i (0,0)).1,.int .i64 (l.getD i (0,0)).2][j]?=some v→(ptsC l)[0+((i:Int)).toNat*2+j]?=some v:=by
  intro j v hv
  rw[show 0+((i:Int)).toNat*2+j=i*2+j by omega]
  induction l generalizing i with
  | nil=>simp at hi
  | cons p l ih=>
    cases i with
    | zero=>
      rcases j with _ | _ | j
      · simpa [ptsC] using hv
      · simpa [ptsC] using hv
      · simp at hv
    | succ i=>
      have:=ih i (by simpa using hi) (by simpa using hv)
      rw[show (i+1)*2+j=(i*2+j)+1+1 by omega]
      simpa [ptsC] using this
theorem three_row {h0:Hp} {v0 v1 v2:Value} {a h b:List Int} {W:Nat} (ha:BytesAt h0 v0 a) (hh:BytesAt h0 v1 h) (hb:BytesAt h0 v2 b) (la:a.length=W) (lh:h.length=W) (lb:b.length=W) (hW:0<W) (y:Int) (hy:-1≤y∧y≤1) :
    ∃ sb so cap,[v0,v1,v2][0+(y+1).toNat*1]?=some (.slice (some ⟨sb,so,none⟩) W cap)∧∀ i,i<(rowD a h b y).length*1→cellOf (h0 sb) (so+i)=some ((fun i=>Value.int .u8 ((rowD a h b y).getD i 0)) i):=by
  have key:∀ v l,BytesAt h0 v l→l.length=W→∃ sb so cap,v=.slice (some ⟨sb,so,none⟩) W cap∧∀ i,i<l.length*1→cellOf (h0 sb) (so+i)=some ((fun i=>Value.int .u8 (l.getD i 0)) i):=by
   intro v l hv hl
   obtain⟨sb,so,cap,e,_,hc⟩:=SlAt.pos hv (by omega)
   rw[hl] at e
   exact⟨sb,so,cap,e,hc⟩
  have hc:y=-1∨y=0∨y=1:=by omega
  rcases hc with rfl | rfl | rfl
  · obtain⟨sb,so,cap,e,hc⟩:=key v0 a ha la
    exact⟨sb,so,cap,by subst e;rfl,hc⟩
  · obtain⟨sb,so,cap,e,hc⟩:=key v1 h hh lh
    exact⟨sb,so,cap,by subst e;rfl,hc⟩
  · obtain⟨sb,so,cap,e,hc⟩:=key v2 b hb lb
    exact⟨sb,so,cap,by subst e;rfl,hc⟩
structure Rows3 (r:RuleD) (W:Nat) (a h b:List Int):Prop where
  la:a.length=W
  lh:h.length=W
  lb:b.length=W
  a:∀ i,i<W→0≤a.getD i 0∧a.getD i 0<r.nSt
  h:∀ i,i<W→0≤h.getD i 0∧h.getD i 0<r.nSt
  b:∀ i,i<W→0≤b.getD i 0∧b.getD i 0<r.nSt
theorem Rows3.row {r:RuleD} {W:Nat} {a h b:List Int} (x:Rows3 r W a h b) (y:Int):(rowD a h b y).length=W∧∀ i,i<W→0≤(rowD a h b y).getD i 0∧(rowD a h b y).getD i 0<r.nSt:=by
  unfold rowD
  split
  · exact⟨x.la,x.a⟩
  · split
    · exact⟨x.lh,x.h⟩
    · exact⟨x.lb,x.b⟩
theorem nearD_bd {r:RuleD} {t:TopoD} {a h b:List Int} (hok:r.Ok) (x3:Rows3 r t.w.toNat a h b) (x:Nat) (p:Int × Int):0≤nearD t a h b x p∧nearD t a h b x p<r.nSt:=by
  unfold nearD
  have hf:=hok.facts
  dsimp only
  generalize (if t.kind=2 then ((x:Int)+p.1)%t.w else (x:Int)+p.1)=u
  split
  · rename_i hu
    exact (x3.row p.2).2 u.toNat (by omega)
  · omega
theorem aroundD_len (r:RuleD) (t:TopoD) (a h b:List Int) (x:Nat):((aroundD r t a h b x).length:Int)=hoodSize r.hd:=by
  unfold aroundD
  rw[List.length_map,offs_size]
theorem aroundD_get (r:RuleD) (t:TopoD) (a h b:List Int) (x i:Nat) (hi:i<(offs r.hd).length):(aroundD r t a h b x).getD i 0=nearD t a h b x ((offs r.hd).getD i (0,0)):=by
  unfold aroundD
  rw[List.getD_eq_getElem?_getD,List.getElem?_map,List.getD_eq_getElem?_getD,List.getElem?_eq_getElem hi];rfl
theorem aroundD_range (r:RuleD) (t:TopoD) (a h b:List Int) (x:Nat):(List.range (offs r.hd).length).map (fun i=>nearD t a h b x ((offs r.hd).getD i (0,0)))=aroundD r t a h b x:=by
  unfold aroundD
  apply List.ext_getElem?
  intro i
  rw[List.getElem?_map,List.getElem?_map]
  by_cases hi:i<(offs r.hd).length
  · rw[List.getElem?_range hi]
    show some (nearD t a h b x ((offs r.hd).getD i (0,0)))=_
    rw[List.getD_eq_getElem?_getD,List.getElem?_eq_getElem hi];rfl
  · rw[List.getElem?_eq_none (by simp;omega),List.getElem?_eq_none (by omega)];rfl
theorem aroundD_bd {r:RuleD} {t:TopoD} {a h b:List Int} (hok:r.Ok) (x3:Rows3 r t.w.toNat a h b) (x:Nat):∀ i,i<(aroundD r t a h b x).length→0≤(aroundD r t a h b x).getD i 0∧(aroundD r t a h b x).getD i 0<r.nSt:=fun i hi=>by
  rw[aroundD_get r t a h b x i (by simpa [aroundD] using hi)]
  exact nearD_bd hok x3 x _
section
variable {k:World} {h0:Hp}
set_option maxRecDepth 10000 in
theorem window_line (r:RuleD) (hw:r.Wd) (v w:Value) (hta:TabAt h0 r.table v w) (t:TopoD) (W:Nat) (hW:t.w=(W:Int)) (hWb:0<W∧W≤65536) (hok:r.Ok) (v0 v1 v2:Value) (a h b:List Int) (ha:BytesAt h0 v0 a) (hh:BytesAt h0 v1 h) (hb:BytesAt h0 v2 b) (x3:Rows3 r W a h b):FT Pg 62 [.agg (ruleC r v w).toArray,.agg (topoC t).toArray,.agg [v0,v1,v2].toArray] k h0 [] (Ret fun u τ=>τ=[vec 5 1 u W (u8sC (lineD r t a h b))]):=by
  obtain⟨tk,tw,th,tt,ts⟩:=t
  dsimp only at hW
  subst hW
  dsimp only[topoC]
  have hft:=hok.facts;have hsz:=hoodSize_bd r.hd;have hon:=offs_size r.hd
  have hhd:hoodE r.hd=0:=hft.2.2;have hcs:=hoodSize_cases r.hd hhd
  refine FT.tight<|FT.of_wp (n:=98) Tryz.func62 rfl rfl rfl<|WP.regs<|L.box rfl rfl fun b1=>L.box rfl rfl fun b2=>L.box rfl rfl fun b3=>L.assign rfl<|WL.nil<|WP.regs<|L.loadN T32.ag rfl rfl (Rds.all 2 rfl)<|WL.callV rfl rfl F112.fn rfl (fun g gS dj=>rule_Hood_ok r hw v w (hta.mono (Hp.le_un_left _ _)) hok)<|L.move rfl<|L.extract rfl rfl<|L.extract rfl rfl<|L.assign rfl<|L.assign rfl<|WL.nil<|WP.regs<|L.move rfl<|WL.call rfl rfl F113.fn rfl (FT.make fun g gS dj=>hood_Offsets r.hd) ?_;rintro _ _ ⟨_,⟨u,rfl,rfl⟩,rfl⟩;refine WL.fact (fun _ _ _ s=>s.vec_shape 0 rfl) ?_;rintro ⟨_,oa,ocap,rfl,hocap,hoa⟩
  obtain⟨bo,rfl⟩:=hoa (by omega)
  refine L.move rfl<|L.extract rfl rfl<|L.extract rfl rfl<|L.assign rfl<|L.assign rfl<|WL.nil<|WP.regs<|L.fieldAddr (o':=1) T34.f1 rfl rfl<|L.load T3.sc rfl (Rd.own 2 rfl rfl)<|L.make T60.sl T5.z rfl rfl (by omega) fun b4=>L.assign rfl<|WL.nil<|WP.regs<|L.move rfl<|L.lenS T127.sl rfl rfl<|L.make T60.sl T5.z rfl rfl (by omega) fun b5=>L.assign rfl<|WL.nil<|WP.seq<|WP.regs<|L.move rfl<|L.lenS T60.sl rfl rfl<|L.move rfl<|WL.nil<|WP.block<|WP.loop (X:=Nat × (Nat→Int)) (fun x=>⟨98,[],[(3,.pointer (some ⟨b1,0,none⟩)),(4,.pointer (some ⟨b2,0,none⟩)),(5,.pointer (some ⟨b3,0,none⟩)),(9,.slice (some ⟨bo,0,none⟩) (offs r.hd).length ocap),(11,.slice (some ⟨b4,0,none⟩) W W),(12,.slice (some ⟨b5,0,none⟩) (offs r.hd).length (offs r.hd).length),(33,.slice (some ⟨b4,0,none⟩) W W),(34,.int .i64 (W:Int)),(35,.int .i64 (x.1:Int))]⟩) (fun x=>[cl b5 (upto (offs r.hd).length 0 x.2 x.2) 5,cl b4 (upto W x.1 (lineAt r ⟨tk,(W:Int),th,tt,ts⟩ a h b) (fun _=>0)) 5,vec 132 2 (.slice (some ⟨bo,0,none⟩) (offs r.hd).length ocap) (offs r.hd).length (ptsC (offs r.hd)),cl b3 [v0,v1,v2] 115,cl b2 [.int .u8 tk,.int .i64 (W:Int),.int .i64 th,.int .u8 tt,.int .i64 ts] 34,cl b1 (ruleC r v w) 32]) (fun x=>x.1≤W) (fun x=>W-x.1) (0,fun _=>0) (Nat.zero_le _) (Env.Sub.cons rfl rfl (Env.Sub.cons rfl rfl (Env.Sub.cons rfl rfl (Env.Sub.cons rfl rfl (Env.Sub.cons rfl rfl (Env.Sub.cons rfl rfl (Env.Sub.cons rfl rfl (Env.Sub.cons rfl rfl (Env.Sub.cons rfl rfl Env.Sub.nil))))))))) (((Ent.pk [0,0,0,0,0,0] rfl)).trans (Ent.of_eq (by dsimp only;rw[upto_zero,upto_zero];rfl))) ?_
  rintro ⟨x,g0⟩ hx
  dsimp only at hx ⊢
  refine WP.regs<|L.lss rfl rfl<|WL.nil<|WP.seq<|WP.condD rfl (fun h36=>?_) (fun h36=>?_)
  refine WP.skip<|X.thenN<|WP.seq<|WP.block<|WP.regs<|L.move rfl<|L.assign rfl<|WL.nil<|WP.seq<|WP.regs<|L.move rfl<|L.lenS T127.sl rfl rfl<|L.move rfl<|WL.nil<|WP.block<|WP.loop (X:=Nat) (fun p=>⟨98,[],[(3,.pointer (some ⟨b1,0,none⟩)),(4,.pointer (some ⟨b2,0,none⟩)),(5,.pointer (some ⟨b3,0,none⟩)),(9,.slice (some ⟨bo,0,none⟩) (offs r.hd).length ocap),(11,.slice (some ⟨b4,0,none⟩) W W),(12,.slice (some ⟨b5,0,none⟩) (offs r.hd).length (offs r.hd).length),(33,.slice (some ⟨b4,0,none⟩) W W),(34,.int .i64 (W:Int)),(35,.int .i64 (x:Int)),(13,.int .i64 (x:Int)),(38,.slice (some ⟨bo,0,none⟩) (offs r.hd).length ocap),(39,.int .i64 ((offs r.hd).length:Int)),(40,.int .i64 (p:Int))]⟩) (fun p=>[cl b5 (upto (offs r.hd).length p (fun i=>nearD ⟨tk,(W:Int),th,tt,ts⟩ a h b x ((offs r.hd).getD i (0,0))) g0) 5,cl b4 (upto W x (lineAt r ⟨tk,(W:Int),th,tt,ts⟩ a h b) (fun _=>0)) 5,vec 132 2 (.slice (some ⟨bo,0,none⟩) (offs r.hd).length ocap) (offs r.hd).length (ptsC (offs r.hd)),cl b3 [v0,v1,v2] 115,cl b2 [.int .u8 tk,.int .i64 (W:Int),.int .i64 th,.int .u8 tt,.int .i64 ts] 34,cl b1 (ruleC r v w) 32]) (fun p=>p≤(offs r.hd).length) (fun p=>(offs r.hd).length-p) 0 (Nat.zero_le _) (Env.Sub.cons rfl rfl (Env.Sub.cons rfl rfl (Env.Sub.cons rfl rfl (Env.Sub.cons rfl rfl (Env.Sub.cons rfl rfl (Env.Sub.cons rfl rfl (Env.Sub.cons rfl rfl (Env.Sub.cons rfl rfl (Env.Sub.cons rfl rfl (Env.Sub.cons rfl rfl (Env.Sub.cons rfl rfl (Env.Sub.cons rfl rfl (Env.Sub.cons rfl rfl Env.Sub.nil))))))))))))) (Ent.of_eq (by unfold upto;simp)) ?_
  rintro p hp
  refine WP.regs<|L.lss rfl rfl<|WL.nil<|WP.seq<|WP.condD rfl (fun h41=>?_) (fun h41=>?_);refine WP.skip<|X.thenN<|WP.seq<|WP.block<|WP.regs ?_
  have hpt:=offs_mem r.hd p (by omega)
  refine L.move rfl<|L.indexS T127.sl rfl rfl (by omega)<|L.loadN T132.ag rfl rfl (Rds.vec 2 rfl (ptsC_at _ p (by omega)))<|L.alloc T132.z fun b6=>L.assign rfl<|L.storeN T132.ag rfl rfl rfl (Wrs.all 0 rfl rfl (by simp[Value.oneCell']))<|WL.nil<|WP.regs<|L.move rfl<|L.fieldAddr (o':=0) T132.f0 rfl rfl<|L.load T3.sc rfl (Rd.own 0 rfl rfl)<|L.add' rfl rfl (by omega)<|L.assign rfl<|WL.nil<|WP.cut (X:=Int) (fun u=>⟨98,[],[(3,.pointer (some ⟨b1,0,none⟩)),(4,.pointer (some ⟨b2,0,none⟩)),(5,.pointer (some ⟨b3,0,none⟩)),(9,.slice (some ⟨bo,0,none⟩) (offs r.hd).length ocap),(11,.slice (some ⟨b4,0,none⟩) W W),(12,.slice (some ⟨b5,0,none⟩) (offs r.hd).length (offs r.hd).length),(33,.slice (some ⟨b4,0,none⟩) W W),(34,.int .i64 (W:Int)),(35,.int .i64 (x:Int)),(13,.int .i64 (x:Int)),(38,.slice (some ⟨bo,0,none⟩) (offs r.hd).length ocap),(39,.int .i64 ((offs r.hd).length:Int)),(40,.int .i64 (p:Int)),(14,.int .i64 (p:Int)),(15,.pointer (some ⟨b6,0,none⟩)),(16,.int .i64 u)]⟩) (fun u=>[cl b6 [.int .i64 ((offs r.hd).getD p (0,0)).1,.int .i64 ((offs r.hd).getD p (0,0)).2] 132,cl b5 (upto (offs r.hd).length p (fun i=>nearD ⟨tk,(W:Int),th,tt,ts⟩ a h b x ((offs r.hd).getD i (0,0))) g0) 5,cl b4 (upto W x (lineAt r ⟨tk,(W:Int),th,tt,ts⟩ a h b) (fun _=>0)) 5,vec 132 2 (.slice (some ⟨bo,0,none⟩) (offs r.hd).length ocap) (offs r.hd).length (ptsC (offs r.hd)),cl b3 [v0,v1,v2] 115,cl b2 [.int .u8 tk,.int .i64 (W:Int),.int .i64 th,.int .u8 tt,.int .i64 ts] 34,cl b1 (ruleC r v w) 32]) (fun u=>u=if tk=2 then ((x:Int)+((offs r.hd).getD p (0,0)).1)%(W:Int) else (x:Int)+((offs r.hd).getD p (0,0)).1) ?_ ?_
  refine WP.regs<|L.fieldAddr (o':=0) T34.f0 rfl rfl<|L.load T5.sc rfl (Rd.own 5 rfl rfl)<|L.eql rfl rfl<|WL.nil<|WP.condD rfl (fun h51=>?_) (fun h51=>?_)
  refine WP.region<|L.move rfl<|L.fieldAddr (o':=1) T34.f1 rfl rfl<|L.load T3.sc rfl (Rd.own 5 rfl rfl)<|WL.callV rfl rfl F114.fn rfl (fun g gS dj=>whole_Mod _ (W:Int) (by omega))<|L.move rfl<|L.extract rfl rfl<|L.extract rfl rfl<|L.assign rfl<|WL.nil<|X.thenN ⟨_,by first | rw[if_pos h51] | rw[if_neg h51],(Env.Sub.cons rfl rfl (Env.Sub.cons rfl rfl (Env.Sub.cons rfl rfl (Env.Sub.cons rfl rfl (Env.Sub.cons rfl rfl (Env.Sub.cons rfl rfl (Env.Sub.cons rfl rfl (Env.Sub.cons rfl rfl (Env.Sub.cons rfl rfl (Env.Sub.cons rfl rfl (Env.Sub.cons rfl rfl (Env.Sub.cons rfl rfl (Env.Sub.cons rfl rfl (Env.Sub.cons rfl rfl (Env.Sub.cons rfl rfl (Env.Sub.cons rfl rfl Env.Sub.nil)))))))))))))))),Ent.refl _⟩
  refine WP.skip<|X.thenN ⟨_,by first | rw[if_pos h51] | rw[if_neg h51],(Env.Sub.cons rfl rfl (Env.Sub.cons rfl rfl (Env.Sub.cons rfl rfl (Env.Sub.cons rfl rfl (Env.Sub.cons rfl rfl (Env.Sub.cons rfl rfl (Env.Sub.cons rfl rfl (Env.Sub.cons rfl rfl (Env.Sub.cons rfl rfl (Env.Sub.cons rfl rfl (Env.Sub.cons rfl rfl (Env.Sub.cons rfl rfl (Env.Sub.cons rfl rfl (Env.Sub.cons rfl rfl (Env.Sub.cons rfl rfl (Env.Sub.cons rfl rfl Env.Sub.nil)))))))))))))))),Ent.refl _⟩
  rintro u hu
  refine WP.regs<|L.move rfl<|L.move rfl<|L.indexS T60.sl rfl rfl (by omega)<|L.store T5.sc rfl rfl rfl (Wr.own 1 rfl (by rw[upto_len];omega)) ?_;refine WL.nil<|WP.regs<|L.move rfl<|L.geqD rfl rfl (fun h63=>?_) (fun h63=>?_);refine L.move rfl<|L.move rfl<|L.fieldAddr (o':=1) T34.f1 rfl rfl<|L.load T3.sc rfl (Rd.own 5 rfl rfl)<|L.lss rfl rfl<|L.pickT rfl rfl<|WL.nil<|WP.condD rfl (fun h69=>?_) (fun h69=>?_);refine WP.region<|L.move rfl<|L.move rfl<|L.fieldAddr (o':=1) T132.f1 rfl rfl<|L.load T3.sc rfl (Rd.own 0 rfl rfl)<|L.add' rfl rfl (by omega)<|L.indexA T115.ar rfl rfl (by omega) ?_
  obtain⟨sb,so,scap,hsv,hsc⟩:=three_row ha hh hb x3.la x3.lh x3.lb (by omega) ((offs r.hd).getD p (0,0)).2 ⟨hpt.2.2.1,hpt.2.2.2⟩
  have hrl:=(x3.row ((offs r.hd).getD p (0,0)).2).1
  refine L.load T60.sc rfl (Rd.own 4 rfl hsv)<|L.move rfl<|L.indexS T60.sl rfl rfl (by omega)<|L.load T5.sc rfl (Rd.u8j hsc _ (by rw[hrl];omega)) ?_;refine L.indexS T60.sl rfl rfl (by omega)<|L.store T5.sc rfl rfl rfl (Wr.own 1 rfl (by rw[List.length_set,upto_len];omega)) ?_;refine WL.nil<|X.blockN<|X.thenN<|WP.region<|L.add' rfl rfl (by omega)<|L.move rfl<|WL.nil ?_
  have hnv0:nearD ⟨tk,(W:Int),th,tt,ts⟩ a h b x ((offs r.hd).getD p (0,0))=if 0≤u∧u<(W:Int) then (rowD a h b ((offs r.hd).getD p (0,0)).2).getD u.toNat 0 else 0:=by unfold nearD;rw[hu]
  have hnv:nearD ⟨tk,(W:Int),th,tt,ts⟩ a h b x ((offs r.hd).getD p (0,0))=(rowD a h b ((offs r.hd).getD p (0,0)).2).getD u.toNat 0:=by rw[hnv0,if_pos ⟨by omega,by omega⟩]
  refine X.thenN ⟨p+1,by omega,by omega,(Env.Sub.cons rfl rfl (Env.Sub.cons rfl rfl (Env.Sub.cons rfl rfl (Env.Sub.cons rfl rfl (Env.Sub.cons rfl rfl (Env.Sub.cons rfl rfl (Env.Sub.cons rfl rfl (Env.Sub.cons rfl rfl (Env.Sub.cons rfl rfl (Env.Sub.cons rfl rfl (Env.Sub.cons rfl rfl (Env.Sub.cons rfl rfl (Env.Sub.cons rfl rfl Env.Sub.nil))))))))))))),((Ent.pk [1,1,1,1,1,1] rfl)).trans (Ent.of_eq (by rw[List.set_set,upto_set _ _ _ _ _ hnv.symm]))⟩;refine WP.skip<|X.blockN<|X.thenN<|WP.region<|L.add' rfl rfl (by omega)<|L.move rfl<|WL.nil ?_
  have hnv0:nearD ⟨tk,(W:Int),th,tt,ts⟩ a h b x ((offs r.hd).getD p (0,0))=if 0≤u∧u<(W:Int) then (rowD a h b ((offs r.hd).getD p (0,0)).2).getD u.toNat 0 else 0:=by unfold nearD;rw[hu]
  have hnv:nearD ⟨tk,(W:Int),th,tt,ts⟩ a h b x ((offs r.hd).getD p (0,0))=0:=by rw[hnv0,if_neg (by omega)]
  refine X.thenN ⟨p+1,by omega,by omega,(Env.Sub.cons rfl rfl (Env.Sub.cons rfl rfl (Env.Sub.cons rfl rfl (Env.Sub.cons rfl rfl (Env.Sub.cons rfl rfl (Env.Sub.cons rfl rfl (Env.Sub.cons rfl rfl (Env.Sub.cons rfl rfl (Env.Sub.cons rfl rfl (Env.Sub.cons rfl rfl (Env.Sub.cons rfl rfl (Env.Sub.cons rfl rfl (Env.Sub.cons rfl rfl Env.Sub.nil))))))))))))),((Ent.pk [1,1,1,1,1,1] rfl)).trans (Ent.of_eq (by rw[upto_set _ _ _ _ _ hnv.symm]))⟩;refine L.move rfl<|L.skip<|L.skip<|L.skip<|L.skip<|L.pickF rfl rfl<|WL.nil<|WP.condF rfl<|WP.skip<|X.blockN<|X.thenN<|WP.region<|L.add' rfl rfl (by omega)<|L.move rfl<|WL.nil ?_
  have hnv0:nearD ⟨tk,(W:Int),th,tt,ts⟩ a h b x ((offs r.hd).getD p (0,0))=if 0≤u∧u<(W:Int) then (rowD a h b ((offs r.hd).getD p (0,0)).2).getD u.toNat 0 else 0:=by unfold nearD;rw[hu]
  have hnv:nearD ⟨tk,(W:Int),th,tt,ts⟩ a h b x ((offs r.hd).getD p (0,0))=0:=by rw[hnv0,if_neg (by omega)]
  refine X.thenN ⟨p+1,by omega,by omega,(Env.Sub.cons rfl rfl (Env.Sub.cons rfl rfl (Env.Sub.cons rfl rfl (Env.Sub.cons rfl rfl (Env.Sub.cons rfl rfl (Env.Sub.cons rfl rfl (Env.Sub.cons rfl rfl (Env.Sub.cons rfl rfl (Env.Sub.cons rfl rfl (Env.Sub.cons rfl rfl (Env.Sub.cons rfl rfl (Env.Sub.cons rfl rfl (Env.Sub.cons rfl rfl Env.Sub.nil))))))))))))),((Ent.pk [1,1,1,1,1,1] rfl)).trans (Ent.of_eq (by rw[upto_set _ _ _ _ _ hnv.symm]))⟩;refine WP.exit<|X.thenE (X.thenE (X.blockE ?_))
  refine X.thenN<|WP.regf [(0,true),(1,true),(2,true),(3,true),(4,true),(5,true),(6,true),(7,true),(8,true),(9,false),(10,true),(11,true),(13,true)] 14 2 #[true,true,true,true,true,true,true,true,true,true,true,true,false,true,false] rfl (by kernel_rfl) (PInv.block (PInv.then (PInv.then (PInv.block (PInv.then PInv.ret))))) rfl ?_
  obtain rfl:p=(offs r.hd).length:=by omega
  obtain⟨sb1,so1,scap1,hs1,hsc1⟩:=three_row ha hh hb x3.la x3.lh x3.lb (by omega) 0 ⟨by omega,by omega⟩
  replace hsc1:∀ i,i<h.length*1→cellOf (h0 sb1) (so1+i)=some ((fun i=>Value.int .u8 (h.getD i 0)) i):=hsc1
  refine WE.take rfl (V.move rfl)<|WE.take rfl (V.move rfl)<|WE.take rfl (V.loadN T32.ag rfl rfl (Rds.all 5 rfl))<|WE.take rfl (V.indexA T115.ar rfl rfl (by omega))<|WE.take rfl (V.load T60.sc rfl (Rd.own 3 rfl hs1))<|WE.take rfl (V.move rfl)<|WE.take rfl (V.indexS T60.sl rfl rfl (by omega))<|WE.take rfl (V.load T5.sc rfl (Rd.u8j hsc1 _ (by rw[x3.lh];omega))) ?_
  refine WE.take rfl (V.move rfl)<|WE.one rfl<|WL.callV rfl rfl F115.fn rfl (fun g gS dj=>rule_Next r hw v w (hta.mono (Hp.le_un_left _ _)) hok (h.getD x 0) (x3.h x (by omega)) _ (aroundD r ⟨tk,(W:Int),th,tt,ts⟩ a h b x) (BytesAt.of_at (by have:=Stars.cl' (h0:=h0) 0 rfl gS dj;rw[upto_all,aroundD_range] at this;exact this) (by simp[aroundD]) (Nat.le_refl _)) (aroundD_len r _ a h b x) (aroundD_bd (t:=⟨tk,(W:Int),th,tt,ts⟩) hok (show Rows3 r ((W:Int)).toNat a h b from x3) x)) ?_;refine WL.nil ⟨Ent.refl _,?_⟩
  refine WE.take rfl (V.move rfl)<|WE.take rfl (V.extract rfl rfl)<|WE.take rfl (V.indexS T60.sl rfl rfl (by omega))<|WE.free #[true,true,true,true,true,true,true,true,true,true,true,true,false,true,false]<|WT.both 12 14 (by kernel_rfl) rfl rfl ?_ ?_;refine L.extract rfl rfl<|WL.nil ⟨fun _=>Ent.refl _,?_⟩;refine WT.one 14 (by kernel_rfl) rfl<|L.store T5.sc rfl rfl rfl (Wr.own 1 rfl (by rw[upto_len];omega)) ?_;refine WL.nil ⟨fun h=>absurd h (by decide),?_⟩
  refine WT.nil (by kernel_rfl)<|X.blockN<|X.thenN<|WP.region<|L.add' rfl rfl (by omega)<|L.move rfl<|WL.nil<|X.thenN ⟨(x+1,(fun i=>nearD ⟨tk,(W:Int),th,tt,ts⟩ a h b x ((offs r.hd).getD i (0,0)))),by dsimp only;omega,by dsimp only;omega,(Env.Sub.cons rfl rfl (Env.Sub.cons rfl rfl (Env.Sub.cons rfl rfl (Env.Sub.cons rfl rfl (Env.Sub.cons rfl rfl (Env.Sub.cons rfl rfl (Env.Sub.cons rfl rfl (Env.Sub.cons rfl rfl (Env.Sub.cons rfl rfl Env.Sub.nil))))))))),((Ent.pk [0,0,0,0,0,0] rfl)).trans (Ent.of_eq (by dsimp only[List.getElem_toArray,List.getElem_cons_zero];rw[upto_set W x (lineAt r ⟨tk,(W:Int),th,tt,ts⟩ a h b) (fun _=>0) (r.nx (h.getD x 0) (aroundD r ⟨tk,(W:Int),th,tt,ts⟩ a h b x)) rfl,upto_again _ _ (fun i=>nearD ⟨tk,(W:Int),th,tt,ts⟩ a h b x ((offs r.hd).getD i (0,0)))]))⟩
  refine L.store T5.sc rfl rfl rfl (Wr.own 1 rfl (by rw[upto_len];omega)) ?_;refine WL.nil ⟨fun h=>absurd h (by decide),?_⟩;refine WT.one 12 (by kernel_rfl) rfl<|L.extract rfl rfl<|WL.nil ⟨fun h=>absurd h (by decide),?_⟩
  refine WT.nil (by kernel_rfl)<|X.blockN<|X.thenN<|WP.region<|L.add' rfl rfl (by omega)<|L.move rfl<|WL.nil<|X.thenN ⟨(x+1,(fun i=>nearD ⟨tk,(W:Int),th,tt,ts⟩ a h b x ((offs r.hd).getD i (0,0)))),by dsimp only;omega,by dsimp only;omega,(Env.Sub.cons rfl rfl (Env.Sub.cons rfl rfl (Env.Sub.cons rfl rfl (Env.Sub.cons rfl rfl (Env.Sub.cons rfl rfl (Env.Sub.cons rfl rfl (Env.Sub.cons rfl rfl (Env.Sub.cons rfl rfl (Env.Sub.cons rfl rfl Env.Sub.nil))))))))),((Ent.pk [0,0,0,0,0,0] rfl)).trans (Ent.of_eq (by dsimp only[List.getElem_toArray,List.getElem_cons_zero];rw[upto_set W x (lineAt r ⟨tk,(W:Int),th,tt,ts⟩ a h b) (fun _=>0) (r.nx (h.getD x 0) (aroundD r ⟨tk,(W:Int),th,tt,ts⟩ a h b x)) rfl,upto_again _ _ (fun i=>nearD ⟨tk,(W:Int),th,tt,ts⟩ a h b x ((offs r.hd).getD i (0,0)))]))⟩
  refine WP.exit<|X.thenE (X.thenE (X.blockE ?_));refine X.thenN<|WP.regs<|L.move rfl<|L.assign rfl<|WL.nil<|WP.ret<|X.ret rfl (Res.one rfl rfl) ?_
  obtain rfl:x=W:=by omega
  exact⟨_,rfl,_,rfl,((Ent.pk [1] rfl)).trans ((Ent.of_eq (show[cl b4 (upto x x (lineAt r ⟨tk,(x:Int),th,tt,ts⟩ a h b) (fun _=>0)) 5]=[cl b4 (u8sC ((List.range x).map (lineAt r ⟨tk,(x:Int),th,tt,ts⟩ a h b))) 5] by rw[upto_all])).trans ((Ent.vec_made (by simp[u8sC])).trans (Ent.of_eq rfl)))⟩
end
open Go.RowKit Go.Proofs
theorem three_get {h0:Hp} {r:RuleD} {v0 v1 v2:Value} {a h b:List Int} {W:Nat} (ha:BytesAt h0 v0 a) (hh:BytesAt h0 v1 h) (hb:BytesAt h0 v2 b) (x3:Rows3 r W a h b) (i:Nat) (hi:i<3) :
    ∃ sa cap l,([v0,v1,v2].toArray)[((i:Int)).toNat]?=some (.slice sa W cap)∧BytesAt h0 (.slice sa W cap) l∧l.length=W∧∀ q,q<W→0≤l.getD q 0∧l.getD q 0<r.nSt:=by
  have key:∀ v l,BytesAt h0 v l→l.length=W→∃ sa cap,v=.slice sa W cap:=by
   intro v l hv hl
   obtain⟨sa,cap,e⟩:=SlAt.shape hv
   rw[hl] at e
   exact⟨sa,cap,e⟩
  rcases i with _ | _ | _ | i
  · obtain⟨sa,cap,e⟩:=key v0 a ha x3.la
    exact⟨sa,cap,a,by subst e;rfl,e▸ha,x3.la,x3.a⟩
  · obtain⟨sa,cap,e⟩:=key v1 h hh x3.lh
    exact⟨sa,cap,h,by subst e;rfl,e▸hh,x3.lh,x3.h⟩
  · obtain⟨sa,cap,e⟩:=key v2 b hb x3.lb
    exact⟨sa,cap,b,by subst e;rfl,e▸hb,x3.lb,x3.b⟩
  · omega
section
variable {k:World} {h0:Hp}
set_option maxRecDepth 10000 in
theorem window_Line (r:RuleD) (hw:r.Wd) (v w:Value) (hta:TabAt h0 r.table v w) (t:TopoD) (hwt:t.Wd) (W:Nat) (hW:t.w=(W:Int)) (hwo:WOk r t) (v0 v1 v2:Value) (a h b:List Int) (ha:BytesAt h0 v0 a) (hh:BytesAt h0 v1 h) (hb:BytesAt h0 v2 b) (x3:Rows3 r W a h b):FT Pg 21 [.agg (ruleC r v w).toArray,.agg (topoC t).toArray,v0,v1,v2] k h0 [] (Ret fun u τ=>∃ u':Value,u=.tuple #[u',.int .i64 0]∧τ=[vec 5 1 u' W (u8sC (lineD r t a h b))]):=by
  have hok:=hwo.1;have hft:=hok.facts
  have hWb:0<W∧W≤65536:=by have:=hwo.2.1;unfold TopoD.Ok at this;omega
  obtain⟨tk,tw,th,tt,ts⟩:=t
  dsimp only at hW
  subst hW
  dsimp only[topoC]
  refine FT.tight<|FT.of_wp (n:=51) Tryz.func21 rfl rfl rfl<|WP.regs<|L.box rfl rfl fun b1=>L.box rfl rfl fun b2=>L.assign rfl<|L.assign rfl<|WL.nil<|WP.seq<|WP.regs<|L.loadN T32.ag rfl rfl (Rds.all 1 rfl)<|L.loadN T34.ag rfl rfl (Rds.all 0 rfl)<|WL.call rfl rfl F15.fn rfl (FT.pureR fun g gS dj=>window_Check r hw v w (hta.mono (Hp.le_un_left _ _)) ⟨tk,(W:Int),th,tt,ts⟩ hwt) ?_;rintro _ _ ⟨⟨e,rfl,he⟩,rfl⟩
  obtain rfl:=he.2 hwo
  refine L.assign rfl<|WL.nil<|WP.regs<|L.move rfl<|L.neq rfl rfl<|WL.nil<|WP.condD rfl (fun hT=>absurd hT (by omega)) (fun h22=>?_);refine WP.skip<|X.thenN<|WP.regs<|L.move rfl<|L.move rfl<|L.move rfl ?_
  have hv0:v0.oneCell'=true:=by obtain⟨_,_,e0⟩:=SlAt.shape ha;subst e0;rfl
  have hv1:v1.oneCell'=true:=by obtain⟨_,_,e0⟩:=SlAt.shape hh;subst e0;rfl
  have hv2:v2.oneCell'=true:=by obtain⟨_,_,e0⟩:=SlAt.shape hb;subst e0;rfl
  refine L.buildA (cs:=[v0,v1,v2]) T115.ar T115.z rfl (fillL_sets _ _ (by simp[hv0,hv1,hv2]))<|L.alloc T115.z fun b3=>L.storeN T115.ag rfl rfl rfl (Wrs.all 0 rfl rfl (by obtain⟨_,_,e0⟩:=SlAt.shape ha;obtain⟨_,_,e1⟩:=SlAt.shape hh;obtain⟨_,_,e2⟩:=SlAt.shape hb;subst e0 e1 e2;simp[Value.oneCell'])) ?_
  refine WL.nil<|WP.seq<|WP.regs<|L.loadN T115.ag rfl rfl (Rds.all 0 rfl)<|L.move rfl<|WL.nil<|WP.block<|WP.loop (X:=Nat) (fun i=>⟨51,[],[(5,.pointer (some ⟨b1,0,none⟩)),(6,.pointer (some ⟨b2,0,none⟩)),(13,.pointer (some ⟨b3,0,none⟩)),(28,.agg [v0,v1,v2].toArray),(29,.int .i64 (i:Int))]⟩) (fun i=>[cl b3 [v0,v1,v2] 115,cl b2 [.int .u8 tk,.int .i64 (W:Int),.int .i64 th,.int .u8 tt,.int .i64 ts] 34,cl b1 (ruleC r v w) 32]) (fun i=>i≤3) (fun i=>3-i) 0 (Nat.zero_le _) (Env.Sub.cons rfl rfl (Env.Sub.cons rfl rfl (Env.Sub.cons rfl rfl (Env.Sub.cons rfl rfl (Env.Sub.cons rfl rfl Env.Sub.nil))))) (Ent.refl _) ?_
  rintro i hi
  refine WP.regs<|L.lss rfl rfl<|WL.nil<|WP.seq<|WP.condD rfl (fun h30=>?_) (fun h30=>?_);refine WP.skip<|X.thenN<|WP.seq<|WP.block<|WP.regs ?_
  obtain⟨sa,scap,l,hsx,hsl,hll,hlr⟩:=three_get ha hh hb x3 i (by omega)
  refine L.index  T115.ar rfl rfl (by omega) hsx<|L.assign rfl<|WL.nil<|WP.regs<|L.move rfl<|L.lenS T60.sl rfl rfl<|L.fieldAddr (o':=1) T34.f1 rfl rfl<|L.load T3.sc rfl (Rd.own 1 rfl rfl)<|L.neq rfl rfl<|WL.nil<|WP.condD rfl (fun hT=>absurd hT (by omega)) (fun h36=>?_);refine WP.skip<|X.blockN<|X.thenN<|WP.region<|L.add' rfl rfl (by omega)<|L.move rfl<|WL.nil<|X.thenN ⟨i+1,by omega,by omega,(Env.Sub.cons rfl rfl (Env.Sub.cons rfl rfl (Env.Sub.cons rfl rfl (Env.Sub.cons rfl rfl (Env.Sub.cons rfl rfl Env.Sub.nil))))),(Ent.refl _)⟩;refine WP.exit<|X.thenE (X.thenE (X.blockE ?_))
  refine X.thenN<|WP.seq<|WP.regs<|L.loadN T115.ag rfl rfl (Rds.all 0 rfl)<|L.move rfl<|WL.nil<|WP.block<|WP.loop (X:=Nat) (fun i=>⟨51,[],[(5,.pointer (some ⟨b1,0,none⟩)),(6,.pointer (some ⟨b2,0,none⟩)),(13,.pointer (some ⟨b3,0,none⟩)),(38,.agg [v0,v1,v2].toArray),(39,.int .i64 (i:Int))]⟩) (fun i=>[cl b3 [v0,v1,v2] 115,cl b2 [.int .u8 tk,.int .i64 (W:Int),.int .i64 th,.int .u8 tt,.int .i64 ts] 34,cl b1 (ruleC r v w) 32]) (fun i=>i≤3) (fun i=>3-i) 0 (Nat.zero_le _) (Env.Sub.cons rfl rfl (Env.Sub.cons rfl rfl (Env.Sub.cons rfl rfl (Env.Sub.cons rfl rfl (Env.Sub.cons rfl rfl Env.Sub.nil))))) (Ent.refl _) ?_
  rintro i hi
  refine WP.regs<|L.lss rfl rfl<|WL.nil<|WP.seq<|WP.condD rfl (fun h40=>?_) (fun h40=>?_);refine WP.skip<|X.thenN<|WP.seq<|WP.block<|WP.regs ?_
  obtain⟨sa,scap,l,hsx,hsl,hll,hlr⟩:=three_get ha hh hb x3 i (by omega)
  refine L.index  T115.ar rfl rfl (by omega) hsx<|L.assign rfl<|WL.nil<|WP.regs<|L.loadN T32.ag rfl rfl (Rds.all 2 rfl)<|L.move rfl<|WL.callV rfl rfl F61.fn rfl (fun g gS dj=>window_knows r hw v w (hta.mono (Hp.le_un_left _ _)) hok _ l (hsl.mono (Hp.le_un_left _ _)) (by omega) (fun q hq=>⟨(hlr q (by omega)).1,by have:=hlr q (by omega);omega⟩)) ?_;refine L.not rfl<|WL.nil<|WP.cond rfl (fun hT=>absurd hT (by rw[decide_eq_true (fun q hq=>(hlr q (by omega)).2)];decide)) (fun h45=>?_)
  refine WP.skip<|X.blockN<|X.thenN<|WP.region<|L.add' rfl rfl (by omega)<|L.move rfl<|WL.nil<|X.thenN ⟨i+1,by omega,by omega,(Env.Sub.cons rfl rfl (Env.Sub.cons rfl rfl (Env.Sub.cons rfl rfl (Env.Sub.cons rfl rfl (Env.Sub.cons rfl rfl Env.Sub.nil))))),(Ent.refl _)⟩;refine WP.exit<|X.thenE (X.thenE (X.blockE ?_))
  refine X.thenN<|WP.regs<|L.loadN T32.ag rfl rfl (Rds.all 2 rfl)<|L.loadN T34.ag rfl rfl (Rds.all 1 rfl)<|L.loadN T115.ag rfl rfl (Rds.all 0 rfl)<|WL.call rfl rfl F62.fn rfl (FT.make fun g gS dj=>window_line r hw v w (hta.mono (Hp.le_un_left _ _)) ⟨tk,(W:Int),th,tt,ts⟩ W rfl hWb hok v0 v1 v2 a h b (ha.mono (Hp.le_un_left _ _)) (hh.mono (Hp.le_un_left _ _)) (hb.mono (Hp.le_un_left _ _)) x3) ?_;rintro u _ ⟨_,rfl,rfl⟩;refine L.assign rfl<|L.assign rfl<|WL.nil<|WP.ret<|X.ret rfl (Res.two rfl rfl rfl) ?_;exact⟨_,rfl,_,⟨_,rfl,rfl⟩,(Ent.pk [0] rfl)⟩
end
end Go.Eng
