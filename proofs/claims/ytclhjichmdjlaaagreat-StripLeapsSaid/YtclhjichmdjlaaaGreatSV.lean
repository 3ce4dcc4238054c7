/- Walks of the functions of the seat over those rules, and plain laws of what they compute. No conditions beyond those in each theorem. -/
import Derived.Test.YtclhjichmdjlaaaGreatSU
import Derived.Test.YtclhjichmdjlaaaGreatEC
import Derived.Test.YtclhjichmdjlaaaGreatSP
set_option linter.unusedSimpArgs false
set_option linter.unusedVariables false
namespace Go.Eng
open Go.RowKit Go.Proofs
theorem spent_assert (v:Value) (w:World):(Instr.typeAssert (.iface 163 v) 20 163 true).run Pg w=.ok (.tuple #[v,.bool true]) w:=by kernel_rfl
section
variable {k:World} {h0:Hp}
set_option maxRecDepth 10000 in
theorem sea_attempt11S (Z:HP) (b1 b2:Nat) (v1 v2:Value) (ρ:List HP):FDS Pg 163 107 [.pointer (some ⟨b1,0,none⟩),.pointer (some ⟨b2,0,none⟩)] k h0 (Z::cl b2 [v2] 4::cl b1 [v1] 39::ρ) (Z::cl b2 [.bool false] 4::cl b1 [.int .i64 4] 39::ρ):=by
  refine FDS.of Tryz.func107 rfl rfl rfl rfl rfl<|WP.regs<|L.move rfl<|WL.val rfl rfl (V.neqNilIf T20.i rfl)<|WL.nil<|WP.condT rfl<|WP.seq<|WP.regs<|L.move rfl<|WL.val rfl rfl (V.assert (spent_assert _) rfl)<|L.move rfl<|L.extract rfl rfl<|L.extract rfl rfl<|L.alloc T163.z fun b3=>L.storeN T163.ag rfl rfl rfl (Wrs.all 0 rfl rfl (by simp))<|L.assign rfl<|WL.nil<|WP.regs<|L.move rfl<|L.not rfl<|WL.nil<|WP.condF rfl<|WP.skip<|X.thenN<|WP.region<|L.store T39.sc rfl rfl rfl (Wr.at 3 rfl rfl)<|L.store T4.sc rfl rfl rfl (Wr.at 2 rfl rfl)<|WL.nil ?_;exact X.end rfl (Res.none rfl) ⟨_,rfl,Ent.left [_] _⟩
set_option maxRecDepth 10000 in
theorem sea_attempt1P {R:Int→HP→Prop} {SZ:HP→Prop} (Z:HP) (f:FuncId) (hf:IsFn Pg f) (caps:List Value) (hc:∀ g,h0.le g→FT Pg f caps k g [Z] (RP 163 (fun u τ=>∃ e Z',u=.int .i64 e∧τ=[Z']∧R e Z') (fun τ=>∃ Z',τ=[Z']∧SZ Z'))) (bx:Nat) :
    FT Pg 106 [.pointer (some ⟨bx,0,none⟩)] k h0 [cl bx [.func (.func f) #[] caps.toArray] 108,Z] (Ret fun u τ=>(∃ e Z',u=.tuple #[.int .i64 e,.bool true]∧τ=[Z',cl bx [.func (.func f) #[] caps.toArray] 108]∧R e Z')∨(∃ Z',u=.tuple #[.int .i64 4,.bool false]∧τ=[Z',cl bx [.func (.func f) #[] caps.toArray] 108]∧SZ Z')):=by
  refine FT.tight<|FT.of_wpR (T:=163) (n:=6) Tryz.func106 rfl rfl rfl<|WP.regs<|L.alloc T39.z fun b1=>L.alloc T4.z fun b2=>WL.nil<|WP.regs<|L.mkFunc (vs:=[_,_]) rfl<|WL.defer rfl<|WL.nil<|WP.regs<|L.load T108.sc rfl (Rd.own 2 rfl rfl)<|WL.callFS (first:=[]) (cap:=caps) rfl rfl rfl hf rfl (FT.partP [Z] _ ((Ent.pk [3,0,0,0] rfl)) fun g gS dj=>hc _ (Hp.le_un_left _ _)) ?_ ?_
  · intro τ9 h9
    obtain⟨_,⟨Z',rfl,hS⟩,rfl⟩:=h9
    exact⟨rfl,107,[.pointer (some ⟨b1,0,none⟩),.pointer (some ⟨b2,0,none⟩)],_,_,rfl,F107.fn,sea_attempt11S Z' b1 b2 _ _ _,ResCells2 rfl rfl rfl T39.sc T4.sc (Rd.own 2 rfl rfl) (Rd.own 1 rfl rfl),_,rfl,_,.inr ⟨Z',rfl,rfl,hS⟩,Ent.pk [0,2] rfl⟩
  rintro _ _ ⟨_,⟨e,Z',rfl,rfl,hR⟩,rfl⟩
  refine L.store T39.sc rfl rfl rfl (Wr.at 2 rfl rfl)<|L.store T4.sc rfl rfl rfl (Wr.at 1 rfl rfl)<|WL.nil<|WP.ret<|X.retR rfl F107.fn (sea_attempt11 _ _ _) (ResCells2 rfl rfl rfl T39.sc T4.sc (Rd.own 2 rfl rfl) (Rd.own 1 rfl rfl)) ?_;exact⟨_,rfl,_,.inl ⟨e,Z',rfl,rfl,hR⟩,(Ent.pk [0,2] rfl)⟩
set_option maxRecDepth 10000 in
theorem sea_attemptP {R0 R1:Int→HP→Prop} {SZ0 SZ1 PZ1:HP→Prop} (b:Nat) (f:FuncId) (hf:IsFn Pg f) (caps:List Value) (Z:HP) (hc0:∀ g,h0.le g→FT Pg f caps k g [Z] (RP 163 (fun u τ=>∃ e Z',u=.int .i64 e∧τ=[Z']∧R0 e Z') (fun τ=>∃ Z',τ=[Z']∧SZ0 Z'))) (hcomp:∀ Z,SZ0 Z→∀ g,h0.le g→FT Pg 35 [.pointer (some ⟨b,0,none⟩)] k g [Z] (Ret fun y τ=>∃ Z',τ=[Z']∧PZ1 Z')) (hc1:∀ Z,PZ1 Z→∀ g,h0.le g→FT Pg f caps k g [Z] (RP 163 (fun u τ=>∃ e Z',u=.int .i64 e∧τ=[Z']∧R1 e Z') (fun τ=>∃ Z',τ=[Z']∧SZ1 Z'))):FT Pg 50 [.pointer (some ⟨b,0,none⟩),.func (.func f) #[] caps.toArray] k h0 [Z] (Ret fun u τ=>∃ e Z',u=.int .i64 e∧τ=[Z']∧(R0 e Z'∨R1 e Z'∨(e=4∧SZ1 Z'))):=by
  refine FT.tight<|FT.of_wp (n:=24) Tryz.func50 rfl rfl rfl<|WP.regs<|L.box rfl rfl fun b1=>L.assign rfl<|WL.nil<|WP.regs<|L.mkFunc (vs:=[_]) rfl<|L.assign rfl<|WL.nil<|WP.regs<|L.move rfl<|WL.callF (first:=[]) (cap:=[.pointer (some ⟨b1,0,none⟩)]) rfl rfl rfl F106.fn rfl (FT.part [cl b1 [.func (.func f) #[] caps.toArray] 108,Z] [] (Ent.refl _) fun g gS dj=>sea_attempt1P Z f hf caps (fun g' le=>hc0 g' (Hp.le_trans (Hp.le_un_left _ _) le)) b1) ?_;rintro _ _ ⟨_,⟨e,Z',rfl,rfl,hR⟩ | ⟨Z',rfl,rfl,hS⟩,rfl⟩
  refine L.move rfl<|L.extract rfl rfl<|L.extract rfl rfl<|L.assign rfl<|L.assign rfl<|WL.nil<|WP.seq<|WP.regs<|L.move rfl<|L.not rfl<|WL.nil<|WP.condF rfl<|WP.skip<|X.thenN<|WP.regs<|L.move rfl<|L.assign rfl<|WL.nil<|WP.ret<|X.ret rfl (Res.one rfl rfl) ?_;exact⟨_,rfl,_,⟨e,Z',rfl,rfl,.inl hR⟩,Ent.pk [0] rfl⟩;refine L.move rfl<|L.extract rfl rfl<|L.extract rfl rfl<|L.assign rfl<|L.assign rfl<|WL.nil<|WP.seq<|WP.regs<|L.move rfl<|L.not rfl<|WL.nil<|WP.condT rfl<|WP.regs<|L.move rfl<|WL.call rfl rfl F35.fn rfl (FT.part [Z'] _ (Ent.refl _) fun g gS dj=>hcomp Z' hS _ (Hp.le_un_left _ _)) ?_;rintro _ _ ⟨_,⟨Z2,rfl,hP⟩,rfl⟩
  refine WL.nil<|WP.region<|L.move rfl<|WL.callF (first:=[]) (cap:=[.pointer (some ⟨b1,0,none⟩)]) rfl rfl rfl F106.fn rfl (FT.part [cl b1 [.func (.func f) #[] caps.toArray] 108,Z2] [] (Ent.pk [1,0] rfl) fun g gS dj=>sea_attempt1P Z2 f hf caps (fun g' le=>hc1 Z2 hP g' (Hp.le_trans (Hp.le_un_left _ _) le)) b1) ?_;rintro _ _ ⟨_,⟨e,Z3,rfl,rfl,hR⟩ | ⟨Z3,rfl,rfl,hS2⟩,rfl⟩;refine L.move rfl<|L.extract rfl rfl<|L.extract rfl rfl<|L.assign rfl<|WL.nil<|X.thenN<|WP.regs<|L.move rfl<|L.assign rfl<|WL.nil<|WP.ret<|X.ret rfl (Res.one rfl rfl) ?_;exact⟨_,rfl,_,⟨e,Z3,rfl,rfl,.inr (.inl hR)⟩,Ent.pk [0] rfl⟩
  refine L.move rfl<|L.extract rfl rfl<|L.extract rfl rfl<|L.assign rfl<|WL.nil<|X.thenN<|WP.regs<|L.move rfl<|L.assign rfl<|WL.nil<|WP.ret<|X.ret rfl (Res.one rfl rfl) ?_;exact⟨_,rfl,_,⟨4,Z3,rfl,rfl,.inr (.inr ⟨rfl,hS2⟩)⟩,Ent.pk [0] rfl⟩
end
open Go.RowKit Go.Proofs
def RunR (b:Nat) (S:SeaD) (rows:List ByteArray) (rv:Value) (n:Nat) (at0:Int) (cB cO cS cN:Nat) (e:Int) (Z':HP):Prop:=∃ L J left B H E Gx A',LeapF S rows n L J left B H E Gx∧((E.2<0∧E.1.nodes.length≤S.most∧e=0∧Z'=doorZ [cl cN [.int .i64 (n:Int)] 3,cl cS [.pointer (some ⟨b,0,none⟩)] 38,cl cB [.int .i64 S.t.w,.int .i64 at0,rv] 63,cl cO [.int .i64 S.t.w,.int .i64 0,.slice none 0 0] 63] b A' E.1)∨(0≤E.2∧Gx.1.nodes.length≤S.most∧1048576/S.t.w<Gx.2+1-E.2∧e=4∧Z'=doorZ [cl cN [.int .i64 (n:Int)] 3,cl cS [.pointer (some ⟨b,0,none⟩)] 38,cl cB [.int .i64 S.t.w,.int .i64 at0,rv] 63,cl cO [.int .i64 S.t.w,.int .i64 0,.slice none 0 0] 63] b A' Gx.1)∨(0≤E.2∧Gx.1.nodes.length≤S.most∧Gx.2+1-E.2≤1048576/S.t.w∧e=0∧∃ v,Z'=doorZ [cl cN [.int .i64 (n:Int)] 3,cl cS [.pointer (some ⟨b,0,none⟩)] 38,cl cB [.int .i64 S.t.w,.int .i64 at0,rv] 63,cl cO [.int .i64 S.t.w,.int .i64 (at0-left+E.2),v] 63,rowsP v (cutD Gx.1.nodes L H.2 E.2 (Gx.2+1))] b A' Gx.1))
def RunS (b:Nat) (S:SeaD) (rows:List ByteArray) (rv:Value) (n:Nat) (at0:Int) (cB cO cS cN:Nat) (Z':HP):Prop:=∃ L J left B H E Gx A' S',LeapF S rows n L J left B H E Gx∧Z'=doorZ [cl cN [.int .i64 (n:Int)] 3,cl cS [.pointer (some ⟨b,0,none⟩)] 38,cl cB [.int .i64 S.t.w,.int .i64 at0,rv] 63,cl cO [.int .i64 S.t.w,.int .i64 0,.slice none 0 0] 63] b A' S'∧SameK S S'∧S.most<(LeapT E Gx).nodes.length
section
variable {k:World} {h0:Hp}
set_option maxRecDepth 10000 in
set_option maxHeartbeats 4000000 in
theorem sea_RunCP (b:Nat) (A:SeaA) (S:SeaD) (K:SeaK S) (hi:Inv S) (rows:List ByteArray) (rv:Value) (hbt:BtsAt h0 rv rows) (hr:∀ i,i<rows.length→RowOkB S (rows.getD i ByteArray.empty)) (hrl:0<rows.length∧rows.length≤1048576) (n:Nat) (hn:1≤n∧n≤68719476736) (at0:Int) (hat:-4611686018427387904≤at0∧at0≤4611686018427387904) (hm0:S.nodes.length≤S.most) (cB cO cS cN:Nat):FT Pg 69 [.pointer (some ⟨cB,0,none⟩),.pointer (some ⟨cO,0,none⟩),.pointer (some ⟨cS,0,none⟩),.pointer (some ⟨cN,0,none⟩)] k h0 [doorZ [cl cN [.int .i64 (n:Int)] 3,cl cS [.pointer (some ⟨b,0,none⟩)] 38,cl cB [.int .i64 S.t.w,.int .i64 at0,rv] 63,cl cO [.int .i64 S.t.w,.int .i64 0,.slice none 0 0] 63] b A S] (RP 163 (fun y τ=>∃ e Z',y=.int .i64 e∧τ=[Z']∧RunR b S rows rv n at0 cB cO cS cN e Z') (fun τ=>∃ Z',τ=[Z']∧RunS b S rows rv n at0 cB cO cS cN Z')):=by
  unfold doorZ
  refine FT.ent Ent.stars<|FT.tightP ?_
  obtain⟨rva,rvc,rfl⟩:=BtsAt.shape hbt
  refine FT.of_wp (n:=12) Tryz.func69 rfl rfl rfl<|WP.regs<|L.assign rfl<|WL.nil<|WP.regs<|L.fieldAddr (o':=0) T63.f0 rfl rfl<|L.load T3.sc rfl (Rd.own 2 rfl rfl)<|L.build (cs:=[_,_,_]) T63.b T63.z rfl rfl<|L.storeN T63.ag rfl rfl rfl (Wrs.all 3 rfl rfl (by simp[Value.oneCell']))<|WL.nil<|WP.regs<|L.load T38.sc rfl (Rd.own 1 rfl rfl)<|L.loadN T63.ag rfl rfl (Rds.all 2 rfl)<|L.load T3.sc rfl (Rd.own 0 rfl rfl)<|WL.callS rfl rfl F70.fn rfl (FT.partP (seaS b A S++[cl cO [.int .i64 S.t.w,.int .i64 0,.slice none 0 0] 63]) _ (Ent.pk [4,4,4,4,4,4,4,4,4,4,3,0,0,0] rfl) fun g' gS dj=>sea_leapP b cO A S K hi rows _ (hbt.mono (Hp.le_un_left _ _)) hr hrl n hn 0 at0 hat hm0) ?_ ?_
  · intro τ9 h9
    obtain⟨_,⟨L,J,left,B,H,E,Gx,HF,A9,S9,rfl,hs9,hl9⟩,rfl⟩:=h9
    exact⟨rfl,.inr ⟨rfl,_,⟨_,rfl,L,J,left,B,H,E,Gx,A9,S9,HF,rfl,hs9,hl9⟩,(Ent.pk [11,11,11,0,0,0,0,0,0,0,0,0,0,0] rfl).trans Ent.shut⟩⟩
  rintro _ _ ⟨_,⟨L,J,left,B,H,E,Gx,HF,nv,hres⟩,rfl⟩
  rcases hres with ⟨h1,h2,rfl,rfl⟩ | ⟨h1,h2,h3,rfl,rfl⟩ | ⟨h1,h2,h3,rfl,v,rfl⟩
  · refine Go.Eng.L.assign rfl ?_
    refine WL.nil<|WP.ret<|X.ret rfl (Res.one rfl rfl) ?_;exact .inl ⟨_,rfl,_,⟨0,_,rfl,rfl,L,J,left,B,H,E,Gx,_,HF,.inl ⟨h1,h2,rfl,rfl⟩⟩,(Ent.pk [11,11,11,0,0,0,0,0,0,0,0,0,0,0] rfl).trans Ent.shut⟩
  · refine Go.Eng.L.assign rfl ?_
    refine WL.nil<|WP.ret<|X.ret rfl (Res.one rfl rfl) ?_;exact .inl ⟨_,rfl,_,⟨4,_,rfl,rfl,L,J,left,B,H,E,Gx,_,HF,.inr (.inl ⟨h1,h2,h3,rfl,rfl⟩)⟩,(Ent.pk [11,11,11,0,0,0,0,0,0,0,0,0,0,0] rfl).trans Ent.shut⟩
  · refine Go.Eng.L.assign rfl ?_
    refine WL.nil<|WP.ret<|X.ret rfl (Res.one rfl rfl) ?_;exact .inl ⟨_,rfl,_,⟨0,_,rfl,rfl,L,J,left,B,H,E,Gx,_,HF,.inr (.inr ⟨h1,h2,h3,rfl,v,rfl⟩)⟩,(Ent.pk [12,12,12,0,0,0,0,0,0,0,0,0,0,0,0] rfl).trans Ent.shut⟩
end
open Go.RowKit Go.Proofs
def SeaD.fresh0 (S:SeaD):SeaD:=SeaD.new S.r S.t S.most
theorem SeaK.fresh0 {S:SeaD} (K:SeaK S):SeaK S.fresh0∧Inv S.fresh0:=let h:=NInv.new K.rw K.tw K.ok K.most;⟨h.K,h.i⟩
section
variable {k:World} {h0:Hp}
theorem sea_RunT (b:Nat) (A:SeaA) (S:SeaD) (K:SeaK S) (hi:Inv S) (rows:List ByteArray) (rv:Value) (hbt:BtsAt h0 rv rows) (hr:∀ i,i<rows.length→RowOkB S (rows.getD i ByteArray.empty)) (hrl:0<rows.length∧rows.length≤1048576) (n:Nat) (hn:1≤n∧n≤68719476736) (at0:Int) (hat:-4611686018427387904≤at0∧at0≤4611686018427387904) (hm0:S.nodes.length≤S.most) (htold:S.told=[]) (cB cO cS cN:Nat) :
    FT Pg 50 [.pointer (some ⟨b,0,none⟩),.func (.func 69) #[] [.pointer (some ⟨cB,0,none⟩),.pointer (some ⟨cO,0,none⟩),.pointer (some ⟨cS,0,none⟩),.pointer (some ⟨cN,0,none⟩)].toArray] k h0 [doorZ [cl cN [.int .i64 (n:Int)] 3,cl cS [.pointer (some ⟨b,0,none⟩)] 38,cl cB [.int .i64 S.t.w,.int .i64 at0,rv] 63,cl cO [.int .i64 S.t.w,.int .i64 0,.slice none 0 0] 63] b A S] (Ret fun u τ=>∃ e Z',u=.int .i64 e∧τ=[Z']∧(RunR b S rows rv n at0 cB cO cS cN e Z'∨RunR b S.fresh0 rows rv n at0 cB cO cS cN e Z'∨(e=4∧RunS b S.fresh0 rows rv n at0 cB cO cS cN Z'))):=by
  refine sea_attemptP (R0:=RunR b S rows rv n at0 cB cO cS cN) (R1:=RunR b S.fresh0 rows rv n at0 cB cO cS cN) (SZ0:=RunS b S rows rv n at0 cB cO cS cN) (SZ1:=RunS b S.fresh0 rows rv n at0 cB cO cS cN) (PZ1:=fun Z'=>∃ A',Z'=doorZ [cl cN [.int .i64 (n:Int)] 3,cl cS [.pointer (some ⟨b,0,none⟩)] 38,cl cB [.int .i64 S.fresh0.t.w,.int .i64 at0,rv] 63,cl cO [.int .i64 S.fresh0.t.w,.int .i64 0,.slice none 0 0] 63] b A' S.fresh0) b 69 F69.fn _ _ ?_ ?_ ?_
  · intro g le
    refine (sea_RunCP (k:=k) (h0:=g) b A S K hi rows rv (hbt.mono le) hr hrl n hn at0 hat hm0 cB cO cS cN).mono fun e τ q=>?_
    rcases q with ⟨v,rfl,e',Z',rfl,rfl,hR⟩ | ⟨rfl,Z',rfl,hS⟩
    · exact .inl ⟨_,rfl,e',Z',rfl,rfl,hR⟩
    · exact .inr ⟨rfl,Z',rfl,hS⟩
  · rintro Z' ⟨L,J,left,B,H,E,Gx,A',S',HF,rfl,hs,hl⟩ g le
    have hst:S'.states=S'.r.nSt:=by rw[hs.e.states,hs.e.r];exact K.st
    have htl:S'.told=[]:=by rw[hs.e.told];exact htold
    have hnew:SeaD.new S'.r S'.t S'.most=S.fresh0:=by unfold SeaD.fresh0;rw[hs.e.r,hs.e.t,hs.e.most]
    refine FT.ent Ent.stars ?_
    have c:=FT.part (seaS b A' S') [cl cN [.int .i64 (n:Int)] 3,cl cS [.pointer (some ⟨b,0,none⟩)] 38,cl cB [.int .i64 S.t.w,.int .i64 at0,rv] 63,cl cO [.int .i64 S.t.w,.int .i64 0,.slice none 0 0] 63] (σ:=[cl cN [.int .i64 (n:Int)] 3,cl cS [.pointer (some ⟨b,0,none⟩)] 38,cl cB [.int .i64 S.t.w,.int .i64 at0,rv] 63,cl cO [.int .i64 S.t.w,.int .i64 0,.slice none 0 0] 63]++seaS b A' S'++[]) (Ent.pk [4,4,4,4,4,4,4,4,4,4,0,0,0,0] rfl) fun g2 _ _=>sea_compactG (k:=k) (h0:=g.un g2) b A' S' hst htl
    rw[List.append_nil] at c ⊢
    refine FT.tight (c.mono fun e τ q=>?_)
    obtain⟨v,rfl,_,⟨rfl,A9,rfl⟩,rfl⟩:=q
    rw[hnew]
    exact⟨_,rfl,_,⟨_,rfl,A9,rfl⟩,(Ent.pk [10,10,10,10,0,0,0,0,0,0,0,0,0,0] rfl).trans Ent.shut⟩
  · rintro Z' ⟨A',rfl⟩ g le
    have hk:=K.fresh0
    refine (sea_RunCP (k:=k) (h0:=g) b A' S.fresh0 hk.1 hk.2 rows rv (hbt.mono le) (fun i h=>(hr i h).of_eq rfl rfl) hrl n hn at0 hat (Nat.zero_le _) cB cO cS cN).mono fun e τ q=>?_
    rcases q with ⟨v,rfl,e',Z',rfl,rfl,hR⟩ | ⟨rfl,Z',rfl,hS⟩
    · exact .inl ⟨_,rfl,e',Z',rfl,rfl,hR⟩
    · exact .inr ⟨rfl,Z',rfl,hS⟩
end
end Go.Eng
