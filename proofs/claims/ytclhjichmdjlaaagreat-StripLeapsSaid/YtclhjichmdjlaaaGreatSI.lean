/- Walks of the functions of the seat over those rules, and plain laws of what they compute. No conditions beyond those in each theorem. -/
import Derived.Test.YtclhjichmdjlaaaGreatSH
import Derived.Test.YtclhjichmdjlaaaGreatEC
set_option linter.unusedSimpArgs false
set_option linter.unusedVariables false
namespace Go.Eng
open Go.RowKit Go.Proofs
theorem mfind_map {α β γ:Type} [DecidableEq α] [DecidableEq β] (f:α→β) (hf:∀ a b,f a=f b→a=b) (k:α):∀ (m:List (α × γ)) (i:Nat),mfind (m.map fun x=>(f x.1,x.2)) (f k) i=mfind m k i
  | [],i=>rfl
  | x::r,i=>by
    simp only[List.map_cons,mfind]
    by_cases h:x.1=k
    · rw[if_pos h,if_pos (by rw[h])]
    · rw[if_neg h,if_neg (fun e=>h (hf _ _ e)),mfind_map f hf k r]
theorem KeyOk.comap {P:Program} {α β:Type} [DecidableEq α] [DecidableEq β] {T:TypeId} {enc:β→Value} (h:KeyOk P T enc) (f:α→β) (hf:∀ a b,f a=f b→a=b):KeyOk P T (fun a=>enc (f a)) where
  find:=fun k es m he w=>by
   have:=h.find (f k) es (m.map fun x=>(f x.1,x.2)) (by rw[he,List.map_map];rfl) w
   rw[mfind_map f hf] at this
   exact this
  chk:=fun e k w=>h.chk e (f k) w
  stays:=fun k=>h.stays (f k)
def encI (n:Nat):Value:=.int .i64 (n:Int)
def encP (p:Nat × Nat):Value:=.agg #[.int .i64 (p.1:Int),.int .i64 (p.2:Int)]
def enc3 (p:Nat × Nat × Nat):Value:=.agg #[.int .i64 (p.1:Int),.int .i64 (p.2.1:Int),.int .i64 (p.2.2:Int)]
theorem keyI {P:Program} {T:TypeId} (h:KeyOk P T (Value.int .i64)):KeyOk P T encI:=h.comap (fun n:Nat=>(n:Int)) fun a b e=>by omega
theorem keyP {P:Program} {T:TypeId} (h:KeyOk P T (encS .i64 2)):KeyOk P T encP:=
  h.comap (fun p:Nat × Nat=>⟨[(p.1:Int),(p.2:Int)],rfl⟩) fun a b e=>by
   obtain⟨a1,a2⟩:=a
   obtain⟨b1,b2⟩:=b
   simp only[Subtype.mk.injEq,List.cons.injEq,and_true] at e
   obtain⟨e1,e2⟩:=e
   rw[show a1=b1 by omega,show a2=b2 by omega]
theorem key3 {P:Program} {T:TypeId} (h:KeyOk P T (encS .i64 3)):KeyOk P T enc3:=
  h.comap (fun p:Nat × Nat × Nat=>⟨[(p.1:Int),(p.2.1:Int),(p.2.2:Int)],rfl⟩) fun a b e=>by
   obtain⟨a1,a2,a3⟩:=a
   obtain⟨b1,b2,b3⟩:=b
   simp only[Subtype.mk.injEq,List.cons.injEq,and_true] at e
   obtain⟨e1,e2,e3⟩:=e
   rw[show a1=b1 by omega,show a2=b2 by omega,show a3=b3 by omega]
def vm {α:Type} (m:List (α × Nat)):List (α × Value):=m.map fun x=>(x.1,encI x.2)
theorem mget_vm {α:Type} [DecidableEq α] (m:List (α × Nat)) (k:α):mget (vm m) k=(mget m k).map encI:=by
  induction m with
  | nil=>rfl
  | cons x r ih=>
    unfold vm at ih ⊢
    simp only[List.map_cons,mget]
    by_cases h:x.1=k
    · rw[if_pos h,if_pos h];rfl
    · rw[if_neg h,if_neg h];exact ih
theorem mput_vm {α:Type} [DecidableEq α] (m:List (α × Nat)) (k:α) (v:Nat):mput (vm m) k (encI v)=vm (mput m k v):=by
  induction m with
  | nil=>rfl
  | cons x r ih=>
    unfold vm at ih ⊢
    simp only[List.map_cons,mput]
    by_cases h:x.1=k
    · rw[if_pos h,if_pos h];rfl
    · rw[if_neg h,if_neg h,List.map_cons,ih]
theorem vm_len {α:Type} (m:List (α × Nat)):(vm m).length=m.length:=by simp[vm]
structure NodeD where
  level:Nat
  a:Nat
  b:Nat
  row:ByteArray
deriving DecidableEq
def NodeD.no:NodeD:=⟨0,0,0,ByteArray.mk #[]⟩
abbrev nodeC (n:NodeD):List Value:=[.int .i64 (n.level:Int),.int .i64 (n.a:Int),.int .i64 (n.b:Int),.string n.row]
def nodesC (l:List NodeD):List Value:=l.flatMap nodeC
theorem nodesC_snoc (l:List NodeD) (n:NodeD):nodesC l++nodeC n=nodesC (l++[n]):=by simp[nodesC]
theorem nodesC_at:∀ (l:List NodeD) (i:Nat),i<l.length→∀ (j:Nat) (v:Value),(nodeC (l.getD i .no))[j]?=some v→(nodesC l)[i*4+j]?=some v
  | [],i,hi,j,v,hv=>by simp at hi
  | p::l,0,hi,j,v,hv=>by
    have hj:j<4:=(List.getElem?_eq_some_iff.1 hv).1
    rw[show 0*4+j=j by omega]
    unfold nodesC
    rw[List.flatMap_cons,List.getElem?_append_left (by simpa using hj)]
    exact hv
  | p::l,i+1,hi,j,v,hv=>by
    have:=nodesC_at l i (by simpa using hi) j v (by simpa using hv)
    rw[show (i+1)*4+j=4+(i*4+j) by omega]
    unfold nodesC at this ⊢
    rw[List.flatMap_cons,List.getElem?_append_right (by simp)]
    simpa using this
structure SeaD where
  r:RuleD
  t:TopoD
  states:Int
  most:Nat
  nodes:List NodeD
  pairs:List ((Nat × Nat) × Nat)
  rows:List (ByteArray × Nat)
  leaps:List ((Nat × Nat) × Nat)
  lines:List ((Nat × Nat × Nat) × Nat)
  told:List Nat
  names:List (Nat × Nat)
  kept:List (Nat × Nat)
structure SeaA where
  tv:Value
  tw:Value
  nv:Value
  bp:Nat
  br:Nat
  bl:Nat
  bn:Nat
  ov:Value
  bm:Nat
  bk:Nat
def seaC (A:SeaA) (S:SeaD):List Value:=
  [.int .u8 S.r.kind,.int .u8 S.r.life.hood,.int .u16 S.r.life.born,.int .u16 S.r.life.stay,.int .i64 S.r.gst,.string S.r.name,.int .i64 S.r.table.states,.int .u8 S.r.table.hood,.int .u8 S.r.table.sym,A.tv,A.tw,
   .int .u8 S.t.kind,.int .i64 S.t.w,.int .i64 S.t.h,.int .u8 S.t.turn,.int .i64 S.t.shift,.int .i64 S.states,.int .i64 (S.most:Int),
   A.nv,.map (some A.bp),.map (some A.br),.map (some A.bl),.map (some A.bn),A.ov,.map (some A.bm),.map (some A.bk)]
def idsC (l:List Nat):List Value:=l.map encI
def tabO (t:TableD) (v w:Value):HP:=fun h=>TabAt h t v w
open Go.RowKit Go.Proofs
abbrev seaS (b:Nat) (A:SeaA) (S:SeaD):List HP:=
  [cl b (seaC A S) 59,vec 111 4 A.nv S.nodes.length (nodesC S.nodes),mpO A.bp encP (vm S.pairs),mpO A.br Value.string (vm S.rows),mpO A.bl encP (vm S.leaps),mpO A.bn enc3 (vm S.lines),
   vec 3 1 A.ov S.told.length (idsC S.told),mpO A.bm encI (vm S.names),mpO A.bk encI (vm S.kept),tabO S.r.table A.tv A.tw]
theorem K171:KeyOk Pg 171 encP:=keyP T171.ko
theorem K173:KeyOk Pg 173 encP:=keyP T173.ko
theorem K204:KeyOk Pg 204 enc3:=key3 T204.ko
theorem K3:KeyOk Pg 3 encI:=keyI T3.ko
def SeaD.addN (S:SeaD) (n:NodeD):SeaD:={S with nodes:=S.nodes++[n]}
section
variable {k:World} {h0:Hp}
set_option maxRecDepth 10000 in
theorem sea_add (b:Nat) (A:SeaA) (S:SeaD) (n:NodeD) (hm:S.nodes.length<S.most) (hb:S.most≤1048576):FT Pg 110 [.pointer (some ⟨b,0,none⟩),.agg (nodeC n).toArray] k h0 (seaS b A S) (Ret fun v τ=>∃ nv,v=encI S.nodes.length∧τ=seaS b {A with nv:=nv} (S.addN n)):=by
  refine FT.tight<|FT.fact (fun _ _ _ s=>s.vec_shape (E:=111) (sz:=4) 1 rfl) ?_
  rintro ⟨_,na,ncap,hnv,hncap,hna⟩
  obtain⟨tv,tw,nv,bp,br,bl,bn,ov,bm,bk⟩:=A
  dsimp only at hnv
  subst hnv
  refine FT.of_wp (n:=33) Tryz.func110 rfl rfl rfl<|WP.regs<|L.box rfl rfl fun b1=>L.assign rfl<|WL.nil<|WP.seq<|WP.seq<|WP.rege [(0,true),(1,true),(2,true),(3,true),(4,true),(5,true),(6,true),(7,true),(8,true),(9,true)] 10 rfl (by kernel_rfl) (PInv.then (PInv.then PInv.ret)) rfl<|WE.take rfl (V.move rfl)<|WE.take rfl (V.nilCheck rfl)<|WE.take rfl (V.fieldAddr (o':=18) T59.f4 rfl rfl)<|WE.take rfl (V.load T51.sc rfl (Rd.own 1 rfl rfl))<|WE.take rfl (V.lenS T51.sl rfl rfl)<|WE.take rfl (V.move rfl)<|WE.take rfl (V.nilCheck rfl) ?_;refine WE.take rfl (V.fieldAddr (o':=17) T59.f3 rfl rfl)<|WE.take rfl (V.load T3.sc rfl (Rd.own 1 rfl rfl))<|WE.take rfl (V.geq rfl rfl)<|WE.nil<|X.thenN<|WP.condD rfl (fun hT=>absurd hT (by omega)) (fun h14=>?_)
  refine WP.skip<|X.thenN<|WP.seq<|WP.regeq _ (Ent.pk [0,0,1,1,1,1,1,1,1,1] rfl) [(0,true),(1,true),(2,true),(3,true),(4,true),(5,true),(6,false),(7,false),(8,true),(9,true),(10,false)] 10 rfl (by kernel_rfl) (PInv.then PInv.ret) rfl<|WE.take rfl (V.move rfl)<|WE.take rfl (V.move rfl)<|WE.take rfl (V.nilCheck rfl)<|WE.take rfl (V.fieldAddr (o':=18) T59.f4 rfl rfl)<|WE.take rfl (V.load T51.sc rfl (Rd.own 1 rfl rfl))<|WE.take rfl (V.loadN T111.ag rfl rfl (Rds.all 0 rfl))<|WE.one rfl<|L.slice1 T51.sl T111.z rfl rfl rfl rfl rfl rfl ?_;intro b2;refine WL.nil ⟨(Ent.pk [1,1,2,2,2,2,2,2,2,2] rfl),?_⟩
  refine WE.one rfl<|L.append (i:=3) (news:=nodeC n) T51.sl T111.z rfl rfl rfl rfl rfl rfl (fun _ _ _ e=>by cases e;exact⟨rfl,Rds.all 0 rfl⟩) (fun e=>by cases e) (by simp[Value.oneCell']) (by omega) ?_;intro u2;refine WL.fact (φ:=u2.oneCell'=true∧∃ a cap,u2=.slice a (S.nodes.length+1) cap) (fun _ _ _ s=>⟨s.vec_one 0 rfl,by obtain⟨_,a,cap,e,_⟩:=s.vec_shape 0 rfl;exact⟨a,cap,e⟩⟩) fun hu2=>?_
  obtain⟨hv1,ua,ucap,rfl⟩:=hu2
  refine WL.nil ⟨(Ent.left [_,_] _),?_⟩;refine WE.take rfl (V.nilCheck rfl)<|WE.take rfl (V.fieldAddr (o':=18) T59.f4 rfl rfl)<|WE.last rfl<|L.store T51.sc rfl rfl hv1 (Wr.at 3 rfl rfl)<|WL.nil<|WE.nil<|X.thenN<|WP.regs<|L.move rfl<|L.nilCheck rfl<|L.fieldAddr (o':=18) T59.f4 rfl rfl<|L.load T51.sc rfl (Rd.own 3 rfl rfl)<|L.lenS T51.sl rfl rfl<|L.sub' rfl rfl (by omega)<|L.assign rfl<|WL.nil<|WP.ret<|X.ret rfl (Res.one rfl rfl)<|⟨_,rfl,_,⟨.slice ua (S.nodes.length+1) ucap,by simp[encI],rfl⟩,((Ent.pk [3,0,2,2,2,2,2,2,2,2] rfl)).trans (Ent.of_eq ?_)⟩
  show _=[cl b _ _,vec 111 4 _ (S.nodes++[n]).length (nodesC (S.nodes++[n])),_,_,_,_,_,_,_,_]
  rw[← nodesC_snoc,List.length_append]
  rfl
theorem nodesC_rd (l:List NodeD) (i:Nat) (hi:i<l.length) (j:Nat) {v:Value} (hv:(nodeC (l.getD i .no))[j]?=some v):(nodesC l)[0+((i:Int)).toNat*4+j]?=some v:=by
  rw[show 0+((i:Int)).toNat*4+j=i*4+j by omega]
  exact nodesC_at l i hi j v hv
def SeaD.row (S:SeaD) (x:ByteArray):SeaD × Nat:=
  match mget S.rows x with
  | some id=>(S,id)
  | none=>({S with nodes:=S.nodes++[⟨0,0,0,x⟩],rows:=mput S.rows x S.nodes.length},S.nodes.length)
def SeaD.pair (S:SeaD) (a b:Nat):SeaD × Nat:=
  match mget S.pairs (a,b) with
  | some id=>(S,id)
  | none=>({S with nodes:=S.nodes++[⟨(S.nodes.getD a .no).level+1,a,b,ByteArray.mk #[]⟩],pairs:=mput S.pairs (a,b) S.nodes.length},S.nodes.length)
set_option maxRecDepth 10000 in
theorem sea_row (b:Nat) (A:SeaA) (S:SeaD) (x:ByteArray) (hm:S.nodes.length<S.most) (hb:S.most≤1048576):FT Pg 53 [.pointer (some ⟨b,0,none⟩),.string x] k h0 (seaS b A S) (Ret fun v τ=>∃ nv,v=encI (S.row x).2∧τ=seaS b {A with nv:=nv} (S.row x).1):=by
  refine FT.tight<|FT.of_wp (n:=29) Tryz.func53 rfl rfl rfl<|WP.regs<|L.assign rfl<|WL.nil<|WP.regs<|L.move rfl<|L.nilCheck rfl<|L.fieldAddr (o':=20) T59.f6 rfl rfl<|L.load T53.sc rfl (Rd.own 0 rfl rfl)<|L.move rfl<|L.lookupOk (α:=ByteArray) (enc:=Value.string) 3 T53.m T9.ko T3.z1 rfl rfl rfl ?_
  rw[mget_vm]
  rcases hx:mget S.rows x with _ | id
  rotate_left
  ·
   refine L.move rfl<|L.extract rfl rfl<|L.extract rfl rfl<|L.assign rfl<|L.assign rfl<|WL.nil<|WP.seq<|WP.regs<|L.move rfl<|L.not rfl<|WL.nil<|WP.condF rfl<|WP.skip<|X.thenN<|WP.regs<|L.move rfl<|L.assign rfl<|WL.nil<|WP.ret<|X.ret rfl (Res.one rfl rfl) ?_;exact⟨_,rfl,_,⟨A.nv,by simp[SeaD.row,hx,encI],rfl⟩,Ent.of_eq (by simp only[SeaD.row,hx])⟩
  ·
   refine L.move rfl<|L.extract rfl rfl<|L.extract rfl rfl<|L.assign rfl<|L.assign rfl<|WL.nil<|WP.seq<|WP.regs<|L.move rfl<|L.not rfl<|WL.nil<|WP.condT rfl<|WP.regs<|L.move rfl<|L.move rfl<|L.build (cs:=[_,_,_,_]) T111.b T111.z rfl rfl<|WL.call rfl rfl F110.fn rfl (FT.part (seaS b A S) _ ((Ent.refl _)) fun g gS dj=>sea_add b A S ⟨0,0,0,x⟩ hm hb) ?_;rintro _ _ ⟨_,⟨nv,rfl,rfl⟩,rfl⟩
   refine L.assign rfl<|WL.nil<|WP.region<|L.move rfl<|L.nilCheck rfl<|L.fieldAddr (o':=20) T59.f6 rfl rfl<|L.load T53.sc rfl (Rd.own 0 rfl rfl)<|L.move rfl<|L.move rfl<|L.mapUpdate (α:=ByteArray) (enc:=Value.string) 3 T53.m T9.ko rfl rfl rfl rfl<|WL.nil<|X.thenN<|WP.regs<|L.move rfl<|L.assign rfl<|WL.nil<|WP.ret<|X.ret rfl (Res.one rfl rfl)<|⟨_,rfl,_,⟨nv,by simp[SeaD.row,hx,encI],rfl⟩,((Ent.pk [1,1,1,0,0,0,0,0,0,0] rfl)).trans (Ent.of_eq ?_)⟩
   rw[mput_vm]
   simp only[SeaD.row,hx,SeaD.addN]
   rfl
set_option maxRecDepth 10000 in
theorem sea_pair (b:Nat) (A:SeaA) (S:SeaD) (x y:Nat) (hx0:x<S.nodes.length) (hm:S.nodes.length<S.most) (hb:S.most≤1048576) (hlv:(S.nodes.getD x .no).level≤1000):FT Pg 56 [.pointer (some ⟨b,0,none⟩),encI x,encI y] k h0 (seaS b A S) (Ret fun v τ=>∃ nv,v=encI (S.pair x y).2∧τ=seaS b {A with nv:=nv} (S.pair x y).1):=by
  refine FT.tight<|FT.fact (fun _ _ _ s=>s.vec_shape (E:=111) (sz:=4) 1 rfl) ?_
  rintro ⟨_,na,ncap,hnv,hncap,hna⟩
  obtain⟨c0,hc0⟩:=hna (by omega)
  subst hc0
  obtain⟨tv,tw,nv,bp,br,bl,bn,ov,bm,bk⟩:=A
  dsimp only at hnv
  subst hnv
  unfold encI
  refine FT.of_wp (n:=45) Tryz.func56 rfl rfl rfl<|WP.regs<|L.assign rfl<|WL.nil<|WP.regs<|L.move rfl<|L.move rfl<|L.build (cs:=[_,_]) T171.b T171.z rfl rfl<|L.alloc T171.z fun b1=>L.storeN T171.ag rfl rfl rfl (Wrs.all 0 rfl rfl (by simp[Value.oneCell']))<|WL.nil<|WP.seq<|WP.rege [(0,true),(1,true),(2,true),(3,true),(4,true),(5,true),(6,true),(7,true),(8,true),(9,true),(10,true)] 11 rfl (by kernel_rfl) (PInv.then PInv.ret) rfl<|WE.take rfl (V.move rfl)<|WE.take rfl (V.nilCheck rfl)<|WE.take rfl (V.fieldAddr (o':=19) T59.f5 rfl rfl) ?_;refine WE.take rfl (V.load T52.sc rfl (Rd.own 1 rfl rfl))<|WE.take rfl (V.loadN T171.ag rfl rfl (Rds.all 0 rfl))<|WE.take rfl (V.lookupOk (α:=Nat × Nat) (enc:=encP) (key:=(x,y)) 3 T52.m K171 T3.z1 rfl rfl rfl) ?_
  rw[mget_vm]
  rcases hx:mget S.pairs (x,y) with _ | id
  rotate_left
  ·
   refine WE.take rfl (V.move rfl)<|WE.take rfl (V.extract rfl rfl)<|WE.take rfl (V.extract rfl rfl)<|WE.take rfl (V.assign rfl)<|WE.take rfl (V.assign rfl)<|WE.nil<|X.thenN<|WP.seq<|WP.regs<|L.move rfl<|L.not rfl<|WL.nil<|WP.condF rfl<|WP.skip<|X.thenN<|WP.regs<|L.move rfl<|L.assign rfl<|WL.nil<|WP.ret<|X.ret rfl (Res.one rfl rfl) ?_;exact⟨_,rfl,_,⟨.slice (some ⟨c0,0,none⟩) S.nodes.length ncap,by simp[SeaD.pair,hx,encI],rfl⟩,((Ent.left [_] _)).trans (Ent.of_eq (by simp only[SeaD.pair,hx]))⟩
  ·
   refine WE.take rfl (V.move rfl)<|WE.take rfl (V.extract rfl rfl)<|WE.take rfl (V.extract rfl rfl)<|WE.take rfl (V.assign rfl)<|WE.take rfl (V.assign rfl)<|WE.nil<|X.thenN<|WP.seq<|WP.regs<|L.move rfl<|L.not rfl<|WL.nil<|WP.condT rfl<|WP.regs<|L.move rfl<|L.move rfl<|L.nilCheck rfl<|L.fieldAddr (o':=18) T59.f4 rfl rfl<|L.load T51.sc rfl (Rd.own 1 rfl rfl)<|L.move rfl<|L.indexS T51.sl rfl rfl (by omega)<|L.fieldAddr T111.f0 rfl rfl<|L.load T3.sc rfl (Rd.vec 2 rfl (nodesC_rd S.nodes x hx0 0 rfl))<|L.add' rfl rfl (by omega)<|L.move rfl ?_;refine L.move rfl<|L.build (cs:=[_,_,_,_]) T111.b T111.z rfl rfl<|WL.call rfl rfl F110.fn rfl (FT.part (seaS b ⟨tv,tw,.slice (some ⟨c0,0,none⟩) S.nodes.length ncap,bp,br,bl,bn,ov,bm,bk⟩ S) _ ((Ent.pk [1,1,1,1,1,1,1,1,1,1,0] rfl)) fun g gS dj=>sea_add b ⟨tv,tw,.slice (some ⟨c0,0,none⟩) S.nodes.length ncap,bp,br,bl,bn,ov,bm,bk⟩ S ⟨(S.nodes.getD x .no).level+1,x,y,ByteArray.mk #[]⟩ hm hb) ?_;rintro _ _ ⟨_,⟨nv,rfl,rfl⟩,rfl⟩
   refine L.assign rfl<|WL.nil<|WP.rege [(0,true),(1,true),(2,true),(3,true),(4,true),(5,true),(6,false)] 6 rfl (by kernel_rfl) (PInv.then PInv.ret) rfl<|WE.take rfl (V.move rfl)<|WE.take rfl (V.nilCheck rfl)<|WE.take rfl (V.fieldAddr (o':=19) T59.f5 rfl rfl)<|WE.take rfl (V.load T52.sc rfl (Rd.own 0 rfl rfl))<|WE.take rfl (V.loadN T171.ag rfl rfl (Rds.all 10 rfl))<|WE.take rfl (V.move rfl)<|WE.last rfl<|L.mapUpdate (α:=Nat × Nat) (enc:=encP) (key:=(x,y)) 2 T52.m K171 rfl rfl rfl rfl<|WL.nil ?_;refine WE.nil<|X.thenN<|WP.regs<|L.move rfl<|L.assign rfl<|WL.nil<|WP.ret<|X.ret rfl (Res.one rfl rfl)<|⟨_,rfl,_,⟨nv,by simp[SeaD.pair,hx,encI],rfl⟩,((Ent.pk [1,1,0,0,0,0,0,0,0,0] rfl)).trans (Ent.of_eq ?_)⟩
   rw[mput_vm]
   simp only[SeaD.pair,hx,SeaD.addN]
   rfl
end
open Go.RowKit Go.Proofs
def NW (N:List NodeD):Prop:=∀ id,id<N.length→(N.getD id .no).level≤45∧(0<(N.getD id .no).level→(N.getD id .no).a<N.length∧(N.getD id .no).b<N.length∧
  (N.getD (N.getD id .no).a .no).level+1=(N.getD id .no).level∧(N.getD (N.getD id .no).b .no).level+1=(N.getD id .no).level)
def keepD (N:List NodeD):Nat→List (Nat × Nat)→Nat→List (Nat × Nat)
  | 0,K,_=>K
  | f+1,K,id=>if (mget K id).isSome then K else if 0<(N.getD id .no).level then keepD N f (keepD N f (mput K id id) (N.getD id .no).a) (N.getD id .no).b else mput K id id
def freshD (N:List NodeD) (K:List (Nat × Nat)):Nat→List (Nat × Nat)→Nat→Nat × List (Nat × Nat)
  | 0,seen,_=>(0,seen)
  | f+1,seen,id=>if (mget K id).isSome then (0,seen) else if (mget seen id).isSome then (0,seen) else
    if 0<(N.getD id .no).level then
     (1+(freshD N K f (mput seen id id) (N.getD id .no).a).1+(freshD N K f (freshD N K f (mput seen id id) (N.getD id .no).a).2 (N.getD id .no).b).1,
      (freshD N K f (freshD N K f (mput seen id id) (N.getD id .no).a).2 (N.getD id .no).b).2)
    else (1,mput seen id id)
theorem freshD_lt (N:List NodeD) (K:List (Nat × Nat)):∀ (f:Nat) (seen:List (Nat × Nat)) (id:Nat),(freshD N K f seen id).1<2^f
  | 0,_,_=>by simp[freshD]
  | f+1,seen,id=>by
    have h1:=freshD_lt N K f (mput seen id id) (N.getD id .no).a
    have h2:=freshD_lt N K f (freshD N K f (mput seen id id) (N.getD id .no).a).2 (N.getD id .no).b
    have hp:0<2^f:=Nat.two_pow_pos f
    unfold freshD
    rw[Nat.pow_succ]
    split
    · dsimp only;omega
    · split
      · dsimp only;omega
      · split
        · dsimp only;omega
        · dsimp only;omega
def SeaD.tell (S:SeaD) (id:Nat):SeaD × Nat × Int:=
  match mget S.names id with
  | some n=>(S,n,0)
  | none=>if S.most<S.kept.length+(freshD S.nodes S.kept ((S.nodes.getD id .no).level+1) [] id).1 then (S,0,4)
    else ({S with kept:=keepD S.nodes ((S.nodes.getD id .no).level+1) S.kept id,names:=mput S.names id S.told.length,told:=S.told++[id]},S.told.length,0)
section
variable {k:World} {h0:Hp}
set_option maxRecDepth 10000 in
theorem sea_keep1 (b f:Nat) (ih:∀ (k:World) (h0:Hp) (A:SeaA) (S:SeaD) (id:Nat),NW S.nodes→id<S.nodes.length→(S.nodes.getD id .no).level<f→FT Pg 109 [.pointer (some ⟨b,0,none⟩),encI id] k h0 (seaS b A S) (Ret fun v τ=>v=.tuple #[]∧τ=seaS b A {S with kept:=keepD S.nodes f S.kept id})) (A:SeaA) (S:SeaD) (id:Nat) (hn:NW S.nodes) (hid:id<S.nodes.length) (hlv:(S.nodes.getD id .no).level<f+1):FT Pg 109 [.pointer (some ⟨b,0,none⟩),encI id] k h0 (seaS b A S) (Ret fun v τ=>v=.tuple #[]∧τ=seaS b A {S with kept:=keepD S.nodes (f+1) S.kept id}):=by
  have hnw:=hn id hid
  refine FT.tight<|FT.fact (fun _ _ _ s=>s.vec_shape (E:=111) (sz:=4) 1 rfl) ?_
  rintro ⟨_,na,ncap,hnv,hncap,hna⟩
  obtain⟨c0,hc0⟩:=hna (by omega)
  subst hc0
  obtain⟨tv,tw,nv,bp,br,bl,bn,ov,bm,bk⟩:=A
  dsimp only at hnv
  subst hnv
  unfold encI
  refine FT.of_wp (n:=41) Tryz.func109 rfl rfl rfl<|WP.seq<|WP.regs<|L.move rfl<|L.nilCheck rfl<|L.fieldAddr (o':=25) T59.f11 rfl rfl<|L.load T57.sc rfl (Rd.own 0 rfl rfl)<|L.move rfl<|L.lookupOk (α:=Nat) (enc:=encI) (key:=id) 8 T57.m K3 T3.z1 rfl rfl rfl ?_
  rw[mget_vm]
  rcases hx:mget S.kept id with _ | id
  rotate_left
  ·
   refine L.move rfl<|L.extract rfl rfl<|L.extract rfl rfl<|L.assign rfl<|L.assign rfl<|WL.nil<|WP.regs<|L.move rfl<|WL.nil<|WP.condT rfl<|WP.ret<|X.thenR<|X.ret rfl (Res.none rfl) ?_;exact⟨_,rfl,_,⟨rfl,rfl⟩,((Ent.refl _)).trans (Ent.of_eq (by simp only[keepD,hx,Option.isSome_some,if_true]))⟩
  ·
   refine L.move rfl<|L.extract rfl rfl<|L.extract rfl rfl<|L.assign rfl<|L.assign rfl<|WL.nil<|WP.regs<|L.move rfl<|WL.nil<|WP.condF rfl<|WP.skip<|X.thenN<|WP.regs<|L.move rfl<|L.nilCheck rfl<|L.fieldAddr (o':=25) T59.f11 rfl rfl<|L.load T57.sc rfl (Rd.own 0 rfl rfl)<|L.move rfl<|L.move rfl<|L.mapUpdate (α:=Nat) (enc:=encI) (key:=id) 8 T57.m K3 rfl rfl rfl rfl ?_
   rw[show mput (vm S.kept) id (Value.int .i64 (id:Int))=vm (mput S.kept id id) from mput_vm _ _ _]
   refine WL.nil<|WP.regs<|L.move rfl<|L.nilCheck rfl<|L.fieldAddr (o':=18) T59.f4 rfl rfl<|L.load T51.sc rfl (Rd.own 1 rfl rfl)<|L.move rfl<|L.indexS T51.sl rfl rfl (by omega)<|L.loadN T111.ag rfl rfl (Rds.vec (vs:=nodeC (S.nodes.getD id .no)) 2 rfl (fun j v hj=>nodesC_rd S.nodes id hid j hj))<|L.alloc T111.z fun b1=>L.storeN T111.ag rfl rfl rfl (Wrs.all 0 rfl rfl (by simp[Value.oneCell']))<|WL.nil<|WP.regs<|L.fieldAddr (o':=0) T111.f0 rfl rfl<|L.load T3.sc rfl (Rd.own 0 rfl rfl)<|L.gtr rfl rfl<|WL.nil ?_;refine WP.condD rfl (fun h32=>?_) (fun h32=>?_)
   ·
    refine WP.regs<|L.move rfl<|L.fieldAddr (o':=1) T111.f1 rfl rfl<|L.load T3.sc rfl (Rd.own 0 rfl rfl)<|WL.call rfl rfl F109.fn rfl (FT.part (seaS b ⟨tv,tw,.slice (some ⟨c0,0,none⟩) S.nodes.length ncap,bp,br,bl,bn,ov,bm,bk⟩ {S with kept:=mput S.kept id id}) _ ((Ent.pk [2,2,2,2,2,2,2,2,1,1,0] rfl)) fun g gS dj=>ih k _ ⟨tv,tw,.slice (some ⟨c0,0,none⟩) S.nodes.length ncap,bp,br,bl,bn,ov,bm,bk⟩ {S with kept:=mput S.kept id id} (S.nodes.getD id .no).a hn (hnw.2 (by omega)).1 (by have:=(hnw.2 (by omega)).2.2.1;dsimp only;omega)) ?_;rintro _ _ ⟨_,⟨rfl,rfl⟩,rfl⟩
    refine WL.nil<|WP.region<|L.move rfl<|L.fieldAddr (o':=2) T111.f2 rfl rfl<|L.load T3.sc rfl (Rd.own 10 rfl rfl)<|WL.call rfl rfl F109.fn rfl (FT.part (seaS b ⟨tv,tw,.slice (some ⟨c0,0,none⟩) S.nodes.length ncap,bp,br,bl,bn,ov,bm,bk⟩ {S with kept:=keepD S.nodes f (mput S.kept id id) (S.nodes.getD id .no).a}) _ ((Ent.refl _)) fun g gS dj=>ih k _ ⟨tv,tw,.slice (some ⟨c0,0,none⟩) S.nodes.length ncap,bp,br,bl,bn,ov,bm,bk⟩ {S with kept:=keepD S.nodes f (mput S.kept id id) (S.nodes.getD id .no).a} (S.nodes.getD id .no).b hn (hnw.2 (by omega)).2.1 (by have:=(hnw.2 (by omega)).2.2.2;dsimp only;omega)) ?_;rintro _ _ ⟨_,⟨rfl,rfl⟩,rfl⟩
    refine WL.nil<|X.end rfl (Res.none rfl)<|⟨_,rfl,_,⟨rfl,rfl⟩,((Ent.pk [0,0,0,0,0,0,0,0,0,0] rfl)).trans (Ent.of_eq ?_)⟩
    simp only[keepD,hx,Option.isSome_none,Bool.false_eq_true,if_false]
    rw[if_pos (by omega)]
    first | done | rfl
   ·
    refine WP.skip<|X.end rfl (Res.none rfl)<|⟨_,rfl,_,⟨rfl,rfl⟩,((Ent.pk [2,2,2,2,2,2,2,2,1,1] rfl)).trans (Ent.of_eq ?_)⟩
    simp only[keepD,hx,Option.isSome_none,Bool.false_eq_true,if_false]
    rw[if_neg (by omega)]
    first | done | rfl
theorem sea_keep (b:Nat):∀ (f:Nat) (k:World) (h0:Hp) (A:SeaA) (S:SeaD) (id:Nat),NW S.nodes→id<S.nodes.length→(S.nodes.getD id .no).level<f→FT Pg 109 [.pointer (some ⟨b,0,none⟩),encI id] k h0 (seaS b A S) (Ret fun v τ=>v=.tuple #[]∧τ=seaS b A {S with kept:=keepD S.nodes f S.kept id})
  | 0,_,_,_,_,_,_,_,h=>absurd h (by omega)
  | f+1,k,h0,A,S,id,hn,hid,hlv=>sea_keep1 b f (sea_keep b f) A S id hn hid hlv
end
open Go.RowKit Go.Proofs
section
variable {k:World} {h0:Hp}
set_option maxRecDepth 10000 in
theorem sea_fresh1 (b f:Nat) (hf:f≤50) (ih:∀ (k:World) (h0:Hp) (A:SeaA) (S:SeaD) (seen:List (Nat × Nat)) (bs:Nat) (id:Nat),NW S.nodes→id<S.nodes.length→(S.nodes.getD id .no).level<f→FT Pg 108 [.pointer (some ⟨b,0,none⟩),encI id,.map (some bs)] k h0 (seaS b A S++[mpO bs encI (vm seen)]) (Ret fun v τ=>v=encI (freshD S.nodes S.kept f seen id).1∧τ=seaS b A S++[mpO bs encI (vm (freshD S.nodes S.kept f seen id).2)])) (A:SeaA) (S:SeaD) (seen:List (Nat × Nat)) (bs:Nat) (id:Nat) (hn:NW S.nodes) (hid:id<S.nodes.length) (hlv:(S.nodes.getD id .no).level<f+1):FT Pg 108 [.pointer (some ⟨b,0,none⟩),encI id,.map (some bs)] k h0 (seaS b A S++[mpO bs encI (vm seen)]) (Ret fun v τ=>v=encI (freshD S.nodes S.kept (f+1) seen id).1∧τ=seaS b A S++[mpO bs encI (vm (freshD S.nodes S.kept (f+1) seen id).2)]):=by
  have hnw:=hn id hid
  refine FT.tight<|FT.fact (fun _ _ _ s=>s.vec_shape (E:=111) (sz:=4) 1 rfl) ?_
  rintro ⟨_,na,ncap,hnv,hncap,hna⟩
  obtain⟨c0,hc0⟩:=hna (by omega)
  subst hc0
  obtain⟨tv,tw,nv,bp,br,bl,bn,ov,bm,bk⟩:=A
  dsimp only at hnv
  subst hnv
  unfold encI
  refine FT.of_wp (n:=54) Tryz.func108 rfl rfl rfl<|WP.regs<|L.assign rfl<|WL.nil<|WP.seq<|WP.regs<|L.move rfl<|L.nilCheck rfl<|L.fieldAddr (o':=25) T59.f11 rfl rfl<|L.load T57.sc rfl (Rd.own 0 rfl rfl)<|L.move rfl<|L.lookupOk (α:=Nat) (enc:=encI) (key:=id) 8 T57.m K3 T3.z1 rfl rfl rfl ?_
  rw[mget_vm]
  rcases hx:mget S.kept id with _ | id
  rotate_left
  ·
   refine L.move rfl<|L.extract rfl rfl<|L.extract rfl rfl<|L.assign rfl<|L.assign rfl<|WL.nil<|WP.regs<|L.move rfl<|WL.nil<|WP.condT rfl<|WP.regs<|L.assign rfl<|WL.nil<|WP.ret<|X.thenR<|X.ret rfl (Res.one rfl rfl) ?_;exact⟨_,rfl,_,⟨by simp only[freshD,hx,Option.isSome_some,if_true];rfl,rfl⟩,((Ent.refl _)).trans (Ent.of_eq (by simp only[freshD,hx,Option.isSome_some,if_true] <;> rfl))⟩
  ·
   refine L.move rfl<|L.extract rfl rfl<|L.extract rfl rfl<|L.assign rfl<|L.assign rfl<|WL.nil<|WP.regs<|L.move rfl<|WL.nil<|WP.condF rfl<|WP.skip<|X.thenN<|WP.seq<|WP.regs<|L.move rfl<|L.move rfl<|L.lookupOk (α:=Nat) (enc:=encI) (key:=id) 10 T57.m K3 T3.z1 rfl rfl rfl ?_
   rw[mget_vm]
   rcases hy:mget seen id with _ | id2
   rotate_left
   ·
    refine L.move rfl<|L.extract rfl rfl<|L.extract rfl rfl<|L.assign rfl<|L.assign rfl<|WL.nil<|WP.regs<|L.move rfl<|WL.nil<|WP.condT rfl<|WP.regs<|L.assign rfl<|WL.nil<|WP.ret<|X.thenR<|X.ret rfl (Res.one rfl rfl) ?_;exact⟨_,rfl,_,⟨by simp only[freshD,hx,hy,Option.isSome_some,Option.isSome_none,Bool.false_eq_true,if_true,if_false];rfl,rfl⟩,((Ent.refl _)).trans (Ent.of_eq (by simp only[freshD,hx,hy,Option.isSome_some,Option.isSome_none,Bool.false_eq_true,if_true,if_false] <;> rfl))⟩
   ·
    refine L.move rfl<|L.extract rfl rfl<|L.extract rfl rfl<|L.assign rfl<|L.assign rfl<|WL.nil<|WP.regs<|L.move rfl<|WL.nil<|WP.condF rfl<|WP.skip<|X.thenN<|WP.regs<|L.move rfl<|L.move rfl<|L.move rfl<|L.mapUpdate (α:=Nat) (enc:=encI) (key:=id) 10 T57.m K3 rfl rfl rfl rfl ?_
    rw[show mput (vm seen) id (Value.int .i64 (id:Int))=vm (mput seen id id) from mput_vm _ _ _]
    refine WL.ent (Ent.of_eq (show _=mpO bs encI (vm (mput seen id id))::seaS b ⟨tv,tw,.slice (some ⟨c0,0,none⟩) S.nodes.length ncap,bp,br,bl,bn,ov,bm,bk⟩ S from rfl))<|WL.nil<|WP.seq<|WP.regs<|L.move rfl<|L.nilCheck rfl<|L.fieldAddr (o':=18) T59.f4 rfl rfl<|L.load T51.sc rfl (Rd.own 1 rfl rfl)<|L.move rfl<|L.indexS T51.sl rfl rfl (by omega)<|L.loadN T111.ag rfl rfl (Rds.vec (vs:=nodeC (S.nodes.getD id .no)) 2 rfl (fun j v hj=>nodesC_rd S.nodes id hid j hj))<|L.alloc T111.z fun b1=>L.storeN T111.ag rfl rfl rfl (Wrs.all 0 rfl rfl (by simp[Value.oneCell']))<|WL.nil ?_;refine WP.regs<|L.fieldAddr (o':=0) T111.f0 rfl rfl<|L.load T3.sc rfl (Rd.own 0 rfl rfl)<|L.gtr rfl rfl<|WL.nil<|WP.condD rfl (fun h41=>?_) (fun h41=>?_)
    ·
     refine WP.seq<|WP.regeq _ (Ent.pk [0,1,1,1,1,1,1,1,1,1,1] rfl) [(0,true),(1,true),(2,true),(3,true),(6,true),(7,true),(8,true),(9,true),(4,false),(5,true),(10,false),(11,true),(12,true)] 13 rfl (by kernel_rfl) (PInv.then (PInv.then PInv.ret)) rfl<|WE.take rfl (V.move rfl)<|WE.take rfl (V.fieldAddr (o':=1) T111.f1 rfl rfl)<|WE.take rfl (V.load T3.sc rfl (Rd.own 0 rfl rfl))<|WE.take rfl (V.move rfl)<|WE.take rfl (V.move rfl)<|WE.take rfl (V.fieldAddr (o':=2) T111.f2 rfl rfl)<|WE.take rfl (V.load T3.sc rfl (Rd.own 0 rfl rfl)) ?_;refine WE.take rfl (V.move rfl)<|WE.one rfl<|WL.call rfl rfl F108.fn rfl (FT.part (seaS b ⟨tv,tw,.slice (some ⟨c0,0,none⟩) S.nodes.length ncap,bp,br,bl,bn,ov,bm,bk⟩ S++[mpO bs encI (vm (mput seen id id))]) _ ((Ent.pk [2,2,2,2,2,2,2,2,2,2,1,0] rfl)) fun g gS dj=>ih k _ ⟨tv,tw,.slice (some ⟨c0,0,none⟩) S.nodes.length ncap,bp,br,bl,bn,ov,bm,bk⟩ S (mput seen id id) bs (S.nodes.getD id .no).a hn (hnw.2 (by omega)).1 (by have:=(hnw.2 (by omega)).2.2.1;omega)) ?_;rintro _ _ ⟨_,⟨rfl,rfl⟩,rfl⟩
     refine WL.nil ⟨(Ent.pk [11,0,0,0,0,0,0,0,0,0,0] rfl),?_⟩
     have hf1:(freshD S.nodes S.kept f (mput seen id id) (S.nodes.getD id .no).a).1<2^f:=freshD_lt _ _ _ _ _
     have hf2:(freshD S.nodes S.kept f (freshD S.nodes S.kept f (mput seen id id) (S.nodes.getD id .no).a).2 (S.nodes.getD id .no).b).1<2^f:=freshD_lt _ _ _ _ _
     have hpf:2^f≤2^50:=Nat.pow_le_pow_right (by omega) hf
     unfold encI
     refine WE.take rfl (V.add' rfl rfl (by omega))<|WE.one rfl<|WL.call rfl rfl F108.fn rfl (FT.part (seaS b ⟨tv,tw,.slice (some ⟨c0,0,none⟩) S.nodes.length ncap,bp,br,bl,bn,ov,bm,bk⟩ S++[mpO bs encI (vm (freshD S.nodes S.kept f (mput seen id id) (S.nodes.getD id .no).a).2)]) _ ((Ent.refl _)) fun g gS dj=>ih k _ ⟨tv,tw,.slice (some ⟨c0,0,none⟩) S.nodes.length ncap,bp,br,bl,bn,ov,bm,bk⟩ S (freshD S.nodes S.kept f (mput seen id id) (S.nodes.getD id .no).a).2 bs (S.nodes.getD id .no).b hn (hnw.2 (by omega)).2.1 (by have:=(hnw.2 (by omega)).2.2.2;omega)) ?_;rintro _ _ ⟨_,⟨rfl,rfl⟩,rfl⟩;refine WL.nil ⟨(Ent.pk [11,0,0,0,0,0,0,0,0,0,0] rfl),?_⟩
     refine WE.take rfl (V.add' rfl rfl (by omega))<|WE.take rfl (V.assign rfl)<|WE.nil<|X.thenN<|WP.ret<|X.thenR<|X.ret rfl (Res.one rfl rfl) ?_
     have hfr:freshD S.nodes S.kept (f+1) seen id=(1+(freshD S.nodes S.kept f (mput seen id id) (S.nodes.getD id .no).a).1+(freshD S.nodes S.kept f (freshD S.nodes S.kept f (mput seen id id) (S.nodes.getD id .no).a).2 (S.nodes.getD id .no).b).1,(freshD S.nodes S.kept f (freshD S.nodes S.kept f (mput seen id id) (S.nodes.getD id .no).a).2 (S.nodes.getD id .no).b).2):=by simp only[freshD,hx,hy,Option.isSome_none,Bool.false_eq_true,if_false];rw[if_pos (by omega)]
     rw[hfr]
     refine⟨_,rfl,_,⟨?_,rfl⟩,((Ent.pk [0,0,0,0,0,0,0,0,0,0,0] rfl)).trans (Ent.of_eq ?_)⟩
     · show Value.int .i64 _=Value.int .i64 _;congr 1 <;> omega
     · rfl
    ·
     refine WP.skip<|X.thenN<|WP.regs<|L.assign rfl<|WL.nil<|WP.ret<|X.ret rfl (Res.one rfl rfl) ?_
     have hfr:freshD S.nodes S.kept (f+1) seen id=(1,(mput seen id id)):=by simp only[freshD,hx,hy,Option.isSome_none,Bool.false_eq_true,if_false];rw[if_neg (by omega)]
     rw[hfr]
     refine⟨_,rfl,_,⟨rfl,rfl⟩,((Ent.pk [2,2,2,2,2,2,2,2,2,2,1] rfl)).trans (Ent.of_eq ?_)⟩
     rfl
theorem sea_fresh (b:Nat):∀ (f:Nat) (hf:f≤51) (k:World) (h0:Hp) (A:SeaA) (S:SeaD) (seen:List (Nat × Nat)) (bs:Nat) (id:Nat),NW S.nodes→id<S.nodes.length→(S.nodes.getD id .no).level<f→FT Pg 108 [.pointer (some ⟨b,0,none⟩),encI id,.map (some bs)] k h0 (seaS b A S++[mpO bs encI (vm seen)]) (Ret fun v τ=>v=encI (freshD S.nodes S.kept f seen id).1∧τ=seaS b A S++[mpO bs encI (vm (freshD S.nodes S.kept f seen id).2)]):=by
  intro f
  induction f with
  | zero=>exact fun _ _ _ _ _ _ _ _ _ _ h=>absurd h (by omega)
  | succ f ih=>exact fun hf k h0 A S seen bs id hn hid hlv=>sea_fresh1 b f (by omega) (ih (by omega)) A S seen bs id hn hid hlv
end
open Go.RowKit Go.Proofs
section
variable {k:World} {h0:Hp}
set_option maxRecDepth 10000 in
theorem sea_tell (b:Nat) (A:SeaA) (S:SeaD) (id:Nat) (hn:NW S.nodes) (hid:id<S.nodes.length) (hk:S.kept.length≤1048576) (htl:S.told.length≤1048576):FT Pg 52 [.pointer (some ⟨b,0,none⟩),encI id] k h0 (seaS b A S) (Ret fun v τ=>∃ ov,v=.tuple #[encI (S.tell id).2.1,.int .i64 (S.tell id).2.2]∧τ=seaS b {A with ov:=ov} (S.tell id).1):=by
  have hnw:=hn id hid;have hvl:=vm_len S.kept
  refine FT.tight<|FT.fact (fun _ _ _ s=>s.vec_shape (E:=111) (sz:=4) 1 rfl) ?_
  rintro ⟨_,na,ncap,hnv,hncap,hna⟩
  obtain⟨c0,hc0⟩:=hna (by omega)
  subst hc0
  obtain⟨tv,tw,nv,bp,br,bl,bn,ov,bm,bk⟩:=A
  dsimp only at hnv
  subst hnv
  unfold encI
  refine FT.fact (fun _ _ _ s=>s.vec_shape (E:=3) (sz:=1) 6 rfl) ?_
  rintro ⟨_,oa,ocap,hov,hocap,hoa⟩
  dsimp only at hov
  subst hov
  refine FT.of_wp (n:=63) Tryz.func52 rfl rfl rfl<|WP.regs<|L.assign rfl<|L.assign rfl<|WL.nil<|WP.seq<|WP.regs<|L.move rfl<|L.nilCheck rfl<|L.fieldAddr (o':=24) T59.f10 rfl rfl<|L.load T57.sc rfl (Rd.own 0 rfl rfl)<|L.move rfl<|L.lookupOk (α:=Nat) (enc:=encI) (key:=id) 7 T57.m K3 T3.z1 rfl rfl rfl ?_
  rw[mget_vm]
  rcases hx:mget S.names id with _ | id
  rotate_left
  ·
   refine L.move rfl<|L.extract rfl rfl<|L.extract rfl rfl<|L.assign rfl<|L.assign rfl<|WL.nil<|WP.regs<|L.move rfl<|WL.nil<|WP.condT rfl<|WP.regs<|L.move rfl<|L.assign rfl<|L.assign rfl<|WL.nil<|WP.ret<|X.thenR<|X.ret rfl (Res.two rfl rfl rfl) ?_;exact⟨_,rfl,_,⟨.slice oa S.told.length ocap,by simp[SeaD.tell,hx,encI],rfl⟩,((Ent.refl _)).trans (Ent.of_eq (by simp only[SeaD.tell,hx]))⟩
  ·
   refine L.move rfl<|L.extract rfl rfl<|L.extract rfl rfl<|L.assign rfl<|L.assign rfl<|WL.nil<|WP.regs<|L.move rfl<|WL.nil<|WP.condF rfl<|WP.skip<|X.thenN<|WP.seq<|WP.seq<|WP.rege [(0,true),(1,true),(2,true),(3,true),(4,true),(5,true),(6,true),(10,true),(11,true),(12,true),(13,true),(7,false),(8,false),(9,true),(14,true)] 15 rfl (by kernel_rfl) (PInv.then (PInv.then PInv.ret)) rfl<|WE.take rfl (V.move rfl)<|WE.take rfl (V.nilCheck rfl)<|WE.take rfl (V.fieldAddr (o':=25) T59.f11 rfl rfl)<|WE.take rfl (V.load T57.sc rfl (Rd.own 0 rfl rfl)) ?_;refine WE.take rfl (V.lenMap 8 T57.m rfl rfl rfl)<|WE.take rfl (V.move rfl)<|WE.take rfl (V.move rfl)<|WE.take rfl (V.move rfl)<|WE.take rfl (V.nilCheck rfl)<|WE.take rfl (V.fieldAddr (o':=17) T59.f3 rfl rfl)<|WE.take rfl (V.load T3.sc rfl (Rd.own 0 rfl rfl))<|WE.one rfl<|L.makeMap (α:=Nat) (enc:=encI) fun b1=>WL.nil ⟨(Ent.left [_] _),?_⟩
   refine WE.one rfl<|WL.call rfl rfl F108.fn rfl (FT.part (seaS b ⟨tv,tw,.slice (some ⟨c0,0,none⟩) S.nodes.length ncap,bp,br,bl,bn,.slice oa S.told.length ocap,bm,bk⟩ S++[mpO b1 encI (vm [])]) _ ((Ent.pk [1,1,1,1,1,1,1,1,1,1,0] rfl)) fun g gS dj=>sea_fresh b ((S.nodes.getD id .no).level+1) (by omega) k _ ⟨tv,tw,.slice (some ⟨c0,0,none⟩) S.nodes.length ncap,bp,br,bl,bn,.slice oa S.told.length ocap,bm,bk⟩ S [] b1 id hn hid (by omega)) ?_;rintro _ _ ⟨_,⟨rfl,rfl⟩,rfl⟩
   have hf1:(freshD S.nodes S.kept ((S.nodes.getD id .no).level+1) [] id).1<2^((S.nodes.getD id .no).level+1):=freshD_lt _ _ _ _ _
   have hpf:2^((S.nodes.getD id .no).level+1)≤2^50:=Nat.pow_le_pow_right (by omega) (by omega)
   unfold encI
   refine WL.nil ⟨(Ent.pk [0,0,0,0,0,0,0,0,0,0] rfl),?_⟩;refine WE.take rfl (V.add' rfl rfl (by omega))<|WE.take rfl (V.gtr rfl rfl)<|WE.nil<|X.thenN<|WP.condD rfl (fun h33=>?_) (fun h33=>?_)
   ·
    refine WP.regs<|L.assign rfl<|L.assign rfl<|WL.nil<|WP.ret<|X.thenR<|X.ret rfl (Res.two rfl rfl rfl) ?_
    have ht:S.tell id=(S,0,4):=by simp only[SeaD.tell,hx];rw[if_pos (by omega)]
    rw[ht]
    refine⟨_,rfl,_,⟨.slice oa S.told.length ocap,rfl,rfl⟩,((Ent.pk [0,0,0,0,0,0,0,0,0,0] rfl)).trans (Ent.of_eq ?_)⟩
    rfl
   ·
    refine WP.skip<|X.thenN<|WP.regs<|L.move rfl<|L.move rfl<|WL.call rfl rfl F109.fn rfl (FT.part (seaS b ⟨tv,tw,.slice (some ⟨c0,0,none⟩) S.nodes.length ncap,bp,br,bl,bn,.slice oa S.told.length ocap,bm,bk⟩ S) _ ((Ent.refl _)) fun g gS dj=>sea_keep b ((S.nodes.getD id .no).level+1) k _ ⟨tv,tw,.slice (some ⟨c0,0,none⟩) S.nodes.length ncap,bp,br,bl,bn,.slice oa S.told.length ocap,bm,bk⟩ S id hn hid (by omega)) ?_;rintro _ _ ⟨_,⟨rfl,rfl⟩,rfl⟩
    refine WL.nil<|WP.seq<|WP.rege [(0,true),(1,true),(2,true),(3,true),(4,true),(5,true),(6,true),(7,true),(8,true),(9,true),(10,false)] 10 rfl (by kernel_rfl) (PInv.then PInv.ret) rfl<|WE.take rfl (V.move rfl)<|WE.take rfl (V.nilCheck rfl)<|WE.take rfl (V.fieldAddr (o':=24) T59.f10 rfl rfl)<|WE.take rfl (V.load T57.sc rfl (Rd.own 0 rfl rfl))<|WE.take rfl (V.move rfl)<|WE.take rfl (V.move rfl)<|WE.take rfl (V.nilCheck rfl)<|WE.take rfl (V.fieldAddr (o':=23) T59.f9 rfl rfl)<|WE.take rfl (V.load T56.sc rfl (Rd.own 0 rfl rfl))<|WE.take rfl (V.lenS T56.sl rfl rfl) ?_;refine WE.last rfl<|L.mapUpdate (α:=Nat) (enc:=encI) (key:=id) 7 T57.m K3 rfl rfl rfl rfl ?_
    rw[show mput (vm S.names) id (Value.int .i64 (S.told.length:Int))=vm (mput S.names id S.told.length) from mput_vm _ _ _]
    refine WL.nil<|WE.nil<|X.thenN<|WP.regs<|L.move rfl<|L.move rfl<|L.nilCheck rfl<|L.fieldAddr (o':=23) T59.f9 rfl rfl<|L.load T56.sc rfl (Rd.own 1 rfl rfl)<|L.move rfl<|L.slice1 T56.sl T3.z rfl rfl rfl rfl rfl rfl fun b2=>L.append (i:=8) (news:=[encI id]) T56.sl T3.z rfl rfl rfl rfl rfl rfl (fun _ _ _ e=>by cases e;exact⟨rfl,Rds.all 0 rfl⟩) (fun e=>by cases e) (by simp[Value.oneCell',encI]) (by dsimp only;omega) ?_;intro u2
    refine WL.fact (φ:=u2.oneCell'=true) (fun _ _ _ s=>s.vec_one 0 rfl) fun hv1=>L.nilCheck rfl<|L.fieldAddr (o':=23) T59.f9 rfl rfl<|L.store T56.sc rfl rfl hv1 (Wr.at 3 rfl rfl)<|WL.nil<|WP.regs<|L.move rfl<|L.nilCheck rfl<|L.fieldAddr (o':=24) T59.f10 rfl rfl<|L.load T57.sc rfl (Rd.own 3 rfl rfl)<|L.move rfl<|L.lookup (α:=Nat) (enc:=encI) (key:=id) 2 T57.m K3 T3.z1 rfl rfl rfl ?_
    rw[mget_vm,mget_put,if_pos rfl]
    refine L.assign rfl<|L.assign rfl<|WL.nil<|WP.ret<|X.ret rfl (Res.two rfl rfl rfl) ?_
    have ht:S.tell id=({S with kept:=(keepD S.nodes ((S.nodes.getD id .no).level+1) S.kept id),names:=mput S.names id S.told.length,told:=S.told++[id]},S.told.length,0):=by simp only[SeaD.tell,hx];rw[if_neg (by omega)]
    rw[ht]
    refine⟨_,rfl,_,⟨u2,rfl,rfl⟩,((Ent.pk [3,3,3,3,3,3,0,1,1,1] rfl)).trans (Ent.of_eq ?_)⟩
    show _=[_,_,_,_,_,_,vec 3 1 _ (S.told++[id]).length (idsC (S.told++[id])),_,_,_]
    rw[List.length_append,show idsC (S.told++[id])=idsC S.told++[encI id] by simp[idsC]]
    rfl
end
open Go.RowKit Go.Proofs
def intsB (x:ByteArray):List Int:=x.data.toList.map fun b=>(b.toNat:Int)
theorem bytesV_u8s (x:ByteArray):bytesV x=u8sC (intsB x):=by simp[bytesV,u8sC,intsB]
theorem intsB_len (x:ByteArray):(intsB x).length=x.size:=by unfold intsB;rw[List.length_map];rfl
def lineB (S:SeaD) (x y z:ByteArray):ByteArray:=textOf (lineD S.r S.t (intsB x) (intsB y) (intsB z))
def SeaD.row' (S:SeaD) (id:Nat):ByteArray:=(S.nodes.getD id .no).row
def SeaD.line (S:SeaD) (x y z:Nat):SeaD × Nat:=
  match mget S.lines (x,y,z) with
  | some id=>(S,id)
  | none=>({(S.row (lineB S (S.row' x) (S.row' y) (S.row' z))).1 with lines:=mput S.lines (x,y,z) (S.row (lineB S (S.row' x) (S.row' y) (S.row' z))).2},(S.row (lineB S (S.row' x) (S.row' y) (S.row' z))).2)
structure SeaK (S:SeaD):Prop where
  rw:S.r.Wd
  tw:S.t.Wd
  ok:WOk S.r S.t
  st:S.states=S.r.nSt
  most:S.most≤1048576
def RowOkB (S:SeaD) (x:ByteArray):Prop:=(x.size:Int)=S.t.w∧∀ i,i<x.size→0≤(intsB x).getD i 0∧(intsB x).getD i 0<S.r.nSt
theorem row_lines (S:SeaD) (x:ByteArray):(S.row x).1.lines=S.lines:=by
  unfold SeaD.row;split <;> rfl
section
variable {k:World} {h0:Hp}
set_option maxRecDepth 10000 in
theorem sea_there (b:Nat) (A:SeaA) (S:SeaD) (hb:At h0 b (seaC A S) 59) (hm:0<S.most):FT Pg 44 [.pointer (some ⟨b,0,none⟩)] k h0 [] (Is (.bool true)):=by
  refine FT.of_wp (n:=12) Tryz.func44 rfl rfl rfl<|WP.regs<|L.assign rfl<|WL.nil<|WP.regs<|L.move rfl<|L.neqPtrNil T38.u rfl<|L.move rfl<|L.move rfl<|L.nilCheck rfl<|L.fieldAddr (o':=17) T59.f3 rfl rfl<|L.load T3.sc rfl (Rd.of hb rfl)<|L.gtr rfl rfl<|L.pickT rfl rfl<|L.assign rfl<|WL.nil<|WP.ret<|X.ret rfl (Res.one rfl rfl) ?_
  show _=_
  rw[decide_eq_true (by omega)]
set_option maxRecDepth 10000 in
theorem sea_known (b:Nat) (A:SeaA) (S:SeaD) (hb:At h0 b (seaC A S) 59) (hv:∃ a cap,A.ov=.slice a S.told.length cap) (id:Int):FT Pg 54 [.pointer (some ⟨b,0,none⟩),.int .i64 id] k h0 [] (Is (.bool (decide (0≤id∧id<S.told.length)))):=by
  obtain⟨oa,ocap,hv⟩:=hv
  obtain⟨tv,tw,nv,bp,br,bl,bn,ov,bm,bk⟩:=A
  dsimp only at hv
  subst hv
  refine FT.of_wp (n:=16) Tryz.func54 rfl rfl rfl<|WP.regs<|L.assign rfl<|WL.nil<|WP.regs<|L.move rfl<|L.geqD rfl rfl (fun h6=>?_) (fun h6=>?_);refine L.move rfl<|L.move rfl<|L.move rfl<|L.nilCheck rfl<|L.fieldAddr T59.f9 rfl rfl<|L.load T56.sc rfl (Rd.of hb rfl)<|L.lenS T56.sl rfl rfl<|L.lss rfl rfl<|L.pickT rfl rfl<|L.assign rfl<|WL.nil<|WP.ret<|X.ret rfl (Res.one rfl rfl) ?_
  show _=_
  simp[*]
  refine L.move rfl ?_
  iterate 7 refine L.skip ?_
  refine L.pickF rfl rfl<|L.assign rfl<|WL.nil<|WP.ret<|X.ret rfl (Res.one rfl rfl) ?_
  show _=_
  simp[*]
end
open Go.RowKit Go.Proofs
section
variable {k:World} {h0:Hp}
set_option maxRecDepth 10000 in
set_option maxHeartbeats 4000000 in
theorem sea_line (b:Nat) (A:SeaA) (S:SeaD) (K:SeaK S) (x0 y0 z0:Nat) (hx0:x0<S.nodes.length) (hy0:y0<S.nodes.length) (hz0:z0<S.nodes.length) (rx:RowOkB S (S.row' x0)) (ry:RowOkB S (S.row' y0)) (rz:RowOkB S (S.row' z0)) (hm:S.nodes.length<S.most):FT Pg 111 [.pointer (some ⟨b,0,none⟩),encI x0,encI y0,encI z0] k h0 (seaS b A S) (Ret fun v τ=>∃ nv,v=encI (S.line x0 y0 z0).2∧τ=seaS b {A with nv:=nv} (S.line x0 y0 z0).1):=by
  have hto:=K.ok.2.1;unfold TopoD.Ok at hto
  have hmo:=K.most
  refine FT.tight<|FT.fact (fun _ _ _ s=>s.vec_shape (E:=111) (sz:=4) 1 rfl) ?_
  rintro ⟨_,na,ncap,hnv,hncap,hna⟩
  obtain⟨c0,hc0⟩:=hna (by omega)
  subst hc0
  obtain⟨tv,tw,nv,bp,br,bl,bn,ov,bm,bk⟩:=A
  dsimp only at hnv
  subst hnv
  unfold encI
  refine FT.of_wp (n:=80) Tryz.func111 rfl rfl rfl<|WP.regs<|L.assign rfl<|WL.nil<|WP.regs<|L.move rfl<|L.move rfl<|L.move rfl<|L.build (cs:=[_,_,_]) T204.b T204.z rfl rfl<|L.alloc T204.z fun b1=>L.storeN T204.ag rfl rfl rfl (Wrs.all 0 rfl rfl (by simp[Value.oneCell']))<|WL.nil<|WP.seq<|WP.seq<|WP.rege [(0,true),(1,true),(2,true),(3,true),(4,true),(5,true),(6,true),(7,true),(8,true),(9,true),(10,true)] 11 rfl (by kernel_rfl) (PInv.then (PInv.then PInv.ret)) rfl<|WE.take rfl (V.move rfl)<|WE.take rfl (V.nilCheck rfl) ?_;refine WE.take rfl (V.fieldAddr (o':=22) T59.f8 rfl rfl)<|WE.take rfl (V.load T55.sc rfl (Rd.own 1 rfl rfl))<|WE.take rfl (V.loadN T204.ag rfl rfl (Rds.all 0 rfl))<|WE.take rfl (V.lookupOk (α:=Nat × Nat × Nat) (enc:=enc3) (key:=(x0,y0,z0)) 6 T55.m K204 T3.z1 rfl rfl rfl) ?_
  rw[mget_vm]
  rcases hq:mget S.lines (x0,y0,z0) with _ | id
  rotate_left
  ·
   refine WE.take rfl (V.move rfl)<|WE.take rfl (V.extract rfl rfl)<|WE.take rfl (V.extract rfl rfl)<|WE.take rfl (V.assign rfl)<|WE.take rfl (V.assign rfl)<|WE.nil<|X.thenN<|WP.regs<|L.move rfl<|WL.nil<|WP.condT rfl<|WP.regs<|L.move rfl<|L.assign rfl<|WL.nil<|WP.ret<|X.thenR<|X.ret rfl (Res.one rfl rfl) ?_;exact⟨_,rfl,_,⟨.slice (some ⟨c0,0,none⟩) S.nodes.length ncap,by simp[SeaD.line,hq,encI],rfl⟩,((Ent.left [_] _)).trans (Ent.of_eq (by simp only[SeaD.line,hq]))⟩
  ·
   refine WE.take rfl (V.move rfl)<|WE.take rfl (V.extract rfl rfl)<|WE.take rfl (V.extract rfl rfl)<|WE.take rfl (V.assign rfl)<|WE.take rfl (V.assign rfl)<|WE.nil<|X.thenN<|WP.regs<|L.move rfl<|WL.nil<|WP.condF rfl<|WP.skip<|X.thenN<|WP.cut (X:=Value × Nat) (fun x=>⟨80,[],[(0,.pointer (some ⟨b,0,none⟩)),(1,.int .i64 (x0:Int)),(2,.int .i64 (y0:Int)),(3,.int .i64 (z0:Int)),(9,.pointer (some ⟨b1,0,none⟩)),(12,x.1)]⟩) (fun x=>[vec 5 1 x.1 S.t.w.toNat (u8sC (lineD S.r S.t (intsB (S.row' x0)) (intsB (S.row' y0)) (intsB (S.row' z0)))),cl b1 [.int .i64 (x0:Int),.int .i64 (y0:Int),.int .i64 (z0:Int)] 204]++seaS b ⟨tv,tw,.slice (some ⟨c0,0,none⟩) S.nodes.length ncap,bp,br,bl,bn,ov,bm,bk⟩ S) (fun x=>True) ?_ ?_
   ·
    refine WP.regn _ rfl ?_ (Ent.refl _)
    refine WT.read (m:=9) (fin:=fun l=>l == #[true,true,true,true,true,true,true,true,true,true,true,true,true,true,true,true,false,true,true,true,true,true,true,true,true,false,true,true,true,true,true,true,true,true,false,false,false,false,false,false,false]) [(0,true),(1,true),(2,true),(3,true),(4,true),(5,true),(6,true),(7,true),(8,true),(9,true),(10,true),(11,true),(12,true),(13,true),(14,true),(15,true),(17,true),(18,true),(19,true),(20,true),(21,true),(22,true),(23,true),(24,true),(26,true),(27,true),(28,true),(29,true),(30,true),(31,true),(32,true),(33,true)] (by kernel_rfl) (PInv.then PInv.ret) (Ent.refl _)<|WE.take rfl (V.move rfl) ?_;refine WE.take rfl (V.nilCheck rfl)<|WE.take rfl (V.fieldAddr (o':=0) T59.f0 rfl rfl)<|WE.take rfl (V.loadN T32.ag rfl rfl (Rds.own (vs:=[_,_,_,_,_,_,_,_,_,_,_]) 1 rfl rfl))<|WE.take rfl (V.move rfl)<|WE.take rfl (V.nilCheck rfl)<|WE.take rfl (V.fieldAddr (o':=11) T59.f1 rfl rfl)<|WE.take rfl (V.loadN T34.ag rfl rfl (Rds.own (vs:=[_,_,_,_,_]) 1 rfl rfl))<|WE.take rfl (V.move rfl)<|WE.take rfl (V.nilCheck rfl)<|WE.take rfl (V.fieldAddr (o':=18) T59.f4 rfl rfl)<|WE.take rfl (V.load T51.sc rfl (Rd.own 1 rfl rfl))<|WE.take rfl (V.move rfl) ?_;refine WE.take rfl (V.indexS T51.sl rfl rfl (by omega))<|WE.take rfl (V.fieldAddr T111.f3 rfl rfl)<|WE.take rfl (V.load T9.sc rfl (Rd.vec 2 rfl (nodesC_rd S.nodes x0 hx0 3 rfl)))<|WE.take rfl (V.move rfl)<|WE.take rfl (V.nilCheck rfl)<|WE.take rfl (V.fieldAddr (o':=18) T59.f4 rfl rfl)<|WE.take rfl (V.load T51.sc rfl (Rd.own 1 rfl rfl))<|WE.take rfl (V.move rfl)<|WE.take rfl (V.indexS T51.sl rfl rfl (by omega))<|WE.take rfl (V.fieldAddr T111.f3 rfl rfl)<|WE.take rfl (V.load T9.sc rfl (Rd.vec 2 rfl (nodesC_rd S.nodes y0 hy0 3 rfl)))<|WE.take rfl (V.move rfl) ?_;refine WE.take rfl (V.nilCheck rfl)<|WE.take rfl (V.fieldAddr (o':=18) T59.f4 rfl rfl)<|WE.take rfl (V.load T51.sc rfl (Rd.own 1 rfl rfl))<|WE.take rfl (V.move rfl)<|WE.take rfl (V.indexS T51.sl rfl rfl (by omega))<|WE.take rfl (V.fieldAddr T111.f3 rfl rfl)<|WE.take rfl (V.load T9.sc rfl (Rd.vec 2 rfl (nodesC_rd S.nodes z0 hz0 3 rfl)))<|WE.free #[true,true,true,true,true,true,true,true,true,true,true,true,true,true,true,true,false,true,true,true,true,true,true,true,true,false,true,true,true,true,true,true,true,true,false,false,false,false,false,false,false]<|WN.three 16 25 34 (by kernel_rfl) rfl rfl rfl ?_ ?_ ?_
    ·
     refine L.strToBytes T9.u T60.sl T5.u rfl ?_;intro v47;rw[bytesV_u8s];refine WL.nil ⟨(Ent.left [_] _),?_⟩;refine WN.two 25 34 (by kernel_rfl) rfl rfl ?_ ?_
     ·
      refine L.strToBytes T9.u T60.sl T5.u rfl ?_;intro v56;rw[bytesV_u8s];refine WL.nil ⟨(Ent.left [_,_] _),?_⟩;refine WN.one 34 (by kernel_rfl) rfl<|L.strToBytes T9.u T60.sl T5.u rfl ?_;intro v65;rw[bytesV_u8s];refine WL.nil ⟨(Ent.left [_,_,_] _),?_⟩
      refine WN.one 35 (by kernel_rfl) rfl<|WL.call rfl rfl F21.fn rfl (FT.make fun g gS dj=>window_Line S.r K.rw tv tw (by obtain⟨a,ha,hle⟩:=In.of_stars' (p:=tabO S.r.table tv tw) 13 rfl gS dj;exact TabAt.mono ha hle) S.t K.tw S.t.w.toNat (by omega) K.ok _ _ _ (intsB (S.row' x0)) (intsB (S.row' y0)) (intsB (S.row' z0)) (vec_u8s (E:=5) (u:=v47) (l:=intsB (S.row' x0)) (intsB_len _) (In.of_stars' 2 rfl gS dj)) (vec_u8s (E:=5) (u:=v56) (l:=intsB (S.row' y0)) (intsB_len _) (In.of_stars' 1 rfl gS dj)) (vec_u8s (E:=5) (u:=v65) (l:=intsB (S.row' z0)) (intsB_len _) (In.of_stars' 0 rfl gS dj)) ⟨by rw[intsB_len];have:=rx.1;omega,by rw[intsB_len];have:=ry.1;omega,by rw[intsB_len];have:=rz.1;omega,fun i hi=>rx.2 i (by have:=rx.1;omega),fun i hi=>ry.2 i (by have:=ry.1;omega),fun i hi=>rz.2 i (by have:=rz.1;omega)⟩) ?_;rintro _ _ ⟨_,⟨u,rfl,rfl⟩,rfl⟩
      refine WL.nil ⟨(Ent.left [_,_,_,_] _),?_⟩
      refine WT.read (m:=0) (fin:=fun l=>l == #[true,true,true,true,true,true,true,true,true,true,true,true,true,true,true,true,true,true,true,true,true,true,true,true,true,true,true,true,true,true,true,true,true,true,true,true,true,true,true,true,true]) [(36,true),(37,true),(38,true),(39,true),(40,true)] (by kernel_rfl) (PInv.then PInv.ret) ((Ent.left [_,_,_,_] _))<|WE.take rfl (V.move rfl)<|WE.take rfl (V.extract rfl rfl)<|WE.take rfl (V.extract rfl rfl)<|WE.take rfl (V.assign rfl) ?_;refine WE.take rfl (V.assign rfl)<|WE.free #[true,true,true,true,true,true,true,true,true,true,true,true,true,true,true,true,true,true,true,true,true,true,true,true,true,true,true,true,true,true,true,true,true,true,true,true,true,true,true,true,true]<|WT.nil (by kernel_rfl)<|X.thenN ⟨(u,0),trivial,(Env.Sub.cons rfl rfl (Env.Sub.cons rfl rfl (Env.Sub.cons rfl rfl (Env.Sub.cons rfl rfl (Env.Sub.cons rfl rfl (Env.Sub.cons rfl rfl Env.Sub.nil)))))),(Ent.pk [0,3,3,3,3,3,3,3,3,3,3,3] rfl)⟩
     ·
      refine L.strToBytes T9.u T60.sl T5.u rfl ?_;intro v65;rw[bytesV_u8s];refine WL.nil ⟨(Ent.left [_,_] _),?_⟩;refine WN.one 25 (by kernel_rfl) rfl<|L.strToBytes T9.u T60.sl T5.u rfl ?_;intro v56;rw[bytesV_u8s];refine WL.nil ⟨(Ent.left [_,_,_] _),?_⟩
      refine WN.one 35 (by kernel_rfl) rfl<|WL.call rfl rfl F21.fn rfl (FT.make fun g gS dj=>window_Line S.r K.rw tv tw (by obtain⟨a,ha,hle⟩:=In.of_stars' (p:=tabO S.r.table tv tw) 13 rfl gS dj;exact TabAt.mono ha hle) S.t K.tw S.t.w.toNat (by omega) K.ok _ _ _ (intsB (S.row' x0)) (intsB (S.row' y0)) (intsB (S.row' z0)) (vec_u8s (E:=5) (u:=v47) (l:=intsB (S.row' x0)) (intsB_len _) (In.of_stars' 2 rfl gS dj)) (vec_u8s (E:=5) (u:=v56) (l:=intsB (S.row' y0)) (intsB_len _) (In.of_stars' 0 rfl gS dj)) (vec_u8s (E:=5) (u:=v65) (l:=intsB (S.row' z0)) (intsB_len _) (In.of_stars' 1 rfl gS dj)) ⟨by rw[intsB_len];have:=rx.1;omega,by rw[intsB_len];have:=ry.1;omega,by rw[intsB_len];have:=rz.1;omega,fun i hi=>rx.2 i (by have:=rx.1;omega),fun i hi=>ry.2 i (by have:=ry.1;omega),fun i hi=>rz.2 i (by have:=rz.1;omega)⟩) ?_;rintro _ _ ⟨_,⟨u,rfl,rfl⟩,rfl⟩
      refine WL.nil ⟨(Ent.left [_,_,_,_] _),?_⟩
      refine WT.read (m:=0) (fin:=fun l=>l == #[true,true,true,true,true,true,true,true,true,true,true,true,true,true,true,true,true,true,true,true,true,true,true,true,true,true,true,true,true,true,true,true,true,true,true,true,true,true,true,true,true]) [(36,true),(37,true),(38,true),(39,true),(40,true)] (by kernel_rfl) (PInv.then PInv.ret) ((Ent.left [_,_,_,_] _))<|WE.take rfl (V.move rfl)<|WE.take rfl (V.extract rfl rfl)<|WE.take rfl (V.extract rfl rfl)<|WE.take rfl (V.assign rfl) ?_;refine WE.take rfl (V.assign rfl)<|WE.free #[true,true,true,true,true,true,true,true,true,true,true,true,true,true,true,true,true,true,true,true,true,true,true,true,true,true,true,true,true,true,true,true,true,true,true,true,true,true,true,true,true]<|WT.nil (by kernel_rfl)<|X.thenN ⟨(u,0),trivial,(Env.Sub.cons rfl rfl (Env.Sub.cons rfl rfl (Env.Sub.cons rfl rfl (Env.Sub.cons rfl rfl (Env.Sub.cons rfl rfl (Env.Sub.cons rfl rfl Env.Sub.nil)))))),(Ent.pk [0,3,3,3,3,3,3,3,3,3,3,3] rfl)⟩
    ·
     refine L.strToBytes T9.u T60.sl T5.u rfl ?_;intro v56;rw[bytesV_u8s];refine WL.nil ⟨(Ent.left [_] _),?_⟩;refine WN.two 16 34 (by kernel_rfl) rfl rfl ?_ ?_
     ·
      refine L.strToBytes T9.u T60.sl T5.u rfl ?_;intro v47;rw[bytesV_u8s];refine WL.nil ⟨(Ent.left [_,_] _),?_⟩;refine WN.one 34 (by kernel_rfl) rfl<|L.strToBytes T9.u T60.sl T5.u rfl ?_;intro v65;rw[bytesV_u8s];refine WL.nil ⟨(Ent.left [_,_,_] _),?_⟩
      refine WN.one 35 (by kernel_rfl) rfl<|WL.call rfl rfl F21.fn rfl (FT.make fun g gS dj=>window_Line S.r K.rw tv tw (by obtain⟨a,ha,hle⟩:=In.of_stars' (p:=tabO S.r.table tv tw) 13 rfl gS dj;exact TabAt.mono ha hle) S.t K.tw S.t.w.toNat (by omega) K.ok _ _ _ (intsB (S.row' x0)) (intsB (S.row' y0)) (intsB (S.row' z0)) (vec_u8s (E:=5) (u:=v47) (l:=intsB (S.row' x0)) (intsB_len _) (In.of_stars' 1 rfl gS dj)) (vec_u8s (E:=5) (u:=v56) (l:=intsB (S.row' y0)) (intsB_len _) (In.of_stars' 2 rfl gS dj)) (vec_u8s (E:=5) (u:=v65) (l:=intsB (S.row' z0)) (intsB_len _) (In.of_stars' 0 rfl gS dj)) ⟨by rw[intsB_len];have:=rx.1;omega,by rw[intsB_len];have:=ry.1;omega,by rw[intsB_len];have:=rz.1;omega,fun i hi=>rx.2 i (by have:=rx.1;omega),fun i hi=>ry.2 i (by have:=ry.1;omega),fun i hi=>rz.2 i (by have:=rz.1;omega)⟩) ?_;rintro _ _ ⟨_,⟨u,rfl,rfl⟩,rfl⟩
      refine WL.nil ⟨(Ent.left [_,_,_,_] _),?_⟩
      refine WT.read (m:=0) (fin:=fun l=>l == #[true,true,true,true,true,true,true,true,true,true,true,true,true,true,true,true,true,true,true,true,true,true,true,true,true,true,true,true,true,true,true,true,true,true,true,true,true,true,true,true,true]) [(36,true),(37,true),(38,true),(39,true),(40,true)] (by kernel_rfl) (PInv.then PInv.ret) ((Ent.left [_,_,_,_] _))<|WE.take rfl (V.move rfl)<|WE.take rfl (V.extract rfl rfl)<|WE.take rfl (V.extract rfl rfl)<|WE.take rfl (V.assign rfl) ?_;refine WE.take rfl (V.assign rfl)<|WE.free #[true,true,true,true,true,true,true,true,true,true,true,true,true,true,true,true,true,true,true,true,true,true,true,true,true,true,true,true,true,true,true,true,true,true,true,true,true,true,true,true,true]<|WT.nil (by kernel_rfl)<|X.thenN ⟨(u,0),trivial,(Env.Sub.cons rfl rfl (Env.Sub.cons rfl rfl (Env.Sub.cons rfl rfl (Env.Sub.cons rfl rfl (Env.Sub.cons rfl rfl (Env.Sub.cons rfl rfl Env.Sub.nil)))))),(Ent.pk [0,3,3,3,3,3,3,3,3,3,3,3] rfl)⟩
     ·
      refine L.strToBytes T9.u T60.sl T5.u rfl ?_;intro v65;rw[bytesV_u8s];refine WL.nil ⟨(Ent.left [_,_] _),?_⟩;refine WN.one 16 (by kernel_rfl) rfl<|L.strToBytes T9.u T60.sl T5.u rfl ?_;intro v47;rw[bytesV_u8s];refine WL.nil ⟨(Ent.left [_,_,_] _),?_⟩
      refine WN.one 35 (by kernel_rfl) rfl<|WL.call rfl rfl F21.fn rfl (FT.make fun g gS dj=>window_Line S.r K.rw tv tw (by obtain⟨a,ha,hle⟩:=In.of_stars' (p:=tabO S.r.table tv tw) 13 rfl gS dj;exact TabAt.mono ha hle) S.t K.tw S.t.w.toNat (by omega) K.ok _ _ _ (intsB (S.row' x0)) (intsB (S.row' y0)) (intsB (S.row' z0)) (vec_u8s (E:=5) (u:=v47) (l:=intsB (S.row' x0)) (intsB_len _) (In.of_stars' 0 rfl gS dj)) (vec_u8s (E:=5) (u:=v56) (l:=intsB (S.row' y0)) (intsB_len _) (In.of_stars' 2 rfl gS dj)) (vec_u8s (E:=5) (u:=v65) (l:=intsB (S.row' z0)) (intsB_len _) (In.of_stars' 1 rfl gS dj)) ⟨by rw[intsB_len];have:=rx.1;omega,by rw[intsB_len];have:=ry.1;omega,by rw[intsB_len];have:=rz.1;omega,fun i hi=>rx.2 i (by have:=rx.1;omega),fun i hi=>ry.2 i (by have:=ry.1;omega),fun i hi=>rz.2 i (by have:=rz.1;omega)⟩) ?_;rintro _ _ ⟨_,⟨u,rfl,rfl⟩,rfl⟩
      refine WL.nil ⟨(Ent.left [_,_,_,_] _),?_⟩
      refine WT.read (m:=0) (fin:=fun l=>l == #[true,true,true,true,true,true,true,true,true,true,true,true,true,true,true,true,true,true,true,true,true,true,true,true,true,true,true,true,true,true,true,true,true,true,true,true,true,true,true,true,true]) [(36,true),(37,true),(38,true),(39,true),(40,true)] (by kernel_rfl) (PInv.then PInv.ret) ((Ent.left [_,_,_,_] _))<|WE.take rfl (V.move rfl)<|WE.take rfl (V.extract rfl rfl)<|WE.take rfl (V.extract rfl rfl)<|WE.take rfl (V.assign rfl) ?_;refine WE.take rfl (V.assign rfl)<|WE.free #[true,true,true,true,true,true,true,true,true,true,true,true,true,true,true,true,true,true,true,true,true,true,true,true,true,true,true,true,true,true,true,true,true,true,true,true,true,true,true,true,true]<|WT.nil (by kernel_rfl)<|X.thenN ⟨(u,0),trivial,(Env.Sub.cons rfl rfl (Env.Sub.cons rfl rfl (Env.Sub.cons rfl rfl (Env.Sub.cons rfl rfl (Env.Sub.cons rfl rfl (Env.Sub.cons rfl rfl Env.Sub.nil)))))),(Ent.pk [0,3,3,3,3,3,3,3,3,3,3,3] rfl)⟩
    ·
     refine L.strToBytes T9.u T60.sl T5.u rfl ?_;intro v65;rw[bytesV_u8s];refine WL.nil ⟨(Ent.left [_] _),?_⟩;refine WN.two 16 25 (by kernel_rfl) rfl rfl ?_ ?_
     ·
      refine L.strToBytes T9.u T60.sl T5.u rfl ?_;intro v47;rw[bytesV_u8s];refine WL.nil ⟨(Ent.left [_,_] _),?_⟩;refine WN.one 25 (by kernel_rfl) rfl<|L.strToBytes T9.u T60.sl T5.u rfl ?_;intro v56;rw[bytesV_u8s];refine WL.nil ⟨(Ent.left [_,_,_] _),?_⟩
      refine WN.one 35 (by kernel_rfl) rfl<|WL.call rfl rfl F21.fn rfl (FT.make fun g gS dj=>window_Line S.r K.rw tv tw (by obtain⟨a,ha,hle⟩:=In.of_stars' (p:=tabO S.r.table tv tw) 13 rfl gS dj;exact TabAt.mono ha hle) S.t K.tw S.t.w.toNat (by omega) K.ok _ _ _ (intsB (S.row' x0)) (intsB (S.row' y0)) (intsB (S.row' z0)) (vec_u8s (E:=5) (u:=v47) (l:=intsB (S.row' x0)) (intsB_len _) (In.of_stars' 1 rfl gS dj)) (vec_u8s (E:=5) (u:=v56) (l:=intsB (S.row' y0)) (intsB_len _) (In.of_stars' 0 rfl gS dj)) (vec_u8s (E:=5) (u:=v65) (l:=intsB (S.row' z0)) (intsB_len _) (In.of_stars' 2 rfl gS dj)) ⟨by rw[intsB_len];have:=rx.1;omega,by rw[intsB_len];have:=ry.1;omega,by rw[intsB_len];have:=rz.1;omega,fun i hi=>rx.2 i (by have:=rx.1;omega),fun i hi=>ry.2 i (by have:=ry.1;omega),fun i hi=>rz.2 i (by have:=rz.1;omega)⟩) ?_;rintro _ _ ⟨_,⟨u,rfl,rfl⟩,rfl⟩
      refine WL.nil ⟨(Ent.left [_,_,_,_] _),?_⟩
      refine WT.read (m:=0) (fin:=fun l=>l == #[true,true,true,true,true,true,true,true,true,true,true,true,true,true,true,true,true,true,true,true,true,true,true,true,true,true,true,true,true,true,true,true,true,true,true,true,true,true,true,true,true]) [(36,true),(37,true),(38,true),(39,true),(40,true)] (by kernel_rfl) (PInv.then PInv.ret) ((Ent.left [_,_,_,_] _))<|WE.take rfl (V.move rfl)<|WE.take rfl (V.extract rfl rfl)<|WE.take rfl (V.extract rfl rfl)<|WE.take rfl (V.assign rfl) ?_;refine WE.take rfl (V.assign rfl)<|WE.free #[true,true,true,true,true,true,true,true,true,true,true,true,true,true,true,true,true,true,true,true,true,true,true,true,true,true,true,true,true,true,true,true,true,true,true,true,true,true,true,true,true]<|WT.nil (by kernel_rfl)<|X.thenN ⟨(u,0),trivial,(Env.Sub.cons rfl rfl (Env.Sub.cons rfl rfl (Env.Sub.cons rfl rfl (Env.Sub.cons rfl rfl (Env.Sub.cons rfl rfl (Env.Sub.cons rfl rfl Env.Sub.nil)))))),(Ent.pk [0,3,3,3,3,3,3,3,3,3,3,3] rfl)⟩
     ·
      refine L.strToBytes T9.u T60.sl T5.u rfl ?_;intro v56;rw[bytesV_u8s];refine WL.nil ⟨(Ent.left [_,_] _),?_⟩;refine WN.one 16 (by kernel_rfl) rfl<|L.strToBytes T9.u T60.sl T5.u rfl ?_;intro v47;rw[bytesV_u8s];refine WL.nil ⟨(Ent.left [_,_,_] _),?_⟩
      refine WN.one 35 (by kernel_rfl) rfl<|WL.call rfl rfl F21.fn rfl (FT.make fun g gS dj=>window_Line S.r K.rw tv tw (by obtain⟨a,ha,hle⟩:=In.of_stars' (p:=tabO S.r.table tv tw) 13 rfl gS dj;exact TabAt.mono ha hle) S.t K.tw S.t.w.toNat (by omega) K.ok _ _ _ (intsB (S.row' x0)) (intsB (S.row' y0)) (intsB (S.row' z0)) (vec_u8s (E:=5) (u:=v47) (l:=intsB (S.row' x0)) (intsB_len _) (In.of_stars' 0 rfl gS dj)) (vec_u8s (E:=5) (u:=v56) (l:=intsB (S.row' y0)) (intsB_len _) (In.of_stars' 1 rfl gS dj)) (vec_u8s (E:=5) (u:=v65) (l:=intsB (S.row' z0)) (intsB_len _) (In.of_stars' 2 rfl gS dj)) ⟨by rw[intsB_len];have:=rx.1;omega,by rw[intsB_len];have:=ry.1;omega,by rw[intsB_len];have:=rz.1;omega,fun i hi=>rx.2 i (by have:=rx.1;omega),fun i hi=>ry.2 i (by have:=ry.1;omega),fun i hi=>rz.2 i (by have:=rz.1;omega)⟩) ?_;rintro _ _ ⟨_,⟨u,rfl,rfl⟩,rfl⟩
      refine WL.nil ⟨(Ent.left [_,_,_,_] _),?_⟩
      refine WT.read (m:=0) (fin:=fun l=>l == #[true,true,true,true,true,true,true,true,true,true,true,true,true,true,true,true,true,true,true,true,true,true,true,true,true,true,true,true,true,true,true,true,true,true,true,true,true,true,true,true,true]) [(36,true),(37,true),(38,true),(39,true),(40,true)] (by kernel_rfl) (PInv.then PInv.ret) ((Ent.left [_,_,_,_] _))<|WE.take rfl (V.move rfl)<|WE.take rfl (V.extract rfl rfl)<|WE.take rfl (V.extract rfl rfl)<|WE.take rfl (V.assign rfl) ?_;refine WE.take rfl (V.assign rfl)<|WE.free #[true,true,true,true,true,true,true,true,true,true,true,true,true,true,true,true,true,true,true,true,true,true,true,true,true,true,true,true,true,true,true,true,true,true,true,true,true,true,true,true,true]<|WT.nil (by kernel_rfl)<|X.thenN ⟨(u,0),trivial,(Env.Sub.cons rfl rfl (Env.Sub.cons rfl rfl (Env.Sub.cons rfl rfl (Env.Sub.cons rfl rfl (Env.Sub.cons rfl rfl (Env.Sub.cons rfl rfl Env.Sub.nil)))))),(Ent.pk [0,3,3,3,3,3,3,3,3,3,3,3] rfl)⟩
   ·
    rintro ⟨u,_⟩ _
    refine WP.regs<|L.move rfl<|WL.fact (fun _ _ _ s=>s.vec_shape 0 rfl) ?_;rintro ⟨_,ua,ucap,rfl,hucap,hua⟩
    obtain⟨ub,rfl⟩:=hua (by omega)
    refine L.move rfl<|L.bytesToStr T60.sl T5.u T9.u rfl (ns:=lineD S.r S.t (intsB (S.row' x0)) (intsB (S.row' y0)) (intsB (S.row' z0))) (by unfold lineD;rw[List.length_map,List.length_range]) (fun _ _ _ e=>by cases e;exact⟨rfl,Rds.vec 0 rfl (fun j v hj=>by rw[Nat.zero_add];exact hj)⟩) (fun e=>by cases e) ?_
    refine WL.call rfl rfl F53.fn rfl (FT.part (seaS b ⟨tv,tw,.slice (some ⟨c0,0,none⟩) S.nodes.length ncap,bp,br,bl,bn,ov,bm,bk⟩ S) _ ((Ent.pk [2,2,2,2,2,2,2,2,2,2,1] rfl)) fun g gS dj=>sea_row b ⟨tv,tw,.slice (some ⟨c0,0,none⟩) S.nodes.length ncap,bp,br,bl,bn,ov,bm,bk⟩ S (lineB S (S.row' x0) (S.row' y0) (S.row' z0)) hm hmo) ?_;rintro _ _ ⟨_,⟨nv,rfl,rfl⟩,rfl⟩
    refine L.assign rfl<|WL.nil<|WP.seq<|WP.rege [(0,true),(1,true),(2,true),(3,true),(4,true),(5,true),(6,false)] 6 rfl (by kernel_rfl) (PInv.then PInv.ret) rfl<|WE.take rfl (V.move rfl)<|WE.take rfl (V.nilCheck rfl)<|WE.take rfl (V.fieldAddr (o':=22) T59.f8 rfl rfl)<|WE.take rfl (V.load T55.sc rfl (Rd.own 0 rfl rfl))<|WE.take rfl (V.loadN T204.ag rfl rfl (Rds.all 10 rfl))<|WE.take rfl (V.move rfl)<|WE.last rfl<|L.mapUpdate (α:=Nat × Nat × Nat) (enc:=enc3) (key:=(x0,y0,z0)) 5 T55.m K204 rfl rfl rfl rfl ?_
    rw[mput_vm,row_lines]
    refine WL.nil<|WE.nil<|X.thenN<|WP.regs<|L.move rfl<|L.assign rfl<|WL.nil<|WP.ret<|X.ret rfl (Res.one rfl rfl)<|⟨_,rfl,_,⟨nv,by simp only[SeaD.line,hq];rfl,rfl⟩,((Ent.pk [1,1,1,1,1,0,0,0,0,0] rfl)).trans (Ent.of_eq ?_)⟩
    simp only[SeaD.line,hq]
    rfl
end
end Go.Eng
