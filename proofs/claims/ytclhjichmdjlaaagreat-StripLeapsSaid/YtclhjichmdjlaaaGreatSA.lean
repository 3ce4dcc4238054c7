/- Walks of the functions of the seat over those rules, and plain laws of what they compute. No conditions beyond those in each theorem. -/
import Derived.Test.YtclhjichmdjlaaaGreatSNF
import Derived.Test.YtclhjichmdjlaaaGreatSD
set_option linter.unusedSimpArgs false
set_option linter.unusedVariables false
namespace Go.Eng
open Go.RowKit Go.Proofs
def hoodPts:List (Int × Int):=[(0,-1),(1,-1),(1,0),(1,1),(0,1),(-1,1),(-1,0),(-1,-1)]
def hoodIn (h:Int):List Bool:=
  if h=1 then [true,true,true,true,true,true,true,true] else if h=2 then [true,false,true,false,true,false,true,false]
  else if h=3 then [true,false,true,true,true,false,true,true] else [false,false,false,false,false,false,false,false]
def hoodE (h:Int):Int:=if h=1 then 0 else if h=2 then 0 else if h=3 then 0 else 70
theorem hoodE_iff (h:Int):hoodE h=0↔h=1∨h=2∨h=3:=by unfold hoodE;repeat' split <;> omega
def offsTo (h:Int) (i:Nat):List (Int × Int):=((List.range i).filter fun j=>(hoodIn h).getD j false).map fun j=>hoodPts.getD j (0,0)
def offs (h:Int):List (Int × Int):=offsTo h 8
def ptsC (l:List (Int × Int)):List Value:=l.flatMap fun p=>[.int .i64 p.1,.int .i64 p.2]
theorem ptsC_snoc (l:List (Int × Int)) (p:Int × Int):ptsC l++[.int .i64 p.1,.int .i64 p.2]=ptsC (l++[p]):=by simp[ptsC]
theorem offsTo_succ (h:Int) (i:Nat):offsTo h (i+1)=offsTo h i++(if (hoodIn h).getD i false then [hoodPts.getD i (0,0)] else []):=by
  simp only[offsTo,List.range_succ,List.filter_append,List.map_append,List.filter_cons,List.filter_nil]
  split <;> simp
theorem offsTo_length (h:Int) (i:Nat):(offsTo h i).length≤i:=by
  unfold offsTo
  rw[List.length_map]
  exact Nat.le_trans (List.length_filter_le _ _) (by simp)
theorem offs_bad (h:Int) (hh:hoodE h≠0):offs h=[]:=by
  have:¬ (h=1∨h=2∨h=3):=fun e=>hh ((hoodE_iff h).2 e)
  have h1:h≠1:=by omega
  have h2:h≠2:=by omega
  have h3:h≠3:=by omega
  simp[offs,offsTo,hoodIn,h1,h2,h3,List.range_succ]
theorem offs_size (h:Int):((offs h).length:Int)=hoodSize h:=by
  unfold hoodSize
  repeat' split
  · subst h;rfl
  · subst h;rfl
  · subst h;rfl
  · rw[offs_bad h (by unfold hoodE;simp[*])];rfl
section
variable {k:World} {h0:Hp}
set_option maxRecDepth 10000 in
theorem whole_Mod (a n:Int) (hn:0<n∧n≤4611686018427387904):FT Pg 114 [.int .i64 a,.int .i64 n] k h0 [] (Is (.tuple #[.int .i64 (a%n),.bool true])):=by
  refine FT.of_wp (n:=18) Tryz.func114 rfl rfl rfl<|WP.regs<|L.assign rfl<|L.assign rfl<|WL.nil<|WP.seq<|WP.regs<|L.move rfl<|L.lss rfl rfl<|WL.nil<|WP.condD rfl (fun hT=>absurd hT (by omega)) (fun h8=>?_);refine WP.skip<|X.thenN<|WP.regs<|L.move rfl<|L.move rfl<|L.rem rfl rfl (by omega)<|L.assign rfl<|WL.nil<|WP.seq<|WP.regs<|L.move rfl<|L.lss rfl rfl<|WL.nil<|WP.condD rfl (fun h13=>?_) (fun h13=>?_);refine WP.region<|L.move rfl<|L.move rfl<|L.add' rfl rfl (by have:=Int.lt_tmod_of_pos a hn.1;omega) ?_;refine L.assign rfl<|WL.nil<|X.thenN<|WP.regs<|L.move rfl<|L.assign rfl<|L.assign rfl<|WL.nil<|WP.ret<|X.ret rfl (Res.two rfl rfl rfl) ?_
  show _=_
  rw[emod_of_tmod hn.1,if_pos h13]
  refine WP.skip<|X.thenN<|WP.regs<|L.move rfl<|L.assign rfl<|L.assign rfl<|WL.nil<|WP.ret<|X.ret rfl (Res.two rfl rfl rfl) ?_
  show _=_
  rw[emod_of_tmod hn.1,if_neg h13]
set_option maxRecDepth 10000 in
theorem whole_Near (v lo hi:Int):FT Pg 117 [.int .i64 v,.int .i64 lo,.int .i64 hi] k h0 [] (Is (.int .i64 (if v<lo∨hi<lo then lo else if hi<v then hi else v))):=by
  refine FT.of_wp (n:=23) Tryz.func117 rfl rfl rfl<|WP.regs<|L.assign rfl<|WL.nil<|WP.seq<|WP.block<|WP.regs<|L.move rfl<|L.move rfl<|L.lssD rfl rfl (fun h10=>?_) (fun h10=>?_);refine L.move rfl<|L.skip<|L.skip<|L.skip<|L.pickT rfl rfl<|L.assign rfl<|WL.nil<|WP.condT rfl<|WP.regs<|L.move rfl<|L.assign rfl<|WL.nil<|WP.ret<|X.blockR (X.thenR ?_);refine X.ret rfl (Res.one rfl rfl) ?_;rotate_left;refine L.move rfl<|L.move rfl<|L.move rfl<|L.lssD rfl rfl (fun h14=>?_) (fun h14=>?_);refine L.pickF rfl rfl<|L.assign rfl<|WL.nil<|WP.condT rfl<|WP.regs<|L.move rfl<|L.assign rfl<|WL.nil<|WP.ret<|X.blockR (X.thenR ?_);refine X.ret rfl (Res.one rfl rfl) ?_;rotate_left
  refine L.pickF rfl rfl<|L.assign rfl<|WL.nil<|WP.condF rfl<|WP.regs<|L.move rfl<|L.move rfl<|L.gtr rfl rfl<|L.assign rfl<|WL.nil<|WP.condD rfl (fun h17=>?_) (fun h17=>?_);refine WP.regs<|L.move rfl<|L.assign rfl<|WL.nil<|WP.ret<|X.blockR (X.thenR ?_);refine X.ret rfl (Res.one rfl rfl) ?_;rotate_left;refine WP.skip<|X.blockN<|X.thenN<|WP.regs<|L.move rfl<|L.assign rfl<|WL.nil<|WP.ret<|X.ret rfl (Res.one rfl rfl) ?_;rotate_left
  all_goals
   show _=_
   first | rw[if_pos (by omega)] | rw[if_neg (by omega),if_pos (by omega)] | rw[if_neg (by omega),if_neg (by omega)]
set_option maxRecDepth 10000 in
theorem hood_all:FT Pg 145 [] k h0 [] (Is (.agg (ptsC hoodPts).toArray)):=by
  refine FT.of_wp (n:=10) Tryz.func145 rfl rfl rfl<|WP.regs<|L.alloc T208.z fun b1=>WL.nil<|WP.regs<|L.build (cs:=[_,_]) T132.b T132.z rfl rfl<|L.build (cs:=[_,_]) T132.b T132.z rfl rfl<|L.build (cs:=[_,_]) T132.b T132.z rfl rfl<|L.build (cs:=[_,_]) T132.b T132.z rfl rfl<|L.build (cs:=[_,_]) T132.b T132.z rfl rfl<|L.build (cs:=[_,_]) T132.b T132.z rfl rfl<|L.build (cs:=[_,_]) T132.b T132.z rfl rfl<|L.build (cs:=[_,_]) T132.b T132.z rfl rfl<|L.buildA (cs:=[_,_,_,_,_,_,_,_,_,_,_,_,_,_,_,_]) T208.ar T208.z rfl rfl<|L.storeN T208.ag rfl rfl rfl (Wrs.all 0 rfl rfl (by simp[Value.oneCell'])) ?_;refine WL.nil<|WP.ret<|X.ret rfl (ResCell1 rfl rfl T208.ag rfl (Rds.all 0 rfl)) ?_
  exact rfl
set_option maxRecDepth 10000 in
theorem hood_within (h:Int):FT Pg 144 [.int .u8 h] k h0 [] (Is (.tuple #[.agg ((hoodIn h).map Value.bool).toArray,.int .i64 (hoodE h)])):=by
  refine FT.of_wp (n:=15) Tryz.func144 rfl rfl rfl<|WP.regs<|L.alloc T205.z fun b1=>L.assign rfl<|WL.nil<|WP.seq<|WP.regs<|L.move rfl<|WL.nil<|WP.block<|WP.regs<|L.eql rfl rfl<|L.assign rfl<|WL.nil<|WP.condD rfl (fun h5=>?_) (fun h5=>?_);refine WP.regs<|L.buildA (cs:=[_,_,_,_,_,_,_,_]) T205.ar T205.z rfl rfl<|L.storeN T205.ag rfl rfl rfl (Wrs.all 0 rfl rfl (by simp[Value.oneCell']))<|L.assign rfl<|WL.nil<|WP.ret<|X.blockR (X.thenR ?_);refine X.ret rfl (ResCellTmp rfl rfl T205.ag rfl (Rds.all 0 rfl) rfl) ?_;rotate_left;refine WP.regs<|L.eql rfl rfl<|L.assign rfl<|WL.nil<|WP.condD rfl (fun h8=>?_) (fun h8=>?_)
  refine WP.regs<|L.buildA (cs:=[_,_,_,_,_,_,_,_]) T205.ar T205.z rfl rfl<|L.storeN T205.ag rfl rfl rfl (Wrs.all 0 rfl rfl (by simp[Value.oneCell']))<|L.assign rfl<|WL.nil<|WP.ret<|X.blockR (X.thenR ?_);refine X.ret rfl (ResCellTmp rfl rfl T205.ag rfl (Rds.all 0 rfl) rfl) ?_;rotate_left;refine WP.regs<|L.eql rfl rfl<|L.assign rfl<|WL.nil<|WP.condD rfl (fun h11=>?_) (fun h11=>?_);refine WP.regs<|L.buildA (cs:=[_,_,_,_,_,_,_,_]) T205.ar T205.z rfl rfl<|L.storeN T205.ag rfl rfl rfl (Wrs.all 0 rfl rfl (by simp[Value.oneCell']))<|L.assign rfl<|WL.nil<|WP.ret<|X.blockR (X.thenR ?_);refine X.ret rfl (ResCellTmp rfl rfl T205.ag rfl (Rds.all 0 rfl) rfl) ?_;rotate_left
  refine WP.skip<|X.blockN<|X.thenN<|WP.regs<|L.buildA (cs:=[_,_,_,_,_,_,_,_]) T205.ar T205.z rfl rfl<|L.storeN T205.ag rfl rfl rfl (Wrs.all 0 rfl rfl (by simp[Value.oneCell']))<|L.assign rfl<|WL.nil<|WP.ret<|X.ret rfl (ResCellTmp rfl rfl T205.ag rfl (Rds.all 0 rfl) rfl) ?_;rotate_left
  all_goals
   show _=_
   simp[hoodIn,hoodE, *]
end
open Go.RowKit Go.Proofs
theorem hoodIn_length (h:Int):(hoodIn h).length=8:=by unfold hoodIn;split;rfl;split;rfl;split <;> rfl
theorem bools_one (l:List Bool):∀ v∈l.map Value.bool,v.oneCell'=true:=fun v hv=>by obtain⟨b,_,rfl⟩:=List.mem_map.1 hv;rfl
theorem hoodIn_get (h:Int) (i:Nat) (hi:i<8):((hoodIn h).map Value.bool)[0+((i:Int)).toNat*1]?=some (.bool ((hoodIn h).getD i false)):=by
  rw[show 0+((i:Int)).toNat*1=i by omega]
  have:=hoodIn_length h
  rw[List.getElem?_map,List.getD_eq_getElem?_getD,List.getElem?_eq_getElem (by omega)];rfl
theorem hoodPts_get (i:Nat) (hi:i<8):((ptsC hoodPts).drop (0+((i:Int)).toNat*2)).take 2=[.int .i64 (hoodPts.getD i (0,0)).1,.int .i64 (hoodPts.getD i (0,0)).2]:=by
  rcases i with _ | _ | _ | _ | _ | _ | _ | _ | i
  all_goals first | rfl | omega
theorem ptsC_one (l:List (Int × Int)):∀ v∈ptsC l,v.oneCell'=true:=fun v hv=>by
  obtain⟨p,_,hp⟩:=List.mem_flatMap.1 hv
  simp only[List.mem_cons,List.not_mem_nil,or_false] at hp
  rcases hp with rfl | rfl <;> rfl
section
variable {k:World} {h0:Hp}
set_option maxRecDepth 10000 in
theorem hood_Offsets (h:Int):FT Pg 113 [.int .u8 h] k h0 [] (Ret fun v τ=>∃ u:Value,v=.tuple #[u,.int .i64 (hoodE h)]∧τ=[vec 132 2 u (offs h).length (ptsC (offs h))]):=by
  refine FT.tight<|FT.of_wp (n:=35) Tryz.func113 rfl rfl rfl<|WP.regs<|L.assign rfl<|L.assign rfl<|WL.nil<|WP.regs<|L.move rfl<|WL.call rfl rfl F144.fn rfl (FT.pureR fun g gS dj=>FT.rv (hood_within h) rfl) ?_;rintro _ _ ⟨rfl,rfl⟩;refine L.move rfl<|L.extract rfl rfl<|L.extract rfl rfl<|L.alloc T205.z fun b1=>L.storeN T205.ag rfl rfl (by simp[hoodIn_length]) (Wrs.all 0 rfl (by simp[hoodIn_length]) (bools_one _))<|L.assign rfl<|WL.nil<|WP.seq<|WP.regs<|L.move rfl<|L.neq rfl rfl<|WL.nil<|WP.condD rfl (fun h16=>?_) (fun h16=>?_)
  refine WP.regs<|L.move rfl<|L.assign rfl<|L.assign rfl<|WL.nil<|WP.ret<|X.thenR<|X.ret rfl (Res.two rfl rfl rfl)<|⟨_,rfl,_,⟨_,rfl,rfl⟩,(Ent.pk [] rfl).trans (Ent.nilvec.trans (Ent.of_eq (by rw[offs_bad h h16];rfl)))⟩;refine WP.skip<|X.thenN<|WP.regs<|WL.call rfl rfl F145.fn rfl (FT.pureR fun g gS dj=>FT.rv hood_all rfl) ?_;rintro _ _ ⟨rfl,rfl⟩
  refine L.alloc T208.z fun b2=>L.storeN T208.ag rfl rfl rfl (Wrs.all 0 rfl rfl (ptsC_one _))<|WL.nil<|WP.regs<|L.assign rfl<|WL.nil<|WP.seq<|WP.regs<|L.nilCheck rfl<|L.move rfl<|WL.nil<|WP.block<|WP.loop (X:=Nat × Value) (fun x=>⟨35,[],[(4,.pointer (some ⟨b1,0,none⟩)),(6,.pointer (some ⟨b2,0,none⟩)),(7,x.2),(20,.int .i64 (x.1:Int))]⟩) (fun x=>[vec 132 2 x.2 (offsTo h x.1).length (ptsC (offsTo h x.1)),cl b2 (ptsC hoodPts) 208,cl b1 ((hoodIn h).map Value.bool) 205]) (fun x=>x.1≤8) (fun x=>8-x.1) (0,.slice none 0 0) (Nat.zero_le _) (Env.Sub.cons rfl rfl (Env.Sub.cons rfl rfl (Env.Sub.cons rfl rfl (Env.Sub.cons rfl rfl Env.Sub.nil)))) (Ent.nilvec) ?_
  rintro ⟨i,u⟩ hi
  dsimp only at hi ⊢
  refine WP.regs<|L.lss rfl rfl<|WL.nil<|WP.seq<|WP.condD rfl (fun h21=>?_) (fun h21=>?_);refine WP.skip<|X.thenN<|WP.seq<|WP.block<|WP.seq<|WP.rege [(0,true),(1,true),(2,true),(3,true),(4,false),(5,true),(6,false)] 6 rfl (by kernel_rfl) (PInv.then (PInv.block (PInv.then (PInv.then (PInv.block (PInv.then PInv.ret)))))) rfl<|WE.take rfl (V.move rfl)<|WE.take rfl (V.nilCheck rfl)<|WE.take rfl (V.indexA T208.ar rfl rfl (by omega))<|WE.take rfl (V.loadN T132.ag rfl rfl (Rds.own (vs:=[_,_]) 1 rfl (hoodPts_get i (by omega))))<|WE.one rfl<|L.alloc T132.z fun b3=>WL.nil ⟨(Ent.left [_] _),?_⟩
  refine WE.take rfl (V.assign rfl)<|WE.last rfl<|L.storeN T132.ag rfl rfl rfl (Wrs.all 0 rfl rfl (by simp[Value.oneCell']))<|WL.nil<|WE.nil<|X.thenN<|WP.regs<|L.move rfl<|L.indexA T205.ar rfl rfl (by omega)<|L.load T4.sc rfl (Rd.own 3 rfl (hoodIn_get h i (by omega)))<|WL.nil<|WP.cond rfl (fun h28=>?_) (fun h28=>?_);refine WP.region<|L.move rfl<|L.loadN T132.ag rfl rfl (Rds.all 0 rfl)<|L.slice1 T127.sl T132.z rfl rfl rfl rfl rfl rfl fun b4=>L.append (i:=2) (news:=[_,_]) T127.sl T132.z rfl rfl rfl rfl rfl rfl (fun _ _ _ e=>by cases e;exact⟨rfl,Rds.all 0 rfl⟩) (fun e=>by cases e) (by simp[Value.oneCell']) (by have:=offsTo_length h i;omega) ?_;intro u2
  refine L.assign rfl<|WL.nil<|X.blockN<|X.thenN<|WP.region<|L.add' rfl rfl (by omega)<|L.move rfl<|WL.nil ?_
  have hin:=offsTo_succ h i
  rw[if_pos h28] at hin
  refine X.thenN ⟨(i+1,u2),by dsimp only;omega,by dsimp only;omega,(Env.Sub.cons rfl rfl (Env.Sub.cons rfl rfl (Env.Sub.cons rfl rfl (Env.Sub.cons rfl rfl Env.Sub.nil)))),((Ent.pk [0,2,2] rfl)).trans (Ent.of_eq (by dsimp only;rw[hin,List.length_append,← ptsC_snoc];rfl))⟩;refine WP.skip<|X.blockN<|X.thenN<|WP.region<|L.add' rfl rfl (by omega)<|L.move rfl<|WL.nil ?_
  have hin:=offsTo_succ h i
  rw[if_neg (by simpa using h28),List.append_nil] at hin
  refine X.thenN ⟨(i+1,u),by dsimp only;omega,by dsimp only;omega,(Env.Sub.cons rfl rfl (Env.Sub.cons rfl rfl (Env.Sub.cons rfl rfl (Env.Sub.cons rfl rfl Env.Sub.nil)))),((Ent.left [_] _)).trans (Ent.of_eq (by dsimp only;rw[hin]))⟩;refine WP.exit<|X.thenE (X.thenE (X.blockE ?_));refine X.thenN<|WP.regs<|L.move rfl<|L.assign rfl<|L.assign rfl<|WL.nil<|WP.ret<|X.ret rfl (Res.two rfl rfl rfl) ?_
  obtain rfl:i=8:=by omega
  exact⟨_,rfl,_,⟨_,by rw[show hoodE h=0 by omega],rfl⟩,(Ent.pk [0] rfl)⟩
end
open Go.RowKit Go.Proofs
def LifeD.over (l:LifeD):Int:=bits .or .u16 l.born l.stay/2^min (hoodSize l.hood+1).toNat IntKind.u16.bits
def LifeD.Ok (l:LifeD):Prop:=hoodE l.hood=0∧l.over=0
def lifeNext (l:LifeD) (s n:Int):Int:=IntKind.u8.wrap (bits .and .u16 ((if s=1 then l.stay else l.born)/2^min n.toNat IntKind.u16.bits) 1)
def gensNext (l:LifeD) (st s n:Int):Int:=
  if s≤1 then (if lifeNext l s n=1∨s=0 then lifeNext l s n else if s+1=st then 0 else s+1) else if s+1=st then 0 else s+1
def livingN (l:List Int):Nat:=(l.filter (·=1)).length
theorem livingN_take (l:List Int) (i:Nat) (h:i<l.length):livingN (l.take (i+1))=livingN (l.take i)+if l.getD i 0=1 then 1 else 0:=by
  unfold livingN
  rw[List.take_add_one,List.getElem?_eq_getElem h,List.filter_append,List.length_append,List.getD_eq_getElem?_getD,List.getElem?_eq_getElem h]
  simp only[Option.toList_some,Option.getD_some,List.filter_cons,List.filter_nil,decide_eq_true_eq]
  split <;> rfl
theorem livingN_le (l:List Int):livingN l≤l.length:=List.length_filter_le _ _
theorem hoodSize_bd (h:Int):0≤hoodSize h∧hoodSize h≤8:=by unfold hoodSize;repeat' split <;> omega
theorem bits_and1 (a:Int):bits .and .u16 a 1=0∨bits .and .u16 a 1=1:=by
  unfold bits
  simp only
  have h1:((BitVec.ofInt IntKind.u16.bits a &&& BitVec.ofInt IntKind.u16.bits 1).toNat)≤1:=by
   rw[BitVec.toNat_and]
   exact Nat.le_trans Nat.and_le_right (by decide)
  rw[IntWalk.u16_in _ (by omega)]
  omega
section
variable {k:World} {h0:Hp}
set_option maxRecDepth 10000 in
theorem hood_Size (h:Int):FT Pg 143 [.int .u8 h] k h0 [] (Is (.tuple #[.int .i64 (hoodSize h),.int .i64 (hoodE h)])):=by
  refine FT.of_wp (n:=14) Tryz.func143 rfl rfl rfl<|WP.regs<|L.assign rfl<|L.assign rfl<|WL.nil<|WP.regs<|L.move rfl<|WL.call rfl rfl F113.fn rfl (FT.make fun g gS dj=>hood_Offsets h) ?_;rintro _ _ ⟨_,⟨u,rfl,rfl⟩,rfl⟩;refine WL.fact (fun _ _ _ s=>s.vec_shape 0 rfl) ?_;rintro ⟨_,a,cap,rfl,_,_⟩;refine L.move rfl<|L.extract rfl rfl<|L.extract rfl rfl<|L.assign rfl<|L.assign rfl<|WL.nil<|WP.regs<|L.move rfl<|L.lenS T127.sl rfl rfl<|L.move rfl<|L.assign rfl<|L.assign rfl<|WL.nil<|WP.ret<|X.ret rfl (Res.two rfl rfl rfl) ?_
  show _=_
  rw[offs_size]
  rfl
set_option maxRecDepth 10000 in
theorem life_greatest (l:LifeD):FT Pg 201 [.agg (lifeC l).toArray] k h0 [] (RV fun v=>∃ n e:Int,v=.tuple #[.int .i64 n,.int .i64 e]∧(e=0↔hoodE l.hood=0)∧(e=0→n=hoodSize l.hood)):=by
  refine FT.of_wp (n:=15) Tryz.func201 rfl rfl rfl<|WP.regs<|L.box rfl rfl fun b1=>L.assign rfl<|L.assign rfl<|WL.nil<|WP.regs<|L.fieldAddr (o':=0) T24.f0 rfl rfl<|L.load T5.sc rfl (Rd.own 0 rfl rfl)<|WL.callV rfl rfl F143.fn rfl (fun g gS dj=>hood_Size l.hood)<|L.move rfl<|L.extract rfl rfl<|L.extract rfl rfl<|L.assign rfl<|L.assign rfl<|WL.nil<|WP.seq<|WP.regs<|L.move rfl<|L.neq rfl rfl<|WL.nil<|WP.condD rfl (fun h13=>?_) (fun h13=>?_);refine WP.regs<|L.assign rfl<|L.assign rfl<|WL.nil<|WP.ret<|X.thenR<|X.ret rfl (Res.two rfl rfl rfl) ?_;rotate_left;refine WP.skip<|X.thenN<|WP.regs<|L.move rfl<|L.assign rfl<|L.assign rfl<|WL.nil<|WP.ret<|X.ret rfl (Res.two rfl rfl rfl) ?_
  rotate_left
  all_goals exact⟨_,rfl,_,_,rfl,by omega,by omega⟩
set_option maxRecDepth 10000 in
theorem life_Check (l:LifeD):FT Pg 198 [.agg (lifeC l).toArray] k h0 [] (RV fun v=>∃ e:Int,v=.int .i64 e∧(e=0↔l.Ok)):=by
  refine FT.of_wp (n:=22) Tryz.func198 rfl rfl rfl<|WP.regs<|L.box rfl rfl fun b1=>L.assign rfl<|WL.nil<|WP.regs<|L.loadN T24.ag rfl rfl (Rds.all 0 rfl)<|WL.call rfl rfl F201.fn rfl (FT.pureR fun g gS dj=>life_greatest l) ?_;rintro _ _ ⟨⟨n,e,rfl,he,hn⟩,rfl⟩;refine L.move rfl<|L.extract rfl rfl<|L.extract rfl rfl<|L.assign rfl<|L.assign rfl<|WL.nil<|WP.seq<|WP.regs<|L.move rfl<|L.neq rfl rfl<|WL.nil<|WP.condD rfl (fun h11=>?_) (fun h11=>?_);refine WP.regs<|L.move rfl<|L.assign rfl<|WL.nil<|WP.ret<|X.thenR<|X.ret rfl (Res.one rfl rfl) ?_;exact⟨_,rfl,_,rfl,by unfold LifeD.Ok;omega⟩
  refine WP.skip<|X.thenN<|WP.seq<|WP.regs<|L.fieldAddr (o':=1) T24.f1 rfl rfl<|L.load T22.sc rfl (Rd.own 0 rfl rfl)<|L.fieldAddr (o':=2) T24.f2 rfl rfl<|L.load T22.sc rfl (Rd.own 0 rfl rfl)<|L.or rfl rfl<|L.move rfl ?_
  have hbd:=hoodSize_bd l.hood
  obtain rfl:=hn (by omega)
  refine L.add' rfl rfl (by omega)<|L.shr rfl rfl (by omega)<|L.neq rfl rfl<|WL.nil<|WP.condD rfl (fun h21=>?_) (fun h21=>?_);refine WP.regs<|L.assign rfl<|WL.nil<|WP.ret<|X.thenR<|X.ret rfl (Res.one rfl rfl) ?_;rotate_left;refine WP.skip<|X.thenN<|WP.regs<|L.assign rfl<|WL.nil<|WP.ret<|X.ret rfl (Res.one rfl rfl) ?_;rotate_left
  all_goals exact⟨_,rfl,_,rfl,by unfold LifeD.Ok LifeD.over;omega⟩
set_option maxRecDepth 10000 in
theorem life_Next (l:LifeD) (hl:l.Ok) (s n:Int) (hs:0≤s∧s≤1) (hn:0≤n∧n≤hoodSize l.hood):FT Pg 199 [.agg (lifeC l).toArray,.int .u8 s,.int .i64 n] k h0 [] (Is (.tuple #[.int .u8 (lifeNext l s n),.int .i64 0])):=by
  refine FT.of_wp (n:=42) Tryz.func199 rfl rfl rfl<|WP.regs<|L.box rfl rfl fun b1=>L.assign rfl<|L.assign rfl<|WL.nil<|WP.seq<|WP.regs<|L.loadN T24.ag rfl rfl (Rds.all 0 rfl)<|WL.call rfl rfl F198.fn rfl (FT.pureR fun g gS dj=>life_Check l) ?_;rintro _ _ ⟨⟨e,rfl,he⟩,rfl⟩
  obtain rfl:=he.2 hl
  refine L.assign rfl<|WL.nil<|WP.regs<|L.move rfl<|L.neq rfl rfl<|WL.nil<|WP.condD rfl (fun hT=>absurd hT (by omega)) (fun h15=>?_);refine WP.skip<|X.thenN<|WP.seq<|WP.regs<|L.move rfl<|L.gtr rfl rfl<|WL.nil<|WP.condD rfl (fun hT=>absurd hT (by omega)) (fun h18=>?_);refine WP.skip<|X.thenN<|WP.seq<|WP.regs<|L.loadN T24.ag rfl rfl (Rds.all 0 rfl)<|WL.call rfl rfl F201.fn rfl (FT.pureR fun g gS dj=>life_greatest l) ?_;rintro _ _ ⟨⟨m,e,rfl,he,hm⟩,rfl⟩
  obtain rfl:=he.2 hl.1
  obtain rfl:=hm rfl
  refine L.move rfl<|L.extract rfl rfl<|L.extract rfl rfl<|L.assign rfl<|L.assign rfl<|WL.nil<|WP.regs<|L.move rfl<|L.lssD rfl rfl (fun hT=>absurd hT (by omega)) (fun h25=>?_);refine L.move rfl<|L.move rfl<|L.move rfl<|L.gtrD rfl rfl (fun hT=>absurd hT (by omega)) (fun h29=>?_);refine L.pickF rfl rfl<|WL.nil<|WP.condF rfl<|WP.skip<|X.thenN<|WP.regs<|L.fieldAddr (o':=1) T24.f1 rfl rfl<|L.load T22.sc rfl (Rd.own 0 rfl rfl)<|L.assign rfl<|WL.nil<|WP.seq<|WP.regs<|L.move rfl<|L.eql rfl rfl<|WL.nil<|WP.condD rfl (fun h34=>?_) (fun h34=>?_)
  refine WP.region<|L.fieldAddr (o':=2) T24.f2 rfl rfl<|L.load T22.sc rfl (Rd.own 0 rfl rfl)<|L.assign rfl<|WL.nil<|X.thenN<|WP.regs<|L.move rfl<|L.move rfl<|L.shr rfl rfl (by omega)<|L.and rfl rfl<|L.convInt T22.u T5.u rfl<|L.assign rfl<|L.assign rfl<|WL.nil<|WP.ret<|X.ret rfl (Res.two rfl rfl rfl) ?_;rotate_left;refine WP.skip<|X.thenN<|WP.regs<|L.move rfl<|L.move rfl<|L.shr rfl rfl (by omega)<|L.and rfl rfl<|L.convInt T22.u T5.u rfl<|L.assign rfl<|L.assign rfl<|WL.nil<|WP.ret<|X.ret rfl (Res.two rfl rfl rfl) ?_;rotate_left
  all_goals
   show _=_
   unfold lifeNext
   first | rw[if_pos h34] | rw[if_neg h34]
set_option maxRecDepth 10000 in
theorem gens_Check (l:LifeD) (s:Int):FT Pg 207 [.agg (gensC l s).toArray] k h0 [] (RV fun v=>∃ e:Int,v=.int .i64 e∧(e=0↔l.Ok∧2≤s∧s≤256)):=by
  refine FT.of_wp (n:=18) Tryz.func207 rfl rfl rfl<|WP.regs<|L.box rfl rfl fun b1=>L.assign rfl<|WL.nil<|WP.seq<|WP.regs<|L.fieldAddr (o':=0) T26.f0 rfl rfl<|L.loadN T24.ag rfl rfl (Rds.own (vs:=[_,_,_]) 0 rfl rfl)<|WL.call rfl rfl F198.fn rfl (FT.pureR fun g gS dj=>life_Check l) ?_;rintro _ _ ⟨⟨e,rfl,he⟩,rfl⟩;refine L.assign rfl<|WL.nil<|WP.regs<|L.move rfl<|L.neq rfl rfl<|WL.nil<|WP.condD rfl (fun h8=>?_) (fun h8=>?_);refine WP.regs<|L.move rfl<|L.assign rfl<|WL.nil<|WP.ret<|X.thenR<|X.ret rfl (Res.one rfl rfl) ?_;rotate_left
  refine WP.skip<|X.thenN<|WP.seq<|WP.regs<|L.fieldAddr (o':=3) T26.f1 rfl rfl<|L.load T3.sc rfl (Rd.own 0 rfl rfl)<|L.lssD rfl rfl (fun h12=>?_) (fun h12=>?_);refine L.move rfl<|L.skip<|L.skip<|L.skip<|L.pickT rfl rfl<|WL.nil<|WP.condT rfl<|WP.regs<|L.assign rfl<|WL.nil<|WP.ret<|X.thenR<|X.ret rfl (Res.one rfl rfl) ?_;rotate_left;refine L.move rfl<|L.fieldAddr (o':=3) T26.f1 rfl rfl<|L.load T3.sc rfl (Rd.own 0 rfl rfl)<|L.gtr rfl rfl<|L.pickF rfl rfl<|WL.nil<|WP.condD rfl (fun h17=>?_) (fun h17=>?_);refine WP.regs<|L.assign rfl<|WL.nil<|WP.ret<|X.thenR<|X.ret rfl (Res.one rfl rfl) ?_;rotate_left
  refine WP.skip<|X.thenN<|WP.regs<|L.assign rfl<|WL.nil<|WP.ret<|X.ret rfl (Res.one rfl rfl) ?_;rotate_left
  all_goals
   refine⟨_,rfl,_,rfl,?_⟩
   by_cases hok:l.Ok
   · have e0:=he.2 hok;simp only[hok,true_and];first | omega | (constructor <;> intro _ <;> first | trivial | omega)
   · have e1:e≠0:=fun h=>hok (he.1 h);simp only[hok,false_and,iff_false];omega
set_option maxRecDepth 10000 in
theorem gens_becomes (l:LifeD) (hl:l.Ok) (s n:Int) (hs:0≤s∧s≤1) (hn:0≤n∧n≤hoodSize l.hood):FT Pg 210 [.agg (lifeC l).toArray,.int .u8 s,.int .i64 n] k h0 [] (Is (.tuple #[.int .u8 (lifeNext l s n),.int .i64 0])):=by
  refine FT.of_wp (n:=15) Tryz.func210 rfl rfl rfl<|WP.regs<|L.box rfl rfl fun b1=>L.assign rfl<|L.assign rfl<|WL.nil<|WP.regs<|L.fieldAddr (o':=0) T265.f0 rfl rfl<|L.loadN T24.ag rfl rfl (Rds.own (vs:=[_,_,_]) 0 rfl rfl)<|L.move rfl<|L.move rfl<|WL.callV rfl rfl F199.fn rfl (fun g gS dj=>life_Next l hl s n hs hn)<|L.extract rfl rfl<|L.extract rfl rfl<|L.assign rfl<|L.assign rfl<|WL.nil<|WP.ret<|X.ret rfl (Res.two rfl rfl rfl) ?_;exact rfl
set_option maxRecDepth 10000 in
theorem gens_fading (l:LifeD) (st:Int) (hl:l.Ok) (hst:2≤st∧st≤256) (s n:Int) (hs:0≤s∧s<st) (hn:0≤n∧n≤hoodSize l.hood):FT Pg 209 [.agg (gensC l st).toArray,.int .u8 s,.int .i64 n] k h0 [] (Is (.tuple #[.int .u8 (gensNext l st s n),.int .i64 0])):=by
  refine FT.of_wp (n:=52) Tryz.func209 rfl rfl rfl<|WP.regs<|L.box rfl rfl fun b1=>L.assign rfl<|L.assign rfl<|WL.nil<|WP.regs<|L.move rfl<|L.convInt T5.u T3.u rfl ?_
  rw[wrap_i64 (by omega)]
  refine L.add' rfl rfl (by omega)<|L.assign rfl<|WL.nil<|WP.seq<|WP.regs<|L.move rfl<|L.leq rfl rfl<|WL.nil<|WP.condD rfl (fun h17=>?_) (fun h17=>?_);refine WP.regs<|L.fieldAddr (o':=0) T267.f0 rfl rfl<|L.loadN T265.ag rfl rfl (Rds.own (vs:=[_,_,_]) 0 rfl rfl)<|L.move rfl<|L.move rfl<|WL.callV rfl rfl F210.fn rfl (fun g gS dj=>gens_becomes l hl s n (by omega) hn)<|L.move rfl<|L.extract rfl rfl<|L.extract rfl rfl<|L.assign rfl<|L.assign rfl<|WL.nil<|WP.seq<|WP.regs<|L.move rfl<|L.neq rfl rfl<|WL.nil<|WP.condD rfl (fun hT=>absurd hT (by omega)) (fun h27=>?_);refine WP.skip<|X.thenN<|WP.regs<|L.move rfl<|L.eqlD rfl rfl (fun h30=>?_) (fun h30=>?_)
  refine L.move rfl<|L.skip<|L.skip<|L.pickT rfl rfl<|WL.nil<|WP.condT rfl<|WP.regs<|L.move rfl<|L.assign rfl<|L.assign rfl<|WL.nil<|WP.ret<|X.thenR<|X.ret rfl (Res.two rfl rfl rfl) ?_;rotate_left;refine L.move rfl<|L.move rfl<|L.eql rfl rfl<|L.pickF rfl rfl<|WL.nil<|WP.condD rfl (fun h34=>?_) (fun h34=>?_);refine WP.regs<|L.move rfl<|L.assign rfl<|L.assign rfl<|WL.nil<|WP.ret<|X.thenR<|X.ret rfl (Res.two rfl rfl rfl) ?_;rotate_left;refine WP.skip<|X.thenN<|WP.seq<|WP.regs<|L.move rfl<|L.fieldAddr (o':=3) T267.f1 rfl rfl<|L.load T3.sc rfl (Rd.own 0 rfl rfl)<|L.eql rfl rfl<|WL.nil<|WP.condD rfl (fun h49=>?_) (fun h49=>?_)
  refine WP.region<|L.assign rfl<|WL.nil<|X.thenN<|WP.regs<|L.move rfl<|L.convInt T3.u T5.u rfl<|L.assign rfl<|L.assign rfl<|WL.nil<|WP.ret<|X.ret rfl (Res.two rfl rfl rfl) ?_;rotate_left;refine WP.skip<|X.thenN<|WP.regs<|L.move rfl<|L.convInt T3.u T5.u rfl<|L.assign rfl<|L.assign rfl<|WL.nil<|WP.ret<|X.ret rfl (Res.two rfl rfl rfl) ?_;rotate_left
  refine WP.regs<|L.fieldAddr (o':=0) T267.f0 rfl rfl<|L.loadN T265.ag rfl rfl (Rds.own (vs:=[_,_,_]) 0 rfl rfl)<|L.move rfl<|WL.callV rfl rfl F210.fn rfl (fun g gS dj=>gens_becomes l hl 0 n (by omega) hn)<|L.move rfl<|L.extract rfl rfl<|L.extract rfl rfl<|L.assign rfl<|L.assign rfl<|WL.nil<|WP.regs<|L.move rfl<|L.neq rfl rfl<|WL.nil<|WP.condD rfl (fun hT=>absurd hT (by omega)) (fun h44=>?_);refine WP.skip<|X.thenN<|WP.seq<|WP.regs<|L.move rfl<|L.fieldAddr (o':=3) T267.f1 rfl rfl<|L.load T3.sc rfl (Rd.own 0 rfl rfl)<|L.eql rfl rfl<|WL.nil<|WP.condD rfl (fun h49=>?_) (fun h49=>?_)
  refine WP.region<|L.assign rfl<|WL.nil<|X.thenN<|WP.regs<|L.move rfl<|L.convInt T3.u T5.u rfl<|L.assign rfl<|L.assign rfl<|WL.nil<|WP.ret<|X.ret rfl (Res.two rfl rfl rfl) ?_;rotate_left;refine WP.skip<|X.thenN<|WP.regs<|L.move rfl<|L.convInt T3.u T5.u rfl<|L.assign rfl<|L.assign rfl<|WL.nil<|WP.ret<|X.ret rfl (Res.two rfl rfl rfl) ?_;rotate_left
  all_goals
   show _=_
   unfold gensNext
   simp[*]
   first | done | exact IntWalk.u8_in _ (by omega)
set_option maxRecDepth 10000 in
theorem gens_Next (l:LifeD) (st:Int) (hl:l.Ok) (hst:2≤st∧st≤256) (s n:Int) (hs:0≤s∧s<st) (hn:0≤n∧n≤hoodSize l.hood):FT Pg 208 [.agg (gensC l st).toArray,.int .u8 s,.int .i64 n] k h0 [] (Is (.tuple #[.int .u8 (gensNext l st s n),.int .i64 0])):=by
  refine FT.of_wp (n:=30) Tryz.func208 rfl rfl rfl<|WP.regs<|L.box rfl rfl fun b1=>L.assign rfl<|L.assign rfl<|WL.nil<|WP.seq<|WP.regs<|L.loadN T26.ag rfl rfl (Rds.all 0 rfl)<|WL.call rfl rfl F207.fn rfl (FT.pureR fun g gS dj=>gens_Check l st) ?_;rintro _ _ ⟨⟨e,rfl,he⟩,rfl⟩
  obtain rfl:=he.2 ⟨hl,hst.1,hst.2⟩
  refine L.assign rfl<|WL.nil<|WP.regs<|L.move rfl<|L.neq rfl rfl<|WL.nil<|WP.condD rfl (fun hT=>absurd hT (by omega)) (fun h12=>?_);refine WP.skip<|X.thenN<|WP.seq<|WP.regs<|L.move rfl<|L.convInt T5.u T3.u rfl<|L.fieldAddr (o':=3) T26.f1 rfl rfl<|L.load T3.sc rfl (Rd.own 0 rfl rfl)<|L.geq rfl rfl<|WL.nil<|WP.condD rfl (fun hT=>absurd hT (by rw[wrap_i64 (by omega)];omega)) (fun h18=>?_)
  refine WP.skip<|X.thenN<|WP.regs<|L.fieldAddr (o':=0) T26.f0 rfl rfl<|L.loadN T24.ag rfl rfl (Rds.own (vs:=[_,_,_]) 0 rfl rfl)<|L.build (cs:=[_,_,_]) T265.b T265.z rfl rfl<|L.fieldAddr (o':=3) T26.f1 rfl rfl<|L.load T3.sc rfl (Rd.own 0 rfl rfl)<|L.build (cs:=[_,_,_,_]) T267.b T267.z rfl rfl<|L.move rfl<|L.move rfl<|WL.callV rfl rfl F209.fn rfl (fun g gS dj=>gens_fading l st hl hst s n hs hn)<|L.extract rfl rfl<|L.extract rfl rfl<|L.assign rfl<|L.assign rfl<|WL.nil<|WP.ret<|X.ret rfl (Res.two rfl rfl rfl) ?_;exact rfl
set_option maxRecDepth 10000 in
theorem rule_living (l:List Int) (hl:l.length≤4611686018427387904) (v:Value) (hv:BytesAt h0 v l):FT Pg 200 [v] k h0 [] (Is (.int .i64 (livingN l:Int))):=by
  obtain⟨a,cap,rfl,hcap,hnone,hsome⟩:=hv
  refine FT.of_wp (n:=18) Tryz.func200 rfl rfl rfl<|WP.regs<|L.assign rfl<|WL.nil<|WP.regs<|L.assign rfl<|WL.nil<|WP.seq<|WP.regs<|L.move rfl<|L.lenS T60.sl rfl rfl<|L.move rfl<|WL.nil<|WP.block<|WP.loop (X:=Nat) (fun i=>⟨18,[],[(3,.int .i64 (livingN (l.take i):Int)),(6,.slice a l.length cap),(7,.int .i64 (l.length:Int)),(8,.int .i64 (i:Int))]⟩) (fun i=>[]) (fun i=>i≤l.length) (fun i=>l.length-i) 0 (Nat.zero_le _) (Env.Sub.cons rfl rfl (Env.Sub.cons rfl rfl (Env.Sub.cons rfl rfl (Env.Sub.cons rfl rfl Env.Sub.nil)))) (Ent.refl _) ?_
  rintro i hi
  have hle:=livingN_le (l.take i)
  have hlt:(l.take i).length≤l.length:=by rw[List.length_take];omega
  refine WP.regs<|L.lss rfl rfl<|WL.nil<|WP.seq<|WP.condD rfl (fun h9=>?_) (fun h9=>?_);refine WP.skip<|X.thenN<|WP.seq<|WP.block<|WP.regs ?_
  obtain⟨b,o,rfl,hc⟩:=hsome (by omega)
  refine L.indexS T60.sl rfl rfl (by omega)<|L.load T5.sc rfl (Rd.u8 hc i (by omega))<|L.assign rfl<|WL.nil<|WP.regs<|L.move rfl<|L.eql rfl rfl<|WL.nil<|WP.condD rfl (fun h13=>?_) (fun h13=>?_);refine WP.region<|L.move rfl<|L.add' rfl rfl (by omega)<|L.assign rfl<|WL.nil<|X.blockN<|X.thenN<|WP.region<|L.add' rfl rfl (by omega)<|L.move rfl<|WL.nil ?_
  have hst:=livingN_take l i (by omega)
  rw[if_pos (by omega)] at hst
  refine X.thenN ⟨i+1,by omega,by omega,(Env.Sub.cons rfl (by rw[hst];rfl) (Env.Sub.cons rfl rfl (Env.Sub.cons rfl rfl (Env.Sub.cons rfl rfl Env.Sub.nil)))),Ent.refl _⟩;refine WP.skip<|X.blockN<|X.thenN<|WP.region<|L.add' rfl rfl (by omega)<|L.move rfl<|WL.nil ?_
  have hst:=livingN_take l i (by omega)
  rw[if_neg (by omega)] at hst
  refine X.thenN ⟨i+1,by omega,by omega,(Env.Sub.cons rfl (by rw[hst];rfl) (Env.Sub.cons rfl rfl (Env.Sub.cons rfl rfl (Env.Sub.cons rfl rfl Env.Sub.nil)))),Ent.refl _⟩;refine WP.exit<|X.thenE (X.thenE (X.blockE ?_));refine X.thenN<|WP.regs<|L.move rfl<|L.assign rfl<|WL.nil<|WP.ret<|X.ret rfl (Res.one rfl rfl) ?_
  show _=_
  obtain rfl:i=l.length:=by omega
  rw[List.take_length]
end
open Go.RowKit Go.Proofs
def letterI (c:Int):Prop:=97≤bits .or .u8 c 32∧bits .or .u8 c 32≤122
instance (c:Int):Decidable (letterI c):=by unfold letterI;infer_instance
def nameI (c:Int):Prop:=letterI c∨(48≤c∧c≤57)∨c=45∨c=95
instance (c:Int):Decidable (nameI c):=by unfold nameI;infer_instance
def byteI (s:ByteArray) (i:Nat):Int:=((s[i]?.getD 0).toNat:Int)
theorem byteI_get (s:ByteArray) (i:Nat) (h:i<s.size):s[i]?=some (s[i]?.getD 0):=by
  rw[getElem?_pos s i h];rfl
def VName (s:ByteArray):Prop:=0<s.size∧s.size≤32∧letterI (byteI s 0)∧∀ i,i<s.size→nameI (byteI s i)
theorem bytes_nil (s:ByteArray):s=ByteArray.mk #[]↔s.size=0:=by
  constructor
  · rintro rfl;rfl
  · intro h
    have:s.data=#[]:=Array.eq_empty_of_size_eq_zero h
    cases s;simp at this;subst this;rfl
theorem extract_all (s:ByteArray):s.extract 0 s.size=s:=ByteArray.extract_zero_size
section
variable {k:World} {h0:Hp}
set_option maxRecDepth 10000 in
theorem scan_isLetter (c:Int):FT Pg 231 [.int .u8 c] k h0 [] (Is (.bool (decide (letterI c)))):=by
  refine FT.of_wp (n:=11) Tryz.func231 rfl rfl rfl<|WP.regs<|L.assign rfl<|WL.nil<|WP.regs<|L.move rfl<|L.or rfl rfl<|L.leqD rfl rfl (fun h5=>?_) (fun h5=>?_);refine L.move rfl<|L.move rfl<|L.or rfl rfl<|L.leq rfl rfl<|L.pickT rfl rfl<|L.assign rfl<|WL.nil<|WP.ret<|X.ret rfl (Res.one rfl rfl) ?_;rotate_left;refine L.move rfl<|L.skip<|L.skip<|L.skip<|L.pickF rfl rfl<|L.assign rfl<|WL.nil<|WP.ret<|X.ret rfl (Res.one rfl rfl) ?_;rotate_left
  all_goals
   show _=_
   unfold letterI
   simp[*]
set_option maxRecDepth 10000 in
theorem scan_isDigit (c:Int):FT Pg 239 [.int .u8 c] k h0 [] (Is (.bool (decide (48≤c∧c≤57)))):=by
  refine FT.of_wp (n:=9) Tryz.func239 rfl rfl rfl<|WP.regs<|L.assign rfl<|WL.nil<|WP.regs<|L.move rfl<|L.leqD rfl rfl (fun h4=>?_) (fun h4=>?_);refine L.move rfl<|L.move rfl<|L.leq rfl rfl<|L.pickT rfl rfl<|L.assign rfl<|WL.nil<|WP.ret<|X.ret rfl (Res.one rfl rfl) ?_
  show _=_
  simp[*]
  refine L.move rfl<|L.skip<|L.skip<|L.pickF rfl rfl<|L.assign rfl<|WL.nil<|WP.ret<|X.ret rfl (Res.one rfl rfl) ?_
  show _=_
  simp[*]
set_option maxRecDepth 10000 in
theorem scan_inName (c:Int):FT Pg 233 [.int .u8 c] k h0 [] (Is (.bool (decide (nameI c)))):=by
  refine FT.of_wp (n:=17) Tryz.func233 rfl rfl rfl<|WP.regs<|L.assign rfl<|WL.nil<|WP.regs<|L.move rfl<|WL.call rfl rfl F231.fn rfl (FT.pureR fun g gS dj=>FT.rv (scan_isLetter c) rfl) ?_;rintro _ _ ⟨rfl,rfl⟩
  rcases Bool.eq_false_or_eq_true (decide (letterI c)) with hb4 | hb4 <;> rw[hb4]
  refine L.move rfl<|L.skip<|L.skip<|L.pickT rfl rfl<|L.move rfl<|L.skip<|L.skip<|L.pickT rfl rfl<|L.move rfl<|L.skip<|L.skip<|L.pickT rfl rfl<|L.assign rfl<|WL.nil<|WP.ret<|X.ret rfl (Res.one rfl rfl) ?_;rotate_left;refine L.move rfl<|L.move rfl<|WL.call rfl rfl F239.fn rfl (FT.pureR fun g gS dj=>FT.rv (scan_isDigit c) rfl) ?_;rintro _ _ ⟨rfl,rfl⟩
  rcases Bool.eq_false_or_eq_true (decide (48≤c∧c≤57)) with hb7 | hb7 <;> rw[hb7]
  refine L.pickF rfl rfl<|L.move rfl<|L.skip<|L.skip<|L.pickT rfl rfl<|L.move rfl<|L.skip<|L.skip<|L.pickT rfl rfl<|L.assign rfl<|WL.nil<|WP.ret<|X.ret rfl (Res.one rfl rfl) ?_;rotate_left;refine L.pickF rfl rfl<|L.move rfl<|L.move rfl<|L.eqlD rfl rfl (fun h11=>?_) (fun h11=>?_);refine L.pickF rfl rfl<|L.move rfl<|L.skip<|L.skip<|L.pickT rfl rfl<|L.assign rfl<|WL.nil<|WP.ret<|X.ret rfl (Res.one rfl rfl) ?_;rotate_left;refine L.pickF rfl rfl<|L.move rfl<|L.move rfl<|L.eql rfl rfl<|L.pickF rfl rfl<|L.assign rfl<|WL.nil<|WP.ret<|X.ret rfl (Res.one rfl rfl) ?_;rotate_left
  all_goals
   show _=_
   unfold nameI
   simp only[decide_eq_true_eq,decide_eq_false_iff_not] at *
   simp[*]
set_option maxRecDepth 10000 in
theorem scan_span (s:ByteArray) (hs:s.size≤4611686018427387904):FT Pg 232 [.string s,.func (.func 233) #[] #[]] k h0 [] (RV fun v=>∃ n:Nat,v=.int .i64 (n:Int)∧n≤s.size∧(∀ i,i<n→nameI (byteI s i))∧(n<s.size→¬ nameI (byteI s n))):=by
  refine FT.of_wp (n:=20) Tryz.func232 rfl rfl rfl<|WP.regs<|L.assign rfl<|WL.nil<|WP.regs<|L.assign rfl<|WL.nil<|WP.seq<|WP.block<|WP.loop (X:=Nat) (fun i=>⟨20,[],[(0,.string s),(1,.func (.func 233) #[] #[]),(5,.int .i64 (i:Int))]⟩) (fun i=>[]) (fun i=>i≤s.size∧∀ j,j<i→nameI (byteI s j)) (fun i=>s.size-i) 0 (⟨by omega,fun j hj=>absurd hj (by omega)⟩) (Env.Sub.cons rfl rfl (Env.Sub.cons rfl rfl (Env.Sub.cons rfl rfl Env.Sub.nil))) (Ent.refl _) ?_
  rintro i ⟨hi,hall⟩
  refine WP.seq<|WP.regs<|L.move rfl<|L.move rfl<|L.lenStr T9.u rfl rfl<|L.lssD rfl rfl (fun h9=>?_) (fun h9=>?_);refine L.move rfl<|L.move rfl<|L.move rfl<|L.move rfl<|L.indexStr  T9.u rfl rfl (by omega) (byteI_get s i (by omega))<|WL.callF (first:=[]) (cap:=[]) rfl rfl rfl F233.fn rfl (FT.pureR fun g gS dj=>FT.rv (scan_inName (byteI s i)) rfl) ?_;rintro _ _ ⟨rfl,rfl⟩;refine L.pickT rfl rfl<|WL.nil<|WP.cond rfl (fun h16=>?_) (fun h16=>?_)
  refine WP.skip<|X.thenN<|WP.block<|WP.region<|L.move rfl<|L.add' rfl rfl (by omega)<|L.assign rfl<|WL.nil<|X.blockN<|X.thenN ⟨i+1,⟨by omega,fun j hj=>by rcases Nat.lt_or_ge j i with e | e;exact hall j e;obtain rfl:j=i:=(by omega);exact of_decide_eq_true h16⟩,by omega,(Env.Sub.cons rfl rfl (Env.Sub.cons rfl rfl (Env.Sub.cons rfl rfl Env.Sub.nil))),Ent.refl _⟩;refine WP.exit<|X.thenE (X.thenE (X.blockE ?_));refine X.thenN<|WP.regs<|L.move rfl<|L.assign rfl<|WL.nil<|WP.ret<|X.ret rfl (Res.one rfl rfl) ?_;exact⟨_,rfl,i,rfl,by omega,hall,fun h=>of_decide_eq_false h16⟩;refine L.move rfl ?_
  iterate 5 refine L.skip ?_
  refine L.pickF rfl rfl<|WL.nil<|WP.condF rfl<|WP.exit<|X.thenE (X.thenE (X.blockE ?_));refine X.thenN<|WP.regs<|L.move rfl<|L.assign rfl<|WL.nil<|WP.ret<|X.ret rfl (Res.one rfl rfl) ?_;exact⟨_,rfl,i,rfl,by omega,hall,fun h=>absurd h (by omega)⟩
set_option maxRecDepth 10000 in
theorem scan_New (s:ByteArray):FT Pg 219 [.string s] k h0 [] (Ret fun v τ=>∃ b:Nat,v=.pointer (some ⟨b,0,none⟩)∧τ=[cl b [.string s,.int .i64 ((0:Nat):Int),.bool true] 277]):=by
  refine FT.of_wp (n:=6) Tryz.func219 rfl rfl rfl<|WP.regs<|L.assign rfl<|WL.nil<|WP.regs<|L.move rfl<|L.build (cs:=[_,_,_]) T277.b T277.z rfl rfl<|L.box rfl rfl fun b1=>L.assign rfl<|WL.nil<|WP.ret<|X.ret rfl (Res.one rfl rfl) ?_;exact⟨_,rfl,_,rfl,rfl⟩
set_option maxRecDepth 10000 in
theorem scan_there (s:ByteArray) (at0:Nat) (b:Nat) (hb:At h0 b [.string s,.int .i64 (at0:Int),.bool true] 277):FT Pg 229 [.pointer (some ⟨b,0,none⟩)] k h0 [] (Is (.bool true)):=by
  refine FT.of_wp (n:=11) Tryz.func229 rfl rfl rfl<|WP.regs<|L.assign rfl<|WL.nil<|WP.regs<|L.move rfl<|L.neqPtrNil T269.u rfl<|L.move rfl<|L.move rfl<|L.nilCheck rfl<|L.fieldAddr (o':=2) T277.f2 rfl rfl<|L.load T4.sc rfl (Rd.of hb rfl)<|L.pickT rfl rfl<|L.assign rfl<|WL.nil<|WP.ret<|X.ret rfl (Res.one rfl rfl) ?_;exact rfl
set_option maxRecDepth 10000 in
theorem scan_rest (s:ByteArray) (at0:Nat) (b:Nat) (hb:At h0 b [.string s,.int .i64 (at0:Int),.bool true] 277) (ha:at0≤s.size):FT Pg 230 [.pointer (some ⟨b,0,none⟩)] k h0 [] (Is (.string (s.extract at0 s.size))):=by
  refine FT.of_wp (n:=15) Tryz.func230 rfl rfl rfl<|WP.regs<|L.assign rfl<|WL.nil<|WP.seq<|WP.regs<|L.move rfl<|WL.callV rfl rfl F229.fn rfl (fun g gS dj=>scan_there s at0 b (hb.mono (Hp.le_un_left _ _)))<|L.not rfl<|WL.nil<|WP.condF rfl<|WP.skip<|X.thenN<|WP.seq<|WP.rege [(0,true),(1,true),(2,true),(3,true),(4,true),(5,true),(6,true),(7,true),(8,true),(9,true)] 10 rfl (by kernel_rfl) (PInv.then PInv.ret) rfl<|WE.take rfl (V.move rfl)<|WE.take rfl (V.nilCheck rfl)<|WE.take rfl (V.fieldAddr (o':=0) T277.f0 rfl rfl)<|WE.take rfl (V.load T9.sc rfl (Rd.of hb rfl)) ?_;refine WE.take rfl (V.move rfl)<|WE.take rfl (V.nilCheck rfl)<|WE.take rfl (V.fieldAddr (o':=1) T277.f1 rfl rfl)<|WE.take rfl (V.load T3.sc rfl (Rd.of hb rfl))<|WE.take rfl (V.sliceStr T9.u rfl ⟨_,rfl⟩ rfl (by omega))<|WE.take rfl (V.assign rfl)<|WE.nil<|X.thenN<|WP.ret<|X.ret rfl (Res.one rfl rfl) ?_
  exact rfl
set_option maxRecDepth 10000 in
theorem scan_Done (s:ByteArray) (at0:Nat) (b:Nat) (hb:At h0 b [.string s,.int .i64 (at0:Int),.bool true] 277):FT Pg 221 [.pointer (some ⟨b,0,none⟩)] k h0 [] (Is (.bool (decide (at0=s.size)))):=by
  refine FT.of_wp (n:=17) Tryz.func221 rfl rfl rfl<|WP.regs<|L.assign rfl<|WL.nil<|WP.seq<|WP.rege [(0,true),(1,false),(2,true),(3,true),(4,true),(5,true),(6,true),(7,true),(8,true),(9,true),(10,true),(11,true),(12,true),(13,true),(14,true)] 15 rfl (by kernel_rfl) (PInv.then PInv.ret) rfl<|WE.take rfl (V.move rfl)<|WE.one rfl<|WL.callV rfl rfl F229.fn rfl (fun g gS dj=>scan_there s at0 b (hb.mono (Hp.le_un_left _ _)))<|WL.nil ⟨Ent.refl _,?_⟩
  refine WE.take rfl (V.move rfl)<|WE.take rfl (V.move rfl)<|WE.take rfl (V.nilCheck rfl)<|WE.take rfl (V.fieldAddr (o':=1) T277.f1 rfl rfl)<|WE.take rfl (V.load T3.sc rfl (Rd.of hb rfl))<|WE.take rfl (V.move rfl)<|WE.take rfl (V.nilCheck rfl)<|WE.take rfl (V.fieldAddr (o':=0) T277.f0 rfl rfl)<|WE.take rfl (V.load T9.sc rfl (Rd.of hb rfl))<|WE.take rfl (V.lenStr T9.u rfl rfl)<|WE.take rfl (V.eql rfl rfl)<|WE.take rfl (V.pickT rfl rfl)<|WE.take rfl (V.assign rfl)<|WE.nil<|X.thenN<|WP.ret<|X.ret rfl (Res.one rfl rfl) ?_
  show _=_
  rw[show decide ((at0:Int)=(s.size:Int))=decide (at0=s.size) from decide_eq_decide.2 (by omega)]
end
end Go.Eng
